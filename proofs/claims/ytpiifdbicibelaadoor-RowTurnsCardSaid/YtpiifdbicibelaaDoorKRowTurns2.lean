/- Part 3 of what the proof of RowTurns stands on: words for walks, printed functions with their contracts, plain laws. -/
import Derived.Test.YtpiifdbicibelaaDoorKRowTurns1
section
namespace Go.Proofs.YtpiifdbicibelaaDoor.PA
open Go.RowKit Go.Proofs.YtpiifdbicibelaaDoorW.PrintWords Go.Proofs.YtpiifdbicibelaaDoorW.PrintLast Go.Proofs.YtpiifdbicibelaaDoorW.PrintMore
attribute [local go_sem] max2_int min2_int max_two min_two max_three min_three max_four min_four
set_option linter.unusedVariables false
set_option linter.unusedSimpArgs false
end Go.Proofs.YtpiifdbicibelaaDoor.PA
end
section
namespace Go.Proofs.YtpiifdbicibelaaDoor.Pure
open Go.RowKit Go.Proofs Go.Proofs.YtpiifdbicibelaaDoorW.PrintWords Go.Proofs.YtpiifdbicibelaaDoorW.PrintLast Go.Proofs.YtpiifdbicibelaaDoorW.PrintMore Go.Proofs.YtpiifdbicibelaaDoor.PA Go.Proofs.YtpiifdbicibelaaDoor.OpenK
set_option linter.unusedVariables false
/-- What a list of values is coded as_: its bytes and the outcome. -/
def chkV (x : S50) : Int := chk x.f0 x.f1 x.f2 x.f3
theorem rd_get (l : List S50) (i : Nat) (x : S50) (h : l[i]? = some x) : rd_T50 l (i : Int) = x := by
  unfold rd_T50
  simp [List.getD, h]
theorem chk_ok {a b : Int} {c : Nat} {d : ByteArray} (h : chk a b c d = 0) : (0 ≤ a ∧ a ≤ 5) ∧ d.size ≤ 65536 := by
  unfold chk at h
  split at h
  · cases h
  · rename_i h1
    split at h
    · cases h
    · rename_i h2
      have : ¬ a < 0 := fun x => h1 (Or.inl x)
      have : ¬ 5 < a := fun x => h1 (Or.inr (Or.inl x))
      constructor
      · omega
      · omega
end Go.Proofs.YtpiifdbicibelaaDoor.Pure
end
section
namespace Go.Proofs.YtpiifdbicibelaaDoor.PA
open Go.RowKit Go.Proofs.YtpiifdbicibelaaDoorW.PrintWords Go.Proofs.YtpiifdbicibelaaDoorW.PrintLast Go.Proofs.YtpiifdbicibelaaDoorW.PrintMore
attribute [local go_sem] max2_int min2_int max_two min_two max_three min_three max_four min_four
set_option linter.unusedVariables false
set_option linter.unusedSimpArgs false
end Go.Proofs.YtpiifdbicibelaaDoor.PA
end
section
namespace Go.Proofs.YtpiifdbicibelaaDoor.Pure
open Go.RowKit Go.Proofs Go.Proofs.YtpiifdbicibelaaDoorW.PrintWords Go.Proofs.YtpiifdbicibelaaDoorW.PrintLast Go.Proofs.YtpiifdbicibelaaDoorW.PrintMore Go.Proofs.YtpiifdbicibelaaDoor.PA Go.Proofs.YtpiifdbicibelaaDoor.OpenK
set_option linter.unusedVariables false
/-- What may follow a text's code: nothing, or a byte below 255. -/
def Tail (r : List Int) : Prop := ∀ x l, r = x :: l → x < 255
/-- u's code is before v's, whatever follows. -/
def Bf (u v : List Int) : Prop := ∀ r s, Tail r → u ++ r < v ++ s
theorem Bf.cons {a : Int} {u v : List Int} (h : Bf u v) : Bf (a :: u) (a :: v) := fun r s hr => List.cons_lt_cons_iff.2 (Or.inr ⟨rfl, h r s hr⟩)
theorem Bf.head {a b : Int} {u v : List Int} (h : a < b) : Bf (a :: u) (b :: v) := fun r s hr => List.cons_lt_cons_iff.2 (Or.inl h)
/-- Three answers of a comparing, and what each says of the codes. -/
def Says (t : Int) (u v : List Int) : Prop := (t = -1 ∧ Bf u v) ∨ (t = 1 ∧ Bf v u) ∨ (t = 0 ∧ u = v)
theorem Says.cons {t a : Int} {u v : List Int} (h : Says t u v) : Says t (a :: u) (a :: v) := by
  rcases h with ⟨h1, h2⟩ | ⟨h1, h2⟩ | ⟨h1, h2⟩
  · exact Or.inl ⟨h1, h2.cons⟩
  · exact Or.inr (Or.inl ⟨h1, h2.cons⟩)
  · exact Or.inr (Or.inr ⟨h1, by rw [h2]⟩)
def Bytes (l : List Int) : Prop := ∀ x ∈ l, 0 ≤ x ∧ x ≤ 255
theorem Bytes.cons {a : Int} {l : List Int} (h : 0 ≤ a ∧ a ≤ 255) (hl : Bytes l) : Bytes (a :: l) := by
  intro x hx
  rcases List.mem_cons.1 hx with rfl | hx
  · exact h
  · exact hl x hx
def toB (l : List Int) : List UInt8 := l.map fun n => UInt8.ofNat n.toNat
theorem strOfNums_data (l : List Int) : (strOfNums l).data.toList = toB l := by simp [strOfNums, toB]
theorem ofNat_toNat {a : Int} (h : 0 ≤ a ∧ a ≤ 255) : (UInt8.ofNat a.toNat).toNat = a.toNat := by
  rw [UInt8.toNat_ofNat']; omega
end Go.Proofs.YtpiifdbicibelaaDoor.Pure
end
section
namespace Go.Proofs.YtpiifdbicibelaaDoor.Pure
open Go.RowKit Go.Proofs Go.Proofs.YtpiifdbicibelaaDoorW.PrintWords Go.Proofs.YtpiifdbicibelaaDoorW.PrintLast Go.Proofs.YtpiifdbicibelaaDoorW.PrintMore Go.Proofs.YtpiifdbicibelaaDoor.PA Go.Proofs.YtpiifdbicibelaaDoor.OpenK
set_option linter.unusedVariables false
set_option linter.unusedSimpArgs false
theorem str_size (L : List Int) : (strOfNums L).size = L.length := by
  rw [← data_length, strOfNums_data]; simp [toB]
theorem str_bytes (s : ByteArray) : strOfNums (bytesOf s) = s := by
  apply Go.WideShapes.bytes_inj
  rw [strOfNums_data]
  simp [toB, bytesOf, List.map_map, Function.comp_def]
theorem bytesOf_bytes (s : ByteArray) : Bytes (bytesOf s) := by
  intro x hx
  simp [bytesOf] at hx
  obtain ⟨b, _, rfl⟩ := hx
  have := b.toNat_lt
  omega
theorem toB_inj : ∀ {u v : List Int}, Bytes u → Bytes v → toB u = toB v → u = v
  | [], [], _, _, _ => rfl
  | [], _ :: _, _, _, h => by simp [toB] at h
  | _ :: _, [], _, _, h => by simp [toB] at h
  | a :: u, b :: v, hu, hv, h => by
    simp only [toB, List.map_cons, List.cons.injEq] at h
    have ha := hu a (by simp)
    have hb := hv b (by simp)
    have e := congrArg UInt8.toNat h.1
    rw [ofNat_toNat ha, ofNat_toNat hb] at e
    have e2 := toB_inj (u := u) (v := v) (fun x hx => hu x (by simp [hx])) (fun x hx => hv x (by simp [hx])) (by simpa [toB] using h.2)
    subst e2
    congr 1
    omega
theorem str_inj {u v : List Int} (hu : Bytes u) (hv : Bytes v) (h : strOfNums u = strOfNums v) : u = v := by
  refine toB_inj hu hv ?_
  rw [← strOfNums_data, ← strOfNums_data, h]
theorem str_bt {L : List Int} (hL : Bytes L) (i : Nat) (h : i < L.length) : bt (strOfNums L) (i : Int) = L[i] := by
  unfold bt
  simp only [Int.toNat_natCast]
  rw [dif_pos (by rw [str_size]; exact h)]
  have h1 : (strOfNums L)[i]'(by rw [str_size]; exact h) = (strOfNums L).data.toList[i]'(by rw [strOfNums_data]; simpa [toB] using h) := rfl
  rw [h1]
  have h2 : (strOfNums L).data.toList[i]'(by rw [strOfNums_data]; simpa [toB] using h) = UInt8.ofNat (L[i]).toNat := by
    simp only [strOfNums_data, toB, List.getElem_map]
  rw [h2, ofNat_toNat (hL _ (List.getElem_mem h))]
  have := hL _ (List.getElem_mem h)
  omega
theorem str_drop (L : List Int) (i : Nat) : (strOfNums L).extract i (strOfNums L).size = strOfNums (L.drop i) := by
  apply Go.WideShapes.bytes_inj
  rw [Lib.extract_to_end, strOfNums_data, strOfNums_data]
  simp [toB, List.map_drop]
theorem str_take (L : List Int) (i j : Nat) : (strOfNums L).extract i j = strOfNums ((L.drop i).take (j - i)) := by
  apply Go.WideShapes.bytes_inj
  rw [strOfNums_data]
  have := Lib.extract_data (strOfNums L) i j
  rw [this, strOfNums_data]
  simp [toB, List.map_take, List.map_drop]
theorem str_drop' (L : List Int) (i : Nat) : (strOfNums L).extract i L.length = strOfNums (L.drop i) := by
  have := str_drop L i
  rwa [str_size] at this
theorem Bytes.drop {L : List Int} (h : Bytes L) (i : Nat) : Bytes (L.drop i) := fun x hx => h x (List.mem_of_mem_drop hx)
theorem Bytes.take {L : List Int} (h : Bytes L) (i : Nat) : Bytes (L.take i) := fun x hx => h x (List.mem_of_mem_take hx)
theorem Bytes.tail {a : Int} {L : List Int} (h : Bytes (a :: L)) : Bytes L := fun x hx => h x (by simp [hx])
theorem Bytes.app {L M : List Int} (h : Bytes (L ++ M)) : Bytes L ∧ Bytes M := ⟨fun x hx => h x (by simp [hx]), fun x hx => h x (by simp [hx])⟩
def num : List Int → Int
  | [] => 0
  | x :: L => x * 256 ^ L.length + num L
theorem pow_pos (n : Nat) : (0 : Int) < 256 ^ n := Int.pow_pos (by decide)
theorem num_range : ∀ {L : List Int}, Bytes L → 0 ≤ num L ∧ num L < 256 ^ L.length
  | [], _ => by simp [num]
  | x :: L, h => by
    have ih := num_range h.tail
    have hx := h x (by simp)
    have hp := pow_pos L.length
    have h1 : 0 ≤ x * 256 ^ L.length := Int.mul_nonneg hx.1 (Int.le_of_lt hp)
    have h2 : x * 256 ^ L.length ≤ 255 * 256 ^ L.length := Int.mul_le_mul_of_nonneg_right hx.2 (Int.le_of_lt hp)
    simp only [num, List.length_cons, Int.pow_succ]
    omega
theorem be_num_aux : ∀ (L : List Int) (c : Int), Bytes L → be (c * 256 ^ L.length + num L) L.length = L
  | [], c, _ => rfl
  | x :: L, c, h => by
    have hx := h x (by simp)
    have hr := num_range h.tail
    have hp := pow_pos L.length
    have e : c * 256 ^ (L.length + 1) + num (x :: L) = (c * 256 + x) * 256 ^ L.length + num L := by
      simp only [num, Int.pow_succ]
      rw [Int.add_mul, Int.mul_assoc, Int.mul_comm (256 ^ L.length) 256]
      omega
    simp only [List.length_cons]
    rw [e, be]
    have hd : ((c * 256 + x) * 256 ^ L.length + num L) / 256 ^ L.length = c * 256 + x := by
      rw [Int.add_comm, Int.add_mul_ediv_right _ _ (by omega), Int.ediv_eq_zero_of_lt hr.1 hr.2]; omega
    rw [hd, be_num_aux L (c * 256 + x) h.tail]
    congr 1
    omega
theorem be_num {L : List Int} (h : Bytes L) : be (num L) L.length = L := by
  have := be_num_aux L 0 h
  simpa using this
theorem num_be (u : Int) (h0 : 0 ≤ u) : ∀ n, num (be u n) = u % 256 ^ n
  | 0 => by simp [be, num, Int.emod_one]
  | n + 1 => by
    have ih := num_be u h0 n
    simp only [be, num, be_length, ih]
    obtain ⟨U, rfl⟩ := Int.eq_ofNat_of_zero_le h0
    have hm := Nat.mod_mul (a := 256 ^ n) (b := 256) (x := U)
    have hpw : (256 : Int) ^ n = ((256 ^ n : Nat) : Int) := by simp
    rw [Int.pow_succ, hpw, ← Int.natCast_ediv, ← Int.natCast_emod]
    have e1 : ((U / 256 ^ n : Nat) : Int) % 256 = ((U / 256 ^ n % 256 : Nat) : Int) := by simp
    have e2 : (U : Int) % (((256 ^ n : Nat) : Int) * 256) = ((U % (256 ^ n * 256) : Nat) : Int) := by simp
    rw [e1, e2, hm, Nat.mul_comm (256 ^ n)]
    simp
    omega
theorem xor_ones (n j : Nat) (h : n < 2 ^ j) : n ^^^ (2 ^ j - 1) = 2 ^ j - 1 - n := by
  apply Nat.eq_of_testBit_eq
  intro i
  have e : 2 ^ j - 1 - n = 2 ^ j - (n + 1) := by omega
  rw [e, Nat.testBit_xor, Nat.testBit_two_pow_sub_one, Nat.testBit_two_pow_sub_succ h]
  by_cases hi : i < j
  · simp [hi]
  · have : n.testBit i = false := Nat.testBit_lt_two_pow (Nat.lt_of_lt_of_le h (Nat.pow_le_pow_right (by decide) (by omega)))
    simp [hi, this]
theorem pow_nat (k : Nat) : (256 : Int) ^ k = ((2 ^ (8 * k) : Nat) : Int) := by
  rw [Nat.pow_mul]; simp
/-- What stands behind an int's tag: the number that the bytes tell, whether it is below 0, and how many bytes. -/
def rawInt : List Int → Option (Int × Bool × Nat)
  | [] => none
  | h :: M => if 8 < (h - 128).natAbs ∨ M.length < (h - 128).natAbs then none
    else some (if h < 128 then 256 ^ (h - 128).natAbs - 1 - num (M.take (h - 128).natAbs) else num (M.take (h - 128).natAbs), decide (h < 128), (h - 128).natAbs)
def intOfRaw (m : Int) (b : Bool) : Int := if b then -m - 1 else m
end Go.Proofs.YtpiifdbicibelaaDoor.Pure
end
section
namespace Go.Proofs.YtpiifdbicibelaaDoor.PA
open Go.RowKit Go.Proofs.YtpiifdbicibelaaDoorW.PrintWords Go.Proofs.YtpiifdbicibelaaDoorW.PrintLast Go.Proofs.YtpiifdbicibelaaDoorW.PrintMore
attribute [local go_sem] max2_int min2_int max_two min_two max_three min_three max_four min_four
set_option linter.unusedVariables false
set_option linter.unusedSimpArgs false
def vellumlaw04_small.f  : Option (ByteArray × (List (S105)) × List Int × (List (S115)) × (List (S139))) := some ((⟨#[116]⟩ : ByteArray), (([(⟨(⟨#[97]⟩ : ByteArray), 2, false, (⟨0, 0, 0, (⟨#[]⟩ : ByteArray)⟩ : S50)⟩ : S105), (⟨(⟨#[98]⟩ : ByteArray), 4, true, (⟨0, 0, 0, (⟨#[]⟩ : ByteArray)⟩ : S50)⟩ : S105)] : List (S105))), (([0] : List Int)), ([] : List (S115)), ([] : List (S139)))
set_option maxHeartbeats 8000000 in
set_option maxRecDepth 100000 in
theorem vellumlaw04_small.calls  (r1 : ByteArray) (r2 : List (S105)) (r3 : List Int) (r4 : List (S115)) (r5 : List (S139)) (w : World) (h : vellumlaw04_small.f  = some (r1, r2, r3, r4, r5)) :
    Calls Tryd.prog 87 #[] w fun e w' => ∃ v1_ v2_ v3_ v4_ : Value, e = .returned (.agg #[.string r1, v1_, v2_, v3_, v4_]) ∧ Kd.R k105 105 w' w.heap.size (fun _ => True) v1_ r2 ∧ Kd.R (Kd.int .i64) 3 w' w.heap.size (fun _ => True) v2_ r3 ∧ Kd.S k115 115 w' w.heap.size (fun k_ => some k_ ≠ (v2_ : Value).ownBlock) v3_ r4 ∧ Kd.S k139 139 w' w.heap.size (fun k_ => some k_ ≠ (v2_ : Value).ownBlock) v4_ r5 ∧ Below w.heap.size w w' := by
  have hu65 := Tryd.underlying65
  have hu105 := Tryd.underlying105
  have HB := am (Below.refl w.heap.size w)
  have H : (some ((⟨#[116]⟩ : ByteArray), (([(⟨(⟨#[97]⟩ : ByteArray), 2, false, (⟨0, 0, 0, (⟨#[]⟩ : ByteArray)⟩ : S50)⟩ : S105), (⟨(⟨#[98]⟩ : ByteArray), 4, true, (⟨0, 0, 0, (⟨#[]⟩ : ByteArray)⟩ : S50)⟩ : S105)] : List (S105))), (([0] : List Int)), ([] : List (S115)), ([] : List (S139)))) = some (r1, r2, r3, r4, r5) := h
  clear h
  obtain ⟨y711, hy711⟩ : ∃ y_ : List (S105), y_ = (([(⟨(⟨#[97]⟩ : ByteArray), 2, false, (⟨0, 0, 0, (⟨#[]⟩ : ByteArray)⟩ : S50)⟩ : S105), (⟨(⟨#[98]⟩ : ByteArray), 4, true, (⟨0, 0, 0, (⟨#[]⟩ : ByteArray)⟩ : S50)⟩ : S105)] : List (S105))) := ⟨_, rfl⟩
  replace H : (some ((⟨#[116]⟩ : ByteArray), y711, (([0] : List Int)), ([] : List (S115)), ([] : List (S139)))) = some (r1, r2, r3, r4, r5) := by first | (rw [hy711]; with_reducible exact H) | (have H2_ := (Option.bind_some _ _).symm.trans H; rw [hy711]; with_reducible exact H2_) | (have H2_ := (Option.bind_some _ _).symm.trans H; with_reducible exact H2_) | with_reducible exact H | (rw [hy711]; exact H) | exact H
  have Ny711 := am hy711
  clear hy711
  obtain ⟨y714, hy714⟩ : ∃ y_ : List Int, y_ = (([0] : List Int)) := ⟨_, rfl⟩
  replace H : (some ((⟨#[116]⟩ : ByteArray), y711, y714, ([] : List (S115)), ([] : List (S139)))) = some (r1, r2, r3, r4, r5) := by first | (rw [hy714]; with_reducible exact H) | (have H2_ := (Option.bind_some _ _).symm.trans H; rw [hy714]; with_reducible exact H2_) | (have H2_ := (Option.bind_some _ _).symm.trans H; with_reducible exact H2_) | with_reducible exact H | (rw [hy714]; exact H) | exact H
  have Ny714 := am hy714
  clear hy714
  simp only [Option.some.injEq, Prod.mk.injEq] at H
  obtain ⟨rfl, rfl, rfl, rfl, rfl⟩ := H
  go_enter Tryd.func87, Tryd.ntmps87
  go_wp2_with (first | ((with_reducible refine gate_dst (N := 0) rfl ?_); refine box_event rfl (N := 0) rfl (cs := #[.string (⟨#[]⟩ : ByteArray), .slice none 0 0, .slice none 0 0, .slice none 0 0, .slice none 0 0]) (t := 65) gs ?_; intro gb710 hg w1 hbox hb; have BK710 := am (hbox); have GW710 := gw hg HB; have GE710 := gw hg HB; replace HB := sb HB hb; clear hb hbox hg) | ((with_reducible refine gate_dst (N := 3) rfl ?_); refine Kd.R_lit k105 _ 105 ?hg (N := 3) ?hd (xs := ([(⟨(⟨#[97]⟩ : ByteArray), 2, false, (⟨0, 0, 0, (⟨#[]⟩ : ByteArray)⟩ : S50)⟩ : S105), (⟨(⟨#[98]⟩ : ByteArray), 4, true, (⟨0, 0, 0, (⟨#[]⟩ : ByteArray)⟩ : S50)⟩ : S105)] : List (S105))) (inner := [.string (⟨#[97]⟩ : ByteArray), .int .i64 2, .bool false, .int .i64 0, .int .i64 0, .float .f64 0, .string (⟨#[]⟩ : ByteArray), .string (⟨#[98]⟩ : ByteArray), .int .i64 4, .bool true, .int .i64 0, .int .i64 0, .float .f64 0, .string (⟨#[]⟩ : ByteArray)]) (ok := fun _ => True) (okp := fun _ => True) ?hr ?hp (fun _ hk => hk) trivial (Below.refl _ _) (Nat.le_refl _) (by simp) ?_; (case hd => rfl); (case hg => rfl); (case hr => first | (go_simp; done) | (go_simp; rfl)); (case hp => exact (Reps.c7 (show Kd.M k105 _ _ _ (⟨(⟨#[97]⟩ : ByteArray), 2, false, (⟨0, 0, 0, (⟨#[]⟩ : ByteArray)⟩ : S50)⟩ : S105) [.string (⟨#[97]⟩ : ByteArray), .int .i64 2, .bool false, .int .i64 0, .int .i64 0, .float .f64 0, .string (⟨#[]⟩ : ByteArray)] from (k105_mkM _ _ _ (⟨(⟨#[97]⟩ : ByteArray), 2, false, (⟨0, 0, 0, (⟨#[]⟩ : ByteArray)⟩ : S50)⟩ : S105) )) (Reps.c7 (show Kd.M k105 _ _ _ (⟨(⟨#[98]⟩ : ByteArray), 4, true, (⟨0, 0, 0, (⟨#[]⟩ : ByteArray)⟩ : S50)⟩ : S105) [.string (⟨#[98]⟩ : ByteArray), .int .i64 4, .bool true, .int .i64 0, .int .i64 0, .float .f64 0, .string (⟨#[]⟩ : ByteArray)] from (k105_mkM _ _ _ (⟨(⟨#[98]⟩ : ByteArray), 4, true, (⟨0, 0, 0, (⟨#[]⟩ : ByteArray)⟩ : S50)⟩ : S105) )) (Reps.none _ _)))); intro v712 w2 ho3 hb hg_ hnew_; clear hg_ hnew_; (first | rw [← Ny711.out] at ho3 | (simp only [Int.reduceToNat] at ho3; rw [← Ny711.out] at ho3)); have n0_ := am (Kd.R_lower ho3 (below_size (bl HB))); have n1_ := kb BK710 hb; have n2_ := sb HB hb; clear BK710; clear HB; have HO713 := n0_; have BK710 := n1_; have HB := n2_; clear n0_ n1_ n2_; clear hb ho3) | ((with_reducible refine gate_dst (N := 4) rfl ?_); refine Kd.R_lit (Kd.int .i64) _ 3 ?hg (N := 4) ?hd (xs := ([0] : List Int)) (inner := [.int .i64 0]) (ok := fun _ => True) (okp := fun _ => True) ?hr ?hp (fun _ hk => hk) trivial (Below.refl _ _) (Nat.le_refl _) (by simp) ?_; (case hd => rfl); (case hg => rfl); (case hr => first | (go_simp; done) | (go_simp; rfl)); (case hp => exact (Reps.one (show Kd.M (Kd.int .i64) _ _ _ 0 [.int .i64 0] from rfl) (Reps.none _ _))); intro v715 w4 ho5 hb hg_ hnew_; clear hg_ hnew_; (first | rw [← Ny714.out] at ho5 | (simp only [Int.reduceToNat] at ho5; rw [← Ny714.out] at ho5)); have n0_ := am (Kd.R_below (Kd.rr HO713.out) hb); have n1_ := am (Kd.R_lower ho5 (below_size (bl HB))); have n2_ := kb BK710 hb; have n3_ := sb HB hb; clear HO713; clear BK710; clear HB; have HO713 := n0_; have HO716 := n1_; have BK710 := n2_; have HB := n3_; clear n0_ n1_ n2_ n3_; clear hb ho5; obtain ⟨Ao6, co6, eo6⟩ := Kd.R_slice HO716.out; subst eo6; obtain ⟨Ao7, co7, eo7⟩ := Kd.R_slice HO713.out; subst eo7; obtain ⟨Z8_0, Z8_1, Z8_2, Z8_3, Z8_4, Y8_0, Y8_1, Y8_2, Y8_3, Y8_4⟩ := bq5 BK710))
  refine bodyPost_ret (results_cell_row rfl _ _ gb710 65 #[.string (⟨#[116]⟩ : ByteArray), .slice Ao7 y711.length co7, .slice Ao6 y714.length co6, .slice none 0 0, .slice none 0 0] (0, 0) _ rfl (by refine rp ?_; refine blk_put (cs := #[.string (⟨#[116]⟩ : ByteArray), .slice Ao7 y711.length co7, .slice Ao6 y714.length co6, .slice none 0 0, .slice none 0 0]) ?_ 4 _ rfl; refine rp ?_; refine blk_put (cs := #[.string (⟨#[116]⟩ : ByteArray), .slice Ao7 y711.length co7, .slice Ao6 y714.length co6, .slice none 0 0, .slice none 0 0]) ?_ 3 _ rfl; refine rp ?_; refine blk_put (cs := #[.string (⟨#[116]⟩ : ByteArray), .slice Ao7 y711.length co7, .slice none 0 0, .slice none 0 0, .slice none 0 0]) ?_ 2 _ rfl; refine rp ?_; refine blk_put (cs := #[.string (⟨#[116]⟩ : ByteArray), .slice none 0 0, .slice none 0 0, .slice none 0 0, .slice none 0 0]) ?_ 1 _ rfl; refine rp ?_; refine blk_put (cs := #[.string (⟨#[]⟩ : ByteArray), .slice none 0 0, .slice none 0 0, .slice none 0 0, .slice none 0 0]) ?_ 0 _ rfl; exact bk BK710) Tryd.underlying65 rfl (by kernel_rfl)) rfl ?_
  exact ⟨_, _, _, _, er, by (with_reducible repeat (first | apply Kd.R_alloc | apply Kd.R_drewN | apply Kd.R_drew)); exact Kd.R_mono (Kd.R_far (p := ⟨gb710, 4, none⟩) (Kd.R_far (p := ⟨gb710, 3, none⟩) (Kd.R_far (p := ⟨gb710, 2, none⟩) (Kd.R_far (p := ⟨gb710, 1, none⟩) (Kd.R_far (p := ⟨gb710, 0, none⟩) (Kd.R_types HO713.out BK710.out (by decide)) (fun _ hk => hk.2) (.string (⟨#[116]⟩ : ByteArray))) (fun _ hk => hk.2) (.slice Ao7 y711.length co7)) (fun _ hk => hk.2) (.slice Ao6 y714.length co6)) (fun _ hk => hk.2) (.slice none 0 0)) (fun _ hk => hk.2) (.slice none 0 0)) (fun _ hk => trivial), by (with_reducible repeat (first | apply Kd.R_alloc | apply Kd.R_drewN | apply Kd.R_drew)); exact Kd.R_mono (Kd.R_far (p := ⟨gb710, 4, none⟩) (Kd.R_far (p := ⟨gb710, 3, none⟩) (Kd.R_far (p := ⟨gb710, 2, none⟩) (Kd.R_far (p := ⟨gb710, 1, none⟩) (Kd.R_far (p := ⟨gb710, 0, none⟩) (Kd.R_types HO716.out BK710.out (by decide)) (fun _ hk => hk.2) (.string (⟨#[116]⟩ : ByteArray))) (fun _ hk => hk.2) (.slice Ao7 y711.length co7)) (fun _ hk => hk.2) (.slice Ao6 y714.length co6)) (fun _ hk => hk.2) (.slice none 0 0)) (fun _ hk => hk.2) (.slice none 0 0)) (fun _ hk => trivial), by first | exact Kd.S_nil _ _ _ _ _ | exact Kd.N_nil _ _ _ _ _ | exact Kd.V_nil _ _ _ _ _ | exact Kd.Q_nil _ _ _ _ _ | exact Kd.R_nil _ _ _ _ _, by first | exact Kd.S_nil _ _ _ _ _ | exact Kd.N_nil _ _ _ _ _ | exact Kd.V_nil _ _ _ _ _ | exact Kd.Q_nil _ _ _ _ _ | exact Kd.R_nil _ _ _ _ _, bl HB⟩
def vellumlaw04_awake.f (k : Nat)  : Option (Bool) := (vellumlaw04_small.f).bind fun bt717 => ((row_Encode.f k bt717.1 bt717.2.1 bt717.2.2.1 bt717.2.2.2.1 bt717.2.2.2.2 (([(⟨2, 5, 0, (⟨#[]⟩ : ByteArray)⟩ : S50), (⟨4, 0, 0, (⟨#[97]⟩ : ByteArray)⟩ : S50)] : List (S50)))).bind fun bt733 => (if bt733.2 = 0 then (some (bt733.1.toList == ([5, 10, 1, 97] : List UInt8))) else (some false)))
set_option maxHeartbeats 8000000 in
set_option maxRecDepth 100000 in
theorem vellumlaw04_awake.calls (k : Nat)  (r : Bool) (w : World) (hG : Glob w) (h : vellumlaw04_awake.f k  = some r) :
    Calls Tryd.prog 54 #[] w fun e w' => e = .returned (.bool r) ∧ Below w.heap.size w w' := by
  have hu50 := Tryd.underlying50
  have HG := am hG
  clear hG
  have HB := am (Below.refl w.heap.size w)
  have H : ((vellumlaw04_small.f).bind fun bt717 => ((row_Encode.f k bt717.1 bt717.2.1 bt717.2.2.1 bt717.2.2.2.1 bt717.2.2.2.2 (([(⟨2, 5, 0, (⟨#[]⟩ : ByteArray)⟩ : S50), (⟨4, 0, 0, (⟨#[97]⟩ : ByteArray)⟩ : S50)] : List (S50)))).bind fun bt733 => (if bt733.2 = 0 then (some (bt733.1.toList == ([5, 10, 1, 97] : List UInt8))) else (some false)))) = some r := h
  clear h
  replace H := Option.bind_eq_some_iff.mp H
  obtain ⟨⟨t717, t718, t721, t724, t727⟩, A10, H⟩ := H
  replace H : ((row_Encode.f k t717 t718 t721 t724 t727 (([(⟨2, 5, 0, (⟨#[]⟩ : ByteArray)⟩ : S50), (⟨4, 0, 0, (⟨#[97]⟩ : ByteArray)⟩ : S50)] : List (S50)))).bind fun bt733 => (if bt733.2 = 0 then (some (bt733.1.toList == ([5, 10, 1, 97] : List UInt8))) else (some false))) = some r := H
  have A1 := am A10
  clear A10
  obtain ⟨y730, hy730⟩ : ∃ y_ : List (S50), y_ = (([(⟨2, 5, 0, (⟨#[]⟩ : ByteArray)⟩ : S50), (⟨4, 0, 0, (⟨#[97]⟩ : ByteArray)⟩ : S50)] : List (S50))) := ⟨_, rfl⟩
  replace H : ((row_Encode.f k t717 t718 t721 t724 t727 y730).bind fun bt733 => (if bt733.2 = 0 then (some (bt733.1.toList == ([5, 10, 1, 97] : List UInt8))) else (some false))) = some r := by first | (rw [hy730]; with_reducible exact H) | (have H2_ := (Option.bind_some _ _).symm.trans H; rw [hy730]; with_reducible exact H2_) | (have H2_ := (Option.bind_some _ _).symm.trans H; with_reducible exact H2_) | with_reducible exact H | (rw [hy730]; exact H) | exact H
  have Ny730 := am hy730
  clear hy730
  replace H := Option.bind_eq_some_iff.mp H
  obtain ⟨⟨t733, t734⟩, A20, H⟩ := H
  replace H : (if t734 = 0 then (some (t733.toList == ([5, 10, 1, 97] : List UInt8))) else (some false)) = some r := H
  have A2 := am A20
  clear A20
  by_cases c3 : t734 = 0
  · rw [if_pos c3] at H
    have c3b0 : (t734 == 0) = true := beq_iff_eq.mpr c3
    have c3b1 : (t734 != 0) = false := bne_eq_false_iff_eq.mpr c3
    clear c3
    obtain rfl := Option.some.inj H
    go_enter Tryd.func54, Tryd.ntmps54
    go_wp2_with (first | ((with_reducible refine gate_callee (f := 87) rfl ?_); refine goesL_ (some 4) rfl rfl Tryd.func87 (by kernel_rfl) rfl #[] rfl ar ?_; (with_reducible refine (vellumlaw04_small.calls  t717 t718 t721 t724 t727 _ A1.out).mono ?_); rintro e w4 ⟨v719, v722, v725, v728, rfl, ho0, ho1, ho2, ho3, hb⟩; refine ⟨_, rfl, ?_⟩; have n0_ := am (Kd.R_lower ho0 (below_size (bl HB))); have n1_ := am (Kd.R_lower ho1 (below_size (bl HB))); have n2_ := am (Kd.S_lower ho2 (below_size (bl HB))); have n3_ := am (Kd.S_lower ho3 (below_size (bl HB))); have n4_ := sb HB hb; clear HB; have HO720 := n0_; have HO723 := n1_; have HO726 := n2_; have HO729 := n3_; have HB := n4_; clear n0_ n1_ n2_ n3_ n4_; (try clear hb); (try clear hb2 hk hi); (try clear ho0); (try clear ho1); (try clear ho2); (try clear ho3)) | ((with_reducible refine gate_dst (N := 7) rfl ?_); refine Kd.R_lit k50 _ 50 ?hg (N := 7) ?hd (xs := ([(⟨2, 5, 0, (⟨#[]⟩ : ByteArray)⟩ : S50), (⟨4, 0, 0, (⟨#[97]⟩ : ByteArray)⟩ : S50)] : List (S50))) (inner := [.int .i64 2, .int .i64 5, .float .f64 0, .string (⟨#[]⟩ : ByteArray), .int .i64 4, .int .i64 0, .float .f64 0, .string (⟨#[97]⟩ : ByteArray)]) (ok := fun _ => True) (okp := fun _ => True) ?hr ?hp (fun _ hk => hk) trivial (Below.refl _ _) (Nat.le_refl _) (by simp) ?_; (case hd => rfl); (case hg => rfl); (case hr => first | (go_simp; done) | (go_simp; rfl)); (case hp => exact (Reps.c4 (show Kd.M k50 _ _ _ (⟨2, 5, 0, (⟨#[]⟩ : ByteArray)⟩ : S50) [.int .i64 2, .int .i64 5, .float .f64 0, .string (⟨#[]⟩ : ByteArray)] from (k50_mkM _ _ _ (⟨2, 5, 0, (⟨#[]⟩ : ByteArray)⟩ : S50) )) (Reps.c4 (show Kd.M k50 _ _ _ (⟨4, 0, 0, (⟨#[97]⟩ : ByteArray)⟩ : S50) [.int .i64 4, .int .i64 0, .float .f64 0, .string (⟨#[97]⟩ : ByteArray)] from (k50_mkM _ _ _ (⟨4, 0, 0, (⟨#[97]⟩ : ByteArray)⟩ : S50) )) (Reps.none _ _)))); intro v731 w5 ho6 hb hg_ hnew_; clear hg_ hnew_; (first | rw [← Ny730.out] at ho6 | (simp only [Int.reduceToNat] at ho6; rw [← Ny730.out] at ho6)); have n0_ := am (Kd.R_below (Kd.rr HO720.out) hb); have n1_ := am (Kd.R_below (Kd.rr HO723.out) hb); have n2_ := am (Kd.S_below (by (with_reducible repeat (first | apply Kd.S_alloc | apply Kd.S_drewN | apply Kd.S_drew)); exact HO726.out) hb); have n3_ := am (Kd.S_below (by (with_reducible repeat (first | apply Kd.S_alloc | apply Kd.S_drewN | apply Kd.S_drew)); exact HO729.out) hb); have n4_ := am (Kd.R_lower ho6 (below_size (bl HB))); have n5_ := sb HB hb; clear HO720; clear HO723; clear HO726; clear HO729; clear HB; have HO720 := n0_; have HO723 := n1_; have HO726 := n2_; have HO729 := n3_; have HO732 := n4_; have HB := n5_; clear n0_ n1_ n2_ n3_ n4_ n5_; clear hb ho6; obtain ⟨Ao7, co7, eo7⟩ := Kd.R_slice HO720.out; subst eo7; obtain ⟨Ao8, co8, eo8⟩ := Kd.R_slice HO723.out; subst eo8; obtain ⟨Ao9, co9, eo9⟩ := Kd.S_slice HO726.out; subst eo9; obtain ⟨Ao10, co10, eo10⟩ := Kd.S_slice HO729.out; subst eo10; obtain ⟨Ao11, co11, eo11⟩ := Kd.R_slice HO732.out; subst eo11) | ((with_reducible refine gate_callee (f := 52) rfl ?_); refine goesL_ (some 8) rfl rfl Tryd.func52 (by kernel_rfl) rfl #[.agg #[.string t717, .slice Ao7 t718.length co7, .slice Ao8 t721.length co8, .slice Ao9 t724.length co9, .slice Ao10 t727.length co10], .slice Ao11 y730.length co11] rfl ar ?_; (with_reducible refine (row_Encode.calls k t717 _ _ t718 _ _ t721 _ _ t724 _ _ t727 _ _ y730 t733 t734 _ ?side1 ?side2 ?side3 ?side4 ?side5 ?side6 ?side7 ?side8 ?side9 ?side10 (Glob.below HG.out (bl HB)) A2.out).mono ?_); (case side1 => repeat (first | exact (Kd.R_reads' HO720.out).2.2 | (with_reducible refine Kd.C_alloc ?_ _) | (with_reducible refine Kd.C_drewN ?_ _) | (with_reducible refine Kd.C_drew ?_))); (case side2 => exact (Kd.R_reads' HO720.out).2.1); (case side3 => repeat (first | exact (Kd.R_reads' HO723.out).2.2 | (with_reducible refine Kd.C_alloc ?_ _) | (with_reducible refine Kd.C_drewN ?_ _) | (with_reducible refine Kd.C_drew ?_))); (case side4 => exact (Kd.R_reads' HO723.out).2.1); (case side5 => repeat (first | exact (Kd.S_reads' HO726.out).2.2 | (with_reducible refine Kd.C_alloc ?_ _) | (with_reducible refine Kd.C_drewN ?_ _) | (with_reducible refine Kd.C_drew ?_))); (case side6 => exact (Kd.S_reads' HO726.out).2.1); (case side7 => repeat (first | exact (Kd.S_reads' HO729.out).2.2 | (with_reducible refine Kd.C_alloc ?_ _) | (with_reducible refine Kd.C_drewN ?_ _) | (with_reducible refine Kd.C_drew ?_))); (case side8 => exact (Kd.S_reads' HO729.out).2.1); (case side9 => repeat (first | exact (Kd.R_reads' HO732.out).2.2 | (with_reducible refine Kd.C_alloc ?_ _) | (with_reducible refine Kd.C_drewN ?_ _) | (with_reducible refine Kd.C_drew ?_))); (case side10 => exact (Kd.R_reads' HO732.out).2.1); rintro e w12 ⟨rfl, hb⟩; refine ⟨_, rfl, ?_⟩; have n0_ := am (Kd.R_below (Kd.rr HO720.out) hb); have n1_ := am (Kd.R_below (Kd.rr HO723.out) hb); have n2_ := am (Kd.S_below (by (with_reducible repeat (first | apply Kd.S_alloc | apply Kd.S_drewN | apply Kd.S_drew)); exact HO726.out) hb); have n3_ := am (Kd.S_below (by (with_reducible repeat (first | apply Kd.S_alloc | apply Kd.S_drewN | apply Kd.S_drew)); exact HO729.out) hb); have n4_ := am (Kd.R_below (Kd.rr HO732.out) hb); have n5_ := sb HB hb; clear HO720; clear HO723; clear HO726; clear HO729; clear HO732; clear HB; have HO720 := n0_; have HO723 := n1_; have HO726 := n2_; have HO729 := n3_; have HO732 := n4_; have HB := n5_; clear n0_ n1_ n2_ n3_ n4_ n5_; (try clear hb); (try clear hb2 hk hi)))
    go_ret
    exact ⟨er, bl HB⟩
  · rw [if_neg c3] at H
    have c3b0 : (t734 == 0) = false := beq_eq_false_iff_ne.mpr c3
    have c3b1 : (t734 != 0) = true := bne_iff_ne.mpr c3
    obtain rfl := Option.some.inj H
    go_enter Tryd.func54, Tryd.ntmps54
    go_wp2_with (first | ((with_reducible refine gate_callee (f := 87) rfl ?_); refine goesL_ (some 4) rfl rfl Tryd.func87 (by kernel_rfl) rfl #[] rfl ar ?_; (with_reducible refine (vellumlaw04_small.calls  t717 t718 t721 t724 t727 _ A1.out).mono ?_); rintro e w13 ⟨v719, v722, v725, v728, rfl, ho0, ho1, ho2, ho3, hb⟩; refine ⟨_, rfl, ?_⟩; have n0_ := am (Kd.R_lower ho0 (below_size (bl HB))); have n1_ := am (Kd.R_lower ho1 (below_size (bl HB))); have n2_ := am (Kd.S_lower ho2 (below_size (bl HB))); have n3_ := am (Kd.S_lower ho3 (below_size (bl HB))); have n4_ := sb HB hb; clear HB; have HO720 := n0_; have HO723 := n1_; have HO726 := n2_; have HO729 := n3_; have HB := n4_; clear n0_ n1_ n2_ n3_ n4_; (try clear hb); (try clear hb2 hk hi); (try clear ho0); (try clear ho1); (try clear ho2); (try clear ho3)) | ((with_reducible refine gate_dst (N := 7) rfl ?_); refine Kd.R_lit k50 _ 50 ?hg (N := 7) ?hd (xs := ([(⟨2, 5, 0, (⟨#[]⟩ : ByteArray)⟩ : S50), (⟨4, 0, 0, (⟨#[97]⟩ : ByteArray)⟩ : S50)] : List (S50))) (inner := [.int .i64 2, .int .i64 5, .float .f64 0, .string (⟨#[]⟩ : ByteArray), .int .i64 4, .int .i64 0, .float .f64 0, .string (⟨#[97]⟩ : ByteArray)]) (ok := fun _ => True) (okp := fun _ => True) ?hr ?hp (fun _ hk => hk) trivial (Below.refl _ _) (Nat.le_refl _) (by simp) ?_; (case hd => rfl); (case hg => rfl); (case hr => first | (go_simp; done) | (go_simp; rfl)); (case hp => exact (Reps.c4 (show Kd.M k50 _ _ _ (⟨2, 5, 0, (⟨#[]⟩ : ByteArray)⟩ : S50) [.int .i64 2, .int .i64 5, .float .f64 0, .string (⟨#[]⟩ : ByteArray)] from (k50_mkM _ _ _ (⟨2, 5, 0, (⟨#[]⟩ : ByteArray)⟩ : S50) )) (Reps.c4 (show Kd.M k50 _ _ _ (⟨4, 0, 0, (⟨#[97]⟩ : ByteArray)⟩ : S50) [.int .i64 4, .int .i64 0, .float .f64 0, .string (⟨#[97]⟩ : ByteArray)] from (k50_mkM _ _ _ (⟨4, 0, 0, (⟨#[97]⟩ : ByteArray)⟩ : S50) )) (Reps.none _ _)))); intro v731 w14 ho15 hb hg_ hnew_; clear hg_ hnew_; (first | rw [← Ny730.out] at ho15 | (simp only [Int.reduceToNat] at ho15; rw [← Ny730.out] at ho15)); have n0_ := am (Kd.R_below (Kd.rr HO720.out) hb); have n1_ := am (Kd.R_below (Kd.rr HO723.out) hb); have n2_ := am (Kd.S_below (by (with_reducible repeat (first | apply Kd.S_alloc | apply Kd.S_drewN | apply Kd.S_drew)); exact HO726.out) hb); have n3_ := am (Kd.S_below (by (with_reducible repeat (first | apply Kd.S_alloc | apply Kd.S_drewN | apply Kd.S_drew)); exact HO729.out) hb); have n4_ := am (Kd.R_lower ho15 (below_size (bl HB))); have n5_ := sb HB hb; clear HO720; clear HO723; clear HO726; clear HO729; clear HB; have HO720 := n0_; have HO723 := n1_; have HO726 := n2_; have HO729 := n3_; have HO732 := n4_; have HB := n5_; clear n0_ n1_ n2_ n3_ n4_ n5_; clear hb ho15; obtain ⟨Ao16, co16, eo16⟩ := Kd.R_slice HO720.out; subst eo16; obtain ⟨Ao17, co17, eo17⟩ := Kd.R_slice HO723.out; subst eo17; obtain ⟨Ao18, co18, eo18⟩ := Kd.S_slice HO726.out; subst eo18; obtain ⟨Ao19, co19, eo19⟩ := Kd.S_slice HO729.out; subst eo19; obtain ⟨Ao20, co20, eo20⟩ := Kd.R_slice HO732.out; subst eo20) | ((with_reducible refine gate_callee (f := 52) rfl ?_); refine goesL_ (some 8) rfl rfl Tryd.func52 (by kernel_rfl) rfl #[.agg #[.string t717, .slice Ao16 t718.length co16, .slice Ao17 t721.length co17, .slice Ao18 t724.length co18, .slice Ao19 t727.length co19], .slice Ao20 y730.length co20] rfl ar ?_; (with_reducible refine (row_Encode.calls k t717 _ _ t718 _ _ t721 _ _ t724 _ _ t727 _ _ y730 t733 t734 _ ?side1 ?side2 ?side3 ?side4 ?side5 ?side6 ?side7 ?side8 ?side9 ?side10 (Glob.below HG.out (bl HB)) A2.out).mono ?_); (case side1 => repeat (first | exact (Kd.R_reads' HO720.out).2.2 | (with_reducible refine Kd.C_alloc ?_ _) | (with_reducible refine Kd.C_drewN ?_ _) | (with_reducible refine Kd.C_drew ?_))); (case side2 => exact (Kd.R_reads' HO720.out).2.1); (case side3 => repeat (first | exact (Kd.R_reads' HO723.out).2.2 | (with_reducible refine Kd.C_alloc ?_ _) | (with_reducible refine Kd.C_drewN ?_ _) | (with_reducible refine Kd.C_drew ?_))); (case side4 => exact (Kd.R_reads' HO723.out).2.1); (case side5 => repeat (first | exact (Kd.S_reads' HO726.out).2.2 | (with_reducible refine Kd.C_alloc ?_ _) | (with_reducible refine Kd.C_drewN ?_ _) | (with_reducible refine Kd.C_drew ?_))); (case side6 => exact (Kd.S_reads' HO726.out).2.1); (case side7 => repeat (first | exact (Kd.S_reads' HO729.out).2.2 | (with_reducible refine Kd.C_alloc ?_ _) | (with_reducible refine Kd.C_drewN ?_ _) | (with_reducible refine Kd.C_drew ?_))); (case side8 => exact (Kd.S_reads' HO729.out).2.1); (case side9 => repeat (first | exact (Kd.R_reads' HO732.out).2.2 | (with_reducible refine Kd.C_alloc ?_ _) | (with_reducible refine Kd.C_drewN ?_ _) | (with_reducible refine Kd.C_drew ?_))); (case side10 => exact (Kd.R_reads' HO732.out).2.1); rintro e w21 ⟨rfl, hb⟩; refine ⟨_, rfl, ?_⟩; have n0_ := am (Kd.R_below (Kd.rr HO720.out) hb); have n1_ := am (Kd.R_below (Kd.rr HO723.out) hb); have n2_ := am (Kd.S_below (by (with_reducible repeat (first | apply Kd.S_alloc | apply Kd.S_drewN | apply Kd.S_drew)); exact HO726.out) hb); have n3_ := am (Kd.S_below (by (with_reducible repeat (first | apply Kd.S_alloc | apply Kd.S_drewN | apply Kd.S_drew)); exact HO729.out) hb); have n4_ := am (Kd.R_below (Kd.rr HO732.out) hb); have n5_ := sb HB hb; clear HO720; clear HO723; clear HO726; clear HO729; clear HO732; clear HB; have HO720 := n0_; have HO723 := n1_; have HO726 := n2_; have HO729 := n3_; have HO732 := n4_; have HB := n5_; clear n0_ n1_ n2_ n3_ n4_ n5_; (try clear hb); (try clear hb2 hk hi)))
    go_ret
    exact ⟨er, bl HB⟩
def value_Same.f (a0_0 : Int) (a0_1 : Int) (a0_2 : Nat) (a0_3 : ByteArray) (a1_0 : Int) (a1_1 : Int) (a1_2 : Nat) (a1_3 : ByteArray) : Option (Bool) := if a0_0 = a1_0 then (if a0_1 = a1_1 then (if ((a0_2 : Nat) : Int) = ((a1_2 : Nat) : Int) then (some (a0_3.toList == a1_3.toList)) else (some false)) else (some false)) else (some false)
set_option maxHeartbeats 8000000 in
set_option maxRecDepth 100000 in
theorem value_Same.calls (a0_0 : Int) (a0_1 : Int) (a0_2 : Nat) (a0_3 : ByteArray) (a1_0 : Int) (a1_1 : Int) (a1_2 : Nat) (a1_3 : ByteArray) (r : Bool) (w : World) (h : value_Same.f a0_0 a0_1 a0_2 a0_3 a1_0 a1_1 a1_2 a1_3 = some r) :
    Calls Tryd.prog 123 #[.agg #[.int .i64 a0_0, .int .i64 a0_1, .float .f64 a0_2, .string a0_3], .agg #[.int .i64 a1_0, .int .i64 a1_1, .float .f64 a1_2, .string a1_3]] w fun e w' => e = .returned (.bool r) ∧ Below w.heap.size w w' := by
  have hu50 := Tryd.underlying50
  have HB := am (Below.refl w.heap.size w)
  have H : (if a0_0 = a1_0 then (if a0_1 = a1_1 then (if ((a0_2 : Nat) : Int) = ((a1_2 : Nat) : Int) then (some (a0_3.toList == a1_3.toList)) else (some false)) else (some false)) else (some false)) = some r := h
  clear h
  by_cases c3 : a0_0 = a1_0
  · rw [if_pos c3] at H
    have c3b0 : (a0_0 == a1_0) = true := beq_iff_eq.mpr c3
    have c3b1 : (a0_0 != a1_0) = false := bne_eq_false_iff_eq.mpr c3
    clear c3
    by_cases c4 : a0_1 = a1_1
    · rw [if_pos c4] at H
      have c4b0 : (a0_1 == a1_1) = true := beq_iff_eq.mpr c4
      have c4b1 : (a0_1 != a1_1) = false := bne_eq_false_iff_eq.mpr c4
      clear c4
      by_cases c5 : ((a0_2 : Nat) : Int) = ((a1_2 : Nat) : Int)
      · rw [if_pos c5] at H
        have c5b0 : (((a0_2 : Nat) : Int) == ((a1_2 : Nat) : Int)) = true := beq_iff_eq.mpr c5
        have c5b1 : (((a0_2 : Nat) : Int) != ((a1_2 : Nat) : Int)) = false := bne_eq_false_iff_eq.mpr c5
        clear c5
        obtain rfl := Option.some.inj H
        go_enter Tryd.func123, Tryd.ntmps123
        go_wp2_with (first | ((with_reducible refine gate_dst (N := 2) rfl ?_); refine box_event rfl (N := 2) rfl (cs := #[.int .i64 a0_0, .int .i64 a0_1, .float .f64 a0_2, .string a0_3]) (t := 50) gs ?_; intro gb741 hg w6 hbox hb; have BK741 := am (hbox); have GW741 := gw hg HB; have GE741 := gw hg HB; replace HB := sb HB hb; clear hb hbox hg) | ((with_reducible refine gate_dst (N := 3) rfl ?_); refine box_event rfl (N := 3) rfl (cs := #[.int .i64 a1_0, .int .i64 a1_1, .float .f64 a1_2, .string a1_3]) (t := 50) gs ?_; intro gb742 hg w7 hbox hb; have BK742 := am (hbox); have GW742 := gw hg HB; have GE742 := gw hg HB; have NB741_742 := am ((by rw [hg]; exact Nat.ne_of_lt (blk_lt (bk BK741)) : gb741 ≠ gb742)); have NB742_741 := am ((by rw [hg]; exact Nat.ne_of_gt (blk_lt (bk BK741)) : gb742 ≠ gb741)); replace BK741 := kb BK741 hb; replace HB := sb HB hb; clear hb hbox hg; have hnb8 := NB741_742.out; have hnc8 := NB742_741.out; obtain ⟨Z9_0, Z9_1, Z9_2, Z9_3, Y9_0, Y9_1, Y9_2, Y9_3⟩ := bq4 BK741; obtain ⟨Z10_0, Z10_1, Z10_2, Z10_3, Y10_0, Y10_1, Y10_2, Y10_3⟩ := bq4 BK742))
        repeat (go_quiet (fail); try go_wp2_with (first | ((with_reducible refine gate_dst (N := 2) rfl ?_); refine box_event rfl (N := 2) rfl (cs := #[.int .i64 a0_0, .int .i64 a0_1, .float .f64 a0_2, .string a0_3]) (t := 50) gs ?_; intro gb741 hg w6 hbox hb; have BK741 := am (hbox); have GW741 := gw hg HB; have GE741 := gw hg HB; replace HB := sb HB hb; clear hb hbox hg) | ((with_reducible refine gate_dst (N := 3) rfl ?_); refine box_event rfl (N := 3) rfl (cs := #[.int .i64 a1_0, .int .i64 a1_1, .float .f64 a1_2, .string a1_3]) (t := 50) gs ?_; intro gb742 hg w7 hbox hb; have BK742 := am (hbox); have GW742 := gw hg HB; have GE742 := gw hg HB; have NB741_742 := am ((by rw [hg]; exact Nat.ne_of_lt (blk_lt (bk BK741)) : gb741 ≠ gb742)); have NB742_741 := am ((by rw [hg]; exact Nat.ne_of_gt (blk_lt (bk BK741)) : gb742 ≠ gb741)); replace BK741 := kb BK741 hb; replace HB := sb HB hb; clear hb hbox hg; have hnb8 := NB741_742.out; have hnc8 := NB742_741.out; obtain ⟨Z9_0, Z9_1, Z9_2, Z9_3, Y9_0, Y9_1, Y9_2, Y9_3⟩ := bq4 BK741; obtain ⟨Z10_0, Z10_1, Z10_2, Z10_3, Y10_0, Y10_1, Y10_2, Y10_3⟩ := bq4 BK742)))
        go_ret
        exact ⟨er, bl HB⟩
      · rw [if_neg c5] at H
        have c5b0 : (((a0_2 : Nat) : Int) == ((a1_2 : Nat) : Int)) = false := beq_eq_false_iff_ne.mpr c5
        have c5b1 : (((a0_2 : Nat) : Int) != ((a1_2 : Nat) : Int)) = true := bne_iff_ne.mpr c5
        obtain rfl := Option.some.inj H
        go_enter Tryd.func123, Tryd.ntmps123
        go_wp2_with (first | ((with_reducible refine gate_dst (N := 2) rfl ?_); refine box_event rfl (N := 2) rfl (cs := #[.int .i64 a0_0, .int .i64 a0_1, .float .f64 a0_2, .string a0_3]) (t := 50) gs ?_; intro gb741 hg w11 hbox hb; have BK741 := am (hbox); have GW741 := gw hg HB; have GE741 := gw hg HB; replace HB := sb HB hb; clear hb hbox hg) | ((with_reducible refine gate_dst (N := 3) rfl ?_); refine box_event rfl (N := 3) rfl (cs := #[.int .i64 a1_0, .int .i64 a1_1, .float .f64 a1_2, .string a1_3]) (t := 50) gs ?_; intro gb742 hg w12 hbox hb; have BK742 := am (hbox); have GW742 := gw hg HB; have GE742 := gw hg HB; have NB741_742 := am ((by rw [hg]; exact Nat.ne_of_lt (blk_lt (bk BK741)) : gb741 ≠ gb742)); have NB742_741 := am ((by rw [hg]; exact Nat.ne_of_gt (blk_lt (bk BK741)) : gb742 ≠ gb741)); replace BK741 := kb BK741 hb; replace HB := sb HB hb; clear hb hbox hg; have hnb13 := NB741_742.out; have hnc13 := NB742_741.out; obtain ⟨Z14_0, Z14_1, Z14_2, Z14_3, Y14_0, Y14_1, Y14_2, Y14_3⟩ := bq4 BK741; obtain ⟨Z15_0, Z15_1, Z15_2, Z15_3, Y15_0, Y15_1, Y15_2, Y15_3⟩ := bq4 BK742))
        repeat (go_quiet (fail); try go_wp2_with (first | ((with_reducible refine gate_dst (N := 2) rfl ?_); refine box_event rfl (N := 2) rfl (cs := #[.int .i64 a0_0, .int .i64 a0_1, .float .f64 a0_2, .string a0_3]) (t := 50) gs ?_; intro gb741 hg w11 hbox hb; have BK741 := am (hbox); have GW741 := gw hg HB; have GE741 := gw hg HB; replace HB := sb HB hb; clear hb hbox hg) | ((with_reducible refine gate_dst (N := 3) rfl ?_); refine box_event rfl (N := 3) rfl (cs := #[.int .i64 a1_0, .int .i64 a1_1, .float .f64 a1_2, .string a1_3]) (t := 50) gs ?_; intro gb742 hg w12 hbox hb; have BK742 := am (hbox); have GW742 := gw hg HB; have GE742 := gw hg HB; have NB741_742 := am ((by rw [hg]; exact Nat.ne_of_lt (blk_lt (bk BK741)) : gb741 ≠ gb742)); have NB742_741 := am ((by rw [hg]; exact Nat.ne_of_gt (blk_lt (bk BK741)) : gb742 ≠ gb741)); replace BK741 := kb BK741 hb; replace HB := sb HB hb; clear hb hbox hg; have hnb13 := NB741_742.out; have hnc13 := NB742_741.out; obtain ⟨Z14_0, Z14_1, Z14_2, Z14_3, Y14_0, Y14_1, Y14_2, Y14_3⟩ := bq4 BK741; obtain ⟨Z15_0, Z15_1, Z15_2, Z15_3, Y15_0, Y15_1, Y15_2, Y15_3⟩ := bq4 BK742)))
        go_ret
        exact ⟨er, bl HB⟩
    · rw [if_neg c4] at H
      have c4b0 : (a0_1 == a1_1) = false := beq_eq_false_iff_ne.mpr c4
      have c4b1 : (a0_1 != a1_1) = true := bne_iff_ne.mpr c4
      obtain rfl := Option.some.inj H
      go_enter Tryd.func123, Tryd.ntmps123
      go_wp2_with (first | ((with_reducible refine gate_dst (N := 2) rfl ?_); refine box_event rfl (N := 2) rfl (cs := #[.int .i64 a0_0, .int .i64 a0_1, .float .f64 a0_2, .string a0_3]) (t := 50) gs ?_; intro gb741 hg w16 hbox hb; have BK741 := am (hbox); have GW741 := gw hg HB; have GE741 := gw hg HB; replace HB := sb HB hb; clear hb hbox hg) | ((with_reducible refine gate_dst (N := 3) rfl ?_); refine box_event rfl (N := 3) rfl (cs := #[.int .i64 a1_0, .int .i64 a1_1, .float .f64 a1_2, .string a1_3]) (t := 50) gs ?_; intro gb742 hg w17 hbox hb; have BK742 := am (hbox); have GW742 := gw hg HB; have GE742 := gw hg HB; have NB741_742 := am ((by rw [hg]; exact Nat.ne_of_lt (blk_lt (bk BK741)) : gb741 ≠ gb742)); have NB742_741 := am ((by rw [hg]; exact Nat.ne_of_gt (blk_lt (bk BK741)) : gb742 ≠ gb741)); replace BK741 := kb BK741 hb; replace HB := sb HB hb; clear hb hbox hg; have hnb18 := NB741_742.out; have hnc18 := NB742_741.out; obtain ⟨Z19_0, Z19_1, Z19_2, Z19_3, Y19_0, Y19_1, Y19_2, Y19_3⟩ := bq4 BK741; obtain ⟨Z20_0, Z20_1, Z20_2, Z20_3, Y20_0, Y20_1, Y20_2, Y20_3⟩ := bq4 BK742))
      repeat (go_quiet (fail); try go_wp2_with (first | ((with_reducible refine gate_dst (N := 2) rfl ?_); refine box_event rfl (N := 2) rfl (cs := #[.int .i64 a0_0, .int .i64 a0_1, .float .f64 a0_2, .string a0_3]) (t := 50) gs ?_; intro gb741 hg w16 hbox hb; have BK741 := am (hbox); have GW741 := gw hg HB; have GE741 := gw hg HB; replace HB := sb HB hb; clear hb hbox hg) | ((with_reducible refine gate_dst (N := 3) rfl ?_); refine box_event rfl (N := 3) rfl (cs := #[.int .i64 a1_0, .int .i64 a1_1, .float .f64 a1_2, .string a1_3]) (t := 50) gs ?_; intro gb742 hg w17 hbox hb; have BK742 := am (hbox); have GW742 := gw hg HB; have GE742 := gw hg HB; have NB741_742 := am ((by rw [hg]; exact Nat.ne_of_lt (blk_lt (bk BK741)) : gb741 ≠ gb742)); have NB742_741 := am ((by rw [hg]; exact Nat.ne_of_gt (blk_lt (bk BK741)) : gb742 ≠ gb741)); replace BK741 := kb BK741 hb; replace HB := sb HB hb; clear hb hbox hg; have hnb18 := NB741_742.out; have hnc18 := NB742_741.out; obtain ⟨Z19_0, Z19_1, Z19_2, Z19_3, Y19_0, Y19_1, Y19_2, Y19_3⟩ := bq4 BK741; obtain ⟨Z20_0, Z20_1, Z20_2, Z20_3, Y20_0, Y20_1, Y20_2, Y20_3⟩ := bq4 BK742)))
      go_ret
      exact ⟨er, bl HB⟩
  · rw [if_neg c3] at H
    have c3b0 : (a0_0 == a1_0) = false := beq_eq_false_iff_ne.mpr c3
    have c3b1 : (a0_0 != a1_0) = true := bne_iff_ne.mpr c3
    obtain rfl := Option.some.inj H
    go_enter Tryd.func123, Tryd.ntmps123
    go_wp2_with (first | ((with_reducible refine gate_dst (N := 2) rfl ?_); refine box_event rfl (N := 2) rfl (cs := #[.int .i64 a0_0, .int .i64 a0_1, .float .f64 a0_2, .string a0_3]) (t := 50) gs ?_; intro gb741 hg w21 hbox hb; have BK741 := am (hbox); have GW741 := gw hg HB; have GE741 := gw hg HB; replace HB := sb HB hb; clear hb hbox hg) | ((with_reducible refine gate_dst (N := 3) rfl ?_); refine box_event rfl (N := 3) rfl (cs := #[.int .i64 a1_0, .int .i64 a1_1, .float .f64 a1_2, .string a1_3]) (t := 50) gs ?_; intro gb742 hg w22 hbox hb; have BK742 := am (hbox); have GW742 := gw hg HB; have GE742 := gw hg HB; have NB741_742 := am ((by rw [hg]; exact Nat.ne_of_lt (blk_lt (bk BK741)) : gb741 ≠ gb742)); have NB742_741 := am ((by rw [hg]; exact Nat.ne_of_gt (blk_lt (bk BK741)) : gb742 ≠ gb741)); replace BK741 := kb BK741 hb; replace HB := sb HB hb; clear hb hbox hg; have hnb23 := NB741_742.out; have hnc23 := NB742_741.out; obtain ⟨Z24_0, Z24_1, Z24_2, Z24_3, Y24_0, Y24_1, Y24_2, Y24_3⟩ := bq4 BK741; obtain ⟨Z25_0, Z25_1, Z25_2, Z25_3, Y25_0, Y25_1, Y25_2, Y25_3⟩ := bq4 BK742))
    repeat (go_quiet (fail); try go_wp2_with (first | ((with_reducible refine gate_dst (N := 2) rfl ?_); refine box_event rfl (N := 2) rfl (cs := #[.int .i64 a0_0, .int .i64 a0_1, .float .f64 a0_2, .string a0_3]) (t := 50) gs ?_; intro gb741 hg w21 hbox hb; have BK741 := am (hbox); have GW741 := gw hg HB; have GE741 := gw hg HB; replace HB := sb HB hb; clear hb hbox hg) | ((with_reducible refine gate_dst (N := 3) rfl ?_); refine box_event rfl (N := 3) rfl (cs := #[.int .i64 a1_0, .int .i64 a1_1, .float .f64 a1_2, .string a1_3]) (t := 50) gs ?_; intro gb742 hg w22 hbox hb; have BK742 := am (hbox); have GW742 := gw hg HB; have GE742 := gw hg HB; have NB741_742 := am ((by rw [hg]; exact Nat.ne_of_lt (blk_lt (bk BK741)) : gb741 ≠ gb742)); have NB742_741 := am ((by rw [hg]; exact Nat.ne_of_gt (blk_lt (bk BK741)) : gb742 ≠ gb741)); replace BK741 := kb BK741 hb; replace HB := sb HB hb; clear hb hbox hg; have hnb23 := NB741_742.out; have hnc23 := NB742_741.out; obtain ⟨Z24_0, Z24_1, Z24_2, Z24_3, Y24_0, Y24_1, Y24_2, Y24_3⟩ := bq4 BK741; obtain ⟨Z25_0, Z25_1, Z25_2, Z25_3, Y25_0, Y25_1, Y25_2, Y25_3⟩ := bq4 BK742)))
    go_ret
    exact ⟨er, bl HB⟩
def row_same.f (a0_0 : Int) (a0_1 : Int) (a0_2 : Nat) (a0_3 : ByteArray) (a1_0 : Int) (a1_1 : Int) (a1_2 : Nat) (a1_3 : ByteArray) : Option (Bool) := (value_Same.f a0_0 a0_1 a0_2 a0_3 a1_0 a1_1 a1_2 a1_3).bind fun t745 => (some t745)
set_option maxHeartbeats 8000000 in
set_option maxRecDepth 100000 in
theorem row_same.calls (a0_0 : Int) (a0_1 : Int) (a0_2 : Nat) (a0_3 : ByteArray) (a1_0 : Int) (a1_1 : Int) (a1_2 : Nat) (a1_3 : ByteArray) (r : Bool) (w : World) (h : row_same.f a0_0 a0_1 a0_2 a0_3 a1_0 a1_1 a1_2 a1_3 = some r) :
    Calls Tryd.prog 88 #[.agg #[.int .i64 a0_0, .int .i64 a0_1, .float .f64 a0_2, .string a0_3], .agg #[.int .i64 a1_0, .int .i64 a1_1, .float .f64 a1_2, .string a1_3]] w fun e w' => e = .returned (.bool r) ∧ Below w.heap.size w w' := by
  have hu50 := Tryd.underlying50
  have HB := am (Below.refl w.heap.size w)
  have H : ((value_Same.f a0_0 a0_1 a0_2 a0_3 a1_0 a1_1 a1_2 a1_3).bind fun t745 => (some t745)) = some r := h
  clear h
  replace H := Option.bind_eq_some_iff.mp H
  obtain ⟨t745, A30, H⟩ := H
  replace H : (some t745) = some r := H
  have A3 := am A30
  clear A30
  obtain rfl := Option.some.inj H
  go_enter Tryd.func88, Tryd.ntmps88
  go_wp2_with (first | ((with_reducible refine gate_dst (N := 2) rfl ?_); refine box_event rfl (N := 2) rfl (cs := #[.int .i64 a0_0, .int .i64 a0_1, .float .f64 a0_2, .string a0_3]) (t := 50) gs ?_; intro gb743 hg w4 hbox hb; have BK743 := am (hbox); have GW743 := gw hg HB; have GE743 := gw hg HB; replace HB := sb HB hb; clear hb hbox hg) | ((with_reducible refine gate_dst (N := 3) rfl ?_); refine box_event rfl (N := 3) rfl (cs := #[.int .i64 a1_0, .int .i64 a1_1, .float .f64 a1_2, .string a1_3]) (t := 50) gs ?_; intro gb744 hg w5 hbox hb; have BK744 := am (hbox); have GW744 := gw hg HB; have GE744 := gw hg HB; have NB743_744 := am ((by rw [hg]; exact Nat.ne_of_lt (blk_lt (bk BK743)) : gb743 ≠ gb744)); have NB744_743 := am ((by rw [hg]; exact Nat.ne_of_gt (blk_lt (bk BK743)) : gb744 ≠ gb743)); replace BK743 := kb BK743 hb; replace HB := sb HB hb; clear hb hbox hg; have hnb6 := NB743_744.out; have hnc6 := NB744_743.out; obtain ⟨Z7_0, Z7_1, Z7_2, Z7_3, Y7_0, Y7_1, Y7_2, Y7_3⟩ := bq4 BK743; obtain ⟨Z8_0, Z8_1, Z8_2, Z8_3, Y8_0, Y8_1, Y8_2, Y8_3⟩ := bq4 BK744) | ((with_reducible refine gate_callee (f := 123) rfl ?_); refine goesL_ (some 7) rfl rfl Tryd.func123 (by kernel_rfl) rfl #[.agg #[.int .i64 a0_0, .int .i64 a0_1, .float .f64 a0_2, .string a0_3], .agg #[.int .i64 a1_0, .int .i64 a1_1, .float .f64 a1_2, .string a1_3]] rfl ar ?_; (with_reducible refine (value_Same.calls a0_0 a0_1 a0_2 a0_3 a1_0 a1_1 a1_2 a1_3 t745 _ A3.out).mono ?_); rintro e w9 ⟨rfl, hb⟩; refine ⟨_, rfl, ?_⟩; replace BK743 := kb BK743 hb; replace BK744 := kb BK744 hb; replace HB := sb HB hb; (try clear hb); (try clear hb2 hk hi)))
  go_ret
  exact ⟨er, bl HB⟩
end Go.Proofs.YtpiifdbicibelaaDoor.PA
end
section
namespace Go.Proofs.YtpiifdbicibelaaDoor.Pure
open Go.RowKit Go.Proofs Go.Proofs.YtpiifdbicibelaaDoorW.PrintWords Go.Proofs.YtpiifdbicibelaaDoorW.PrintLast Go.Proofs.YtpiifdbicibelaaDoorW.PrintMore Go.Proofs.YtpiifdbicibelaaDoor.PA Go.Proofs.YtpiifdbicibelaaDoor.OpenK
set_option linter.unusedVariables false
set_option linter.unusedSimpArgs false
theorem or128 (a : Int) (h : 0 ≤ a ∧ a ≤ 255) : Go.bits .or .u8 a 128 = a % 128 + 128 := by
  have hall : ∀ x : Fin 256, Go.bits .or .u8 (x.val : Int) 128 = (x.val : Int) % 128 + 128 := by decide +kernel
  have := hall ⟨a.toNat, by omega⟩
  have e : ((a.toNat : Nat) : Int) = a := by omega
  simpa [e] using this
def vb (n : Nat) : List Int := if h : 128 ≤ n then ((n % 128 + 128 : Nat) : Int) :: vb (n / 128) else [(n : Int)]
decreasing_by omega
theorem vb_length : ∀ (m n : Nat), n < 128 ^ (m + 1) → (vb n).length ≤ m + 1
  | 0, n, h => by
    unfold vb
    rw [dif_neg (by omega)]; simp
  | m + 1, n, h => by
    unfold vb
    split
    · have := vb_length m (n / 128) (by rw [Nat.pow_succ] at h; omega)
      simp; omega
    · simp
theorem varint_code : ∀ (m n : Nat) (acc : List Int), n < 128 ^ (m + 1) → n < 18446744073709551616 → acc.length + m + 1 < 140737488355328 → Ev (fun k => row_putVarint.l0 k acc (n : Int)) (acc ++ vb n)
  | 0, n, acc, h, _, hl => by
    refine Ev.from_ 1 fun k => ?_
    simp only [row_putVarint.l0]
    rw [if_neg (by omega), if_pos (by omega)]
    unfold vb
    rw [dif_neg (by omega)]
    have : (n : Int) % 256 = (n : Int) := by omega
    rw [this]
  | m + 1, n, acc, h, h64, hl => by
    by_cases hb : 128 ≤ n
    · have e1 : ((n : Int) % 256) % 128 + 128 = ((n % 128 + 128 : Nat) : Int) := by omega
      have e2 : (n : Int) / 128 = ((n / 128 : Nat) : Int) := by omega
      have ih := varint_code m (n / 128) (acc ++ [((n % 128 + 128 : Nat) : Int)]) (by rw [Nat.pow_succ] at h; omega) (by omega) (by simp; omega)
      refine Ev.step (g := fun k => row_putVarint.l0 k (acc ++ [((n % 128 + 128 : Nat) : Int)]) ((n / 128 : Nat) : Int)) (fun k => ?_) ?_
      · simp only [row_putVarint.l0]
        rw [if_pos (by omega), if_pos (by omega), or128 _ (by omega), e1, e2]
      · have e3 : vb n = ((n % 128 + 128 : Nat) : Int) :: vb (n / 128) := by
          rw [vb.eq_1 n, dif_pos hb]
        rw [e3]
        simpa using ih
    · refine Ev.from_ 1 fun k => ?_
      simp only [row_putVarint.l0]
      rw [if_neg (by omega), if_pos (by omega)]
      have e3 : vb n = [(n : Int)] := by rw [vb.eq_1 n, dif_neg hb]
      have : (n : Int) % 256 = (n : Int) := by omega
      rw [this, e3]
def zz (n : Int) : Nat := if 0 ≤ n then (2 * n).toNat else (-2 * n - 1).toNat
theorem zz_lt {n : Int} (h : (Lit.int .i64 n).wf = true) : zz n < 18446744073709551616 := by
  obtain ⟨h0, h1⟩ := isInt_range h
  unfold zz
  split <;> omega
theorem xor_u64 (x y : Nat) (hx : x < 2 ^ 64) (hy : y < 2 ^ 64) : Go.bits .xor .u64 (x : Int) (y : Int) = ((x ^^^ y : Nat) : Int) := by
  have e1 : Go.bits .xor .u64 (x : Int) (y : Int) = IntKind.u64.wrap (((BitVec.ofInt 64 (x : Int)) ^^^ (BitVec.ofInt 64 (y : Int))).toNat : Int) := rfl
  have hlt := Nat.xor_lt_two_pow hx hy
  rw [e1, BitVec.toNat_xor, BitVec.toNat_ofInt, BitVec.toNat_ofInt, u64_wrap]
  have h1 : ((x : Int) % ((2 ^ 64 : Nat) : Int)).toNat = x := by omega
  have h2 : ((y : Int) % ((2 ^ 64 : Nat) : Int)).toNat = y := by omega
  rw [h1, h2]
  omega
theorem zigzag_code {n : Int} (h : (Lit.int .i64 n).wf = true) : row_zigzag.f n = some (zz n : Int) := by
  obtain ⟨h0, h1⟩ := isInt_range h
  unfold row_zigzag.f zz
  congr 1
  by_cases hp : 0 ≤ n
  · have e1 : n / 9223372036854775808 = 0 := by omega
    rw [if_pos hp, e1, u64_wrap, u64_wrap, u64_wrap]
    have e2 : (n % 18446744073709551616 * 2) % 18446744073709551616 = (((2 * n).toNat : Nat) : Int) := by omega
    have e3 : (0 : Int) % 18446744073709551616 = ((0 : Nat) : Int) := rfl
    rw [e2, e3, xor_u64 _ _ (by omega) (by decide), Nat.xor_zero]
  · have e1 : n / 9223372036854775808 = -1 := by omega
    rw [if_neg hp, e1, u64_wrap, u64_wrap, u64_wrap]
    have e2 : (n % 18446744073709551616 * 2) % 18446744073709551616 = (((2 * n + 18446744073709551616).toNat : Nat) : Int) := by omega
    have e3 : (-1 : Int) % 18446744073709551616 = ((2 ^ 64 - 1 : Nat) : Int) := by decide
    rw [e2, e3, xor_u64 _ _ (by omega) (by decide), xor_ones _ _ (by omega)]
    omega
def lowB (n : Int) (i m : Nat) : List Int := (List.range' i m).map fun (j : Nat) => (shr .u64 n (8 * (j : Int))) % 256
theorem low_code (n : Int) : ∀ (m i : Nat) (acc : List Int), i + m = 8 → acc.length + m < 140737488355328 → Ev (fun k => row_putLow.l0 k acc n (i : Int)) (acc ++ lowB n i m)
  | 0, i, acc, h, hl => by
    refine Ev.from_ 1 fun k => ?_
    simp only [row_putLow.l0]
    rw [if_neg (by omega)]; simp [lowB]
  | m + 1, i, acc, h, hl => by
    have ih := low_code n m (i + 1) (acc ++ [(shr .u64 n (8 * (i : Int))) % 256]) (by omega) (by simp; omega)
    refine Ev.step (g := fun k => row_putLow.l0 k (acc ++ [(shr .u64 n (8 * (i : Int))) % 256]) n ((i + 1 : Nat) : Int)) (fun k => ?_) ?_
    · simp only [row_putLow.l0]
      rw [wrap64_id (n := 8 * (i : Int)) (by omega) (by omega), wrap64_id (n := (i : Int) + 1) (by omega) (by omega), if_pos (by omega), if_pos (by omega), if_pos (by omega)]
      rfl
    · have : lowB n i (m + 1) = (shr .u64 n (8 * (i : Int))) % 256 :: lowB n (i + 1) m := rfl
      rw [this]
      simpa using ih
def toldB (v : S50) : List Int := if v.f0 = 2 then vb (zz v.f1) else if v.f0 = 3 then lowB (v.f2 : Int) 0 8 else if v.f0 = 4 ∨ v.f0 = 5 then vb v.f3.size ++ bytesOf v.f3 else []
theorem p128 : (18446744073709551616 : Nat) ≤ 128 ^ (9 + 1) := by decide
theorem bytesOf_length (s : ByteArray) : (bytesOf s).length = s.size := by simp [bytesOf]
theorem toldB_length {v : S50} (hw : wf50 v) (hs : v.f3.size ≤ 65536) : (toldB v).length ≤ 65546 := by
  unfold toldB
  split
  · have := vb_length 9 (zz v.f1) (Nat.lt_of_lt_of_le (zz_lt hw.2.1) p128); omega
  · split
    · simp [lowB]
    · split
      · have := vb_length 9 v.f3.size (Nat.lt_of_lt_of_le (by omega) p128)
        rw [List.length_append, bytesOf_length]; omega
      · simp
theorem row_put_ev (acc : List Int) {v : S50} (hw : wf50 v) (hs : v.f3.size ≤ 65536) (hl : acc.length + 100000 < 140737488355328) : Ev (fun k => row_put.f k acc v.f0 v.f1 v.f2 v.f3) (acc ++ toldB v) := by
  simp only [row_put.f, toldB, row_putVarint.f, row_putLow.f]
  by_cases h2 : v.f0 = 2
  · rw [if_pos h2]
    exact Ev.pos h2 (Ev.bind (Ev.const (zigzag_code hw.2.1)) (Ev.bind (varint_code 9 _ acc (Nat.lt_of_lt_of_le (zz_lt hw.2.1) p128) (zz_lt hw.2.1) (by omega)) Ev.pure))
  rw [if_neg h2]
  refine Ev.neg h2 ?_
  by_cases h3 : v.f0 = 3
  · rw [if_pos h3]
    exact Ev.pos h3 (Ev.bind (low_code (v.f2 : Int) 8 0 acc rfl (by omega)) Ev.pure)
  rw [if_neg h3]
  refine Ev.neg h3 ?_
  have hvl := vb_length 9 v.f3.size (Nat.lt_of_lt_of_le (by omega) p128)
  have hv := varint_code 9 v.f3.size acc (Nat.lt_of_lt_of_le (by omega) p128) (by omega) (by omega)
  have hwr : IntKind.u64.wrap (v.f3.size : Int) = (v.f3.size : Int) := u64_wrap_id (by omega) (by omega)
  rw [hwr]
  by_cases h4 : v.f0 = 4
  · rw [if_pos (.inl h4)]
    refine Ev.pos h4 (Ev.bind hv (Ev.pos (by rw [List.length_append]; omega) ?_))
    rw [List.append_assoc]; exact Ev.pure
  refine Ev.neg h4 ?_
  by_cases h5 : v.f0 = 5
  · rw [if_pos (.inr h5)]
    refine Ev.pos h5 (Ev.bind hv (Ev.pos (by rw [List.length_append]; omega) ?_))
    rw [List.append_assoc]; exact Ev.pure
  · rw [if_neg (by omega), List.append_nil]
    exact Ev.neg h5 Ev.pure
def mark (v : S50) : Int := if v.f0 = 0 then 0 else if v.f0 = 1 then (if v.f1 = 1 then 2 else 1) else 1
theorem mark_code (v : S50) : row_mark.f v.f0 v.f1 v.f2 v.f3 = some (mark v) := by
  unfold row_mark.f mark
  repeat' split
  all_goals rfl
def setM : List S50 → Nat → List Int → List Int
  | [], _, acc => acc
  | v :: vs, i, acc => setM vs (i + 1) (acc.set (i / 4) (Go.bits .or .u8 (rd acc ((i / 4 : Nat) : Int)) (shl .u8 (mark v) ((2 * (i % 4) : Nat) : Int))))
theorem setM_length : ∀ (vs : List S50) (i : Nat) (acc : List Int), (setM vs i acc).length = acc.length
  | [], _, _ => rfl
  | v :: vs, i, acc => by simp only [setM]; rw [setM_length vs]; simp
/-- A row's bytes. -/
def rowB (xs : List S50) : List Int := setM xs 0 (List.replicate ((xs.length + 3) / 4) 0) ++ xs.flatMap toldB
theorem tdiv4 (i : Nat) : Int.tdiv (i : Int) 4 = ((i / 4 : Nat) : Int) := rfl
theorem tmod4 (i : Nat) : Int.tmod (i : Int) 4 = ((i % 4 : Nat) : Int) := rfl
theorem tails_code (xs : List S50) (hn : xs.length ≤ 1000) (hw : ∀ v ∈ xs, wf50 v ∧ v.f3.size ≤ 65536) : ∀ (m i : Nat) (acc : List Int), i + m = xs.length → acc.length ≤ 1000 + i * 65546 →
    Ev (fun k => row_encode.l1 k acc xs (xs.length : Int) (i : Int)) (acc ++ (xs.drop i).flatMap toldB)
  | 0, i, acc, h, _ => by
    refine Ev.from_ 1 fun k => ?_
    simp only [row_encode.l1]
    rw [if_neg (by omega), List.drop_of_length_le (by omega)]; simp
  | m + 1, i, acc, h, hl => by
    have hlt : i < xs.length := by omega
    have hx : xs[i]? = some xs[i] := List.getElem?_eq_getElem hlt
    obtain ⟨w1, w2⟩ := hw xs[i] (List.getElem_mem hlt)
    have hL := toldB_length w1 w2
    have ih := tails_code xs hn hw m (i + 1) (acc ++ toldB xs[i]) (by omega) (by rw [List.length_append]; omega)
    refine Ev.step (g := fun k => (row_put.f k acc xs[i].f0 xs[i].f1 xs[i].f2 xs[i].f3).bind fun t609 => (row_encode.l1 k t609 xs (xs.length : Int) ((i + 1 : Nat) : Int))) (fun k => ?_) (Ev.bind (row_put_ev acc w1 w2 (by omega)) ?_)
    · simp only [row_encode.l1]
      rw [if_pos (by omega), if_pos (by omega), if_pos (by omega), rd_get xs i _ hx, wrap64_id (by omega) (by omega)]
      rfl
    · rw [List.drop_eq_getElem_cons hlt, List.flatMap_cons, ← List.append_assoc]
      exact ih
theorem marks_code (xs : List S50) (hn : xs.length ≤ 1000) (b : List Int → List Int) (hb : ∀ acc : List Int, acc.length = (xs.length + 3) / 4 → Ev (fun k => row_encode.l1 k acc xs (xs.length : Int) 0) (b acc)) : ∀ (m i : Nat) (acc : List Int), i + m = xs.length → acc.length = (xs.length + 3) / 4 →
    Ev (fun k => row_encode.l0 k xs acc xs (xs.length : Int) (i : Int)) (b (setM (xs.drop i) i acc))
  | 0, i, acc, h, hl => by
    rw [List.drop_of_length_le (by omega)]
    refine Ev.step (g := fun k => row_encode.l1 k acc xs (xs.length : Int) 0) (fun k => ?_) (hb acc hl)
    simp only [row_encode.l0]
    rw [if_neg (by omega)]
  | m + 1, i, acc, h, hl => by
    have hlt : i < xs.length := by omega
    have hx : xs[i]? = some xs[i] := List.getElem?_eq_getElem hlt
    have ih := marks_code xs hn b hb m (i + 1) (acc.set (i / 4) (Go.bits .or .u8 (rd acc ((i / 4 : Nat) : Int)) (shl .u8 (mark xs[i]) ((2 * (i % 4) : Nat) : Int)))) (by omega) (by simpa using hl)
    rw [List.drop_eq_getElem_cons hlt]
    refine Ev.step (g := fun k => row_encode.l0 k xs (acc.set (i / 4) (Go.bits .or .u8 (rd acc ((i / 4 : Nat) : Int)) (shl .u8 (mark xs[i]) ((2 * (i % 4) : Nat) : Int)))) xs (xs.length : Int) ((i + 1 : Nat) : Int)) (fun k => ?_) ih
    simp only [row_encode.l0, tdiv4, tmod4]
    rw [wrap64_id (n := ((i / 4 : Nat) : Int)) (by omega) (by omega), wrap64_id (n := 2 * ((i % 4 : Nat) : Int)) (by omega) (by omega), wrap64_id (n := (i : Int) + 1) (by omega) (by omega), rd_get xs i _ hx, mark_code]
    rw [if_pos (by omega), if_pos (by omega), if_pos (by omega), if_pos (by omega), if_pos (by omega)]
    simp only [Option.bind_some]
    rw [if_pos (by omega)]
    have e : 2 * ((i % 4 : Nat) : Int) = ((2 * (i % 4) : Nat) : Int) := by omega
    rw [e]
    rfl
theorem rowB_code (xs : List S50) (hn : xs.length ≤ 1000) (hw : ∀ v ∈ xs, wf50 v ∧ v.f3.size ≤ 65536) : Ev (fun k => row_encode.f k xs) (rowB xs) := by
  have e1 : wrap64 (Int.tdiv (wrap64 ((wrap64 (2 * (xs.length : Int))) + 7)) 8) = (((xs.length + 3) / 4 : Nat) : Int) := by
    rw [wrap64_id (n := 2 * (xs.length : Int)) (by omega) (by omega), wrap64_id (n := 2 * (xs.length : Int) + 7) (by omega) (by omega)]
    have e : Int.tdiv (2 * (xs.length : Int) + 7) 8 = (((2 * xs.length + 7) / 8 : Nat) : Int) := rfl
    rw [e, wrap64_id (by omega) (by omega)]; omega
  simp only [row_encode.f, e1]
  refine Ev.pos (by omega) (Ev.pos (by omega) ?_)
  have := marks_code xs hn (fun acc => acc ++ xs.flatMap toldB) (fun acc hl => by
    have := tails_code xs hn hw xs.length 0 acc (by omega) (by omega)
    simpa using this) xs.length 0 (List.replicate ((xs.length + 3) / 4) 0) (by omega) (by simp)
  exact this
theorem admRow_ok : ∀ {cs : List S105} {vs : List S50}, vs.length ≤ cs.length → admRow cs vs = 0 → ∀ v ∈ vs, chkV v = 0
  | _, [], _, _ => by simp
  | [], v :: vs, h, _ => by simp at h
  | c :: cs, v :: vs, h, h0 => by
    simp only [admRow] at h0
    by_cases hc : chk v.f0 v.f1 v.f2 v.f3 = 0
    · rw [if_neg (by simp [hc])] at h0
      have hr : admRow cs vs = 0 := by
        by_cases h1 : v.f0 = 0
        · rw [if_pos h1] at h0
          by_cases h2 : c.f2 = true
          · rwa [if_pos h2] at h0
          · rw [if_neg h2] at h0; cases h0
        · rw [if_neg h1] at h0
          by_cases h2 : v.f0 = c.f1
          · rwa [if_pos h2] at h0
          · rw [if_neg h2] at h0; cases h0
      intro x hx
      rcases List.mem_cons.1 hx with rfl | hx
      · exact hc
      · exact admRow_ok (by simpa using h) hr x hx
    · rw [if_pos hc] at h0; exact absurd h0 hc
theorem checkT_len {a : ByteArray} {c : List S105} {d : List Int} {e : List S115} {f : List S139} (h : checkT a c d e f = 0) : c.length ≤ 64 := by
  unfold checkT at h
  split at h
  · cases h
  · split at h
    · cases h
    · rename_i h2; omega
theorem admT_ok {a : ByteArray} {c : List S105} {d : List Int} {e : List S115} {f : List S139} {row : List S50} (h : admT a c d e f row = 0) : row.length ≤ 64 ∧ ∀ v ∈ row, chkV v = 0 := by
  unfold admT at h
  by_cases h0 : checkT a c d e f = 0
  · rw [if_neg (by simp [h0])] at h
    by_cases h1 : row.length = c.length
    · rw [if_neg (by simp [h1])] at h
      exact ⟨by rw [h1]; exact checkT_len h0, admRow_ok (by omega) h⟩
    · rw [if_pos h1] at h; cases h
  · rw [if_pos h0] at h; exact absurd h h0
theorem wf65_T {x : S65} (h : wf65 x) : WfT x.f0 x.f1 x.f2 x.f3 x.f4 := by
  obtain ⟨h0, h1, h2, h3, h4⟩ := h
  exact ⟨h0, fun c hc => ⟨(h1.2 c hc).1, (h1.2 c hc).2.2.2.2.2.2⟩, by omega, fun y hy => ⟨(h3.2 y hy).1, by have := (h3.2 y hy).2.1.1; omega⟩, fun y hy => ⟨(h4.2 y hy).2, by have := (h4.2 y hy).1.1; omega⟩⟩
theorem wfT_wfTB {a : ByteArray} {c : List S105} {d : List Int} {e : List S115} {f : List S139} (h : WfT a c d e f) : wfTB a c d e f = true := by
  unfold wfTB
  simp only [Bool.and_eq_true, decide_eq_true_eq, List.all_eq_true]
  exact ⟨⟨⟨⟨h.name, fun x hx => h.cols x hx⟩, h.key⟩, fun x hx => h.idx x hx⟩, fun x hx => h.refs x hx⟩
theorem admits_f {a : ByteArray} {c : List S105} {d : List Int} {e : List S115} {f : List S139} {row : List S50} (h : WfT a c d e f) (hr : ∀ v ∈ row, wf50 v) : schema_Admits.f a c d e f row = some (admT a c d e f row) := by
  unfold schema_Admits.f
  have h2 : okV row = true := List.all_eq_true.2 fun v hv => decide_eq_true (hr v hv).2.2.2
  rw [if_pos (by rw [wfT_wfTB h, h2]; rfl)]
/-- What both sides tell of a row. -/
def encR (a : ByteArray) (c : List S105) (d : List Int) (e : List S115) (f : List S139) (row : List S50) : ByteArray × Int :=
  if admT a c d e f row = 0 then (if 65536 < (rowB row).length then ((⟨#[]⟩ : ByteArray), 3) else (strOfNums (rowB row), 0)) else ((⟨#[]⟩ : ByteArray), admT a c d e f row)
theorem encR_code {a : ByteArray} {c : List S105} {d : List Int} {e : List S115} {f : List S139} {row : List S50} (h : WfT a c d e f) (hr : ∀ v ∈ row, wf50 v) : Ev (fun k => row_Encode.f k a c d e f row) (encR a c d e f row) := by
  simp only [row_Encode.f, admits_f h hr, Option.bind_some]
  unfold encR
  by_cases h0 : admT a c d e f row = 0
  · obtain ⟨g1, g2⟩ := admT_ok h0
    rw [if_pos h0]
    refine Ev.pos h0 (Ev.bind (rowB_code row (by omega) (fun v hv => ⟨hr v hv, (chk_ok (g2 v hv)).2⟩)) ?_)
    by_cases hl : 65536 < (rowB row).length
    · rw [if_pos hl]; exact Ev.pos (by omega) Ev.pure
    · rw [if_neg hl]; exact Ev.neg (by omega) Ev.pure
  · rw [if_neg h0]; exact Ev.neg h0 Ev.pure
def cA : S105 := ⟨(⟨#[97]⟩ : ByteArray), 2, false, (⟨0, 0, 0, (⟨#[]⟩ : ByteArray)⟩ : S50)⟩
def cB : S105 := ⟨(⟨#[98]⟩ : ByteArray), 4, true, (⟨0, 0, 0, (⟨#[]⟩ : ByteArray)⟩ : S50)⟩
def rowS : List S50 := [(⟨2, 5, 0, (⟨#[]⟩ : ByteArray)⟩ : S50), (⟨4, 0, 0, (⟨#[97]⟩ : ByteArray)⟩ : S50)]
theorem small_wf : WfT (⟨#[116]⟩ : ByteArray) [cA, cB] [0] [] [] := by
  refine ⟨by decide, ?_, by decide, by simp, by simp⟩
  intro c hc
  simp at hc
  rcases hc with rfl | rfl
  · exact ⟨by decide, by decide⟩
  · exact ⟨by decide, by decide⟩
theorem small_row : ∀ v ∈ rowS, wf50 v := by
  intro v hv
  simp [rowS] at hv
  rcases hv with rfl | rfl
  · exact ⟨by decide, by decide, by decide, by decide⟩
  · exact ⟨by decide, by decide, by decide, by decide⟩
theorem small_adm : admT (⟨#[116]⟩ : ByteArray) [cA, cB] [0] [] [] rowS = 0 := by decide +kernel
theorem vb_small (n : Nat) (h : n < 128) : vb n = [(n : Int)] := by rw [vb.eq_1, dif_neg (by omega)]
theorem small_rowB : rowB rowS = [5, 10, 1, 97] := by
  have e1 : setM rowS 0 (List.replicate ((rowS.length + 3) / 4) 0) = [5] := by decide +kernel
  have e2 : rowS.flatMap toldB = [10, 1, 97] := by
    have h1 : toldB (⟨2, 5, 0, (⟨#[]⟩ : ByteArray)⟩ : S50) = [10] := by
      simp only [toldB]; rw [if_pos trivial]
      have : zz 5 = 10 := by decide
      rw [this, vb_small 10 (by decide)]; rfl
    have h2 : toldB (⟨4, 0, 0, (⟨#[97]⟩ : ByteArray)⟩ : S50) = [1, 97] := by
      simp only [toldB]
      rw [if_neg (by decide), if_neg (by decide), if_pos (by decide)]
      have : (⟨#[97]⟩ : ByteArray).size = 1 := rfl
      rw [this, vb_small 1 (by decide)]; rfl
    simp only [rowS, List.flatMap_cons, List.flatMap_nil, h1, h2]; rfl
  unfold rowB
  rw [e1, e2]; rfl
theorem awake4_ev : Ev (fun k => vellumlaw04_awake.f k) true := by
  simp only [vellumlaw04_awake.f, vellumlaw04_small.f, Option.bind_some]
  have h := encR_code small_wf small_row
  have he : encR (⟨#[116]⟩ : ByteArray) [cA, cB] [0] [] [] rowS = (strOfNums [5, 10, 1, 97], 0) := by
    unfold encR
    rw [if_pos small_adm, small_rowB, if_neg (by decide)]
  rw [he] at h
  refine Ev.bind h ?_
  exact Ev.pos rfl (Ev.const (by decide +kernel))
end Go.Proofs.YtpiifdbicibelaaDoor.Pure
end
section
namespace Go.Proofs.YtpiifdbicibelaaDoor.PA
open Go.RowKit Go.Proofs.YtpiifdbicibelaaDoorW.PrintWords Go.Proofs.YtpiifdbicibelaaDoorW.PrintLast Go.Proofs.YtpiifdbicibelaaDoorW.PrintMore
attribute [local go_sem] max2_int min2_int max_two min_two max_three min_three max_four min_four
set_option linter.unusedVariables false
set_option linter.unusedSimpArgs false
def row_Change.l0 : Nat → List (S50) → List (S50) → List Int → Int → Int → Int → Option (ByteArray × Int)
  | 0, _, _, _, _, _, _ => none
  | k + 1, x1, x2, x10, x11, x26, x27 => if x27 < x26 then (if 0 ≤ x27 then (if x27 < (x1.length : Int) then (if x27 < (x2.length : Int) then ((row_same.f ((rd_T50 x1 x27).f0) ((rd_T50 x1 x27).f1) ((rd_T50 x1 x27).f2) ((rd_T50 x1 x27).f3) ((rd_T50 x2 x27).f0) ((rd_T50 x2 x27).f1) ((rd_T50 x2 x27).f2) ((rd_T50 x2 x27).f3)).bind fun t751 => (if t751 = true then (row_Change.l0 k x1 x2 x10 x11 x26 (wrap64 (x27 + 1))) else ((row_putVarint.f k x10 (IntKind.u64.wrap (wrap64 (x27 - x11)))).bind fun t752 => (if x27 ≤ (wrap64 (x27 + 1)) then (if (wrap64 (x27 + 1)) ≤ (x2.length : Int) then ((row_encode.f k ((x2.take ((wrap64 (x27 + 1)) : Int).toNat).drop (x27 : Int).toNat)).bind fun t759 => (if t752.length + t759.length < 140737488355328 then (row_Change.l0 k x1 x2 (t752 ++ t759) (wrap64 (x27 + 1)) x26 (wrap64 (x27 + 1))) else (none))) else (none)) else (none))))) else (none)) else (none)) else (none)) else (if (x10.length : Int) > 65536 then (some ((⟨#[]⟩ : ByteArray), 3)) else (some (strOfNums x10, 0)))
def row_Change.f (k : Nat) (a0_0 : ByteArray) (l0_1 : List (S105)) (l0_2 : List Int) (l0_3 : List (S115)) (l0_4 : List (S139)) (l1 : List (S50)) (l2 : List (S50)) : Option (ByteArray × Int) := (schema_Admits.f a0_0 l0_1 l0_2 l0_3 l0_4 l1).bind fun t747 => (if t747 = 0 then ((schema_Admits.f a0_0 l0_1 l0_2 l0_3 l0_4 l2).bind fun t748 => (if t748 = 0 then (row_Change.l0 k l1 l2 ([] : List Int) 0 (l2.length : Int) 0) else (some ((⟨#[]⟩ : ByteArray), t748)))) else (some ((⟨#[]⟩ : ByteArray), t747)))
def row_Change.T12 : Bool × List (List Nat × List Nat) := (true, [([], []), ([], []), ([0, 1], [0, 1]), ([2], [2]), ([], []), ([], []), ([4, 5], [4, 5]), ([6], [6]), ([3, 7], [3, 7]), ([8], [8])])
def row_Change.B12 : List Nat := [0, 0, 3, 7, 0, 0, 48, 112, 255, 511]
theorem row_Change.tab12 : rtab .any (opsOf Tryd.f55 12) = row_Change.T12 := by kernel_rfl
theorem row_Change.bits12 : waitsOk row_Change.T12.2 row_Change.B12 = true := by kernel_rfl
set_option maxHeartbeats 8000000 in
set_option maxRecDepth 100000 in
theorem row_Change.calls (k : Nat) (a0_0 : ByteArray) (A0_1 : Option Addr) (c0_1 : Nat) (l0_1 : List (S105)) (A0_2 : Option Addr) (c0_2 : Nat) (l0_2 : List Int) (A0_3 : Option Addr) (c0_3 : Nat) (l0_3 : List (S115)) (A0_4 : Option Addr) (c0_4 : Nat) (l0_4 : List (S139)) (A1 : Option Addr) (c1 : Nat) (l1 : List (S50)) (A2 : Option Addr) (c2 : Nat) (l2 : List (S50)) (r1 : ByteArray) (r2 : Int) (w : World) (hr0_1 : Kd.C k105 w A0_1 l0_1.length l0_1) (hc0_1 : l0_1.length ≤ c0_1) (hr0_2 : Kd.C (Kd.int .i64) w A0_2 l0_2.length l0_2) (hc0_2 : l0_2.length ≤ c0_2) (hr0_3 : Kd.C k115 w A0_3 l0_3.length l0_3) (hc0_3 : l0_3.length ≤ c0_3) (hr0_4 : Kd.C k139 w A0_4 l0_4.length l0_4) (hc0_4 : l0_4.length ≤ c0_4) (hr1 : Kd.C k50 w A1 l1.length l1) (hc1 : l1.length ≤ c1) (hr2 : Kd.C k50 w A2 l2.length l2) (hc2 : l2.length ≤ c2) (hG : Glob w) (h : row_Change.f k a0_0 l0_1 l0_2 l0_3 l0_4 l1 l2 = some (r1, r2)) :
    Calls Tryd.prog 55 #[.agg #[.string a0_0, .slice A0_1 l0_1.length c0_1, .slice A0_2 l0_2.length c0_2, .slice A0_3 l0_3.length c0_3, .slice A0_4 l0_4.length c0_4], .slice A1 l1.length c1, .slice A2 l2.length c2] w fun e w' => e = .returned (.tuple #[.string r1, .int .i64 r2]) ∧ Below w.heap.size w w' := by
  have hu65 := Tryd.underlying65
  have hu50 := Tryd.underlying50
  have HR0_1 := am hr0_1
  have HC0_1 := am hc0_1
  clear hr0_1 hc0_1
  have HR0_2 := am hr0_2
  have HC0_2 := am hc0_2
  clear hr0_2 hc0_2
  have HR0_3 := am hr0_3
  have HC0_3 := am hc0_3
  clear hr0_3 hc0_3
  have HR0_4 := am hr0_4
  have HC0_4 := am hc0_4
  clear hr0_4 hc0_4
  have HR1 := am hr1
  have HC1 := am hc1
  clear hr1 hc1
  have HR2 := am hr2
  have HC2 := am hc2
  clear hr2 hc2
  have HG := am hG
  clear hG
  have HB := am (Below.refl w.heap.size w)
  have H : ((schema_Admits.f a0_0 l0_1 l0_2 l0_3 l0_4 l1).bind fun t747 => (if t747 = 0 then ((schema_Admits.f a0_0 l0_1 l0_2 l0_3 l0_4 l2).bind fun t748 => (if t748 = 0 then (row_Change.l0 k l1 l2 ([] : List Int) 0 (l2.length : Int) 0) else (some ((⟨#[]⟩ : ByteArray), t748)))) else (some ((⟨#[]⟩ : ByteArray), t747)))) = some (r1, r2) := h
  clear h
  replace H := Option.bind_eq_some_iff.mp H
  obtain ⟨t747, A40, H⟩ := H
  replace H : (if t747 = 0 then ((schema_Admits.f a0_0 l0_1 l0_2 l0_3 l0_4 l2).bind fun t748 => (if t748 = 0 then (row_Change.l0 k l1 l2 ([] : List Int) 0 (l2.length : Int) 0) else (some ((⟨#[]⟩ : ByteArray), t748)))) else (some ((⟨#[]⟩ : ByteArray), t747))) = some (r1, r2) := H
  have A4 := am A40
  clear A40
  by_cases c5 : t747 = 0
  · rw [if_pos c5] at H
    have c5b0 : (t747 == 0) = true := beq_iff_eq.mpr c5
    have c5b1 : (t747 != 0) = false := bne_eq_false_iff_eq.mpr c5
    clear c5
    replace H := Option.bind_eq_some_iff.mp H
    obtain ⟨t748, A60, H⟩ := H
    replace H : (if t748 = 0 then (row_Change.l0 k l1 l2 ([] : List Int) 0 (l2.length : Int) 0) else (some ((⟨#[]⟩ : ByteArray), t748))) = some (r1, r2) := H
    have A6 := am A60
    clear A60
    by_cases c7 : t748 = 0
    · rw [if_pos c7] at H
      have c7b0 : (t748 == 0) = true := beq_iff_eq.mpr c7
      have c7b1 : (t748 != 0) = false := bne_eq_false_iff_eq.mpr c7
      clear c7
      have H' := am H
      clear H
      go_enter Tryd.func55, Tryd.ntmps55
      go_wp2_with (first | ((with_reducible refine gate_dst (N := 3) rfl ?_); refine box_event rfl (N := 3) rfl (cs := #[.string a0_0, .slice A0_1 l0_1.length c0_1, .slice A0_2 l0_2.length c0_2, .slice A0_3 l0_3.length c0_3, .slice A0_4 l0_4.length c0_4]) (t := 65) gs ?_; intro gb746 hg w8 hbox hb; have BK746 := am (hbox); have GW746 := gw hg HB; have GE746 := gw hg HB; replace HB := sb HB hb; clear hb hbox hg; obtain ⟨Z9_0, Z9_1, Z9_2, Z9_3, Z9_4, Y9_0, Y9_1, Y9_2, Y9_3, Y9_4⟩ := bq5 BK746) | ((with_reducible refine gate_callee (f := 83) rfl ?_); refine goesL_ (some 15) rfl rfl Tryd.func83 (by kernel_rfl) rfl #[.agg #[.string a0_0, .slice A0_1 l0_1.length c0_1, .slice A0_2 l0_2.length c0_2, .slice A0_3 l0_3.length c0_3, .slice A0_4 l0_4.length c0_4], .slice A1 l1.length c1] rfl ar ?_; (with_reducible refine (schema_Admits.calls a0_0 _ _ l0_1 _ _ l0_2 _ _ l0_3 _ _ l0_4 _ _ l1 t747 _ (Kd.cb HR0_1 HB) HC0_1.out (Kd.cb HR0_2 HB) HC0_2.out (Kd.cb HR0_3 HB) HC0_3.out (Kd.cb HR0_4 HB) HC0_4.out (Kd.cb HR1 HB) HC1.out (Glob.below HG.out (bl HB)) A4.out).mono ?_); rintro e w10 ⟨rfl, hb⟩; refine ⟨_, rfl, ?_⟩; replace BK746 := kb BK746 hb; replace HB := sb HB hb; (try clear hb); (try clear hb2 hk hi); obtain ⟨Z11_0, Z11_1, Z11_2, Z11_3, Z11_4, Y11_0, Y11_1, Y11_2, Y11_3, Y11_4⟩ := bq5 BK746) | ((with_reducible refine gate_callee (f := 83) rfl ?_); refine goesL_ (some 21) rfl rfl Tryd.func83 (by kernel_rfl) rfl #[.agg #[.string a0_0, .slice A0_1 l0_1.length c0_1, .slice A0_2 l0_2.length c0_2, .slice A0_3 l0_3.length c0_3, .slice A0_4 l0_4.length c0_4], .slice A2 l2.length c2] rfl ar ?_; (with_reducible refine (schema_Admits.calls a0_0 _ _ l0_1 _ _ l0_2 _ _ l0_3 _ _ l0_4 _ _ l2 t748 _ (Kd.cb HR0_1 HB) HC0_1.out (Kd.cb HR0_2 HB) HC0_2.out (Kd.cb HR0_3 HB) HC0_3.out (Kd.cb HR0_4 HB) HC0_4.out (Kd.cb HR2 HB) HC2.out (Glob.below HG.out (bl HB)) A6.out).mono ?_); rintro e w12 ⟨rfl, hb⟩; refine ⟨_, rfl, ?_⟩; replace BK746 := kb BK746 hb; replace HB := sb HB hb; (try clear hb); (try clear hb2 hk hi)))
      go_loopg [10, 11, 27] k (fun kq v10 v11 v27 w' => ∃ (x10_1 : List Int) (x11_1 : Int) (x27_1 : Int), v11 = .int .i64 x11_1 ∧ v27 = .int .i64 x27_1 ∧ Aside0 (row_Change.l0 kq l1 l2 x10_1 x11_1 (l2.length : Int) x27_1 = some (r1, r2)) ∧ Aside0 (kq ≤ k) ∧ Aside0 (Kd.R (Kd.int .u8) 5 w' w.heap.size (fun _ => True) v10 x10_1) ∧ Aside0 (w'.heap[gb746]? = some (.cells #[.string a0_0, (.slice A0_1 l0_1.length c0_1), (.slice A0_2 l0_2.length c0_2), (.slice A0_3 l0_3.length c0_3), (.slice A0_4 l0_4.length c0_4)] 65 (0, 0))) ∧ Aside0 (Below w.heap.size w w'))
      case atStart => exact ⟨(([] : List Int)), (0), (0), eb, eb, H', ⟨Nat.le_refl _⟩, ⟨by first | exact Kd.R_nil _ _ _ _ _ | exact Kd.N_nil _ _ _ _ _ | exact Kd.V_nil _ _ _ _ _ | exact Kd.Q_nil _ _ _ _ _ | exact Kd.S_nil _ _ _ _ _⟩, ⟨bk BK746⟩, ⟨bl HB⟩⟩
      case round =>
        clear H'
        try clear c1
        try clear c2
        try clear p2
        try clear c5
        try clear c5b0
        try clear c5b1
        try clear c7
        try clear c7b0
        try clear c7b1
        try clear c8
        try clear Z11_0
        try clear Z11_1
        try clear Z11_2
        try clear Z11_3
        try clear Z11_4
        try clear Z9_0
        try clear Z9_1
        try clear Z9_2
        try clear Z9_3
        try clear Z9_4
        try clear Y11_0
        try clear Y11_1
        try clear Y11_2
        try clear Y11_3
        try clear Y11_4
        try clear Y9_0
        try clear Y9_1
        try clear Y9_2
        try clear Y9_3
        try clear Y9_4
        obtain ⟨x10_1, x11_1, x27_1, rfl, rfl, HA, HK1, HO_10, BK746, HB⟩ := hrel
        cases gk with
        | zero => exact absurd HA.out (by simp [row_Change.l0])
        | succ k1 =>
          have H := HA.out
          clear HA
          simp only [row_Change.l0] at H
          by_cases c13 : x27_1 < (l2.length : Int)
          · rw [if_pos c13] at H
            have c13b0 : decide (x27_1 < (l2.length : Int)) = true := decide_eq_true c13
            clear c13
            by_cases c14 : 0 ≤ x27_1
            · rw [if_pos c14] at H
              have c14b0 : decide (0 ≤ x27_1) = true := decide_eq_true c14
              clear c14
              by_cases c15 : x27_1 < (l1.length : Int)
              · rw [if_pos c15] at H
                have c15b0 : decide (x27_1 < (l1.length : Int)) = true := decide_eq_true c15
                clear c15
                by_cases c16 : x27_1 < (l2.length : Int)
                · rw [if_pos c16] at H
                  have c16b0 : decide (x27_1 < (l2.length : Int)) = true := decide_eq_true c16
                  clear c16
                  replace H := Option.bind_eq_some_iff.mp H
                  obtain ⟨t751, A170, H⟩ := H
                  replace H : (if t751 = true then (row_Change.l0 k1 l1 l2 x10_1 x11_1 (l2.length : Int) (wrap64 (x27_1 + 1))) else ((row_putVarint.f k1 x10_1 (IntKind.u64.wrap (wrap64 (x27_1 - x11_1)))).bind fun t752 => (if x27_1 ≤ (wrap64 (x27_1 + 1)) then (if (wrap64 (x27_1 + 1)) ≤ (l2.length : Int) then ((row_encode.f k1 ((l2.take ((wrap64 (x27_1 + 1)) : Int).toNat).drop (x27_1 : Int).toNat)).bind fun t759 => (if t752.length + t759.length < 140737488355328 then (row_Change.l0 k1 l1 l2 (t752 ++ t759) (wrap64 (x27_1 + 1)) (l2.length : Int) (wrap64 (x27_1 + 1))) else (none))) else (none)) else (none)))) = some (r1, r2) := H
                  have A17 := am A170
                  clear A170
                  by_cases c18 : t751 = true
                  · subst c18
                    have H1 : (row_Change.l0 k1 l1 l2 x10_1 x11_1 (l2.length : Int) (wrap64 (x27_1 + 1))) = some (r1, r2) := by rw [if_pos rfl] at H; exact H
                    clear H
                    have H := H1
                    clear H1
                    have H' := am H
                    clear H
                    try go_wp2
                    have n0_ := am (Kd.R_drew HO_10.out)
                    have n1_ := am (blk_drew BK746.out)
                    have n2_ := am (below_drew1 HB.out)
                    clear HO_10
                    clear BK746
                    clear HB
                    have HO_10 := n0_
                    have BK746 := n1_
                    have HB := n2_
                    clear n0_ n1_ n2_
                    have p749 : 0 ≤ (x27_1 : Int) := oda
                    have q749 : x27_1 < (l1.length : Int) := oda
                    obtain ⟨ad749, e749, hx749_0, hx749_1, hx749_2, hx749_3⟩ := at_T50 HR1.out x27_1 p749 q749
                    have hw749_3 := hx749_3
                    have hw749_2 := hx749_2
                    have hw749_1 := hx749_1
                    have hw749_0 := hx749_0
                    cases e749
                    replace hx749_0 := hc HB hx749_0
                    replace hx749_1 := hc HB hx749_1
                    replace hx749_2 := hc HB hx749_2
                    replace hx749_3 := hc HB hx749_3
                    replace p749 := eq_true p749
                    replace q749 := eq_true q749
                    have p750 : 0 ≤ (x27_1 : Int) := oda
                    have q750 : x27_1 < (l2.length : Int) := oda
                    obtain ⟨ad750, e750, hx750_0, hx750_1, hx750_2, hx750_3⟩ := at_T50 HR2.out x27_1 p750 q750
                    have hw750_3 := hx750_3
                    have hw750_2 := hx750_2
                    have hw750_1 := hx750_1
                    have hw750_0 := hx750_0
                    cases e750
                    replace hx750_0 := hc HB hx750_0
                    replace hx750_1 := hc HB hx750_1
                    replace hx750_2 := hc HB hx750_2
                    replace hx750_3 := hc HB hx750_3
                    replace p750 := eq_true p750
                    replace q750 := eq_true q750
                    refine start_ (n := 10) (S := fun w' => w'.cell? (ad749.add ((x27_1).toNat * 4)) = some (.int .i64 ((rd_T50 l1 x27_1).f0)) ∧ w'.cell? ⟨(ad749.add ((x27_1).toNat * 4)).block, (ad749.add ((x27_1).toNat * 4)).off + 1, none⟩ = some (.int .i64 ((rd_T50 l1 x27_1).f1)) ∧ w'.cell? ⟨(ad749.add ((x27_1).toNat * 4)).block, (ad749.add ((x27_1).toNat * 4)).off + 2, none⟩ = some (.float .f64 ((rd_T50 l1 x27_1).f2)) ∧ w'.cell? ⟨(ad749.add ((x27_1).toNat * 4)).block, (ad749.add ((x27_1).toNat * 4)).off + 3, none⟩ = some (.string ((rd_T50 l1 x27_1).f3)) ∧ w'.cell? (ad750.add ((x27_1).toNat * 4)) = some (.int .i64 ((rd_T50 l2 x27_1).f0)) ∧ w'.cell? ⟨(ad750.add ((x27_1).toNat * 4)).block, (ad750.add ((x27_1).toNat * 4)).off + 1, none⟩ = some (.int .i64 ((rd_T50 l2 x27_1).f1)) ∧ w'.cell? ⟨(ad750.add ((x27_1).toNat * 4)).block, (ad750.add ((x27_1).toNat * 4)).off + 2, none⟩ = some (.float .f64 ((rd_T50 l2 x27_1).f2)) ∧ w'.cell? ⟨(ad750.add ((x27_1).toNat * 4)).block, (ad750.add ((x27_1).toNat * 4)).off + 3, none⟩ = some (.string ((rd_T50 l2 x27_1).f3))) (ds := []) (bb 0 10) (by kernel_rfl) rfl rfl ⟨(hc HB hw749_0), (hc HB hw749_1), (hc HB hw749_2), (hc HB hw749_3), (hc HB hw750_0), (hc HB hw750_1), (hc HB hw750_2), (hc HB hw750_3)⟩ (fun hHeld => ?_); refine with_tabW row_Change.tab12 row_Change.bits12 (fun HT_ HW_ => ?_)
                    generalize wr.drew = w19 at HO_10 BK746 HB hx749_0 hx749_1 hx749_2 hx749_3 hx750_0 hx750_1 hx750_2 hx750_3 hHeld ⊢
                    refine pu HT_ 0 (some 30) (bb 1 10) ?_
                    refine pu HT_ 1 (some 31) (bb 2 10) ?_
                    refine pu HT_ 2 (some 32) (bb 3 10) ?_
                    refine pu HT_ 4 (some 34) (bs 10 23) ?_
                    refine pu HT_ 5 (some 35) (bs 10 55) ?_
                    refine pu HT_ 6 (some 36) (bs 10 119) ?_
                    refine tk HT_ HW_ hHeld 3 (some 33) (bb 7 10) ?_
                    refine tk HT_ HW_ hHeld 7 (some 37) (bb 8 10) ?_
                    refine one_ (i := 8) (N := some 38) (bb 9 10) rfl rfl (one_of HT_.out (by kernel_rfl)) (by decide) (fun K hK => ?_)
                    refine goes_ Tryd.func88 (by kernel_rfl) rfl #[.agg #[.int .i64 ((rd_T50 l1 x27_1).f0), .int .i64 ((rd_T50 l1 x27_1).f1), .float .f64 ((rd_T50 l1 x27_1).f2), .string ((rd_T50 l1 x27_1).f3)], .agg #[.int .i64 ((rd_T50 l2 x27_1).f0), .int .i64 ((rd_T50 l2 x27_1).f1), .float .f64 ((rd_T50 l2 x27_1).f2), .string ((rd_T50 l2 x27_1).f3)]] (by rfl) rfl rfl ar ?_
                    with_reducible refine (row_same.calls ((rd_T50 l1 x27_1).f0) ((rd_T50 l1 x27_1).f1) ((rd_T50 l1 x27_1).f2) ((rd_T50 l1 x27_1).f3) ((rd_T50 l2 x27_1).f0) ((rd_T50 l2 x27_1).f1) ((rd_T50 l2 x27_1).f2) ((rd_T50 l2 x27_1).f3) true _ A17.out).mono ?_
                    rintro e w20 ⟨rfl, hb⟩
                    refine ⟨_, rfl, ?_⟩
                    have n0_ := am (Kd.R_below (Kd.rr HO_10.out) hb)
                    have n1_ := kb BK746 hb
                    have n2_ := sb HB hb
                    clear HO_10
                    clear BK746
                    clear HB
                    have HO_10 := n0_
                    have BK746 := n1_
                    have HB := n2_
                    clear n0_ n1_ n2_
                    (try clear hb)
                    (try clear hb2)
                    (try clear hk)
                    (try clear hi)
                    refine hK.out _ _ ⟨(hc HB hw749_0), (hc HB hw749_1), (hc HB hw749_2), (hc HB hw749_3), (hc HB hw750_0), (hc HB hw750_1), (hc HB hw750_2), (hc HB hw750_3)⟩ (fun hHeld => ?_)
                    clear hK K
                    refine norm_ (a' := ?_) ?_ ?_
                    rotate_left
                    · show Act.put _ (some 38) _ = _
                      simp only [Act.put, List.setIfInBounds_toArray, List.set_cons_zero, List.set_cons_succ, i64_w, i32_w]
                      rfl
                    refine pu HT_ 9 (some 39) (bb 10 10) ?_
                    refine done_ (done_of HT_.out (by kernel_rfl)) ?_
                    try go_wp2
                    go_roundg k1
                    case measure => have := HK1.out; omega
                    case rel => exact ⟨(x10_1), (x11_1), (wrap64 (x27_1 + 1)), eb, eb, H', ⟨by have := HK1.out; omega⟩, ⟨Kd.rr HO_10.out⟩, ⟨bk BK746⟩, ⟨bl HB⟩⟩
                  · replace c18 := Bool.eq_false_iff.mpr c18
                    subst c18
                    have H1 : ((row_putVarint.f k1 x10_1 (IntKind.u64.wrap (wrap64 (x27_1 - x11_1)))).bind fun t752 => (if x27_1 ≤ (wrap64 (x27_1 + 1)) then (if (wrap64 (x27_1 + 1)) ≤ (l2.length : Int) then ((row_encode.f k1 ((l2.take ((wrap64 (x27_1 + 1)) : Int).toNat).drop (x27_1 : Int).toNat)).bind fun t759 => (if t752.length + t759.length < 140737488355328 then (row_Change.l0 k1 l1 l2 (t752 ++ t759) (wrap64 (x27_1 + 1)) (l2.length : Int) (wrap64 (x27_1 + 1))) else (none))) else (none)) else (none))) = some (r1, r2) := by rw [if_neg (show ¬ (false = true) by decide)] at H; exact H
                    clear H
                    have H := H1
                    clear H1
                    replace H := Option.bind_eq_some_iff.mp H
                    obtain ⟨t752, A210, H⟩ := H
                    replace H : (if x27_1 ≤ (wrap64 (x27_1 + 1)) then (if (wrap64 (x27_1 + 1)) ≤ (l2.length : Int) then ((row_encode.f k1 ((l2.take ((wrap64 (x27_1 + 1)) : Int).toNat).drop (x27_1 : Int).toNat)).bind fun t759 => (if t752.length + t759.length < 140737488355328 then (row_Change.l0 k1 l1 l2 (t752 ++ t759) (wrap64 (x27_1 + 1)) (l2.length : Int) (wrap64 (x27_1 + 1))) else (none))) else (none)) else (none)) = some (r1, r2) := H
                    have A21 := am A210
                    clear A210
                    have c22b0 := eq_true (oda : 0 ≤ x27_1)
                    by_cases c23 : x27_1 ≤ (wrap64 (x27_1 + 1))
                    · rw [if_pos c23] at H
                      have c23b0 := eq_true c23
                      have c23b1 : decide (x27_1 ≤ (wrap64 (x27_1 + 1))) = true := decide_eq_true c23
                      by_cases c24 : (wrap64 (x27_1 + 1)) ≤ (l2.length : Int)
                      · rw [if_pos c24] at H
                        have c24b0 := eq_true c24
                        have c24b1 : decide ((wrap64 (x27_1 + 1)) ≤ (l2.length : Int)) = true := decide_eq_true c24
                        obtain ⟨y755, hy755⟩ : ∃ y_ : List (S50), y_ = ((l2.take ((wrap64 (x27_1 + 1)) : Int).toNat).drop (x27_1 : Int).toNat) := ⟨_, rfl⟩
                        replace H : ((row_encode.f k1 y755).bind fun t759 => (if t752.length + t759.length < 140737488355328 then (row_Change.l0 k1 l1 l2 (t752 ++ t759) (wrap64 (x27_1 + 1)) (l2.length : Int) (wrap64 (x27_1 + 1))) else (none))) = some (r1, r2) := by first | (rw [hy755]; with_reducible exact H) | (have H2_ := (Option.bind_some _ _).symm.trans H; rw [hy755]; with_reducible exact H2_) | (have H2_ := (Option.bind_some _ _).symm.trans H; with_reducible exact H2_) | with_reducible exact H | (rw [hy755]; exact H) | exact H
                        have Ny755 := am hy755
                        clear hy755
                        replace H := Option.bind_eq_some_iff.mp H
                        obtain ⟨t759, A250, H⟩ := H
                        replace H : (if t752.length + t759.length < 140737488355328 then (row_Change.l0 k1 l1 l2 (t752 ++ t759) (wrap64 (x27_1 + 1)) (l2.length : Int) (wrap64 (x27_1 + 1))) else (none)) = some (r1, r2) := H
                        have A25 := am A250
                        clear A250
                        by_cases c26 : t752.length + t759.length < 140737488355328
                        · rw [if_pos c26] at H
                          have LMc26 := am c26
                          clear c26
                          obtain ⟨y762, hy762⟩ : ∃ y_ : List Int, y_ = (t752 ++ t759) := ⟨_, rfl⟩
                          replace H : (row_Change.l0 k1 l1 l2 y762 (wrap64 (x27_1 + 1)) (l2.length : Int) (wrap64 (x27_1 + 1))) = some (r1, r2) := by first | (rw [hy762]; with_reducible exact H) | (have H2_ := (Option.bind_some _ _).symm.trans H; rw [hy762]; with_reducible exact H2_) | (have H2_ := (Option.bind_some _ _).symm.trans H; with_reducible exact H2_) | with_reducible exact H | (rw [hy762]; exact H) | exact H
                          have Ny762 := am hy762
                          clear hy762
                          have H' := am H
                          clear H
                          try go_wp2
                          have n0_ := am (Kd.R_drew HO_10.out)
                          have n1_ := am (blk_drew BK746.out)
                          have n2_ := am (below_drew1 HB.out)
                          clear HO_10
                          clear BK746
                          clear HB
                          have HO_10 := n0_
                          have BK746 := n1_
                          have HB := n2_
                          clear n0_ n1_ n2_
                          have p749 : 0 ≤ (x27_1 : Int) := oda
                          have q749 : x27_1 < (l1.length : Int) := oda
                          obtain ⟨ad749, e749, hx749_0, hx749_1, hx749_2, hx749_3⟩ := at_T50 HR1.out x27_1 p749 q749
                          have hw749_3 := hx749_3
                          have hw749_2 := hx749_2
                          have hw749_1 := hx749_1
                          have hw749_0 := hx749_0
                          cases e749
                          replace hx749_0 := hc HB hx749_0
                          replace hx749_1 := hc HB hx749_1
                          replace hx749_2 := hc HB hx749_2
                          replace hx749_3 := hc HB hx749_3
                          replace p749 := eq_true p749
                          replace q749 := eq_true q749
                          have p750 : 0 ≤ (x27_1 : Int) := oda
                          have q750 : x27_1 < (l2.length : Int) := oda
                          obtain ⟨ad750, e750, hx750_0, hx750_1, hx750_2, hx750_3⟩ := at_T50 HR2.out x27_1 p750 q750
                          have hw750_3 := hx750_3
                          have hw750_2 := hx750_2
                          have hw750_1 := hx750_1
                          have hw750_0 := hx750_0
                          cases e750
                          replace hx750_0 := hc HB hx750_0
                          replace hx750_1 := hc HB hx750_1
                          replace hx750_2 := hc HB hx750_2
                          replace hx750_3 := hc HB hx750_3
                          replace p750 := eq_true p750
                          replace q750 := eq_true q750
                          refine start_ (n := 10) (S := fun w' => w'.cell? (ad749.add ((x27_1).toNat * 4)) = some (.int .i64 ((rd_T50 l1 x27_1).f0)) ∧ w'.cell? ⟨(ad749.add ((x27_1).toNat * 4)).block, (ad749.add ((x27_1).toNat * 4)).off + 1, none⟩ = some (.int .i64 ((rd_T50 l1 x27_1).f1)) ∧ w'.cell? ⟨(ad749.add ((x27_1).toNat * 4)).block, (ad749.add ((x27_1).toNat * 4)).off + 2, none⟩ = some (.float .f64 ((rd_T50 l1 x27_1).f2)) ∧ w'.cell? ⟨(ad749.add ((x27_1).toNat * 4)).block, (ad749.add ((x27_1).toNat * 4)).off + 3, none⟩ = some (.string ((rd_T50 l1 x27_1).f3)) ∧ w'.cell? (ad750.add ((x27_1).toNat * 4)) = some (.int .i64 ((rd_T50 l2 x27_1).f0)) ∧ w'.cell? ⟨(ad750.add ((x27_1).toNat * 4)).block, (ad750.add ((x27_1).toNat * 4)).off + 1, none⟩ = some (.int .i64 ((rd_T50 l2 x27_1).f1)) ∧ w'.cell? ⟨(ad750.add ((x27_1).toNat * 4)).block, (ad750.add ((x27_1).toNat * 4)).off + 2, none⟩ = some (.float .f64 ((rd_T50 l2 x27_1).f2)) ∧ w'.cell? ⟨(ad750.add ((x27_1).toNat * 4)).block, (ad750.add ((x27_1).toNat * 4)).off + 3, none⟩ = some (.string ((rd_T50 l2 x27_1).f3))) (ds := []) (bb 0 10) (by kernel_rfl) rfl rfl ⟨(hc HB hw749_0), (hc HB hw749_1), (hc HB hw749_2), (hc HB hw749_3), (hc HB hw750_0), (hc HB hw750_1), (hc HB hw750_2), (hc HB hw750_3)⟩ (fun hHeld => ?_); refine with_tabW row_Change.tab12 row_Change.bits12 (fun HT_ HW_ => ?_)
                          generalize wr.drew = w27 at HO_10 BK746 HB hx749_0 hx749_1 hx749_2 hx749_3 hx750_0 hx750_1 hx750_2 hx750_3 hHeld ⊢
                          refine pu HT_ 0 (some 30) (bb 1 10) ?_
                          refine pu HT_ 1 (some 31) (bb 2 10) ?_
                          refine pu HT_ 2 (some 32) (bb 3 10) ?_
                          refine pu HT_ 4 (some 34) (bs 10 23) ?_
                          refine pu HT_ 5 (some 35) (bs 10 55) ?_
                          refine pu HT_ 6 (some 36) (bs 10 119) ?_
                          refine tk HT_ HW_ hHeld 3 (some 33) (bb 7 10) ?_
                          refine tk HT_ HW_ hHeld 7 (some 37) (bb 8 10) ?_
                          refine one_ (i := 8) (N := some 38) (bb 9 10) rfl rfl (one_of HT_.out (by kernel_rfl)) (by decide) (fun K hK => ?_)
                          refine goes_ Tryd.func88 (by kernel_rfl) rfl #[.agg #[.int .i64 ((rd_T50 l1 x27_1).f0), .int .i64 ((rd_T50 l1 x27_1).f1), .float .f64 ((rd_T50 l1 x27_1).f2), .string ((rd_T50 l1 x27_1).f3)], .agg #[.int .i64 ((rd_T50 l2 x27_1).f0), .int .i64 ((rd_T50 l2 x27_1).f1), .float .f64 ((rd_T50 l2 x27_1).f2), .string ((rd_T50 l2 x27_1).f3)]] (by rfl) rfl rfl ar ?_
                          with_reducible refine (row_same.calls ((rd_T50 l1 x27_1).f0) ((rd_T50 l1 x27_1).f1) ((rd_T50 l1 x27_1).f2) ((rd_T50 l1 x27_1).f3) ((rd_T50 l2 x27_1).f0) ((rd_T50 l2 x27_1).f1) ((rd_T50 l2 x27_1).f2) ((rd_T50 l2 x27_1).f3) false _ A17.out).mono ?_
                          rintro e w28 ⟨rfl, hb⟩
                          refine ⟨_, rfl, ?_⟩
                          have n0_ := am (Kd.R_below (Kd.rr HO_10.out) hb)
                          have n1_ := kb BK746 hb
                          have n2_ := sb HB hb
                          clear HO_10
                          clear BK746
                          clear HB
                          have HO_10 := n0_
                          have BK746 := n1_
                          have HB := n2_
                          clear n0_ n1_ n2_
                          (try clear hb)
                          (try clear hb2)
                          (try clear hk)
                          (try clear hi)
                          refine hK.out _ _ ⟨(hc HB hw749_0), (hc HB hw749_1), (hc HB hw749_2), (hc HB hw749_3), (hc HB hw750_0), (hc HB hw750_1), (hc HB hw750_2), (hc HB hw750_3)⟩ (fun hHeld => ?_)
                          clear hK K
                          refine norm_ (a' := ?_) ?_ ?_
                          rotate_left
                          · show Act.put _ (some 38) _ = _
                            simp only [Act.put, List.setIfInBounds_toArray, List.set_cons_zero, List.set_cons_succ, i64_w, i32_w]
                            rfl
                          refine pu HT_ 9 (some 39) (bb 10 10) ?_
                          refine done_ (done_of HT_.out (by kernel_rfl)) ?_
                          obtain ⟨Ao29, co29, eo29⟩ := Kd.R_slice HO_10.out
                          subst eo29
                          try go_wp2_with (first | ((with_reducible refine gate_callee (f := 89) rfl ?_); refine goesL_ (some 45) rfl rfl Tryd.func89 (by kernel_rfl) rfl #[.slice Ao29 x10_1.length co29, .int .u64 (IntKind.u64.wrap (wrap64 (x27_1 - x11_1)))] rfl ar ?_; (with_reducible refine (row_putVarint.calls k1 (fun k_ => some k_ = (.slice Ao29 x10_1.length co29 : Value).ownBlock) (.slice Ao29 x10_1.length co29) x10_1 (IntKind.u64.wrap (wrap64 (x27_1 - x11_1))) t752 w _ ?side1 ?side2 A21.out).mono ?_); (case side1 => repeat (first | (with_reducible first | exact HB.out | apply below_alloc | apply pw_below_drewN | apply below_drew1 | refine below_set ?_ GE746.out) | exact HB.out)); (case side2 => exact Kd.R_tight rfl HO_10.out); rintro e w30 ⟨v753, rfl, ho0, hb, hkp⟩; refine ⟨_, rfl, ?_⟩; have n0_ := am (blk_kept (bk BK746) hkp (fun hs_ => (fun e_ => (Kd.R_ne HO_10.out BK746.out (by decide)) e_) hs_)); have n1_ := am (Kd.R_mono (ok' := fun k_ => True) ho0 (fun k_ hk_ => trivial)); have n2_ := am (hb); clear BK746; clear HB; clear HO_10; have BK746 := n0_; have HO754 := n1_; have HB := n2_; clear n0_ n1_ n2_; (try clear hb); (try clear hkp); (try clear ho0); have q31 : ((wrap64 (x27_1 + 1)) : Int) ≤ ((l2.length : Int) : Int) := oda; obtain ⟨i031, hi031, _, hsz31, _⟩ := info_parts info50; have hroom31 : l2.length ≤ c2 := HC2.out; have hC31 : Kd.C k50 _ (some ad750) l2.length l2 := HR2.out; have ql31 : (x27_1 : Int) ≤ ((wrap64 (x27_1 + 1)) : Int) := oda; have q031 : (0 : Int) ≤ (x27_1 : Int) := oda; have hcut31 := cut_mid (P := Tryd.prog) 22 50 .i64 .i64 Tryd.underlying22 hi031 4 hsz31 (some ad750) l2.length c2 x27_1 (wrap64 (x27_1 + 1)) q031 ql31 q31 hroom31; have hr31 := Kd.C_mid (lo := (x27_1 : Int).toNat) (hi := ((wrap64 (x27_1 + 1)) : Int).toNat) (c := c2) hC31 (by omega) (by omega) hroom31; obtain ⟨A31, hA31⟩ : ∃ A1, A1 = (if c2 = (x27_1 : Int).toNat then (some ad750) else ((some ad750) : Option Addr).map (·.add ((x27_1 : Int).toNat * 4))) := ⟨_, rfl⟩; obtain ⟨c31, hc31⟩ : ∃ c1, c1 = c2 - (x27_1 : Int).toNat := ⟨_, rfl⟩; have hy31 : y755.length = ((wrap64 (x27_1 + 1)) : Int).toNat - (x27_1 : Int).toNat := (by rw [Ny755.out, List.length_drop, List.length_take] <;> omega); rw [show ((l2).take ((wrap64 (x27_1 + 1)) : Int).toNat).drop (x27_1 : Int).toNat = y755 from Ny755.out.symm] at hr31; replace hr31 : Kd.C k50 _ A31 y755.length y755 := (by rw [hA31]; exact hr31); rw [← hy31, ← hA31, ← hc31] at hcut31; have HR758 := am hr31; have HC758 := am (show y755.length ≤ c31 from by rw [hy31, hc31]; exact Nat.sub_le_sub_right (Nat.le_trans (by omega) hroom31) _); clear hr31 hC31 hroom31 hi031 hsz31 hc31; have KY31 := am hy31; have KA31 := am hA31; clear hy31 hA31; replace q31 := eq_true q31) | ((with_reducible refine gate_callee (f := 84) rfl ?_); refine goesL_ (some 52) rfl rfl Tryd.func84 (by kernel_rfl) rfl #[.slice A31 y755.length c31] rfl ar ?_; (with_reducible refine (row_encode.calls k1 _ _ y755 t759 _ ?side1 HC758.out A25.out).mono ?_); (case side1 => exact Kd.cb HR758 HB); rintro e w32 ⟨v760, rfl, ho0, hb⟩; refine ⟨_, rfl, ?_⟩; have n0_ := am (Kd.R_elder' (Kd.rr HO754.out) (Kd.R_base ho0) hb); have n1_ := am (Kd.R_lower (Kd.R_new' ho0 (Kd.R_lt (Kd.rr HO754.out))) (below_size (bl HB))); have n2_ := kb BK746 hb; have n3_ := sb HB hb; clear HO754; clear BK746; clear HB; have HO754 := n0_; have HO761 := n1_; have BK746 := n2_; have HB := n3_; clear n0_ n1_ n2_ n3_; (try clear hb); (try clear hb2 hk hi); (try clear ho0); obtain ⟨Ao34, co34, eo34⟩ := Kd.R_slice HO761.out; subst eo34) | ((with_reducible refine gate_builtin (b := .append) (xs := #[.tmp 46, .tmp 52]) rfl ?_); at_builtin; refine Kd.R_append_rows (Kd.int .u8) (w0 := w) w.heap.size rfl (.tmp 46) (.tmp 52) 80 5 (.int .u8 0) 1 rfl Tryd.underlying80 info5 rfl (by decide) (by omega) v753 t752 t759 _ _ _ (fun k_ => some k_ ≠ (.slice Ao34 t759.length co34 : Value).ownBlock) (fun _ => False) rfl rfl ?aO ?aR (fun _ _ h => h) (fun _ h => h.elim) ?aF ?aB ?aS ?aL ?_; (case aR => repeat (first | exact (Kd.R_reads' HO761.out).2.2 | (with_reducible refine Kd.C_alloc ?_ _) | (with_reducible refine Kd.C_drewN ?_ _) | (with_reducible refine Kd.C_drew ?_))); (case aB => exact (bl HB)); (case aF => exact (fun k_ hk => Kd.fresh' (Kd.R_lt (Kd.rr HO761.out)) k_ hk)); (case aO => exact (by (with_reducible repeat (first | apply Kd.R_alloc | apply Kd.R_drewN | apply Kd.R_drew)); exact Kd.R_mono HO754.out (fun _ hk => hk.2))); (case aS => exact (below_size (bl HB))); (case aL => have := LMc26.out; omega); intro v763 w33 ho hb hg hat; rw [← Ny762.out] at ho; have n0_ := am (blk_grown (g := gb746) (o := .cells #[.string a0_0, .slice A0_1 l0_1.length c0_1, .slice A0_2 l0_2.length c0_2, .slice A0_3 l0_3.length c0_3, .slice A0_4 l0_4.length c0_4] 65 (0, 0)) (bk BK746) hg (Kd.R_ne HO754.out BK746.out (by decide))); have n1_ := am (Kd.R_after (ok := (fun _ => True)) (Kd.rr HO761.out) hg hat); have n2_ := am (hb); have n3_ := am (ho); clear BK746; clear HO761; clear HB; clear HO754; have BK746 := n0_; have HO761 := n1_; have HB := n2_; have HO764 := n3_; clear n0_ n1_ n2_ n3_; clear ho hb hg hat))
                          go_roundg k1
                          case measure => have := HK1.out; omega
                          case rel => exact ⟨(y762), (wrap64 (x27_1 + 1)), (wrap64 (x27_1 + 1)), eb, eb, H', ⟨by have := HK1.out; omega⟩, ⟨by (with_reducible repeat (first | apply Kd.R_alloc | apply Kd.R_drewN | apply Kd.R_drew)); exact Kd.R_mono HO764.out (fun _ hk => trivial)⟩, ⟨bk BK746⟩, ⟨bl HB⟩⟩
                        · rw [if_neg c26] at H
                          exact absurd H (by simp)
                      · rw [if_neg c24] at H
                        exact absurd H (by simp)
                    · rw [if_neg c23] at H
                      exact absurd H (by simp)
                · rw [if_neg c16] at H
                  exact absurd H (by simp)
              · rw [if_neg c15] at H
                exact absurd H (by simp)
            · rw [if_neg c14] at H
              exact absurd H (by simp)
          · rw [if_neg c13] at H
            have c13b0 : decide (x27_1 < (l2.length : Int)) = false := decide_eq_false c13
            clear c13
            by_cases c35 : (x10_1.length : Int) > 65536
            · rw [if_pos c35] at H
              have c35b0 : decide (65536 < (x10_1.length : Int)) = true := decide_eq_true c35
              have c35b1 : decide (65536 < x10_1.length) = true := decide_eq_true (by omega)
              clear c35
              simp only [Option.some.injEq, Prod.mk.injEq] at H
              obtain ⟨rfl, rfl⟩ := H
              obtain ⟨Ao36, co36, eo36⟩ := Kd.R_slice HO_10.out
              subst eo36
              go_wp2
              go_ret2
              exact ⟨er, bl HB⟩
            · rw [if_neg c35] at H
              have c35b0 : decide (65536 < (x10_1.length : Int)) = false := decide_eq_false c35
              have c35b1 : decide (65536 < x10_1.length) = false := decide_eq_false (by omega)
              clear c35
              simp only [Option.some.injEq, Prod.mk.injEq] at H
              obtain ⟨rfl, rfl⟩ := H
              obtain ⟨Ao37, co37, eo37⟩ := Kd.R_slice HO_10.out
              subst eo37
              have hcv38 := own_string (P := Tryd.prog) Tryd.underlying80 Tryd.underlying5 Tryd.underlying9 (Kd.own_of_R HO_10.out)
              go_wp2
              go_ret2
              exact ⟨er, bl HB⟩
    · rw [if_neg c7] at H
      have c7b0 : (t748 == 0) = false := beq_eq_false_iff_ne.mpr c7
      have c7b1 : (t748 != 0) = true := bne_iff_ne.mpr c7
      simp only [Option.some.injEq, Prod.mk.injEq] at H
      obtain ⟨rfl, rfl⟩ := H
      go_enter Tryd.func55, Tryd.ntmps55
      go_wp2_with (first | ((with_reducible refine gate_dst (N := 3) rfl ?_); refine box_event rfl (N := 3) rfl (cs := #[.string a0_0, .slice A0_1 l0_1.length c0_1, .slice A0_2 l0_2.length c0_2, .slice A0_3 l0_3.length c0_3, .slice A0_4 l0_4.length c0_4]) (t := 65) gs ?_; intro gb746 hg w39 hbox hb; have BK746 := am (hbox); have GW746 := gw hg HB; have GE746 := gw hg HB; replace HB := sb HB hb; clear hb hbox hg; obtain ⟨Z40_0, Z40_1, Z40_2, Z40_3, Z40_4, Y40_0, Y40_1, Y40_2, Y40_3, Y40_4⟩ := bq5 BK746) | ((with_reducible refine gate_callee (f := 83) rfl ?_); refine goesL_ (some 15) rfl rfl Tryd.func83 (by kernel_rfl) rfl #[.agg #[.string a0_0, .slice A0_1 l0_1.length c0_1, .slice A0_2 l0_2.length c0_2, .slice A0_3 l0_3.length c0_3, .slice A0_4 l0_4.length c0_4], .slice A1 l1.length c1] rfl ar ?_; (with_reducible refine (schema_Admits.calls a0_0 _ _ l0_1 _ _ l0_2 _ _ l0_3 _ _ l0_4 _ _ l1 t747 _ (Kd.cb HR0_1 HB) HC0_1.out (Kd.cb HR0_2 HB) HC0_2.out (Kd.cb HR0_3 HB) HC0_3.out (Kd.cb HR0_4 HB) HC0_4.out (Kd.cb HR1 HB) HC1.out (Glob.below HG.out (bl HB)) A4.out).mono ?_); rintro e w41 ⟨rfl, hb⟩; refine ⟨_, rfl, ?_⟩; replace BK746 := kb BK746 hb; replace HB := sb HB hb; (try clear hb); (try clear hb2 hk hi); obtain ⟨Z42_0, Z42_1, Z42_2, Z42_3, Z42_4, Y42_0, Y42_1, Y42_2, Y42_3, Y42_4⟩ := bq5 BK746) | ((with_reducible refine gate_callee (f := 83) rfl ?_); refine goesL_ (some 21) rfl rfl Tryd.func83 (by kernel_rfl) rfl #[.agg #[.string a0_0, .slice A0_1 l0_1.length c0_1, .slice A0_2 l0_2.length c0_2, .slice A0_3 l0_3.length c0_3, .slice A0_4 l0_4.length c0_4], .slice A2 l2.length c2] rfl ar ?_; (with_reducible refine (schema_Admits.calls a0_0 _ _ l0_1 _ _ l0_2 _ _ l0_3 _ _ l0_4 _ _ l2 t748 _ (Kd.cb HR0_1 HB) HC0_1.out (Kd.cb HR0_2 HB) HC0_2.out (Kd.cb HR0_3 HB) HC0_3.out (Kd.cb HR0_4 HB) HC0_4.out (Kd.cb HR2 HB) HC2.out (Glob.below HG.out (bl HB)) A6.out).mono ?_); rintro e w43 ⟨rfl, hb⟩; refine ⟨_, rfl, ?_⟩; replace BK746 := kb BK746 hb; replace HB := sb HB hb; (try clear hb); (try clear hb2 hk hi)))
      go_ret2
      exact ⟨er, bl HB⟩
  · rw [if_neg c5] at H
    have c5b0 : (t747 == 0) = false := beq_eq_false_iff_ne.mpr c5
    have c5b1 : (t747 != 0) = true := bne_iff_ne.mpr c5
    simp only [Option.some.injEq, Prod.mk.injEq] at H
    obtain ⟨rfl, rfl⟩ := H
    go_enter Tryd.func55, Tryd.ntmps55
    go_wp2_with (first | ((with_reducible refine gate_dst (N := 3) rfl ?_); refine box_event rfl (N := 3) rfl (cs := #[.string a0_0, .slice A0_1 l0_1.length c0_1, .slice A0_2 l0_2.length c0_2, .slice A0_3 l0_3.length c0_3, .slice A0_4 l0_4.length c0_4]) (t := 65) gs ?_; intro gb746 hg w44 hbox hb; have BK746 := am (hbox); have GW746 := gw hg HB; have GE746 := gw hg HB; replace HB := sb HB hb; clear hb hbox hg; obtain ⟨Z45_0, Z45_1, Z45_2, Z45_3, Z45_4, Y45_0, Y45_1, Y45_2, Y45_3, Y45_4⟩ := bq5 BK746) | ((with_reducible refine gate_callee (f := 83) rfl ?_); refine goesL_ (some 15) rfl rfl Tryd.func83 (by kernel_rfl) rfl #[.agg #[.string a0_0, .slice A0_1 l0_1.length c0_1, .slice A0_2 l0_2.length c0_2, .slice A0_3 l0_3.length c0_3, .slice A0_4 l0_4.length c0_4], .slice A1 l1.length c1] rfl ar ?_; (with_reducible refine (schema_Admits.calls a0_0 _ _ l0_1 _ _ l0_2 _ _ l0_3 _ _ l0_4 _ _ l1 t747 _ (Kd.cb HR0_1 HB) HC0_1.out (Kd.cb HR0_2 HB) HC0_2.out (Kd.cb HR0_3 HB) HC0_3.out (Kd.cb HR0_4 HB) HC0_4.out (Kd.cb HR1 HB) HC1.out (Glob.below HG.out (bl HB)) A4.out).mono ?_); rintro e w46 ⟨rfl, hb⟩; refine ⟨_, rfl, ?_⟩; replace BK746 := kb BK746 hb; replace HB := sb HB hb; (try clear hb); (try clear hb2 hk hi)))
    go_ret2
    exact ⟨er, bl HB⟩
mutual
def row_varint.l0 : Nat → ByteArray → Int → Int → Int → Option (Int × ByteArray × Bool)
  | 0, _, _, _, _ => none
  | k + 1, x0, x5, x10, x11 => if x11 < x10 then (if 0 ≤ x11 then (if x11 < (x0.size : Int) then (if x11 = 9 then (if (IntKind.u64.wrap (bt x0 x11)) > 1 then (row_varint.j1 k x0 x5 x11 (IntKind.u64.wrap (bt x0 x11)) x10 x11 true) else (if x11 > 0 then (row_varint.j1 k x0 x5 x11 (IntKind.u64.wrap (bt x0 x11)) x10 x11 ((IntKind.u64.wrap (bt x0 x11)) == 0)) else (row_varint.j1 k x0 x5 x11 (IntKind.u64.wrap (bt x0 x11)) x10 x11 false))) else (if x11 > 0 then (row_varint.j1 k x0 x5 x11 (IntKind.u64.wrap (bt x0 x11)) x10 x11 ((IntKind.u64.wrap (bt x0 x11)) == 0)) else (row_varint.j1 k x0 x5 x11 (IntKind.u64.wrap (bt x0 x11)) x10 x11 false))) else (none)) else (none)) else (some (0, (⟨#[]⟩ : ByteArray), false))
def row_varint.j1 : Nat → ByteArray → Int → Int → Int → Int → Int → Bool → Option (Int × ByteArray × Bool)
  | 0, _, _, _, _, _, _, _ => none
  | k + 1, x0, x5, x6, x7, x10, x11, x31 => if x31 = true then (some (0, (⟨#[]⟩ : ByteArray), false)) else (if 0 ≤ (wrap64 (7 * x6)) then (if x7 < 128 then (if 0 ≤ (wrap64 (x6 + 1)) then (if (wrap64 (x6 + 1)) ≤ (x0.size : Int) then (some (Go.bits .or .u64 x5 (shl .u64 (Go.bits .and .u64 x7 127) (wrap64 (7 * x6))), x0.extract ((wrap64 (x6 + 1)) : Int).toNat x0.size, true)) else (none)) else (none)) else (row_varint.l0 k x0 (Go.bits .or .u64 x5 (shl .u64 (Go.bits .and .u64 x7 127) (wrap64 (7 * x6)))) x10 (wrap64 (x11 + 1)))) else (none))
end
def row_varint.f (k : Nat) (a0 : ByteArray) : Option (Int × ByteArray × Bool) := row_varint.l0 k a0 0 (mn (a0.size : Int) 10) 0
set_option maxHeartbeats 8000000 in
set_option maxRecDepth 100000 in
theorem row_varint.calls (k : Nat) (a0 : ByteArray) (r1 : Int) (r2 : ByteArray) (r3 : Bool) (w : World) (h : row_varint.f k a0 = some (r1, r2, r3)) :
    Calls Tryd.prog 95 #[.string a0] w fun e w' => e = .returned (.tuple #[.int .u64 r1, .string r2, .bool r3]) ∧ Below w.heap.size w w' := by
  have HB := am (Below.refl w.heap.size w)
  have H : (row_varint.l0 k a0 0 (mn (a0.size : Int) 10) 0) = some (r1, r2, r3) := h
  clear h
  obtain ⟨ji2, hji2⟩ : ∃ j_ : Int, (mn (a0.size : Int) 10) = j_ := ⟨_, rfl⟩
  replace H : (row_varint.l0 k a0 0 ji2 0) = some (r1, r2, r3) := by first | (rw [hji2] at H; exact H) | (simp only [hji2] at H ⊢; exact H)
  (try (have hji2h : ji2 ≤ 10 := by (rw [← hji2]; unfold mn; (repeat' split) <;> omega)))
  (try (have hji2g : ji2 ≤ 64 := by omega))
  (try (have hji2l : 0 ≤ ji2 := by (rw [← hji2]; unfold mn; (repeat' split) <;> omega)))
  (try (have hji2m : 0 ≤ ji2 := by omega))
  have hji2_ : (if 10 < (a0.size : Int) then 10 else (a0.size : Int)) = ji2 := hji2
  have H' := am H
  clear H
  go_enter Tryd.func95, Tryd.ntmps95
  go_wp2
  repeat (go_quiet (fail); try go_wp2)
  go_loopg [5, 11] k (fun kq v5 v11 w' => ∃ (x5_1 : Int) (x11_1 : Int), v5 = .int .u64 x5_1 ∧ v11 = .int .i64 x11_1 ∧ Aside0 (row_varint.l0 kq a0 x5_1 ji2 x11_1 = some (r1, r2, r3)) ∧ Aside0 (kq ≤ k) ∧ Aside0 (Below w.heap.size w w'))
  case atStart => exact ⟨(0), (0), eb, eb, H', ⟨Nat.le_refl _⟩, ⟨bl HB⟩⟩
  case round =>
    clear H'
    try clear p2
    obtain ⟨x5_1, x11_1, rfl, rfl, HA, HK1, HB⟩ := hrel
    cases gk with
    | zero => exact absurd HA.out (by simp [row_varint.l0])
    | succ k1 =>
      have H := HA.out
      clear HA
      simp only [row_varint.l0] at H
      by_cases c3 : x11_1 < ji2
      · rw [if_pos c3] at H
        have c3b0 : decide (x11_1 < ji2) = true := decide_eq_true c3
        clear c3
        by_cases c4 : 0 ≤ x11_1
        · rw [if_pos c4] at H
          have c4b0 : decide (0 ≤ x11_1) = true := decide_eq_true c4
          clear c4
          by_cases c5 : x11_1 < (a0.size : Int)
          · rw [if_pos c5] at H
            have c5b0 : decide (x11_1 < (a0.size : Int)) = true := decide_eq_true c5
            clear c5
            have HC7 := am H
            clear H
            have p6 : 0 ≤ (x11_1 : Int) := oda
            have q6 : x11_1 < (a0.size : Int) := oda
            have hx6 := bt_at a0 x11_1
            replace p6 := eq_true p6
            replace q6 := eq_true q6
            go_upto_region 6 with (fail)
            repeat (go_quiet (fail); go_upto_region 6 with (fail))
            go_cut [31] (fun v31 wc => ∃ (kq : Nat) (x31_6 : Bool), v31 = .bool x31_6 ∧ Aside0 (row_varint.j1 kq a0 x5_1 x11_1 (IntKind.u64.wrap (bt a0 x11_1)) ji2 x11_1 x31_6 = some (r1, r2, r3)) ∧ Aside0 (kq ≤ k1) ∧ Aside0 (Below w.heap.size w wc))
            case first =>
              have H := HC7.out
              clear HC7
              by_cases c8 : x11_1 = 9
              · rw [if_pos c8] at H
                have c8b0 : (x11_1 == 9) = true := beq_iff_eq.mpr c8
                have c8b1 : (x11_1 != 9) = false := bne_eq_false_iff_eq.mpr c8
                clear c8
                (first | rw [c8b0] | (simp only [i64_w, i32_w]; rw [c8b0]) | skip)
                by_cases c9 : (IntKind.u64.wrap (bt a0 x11_1)) > 1
                · rw [if_pos c9] at H
                  have c9b0 : decide (1 < (IntKind.u64.wrap (bt a0 x11_1))) = true := decide_eq_true c9
                  clear c9
                  have H' := am H
                  clear H
                  go_wp2
                  repeat (go_quiet (fail); try go_wp2)
                  go_meet
                  case rel => exact ⟨_, (true), eb, H', ⟨by have := HK1.out; first | omega | exact Nat.le_refl _⟩, ⟨bl HB⟩⟩
                · rw [if_neg c9] at H
                  have c9b0 : decide (1 < (IntKind.u64.wrap (bt a0 x11_1))) = false := decide_eq_false c9
                  clear c9
                  by_cases c10 : x11_1 > 0
                  · rw [if_pos c10] at H
                    have c10b0 : decide (0 < x11_1) = true := decide_eq_true c10
                    clear c10
                    have H' := am H
                    clear H
                    go_wp2
                    repeat (go_quiet (fail); try go_wp2)
                    go_meet
                    case rel => exact ⟨_, (((IntKind.u64.wrap (bt a0 x11_1)) == 0)), eb, H', ⟨by have := HK1.out; first | omega | exact Nat.le_refl _⟩, ⟨bl HB⟩⟩
                  · rw [if_neg c10] at H
                    have c10b0 : decide (0 < x11_1) = false := decide_eq_false c10
                    clear c10
                    have H' := am H
                    clear H
                    go_wp2
                    repeat (go_quiet (fail); try go_wp2)
                    go_meet
                    case rel => exact ⟨_, (false), eb, H', ⟨by have := HK1.out; first | omega | exact Nat.le_refl _⟩, ⟨bl HB⟩⟩
              · rw [if_neg c8] at H
                have c8b0 : (x11_1 == 9) = false := beq_eq_false_iff_ne.mpr c8
                have c8b1 : (x11_1 != 9) = true := bne_iff_ne.mpr c8
                (first | rw [c8b0] | (simp only [i64_w, i32_w]; rw [c8b0]) | skip)
                by_cases c11 : x11_1 > 0
                · rw [if_pos c11] at H
                  have c11b0 : decide (0 < x11_1) = true := decide_eq_true c11
                  clear c11
                  have H' := am H
                  clear H
                  go_wp2
                  repeat (go_quiet (fail); try go_wp2)
                  go_meet
                  case rel => exact ⟨_, (((IntKind.u64.wrap (bt a0 x11_1)) == 0)), eb, H', ⟨by have := HK1.out; first | omega | exact Nat.le_refl _⟩, ⟨bl HB⟩⟩
                · rw [if_neg c11] at H
                  have c11b0 : decide (0 < x11_1) = false := decide_eq_false c11
                  clear c11
                  have H' := am H
                  clear H
                  go_wp2
                  repeat (go_quiet (fail); try go_wp2)
                  go_meet
                  case rel => exact ⟨_, (false), eb, H', ⟨by have := HK1.out; first | omega | exact Nat.le_refl _⟩, ⟨bl HB⟩⟩
            case rest =>
              clear HC7
              try clear c1
              try clear p2
              try clear c3
              try clear c3b0
              try clear c4
              try clear c4b0
              try clear c5
              try clear c5b0
              try clear p6
              try clear q6
              try clear hx6
              try clear c8
              try clear c8b0
              try clear c8b1
              try clear c9
              try clear c9b0
              try clear c10
              try clear c10b0
              try clear c11
              try clear c11b0
              try clear p2
              try clear p6
              try clear q6
              obtain ⟨kq, x31_6, rfl, HA, HJ6, HB⟩ := hcut
              cases kq with
              | zero => exact absurd HA.out (by simp [row_varint.j1])
              | succ kj6 =>
                have H := HA.out
                clear HA
                simp only [row_varint.j1] at H
                by_cases c12 : x31_6 = true
                · subst c12
                  have H1 : (some (0, (⟨#[]⟩ : ByteArray), false)) = some (r1, r2, r3) := by rw [if_pos rfl] at H; exact H
                  clear H
                  have H := H1
                  clear H1
                  simp only [Option.some.injEq, Prod.mk.injEq] at H
                  obtain ⟨rfl, rfl, rfl⟩ := H
                  go_wp2
                  repeat (go_quiet (fail); try go_wp2)
                  go_ret3
                  exact ⟨by first | rfl | (simp [errW_none, errW_some] <;> rfl) | (simp only [← hji2]; first | rfl | (simp [errW_none, errW_some] <;> rfl)) | (simp [*, errW_none, errW_some] <;> rfl), bl HB⟩
                · replace c12 := Bool.eq_false_iff.mpr c12
                  subst c12
                  have H1 : (if 0 ≤ (wrap64 (7 * x11_1)) then (if (IntKind.u64.wrap (bt a0 x11_1)) < 128 then (if 0 ≤ (wrap64 (x11_1 + 1)) then (if (wrap64 (x11_1 + 1)) ≤ (a0.size : Int) then (some (Go.bits .or .u64 x5_1 (shl .u64 (Go.bits .and .u64 (IntKind.u64.wrap (bt a0 x11_1)) 127) (wrap64 (7 * x11_1))), a0.extract ((wrap64 (x11_1 + 1)) : Int).toNat a0.size, true)) else (none)) else (none)) else (row_varint.l0 kj6 a0 (Go.bits .or .u64 x5_1 (shl .u64 (Go.bits .and .u64 (IntKind.u64.wrap (bt a0 x11_1)) 127) (wrap64 (7 * x11_1)))) ji2 (wrap64 (x11_1 + 1)))) else (none)) = some (r1, r2, r3) := by rw [if_neg (show ¬ (false = true) by decide)] at H; exact H
                  clear H
                  have H := H1
                  clear H1
                  obtain ⟨ji13, hji13⟩ : ∃ j_ : Int, (wrap64 (7 * x11_1)) = j_ := ⟨_, rfl⟩
                  replace H : (if 0 ≤ (ji13) then (if (IntKind.u64.wrap (bt a0 x11_1)) < 128 then (if 0 ≤ (wrap64 (x11_1 + 1)) then (if (wrap64 (x11_1 + 1)) ≤ (a0.size : Int) then (some (Go.bits .or .u64 x5_1 (shl .u64 (Go.bits .and .u64 (IntKind.u64.wrap (bt a0 x11_1)) 127) (ji13)), a0.extract ((wrap64 (x11_1 + 1)) : Int).toNat a0.size, true)) else (none)) else (none)) else (row_varint.l0 kj6 a0 (Go.bits .or .u64 x5_1 (shl .u64 (Go.bits .and .u64 (IntKind.u64.wrap (bt a0 x11_1)) 127) (ji13))) ji2 (wrap64 (x11_1 + 1)))) else (none)) = some (r1, r2, r3) := by first | (rw [hji13] at H; exact H) | (simp only [hji13] at H ⊢; exact H)
                  have hji13w : (IntKind.i64.wrap (7 * x11_1)) = ji13 := (i64_w _).trans hji13
                  by_cases c14 : 0 ≤ (ji13)
                  · rw [if_pos c14] at H
                    have c14b0 := eq_true c14
                    have c14b1 : decide (0 ≤ (ji13)) = true := decide_eq_true c14
                    clear c14
                    obtain ⟨ji15, hji15⟩ : ∃ j_ : Int, (shl .u64 (Go.bits .and .u64 (IntKind.u64.wrap (bt a0 x11_1)) 127) (ji13)) = j_ := ⟨_, rfl⟩
                    replace H : (if (IntKind.u64.wrap (bt a0 x11_1)) < 128 then (if 0 ≤ (wrap64 (x11_1 + 1)) then (if (wrap64 (x11_1 + 1)) ≤ (a0.size : Int) then (some (Go.bits .or .u64 x5_1 (ji15), a0.extract ((wrap64 (x11_1 + 1)) : Int).toNat a0.size, true)) else (none)) else (none)) else (row_varint.l0 kj6 a0 (Go.bits .or .u64 x5_1 (ji15)) ji2 (wrap64 (x11_1 + 1)))) = some (r1, r2, r3) := by first | (rw [hji15] at H; exact H) | (simp only [hji15] at H ⊢; exact H)
                    have hji15_ : (IntKind.u64.wrap ((Go.bits .and .u64 (IntKind.u64.wrap (bt a0 x11_1)) 127) * 2 ^ min (ji13).toNat 64)) = ji15 := hji15
                    have hji15z : (ji13) ≤ 64 → (IntKind.u64.wrap ((Go.bits .and .u64 (IntKind.u64.wrap (bt a0 x11_1)) 127) * 2 ^ (ji13).toNat)) = ji15 := shl_small hji15
                    by_cases c16 : (IntKind.u64.wrap (bt a0 x11_1)) < 128
                    · rw [if_pos c16] at H
                      have c16b0 : decide ((IntKind.u64.wrap (bt a0 x11_1)) < 128) = true := decide_eq_true c16
                      clear c16
                      obtain ⟨ji17, hji17⟩ : ∃ j_ : Int, (wrap64 (x11_1 + 1)) = j_ := ⟨_, rfl⟩
                      replace H : (if 0 ≤ (ji17) then (if (ji17) ≤ (a0.size : Int) then (some (Go.bits .or .u64 x5_1 (ji15), a0.extract ((ji17) : Int).toNat a0.size, true)) else (none)) else (none)) = some (r1, r2, r3) := by first | (rw [hji17] at H; exact H) | (simp only [hji17] at H ⊢; exact H)
                      have hji17w : (IntKind.i64.wrap (x11_1 + 1)) = ji17 := (i64_w _).trans hji17
                      by_cases c18 : 0 ≤ (ji17)
                      · rw [if_pos c18] at H
                        have c18b0 := eq_true c18
                        have c18b1 : decide (0 ≤ (ji17)) = true := decide_eq_true c18
                        clear c18
                        by_cases c19 : (ji17) ≤ (a0.size : Int)
                        · rw [if_pos c19] at H
                          have c19b0 := eq_true c19
                          have c19b1 : decide ((ji17) ≤ (a0.size : Int)) = true := decide_eq_true c19
                          clear c19
                          simp only [Option.some.injEq, Prod.mk.injEq] at H
                          obtain ⟨rfl, rfl, rfl⟩ := H
                          go_wp2
                          repeat (go_quiet (fail); try go_wp2)
                          go_ret3
                          exact ⟨by first | rfl | (simp [errW_none, errW_some] <;> rfl) | (simp only [← hji2, ← hji13, ← hji15, ← hji17]; first | rfl | (simp [errW_none, errW_some] <;> rfl)) | (simp [*, errW_none, errW_some] <;> rfl), bl HB⟩
                        · rw [if_neg c19] at H
                          exact absurd H (by simp)
                      · rw [if_neg c18] at H
                        exact absurd H (by simp)
                    · rw [if_neg c16] at H
                      have c16b0 : decide ((IntKind.u64.wrap (bt a0 x11_1)) < 128) = false := decide_eq_false c16
                      clear c16
                      have H' := am H
                      clear H
                      go_wp2
                      repeat (go_quiet (fail); try go_wp2)
                      go_roundg kj6
                      case measure => have := HK1.out; have := HJ6.out; omega
                      case rel => exact ⟨(Go.bits .or .u64 x5_1 (ji15)), (wrap64 (x11_1 + 1)), (by first | rfl | (simp; done) | (simp only [← hji15] <;> (first | rfl | simp)) | (simp [*]; done)), eb, H', ⟨by have := HK1.out; have := HJ6.out; omega⟩, ⟨bl HB⟩⟩
                  · rw [if_neg c14] at H
                    exact absurd H (by simp)
          · rw [if_neg c5] at H
            exact absurd H (by simp)
        · rw [if_neg c4] at H
          exact absurd H (by simp)
      · rw [if_neg c3] at H
        have c3b0 : decide (x11_1 < ji2) = false := decide_eq_false c3
        clear c3
        simp only [Option.some.injEq, Prod.mk.injEq] at H
        obtain ⟨rfl, rfl, rfl⟩ := H
        go_wp2
        repeat (go_quiet (fail); try go_wp2)
        go_ret3
        exact ⟨by first | rfl | (simp [errW_none, errW_some] <;> rfl) | (simp only [← hji2]; first | rfl | (simp [errW_none, errW_some] <;> rfl)) | (simp [*, errW_none, errW_some] <;> rfl), bl HB⟩
def row_unzig.f (a0 : Int) : Option (Int) := some (Go.bits .xor .i64 (wrap64 (a0 / 2)) (wrap64 (-(wrap64 (Go.bits .and .u64 a0 1)))))
set_option maxHeartbeats 8000000 in
set_option maxRecDepth 100000 in
theorem row_unzig.calls (a0 : Int) (r : Int) (w : World) (h : row_unzig.f a0 = some r) :
    Calls Tryd.prog 169 #[.int .u64 a0] w fun e w' => e = .returned (.int .i64 r) ∧ Drawn0 w w' := by
  have H : (some (Go.bits .xor .i64 (wrap64 (a0 / 2)) (wrap64 (-(wrap64 (Go.bits .and .u64 a0 1)))))) = some r := h
  clear h
  obtain rfl := Option.some.inj H
  go_enter Tryd.func169, Tryd.ntmps169
  go_wp2
  go_ret
  exact ⟨eb, by repeat (first | exact Drawn0.refl _ | apply Drawn0.step)⟩
end Go.Proofs.YtpiifdbicibelaaDoor.PA
end
section
namespace Go.Proofs.YtpiifdbicibelaaDoor.Pure
open Go.RowKit Go.Proofs Go.Proofs.YtpiifdbicibelaaDoorW.PrintWords Go.Proofs.YtpiifdbicibelaaDoorW.PrintLast Go.Proofs.YtpiifdbicibelaaDoorW.PrintMore Go.Proofs.YtpiifdbicibelaaDoor.PA Go.Proofs.YtpiifdbicibelaaDoor.OpenK
set_option linter.unusedVariables false
set_option linter.unusedSimpArgs false
theorem wrap_one (i : Nat) (h : i < 1000000000) : wrap64 ((i : Int) + 1) = ((i + 1 : Nat) : Int) := by rw [wrap64_id (by omega) (by omega)]; omega
/-- Are these the same value to the bits? -/
def smB (x y : S50) : Bool := if x.f0 = y.f0 then (if x.f1 = y.f1 then (if ((x.f2 : Nat) : Int) = ((y.f2 : Nat) : Int) then x.f3.toList == y.f3.toList else false) else false) else false
theorem sm_ref (x y : S50) : vellumref01_Same.f x.f0 x.f1 x.f2 x.f3 y.f0 y.f1 y.f2 y.f3 = some (smB x y) := by
  unfold vellumref01_Same.f smB
  repeat' split
  all_goals rfl
theorem sm_code (x y : S50) : row_same.f x.f0 x.f1 x.f2 x.f3 y.f0 y.f1 y.f2 y.f3 = some (smB x y) := by
  have : value_Same.f x.f0 x.f1 x.f2 x.f3 y.f0 y.f1 y.f2 y.f3 = some (smB x y) := by
    unfold value_Same.f smB
    repeat' split
    all_goals rfl
  unfold row_same.f
  rw [this]; rfl
def sameL : List S50 → List S50 → Bool
  | x :: xs, y :: ys => smB x y && sameL xs ys
  | _, _ => true
def chgL : List S50 → List S50 → Nat → Nat → List Int → List Int
  | x :: xs, y :: ys, nx, i, acc => if smB x y = true then chgL xs ys nx (i + 1) acc else chgL xs ys (i + 1) (i + 1) (acc ++ vb (i - nx) ++ rowB [y])
  | _, _, _, _, acc => acc
def fin (l : List Int) : ByteArray × Int := if 65536 < l.length then ((⟨#[]⟩ : ByteArray), 3) else (strOfNums l, 0)
theorem rowB_one {y : S50} (hw : wf50 y ∧ y.f3.size ≤ 65536) : (rowB [y]).length ≤ 65547 := by
  have := toldB_length hw.1 hw.2
  unfold rowB
  rw [List.length_append, setM_length]
  simp; omega
theorem one_slice {ys : List S50} {i : Nat} (h : i < ys.length) : (ys.take (((i + 1 : Nat) : Int)).toNat).drop ((i : Int)).toNat = [ys[i]] := by
  show (ys.take (i + 1)).drop i = [ys[i]]
  rw [List.take_succ_eq_append_getElem h, List.drop_append_of_le_length (by simp; omega), List.drop_of_length_le (by simp; omega)]
  rfl
theorem vb_one {n : Nat} (h : n < 128) : (vb n).length = 1 := by rw [vb_small n h]; rfl
theorem change_code (xs ys : List S50) (hlen : xs.length = ys.length) (hn : ys.length ≤ 64) (hw : ∀ v ∈ ys, wf50 v ∧ v.f3.size ≤ 65536) : ∀ (m i nx : Nat) (acc : List Int), i + m = ys.length → nx ≤ i → acc.length ≤ i * 70000 →
    Ev (fun k => row_Change.l0 k xs ys acc (nx : Int) (ys.length : Int) (i : Int)) (fin (chgL (xs.drop i) (ys.drop i) nx i acc))
  | 0, i, nx, acc, h, hx, hl => by
    rw [List.drop_of_length_le (l := ys) (by omega)]
    refine Ev.step (g := fun k => if (acc.length : Int) > 65536 then (some ((⟨#[]⟩ : ByteArray), (3 : Int))) else (some (strOfNums acc, 0))) (fun k => ?_) ?_
    · simp only [row_Change.l0]
      rw [if_neg (by omega)]
    · have e : chgL (xs.drop i) [] nx i acc = acc := by cases xs.drop i <;> rfl
      rw [e]
      unfold fin
      by_cases hb : 65536 < acc.length
      · rw [if_pos hb]; exact Ev.pos (by omega) Ev.pure
      · rw [if_neg hb]; exact Ev.neg (by omega) Ev.pure
  | m + 1, i, nx, acc, h, hx, hl => by
    have hlt : i < ys.length := by omega
    have hltx : i < xs.length := by omega
    have hyy : ys[i]? = some ys[i] := List.getElem?_eq_getElem hlt
    have hxx : xs[i]? = some xs[i] := List.getElem?_eq_getElem hltx
    have hwi := hw ys[i] (List.getElem_mem hlt)
    have hrl := rowB_one hwi
    have hv1 := vb_one (n := i - nx) (by omega)
    have c1 : (i : Int) ≤ ((i + 1 : Nat) : Int) := by omega
    have c2 : ((i + 1 : Nat) : Int) ≤ (ys.length : Int) := by omega
    rw [List.drop_eq_getElem_cons hlt, List.drop_eq_getElem_cons hltx]
    simp only [chgL]
    refine Ev.step (g := fun k => (row_same.f xs[i].f0 xs[i].f1 xs[i].f2 xs[i].f3 ys[i].f0 ys[i].f1 ys[i].f2 ys[i].f3).bind fun t751 => (if t751 = true then (row_Change.l0 k xs ys acc (nx : Int) (ys.length : Int) ((i + 1 : Nat) : Int)) else ((row_putVarint.f k acc ((i - nx : Nat) : Int)).bind fun t752 => ((row_encode.f k [ys[i]]).bind fun t759 => (if t752.length + t759.length < 140737488355328 then (row_Change.l0 k xs ys (t752 ++ t759) ((i + 1 : Nat) : Int) (ys.length : Int) ((i + 1 : Nat) : Int)) else (none)))))) (fun k => ?_) ?_
    · simp only [row_Change.l0]
      have e1 : True → wrap64 ((i : Int) + 1) = ((i + 1 : Nat) : Int) := fun _ => wrap_one i (by omega)
      have e2 : True → IntKind.u64.wrap (wrap64 ((i : Int) - (nx : Int))) = ((i - nx : Nat) : Int) := fun _ => by rw [wrap64_id (by omega) (by omega), u64_wrap_id (by omega) (by omega)]; omega
      rw [if_pos (by omega), if_pos (by omega), if_pos (by omega), if_pos (by omega), rd_get xs i _ hxx, rd_get ys i _ hyy, e1 trivial, e2 trivial, one_slice hlt]
      simp only [if_pos c1, if_pos c2]
    · refine Ev.bind (Ev.const (sm_code xs[i] ys[i])) ?_
      cases hs : smB xs[i] ys[i] with
      | true =>
        rw [if_pos rfl]
        have ih := change_code xs ys hlen hn hw m (i + 1) nx acc (by omega) (by omega) (by rw [Nat.add_mul]; exact Nat.le_trans hl (Nat.le_add_right _ _))
        exact Ev.pos rfl ih
      | false =>
        rw [if_neg (by decide)]
        refine Ev.neg (by decide) (Ev.bind (varint_code 0 (i - nx) acc (by omega) (by omega) (by omega)) (Ev.bind (rowB_code [ys[i]] (by simp) (fun v hv => by simp at hv; subst hv; exact hwi)) (Ev.pos (by rw [List.length_append]; omega) ?_)))
        exact change_code xs ys hlen hn hw m (i + 1) (i + 1) _ (by omega) (by omega) (by rw [List.length_append, List.length_append]; omega)
theorem admT_len {a : ByteArray} {c : List S105} {d : List Int} {e : List S115} {f : List S139} {row : List S50} (h : admT a c d e f row = 0) : row.length = c.length := by
  unfold admT at h
  by_cases h0 : checkT a c d e f = 0
  · rw [if_neg (by simp [h0])] at h
    by_cases h1 : row.length = c.length
    · exact h1
    · rw [if_pos h1] at h; cases h
  · rw [if_pos h0] at h; exact absurd h h0
/-- What both sides tell of a change. -/
def chgR (a : ByteArray) (c : List S105) (d : List Int) (e : List S115) (f : List S139) (xs ys : List S50) : ByteArray × Int :=
  if admT a c d e f xs = 0 then (if admT a c d e f ys = 0 then fin (chgL xs ys 0 0 []) else ((⟨#[]⟩ : ByteArray), admT a c d e f ys)) else ((⟨#[]⟩ : ByteArray), admT a c d e f xs)
theorem chgR_code {a : ByteArray} {c : List S105} {d : List Int} {e : List S115} {f : List S139} {xs ys : List S50} (h : WfT a c d e f) (hx : ∀ v ∈ xs, wf50 v) (hy : ∀ v ∈ ys, wf50 v) : Ev (fun k => row_Change.f k a c d e f xs ys) (chgR a c d e f xs ys) := by
  simp only [row_Change.f, admits_f h hx, admits_f h hy, Option.bind_some]
  unfold chgR
  by_cases h0 : admT a c d e f xs = 0
  · rw [if_pos h0]
    refine Ev.pos h0 ?_
    by_cases h1 : admT a c d e f ys = 0
    · rw [if_pos h1]
      have l0 := admT_len h0
      have l1 := admT_len h1
      obtain ⟨g1, g2⟩ := admT_ok h1
      exact Ev.pos h1 (change_code xs ys (by omega) g1 (fun v hv => ⟨hy v hv, (chk_ok (g2 v hv)).2⟩) ys.length 0 0 [] (by omega) (by omega) (by simp))
    · rw [if_neg h1]; exact Ev.neg h1 Ev.pure
  · rw [if_neg h0]; exact Ev.neg h0 Ev.pure
theorem same_ref (xs ys : List S50) (hl : xs.length < 9223372036854775807) : Ev (fun k => vellumref01_SameRow.f k xs ys) (decide (xs.length = ys.length) && sameL xs ys) := by
  simp only [vellumref01_SameRow.f]
  by_cases hlen : xs.length = ys.length
  · rw [decide_eq_true hlen, Bool.true_and]
    refine Ev.pos (by omega) ?_
    have go : ∀ (m i : Nat), i + m = xs.length → Ev (fun k => vellumref01_SameRow.l0 k xs ys (i : Int)) (sameL (xs.drop i) (ys.drop i)) := by
      intro m
      induction m with
      | zero =>
        intro i hi
        refine Ev.from_ 1 fun k => ?_
        simp only [vellumref01_SameRow.l0]
        rw [if_neg (by omega), List.drop_of_length_le (l := xs) (by omega)]
        simp [sameL]
      | succ m ih =>
        intro i hi
        have hlt : i < ys.length := by omega
        have hltx : i < xs.length := by omega
        have hyy : ys[i]? = some ys[i] := List.getElem?_eq_getElem hlt
        have hxx : xs[i]? = some xs[i] := List.getElem?_eq_getElem hltx
        rw [List.drop_eq_getElem_cons hlt, List.drop_eq_getElem_cons hltx]
        simp only [sameL]
        refine Ev.step (g := fun k => (vellumref01_Same.f xs[i].f0 xs[i].f1 xs[i].f2 xs[i].f3 ys[i].f0 ys[i].f1 ys[i].f2 ys[i].f3).bind fun t534 => (if t534 = true then (vellumref01_SameRow.l0 k xs ys ((i + 1 : Nat) : Int)) else (some false))) (fun k => ?_) (Ev.bind (Ev.const (sm_ref xs[i] ys[i])) ?_)
        · simp only [vellumref01_SameRow.l0]
          rw [if_pos (by omega), if_pos (by omega), if_pos (by omega), rd_get xs i _ hxx, rd_get ys i _ hyy, wrap64_id (by omega) (by omega)]
          rfl
        · cases hs : smB xs[i] ys[i] with
          | true => exact Ev.pos rfl (by simpa using ih (i + 1) (by omega))
          | false => exact Ev.neg (by decide) (by simpa using Ev.pure)
    have := go xs.length 0 (by omega)
    simpa using this
  · rw [decide_eq_false hlen, Bool.false_and]
    exact Ev.neg (by omega) Ev.pure
/-- The float that eight bytes tell. -/
def floatOf (w : List Int) : Nat := if 9223372036854775808 ≤ num w then (num w - 9223372036854775808).toNat else (18446744073709551615 - num w).toNat
theorem noText : (⟨#[]⟩ : ByteArray).toList = [] := by decide +kernel
theorem noText_of {d : ByteArray} (h : d.toList = []) : d = (⟨#[]⟩ : ByteArray) := by
  rw [Lib.toList_data] at h
  apply Go.WideShapes.bytes_inj
  rw [h]
theorem chk_fields {a b : Int} {c : Nat} {d : ByteArray} (h : chk a b c d = 0) :
    (0 ≤ a ∧ a ≤ 5) ∧ (a = 1 → b = 0 ∨ b = 1) ∧ (a ≠ 1 → a ≠ 2 → b = 0) ∧ (a ≠ 3 → c = 0) ∧ (a ≠ 4 → a ≠ 5 → d = (⟨#[]⟩ : ByteArray)) ∧ (a = 4 → Lib.validD d.data.toList = true) ∧ d.size ≤ 65536 := by
  have h0 := chk_ok h
  unfold chk at h
  split at h
  · cases h
  · rename_i hn
    refine ⟨h0.1, fun e => ?_, fun e1 e2 => ?_, fun e => ?_, fun e1 e2 => ?_, fun e => ?_, h0.2⟩
    · by_cases b0 : b = 0
      · exact .inl b0
      · by_cases b1 : b = 1
        · exact .inr b1
        · exact absurd (.inr (.inr (.inl ⟨e, b0, b1⟩))) hn
    · by_cases b0 : b = 0
      · exact b0
      · exact absurd (.inr (.inr (.inr (.inl ⟨e1, e2, b0⟩)))) hn
    · by_cases c0 : c = 0
      · exact c0
      · exact absurd (.inr (.inr (.inr (.inr (.inl ⟨e, c0⟩))))) hn
    · by_cases d0 : d.toList = []
      · exact noText_of d0
      · exact absurd (.inr (.inr (.inr (.inr (.inr (.inl ⟨e1, e2, d0⟩)))))) hn
    · cases hv : Lib.validD d.data.toList
      · exact absurd (.inr (.inr (.inr (.inr (.inr (.inr ⟨e, hv⟩)))))) hn
      · rfl
theorem chk_plain {a b : Int} (ha : a = 0 ∨ a = 1 ∨ a = 2 ∨ a = 3) (c : Nat) (h1 : a = 1 → b = 0 ∨ b = 1) (h2 : a ≠ 1 → a ≠ 2 → b = 0) (h3 : a ≠ 3 → c = 0) : chk a b c (⟨#[]⟩ : ByteArray) = 0 := by
  unfold chk
  rw [if_neg]
  · rw [if_neg]; show ¬ ((0 : Nat) : Int) > 65536; omega
  · rw [noText]
    rintro (h | h | ⟨h, g1, g2⟩ | ⟨g1, g2, h⟩ | ⟨g, h⟩ | ⟨_, _, h⟩ | ⟨h, _⟩)
    · omega
    · omega
    · rcases h1 h with h | h <;> omega
    · exact h (h2 g1 g2)
    · exact h (h3 g)
    · exact h rfl
    · omega
theorem wf_of {a b : Int} {c : Nat} {d : ByteArray} (ha : 0 ≤ a ∧ a ≤ 5) (hb : (Lit.int .i64 b).wf = true) (hc : c < 18446744073709551616) (hd : d.size ≤ 140737488351232) : wf50 ⟨a, b, c, d⟩ := by
  refine ⟨?_, hb, hc, hd⟩
  simpa [Lit.wf, IntKind.min, IntKind.max, IntKind.signed, IntKind.bits] using (show -9223372036854775808 ≤ a ∧ a ≤ 9223372036854775807 by omega)
theorem lit_small {b : Int} (h : 0 ≤ b ∧ b ≤ 1) : (Lit.int .i64 b).wf = true := by
  simpa [Lit.wf, IntKind.min, IntKind.max, IntKind.signed, IntKind.bits] using (show -9223372036854775808 ≤ b ∧ b ≤ 9223372036854775807 by omega)
abbrev G5 := Int × Int × Nat × ByteArray × Int
def bkInt (M : List Int) : G5 := match rawInt M with
  | none => (2, 0, 0, (⟨#[]⟩ : ByteArray), 0)
  | some (m, b, k) => if 9223372036854775808 ≤ m then (2, 0, 0, (⟨#[]⟩ : ByteArray), 0) else (2, intOfRaw m b, 0, (⟨#[]⟩ : ByteArray), ((2 + k : Nat) : Int))
def bkText (t : Int) (M : List Int) : G5 := match textOff [] (toB M) with
  | none => (t - 1, 0, 0, (⟨#[]⟩ : ByteArray), 0)
  | some (u, r) => (t - 1, 0, 0, ⟨u.toArray⟩, (1 + M.length : Int) - r.length)
/-- What the reference reads off the begin of a key, and how many bytes it has; 0: nothing. -/
def bk : List Int → G5
  | [] => (0, 0, 0, (⟨#[]⟩ : ByteArray), 0)
  | t :: M =>
    if t = 1 then (0, 0, 0, (⟨#[]⟩ : ByteArray), 1)
    else if t = 2 then (match M with | [] => (1, 0, 0, (⟨#[]⟩ : ByteArray), 0) | b :: _ => if b < 2 then (1, b, 0, (⟨#[]⟩ : ByteArray), 2) else (1, 0, 0, (⟨#[]⟩ : ByteArray), 0))
    else if t = 3 then bkInt M
    else if t = 4 then (if M.length < 8 then (3, 0, 0, (⟨#[]⟩ : ByteArray), 0) else (3, 0, floatOf (M.take 8), (⟨#[]⟩ : ByteArray), 9))
    else if t = 5 ∨ t = 6 then bkText t M
    else (t - 1, 0, 0, (⟨#[]⟩ : ByteArray), 0)
theorem lit_i64 {b : Int} (h0 : -9223372036854775808 ≤ b) (h1 : b ≤ 9223372036854775807) : (Lit.int .i64 b).wf = true := by
  simpa [Lit.wf, IntKind.min, IntKind.max, IntKind.signed, IntKind.bits] using And.intro h0 h1
/-- A number put in above the bits that are there. -/
theorem or_shl (n c s : Nat) (hn : n < 2 ^ s) (hs : s ≤ 63) (h9 : c * 2 ^ s < 2 ^ 64) :
    Go.bits .or .u64 (n : Int) (shl .u64 (c : Int) (s : Int)) = ((n + 2 ^ s * c : Nat) : Int) := by
  have hp : (2 : Nat) ^ 64 = 18446744073709551616 := by decide
  have e1 : shl .u64 (c : Int) (s : Int) = ((2 ^ s * c : Nat) : Int) := by
    unfold shl
    have : min ((s : Int)).toNat IntKind.u64.bits = s := by
      have : IntKind.u64.bits = 64 := rfl
      omega
    rw [this]
    have e2 : (c : Int) * 2 ^ s = ((2 ^ s * c : Nat) : Int) := by
      rw [Int.natCast_mul, Int.mul_comm]; simp
    rw [Nat.mul_comm] at h9
    rw [e2, u64_wrap_id (by omega) (by omega)]
  rw [e1]
  have hle : 2 ^ s ≤ 2 ^ 63 := Nat.pow_le_pow_right (by decide) hs
  have hn64 : n < 2 ^ 64 := Nat.lt_of_lt_of_le hn (Nat.le_trans hle (by decide))
  have e3 : Go.bits .or .u64 (n : Int) ((2 ^ s * c : Nat) : Int) = IntKind.u64.wrap (((BitVec.ofInt 64 (n : Int)) ||| (BitVec.ofInt 64 ((2 ^ s * c : Nat) : Int))).toNat : Int) := rfl
  rw [e3, BitVec.toNat_or, BitVec.toNat_ofInt, BitVec.toNat_ofInt]
  have h1 : ((n : Int) % ((2 ^ 64 : Nat) : Int)).toNat = n := by omega
  have h2 : (((2 ^ s * c : Nat) : Int) % ((2 ^ 64 : Nat) : Int)).toNat = 2 ^ s * c := by rw [Nat.mul_comm] at h9; omega
  rw [h1, h2, Nat.or_comm, ← Nat.two_pow_add_eq_or_of_lt hn, Nat.add_comm]
  have h3 : 2 ^ s * c + n < 2 ^ 64 := by
    have hk64 : 2 ^ 64 = 2 ^ s * 2 ^ (64 - s) := by rw [← Nat.pow_add]; congr 1; omega
    rw [hk64] at h9 ⊢
    rw [Nat.mul_comm c] at h9
    have hc2 : c < 2 ^ (64 - s) := Nat.lt_of_mul_lt_mul_left h9
    calc 2 ^ s * c + n < 2 ^ s * c + 2 ^ s := by omega
      _ = 2 ^ s * (c + 1) := by rw [Nat.mul_add]; omega
      _ ≤ _ := Nat.mul_le_mul_left _ hc2
  rw [u64_wrap_id (by omega) (by omega)]
/-- A number of many lengths off the begin of some bytes, from its k-th byte on: the number (from there) and what is left. -/
def vr (k : Nat) : List Int → Option (Nat × List Int)
  | [] => none
  | c :: L => if 10 ≤ k then none else if (k = 9 ∧ 1 < c) ∨ (0 < k ∧ c = 0) then none else if c < 128 then some (c.toNat, L) else
    match vr (k + 1) L with
    | none => none
    | some (n, R) => some ((c - 128).toNat + 128 * n, R)
theorem vr_len : ∀ (k : Nat) (L : List Int) (n : Nat) (R : List Int), vr k L = some (n, R) → R.length < L.length
  | k, [], n, R, h => by simp [vr] at h
  | k, c :: L, n, R, h => by
    unfold vr at h
    split at h
    · cases h
    · split at h
      · cases h
      · split at h
        · injection h with h; injection h with h1 h2; subst h2; simp
        · split at h
          · cases h
          · rename_i m R' hm
            injection h with h; injection h with h1 h2; subst h2
            have := vr_len (k + 1) L m R' hm
            simp; omega
theorem vr_sound : ∀ (k : Nat) (L : List Int) (n : Nat) (R : List Int), Bytes L → vr k L = some (n, R) → L = vb n ++ R ∧ n < 2 ^ (64 - 7 * k) ∧ (0 < k → 0 < n) ∧ k ≤ 9
  | k, [], n, R, _, h => by simp [vr] at h
  | k, c :: L, n, R, hL, h => by
    have hc := hL c (by simp)
    unfold vr at h
    split at h
    · cases h
    rename_i hk
    split at h
    · cases h
    rename_i hz
    split at h
    · rename_i h128
      injection h with h; injection h with h1 h2; subst h2; subst h1
      refine ⟨?_, ?_, fun h0 => by omega, by omega⟩
      · rw [vb.eq_1, dif_neg (by omega)]; simp; omega
      · by_cases h9 : k = 9
        · subst h9; have : (2:Nat) ^ (64 - 7 * 9) = 2 := by decide
          omega
        · have : 2 ^ 7 ≤ 2 ^ (64 - 7 * k) := Nat.pow_le_pow_right (by decide) (by omega)
          omega
    · rename_i h128
      split at h
      · cases h
      · rename_i m R' hm
        injection h with h; injection h with h1 h2; subst h2; subst h1
        obtain ⟨i1, i2, i3, i4⟩ := vr_sound (k + 1) L m R' (fun x hx => hL x (by simp [hx])) hm
        have i3 := i3 (by omega)
        refine ⟨?_, ?_, fun _ => by omega, by omega⟩
        · rw [vb.eq_1, dif_pos (by omega)]
          have e1 : ((c - 128).toNat + 128 * m) / 128 = m := by omega
          have e2 : ((((c - 128).toNat + 128 * m) % 128 + 128 : Nat) : Int) = c := by omega
          rw [e1, e2, List.cons_append, ← i1]
        · have e3 : 2 ^ (64 - 7 * k) = 2 ^ 7 * 2 ^ (64 - 7 * (k + 1)) := by rw [← Nat.pow_add]; congr 1; omega
          rw [e3]
          omega
theorem vr_complete : ∀ (j k n : Nat) (R : List Int), j + k = 9 → n < 2 ^ (64 - 7 * k) → (0 < k → 0 < n) → vr k (vb n ++ R) = some (n, R)
  | j, k, n, R, hj, hn, h0 => by
    rw [vb.eq_1]
    by_cases h : 128 ≤ n
    · rw [dif_pos h, List.cons_append]
      unfold vr
      have hk : k ≠ 9 := by
        intro e; subst e; have : (2:Nat) ^ (64 - 7 * 9) = 2 := by decide
        omega
      rw [if_neg (by omega), if_neg (by omega), if_neg (by omega)]
      have e3 : 2 ^ (64 - 7 * k) = 2 ^ 7 * 2 ^ (64 - 7 * (k + 1)) := by rw [← Nat.pow_add]; congr 1; omega
      have ih := vr_complete (j - 1) (k + 1) (n / 128) R (by omega) (by omega) (by omega)
      rw [ih]
      simp only [Option.some.injEq, Prod.mk.injEq, and_true]
      omega
    · rw [dif_neg h]
      show vr k ((n : Int) :: R) = _
      unfold vr
      have h9 : ¬ ((k = 9 ∧ 1 < (n : Int)) ∨ (0 < k ∧ (n : Int) = 0)) := by
        intro g
        rcases g with ⟨e, g⟩ | ⟨e, g⟩
        · subst e; have : (2:Nat) ^ (64 - 7 * 9) = 2 := by decide
          omega
        · have := h0 e; omega
      rw [if_neg (by omega), if_neg h9, if_pos (by omega)]
      simp
termination_by j => j
decreasing_by omega
/-- The two bits of column i in a head. -/
def mk (h : List Int) (i : Nat) : Int := (h.getD (i / 4) 0 / 4 ^ (i % 4)) % 4
theorem and3 (x : Int) (p : Nat) (hx : 0 ≤ x ∧ x ≤ 255) (hp : p < 4) : Go.bits .and .u8 (shr .u8 x ((2 * p : Nat) : Int)) 3 = (x / 4 ^ p) % 4 := by
  have hall : ∀ x : Fin 256, ∀ p : Fin 4, Go.bits .and .u8 (shr .u8 (x.val : Int) ((2 * p.val : Nat) : Int)) 3 = ((x.val : Int) / 4 ^ p.val) % 4 := by decide +kernel
  have := hall ⟨x.toNat, by omega⟩ ⟨p, hp⟩
  have e : ((x.toNat : Nat) : Int) = x := by omega
  simpa [e] using this
theorem or_mark (x m : Int) (p q : Nat) (hx : 0 ≤ x ∧ x ≤ 255) (hm : 0 ≤ m ∧ m < 3) (hp : p < 4) (hq : q < 4) (h0 : (x / 4 ^ p) % 4 = 0) :
    (Go.bits .or .u8 x (shl .u8 m ((2 * p : Nat) : Int)) / 4 ^ q) % 4 = (if p = q then m else (x / 4 ^ q) % 4) ∧ (0 ≤ Go.bits .or .u8 x (shl .u8 m ((2 * p : Nat) : Int)) ∧ Go.bits .or .u8 x (shl .u8 m ((2 * p : Nat) : Int)) ≤ 255) := by
  have hall : ∀ p : Fin 4, ∀ m : Fin 3, ∀ x : Fin 256, ∀ q : Fin 4, ((x.val : Int) / 4 ^ p.val) % 4 = 0 → (Go.bits .or .u8 (x.val : Int) (shl .u8 (m.val : Int) ((2 * p.val : Nat) : Int)) / 4 ^ q.val) % 4 = (if p.val = q.val then (m.val : Int) else ((x.val : Int) / 4 ^ q.val) % 4) ∧ (0 ≤ Go.bits .or .u8 (x.val : Int) (shl .u8 (m.val : Int) ((2 * p.val : Nat) : Int)) ∧ Go.bits .or .u8 (x.val : Int) (shl .u8 (m.val : Int) ((2 * p.val : Nat) : Int)) ≤ 255) := by decide +kernel
  have := hall ⟨p, hp⟩ ⟨m.toNat, by omega⟩ ⟨x.toNat, by omega⟩ ⟨q, hq⟩
  have e : ((x.toNat : Nat) : Int) = x := by omega
  have e2 : ((m.toNat : Nat) : Int) = m := by omega
  simp only [e, e2] at this
  exact this h0
theorem byte_marks {a b : Int} (ha : 0 ≤ a ∧ a ≤ 255) (hb : 0 ≤ b ∧ b ≤ 255) (h : ∀ p, p < 4 → (a / 4 ^ p) % 4 = (b / 4 ^ p) % 4) : a = b := by
  have h0 := h 0 (by decide); have h1 := h 1 (by decide); have h2 := h 2 (by decide); have h3 := h 3 (by decide)
  simp at h0 h1 h2 h3
  omega
theorem head_ext {h g : List Int} (hl : h.length = g.length) (hh : Bytes h) (hg : Bytes g) (he : ∀ i, i < 4 * h.length → mk h i = mk g i) : h = g := by
  refine List.ext_getElem hl fun j h1 h2 => ?_
  refine byte_marks (hh _ (List.getElem_mem h1)) (hg _ (List.getElem_mem h2)) fun p hp => ?_
  have := he (4 * j + p) (by omega)
  unfold mk at this
  have e1 : (4 * j + p) / 4 = j := by omega
  have e2 : (4 * j + p) % 4 = p := by omega
  rw [e1, e2] at this
  simpa [List.getD, List.getElem?_eq_getElem h1, List.getElem?_eq_getElem h2] using this
theorem mark_range (v : S50) : 0 ≤ mark v ∧ mark v < 3 := by unfold mark; (repeat' split) <;> omega
theorem setM_spec : ∀ (vs : List S50) (i : Nat) (acc : List Int), Bytes acc → i + vs.length ≤ 4 * acc.length → (∀ j, i ≤ j → j < 4 * acc.length → mk acc j = 0) →
    Bytes (setM vs i acc) ∧ ∀ j, j < 4 * acc.length → mk (setM vs i acc) j = if h : i ≤ j ∧ j - i < vs.length then mark (vs[j - i]'h.2) else mk acc j
  | [], i, acc, hb, hl, h0 => by
    refine ⟨hb, fun j hj => ?_⟩
    simp [setM]
  | v :: vs, i, acc, hb, hl, h0 => by
    simp only [List.length_cons] at hl
    have hi : i / 4 < acc.length := by omega
    have hrd : rd acc ((i / 4 : Nat) : Int) = acc[i / 4] := by
      show acc.getD (i / 4) 0 = _
      simp [List.getD, List.getElem?_eq_getElem hi]
    have hx := hb _ (List.getElem_mem hi)
    have hz : (acc[i / 4] / 4 ^ (i % 4)) % 4 = 0 := by
      have := h0 i (Nat.le_refl _) (by omega)
      simpa [mk, List.getD, List.getElem?_eq_getElem hi] using this
    have hm := mark_range v
    have hall := fun q hq => or_mark acc[i / 4] (mark v) (i % 4) q hx hm (Nat.mod_lt _ (by decide)) hq hz
    generalize hnew : Go.bits .or .u8 acc[i / 4] (shl .u8 (mark v) ((2 * (i % 4) : Nat) : Int)) = b at hall
    have hset : setM (v :: vs) i acc = setM vs (i + 1) (acc.set (i / 4) b) := by simp only [setM]; rw [hrd, hnew]
    have hbb := (hall 0 (by decide)).2
    have hmk : ∀ j, j < 4 * acc.length → mk (acc.set (i / 4) b) j = if i = j then mark v else mk acc j := by
      intro j hj
      by_cases hq : i / 4 = j / 4
      · have := (hall (j % 4) (Nat.mod_lt _ (by decide))).1
        have e1 : (acc.set (i / 4) b).getD (j / 4) 0 = b := by simp [List.getD, ← hq, hi]
        have e2 : acc.getD (j / 4) 0 = acc[i / 4] := by simp [List.getD, ← hq, hi]
        simp only [mk, e1, e2]
        rw [this]
        by_cases he : i = j
        · rw [if_pos he, if_pos (by omega)]
        · rw [if_neg he, if_neg (by omega)]
      · have e1 : (acc.set (i / 4) b).getD (j / 4) 0 = acc.getD (j / 4) 0 := by simp [List.getD, List.getElem?_set_ne hq]
        simp only [mk, e1]
        rw [if_neg (by intro e; exact hq (by rw [e]))]
    have hb2 : Bytes (acc.set (i / 4) b) := by
      intro x hx
      rcases List.mem_or_eq_of_mem_set hx with h | h
      · exact hb x h
      · rw [h]; exact hbb
    obtain ⟨g1, g2⟩ := setM_spec vs (i + 1) (acc.set (i / 4) b) hb2 (by simp; omega) (fun j hj hj2 => by
      rw [List.length_set] at hj2
      rw [hmk j hj2, if_neg (by omega)]; exact h0 j (by omega) hj2)
    rw [hset]
    refine ⟨g1, fun j hj => ?_⟩
    rw [g2 j (by simpa using hj), hmk j hj]
    by_cases h1 : i + 1 ≤ j ∧ j - (i + 1) < vs.length
    · rw [dif_pos h1, dif_pos ⟨by omega, by simp; omega⟩]
      have e : j - i = (j - (i + 1)) + 1 := by omega
      simp only [e, List.getElem_cons_succ]
    · rw [dif_neg h1]
      by_cases h2 : i = j
      · subst h2
        rw [if_pos rfl, dif_pos ⟨Nat.le_refl _, by simp⟩]
        simp
      · rw [if_neg h2, dif_neg (by simp; omega)]
theorem mk_zero (n j : Nat) : mk (List.replicate n 0) j = 0 := by
  unfold mk
  have : (List.replicate n (0 : Int)).getD (j / 4) 0 = 0 := by
    simp only [List.getD]
    by_cases h : j / 4 < n
    · rw [List.getElem?_eq_getElem (by simpa using h)]; simp
    · rw [List.getElem?_eq_none (by simp; omega)]; rfl
  rw [this]; simp
def lowN (L : List Int) : Nat := (num L.reverse).toNat
theorem lowB_be (n : Int) : lowB n 0 8 = (be n 8).reverse := by
  have h0 := shr_be (u := n) (n := 0) (by decide); have h1 := shr_be (u := n) (n := 1) (by decide); have h2 := shr_be (u := n) (n := 2) (by decide); have h3 := shr_be (u := n) (n := 3) (by decide)
  have h4 := shr_be (u := n) (n := 4) (by decide); have h5 := shr_be (u := n) (n := 5) (by decide); have h6 := shr_be (u := n) (n := 6) (by decide); have h7 := shr_be (u := n) (n := 7) (by decide)
  show [(shr .u64 n (8 * ((0 : Nat) : Int))) % 256, (shr .u64 n (8 * ((1 : Nat) : Int))) % 256, (shr .u64 n (8 * ((2 : Nat) : Int))) % 256, (shr .u64 n (8 * ((3 : Nat) : Int))) % 256, (shr .u64 n (8 * ((4 : Nat) : Int))) % 256, (shr .u64 n (8 * ((5 : Nat) : Int))) % 256, (shr .u64 n (8 * ((6 : Nat) : Int))) % 256, (shr .u64 n (8 * ((7 : Nat) : Int))) % 256] = _
  rw [h0, h1, h2, h3, h4, h5, h6, h7]
  rfl
theorem Bytes.reverse {L : List Int} (h : Bytes L) : Bytes L.reverse := fun x hx => h x (by simpa using hx)
theorem p256_8 : (256 : Int) ^ 8 = 18446744073709551616 := by decide
theorem lowN_lt {L : List Int} (h : Bytes L) (h8 : L.length = 8) : lowN L < 18446744073709551616 := by
  have := num_range h.reverse
  rw [List.length_reverse, h8, p256_8] at this
  unfold lowN; omega
theorem lowB_low {L : List Int} (h : Bytes L) (h8 : L.length = 8) : lowB (lowN L : Int) 0 8 = L := by
  have hr := num_range h.reverse
  have e : ((lowN L : Nat) : Int) = num L.reverse := by unfold lowN; omega
  have := be_num h.reverse
  rw [List.length_reverse, h8] at this
  rw [e, lowB_be, this, List.reverse_reverse]
theorem low_lowB {c : Nat} (h : c < 18446744073709551616) : lowN (lowB (c : Int) 0 8) = c := by
  unfold lowN
  rw [lowB_be, List.reverse_reverse, num_be _ (by omega), p256_8]; omega
theorem lowB_length (n : Int) : (lowB n 0 8).length = 8 := by simp [lowB]
def uz (n : Nat) : Int := if n % 2 = 0 then ((n / 2 : Nat) : Int) else -((n / 2 : Nat) : Int) - 1
theorem zz_uz (n : Nat) : zz (uz n) = n := by unfold zz uz; split <;> split <;> omega
theorem uz_zz (x : Int) : uz (zz x) = x := by unfold zz uz; split <;> split <;> omega
theorem uz_wf {n : Nat} (h : n < 18446744073709551616) : (Lit.int .i64 (uz n)).wf = true := by
  unfold uz; split <;> exact lit_i64 (by omega) (by omega)
theorem bytes_str {L : List Int} (h : Bytes L) : bytesOf (strOfNums L) = L := str_inj (bytesOf_bytes _) h (str_bytes _)
/-- What stands behind the two bits m of a column of a kind. -/
def valR (kind m : Int) (L : List Int) : Option (S50 × List Int) :=
  if m = 0 then some (⟨0, 0, 0, (⟨#[]⟩ : ByteArray)⟩, L)
  else if kind = 1 ∧ m < 3 then some (⟨1, m - 1, 0, (⟨#[]⟩ : ByteArray)⟩, L)
  else if 1 < m then none
  else if kind = 3 then (if L.length < 8 then none else some (⟨3, 0, lowN (L.take 8), (⟨#[]⟩ : ByteArray)⟩, L.drop 8))
  else match vr 0 L with
    | none => none
    | some (n, R) => if kind = 2 then some (⟨2, uz n, 0, (⟨#[]⟩ : ByteArray)⟩, R) else if R.length < n then none else some (⟨kind, 0, 0, strOfNums (R.take n)⟩, R.drop n)
theorem valR_len {kind m : Int} {L : List Int} {v : S50} {R : List Int} (h : valR kind m L = some (v, R)) : R.length ≤ L.length := by
  unfold valR at h
  split at h
  · simp at h; rw [h.2]; exact Nat.le_refl _
  split at h
  · simp at h; rw [h.2]; exact Nat.le_refl _
  split at h
  · cases h
  split at h
  · split at h
    · cases h
    · simp at h; rw [← h.2]; simp
  split at h
  · cases h
  · rename_i n R' hv
    have := vr_len 0 L n R' hv
    split at h
    · simp at h; rw [← h.2]; omega
    · split at h
      · cases h
      · simp at h; rw [← h.2, List.length_drop]; omega
theorem valR_sound {kind m : Int} {L : List Int} {v : S50} {R : List Int} (hk : 1 ≤ kind ∧ kind ≤ 5) (hm : 0 ≤ m) (hL : Bytes L) (hlen : L.length ≤ 65536) (h : valR kind m L = some (v, R)) :
    L = toldB v ++ R ∧ mark v = m ∧ wf50 v ∧ v.f3.size ≤ 65536 ∧ (m = 0 ∧ v.f0 = 0 ∨ m ≠ 0 ∧ v.f0 = kind) ∧ (v.f0 ≤ 3 → chkV v = 0) := by
  unfold valR at h
  split at h
  · rename_i h0
    simp only [Option.some.injEq, Prod.mk.injEq] at h
    obtain ⟨rfl, rfl⟩ := h
    exact ⟨by simp [toldB], by simp [mark, h0], wf_of (by decide) (by decide) (by decide) (by decide), by decide, .inl ⟨h0, rfl⟩, fun _ => chk_plain (.inl rfl) 0 (by decide) (fun _ _ => rfl) (fun _ => rfl)⟩
  rename_i h0
  split at h
  · rename_i h1
    simp only [Option.some.injEq, Prod.mk.injEq] at h
    obtain ⟨rfl, rfl⟩ := h
    have hb : m - 1 = 0 ∨ m - 1 = 1 := by omega
    refine ⟨by simp [toldB], ?_, wf_of (by decide) (lit_small (by omega)) (by decide) (by decide), (show (0 : Nat) ≤ 65536 by decide), .inr ⟨h0, h1.1.symm⟩, fun _ => chk_plain (.inr (.inl rfl)) 0 (fun _ => hb) (fun h => absurd rfl h) (fun _ => rfl)⟩
    show (if (1 : Int) = 0 then (0 : Int) else if (1 : Int) = 1 then (if m - 1 = 1 then 2 else 1) else 1) = m
    rw [if_neg (by decide), if_pos rfl]
    split <;> omega
  rename_i h1
  split at h
  · cases h
  rename_i h2
  have hm1 : m = 1 := by omega
  subst hm1
  have hk1 : kind ≠ 1 := by omega
  split at h
  · rename_i h3
    split at h
    · cases h
    · rename_i h8
      simp only [Option.some.injEq, Prod.mk.injEq] at h
      obtain ⟨rfl, rfl⟩ := h
      have ht : (L.take 8).length = 8 := by rw [List.length_take]; omega
      refine ⟨?_, rfl, wf_of (by decide) (by decide) (lowN_lt (hL.take 8) ht) (by decide), (show (0 : Nat) ≤ 65536 by decide), .inr ⟨by decide, h3.symm⟩, fun _ => chk_plain (.inr (.inr (.inr rfl))) _ (fun h => absurd h (by decide)) (fun _ _ => rfl) (fun h => absurd rfl h)⟩
      show L = lowB _ 0 8 ++ _
      rw [lowB_low (hL.take 8) ht, List.take_append_drop]
  rename_i h3
  split at h
  · cases h
  · rename_i n R' hv
    obtain ⟨g1, g2, _, _⟩ := vr_sound 0 L n R' hL hv
    have hl := vr_len 0 L n R' hv
    have g2' : n < 18446744073709551616 := g2
    split at h
    · rename_i hk2
      simp only [Option.some.injEq, Prod.mk.injEq] at h
      obtain ⟨rfl, rfl⟩ := h
      refine ⟨?_, rfl, wf_of (by decide) (uz_wf g2') (by decide) (by decide), (show (0 : Nat) ≤ 65536 by decide), .inr ⟨by decide, hk2.symm⟩, fun _ => chk_plain (.inr (.inr (.inl rfl))) 0 (fun h => absurd h (by decide)) (fun _ h => absurd rfl h) (fun _ => rfl)⟩
      show L = vb (zz (uz n)) ++ _
      rw [zz_uz]; exact g1
    · rename_i hk2
      split at h
      · cases h
      · rename_i hn
        simp only [Option.some.injEq, Prod.mk.injEq] at h
        obtain ⟨rfl, rfl⟩ := h
        have hR : Bytes R' := by rw [g1] at hL; exact hL.app.2
        have ht : (R'.take n).length = n := by rw [List.length_take]; omega
        have hs : (strOfNums (R'.take n)).size = n := by rw [str_size, ht]
        refine ⟨?_, ?_, wf_of (by omega) (by decide) (by decide) (by rw [hs]; omega), by show (strOfNums (R'.take n)).size ≤ _; rw [hs]; omega, .inr ⟨by decide, rfl⟩, fun h => by have : kind ≤ 3 := h; omega⟩
        · show L = (if kind = 2 then _ else if kind = 3 then _ else if kind = 4 ∨ kind = 5 then vb (strOfNums (R'.take n)).size ++ bytesOf (strOfNums (R'.take n)) else []) ++ _
          rw [if_neg hk2, if_neg h3, if_pos (by omega), hs, bytes_str (hR.take n), List.append_assoc, List.take_append_drop]
          exact g1
        · show (if kind = 0 then (0 : Int) else if kind = 1 then _ else 1) = 1
          rw [if_neg (by omega), if_neg hk1]
theorem valR_complete {kind : Int} {v : S50} (hk : 1 ≤ kind ∧ kind ≤ 5) (hw : wf50 v) (hc : chkV v = 0) (hf : v.f0 = 0 ∨ v.f0 = kind) (R : List Int) : valR kind (mark v) (toldB v ++ R) = some (v, R) := by
  obtain ⟨a, b, c, d⟩ := v
  obtain ⟨c0, c1, c2, c3, c4, _, c6⟩ := chk_fields hc
  have hf : a = 0 ∨ a = kind := hf
  obtain ⟨_, w1, w2, _⟩ := hw
  simp only at c0 c1 c2 c3 c4 c6 w1 w2
  by_cases h0 : a = 0
  · subst h0
    obtain rfl := c2 (by decide) (by decide); obtain rfl := c3 (by decide); obtain rfl := c4 (by decide) (by decide)
    simp [valR, mark, toldB]
  have hf := hf.resolve_left h0
  subst hf
  by_cases h1 : a = 1
  · subst h1
    obtain rfl := c3 (by decide); obtain rfl := c4 (by decide) (by decide)
    rcases c1 rfl with rfl | rfl <;> simp [valR, mark, toldB]
  have hm : mark ⟨a, b, c, d⟩ = 1 := by
    show (if a = 0 then (0 : Int) else if a = 1 then _ else 1) = 1
    rw [if_neg h0, if_neg h1]
  rw [hm]
  unfold valR
  rw [if_neg (by decide), if_neg (fun h => h1 h.1), if_neg (by decide)]
  by_cases h3 : a = 3
  · subst h3
    obtain rfl := c2 (by decide) (by decide); obtain rfl := c4 (by decide) (by decide)
    have e : toldB ⟨3, 0, c, (⟨#[]⟩ : ByteArray)⟩ = lowB (c : Int) 0 8 := rfl
    have hl := lowB_length (c : Int)
    rw [if_pos rfl, e, if_neg (by rw [List.length_append, hl]; omega)]
    have e1 : (lowB (c : Int) 0 8 ++ R).take 8 = lowB (c : Int) 0 8 := List.take_left' hl
    have e2 : (lowB (c : Int) 0 8 ++ R).drop 8 = R := List.drop_left' hl
    rw [e1, e2, low_lowB w2]
  rw [if_neg h3]
  obtain rfl := c3 h3
  by_cases h2 : a = 2
  · subst h2
    obtain rfl := c4 (by decide) (by decide)
    have e : toldB ⟨2, b, 0, (⟨#[]⟩ : ByteArray)⟩ = vb (zz b) := rfl
    rw [e, vr_complete 9 0 (zz b) R rfl (zz_lt w1) (by omega)]
    simp [uz_zz]
  · obtain rfl := c2 h1 h2
    have e : toldB ⟨a, 0, 0, d⟩ = vb d.size ++ bytesOf d := by
      show (if a = 2 then _ else if a = 3 then _ else if a = 4 ∨ a = 5 then vb d.size ++ bytesOf d else []) = _
      rw [if_neg h2, if_neg h3, if_pos (by omega)]
    have hdl := bytesOf_length d
    rw [e, List.append_assoc, vr_complete 9 0 d.size (bytesOf d ++ R) rfl (show d.size < 18446744073709551616 by omega) (by omega)]
    simp only
    rw [if_neg h2, if_neg (by rw [List.length_append, hdl]; omega)]
    have e1 : (bytesOf d ++ R).take d.size = bytesOf d := by rw [← hdl]; simp
    have e2 : (bytesOf d ++ R).drop d.size = R := by rw [← hdl]; simp
    rw [e1, e2, str_bytes]
def rowV : List Int → List Int → Nat → List Int → Option (List S50 × List Int)
  | [], _, _, L => some ([], L)
  | kd :: ks, h, i, L => match valR kd (mk h i) L with
    | none => none
    | some (v, R) => match rowV ks h (i + 1) R with
      | none => none
      | some (vs, R') => some (v :: vs, R')
def padOk (h : List Int) (i : Nat) : Nat → Bool
  | 0 => true
  | m + 1 => mk h i == 0 && padOk h (i + 1) m
/-- The values of columns of some kinds off the begin of some bytes, and what is left. -/
def rowR (ks : List Int) (L : List Int) : Option (List S50 × List Int) :=
  if L.length < (ks.length + 3) / 4 then none
  else if padOk (L.take ((ks.length + 3) / 4)) ks.length (4 * ((ks.length + 3) / 4) - ks.length) = true then rowV ks (L.take ((ks.length + 3) / 4)) 0 (L.drop ((ks.length + 3) / 4))
  else none
theorem padOk_iff (h : List Int) : ∀ (m i : Nat), padOk h i m = true ↔ ∀ j, i ≤ j → j < i + m → mk h j = 0
  | 0, i => by simp [padOk]; intro j h1 h2; omega
  | m + 1, i => by
    simp only [padOk, Bool.and_eq_true, beq_iff_eq]
    rw [padOk_iff h m (i + 1)]
    constructor
    · rintro ⟨h0, h1⟩ j hj hj2
      by_cases e : i = j
      · subst e; exact h0
      · exact h1 j (by omega) (by omega)
    · intro g
      exact ⟨g i (by omega) (by omega), fun j hj hj2 => g j (by omega) (by omega)⟩
theorem mk_range (h : List Int) (i : Nat) : 0 ≤ mk h i ∧ mk h i ≤ 3 := by unfold mk; omega
theorem rowV_sound : ∀ (ks h : List Int) (i : Nat) (L : List Int) (vs : List S50) (R : List Int), (∀ k ∈ ks, 1 ≤ k ∧ k ≤ 5) → Bytes L → L.length ≤ 65536 → rowV ks h i L = some (vs, R) →
    L = vs.flatMap toldB ++ R ∧ ∃ hl : vs.length = ks.length, (∀ j (hj : j < vs.length), mark vs[j] = mk h (i + j) ∧ wf50 vs[j] ∧ vs[j].f3.size ≤ 65536)
  | [], h, i, L, vs, R, _, hL, _, e => by
    simp only [rowV, Option.some.injEq, Prod.mk.injEq] at e
    obtain ⟨rfl, rfl⟩ := e
    exact ⟨rfl, rfl, fun j hj => by simp at hj⟩
  | kd :: ks, h, i, L, vs, R, hk, hL, hlen, e => by
    simp only [rowV] at e
    split at e
    · cases e
    rename_i v R1 hv
    split at e
    · cases e
    rename_i vs' R2 hr
    simp only [Option.some.injEq, Prod.mk.injEq] at e
    obtain ⟨rfl, rfl⟩ := e
    obtain ⟨g1, g2, g3, g4, _, _⟩ := valR_sound (hk kd (by simp)) (mk_range h i).1 hL hlen hv
    have hl1 := valR_len hv
    have hL1 : Bytes R1 := by rw [g1] at hL; exact hL.app.2
    obtain ⟨i1, i2, i3⟩ := rowV_sound ks h (i + 1) R1 vs' R2 (fun k hk' => hk k (by simp [hk'])) hL1 (by omega) hr
    refine ⟨by rw [List.flatMap_cons, List.append_assoc, ← i1]; exact g1, by simp [i2], fun j hj => ?_⟩
    cases j with
    | zero => exact ⟨g2, g3, g4⟩
    | succ j =>
      have := i3 j (by simpa using hj)
      rw [show i + (j + 1) = i + 1 + j by omega]
      exact this
theorem rowV_complete : ∀ (ks h : List Int) (i : Nat) (vs : List S50) (R : List Int), vs.length = ks.length → (∀ j (hj : j < vs.length) (hj2 : j < ks.length), (1 ≤ ks[j] ∧ ks[j] ≤ 5) ∧ mk h (i + j) = mark vs[j] ∧ wf50 vs[j] ∧ chkV vs[j] = 0 ∧ (vs[j].f0 = 0 ∨ vs[j].f0 = ks[j])) → rowV ks h i (vs.flatMap toldB ++ R) = some (vs, R)
  | [], h, i, vs, R, hl, _ => by
    obtain rfl := List.length_eq_zero_iff.1 hl
    rfl
  | kd :: ks, h, i, [], R, hl, _ => by simp at hl
  | kd :: ks, h, i, v :: vs, R, hl, hv => by
    obtain ⟨a1, a2, a3, a4, a5⟩ := hv 0 (by simp) (by simp)
    simp only [List.getElem_cons_zero, Nat.add_zero] at a1 a2 a3 a4 a5
    simp only [rowV]
    rw [a2, List.flatMap_cons, List.append_assoc, valR_complete a1 a3 a4 a5]
    simp only
    rw [rowV_complete ks h (i + 1) vs R (by simpa using hl) (fun j hj hj2 => by
      have := hv (j + 1) (by simpa using hj) (by simpa using hj2)
      rw [show i + 1 + j = i + (j + 1) by omega]
      exact this)]
theorem rowR_sound {ks L : List Int} {vs : List S50} {R : List Int} (hk : ∀ k ∈ ks, 1 ≤ k ∧ k ≤ 5) (hL : Bytes L) (hlen : L.length ≤ 65536) (h : rowR ks L = some (vs, R)) :
    L = rowB vs ++ R ∧ vs.length = ks.length ∧ (∀ v ∈ vs, wf50 v ∧ v.f3.size ≤ 65536) := by
  unfold rowR at h
  split at h
  · cases h
  rename_i hn
  split at h
  · rename_i hp
    have hD : Bytes (L.drop ((ks.length + 3) / 4)) := hL.drop _
    obtain ⟨g1, g2, g3⟩ := rowV_sound ks _ 0 _ vs R hk hD (by rw [List.length_drop]; omega) h
    refine ⟨?_, g2, fun v hv => ?_⟩
    · have hs := setM_spec vs 0 (List.replicate ((vs.length + 3) / 4) 0) (fun x hx => by rw [List.eq_of_mem_replicate hx]; decide) (by simp; omega) (fun j _ _ => mk_zero _ _)
      have hp2 := (padOk_iff _ _ _).1 hp
      have hlt : (L.take ((ks.length + 3) / 4)).length = (ks.length + 3) / 4 := by rw [List.length_take]; omega
      have e : L.take ((ks.length + 3) / 4) = setM vs 0 (List.replicate ((vs.length + 3) / 4) 0) := by
        refine head_ext (by rw [hlt, setM_length, List.length_replicate, g2]) (hL.take _) hs.1 fun j hj => ?_
        rw [hlt] at hj
        rw [hs.2 j (by rw [List.length_replicate, g2]; exact hj)]
        by_cases hv : j < vs.length
        · rw [dif_pos ⟨by omega, by omega⟩]
          have := (g3 j hv).1
          rw [Nat.zero_add] at this
          rw [← this]; rfl
        · rw [dif_neg (by omega), mk_zero]
          exact hp2 j (by omega) (by omega)
      unfold rowB
      rw [← e, List.append_assoc, ← g1, List.take_append_drop]
    · obtain ⟨j, hj, rfl⟩ := List.getElem_of_mem hv
      exact (g3 j hj).2
  · cases h
theorem rowR_complete {ks : List Int} {vs : List S50} (R : List Int) (hk : ∀ k ∈ ks, 1 ≤ k ∧ k ≤ 5) (hl : vs.length = ks.length) (hv : ∀ j (hj : j < vs.length) (hj2 : j < ks.length), wf50 vs[j] ∧ chkV vs[j] = 0 ∧ (vs[j].f0 = 0 ∨ vs[j].f0 = ks[j])) :
    rowR ks (rowB vs ++ R) = some (vs, R) := by
  have hs := setM_spec vs 0 (List.replicate ((vs.length + 3) / 4) 0) (fun x hx => by rw [List.eq_of_mem_replicate hx]; decide) (by simp; omega) (fun j _ _ => mk_zero _ _)
  have hsl : (setM vs 0 (List.replicate ((vs.length + 3) / 4) 0)).length = (ks.length + 3) / 4 := by rw [setM_length, List.length_replicate, hl]
  unfold rowR rowB
  rw [List.append_assoc]
  have e1 : (setM vs 0 (List.replicate ((vs.length + 3) / 4) 0) ++ (vs.flatMap toldB ++ R)).take ((ks.length + 3) / 4) = setM vs 0 (List.replicate ((vs.length + 3) / 4) 0) := by rw [← hsl]; simp
  have e2 : (setM vs 0 (List.replicate ((vs.length + 3) / 4) 0) ++ (vs.flatMap toldB ++ R)).drop ((ks.length + 3) / 4) = vs.flatMap toldB ++ R := by rw [← hsl]; simp
  rw [e1, e2, if_neg (by rw [List.length_append, hsl]; omega), if_pos ((padOk_iff _ _ _).2 fun j h1 h2 => by
    rw [hs.2 j (by rw [List.length_replicate, hl]; omega), dif_neg (by omega), mk_zero])]
  refine rowV_complete ks _ 0 vs R hl fun j hj hj2 => ?_
  obtain ⟨v1, v2, v3⟩ := hv j hj hj2
  refine ⟨hk _ (List.getElem_mem hj2), ?_, v1, v2, v3⟩
  rw [Nat.zero_add, hs.2 j (by rw [List.length_replicate]; omega), dif_pos ⟨by omega, by omega⟩]
  rfl
theorem smB_iff {x y : S50} : smB x y = true ↔ x = y := by
  constructor
  · intro h
    unfold smB at h
    split at h
    · split at h
      · split at h
        · rename_i h0 h1 h2
          obtain ⟨a, b, c, d⟩ := x
          obtain ⟨a', b', c', d'⟩ := y
          have h3 : d = d' := by
            rw [beq_iff_eq, Lib.toList_data, Lib.toList_data] at h
            exact Go.WideShapes.bytes_inj h
          simp only at h0 h1 h2
          have h2 : c = c' := by omega
          subst h0 h1 h2 h3; rfl
        · cases h
      · cases h
    · cases h
  · rintro rfl
    simp [smB]
def chgT : List S50 → List S50 → Nat → Nat → List Int
  | x :: xs, y :: ys, nx, i => if smB x y = true then chgT xs ys nx (i + 1) else vb (i - nx) ++ rowB [y] ++ chgT xs ys (i + 1) (i + 1)
  | _, _, _, _ => []
theorem chgL_T : ∀ (xs ys : List S50) (nx i : Nat) (acc : List Int), chgL xs ys nx i acc = acc ++ chgT xs ys nx i
  | [], ys, nx, i, acc => by simp [chgL, chgT]
  | x :: xs, [], nx, i, acc => by simp [chgL, chgT]
  | x :: xs, y :: ys, nx, i, acc => by
    simp only [chgL, chgT]
    split
    · exact chgL_T xs ys _ _ _
    · rw [chgL_T xs ys]; simp
theorem chgT_self : ∀ (xs : List S50) (nx i : Nat), chgT xs xs nx i = []
  | [], _, _ => rfl
  | x :: xs, nx, i => by
    simp only [chgT]
    rw [if_pos (smB_iff.2 rfl), chgT_self xs]
/-- Entries that are the same are passed by. -/
theorem chgT_skip (xs ys : List S50) : ∀ (m i nx : Nat), i + m ≤ xs.length → i + m ≤ ys.length → (∀ j, i ≤ j → j < i + m → xs[j]? = ys[j]?) → chgT (xs.drop i) (ys.drop i) nx i = chgT (xs.drop (i + m)) (ys.drop (i + m)) nx (i + m)
  | 0, i, nx, _, _, _ => rfl
  | m + 1, i, nx, h1, h2, h => by
    have g1 : i < xs.length := by omega
    have g2 : i < ys.length := by omega
    have e := h i (Nat.le_refl _) (by omega)
    rw [List.getElem?_eq_getElem g1, List.getElem?_eq_getElem g2, Option.some.injEq] at e
    have ih := chgT_skip xs ys m (i + 1) nx (by omega) (by omega) (fun j a b => h j (by omega) (by omega))
    rw [List.drop_eq_getElem_cons g1, List.drop_eq_getElem_cons g2]
    simp only [chgT]
    rw [if_pos (smB_iff.2 e), ih, show i + 1 + m = i + (m + 1) by omega]
/-- A row behind a change: the reference's way, with a bound on rounds. -/
def appR (ks : List Int) (l : List S50) : Nat → Nat → List S50 → List Int → Option (List S50)
  | 0, _, _, _ => none
  | n + 1, nx, out, L => if L = [] then some out else match vr 0 L with
    | none => none
    | some (d, R) => if l.length - nx ≤ d then none else match rowR [rd ks ((nx + d : Nat) : Int)] R with
      | some ([w], R') => if smB w (rd_T50 l ((nx + d : Nat) : Int)) = true then none else appR ks l n (nx + d + 1) (out.set (nx + d) w) R'
      | _ => none
theorem rd_int {ks : List Int} {j : Nat} (h : j < ks.length) : rd ks (j : Int) = ks[j] := by
  show ks.getD j 0 = _
  simp [List.getD, List.getElem?_eq_getElem h]
theorem rowR_len {ks L : List Int} {vs : List S50} {R : List Int} (h : rowR ks L = some (vs, R)) : R.length ≤ L.length := by
  have go : ∀ (ks h : List Int) (i : Nat) (L : List Int) (vs : List S50) (R : List Int), rowV ks h i L = some (vs, R) → R.length ≤ L.length := by
    intro ks
    induction ks with
    | nil => intro h i L vs R e; simp only [rowV, Option.some.injEq, Prod.mk.injEq] at e; rw [e.2]; exact Nat.le_refl _
    | cons k ks ih =>
      intro h i L vs R e
      simp only [rowV] at e
      split at e
      · cases e
      rename_i v R1 hv
      split at e
      · cases e
      rename_i vs' R2 hr
      simp only [Option.some.injEq, Prod.mk.injEq] at e
      obtain ⟨_, rfl⟩ := e
      exact Nat.le_trans (ih _ _ _ _ _ hr) (valR_len hv)
  unfold rowR at h
  split at h
  · cases h
  · split at h
    · have := go _ _ _ _ _ _ h
      rw [List.length_drop] at this; omega
    · cases h
theorem take_set_succ {α : Type} (ys xs : List α) (i : Nat) (h1 : i < ys.length) (h2 : i < xs.length) : (ys.take i ++ xs.drop i).set i ys[i] = ys.take (i + 1) ++ xs.drop (i + 1) := by
  have e : (ys.take i).length = i := by rw [List.length_take]; omega
  rw [List.set_append_right _ _ (by omega), e, Nat.sub_self, List.drop_eq_getElem_cons h2, List.set_cons_zero, List.take_succ_eq_append_getElem h1, List.append_assoc]
  rfl
theorem app_complete (ks : List Int) (xs ys : List S50) (hk : ∀ k ∈ ks, 1 ≤ k ∧ k ≤ 5) (hlk : ys.length = ks.length) (hlx : xs.length = ys.length)
    (hv : ∀ j (hj : j < ys.length) (hj2 : j < ks.length), wf50 ys[j] ∧ chkV ys[j] = 0 ∧ (ys[j].f0 = 0 ∨ ys[j].f0 = ks[j])) (hsz : ys.length ≤ 64) :
    ∀ (m i nx n : Nat), i + m = ys.length → nx ≤ i → m < n → appR ks xs n nx (ys.take i ++ xs.drop i) (chgT (xs.drop i) (ys.drop i) nx i) = some ys
  | 0, i, nx, n, hm, hn, hf => by
    obtain ⟨n, rfl⟩ : ∃ q, n = q + 1 := ⟨n - 1, by omega⟩
    rw [List.drop_of_length_le (l := xs) (by omega), List.drop_of_length_le (l := ys) (by omega), List.take_of_length_le (by omega)]
    simp [appR, chgT]
  | m + 1, i, nx, n, hm, hn, hf => by
    have g1 : i < xs.length := by omega
    have g2 : i < ys.length := by omega
    have g3 : i < ks.length := by omega
    by_cases he : xs[i] = ys[i]
    · have e1 : chgT (xs.drop i) (ys.drop i) nx i = chgT (xs.drop (i + 1)) (ys.drop (i + 1)) nx (i + 1) := by
        rw [List.drop_eq_getElem_cons g1, List.drop_eq_getElem_cons g2]
        simp only [chgT]
        rw [if_pos (smB_iff.2 he)]
      have e2 : ys.take i ++ xs.drop i = ys.take (i + 1) ++ xs.drop (i + 1) := by
        rw [List.drop_eq_getElem_cons g1, List.take_succ_eq_append_getElem g2, he, List.append_assoc]; rfl
      rw [e1, e2]
      exact app_complete ks xs ys hk hlk hlx hv hsz m (i + 1) nx n (by omega) (by omega) (by omega)
    · obtain ⟨n, rfl⟩ : ∃ q, n = q + 1 := ⟨n - 1, by omega⟩
      have e1 : chgT (xs.drop i) (ys.drop i) nx i = vb (i - nx) ++ (rowB [ys[i]] ++ chgT (xs.drop (i + 1)) (ys.drop (i + 1)) (i + 1) (i + 1)) := by
        rw [List.drop_eq_getElem_cons g1, List.drop_eq_getElem_cons g2]
        simp only [chgT]
        rw [if_neg (fun h => he (smB_iff.1 h)), List.append_assoc]
      have hp : (2 : Nat) ^ (64 - 7 * 0) = 18446744073709551616 := by decide
      have ev := vr_complete 9 0 (i - nx) (rowB [ys[i]] ++ chgT (xs.drop (i + 1)) (ys.drop (i + 1)) (i + 1) (i + 1)) rfl (by omega) (by omega)
      have hne : chgT (xs.drop i) (ys.drop i) nx i ≠ [] := by
        intro h
        rw [← e1, h] at ev
        simp [vr] at ev
      have ei : nx + (i - nx) = i := by omega
      have er : rowR [rd ks (i : Int)] (rowB [ys[i]] ++ chgT (xs.drop (i + 1)) (ys.drop (i + 1)) (i + 1) (i + 1)) = some ([ys[i]], chgT (xs.drop (i + 1)) (ys.drop (i + 1)) (i + 1) (i + 1)) := by
        rw [rd_int g3]
        refine rowR_complete _ (fun k hk' => ?_) rfl (fun j hj hj2 => ?_)
        · simp at hk'; subst hk'; exact hk _ (List.getElem_mem g3)
        · simp at hj; subst hj; simpa using hv i g2 g3
      simp only [appR]
      rw [if_neg hne, e1, ev]
      simp only [ei]
      rw [if_neg (by omega), er]
      simp only
      rw [rd_get xs i xs[i] (List.getElem?_eq_getElem g1), if_neg (fun h => he (smB_iff.1 h).symm), take_set_succ ys xs i g2 g1]
      exact app_complete ks xs ys hk hlk hlx hv hsz m (i + 1) (i + 1) n (by omega) (by omega) (by omega)
theorem app_keep (ks : List Int) (xs : List S50) : ∀ (n nx : Nat) (out : List S50) (L : List Int) (ys : List S50), appR ks xs n nx out L = some ys → ys.length = out.length ∧ ∀ j, j < nx → ys[j]? = out[j]?
  | 0, nx, out, L, ys, h => by simp [appR] at h
  | n + 1, nx, out, L, ys, h => by
    simp only [appR] at h
    split at h
    · injection h with h; subst h; exact ⟨rfl, fun _ _ => rfl⟩
    split at h
    · cases h
    rename_i d R hv
    split at h
    · cases h
    split at h
    · rename_i w R' hr
      split at h
      · cases h
      · obtain ⟨h1, h2⟩ := app_keep ks xs n _ _ _ _ h
        refine ⟨by rw [h1]; simp, fun j hj => ?_⟩
        rw [h2 j (by omega), List.getElem?_set_ne (by omega)]
    · cases h
theorem app_sound (ks : List Int) (xs : List S50) (hk : ∀ k ∈ ks, 1 ≤ k ∧ k ≤ 5) (hlk : xs.length = ks.length) : ∀ (n nx : Nat) (out : List S50) (L : List Int) (ys : List S50), Bytes L → L.length ≤ 65536 → nx ≤ xs.length → out.length = xs.length → (∀ j, nx ≤ j → out[j]? = xs[j]?) → (∀ v ∈ out, wf50 v ∧ v.f3.size ≤ 65536) → appR ks xs n nx out L = some ys →
    L = chgT (xs.drop nx) (ys.drop nx) nx nx ∧ (∀ v ∈ ys, wf50 v ∧ v.f3.size ≤ 65536)
  | 0, nx, out, L, ys, _, _, _, _, _, _, h => by simp [appR] at h
  | n + 1, nx, out, L, ys, hL, hlen, hnx, hol, hox, how, h => by
    simp only [appR] at h
    split at h
    · rename_i h0
      injection h with h; subst h
      have e : out.drop nx = xs.drop nx := by
        refine List.ext_getElem? fun j => ?_
        rw [List.getElem?_drop, List.getElem?_drop]
        exact hox _ (by omega)
      rw [e, chgT_self]
      exact ⟨h0, how⟩
    split at h
    · cases h
    rename_i d R hv
    split at h
    · cases h
    rename_i hd
    split at h
    · rename_i w R' hr
      split at h
      · cases h
      · rename_i hs
        have g1 : nx + d < xs.length := by omega
        have g3 : nx + d < ks.length := by omega
        have g4 : nx + d < out.length := by omega
        rw [rd_get xs (nx + d) xs[nx + d] (List.getElem?_eq_getElem g1)] at hs
        obtain ⟨v1, _, _, _⟩ := vr_sound 0 L d R hL hv
        have hR : Bytes R := by rw [v1] at hL; exact hL.app.2
        have hl1 := vr_len 0 L d R hv
        obtain ⟨r1, _, r3⟩ := rowR_sound (fun k hk' => by
          rw [List.mem_singleton] at hk'; subst hk'; rw [rd_int g3]; exact hk _ (List.getElem_mem g3)) hR (by omega) hr
        have hR' : Bytes R' := by rw [r1] at hR; exact hR.app.2
        have hl2 := rowR_len hr
        obtain ⟨k1, k2⟩ := app_keep ks xs n _ _ _ _ h
        have hw := r3 w (by simp)
        obtain ⟨i1, i2⟩ := app_sound ks xs hk hlk n (nx + d + 1) (out.set (nx + d) w) R' ys hR' (by omega) (by omega) (by rw [List.length_set]; exact hol) (fun j hj => by rw [List.getElem?_set_ne (by omega)]; exact hox j (by omega)) (fun v hv => by
          rcases List.mem_or_eq_of_mem_set hv with g | g
          · exact how v g
          · rw [g]; exact hw) h
        refine ⟨?_, i2⟩
        rw [List.length_set] at k1
        have g2 : nx + d < ys.length := by omega
        have hyi : ys[nx + d] = w := by
          have := k2 (nx + d) (by omega)
          rw [List.getElem?_eq_getElem g2, List.getElem?_set_self g4, Option.some.injEq] at this
          exact this
        rw [chgT_skip xs ys d nx nx (by omega) (by omega) (fun j a b => by
          rw [k2 j (by omega), List.getElem?_set_ne (by omega)]; exact (hox j a).symm), List.drop_eq_getElem_cons g1, List.drop_eq_getElem_cons g2]
        simp only [chgT]
        rw [hyi, if_neg (fun g => hs (by rw [smB_iff] at g ⊢; exact g.symm)), ← i1, List.append_assoc, ← r1, show nx + d - nx = d by omega]
        exact v1
    · cases h
def fitB (c : S105) (v : S50) : Bool := decide (chkV v = 0) && (if v.f0 = 0 then c.f2 else decide (v.f0 = c.f1))
theorem admRow_cons (c : S105) (cs : List S105) (v : S50) (vs : List S50) : admRow (c :: cs) (v :: vs) = 0 ↔ fitB c v = true ∧ admRow cs vs = 0 := by
  simp only [admRow]
  unfold fitB chkV
  by_cases h : chk v.f0 v.f1 v.f2 v.f3 = 0
  · rw [if_neg (by simp [h]), decide_eq_true h, Bool.true_and]
    by_cases h0 : v.f0 = 0
    · rw [if_pos h0, if_pos h0]
      cases hc : c.f2 <;> simp
    · rw [if_neg h0, if_neg h0]
      by_cases h1 : v.f0 = c.f1 <;> simp [h1]
  · rw [if_pos h, decide_eq_false h, Bool.false_and]
    simp [h]
theorem admRow_iff : ∀ (cs : List S105) (vs : List S50), vs.length = cs.length → (admRow cs vs = 0 ↔ ∀ j (h1 : j < vs.length) (h2 : j < cs.length), fitB cs[j] vs[j] = true)
  | [], vs, h => by
    obtain rfl := List.length_eq_zero_iff.1 h
    simp [admRow]
  | c :: cs, [], h => by simp at h
  | c :: cs, v :: vs, h => by
    rw [admRow_cons, admRow_iff cs vs (by simpa using h)]
    constructor
    · rintro ⟨h0, h1⟩ j g1 g2
      cases j with
      | zero => exact h0
      | succ j => exact h1 j (by simpa using g1) (by simpa using g2)
    · intro g
      exact ⟨g 0 (by simp) (by simp), fun j g1 g2 => g (j + 1) (by simpa using g1) (by simpa using g2)⟩
theorem fitB_iff {c : S105} {v : S50} : fitB c v = true ↔ chkV v = 0 ∧ ((v.f0 = 0 ∧ c.f2 = true) ∨ (v.f0 ≠ 0 ∧ v.f0 = c.f1)) := by
  unfold fitB
  rw [Bool.and_eq_true, decide_eq_true_eq]
  by_cases h : v.f0 = 0
  · rw [if_pos h]; simp [h]
  · rw [if_neg h]; simp [h]
theorem colErrs_kind : ∀ (l pre : List S105), colErrs pre l = 0 → ∀ c ∈ l, 1 ≤ c.f1 ∧ c.f1 ≤ 5
  | [], _, _ => by simp
  | c :: l, pre, h => by
    simp only [colErrs] at h
    split at h
    · cases h
    split at h
    · cases h
    split at h
    · cases h
    rename_i hb
    have hk : 1 ≤ c.f1 ∧ c.f1 ≤ 5 := by
      unfold colBad at hb
      simp only [Bool.or_eq_true, decide_eq_true_eq, not_or] at hb
      omega
    intro x hx
    rcases List.mem_cons.1 hx with rfl | hx
    · exact hk
    · exact colErrs_kind l _ h x hx
theorem checkT_kind {a : ByteArray} {c : List S105} {d : List Int} {e : List S115} {f : List S139} (h : checkT a c d e f = 0) : ∀ k ∈ c.map (fun c => c.f1), 1 ≤ k ∧ k ≤ 5 := by
  unfold checkT at h
  split at h
  · cases h
  split at h
  · cases h
  split at h
  · rename_i g; exact absurd h g
  · rename_i g
    intro k hk
    obtain ⟨x, hx, rfl⟩ := List.mem_map.1 hk
    exact colErrs_kind c [] (Decidable.not_not.1 g) x hx
theorem admT_iff {a : ByteArray} {c : List S105} {d : List Int} {e : List S115} {f : List S139} {row : List S50} (h0 : checkT a c d e f = 0) : admT a c d e f row = 0 ↔ row.length = c.length ∧ admRow c row = 0 := by
  unfold admT
  rw [if_neg (by simp [h0])]
  by_cases h : row.length = c.length
  · rw [if_neg (by simp [h])]; simp [h]
  · rw [if_pos h]; simp [h]
theorem admT_check {a : ByteArray} {c : List S105} {d : List Int} {e : List S115} {f : List S139} {row : List S50} (h : admT a c d e f row = 0) : checkT a c d e f = 0 := by
  unfold admT at h
  by_cases h0 : checkT a c d e f = 0
  · exact h0
  · rw [if_pos h0] at h; exact h
/-- The values of a row that fits, as_ what reads them asks. -/
theorem adm_vals {a : ByteArray} {c : List S105} {d : List Int} {e : List S115} {f : List S139} {row : List S50} (h : admT a c d e f row = 0) (hw : ∀ v ∈ row, wf50 v) :
    row.length = (c.map fun c => c.f1).length ∧ ∀ j (hj : j < row.length) (hj2 : j < (c.map fun c => c.f1).length), wf50 row[j] ∧ chkV row[j] = 0 ∧ (row[j].f0 = 0 ∨ row[j].f0 = (c.map fun c => c.f1)[j]) := by
  obtain ⟨h1, h2⟩ := (admT_iff (admT_check h)).1 h
  refine ⟨by rw [List.length_map]; exact h1, fun j hj hj2 => ?_⟩
  have hj3 : j < c.length := by simpa using hj2
  have := fitB_iff.1 ((admRow_iff c row h1).1 h2 j hj hj3)
  refine ⟨hw _ (List.getElem_mem hj), this.1, ?_⟩
  rw [List.getElem_map]
  rcases this.2 with g | g
  · exact .inl g.1
  · exact .inr g.2
end Go.Proofs.YtpiifdbicibelaaDoor.Pure
end
section
namespace Go.Proofs.YtpiifdbicibelaaDoor.PA
open Go.RowKit Go.Proofs.YtpiifdbicibelaaDoorW.PrintWords Go.Proofs.YtpiifdbicibelaaDoorW.PrintLast Go.Proofs.YtpiifdbicibelaaDoorW.PrintMore
attribute [local go_sem] max2_int min2_int max_two min_two max_three min_three max_four min_four
set_option linter.unusedVariables false
set_option linter.unusedSimpArgs false
def row_low.l0 : Nat → ByteArray → Int → Int → Option (Int)
  | 0, _, _, _ => none
  | k + 1, x0, x3, x5 => if x5 < 8 then (if 0 ≤ x5 then (if x5 < (x0.size : Int) then (if 0 ≤ (wrap64 (8 * x5)) then (row_low.l0 k x0 (Go.bits .or .u64 x3 (shl .u64 (IntKind.u64.wrap (bt x0 x5)) (wrap64 (8 * x5)))) (wrap64 (x5 + 1))) else (none)) else (none)) else (none)) else (some x3)
def row_low.f (k : Nat) (a0 : ByteArray) : Option (Int) := row_low.l0 k a0 0 0
set_option maxHeartbeats 8000000 in
set_option maxRecDepth 100000 in
theorem row_low.calls (k : Nat) (a0 : ByteArray) (r : Int) (w : World) (h : row_low.f k a0 = some r) :
    Calls Tryd.prog 170 #[.string a0] w fun e w' => e = .returned (.int .u64 r) ∧ Drawn0 w w' := by
  have H : (row_low.l0 k a0 0 0) = some r := h
  clear h
  have H' := am H
  clear H
  go_enter Tryd.func170, Tryd.ntmps170
  go_wp2
  go_loopg [3, 5] k (fun kq v3 v5 w' => ∃ (x3_1 : Int) (x5_1 : Int), v3 = .int .u64 x3_1 ∧ v5 = .int .i64 x5_1 ∧ Aside0 (row_low.l0 kq a0 x3_1 x5_1 = some r) ∧ Aside0 (kq ≤ k) ∧ Drawn0 w w')
  case atStart => exact ⟨(0), (0), eb, eb, H', ⟨Nat.le_refl _⟩, by repeat (first | exact Drawn0.refl _ | apply Drawn0.step)⟩
  case round =>
    clear H'
    try clear c1
    obtain ⟨x3_1, x5_1, rfl, rfl, HA, HK1, ⟨m1, rfl⟩⟩ := hrel
    cases gk with
    | zero => exact absurd HA.out (by simp [row_low.l0])
    | succ k1 =>
      have H := HA.out
      clear HA
      simp only [row_low.l0] at H
      by_cases c2 : x5_1 < 8
      · rw [if_pos c2] at H
        have c2b0 : decide (x5_1 < 8) = true := decide_eq_true c2
        clear c2
        by_cases c3 : 0 ≤ x5_1
        · rw [if_pos c3] at H
          have c3b0 : decide (0 ≤ x5_1) = true := decide_eq_true c3
          clear c3
          by_cases c4 : x5_1 < (a0.size : Int)
          · rw [if_pos c4] at H
            have c4b0 : decide (x5_1 < (a0.size : Int)) = true := decide_eq_true c4
            clear c4
            obtain ⟨ji6, hji6⟩ : ∃ j_ : Int, (wrap64 (8 * x5_1)) = j_ := ⟨_, rfl⟩
            replace H : (if 0 ≤ (ji6) then (row_low.l0 k1 a0 (Go.bits .or .u64 x3_1 (shl .u64 (IntKind.u64.wrap (bt a0 x5_1)) (ji6))) (wrap64 (x5_1 + 1))) else (none)) = some r := by first | (rw [hji6] at H; exact H) | (simp only [hji6] at H ⊢; exact H)
            have hji6w : (IntKind.i64.wrap (8 * x5_1)) = ji6 := (i64_w _).trans hji6
            by_cases c7 : 0 ≤ (ji6)
            · rw [if_pos c7] at H
              have c7b0 := eq_true c7
              have c7b1 : decide (0 ≤ (ji6)) = true := decide_eq_true c7
              clear c7
              obtain ⟨ji8, hji8⟩ : ∃ j_ : Int, (shl .u64 (IntKind.u64.wrap (bt a0 x5_1)) (ji6)) = j_ := ⟨_, rfl⟩
              replace H : (row_low.l0 k1 a0 (Go.bits .or .u64 x3_1 (ji8)) (wrap64 (x5_1 + 1))) = some r := by first | (rw [hji8] at H; exact H) | (simp only [hji8] at H ⊢; exact H)
              have hji8_ : (IntKind.u64.wrap ((IntKind.u64.wrap (bt a0 x5_1)) * 2 ^ min (ji6).toNat 64)) = ji8 := hji8
              have hji8z : (ji6) ≤ 64 → (IntKind.u64.wrap ((IntKind.u64.wrap (bt a0 x5_1)) * 2 ^ (ji6).toNat)) = ji8 := shl_small hji8
              have H' := am H
              clear H
              have p5 : 0 ≤ (x5_1 : Int) := oda
              have q5 : x5_1 < (a0.size : Int) := oda
              have hx5 := bt_at a0 x5_1
              replace p5 := eq_true p5
              replace q5 := eq_true q5
              go_wp2
              go_roundg k1
              case measure => have := HK1.out; omega
              case rel => exact ⟨(Go.bits .or .u64 x3_1 (ji8)), (wrap64 (x5_1 + 1)), (by first | rfl | (simp; done) | (simp only [← hji8] <;> (first | rfl | simp)) | (simp [*]; done)), eb, H', ⟨by have := HK1.out; omega⟩, by repeat (first | exact Drawn0.refl _ | apply Drawn0.step)⟩
            · rw [if_neg c7] at H
              exact absurd H (by simp)
          · rw [if_neg c4] at H
            exact absurd H (by simp)
        · rw [if_neg c3] at H
          exact absurd H (by simp)
      · rw [if_neg c2] at H
        have c2b0 : decide (x5_1 < 8) = false := decide_eq_false c2
        clear c2
        obtain rfl := Option.some.inj H
        go_wp2
        go_ret
        exact ⟨eb, by repeat (first | exact Drawn0.refl _ | apply Drawn0.step)⟩
def row_get.j0 : Nat → Int → ByteArray → Bool → ByteArray → Int → Bool → Int → Int → Nat → ByteArray → Int → Int → Nat → ByteArray → Option (Int × Int × Nat × ByteArray × ByteArray × Bool)
  | 0, _, _, _, _, _, _, _, _, _, _, _, _, _, _ => none
  | k + 1, x1, x2, x26, x799000, x799001, x799002, x799003, x799004, x799005, x799006, x801000, x801001, x801002, x801003 => if x26 = true then (some (x801000, x801001, x801002, x801003, (⟨#[]⟩ : ByteArray), false)) else (if x799001 = 1 then (some (x801000, (x1 - 1) % 256, x801002, x801003, x2, true)) else (if x799001 = 2 then ((row_varint.f k x2).bind fun bt801 => ((row_unzig.f bt801.1).bind fun t804 => (some (x801000, t804, x801002, x801003, bt801.2.1, bt801.2.2)))) else (if x799001 = 3 then (if (x2.size : Int) < 8 then (some (x801000, x801001, x801002, x801003, (⟨#[]⟩ : ByteArray), false)) else ((row_low.f k x2).bind fun t805 => (if 8 ≤ (x2.size : Int) then (some (x801000, x801001, t805.toNat, x801003, x2.extract 8 x2.size, true)) else (none)))) else ((row_varint.f k x2).bind fun bt806 => (if bt806.2.2 = true then (if bt806.1 > (IntKind.u64.wrap ((bt806.2.1.size : Int))) then (some (x801000, x801001, x801002, x801003, (⟨#[]⟩ : ByteArray), false)) else (if 0 ≤ bt806.1 then (if bt806.1 ≤ (bt806.2.1.size : Int) then ((value_Check.f k x801000 x801001 x801002 (bt806.2.1.extract 0 (bt806.1 : Int).toNat)).bind fun t809 => (some (x801000, x801001, x801002, bt806.2.1.extract 0 (bt806.1 : Int).toNat, bt806.2.1.extract (bt806.1 : Int).toNat bt806.2.1.size, (t809 == 0)))) else (none)) else (none))) else (some (x801000, x801001, x801002, x801003, (⟨#[]⟩ : ByteArray), false)))))))
def row_get.f (k : Nat) (a0_0 : ByteArray) (a0_1 : Int) (a0_2 : Bool) (a0_3 : Int) (a0_4 : Int) (a0_5 : Nat) (a0_6 : ByteArray) (a1 : Int) (a2 : ByteArray) : Option (Int × Int × Nat × ByteArray × ByteArray × Bool) := if a1 = 0 then (some (0, 0, 0, (⟨#[]⟩ : ByteArray), a2, a0_2)) else (if a1 > 2 then (row_get.j0 k a1 a2 true a0_0 a0_1 a0_2 a0_3 a0_4 a0_5 a0_6 a0_1 0 0 (⟨#[]⟩ : ByteArray)) else (if a1 = 2 then (row_get.j0 k a1 a2 (a0_1 != 1) a0_0 a0_1 a0_2 a0_3 a0_4 a0_5 a0_6 a0_1 0 0 (⟨#[]⟩ : ByteArray)) else (row_get.j0 k a1 a2 false a0_0 a0_1 a0_2 a0_3 a0_4 a0_5 a0_6 a0_1 0 0 (⟨#[]⟩ : ByteArray))))
def row_get.T22 : Bool × List (List Nat × List Nat) := (true, [([], []), ([], []), ([], []), ([1, 2], [1, 2]), ([], []), ([4], [4]), ([5], [5]), ([0, 5, 0], [0]), ([3, 7, 0, 1, 2, 3, 7], [3]), ([6, 8, 0, 1, 2, 3, 4, 5, 6, 7, 8], [6])])
def row_get.B22 : List Nat := [0, 0, 0, 6, 0, 16, 48, 49, 191, 511]
theorem row_get.tab22 : rtab .any (opsOf Tryd.f131 22) = row_get.T22 := by kernel_rfl
theorem row_get.bits22 : waitsOk row_get.T22.2 row_get.B22 = true := by kernel_rfl
set_option maxHeartbeats 8000000 in
set_option maxRecDepth 100000 in
theorem row_get.calls (k : Nat) (a0_0 : ByteArray) (a0_1 : Int) (a0_2 : Bool) (a0_3 : Int) (a0_4 : Int) (a0_5 : Nat) (a0_6 : ByteArray) (a1 : Int) (a2 : ByteArray) (r1 : Int) (r2 : Int) (r3 : Nat) (r4 : ByteArray) (r5 : ByteArray) (r6 : Bool) (w : World) (hG : Glob w) (h : row_get.f k a0_0 a0_1 a0_2 a0_3 a0_4 a0_5 a0_6 a1 a2 = some (r1, r2, r3, r4, r5, r6)) :
    Calls Tryd.prog 131 #[.agg #[.string a0_0, .int .i64 a0_1, .bool a0_2, .int .i64 a0_3, .int .i64 a0_4, .float .f64 a0_5, .string a0_6], .int .u8 a1, .string a2] w fun e w' => e = .returned (.tuple #[.agg #[.int .i64 r1, .int .i64 r2, .float .f64 r3, .string r4], .string r5, .bool r6]) ∧ Below w.heap.size w w' := by
  have hu105 := Tryd.underlying105
  have hu50 := Tryd.underlying50
  have HG := am hG
  clear hG
  have HB := am (Below.refl w.heap.size w)
  have H : (if a1 = 0 then (some (0, 0, 0, (⟨#[]⟩ : ByteArray), a2, a0_2)) else (if a1 > 2 then (row_get.j0 k a1 a2 true a0_0 a0_1 a0_2 a0_3 a0_4 a0_5 a0_6 a0_1 0 0 (⟨#[]⟩ : ByteArray)) else (if a1 = 2 then (row_get.j0 k a1 a2 (a0_1 != 1) a0_0 a0_1 a0_2 a0_3 a0_4 a0_5 a0_6 a0_1 0 0 (⟨#[]⟩ : ByteArray)) else (row_get.j0 k a1 a2 false a0_0 a0_1 a0_2 a0_3 a0_4 a0_5 a0_6 a0_1 0 0 (⟨#[]⟩ : ByteArray))))) = some (r1, r2, r3, r4, r5, r6) := h
  clear h
  by_cases c4 : a1 = 0
  · rw [if_pos c4] at H
    have c4b0 : (a1 == 0) = true := beq_iff_eq.mpr c4
    have c4b1 : (a1 != 0) = false := bne_eq_false_iff_eq.mpr c4
    clear c4
    simp only [Option.some.injEq, Prod.mk.injEq] at H
    obtain ⟨rfl, rfl, rfl, rfl, rfl, rfl⟩ := H
    go_enter Tryd.func131, Tryd.ntmps131
    try go_wp2_with (first | ((with_reducible refine gate_dst (N := 3) rfl ?_); (try (refine gate_guard (by rfl) ?_; dsimp only)); refine box_event rfl (N := 3) rfl (cs := #[.string a0_0, .int .i64 a0_1, .bool a0_2, .int .i64 a0_3, .int .i64 a0_4, .float .f64 a0_5, .string a0_6]) (t := 105) gs ?_; intro gb798 hg w5 hbox hb; have BK798 := am (hbox); have GW798 := gw hg HB; have GE798 := gw hg HB; replace HB := sb HB hb; clear hb hbox hg) | ((with_reducible refine gate_dst (N := 6) rfl ?_); (try (refine gate_guard (by rfl) ?_; dsimp only)); refine box_event rfl (N := 6) rfl (cs := #[.int .i64 0, .int .i64 0, .float .f64 0, .string (⟨#[]⟩ : ByteArray)]) (t := 50) gs ?_; intro gb799 hg w6 hbox hb; have BK799 := am (hbox); have GW799 := gw hg HB; have GE799 := gw hg HB; have NB798_799 := am ((by rw [hg]; exact Nat.ne_of_lt (blk_lt (bk BK798)) : gb798 ≠ gb799)); have NB799_798 := am ((by rw [hg]; exact Nat.ne_of_gt (blk_lt (bk BK798)) : gb799 ≠ gb798)); replace BK798 := kb BK798 hb; replace HB := sb HB hb; clear hb hbox hg; have hnb7 := NB798_799.out; have hnc7 := NB799_798.out; obtain ⟨Z8_0, Z8_1, Z8_2, Z8_3, Z8_4, Z8_5, Z8_6, Y8_0, Y8_1, Y8_2, Y8_3, Y8_4, Y8_5, Y8_6⟩ := bq7 BK798) | ((with_reducible refine gate_dst (N := 9) rfl ?_); (try (refine gate_guard (by rfl) ?_; dsimp only)); refine box_event rfl (N := 9) rfl (cs := #[.int .i64 0, .int .i64 0, .float .f64 0, .string (⟨#[]⟩ : ByteArray)]) (t := 50) gs ?_; intro gb800 hg w9 hbox hb; have BK800 := am (hbox); have GW800 := gw hg HB; have GE800 := gw hg HB; have NB798_800 := am ((by rw [hg]; exact Nat.ne_of_lt (blk_lt (bk BK798)) : gb798 ≠ gb800)); have NB800_798 := am ((by rw [hg]; exact Nat.ne_of_gt (blk_lt (bk BK798)) : gb800 ≠ gb798)); have NB799_800 := am ((by rw [hg]; exact Nat.ne_of_lt (blk_lt (bk BK799)) : gb799 ≠ gb800)); have NB800_799 := am ((by rw [hg]; exact Nat.ne_of_gt (blk_lt (bk BK799)) : gb800 ≠ gb799)); replace BK798 := kb BK798 hb; replace BK799 := kb BK799 hb; replace HB := sb HB hb; clear hb hbox hg; have hnb10 := NB800_798.out; have hnc10 := NB798_800.out; have hnb11 := NB800_799.out; have hnc11 := NB799_800.out; obtain ⟨Z12_0, Z12_1, Z12_2, Z12_3, Y12_0, Y12_1, Y12_2, Y12_3⟩ := bq4 BK800))
    have n0_ : Aside0 (((((w9.setCell ⟨gb800, 0, none⟩ (.int .i64 a0_1)).setCell ⟨gb800, 1, none⟩ (.int .i64 0)).setCell ⟨gb800, 2, none⟩ (.float .f64 0)).setCell ⟨gb800, 3, none⟩ (.string (⟨#[]⟩ : ByteArray))).heap[gb798]? = some (.cells #[.string a0_0, .int .i64 a0_1, .bool a0_2, .int .i64 a0_3, .int .i64 a0_4, .float .f64 a0_5, .string a0_6] 105 (0, 0))) := ⟨by refine rp ?_; refine blk_far ?_ NB798_800.out _; refine rp ?_; refine blk_far ?_ NB798_800.out _; refine rp ?_; refine blk_far ?_ NB798_800.out _; refine rp ?_; refine blk_far ?_ NB798_800.out _; exact bk BK798⟩
    have n1_ : Aside0 (((((w9.setCell ⟨gb800, 0, none⟩ (.int .i64 a0_1)).setCell ⟨gb800, 1, none⟩ (.int .i64 0)).setCell ⟨gb800, 2, none⟩ (.float .f64 0)).setCell ⟨gb800, 3, none⟩ (.string (⟨#[]⟩ : ByteArray))).heap[gb799]? = some (.cells #[.int .i64 0, .int .i64 0, .float .f64 0, .string (⟨#[]⟩ : ByteArray)] 50 (0, 0))) := ⟨by refine rp ?_; refine blk_far ?_ NB799_800.out _; refine rp ?_; refine blk_far ?_ NB799_800.out _; refine rp ?_; refine blk_far ?_ NB799_800.out _; refine rp ?_; refine blk_far ?_ NB799_800.out _; exact bk BK799⟩
    have n2_ : Aside0 (((((w9.setCell ⟨gb800, 0, none⟩ (.int .i64 a0_1)).setCell ⟨gb800, 1, none⟩ (.int .i64 0)).setCell ⟨gb800, 2, none⟩ (.float .f64 0)).setCell ⟨gb800, 3, none⟩ (.string (⟨#[]⟩ : ByteArray))).heap[gb800]? = some (.cells #[.int .i64 a0_1, .int .i64 0, .float .f64 0, .string (⟨#[]⟩ : ByteArray)] 50 (0, 0))) := ⟨by refine rp ?_; refine blk_put (cs := #[.int .i64 a0_1, .int .i64 0, .float .f64 0, .string (⟨#[]⟩ : ByteArray)]) ?_ 3 _ rfl; refine rp ?_; refine blk_put (cs := #[.int .i64 a0_1, .int .i64 0, .float .f64 0, .string (⟨#[]⟩ : ByteArray)]) ?_ 2 _ rfl; refine rp ?_; refine blk_put (cs := #[.int .i64 a0_1, .int .i64 0, .float .f64 0, .string (⟨#[]⟩ : ByteArray)]) ?_ 1 _ rfl; refine rp ?_; refine blk_put (cs := #[.int .i64 0, .int .i64 0, .float .f64 0, .string (⟨#[]⟩ : ByteArray)]) ?_ 0 _ rfl; exact bk BK800⟩
    have n3_ : Aside0 (Below w.heap.size w ((((w9.setCell ⟨gb800, 0, none⟩ (.int .i64 a0_1)).setCell ⟨gb800, 1, none⟩ (.int .i64 0)).setCell ⟨gb800, 2, none⟩ (.float .f64 0)).setCell ⟨gb800, 3, none⟩ (.string (⟨#[]⟩ : ByteArray)))) := ⟨bl HB⟩
    (try clear BK798)
    (try clear BK799)
    (try clear BK800)
    (try clear HB)
    generalize ((((w9.setCell ⟨gb800, 0, none⟩ (.int .i64 a0_1)).setCell ⟨gb800, 1, none⟩ (.int .i64 0)).setCell ⟨gb800, 2, none⟩ (.float .f64 0)).setCell ⟨gb800, 3, none⟩ (.string (⟨#[]⟩ : ByteArray))) = w13 at n0_ n1_ n2_ n3_ ⊢
    have BK798 := n0_
    have BK799 := n1_
    have BK800 := n2_
    have HB := n3_
    clear n0_ n1_ n2_ n3_
    have n0_ := am (blk_drew BK798.out)
    have n1_ := am (blk_drew BK799.out)
    have n2_ := am (blk_drew BK800.out)
    have n3_ := am (below_drew1 HB.out)
    clear BK798
    clear BK799
    clear BK800
    clear HB
    have BK798 := n0_
    have BK799 := n1_
    have BK800 := n2_
    have HB := n3_
    clear n0_ n1_ n2_ n3_
    refine start_ (n := 7) (S := fun w' => w'.cell? ⟨gb798, 0, none⟩ = some (.string a0_0) ∧ w'.cell? ⟨gb798, 1, none⟩ = some (.int .i64 a0_1) ∧ w'.cell? ⟨gb798, 2, none⟩ = some (.bool a0_2) ∧ w'.cell? ⟨gb798, 3, none⟩ = some (.int .i64 a0_3) ∧ w'.cell? ⟨gb798, 4, none⟩ = some (.int .i64 a0_4) ∧ w'.cell? ⟨gb798, 5, none⟩ = some (.float .f64 a0_5) ∧ w'.cell? ⟨gb798, 6, none⟩ = some (.string a0_6)) (ds := []) (bb 0 7) (by kernel_rfl) rfl rfl ⟨(blk_cell BK798.out 0).trans rfl, (blk_cell BK798.out 1).trans rfl, (blk_cell BK798.out 2).trans rfl, (blk_cell BK798.out 3).trans rfl, (blk_cell BK798.out 4).trans rfl, (blk_cell BK798.out 5).trans rfl, (blk_cell BK798.out 6).trans rfl⟩ (fun hHeld => ?_)
    generalize w13.drew = w14 at BK798 BK799 BK800 HB hHeld ⊢
    refine pure_ (i := 0) (N := some 22) (v := ?_) (a' := ?_) (bb 1 7) rfl rfl (by kernel_rfl) (fun _ _ _ h => h) (Or.inl ⟨by rfl, ?_⟩) ?_ ?_
    rotate_left
    · intro w'
      go_simp
      with_reducible rfl
    rotate_left
    · simp only [Act.put, List.setIfInBounds_toArray, List.set_cons_zero, List.set_cons_succ, i64_w, i32_w]
      rfl
    refine pure_ (i := 1) (N := some 23) (v := ?_) (a' := ?_) (bb 2 7) rfl rfl (by kernel_rfl) (fun _ _ _ h => h) (Or.inl ⟨by rfl, ?_⟩) ?_ ?_
    rotate_left
    · intro w'
      go_simp
      with_reducible rfl
    rotate_left
    · simp only [Act.put, List.setIfInBounds_toArray, List.set_cons_zero, List.set_cons_succ, i64_w, i32_w]
      rfl
    refine pure_ (i := 2) (N := some 24) (v := ?_) (a' := ?_) (bb 3 7) rfl rfl (by kernel_rfl) (fun _ _ _ h => h) (Or.inl ⟨by rfl, ?_⟩) ?_ ?_
    rotate_left
    · intro w'
      go_simp
      with_reducible rfl
    rotate_left
    · simp only [Act.put, List.setIfInBounds_toArray, List.set_cons_zero, List.set_cons_succ, i64_w, i32_w]
      rfl
    refine take_ (i := 3) (N := some 25) (v := ?_) (a' := ?_) (bb 4 7) rfl rfl (by kernel_rfl) (fun _ _ _ h => h) (Or.inl ⟨by rfl, ?_⟩) hHeld ?_ ?_
    rotate_left
    · rintro w' ⟨s0, s1, s2, s3, s4, s5, s6⟩
      go_simp
      with_reducible rfl
    rotate_left
    · simp only [Act.put, List.setIfInBounds_toArray, List.set_cons_zero, List.set_cons_succ, i64_w, i32_w]
      rfl
    refine one_ (i := 4) (N := none) (bb 5 7) rfl rfl (by kernel_rfl) (by decide) (fun K hK => ?_)
    have hs15 : w14.cell? ⟨gb799, 0, none⟩ = some (.int .i64 0) := (blk_cell BK799.out 0).trans rfl
    have hfs15 := blk_frozen BK799.out 0
    have hns15_0 := NB798_799.out
    have hns15_2 := NB800_799.out
    have hms15_0 := NB799_798.out
    have hms15_2 := NB799_800.out
    have hs16 : w14.cell? ⟨gb799, 1, none⟩ = some (.int .i64 0) := (blk_cell BK799.out 1).trans rfl
    have hfs16 := blk_frozen BK799.out 1
    have hns16_0 := NB798_799.out
    have hns16_2 := NB800_799.out
    have hms16_0 := NB799_798.out
    have hms16_2 := NB799_800.out
    have hs17 : w14.cell? ⟨gb799, 2, none⟩ = some (.float .f64 0) := (blk_cell BK799.out 2).trans rfl
    have hfs17 := blk_frozen BK799.out 2
    have hns17_0 := NB798_799.out
    have hns17_2 := NB800_799.out
    have hms17_0 := NB799_798.out
    have hms17_2 := NB799_800.out
    have hs18 : w14.cell? ⟨gb799, 3, none⟩ = some (.string (⟨#[]⟩ : ByteArray)) := (blk_cell BK799.out 3).trans rfl
    have hfs18 := blk_frozen BK799.out 3
    have hns18_0 := NB798_799.out
    have hns18_2 := NB800_799.out
    have hms18_0 := NB799_798.out
    have hms18_2 := NB799_800.out
    refine skip_ (w1 := ?_) (by rfl) rfl ?_ ?_
    rotate_left
    · go_simp
      rfl
    refine hK.out _ _ ⟨((cell_far (p := ⟨gb799, _, none⟩) NB798_799.out _).trans (((cell_far (p := ⟨gb799, _, none⟩) NB798_799.out _).trans (((cell_far (p := ⟨gb799, _, none⟩) NB798_799.out _).trans (((cell_far (p := ⟨gb799, _, none⟩) NB798_799.out _).trans (hHeld.1)))))))), ((cell_far (p := ⟨gb799, _, none⟩) NB798_799.out _).trans (((cell_far (p := ⟨gb799, _, none⟩) NB798_799.out _).trans (((cell_far (p := ⟨gb799, _, none⟩) NB798_799.out _).trans (((cell_far (p := ⟨gb799, _, none⟩) NB798_799.out _).trans (hHeld.2.1)))))))), ((cell_far (p := ⟨gb799, _, none⟩) NB798_799.out _).trans (((cell_far (p := ⟨gb799, _, none⟩) NB798_799.out _).trans (((cell_far (p := ⟨gb799, _, none⟩) NB798_799.out _).trans (((cell_far (p := ⟨gb799, _, none⟩) NB798_799.out _).trans (hHeld.2.2.1)))))))), ((cell_far (p := ⟨gb799, _, none⟩) NB798_799.out _).trans (((cell_far (p := ⟨gb799, _, none⟩) NB798_799.out _).trans (((cell_far (p := ⟨gb799, _, none⟩) NB798_799.out _).trans (((cell_far (p := ⟨gb799, _, none⟩) NB798_799.out _).trans (hHeld.2.2.2.1)))))))), ((cell_far (p := ⟨gb799, _, none⟩) NB798_799.out _).trans (((cell_far (p := ⟨gb799, _, none⟩) NB798_799.out _).trans (((cell_far (p := ⟨gb799, _, none⟩) NB798_799.out _).trans (((cell_far (p := ⟨gb799, _, none⟩) NB798_799.out _).trans (hHeld.2.2.2.2.1)))))))), ((cell_far (p := ⟨gb799, _, none⟩) NB798_799.out _).trans (((cell_far (p := ⟨gb799, _, none⟩) NB798_799.out _).trans (((cell_far (p := ⟨gb799, _, none⟩) NB798_799.out _).trans (((cell_far (p := ⟨gb799, _, none⟩) NB798_799.out _).trans (hHeld.2.2.2.2.2.1)))))))), ((cell_far (p := ⟨gb799, _, none⟩) NB798_799.out _).trans (((cell_far (p := ⟨gb799, _, none⟩) NB798_799.out _).trans (((cell_far (p := ⟨gb799, _, none⟩) NB798_799.out _).trans (((cell_far (p := ⟨gb799, _, none⟩) NB798_799.out _).trans (hHeld.2.2.2.2.2.2))))))))⟩ (fun hHeld => ?_)
    clear hK K
    refine pure_ (i := 5) (N := some 7) (v := ?_) (a' := ?_) (bb 6 7) rfl rfl (by kernel_rfl) (fun _ _ _ h => h) (Or.inl ⟨by rfl, ?_⟩) ?_ ?_
    rotate_left
    · intro w'
      go_simp
      with_reducible rfl
    rotate_left
    · simp only [Act.put, List.setIfInBounds_toArray, List.set_cons_zero, List.set_cons_succ, i64_w, i32_w]
      rfl
    refine pure_ (i := 6) (N := some 8) (v := ?_) (a' := ?_) (bb 7 7) rfl rfl (by kernel_rfl) (fun _ _ _ h => h) (Or.inl ⟨by rfl, ?_⟩) ?_ ?_
    rotate_left
    · intro w'
      go_simp
      with_reducible rfl
    rotate_left
    · simp only [Act.put, List.setIfInBounds_toArray, List.set_cons_zero, List.set_cons_succ, i64_w, i32_w]
      rfl
    refine done_ (by kernel_rfl) ?_
    try go_wp2
    refine bodyPost_ret (results_ctt rfl _ _ gb799 50 #[.int .i64 0, .int .i64 0, .float .f64 0, .string (⟨#[]⟩ : ByteArray)] (0, 0) _ rfl (by refine rp ?_; refine blk_put (cs := #[.int .i64 0, .int .i64 0, .float .f64 0, .string (⟨#[]⟩ : ByteArray)]) ?_ 3 _ rfl; refine rp ?_; refine blk_put (cs := #[.int .i64 0, .int .i64 0, .float .f64 0, .string (⟨#[]⟩ : ByteArray)]) ?_ 2 _ rfl; refine rp ?_; refine blk_put (cs := #[.int .i64 0, .int .i64 0, .float .f64 0, .string (⟨#[]⟩ : ByteArray)]) ?_ 1 _ rfl; refine rp ?_; refine blk_put (cs := #[.int .i64 0, .int .i64 0, .float .f64 0, .string (⟨#[]⟩ : ByteArray)]) ?_ 0 _ rfl; exact bk BK799) Tryd.underlying50 rfl (by kernel_rfl)) rfl ?_
    exact ⟨er, bl HB⟩
  · rw [if_neg c4] at H
    have c4b0 : (a1 == 0) = false := beq_eq_false_iff_ne.mpr c4
    have c4b1 : (a1 != 0) = true := bne_iff_ne.mpr c4
    have HC19 := am H
    clear H
    go_enter Tryd.func131, Tryd.ntmps131
    go_upto_region 4 with (first | ((with_reducible refine gate_dst (N := 3) rfl ?_); (try (refine gate_guard (by rfl) ?_; dsimp only)); refine box_event rfl (N := 3) rfl (cs := #[.string a0_0, .int .i64 a0_1, .bool a0_2, .int .i64 a0_3, .int .i64 a0_4, .float .f64 a0_5, .string a0_6]) (t := 105) gs ?_; intro gb798 hg w20 hbox hb; have BK798 := am (hbox); have GW798 := gw hg HB; have GE798 := gw hg HB; replace HB := sb HB hb; clear hb hbox hg) | ((with_reducible refine gate_dst (N := 6) rfl ?_); (try (refine gate_guard (by rfl) ?_; dsimp only)); refine box_event rfl (N := 6) rfl (cs := #[.int .i64 0, .int .i64 0, .float .f64 0, .string (⟨#[]⟩ : ByteArray)]) (t := 50) gs ?_; intro gb799 hg w21 hbox hb; have BK799 := am (hbox); have GW799 := gw hg HB; have GE799 := gw hg HB; have NB798_799 := am ((by rw [hg]; exact Nat.ne_of_lt (blk_lt (bk BK798)) : gb798 ≠ gb799)); have NB799_798 := am ((by rw [hg]; exact Nat.ne_of_gt (blk_lt (bk BK798)) : gb799 ≠ gb798)); replace BK798 := kb BK798 hb; replace HB := sb HB hb; clear hb hbox hg; have hnb22 := NB798_799.out; have hnc22 := NB799_798.out; obtain ⟨Z23_0, Z23_1, Z23_2, Z23_3, Z23_4, Z23_5, Z23_6, Y23_0, Y23_1, Y23_2, Y23_3, Y23_4, Y23_5, Y23_6⟩ := bq7 BK798) | ((with_reducible refine gate_dst (N := 9) rfl ?_); (try (refine gate_guard (by rfl) ?_; dsimp only)); refine box_event rfl (N := 9) rfl (cs := #[.int .i64 0, .int .i64 0, .float .f64 0, .string (⟨#[]⟩ : ByteArray)]) (t := 50) gs ?_; intro gb800 hg w24 hbox hb; have BK800 := am (hbox); have GW800 := gw hg HB; have GE800 := gw hg HB; have NB798_800 := am ((by rw [hg]; exact Nat.ne_of_lt (blk_lt (bk BK798)) : gb798 ≠ gb800)); have NB800_798 := am ((by rw [hg]; exact Nat.ne_of_gt (blk_lt (bk BK798)) : gb800 ≠ gb798)); have NB799_800 := am ((by rw [hg]; exact Nat.ne_of_lt (blk_lt (bk BK799)) : gb799 ≠ gb800)); have NB800_799 := am ((by rw [hg]; exact Nat.ne_of_gt (blk_lt (bk BK799)) : gb800 ≠ gb799)); replace BK798 := kb BK798 hb; replace BK799 := kb BK799 hb; replace HB := sb HB hb; clear hb hbox hg; have hnb25 := NB800_798.out; have hnc25 := NB798_800.out; have hnb26 := NB800_799.out; have hnc26 := NB799_800.out; obtain ⟨Z27_0, Z27_1, Z27_2, Z27_3, Y27_0, Y27_1, Y27_2, Y27_3⟩ := bq4 BK800))
    (try simp only [Act.put, List.setIfInBounds_toArray, List.set_cons_zero, List.set_cons_succ])
    go_cut [26] (fun v26 wc => ∃ (kq : Nat) (x26_18 : Bool), v26 = .bool x26_18 ∧ Aside0 (row_get.j0 kq a1 a2 x26_18 a0_0 a0_1 a0_2 a0_3 a0_4 a0_5 a0_6 a0_1 0 0 (⟨#[]⟩ : ByteArray) = some (r1, r2, r3, r4, r5, r6)) ∧ Aside0 (kq ≤ k) ∧ Aside0 (wc.heap[gb798]? = some (.cells #[.string a0_0, .int .i64 a0_1, .bool a0_2, .int .i64 a0_3, .int .i64 a0_4, .float .f64 a0_5, .string a0_6] 105 (0, 0))) ∧ Aside0 (wc.heap[gb799]? = some (.cells #[.int .i64 0, .int .i64 0, .float .f64 0, .string (⟨#[]⟩ : ByteArray)] 50 (0, 0))) ∧ Aside0 (wc.heap[gb800]? = some (.cells #[.int .i64 a0_1, .int .i64 0, .float .f64 0, .string (⟨#[]⟩ : ByteArray)] 50 (0, 0))) ∧ Aside0 (Below w.heap.size w wc))
    case first =>
      have H := HC19.out
      clear HC19
      by_cases c28 : a1 > 2
      · rw [if_pos c28] at H
        have c28b0 : decide (2 < a1) = true := decide_eq_true c28
        clear c28
        (first | rw [c28b0] | (simp only [i64_w, i32_w]; rw [c28b0]) | skip)
        have H' := am H
        clear H
        go_wp2
        go_meet
        case rel => exact ⟨_, (true), eb, H', ⟨by first | omega | exact Nat.le_refl _⟩, ⟨by refine rp ?_; refine blk_far ?_ NB798_800.out _; refine rp ?_; refine blk_far ?_ NB798_800.out _; refine rp ?_; refine blk_far ?_ NB798_800.out _; refine rp ?_; refine blk_far ?_ NB798_800.out _; exact bk BK798⟩, ⟨by refine rp ?_; refine blk_far ?_ NB799_800.out _; refine rp ?_; refine blk_far ?_ NB799_800.out _; refine rp ?_; refine blk_far ?_ NB799_800.out _; refine rp ?_; refine blk_far ?_ NB799_800.out _; exact bk BK799⟩, ⟨by refine rp ?_; refine blk_put (cs := #[.int .i64 a0_1, .int .i64 0, .float .f64 0, .string (⟨#[]⟩ : ByteArray)]) ?_ 3 _ rfl; refine rp ?_; refine blk_put (cs := #[.int .i64 a0_1, .int .i64 0, .float .f64 0, .string (⟨#[]⟩ : ByteArray)]) ?_ 2 _ rfl; refine rp ?_; refine blk_put (cs := #[.int .i64 a0_1, .int .i64 0, .float .f64 0, .string (⟨#[]⟩ : ByteArray)]) ?_ 1 _ rfl; refine rp ?_; refine blk_put (cs := #[.int .i64 0, .int .i64 0, .float .f64 0, .string (⟨#[]⟩ : ByteArray)]) ?_ 0 _ rfl; exact bk BK800⟩, ⟨bl HB⟩⟩
      · rw [if_neg c28] at H
        have c28b0 : decide (2 < a1) = false := decide_eq_false c28
        clear c28
        (first | rw [c28b0] | (simp only [i64_w, i32_w]; rw [c28b0]) | skip)
        by_cases c29 : a1 = 2
        · rw [if_pos c29] at H
          have c29b0 : (a1 == 2) = true := beq_iff_eq.mpr c29
          have c29b1 : (a1 != 2) = false := bne_eq_false_iff_eq.mpr c29
          clear c29
          have H' := am H
          clear H
          have hnb30 := NB798_799.out
          have hnc30 := NB799_798.out
          have hnb31 := NB798_800.out
          have hnc31 := NB800_798.out
          obtain ⟨Z32_0, Z32_1, Z32_2, Z32_3, Z32_4, Z32_5, Z32_6, Y32_0, Y32_1, Y32_2, Y32_3, Y32_4, Y32_5, Y32_6⟩ := bq7 BK798
          go_wp2
          go_meet
          case rel => exact ⟨_, ((a0_1 != 1)), eb, H', ⟨by first | omega | exact Nat.le_refl _⟩, ⟨by refine rp ?_; refine blk_far ?_ NB798_800.out _; refine rp ?_; refine blk_far ?_ NB798_800.out _; refine rp ?_; refine blk_far ?_ NB798_800.out _; refine rp ?_; refine blk_far ?_ NB798_800.out _; exact bk BK798⟩, ⟨by refine rp ?_; refine blk_far ?_ NB799_800.out _; refine rp ?_; refine blk_far ?_ NB799_800.out _; refine rp ?_; refine blk_far ?_ NB799_800.out _; refine rp ?_; refine blk_far ?_ NB799_800.out _; exact bk BK799⟩, ⟨by refine rp ?_; refine blk_put (cs := #[.int .i64 a0_1, .int .i64 0, .float .f64 0, .string (⟨#[]⟩ : ByteArray)]) ?_ 3 _ rfl; refine rp ?_; refine blk_put (cs := #[.int .i64 a0_1, .int .i64 0, .float .f64 0, .string (⟨#[]⟩ : ByteArray)]) ?_ 2 _ rfl; refine rp ?_; refine blk_put (cs := #[.int .i64 a0_1, .int .i64 0, .float .f64 0, .string (⟨#[]⟩ : ByteArray)]) ?_ 1 _ rfl; refine rp ?_; refine blk_put (cs := #[.int .i64 0, .int .i64 0, .float .f64 0, .string (⟨#[]⟩ : ByteArray)]) ?_ 0 _ rfl; exact bk BK800⟩, ⟨bl HB⟩⟩
        · rw [if_neg c29] at H
          have c29b0 : (a1 == 2) = false := beq_eq_false_iff_ne.mpr c29
          have c29b1 : (a1 != 2) = true := bne_iff_ne.mpr c29
          have H' := am H
          clear H
          go_wp2
          go_meet
          case rel => exact ⟨_, (false), eb, H', ⟨by first | omega | exact Nat.le_refl _⟩, ⟨by refine rp ?_; refine blk_far ?_ NB798_800.out _; refine rp ?_; refine blk_far ?_ NB798_800.out _; refine rp ?_; refine blk_far ?_ NB798_800.out _; refine rp ?_; refine blk_far ?_ NB798_800.out _; exact bk BK798⟩, ⟨by refine rp ?_; refine blk_far ?_ NB799_800.out _; refine rp ?_; refine blk_far ?_ NB799_800.out _; refine rp ?_; refine blk_far ?_ NB799_800.out _; refine rp ?_; refine blk_far ?_ NB799_800.out _; exact bk BK799⟩, ⟨by refine rp ?_; refine blk_put (cs := #[.int .i64 a0_1, .int .i64 0, .float .f64 0, .string (⟨#[]⟩ : ByteArray)]) ?_ 3 _ rfl; refine rp ?_; refine blk_put (cs := #[.int .i64 a0_1, .int .i64 0, .float .f64 0, .string (⟨#[]⟩ : ByteArray)]) ?_ 2 _ rfl; refine rp ?_; refine blk_put (cs := #[.int .i64 a0_1, .int .i64 0, .float .f64 0, .string (⟨#[]⟩ : ByteArray)]) ?_ 1 _ rfl; refine rp ?_; refine blk_put (cs := #[.int .i64 0, .int .i64 0, .float .f64 0, .string (⟨#[]⟩ : ByteArray)]) ?_ 0 _ rfl; exact bk BK800⟩, ⟨bl HB⟩⟩
    case rest =>
      clear HC19
      try clear c1
      try clear c2
      try clear p2
      try clear c3
      try clear c4
      try clear c4b0
      try clear c4b1
      try clear c7
      try clear c10
      try clear c11
      try clear c13
      try clear c22
      try clear c25
      try clear c26
      try clear c28
      try clear c28b0
      try clear c29
      try clear c29b0
      try clear c29b1
      try clear c30
      try clear c31
      try clear Z12_0
      try clear Z12_1
      try clear Z12_2
      try clear Z12_3
      try clear Z23_0
      try clear Z23_1
      try clear Z23_2
      try clear Z23_3
      try clear Z23_4
      try clear Z23_5
      try clear Z23_6
      try clear Z27_0
      try clear Z27_1
      try clear Z27_2
      try clear Z27_3
      try clear Z32_0
      try clear Z32_1
      try clear Z32_2
      try clear Z32_3
      try clear Z32_4
      try clear Z32_5
      try clear Z32_6
      try clear Z8_0
      try clear Z8_1
      try clear Z8_2
      try clear Z8_3
      try clear Z8_4
      try clear Z8_5
      try clear Z8_6
      try clear Y12_0
      try clear Y12_1
      try clear Y12_2
      try clear Y12_3
      try clear Y23_0
      try clear Y23_1
      try clear Y23_2
      try clear Y23_3
      try clear Y23_4
      try clear Y23_5
      try clear Y23_6
      try clear Y27_0
      try clear Y27_1
      try clear Y27_2
      try clear Y27_3
      try clear Y32_0
      try clear Y32_1
      try clear Y32_2
      try clear Y32_3
      try clear Y32_4
      try clear Y32_5
      try clear Y32_6
      try clear Y8_0
      try clear Y8_1
      try clear Y8_2
      try clear Y8_3
      try clear Y8_4
      try clear Y8_5
      try clear Y8_6
      obtain ⟨kq, x26_18, rfl, HA, HJ18, BK798, BK799, BK800, HB⟩ := hcut
      cases kq with
      | zero => exact absurd HA.out (by simp [row_get.j0])
      | succ kj18 =>
        have H := HA.out
        clear HA
        simp only [row_get.j0] at H
        by_cases c33 : x26_18 = true
        · subst c33
          have H1 : (some (a0_1, 0, 0, (⟨#[]⟩ : ByteArray), (⟨#[]⟩ : ByteArray), false)) = some (r1, r2, r3, r4, r5, r6) := by rw [if_pos rfl] at H; exact H
          clear H
          have H := H1
          clear H1
          simp only [Option.some.injEq, Prod.mk.injEq] at H
          obtain ⟨rfl, rfl, rfl, rfl, rfl, rfl⟩ := H
          have hnb34 := NB800_798.out
          have hnc34 := NB798_800.out
          have hnb35 := NB800_799.out
          have hnc35 := NB799_800.out
          obtain ⟨Z36_0, Z36_1, Z36_2, Z36_3, Y36_0, Y36_1, Y36_2, Y36_3⟩ := bq4 BK800
          have hnb37 := NB799_798.out
          have hnc37 := NB798_799.out
          obtain ⟨Z38_0, Z38_1, Z38_2, Z38_3, Y38_0, Y38_1, Y38_2, Y38_3⟩ := bq4 BK799
          go_wp2
          refine bodyPost_ret (results_ctt rfl _ _ gb799 50 #[.int .i64 a0_1, .int .i64 0, .float .f64 0, .string (⟨#[]⟩ : ByteArray)] (0, 0) _ rfl (by refine rp ?_; refine blk_put (cs := #[.int .i64 a0_1, .int .i64 0, .float .f64 0, .string (⟨#[]⟩ : ByteArray)]) ?_ 3 _ rfl; refine rp ?_; refine blk_put (cs := #[.int .i64 a0_1, .int .i64 0, .float .f64 0, .string (⟨#[]⟩ : ByteArray)]) ?_ 2 _ rfl; refine rp ?_; refine blk_put (cs := #[.int .i64 a0_1, .int .i64 0, .float .f64 0, .string (⟨#[]⟩ : ByteArray)]) ?_ 1 _ rfl; refine rp ?_; refine blk_put (cs := #[.int .i64 0, .int .i64 0, .float .f64 0, .string (⟨#[]⟩ : ByteArray)]) ?_ 0 _ rfl; exact bk BK799) Tryd.underlying50 rfl (by kernel_rfl)) rfl ?_
          exact ⟨er, bl HB⟩
        · replace c33 := Bool.eq_false_iff.mpr c33
          subst c33
          have H1 : (if a0_1 = 1 then (some (a0_1, (a1 - 1) % 256, 0, (⟨#[]⟩ : ByteArray), a2, true)) else (if a0_1 = 2 then ((row_varint.f kj18 a2).bind fun bt801 => ((row_unzig.f bt801.1).bind fun t804 => (some (a0_1, t804, 0, (⟨#[]⟩ : ByteArray), bt801.2.1, bt801.2.2)))) else (if a0_1 = 3 then (if (a2.size : Int) < 8 then (some (a0_1, 0, 0, (⟨#[]⟩ : ByteArray), (⟨#[]⟩ : ByteArray), false)) else ((row_low.f kj18 a2).bind fun t805 => (if 8 ≤ (a2.size : Int) then (some (a0_1, 0, t805.toNat, (⟨#[]⟩ : ByteArray), a2.extract 8 a2.size, true)) else (none)))) else ((row_varint.f kj18 a2).bind fun bt806 => (if bt806.2.2 = true then (if bt806.1 > (IntKind.u64.wrap ((bt806.2.1.size : Int))) then (some (a0_1, 0, 0, (⟨#[]⟩ : ByteArray), (⟨#[]⟩ : ByteArray), false)) else (if 0 ≤ bt806.1 then (if bt806.1 ≤ (bt806.2.1.size : Int) then ((value_Check.f kj18 a0_1 0 0 (bt806.2.1.extract 0 (bt806.1 : Int).toNat)).bind fun t809 => (some (a0_1, 0, 0, bt806.2.1.extract 0 (bt806.1 : Int).toNat, bt806.2.1.extract (bt806.1 : Int).toNat bt806.2.1.size, (t809 == 0)))) else (none)) else (none))) else (some (a0_1, 0, 0, (⟨#[]⟩ : ByteArray), (⟨#[]⟩ : ByteArray), false))))))) = some (r1, r2, r3, r4, r5, r6) := by rw [if_neg (show ¬ (false = true) by decide)] at H; exact H
          clear H
          have H := H1
          clear H1
          by_cases c39 : a0_1 = 1
          · rw [if_pos c39] at H
            have c39b0 : (a0_1 == 1) = true := beq_iff_eq.mpr c39
            have c39b1 : (a0_1 != 1) = false := bne_eq_false_iff_eq.mpr c39
            clear c39
            simp only [Option.some.injEq, Prod.mk.injEq] at H
            obtain ⟨rfl, rfl, rfl, rfl, rfl, rfl⟩ := H
            have hnb40 := NB798_799.out
            have hnc40 := NB799_798.out
            have hnb41 := NB798_800.out
            have hnc41 := NB800_798.out
            obtain ⟨Z42_0, Z42_1, Z42_2, Z42_3, Z42_4, Z42_5, Z42_6, Y42_0, Y42_1, Y42_2, Y42_3, Y42_4, Y42_5, Y42_6⟩ := bq7 BK798
            have hnb43 := NB800_799.out
            have hnc43 := NB799_800.out
            obtain ⟨Z44_0, Z44_1, Z44_2, Z44_3, Y44_0, Y44_1, Y44_2, Y44_3⟩ := bq4 BK800
            obtain ⟨Z45_0, Z45_1, Z45_2, Z45_3, Y45_0, Y45_1, Y45_2, Y45_3⟩ := bq4 BK799
            go_wp2
            refine bodyPost_ret (results_ctt rfl _ _ gb799 50 #[.int .i64 a0_1, .int .i64 ((a1 - 1) % 256), .float .f64 0, .string (⟨#[]⟩ : ByteArray)] (0, 0) _ rfl (by refine rp ?_; refine blk_put (cs := #[.int .i64 a0_1, .int .i64 ((a1 - 1) % 256), .float .f64 0, .string (⟨#[]⟩ : ByteArray)]) ?_ 3 _ rfl; refine rp ?_; refine blk_put (cs := #[.int .i64 a0_1, .int .i64 ((a1 - 1) % 256), .float .f64 0, .string (⟨#[]⟩ : ByteArray)]) ?_ 2 _ rfl; refine rp ?_; refine blk_put (cs := #[.int .i64 a0_1, .int .i64 0, .float .f64 0, .string (⟨#[]⟩ : ByteArray)]) ?_ 1 _ rfl; refine rp ?_; refine blk_put (cs := #[.int .i64 0, .int .i64 0, .float .f64 0, .string (⟨#[]⟩ : ByteArray)]) ?_ 0 _ rfl; refine rp ?_; refine blk_far ?_ NB799_800.out _; exact bk BK799) Tryd.underlying50 rfl (by kernel_rfl)) rfl ?_
            exact ⟨er, bl HB⟩
          · rw [if_neg c39] at H
            have c39b0 : (a0_1 == 1) = false := beq_eq_false_iff_ne.mpr c39
            have c39b1 : (a0_1 != 1) = true := bne_iff_ne.mpr c39
            by_cases c46 : a0_1 = 2
            · rw [if_pos c46] at H
              have c46b0 : (a0_1 == 2) = true := beq_iff_eq.mpr c46
              have c46b1 : (a0_1 != 2) = false := bne_eq_false_iff_eq.mpr c46
              clear c46
              replace H := Option.bind_eq_some_iff.mp H
              obtain ⟨⟨t801, t802, t803⟩, A470, H⟩ := H
              replace H : ((row_unzig.f t801).bind fun t804 => (some (a0_1, t804, 0, (⟨#[]⟩ : ByteArray), t802, t803))) = some (r1, r2, r3, r4, r5, r6) := H
              have A47 := am A470
              clear A470
              replace H := Option.bind_eq_some_iff.mp H
              obtain ⟨t804, A480, H⟩ := H
              replace H : (some (a0_1, t804, 0, (⟨#[]⟩ : ByteArray), t802, t803)) = some (r1, r2, r3, r4, r5, r6) := H
              have A48 := am A480
              clear A480
              simp only [Option.some.injEq, Prod.mk.injEq] at H
              obtain ⟨rfl, rfl, rfl, rfl, rfl, rfl⟩ := H
              have hnb49 := NB798_799.out
              have hnc49 := NB799_798.out
              have hnb50 := NB798_800.out
              have hnc50 := NB800_798.out
              obtain ⟨Z51_0, Z51_1, Z51_2, Z51_3, Z51_4, Z51_5, Z51_6, Y51_0, Y51_1, Y51_2, Y51_3, Y51_4, Y51_5, Y51_6⟩ := bq7 BK798
              go_wp2_with (first | ((with_reducible refine gate_callee (f := 95) rfl ?_); refine goesL_ (some 55) rfl rfl Tryd.func95 (by kernel_rfl) rfl #[.string a2] rfl ar ?_; (with_reducible refine (row_varint.calls kj18 a2 t801 t802 t803 _ A47.out).mono ?_); rintro e w52 ⟨rfl, hb⟩; refine ⟨_, rfl, ?_⟩; replace BK798 := kb BK798 hb; replace BK799 := kb BK799 hb; replace BK800 := kb BK800 hb; replace HB := sb HB hb; (try clear hb); (try clear hb2 hk hi)) | ((with_reducible refine gate_callee (f := 169) rfl ?_); refine goesL_ (some 60) rfl rfl Tryd.func169 (by kernel_rfl) rfl #[.int .u64 t801] rfl ar ?_; (with_reducible refine (row_unzig.calls t801 t804 _ A48.out).mono ?_); rintro e w' ⟨rfl, ⟨nd, rfl⟩⟩; refine ⟨_, rfl, ?_⟩; (try (rw [drewN_self w52]; generalize hq_ : World.drewN w52 _ = w52; have n0_ : Aside0 (w52.heap[gb798]? = some (.cells #[.string a0_0, .int .i64 a0_1, .bool a0_2, .int .i64 a0_3, .int .i64 a0_4, .float .f64 a0_5, .string a0_6] 105 (0, 0))) := ⟨by rw [← hq_]; exact (bk BK798)⟩; have n1_ : Aside0 (w52.heap[gb799]? = some (.cells #[.int .i64 0, .int .i64 0, .float .f64 0, .string (⟨#[]⟩ : ByteArray)] 50 (0, 0))) := ⟨by rw [← hq_]; exact (bk BK799)⟩; have n2_ : Aside0 (w52.heap[gb800]? = some (.cells #[.int .i64 a0_1, .int .i64 0, .float .f64 0, .string (⟨#[]⟩ : ByteArray)] 50 (0, 0))) := ⟨by rw [← hq_]; exact (bk BK800)⟩; have n3_ : Aside0 (Below w.heap.size w w52) := ⟨by rw [← hq_]; exact (bl HB)⟩; clear BK798 BK799 BK800 HB hq_; have BK798 := n0_; have BK799 := n1_; have BK800 := n2_; have HB := n3_; clear n0_ n1_ n2_ n3_)); (try have Zuz53 : w52.cell? ⟨gb798, 0, none⟩ = some (.string a0_0) := (blk_cell BK798.out 0).trans rfl); (try have Yuz53 := blk_frozen BK798.out 0); (try have Zuz54 : w52.cell? ⟨gb798, 1, none⟩ = some (.int .i64 a0_1) := (blk_cell BK798.out 1).trans rfl); (try have Yuz54 := blk_frozen BK798.out 1); (try have Zuz55 : w52.cell? ⟨gb798, 2, none⟩ = some (.bool a0_2) := (blk_cell BK798.out 2).trans rfl); (try have Yuz55 := blk_frozen BK798.out 2); (try have Zuz56 : w52.cell? ⟨gb798, 3, none⟩ = some (.int .i64 a0_3) := (blk_cell BK798.out 3).trans rfl); (try have Yuz56 := blk_frozen BK798.out 3); (try have Zuz57 : w52.cell? ⟨gb798, 4, none⟩ = some (.int .i64 a0_4) := (blk_cell BK798.out 4).trans rfl); (try have Yuz57 := blk_frozen BK798.out 4); (try have Zuz58 : w52.cell? ⟨gb798, 5, none⟩ = some (.float .f64 a0_5) := (blk_cell BK798.out 5).trans rfl); (try have Yuz58 := blk_frozen BK798.out 5); (try have Zuz59 : w52.cell? ⟨gb798, 6, none⟩ = some (.string a0_6) := (blk_cell BK798.out 6).trans rfl); (try have Yuz59 := blk_frozen BK798.out 6); (try have Zuz60 : w52.cell? ⟨gb799, 0, none⟩ = some (.int .i64 0) := (blk_cell BK799.out 0).trans rfl); (try have Yuz60 := blk_frozen BK799.out 0); (try have Zuz61 : w52.cell? ⟨gb799, 1, none⟩ = some (.int .i64 0) := (blk_cell BK799.out 1).trans rfl); (try have Yuz61 := blk_frozen BK799.out 1); (try have Zuz62 : w52.cell? ⟨gb799, 2, none⟩ = some (.float .f64 0) := (blk_cell BK799.out 2).trans rfl); (try have Yuz62 := blk_frozen BK799.out 2); (try have Zuz63 : w52.cell? ⟨gb799, 3, none⟩ = some (.string (⟨#[]⟩ : ByteArray)) := (blk_cell BK799.out 3).trans rfl); (try have Yuz63 := blk_frozen BK799.out 3); (try have Zuz64 : w52.cell? ⟨gb800, 0, none⟩ = some (.int .i64 a0_1) := (blk_cell BK800.out 0).trans rfl); (try have Yuz64 := blk_frozen BK800.out 0); (try have Zuz65 : w52.cell? ⟨gb800, 1, none⟩ = some (.int .i64 0) := (blk_cell BK800.out 1).trans rfl); (try have Yuz65 := blk_frozen BK800.out 1); (try have Zuz66 : w52.cell? ⟨gb800, 2, none⟩ = some (.float .f64 0) := (blk_cell BK800.out 2).trans rfl); (try have Yuz66 := blk_frozen BK800.out 2); (try have Zuz67 : w52.cell? ⟨gb800, 3, none⟩ = some (.string (⟨#[]⟩ : ByteArray)) := (blk_cell BK800.out 3).trans rfl); (try have Yuz67 := blk_frozen BK800.out 3); have hnb68 := NB800_799.out; have hnc68 := NB799_800.out; obtain ⟨Z69_0, Z69_1, Z69_2, Z69_3, Y69_0, Y69_1, Y69_2, Y69_3⟩ := bq4 BK800; obtain ⟨Z70_0, Z70_1, Z70_2, Z70_3, Y70_0, Y70_1, Y70_2, Y70_3⟩ := bq4 BK799))
              refine bodyPost_ret (results_ctt rfl _ _ gb799 50 #[.int .i64 a0_1, .int .i64 t804, .float .f64 0, .string (⟨#[]⟩ : ByteArray)] (0, 0) _ rfl (by refine rp ?_; refine blk_put (cs := #[.int .i64 a0_1, .int .i64 t804, .float .f64 0, .string (⟨#[]⟩ : ByteArray)]) ?_ 3 _ rfl; refine rp ?_; refine blk_put (cs := #[.int .i64 a0_1, .int .i64 t804, .float .f64 0, .string (⟨#[]⟩ : ByteArray)]) ?_ 2 _ rfl; refine rp ?_; refine blk_put (cs := #[.int .i64 a0_1, .int .i64 0, .float .f64 0, .string (⟨#[]⟩ : ByteArray)]) ?_ 1 _ rfl; refine rp ?_; refine blk_put (cs := #[.int .i64 0, .int .i64 0, .float .f64 0, .string (⟨#[]⟩ : ByteArray)]) ?_ 0 _ rfl; refine rp ?_; refine blk_far ?_ NB799_800.out _; exact bk BK799) Tryd.underlying50 rfl (by kernel_rfl)) rfl ?_
              exact ⟨er, bl HB⟩
            · rw [if_neg c46] at H
              have c46b0 : (a0_1 == 2) = false := beq_eq_false_iff_ne.mpr c46
              have c46b1 : (a0_1 != 2) = true := bne_iff_ne.mpr c46
              by_cases c71 : a0_1 = 3
              · rw [if_pos c71] at H
                have c71b0 : (a0_1 == 3) = true := beq_iff_eq.mpr c71
                have c71b1 : (a0_1 != 3) = false := bne_eq_false_iff_eq.mpr c71
                clear c71
                by_cases c72 : (a2.size : Int) < 8
                · rw [if_pos c72] at H
                  have c72b0 : decide ((a2.size : Int) < 8) = true := decide_eq_true c72
                  have c72b1 : decide (a2.size < 8) = true := decide_eq_true (by omega)
                  clear c72
                  simp only [Option.some.injEq, Prod.mk.injEq] at H
                  obtain ⟨rfl, rfl, rfl, rfl, rfl, rfl⟩ := H
                  have hnb73 := NB798_799.out
                  have hnc73 := NB799_798.out
                  have hnb74 := NB798_800.out
                  have hnc74 := NB800_798.out
                  obtain ⟨Z75_0, Z75_1, Z75_2, Z75_3, Z75_4, Z75_5, Z75_6, Y75_0, Y75_1, Y75_2, Y75_3, Y75_4, Y75_5, Y75_6⟩ := bq7 BK798
                  have hnb76 := NB800_799.out
                  have hnc76 := NB799_800.out
                  obtain ⟨Z77_0, Z77_1, Z77_2, Z77_3, Y77_0, Y77_1, Y77_2, Y77_3⟩ := bq4 BK800
                  obtain ⟨Z78_0, Z78_1, Z78_2, Z78_3, Y78_0, Y78_1, Y78_2, Y78_3⟩ := bq4 BK799
                  go_wp2
                  refine bodyPost_ret (results_ctt rfl _ _ gb799 50 #[.int .i64 a0_1, .int .i64 0, .float .f64 0, .string (⟨#[]⟩ : ByteArray)] (0, 0) _ rfl (by refine rp ?_; refine blk_put (cs := #[.int .i64 a0_1, .int .i64 0, .float .f64 0, .string (⟨#[]⟩ : ByteArray)]) ?_ 3 _ rfl; refine rp ?_; refine blk_put (cs := #[.int .i64 a0_1, .int .i64 0, .float .f64 0, .string (⟨#[]⟩ : ByteArray)]) ?_ 2 _ rfl; refine rp ?_; refine blk_put (cs := #[.int .i64 a0_1, .int .i64 0, .float .f64 0, .string (⟨#[]⟩ : ByteArray)]) ?_ 1 _ rfl; refine rp ?_; refine blk_put (cs := #[.int .i64 0, .int .i64 0, .float .f64 0, .string (⟨#[]⟩ : ByteArray)]) ?_ 0 _ rfl; exact bk BK799) Tryd.underlying50 rfl (by kernel_rfl)) rfl ?_
                  exact ⟨er, bl HB⟩
                · rw [if_neg c72] at H
                  have c72b0 : decide ((a2.size : Int) < 8) = false := decide_eq_false c72
                  have c72b1 : decide (a2.size < 8) = false := decide_eq_false (by omega)
                  clear c72
                  replace H := Option.bind_eq_some_iff.mp H
                  obtain ⟨t805, A790, H⟩ := H
                  replace H : (if 8 ≤ (a2.size : Int) then (some (a0_1, 0, t805.toNat, (⟨#[]⟩ : ByteArray), a2.extract 8 a2.size, true)) else (none)) = some (r1, r2, r3, r4, r5, r6) := H
                  have A79 := am A790
                  clear A790
                  by_cases c80 : 8 ≤ (a2.size : Int)
                  · rw [if_pos c80] at H
                    have c80b0 := eq_true c80
                    have c80b1 : decide (8 ≤ (a2.size : Int)) = true := decide_eq_true c80
                    clear c80
                    simp only [Option.some.injEq, Prod.mk.injEq] at H
                    obtain ⟨rfl, rfl, rfl, rfl, rfl, rfl⟩ := H
                    have hnb81 := NB798_799.out
                    have hnc81 := NB799_798.out
                    have hnb82 := NB798_800.out
                    have hnc82 := NB800_798.out
                    obtain ⟨Z83_0, Z83_1, Z83_2, Z83_3, Z83_4, Z83_5, Z83_6, Y83_0, Y83_1, Y83_2, Y83_3, Y83_4, Y83_5, Y83_6⟩ := bq7 BK798
                    try go_wp2_with (first | ((with_reducible refine gate_callee (f := 170) rfl ?_); refine goesL_ (some 74) rfl rfl Tryd.func170 (by kernel_rfl) rfl #[.string a2] rfl ar ?_; (with_reducible refine (row_low.calls kj18 a2 t805 _ A79.out).mono ?_); rintro e w' ⟨rfl, ⟨nd, rfl⟩⟩; refine ⟨_, rfl, ?_⟩; (try (rw [drewN_self wc]; generalize hq_ : World.drewN wc _ = wc; have n0_ : Aside0 (wc.heap[gb798]? = some (.cells #[.string a0_0, .int .i64 a0_1, .bool a0_2, .int .i64 a0_3, .int .i64 a0_4, .float .f64 a0_5, .string a0_6] 105 (0, 0))) := ⟨by rw [← hq_]; exact (bk BK798)⟩; have n1_ : Aside0 (wc.heap[gb799]? = some (.cells #[.int .i64 0, .int .i64 0, .float .f64 0, .string (⟨#[]⟩ : ByteArray)] 50 (0, 0))) := ⟨by rw [← hq_]; exact (bk BK799)⟩; have n2_ : Aside0 (wc.heap[gb800]? = some (.cells #[.int .i64 a0_1, .int .i64 0, .float .f64 0, .string (⟨#[]⟩ : ByteArray)] 50 (0, 0))) := ⟨by rw [← hq_]; exact (bk BK800)⟩; have n3_ : Aside0 (Below w.heap.size w wc) := ⟨by rw [← hq_]; exact (bl HB)⟩; clear BK798 BK799 BK800 HB hq_; have BK798 := n0_; have BK799 := n1_; have BK800 := n2_; have HB := n3_; clear n0_ n1_ n2_ n3_)); (try have Zuz84 : wc.cell? ⟨gb798, 0, none⟩ = some (.string a0_0) := (blk_cell BK798.out 0).trans rfl); (try have Yuz84 := blk_frozen BK798.out 0); (try have Zuz85 : wc.cell? ⟨gb798, 1, none⟩ = some (.int .i64 a0_1) := (blk_cell BK798.out 1).trans rfl); (try have Yuz85 := blk_frozen BK798.out 1); (try have Zuz86 : wc.cell? ⟨gb798, 2, none⟩ = some (.bool a0_2) := (blk_cell BK798.out 2).trans rfl); (try have Yuz86 := blk_frozen BK798.out 2); (try have Zuz87 : wc.cell? ⟨gb798, 3, none⟩ = some (.int .i64 a0_3) := (blk_cell BK798.out 3).trans rfl); (try have Yuz87 := blk_frozen BK798.out 3); (try have Zuz88 : wc.cell? ⟨gb798, 4, none⟩ = some (.int .i64 a0_4) := (blk_cell BK798.out 4).trans rfl); (try have Yuz88 := blk_frozen BK798.out 4); (try have Zuz89 : wc.cell? ⟨gb798, 5, none⟩ = some (.float .f64 a0_5) := (blk_cell BK798.out 5).trans rfl); (try have Yuz89 := blk_frozen BK798.out 5); (try have Zuz90 : wc.cell? ⟨gb798, 6, none⟩ = some (.string a0_6) := (blk_cell BK798.out 6).trans rfl); (try have Yuz90 := blk_frozen BK798.out 6); (try have Zuz91 : wc.cell? ⟨gb799, 0, none⟩ = some (.int .i64 0) := (blk_cell BK799.out 0).trans rfl); (try have Yuz91 := blk_frozen BK799.out 0); (try have Zuz92 : wc.cell? ⟨gb799, 1, none⟩ = some (.int .i64 0) := (blk_cell BK799.out 1).trans rfl); (try have Yuz92 := blk_frozen BK799.out 1); (try have Zuz93 : wc.cell? ⟨gb799, 2, none⟩ = some (.float .f64 0) := (blk_cell BK799.out 2).trans rfl); (try have Yuz93 := blk_frozen BK799.out 2); (try have Zuz94 : wc.cell? ⟨gb799, 3, none⟩ = some (.string (⟨#[]⟩ : ByteArray)) := (blk_cell BK799.out 3).trans rfl); (try have Yuz94 := blk_frozen BK799.out 3); (try have Zuz95 : wc.cell? ⟨gb800, 0, none⟩ = some (.int .i64 a0_1) := (blk_cell BK800.out 0).trans rfl); (try have Yuz95 := blk_frozen BK800.out 0); (try have Zuz96 : wc.cell? ⟨gb800, 1, none⟩ = some (.int .i64 0) := (blk_cell BK800.out 1).trans rfl); (try have Yuz96 := blk_frozen BK800.out 1); (try have Zuz97 : wc.cell? ⟨gb800, 2, none⟩ = some (.float .f64 0) := (blk_cell BK800.out 2).trans rfl); (try have Yuz97 := blk_frozen BK800.out 2); (try have Zuz98 : wc.cell? ⟨gb800, 3, none⟩ = some (.string (⟨#[]⟩ : ByteArray)) := (blk_cell BK800.out 3).trans rfl); (try have Yuz98 := blk_frozen BK800.out 3); have hnb99 := NB800_799.out; have hnc99 := NB799_800.out; obtain ⟨Z100_0, Z100_1, Z100_2, Z100_3, Y100_0, Y100_1, Y100_2, Y100_3⟩ := bq4 BK800))
                    have n0_ : Aside0 ((wc.setCell ⟨gb800, 2, none⟩ (.float .f64 t805.toNat)).heap[gb798]? = some (.cells #[.string a0_0, .int .i64 a0_1, .bool a0_2, .int .i64 a0_3, .int .i64 a0_4, .float .f64 a0_5, .string a0_6] 105 (0, 0))) := ⟨by refine rp ?_; refine blk_far ?_ NB798_800.out _; exact bk BK798⟩
                    have n1_ : Aside0 ((wc.setCell ⟨gb800, 2, none⟩ (.float .f64 t805.toNat)).heap[gb799]? = some (.cells #[.int .i64 0, .int .i64 0, .float .f64 0, .string (⟨#[]⟩ : ByteArray)] 50 (0, 0))) := ⟨by refine rp ?_; refine blk_far ?_ NB799_800.out _; exact bk BK799⟩
                    have n2_ : Aside0 ((wc.setCell ⟨gb800, 2, none⟩ (.float .f64 t805.toNat)).heap[gb800]? = some (.cells #[.int .i64 a0_1, .int .i64 0, .float .f64 t805.toNat, .string (⟨#[]⟩ : ByteArray)] 50 (0, 0))) := ⟨by refine rp ?_; refine blk_put (cs := #[.int .i64 a0_1, .int .i64 0, .float .f64 0, .string (⟨#[]⟩ : ByteArray)]) ?_ 2 _ rfl; exact bk BK800⟩
                    have n3_ : Aside0 (Below w.heap.size w (wc.setCell ⟨gb800, 2, none⟩ (.float .f64 t805.toNat))) := ⟨bl HB⟩
                    (try clear BK798)
                    (try clear BK799)
                    (try clear BK800)
                    (try clear HB)
                    generalize (wc.setCell ⟨gb800, 2, none⟩ (.float .f64 t805.toNat)) = w101 at n0_ n1_ n2_ n3_ ⊢
                    have BK798 := n0_
                    have BK799 := n1_
                    have BK800 := n2_
                    have HB := n3_
                    clear n0_ n1_ n2_ n3_
                    have n0_ := am (blk_drew BK798.out)
                    have n1_ := am (blk_drew BK799.out)
                    have n2_ := am (blk_drew BK800.out)
                    have n3_ := am (below_drew1 HB.out)
                    clear BK798
                    clear BK799
                    clear BK800
                    clear HB
                    have BK798 := n0_
                    have BK799 := n1_
                    have BK800 := n2_
                    have HB := n3_
                    clear n0_ n1_ n2_ n3_
                    refine start_ (n := 6) (S := fun w' => w'.cell? ⟨gb800, 0, none⟩ = some (.int .i64 a0_1) ∧ w'.cell? ⟨gb800, 1, none⟩ = some (.int .i64 0) ∧ w'.cell? ⟨gb800, 2, none⟩ = some (.float .f64 t805.toNat) ∧ w'.cell? ⟨gb800, 3, none⟩ = some (.string (⟨#[]⟩ : ByteArray))) (ds := []) (bb 0 6) (by kernel_rfl) rfl rfl ⟨(blk_cell BK800.out 0).trans rfl, (blk_cell BK800.out 1).trans rfl, (blk_cell BK800.out 2).trans rfl, (blk_cell BK800.out 3).trans rfl⟩ (fun hHeld => ?_)
                    generalize w101.drew = w102 at BK798 BK799 BK800 HB hHeld ⊢
                    refine pure_ (i := 1) (N := some 78) (v := ?_) (a' := ?_) (bs 6 2) rfl rfl (by kernel_rfl) (fun _ _ _ h => h) (Or.inl ⟨by rfl, ?_⟩) ?_ ?_
                    rotate_left
                    · intro w'
                      go_simp
                      with_reducible rfl
                    rotate_left
                    · simp only [Act.put, List.setIfInBounds_toArray, List.set_cons_zero, List.set_cons_succ, i64_w, i32_w]
                      rfl
                    refine pure_ (i := 2) (N := some 79) (v := ?_) (a' := ?_) (bs 6 6) rfl rfl (by kernel_rfl) (fun _ _ _ h => h) (Or.inl ⟨by rfl, ?_⟩) ?_ ?_
                    rotate_left
                    · intro w'
                      go_simp
                      with_reducible rfl
                    rotate_left
                    · simp only [Act.put, List.setIfInBounds_toArray, List.set_cons_zero, List.set_cons_succ, i64_w, i32_w]
                      rfl
                    refine take_ (i := 0) (N := some 77) (v := ?_) (a' := ?_) (bb 3 6) rfl rfl (by kernel_rfl) (fun _ _ _ h => h) (Or.inl ⟨by rfl, ?_⟩) hHeld ?_ ?_
                    rotate_left
                    · rintro w' ⟨s0, s1, s2, s3⟩
                      go_simp
                      with_reducible rfl
                    rotate_left
                    · simp only [Act.put, List.setIfInBounds_toArray, List.set_cons_zero, List.set_cons_succ, i64_w, i32_w]
                      rfl
                    refine one_ (i := 3) (N := none) (bb 4 6) rfl rfl (by kernel_rfl) (by decide) (fun K hK => ?_)
                    have hs103 : w102.cell? ⟨gb799, 0, none⟩ = some (.int .i64 0) := (blk_cell BK799.out 0).trans rfl
                    have hfs103 := blk_frozen BK799.out 0
                    have hns103_0 := NB798_799.out
                    have hns103_2 := NB800_799.out
                    have hms103_0 := NB799_798.out
                    have hms103_2 := NB799_800.out
                    have hs104 : w102.cell? ⟨gb799, 1, none⟩ = some (.int .i64 0) := (blk_cell BK799.out 1).trans rfl
                    have hfs104 := blk_frozen BK799.out 1
                    have hns104_0 := NB798_799.out
                    have hns104_2 := NB800_799.out
                    have hms104_0 := NB799_798.out
                    have hms104_2 := NB799_800.out
                    have hs105 : w102.cell? ⟨gb799, 2, none⟩ = some (.float .f64 0) := (blk_cell BK799.out 2).trans rfl
                    have hfs105 := blk_frozen BK799.out 2
                    have hns105_0 := NB798_799.out
                    have hns105_2 := NB800_799.out
                    have hms105_0 := NB799_798.out
                    have hms105_2 := NB799_800.out
                    have hs106 : w102.cell? ⟨gb799, 3, none⟩ = some (.string (⟨#[]⟩ : ByteArray)) := (blk_cell BK799.out 3).trans rfl
                    have hfs106 := blk_frozen BK799.out 3
                    have hns106_0 := NB798_799.out
                    have hns106_2 := NB800_799.out
                    have hms106_0 := NB799_798.out
                    have hms106_2 := NB799_800.out
                    refine skip_ (w1 := ?_) (by rfl) rfl ?_ ?_
                    rotate_left
                    · go_simp
                      rfl
                    refine hK.out _ _ ⟨((cell_far (p := ⟨gb799, _, none⟩) NB800_799.out _).trans (((cell_far (p := ⟨gb799, _, none⟩) NB800_799.out _).trans (((cell_far (p := ⟨gb799, _, none⟩) NB800_799.out _).trans (((cell_far (p := ⟨gb799, _, none⟩) NB800_799.out _).trans (hHeld.1)))))))), ((cell_far (p := ⟨gb799, _, none⟩) NB800_799.out _).trans (((cell_far (p := ⟨gb799, _, none⟩) NB800_799.out _).trans (((cell_far (p := ⟨gb799, _, none⟩) NB800_799.out _).trans (((cell_far (p := ⟨gb799, _, none⟩) NB800_799.out _).trans (hHeld.2.1)))))))), ((cell_far (p := ⟨gb799, _, none⟩) NB800_799.out _).trans (((cell_far (p := ⟨gb799, _, none⟩) NB800_799.out _).trans (((cell_far (p := ⟨gb799, _, none⟩) NB800_799.out _).trans (((cell_far (p := ⟨gb799, _, none⟩) NB800_799.out _).trans (hHeld.2.2.1)))))))), ((cell_far (p := ⟨gb799, _, none⟩) NB800_799.out _).trans (((cell_far (p := ⟨gb799, _, none⟩) NB800_799.out _).trans (((cell_far (p := ⟨gb799, _, none⟩) NB800_799.out _).trans (((cell_far (p := ⟨gb799, _, none⟩) NB800_799.out _).trans (hHeld.2.2.2))))))))⟩ (fun hHeld => ?_)
                    clear hK K
                    refine pure_ (i := 4) (N := some 7) (v := ?_) (a' := ?_) (bb 5 6) rfl rfl (by kernel_rfl) (fun _ _ _ h => h) (Or.inl ⟨by rfl, ?_⟩) ?_ ?_
                    rotate_left
                    · intro w'
                      go_simp
                      with_reducible rfl
                    rotate_left
                    · simp only [Act.put, List.setIfInBounds_toArray, List.set_cons_zero, List.set_cons_succ, i64_w, i32_w]
                      rfl
                    refine pure_ (i := 5) (N := some 8) (v := ?_) (a' := ?_) (bb 6 6) rfl rfl (by kernel_rfl) (fun _ _ _ h => h) (Or.inl ⟨by rfl, ?_⟩) ?_ ?_
                    rotate_left
                    · intro w'
                      go_simp
                      with_reducible rfl
                    rotate_left
                    · simp only [Act.put, List.setIfInBounds_toArray, List.set_cons_zero, List.set_cons_succ, i64_w, i32_w]
                      rfl
                    refine done_ (by kernel_rfl) ?_
                    try go_wp2
                    refine bodyPost_ret (results_ctt rfl _ _ gb799 50 #[.int .i64 a0_1, .int .i64 0, .float .f64 t805.toNat, .string (⟨#[]⟩ : ByteArray)] (0, 0) _ rfl (by refine rp ?_; refine blk_put (cs := #[.int .i64 a0_1, .int .i64 0, .float .f64 t805.toNat, .string (⟨#[]⟩ : ByteArray)]) ?_ 3 _ rfl; refine rp ?_; refine blk_put (cs := #[.int .i64 a0_1, .int .i64 0, .float .f64 0, .string (⟨#[]⟩ : ByteArray)]) ?_ 2 _ rfl; refine rp ?_; refine blk_put (cs := #[.int .i64 a0_1, .int .i64 0, .float .f64 0, .string (⟨#[]⟩ : ByteArray)]) ?_ 1 _ rfl; refine rp ?_; refine blk_put (cs := #[.int .i64 0, .int .i64 0, .float .f64 0, .string (⟨#[]⟩ : ByteArray)]) ?_ 0 _ rfl; exact bk BK799) Tryd.underlying50 rfl (by kernel_rfl)) rfl ?_
                    exact ⟨er, bl HB⟩
                  · rw [if_neg c80] at H
                    exact absurd H (by simp)
              · rw [if_neg c71] at H
                have c71b0 : (a0_1 == 3) = false := beq_eq_false_iff_ne.mpr c71
                have c71b1 : (a0_1 != 3) = true := bne_iff_ne.mpr c71
                replace H := Option.bind_eq_some_iff.mp H
                obtain ⟨⟨t806, t807, t808⟩, A1070, H⟩ := H
                replace H : (if t808 = true then (if t806 > (IntKind.u64.wrap ((t807.size : Int))) then (some (a0_1, 0, 0, (⟨#[]⟩ : ByteArray), (⟨#[]⟩ : ByteArray), false)) else (if 0 ≤ t806 then (if t806 ≤ (t807.size : Int) then ((value_Check.f kj18 a0_1 0 0 (t807.extract 0 (t806 : Int).toNat)).bind fun t809 => (some (a0_1, 0, 0, t807.extract 0 (t806 : Int).toNat, t807.extract (t806 : Int).toNat t807.size, (t809 == 0)))) else (none)) else (none))) else (some (a0_1, 0, 0, (⟨#[]⟩ : ByteArray), (⟨#[]⟩ : ByteArray), false))) = some (r1, r2, r3, r4, r5, r6) := H
                have A107 := am A1070
                clear A1070
                by_cases c108 : t808 = true
                · subst c108
                  have H1 : (if t806 > (IntKind.u64.wrap ((t807.size : Int))) then (some (a0_1, 0, 0, (⟨#[]⟩ : ByteArray), (⟨#[]⟩ : ByteArray), false)) else (if 0 ≤ t806 then (if t806 ≤ (t807.size : Int) then ((value_Check.f kj18 a0_1 0 0 (t807.extract 0 (t806 : Int).toNat)).bind fun t809 => (some (a0_1, 0, 0, t807.extract 0 (t806 : Int).toNat, t807.extract (t806 : Int).toNat t807.size, (t809 == 0)))) else (none)) else (none))) = some (r1, r2, r3, r4, r5, r6) := by rw [if_pos rfl] at H; exact H
                  clear H
                  have H := H1
                  clear H1
                  by_cases c109 : t806 > (IntKind.u64.wrap ((t807.size : Int)))
                  · rw [if_pos c109] at H
                    have c109b0 : decide ((IntKind.u64.wrap ((t807.size : Int))) < t806) = true := decide_eq_true c109
                    clear c109
                    simp only [Option.some.injEq, Prod.mk.injEq] at H
                    obtain ⟨rfl, rfl, rfl, rfl, rfl, rfl⟩ := H
                    have hnb110 := NB798_799.out
                    have hnc110 := NB799_798.out
                    have hnb111 := NB798_800.out
                    have hnc111 := NB800_798.out
                    obtain ⟨Z112_0, Z112_1, Z112_2, Z112_3, Z112_4, Z112_5, Z112_6, Y112_0, Y112_1, Y112_2, Y112_3, Y112_4, Y112_5, Y112_6⟩ := bq7 BK798
                    go_wp2_with (first | ((with_reducible refine gate_callee (f := 95) rfl ?_); refine goesL_ (some 82) rfl rfl Tryd.func95 (by kernel_rfl) rfl #[.string a2] rfl ar ?_; (with_reducible refine (row_varint.calls kj18 a2 t806 t807 true _ A107.out).mono ?_); rintro e w113 ⟨rfl, hb⟩; refine ⟨_, rfl, ?_⟩; replace BK798 := kb BK798 hb; replace BK799 := kb BK799 hb; replace BK800 := kb BK800 hb; replace HB := sb HB hb; (try clear hb); (try clear hb2 hk hi); have hnb114 := NB800_799.out; have hnc114 := NB799_800.out; obtain ⟨Z115_0, Z115_1, Z115_2, Z115_3, Y115_0, Y115_1, Y115_2, Y115_3⟩ := bq4 BK800; obtain ⟨Z116_0, Z116_1, Z116_2, Z116_3, Y116_0, Y116_1, Y116_2, Y116_3⟩ := bq4 BK799))
                    refine bodyPost_ret (results_ctt rfl _ _ gb799 50 #[.int .i64 a0_1, .int .i64 0, .float .f64 0, .string (⟨#[]⟩ : ByteArray)] (0, 0) _ rfl (by refine rp ?_; refine blk_put (cs := #[.int .i64 a0_1, .int .i64 0, .float .f64 0, .string (⟨#[]⟩ : ByteArray)]) ?_ 3 _ rfl; refine rp ?_; refine blk_put (cs := #[.int .i64 a0_1, .int .i64 0, .float .f64 0, .string (⟨#[]⟩ : ByteArray)]) ?_ 2 _ rfl; refine rp ?_; refine blk_put (cs := #[.int .i64 a0_1, .int .i64 0, .float .f64 0, .string (⟨#[]⟩ : ByteArray)]) ?_ 1 _ rfl; refine rp ?_; refine blk_put (cs := #[.int .i64 0, .int .i64 0, .float .f64 0, .string (⟨#[]⟩ : ByteArray)]) ?_ 0 _ rfl; exact bk BK799) Tryd.underlying50 rfl (by kernel_rfl)) rfl ?_
                    exact ⟨er, bl HB⟩
                  · rw [if_neg c109] at H
                    have c109b0 : decide ((IntKind.u64.wrap ((t807.size : Int))) < t806) = false := decide_eq_false c109
                    clear c109
                    by_cases c117 : 0 ≤ t806
                    · rw [if_pos c117] at H
                      have c117b0 := eq_true c117
                      have c117b1 : decide (0 ≤ t806) = true := decide_eq_true c117
                      clear c117
                      by_cases c118 : t806 ≤ (t807.size : Int)
                      · rw [if_pos c118] at H
                        have c118b0 := eq_true c118
                        have c118b1 : decide (t806 ≤ (t807.size : Int)) = true := decide_eq_true c118
                        clear c118
                        have c119b0 := eq_true (oda : 0 ≤ t806)
                        have c120b0 := eq_true (oda : t806 ≤ (t807.size : Int))
                        replace H := Option.bind_eq_some_iff.mp H
                        obtain ⟨t809, A1210, H⟩ := H
                        replace H : (some (a0_1, 0, 0, t807.extract 0 (t806 : Int).toNat, t807.extract (t806 : Int).toNat t807.size, (t809 == 0))) = some (r1, r2, r3, r4, r5, r6) := H
                        have A121 := am A1210
                        clear A1210
                        simp only [Option.some.injEq, Prod.mk.injEq] at H
                        obtain ⟨rfl, rfl, rfl, rfl, rfl, rfl⟩ := H
                        have hnb122 := NB798_799.out
                        have hnc122 := NB799_798.out
                        have hnb123 := NB798_800.out
                        have hnc123 := NB800_798.out
                        obtain ⟨Z124_0, Z124_1, Z124_2, Z124_3, Z124_4, Z124_5, Z124_6, Y124_0, Y124_1, Y124_2, Y124_3, Y124_4, Y124_5, Y124_6⟩ := bq7 BK798
                        try go_wp2_with (first | ((with_reducible refine gate_callee (f := 95) rfl ?_); refine goesL_ (some 82) rfl rfl Tryd.func95 (by kernel_rfl) rfl #[.string a2] rfl ar ?_; (with_reducible refine (row_varint.calls kj18 a2 t806 t807 true _ A107.out).mono ?_); rintro e w125 ⟨rfl, hb⟩; refine ⟨_, rfl, ?_⟩; replace BK798 := kb BK798 hb; replace BK799 := kb BK799 hb; replace BK800 := kb BK800 hb; replace HB := sb HB hb; (try clear hb); (try clear hb2 hk hi); have hnb126 := NB800_799.out; have hnc126 := NB799_800.out; obtain ⟨Z127_0, Z127_1, Z127_2, Z127_3, Y127_0, Y127_1, Y127_2, Y127_3⟩ := bq4 BK800))
                        have n0_ : Aside0 ((w125.setCell ⟨gb800, 3, none⟩ (.string (t807.extract 0 (t806 : Int).toNat))).heap[gb798]? = some (.cells #[.string a0_0, .int .i64 a0_1, .bool a0_2, .int .i64 a0_3, .int .i64 a0_4, .float .f64 a0_5, .string a0_6] 105 (0, 0))) := ⟨by refine rp ?_; refine blk_far ?_ NB798_800.out _; exact bk BK798⟩
                        have n1_ : Aside0 ((w125.setCell ⟨gb800, 3, none⟩ (.string (t807.extract 0 (t806 : Int).toNat))).heap[gb799]? = some (.cells #[.int .i64 0, .int .i64 0, .float .f64 0, .string (⟨#[]⟩ : ByteArray)] 50 (0, 0))) := ⟨by refine rp ?_; refine blk_far ?_ NB799_800.out _; exact bk BK799⟩
                        have n2_ : Aside0 ((w125.setCell ⟨gb800, 3, none⟩ (.string (t807.extract 0 (t806 : Int).toNat))).heap[gb800]? = some (.cells #[.int .i64 a0_1, .int .i64 0, .float .f64 0, .string (t807.extract 0 (t806 : Int).toNat)] 50 (0, 0))) := ⟨by refine rp ?_; refine blk_put (cs := #[.int .i64 a0_1, .int .i64 0, .float .f64 0, .string (⟨#[]⟩ : ByteArray)]) ?_ 3 _ rfl; exact bk BK800⟩
                        have n3_ : Aside0 (Below w.heap.size w (w125.setCell ⟨gb800, 3, none⟩ (.string (t807.extract 0 (t806 : Int).toNat)))) := ⟨bl HB⟩
                        (try clear BK798)
                        (try clear BK799)
                        (try clear BK800)
                        (try clear HB)
                        generalize (w125.setCell ⟨gb800, 3, none⟩ (.string (t807.extract 0 (t806 : Int).toNat))) = w128 at n0_ n1_ n2_ n3_ ⊢
                        have BK798 := n0_
                        have BK799 := n1_
                        have BK800 := n2_
                        have HB := n3_
                        clear n0_ n1_ n2_ n3_
                        have n0_ := am (blk_drew BK798.out)
                        have n1_ := am (blk_drew BK799.out)
                        have n2_ := am (blk_drew BK800.out)
                        have n3_ := am (below_drew1 HB.out)
                        clear BK798
                        clear BK799
                        clear BK800
                        clear HB
                        have BK798 := n0_
                        have BK799 := n1_
                        have BK800 := n2_
                        have HB := n3_
                        clear n0_ n1_ n2_ n3_
                        refine start_ (n := 10) (S := fun w' => w'.cell? ⟨gb800, 0, none⟩ = some (.int .i64 a0_1) ∧ w'.cell? ⟨gb800, 1, none⟩ = some (.int .i64 0) ∧ w'.cell? ⟨gb800, 2, none⟩ = some (.float .f64 0) ∧ w'.cell? ⟨gb800, 3, none⟩ = some (.string (t807.extract 0 (t806 : Int).toNat))) (ds := []) (bb 0 10) (by kernel_rfl) rfl rfl ⟨(blk_cell BK800.out 0).trans rfl, (blk_cell BK800.out 1).trans rfl, (blk_cell BK800.out 2).trans rfl, (blk_cell BK800.out 3).trans rfl⟩ (fun hHeld => ?_); refine with_tabW row_get.tab22 row_get.bits22 (fun HT_ HW_ => ?_)
                        generalize w128.drew = w129 at BK798 BK799 BK800 HB hHeld ⊢
                        refine pu HT_ 1 (some 101) (bs 10 2) ?_
                        refine pu HT_ 2 (some 102) (bs 10 6) ?_
                        refine pu HT_ 3 (some 103) (bs 10 14) ?_
                        refine tk HT_ HW_ hHeld 0 (some 100) (bb 4 10) ?_
                        refine tk HT_ HW_ hHeld 4 (some 104) (bb 5 10) ?_
                        refine one_ (i := 5) (N := some 105) (bb 6 10) rfl rfl (one_of HT_.out (by kernel_rfl)) (by decide) (fun K hK => ?_)
                        refine goes_ Tryd.func67 (by kernel_rfl) rfl #[.agg #[.int .i64 a0_1, .int .i64 0, .float .f64 0, .string (t807.extract 0 (t806 : Int).toNat)]] (by rfl) rfl rfl ar ?_
                        with_reducible refine (value_Check.calls kj18 a0_1 0 0 (t807.extract 0 (t806 : Int).toNat) t809 _ ?side1 A121.out).mono ?_
                        (case side1 => exact Glob.below HG.out (bl HB))
                        rintro e w130 ⟨rfl, hb⟩
                        refine ⟨_, rfl, ?_⟩
                        have n0_ := kb BK798 hb
                        have n1_ := kb BK799 hb
                        have n2_ := kb BK800 hb
                        have n3_ := sb HB hb
                        clear BK798
                        clear BK799
                        clear BK800
                        clear HB
                        have BK798 := n0_
                        have BK799 := n1_
                        have BK800 := n2_
                        have HB := n3_
                        clear n0_ n1_ n2_ n3_
                        (try clear hb)
                        (try clear hb2)
                        (try clear hk)
                        (try clear hi)
                        refine hK.out _ _ ⟨(blk_cell BK800.out 0).trans rfl, (blk_cell BK800.out 1).trans rfl, (blk_cell BK800.out 2).trans rfl, (blk_cell BK800.out 3).trans rfl⟩ (fun hHeld => ?_)
                        clear hK K
                        refine norm_ (a' := ?_) ?_ ?_
                        rotate_left
                        · show Act.put _ (some 105) _ = _
                          simp only [Act.put, List.setIfInBounds_toArray, List.set_cons_zero, List.set_cons_succ, i64_w, i32_w]
                          rfl
                        refine pu HT_ 6 (some 106) (bb 7 10) ?_
                        refine one_ (i := 7) (N := none) (bb 8 10) rfl rfl (one_of HT_.out (by kernel_rfl)) (by decide) (fun K hK => ?_)
                        have hs131 : w130.cell? ⟨gb799, 0, none⟩ = some (.int .i64 0) := (blk_cell BK799.out 0).trans rfl
                        have hfs131 := blk_frozen BK799.out 0
                        have hns131_0 := NB798_799.out
                        have hns131_2 := NB800_799.out
                        have hms131_0 := NB799_798.out
                        have hms131_2 := NB799_800.out
                        have hs132 : w130.cell? ⟨gb799, 1, none⟩ = some (.int .i64 0) := (blk_cell BK799.out 1).trans rfl
                        have hfs132 := blk_frozen BK799.out 1
                        have hns132_0 := NB798_799.out
                        have hns132_2 := NB800_799.out
                        have hms132_0 := NB799_798.out
                        have hms132_2 := NB799_800.out
                        have hs133 : w130.cell? ⟨gb799, 2, none⟩ = some (.float .f64 0) := (blk_cell BK799.out 2).trans rfl
                        have hfs133 := blk_frozen BK799.out 2
                        have hns133_0 := NB798_799.out
                        have hns133_2 := NB800_799.out
                        have hms133_0 := NB799_798.out
                        have hms133_2 := NB799_800.out
                        have hs134 : w130.cell? ⟨gb799, 3, none⟩ = some (.string (⟨#[]⟩ : ByteArray)) := (blk_cell BK799.out 3).trans rfl
                        have hfs134 := blk_frozen BK799.out 3
                        have hns134_0 := NB798_799.out
                        have hns134_2 := NB800_799.out
                        have hms134_0 := NB799_798.out
                        have hms134_2 := NB799_800.out
                        refine skip_ (w1 := ?_) (by rfl) rfl ?_ ?_
                        rotate_left
                        · go_simp
                          rfl
                        refine hK.out _ _ ⟨((cell_far (p := ⟨gb799, _, none⟩) NB800_799.out _).trans (((cell_far (p := ⟨gb799, _, none⟩) NB800_799.out _).trans (((cell_far (p := ⟨gb799, _, none⟩) NB800_799.out _).trans (((cell_far (p := ⟨gb799, _, none⟩) NB800_799.out _).trans (hHeld.1)))))))), ((cell_far (p := ⟨gb799, _, none⟩) NB800_799.out _).trans (((cell_far (p := ⟨gb799, _, none⟩) NB800_799.out _).trans (((cell_far (p := ⟨gb799, _, none⟩) NB800_799.out _).trans (((cell_far (p := ⟨gb799, _, none⟩) NB800_799.out _).trans (hHeld.2.1)))))))), ((cell_far (p := ⟨gb799, _, none⟩) NB800_799.out _).trans (((cell_far (p := ⟨gb799, _, none⟩) NB800_799.out _).trans (((cell_far (p := ⟨gb799, _, none⟩) NB800_799.out _).trans (((cell_far (p := ⟨gb799, _, none⟩) NB800_799.out _).trans (hHeld.2.2.1)))))))), ((cell_far (p := ⟨gb799, _, none⟩) NB800_799.out _).trans (((cell_far (p := ⟨gb799, _, none⟩) NB800_799.out _).trans (((cell_far (p := ⟨gb799, _, none⟩) NB800_799.out _).trans (((cell_far (p := ⟨gb799, _, none⟩) NB800_799.out _).trans (hHeld.2.2.2))))))))⟩ (fun hHeld => ?_)
                        clear hK K
                        refine pu HT_ 8 (some 7) (bb 9 10) ?_
                        refine pu HT_ 9 (some 8) (bb 10 10) ?_
                        refine done_ (done_of HT_.out (by kernel_rfl)) ?_
                        try go_wp2
                        refine bodyPost_ret (results_ctt rfl _ _ gb799 50 #[.int .i64 a0_1, .int .i64 0, .float .f64 0, .string (t807.extract 0 (t806 : Int).toNat)] (0, 0) _ rfl (by refine rp ?_; refine blk_put (cs := #[.int .i64 a0_1, .int .i64 0, .float .f64 0, .string (⟨#[]⟩ : ByteArray)]) ?_ 3 _ rfl; refine rp ?_; refine blk_put (cs := #[.int .i64 a0_1, .int .i64 0, .float .f64 0, .string (⟨#[]⟩ : ByteArray)]) ?_ 2 _ rfl; refine rp ?_; refine blk_put (cs := #[.int .i64 a0_1, .int .i64 0, .float .f64 0, .string (⟨#[]⟩ : ByteArray)]) ?_ 1 _ rfl; refine rp ?_; refine blk_put (cs := #[.int .i64 0, .int .i64 0, .float .f64 0, .string (⟨#[]⟩ : ByteArray)]) ?_ 0 _ rfl; exact bk BK799) Tryd.underlying50 rfl (by kernel_rfl)) rfl ?_
                        exact ⟨er, bl HB⟩
                      · rw [if_neg c118] at H
                        exact absurd H (by simp)
                    · rw [if_neg c117] at H
                      exact absurd H (by simp)
                · replace c108 := Bool.eq_false_iff.mpr c108
                  subst c108
                  have H1 : (some (a0_1, 0, 0, (⟨#[]⟩ : ByteArray), (⟨#[]⟩ : ByteArray), false)) = some (r1, r2, r3, r4, r5, r6) := by rw [if_neg (show ¬ (false = true) by decide)] at H; exact H
                  clear H
                  have H := H1
                  clear H1
                  simp only [Option.some.injEq, Prod.mk.injEq] at H
                  obtain ⟨rfl, rfl, rfl, rfl, rfl, rfl⟩ := H
                  have hnb135 := NB798_799.out
                  have hnc135 := NB799_798.out
                  have hnb136 := NB798_800.out
                  have hnc136 := NB800_798.out
                  obtain ⟨Z137_0, Z137_1, Z137_2, Z137_3, Z137_4, Z137_5, Z137_6, Y137_0, Y137_1, Y137_2, Y137_3, Y137_4, Y137_5, Y137_6⟩ := bq7 BK798
                  go_wp2_with (first | ((with_reducible refine gate_callee (f := 95) rfl ?_); refine goesL_ (some 82) rfl rfl Tryd.func95 (by kernel_rfl) rfl #[.string a2] rfl ar ?_; (with_reducible refine (row_varint.calls kj18 a2 t806 t807 false _ A107.out).mono ?_); rintro e w138 ⟨rfl, hb⟩; refine ⟨_, rfl, ?_⟩; replace BK798 := kb BK798 hb; replace BK799 := kb BK799 hb; replace BK800 := kb BK800 hb; replace HB := sb HB hb; (try clear hb); (try clear hb2 hk hi); have hnb139 := NB800_799.out; have hnc139 := NB799_800.out; obtain ⟨Z140_0, Z140_1, Z140_2, Z140_3, Y140_0, Y140_1, Y140_2, Y140_3⟩ := bq4 BK800; obtain ⟨Z141_0, Z141_1, Z141_2, Z141_3, Y141_0, Y141_1, Y141_2, Y141_3⟩ := bq4 BK799))
                  refine bodyPost_ret (results_ctt rfl _ _ gb799 50 #[.int .i64 a0_1, .int .i64 0, .float .f64 0, .string (⟨#[]⟩ : ByteArray)] (0, 0) _ rfl (by refine rp ?_; refine blk_put (cs := #[.int .i64 a0_1, .int .i64 0, .float .f64 0, .string (⟨#[]⟩ : ByteArray)]) ?_ 3 _ rfl; refine rp ?_; refine blk_put (cs := #[.int .i64 a0_1, .int .i64 0, .float .f64 0, .string (⟨#[]⟩ : ByteArray)]) ?_ 2 _ rfl; refine rp ?_; refine blk_put (cs := #[.int .i64 a0_1, .int .i64 0, .float .f64 0, .string (⟨#[]⟩ : ByteArray)]) ?_ 1 _ rfl; refine rp ?_; refine blk_put (cs := #[.int .i64 0, .int .i64 0, .float .f64 0, .string (⟨#[]⟩ : ByteArray)]) ?_ 0 _ rfl; exact bk BK799) Tryd.underlying50 rfl (by kernel_rfl)) rfl ?_
                  exact ⟨er, bl HB⟩
end Go.Proofs.YtpiifdbicibelaaDoor.PA
end
