/- Part 4 of what the proof of SetsMerges stands on: words for walks, printed functions with their contracts, plain laws. -/
import Derived.Test.YtldlenjfpjihdaaGreatKSetsMerges2
section
namespace Go.Proofs
open Go.Shelf
def Tryz.sortR_ren : Go.Shelf.Ren := ⟨fun | 6 => 72 | 15 => 84 | 14 => 85 | 28 => 99 | 29 => 100 | 20 => 101 | 21 => 102 | 22 => 103 | 23 => 104 | 24 => 105 | 25 => 106 | 26 => 107 | 27 => 108 | 46 => 117 | 47 => 113 | 48 => 114 | 49 => 118 | 50 => 119 | 57 => 129 | n => n, fun | 22 => 70 | 24 => 44 | 25 => 101 | 3 => 3 | 39 => 112 | 0 => 0 | 53 => 125 | 55 => 127 | 4 => 4 | 46 => 118 | 45 => 117 | 50 => 122 | 5 => 5 | 9 => 9 | 66 => 135 | 70 => 139 | 76 => 148 | 77 => 149 | n => n, fun | n => n⟩
theorem Tryz.sortR : Go.Proofs.SlLaysF0.n6 Tryz.prog Tryz.sortR_ren := {
  mixed := by kernel_rfl
  f6 := ⟨Tryz.f72.name, by decide, Tryz.func72.trans (congrArg some (by kernel_rfl))⟩
  f14 := ⟨Tryz.f85.name, by decide, Tryz.func85.trans (congrArg some (by kernel_rfl))⟩
  f15 := Tryz.func84.trans (congrArg some (by kernel_rfl))
  f20 := ⟨Tryz.f101.name, by decide, Tryz.func101.trans (congrArg some (by kernel_rfl))⟩
  f21 := ⟨Tryz.f102.name, by decide, Tryz.func102.trans (congrArg some (by kernel_rfl))⟩
  f22 := ⟨Tryz.f103.name, by decide, Tryz.func103.trans (congrArg some (by kernel_rfl))⟩
  f23 := ⟨Tryz.f104.name, by decide, Tryz.func104.trans (congrArg some (by kernel_rfl))⟩
  f24 := ⟨Tryz.f105.name, by decide, Tryz.func105.trans (congrArg some (by kernel_rfl))⟩
  f25 := ⟨Tryz.f106.name, by decide, Tryz.func106.trans (congrArg some (by kernel_rfl))⟩
  f26 := ⟨Tryz.f107.name, by decide, Tryz.func107.trans (congrArg some (by kernel_rfl))⟩
  f27 := ⟨Tryz.f108.name, by decide, Tryz.func108.trans (congrArg some (by kernel_rfl))⟩
  f28 := Tryz.func99.trans (congrArg some (by kernel_rfl))
  f29 := Tryz.func100.trans (congrArg some (by kernel_rfl))
  f46 := ⟨Tryz.f117.name, by decide, Tryz.func117.trans (congrArg some (by kernel_rfl))⟩
  f47 := Tryz.func113.trans (congrArg some (by kernel_rfl))
  f48 := Tryz.func114.trans (congrArg some (by kernel_rfl))
  f49 := ⟨Tryz.f118.name, by decide, Tryz.func118.trans (congrArg some (by kernel_rfl))⟩
  f50 := ⟨Tryz.f119.name, by decide, Tryz.func119.trans (congrArg some (by kernel_rfl))⟩
  f57 := ⟨Tryz.f129.name, by decide, Tryz.func129.trans (congrArg some (by kernel_rfl))⟩
  t0 := Tryz.underlying0
  a0 := Tryz.isAgg0
  z0 := Tryz.sizeOf0
  v0 := Tryz.zeroValue0
  t3 := Tryz.underlying3
  a3 := Tryz.isAgg3
  z3 := Tryz.sizeOf3
  v3 := Tryz.zeroValue3
  t4 := Tryz.underlying4
  a4 := Tryz.isAgg4
  z4 := Tryz.sizeOf4
  v4 := Tryz.zeroValue4
  t5 := Tryz.underlying5
  a5 := Tryz.isAgg5
  z5 := Tryz.sizeOf5
  v5 := Tryz.zeroValue5
  t9 := Tryz.underlying9
  a9 := Tryz.isAgg9
  z9 := Tryz.sizeOf9
  v9 := Tryz.zeroValue9
  t22 := Tryz.underlying70
  a22 := Tryz.isAgg70
  z22 := Tryz.sizeOf70
  v22 := Tryz.zeroValue70
  t25 := Tryz.underlying101
  a25 := Tryz.isAgg101
  z25 := Tryz.sizeOf101
  v25 := Tryz.zeroValue101
  t39 := Tryz.underlying112
  a39 := Tryz.isAgg112
  z39 := Tryz.sizeOf112
  v39 := Tryz.zeroValue112
  t45 := Tryz.underlying117
  a45 := Tryz.isAgg117
  z45 := Tryz.sizeOf117
  v45 := Tryz.zeroValue117
  t46 := Tryz.underlying118
  a46 := Tryz.isAgg118
  z46 := Tryz.sizeOf118
  v46 := Tryz.zeroValue118
  t50 := Tryz.underlying122
  a50 := Tryz.isAgg122
  z50 := Tryz.sizeOf122
  v50 := Tryz.zeroValue122
  t53 := Tryz.underlying125
  a53 := Tryz.isAgg125
  z53 := Tryz.sizeOf125
  v53 := Tryz.zeroValue125
  t55 := Tryz.underlying127
  a55 := Tryz.isAgg127
  z55 := Tryz.sizeOf127
  v55 := Tryz.zeroValue127
  t66 := Tryz.underlying135
  a66 := Tryz.isAgg135
  z66 := Tryz.sizeOf135
  v66 := Tryz.zeroValue135
  t70 := Tryz.underlying139
  a70 := Tryz.isAgg139
  z70 := Tryz.sizeOf139
  v70 := Tryz.zeroValue139
  t76 := Tryz.underlying148
  a76 := Tryz.isAgg148
  z76 := Tryz.sizeOf148
  v76 := Tryz.zeroValue148
  t77 := Tryz.underlying149
  a77 := Tryz.isAgg149
  z77 := Tryz.sizeOf149
  v77 := Tryz.zeroValue149 }
def Tryz.sortP_ren : Go.Shelf.Ren := ⟨fun | 6 => 88 | 15 => 84 | 14 => 111 | 28 => 99 | 29 => 100 | 20 => 120 | 21 => 121 | 22 => 122 | 23 => 123 | 24 => 124 | 25 => 125 | 26 => 126 | 27 => 127 | 46 => 130 | 47 => 113 | 48 => 114 | 49 => 131 | 50 => 132 | 57 => 133 | n => n, fun | 22 => 22 | 24 => 37 | 25 => 92 | 3 => 3 | 39 => 112 | 0 => 0 | 53 => 125 | 55 => 127 | 4 => 4 | 46 => 118 | 45 => 117 | 50 => 122 | 5 => 5 | 9 => 9 | 66 => 135 | 70 => 139 | 76 => 148 | 77 => 149 | n => n, fun | n => n⟩
theorem Tryz.sortP : Go.Proofs.SlLaysF0.n6 Tryz.prog Tryz.sortP_ren := {
  mixed := by kernel_rfl
  f6 := ⟨Tryz.f88.name, by decide, Tryz.func88.trans (congrArg some (by kernel_rfl))⟩
  f14 := ⟨Tryz.f111.name, by decide, Tryz.func111.trans (congrArg some (by kernel_rfl))⟩
  f15 := Tryz.func84.trans (congrArg some (by kernel_rfl))
  f20 := ⟨Tryz.f120.name, by decide, Tryz.func120.trans (congrArg some (by kernel_rfl))⟩
  f21 := ⟨Tryz.f121.name, by decide, Tryz.func121.trans (congrArg some (by kernel_rfl))⟩
  f22 := ⟨Tryz.f122.name, by decide, Tryz.func122.trans (congrArg some (by kernel_rfl))⟩
  f23 := ⟨Tryz.f123.name, by decide, Tryz.func123.trans (congrArg some (by kernel_rfl))⟩
  f24 := ⟨Tryz.f124.name, by decide, Tryz.func124.trans (congrArg some (by kernel_rfl))⟩
  f25 := ⟨Tryz.f125.name, by decide, Tryz.func125.trans (congrArg some (by kernel_rfl))⟩
  f26 := ⟨Tryz.f126.name, by decide, Tryz.func126.trans (congrArg some (by kernel_rfl))⟩
  f27 := ⟨Tryz.f127.name, by decide, Tryz.func127.trans (congrArg some (by kernel_rfl))⟩
  f28 := Tryz.func99.trans (congrArg some (by kernel_rfl))
  f29 := Tryz.func100.trans (congrArg some (by kernel_rfl))
  f46 := ⟨Tryz.f130.name, by decide, Tryz.func130.trans (congrArg some (by kernel_rfl))⟩
  f47 := Tryz.func113.trans (congrArg some (by kernel_rfl))
  f48 := Tryz.func114.trans (congrArg some (by kernel_rfl))
  f49 := ⟨Tryz.f131.name, by decide, Tryz.func131.trans (congrArg some (by kernel_rfl))⟩
  f50 := ⟨Tryz.f132.name, by decide, Tryz.func132.trans (congrArg some (by kernel_rfl))⟩
  f57 := ⟨Tryz.f133.name, by decide, Tryz.func133.trans (congrArg some (by kernel_rfl))⟩
  t0 := Tryz.underlying0
  a0 := Tryz.isAgg0
  z0 := Tryz.sizeOf0
  v0 := Tryz.zeroValue0
  t3 := Tryz.underlying3
  a3 := Tryz.isAgg3
  z3 := Tryz.sizeOf3
  v3 := Tryz.zeroValue3
  t4 := Tryz.underlying4
  a4 := Tryz.isAgg4
  z4 := Tryz.sizeOf4
  v4 := Tryz.zeroValue4
  t5 := Tryz.underlying5
  a5 := Tryz.isAgg5
  z5 := Tryz.sizeOf5
  v5 := Tryz.zeroValue5
  t9 := Tryz.underlying9
  a9 := Tryz.isAgg9
  z9 := Tryz.sizeOf9
  v9 := Tryz.zeroValue9
  t22 := Tryz.underlying22
  a22 := Tryz.isAgg22
  z22 := Tryz.sizeOf22
  v22 := Tryz.zeroValue22
  t25 := Tryz.underlying92
  a25 := Tryz.isAgg92
  z25 := Tryz.sizeOf92
  v25 := Tryz.zeroValue92
  t39 := Tryz.underlying112
  a39 := Tryz.isAgg112
  z39 := Tryz.sizeOf112
  v39 := Tryz.zeroValue112
  t45 := Tryz.underlying117
  a45 := Tryz.isAgg117
  z45 := Tryz.sizeOf117
  v45 := Tryz.zeroValue117
  t46 := Tryz.underlying118
  a46 := Tryz.isAgg118
  z46 := Tryz.sizeOf118
  v46 := Tryz.zeroValue118
  t50 := Tryz.underlying122
  a50 := Tryz.isAgg122
  z50 := Tryz.sizeOf122
  v50 := Tryz.zeroValue122
  t53 := Tryz.underlying125
  a53 := Tryz.isAgg125
  z53 := Tryz.sizeOf125
  v53 := Tryz.zeroValue125
  t55 := Tryz.underlying127
  a55 := Tryz.isAgg127
  z55 := Tryz.sizeOf127
  v55 := Tryz.zeroValue127
  t66 := Tryz.underlying135
  a66 := Tryz.isAgg135
  z66 := Tryz.sizeOf135
  v66 := Tryz.zeroValue135
  t70 := Tryz.underlying139
  a70 := Tryz.isAgg139
  z70 := Tryz.sizeOf139
  v70 := Tryz.zeroValue139
  t76 := Tryz.underlying148
  a76 := Tryz.isAgg148
  z76 := Tryz.sizeOf148
  v76 := Tryz.zeroValue148
  t77 := Tryz.underlying149
  a77 := Tryz.isAgg149
  z77 := Tryz.sizeOf149
  v77 := Tryz.zeroValue149 }
def Tryz.sortL_ren : Go.Shelf.Ren := ⟨fun | 6 => 66 | 15 => 84 | 14 => 83 | 28 => 99 | 29 => 100 | 20 => 91 | 21 => 92 | 22 => 93 | 23 => 94 | 24 => 95 | 25 => 96 | 26 => 97 | 27 => 98 | 46 => 112 | 47 => 113 | 48 => 114 | 49 => 115 | 50 => 116 | 57 => 128 | n => n, fun | 22 => 71 | 24 => 69 | 25 => 78 | 3 => 3 | 39 => 112 | 0 => 0 | 53 => 125 | 55 => 127 | 4 => 4 | 46 => 118 | 45 => 117 | 50 => 122 | 5 => 5 | 9 => 9 | 66 => 135 | 70 => 139 | 76 => 148 | 77 => 149 | n => n, fun | n => n⟩
theorem Tryz.sortL : Go.Proofs.SlLaysF0.n6 Tryz.prog Tryz.sortL_ren := {
  mixed := by kernel_rfl
  f6 := ⟨Tryz.f66.name, by decide, Tryz.func66.trans (congrArg some (by kernel_rfl))⟩
  f14 := ⟨Tryz.f83.name, by decide, Tryz.func83.trans (congrArg some (by kernel_rfl))⟩
  f15 := Tryz.func84.trans (congrArg some (by kernel_rfl))
  f20 := ⟨Tryz.f91.name, by decide, Tryz.func91.trans (congrArg some (by kernel_rfl))⟩
  f21 := ⟨Tryz.f92.name, by decide, Tryz.func92.trans (congrArg some (by kernel_rfl))⟩
  f22 := ⟨Tryz.f93.name, by decide, Tryz.func93.trans (congrArg some (by kernel_rfl))⟩
  f23 := ⟨Tryz.f94.name, by decide, Tryz.func94.trans (congrArg some (by kernel_rfl))⟩
  f24 := ⟨Tryz.f95.name, by decide, Tryz.func95.trans (congrArg some (by kernel_rfl))⟩
  f25 := ⟨Tryz.f96.name, by decide, Tryz.func96.trans (congrArg some (by kernel_rfl))⟩
  f26 := ⟨Tryz.f97.name, by decide, Tryz.func97.trans (congrArg some (by kernel_rfl))⟩
  f27 := ⟨Tryz.f98.name, by decide, Tryz.func98.trans (congrArg some (by kernel_rfl))⟩
  f28 := Tryz.func99.trans (congrArg some (by kernel_rfl))
  f29 := Tryz.func100.trans (congrArg some (by kernel_rfl))
  f46 := ⟨Tryz.f112.name, by decide, Tryz.func112.trans (congrArg some (by kernel_rfl))⟩
  f47 := Tryz.func113.trans (congrArg some (by kernel_rfl))
  f48 := Tryz.func114.trans (congrArg some (by kernel_rfl))
  f49 := ⟨Tryz.f115.name, by decide, Tryz.func115.trans (congrArg some (by kernel_rfl))⟩
  f50 := ⟨Tryz.f116.name, by decide, Tryz.func116.trans (congrArg some (by kernel_rfl))⟩
  f57 := ⟨Tryz.f128.name, by decide, Tryz.func128.trans (congrArg some (by kernel_rfl))⟩
  t0 := Tryz.underlying0
  a0 := Tryz.isAgg0
  z0 := Tryz.sizeOf0
  v0 := Tryz.zeroValue0
  t3 := Tryz.underlying3
  a3 := Tryz.isAgg3
  z3 := Tryz.sizeOf3
  v3 := Tryz.zeroValue3
  t4 := Tryz.underlying4
  a4 := Tryz.isAgg4
  z4 := Tryz.sizeOf4
  v4 := Tryz.zeroValue4
  t5 := Tryz.underlying5
  a5 := Tryz.isAgg5
  z5 := Tryz.sizeOf5
  v5 := Tryz.zeroValue5
  t9 := Tryz.underlying9
  a9 := Tryz.isAgg9
  z9 := Tryz.sizeOf9
  v9 := Tryz.zeroValue9
  t22 := Tryz.underlying71
  a22 := Tryz.isAgg71
  z22 := Tryz.sizeOf71
  v22 := Tryz.zeroValue71
  t25 := Tryz.underlying78
  a25 := Tryz.isAgg78
  z25 := Tryz.sizeOf78
  v25 := Tryz.zeroValue78
  t39 := Tryz.underlying112
  a39 := Tryz.isAgg112
  z39 := Tryz.sizeOf112
  v39 := Tryz.zeroValue112
  t45 := Tryz.underlying117
  a45 := Tryz.isAgg117
  z45 := Tryz.sizeOf117
  v45 := Tryz.zeroValue117
  t46 := Tryz.underlying118
  a46 := Tryz.isAgg118
  z46 := Tryz.sizeOf118
  v46 := Tryz.zeroValue118
  t50 := Tryz.underlying122
  a50 := Tryz.isAgg122
  z50 := Tryz.sizeOf122
  v50 := Tryz.zeroValue122
  t53 := Tryz.underlying125
  a53 := Tryz.isAgg125
  z53 := Tryz.sizeOf125
  v53 := Tryz.zeroValue125
  t55 := Tryz.underlying127
  a55 := Tryz.isAgg127
  z55 := Tryz.sizeOf127
  v55 := Tryz.zeroValue127
  t66 := Tryz.underlying135
  a66 := Tryz.isAgg135
  z66 := Tryz.sizeOf135
  v66 := Tryz.zeroValue135
  t70 := Tryz.underlying139
  a70 := Tryz.isAgg139
  z70 := Tryz.sizeOf139
  v70 := Tryz.zeroValue139
  t76 := Tryz.underlying148
  a76 := Tryz.isAgg148
  z76 := Tryz.sizeOf148
  v76 := Tryz.zeroValue148
  t77 := Tryz.underlying149
  a77 := Tryz.isAgg149
  z77 := Tryz.sizeOf149
  v77 := Tryz.zeroValue149 }
open Go.RowKit Go.Lib Go.Sort in
theorem Tryz.sortRng {α : Type} [Inhabited α] (enc : α → List Value) (hk : ∀ x, (enc x).length = 3) (h1 : ∀ x, ∀ v ∈ enc x, v.oneCell' = true) (cf : α → α → Int) (hO : SWO (ltOf cf)) (g : Nat) (cb : Array Value) (blk off cap : Nat) (d : Array α) (w : World)
    (eg : ∀ args w, (callFunc g args).run Tryz.prog w = .ok (.enter g args) w) (hcmp : CmpLays Tryz.prog g cb enc 3 cf blk off d.size w) (hH : HoldsK enc 3 w blk off d) (hblk : blk < w.heap.size) (hsz : d.size < 4611686018427387904) :
    Calls Tryz.prog 72 #[.slice (some ⟨blk, off, none⟩) d.size cap, .func (.func g) #[] cb] w fun e w' =>
      e = .returned (.tuple #[]) ∧ ∃ d' n os, PermIn 0 d.size d d' ∧ SortedIn (ltOf cf) 0 d.size d' ∧ w' = sortWorldK enc 3 w blk off n d' os := AnyQ.slices_SortFunc Tryz.sortR 3 Tryz.isAgg44 Tryz.sizeOf44 enc hk h1 cf hO g cb blk off cap d w eg hcmp hH hblk hsz
end Go.Proofs
end
section
namespace Go.Proofs.YtldlenjfpjihdaaGreat.PS
open Go Go.RowKit Go.Proofs Go.Maps Go.Sort Go.Shelf Go.Proofs.YtldlenjfpjihdaaGreatW.PrintWords
set_option linter.unusedVariables false
set_option linter.unusedSimpArgs false
def PPzero : S37 := zP
def ltL (a b : SPl) : Prop := a.f0 < b.f0 ∨ (a.f0 = b.f0 ∧ a.f1 < b.f1)
theorem ltL_irrefl (a : SPl) : ¬ ltL a a := by unfold ltL; omega
theorem ltL_trans {a b c : SPl} (h1 : ltL a b) (h2 : ltL b c) : ltL a c := by unfold ltL at *; omega
theorem ltL_tri (a b : SPl) : ltL a b ∨ a = b ∨ ltL b a := by
  by_cases h : a.f0 = b.f0 ∧ a.f1 = b.f1
  · right; left; cases a; cases b; simp_all
  · unfold ltL; omega
theorem cmpL_lt (a b : SPl) : cmpL a b < 0 ↔ ltL a b := by
  unfold cmpL ltL
  repeat' split
  all_goals omega
def PLzero : SPl := ⟨0, 0⟩
theorem PPswo : SWO (ltOf cmpP) := by
  have e : ∀ x y, ltOf cmpP x y = true ↔ ltP x y := fun x y => by unfold ltOf; rw [decide_eq_true_iff]; exact cmpP_lt x y
  have e' : ∀ x y, ltOf cmpP x y = false ↔ ¬ ltP x y := fun x y => by rw [← e, Bool.not_eq_true]
  refine ⟨fun x => (e' x x).2 (ltP_irrefl x), fun x y z h1 h2 => (e x z).2 (ltP_trans ((e x y).1 h1) ((e y z).1 h2)), fun x y z h1 h2 => (e' x z).2 fun h => ?_⟩
  rcases ltP_tri y x with h3 | rfl | h3
  · exact (e' y z).1 h2 (ltP_trans h3 h)
  · exact (e' _ _).1 h2 h
  · exact (e' x y).1 h1 h3
instance PPinh : Inhabited S37 := ⟨PPzero⟩
set_option maxRecDepth 100000 in
theorem PPsort {base : Nat} {v : Value} {xs : List S37} {w : World} (h : OwnG enc37 3 37 w base v xs) (hl : xs.length < 4611686018427387904) :
    Calls Tryz.prog 88 #[v, .func (.func 64) #[] #[]] w fun e w' => e = .returned (.tuple #[]) ∧ ∃ ys, ys.Perm xs ∧ ys.Pairwise (fun a b => ltOf cmpP b a = false) ∧ OwnG enc37 3 37 w' base v ys ∧ Below base w w' :=
  sortG (enc := enc37) (C := 3) Tryz.sortP (fun _ => rfl) (by decide) Tryz.isAgg37 Tryz.sizeOf37 (fun x u hu => by simp only [enc37, List.mem_cons, List.not_mem_nil, or_false] at hu; rcases hu with rfl | rfl | rfl <;> rfl) cmpP PPswo 64 (enters_of Tryz.func64 (by kernel_rfl) rfl) (fun W x y => before_gr x y W) h hl
theorem OwnG_lower {α : Type} {enc : α → List Value} {C K base base' : Nat} {w : World} {v : Value} {xs : List α} (h : OwnG enc C K w base v xs) (hb : base' ≤ base) : OwnG enc C K w base' v xs := by
  rcases h with h | ⟨g, cap, cur, e, h1, h2⟩
  · exact .inl h
  · exact .inr ⟨g, cap, cur, e, Nat.le_trans hb h1, h2⟩
theorem PPstrict {ys : List S37} (hn : ys.Nodup) (hp : ys.Pairwise (fun a b => ltOf cmpP b a = false)) : ys.Pairwise ltP := by
  have h := hp.and hn
  refine h.imp ?_
  rintro a b ⟨h1, h2⟩
  have h3 : ¬ ltP b a := fun h => by have := (cmpP_lt b a).2 h; simp [ltOf, this] at h1
  rcases ltP_tri a b with h | h | h
  · exact h
  · exact absurd h h2
  · exact absurd h h3
set_option maxHeartbeats 4000000 in
/-- slices.SortedFunc(maps.Keys(m), cmp). -/
theorem PPsorted {H : Type} (m nn : Nat) (D : DataW H) {R : Value → Option (DataW H × List MemPlace)} (L : List S37) (w : World) (hown : w.ownsMap Tryz.prog 37 R m nn D) (hh : ∀ x, wfP x → (Maps.has D (pk x) = true ↔ x ∈ L)) (hL : ∀ x ∈ L, wfP x) (hmax : nn * 32 ≤ 140737488355328) :
    Calls Tryz.prog 75 #[.func (.func 89) #[] #[.pointer (some ⟨w.heap.size, 0, none⟩)], .func (.func 64) #[] #[]] (w.alloc (.cells #[.map (some m)] 59)) fun e w' => ∃ (v : Value) (r : List S37), e = .returned v ∧ r.Pairwise ltP ∧ (∀ z, z ∈ r ↔ z ∈ L) ∧ r.length ≤ nn ∧ OwnG enc37 3 37 w' w.heap.size v r ∧ Below w.heap.size w w' := by
  have hbl := hown.lt
  have hsz : Maps.size D ≤ nn := hown.size_le
  have hseq := PPgives Fence.wide 3 trivial rfl (by omega) w.heap.size m nn D (w.alloc (.cells #[.map (some m)] 59)) (by simp) (by simp) (by
      obtain ⟨es, clock, hb, Ft, hs, hD⟩ := hown
      exact ⟨es, clock, (Below.heap_alloc _ _ m hbl).trans hb, Ft, hs, hD⟩)
  have cS := (callsIn_wide (n := 5)).1 (PPcollect Fence.wide 5 trivial trivial rfl (by omega) 89 #[.pointer (some ⟨w.heap.size, 0, none⟩)] trivial (enters_of Tryz.func89 (by kernel_rfl) rfl) _ _ (by simp only [maxLen]; omega) (by omega) _ hseq)
  have HS := Aside0.mk cS
  have HH := Aside0.mk hh
  have HL := Aside0.mk hL
  clear hseq cS hh hL hown
  go_enter Tryz.func75, Tryz.ntmps75
  go_wp2_with fail
  refine HS.out.mono ?_
  rintro e w1 ⟨v, ss, rfl, ⟨hlen, hnd, hco⟩, hrow, hnil, hb1⟩
  have HO := Aside0.mk (OwnG.of_own (enc := enc37) (C := 3) (fun _ => rfl) hrow)
  have HB1 := Aside0.mk hb1
  have HN := Aside0.mk hnd
  have HC := Aside0.mk hco
  clear hrow hnil hb1 hnd hco
  have hl : ss.length < 4611686018427387904 := by omega
  go_wp2_with (go_at_call 88; refine (PPsort HO.out hl).mono ?_; rintro e w2 ⟨rfl, ys, hp, hs, ho2, hb2⟩; have HO2 := Aside0.mk ho2; have HB2 := Aside0.mk hb2; have HP := Aside0.mk hp; have HSo := Aside0.mk hs; clear ho2 hb2 hp hs)
  go_ret
  have hz : (w.alloc (.cells #[.map (some m)] 59)).heap.size = w.heap.size + 1 := by simp
  refine ⟨v, ys, rfl, PPstrict (HP.out.nodup_iff.2 HN.out) HSo.out, fun z => ?_, by rw [HP.out.length_eq]; omega, OwnG_lower HO2.out (by rw [hz]; omega), ?_⟩
  · rw [HP.out.mem_iff, HC.out z]
    constructor
    · rintro ⟨h1, h2, _⟩
      exact (HH.out z h1).1 h2
    · intro h
      exact ⟨HL.out z h, (HH.out z (HL.out z h)).2 h, trivial⟩
  · refine ((Below.refl _ w).alloc (Nat.le_refl _) (.cells #[.map (some m)] 59)).trans ?_
    have hb := Below.trans HB1.out HB2.out
    exact hb.mono (by rw [hz]; omega)
theorem PLswo : SWO (ltOf cmpL) := by
  have e : ∀ x y, ltOf cmpL x y = true ↔ ltL x y := fun x y => by unfold ltOf; rw [decide_eq_true_iff]; exact cmpL_lt x y
  have e' : ∀ x y, ltOf cmpL x y = false ↔ ¬ ltL x y := fun x y => by rw [← e, Bool.not_eq_true]
  refine ⟨fun x => (e' x x).2 (ltL_irrefl x), fun x y z h1 h2 => (e x z).2 (ltL_trans ((e x y).1 h1) ((e y z).1 h2)), fun x y z h1 h2 => (e' x z).2 fun h => ?_⟩
  rcases ltL_tri y x with h3 | rfl | h3
  · exact (e' y z).1 h2 (ltL_trans h3 h)
  · exact (e' _ _).1 h2 h
  · exact (e' x y).1 h1 h3
instance PLinh : Inhabited SPl := ⟨PLzero⟩
set_option maxRecDepth 100000 in
theorem PLsort {base : Nat} {v : Value} {xs : List SPl} {w : World} (h : OwnG encL 2 69 w base v xs) (hl : xs.length < 4611686018427387904) :
    Calls Tryz.prog 66 #[v, .func (.func 48) #[] #[]] w fun e w' => e = .returned (.tuple #[]) ∧ ∃ ys, ys.Perm xs ∧ ys.Pairwise (fun a b => ltOf cmpL b a = false) ∧ OwnG encL 2 69 w' base v ys ∧ Below base w w' :=
  sortG (enc := encL) (C := 2) Tryz.sortL (fun _ => rfl) (by decide) Tryz.isAgg69 Tryz.sizeOf69 (fun x u hu => by simp only [encL, List.mem_cons, List.not_mem_nil, or_false] at hu; rcases hu with rfl | rfl <;> rfl) cmpL PLswo 48 (enters_of Tryz.func48 (by kernel_rfl) rfl) (fun W x y => place_gr x y W) h hl
theorem PLstrict {ys : List SPl} (hn : ys.Nodup) (hp : ys.Pairwise (fun a b => ltOf cmpL b a = false)) : ys.Pairwise ltL := by
  have h := hp.and hn
  refine h.imp ?_
  rintro a b ⟨h1, h2⟩
  have h3 : ¬ ltL b a := fun h => by have := (cmpL_lt b a).2 h; simp [ltOf, this] at h1
  rcases ltL_tri a b with h | h | h
  · exact h
  · exact absurd h h2
  · exact absurd h h3
set_option maxHeartbeats 4000000 in
/-- slices.SortedFunc(maps.Keys(m), cmp). -/
theorem PLsorted {H : Type} (m nn : Nat) (D : DataW H) {R : Value → Option (DataW H × List MemPlace)} (L : List SPl) (w : World) (hown : w.ownsMap Tryz.prog 69 R m nn D) (hh : ∀ x, wfL x → (Maps.has D (lk x) = true ↔ x ∈ L)) (hL : ∀ x ∈ L, wfL x) (hmax : nn * 16 ≤ 140737488355328) :
    Calls Tryz.prog 46 #[.func (.func 67) #[] #[.pointer (some ⟨w.heap.size, 0, none⟩)], .func (.func 48) #[] #[]] (w.alloc (.cells #[.map (some m)] 67)) fun e w' => ∃ (v : Value) (r : List SPl), e = .returned v ∧ r.Pairwise ltL ∧ (∀ z, z ∈ r ↔ z ∈ L) ∧ r.length ≤ nn ∧ OwnG encL 2 69 w' w.heap.size v r ∧ Below w.heap.size w w' := by
  have hbl := hown.lt
  have hsz : Maps.size D ≤ nn := hown.size_le
  have hseq := PLgives Fence.wide 3 trivial rfl (by omega) w.heap.size m nn D (w.alloc (.cells #[.map (some m)] 67)) (by simp) (by simp) (by
      obtain ⟨es, clock, hb, Ft, hs, hD⟩ := hown
      exact ⟨es, clock, (Below.heap_alloc _ _ m hbl).trans hb, Ft, hs, hD⟩)
  have cS := (callsIn_wide (n := 5)).1 (PLcollect Fence.wide 5 trivial trivial rfl (by omega) 67 #[.pointer (some ⟨w.heap.size, 0, none⟩)] trivial (enters_of Tryz.func67 (by kernel_rfl) rfl) _ _ (by simp only [maxLen]; omega) (by omega) _ hseq)
  have HS := Aside0.mk cS
  have HH := Aside0.mk hh
  have HL := Aside0.mk hL
  clear hseq cS hh hL hown
  go_enter Tryz.func46, Tryz.ntmps46
  go_wp2_with fail
  refine HS.out.mono ?_
  rintro e w1 ⟨v, ss, rfl, ⟨hlen, hnd, hco⟩, hrow, hnil, hb1⟩
  have HO := Aside0.mk (OwnG.of_own (enc := encL) (C := 2) (fun _ => rfl) hrow)
  have HB1 := Aside0.mk hb1
  have HN := Aside0.mk hnd
  have HC := Aside0.mk hco
  clear hrow hnil hb1 hnd hco
  have hl : ss.length < 4611686018427387904 := by omega
  go_wp2_with (go_at_call 66; refine (PLsort HO.out hl).mono ?_; rintro e w2 ⟨rfl, ys, hp, hs, ho2, hb2⟩; have HO2 := Aside0.mk ho2; have HB2 := Aside0.mk hb2; have HP := Aside0.mk hp; have HSo := Aside0.mk hs; clear ho2 hb2 hp hs)
  go_ret
  have hz : (w.alloc (.cells #[.map (some m)] 67)).heap.size = w.heap.size + 1 := by simp
  refine ⟨v, ys, rfl, PLstrict (HP.out.nodup_iff.2 HN.out) HSo.out, fun z => ?_, by rw [HP.out.length_eq]; omega, OwnG_lower HO2.out (by rw [hz]; omega), ?_⟩
  · rw [HP.out.mem_iff, HC.out z]
    constructor
    · rintro ⟨h1, h2, _⟩
      exact (HH.out z h1).1 h2
    · intro h
      exact ⟨HL.out z h, (HH.out z (HL.out z h)).2 h, trivial⟩
  · refine ((Below.refl _ w).alloc (Nat.le_refl _) (.cells #[.map (some m)] 67)).trans ?_
    have hb := Below.trans HB1.out HB2.out
    exact hb.mono (by rw [hz]; omega)
end Go.Proofs.YtldlenjfpjihdaaGreat.PS
end
section
namespace Go.Proofs.YtldlenjfpjihdaaGreat.PS
open Go Go.RowKit Go.Proofs Go.Maps Go.Proofs.YtldlenjfpjihdaaGreatW.PrintWords Go.Proofs.YtldlenjfpjihdaaGreatW.PrintLast Go.Proofs.YtldlenjfpjihdaaGreatW.PrintMore
set_option linter.unusedVariables false
set_option linter.unusedSimpArgs false
set_option maxHeartbeats 4000000 in
set_option maxRecDepth 100000 in
theorem once_any (l : List S37) (A : Option Addr) (c : Nat) (w : World) (hC : Kd.C k37 w A l.length l) (hl : l.length * 32 ≤ 140737488355328) (hw : ∀ x ∈ l, wfP x) :
    Calls Tryz.prog 52 #[.slice A l.length c] w fun e w' => ∃ (v : Value) (r : List S37), e = .returned v ∧ Sorts l r ∧ OwnG enc37 3 37 w' w.heap.size v r ∧ Below w.heap.size w w' := by
  have hmm := @run_makeMap Tryz.prog
  have HC0 := Aside0.mk hC
  have HWf := Aside0.mk hw
  clear hC hw
  go_enter Tryz.func52, Tryz.ntmps52
  go_wp2
  have HP0 := Aside0.mk (PM.new w)
  have HB0 := Aside0.mk (below_alloc (Below.refl w.heap.size w) (.map #[] 0))
  go_loopg [9] l.length (fun gg s9 wr => ∃ k : Nat, s9 = .int .i64 k ∧ k ≤ l.length ∧ Aside0 (l.length - k ≤ gg) ∧ Aside0 (PM wr w.heap.size k (l.take k)) ∧ Aside0 (Below w.heap.size w wr))
  case atStart => exact ⟨0, rfl, Nat.zero_le _, ⟨by omega⟩, ⟨HP0.out⟩, ⟨HB0.out⟩⟩
  case round =>
    clear HP0 HB0
    obtain ⟨k, rfl, hk, HM, HL, HB⟩ := hrel
    by_cases hlt : k < l.length
    · have hltz : (k : Int) < (l.length : Int) := by omega
      obtain ⟨ad, ea, a0, a1, a2⟩ := at_T37 HC0.out (k : Int) (by omega) hltz
      subst ea
      obtain ⟨y, hy⟩ := ex_get hlt
      rw [rd37 hy] at a0 a1 a2
      simp only [Int.toNat_natCast] at a0 a1 a2
      replace a0 := (HB.out.cell (World.block_lt_of_cell? _ _ a0)).trans a0
      replace a1 := (HB.out.cell (World.block_lt_of_cell? _ _ a1)).trans a1
      replace a2 := (HB.out.cell (World.block_lt_of_cell? _ _ a2)).trans a2
      obtain ⟨w3, hrun, hL3, hg3⟩ := (HL.out.below (below_alloc (Below.refl _ _) (pO y))).put (by unfold maxLen; omega) (HWf.out y (List.mem_of_getElem? hy))
      rw [← take_snoc hy] at hL3
      have HL3 := Aside0.mk hL3
      have HB3 := Aside0.mk ((below_step HB.out (below_alloc (Below.refl _ _) (pO y))).grown hg3 (Nat.le_trans HB.out.size (by simp)) (fun k e => by cases e; exact Nat.le_refl _))
      unfold pv pO at hrun
      clear hy hL3 hg3
      go_wp2
      go_roundg (l.length - (k + 1))
      case measure => have := HM.out; omega
      case rel => exact ⟨k + 1, by go_num, hlt, ⟨Nat.le_refl _⟩, HL3, HB3⟩
    · obtain rfl : k = l.length := by omega
      have hltz : ¬ (l.length : Int) < (l.length : Int) := by omega
      have hL := HL.out
      rw [List.take_length] at hL
      obtain ⟨D, ho, hh⟩ := hL
      have hS := PPsorted w.heap.size l.length D l wr ho (fun x hx => by
        rw [hh x hx, List.any_eq_true]
        exact ⟨fun ⟨y, h1, h2⟩ => by rw [(eqP_iff x y).1 h2]; exact h1, fun h => ⟨x, h, (eqP_iff x x).2 rfl⟩⟩) HWf.out hl
      have HS := Aside0.mk hS
      have HK := Aside0.mk (PPkeys (some w.heap.size) wr)
      clear ho hh hS
      go_wp2_with (first | (go_at_call 76; refine HK.out.mono ?_; rintro e w4 ⟨rfl, rfl⟩) | (go_at_call 75; refine HS.out.mono ?_; rintro e w5 ⟨v, r, rfl, h1, h2, h3, h4, h5⟩; have H1 := Aside0.mk h1; have H2 := Aside0.mk h2; have H3 := Aside0.mk h3; have H4 := Aside0.mk h4; have H5 := Aside0.mk h5; clear h1 h2 h3 h4 h5))
      go_ret
      exact ⟨v, r, rfl, ⟨H1.out, H2.out, H3.out⟩, OwnG_lower H4.out HB.out.size, below_step HB.out H5.out⟩
end Go.Proofs.YtldlenjfpjihdaaGreat.PS
end
section
namespace Go.Proofs.YtldlenjfpjihdaaGreat.PS
open Go Go.RowKit Go.Proofs Go.Maps Go.WideMaps Go.ChangeMaps Go.WideElems
set_option linter.unusedVariables false
set_option linter.unusedSimpArgs false
structure KeyK (P : Program) (K : TypeId) {α : Type} (mk : α → Value) (pk : α → Lit) (wf : α → Prop) : Prop where
  keyed : Keyed P K
  key : ∀ x, wf x → keyOf P K (mk x) = some (pk x)
  inj : ∀ x y, wf x → wf y → pk x = pk y → x = y
def R0 (v : Value) : Option (DataW Value × List MemPlace) := some (.held v, [])
def MapF (P : Program) (K : TypeId) {α : Type} (pk : α → Lit) (wf : α → Prop) (w : World) (m nn : Nat) (f : α → Option Value) : Prop :=
  ∃ D : DataW Value, w.ownsMap P K R0 m nn D ∧ ∀ x, wf x → (Maps.has D (pk x) = (f x).isSome ∧ ∀ v, f x = some v → ∀ zd, D.atKey (pk x) zd = .held v)
section
variable {P : Program} {K : TypeId} {α : Type} {mk : α → Value} {pk : α → Lit} {wf : α → Prop} {w w' : World} {m nn : Nat} {f g : α → Option Value}
theorem MapF.blk (h : MapF P K pk wf w m nn f) : ∃ es clock, w.heap[m]? = some (.map es clock) := by
  obtain ⟨D, ⟨es, clock, h1, _⟩, _⟩ := h
  exact ⟨es, clock, h1⟩
theorem MapF.same (h : MapF P K pk wf w m nn f) (hm : w'.heap[m]? = w.heap[m]?) : MapF P K pk wf w' m nn f := by
  obtain ⟨D, ⟨es, clock, h1, h2⟩, h3⟩ := h
  exact ⟨D, ⟨es, clock, hm.trans h1, h2⟩, h3⟩
theorem MapF.lt (h : MapF P K pk wf w m nn f) : m < w.heap.size := by
  obtain ⟨es, clock, h1⟩ := h.blk
  exact (Array.getElem?_eq_some_iff.1 h1).1
theorem MapF.below (h : MapF P K pk wf w m nn f) (hb : Below w.heap.size w w') : MapF P K pk wf w' m nn f := h.same (hb.block m h.lt)
theorem MapF.congr (h : MapF P K pk wf w m nn f) (hf : ∀ x, wf x → g x = f x) : MapF P K pk wf w m nn g := by
  obtain ⟨D, h1, h2⟩ := h
  exact ⟨D, h1, fun x hx => by rw [hf x hx]; exact h2 x hx⟩
theorem MapF.mono (h : MapF P K pk wf w m nn f) {n' : Nat} (hn : nn ≤ n') : MapF P K pk wf w m n' f := by
  obtain ⟨D, h1, h2⟩ := h
  exact ⟨D, h1.mono hn, h2⟩
theorem MapF.new (P : Program) (K : TypeId) (pk : α → Lit) (wf : α → Prop) (w : World) : MapF P K pk wf (w.alloc (.map #[] 0)) w.heap.size 0 (fun _ => none) :=
  ⟨.map [], World.ownsMap_made w P K R0, fun x _ => ⟨rfl, fun v h => by cases h⟩⟩
theorem atKey_none {H : Type} {D : DataW H} {k : Lit} (h : Maps.has D k = false) (z : DataW H) : D.atKey k z = z := by
  cases D <;> try rfl
  rename_i es
  show (match es.find? (fun p => p.1.sameKey k) with | some p => p.2 | none => z) = z
  rw [List.find?_eq_none.2 (fun p hp => ?_)]
  intro hk
  have : es.any (fun p => p.1.sameKey k) = true := List.any_eq_true.2 ⟨p, hp, hk⟩
  rw [show Maps.has (DataW.map es) k = es.any (fun p => p.1.sameKey k) from rfl, this] at h
  cases h
theorem R0_inv {v u : Value} {ps : List MemPlace} (h : R0 v = some (.held u, ps)) : v = u := by
  unfold R0 at h
  simp at h
  exact h.1
theorem MapF_val {D : DataW Value} (hh : ∀ x, wf x → (Maps.has D (pk x) = (f x).isSome ∧ ∀ v, f x = some v → ∀ zd, D.atKey (pk x) zd = .held v)) {x : α} (hx : wf x) {v z : Value} {ps : List MemPlace} (hv : R0 v = some (D.atKey (pk x) (.held z), ps)) : v = (f x).getD z := by
  cases hf : f x with
  | none =>
    have := (hh x hx).1
    rw [hf] at this
    rw [atKey_none this] at hv
    rw [R0_inv hv]
    rfl
  | some u =>
    rw [(hh x hx).2 u hf] at hv
    rw [R0_inv hv]
    rfl
theorem MapF.look (hK : KeyK P K mk pk wf) (h : MapF P K pk wf w m nn f) {t e : TypeId} (ht : P.underlying t = some (.map K e)) {z : Value} (hz : (zeroValue e).run P w = .ok z w) {x : α} (hx : wf x) :
    (Instr.lookup t (.map (some m)) (mk x) false).run P w = .ok ((f x).getD z) w := by
  obtain ⟨D, ho, hh⟩ := h
  obtain ⟨v, ps, hrun, hv⟩ := ho.lookup hK.keyed ht hz (zd := .held z) (zp := []) rfl (hK.key x hx)
  rw [hrun, MapF_val hh hx hv]
open Classical in
theorem MapF.putD (hK : KeyK P K mk pk wf) {D : DataW Value} (ho : w.ownsMap P K R0 m nn D) (hh : ∀ x, wf x → (Maps.has D (pk x) = (f x).isSome ∧ ∀ v, f x = some v → ∀ zd, D.atKey (pk x) zd = .held v)) {x : α} (hx : wf x) (val : Value) :
    ∀ y, wf y → (Maps.has (D.put (pk x) (.held val)) (pk y) = (if y = x then some val else f y).isSome ∧ ∀ v, (if y = x then some val else f y) = some v → ∀ zd, (D.put (pk x) (.held val)).atKey (pk y) zd = .held v) := by
  intro y hy
  have hD : IsMap D := by obtain ⟨es, clock, _, _, _, rfl⟩ := ho; exact ⟨_, rfl⟩
  by_cases e : y = x
  · subst e
    rw [if_pos rfl]
    refine ⟨by rw [has_put_same hD (hK.keyed.key (hK.key y hy))]; rfl, fun v hv zd => ?_⟩
    obtain rfl := Option.some.inj hv
    exact atKey_put_same hD (hK.keyed.key (hK.key y hy)) _ _
  · rw [if_neg e]
    have hne : pk y ≠ pk x := fun h => e (hK.inj y x hy hx h)
    refine ⟨by rw [has_put_other hne]; exact (hh y hy).1, fun v hv zd => ?_⟩
    rw [atKey_put_other hne]
    exact (hh y hy).2 v hv zd
open Classical in
/-- m[k] = v. -/
theorem MapF.put (hK : KeyK P K mk pk wf) (h : MapF P K pk wf w m nn f) {t e : TypeId} (ht : P.underlying t = some (.map K e)) (hn : nn < maxLen) {x : α} (hx : wf x) (val : Value) :
    ∃ w', (Instr.mapUpdate t (.map (some m)) (mk x) val).run P w = .ok () w' ∧ MapF P K pk wf w' m (nn + 1) (fun y => if y = x then some val else f y) ∧ w.grownBy w' (some m) := by
  obtain ⟨D, ho, hh⟩ := h
  obtain ⟨w', hrun, h1, h2⟩ := ho.update hK.keyed ht hn (hK.key x hx) (d := .held val) (ps := []) rfl
  exact ⟨w', hrun, ⟨_, h1, MapF.putD hK ho hh hx val⟩, h2⟩
open Classical in
/-- m[k] = append(m[k], ..): the entry, then what is stored into it. -/
theorem MapF.entry (hK : KeyK P K mk pk wf) (hL : KeyLaw P K) (h : MapF P K pk wf w m nn f) {t e : TypeId} (ht : P.underlying t = some (.map K e)) {z : Value} (hz : ∀ u : World, (zeroValue e).run P u = .ok z u) (hn : nn < maxLen) {x : α} (hx : wf x) :
    ∃ (st : Nat) (w1 : World), (Instr.mapEntry t (.map (some m)) (mk x)).run P w = .ok (.tuple #[(f x).getD z, .int .i64 st]) w1 ∧ w.grownBy w1 (some m) ∧ w1.heap.size = w.heap.size ∧ (∃ es clock, w1.heap[m]? = some (.map es clock)) ∧
      ∀ (w2 : World) (val : Value), w2.heap[m]? = w1.heap[m]? → ∃ w3, (Instr.entryStore t (.map (some m)) (.int .i64 st) val).run P w2 = .ok () w3 ∧ MapF P K pk wf w3 m (nn + 1) (fun y => if y = x then some val else f y) ∧ w2.grownBy w3 (some m) ∧ w3.heap.size = w2.heap.size := by
  obtain ⟨D, ho, hh⟩ := h
  obtain ⟨v, ps, hlr, hv⟩ := ho.lookup hK.keyed ht (hz w) (zd := .held z) (zp := []) rfl (hK.key x hx)
  have ho2 := ho
  obtain ⟨es, clock, hb, F, hs, hD⟩ := ho2
  obtain ⟨v0, st, es1, clock1, h1, h2, h3⟩ := entry_then_store hL ht hz hb F (hK.key x hx)
  have hgr : ∀ (u : World) (es0 : Array MapEntry) (c0 : Nat) (o' : Obj), u.heap[m]? = some (.map es0 c0) → u.grownBy (setBlock u m o') (some m) := fun u es0 c0 o' hu => ⟨rfl, rfl, rfl, by simp [setBlock], fun i _ hi => heap_setBlock_other hu _ (fun e => hi (by rw [e]))⟩
  have hv0 : v0 = (f x).getD z := by
    rcases h2 with ⟨e0, he, hk, rfl⟩ | ⟨hno, rfl⟩
    · -- the entry that is there
      rcases hf : Maps.fit_look false hK.keyed ht (hz w) hb F (hK.key x hx) with ⟨hrun, hn0, _⟩ | ⟨e1, y, hm1, hk1, hrun, hR1, _, _⟩
      · exact absurd hk (hn0 e0 he)
      · have : e0 = e1 := by
          obtain ⟨_, hnd, hpw⟩ := F.stamped
          by_cases heq : e0 = e1
          · exact heq
          · exfalso
            obtain ⟨i, hi⟩ := List.getElem?_of_mem he
            obtain ⟨j, hj⟩ := List.getElem?_of_mem hm1
            have hij : i ≠ j := fun e => by subst e; rw [hi] at hj; exact heq (Option.some.inj hj)
            rw [List.Nodup, List.pairwise_map, List.pairwise_iff_getElem] at hpw
            obtain ⟨hil, hie⟩ := List.getElem?_eq_some_iff.1 hi
            obtain ⟨hjl, hje⟩ := List.getElem?_eq_some_iff.1 hj
            rcases Nat.lt_or_gt_of_ne hij with hlt | hlt
            · exact hpw i j hil hjl hlt (by rw [hie, hje, hk, hk1])
            · exact hpw j i hjl hil hlt (by rw [hie, hje, hk, hk1])
        subst this
        rw [hrun] at hlr
        have e2 : v = e0.val := by injection hlr with h _; exact h.symm
        rw [e2] at hv
        exact MapF_val hh hx hv
    · rcases Maps.fit_look false hK.keyed ht (hz w) hb F (hK.key x hx) with ⟨hrun, hn0, _⟩ | ⟨e1, y, hm1, hk1, _⟩
      · rw [hrun] at hlr
        have e2 : v = v0 := by injection hlr with h _; exact h.symm
        rw [e2] at hv
        exact MapF_val hh hx hv
      · exact absurd hk1 (hno e1 hm1)
  have hm1 : (setBlock w m (.map es1 clock1)).heap[m]? = some (.map es1 clock1) := heap_setBlock_same hb _
  refine ⟨st, setBlock w m (.map es1 clock1), by rw [← hv0]; exact h1, hgr w es clock _ hb, by simp [setBlock], ⟨_, _, hm1⟩, fun w2 val hw2 => ?_⟩
  have hb2 := hw2.trans hm1
  obtain ⟨es', clock', h4, h5⟩ := h3 w2 val hb2
  obtain ⟨w', hrun', ho', hg'⟩ := ho.update hK.keyed ht hn (hK.key x hx) (d := .held val) (ps := []) rfl
  have e : w' = setBlock w m (.map es' clock') := by rw [hrun'] at h5; injection h5
  subst e
  refine ⟨_, h4, ⟨_, ?_, MapF.putD hK ho hh hx val⟩, hgr w2 es1 clock1 _ hb2, by simp [setBlock]⟩
  obtain ⟨es2, c2, hb3, F2, hs2, hD2⟩ := ho'
  exact ⟨es2, c2, (heap_setBlock_same hb2 _).trans ((heap_setBlock_same hb _).symm.trans hb3), F2, hs2, hD2⟩
end
end Go.Proofs.YtldlenjfpjihdaaGreat.PS
end
section
namespace Go.Proofs.YtldlenjfpjihdaaGreat.PS
open Go Go.RowKit Go.Proofs Go.Maps Go.WideMaps Go.Proofs.YtldlenjfpjihdaaGreatW.PrintWords Go.Proofs.YtldlenjfpjihdaaGreatW.PrintLast Go.Proofs.YtldlenjfpjihdaaGreatW.PrintMore
set_option linter.unusedVariables false
set_option linter.unusedSimpArgs false
instance : DecidableEq SPl := fun a b => if h : a.f0 = b.f0 ∧ a.f1 = b.f1 then isTrue (by cases a; cases b; simp_all) else isFalse (fun e => h (by subst e; exact ⟨rfl, rfl⟩))
def atP (s : S46) (p : SPl) : Bool := s.f0 == p.f0 && s.f1 == p.f1
def plS (s : S46) : SPl := ⟨s.f0, s.f1⟩
theorem atP_iff (s : S46) (p : SPl) : atP s p = true ↔ plS s = p := by
  unfold atP plS
  cases p
  simp
def hasPl (L : List S46) (p : SPl) : Bool := L.any (fun s => atP s p)
def rangesAt (L : List S46) (p : SPl) : List S44 := (L.filter (fun s => atP s p)).map (·.f2)
theorem rangesAt_snoc (L : List S46) (y : S46) (p : SPl) : rangesAt (L ++ [y]) p = rangesAt L p ++ (if plS y = p then [y.f2] else []) := by
  unfold rangesAt
  rw [List.filter_append, List.map_append]
  by_cases h : plS y = p
  · simp [h, (atP_iff y p).2 h]
  · have hb : atP y p = false := by rw [← Bool.not_eq_true]; exact fun e => h ((atP_iff y p).1 e)
    simp [h, hb]
theorem hasPl_snoc (L : List S46) (y : S46) (p : SPl) : hasPl (L ++ [y]) p = (hasPl L p || decide (plS y = p)) := by
  unfold hasPl
  rw [List.any_append]
  congr 1
  rw [Bool.eq_iff_iff]
  simp [atP_iff]
theorem rangesAt_none {L : List S46} {p : SPl} (h : hasPl L p = false) : rangesAt L p = [] := by
  unfold rangesAt
  rw [List.map_eq_nil_iff, List.filter_eq_nil_iff]
  intro s hs
  have := List.any_eq_false.1 h s hs
  simpa using this
theorem rangesAt_len (L : List S46) (p : SPl) : (rangesAt L p).length ≤ L.length := by
  unfold rangesAt
  rw [List.length_map]
  exact List.length_filter_le _ _
theorem KL : KeyK Tryz.prog 69 lv lk wfL := ⟨kmapL, fun x hx => klt hx, fun x y hx hy h => lk_inj hx hy h⟩
abbrev MapL (w : World) (m nn : Nat) (f : SPl → Option Value) : Prop := MapF Tryz.prog 69 lk wfL w m nn f
theorem R_tight {w : World} {b : Nat} {ok : Nat → Prop} {v : Value} {xs : List S44} (h : Kd.R k44 44 w b ok v xs) : Kd.R k44 44 w b (fun k => some k = v.ownBlock) v xs :=
  ⟨fun k hk => hk.symm, h.2.imp_ (fun p cs hp => by rw [k44_openM hp]; exact k44_mkM _ _ _ p)⟩
theorem R_loose {w : World} {b : Nat} {ok : Nat → Prop} {v : Value} {xs : List S44} (h : Kd.R k44 44 w b ok v xs) : Kd.R k44 44 w b (fun _ => True) v xs := Kd.R_mono h (fun _ _ => trivial)
theorem info44 : (Tryz.prog.info? 44).map (fun i => (i.zero, i.size, i.bytes)) = some (some (.agg #[(.string ⟨#[]⟩), (.string ⟨#[]⟩), (.bool false)]), 3, 40) := by kernel_rfl
theorem app44 {ops : Array Oper} {rest : List Oper} {o : Oper} {a : Act} {Q : Exit → Act → World → Prop} (W : World) (hgd : o.guard = none) (s x : Operand) (ho : o.op = .call { callee := .builtin .append, args := #[s, x], argTypes := #[70, 70] })
    (b : Nat) (v : Value) (xs : List S44) (p : S44) (hs : a.eval s = v) (g : Nat) (hx : a.eval x = .slice (some ⟨g, 0, none⟩) 1 1) (hg : W.heap[g]? = some (.cells #[.string p.f0, .string p.f1, .bool p.f2] 44 (0, 0)))
    (HO : Kd.R k44 44 W b (fun _ => True) v xs) (hbase : b ≤ W.heap.size) (hl : (xs.length + 1) * 40 ≤ 140737488355328)
    (h : ∀ v1 w1, Kd.R k44 44 w1 b (fun _ => True) v1 (xs ++ [p]) → W.grownBy w1 v.ownBlock → (v1.ownBlock = v.ownBlock ∨ v1.ownBlock = some W.heap.size) → wpList Tryz.prog ops Q rest (a.put o.dst v1) w1) :
    wpList Tryz.prog ops Q (o :: rest) a W := by
  obtain ⟨i0, hi, hz0, hz1, hz2⟩ := info_parts info44
  obtain ⟨h0, inner, hown, hr⟩ := HO
  have hown' : W.ownsRow b 44 3 v xs.length inner := hown
  refine wpList_append_own_at W hgd s x 70 ho b 44 i0 _ 3 40 Tryz.underlying70 hi hz0 hz1 hz2 rfl (by decide) v xs.length inner hs hown' ⟨g, 0, none⟩ 1 1 [.string p.f0, .string p.f1, .bool p.f2] hx rfl (World.news_of_block hg) (by intro u hu; simp at hu; rcases hu with rfl | rfl | rfl <;> rfl) (by unfold maxLen; omega) hl hbase ?_
  intro v1 w1 hown1 hg1 hnil hat
  exact h v1 w1 (Kd.R_appended h0 hr (k44_mkM W b (fun _ => False) p) (fun k hk => hk.elim) (fun _ _ => trivial) hown1 hg1 (by rcases hat with h | h; exact .inl h; exact .inr ⟨_, h, Nat.le_refl _⟩)) hg1 hat
structure GM (b m : Nat) (w : World) (nn : Nat) (L : List S46) (vf : SPl → Value) : Prop where
  mp : MapL w m nn (fun p => if hasPl L p = true then some (vf p) else none)
  row : ∀ p, Kd.R k44 44 w b (fun k => some k = (vf p).ownBlock) (vf p) (rangesAt L p)
  nil : ∀ p, hasPl L p = false → vf p = .slice none 0 0
  apart : ∀ p q, p ≠ q → ∀ k, (vf p).ownBlock = some k → (vf q).ownBlock ≠ some k
theorem GM.below {b m nn : Nat} {w w' : World} {L : List S46} {vf : SPl → Value} (h : GM b m w nn L vf) (hb : Below w.heap.size w w') : GM b m w' nn L vf :=
  ⟨h.mp.below hb, fun p => Kd.R_below (h.row p) hb, h.nil, h.apart⟩
theorem GM.new (w : World) (b : Nat) : GM b w.heap.size (w.alloc (.map #[] 0)) 0 [] (fun _ => .slice none 0 0) :=
  ⟨(MapF.new Tryz.prog 69 lk wfL w).congr (fun x _ => rfl), fun p => Kd.R_nil _ _ _ _ _, fun p _ => rfl, fun p q _ k hk => by simp [Value.ownBlock] at hk⟩
theorem row_ne_map {b m : Nat} {w : World} {ok : Nat → Prop} {v : Value} {xs : List S44} (h : Kd.R k44 44 w b ok v xs) (hm : ∃ es clock, w.heap[m]? = some (.map es clock)) : v.ownBlock ≠ some m := by
  intro e
  obtain ⟨cells, hc⟩ := Kd.R_typed h m e
  obtain ⟨es, clock, hm⟩ := hm
  rw [hm] at hc
  cases hc
def upd (vf : SPl → Value) (p : SPl) (v : Value) : SPl → Value := fun q => if q = p then v else vf q
theorem GM.step {b m nn : Nat} {W : World} {L : List S46} {vf : SPl → Value} (h : GM b m W nn L vf) (hn : nn < maxLen) {y : S46} (hy : wfL (plS y)) :
    ∃ (st : Nat) (w1 : World), (Instr.mapEntry 67 (.map (some m)) (lv (plS y))).run Tryz.prog W = .ok (.tuple #[vf (plS y), .int .i64 st]) w1 ∧ W.grownBy w1 (some m) ∧ w1.heap.size = W.heap.size ∧ Kd.R k44 44 w1 b (fun _ => True) (vf (plS y)) (rangesAt L (plS y)) ∧
      ∀ (v' : Value) (w2 : World), Kd.R k44 44 w2 b (fun _ => True) v' (rangesAt L (plS y) ++ [y.f2]) → w1.grownBy w2 (vf (plS y)).ownBlock → (v'.ownBlock = (vf (plS y)).ownBlock ∨ v'.ownBlock = some w1.heap.size) →
        ∃ w3, (Instr.entryStore 67 (.map (some m)) (.int .i64 st) v').run Tryz.prog w2 = .ok () w3 ∧ GM b m w3 (nn + 1) (L ++ [y]) (upd vf (plS y) v') ∧ w2.grownBy w3 (some m) ∧ w3.heap.size = w2.heap.size := by
  obtain ⟨st, w1, h1, h2, h3, hm1, h4⟩ := MapF.entry KL law69 h.mp Tryz.underlying67 (z := .slice none 0 0) (fun u => Tryz.zeroValue70 u) hn hy
  have hv : ((if hasPl L (plS y) = true then some (vf (plS y)) else none).getD (.slice none 0 0)) = vf (plS y) := by
    cases hh : hasPl L (plS y) with
    | true => rfl
    | false => rw [h.nil _ hh]; rfl
  rw [hv] at h1
  have hmb := h.mp.blk
  have hml := h.mp.lt
  have hrow1 : ∀ p, Kd.R k44 44 w1 b (fun k => some k = (vf p).ownBlock) (vf p) (rangesAt L p) := fun p => Kd.R_grown (h.row p) h2 (fun k hk e => row_ne_map (h.row p) hmb (by rw [← hk, e]))
  refine ⟨st, w1, h1, h2, h3, R_loose (hrow1 _), fun v' w2 hv' hg hat => ?_⟩
  have hm2 : w2.heap[m]? = w1.heap[m]? := hg.block m (by omega) (fun e => row_ne_map (h.row (plS y)) hmb e.symm)
  obtain ⟨w3, h5, h6, h7, h8⟩ := h4 w2 v' hm2
  refine ⟨w3, h5, ⟨h6.congr (fun p hp => ?_), fun p => ?_, fun p hp => ?_, ?_⟩, h7, h8⟩
  · rw [hasPl_snoc]
    unfold upd
    by_cases e : p = plS y
    · subst e; simp
    · rw [if_neg e, if_neg e]
      have : decide (plS y = p) = false := decide_eq_false (fun h => e h.symm)
      rw [this, Bool.or_false]
  · have hmb2 : ∃ es clock, w2.heap[m]? = some (.map es clock) := by
      obtain ⟨a, c, e1⟩ := hm1
      exact ⟨a, c, hm2.trans e1⟩
    unfold upd
    rw [rangesAt_snoc]
    by_cases e : p = plS y
    · subst e
      rw [if_pos rfl, if_pos rfl]
      exact Kd.R_grown (R_tight hv') h7 (fun k hk e => row_ne_map hv' hmb2 (by rw [← hk, e]))
    · rw [if_neg e, if_neg (fun h => e h.symm), List.append_nil]
      have hr2 : Kd.R k44 44 w2 b (fun k => some k = (vf p).ownBlock) (vf p) (rangesAt L p) := Kd.R_grown (hrow1 p) hg (fun k hk e2 => h.apart p (plS y) e k hk.symm (by rw [← e2]))
      exact Kd.R_grown hr2 h7 (fun k hk e2 => row_ne_map hr2 hmb2 (by rw [← hk, e2]))
  · rw [hasPl_snoc] at hp
    rw [Bool.or_eq_false_iff] at hp
    unfold upd
    rw [if_neg (fun e => by have := hp.2; rw [e] at this; simp at this)]
    exact h.nil p hp.1
  · intro p q hpq k
    unfold upd
    by_cases e : p = plS y
    · subst e
      rw [if_pos rfl, if_neg (fun e => hpq e.symm)]
      intro hk
      rcases hat with ha | ha
      · exact h.apart _ q hpq k (by rw [← ha]; exact hk)
      · rw [ha] at hk
        intro hq
        have := Kd.R_lt (h.row q) k hq
        have : w1.heap.size = k := Option.some.inj hk
        omega
    · rw [if_neg e]
      intro hk
      by_cases e2 : q = plS y
      · subst e2
        rw [if_pos rfl]
        rcases hat with ha | ha
        · rw [ha]; exact h.apart p _ hpq k hk
        · rw [ha]
          intro hq
          have := Kd.R_lt (h.row p) k hk
          have : w1.heap.size = k := Option.some.inj hq
          omega
      · rw [if_neg e2]
        exact h.apart p q hpq k hk
end Go.Proofs.YtldlenjfpjihdaaGreat.PS
end
section
namespace Go.Proofs.YtldlenjfpjihdaaGreat.PA
open Go.Proofs.YtldlenjfpjihdaaGreat.PS hiding below_step bs bless_eq
open Go.RowKit Go.Proofs Go.Proofs.YtldlenjfpjihdaaGreatW.PrintWords Go.Proofs.YtldlenjfpjihdaaGreatW.PrintLast Go.Proofs.YtldlenjfpjihdaaGreatW.PrintMore
attribute [local go_sem] Go.Lib.run_max_strs Go.Lib.run_min_strs
set_option linter.unusedVariables false
set_option linter.unusedSimpArgs false
def enc44 (x : S44) : List Value := [.string x.f0, .string x.f1, .bool x.f2]
def Row3 (w : World) (g : Nat) (xs : List S44) : Prop := ∀ (i : Nat) (x : S44), xs[i]? = some x → ∀ (j : Nat) (u : Value), (enc44 x)[j]? = some u → w.cell? ⟨g, i * 3 + j, none⟩ = some u ∧ w.frozen? ⟨g, i * 3 + j, none⟩ = false
theorem Row3.at0 {w : World} {g : Nat} {xs : List S44} (h : Row3 w g xs) {i : Nat} {x : S44} (hi : xs[i]? = some x) : w.cell? ⟨g, i * 3, none⟩ = some (.string x.f0) ∧ w.cell? ⟨g, i * 3 + 1, none⟩ = some (.string x.f1) ∧ w.cell? ⟨g, i * 3 + 2, none⟩ = some (.bool x.f2) ∧
  w.frozen? ⟨g, i * 3, none⟩ = false ∧ w.frozen? ⟨g, i * 3 + 1, none⟩ = false ∧ w.frozen? ⟨g, i * 3 + 2, none⟩ = false :=
 ⟨(h i x hi 0 _ rfl).1, (h i x hi 1 _ rfl).1, (h i x hi 2 _ rfl).1, (h i x hi 0 _ rfl).2, (h i x hi 1 _ rfl).2, (h i x hi 2 _ rfl).2⟩
theorem Row3.same {w w' : World} {g : Nat} {xs : List S44} (h : Row3 w g xs) (e : w'.heap[g]? = w.heap[g]?) : Row3 w' g xs := by
 intro i x hi j u hu
 have := h i x hi j u hu
 simpa [World.cell?, World.frozen?, e] using this
theorem Row3.below {w w' : World} {g : Nat} {xs : List S44} (h : Row3 w g xs) (hg : g < w.heap.size) (hb : Below w.heap.size w w') : Row3 w' g xs := h.same (hb.block g hg)
theorem Row3.lt {w : World} {g : Nat} {xs : List S44} (h : Row3 w g xs) (hn : 0 < xs.length) : g < w.heap.size := by
 have := (h 0 _ (List.getElem?_eq_getElem hn) 0 _ rfl).1
 exact World.block_lt_of_cell? w _ this
theorem Row3.take {w : World} {g : Nat} {xs : List S44} (h : Row3 w g xs) (n : Nat) : Row3 w g (xs.take n) := by
 intro i x hi
 refine h i x ?_
 rw [List.getElem?_take] at hi
 split at hi
 ·exact hi
 ·cases hi
theorem Row3.C {w : World} {g : Nat} {xs : List S44} (h : Row3 w g xs) (hl : xs.length ≤ 9223372036854775807) : Kd.C k44 w (some ⟨g, 0, none⟩) xs.length xs := by
 refine ⟨rfl, hl, fun _ => ⟨_, rfl, fun j p hp => ⟨enc44 p, rfl, k44_mk w p, fun i u hu => ?_⟩⟩⟩
 have := (h j p hp i u hu).1
 rw [add_plain]
 exact this
theorem idxf_rng (p : S44 → Bool) (g : Nat) (lb : Array Value) (eg : ∀ args w, (callFunc g args).run Tryz.prog w = .ok (.enter g args) w) (A : Option Addr) (xs : List S44) (c : Nat) (w : World) (hC : Kd.C k44 w A xs.length xs)
  (hp : ∀ (W : World) (x : S44), Below w.heap.size w W → Calls Tryz.prog g (#[.agg (enc44 x).toArray] ++ lb) W fun e w' => e = .returned (.bool (p x)) ∧ Below w.heap.size w w') :
  Calls Tryz.prog 77 #[.slice A xs.length c, .func (.func g) #[] lb] w fun e w' => e = .returned (.int .i64 (idxF p xs)) ∧ Below w.heap.size w w' := by
 have HC := Aside0.mk hC
 have hmax : xs.length ≤ 9223372036854775807 := hC.2.1
 clear hC
 go_enter Tryz.func77, Tryz.ntmps77
 go_wp2
 go_loopg [5, 8] xs.length (fun gg _ s8 wr => ∃ kk : Nat, s8 = .int .i64 kk ∧ Aside0 (kk ≤ xs.length) ∧ Aside0 (xs.length - kk ≤ gg) ∧ Aside0 (Below w.heap.size w wr) ∧ Aside0 (∀ x ∈ xs.take kk, p x = false))
 case atStart => exact ⟨0, rfl, ⟨Nat.zero_le _⟩, ⟨by omega⟩, ⟨Below.refl _ w⟩, ⟨fun x hx => by simp at hx⟩⟩
 case round =>
  obtain ⟨kk, rfl, HK, HM, HB, HN⟩ := hrel
  have hkk := HK.out
  by_cases hlt : kk < xs.length
  ·have hltz : (kk : Int) < (xs.length : Int) := by omega
   obtain ⟨ad, e, hx0, hx1, hx2⟩ := at_T44 HC.out (kk : Int) (by omega) hltz
   subst e
   simp only [Int.toNat_natCast] at hx0 hx1 hx2
   replace hx0 := (HB.out.cell (World.block_lt_of_cell? w _ hx0)).trans hx0
   replace hx1 := (HB.out.cell (World.block_lt_of_cell? w _ hx1)).trans hx1
   replace hx2 := (HB.out.cell (World.block_lt_of_cell? w _ hx2)).trans hx2
   have hy : xs[kk]? = some (rd_T44 xs (kk : Int)) := by unfold rd_T44; simp [List.getD, List.getElem?_eq_getElem hlt]
   generalize rd_T44 xs (kk : Int) = y at hx0 hx1 hx2 hy
   have HY := Aside0.mk hy
   have hcall := hp wr y HB.out
   unfold enc44 at hcall
   clear hy hp
   cases hq : p y with
   | true =>
    rw [hq] at hcall
    go_wp2_with (go_at_fn g; refine hcall.mono ?_; rintro e w' ⟨rfl, hb'⟩)
    go_ret
    exact ⟨by rw [any_take HY.out HN.out hq]; rfl, hb'⟩
   | false =>
    rw [hq] at hcall
    go_wp2_with (go_at_fn g; refine hcall.mono ?_; rintro e w' ⟨rfl, hb'⟩)
    go_roundg (xs.length - (kk + 1))
    case measure => have := HM.out; omega
    case rel => exact ⟨kk + 1, by go_num, ⟨by omega⟩, ⟨Nat.le_refl _⟩, ⟨hb'⟩, ⟨take_step HY.out HN.out hq⟩⟩
  ·obtain rfl : kk = xs.length := by omega
   have hltz : ¬ (xs.length : Int) < (xs.length : Int) := by omega
   go_wp2
   go_ret
   exact ⟨by rw [any_none HN.out]; rfl, HB.out⟩
theorem idxF_cases {α : Type} (p : α → Bool) (xs : List α) : (idxF p xs = -1 ∧ ∀ x ∈ xs, p x = false) ∨ ∃ k : Nat, k < xs.length ∧ idxF p xs = (k : Int) ∧ (∀ x ∈ xs.take k, p x = false) ∧ ∃ y, xs[k]? = some y ∧ p y = true := by
 unfold idxF
 cases h : xs.any p with
 | false =>
  left
  refine ⟨if_neg (by decide), fun x hx => ?_⟩
  have := List.any_eq_false.1 h x hx
  simpa using this
 | true =>
  right
  have hlt : xs.findIdx p < xs.length := List.findIdx_lt_length.2 (by simpa using h)
  refine ⟨xs.findIdx p, hlt, if_pos rfl, fun x hx => ?_, xs[xs.findIdx p], List.getElem?_eq_getElem hlt, List.findIdx_getElem⟩
  obtain ⟨j, hj, rfl⟩ := List.mem_take_iff_getElem.1 hx
  have := List.not_of_lt_findIdx (p := p) (xs := xs) (i := j) (by omega)
  simpa using this
structure Kept3 (p : S44 → Bool) (xs L : List S44) (i j : Nat) : Prop where
 len : L.length = xs.length
 lt : i < j
 le : j ≤ xs.length
 low : L.take i = (xs.take j).filter fun x => !p x
 high : ∀ k, j ≤ k → L[k]? = xs[k]?
theorem Kept3.start {p : S44 → Bool} {xs : List S44} {k : Nat} {y : S44} (hk : k < xs.length) (h : ∀ x ∈ xs.take k, p x = false) (hy : xs[k]? = some y) (hp : p y = true) : Kept3 p xs xs k (k + 1) := by
 refine ⟨rfl, Nat.lt_succ_self _, hk, ?_, fun _ _ => rfl⟩
 rw [List.take_add_one, hy, List.filter_append, List.filter_eq_self.2 (fun x hx => by rw [h x hx]; rfl)]
 simp [hp]
theorem Kept3.skip {p : S44 → Bool} {xs L : List S44} {i j : Nat} {y : S44} (h : Kept3 p xs L i j) (hy : xs[j]? = some y) (hp : p y = true) : Kept3 p xs L i (j + 1) := by
 have hj := (List.getElem?_eq_some_iff.1 hy).1
 refine ⟨h.len, Nat.lt_succ_of_lt h.lt, hj, ?_, fun k hk => h.high k (by omega)⟩
 rw [List.take_add_one, hy, List.filter_append, h.low]
 simp [hp]
theorem Kept3.keep {p : S44 → Bool} {xs L : List S44} {i j : Nat} {y : S44} (h : Kept3 p xs L i j) (hy : xs[j]? = some y) (hp : p y = false) : Kept3 p xs (L.set i y) (i + 1) (j + 1) := by
 have hj := (List.getElem?_eq_some_iff.1 hy).1
 have hlen := h.len
 have hlt := h.lt
 refine ⟨by rw [List.length_set]; exact h.len, by omega, hj, ?_, fun k hk => ?_⟩
 ·rw [List.take_add_one, List.getElem?_set_self (by omega), List.take_set_of_le (Nat.le_refl _), h.low, List.take_add_one, hy, List.filter_append]
  simp [hp]
 ·rw [List.getElem?_set_ne (by omega)]; exact h.high k (by omega)
theorem Row3.set {w : World} {g : Nat} {xs : List S44} (h : Row3 w g xs) (i : Nat) (hi : i < xs.length) (y : S44) : Row3 (w.setCells g (i * 3) (enc44 y)) g (xs.set i y) := by
 intro k x hk j u hu
 have hj : j < 3 := by have := (List.getElem?_eq_some_iff.1 hu).1; simpa [enc44] using this
 rw [World.frozen?_setCells]
 by_cases e : i = k
 ·subst e
  rw [List.getElem?_set_self hi, Option.some.injEq] at hk
  subst hk
  have hin := World.cell?_setCells_in g (enc44 y) (i * 3) w (fun t ht => by
   have ht3 : t < 3 := by simpa [enc44] using ht
   have := (h i _ (List.getElem?_eq_getElem hi) t ((enc44 xs[i])[t]'(by simpa [enc44] using ht3)) (List.getElem?_eq_getElem _)).1
   rw [this]; rfl) j (by simpa [enc44] using hj)
  refine ⟨?_, (h i _ (List.getElem?_eq_getElem hi) j ((enc44 xs[i])[j]'(by simpa [enc44] using hj)) (List.getElem?_eq_getElem _)).2⟩
  rw [hin]
  have := (List.getElem?_eq_some_iff.1 hu).2
  rw [← this]
 ·rw [List.getElem?_set_ne e] at hk
  rw [World.cell?_setCells_out g _ _ _ _ (fun _ _ => by simp [enc44]; omega)]
  exact h k x hk j u hu
theorem Row3.cut {w : World} {g : Nat} {xs : List S44} (h : Row3 w g xs) (i : Nat) (vs : List Value) : Row3 (w.setCells g (i * 3) vs) g (xs.take i) := by
 intro k x hk j u hu
 have hj : j < 3 := by have := (List.getElem?_eq_some_iff.1 hu).1; simpa [enc44] using this
 rw [List.getElem?_take] at hk
 split at hk
 ·rw [World.frozen?_setCells, World.cell?_setCells_out g _ _ _ _ (fun _ _ => by left; show k * 3 + j < i * 3; omega)]
  exact h k x hk j u hu
 ·cases hk
theorem below_sets {B g : Nat} {w0 w : World} (hg : B ≤ g) (vs : List Value) (o : Nat) (h : Below B w0 w) : Below B w0 (w.setCells g o vs) := by
 obtain ⟨s1, s2, s3, s4⟩ := setCells_same g vs o w
 exact ⟨s1.trans h.os, s2.trans h.tape, s3.trans h.output, by rw [s4]; exact h.size, fun i hi => (setCells_far vs o i (by omega)).trans (h.block i hi)⟩
theorem run_clear3 (w : World) (b i n c : Nat) (L : List S44) (hR : Row3 w b L) (hn : 0 < n) (hL : i + n = L.length) : ∃ vs : List Value, ∀ ty, (Builtin.clear_ #[70] ty #[.slice (some ⟨b, i * 3, none⟩) n c]).run Tryz.prog w = .ok (.tuple #[]) (w.setCells b (i * 3) vs) := by
 have hv := Tryz.zeroValue44
 generalize hz : (Builtin.zeroCells (#[.string (⟨#[]⟩ : ByteArray), .string (⟨#[]⟩ : ByteArray), .bool false] : Array Value) n).toList = vs
 have hlen : vs.length = n * 3 := by rw [← hz]; simp [Builtin.zeroCells]
 have hone : ∀ v ∈ vs, v.oneCell' = true := by
  intro v hv'
  rw [← hz] at hv'
  simp only [Builtin.zeroCells, Array.toList_map, Array.toList_range, List.mem_map] at hv'
  obtain ⟨j, _, rfl⟩ := hv'
  have h3 : j % 3 = 0 ∨ j % 3 = 1 ∨ j % 3 = 2 := by omega
  show (#[Value.string (⟨#[]⟩ : ByteArray), .string (⟨#[]⟩ : ByteArray), .bool false][j % 3]!).oneCell' = true
  rcases h3 with e | e | e <;> rw [e] <;> rfl
 have hcell : ∀ j, j < vs.length → (w.cell? ⟨b, i * 3 + j, none⟩).isSome = true ∧ w.frozen? ⟨b, i * 3 + j, none⟩ = false := by
  intro j hj
  rw [hlen] at hj
  have hk : i + j / 3 < L.length := by omega
  have hj3 : j % 3 < (enc44 L[i + j / 3]).length := by show j % 3 < 3; omega
  have := hR (i + j / 3) _ (List.getElem?_eq_getElem hk) (j % 3) _ (List.getElem?_eq_getElem hj3)
  rw [show (i + j / 3) * 3 + j % 3 = i * 3 + j by omega] at this
  exact ⟨by rw [this.1]; rfl, this.2⟩
 have hst := run_storeCells_cells (P := Tryz.prog) b (i * 3) vs 0 w (fun j hj => by simpa using (hcell j hj).1) (fun j hj => by simpa using (hcell j hj).2) hone
 simp only [Nat.add_zero] at hst
 refine ⟨vs, fun ty => ?_⟩
 obtain ⟨m, rfl⟩ : ∃ m, n = m + 1 := ⟨n - 1, by omega⟩
 simp [Builtin.clear_, run_underlying Tryz.underlying70, hv, hz, hst, Value.cells]
set_option maxHeartbeats 4000000 in
set_option maxRecDepth 100000 in
theorem delf_rng (p : S44 → Bool) (g : Nat) (lb : Array Value) (eg : ∀ args w, (callFunc g args).run Tryz.prog w = .ok (.enter g args) w) (w0 : World) (gb cap : Nat) (xs : List S44) (w : World) (hR : Row3 w gb xs) (hl : xs.length ≤ 4611686018427387904) (hcap : xs.length ≤ cap) (h0 : w0.heap.size ≤ gb) (hB : Below w0.heap.size w0 w)
  (hp : ∀ (W : World) (x : S44), Calls Tryz.prog g (#[.agg (enc44 x).toArray] ++ lb) W fun e w' => e = .returned (.bool (p x)) ∧ Below W.heap.size W w') :
  Calls Tryz.prog 69 #[.slice (some ⟨gb, 0, none⟩) xs.length cap, .func (.func g) #[] lb] w fun e w' => e = .returned (.slice (some ⟨gb, 0, none⟩) (xs.filter fun x => !p x).length cap) ∧ Row3 w' gb (xs.filter fun x => !p x) ∧ Below w0.heap.size w0 w' ∧ w.heap.size ≤ w'.heap.size := by
 have hidx := idxf_rng p g lb eg (some ⟨gb, 0, none⟩) xs cap w (hR.C (by omega)) (fun W x hb => (hp W x).mono fun e w' h => ⟨h.1, Below.trans hb (h.2.mono hb.size)⟩)
 rcases idxF_cases p xs with ⟨e1, hall⟩ | ⟨k0, hk0, e1, hall, y0, hy0, hpy⟩
 ·rw [e1] at hidx
  have hf : (xs.filter fun x => !p x) = xs := List.filter_eq_self.2 fun x hx => by rw [hall x hx]; rfl
  rw [hf]
  have HR := Aside0.mk hR
  have HB := Aside0.mk hB
  clear hR hB hp hf hall
  go_enter Tryz.func69, Tryz.ntmps69
  go_wp2_with (go_at_call 77; refine hidx.mono ?_; rintro e w' ⟨rfl, hb'⟩)
  go_ret
  refine ⟨rfl, ?_, below_step HB.out hb', hb'.size⟩
  intro i x hi
  exact Row3.below HR.out (HR.out.lt (by have := (List.getElem?_eq_some_iff.1 hi).1; omega)) hb' i x hi
 ·rw [e1] at hidx
  have hlow : (k0 : Int) ≠ -1 := by omega
  have HR := Aside0.mk hR
  have HB := Aside0.mk hB
  have HP := Aside0.mk hp
  have HK := Aside0.mk (Kept3.start hk0 hall hy0 hpy)
  clear hR hB hp hall hy0 hpy
  go_enter Tryz.func69, Tryz.ntmps69
  go_wp2_with (go_at_call 77; refine hidx.mono ?_; rintro e w1 ⟨rfl, hb1⟩)
  have hgb := HR.out.lt (by omega)
  have HR1 := Aside0.mk (HR.out.below hgb hb1)
  have HB1 := Aside0.mk (below_step HB.out hb1)
  have HZ := Aside0.mk hb1.size
  have HG := Aside0.mk hgb
  clear hb1 hgb
  go_loopg [5, 6, 7] xs.length (fun gg s5 s6 _ wr => ∃ (i j : Nat) (L : List S44), s5 = .int .i64 i ∧ s6 = .int .i64 j ∧ Aside0 (Kept3 p xs L i j) ∧ Aside0 (xs.length - j ≤ gg) ∧ Aside0 (Row3 wr gb L) ∧ Aside0 (Below w0.heap.size w0 wr) ∧ Aside0 (w.heap.size ≤ wr.heap.size))
  case atStart => exact ⟨k0, k0 + 1, xs, rfl, by go_num, ⟨HK.out⟩, ⟨by omega⟩, ⟨HR1.out⟩, ⟨HB1.out⟩, ⟨HZ.out⟩⟩
  case round =>
   obtain ⟨i, j, L, rfl, rfl, HKk, HM, HRr, HBr, HZr⟩ := hrel
   have hlen := HKk.out.len
   have hij := HKk.out.lt
   have hjn := HKk.out.le
   by_cases hlt : j < xs.length
   ·have hltz : (j : Int) < (xs.length : Int) := by omega
    obtain ⟨y, hy⟩ : ∃ y, xs[j]? = some y := ⟨_, List.getElem?_eq_getElem hlt⟩
    have hyL : L[j]? = some y := by rw [HKk.out.high j (Nat.le_refl _)]; exact hy
    obtain ⟨cx0, cx1, cx2, fx0, fx1, fx2⟩ := HRr.out.at0 hyL
    have hcall : ∀ W, Calls Tryz.prog g (#[.agg #[.string y.f0, .string y.f1, .bool y.f2]] ++ lb) W fun e w' => e = .returned (.bool (p y)) ∧ Below W.heap.size W w' := fun W => HP.out W y
    cases hq : p y with
    | true =>
     rw [hq] at hcall
     go_wp2_with (go_at_fn g; refine (hcall _).mono ?_; rintro e w' ⟨rfl, hb'⟩)
     have hgr : gb < wr.heap.size := by have := HG.out; have := HZr.out; omega
     have hbA : Below wr.heap.size wr w' := below_step (below_alloc (Below.refl _ wr) _) hb'
     go_roundg (xs.length - (j + 1))
     case measure => have := HM.out; omega
     case rel => exact ⟨i, j + 1, L, rfl, by go_num, ⟨HKk.out.skip hy hq⟩, ⟨Nat.le_refl _⟩, ⟨HRr.out.below hgr hbA⟩, ⟨below_step HBr.out hbA⟩, ⟨Nat.le_trans HZr.out hbA.size⟩⟩
    | false =>
     rw [hq] at hcall
     have hgr : gb < wr.heap.size := by have := HG.out; have := HZr.out; omega
     have hiL : i < L.length := by omega
     have hltI : (i : Int) < (xs.length : Int) := by omega
     go_wp2_with (go_at_fn g; refine (hcall _).mono ?_; rintro e w' ⟨rfl, hb'⟩; have hbA : Below wr.heap.size wr w' := below_step (below_alloc (Below.refl _ wr) _) hb'; have HRn := Aside0.mk (HRr.out.below hgr hbA); obtain ⟨dx0, dx1, dx2, gx0, gx1, gx2⟩ := HRn.out.at0 (List.getElem?_eq_getElem hiL); have vx0 := (hb'.cell (p := ⟨wr.heap.size, 0, none⟩) (by simp)).trans (show _ = some _ by simp; rfl); have vx1 := (hb'.cell (p := ⟨wr.heap.size, 1, none⟩) (by simp)).trans (show _ = some _ by simp; rfl); have vx2 := (hb'.cell (p := ⟨wr.heap.size, 2, none⟩) (by simp)).trans (show _ = some _ by simp; rfl))
     have hRs := HRn.out.set i hiL y
     have hws : (((w'.setCell ⟨gb, i * 3, none⟩ (.string y.f0)).setCell ⟨gb, i * 3 + 1, none⟩ (.string y.f1)).setCell ⟨gb, i * 3 + 2, none⟩ (.bool y.f2)) = w'.setCells gb (i * 3) (enc44 y) := rfl
     rw [hws]
     have hbS := below_sets h0 (enc44 y) (i * 3) (below_step HBr.out hbA)
     have hzS : (w'.setCells gb (i * 3) (enc44 y)).heap.size = w'.heap.size := (setCells_same gb (enc44 y) (i * 3) w').2.2.2
     go_roundg (xs.length - (j + 1))
     case measure => have := HM.out; omega
     case rel => exact ⟨i + 1, j + 1, L.set i y, by go_num, by go_num, ⟨HKk.out.keep hy hq⟩, ⟨Nat.le_refl _⟩, ⟨hRs⟩, ⟨hbS⟩, ⟨by rw [hzS]; exact Nat.le_trans HZr.out hbA.size⟩⟩
   ·obtain rfl : j = xs.length := by omega
    have hltz : ¬ (xs.length : Int) < (xs.length : Int) := by omega
    obtain ⟨vs, hcl⟩ := run_clear3 wr gb i (xs.length - i) (cap - i) L HRr.out (by omega) (by omega)
    have hlow2 := HKk.out.low
    rw [List.take_of_length_le (Nat.le_refl _)] at hlow2
    have hfl : (xs.filter fun x => !p x).length = i := by rw [← hlow2, List.length_take]; omega
    have HL := Aside0.mk hlow2
    have HF := Aside0.mk hfl
    clear hlow2 hfl
    go_wp2
    go_ret
    rw [HF.out, ← HL.out]
    refine ⟨rfl, HRr.out.cut i vs, below_sets h0 vs (i * 3) HBr.out, ?_⟩
    rw [(setCells_same gb vs (i * 3) wr).2.2.2]
    exact HZr.out
theorem info44U : (Tryz.prog.info? 44).map (fun i => (i.zero, i.size, i.bytes)) = some (some (.agg #[(.string ⟨#[]⟩), (.string ⟨#[]⟩), (.bool false)]), 3, 40) := by kernel_rfl
theorem own3_parts {w : World} {base g n cap : Nat} {xs : List S44} (h : Kd.R k44 44 w base (fun _ => True) (.slice (some ⟨g, 0, none⟩) n cap) xs) : n = xs.length ∧ base ≤ g ∧ xs.length ≤ cap ∧ cap ≤ maxLen ∧ Row3 w g xs ∧ ∃ cur, w.heap[g]? = some (.cells cur 44 (0, 0)) ∧ cur.size = cap * 3 := by
 obtain ⟨_, inner, ⟨hlen, hor⟩, hreps⟩ := h
 replace hreps : Reps _ 3 xs inner := hreps
 rcases hor with ⟨e, _⟩ | ⟨g', cap', cur, e, hg, hh, hnc, hcm, hsz, htk⟩
 ·simp at e
 ·replace hsz : cur.size = cap' * 3 := hsz
  replace htk : cur.toList.take (xs.length * 3) = inner := htk
  simp only [Value.slice.injEq, Option.some.injEq, Addr.mk.injEq, and_true, true_and] at e
  obtain ⟨rfl, rfl, rfl⟩ := e
  refine ⟨rfl, hg, hnc, hcm, ?_, cur, hh, hsz⟩
  intro i x hx j u hu
  have hi := (List.getElem?_eq_some_iff.1 hx).1
  have hj : j < 3 := by have := (List.getElem?_eq_some_iff.1 hu).1; simpa [enc44] using this
  have hM := k44_openM (hreps.2 i x hx)
  have e1 : ((inner.drop (i * 3)).take 3)[j]? = some u := by rw [hM]; exact hu
  rw [List.getElem?_take, if_pos hj, List.getElem?_drop, ← htk, List.getElem?_take, if_pos (by omega)] at e1
  have e2 : cur[i * 3 + j]? = some u := by rw [← Array.getElem?_toList]; exact e1
  exact ⟨by simp [World.cell?, hh, e2], by simp [World.frozen?, hh]⟩
theorem own3_mk {w : World} {base g cap : Nat} {xs : List S44} {cur : Array Value} (hg : base ≤ g) (hn : xs.length ≤ cap) (hm : cap ≤ maxLen) (hr : Row3 w g xs) (hh : w.heap[g]? = some (.cells cur 44 (0, 0))) (hs : cur.size = cap * 3) : Kd.R k44 44 w base (fun _ => True) (.slice (some ⟨g, 0, none⟩) xs.length cap) xs := by
 have hcl : cur.toList.length = cap * 3 := by simpa using hs
 have hlen : (cur.toList.take (xs.length * 3)).length = xs.length * 3 := by rw [List.length_take, hcl]; omega
 refine ⟨fun _ _ => trivial, cur.toList.take (xs.length * 3), ⟨hlen, .inr ⟨g, cap, cur, rfl, hg, hh, hn, hm, hs, rfl⟩⟩, hlen, ?_⟩
 intro i x hx
 have hi := (List.getElem?_eq_some_iff.1 hx).1
 have e : ((cur.toList.take (xs.length * 3)).drop (i * 3)).take 3 = enc44 x := by
  apply List.ext_getElem?
  intro j
  by_cases hj : j < 3
  ·obtain ⟨u, hu⟩ : ∃ u, (enc44 x)[j]? = some u := ⟨_, List.getElem?_eq_getElem (by show j < 3; exact hj)⟩
   have hc := (hr i x hx j u hu).1
   rw [hu, List.getElem?_take, if_pos hj, List.getElem?_drop, List.getElem?_take, if_pos (by omega), Array.getElem?_toList]
   simpa [World.cell?, hh] using hc
  ·rw [List.getElem?_eq_none (by rw [List.length_take]; omega), List.getElem?_eq_none (by show 3 ≤ j; omega)]
 show k44.M _ _ _ x (((cur.toList.take (xs.length * 3)).drop (i * 3)).take 3)
 rw [e]
 exact k44_mkM _ _ _ x
theorem Row3.put {w : World} {g : Nat} {xs : List S44} (h : Row3 w g xs) {i : Nat} {x : S44} (hx : xs[i]? = some x) (y : S44) (j0 : Nat) (v : Value) (hj0 : (enc44 y)[j0]? = some v) (hy : ∀ j, j ≠ j0 → (enc44 y)[j]? = (enc44 x)[j]?) : Row3 (w.setCell ⟨g, i * 3 + j0, none⟩ v) g (xs.set i y) := by
 intro k z hk j u hu
 have hi := (List.getElem?_eq_some_iff.1 hx).1
 have hj : j < 3 := by have := (List.getElem?_eq_some_iff.1 hu).1; simpa [enc44] using this
 have hj0' : j0 < 3 := by have := (List.getElem?_eq_some_iff.1 hj0).1; simpa [enc44] using this
 rw [World.frozen?_setCell]
 by_cases e : i = k
 ·subst e
  rw [List.getElem?_set_self hi, Option.some.injEq] at hk
  subst hk
  obtain ⟨u0, hu0⟩ : ∃ u0, (enc44 x)[j]? = some u0 := ⟨_, List.getElem?_eq_getElem (by show j < 3; exact hj)⟩
  have h0 := h i x hx j u0 hu0
  by_cases ej : j = j0
  ·subst ej
   refine ⟨?_, h0.2⟩
   rw [hj0] at hu
   obtain rfl := Option.some.inj hu
   exact World.cell?_setCell_same _ _ _ h0.1
  ·rw [hy j ej, hu0] at hu
   obtain rfl := Option.some.inj hu
   rw [World.cell?_setCell_other _ _ _ _ (by first | (simp; done) | (simp; omega))]
   exact h0
 ·rw [List.getElem?_set_ne e] at hk
  rw [World.cell?_setCell_other _ _ _ _ (by first | (simp; done) | (simp; omega))]
  exact h k z hk j u hu
theorem put3 {w : World} {base g n cap : Nat} {xs : List S44} (h : Kd.R k44 44 w base (fun _ => True) (.slice (some ⟨g, 0, none⟩) n cap) xs) {i : Nat} {x : S44} (hx : xs[i]? = some x) (y : S44) (j0 : Nat) (v : Value) (hj0 : (enc44 y)[j0]? = some v) (hy : ∀ j, j ≠ j0 → (enc44 y)[j]? = (enc44 x)[j]?) :
  Kd.R k44 44 (w.setCell ⟨g, i * 3 + j0, none⟩ v) base (fun _ => True) (.slice (some ⟨g, 0, none⟩) n cap) (xs.set i y) := by
 obtain ⟨rfl, hg, hn, hm, hr, cur, hh, hs⟩ := own3_parts h
 have := own3_mk (xs := xs.set i y) hg (by rw [List.length_set]; exact hn) hm (hr.put hx y j0 v hj0 hy) (Go.Lib.heap_setCell_same (i := i * 3 + j0) hh v) (by simpa using hs)
 rwa [List.length_set] at this
set_option maxHeartbeats 4000000 in
set_option maxRecDepth 100000 in
/-- slices.Clone at ranges. -/
theorem clone_rng (xs : List S44) (A : Option Addr) (c : Nat) (w : World) (hC : Kd.C k44 w A xs.length xs) (hl : xs.length * 40 ≤ 140737488355328) :
  Calls Tryz.prog 70 #[.slice A xs.length c] w fun e w' => (A = none ∧ e = .returned (.slice none 0 0) ∧ w' = w) ∨ A ≠ none ∧ ∃ g cap, e = .returned (.slice (some ⟨g, 0, none⟩) xs.length cap) ∧ w.heap.size ≤ g ∧ g < w'.heap.size ∧ xs.length ≤ cap ∧ Row3 w' g xs ∧ Below w.heap.size w w' := by
 cases A with
 | none =>
  clear hC
  have q53 : ∀ (w : World) (a : Option Addr) (n c n' c' : Nat), (binOp .eql 70 (.slice a n c) (.slice none n' c')).run Tryz.prog w = .ok (.bool a.isNone) w := fun w a n c n' c' => Go.Lib.run_eql_slice_nil w _ _ a n c n' c' Tryz.underlying70
  have u53 : ∀ w, Sem.run Tryz.prog (underlying 70) w = .ok (TypeDesc.slice 44) w := run_underlying Tryz.underlying70
  go_enter Tryz.func70, Tryz.ntmps70
  go_wp2
  go_ret
  first | exact .inl ⟨rfl, rfl, rfl⟩ | simp
 | some ad =>
  obtain ⟨inner, hrep, hcells⟩ := ReadsRow.inner_ hC
  replace hrep : Reps (k44.K w) 3 xs inner := hrep
  have hlen := hrep.1
  have hone : ∀ u ∈ inner, u.oneCell' = true := by
   intro u hu
   obtain ⟨t, ht, e⟩ := List.getElem_of_mem hu
   have hk : t / 3 < xs.length := by omega
   have hK := k44_open (hrep.2 (t / 3) _ (List.getElem?_eq_getElem hk))
   have e1 : ((inner.drop (t / 3 * 3)).take 3)[t % 3]? = some u := by rw [List.getElem?_take, if_pos (by omega), List.getElem?_drop, show t / 3 * 3 + t % 3 = t by omega, List.getElem?_eq_getElem ht, e]
   rw [hK] at e1
   have h3 : t % 3 = 0 ∨ t % 3 = 1 ∨ t % 3 = 2 := by omega
   rcases h3 with q | q | q <;> rw [q] at e1 <;> (obtain rfl := Option.some.inj e1) <;> rfl
  have HI := Aside0.mk hrep
  have HC := Aside0.mk hcells
  have HL := Aside0.mk hlen
  have H1 := Aside0.mk hone
  obtain ⟨i0, hi, hz0, hz1, hz2⟩ := info_parts info44U
  clear hC hrep hcells hone hlen
  have q53 : ∀ (w : World) (a : Option Addr) (n c n' c' : Nat), (binOp .eql 70 (.slice a n c) (.slice none n' c')).run Tryz.prog w = .ok (.bool a.isNone) w := fun w a n c n' c' => Go.Lib.run_eql_slice_nil w _ _ a n c n' c' Tryz.underlying70
  have u53 : ∀ w, Sem.run Tryz.prog (underlying 70) w = .ok (TypeDesc.slice 44) w := run_underlying Tryz.underlying70
  go_enter Tryz.func70, Tryz.ntmps70
  go_wp2_with (at_builtin; refine wpList_append_own _ rfl _ _ 70 rfl w.heap.size 44 i0 (.agg #[(.string ⟨#[]⟩), (.string ⟨#[]⟩), (.bool false)]) 3 40 Tryz.underlying70 hi hz0 hz1 hz2 rfl (by decide) _ _ _ rfl (World.ownsRow_made w #[] 0 (Nat.le_refl _) (Nat.zero_le _) rfl) ad xs.length c inner rfl ?qc1 ?qc2 ?qc3 ?qc4 ?qc5 ?qc6 ?_)
  case qc1 => exact HL.out
  case qc2 => intro j u hj; exact Go.Lib.cell?_alloc_some _ (HC.out j u hj)
  case qc3 => exact H1.out
  case qc4 => unfold maxLen; omega
  case qc5 => omega
  case qc6 => simp
  intro v' w1 hown hgrow hnil
  go_wp2
  go_ret
  have hne : v' ≠ .slice none 0 0 := fun e => by first | exact hnil e | (have := (hnil.1 e).1; simp at this)
  have hown2 : w1.ownsRow w.heap.size 44 3 v' xs.length inner := by simpa using hown
  have hR : Kd.R k44 44 w1 w.heap.size (fun _ => True) v' xs := ⟨fun _ _ => trivial, inner, hown2, HI.out.imp_ fun p cs hp => by rw [k44_open hp]; exact k44_mkM _ _ _ p⟩
  have hb : Below w.heap.size w w1 := ((Below.refl _ w).alloc (Nat.le_refl _) _).grown hgrow (by simp) (by intro k hk; simp [Value.ownBlock] at hk; omega)
  rcases hown2.2 with ⟨e, _⟩ | ⟨g, cap, cur, rfl, hg, hh, hnc, _⟩
  ·exact absurd e hne
  ·obtain ⟨_, _, hcap, _, hrow, _, _, _⟩ := own3_parts hR
   exact .inr ⟨by simp, g, cap, by simp, hg, blk_lt hh, hcap, hrow, hb⟩
theorem cmpB_lt : ∀ a b : List UInt8, Lib.compareBytes a b < 0 ↔ a < b
 | [], [] => by simp [Lib.compareBytes]
 | [], _ :: _ => by simp [Lib.compareBytes]
 | _ :: _, [] => by simp [Lib.compareBytes]
 | x :: a, y :: b => by
  unfold Lib.compareBytes
  rw [List.cons_lt_cons_iff]
  by_cases h1 : x < y
  ·simp [h1]
  ·by_cases h2 : y < x
   ·have : ¬ x = y := fun e => by subst e; exact h1 h2
    simp [h1, h2, this]
   ·have : x = y := UInt8.le_antisymm (UInt8.not_lt.1 h2) (UInt8.not_lt.1 h1)
    simp [h1, h2, this, cmpB_lt a b]
def lowCmp (x y : S44) : Int := Lib.compareBytes x.f0.data.toList y.f0.data.toList
theorem lowCmp_lt (x y : S44) : Go.Proofs.ltOf lowCmp x y = true ↔ x.f0.data.toList < y.f0.data.toList := by
 unfold Go.Proofs.ltOf lowCmp
 rw [decide_eq_true_iff, cmpB_lt]
theorem lowCmp_swo : Go.Sort.SWO (Go.Proofs.ltOf lowCmp) := by
 have e : ∀ x y, Go.Proofs.ltOf lowCmp x y = false ↔ ¬ x.f0.data.toList < y.f0.data.toList := fun x y => by rw [← lowCmp_lt, Bool.not_eq_true]
 refine ⟨fun x => (e x x).2 (List.lt_irrefl _), fun x y z h1 h2 => (lowCmp_lt x z).2 (List.lt_trans ((lowCmp_lt x y).1 h1) ((lowCmp_lt y z).1 h2)), fun x y z h1 h2 => (e x z).2 ?_⟩
 exact List.not_lt.2 (List.le_trans (List.not_lt.1 ((e y z).1 h2)) (List.not_lt.1 ((e x y).1 h1)))
theorem grow_two (w : World) (a b : Obj) : ∃ q os, (w.alloc a).alloc b = Go.Sort.grow (w.drewN q) os := by
 have e2 : ∀ (h : Array Obj), (h.push a).push b = h ++ #[a, b] := fun h => by apply Array.ext'; simp
 refine ⟨0, #[a, b], ?_⟩
 show { w with heap := (w.heap.push a).push b } = _
 rw [e2]
 rfl
set_option maxHeartbeats 4000000 in
set_option maxRecDepth 100000 in
/-- code.Union$1: how two ranges stand. -/
theorem low_rng (x y : S44) (w : World) : Calls Tryz.prog 73 #[.agg (enc44 x).toArray, .agg (enc44 y).toArray] w fun e w' => e = .returned (.int .i64 (lowCmp x y)) ∧ ∃ q os, w' = Go.Sort.grow (w.drewN q) os := by
 unfold enc44
 go_enter Tryz.func73, Tryz.ntmps73
 go_wp2_with (go_at_call 74; refine (Tryz.strings_Compare _ _ _).mono ?_; rintro e w' ⟨rfl, rfl⟩)
 go_ret
 refine ⟨rfl, ?_⟩
 exact grow_two w _ _
instance instInhS44U : Inhabited S44 := ⟨⟨⟨#[]⟩, ⟨#[]⟩, false⟩⟩
theorem Row3.holds {w : World} {g : Nat} {xs : List S44} (h : Row3 w g xs) : Go.Sort.HoldsK enc44 3 w g 0 xs.toArray := by
 intro j hj
 rw [Go.Sort.size_flatK] at hj
 have hj' : j < xs.length * 3 := by simpa using hj
 rw [Go.Sort.get_flatK _ _ _ _ hj]
 have hi : j / 3 < xs.length := by omega
 have e1 : xs.toArray[j / 3]! = xs[j / 3] := by simp [hi]
 have h3 : j % 3 < (enc44 xs[j / 3]).length := by show j % 3 < 3; omega
 have := h (j / 3) _ (List.getElem?_eq_getElem hi) (j % 3) _ (List.getElem?_eq_getElem h3)
 rw [show j / 3 * 3 + j % 3 = 0 + j by omega] at this
 rw [e1, getElem!_pos (enc44 xs[j / 3]) (j % 3) h3]
 exact this
theorem Row3.of_holds {w : World} {g : Nat} {d : Array S44} (h : Go.Sort.HoldsK enc44 3 w g 0 d) : Row3 w g d.toList := by
 intro i x hx j u hu
 have hj : j < 3 := by have := (List.getElem?_eq_some_iff.1 hu).1; simpa [enc44] using this
 have hi : i < d.size := by have := (List.getElem?_eq_some_iff.1 hx).1; simpa using this
 have := h.cell hi hj
 rw [Nat.zero_add] at this
 have e1 : d[i]! = x := by
  rw [getElem!_pos d i hi]
  have := (List.getElem?_eq_some_iff.1 hx).2
  simpa using this
 have h3 : j < (enc44 x).length := by show j < 3; exact hj
 have e2 : (enc44 x)[j]! = u := by
  rw [getElem!_pos (enc44 x) j h3]
  exact (List.getElem?_eq_some_iff.1 hu).2
 rw [e1, e2] at this
 exact this
theorem sort_below {w : World} {g B : Nat} (hg : B ≤ g) (hgw : g < w.heap.size) (m : Nat) (d : Array S44) (os : Array Obj) : Below B w (Go.Proofs.sortWorldK enc44 3 w g 0 m d os) := by
 refine ⟨rfl, rfl, rfl, Go.Proofs.size_sortWorldK_c enc44 3 w g 0 m d os, fun k hk => ?_⟩
 show ((w.heap.modify g _) ++ os)[k]? = w.heap[k]?
 rw [Array.getElem?_append_left (by simp; omega), Array.getElem?_modify, if_neg (by omega)]
theorem sorted_rng (w0 : World) (gb cap : Nat) (xs : List S44) (w : World) (hR : Row3 w gb xs) (hl : xs.length < 4611686018427387904) (h0 : w0.heap.size ≤ gb) (hgb : gb < w.heap.size) (hB : Below w0.heap.size w0 w) :
  Calls Tryz.prog 72 #[.slice (some ⟨gb, 0, none⟩) xs.length cap, .func (.func 73) #[] #[]] w fun e w' => e = .returned (.tuple #[]) ∧ ∃ ys, ys.Perm xs ∧ ys.Pairwise (fun a b => ¬ b.f0.data.toList < a.f0.data.toList) ∧ Row3 w' gb ys ∧ Below w0.heap.size w0 w' ∧ w.heap.size ≤ w'.heap.size := by
 have hH := hR.holds
 have h := Go.Proofs.Tryz.sortRng enc44 (fun _ => rfl) (fun x v hv => by simp only [enc44, List.mem_cons, List.not_mem_nil, or_false] at hv; rcases hv with rfl | rfl | rfl <;> rfl) lowCmp lowCmp_swo 73 #[] gb 0 cap xs.toArray w (enters_of Tryz.func73 (by kernel_rfl) rfl) (fun m os dk hs x y => low_rng x y _) hH hgb (by simpa using hl)
 have e0 : xs.toArray.size = xs.length := by simp
 rw [e0] at h
 refine h.mono ?_
 rintro e w' ⟨rfl, d', n, os, hperm, hsort, rfl⟩
 have hsz : d'.size = xs.length := by have := hperm.1; simpa using this
 refine ⟨rfl, d'.toList, ?_, ?_, ?_, Below.trans hB (sort_below h0 hgb n d' os), Go.Proofs.size_sortWorldK_c enc44 3 w gb 0 n d' os⟩
 ·have := hperm.2.2
  have e3 : d'.extract 0 xs.length = d' := by rw [← hsz]; simp
  have e4 : xs.toArray.extract 0 xs.length = xs.toArray := by rw [← e0]; simp
  rw [e3, e4] at this
  simpa using this
 ·rw [List.pairwise_iff_getElem]
  intro i j hi hj hij
  have hi' : i < d'.size := by simpa using hi
  have hj' : j < d'.size := by simpa using hj
  have := hsort i j (Nat.zero_le _) hij (by rw [← hsz]; exact hj')
  rw [getElem!_pos d' i hi', getElem!_pos d' j hj'] at this
  intro hlt
  have h2 := (lowCmp_lt d'[j] d'[i]).2 (by simpa using hlt)
  rw [h2] at this
  cases this
 ·exact Row3.of_holds (Go.Proofs.holdsK_sortWorldK_c enc44 3 w gb 0 _ d' n os hH hgb (by rw [hsz, e0]))
end Go.Proofs.YtldlenjfpjihdaaGreat.PA
end
section
namespace Go.Proofs.YtldlenjfpjihdaaGreat.PU
open Go.Proofs.YtldlenjfpjihdaaGreat.PS
set_option linter.unusedSimpArgs false
set_option linter.unusedVariables false
abbrev bs (s : ByteArray) : List UInt8 := s.data.toList
abbrev mt : ByteArray := ⟨#[]⟩
theorem lt_irrefl' (a : List UInt8) : ¬ a < a := List.lt_irrefl a
theorem lt_tri (a b : List UInt8) : a < b ∨ a = b ∨ b < a := by
 by_cases h : a < b
 ·exact .inl h
 ·by_cases h2 : b < a
  ·exact .inr (.inr h2)
  ·exact .inr (.inl (List.le_antisymm (List.not_lt.1 h2) (List.not_lt.1 h)))
theorem bs_inj {a b : ByteArray} (h : bs a = bs b) : a = b := by
 cases a; cases b; simp [bs] at h; rw [h]
def emptyR (r : S44) : Bool := !r.f2 && !decide (bs r.f0 < bs r.f1)
def cleanR (r : S44) : S44 := if r.f2 then ⟨r.f0, mt, true⟩ else r
def stepU (out : List S44) (r0 : S44) : List S44 :=
 let r := cleanR r0
 match out.getLast? with
 | none => [r]
 | some l =>
  if l.f2 then out
  else if bs l.f1 < bs r.f0 then out ++ [r]
  else if r.f2 then out.dropLast ++ [⟨l.f0, mt, true⟩]
  else out.dropLast ++ [⟨l.f0, Go.Lib.maxS l.f1 r.f1, false⟩]
def keyLe (a b : S44) : Prop := ¬ bs b.f0 < bs a.f0
def sortedR (l : List S44) : Prop := l.Pairwise keyLe
theorem maxS_comm3 (a b c : ByteArray) : Go.Lib.maxS (Go.Lib.maxS a b) c = Go.Lib.maxS (Go.Lib.maxS a c) b := by
 unfold Go.Lib.maxS
 have t := fun x y : List UInt8 => lt_tri x y
 have tr : ∀ {x y z : List UInt8}, x < y → y < z → x < z := fun h g => List.lt_trans h g
 have asy : ∀ {x y : List UInt8}, x < y → ¬ y < x := fun h => List.lt_asymm h
 by_cases h1 : bs a < bs b <;> by_cases h2 : bs a < bs c <;> simp only [h1, h2, if_true, if_false]
 ·rcases t (bs b) (bs c) with h | h | h
  ·rw [if_pos h, if_neg (asy h)]
  ·have := bs_inj h; subst this; simp [lt_irrefl']
  ·rw [if_neg (asy h), if_pos h]
 ·by_cases h3 : bs b < bs c
  ·exact absurd (tr h1 h3) h2
  ·simp [h3, h1]
 ·by_cases h3 : bs c < bs b
  ·exact absurd (tr h2 h3) h1
  ·simp [h3, h2]
theorem maxS_comm (a b : ByteArray) : Go.Lib.maxS a b = Go.Lib.maxS b a := by
 unfold Go.Lib.maxS
 rcases lt_tri (bs a) (bs b) with h | h | h
 ·rw [if_pos h, if_neg (List.lt_asymm h)]
 ·have := bs_inj h; subst this; rfl
 ·rw [if_neg (List.lt_asymm h), if_pos h]
theorem le_maxS (a b : ByteArray) : ¬ bs (Go.Lib.maxS a b) < bs a := by
 unfold Go.Lib.maxS; split
 ·rename_i h; exact List.lt_asymm h
 ·exact lt_irrefl' _
theorem not_lt_of (a b c : List UInt8) (h : ¬ b < a) (g : ¬ c < b) : ¬ c < a := fun k => by
 rcases lt_tri a b with x | x | x
 ·rcases lt_tri b c with y | y | y
  ·exact List.lt_asymm (List.lt_trans x y) k
  ·subst y; exact List.lt_asymm x k
  ·exact g y
 ·subst x; exact g k
 ·exact h x
theorem stepU_comm (out : List S44) (a b : S44) (hk : a.f0 = b.f0) (ha : emptyR a = false) (hb : emptyR b = false) : stepU (stepU out a) b = stepU (stepU out b) a := by
 have ea : a.f2 = true ∨ (a.f2 = false ∧ bs a.f0 < bs a.f1) := by
  cases h : a.f2 <;> simp [emptyR, h] at ha ⊢; exact ha
 have eb : b.f2 = true ∨ (b.f2 = false ∧ bs b.f0 < bs b.f1) := by
  cases h : b.f2 <;> simp [emptyR, h] at hb ⊢; exact hb
 rcases List.eq_nil_or_concat out with rfl | ⟨o, l, rfl⟩
 ·rcases ea with h1 | ⟨h1, g1⟩ <;> rcases eb with h2 | ⟨h2, g2⟩
  ·simp [stepU, cleanR, h1, h2, hk]
  ·have : ¬ bs b.f1 < bs b.f0 := List.lt_asymm g2
   simp [stepU, cleanR, h1, h2, hk, this]
  ·have : ¬ bs a.f1 < bs b.f0 := by rw [← hk]; exact List.lt_asymm g1
   simp [stepU, cleanR, h1, h2, hk, this]
  ·have t1 : ¬ bs a.f1 < bs b.f0 := by rw [← hk]; exact List.lt_asymm g1
   have t2 : ¬ bs b.f1 < bs b.f0 := List.lt_asymm g2
   simp [stepU, cleanR, h1, h2, hk, t1, t2, maxS_comm]
 ·by_cases hl : l.f2 = true
  ·simp [stepU, hl]
  ·have hl' : l.f2 = false := by simpa using hl
   by_cases hlt : bs l.f1 < bs a.f0
   ·have hlt2 : bs l.f1 < bs b.f0 := by rw [← hk]; exact hlt
    rcases ea with h1 | ⟨h1, g1⟩ <;> rcases eb with h2 | ⟨h2, g2⟩
    ·simp [stepU, cleanR, h1, h2, hk, hl', hlt2]
    ·have : ¬ bs b.f1 < bs b.f0 := List.lt_asymm g2
     simp [stepU, cleanR, h1, h2, hk, this, hl', hlt2]
    ·have : ¬ bs a.f1 < bs b.f0 := by rw [← hk]; exact List.lt_asymm g1
     simp [stepU, cleanR, h1, h2, hk, this, hl', hlt2]
    ·have t1 : ¬ bs a.f1 < bs b.f0 := by rw [← hk]; exact List.lt_asymm g1
     have t2 : ¬ bs b.f1 < bs b.f0 := List.lt_asymm g2
     simp [stepU, cleanR, h1, h2, hk, t1, t2, maxS_comm, hl', hlt2]
   ·have hlt2 : ¬ bs l.f1 < bs b.f0 := by rw [← hk]; exact hlt
    have n1 : ¬ bs (Go.Lib.maxS l.f1 a.f1) < bs b.f0 := not_lt_of _ _ _ hlt2 (le_maxS _ _)
    have n2 : ¬ bs (Go.Lib.maxS l.f1 b.f1) < bs b.f0 := not_lt_of _ _ _ hlt2 (le_maxS _ _)
    rcases ea with h1 | ⟨h1, g1⟩ <;> rcases eb with h2 | ⟨h2, g2⟩
    ·simp [stepU, cleanR, h1, h2, hk, hl', hlt2]
    ·simp [stepU, cleanR, h1, h2, hk, hl', hlt2, n1, n2]
    ·simp [stepU, cleanR, h1, h2, hk, hl', hlt2, n1, n2]
    ·simp [stepU, cleanR, h1, h2, hk, hl', hlt2, n1, n2, maxS_comm3]
theorem fold_front : ∀ (p s : List S44) (a : S44) (out : List S44), (∀ x ∈ p, x.f0 = a.f0 ∧ emptyR x = false) → emptyR a = false → (p ++ a :: s).foldl stepU out = (a :: (p ++ s)).foldl stepU out
 | [], s, a, out, _, _ => rfl
 | x :: p, s, a, out, hp, ha => by
  have ih := fold_front p s a (stepU out x) (fun y hy => hp y (by simp [hy])) ha
  obtain ⟨h1, h2⟩ := hp x (by simp)
  simp only [List.cons_append, List.foldl_cons] at ih ⊢
  rw [ih, stepU_comm out x a h1 h2 ha]
theorem fold_perm : ∀ (n : Nat) (l m : List S44) (out : List S44), l.length = n → l.Perm m → sortedR l → sortedR m → (∀ x ∈ l, emptyR x = false) → l.foldl stepU out = m.foldl stepU out
 | 0, l, m, out, hn, hp, _, _, _ => by
  obtain rfl := List.length_eq_zero_iff.1 hn
  obtain rfl := (List.Perm.nil_eq hp).symm
  rfl
 | n + 1, [], m, out, hn, _, _, _, _ => by simp at hn
 | n + 1, a :: t, m, out, hn, hp, hl, hm, he => by
  have ham : a ∈ m := hp.subset (by simp)
  obtain ⟨p, s, rfl⟩ := List.append_of_mem ham
  have hpt : t.Perm (p ++ s) := (List.Perm.cons_inv ((hp.trans List.perm_middle)))
  have hka : ∀ x ∈ p, x.f0 = a.f0 ∧ emptyR x = false := by
   intro x hx
   have hxt : x ∈ t := hpt.symm.subset (by simp [hx])
   have h1 : keyLe a x := (List.pairwise_cons.1 hl).1 x hxt
   have h2 : keyLe x a := (List.pairwise_append.1 hm).2.2 x hx a (by simp)
   refine ⟨?_, he x (by simp [hxt])⟩
   unfold keyLe at h1 h2
   rcases lt_tri (bs x.f0) (bs a.f0) with h | h | h
   ·exact absurd h h1
   ·exact bs_inj h
   ·exact absurd h h2
  rw [fold_front p s a out hka (he a (by simp))]
  simp only [List.foldl_cons]
  refine fold_perm n t (p ++ s) _ (by simpa using hn) hpt (List.pairwise_cons.1 hl).2 ?_ (fun x hx => he x (by simp [hx]))
  unfold sortedR at hm ⊢
  rw [List.pairwise_append] at hm ⊢
  exact ⟨hm.1, (List.pairwise_cons.1 hm.2.1).2, fun x hx y hy => hm.2.2 x hx y (by simp [hy])⟩
def insR (x : S44) : List S44 → List S44
 | [] => [x]
 | y :: l => if bs x.f0 < bs y.f0 then x :: y :: l else y :: insR x l
def sortR : List S44 → List S44 := fun l => l.foldl (fun acc x => insR x acc) []
theorem insR_perm (x : S44) : ∀ l, (insR x l).Perm (x :: l)
 | [] => List.Perm.refl _
 | y :: l => by
  unfold insR; split
  ·exact List.Perm.refl _
  ·exact ((insR_perm x l).cons y).trans (List.Perm.swap x y l)
theorem insR_sorted (x : S44) : ∀ l, sortedR l → sortedR (insR x l)
 | [], _ => by simp [insR, sortedR]
 | y :: l, h => by
  unfold insR
  have h' := List.pairwise_cons.1 h
  split
  ·rename_i hlt
   refine List.pairwise_cons.2 ⟨fun z hz => ?_, h⟩
   rcases List.mem_cons.1 hz with rfl | hz
   ·exact List.lt_asymm hlt
   ·exact fun g => h'.1 z hz (List.lt_trans g hlt)
  ·rename_i hlt
   refine List.pairwise_cons.2 ⟨fun z hz => ?_, insR_sorted x l h'.2⟩
   rcases List.mem_cons.1 ((insR_perm x l).subset hz) with rfl | hz
   ·exact hlt
   ·exact h'.1 z hz
theorem sortR_perm_aux : ∀ (l acc : List S44), (l.foldl (fun acc x => insR x acc) acc).Perm (acc ++ l) ∧ (sortedR acc → sortedR (l.foldl (fun acc x => insR x acc) acc))
 | [], acc => by simp
 | x :: l, acc => by
  obtain ⟨h1, h2⟩ := sortR_perm_aux l (insR x acc)
  refine ⟨h1.trans ?_, fun h => h2 (insR_sorted x acc h)⟩
  exact ((insR_perm x acc).append_right l).trans (List.perm_middle.symm)
theorem sortR_perm (l : List S44) : (sortR l).Perm l := by have := (sortR_perm_aux l []).1; rwa [List.nil_append] at this
theorem sortR_sorted (l : List S44) : sortedR (sortR l) := (sortR_perm_aux l []).2 (by simp [sortedR])
def neR (l : List S44) : List S44 := l.filter fun r => !emptyR r
def unionR (l : List S44) : List S44 := (sortR (neR l)).foldl stepU []
theorem union_of {l m : List S44} (hp : m.Perm (neR l)) (hs : sortedR m) : m.foldl stepU [] = unionR l := by
 refine fold_perm _ m _ [] rfl (hp.trans (sortR_perm _).symm) hs (sortR_sorted _) fun x hx => ?_
 have := hp.subset hx
 unfold neR at this
 simpa using (List.mem_filter.1 this).2
def hasR (r : S44) (k : List UInt8) : Bool := !decide (k < bs r.f0) && (r.f2 || decide (k < bs r.f1))
theorem hasR_empty {r : S44} (h : emptyR r = true) (k : List UInt8) : hasR r k = false := by
 unfold emptyR at h; unfold hasR
 simp at h
 obtain ⟨h1, h2⟩ := h
 by_cases h3 : k < bs r.f0
 ·simp [h3]
 ·have : ¬ k < bs r.f1 := not_lt_of _ _ _ h2 h3
  simp [h1, this, h3]
def Apart : List S44 → Prop
 | [] => True
 | [r] => emptyR r = false
 | r :: s :: l => emptyR r = false ∧ r.f2 = false ∧ bs r.f1 < bs s.f0 ∧ Apart (s :: l)
theorem apart_append : ∀ (o : List S44) (l x : S44), Apart (o ++ [l]) → emptyR x = false → l.f2 = false → bs l.f1 < bs x.f0 → Apart (o ++ [l] ++ [x])
 | [], l, x, h, hx, h1, h2 => ⟨h, h1, h2, hx⟩
 | [a], l, x, h, hx, h1, h2 => ⟨h.1, h.2.1, h.2.2.1, apart_append [] l x h.2.2.2 hx h1 h2⟩
 | a :: b :: o, l, x, h, hx, h1, h2 => ⟨h.1, h.2.1, h.2.2.1, apart_append (b :: o) l x h.2.2.2 hx h1 h2⟩
theorem apart_last : ∀ (o : List S44) (l x : S44), Apart (o ++ [l]) → emptyR x = false → l.f0 = x.f0 → Apart (o ++ [x])
 | [], l, x, h, hx, _ => hx
 | [a], l, x, h, hx, h1 => ⟨h.1, h.2.1, by rw [← h1]; exact h.2.2.1, hx⟩
 | a :: b :: o, l, x, h, hx, h1 => ⟨h.1, h.2.1, h.2.2.1, apart_last (b :: o) l x h.2.2.2 hx h1⟩
theorem maxS_lt (a b : ByteArray) (k : List UInt8) : k < bs (Go.Lib.maxS a b) ↔ k < bs a ∨ k < bs b := by
 unfold Go.Lib.maxS
 split
 ·rename_i h
  exact ⟨.inr, fun g => g.elim (fun g => List.lt_trans g h) id⟩
 ·rename_i h
  refine ⟨.inl, fun g => g.elim id fun g => ?_⟩
  rcases lt_tri (bs a) (bs b) with x | x | x
  ·exact absurd x h
  ·rw [x]; exact g
  ·exact List.lt_trans g x
theorem hasR_clean (r : S44) (k : List UInt8) : hasR (cleanR r) k = hasR r k := by
 unfold cleanR hasR
 cases h : r.f2 <;> simp [h]
theorem emptyR_clean (r : S44) : emptyR (cleanR r) = emptyR r := by
 unfold cleanR emptyR
 cases h : r.f2 <;> simp [h]
theorem cleanR_f0 (r : S44) : (cleanR r).f0 = r.f0 := by unfold cleanR; split <;> rfl
theorem stepU_says (out : List S44) (r : S44) (ha : Apart out) (hr : emptyR r = false) (hb : ∀ x ∈ out, ¬ bs r.f0 < bs x.f0) :
  Apart (stepU out r) ∧ (∀ x ∈ stepU out r, ¬ bs r.f0 < bs x.f0) ∧ ∀ k, (stepU out r).any (hasR · k) = (out.any (hasR · k) || hasR r k) := by
 rcases List.eq_nil_or_concat out with rfl | ⟨o, l, e0⟩
 ·refine ⟨by show Apart [cleanR r]; exact (emptyR_clean r).trans hr, ?_, ?_⟩
  ·intro x hx
   simp [stepU] at hx
   subst hx
   rw [cleanR_f0]; exact lt_irrefl' _
  ·intro k
   simp [stepU, hasR_clean]
 ·rw [List.concat_eq_append] at e0
  subst e0
  have hl := hb l (by simp)
  have hlast : (o ++ [l]).getLast? = some l := by simp
  have hdrop : (o ++ [l]).dropLast = o := by simp
  have hle : emptyR l = false := by
   have : ∀ o : List S44, Apart (o ++ [l]) → emptyR l = false := by
    intro o
    induction o with
    | nil => exact fun h => h
    | cons a o ih =>
     intro h
     cases o with
     | nil => exact h.2.2.2
     | cons b o => exact ih h.2.2.2
   exact this o ha
  by_cases h1 : l.f2 = true
  ·have e : stepU (o ++ [l]) r = o ++ [l] := by simp [stepU, h1]
   rw [e]
   refine ⟨ha, hb, fun k => ?_⟩
   have : hasR r k = true → hasR l k = true := by
    unfold hasR
    intro h
    simp at h
    simp [h1]
    exact fun g => h.1 (by
     rcases lt_tri (bs l.f0) (bs r.f0) with x | x | x
     ·exact List.lt_trans g x
     ·rw [← x]; exact g
     ·exact absurd x hl)
   cases hk : hasR r k
   ·simp
   ·simp [this hk]
  ·have h1' : l.f2 = false := by simpa using h1
   by_cases h2 : bs l.f1 < bs r.f0
   ·have e : stepU (o ++ [l]) r = o ++ [l] ++ [cleanR r] := by unfold stepU; simp only [hlast, cleanR_f0]; rw [if_neg h1, if_pos h2]
    rw [e]
    refine ⟨apart_append o l _ ha ((emptyR_clean r).trans hr) h1' (by rw [cleanR_f0]; exact h2), ?_, ?_⟩
    ·intro x hx
     rcases List.mem_append.1 hx with h | h
     ·exact hb x h
     ·simp at h; subst h; rw [cleanR_f0]; exact lt_irrefl' _
    ·intro k
     rw [List.any_append]
     simp [hasR_clean]
   ·have hle' : bs l.f0 < bs l.f1 := by simpa [emptyR, h1'] using hle
    have key : ∀ k (H : Bool), (H = true ↔ (k < bs l.f1 ∨ r.f2 = true ∨ k < bs r.f1)) → (!decide (k < bs l.f0) && H) = (hasR l k || hasR r k) := by
     intro k H hH
     unfold hasR
     by_cases a1 : k < bs l.f0
     ·have a2 : k < bs r.f0 := by
       rcases lt_tri (bs l.f0) (bs r.f0) with x | x | x
       ·exact List.lt_trans a1 x
       ·rw [← x]; exact a1
       ·exact absurd x hl
      simp [a1, a2]
     ·by_cases a3 : k < bs l.f1
      ·have : H = true := hH.2 (.inl a3)
       simp [a1, a3, this]
      ·have a2 : ¬ k < bs r.f0 := fun g => by
        rcases lt_tri (bs l.f1) (bs r.f0) with x | x | x
        ·exact h2 x
        ·rw [x] at a3; exact a3 g
        ·exact a3 (List.lt_trans g x)
       by_cases b1 : r.f2 = true
       ·have : H = true := hH.2 (.inr (.inl b1))
        simp [a1, a2, b1, this]
       ·by_cases b2 : k < bs r.f1
        ·have : H = true := hH.2 (.inr (.inr b2))
         simp [a1, a2, b2, this]
        ·have : H = false := by
          cases hh : H
          ·rfl
          ·rcases hH.1 hh with x | x | x
           ·exact absurd x a3
           ·exact absurd x b1
           ·exact absurd x b2
         simp [a1, a3, b1, b2, this, h1]
    by_cases h3 : r.f2 = true
    ·have e : stepU (o ++ [l]) r = o ++ [⟨l.f0, mt, true⟩] := by simp [stepU, h1, h2, h3, cleanR]
     rw [e]
     refine ⟨apart_last o l _ ha (by simp [emptyR]) rfl, ?_, ?_⟩
     ·intro x hx
      rcases List.mem_append.1 hx with h | h
      ·exact hb x (by simp [h])
      ·simp at h; subst h; exact hl
     ·intro k
      have := key k true (by simp [h3])
      have e2 : hasR ⟨l.f0, mt, true⟩ k = (!decide (k < bs l.f0) && true) := by simp [hasR]
      simp only [List.any_append, List.any_cons, List.any_nil, Bool.or_false, e2, this, Bool.or_assoc]
    ·have h3' : r.f2 = false := by simpa using h3
     have e : stepU (o ++ [l]) r = o ++ [⟨l.f0, Go.Lib.maxS l.f1 r.f1, false⟩] := by simp [stepU, h1, h2, h3, cleanR]
     rw [e]
     refine ⟨apart_last o l _ ha ?_ rfl, ?_, ?_⟩
     ·have := (maxS_lt l.f1 r.f1 (bs l.f0)).2 (.inl hle')
      simp [emptyR, this]
     ·intro x hx
      rcases List.mem_append.1 hx with h | h
      ·exact hb x (by simp [h])
      ·simp at h; subst h; exact hl
     ·intro k
      have := key k (decide (k < bs (Go.Lib.maxS l.f1 r.f1))) (by rw [decide_eq_true_eq, maxS_lt]; simp [h3'])
      have e2 : hasR ⟨l.f0, Go.Lib.maxS l.f1 r.f1, false⟩ k = (!decide (k < bs l.f0) && decide (k < bs (Go.Lib.maxS l.f1 r.f1))) := by simp [hasR]
      simp only [List.any_append, List.any_cons, List.any_nil, Bool.or_false, e2, this, Bool.or_assoc]
theorem fold_says : ∀ (l out : List S44), sortedR l → (∀ x ∈ l, emptyR x = false) → Apart out → (∀ x ∈ out, ∀ y ∈ l, ¬ bs y.f0 < bs x.f0) →
  Apart (l.foldl stepU out) ∧ ∀ k, (l.foldl stepU out).any (hasR · k) = (out.any (hasR · k) || l.any (hasR · k))
 | [], out, _, _, ha, _ => ⟨ha, fun k => by simp⟩
 | r :: l, out, hs, he, ha, hb => by
  obtain ⟨h1, h2, h3⟩ := stepU_says out r ha (he r (by simp)) (fun x hx => hb x hx r (by simp))
  have hs' := List.pairwise_cons.1 hs
  obtain ⟨g1, g2⟩ := fold_says l (stepU out r) hs'.2 (fun x hx => he x (by simp [hx])) h1 (fun x hx y hy => not_lt_of _ _ _ (h2 x hx) (hs'.1 y hy))
  refine ⟨g1, fun k => ?_⟩
  rw [List.foldl_cons, g2, h3]
  simp [Bool.or_assoc]
theorem unionR_apart (l : List S44) : Apart (unionR l) :=
 (fold_says _ [] (sortR_sorted _) (fun x hx => by have := (sortR_perm _).subset hx; unfold neR at this; simpa using (List.mem_filter.1 this).2) trivial (fun x hx => by cases hx)).1
theorem unionR_has (l : List S44) (k : List UInt8) : (unionR l).any (hasR · k) = l.any (hasR · k) := by
 have h := (fold_says _ [] (sortR_sorted (neR l)) (fun x hx => by have := (sortR_perm _).subset hx; unfold neR at this; simpa using (List.mem_filter.1 this).2) trivial (fun x hx => by cases hx)).2 k
 unfold unionR
 rw [h, Bool.eq_iff_iff]
 simp only [List.any_nil, Bool.false_or, List.any_eq_true]
 constructor
 ·rintro ⟨x, hx, hk⟩
  have := (sortR_perm _).subset hx
  unfold neR at this
  exact ⟨x, (List.mem_filter.1 this).1, hk⟩
 ·rintro ⟨x, hx, hk⟩
  refine ⟨x, (sortR_perm _).symm.subset ?_, hk⟩
  unfold neR
  refine List.mem_filter.2 ⟨hx, ?_⟩
  cases he : emptyR x
  ·rfl
  ·rw [hasR_empty he] at hk; cases hk
end Go.Proofs.YtldlenjfpjihdaaGreat.PU
end
section
namespace Go.Proofs.YtldlenjfpjihdaaGreat.PA
open Go.Proofs.YtldlenjfpjihdaaGreat.PS hiding below_step bs bless_eq
open Go.RowKit Go.Proofs Go.Proofs.YtldlenjfpjihdaaGreatW.PrintWords Go.Proofs.YtldlenjfpjihdaaGreatW.PrintLast Go.Proofs.YtldlenjfpjihdaaGreatW.PrintMore Go.Proofs.YtldlenjfpjihdaaGreat.PU
attribute [local go_sem] Go.Lib.run_max_strs Go.Lib.run_min_strs
set_option linter.unusedVariables false
set_option linter.unusedSimpArgs false
theorem bless_eq (a b : ByteArray) : Op.bytesLess a.toList b.toList = decide (bs a < bs b) := by
 rw [Go.Proofs.bytesLess_eq, Go.Lib.toList_data, Go.Lib.toList_data]
theorem empty_rng (W : World) (x : S44) : Calls Tryz.prog 71 (#[.agg (enc44 x).toArray] ++ #[]) W fun e w' => e = .returned (.bool (emptyR x)) ∧ Below W.heap.size W w' := by
 have h : code_Empty.f x.f0 x.f1 x.f2 = some (emptyR x) := by
  unfold code_Empty.f emptyR
  rw [bless_eq]
  cases x.f2 <;> simp
 exact code_Empty.calls x.f0 x.f1 x.f2 _ W h
theorem none_delf (g : Nat) (lb : Array Value) (w : World) (p : S44 → Bool) (eg : ∀ args w, (callFunc g args).run Tryz.prog w = .ok (.enter g args) w)
  (hp : ∀ (W : World) (x : S44), Calls Tryz.prog g (#[.agg (enc44 x).toArray] ++ lb) W fun e w' => e = .returned (.bool (p x)) ∧ Below W.heap.size W w') :
  Calls Tryz.prog 69 #[.slice none 0 0, .func (.func g) #[] lb] w fun e w' => e = .returned (.slice none 0 0) ∧ Below w.heap.size w w' := by
 have hidx := idxf_rng p g lb eg none [] 0 w ⟨rfl, Nat.zero_le _, fun h => absurd h (Nat.lt_irrefl 0)⟩ (fun W x hb => (hp W x).mono fun e w' h => ⟨h.1, Below.trans hb (h.2.mono hb.size)⟩)
 have e1 : idxF p [] = -1 := rfl
 rw [e1] at hidx
 replace hidx : Calls Tryz.prog 77 #[.slice none 0 0, .func (.func g) #[] lb] w fun e w' => e = .returned (.int .i64 (-1)) ∧ Below w.heap.size w w' := hidx
 clear hp e1
 go_enter Tryz.func69, Tryz.ntmps69
 go_wp2_with (go_at_call 77; refine hidx.mono ?_; rintro e w' ⟨rfl, hb'⟩)
 go_ret
 exact ⟨rfl, hb'⟩
theorem none_sort (w : World) (fv : Value) : Calls Tryz.prog 72 #[.slice none 0 0, fv] w fun e w' => e = .returned (.tuple #[]) ∧ w = w' :=
 (Go.Proofs.AnyF.slices_SortFunc_none Go.Proofs.Tryz.sortR none 0 fv w).mono fun e w' h => ⟨h.1, h.2.symm⟩
set_option maxHeartbeats 4000000 in
set_option maxRecDepth 100000 in
theorem union_nil (c0 : Nat) (w : World) : Calls Tryz.prog 51 #[.slice none 0 c0] w fun e w' => e = .returned (.slice none 0 0) ∧ Below w.heap.size w w' := by
 have hcl := clone_rng [] none c0 w ⟨rfl, Nat.zero_le _, fun h => absurd h (Nat.lt_irrefl 0)⟩ (by decide)
 replace hcl : Calls Tryz.prog 70 #[.slice none 0 c0] w fun e w' => e = .returned (.slice none 0 0) ∧ w = w' := hcl.mono fun e w' h => by
  rcases h with ⟨_, h1, h2⟩ | ⟨h0, _⟩
  ·exact ⟨h1, h2.symm⟩
  ·exact absurd rfl h0
 have hdel := none_delf 71 #[] w emptyR (enters_of Tryz.func71 (by kernel_rfl) rfl) empty_rng
 go_enter Tryz.func51, Tryz.ntmps51
 go_wp2_with (first | (go_at_call 70; refine hcl.mono ?_; rintro e w' ⟨rfl, rfl⟩) | (go_at_call 69; refine hdel.mono ?_; rintro e w2 ⟨rfl, hb'⟩) | (go_at_call 72; refine (none_sort _ _).mono ?_; rintro e w' ⟨rfl, rfl⟩))
 go_loopg [4, 6, 7, 15] 0 (fun gg s4 s6 s7 s15 wr => s4 = .slice none 0 0 ∧ s15 = .int .i64 0 ∧ Aside0 (Below w.heap.size w wr))
 case atStart => exact ⟨rfl, rfl, ⟨by assumption⟩⟩
 case round =>
  obtain ⟨rfl, rfl, HB⟩ := hrel
  go_wp2
  go_ret
  exact ⟨rfl, HB.out⟩
theorem app3 {ops : Array Oper} {rest : List Oper} {o : Oper} {a : Act} {Q : Exit → Act → World → Prop} {w0 W : World} {base n0 : Nat} (hgd : o.guard = none) (s x : Operand) (ho : o.op = .call { callee := .builtin .append, args := #[s, x], argTypes := #[70, 70] })
  (v : Value) (xs : List S44) (p : S44) (hs : a.eval s = v) (hx : a.eval x = .slice (some ⟨n0, 0, none⟩) 1 1) (hn0 : n0 = W.heap.size)
  (HO : Kd.R k44 44 W base (fun _ => True) v xs) (HB : Below base w0 W) (hbase : base ≤ W.heap.size) (hl : (xs.length + 1) * 40 ≤ 140737488355328)
  (h : ∀ v1 w1, Kd.R k44 44 w1 base (fun _ => True) v1 (xs ++ [p]) → Below base w0 w1 → wpList Tryz.prog ops Q rest (a.put o.dst v1) w1) :
  wpList Tryz.prog ops Q (o :: rest) a (W.alloc (.cells (enc44 p).toArray 44)) := by
 subst hn0
 refine Kd.R_append k44 (w0 := w0) (W := W) base hgd s x 70 44 (.agg #[(.string ⟨#[]⟩), (.string ⟨#[]⟩), (.bool false)]) 40 ho Tryz.underlying70 info44U rfl (by decide) (by omega) v xs p (enc44 p) (fun _ => True) (fun _ => False) hs hx (k44_mkM _ _ _ p) (fun _ hk => hk.elim) (fun _ _ => trivial) HO HB hbase hl ?_
 intro v1 w1 ho hb _ _
 exact h v1 w1 ho hb
theorem Row3.alloc {w : World} {g : Nat} {xs : List S44} (h : Row3 w g xs) (hg : g < w.heap.size) (o : Obj) : Row3 (w.alloc o) g xs := h.same (by show (w.heap.push o)[g]? = w.heap[g]?; rw [Array.getElem?_push, if_neg (Nat.ne_of_lt hg)])
theorem size_alloc1 (w : World) (o : Obj) : w.heap.size + 1 = (w.alloc o).heap.size := (Array.size_push o).symm
theorem own3_head {w : World} {base : Nat} {v : Value} {xs : List S44} (h : Kd.R k44 44 w base (fun _ => True) v xs) (hn : xs ≠ []) : ∃ g cap, v = .slice (some ⟨g, 0, none⟩) xs.length cap := by
 obtain ⟨_, inner, ⟨hlen, hor⟩, hreps⟩ := h
 rcases hor with ⟨_, e⟩ | ⟨g', cap', cur, e, _⟩
 ·exact absurd (List.length_eq_zero_iff.1 e) hn
 ·exact ⟨g', cap', e⟩
theorem stepU_len (out : List S44) (r : S44) : (stepU out r).length ≤ out.length + 1 := by
 rcases List.eq_nil_or_concat out with rfl | ⟨o, l, rfl⟩
 ·simp [stepU]
 ·simp only [stepU, List.getLast?_concat]
  (repeat' split) <;> simp
theorem fold_len : ∀ (l out : List S44), (l.foldl stepU out).length ≤ out.length + l.length
 | [], out => by simp
 | a :: l, out => by
  have h1 := fold_len l (stepU out a)
  have h2 := stepU_len out a
  simp only [List.foldl_cons, List.length_cons]
  omega
set_option maxHeartbeats 8000000 in
set_option maxRecDepth 100000 in
theorem union_some (l0 : List S44) (ad : Addr) (c0 : Nat) (w : World) (hC : Kd.C k44 w (some ad) l0.length l0) (hl : l0.length * 40 ≤ 140737488355328) :
  Calls Tryz.prog 51 #[.slice (some ad) l0.length c0] w fun e w' => ∃ v, e = .returned v ∧ Kd.R k44 44 w' w.heap.size (fun _ => True) v (unionR l0) ∧ Below w.heap.size w w' := by
 have hcl := clone_rng l0 (some ad) c0 w hC hl
 replace hcl : Calls Tryz.prog 70 #[.slice (some ad) l0.length c0] w fun e w' => ∃ g cap, e = .returned (.slice (some ⟨g, 0, none⟩) l0.length cap) ∧ w.heap.size ≤ g ∧ g < w'.heap.size ∧ l0.length ≤ cap ∧ Row3 w' g l0 ∧ Below w.heap.size w w' := hcl.mono fun e w' h => by
  rcases h with ⟨h0, _⟩ | ⟨_, h⟩
  ·cases h0
  ·exact h
 have hl2 : l0.length ≤ 4611686018427387904 := by omega
 have hfl : (neR l0).length ≤ l0.length := List.length_filter_le _ _
 have hdel := fun g cap w1 => delf_rng emptyR 71 #[] (enters_of Tryz.func71 (by kernel_rfl) rfl) w g cap l0 w1
 have hsort := fun g cap w1 => sorted_rng w g cap (neR l0) w1
 clear hC
 go_enter Tryz.func51, Tryz.ntmps51
 go_wp2_with (first | (go_at_call 70; refine hcl.mono ?_; rintro e w1 ⟨g, cap, rfl, hg, hgw, hcap, hR1, hb1⟩) | (go_at_call 69; refine (hdel _ _ _ hR1 hl2 hcap hg hb1 empty_rng).mono ?_; rintro e w2 ⟨rfl, hR2, hb2, hz2⟩; have hgw2 := Nat.lt_of_lt_of_le hgw hz2) | (go_at_call 72; refine (hsort _ _ _ hR2 (by omega) hg hgw2 hb2).mono ?_; rintro e w3 ⟨rfl, ys, hperm, hsrt, hR3, hb3, hz3⟩))
 have hn : ys.length = (List.filter (fun x => !emptyR x) l0).length := hperm.length_eq
 rw [← hn]
 have hun := union_of hperm hsrt
 have hyl : ys.length ≤ l0.length := by rw [hn]; exact hfl
 have HY := Aside0.mk hR3
 have HB3 := Aside0.mk hb3
 have HU := Aside0.mk hun
 have hgw3 : g < w3.heap.size := Nat.lt_of_lt_of_le hgw2 hz3
 clear hcl hdel hsort hR1 hb1 hR2 hb2 hz2 hgw2 hR3 hb3 hz3 hperm hsrt hun hn hfl hgw hcap
 go_loopg [4, 6, 7, 15] ys.length (fun gg s4 s6 s7 s15 wr => ∃ k : Nat, s15 = .int .i64 k ∧ k ≤ ys.length ∧ Aside0 (ys.length - k ≤ gg) ∧ Aside0 (Kd.R k44 44 wr (g + 1) (fun _ => True) s4 ((ys.take k).foldl stepU [])) ∧ Aside0 (Below (g + 1) w3 wr))
 case atStart => exact ⟨0, rfl, Nat.zero_le _, ⟨by omega⟩, ⟨Kd.R_nil _ _ _ _ _⟩, ⟨Below.refl _ _⟩⟩
 case round =>
  obtain ⟨k, rfl, hk, HM, HO, HB⟩ := hrel
  by_cases hlt : k < ys.length
  ·have hltz : (k : Int) < (ys.length : Int) := by omega
   obtain ⟨y, hy⟩ : ∃ y, ys[k]? = some y := ⟨_, List.getElem?_eq_getElem hlt⟩
   obtain ⟨cx0, cx1, cx2, fx0, fx1, fx2⟩ := (HY.out.same (HB.out.block g (Nat.lt_succ_self g))).at0 hy
   have hstep : (ys.take (k + 1)).foldl stepU [] = stepU ((ys.take k).foldl stepU []) y := by rw [List.take_add_one, hy, List.foldl_append]; rfl
   have hLl : ((ys.take k).foldl stepU []).length ≤ k := by have := fold_len (ys.take k) []; rw [List.length_take] at this; simp at this; omega
   generalize (ys.take k).foldl stepU [] = L at HO hstep hLl
   have HS := Aside0.mk hstep
   have hzr : g + 1 ≤ wr.heap.size := Nat.le_trans hgw3 HB.out.size
   clear hstep hy
   obtain ⟨A, c, rfl⟩ := Kd.R_slice HO.out
   rcases List.eq_nil_or_concat L with rfl | ⟨o, l, eL⟩
   ·have hl40 : (([] : List S44).length + 1) * 40 ≤ 140737488355328 := by decide
    cases hq : y.f2 with
    | true =>
     rw [hq] at cx2
     have hs : stepU [] y = [] ++ [⟨y.f0, ⟨#[]⟩, true⟩] := by unfold stepU cleanR; rw [if_pos hq]; rfl
     go_wp2_with ((with_reducible refine gate_builtin (b := .append) (xs := #[.tmp 25, .tmp 27]) rfl ?_); at_builtin; refine app3 (w0 := w3) (base := g + 1) rfl (.tmp 25) (.tmp 27) rfl (.slice A 0 c) ([] : List S44) (⟨y.f0, ⟨#[]⟩, true⟩ : S44) rfl rfl (size_alloc1 _ _) (Kd.R_alloc HO.out _) (HB.out.alloc hzr _) (Nat.le_trans hzr (by rw [← size_alloc1]; exact Nat.le_succ _)) hl40 ?_; intro v1 w4 ho hb)
     go_roundg (ys.length - (k + 1))
     case measure => have := HM.out; omega
     case rel => exact ⟨k + 1, by go_num, hlt, ⟨Nat.le_refl _⟩, ⟨by rw [HS.out, hs]; exact ho⟩, ⟨hb⟩⟩
    | false =>
     rw [hq] at cx2
     have hs : stepU [] y = [] ++ [⟨y.f0, y.f1, false⟩] := by unfold stepU cleanR; rw [if_neg (by rw [hq]; decide)]; cases y; cases hq; rfl
     go_wp2_with ((with_reducible refine gate_builtin (b := .append) (xs := #[.tmp 25, .tmp 27]) rfl ?_); at_builtin; refine app3 (w0 := w3) (base := g + 1) rfl (.tmp 25) (.tmp 27) rfl (.slice A 0 c) ([] : List S44) (⟨y.f0, y.f1, false⟩ : S44) rfl rfl (size_alloc1 _ _) (Kd.R_alloc HO.out _) (HB.out.alloc hzr _) (Nat.le_trans hzr (by rw [← size_alloc1]; exact Nat.le_succ _)) hl40 ?_; intro v1 w4 ho hb)
     go_roundg (ys.length - (k + 1))
     case measure => have := HM.out; omega
     case rel => exact ⟨k + 1, by go_num, hlt, ⟨Nat.le_refl _⟩, ⟨by rw [HS.out, hs]; exact ho⟩, ⟨hb⟩⟩
   ·rw [List.concat_eq_append] at eL
    subst eL
    obtain ⟨g2, c2, e2⟩ := own3_head HO.out (by simp)
    rw [e2] at HO ⊢
    clear e2
    have hlen1 : (o ++ [l]).length = o.length + 1 := by simp
    have HP := Aside0.mk (own3_parts HO.out)
    have hg2 : g2 < wr.heap.size := HP.out.2.2.2.2.1.lt (by simp)
    have hD := fun ob => (HP.out.2.2.2.2.1.alloc hg2 ob).at0 (i := o.length) (x := l) (by simp)
    have dx0 := fun ob => (hD ob).1
    have dx1 := fun ob => (hD ob).2.1
    have dx2 := fun ob => (hD ob).2.2.1
    have gx1 := fun ob => (hD ob).2.2.2.2.1
    have gx2 := fun ob => (hD ob).2.2.2.2.2
    clear hD
    rw [hlen1] at HO ⊢ hLl
    have hwi : True → wrap64 (((o.length + 1 : Nat) : Int) - 1) = (o.length : Int) := fun _ => by rw [Go.IntWalk.wrap64_in _ (by omega)]; omega
    have hil : (o.length : Int) < ((o.length + 1 : Nat) : Int) := by omega
    replace hwi := hwi trivial
    cases hq : y.f2 with
    | true =>
     rw [hq] at cx2
     cases hql : l.f2 with
     | true =>
      rw [hql] at dx2
      have hs : stepU (o ++ [l]) y = o ++ [l] := by unfold stepU; rw [List.getLast?_concat]; simp only [hql, if_true]
      go_wp2
      go_roundg (ys.length - (k + 1))
      case measure => have := HM.out; omega
      case rel => exact ⟨k + 1, by go_num, hlt, ⟨Nat.le_refl _⟩, ⟨by rw [HS.out, hs]; exact Kd.R_alloc HO.out _⟩, ⟨HB.out.alloc hzr _⟩⟩
     | false =>
      rw [hql] at dx2
      by_cases hc : bs l.f1 < bs y.f0
      ·have hcm : Op.bytesLess l.f1.toList y.f0.toList = true := by rw [bless_eq]; exact decide_eq_true hc
       have hs : stepU (o ++ [l]) y = (o ++ [l]) ++ [⟨y.f0, ⟨#[]⟩, true⟩] := by unfold stepU cleanR; rw [List.getLast?_concat]; simp only [hql, hq, if_true, if_false, hc, Bool.false_eq_true]
       have hl40 : ((o ++ [l]).length + 1) * 40 ≤ 140737488355328 := by rw [hlen1]; omega
       go_wp2
       go_quiet (fail)
       go_wp2_with ((with_reducible refine gate_builtin (b := .append) (xs := #[.tmp 57, .tmp 59]) rfl ?_); at_builtin; refine app3 (w0 := w3) (base := g + 1) rfl (.tmp 57) (.tmp 59) rfl (.slice (some ⟨g2, 0, none⟩) (o.length + 1) c2) (o ++ [l]) (⟨y.f0, ⟨#[]⟩, true⟩ : S44) rfl rfl (size_alloc1 _ _) (Kd.R_drewN (Kd.R_alloc HO.out _) _) (pw_below_drewN (HB.out.alloc hzr _) _) (Nat.le_trans hzr (by rw [show ∀ (W : World) q, (W.drewN q).heap.size = W.heap.size from fun _ _ => rfl, ← size_alloc1]; exact Nat.le_succ _)) hl40 ?_; intro v1 w4 ho hb)
       go_roundg (ys.length - (k + 1))
       case measure => have := HM.out; omega
       case rel => exact ⟨k + 1, by go_num, hlt, ⟨Nat.le_refl _⟩, ⟨by rw [HS.out, hs]; exact ho⟩, ⟨hb⟩⟩
      ·have hcm : Op.bytesLess l.f1.toList y.f0.toList = false := by rw [bless_eq]; exact decide_eq_false hc
       go_wp2
       go_quiet (fail)
       go_wp2
       have hset : ∀ z l : S44, (o ++ [l]).set o.length z = o ++ [z] := by intro z l; simp
       have hs : stepU (o ++ [l]) y = o ++ [⟨l.f0, ⟨#[]⟩, true⟩] := by unfold stepU cleanR; rw [List.getLast?_concat, List.dropLast_concat]; simp only [hql, hq, if_true, if_false, hc, Bool.false_eq_true]
       have hO1 := put3 (Kd.R_drewN (Kd.R_alloc HO.out (.cells #[.string y.f0, .string ⟨#[]⟩, .bool true] 44)) nq) (i := o.length) (x := l) (by simp) ⟨l.f0, l.f1, true⟩ 2 (.bool true) rfl (by intro j hj; rcases j with _ | _ | _ | j <;> first | rfl | exact absurd rfl hj)
       rw [hset] at hO1
       have hO2 := put3 hO1 (i := o.length) (x := ⟨l.f0, l.f1, true⟩) (by simp) ⟨l.f0, ⟨#[]⟩, true⟩ 1 (.string ⟨#[]⟩) rfl (by intro j hj; rcases j with _ | _ | _ | j <;> first | rfl | exact absurd rfl hj)
       rw [hset] at hO2
       have hge := HP.out.2.1
       have hB2 := ((pw_below_drewN (HB.out.alloc hzr (.cells #[.string y.f0, .string ⟨#[]⟩, .bool true] 44)) nq).setCell (p := ⟨g2, o.length * 3 + 2, none⟩) hge (.bool true)).setCell (p := ⟨g2, o.length * 3 + 1, none⟩) hge (.string ⟨#[]⟩)
       go_roundg (ys.length - (k + 1))
       case measure => have := HM.out; omega
       case rel => exact ⟨k + 1, by go_num, hlt, ⟨Nat.le_refl _⟩, ⟨by rw [HS.out, hs]; exact hO2⟩, ⟨hB2⟩⟩
    | false =>
     rw [hq] at cx2
     cases hql : l.f2 with
     | true =>
      rw [hql] at dx2
      have hs : stepU (o ++ [l]) y = o ++ [l] := by unfold stepU; rw [List.getLast?_concat]; simp only [hql, if_true]
      go_wp2
      go_roundg (ys.length - (k + 1))
      case measure => have := HM.out; omega
      case rel => exact ⟨k + 1, by go_num, hlt, ⟨Nat.le_refl _⟩, ⟨by rw [HS.out, hs]; exact Kd.R_alloc HO.out _⟩, ⟨HB.out.alloc hzr _⟩⟩
     | false =>
      rw [hql] at dx2
      by_cases hc : bs l.f1 < bs y.f0
      ·have hcm : Op.bytesLess l.f1.toList y.f0.toList = true := by rw [bless_eq]; exact decide_eq_true hc
       have hs : stepU (o ++ [l]) y = (o ++ [l]) ++ [⟨y.f0, y.f1, false⟩] := by unfold stepU cleanR; rw [List.getLast?_concat]; simp only [hql, hq, if_true, if_false, hc, Bool.false_eq_true]; cases y; cases hq; rfl
       have hl40 : ((o ++ [l]).length + 1) * 40 ≤ 140737488355328 := by rw [hlen1]; omega
       go_wp2
       go_quiet (fail)
       go_wp2_with ((with_reducible refine gate_builtin (b := .append) (xs := #[.tmp 57, .tmp 59]) rfl ?_); at_builtin; refine app3 (w0 := w3) (base := g + 1) rfl (.tmp 57) (.tmp 59) rfl (.slice (some ⟨g2, 0, none⟩) (o.length + 1) c2) (o ++ [l]) (⟨y.f0, y.f1, false⟩ : S44) rfl rfl (size_alloc1 _ _) (Kd.R_drewN (Kd.R_alloc HO.out _) _) (pw_below_drewN (HB.out.alloc hzr _) _) (Nat.le_trans hzr (by rw [show ∀ (W : World) q, (W.drewN q).heap.size = W.heap.size from fun _ _ => rfl, ← size_alloc1]; exact Nat.le_succ _)) hl40 ?_; intro v1 w4 ho hb)
       go_roundg (ys.length - (k + 1))
       case measure => have := HM.out; omega
       case rel => exact ⟨k + 1, by go_num, hlt, ⟨Nat.le_refl _⟩, ⟨by rw [HS.out, hs]; exact ho⟩, ⟨hb⟩⟩
      ·have hcm : Op.bytesLess l.f1.toList y.f0.toList = false := by rw [bless_eq]; exact decide_eq_false hc
       go_wp2
       go_quiet (fail)
       go_wp2
       go_region
       go_wp2
       have hset : ∀ z l : S44, (o ++ [l]).set o.length z = o ++ [z] := by intro z l; simp
       have hs : stepU (o ++ [l]) y = o ++ [⟨l.f0, Go.Lib.maxS l.f1 y.f1, l.f2⟩] := by unfold stepU cleanR; rw [List.getLast?_concat, List.dropLast_concat]; simp only [hql, hq, if_true, if_false, hc, Bool.false_eq_true]
       have hO1 := put3 (Kd.R_drewN (Kd.R_alloc HO.out (.cells #[.string y.f0, .string y.f1, .bool false] 44)) (nq + 1)) (i := o.length) (x := l) (by simp) ⟨l.f0, Go.Lib.maxS l.f1 y.f1, l.f2⟩ 1 (.string (Go.Lib.maxS l.f1 y.f1)) rfl (by intro j hj; rcases j with _ | _ | _ | j <;> first | rfl | exact absurd rfl hj)
       rw [hset] at hO1
       have hge := HP.out.2.1
       have hB2 := (pw_below_drewN (HB.out.alloc hzr (.cells #[.string y.f0, .string y.f1, .bool false] 44)) (nq + 1)).setCell (p := ⟨g2, o.length * 3 + 1, none⟩) hge (.string (Go.Lib.maxS l.f1 y.f1))
       go_roundg (ys.length - (k + 1))
       case measure => have := HM.out; omega
       case rel => exact ⟨k + 1, by go_num, hlt, ⟨Nat.le_refl _⟩, ⟨by rw [HS.out, hs]; exact hO1⟩, ⟨hB2⟩⟩
  ·obtain rfl : k = ys.length := by omega
   have hltz : ¬ (ys.length : Int) < (ys.length : Int) := by omega
   have hfin := HO.out
   rw [List.take_length, HU.out] at hfin
   go_wp2
   go_ret
   exact ⟨_, rfl, Kd.R_lower hfin (Nat.le_succ_of_le hg), Below.trans HB3.out (HB.out.mono (Nat.le_succ_of_le hg))⟩
def code_Union.f (l0 : List S44) : Option (List S44) := if l0.length * 40 ≤ 140737488355328 then some (unionR l0) else none
theorem code_Union.calls (A0 : Option Addr) (c0 : Nat) (l0 : List S44) (r : List S44) (w : World) (hr0 : Kd.C k44 w A0 l0.length l0) (hc0 : l0.length ≤ c0) (h : code_Union.f l0 = some r) :
  Calls Tryz.prog 51 #[.slice A0 l0.length c0] w fun e w' => ∃ v0_, e = .returned v0_ ∧ Kd.R k44 44 w' w.heap.size (fun _ => True) v0_ r ∧ Below w.heap.size w w' := by
 unfold code_Union.f at h
 by_cases hl : l0.length * 40 ≤ 140737488355328
 ·rw [if_pos hl] at h
  obtain rfl := Option.some.inj h
  cases A0 with
  | some ad => exact union_some l0 ad c0 w hr0 hl
  | none =>
   obtain rfl : l0 = [] := by
    rcases Nat.eq_zero_or_pos l0.length with h0 | h0
    ·exact List.length_eq_zero_iff.1 h0
    ·obtain ⟨_, h1, _⟩ := hr0.2.2 h0
     cases h1
   exact (union_nil c0 w).mono fun e w' h => ⟨_, h.1, Kd.R_nil _ _ _ _ _, h.2⟩
 ·rw [if_neg hl] at h
  cases h
end Go.Proofs.YtldlenjfpjihdaaGreat.PA
end
section
namespace Go.Proofs.YtldlenjfpjihdaaGreat.PS
open Go Go.RowKit Go.Proofs Go.Maps Go.WideMaps Go.Proofs.YtldlenjfpjihdaaGreatW.PrintWords Go.Proofs.YtldlenjfpjihdaaGreatW.PrintLast Go.Proofs.YtldlenjfpjihdaaGreatW.PrintMore
set_option linter.unusedVariables false
set_option linter.unusedSimpArgs false
open Go.Proofs.YtldlenjfpjihdaaGreat.PU (unionR)
theorem own_ne {α β : Type} {d : Kd α} {d' : Kd β} {e e' b b' : Nat} {w : World} {ok ok' : Nat → Prop} {v v' : Value} {xs : List α} {ys : List β} (h : d.R e w b ok v xs) (h' : d'.R e' w b' ok' v' ys) (hne : e ≠ e') : ∀ k, some k = v.ownBlock → some k ≠ v'.ownBlock := by
  intro k hk hk'
  obtain ⟨c, hc⟩ := Kd.R_typed h k hk.symm
  obtain ⟨c', hc'⟩ := Kd.R_typed h' k hk'.symm
  rw [hc] at hc'
  injection hc' with hc'
  injection hc' with _ ht
  exact hne ht
theorem own_ne_blk {α : Type} {d : Kd α} {e b g t : Nat} {w : World} {ok : Nat → Prop} {v : Value} {xs : List α} {cs : Array Value} {fr : Nat × Nat} (h : d.R e w b ok v xs) (hb : w.heap[g]? = some (.cells cs t fr)) (hne : e ≠ t) : ∀ k, some k = v.ownBlock → k ≠ g := by
  intro k hk e1
  subst e1
  obtain ⟨c, hc⟩ := Kd.R_typed h k hk.symm
  rw [hc] at hb
  injection hb with hb
  injection hb with _ ht
  exact hne ht
theorem own_ne_map {α : Type} {d : Kd α} {e b m : Nat} {w : World} {ok : Nat → Prop} {v : Value} {xs : List α} (h : d.R e w b ok v xs) (hm : ∃ es clock, w.heap[m]? = some (.map es clock)) : ∀ k, some k = v.ownBlock → k ≠ m := by
  intro k hk e1
  subst e1
  obtain ⟨c, hc⟩ := Kd.R_typed h k hk.symm
  obtain ⟨es, clock, hm⟩ := hm
  rw [hm] at hc
  cases hc
theorem R_tight46 {w : World} {b : Nat} {ok : Nat → Prop} {v : Value} {xs : List S46} (h : Kd.R k46 46 w b ok v xs) : Kd.R k46 46 w b (fun k => some k = v.ownBlock) v xs :=
  ⟨fun k hk => hk.symm, h.2.imp_ (fun p cs hp => by rw [k46_openM hp]; exact k46_mkM _ _ _ p)⟩
theorem R_tight37 {w : World} {b : Nat} {ok : Nat → Prop} {v : Value} {xs : List S37} (h : Kd.R k37 37 w b ok v xs) : Kd.R k37 37 w b (fun k => some k = v.ownBlock) v xs :=
  ⟨fun k hk => hk.symm, h.2.imp_ (fun p cs hp => by rw [k37_openM hp]; exact k37_mkM _ _ _ p)⟩
def rowNow (S : List S46) (done : List SPl) (p : SPl) : List S44 := if p ∈ done then unionR (rangesAt S p) else rangesAt S p
structure NS (B m bo : Nat) (w1 w : World) (nn : Nat) (S : List S46) (done : List SPl) (vg : SPl → Value) (vp vs : Value) (pp : List S37) (sp : List S46) : Prop where
  mp : MapL w m nn (fun p => if hasPl S p = true then some (vg p) else none)
  row : ∀ p, Kd.R k44 44 w B (fun k => some k = (vg p).ownBlock) (vg p) (rowNow S done p)
  nil : ∀ p, hasPl S p = false → vg p = .slice none 0 0
  out : w.heap[bo]? = some (.cells #[vp, vs, .slice none 0 0] 25 (0, 0))
  rs : Kd.R k46 46 w B (fun k => some k = vs.ownBlock) vs sp
  rp : Kd.R k37 37 w B (fun k => some k = vp.ownBlock) vp pp
  low : Below B w1 w
  bm : B ≤ m
  bb : B ≤ bo
  le : B ≤ w1.heap.size
section
variable {B m bo nn : Nat} {w1 w w' : World} {S : List S46} {done : List SPl} {vg : SPl → Value} {vp vs : Value} {pp : List S37} {sp : List S46}
theorem NS.below (h : NS B m bo w1 w nn S done vg vp vs pp sp) (hb : Below w.heap.size w w') : NS B m bo w1 w' nn S done vg vp vs pp sp :=
  ⟨h.mp.below hb, fun p => Kd.R_below (h.row p) hb, h.nil, (hb.block bo (lt_of h.out)).trans h.out, Kd.R_below h.rs hb, Kd.R_below h.rp hb, Below.trans h.low (hb.mono (Nat.le_trans h.le h.low.size)), h.bm, h.bb, h.le⟩
theorem NS.lt (h : NS B m bo w1 w nn S done vg vp vs pp sp) : m < w.heap.size ∧ bo < w.heap.size := ⟨h.mp.lt, lt_of h.out⟩
theorem NS.ne (h : NS B m bo w1 w nn S done vg vp vs pp sp) : m ≠ bo := by
  intro e
  subst e
  obtain ⟨es, clock, hm⟩ := h.mp.blk
  have := h.out
  rw [hm] at this
  cases this
theorem NS.span (h : NS B m bo w1 w nn S done vg vp vs pp sp) {v1 : Value} {w2 : World} {x : S46} (hR : Kd.R k46 46 w2 B (fun _ => True) v1 (sp ++ [x])) (hg : w.grownBy w2 vs.ownBlock) :
    NS B m bo w1 (w2.setCell ⟨bo, 1, none⟩ v1) nn S done vg vp v1 pp (sp ++ [x]) := by
  have hz := h.lt
  have hm1 : w2.heap[m]? = w.heap[m]? := hg.block m hz.1 (fun e => own_ne_map h.rs h.mp.blk m e rfl)
  have hb1 : w2.heap[bo]? = some (.cells #[vp, vs, .slice none 0 0] 25 (0, 0)) := (hg.block bo hz.2 (fun e => own_ne_blk h.rs h.out (by decide) bo e rfl)).trans h.out
  have hrow : ∀ p, Kd.R k44 44 w2 B (fun k => some k = (vg p).ownBlock) (vg p) (rowNow S done p) := fun p => Kd.R_grown (h.row p) hg (own_ne (h.row p) h.rs (by decide))
  have hrp : Kd.R k37 37 w2 B (fun k => some k = vp.ownBlock) vp pp := Kd.R_grown h.rp hg (own_ne h.rp h.rs (by decide))
  refine ⟨(h.mp.same hm1).same ?_, fun p => Kd.R_far (hrow p) (own_ne_blk (hrow p) hb1 (by decide)) _, h.nil, ?_, Kd.R_far (R_tight46 hR) (own_ne_blk hR hb1 (by decide)) _, Kd.R_far hrp (own_ne_blk hrp hb1 (by decide)) _, ?_, h.bm, h.bb, h.le⟩
  · exact Below.heap_setCell _ _ _ _ h.ne
  · have := setCell_heap (i := 1) hb1 v1
    simpa using this
  · exact (h.low.grown hg (Nat.le_trans h.le h.low.size) (fun k e => Kd.R_base h.rs k e)).setCell (p := ⟨bo, 1, none⟩) h.bb _
theorem NS.point (h : NS B m bo w1 w nn S done vg vp vs pp sp) {v1 : Value} {w2 : World} {x : S37} (hR : Kd.R k37 37 w2 B (fun _ => True) v1 (pp ++ [x])) (hg : w.grownBy w2 vp.ownBlock) :
    NS B m bo w1 (w2.setCell ⟨bo, 0, none⟩ v1) nn S done vg v1 vs (pp ++ [x]) sp := by
  have hz := h.lt
  have hm1 : w2.heap[m]? = w.heap[m]? := hg.block m hz.1 (fun e => own_ne_map h.rp h.mp.blk m e rfl)
  have hb1 : w2.heap[bo]? = some (.cells #[vp, vs, .slice none 0 0] 25 (0, 0)) := (hg.block bo hz.2 (fun e => own_ne_blk h.rp h.out (by decide) bo e rfl)).trans h.out
  have hrow : ∀ p, Kd.R k44 44 w2 B (fun k => some k = (vg p).ownBlock) (vg p) (rowNow S done p) := fun p => Kd.R_grown (h.row p) hg (own_ne (h.row p) h.rp (by decide))
  have hrs : Kd.R k46 46 w2 B (fun k => some k = vs.ownBlock) vs sp := Kd.R_grown h.rs hg (own_ne h.rs h.rp (by decide))
  refine ⟨(h.mp.same hm1).same ?_, fun p => Kd.R_far (hrow p) (own_ne_blk (hrow p) hb1 (by decide)) _, h.nil, ?_, Kd.R_far hrs (own_ne_blk hrs hb1 (by decide)) _, Kd.R_far (R_tight37 hR) (own_ne_blk hR hb1 (by decide)) _, ?_, h.bm, h.bb, h.le⟩
  · exact Below.heap_setCell _ _ _ _ h.ne
  · have := setCell_heap (i := 0) hb1 v1
    simpa using this
  · exact (h.low.grown hg (Nat.le_trans h.le h.low.size) (fun k e => Kd.R_base h.rp k e)).setCell (p := ⟨bo, 0, none⟩) h.bb _
theorem NS.union (h : NS B m bo w1 w nn S done vg vp vs pp sp) (hn : nn < maxLen) {p : SPl} (hp : wfL p) (hh : hasPl S p = true) (hd : p ∉ done) {u : Value} (hu : Kd.R k44 44 w B (fun _ => True) u (unionR (rangesAt S p))) :
    ∃ w3, (Instr.mapUpdate 67 (.map (some m)) (lv p) u).run Tryz.prog w = .ok () w3 ∧ NS B m bo w1 w3 (nn + 1) S (done ++ [p]) (upd vg p u) vp vs pp sp ∧ w.grownBy w3 (some m) := by
  obtain ⟨w3, hrun, hM, hg⟩ := h.mp.put KL Tryz.underlying67 hn hp u
  have hmb := h.mp.blk
  have hz := h.lt
  refine ⟨w3, hrun, ⟨hM.congr (fun q hq => ?_), fun q => ?_, fun q hq => ?_, (hg.block bo hz.2 (fun e => h.ne (Option.some.inj e).symm)).trans h.out, Kd.R_grown h.rs hg (fun k hk e => own_ne_map h.rs hmb k hk (Option.some.inj e)), Kd.R_grown h.rp hg (fun k hk e => own_ne_map h.rp hmb k hk (Option.some.inj e)), h.low.grown hg (Nat.le_trans h.le h.low.size) (fun k e => by cases e; exact h.bm), h.bm, h.bb, h.le⟩, hg⟩
  · unfold upd
    by_cases e : q = p
    · subst e; simp [hh]
    · simp [e]
  · unfold upd rowNow
    by_cases e : q = p
    · subst e
      rw [if_pos rfl, if_pos (by simp)]
      exact Kd.R_grown (R_tight hu) hg (fun k hk e => own_ne_map hu hmb k hk (Option.some.inj e))
    · rw [if_neg e]
      have : (q ∈ done ++ [p]) ↔ q ∈ done := by simp [e]
      have hr := h.row q
      unfold rowNow at hr
      simp only [this]
      exact Kd.R_grown hr hg (fun k hk e => own_ne_map hr hmb k hk (Option.some.inj e))
  · unfold upd
    rw [if_neg (fun e => by subst e; rw [hh] at hq; cases hq)]
    exact h.nil q hq
end
theorem OwnG.below {α : Type} {enc : α → List Value} {C K base : Nat} {w w' : World} {v : Value} {xs : List α} (h : OwnG enc C K w base v xs) (hb : Below w.heap.size w w') : OwnG enc C K w' base v xs := by
  rcases h with h | ⟨g, cap, cur, e, h1, h2, h3, h4, h5, h6⟩
  · exact .inl h
  · exact .inr ⟨g, cap, cur, e, h1, (hb.block g (lt_of h2)).trans h2, h3, h4, h5, h6.same (hb.block g (lt_of h2))⟩
theorem OwnG.grown {α : Type} {enc : α → List Value} {C K base : Nat} {w w' : World} {row : Option Nat} {v : Value} {xs : List α} (h : OwnG enc C K w base v xs) (hg : w.grownBy w' row) (hr : ∀ k cur, row = some k → w.heap[k]? ≠ some (.cells cur K (0, 0))) : OwnG enc C K w' base v xs := by
  rcases h with h | ⟨g, cap, cur, e, h1, h2, h3, h4, h5, h6⟩
  · exact .inl h
  · have := hg.block g (lt_of h2) (fun e => hr g cur e.symm h2)
    exact .inr ⟨g, cap, cur, e, h1, this.trans h2, h3, h4, h5, h6.same this⟩
theorem OwnG.read {α : Type} {enc : α → List Value} {C K base : Nat} {w : World} {v : Value} {xs : List α} (h : OwnG enc C K w base v xs) : ∃ A c, v = .slice A xs.length c ∧ xs.length ≤ c ∧ ∀ (i : Nat) (x : α), xs[i]? = some x → ∃ g, A = some ⟨g, 0, none⟩ ∧ base ≤ g ∧ g < w.heap.size ∧ ∀ (j : Nat) (u : Value), (enc x)[j]? = some u → w.cell? ⟨g, i * C + j, none⟩ = some u := by
  rcases h with ⟨rfl, rfl⟩ | ⟨g, cap, cur, rfl, h1, h2, h3, h4, h5, h6⟩
  · exact ⟨none, 0, rfl, Nat.le_refl _, fun i x hx => by simp at hx⟩
  · exact ⟨_, cap, rfl, h3, fun i x hx => ⟨g, rfl, h1, lt_of h2, fun j u hu => (h6 i x hx j u hu).1⟩⟩
theorem reps_flat {α : Type} {R : α → List Value → Prop} {enc : α → List Value} {C : Nat} (hk : ∀ x, (enc x).length = C) (hR : ∀ x cs, R x cs → cs = enc x) : ∀ (xs : List α) (cs : List Value), Reps R C xs cs → cs = xs.flatMap enc
  | [], cs, h => by
    have := h.1
    simp at this
    simpa using this
  | x :: r, cs, h => by
    have h1 := h.1
    have hx := hR x _ (h.2 0 x rfl)
    rw [Nat.zero_mul, List.drop_zero] at hx
    have h2 : Reps R C r (cs.drop C) := by
      refine ⟨by rw [List.length_drop, h1, List.length_cons, Nat.succ_mul]; omega, fun j p hj => ?_⟩
      have := h.2 (j + 1) p (by simpa using hj)
      rwa [List.drop_drop, show C + j * C = (j + 1) * C by rw [Nat.succ_mul]; omega]
    rw [List.flatMap_cons, ← reps_flat hk hR r _ h2, ← hx, List.take_append_drop]
theorem OwnG.of_R37 {w : World} {b : Nat} {ok : Nat → Prop} {v : Value} {xs : List S37} (h : Kd.R k37 37 w b ok v xs) : OwnG enc37 3 37 w b v xs := by
  obtain ⟨_, inner, ho, hr⟩ := h
  have := reps_flat (enc := enc37) (C := 3) (fun _ => rfl) (fun x cs hx => k37_openM hx) xs inner hr
  subst this
  exact OwnG.of_own (enc := enc37) (C := 3) (fun _ => rfl) ho
theorem OwnG.of_R46 {w : World} {b : Nat} {ok : Nat → Prop} {v : Value} {xs : List S46} (h : Kd.R k46 46 w b ok v xs) : OwnG enc46 5 46 w b v xs := by
  obtain ⟨_, inner, ho, hr⟩ := h
  have := reps_flat (enc := enc46) (C := 5) (fun _ => rfl) (fun x cs hx => k46_openM hx) xs inner hr
  subst this
  exact OwnG.of_own (enc := enc46) (C := 5) (fun _ => rfl) ho
theorem OwnG.C37 {w : World} {b : Nat} {v : Value} {xs : List S37} (h : OwnG enc37 3 37 w b v xs) : ∃ A c, v = .slice A xs.length c ∧ xs.length ≤ c ∧ Kd.C k37 w A xs.length xs := by
  rcases h with ⟨rfl, rfl⟩ | ⟨g, cap, cur, rfl, h1, h2, h3, h4, h5, h6⟩
  · exact ⟨none, 0, rfl, Nat.le_refl _, (Kd.R_reads' (Kd.R_nil k37 37 w 0 (fun _ => True))).2.2⟩
  · exact ⟨_, cap, rfl, h3, RowP.C h6 (by unfold maxLen at h4; omega)⟩
theorem OwnG.C46 {w : World} {b : Nat} {v : Value} {xs : List S46} (h : OwnG enc46 5 46 w b v xs) : ∃ A c, v = .slice A xs.length c ∧ xs.length ≤ c ∧ Kd.C k46 w A xs.length xs := by
  rcases h with ⟨rfl, rfl⟩ | ⟨g, cap, cur, rfl, h1, h2, h3, h4, h5, h6⟩
  · exact ⟨none, 0, rfl, Nat.le_refl _, (Kd.R_reads' (Kd.R_nil k46 46 w 0 (fun _ => True))).2.2⟩
  · exact ⟨_, cap, rfl, h3, RowS.C h6 (by unfold maxLen at h4; omega)⟩
structure FtO (w : World) (b : Nat) (v : Value) (f : Ft) (v0 v1 v2 : Value) : Prop where
  eq : v = .agg #[v0, v1, v2]
  h0 : OwnG enc37 3 37 w b v0 f.ps
  h1 : OwnG enc46 5 46 w b v1 f.ss
  h2 : OwnG enc37 3 37 w b v2 f.ws
  ne : ∀ k, v0.ownBlock = some k → v2.ownBlock ≠ some k
theorem FtO.V {w : World} {b : Nat} {v : Value} {f : Ft} {v0 v1 v2 : Value} (h : FtO w b v f v0 v1 v2) : FtV w v f := by
  obtain ⟨A0, c0, e0, l0, C0⟩ := h.h0.C37
  obtain ⟨A1, c1, e1, l1, C1⟩ := h.h1.C46
  obtain ⟨A2, c2, e2, l2, C2⟩ := h.h2.C37
  exact ⟨A0, A1, A2, c0, c1, c2, by rw [h.eq, e0, e1, e2]; rfl, C0, l0, C1, l1, C2, l2⟩
theorem FtO.below {w w' : World} {b : Nat} {v : Value} {f : Ft} {v0 v1 v2 : Value} (h : FtO w b v f v0 v1 v2) (hb : Below w.heap.size w w') : FtO w' b v f v0 v1 v2 := ⟨h.eq, h.h0.below hb, h.h1.below hb, h.h2.below hb, h.ne⟩
structure NormOf (f g : Ft) (pl : List SPl) : Prop where
  sp : pl.Pairwise ltL
  mp : ∀ p, p ∈ pl ↔ hasPl f.ss p = true
  ss : g.ss = pl.flatMap (fun p => (unionR (rangesAt f.ss p)).map (fun r => ⟨p.f0, p.f1, r⟩))
  ps : ∃ q, Sorts f.ps q ∧ g.ps = q.filter (fun x => !((unionR (rangesAt f.ss ⟨x.f0, x.f1⟩)).any (fun r => hasB r x.f2)))
  ws : Sorts f.ws g.ws
set_option maxHeartbeats 4000000 in
theorem norm2_any (r : S44) (p : S37) (b : Nat) (w : World) (hb : w.heap[b]? = some (pO p)) :
    Calls Tryz.prog 54 (#[.agg #[.string r.f0, .string r.f1, .bool r.f2]] ++ #[.pointer (some ⟨b, 0, none⟩)]) w fun e w' => e = .returned (.bool (hasB r p.f2)) ∧ Below w.heap.size w w' := by
  have h2 : w.cell? ⟨b, 2, none⟩ = some (.string p.f2) := cell_of hb 2
  have hlt := lt_of hb
  have n1 : (b = w.heap.size) = False := eq_false (by omega)
  clear hb
  have hh := fun W => chas_any r p.f2 W
  go_enter Tryz.func54, Tryz.ntmps54
  go_wp2_with (go_at_call 36; refine (hh _).mono ?_; rintro e w' ⟨rfl, hB⟩)
  go_ret
  exact ⟨rfl, below_step (below_alloc (Below.refl _ _) _) hB⟩
theorem enter54 : ∀ args w, (callFunc 54 args).run Tryz.prog w = .ok (.enter 54 args) w := fun args w => by simp [go_sem]
theorem contf_rng (p : S37) (b : Nat) (A : Option Addr) (xs : List S44) (c : Nat) (w : World) (hC : Kd.C k44 w A xs.length xs) (hb : w.heap[b]? = some (pO p)) :
    Calls Tryz.prog 53 #[.slice A xs.length c, .func (.func 54) #[] #[.pointer (some ⟨b, 0, none⟩)]] w fun e w' => e = .returned (.bool (xs.any (fun r => hasB r p.f2))) ∧ Below w.heap.size w w' := by
  have hi := PA.idxf_rng (fun r => hasB r p.f2) 54 #[.pointer (some ⟨b, 0, none⟩)] enter54 A xs c w hC (fun W x hW => (norm2_any x p b W ((hW.block _ (lt_of hb)).trans hb)).mono fun e w' h => ⟨h.1, Below.trans hW (h.2.mono hW.size)⟩)
  clear hb hC
  go_enter Tryz.func53, Tryz.ntmps53
  go_wp2_with (go_at_call 77; refine hi.mono ?_; rintro e w' ⟨rfl, hb⟩)
  go_ret
  exact ⟨by rw [← idxF_nonneg]; rfl, hb⟩
theorem app37b {ops : Array Oper} {rest : List Oper} {o : Oper} {a : Act} {Q : Exit → Act → World → Prop} (W : World) (hgd : o.guard = none) (s x : Operand) (ho : o.op = .call { callee := .builtin .append, args := #[s, x], argTypes := #[22, 22] })
    (b : Nat) (v : Value) (xs : List S37) (p : S37) (hs : a.eval s = v) (g : Nat) (hx : a.eval x = .slice (some ⟨g, 0, none⟩) 1 1) (hg : W.heap[g]? = some (.cells #[.int .i64 p.f0, .int .i64 p.f1, .string p.f2] 37 (0, 0)))
    (HO : Kd.R k37 37 W b (fun _ => True) v xs) (hbase : b ≤ W.heap.size) (hl : (xs.length + 1) * 32 ≤ 140737488355328)
    (h : ∀ v1 w1, Kd.R k37 37 w1 b (fun _ => True) v1 (xs ++ [p]) → W.grownBy w1 v.ownBlock → (v1.ownBlock = v.ownBlock ∨ v1.ownBlock = some W.heap.size) → wpList Tryz.prog ops Q rest (a.put o.dst v1) w1) :
    wpList Tryz.prog ops Q (o :: rest) a W := by
  obtain ⟨i0, hi, hz0, hz1, hz2⟩ := info_parts info37
  obtain ⟨h0, inner, hown, hr⟩ := HO
  have hown' : W.ownsRow b 37 3 v xs.length inner := hown
  refine wpList_append_own_at W hgd s x 22 ho b 37 i0 _ 3 32 Tryz.underlying22 hi hz0 hz1 hz2 rfl (by decide) v xs.length inner hs hown' ⟨g, 0, none⟩ 1 1 [.int .i64 p.f0, .int .i64 p.f1, .string p.f2] hx rfl (World.news_of_block hg) (by intro u hu; simp at hu; rcases hu with rfl | rfl | rfl <;> rfl) (by unfold maxLen; omega) hl hbase ?_
  intro v1 w1 hown1 hg1 hnil hat
  exact h v1 w1 (Kd.R_appended h0 hr (k37_mkM W b (fun _ => False) p) (fun k hk => hk.elim) (fun _ _ => trivial) hown1 hg1 (by rcases hat with h | h; exact .inl h; exact .inr ⟨_, h, Nat.le_refl _⟩)) hg1 hat
theorem app46 {ops : Array Oper} {rest : List Oper} {o : Oper} {a : Act} {Q : Exit → Act → World → Prop} (W : World) (hgd : o.guard = none) (s x : Operand) (ho : o.op = .call { callee := .builtin .append, args := #[s, x], argTypes := #[23, 23] })
    (b : Nat) (v : Value) (xs : List S46) (p : S46) (hs : a.eval s = v) (g : Nat) (hx : a.eval x = .slice (some ⟨g, 0, none⟩) 1 1) (hg : W.heap[g]? = some (.cells #[.int .i64 p.f0, .int .i64 p.f1, .string p.f2.f0, .string p.f2.f1, .bool p.f2.f2] 46 (0, 0)))
    (HO : Kd.R k46 46 W b (fun _ => True) v xs) (hbase : b ≤ W.heap.size) (hl : (xs.length + 1) * 56 ≤ 140737488355328)
    (h : ∀ v1 w1, Kd.R k46 46 w1 b (fun _ => True) v1 (xs ++ [p]) → W.grownBy w1 v.ownBlock → (v1.ownBlock = v.ownBlock ∨ v1.ownBlock = some W.heap.size) → wpList Tryz.prog ops Q rest (a.put o.dst v1) w1) :
    wpList Tryz.prog ops Q (o :: rest) a W := by
  obtain ⟨i0, hi, hz0, hz1, hz2⟩ := info_parts info46
  obtain ⟨h0, inner, hown, hr⟩ := HO
  have hown' : W.ownsRow b 46 5 v xs.length inner := hown
  refine wpList_append_own_at W hgd s x 23 ho b 46 i0 _ 5 56 Tryz.underlying23 hi hz0 hz1 hz2 rfl (by decide) v xs.length inner hs hown' ⟨g, 0, none⟩ 1 1 [.int .i64 p.f0, .int .i64 p.f1, .string p.f2.f0, .string p.f2.f1, .bool p.f2.f2] hx rfl (World.news_of_block hg) (by intro u hu; simp at hu; rcases hu with rfl | rfl | rfl | rfl | rfl <;> rfl) (by unfold maxLen; omega) hl hbase ?_
  intro v1 w1 hown1 hg1 hnil hat
  exact h v1 w1 (Kd.R_appended h0 hr (k46_mkM W b (fun _ => False) p) (fun k hk => hk.elim) (fun _ _ => trivial) hown1 hg1 (by rcases hat with h | h; exact .inl h; exact .inr ⟨_, h, Nat.le_refl _⟩)) hg1 hat
theorem R_loose37 {w : World} {b : Nat} {ok : Nat → Prop} {v : Value} {xs : List S37} (h : Kd.R k37 37 w b ok v xs) : Kd.R k37 37 w b (fun _ => True) v xs := Kd.R_mono h (fun _ _ => trivial)
theorem R_loose46 {w : World} {b : Nat} {ok : Nat → Prop} {v : Value} {xs : List S46} (h : Kd.R k46 46 w b ok v xs) : Kd.R k46 46 w b (fun _ => True) v xs := Kd.R_mono h (fun _ _ => trivial)
section
variable {B m bo nn : Nat} {w1 w w' : World} {S : List S46} {done : List SPl} {vg : SPl → Value} {vp vs : Value} {pp : List S37} {sp : List S46}
theorem NS.new (h : GM B m w nn S vg) (hl : Below B w1 w) (hm : B ≤ m) (hle : B ≤ w1.heap.size) : NS B m w.heap.size w1 (w.alloc (.cells #[.slice none 0 0, .slice none 0 0, .slice none 0 0] 25)) nn S [] vg (.slice none 0 0) (.slice none 0 0) [] [] := by
  have hb := below_alloc (Below.refl w.heap.size w) (.cells #[.slice none 0 0, .slice none 0 0, .slice none 0 0] 25)
  refine ⟨h.mp.below hb, fun p => ?_, h.nil, heap_new _ _, Kd.R_nil _ _ _ _ _, Kd.R_nil _ _ _ _ _, Below.trans hl (hb.mono (Nat.le_trans hle hl.size)), hm, Nat.le_trans hle hl.size, hle⟩
  have := Kd.R_below (h.row p) hb
  unfold rowNow
  simpa using this
theorem NS.outS (h : NS B m bo w1 w nn S done vg vp vs pp sp) (hg : w.grownBy w' vs.ownBlock) : w'.heap[bo]? = some (.cells #[vp, vs, .slice none 0 0] 25 (0, 0)) := (hg.block bo h.lt.2 (fun e => own_ne_blk h.rs h.out (by decide) bo e rfl)).trans h.out
theorem NS.outP (h : NS B m bo w1 w nn S done vg vp vs pp sp) (hg : w.grownBy w' vp.ownBlock) : w'.heap[bo]? = some (.cells #[vp, vs, .slice none 0 0] 25 (0, 0)) := (hg.block bo h.lt.2 (fun e => own_ne_blk h.rp h.out (by decide) bo e rfl)).trans h.out
theorem NS.look (h : NS B m bo w1 w nn S done vg vp vs pp sp) {p : SPl} (hp : wfL p) : (Instr.lookup 67 (.map (some m)) (.agg #[.int .i64 p.f0, .int .i64 p.f1]) false).run Tryz.prog w = .ok (vg p) w := by
  have := MapF.look KL h.mp Tryz.underlying67 (z := .slice none 0 0) (Tryz.zeroValue70 w) hp
  unfold lv at this
  cases hh : hasPl S p with
  | true => rw [hh] at this; simpa using this
  | false => rw [hh] at this; rw [h.nil p hh]; simpa using this
theorem NS.farS (h : NS B m bo w1 w nn S done vg vp vs pp sp) {g t : Nat} {cs : Array Value} {fr : Nat × Nat} (hb : w.heap[g]? = some (.cells cs t fr)) (h1 : (46 : Nat) ≠ t) (h2 : g ≠ bo) {w2 : World} (hg : w.grownBy w2 vs.ownBlock) (v1 : Value) (i : Nat) : (w2.setCell ⟨bo, i, none⟩ v1).heap[g]? = w.heap[g]? :=
  (Below.heap_setCell _ _ _ _ h2).trans (hg.block g (lt_of hb) (fun e => own_ne_blk h.rs hb h1 g e rfl))
theorem NS.farM (h : NS B m bo w1 w nn S done vg vp vs pp sp) {g t : Nat} {cs : Array Value} {fr : Nat × Nat} (hb : w.heap[g]? = some (.cells cs t fr)) {w2 : World} (hg : w.grownBy w2 (some m)) : w2.heap[g]? = w.heap[g]? :=
  hg.block g (lt_of hb) (fun e => by obtain ⟨es, c, hm⟩ := h.mp.blk; have e1 := Option.some.inj e; subst e1; rw [hm] at hb; cases hb)
end
theorem OwnG.same {α : Type} {enc : α → List Value} {C K base : Nat} {w w' : World} {v : Value} {xs : List α} (h : OwnG enc C K w base v xs) (hb : ∀ g cur, v.ownBlock = some g → w.heap[g]? = some (.cells cur K (0, 0)) → w'.heap[g]? = w.heap[g]?) : OwnG enc C K w' base v xs := by
  rcases h with h | ⟨g, cap, cur, rfl, h1, h2, h3, h4, h5, h6⟩
  · exact .inl h
  · have := hb g cur rfl h2
    exact .inr ⟨g, cap, cur, rfl, h1, this.trans h2, h3, h4, h5, h6.same this⟩
theorem OwnG.own_lt {α : Type} {enc : α → List Value} {C K base : Nat} {w : World} {v : Value} {xs : List α} (h : OwnG enc C K w base v xs) {k : Nat} (hk : v.ownBlock = some k) : k < w.heap.size ∧ base ≤ k := by
  rcases h with ⟨rfl, _⟩ | ⟨g, cap, cur, rfl, h1, h2, _⟩
  · simp [Value.ownBlock] at hk
  · have : g = k := by simpa [Value.ownBlock] using hk
    subst this
    exact ⟨lt_of h2, h1⟩
theorem at_L {w : World} {b : Nat} {A : Option Addr} {n c : Nat} {xs : List SPl} (h : OwnG encL 2 69 w b (.slice A n c) xs) (k : Nat) (hk : k < xs.length) : ∃ (ad : Addr) (p : SPl), A = some ad ∧ xs[k]? = some p ∧ w.cell? (ad.add (k * 2)) = some (.int .i64 p.f0) ∧ w.cell? ⟨(ad.add (k * 2)).block, (ad.add (k * 2)).off + 1, none⟩ = some (.int .i64 p.f1) := by
  rcases h with ⟨h1, rfl⟩ | ⟨g, cap, cur, e, h1, h2, h3, h4, h5, h6⟩
  · simp at hk
  · cases e
    have hx := List.getElem?_eq_getElem hk
    have e0 := (h6 k _ hx 0 _ rfl).1
    have e1 := (h6 k _ hx 1 _ rfl).1
    refine ⟨_, xs[k], rfl, hx, ?_, ?_⟩
    · rw [add_plain]; exact e0
    · rw [add_plain]; exact e1
theorem rd44 {L : List S44} {i : Nat} {x : S44} (h : L[i]? = some x) : rd_T44 L (i : Int) = x := by unfold rd_T44; simp [List.getD, h]
theorem take_notMem {l : List SPl} (hs : l.Pairwise ltL) {k : Nat} {p : SPl} (hp : l[k]? = some p) : p ∉ l.take k := by
  intro hm
  obtain ⟨j, hj, rfl⟩ := List.mem_take_iff_getElem.1 hm
  have hk := (List.getElem?_eq_some_iff.1 hp).1
  have h2 := (List.getElem?_eq_some_iff.1 hp).2
  have := List.pairwise_iff_getElem.1 hs j k (by omega) hk (by omega)
  rw [h2] at this
  exact ltL_irrefl _ this
theorem rowNow_all {S : List S46} {r : List SPl} (hm : ∀ p, p ∈ r ↔ hasPl S p = true) (p : SPl) : rowNow S r p = unionR (rangesAt S p) := by
  unfold rowNow
  by_cases h : p ∈ r
  · rw [if_pos h]
  · rw [if_neg h, rangesAt_none (by rw [← Bool.not_eq_true]; exact fun e => h ((hm p).2 e))]
    rfl
end Go.Proofs.YtldlenjfpjihdaaGreat.PS
end
section
namespace Go.Proofs.YtldlenjfpjihdaaGreat.PS
open Go Go.RowKit Go.Proofs Go.Maps Go.WideMaps Go.Proofs.YtldlenjfpjihdaaGreatW.PrintWords Go.Proofs.YtldlenjfpjihdaaGreatW.PrintLast Go.Proofs.YtldlenjfpjihdaaGreatW.PrintMore
set_option linter.unusedVariables false
open Go.Proofs.YtldlenjfpjihdaaGreat.PU (unionR stepU sortR neR sortR_perm)
theorem stepU_len (out : List S44) (r : S44) : (stepU out r).length ≤ out.length + 1 := by
  unfold stepU
  dsimp only
  split
  · simp
  · rename_i l hl
    have hne : out ≠ [] := by intro e; subst e; simp at hl
    have := List.length_pos_iff.2 hne
    repeat' split
    all_goals (try simp only [List.length_append, List.length_dropLast, List.length_cons, List.length_nil])
    all_goals omega
theorem foldU_len : ∀ (l out : List S44), (l.foldl stepU out).length ≤ out.length + l.length
  | [], out => by simp
  | x :: r, out => by
    have h1 := foldU_len r (stepU out x)
    have h2 := stepU_len out x
    rw [List.foldl_cons, List.length_cons]
    omega
theorem unionR_len (l : List S44) : (unionR l).length ≤ l.length := by
  have h1 := foldU_len (sortR (neR l)) []
  have h2 := (sortR_perm (neR l)).length_eq
  have h3 : (neR l).length ≤ l.length := List.length_filter_le _ _
  unfold unionR
  simp only [List.length_nil] at h1
  omega
theorem flat_len {α β : Type} (F : α → List β) (N : Nat) : ∀ (l : List α), (∀ x, (F x).length ≤ N) → (l.flatMap F).length ≤ l.length * N
  | [], _ => by simp
  | x :: r, h => by
    have h1 := flat_len F N r h
    have h2 := h x
    rw [List.flatMap_cons, List.length_append, List.length_cons, Nat.succ_mul]
    omega
theorem spans_len (S : List S46) (hS : S.length ≤ 65536) (r : List SPl) (hr : r.length ≤ 65536) : (r.flatMap (fun p => (unionR (rangesAt S p)).map (fun x => (⟨p.f0, p.f1, x⟩ : S46)))).length ≤ 4294967296 := by
  have := flat_len (fun p : SPl => (unionR (rangesAt S p)).map (fun x => (⟨p.f0, p.f1, x⟩ : S46))) 65536 r (fun p => by
    have h1 := unionR_len (rangesAt S p)
    have h2 := rangesAt_len S p
    rw [List.length_map]; omega)
  omega
theorem OwnG.setc {α : Type} {enc : α → List Value} {C K base b t : Nat} {w : World} {v : Value} {xs : List α} {cs : Array Value} {fr : Nat × Nat} (h : OwnG enc C K w base v xs) (hb : w.heap[b]? = some (.cells cs t fr)) (ht : K ≠ t) (i : Nat) (u : Value) : OwnG enc C K (w.setCell ⟨b, i, none⟩ u) base v xs :=
  h.same (fun g cur h1 h2 => Below.heap_setCell _ _ _ _ (fun e => by subst e; rw [h2] at hb; injection hb with hb; injection hb with _ hb; exact ht hb))
theorem setc_typed {b t : Nat} {w : World} {cs : Array Value} (hb : w.heap[b]? = some (.cells cs t (0, 0))) (c i : Nat) (u : Value) : ∃ cs', (w.setCell ⟨c, i, none⟩ u).heap[b]? = some (.cells cs' t (0, 0)) := by
  by_cases e : b = c
  · subst e
    exact ⟨_, setCell_heap hb u⟩
  · exact ⟨cs, (Below.heap_setCell _ _ _ _ e).trans hb⟩
theorem own_ne_lt {w : World} {b : Nat} {v v' : Value} {xs ys : List S37} (h : OwnG enc37 3 37 w b v xs) {w' : World} {n' : Nat} (h' : OwnG enc37 3 37 w' n' v' ys) (hn : w.heap.size ≤ n') : ∀ k, v.ownBlock = some k → v'.ownBlock ≠ some k := fun k h1 h2 => by
  have := (h.own_lt h1).1
  have := (h'.own_lt h2).2
  omega
end Go.Proofs.YtldlenjfpjihdaaGreat.PS
end
section
namespace Go.Proofs.YtldlenjfpjihdaaGreat.PS
open Go Go.RowKit Go.Proofs Go.Maps Go.WideMaps Go.Proofs.YtldlenjfpjihdaaGreatW.PrintWords Go.Proofs.YtldlenjfpjihdaaGreatW.PrintLast Go.Proofs.YtldlenjfpjihdaaGreatW.PrintMore
set_option linter.unusedVariables false
set_option linter.unusedSimpArgs false
open Go.Proofs.YtldlenjfpjihdaaGreat.PU (unionR)
def T20_13 : Bool × List (List Nat × List Nat) := (true, [([], []), ([], []), ([], []), ([], []), ([2, 3], [2, 3]), ([4], [4]), ([0, 1, 5, 5, 0, 1, 2, 3, 4, 5], [0, 1, 5])])
theorem tab20_13 : rtab .any (opsOf Tryz.f20 13) = T20_13 := by kernel_rfl
def ftO (A0 A1 A2 : Option Addr) (c0 c1 c2 : Nat) (f : Ft) : Obj := .cells #[.slice A0 f.ps.length c0, .slice A1 f.ss.length c1, .slice A2 f.ws.length c2] 25
def zFt : Obj := .cells #[.slice none 0 0, .slice none 0 0, .slice none 0 0] 25
set_option maxHeartbeats 16000000 in
set_option maxRecDepth 100000 in
theorem norm_any (f : Ft) (A0 A1 A2 : Option Addr) (c0 c1 c2 : Nat) (w : World) (hf : FtR w A0 A1 A2 c0 c1 c2 f) (hw : f.wf) (hws : ∀ s ∈ f.ss, wfL (plS s)) (hn : f.ps.length + f.ss.length + f.ws.length ≤ 65536) :
    Calls Tryz.prog 20 #[.agg #[.slice A0 f.ps.length c0, .slice A1 f.ss.length c1, .slice A2 f.ws.length c2]] w fun e w' => ∃ (g : Ft) (pl : List SPl) (v v0 v1 v2 : Value), e = .returned v ∧ NormOf f g pl ∧ FtO w' w.heap.size v g v0 v1 v2 ∧ Below w.heap.size w w' := by
  generalize hW : ((w.alloc (ftO A0 A1 A2 c0 c1 c2 f)).alloc zFt).alloc (.map #[] 0) = w1
  have hB1 : Below w.heap.size w w1 := by rw [← hW]; exact below_alloc (below_alloc (below_alloc (Below.refl _ _) _) _) _
  have b0 : w1.heap[w.heap.size]? = some (ftO A0 A1 A2 c0 c1 c2 f) := by rw [← hW]; exact heap_old (heap_old (heap_new _ _))
  have b1 : w1.heap[w.heap.size + 1]? = some zFt := by rw [← hW]; have := heap_new (w.alloc (ftO A0 A1 A2 c0 c1 c2 f)) zFt; rw [size_new] at this; exact heap_old this
  have hG1 : GM (w.heap.size + 1 + 1) (w.heap.size + 1 + 1) w1 0 [] (fun _ => .slice none 0 0) := by
    rw [← hW]
    have := GM.new ((w.alloc (ftO A0 A1 A2 c0 c1 c2 f)).alloc zFt) (w.heap.size + 1 + 1)
    rwa [size_new, size_new] at this
  have hz1 : w1.heap.size = w.heap.size + 1 + 1 + 1 := by rw [← hW, size_new, size_new, size_new]
  have hmm := @run_makeMap Tryz.prog
  have HF := Aside0.mk hf
  have HWf := Aside0.mk hw
  have HWs := Aside0.mk hws
  have HB1 := Aside0.mk hB1
  have HZ1 := Aside0.mk hz1
  have D0 := Aside0.mk b0
  have D1 := Aside0.mk b1
  have HG1 := Aside0.mk hG1
  unfold ftO zFt at hW
  have HW := Aside0.mk hW
  clear hW hB1 b0 b1 hG1 hf hw hws hz1
  go_enter Tryz.func20, Tryz.ntmps20
  go_wp2_with fail
  rw [HW.out]
  clear HW
  have m1 : w1.cell? ⟨w.heap.size, 1, none⟩ = some (.slice A1 f.ss.length c1) := cell_of D0.out 1
  go_wp2
  clear m1
  go_loopg [19] f.ss.length (fun gg s19 wr => ∃ (k : Nat) (vf : SPl → Value), s19 = .int .i64 k ∧ k ≤ f.ss.length ∧ Aside0 (f.ss.length - k ≤ gg) ∧ Aside0 (GM (w.heap.size + 1 + 1) (w.heap.size + 1 + 1) wr k (f.ss.take k) vf) ∧ Aside0 (Below (w.heap.size + 1 + 1) w1 wr))
  case atStart => exact ⟨0, _, rfl, Nat.zero_le _, ⟨Nat.le_refl _⟩, ⟨HG1.out⟩, ⟨Below.refl _ _⟩⟩
  case round =>
    clear HG1
    obtain ⟨k, vf, rfl, hk, HM, HG, HB⟩ := hrel
    have HBw := Aside0.mk (Below.trans HB1.out (HB.out.mono (by omega)) : Below w.heap.size w wr)
    by_cases hlt : k < f.ss.length
    · have hltz : (k : Int) < (f.ss.length : Int) := by omega
      obtain ⟨ad, ea, a0, a1, a2, a3, a4⟩ := at_T46 HF.out.h1 (k : Int) (by omega) hltz
      subst ea
      obtain ⟨y, hy⟩ := ex_get hlt
      rw [rd46 hy] at a0 a1 a2 a3 a4
      simp only [Int.toNat_natCast] at a0 a1 a2 a3 a4
      replace a0 := (HBw.out.cell (World.block_lt_of_cell? _ _ a0)).trans a0
      replace a1 := (HBw.out.cell (World.block_lt_of_cell? _ _ a1)).trans a1
      replace a2 := (HBw.out.cell (World.block_lt_of_cell? _ _ a2)).trans a2
      replace a3 := (HBw.out.cell (World.block_lt_of_cell? _ _ a3)).trans a3
      replace a4 := (HBw.out.cell (World.block_lt_of_cell? _ _ a4)).trans a4
      generalize hW3 : ((wr.alloc (.cells #[.int .i64 y.f0, .int .i64 y.f1, .string y.f2.f0, .string y.f2.f1, .bool y.f2.f2] 46)).alloc (.cells #[.int .i64 y.f0, .int .i64 y.f1] 69)).alloc (.cells #[.string y.f2.f0, .string y.f2.f1, .bool y.f2.f2] 44) = W3
      have hB3 : Below wr.heap.size wr W3 := by rw [← hW3]; exact below_alloc (below_alloc (below_alloc (Below.refl _ _) _) _) _
      have hx3 : W3.heap[wr.heap.size + 1 + 1]? = some (.cells #[.string y.f2.f0, .string y.f2.f1, .bool y.f2.f2] 44 (0, 0)) := by
        rw [← hW3]
        have := heap_new ((wr.alloc (.cells #[.int .i64 y.f0, .int .i64 y.f1, .string y.f2.f0, .string y.f2.f1, .bool y.f2.f2] 46)).alloc (.cells #[.int .i64 y.f0, .int .i64 y.f1] 69)) (.cells #[.string y.f2.f0, .string y.f2.f1, .bool y.f2.f2] 44)
        rwa [size_new, size_new] at this
      have hmlt := HG.out.mp.lt
      have hyw := HWs.out y (List.mem_of_getElem? hy)
      obtain ⟨st, wE, hrun, hgE, hzE, hRE, hstep⟩ := (HG.out.below hB3).step (by unfold maxLen; omega) hyw
      have hxE : wE.heap[wr.heap.size + 1 + 1]? = some (.cells #[.string y.f2.f0, .string y.f2.f1, .bool y.f2.f2] 44 (0, 0)) := (hgE.block _ (lt_of hx3) (fun e => by have := Option.some.inj e; omega)).trans hx3
      have hBE : Below (w.heap.size + 1 + 1) w1 wE := by
        have h1 := Below.trans HB.out (hB3.mono (by omega))
        exact h1.grown hgE (by have := hB3.size; omega) (fun k e => by cases e; exact Nat.le_refl _)
      have hlE := rangesAt_len (f.ss.take k) (plS y)
      have hlk : (f.ss.take k).length ≤ k := List.length_take_le _ _
      have hbE : w.heap.size + 1 + 1 ≤ wE.heap.size := by have := hBE.size; have := HZ1.out; omega
      rw [← take_snoc hy] at hstep
      have hrun' : (Instr.mapEntry 67 (.map (some (w.heap.size + 1 + 1))) (.agg #[.int .i64 y.f0, .int .i64 y.f1])).run Tryz.prog (((wr.alloc (.cells #[.int .i64 y.f0, .int .i64 y.f1, .string y.f2.f0, .string y.f2.f1, .bool y.f2.f2] 46)).alloc (.cells #[.int .i64 y.f0, .int .i64 y.f1] 69)).alloc (.cells #[.string y.f2.f0, .string y.f2.f1, .bool y.f2.f2] 44)) = .ok (.tuple #[vf (plS y), .int .i64 st]) wE := by rw [hW3]; exact hrun
      have HStep := Aside0.mk hstep
      have HRE := Aside0.mk hRE
      have HXE := Aside0.mk hxE
      have HBE := Aside0.mk hBE
      have HbE := Aside0.mk hbE
      have hll : ((rangesAt (f.ss.take k) (plS y)).length + 1) * 40 ≤ 140737488355328 := by omega
      have HLL := Aside0.mk hll
      have HHy := Aside0.mk hy
      clear hW3 hB3 hx3 hstep hRE hxE hBE hbE hlE hlk hll hrun hy hyw hgE hzE
      generalize hpv : vf (plS y) = pvv at *
      have HPV := Aside0.mk hpv
      clear hpv
      go_wp2_with ((with_reducible refine gate_builtin (b := .append) (xs := #[.tmp 30, .tmp 33]) rfl ?_); at_builtin; (refine app44 wE rfl (.tmp 30) (.tmp 33) rfl (w.heap.size + 1 + 1) pvv (rangesAt (f.ss.take k) (plS y)) y.f2 rfl (wr.heap.size + 1 + 1) rfl HXE.out HRE.out HbE.out HLL.out ?_); intro v' w2 hv' hg2 hat2; obtain ⟨w3, hst, hG3, hg3, hz3⟩ := HStep.out v' w2 hv' hg2 hat2; have HG3 := Aside0.mk hG3; have HB3 := Aside0.mk ((HBE.out.grown hg2 HbE.out (fun k e => Kd.R_base HRE.out k e)).grown hg3 (Nat.le_trans HbE.out hg2.size) (fun k e => by cases e; exact Nat.le_refl _)); clear hv' hg2 hat2 hG3 hg3 hz3)
      go_roundg (f.ss.length - (k + 1))
      case measure => have := HM.out; omega
      case rel => exact ⟨k + 1, _, by go_num, hlt, ⟨Nat.le_refl _⟩, ⟨HG3.out⟩, ⟨HB3.out⟩⟩
    · obtain ⟨wq, hwq⟩ : ∃ x, x = wr := ⟨_, rfl⟩
      subst hwq
      obtain rfl : k = f.ss.length := by omega
      have hltz : ¬ (f.ss.length : Int) < (f.ss.length : Int) := by omega
      have hG := HG.out
      rw [List.take_length] at hG
      generalize hWa : wq.alloc (.cells #[.slice none 0 0, .slice none 0 0, .slice none 0 0] 25) = wa
      have hNS := NS.new hG HB.out (Nat.le_refl _) (by have := HZ1.out; omega)
      rw [hWa] at hNS
      obtain ⟨D, ho, hh⟩ := hNS.mp
      have hmem : ∀ p, p ∈ f.ss.map plS ↔ hasPl f.ss p = true := fun p => by
        unfold hasPl
        rw [List.mem_map, List.any_eq_true]
        exact ⟨fun ⟨s, h1, h2⟩ => ⟨s, h1, (atP_iff s p).2 h2⟩, fun ⟨s, h1, h2⟩ => ⟨s, h1, (atP_iff s p).1 h2⟩⟩
      have hS := PLsorted (w.heap.size + 1 + 1) f.ss.length D (f.ss.map plS) wa ho (fun x hx => by
        rw [(hh x hx).1, hmem]
        dsimp only
        cases hasPl f.ss x with
        | true => exact ⟨fun _ => rfl, fun _ => rfl⟩
        | false => exact ⟨fun h => (by cases h), fun h => (by cases h)⟩) (fun x hx => by
        obtain ⟨s, h1, rfl⟩ := List.mem_map.1 hx
        exact HWs.out s h1) (by omega)
      have HS := Aside0.mk hS
      have HNS := Aside0.mk hNS
      have HMem := Aside0.mk hmem
      have HWa := Aside0.mk hWa
      clear ho hh hS hNS hmem hG HG hWa
      go_wp2_with fail
      rw [HWa.out]
      clear HWa
      refine (PLkeys (some (w.heap.size + 1 + 1)) wa).mono ?_
      rintro e w4 ⟨rfl, rfl⟩
      --@A
      go_wp2_with (go_at_call 46; refine HS.out.mono ?_; rintro e w5 ⟨v, r, rfl, h1, h2, h3, h4, h5⟩; have H4 := Aside0.mk (OwnG_lower h4 (Nat.le_trans HNS.out.le HNS.out.low.size) : OwnG encL 2 69 w5 (w.heap.size + 1 + 1) v r); obtain ⟨Ap, cp, rfl, hcp, -⟩ := h4.read; have H1 := Aside0.mk h1; have H2 := Aside0.mk (fun p => (h2 p).trans (HMem.out p)); have H3 := Aside0.mk h3; have HNS5 := Aside0.mk (HNS.out.below h5); clear h1 h2 h3 h4 h5 HS HNS)
      have hrl : r.length ≤ 65536 := by have := H3.out; omega
      --@B
      go_loopg [43] r.length (fun gg s43 w6 => ∃ (k : Nat) (vg : SPl → Value) (vs : Value) (sp : List S46), s43 = .int .i64 k ∧ k ≤ r.length ∧ Aside0 (r.length - k ≤ gg) ∧ Aside0 (NS (w.heap.size + 1 + 1) (w.heap.size + 1 + 1) wq.heap.size w1 w6 (f.ss.length + k) f.ss (r.take k) vg (.slice none 0 0) vs [] sp) ∧ Aside0 (sp = (r.take k).flatMap (fun p => (unionR (rangesAt f.ss p)).map (fun x => ⟨p.f0, p.f1, x⟩))) ∧ Aside0 (OwnG encL 2 69 w6 (w.heap.size + 1 + 1) (.slice Ap r.length cp) r))
      case atStart => exact ⟨0, _, _, _, rfl, Nat.zero_le _, ⟨Nat.le_refl _⟩, ⟨HNS5.out⟩, ⟨rfl⟩, ⟨H4.out⟩⟩
      case round =>
        clear H4 HNS5
        obtain ⟨w6, hwq⟩ : ∃ x, x = wr := ⟨_, rfl⟩
        subst hwq
        obtain ⟨k, vg, vs, sp, rfl, hk, HM6, HN6, HSp, HO6⟩ := hrel
        by_cases hlt2 : k < r.length
        · have hltz2 : (k : Int) < (r.length : Int) := by omega
          obtain ⟨ad, y, ea, hy, a0, a1⟩ := at_L HO6.out k hlt2
          subst ea
          have hyk : (y ∈ r) := List.mem_of_getElem? hy
          have hhy : hasPl f.ss y = true := (H2.out y).1 hyk
          have hyw : wfL y := by
            obtain ⟨s, h1, h2⟩ := List.any_eq_true.1 hhy
            rw [← (atP_iff s y).1 h2]
            exact HWs.out s h1
          have hyd : y ∉ r.take k := take_notMem H1.out hy
          have HHy := Aside0.mk hhy
          have HYw := Aside0.mk hyw
          have HYd := Aside0.mk hyd
          have HYy := Aside0.mk hy
          generalize hW2 : w6.alloc (.cells #[.int .i64 y.f0, .int .i64 y.f1] 69) = W2
          have hB2 : Below w6.heap.size w6 W2 := by rw [← hW2]; exact below_alloc (Below.refl _ _) _
          have b2 : W2.heap[w6.heap.size]? = some (.cells #[.int .i64 y.f0, .int .i64 y.f1] 69 (0, 0)) := by rw [← hW2]; exact heap_new _ _
          have hO2 : OwnG encL 2 69 W2 (w.heap.size + 1 + 1) (.slice (some ad) r.length cp) r := HO6.out.below hB2
          have HN2 := Aside0.mk (HN6.out.below hB2)
          have HO2 := Aside0.mk hO2
          have HB2 := Aside0.mk hB2
          have HX2 := Aside0.mk b2
          have HW2 := Aside0.mk hW2
          clear hW2 hB2 b2 hO2 hyk hhy hyw hyd hy HO6
          --@C
          go_wp2_with fail
          --@D
          rw [HW2.out]
          clear HW2
          have hrow := HN2.out.row y
          rw [show rowNow f.ss (r.take k) y = rangesAt f.ss y from if_neg HYd.out] at hrow
          obtain ⟨Ag, cg, hvg⟩ := Kd.R_slice hrow
          rw [hvg] at hrow
          have hlk := HN2.out.look HYw.out
          rw [hvg] at hlk
          have HRow := Aside0.mk (Kd.R_reads' hrow)
          have c0_ : W2.cell? ⟨w6.heap.size, 0, none⟩ = some (.int .i64 y.f0) := cell_of HX2.out 0
          have c1_ : W2.cell? ⟨w6.heap.size, 1, none⟩ = some (.int .i64 y.f1) := cell_of HX2.out 1
          have hcel : ∀ W', Below W2.heap.size W2 W' → (W'.cell? ⟨w6.heap.size, 0, none⟩ = some (.int .i64 y.f0) ∧ W'.cell? ⟨w6.heap.size, 1, none⟩ = some (.int .i64 y.f1) ∧ (Instr.lookup 67 (.map (some (w.heap.size + 1 + 1))) (.agg #[.int .i64 y.f0, .int .i64 y.f1]) false).run Tryz.prog W' = .ok (.slice Ag (rangesAt f.ss y).length cg) W') := fun W' hW' => by
            have hl := (HN2.out.below hW').look HYw.out
            rw [hvg] at hl
            exact ⟨(hW'.cell (World.block_lt_of_cell? _ _ c0_)).trans c0_, (hW'.cell (World.block_lt_of_cell? _ _ c1_)).trans c1_, hl⟩
          have HCel := Aside0.mk hcel
          clear hcel hlk hrow
          --@E
          refine start_ (n := 7) (S := fun w' => w'.cell? ⟨w6.heap.size, 0, none⟩ = some (.int .i64 y.f0) ∧ w'.cell? ⟨w6.heap.size, 1, none⟩ = some (.int .i64 y.f1) ∧ (Instr.lookup 67 (.map (some (w.heap.size + 1 + 1))) (.agg #[.int .i64 y.f0, .int .i64 y.f1]) false).run Tryz.prog w' = .ok (.slice Ag (rangesAt f.ss y).length cg) w') (ds := [6]) #[false, false, false, false, false, false, false] (by kernel_rfl) rfl rfl (HCel.out _ (below_drew1 (Below.refl _ _))) (fun hHeld => ?_); refine with_tab tab20_13 (fun HT_ => ?_)
          have HBA := Aside0.mk (below_drew1 (Below.refl W2.heap.size W2))
          generalize W2.drew = wA at HBA hHeld ⊢
          clear c0_ c1_
          refine pure_ (i := 0) (N := some 47) (v := ?_) (a' := ?_) #[true, false, false, false, false, false, false] rfl rfl (any_of HT_.out (by kernel_rfl)) (fun _ _ _ h => h) (Or.inl ⟨by rfl, ?_⟩) ?_ ?_
          rotate_left
          · intro w'
            go_simp
            with_reducible rfl
          rotate_left
          · simp only [Act.put, List.setIfInBounds_toArray, List.set_cons_zero, List.set_cons_succ, i64_w, i32_w]
            rfl
          refine pure_ (i := 2) (N := some 49) (v := ?_) (a' := ?_) #[true, false, true, false, false, false, false] rfl rfl (any_of HT_.out (by kernel_rfl)) (fun _ _ _ h => h) (Or.inl ⟨by rfl, ?_⟩) ?_ ?_
          rotate_left
          · intro w'
            go_simp
            with_reducible rfl
          rotate_left
          · simp only [Act.put, List.setIfInBounds_toArray, List.set_cons_zero, List.set_cons_succ, i64_w, i32_w]
            rfl
          refine take_ (i := 1) (N := some 48) (v := ?_) (a' := ?_) #[true, true, true, false, false, false, false] rfl rfl (take_of HT_.out (by kernel_rfl)) (fun _ _ _ h => h) (Or.inl ⟨by rfl, ?_⟩) hHeld ?_ ?_
          rotate_left
          · rintro w' ⟨s0, s1, s2⟩
            go_simp
            with_reducible rfl
          rotate_left
          · simp only [Act.put, List.setIfInBounds_toArray, List.set_cons_zero, List.set_cons_succ, i64_w, i32_w]
            rfl
          refine take_ (i := 3) (N := some 50) (v := ?_) (a' := ?_) #[true, true, true, true, false, false, false] rfl rfl (take_of HT_.out (by kernel_rfl)) (fun _ _ _ h => h) (Or.inl ⟨by rfl, ?_⟩) hHeld ?_ ?_
          rotate_left
          · rintro w' ⟨s0, s1, s2⟩
            go_simp
            with_reducible rfl
          rotate_left
          · simp only [Act.put, List.setIfInBounds_toArray, List.set_cons_zero, List.set_cons_succ, i64_w, i32_w]
            rfl
          refine take_ (i := 4) (N := some 51) (v := ?_) (a' := ?_) #[true, true, true, true, true, false, false] rfl rfl (take_of HT_.out (by kernel_rfl)) (fun _ _ _ h => h) (Or.inl ⟨by rfl, ?_⟩) hHeld ?_ ?_
          rotate_left
          · rintro w' ⟨s0, s1, s2⟩
            go_simp
            with_reducible rfl
          rotate_left
          · simp only [Act.put, List.setIfInBounds_toArray, List.set_cons_zero, List.set_cons_succ, i64_w, i32_w]
            rfl
          --@F
          refine one_ (i := 5) (N := some 52) #[true, true, true, true, true, true, false] rfl rfl (one_of HT_.out (by kernel_rfl)) (by decide) (fun K hK => ?_)
          refine goes_ Tryz.func51 (by kernel_rfl) rfl #[.slice Ag (rangesAt f.ss y).length cg] (by rfl) rfl rfl (by (try simp only [List.map_toArray, List.map_cons, List.map_nil]); first | done | rfl) ?_
          refine (PA.code_Union.calls Ag cg (rangesAt f.ss y) (unionR (rangesAt f.ss y)) wA (Kd.C_below HRow.out.2.2 HBA.out) HRow.out.2.1 (by unfold PA.code_Union.f; rw [if_pos (by have := rangesAt_len f.ss y; omega)])).mono ?_
          rintro e wC ⟨u, rfl, hu, hb⟩
          refine ⟨_, rfl, ?_⟩
          have HBC := Aside0.mk (Below.trans HBA.out (hb.mono HBA.out.size))
          have hlow : (w.heap.size + 1 + 1) ≤ wA.heap.size := by have h1 := HN2.out.le; have h2 := HN2.out.low.size; have h3 := HBA.out.size; omega
          have hu' : Kd.R k44 44 wC (w.heap.size + 1 + 1) (fun _ => True) u (unionR (rangesAt f.ss y)) := Kd.R_lower hu hlow
          obtain ⟨w8, hrun, hN8, hg8⟩ := (HN2.out.below HBC.out).union (by have := H3.out; unfold maxLen; omega) HYw.out HHy.out HYd.out hu'
          obtain ⟨Au, cu, hvu⟩ := Kd.R_slice hu'
          subst hvu
          have HRu := Aside0.mk (Kd.R_reads' hu')
          have HN8 := Aside0.mk hN8
          have hX8 := ((HN2.out.below HBC.out).farM ((HBC.out.block _ (lt_of HX2.out)).trans HX2.out) hg8).trans ((HBC.out.block _ (lt_of HX2.out)).trans HX2.out)
          have HX8 := Aside0.mk hX8
          have hO8 : OwnG encL 2 69 w8 (w.heap.size + 1 + 1) (.slice (some ad) r.length cp) r := (HO2.out.below HBC.out).same (fun g cur h1 h2 => (HN2.out.below HBC.out).farM h2 hg8)
          have HO8 := Aside0.mk hO8
          have HRun := Aside0.mk hrun
          clear hb hu hu' hlow hN8 hg8 hX8 hO8 hrun
          refine hK.out _ _ (HCel.out _ HBC.out) (fun hHeld => ?_)
          clear hK K
          refine norm_ (a' := ?_) ?_ ?_
          rotate_left
          · show Act.put _ (some 52) _ = _
            simp only [Act.put, List.setIfInBounds_toArray, List.set_cons_zero, List.set_cons_succ, i64_w, i32_w]
            rfl
          --@G
          have hrun := HRun.out
          unfold lv at hrun
          refine last_ (i := 6) (N := none) #[true, true, true, true, true, true, true] rfl rfl (one_of HT_.out (by kernel_rfl)) (by decide) (fun K hK => ?_)
          refine skip_ (w1 := ?_) (by rfl) rfl ?_ ?_
          rotate_left
          · go_simp
            rfl
          refine hK.out _ _ ?_
          refine done_ (done_of HT_.out (by kernel_rfl)) ?_
          have hlk8 := HN8.out.look HYw.out
          rw [show upd vg y _ y = _ from if_pos rfl] at hlk8
          have d0 : w8.cell? ⟨w6.heap.size, 0, none⟩ = some (.int .i64 y.f0) := cell_of HX8.out 0
          have d1 : w8.cell? ⟨w6.heap.size, 1, none⟩ = some (.int .i64 y.f1) := cell_of HX8.out 1
          have HLt := Aside0.mk HN6.out.lt.2
          have hul : (unionR (rangesAt f.ss y)).length ≤ 65536 := by have h1 := unionR_len (rangesAt f.ss y); have h2 := rangesAt_len f.ss y; omega
          clear hHeld HT_ hrun HRun HN6 HN2 HX2 HO2 HRow HCel HBA HBC
          --@H
          go_wp2
          clear hlk8 d0 d1
          --@I
          go_loopg [57] (unionR (rangesAt f.ss y)).length (fun gg s57 w9 => ∃ (k2 : Nat) (vs2 : Value), s57 = .int .i64 k2 ∧ k2 ≤ (unionR (rangesAt f.ss y)).length ∧ Aside0 ((unionR (rangesAt f.ss y)).length - k2 ≤ gg) ∧ Aside0 (NS (w.heap.size + 1 + 1) (w.heap.size + 1 + 1) wq.heap.size w1 w9 (f.ss.length + k + 1) f.ss (r.take k ++ [y]) (upd vg y (.slice Au (unionR (rangesAt f.ss y)).length cu)) (.slice none 0 0) vs2 [] (sp ++ ((unionR (rangesAt f.ss y)).take k2).map (fun x => ⟨y.f0, y.f1, x⟩))) ∧ Aside0 (w9.heap[w6.heap.size]? = some (.cells #[.int .i64 y.f0, .int .i64 y.f1] 69 (0, 0))) ∧ Aside0 (OwnG encL 2 69 w9 (w.heap.size + 1 + 1) (.slice (some ad) r.length cp) r))
          case atStart => exact ⟨0, vs, rfl, Nat.zero_le _, ⟨Nat.le_refl _⟩, ⟨by rw [List.take_zero, List.map_nil, List.append_nil]; exact HN8.out⟩, ⟨HX8.out⟩, ⟨HO8.out⟩⟩
          case round =>
            clear HN8 HX8 HO8
            obtain ⟨w9, hwq⟩ : ∃ x, x = wr := ⟨_, rfl⟩
            subst hwq
            obtain ⟨k2, vs2, rfl, hk2, HM9, HN9, HX9, HO9⟩ := hrel
            by_cases hlt3 : k2 < (unionR (rangesAt f.ss y)).length
            · have hltz3 : (k2 : Int) < ((unionR (rangesAt f.ss y)).length : Int) := by omega
              have hrow9 := HN9.out.row y
              rw [show rowNow f.ss (r.take k ++ [y]) y = unionR (rangesAt f.ss y) from if_pos (by simp), show upd vg y _ y = _ from if_pos rfl] at hrow9
              obtain ⟨adr, ea, b0, b1, b2⟩ := at_T44 (Kd.R_reads' hrow9).2.2 (k2 : Int) (by omega) hltz3
              subst ea
              obtain ⟨z, hz⟩ := ex_get hlt3
              rw [rd44 hz] at b0 b1 b2
              simp only [Int.toNat_natCast] at b0 b1 b2
              have HZz := Aside0.mk hz
              have d0 : w9.cell? ⟨w6.heap.size, 0, none⟩ = some (.int .i64 y.f0) := cell_of HX9.out 0
              have d1 : w9.cell? ⟨w6.heap.size, 1, none⟩ = some (.int .i64 y.f1) := cell_of HX9.out 1
              have o1 : w9.cell? ⟨wq.heap.size, 1, none⟩ = some vs2 := cell_of HN9.out.out 1
              have hB11 : Below w9.heap.size w9 ((w9.alloc (.cells #[.string z.f0, .string z.f1, .bool z.f2] 44)).alloc (.cells #[.int .i64 y.f0, .int .i64 y.f1, .string z.f0, .string z.f1, .bool z.f2] 46)) := below_alloc (below_alloc (Below.refl _ _) _) _
              have hX11 := heap_new (w9.alloc (.cells #[.string z.f0, .string z.f1, .bool z.f2] 44)) (.cells #[.int .i64 y.f0, .int .i64 y.f1, .string z.f0, .string z.f1, .bool z.f2] 46)
              rw [size_new] at hX11
              have HN11 := Aside0.mk (HN9.out.below hB11)
              have HX11 := Aside0.mk hX11
              have HXb := Aside0.mk ((hB11.block _ (lt_of HX9.out)).trans HX9.out)
              have HO11 := Aside0.mk (HO9.out.below hB11)
              have hbs : (w.heap.size + 1 + 1) ≤ ((w9.alloc (.cells #[.string z.f0, .string z.f1, .bool z.f2] 44)).alloc (.cells #[.int .i64 y.f0, .int .i64 y.f1, .string z.f0, .string z.f1, .bool z.f2] 46)).heap.size := by have h1 := HN11.out.le; have h2 := HN11.out.low.size; omega
              have HBs := Aside0.mk hbs
              have hll : ((sp ++ ((unionR (rangesAt f.ss y)).take k2).map (fun x => (⟨y.f0, y.f1, x⟩ : S46))).length + 1) * 56 ≤ 140737488355328 := by
                have h1 := spans_len f.ss (by omega) (r.take k) (by rw [List.length_take]; omega)
                rw [← HSp.out] at h1
                have h2 := List.length_take_le k2 (unionR (rangesAt f.ss y))
                rw [List.length_append, List.length_map]
                omega
              have HLL := Aside0.mk hll
              have hlow6 : (w6.heap.size = wq.heap.size) = False := eq_false (by have := HLt.out; omega)
              have hlow7 := lt_of HX9.out
              have hlow8 := HN9.out.lt.2
              have hne1 : (wq.heap.size = w9.heap.size) = False := eq_false (by omega)
              have hne2 : (w6.heap.size = w9.heap.size) = False := eq_false (by omega)
              have hlow9 : wq.heap.size < w9.heap.size := hlow8
              clear hrow9 hB11 hX11 hbs hll hz hlow8
              --@J
              go_wp2_with ((with_reducible refine gate_builtin (b := .append) (xs := #[.tmp 62, .tmp 69]) rfl ?_); at_builtin; (refine app46 ((w9.alloc (.cells #[.string z.f0, .string z.f1, .bool z.f2] 44)).alloc (.cells #[.int .i64 y.f0, .int .i64 y.f1, .string z.f0, .string z.f1, .bool z.f2] 46)) rfl (.tmp 62) (.tmp 69) rfl (w.heap.size + 1 + 1) vs2 (sp ++ ((unionR (rangesAt f.ss y)).take k2).map (fun x => (⟨y.f0, y.f1, x⟩ : S46))) ⟨y.f0, y.f1, z⟩ rfl (w9.heap.size + 1) rfl HX11.out (R_loose46 HN11.out.rs) HBs.out HLL.out ?_); intro v' w12 hv' hg12 hat; obtain ⟨Av, nv, cv, rfl⟩ : ∃ A n c, v' = Value.slice A n c := (by obtain ⟨A, c, h⟩ := Kd.R_slice hv'; exact ⟨A, _, c, h⟩); have hb12 := HN11.out.outS hg12; have o1 : w12.cell? ⟨wq.heap.size, 1, none⟩ = some vs2 := cell_of hb12 1; have of1 : w12.frozen? ⟨wq.heap.size, 1, none⟩ = false := frozen_of hb12 1; have HN13 := Aside0.mk (HN11.out.span hv' hg12); have HX13 := Aside0.mk ((HN11.out.farS HXb.out (by decide) (by have := HLt.out; omega) hg12 (.slice Av nv cv) 1).trans HXb.out); have HO13 := Aside0.mk (HO11.out.same (w' := w12.setCell ⟨wq.heap.size, 1, none⟩ (.slice Av nv cv)) (fun g cur h1 h2 => HN11.out.farS h2 (by decide) (by intro e; subst e; have := HN11.out.out.symm.trans h2; injection this with this; injection this with _ ht; exact absurd ht (by decide)) hg12 (.slice Av nv cv) 1)); clear hv' hg12 hat hb12)
              --@K
              go_roundg ((unionR (rangesAt f.ss y)).length - (k2 + 1))
              case measure => have := HM9.out; omega
              case rel => exact ⟨k2 + 1, _, by go_num, hlt3, ⟨Nat.le_refl _⟩, ⟨by rw [take_snoc HZz.out, List.map_append, ← List.append_assoc]; exact HN13.out⟩, HX13, HO13⟩
            · obtain rfl : k2 = (unionR (rangesAt f.ss y)).length := by omega
              have hltz3 : ¬ ((unionR (rangesAt f.ss y)).length : Int) < ((unionR (rangesAt f.ss y)).length : Int) := by omega
              have hN := HN9.out
              rw [List.take_length, ← take_snoc HYy.out] at hN
              have HN10 := Aside0.mk hN
              clear hN
              --@L
              go_wp2
              go_roundg (r.length - (k + 1))
              case measure => have := HM6.out; omega
              case rel => exact ⟨k + 1, _, _, _, by go_num, hlt2, ⟨Nat.le_refl _⟩, ⟨HN10.out⟩, ⟨by rw [HSp.out, take_snoc HYy.out, List.flatMap_append, List.flatMap_cons, List.flatMap_nil, List.append_nil]⟩, HO9⟩
        · obtain rfl : k = r.length := by omega
          have hltz2 : ¬ (r.length : Int) < (r.length : Int) := by omega
          have hN := HN6.out
          rw [List.take_length] at hN
          have hsp := HSp.out
          rw [List.take_length] at hsp
          have hx0 := (hN.low.block w.heap.size (by omega)).trans D0.out
          have hB6 : Below w.heap.size w w6 := Below.trans HB1.out (hN.low.mono (by omega))
          have m0 : w6.cell? ⟨w.heap.size, 0, none⟩ = some (.slice A0 f.ps.length c0) := cell_of hx0 0
          have HOn := Aside0.mk (once_any f.ps A0 c0 w6 (Kd.C_below HF.out.h0 hB6) (by omega) HWf.out.1)
          have HNa := Aside0.mk hN
          have HSp2 := Aside0.mk hsp
          have HB6 := Aside0.mk hB6
          clear hN hsp hx0 hB6 HN6 HSp
          --@M
          go_wp2_with (go_at_call 52; refine HOn.out.mono ?_; rintro e w14 ⟨v, rr, rfl, hs, ho, hb⟩; obtain ⟨Ar, cr, rfl, hcr, -⟩ := ho.read; have HSr := Aside0.mk hs; have HOr := Aside0.mk ho; have HN14 := Aside0.mk (HNa.out.below hb); clear hs ho hb HOn HNa m0)
          have hrrl : rr.length ≤ 65536 := by have := HSr.out.2.2; omega
          --@N
          go_loopg [78] rr.length (fun gg s78 wb => ∃ (k : Nat) (vp : Value) (pp : List S37), s78 = .int .i64 k ∧ k ≤ rr.length ∧ Aside0 (rr.length - k ≤ gg) ∧ Aside0 (NS (w.heap.size + 1 + 1) (w.heap.size + 1 + 1) wq.heap.size w1 wb (f.ss.length + r.length) f.ss r vg vp vs pp sp) ∧ Aside0 (pp = (rr.take k).filter (fun x : S37 => !((unionR (rangesAt f.ss ⟨x.f0, x.f1⟩)).any (fun q => hasB q x.f2)))) ∧ Aside0 (OwnG enc37 3 37 wb w6.heap.size (.slice Ar rr.length cr) rr) ∧ Aside0 (∀ g, vp.ownBlock = some g → (Value.slice Ar rr.length cr).ownBlock ≠ some g))
          case atStart => exact ⟨0, _, _, rfl, Nat.zero_le _, ⟨Nat.le_refl _⟩, ⟨HN14.out⟩, ⟨rfl⟩, ⟨HOr.out⟩, ⟨fun g h => by simp [Value.ownBlock] at h⟩⟩
          case round =>
            clear HN14 HOr
            obtain ⟨w15, hwq⟩ : ∃ x, x = wr := ⟨_, rfl⟩
            subst hwq
            obtain ⟨k, vp, pp, rfl, hk3, HM15, HN15, HPp, HO15, HNe⟩ := hrel
            by_cases hlt4 : k < rr.length
            · have hltz4 : (k : Int) < (rr.length : Int) := by omega
              have hC : Kd.C k37 w15 Ar rr.length rr := by obtain ⟨A', c', e', -, h⟩ := HO15.out.C37; cases e'; exact h
              obtain ⟨ad2, ea, a0, a1, a2⟩ := at_T37 hC (k : Int) (by omega) hltz4
              subst ea
              obtain ⟨y, hy⟩ := ex_get hlt4
              rw [rd37 hy] at a0 a1 a2
              simp only [Int.toNat_natCast] at a0 a1 a2
              have HYy := Aside0.mk hy
              have hpl : pp.length ≤ 65536 := by
                have h1 := List.length_filter_le (fun x : S37 => !((unionR (rangesAt f.ss ⟨x.f0, x.f1⟩)).any (fun q => hasB q x.f2))) (rr.take k)
                have h2 := List.length_take_le k rr
                rw [HPp.out]; omega
              have HLL := Aside0.mk (show (pp.length + 1) * 32 ≤ 140737488355328 by omega)
              clear hpl
              have hyf : y ∈ f.ps := (HSr.out.2.1 y).1 (List.mem_of_getElem? hy)
              have hyp : wfP y := HWf.out.1 y hyf
              have hyw : wfL ⟨y.f0, y.f1⟩ := ⟨hyp.1, hyp.2.1⟩
              have hBx := below_alloc (Below.refl w15.heap.size w15) (.cells #[.int .i64 y.f0, .int .i64 y.f1, .string y.f2] 37)
              have hN16 := HN15.out.below hBx
              have hlk := hN16.look hyw
              have hrow := hN16.row ⟨y.f0, y.f1⟩
              rw [rowNow_all H2.out] at hrow
              obtain ⟨Ag, cg, hvg⟩ := Kd.R_slice hrow
              rw [hvg] at hlk hrow
              have hCt := contf_rng y w15.heap.size Ag (unionR (rangesAt f.ss ⟨y.f0, y.f1⟩)) cg (w15.alloc (.cells #[.int .i64 y.f0, .int .i64 y.f1, .string y.f2] 37)) (Kd.R_reads' hrow).2.2 (heap_new _ _)
              generalize hcv : (unionR (rangesAt f.ss ⟨y.f0, y.f1⟩)).any (fun q => hasB q y.f2) = cv at hCt
              have HCv := Aside0.mk hcv
              have HCt := Aside0.mk hCt
              have HN16 := Aside0.mk hN16
              have hlow8 := HN15.out.lt.2
              have hne1 : (wq.heap.size = w15.heap.size) = False := eq_false (by omega)
              have HX16 := Aside0.mk (heap_new w15 (.cells #[.int .i64 y.f0, .int .i64 y.f1, .string y.f2] 37))
              have HBx := Aside0.mk hBx
              clear hC hy hyf hyp hyw hBx hN16 hrow hvg hCt hcv
              generalize (unionR (rangesAt f.ss ⟨y.f0, y.f1⟩)).length = ul at *
              --@O
              cases cv with
              | true =>
                go_wp2_with (go_at_call 53; refine HCt.out.mono ?_; rintro e w16 ⟨rfl, hb⟩; have HN17 := Aside0.mk (HN16.out.below hb); have HO17 := Aside0.mk ((HO15.out.below HBx.out).below hb); clear hb HCt HN16 HX16 hlk)
                --@P
                go_roundg (rr.length - (k + 1))
                case measure => have := HM15.out; omega
                case rel => exact ⟨k + 1, _, _, by go_num, hlt4, ⟨Nat.le_refl _⟩, ⟨HN17.out⟩, ⟨by rw [HPp.out, take_snoc HYy.out, List.filter_append]; simp [HCv.out]⟩, HO17, HNe⟩
              | false =>
                go_wp2_with (first | (go_at_call 53; refine HCt.out.mono ?_; rintro e w16 ⟨rfl, hb⟩; have HN17 := Aside0.mk (HN16.out.below hb); have HX17 := Aside0.mk ((hb.block _ (lt_of HX16.out)).trans HX16.out); have HO17 := Aside0.mk ((HO15.out.below HBx.out).below hb); have p0 : w16.cell? ⟨w15.heap.size, 0, none⟩ = some (.int .i64 y.f0) := cell_of HX17.out 0; have p1 : w16.cell? ⟨w15.heap.size, 1, none⟩ = some (.int .i64 y.f1) := cell_of HX17.out 1; have p2 : w16.cell? ⟨w15.heap.size, 2, none⟩ = some (.string y.f2) := cell_of HX17.out 2; have o0 : w16.cell? ⟨wq.heap.size, 0, none⟩ = some vp := cell_of HN17.out.out 0; have q1 := HN17.out.lt.2; have q2 := lt_of HX17.out; have HB18 := Aside0.mk (below_alloc (Below.refl w16.heap.size w16) (.cells #[.int .i64 y.f0, .int .i64 y.f1, .string y.f2] 37)); have HN18 := Aside0.mk (HN17.out.below HB18.out); have HO18 := Aside0.mk (HO17.out.below HB18.out); have HX18 := Aside0.mk (heap_new w16 (.cells #[.int .i64 y.f0, .int .i64 y.f1, .string y.f2] 37)); have HBs := Aside0.mk (Nat.le_trans HN18.out.le HN18.out.low.size); have hne3 : (wq.heap.size = w16.heap.size) = False := eq_false (by omega); clear hb HCt HN16 HX16 hlk) | ((with_reducible refine gate_builtin (b := .append) (xs := #[.tmp 93, .tmp 95]) rfl ?_); at_builtin; (refine app37b (w16.alloc (.cells #[.int .i64 y.f0, .int .i64 y.f1, .string y.f2] 37)) rfl (.tmp 93) (.tmp 95) rfl (w.heap.size + 1 + 1) vp pp y rfl w16.heap.size rfl HX18.out (R_loose37 HN18.out.rp) HBs.out HLL.out ?_); intro v' w19 hv' hg19 hat; obtain ⟨Av, nv, cv, rfl⟩ : ∃ A n c, v' = Value.slice A n c := (by obtain ⟨A, c, h⟩ := Kd.R_slice hv'; exact ⟨A, _, c, h⟩); have hb19 := HN18.out.outP hg19; have o0 : w19.cell? ⟨wq.heap.size, 0, none⟩ = some vp := cell_of hb19 0; have of0 : w19.frozen? ⟨wq.heap.size, 0, none⟩ = false := frozen_of hb19 0; have HN20 := Aside0.mk (HN18.out.point hv' hg19); have HO20 := Aside0.mk (HO18.out.same (w' := w19.setCell ⟨wq.heap.size, 0, none⟩ (.slice Av nv cv)) (fun g cur h1 h2 => (Below.heap_setCell _ _ _ _ (by intro e; subst e; have := HN18.out.out.symm.trans h2; injection this with this; injection this with _ ht; exact absurd ht (by decide))).trans (hg19.block g (lt_of h2) (fun e => HNe.out g e.symm h1)))); have HNe20 : Aside0 (∀ g, (Value.slice Av nv cv).ownBlock = some g → (Value.slice (some ad2) rr.length cr).ownBlock ≠ some g) := Aside0.mk (fun g h1 h2 => (by rcases hat with h | h; exact HNe.out g (by rw [← h]; exact h1) h2; have h3 := (HO18.out.own_lt h2).1; rw [h] at h1; have h4 := Option.some.inj h1; omega)); clear hv' hg19 hat hb19))
                --@Q
                go_roundg (rr.length - (k + 1))
                case measure => have := HM15.out; omega
                case rel => exact ⟨k + 1, _, _, by go_num, hlt4, ⟨Nat.le_refl _⟩, ⟨HN20.out⟩, ⟨by rw [HPp.out, take_snoc HYy.out, List.filter_append]; simp [HCv.out]⟩, HO20, HNe20⟩
            · obtain rfl : k = rr.length := by omega
              have hltz4 : ¬ (rr.length : Int) < (rr.length : Int) := by omega
              have hpp := HPp.out
              rw [List.take_length] at hpp
              have HPp2 := Aside0.mk hpp
              have hx0 := (HN15.out.low.block w.heap.size (by omega)).trans D0.out
              have hB15 : Below w.heap.size w w15 := Below.trans HB1.out (HN15.out.low.mono (by omega))
              have m2 : w15.cell? ⟨w.heap.size, 2, none⟩ = some (.slice A2 f.ws.length c2) := cell_of hx0 2
              have HOn := Aside0.mk (once_any f.ws A2 c2 w15 (Kd.C_below HF.out.h2 hB15) (by omega) HWf.out.2)
              have HB15 := Aside0.mk hB15
              obtain ⟨Avp, nvp, cvp, rfl⟩ : ∃ A n c, vp = Value.slice A n c := (by obtain ⟨A, c, h⟩ := Kd.R_slice HN15.out.rp; exact ⟨A, _, c, h⟩)
              obtain ⟨Avs, nvs, cvs, rfl⟩ : ∃ A n c, vs = Value.slice A n c := (by obtain ⟨A, c, h⟩ := Kd.R_slice HN15.out.rs; exact ⟨A, _, c, h⟩)
              clear hpp hx0 hB15 HPp
              --@R
              go_wp2_with fail
              refine HOn.out.mono ?_
              rintro e w17 ⟨v2, rs, rfl, hs, ho, hb⟩
              obtain ⟨Aw, cw, rfl, hcw, -⟩ := ho.read
              have HSw := Aside0.mk hs
              have HOw := Aside0.mk ho
              have HN17 := Aside0.mk (HN15.out.below hb)
              have HB17 := Aside0.mk (below_step HB15.out hb)
              have HX1 := Aside0.mk ((HN17.out.low.block (w.heap.size + 1) (by omega)).trans D1.out)
              have HOp := Aside0.mk ((OwnG.of_R37 HN15.out.rp).below hb)
              have HOs := Aside0.mk ((OwnG.of_R46 HN15.out.rs).below hb)
              have HNe2 := Aside0.mk (own_ne_lt (OwnG.of_R37 HN15.out.rp) ho (Nat.le_refl _))
              have o0 : w17.cell? ⟨wq.heap.size, 0, none⟩ = some (.slice Avp nvp cvp) := cell_of HN17.out.out 0
              have o1 : w17.cell? ⟨wq.heap.size, 1, none⟩ = some (.slice Avs nvs cvs) := cell_of HN17.out.out 1
              have o2 : w17.cell? ⟨wq.heap.size, 2, none⟩ = some (.slice none 0 0) := cell_of HN17.out.out 2
              have of2 : w17.frozen? ⟨wq.heap.size, 2, none⟩ = false := frozen_of HN17.out.out 2
              have j0 : w17.cell? ⟨w.heap.size + 1, 0, none⟩ = some (.slice none 0 0) := cell_of HX1.out 0
              have j1 : w17.cell? ⟨w.heap.size + 1, 1, none⟩ = some (.slice none 0 0) := cell_of HX1.out 1
              have j2 : w17.cell? ⟨w.heap.size + 1, 2, none⟩ = some (.slice none 0 0) := cell_of HX1.out 2
              have k0 : w17.frozen? ⟨w.heap.size + 1, 0, none⟩ = false := frozen_of HX1.out 0
              have k1 : w17.frozen? ⟨w.heap.size + 1, 1, none⟩ = false := frozen_of HX1.out 1
              have k2 : w17.frozen? ⟨w.heap.size + 1, 2, none⟩ = false := frozen_of HX1.out 2
              have hbb := HN17.out.bb
              have e1 : (w.heap.size + 1 = wq.heap.size) = False := eq_false (by omega)
              have e2 : (wq.heap.size = w.heap.size + 1) = False := eq_false (by omega)
              clear hs ho hb hbb
              --@R2
              go_wp2
              --@S
              have hw18 : (w17.setCell ⟨wq.heap.size, 2, none⟩ (.slice Aw rs.length cw)).heap[w.heap.size + 1]? = some zFt := (Below.heap_setCell _ _ _ _ (by have := HN17.out.bb; show w.heap.size + 1 ≠ wq.heap.size; omega)).trans HX1.out
              obtain ⟨cs1, hc1⟩ := setc_typed hw18 (w.heap.size + 1) 0 (.slice Avp nvp cvp)
              obtain ⟨cs2, hc2⟩ := setc_typed hc1 (w.heap.size + 1) 1 (.slice Avs nvs cvs)
              refine bodyPost_ret (results_c1 rfl _ _ (w.heap.size + 1) 25 #[.slice Avp nvp cvp, .slice Avs nvs cvs, .slice Aw rs.length cw] (0, 0) _ rfl (setCell_heap (setCell_heap (setCell_heap hw18 _) _) _) Tryz.underlying25 rfl (by kernel_rfl)) rfl ?_
              refine ⟨⟨pp, sp, rs⟩, r, _, .slice Avp nvp cvp, .slice Avs nvs cvs, .slice Aw rs.length cw, rfl, ⟨H1.out, H2.out, HSp2.out, ⟨rr, HSr.out, HPp2.out⟩, HSw.out⟩, ⟨rfl, ?_, ?_, ?_, HNe2.out⟩, ?_⟩
              · exact OwnG_lower ((((HOp.out.setc HN17.out.out (by decide) 2 _).setc hw18 (by decide) 0 _).setc hc1 (by decide) 1 _).setc hc2 (by decide) 2 _) (by omega)
              · exact OwnG_lower ((((HOs.out.setc HN17.out.out (by decide) 2 _).setc hw18 (by decide) 0 _).setc hc1 (by decide) 1 _).setc hc2 (by decide) 2 _) (by omega)
              · exact OwnG_lower ((((HOw.out.setc HN17.out.out (by decide) 2 _).setc hw18 (by decide) 0 _).setc hc1 (by decide) 1 _).setc hc2 (by decide) 2 _) HB15.out.size
              · exact (((HB17.out.setCell (p := ⟨wq.heap.size, 2, none⟩) (by have := HN17.out.bb; show w.heap.size ≤ wq.heap.size; omega) _).setCell (p := ⟨w.heap.size + 1, 0, none⟩) (by show w.heap.size ≤ w.heap.size + 1; omega) _).setCell (p := ⟨w.heap.size + 1, 1, none⟩) (by show w.heap.size ≤ w.heap.size + 1; omega) _).setCell (p := ⟨w.heap.size + 1, 2, none⟩) (by show w.heap.size ≤ w.heap.size + 1; omega) _
end Go.Proofs.YtldlenjfpjihdaaGreat.PS
end
section
namespace Go.Proofs.YtldlenjfpjihdaaGreat.PS
open Go Go.RowKit Go.Proofs Go.Maps Go.WideMaps Go.Proofs.YtldlenjfpjihdaaGreatW.PrintWords Go.Proofs.YtldlenjfpjihdaaGreatW.PrintLast Go.Proofs.YtldlenjfpjihdaaGreatW.PrintMore
theorem R_none {α : Type} (d : Kd α) (e : Nat) (w : World) (b : Nat) (hb : b ≤ w.heap.size) : Kd.R d e (w.alloc (.cells #[] e)) b (fun _ => True) (.slice (some ⟨w.heap.size, 0, none⟩) 0 0) [] :=
  ⟨fun _ _ => trivial, [], ⟨by simp, .inr ⟨w.heap.size, 0, #[], rfl, hb, heap_new _ _, Nat.le_refl _, Nat.zero_le _, by simp, by simp⟩⟩, by simp, fun j p h => by simp at h⟩
end Go.Proofs.YtldlenjfpjihdaaGreat.PS
end
section
namespace Go.Proofs.YtldlenjfpjihdaaGreat.PS
open Go Go.RowKit Go.Proofs Go.Maps Go.WideMaps Go.Proofs.YtldlenjfpjihdaaGreatW.PrintWords Go.Proofs.YtldlenjfpjihdaaGreatW.PrintLast Go.Proofs.YtldlenjfpjihdaaGreatW.PrintMore
set_option linter.unusedVariables false
set_option linter.unusedSimpArgs false
open Go.Proofs.YtldlenjfpjihdaaGreat.PU (unionR)
def T56_5 : Bool × List (List Nat × List Nat) := (true, [([], []), ([], []), ([], []), ([1, 2], [1, 2]), ([3], [3]), ([4], [4]), ([], []), ([], []), ([6, 7], [6, 7]), ([8], [8]), ([9], [9]), ([5, 10], [5, 10]), ([11], [11]), ([0, 12], [0, 12]), ([13, 13, 0, 1, 2, 3, 4, 5, 6, 7, 8, 9, 10, 11, 12, 13], [0, 13])])
theorem tab56_5 : rtab .any (opsOf Tryz.f56 5) = T56_5 := by kernel_rfl
def plP (s : S46) : S37 := ⟨s.f0, s.f1, ⟨#[]⟩⟩
set_option maxHeartbeats 8000000 in
set_option maxRecDepth 100000 in
theorem places_any (ss : List S46) (A : Option Addr) (c : Nat) (w : World) (hC : Kd.C k46 w A ss.length ss) (hc : ss.length ≤ c) (hn : ss.length ≤ 65536) :
    Calls Tryz.prog 56 #[.slice A ss.length c] w (SortedAt (ss.map plP) w) := by
  have HC := Aside0.mk hC
  clear hC
  go_enter Tryz.func56, Tryz.ntmps56
  generalize hW : w.alloc (.cells #[] 37) = w1
  have hR1 : Kd.R k37 37 w1 w.heap.size (fun _ => True) (.slice (some ⟨w.heap.size, 0, none⟩) 0 0) [] := by rw [← hW]; exact R_none k37 37 w w.heap.size (Nat.le_refl _)
  have hB1 : Below w.heap.size w w1 := by rw [← hW]; exact below_alloc (Below.refl _ _) _
  have HR1 := Aside0.mk hR1
  have HB1 := Aside0.mk hB1
  have HW := Aside0.mk hW
  clear hW hR1 hB1
  go_wp2_with fail
  rw [HW.out]
  clear HW
  --@B
  go_loopg [3, 4] ss.length (fun gg s3 s4 wr => ∃ k : Nat, s4 = .int .i64 k ∧ k ≤ ss.length ∧ Aside0 (ss.length - k ≤ gg) ∧ Aside0 (Kd.R k37 37 wr w.heap.size (fun _ => True) s3 ((ss.take k).map plP)) ∧ Aside0 (Below w.heap.size w wr))
  case atStart => exact ⟨0, rfl, Nat.zero_le _, ⟨Nat.le_refl _⟩, ⟨HR1.out⟩, ⟨HB1.out⟩⟩
  case round =>
    clear HR1 HB1
    obtain ⟨k, rfl, hk, HM, HR, HB⟩ := hrel
    by_cases hlt : k < ss.length
    · have hltz : (k : Int) < (ss.length : Int) := by omega
      obtain ⟨ad, ea, a0, a1, a2, a3, a4⟩ := at_T46 HC.out (k : Int) (by omega) hltz
      subst ea
      obtain ⟨y, hy⟩ := ex_get hlt
      rw [rd46 hy] at a0 a1 a2 a3 a4
      simp only [Int.toNat_natCast] at a0 a1 a2 a3 a4
      have HY := Aside0.mk hy
      have hcel : ∀ W, Below w.heap.size w W → (W.cell? (ad.add (k * 5)) = some (.int .i64 y.f0) ∧ W.cell? ⟨(ad.add (k * 5)).block, (ad.add (k * 5)).off + 1, none⟩ = some (.int .i64 y.f1)) := fun W h => ⟨(h.cell (World.block_lt_of_cell? _ _ a0)).trans a0, (h.cell (World.block_lt_of_cell? _ _ a1)).trans a1⟩
      have HCel := Aside0.mk hcel
      have hll : (((ss.take k).map plP).length + 1) * 32 ≤ 140737488355328 := by have := List.length_take_le k ss; rw [List.length_map]; omega
      have HLL := Aside0.mk hll
      clear a0 a1 a2 a3 a4 hy hll hcel
      go_wp2
      refine start_ (n := 15) (S := fun w' => w'.cell? (ad.add (k * 5)) = some (.int .i64 y.f0) ∧ w'.cell? ⟨(ad.add (k * 5)).block, (ad.add (k * 5)).off + 1, none⟩ = some (.int .i64 y.f1)) (ds := []) #[false, false, false, false, false, false, false, false, false, false, false, false, false, false, false] (by kernel_rfl) rfl rfl (HCel.out _ (below_step HB.out (below_drew1 (Below.refl _ _)))) (fun hHeld => ?_); refine with_tab tab56_5 (fun HT_ => ?_)
      have HBA := Aside0.mk (below_drew1 (Below.refl wr.heap.size wr))
      generalize wr.drew = wA at HBA hHeld ⊢
      have HRA := Aside0.mk (Kd.R_below HR.out HBA.out)
      have HB2 := Aside0.mk (below_step HB.out HBA.out)
      refine pure_ (i := 0) (N := some 12) (v := ?_) (a' := ?_) #[true, false, false, false, false, false, false, false, false, false, false, false, false, false, false] rfl rfl (any_of HT_.out (by kernel_rfl)) (fun _ _ _ h => h) (Or.inl ⟨by rfl, ?_⟩) ?_ ?_
      rotate_left
      · intro w'
        go_simp
        with_reducible rfl
      rotate_left
      · simp only [Act.put, List.setIfInBounds_toArray, List.set_cons_zero, List.set_cons_succ, i64_w, i32_w]
        rfl
      refine pure_ (i := 1) (N := some 13) (v := ?_) (a' := ?_) #[true, true, false, false, false, false, false, false, false, false, false, false, false, false, false] rfl rfl (any_of HT_.out (by kernel_rfl)) (fun _ _ _ h => h) (Or.inl ⟨by rfl, ?_⟩) ?_ ?_
      rotate_left
      · intro w'
        go_simp
        with_reducible rfl
      rotate_left
      · simp only [Act.put, List.setIfInBounds_toArray, List.set_cons_zero, List.set_cons_succ, i64_w, i32_w]
        rfl
      refine pure_ (i := 2) (N := some 14) (v := ?_) (a' := ?_) #[true, true, true, false, false, false, false, false, false, false, false, false, false, false, false] rfl rfl (any_of HT_.out (by kernel_rfl)) (fun _ _ _ h => h) (Or.inl ⟨by rfl, ?_⟩) ?_ ?_
      rotate_left
      · intro w'
        go_simp
        with_reducible rfl
      rotate_left
      · simp only [Act.put, List.setIfInBounds_toArray, List.set_cons_zero, List.set_cons_succ, i64_w, i32_w]
        rfl
      refine pure_ (i := 3) (N := some 15) (v := ?_) (a' := ?_) #[true, true, true, true, false, false, false, false, false, false, false, false, false, false, false] rfl rfl (any_of HT_.out (by kernel_rfl)) (fun _ _ _ h => h) (Or.inl ⟨by rfl, ?_⟩) ?_ ?_
      rotate_left
      · intro w'
        go_simp
        with_reducible rfl
      rotate_left
      · simp only [Act.put, List.setIfInBounds_toArray, List.set_cons_zero, List.set_cons_succ, i64_w, i32_w]
        rfl
      refine pure_ (i := 4) (N := some 16) (v := ?_) (a' := ?_) #[true, true, true, true, true, false, false, false, false, false, false, false, false, false, false] rfl rfl (any_of HT_.out (by kernel_rfl)) (fun _ _ _ h => h) (Or.inl ⟨by rfl, ?_⟩) ?_ ?_
      rotate_left
      · intro w'
        go_simp
        with_reducible rfl
      rotate_left
      · simp only [Act.put, List.setIfInBounds_toArray, List.set_cons_zero, List.set_cons_succ, i64_w, i32_w]
        rfl
      refine pure_ (i := 6) (N := some 18) (v := ?_) (a' := ?_) #[true, true, true, true, true, false, true, false, false, false, false, false, false, false, false] rfl rfl (any_of HT_.out (by kernel_rfl)) (fun _ _ _ h => h) (Or.inl ⟨by rfl, ?_⟩) ?_ ?_
      rotate_left
      · intro w'
        go_simp
        with_reducible rfl
      rotate_left
      · simp only [Act.put, List.setIfInBounds_toArray, List.set_cons_zero, List.set_cons_succ, i64_w, i32_w]
        rfl
      refine pure_ (i := 7) (N := some 19) (v := ?_) (a' := ?_) #[true, true, true, true, true, false, true, true, false, false, false, false, false, false, false] rfl rfl (any_of HT_.out (by kernel_rfl)) (fun _ _ _ h => h) (Or.inl ⟨by rfl, ?_⟩) ?_ ?_
      rotate_left
      · intro w'
        go_simp
        with_reducible rfl
      rotate_left
      · simp only [Act.put, List.setIfInBounds_toArray, List.set_cons_zero, List.set_cons_succ, i64_w, i32_w]
        rfl
      refine pure_ (i := 8) (N := some 20) (v := ?_) (a' := ?_) #[true, true, true, true, true, false, true, true, true, false, false, false, false, false, false] rfl rfl (any_of HT_.out (by kernel_rfl)) (fun _ _ _ h => h) (Or.inl ⟨by rfl, ?_⟩) ?_ ?_
      rotate_left
      · intro w'
        go_simp
        with_reducible rfl
      rotate_left
      · simp only [Act.put, List.setIfInBounds_toArray, List.set_cons_zero, List.set_cons_succ, i64_w, i32_w]
        rfl
      refine pure_ (i := 9) (N := some 21) (v := ?_) (a' := ?_) #[true, true, true, true, true, false, true, true, true, true, false, false, false, false, false] rfl rfl (any_of HT_.out (by kernel_rfl)) (fun _ _ _ h => h) (Or.inl ⟨by rfl, ?_⟩) ?_ ?_
      rotate_left
      · intro w'
        go_simp
        with_reducible rfl
      rotate_left
      · simp only [Act.put, List.setIfInBounds_toArray, List.set_cons_zero, List.set_cons_succ, i64_w, i32_w]
        rfl
      refine take_ (i := 5) (N := some 17) (v := ?_) (a' := ?_) #[true, true, true, true, true, true, true, true, true, true, false, false, false, false, false] rfl rfl (take_of HT_.out (by kernel_rfl)) (fun _ _ _ h => h) (Or.inl ⟨by rfl, ?_⟩) hHeld ?_ ?_
      rotate_left
      · rintro w' ⟨s0, s1⟩
        go_simp
        with_reducible rfl
      rotate_left
      · simp only [Act.put, List.setIfInBounds_toArray, List.set_cons_zero, List.set_cons_succ, i64_w, i32_w]
        rfl
      refine take_ (i := 10) (N := some 22) (v := ?_) (a' := ?_) #[true, true, true, true, true, true, true, true, true, true, true, false, false, false, false] rfl rfl (take_of HT_.out (by kernel_rfl)) (fun _ _ _ h => h) (Or.inl ⟨by rfl, ?_⟩) hHeld ?_ ?_
      rotate_left
      · rintro w' ⟨s0, s1⟩
        go_simp
        with_reducible rfl
      rotate_left
      · simp only [Act.put, List.setIfInBounds_toArray, List.set_cons_zero, List.set_cons_succ, i64_w, i32_w]
        rfl
      refine pure_ (i := 11) (N := some 23) (v := ?_) (a' := ?_) #[true, true, true, true, true, true, true, true, true, true, true, true, false, false, false] rfl rfl (any_of HT_.out (by kernel_rfl)) (fun _ _ _ h => h) (Or.inl ⟨by rfl, ?_⟩) ?_ ?_
      rotate_left
      · intro w'
        go_simp
        with_reducible rfl
      rotate_left
      · simp only [Act.put, List.setIfInBounds_toArray, List.set_cons_zero, List.set_cons_succ, i64_w, i32_w]
        rfl
      refine one_ (i := 12) (N := some 24) #[true, true, true, true, true, true, true, true, true, true, true, true, true, false, false] rfl rfl (one_of HT_.out (by kernel_rfl)) (by decide) (fun K hK => ?_)
      refine value_ (w1 := ?_) (v := ?_) (by rfl) rfl ?_ ?_
      rotate_left 2
      · go_simp
        constructor
        · rfl
        · rfl
      refine hK.out _ _ (HCel.out _ (below_step HB2.out (below_alloc (Below.refl _ _) _))) (fun hHeld => ?_)
      clear hK K
      refine norm_ (a' := ?_) ?_ ?_
      rotate_left
      · show Act.put _ (some 24) _ = _
        simp only [Act.put, List.setIfInBounds_toArray, List.set_cons_zero, List.set_cons_succ, i64_w, i32_w]
        rfl
      refine one_ (i := 13) (N := some 25) #[true, true, true, true, true, true, true, true, true, true, true, true, true, true, false] rfl rfl (one_of HT_.out (by kernel_rfl)) (by decide) (fun K hK => ?_)
      refine Kd.R_append_step k37 (w0 := w) w.heap.size (by rfl) (.tmp 12) (.tmp 24) 22 37 (.agg #[(.int .i64 0), (.int .i64 0), (.string ⟨#[]⟩)]) 32 rfl Tryz.underlying22 info37 rfl (by decide) (by omega) u3 ((ss.take k).map plP) (plP y) [.int .i64 y.f0, .int .i64 y.f1, .string ⟨#[]⟩] (fun _ => True) (fun _ => False) rfl rfl (k37_mkM _ _ _ (plP y)) (fun _ hk => hk.elim) (fun _ _ => trivial) HRA.out HB2.out HB2.out.size HLL.out ?_
      intro v2 w2 ho hb hg hat
      have HR2 := Aside0.mk ho
      have HB3 := Aside0.mk hb
      clear ho hb hg hat
      refine hK.out _ _ (HCel.out _ HB3.out) (fun hHeld => ?_)
      clear hK K
      refine norm_ (a' := ?_) ?_ ?_
      rotate_left
      · show Act.put _ (some 25) _ = _
        simp only [Act.put, List.setIfInBounds_toArray, List.set_cons_zero, List.set_cons_succ, i64_w, i32_w]
        rfl
      refine pure_ (i := 14) (N := some 3) (v := ?_) (a' := ?_) #[true, true, true, true, true, true, true, true, true, true, true, true, true, true, true] rfl rfl (any_of HT_.out (by kernel_rfl)) (fun _ _ _ h => h) (Or.inl ⟨by rfl, ?_⟩) ?_ ?_
      rotate_left
      · intro w'
        go_simp
        with_reducible rfl
      rotate_left
      · simp only [Act.put, List.setIfInBounds_toArray, List.set_cons_zero, List.set_cons_succ, i64_w, i32_w]
        rfl
      refine done_ (done_of HT_.out (by kernel_rfl)) ?_
      --@D
      clear hHeld HT_
      go_wp2
      go_roundg (ss.length - (k + 1))
      case measure => have := HM.out; omega
      case rel => exact ⟨k + 1, by go_num, hlt, ⟨Nat.le_refl _⟩, ⟨by rw [take_snoc HY.out, List.map_append]; exact HR2.out⟩, ⟨HB3.out⟩⟩
    · obtain rfl : k = ss.length := by omega
      have hltz : ¬ (ss.length : Int) < (ss.length : Int) := by omega
      have hR := HR.out
      rw [List.take_length] at hR
      obtain ⟨Av, cv, hv⟩ := Kd.R_slice hR
      subst hv
      have hrr := Kd.R_reads' hR
      have HS := Aside0.mk (sorted_any _ (ss.map plP) Av cv wr rfl hrr.2.2 hrr.2.1 (by rw [List.length_map]; omega))
      generalize (ss.map plP).length = nl at *
      clear hR hrr
      go_wp2_with (go_at_call 55; refine HS.out.mono ?_; rintro e w5 ⟨A', c', r, rfl, h1, h2, h3, h4⟩; have H1 := Aside0.mk h1; have H2 := Aside0.mk h2; have H3 := Aside0.mk h3; have H4 := Aside0.mk h4; clear h1 h2 h3 h4)
      go_ret
      exact ⟨A', c', r, rfl, H1.out, H2.out, H3.out, below_step HB.out H4.out⟩
structure Fr (w3 : World) (bo : Nat) (w : World) : Prop where
  low : Below bo w3 w
  keep : ∀ k, k < w3.heap.size → k ≠ bo → w.heap[k]? = w3.heap[k]?
  bb : bo < w3.heap.size
section
variable {w3 w w' : World} {bo : Nat}
theorem Fr.refl (h : bo < w3.heap.size) : Fr w3 bo w3 := ⟨Below.refl _ _, fun _ _ _ => rfl, h⟩
theorem Fr.size (h : Fr w3 bo w) : w3.heap.size ≤ w.heap.size := h.low.size
theorem Fr.below (h : Fr w3 bo w) (hb : Below w.heap.size w w') : Fr w3 bo w' :=
  ⟨Below.trans h.low (hb.mono (Nat.le_trans (Nat.le_of_lt h.bb) h.size)), fun k h1 h2 => (hb.block k (Nat.lt_of_lt_of_le h1 h.size)).trans (h.keep k h1 h2), h.bb⟩
theorem Fr.grown (h : Fr w3 bo w) {row : Option Nat} (hg : w.grownBy w' row) (hr : ∀ k, row = some k → w3.heap.size ≤ k) : Fr w3 bo w' :=
  ⟨h.low.grown hg (Nat.le_trans (Nat.le_of_lt h.bb) h.size) (fun k e => Nat.le_trans (Nat.le_of_lt h.bb) (hr k e)), fun k h1 h2 => (hg.block k (Nat.lt_of_lt_of_le h1 h.size) (fun e => by have := hr k e.symm; omega)).trans (h.keep k h1 h2), h.bb⟩
theorem Fr.set (h : Fr w3 bo w) (i : Nat) (v : Value) : Fr w3 bo (w.setCell ⟨bo, i, none⟩ v) :=
  ⟨h.low.setCell (p := ⟨bo, i, none⟩) (Nat.le_refl _) _, fun k h1 h2 => (Below.heap_setCell _ _ _ _ h2).trans (h.keep k h1 h2), h.bb⟩
theorem Fr.trans {w4 : World} (h : Fr w3 bo w) (h' : Fr w bo w4) : Fr w3 bo w4 :=
  ⟨Below.trans h.low h'.low, fun k h1 h2 => (h'.keep k (Nat.lt_of_lt_of_le h1 h.size) h2).trans (h.keep k h1 h2), h.bb⟩
def isSl : Value → Bool | .slice _ _ _ => true | _ => false
theorem Fr.cell (h : Fr w3 bo w) {cs : Array Value} {t : Nat} {fr : Nat × Nat} (hb : w3.heap[bo]? = some (.cells cs t fr)) (hs : ∀ (i : Nat) (v : Value), cs[i]? = some v → isSl v = true) {a : Addr} {v : Value} (ha : w3.cell? a = some v) (hv : isSl v = false) : w.cell? a = some v := by
  have hlt := World.block_lt_of_cell? _ _ ha
  by_cases e : a.block = bo
  · exfalso
    have hb' : w3.heap[a.block]? = some (.cells cs t fr) := by rw [e]; exact hb
    have ha2 : a.spot = none ∧ cs[a.off]? = some v := by simpa [World.cell?, hb'] using ha
    have := hs _ v ha2.2
    rw [this] at hv
    cases hv
  · have := h.keep a.block hlt e
    simpa [World.cell?, this] using ha
theorem Fr.C37 (h : Fr w3 bo w) {cs : Array Value} {t : Nat} {fr : Nat × Nat} (hb : w3.heap[bo]? = some (.cells cs t fr)) (hs : ∀ (i : Nat) (v : Value), cs[i]? = some v → isSl v = true) {A : Option Addr} {n : Nat} {xs : List S37} (hC : Kd.C k37 w3 A n xs) : Kd.C k37 w A n xs :=
  ⟨hC.1, hC.2.1, fun hn => by
    obtain ⟨ad, e, hc⟩ := hC.2.2 hn
    refine ⟨ad, e, fun j p hj => ?_⟩
    obtain ⟨c, h1, h2, h3⟩ := hc j p hj
    have hc := k37_open h2
    refine ⟨c, h1, by rw [hc]; exact k37_mk w p, fun i u hu => h.cell hb hs (h3 i u hu) ?_⟩
    have := List.mem_of_getElem? hu
    rw [hc] at this
    simp only [List.mem_cons, List.not_mem_nil, or_false] at this
    rcases this with rfl | rfl | rfl <;> rfl⟩
theorem Fr.C46 (h : Fr w3 bo w) {cs : Array Value} {t : Nat} {fr : Nat × Nat} (hb : w3.heap[bo]? = some (.cells cs t fr)) (hs : ∀ (i : Nat) (v : Value), cs[i]? = some v → isSl v = true) {A : Option Addr} {n : Nat} {xs : List S46} (hC : Kd.C k46 w3 A n xs) : Kd.C k46 w A n xs :=
  ⟨hC.1, hC.2.1, fun hn => by
    obtain ⟨ad, e, hc⟩ := hC.2.2 hn
    refine ⟨ad, e, fun j p hj => ?_⟩
    obtain ⟨c, h1, h2, h3⟩ := hc j p hj
    have hc := k46_open h2
    refine ⟨c, h1, by rw [hc]; exact k46_mk w p, fun i u hu => h.cell hb hs (h3 i u hu) ?_⟩
    have := List.mem_of_getElem? hu
    rw [hc] at this
    simp only [List.mem_cons, List.not_mem_nil, or_false] at this
    rcases this with rfl | rfl | rfl | rfl | rfl <;> rfl⟩
end
theorem R46_by44 {w w' : World} {b b' : Nat} {ok ok' : Nat → Prop} {v v' : Value} {xs : List S46} {ys : List S44} (h : Kd.R k46 46 w b ok v xs) (h' : Kd.R k44 44 w b' ok' v' ys) (hg : w.grownBy w' v'.ownBlock) : Kd.R k46 46 w' b (fun _ => True) v xs := by
  have h1 := R_tight46 h
  exact R_loose46 (Kd.R_grown h1 hg (own_ne h1 h' (by decide)))
theorem R44_by46 {w w' : World} {b b' : Nat} {ok ok' : Nat → Prop} {v v' : Value} {xs : List S44} {ys : List S46} (h : Kd.R k44 44 w b ok v xs) (h' : Kd.R k46 46 w b' ok' v' ys) (hg : w.grownBy w' v'.ownBlock) : Kd.R k44 44 w' b (fun _ => True) v xs := by
  have h1 := R_tight h
  exact R_loose (Kd.R_grown h1 hg (own_ne h1 h' (by decide)))
theorem R44_set {w : World} {b g i : Nat} {ok : Nat → Prop} {v u : Value} {xs : List S44} {cs : Array Value} (h : Kd.R k44 44 w b ok v xs) (hb : w.heap[g]? = some (.cells cs 25 (0, 0))) : Kd.R k44 44 (w.setCell ⟨g, i, none⟩ u) b (fun _ => True) v xs := by
  have h1 := R_tight h
  exact R_loose (Kd.R_far h1 (own_ne_blk h1 hb (by decide)) _)
theorem R46_set {w : World} {b g i : Nat} {ok : Nat → Prop} {v u : Value} {xs : List S46} {cs : Array Value} (h : Kd.R k46 46 w b ok v xs) (hb : w.heap[g]? = some (.cells cs 25 (0, 0))) : Kd.R k46 46 (w.setCell ⟨g, i, none⟩ u) b (fun _ => True) v xs := by
  have h1 := R_tight46 h
  exact R_loose46 (Kd.R_far h1 (own_ne_blk h1 hb (by decide)) _)
theorem R37_set {w : World} {b g i : Nat} {ok : Nat → Prop} {v u : Value} {xs : List S37} {cs : Array Value} (h : Kd.R k37 37 w b ok v xs) (hb : w.heap[g]? = some (.cells cs 25 (0, 0))) : Kd.R k37 37 (w.setCell ⟨g, i, none⟩ u) b (fun _ => True) v xs := by
  have h1 := R_tight37 h
  exact R_loose37 (Kd.R_far h1 (own_ne_blk h1 hb (by decide)) _)
theorem blk_by {α : Type} {d : Kd α} {e b g : Nat} {w w' : World} {ok : Nat → Prop} {v : Value} {xs : List α} {cs : Array Value} (h : d.R e w b ok v xs) (hb : w.heap[g]? = some (.cells cs 25 (0, 0))) (hne : e ≠ 25) (hg : w.grownBy w' v.ownBlock) : w'.heap[g]? = some (.cells cs 25 (0, 0)) :=
  (hg.block g (lt_of hb) (fun e => own_ne_blk h hb hne g e rfl)).trans hb
def spanF (S : List S46) (p : S37) : List S46 := (unionR (rangesAt S ⟨p.f0, p.f1⟩)).map (fun x => ⟨p.f0, p.f1, x⟩)
def plOf (p : S37) : SPl := ⟨p.f0, p.f1⟩
theorem places_norm {S : List S46} {pl : List S37} (h : Sorts (S.map plP) pl) : (pl.map plOf).Pairwise ltL ∧ (∀ p, p ∈ pl.map plOf ↔ hasPl S p = true) ∧ pl.flatMap (spanF S) = (pl.map plOf).flatMap (fun p => (unionR (rangesAt S p)).map (fun r => ⟨p.f0, p.f1, r⟩)) := by
  obtain ⟨h1, h2, _⟩ := h
  have hemp : ∀ p ∈ pl, p.f2 = ⟨#[]⟩ := fun p hp => by
    obtain ⟨s, _, rfl⟩ := List.mem_map.1 ((h2 p).1 hp)
    rfl
  refine ⟨?_, fun p => ?_, ?_⟩
  · rw [List.pairwise_map]
    refine List.Pairwise.imp_of_mem ?_ h1
    intro a b ha hb hab
    unfold ltP at hab
    unfold ltL plOf
    rcases hab with h | ⟨h, h3⟩
    · exact .inl h
    · rcases h3 with h3 | ⟨h3, h4⟩
      · exact .inr ⟨h, h3⟩
      · rw [hemp a ha, hemp b hb] at h4
        exact absurd h4 (List.lt_irrefl _)
  · unfold hasPl
    rw [List.any_eq_true, List.mem_map]
    constructor
    · rintro ⟨q, hq, rfl⟩
      obtain ⟨s, hs, rfl⟩ := List.mem_map.1 ((h2 q).1 hq)
      exact ⟨s, hs, (atP_iff _ _).2 rfl⟩
    · rintro ⟨s, hs, h⟩
      exact ⟨plP s, (h2 _).2 (List.mem_map.2 ⟨s, hs, rfl⟩), (atP_iff _ _).1 h⟩
  · rw [List.flatMap_map]
    rfl
theorem spanned_norm {S : List S46} {pl : List S37} (h : Sorts (S.map plP) pl) (x : S37) : (pl.flatMap (spanF S)).any (spanB x) = (unionR (rangesAt S ⟨x.f0, x.f1⟩)).any (fun q => hasB q x.f2) := by
  have hp := (places_norm h).2.1
  rw [Bool.eq_iff_iff, List.any_eq_true, List.any_eq_true]
  constructor
  · rintro ⟨s, hs, hb⟩
    obtain ⟨p, _, hs⟩ := List.mem_flatMap.1 hs
    obtain ⟨r, hr, rfl⟩ := List.mem_map.1 hs
    unfold spanB at hb
    simp only [Bool.and_eq_true, beq_iff_eq] at hb
    rw [hb.1.1, hb.1.2] at hr
    exact ⟨r, hr, hb.2⟩
  · rintro ⟨r, hr, hb⟩
    have hh : hasPl S ⟨x.f0, x.f1⟩ = true := by
      rw [← Bool.not_eq_false]
      intro hn
      rw [rangesAt_none hn] at hr
      simp [unionR, PU.neR, PU.sortR] at hr
    obtain ⟨p, hpp, he⟩ := List.mem_map.1 ((hp _).2 hh)
    have e0 : p.f0 = x.f0 := congrArg SPl.f0 he
    have e1 : p.f1 = x.f1 := congrArg SPl.f1 he
    refine ⟨⟨p.f0, p.f1, r⟩, List.mem_flatMap.2 ⟨p, hpp, List.mem_map.2 ⟨r, by rw [e0, e1]; exact hr, rfl⟩⟩, ?_⟩
    unfold spanB
    simp [e0, e1, hb]
theorem spanF_len (S : List S46) (hS : S.length ≤ 65536) (r : List S37) (hr : r.length ≤ 65536) : (r.flatMap (spanF S)).length ≤ 4294967296 := by
  have := flat_len (spanF S) 65536 r (fun p => by
    have h1 := unionR_len (rangesAt S ⟨p.f0, p.f1⟩)
    have h2 := rangesAt_len S ⟨p.f0, p.f1⟩
    unfold spanF; rw [List.length_map]; omega)
  omega
theorem allSl {a b c : Value} (ha : isSl a = true) (hb : isSl b = true) (hc : isSl c = true) : ∀ (i : Nat) (v : Value), (#[a, b, c] : Array Value)[i]? = some v → isSl v = true := by
  intro i v h
  have hm := Array.mem_of_getElem? h
  simp at hm
  rcases hm with rfl | rfl | rfl <;> assumption
end Go.Proofs.YtldlenjfpjihdaaGreat.PS
end
section
namespace Go.Proofs.YtldlenjfpjihdaaGreat.PU
open Go.Proofs.YtldlenjfpjihdaaGreat.PS
set_option linter.unusedVariables false
set_option linter.unusedSimpArgs false
def refStep (out : List S44) (r : S44) : List S44 :=
 match out.getLast? with
 | none => [r]
 | some l =>
  if l.f2 = false ∧ bs l.f1 < bs r.f0 then out ++ [r]
  else if r.f2 = true ∨ (l.f2 = false ∧ bs l.f1 < bs r.f1) then out.dropLast ++ [⟨l.f0, r.f1, r.f2⟩]
  else out
theorem refStep_clean (out : List S44) (r : S44) : (refStep out r).map cleanR = stepU (out.map cleanR) r := by
 rcases List.eq_nil_or_concat out with rfl | ⟨o, l, rfl⟩
 ·rfl
 ·unfold refStep stepU
  rw [List.concat_eq_append, List.map_append, List.map_cons, List.map_nil, List.getLast?_concat, List.getLast?_concat, List.dropLast_concat, List.dropLast_concat]
  cases hl : l.f2 with
  | true =>
   have hc : cleanR l = ⟨l.f0, mt, true⟩ := by simp [cleanR, hl]
   cases hr : r.f2 with
   | true => simp [hc, hl, hr, cleanR]
   | false => simp [hc, hl, hr, cleanR]
  | false =>
   have hc : cleanR l = l := by simp [cleanR, hl]
   by_cases h1 : bs l.f1 < bs r.f0
   ·have h3 : bs (cleanR l).f1 < bs (cleanR r).f0 := by rw [hc, cleanR_f0]; exact h1
    dsimp only
    rw [if_pos ⟨hl, h1⟩, if_neg (by rw [hc, hl]; decide), if_pos h3, List.map_append, List.map_append]
    rfl
   ·cases hr : r.f2 with
    | true => simp [hc, hl, hr, h1, cleanR]
    | false =>
     have hcr : cleanR r = r := by simp [cleanR, hr]
     by_cases h2 : bs l.f1 < bs r.f1
     ·have hm : Go.Lib.maxS l.f1 r.f1 = r.f1 := if_pos h2
      simp [hc, hl, hr, h1, h2, hm, cleanR]
     ·have hm : Go.Lib.maxS l.f1 r.f1 = l.f1 := if_neg h2
      have he : (⟨l.f0, l.f1, false⟩ : S44) = l := by cases l; cases hl; rfl
      simp [hc, hl, hr, h1, h2, hm, cleanR, he]
theorem refFold_clean : ∀ (L out : List S44), (L.foldl refStep out).map cleanR = L.foldl stepU (out.map cleanR)
 | [], out => rfl
 | r :: L, out => by
  rw [List.foldl_cons, List.foldl_cons, refFold_clean L (refStep out r), refStep_clean]
theorem refStep_len (out : List S44) (r : S44) : (refStep out r).length ≤ out.length + 1 := by
 rcases List.eq_nil_or_concat out with rfl | ⟨o, l, rfl⟩
 ·simp [refStep]
 ·unfold refStep
  rw [List.concat_eq_append, List.getLast?_concat, List.dropLast_concat]
  simp only
  split
  ·simp
  ·split <;> simp
theorem refFold_len : ∀ (L out : List S44), (L.foldl refStep out).length ≤ out.length + L.length
 | [], out => by simp
 | a :: l, out => by
  have h1 := refFold_len l (refStep out a)
  have h2 := refStep_len out a
  simp only [List.foldl_cons, List.length_cons]
  omega
theorem sunk_sorted {P : List S44} {x : S44} {j : Nat} (hs : sortedR P) (hj : j ≤ P.length) (h1 : ∀ y ∈ P.drop j, bs x.f0 < bs y.f0) (h2 : ∀ y, j ≠ 0 → P[j - 1]? = some y → ¬ bs x.f0 < bs y.f0) : sortedR (P.take j ++ x :: P.drop j) := by
 have hp : sortedR (P.take j ++ P.drop j) := by rw [List.take_append_drop]; exact hs
 unfold sortedR at hp ⊢
 rw [List.pairwise_append] at hp ⊢
 have hlow : ∀ y ∈ P.take j, ¬ bs x.f0 < bs y.f0 := by
  intro y hy
  obtain ⟨t, ht, rfl⟩ := List.mem_take_iff_getElem.1 hy
  have ht' : t < j ∧ t < P.length := by omega
  have hlast := h2 P[j - 1] (by omega) (List.getElem?_eq_getElem (by omega))
  by_cases e : t = j - 1
  ·subst e; exact hlast
  ·have hk : keyLe P[t] P[j - 1] := (List.pairwise_iff_getElem.1 hs) t (j - 1) _ _ (by omega)
   unfold keyLe at hk
   exact fun h => by
    rcases lt_tri (bs P[t].f0) (bs P[j - 1].f0) with q | q | q
    ·exact hlast (List.lt_trans h q)
    ·rw [q] at h; exact hlast h
    ·exact hk q
 refine ⟨hp.1, List.pairwise_cons.2 ⟨fun y hy => ?_, hp.2.1⟩, ?_⟩
 ·exact fun h => lt_irrefl' _ (List.lt_trans h (h1 y hy))
 ·intro a ha b hb
  rcases List.mem_cons.1 hb with rfl | hb
  ·exact hlow a ha
  ·exact hp.2.2 a ha b hb
theorem sunk_perm (P : List S44) (x : S44) (j : Nat) : (P.take j ++ x :: P.drop j).Perm (P ++ [x]) := by
 have h1 : (P.take j ++ x :: P.drop j).Perm (x :: (P.take j ++ P.drop j)) := List.perm_middle
 rw [List.take_append_drop] at h1
 exact h1.trans (List.perm_append_comm (l₁ := [x]) (l₂ := P))
end Go.Proofs.YtldlenjfpjihdaaGreat.PU
end
section
namespace Go.Proofs.YtldlenjfpjihdaaGreat.PA
open Go.Proofs.YtldlenjfpjihdaaGreat.PS hiding below_step bs bless_eq
open Go.RowKit Go.Proofs Go.Proofs.YtldlenjfpjihdaaGreatW.PrintWords Go.Proofs.YtldlenjfpjihdaaGreatW.PrintLast Go.Proofs.YtldlenjfpjihdaaGreatW.PrintMore Go.Proofs.YtldlenjfpjihdaaGreat.PU
attribute [local go_sem] Go.Lib.run_max_strs Go.Lib.run_min_strs
set_option linter.unusedVariables false
set_option linter.unusedSimpArgs false
theorem rempty_rng (W : World) (x : S44) : Calls Tryz.prog 79 #[.agg #[.string x.f0, .string x.f1, .bool x.f2]] W fun e w' => e = .returned (.bool (emptyR x)) ∧ Below W.heap.size W w' := by
 have h : vellumref02_Empty.f x.f0 x.f1 x.f2 = some (emptyR x) := by
  unfold vellumref02_Empty.f emptyR
  rw [bless_eq]
  cases x.f2 <;> simp
 exact vellumref02_Empty.calls x.f0 x.f1 x.f2 _ W h
theorem rjoins_rng (W : World) (x y : S44) : Calls Tryz.prog 80 #[.agg #[.string x.f0, .string x.f1, .bool x.f2], .agg #[.string y.f0, .string y.f1, .bool y.f2]] W fun e w' => e = .returned (.bool (!(!x.f2 && decide (bs x.f1 < bs y.f0)))) ∧ Below W.heap.size W w' := by
 have h : vellumref02_joins.f x.f0 x.f1 x.f2 y.f0 y.f1 y.f2 = some (!(!x.f2 && decide (bs x.f1 < bs y.f0))) := by
  unfold vellumref02_joins.f
  rw [bless_eq]
  cases x.f2 <;> simp
 exact vellumref02_joins.calls x.f0 x.f1 x.f2 y.f0 y.f1 y.f2 _ W h
theorem put3s {w : World} {base g n cap : Nat} {xs : List S44} (h : Kd.R k44 44 w base (fun _ => True) (.slice (some ⟨g, 0, none⟩) n cap) xs) (i : Nat) (hi : i < xs.length) (y : S44) :
  Kd.R k44 44 (w.setCells g (i * 3) (enc44 y)) base (fun _ => True) (.slice (some ⟨g, 0, none⟩) n cap) (xs.set i y) := by
 obtain ⟨rfl, hg, hn, hm, hr, cur, hh, hs⟩ := own3_parts h
 obtain ⟨cur', h1, h2⟩ : ∃ cur' : Array Value, (w.setCells g (i * 3) (enc44 y)).heap[g]? = some (.cells cur' 44 (0, 0)) ∧ cur'.size = cur.size := by
  refine ⟨_, Go.Lib.heap_setCell_same (i := i * 3 + 1 + 1) (Go.Lib.heap_setCell_same (i := i * 3 + 1) (Go.Lib.heap_setCell_same (i := i * 3) hh (.string y.f0)) (.string y.f1)) (.bool y.f2), by simp⟩
 have := own3_mk (xs := xs.set i y) hg (by rw [List.length_set]; exact hn) hm (hr.set i hi y) h1 (by rw [h2]; exact hs)
 rwa [List.length_set] at this
theorem app3h {ops : Array Oper} {rest : List Oper} {o : Oper} {a : Act} {Q : Exit → Act → World → Prop} {w0 W : World} {base n0 : Nat} (hgd : o.guard = none) (s x : Operand) (ho : o.op = .call { callee := .builtin .append, args := #[s, x], argTypes := #[70, 70] })
  (v : Value) (xs : List S44) (p : S44) (hs : a.eval s = v) (hx : a.eval x = .slice (some ⟨n0, 0, none⟩) 1 1) (hn0 : n0 = W.heap.size)
  (HO : Kd.R k44 44 W base (fun _ => True) v xs) (HB : Below base w0 W) (hbase : base ≤ W.heap.size) (hl : (xs.length + 1) * 40 ≤ 140737488355328)
  (h : ∀ g c w1, Kd.R k44 44 w1 base (fun _ => True) (.slice (some ⟨g, 0, none⟩) (xs.length + 1) c) (xs ++ [p]) → Below base w0 w1 → wpList Tryz.prog ops Q rest (a.put o.dst (.slice (some ⟨g, 0, none⟩) (xs.length + 1) c)) w1) :
  wpList Tryz.prog ops Q (o :: rest) a (W.alloc (.cells (enc44 p).toArray 44)) := by
 refine app3 hgd s x ho v xs p hs hx hn0 HO HB hbase hl ?_
 intro v1 w1 hR hB
 obtain ⟨g, c, rfl⟩ := own3_head hR (by simp)
 have e : (xs ++ [p]).length = xs.length + 1 := by simp
 rw [e] at hR ⊢
 exact h g c w1 hR hB
theorem sink_list (P : List S44) (x y : S44) (j : Nat) (hj : P[j]? = some y) : ((P.take (j + 1) ++ x :: P.drop (j + 1)).set (j + 1) y).set j x = P.take j ++ x :: P.drop j := by
 have hlt := (List.getElem?_eq_some_iff.1 hj).1
 have e1 : P.take (j + 1) = P.take j ++ [y] := by rw [List.take_add_one, hj]; rfl
 have e2 : P.drop j = y :: P.drop (j + 1) := by rw [List.drop_eq_getElem_cons hlt, (List.getElem?_eq_some_iff.1 hj).2]
 have hl : (P.take j).length = j := by rw [List.length_take]; omega
 rw [e1, e2, List.append_assoc, List.set_append_right (h := by omega), hl, show j + 1 - j = 1 by omega]
 rw [List.set_append_right (h := by omega), hl, Nat.sub_self]
 rfl
theorem neR_take (l : List S44) (i : Nat) (y : S44) (h : l[i]? = some y) : neR (l.take (i + 1)) = neR (l.take i) ++ (if emptyR y = true then [] else [y]) := by
 unfold neR
 rw [List.take_add_one, h, List.filter_append]
 cases e : emptyR y <;> simp [e]
def uni50T16 : Bool × List (List Nat × List Nat) := (true, [([], []), ([0], [0]), ([1], [1]), ([2], [2]), ([2], [2]), ([3, 4, 2], [2, 3, 4]), ([5, 2], [2, 5]), ([2], [2]), ([2], [2]), ([7, 8, 2], [2, 7, 8]), ([9, 2], [2, 9]), ([6, 10, 2, 2], [2, 6, 10]), ([11, 2], [2, 11]), ([2, 12], [2, 12])])
def uni50B16 : List Nat := [0, 1, 3, 7, 7, 31, 63, 7, 7, 391, 903, 2047, 4095, 8191]
theorem uni50tab16 : rtab .any (opsOf Tryz.f57 16) = uni50T16 := by kernel_rfl
theorem uni50bits16 : waitsOk uni50T16.2 uni50B16 = true := by kernel_rfl
theorem clean_set (L : List S44) (k : Nat) (y : S44) (h : L[k]? = some y) : ((L.take k).map cleanR ++ L.drop k).set k (cleanR y) = (L.take (k + 1)).map cleanR ++ L.drop (k + 1) := by
 have hlt := (List.getElem?_eq_some_iff.1 h).1
 have hl : ((L.take k).map cleanR).length = k := by rw [List.length_map, List.length_take]; omega
 rw [List.set_append_right (h := by omega), hl, Nat.sub_self, List.drop_eq_getElem_cons hlt, List.set_cons_zero, List.take_add_one, h, List.map_append]
 simp
theorem clean_same (L : List S44) (k : Nat) (y : S44) (h : L[k]? = some y) (hc : cleanR y = y) : (L.take (k + 1)).map cleanR ++ L.drop (k + 1) = (L.take k).map cleanR ++ L.drop k := by
 have hlt := (List.getElem?_eq_some_iff.1 h).1
 have he : L[k] = y := (List.getElem?_eq_some_iff.1 h).2
 rw [List.drop_eq_getElem_cons hlt, List.take_add_one, h, List.map_append, he]
 simp [hc]
theorem clean_at (L : List S44) (k : Nat) (y : S44) (h : L[k]? = some y) : ((L.take k).map cleanR ++ L.drop k)[k]? = some y := by
 have hlt := (List.getElem?_eq_some_iff.1 h).1
 have hl : ((L.take k).map cleanR).length = k := by rw [List.length_map, List.length_take]; omega
 rw [List.getElem?_append_right (by omega), hl, Nat.sub_self, List.drop_eq_getElem_cons hlt]
 simpa using h
theorem clean_len (L : List S44) (k : Nat) : ((L.take k).map cleanR ++ L.drop k).length = L.length := by
 rw [List.length_append, List.length_map, List.length_take, List.length_drop]; omega
set_option maxHeartbeats 8000000 in
set_option maxRecDepth 100000 in
theorem runion_any (l0 : List S44) (A0 : Option Addr) (c0 : Nat) (w : World) (hC : Kd.C k44 w A0 l0.length l0) (hl : l0.length * 40 ≤ 140737488355328) :
  Calls Tryz.prog 57 #[.slice A0 l0.length c0] w fun e w' => ∃ v, e = .returned v ∧ Kd.R k44 44 w' w.heap.size (fun _ => True) v (unionR l0) ∧ Below w.heap.size w w' := by
 have HC := am hC
 clear hC
 go_enter Tryz.func57, Tryz.ntmps57
 go_wp2
 go_loopg [3, 4, 5] l0.length (fun gg s3 s4 s5 wr => ∃ (i : Nat) (P : List S44), s4 = .int .i64 i ∧ i ≤ l0.length ∧ Aside0 (l0.length - i ≤ gg) ∧ Aside0 (P.Perm (neR (l0.take i)) ∧ sortedR P) ∧ P.length ≤ i ∧ Aside0 (Kd.R k44 44 wr w.heap.size (fun _ => True) s3 P) ∧ Aside0 (Below w.heap.size w wr))
 case atStart => exact ⟨0, [], rfl, Nat.zero_le _, ⟨by omega⟩, ⟨List.Perm.refl _, List.Pairwise.nil⟩, Nat.le_refl _, ⟨Kd.R_nil _ _ _ _ _⟩, ⟨Below.refl _ _⟩⟩
 case round =>
  obtain ⟨i, P, rfl, hi, HM, HP, hPl, HO, HB⟩ := hrel
  by_cases hlt : i < l0.length
  ·have hltz : (i : Int) < (l0.length : Int) := by omega
   obtain ⟨y, hy⟩ : ∃ y, l0[i]? = some y := ⟨_, List.getElem?_eq_getElem hlt⟩
   obtain ⟨ad, e, hx0, hx1, hx2⟩ := at_T44 HC.out (i : Int) (by omega) hltz
   subst e
   simp only [Int.toNat_natCast] at hx0 hx1 hx2
   have hrd : rd_T44 l0 (i : Int) = y := by unfold rd_T44; simp [List.getD, hy]
   rw [hrd] at hx0 hx1 hx2
   have HX := am (And.intro hx0 (And.intro hx1 hx2))
   replace hx0 := hc HB hx0
   replace hx1 := hc HB hx1
   replace hx2 := hc HB hx2
   have HN := am (neR_take l0 i y hy)
   clear hrd hy
   have hcall := rempty_rng wr y
   cases hq : emptyR y with
   | true =>
    rw [hq] at hcall
    go_wp2_with (go_at_call 79; refine hcall.mono ?_; rintro e w' ⟨rfl, hb'⟩)
    go_roundg (l0.length - (i + 1))
    case measure => have := HM.out; omega
    case rel => exact ⟨i + 1, P, by go_num, hlt, ⟨Nat.le_refl _⟩, ⟨by rw [HN.out, if_pos hq, List.append_nil]; exact HP.out.1, HP.out.2⟩, by omega, ⟨Kd.R_below HO.out hb'⟩, ⟨below_step HB.out hb'⟩⟩
   | false =>
    rw [hq] at hcall
    have hwi : True → wrap64 (((P.length + 1 : Nat) : Int) - 1) = (P.length : Int) := fun _ => by rw [Go.IntWalk.wrap64_in _ (by omega)]; omega
    replace hwi := hwi trivial
    have hl40 : (P.length + 1) * 40 ≤ 140737488355328 := by omega
    go_wp2_with (first | (go_at_call 79; refine hcall.mono ?_; rintro e w' ⟨rfl, hb'⟩; have HO1 := am (Kd.R_below HO.out hb'); have HB1 := am (below_step HB.out hb'); have hz1 := am hb'.size; obtain ⟨hx0, hx1, hx2⟩ := HX.out; replace hx0 := (HB1.out.cell (World.block_lt_of_cell? w _ hx0)).trans hx0; replace hx1 := (HB1.out.cell (World.block_lt_of_cell? w _ hx1)).trans hx1; replace hx2 := (HB1.out.cell (World.block_lt_of_cell? w _ hx2)).trans hx2; clear hb') | ((with_reducible refine gate_builtin (b := .append) (xs := #[.tmp 21, .tmp 26]) rfl ?_); at_builtin; refine app3h (w0 := w) (base := w.heap.size) rfl (.tmp 21) (.tmp 26) rfl _ P y rfl rfl rfl HO1.out HB1.out HB1.out.size hl40 ?_; intro g c w4 ho hb; have HO4 := am ho; have HB4 := am hb; clear ho hb))
    go_loopg [5] P.length (fun gg s5 wi => ∃ j : Nat, s5 = .int .i64 j ∧ j ≤ P.length ∧ Aside0 (j ≤ gg) ∧ Aside0 (∀ x ∈ P.drop j, bs y.f0 < bs x.f0) ∧ Aside0 (Kd.R k44 44 wi w.heap.size (fun _ => True) (.slice (some ⟨g, 0, none⟩) (P.length + 1) c) (P.take j ++ y :: P.drop j)) ∧ Aside0 (Below w.heap.size w wi))
    case atStart => exact ⟨P.length, by go_num, Nat.le_refl _, ⟨Nat.le_refl _⟩, ⟨fun x hx => by rw [List.drop_length] at hx; cases hx⟩, ⟨by rw [List.take_length, List.drop_length]; exact HO4.out⟩, ⟨HB4.out⟩⟩
    case round =>
     obtain ⟨j, rfl, hj, HM5, HD, HO5, HB5⟩ := hrel
     rcases Nat.eq_zero_or_pos j with rfl | hj0
     ·go_wp2
      repeat (go_quiet (fail); try go_wp2)
      go_roundg (l0.length - (i + 1))
      case measure => have := HM.out; omega
      case rel => exact ⟨i + 1, P.take 0 ++ y :: P.drop 0, by go_num, hlt, ⟨Nat.le_refl _⟩, ⟨by rw [HN.out, if_neg (by rw [hq]; decide)]; exact (sunk_perm P y 0).trans (List.Perm.append_right [y] HP.out.1), sunk_sorted HP.out.2 hj HD.out (fun x hx => absurd rfl hx)⟩, by simp; omega, ⟨Kd.R_drewN HO5.out nq⟩, ⟨pw_below_drewN HB5.out nq⟩⟩
     ·obtain ⟨j, rfl⟩ : ∃ t, j = t + 1 := ⟨j - 1, by omega⟩
      obtain ⟨x, hx⟩ : ∃ x, P[j]? = some x := ⟨_, List.getElem?_eq_getElem (by omega)⟩
      have hR := (own3_parts HO5.out).2.2.2.2.1
      have hlt1 : (P.take (j + 1)).length = j + 1 := by rw [List.length_take]; omega
      have hm1 : (P.take (j + 1) ++ y :: P.drop (j + 1))[j + 1]? = some y := by rw [List.getElem?_append_right (by omega), hlt1, Nat.sub_self]; rfl
      have hm0 : (P.take (j + 1) ++ y :: P.drop (j + 1))[j]? = some x := by rw [List.getElem?_append_left (by omega), List.getElem?_take, if_pos (by omega)]; exact hx
      obtain ⟨ax0, ax1, ax2, bx0, bx1, bx2⟩ := hR.at0 hm1
      obtain ⟨dx0, dx1, dx2, gx0, gx1, gx2⟩ := hR.at0 hm0
      have HX2 := am hx
      clear hR hm1 hm0 hlt1 hx
      have hk1 : True → wrap64 (((j + 1 : Nat) : Int) - 1) = (j : Int) := fun _ => by rw [Go.IntWalk.wrap64_in _ (by omega)]; omega
      replace hk1 := hk1 trivial
      have hr1 : ((j + 1 : Nat) : Int) < ((P.length + 1 : Nat) : Int) := by omega
      have hr0 : (j : Int) < ((P.length + 1 : Nat) : Int) := by omega
      have hpos : ((j + 1 : Nat) : Int) > 0 := by omega
      by_cases hc : bs y.f0 < bs x.f0
      ·have hcm : Op.bytesLess y.f0.toList x.f0.toList = true := by rw [bless_eq]; exact decide_eq_true hc
       go_wp2
       have hd00 : ((j + 1) * 3 = j * 3) = False := eq_false (by omega)
       have hd01 : ((j + 1) * 3 = j * 3 + 1) = False := eq_false (by omega)
       have hd02 : ((j + 1) * 3 = j * 3 + 2) = False := eq_false (by omega)
       have hd10 : ((j + 1) * 3 + 1 = j * 3) = False := eq_false (by omega)
       have hd11 : ((j + 1) * 3 + 1 = j * 3 + 1) = False := eq_false (by omega)
       have hd12 : ((j + 1) * 3 + 1 = j * 3 + 2) = False := eq_false (by omega)
       have hd20 : ((j + 1) * 3 + 2 = j * 3) = False := eq_false (by omega)
       have hd21 : ((j + 1) * 3 + 2 = j * 3 + 1) = False := eq_false (by omega)
       have hd22 : ((j + 1) * 3 + 2 = j * 3 + 2) = False := eq_false (by omega)
       repeat (go_quiet (fail); try go_wp2)
       go_region
       go_wp2
       have hge := (own3_parts HO5.out).2.1
       have hdj : P.drop j = x :: P.drop (j + 1) := by
        have hjl := (List.getElem?_eq_some_iff.1 HX2.out).1
        rw [List.drop_eq_getElem_cons hjl, (List.getElem?_eq_some_iff.1 HX2.out).2]
       have hML : (P.take (j + 1) ++ y :: P.drop (j + 1)).length = P.length + 1 := by simp; omega
       have hO6 := put3s (put3s (Kd.R_drewN HO5.out (nq + 1)) (j + 1) (by rw [hML]; omega) x) j (by rw [List.length_set, hML]; omega) y
       rw [sink_list P y x j HX2.out] at hO6
       have hB6 := below_sets hge (enc44 y) (j * 3) (below_sets hge (enc44 x) ((j + 1) * 3) (pw_below_drewN HB5.out (nq + 1)))
       go_roundg j
       case measure => have := HM5.out; omega
       case rel => exact ⟨j, rfl, by omega, ⟨Nat.le_refl _⟩, ⟨fun z hz => by rw [hdj] at hz; rcases List.mem_cons.1 hz with rfl | hz; exact hc; exact HD.out z hz⟩, ⟨hO6⟩, ⟨hB6⟩⟩
      ·have hcm : Op.bytesLess y.f0.toList x.f0.toList = false := by rw [bless_eq]; exact decide_eq_false hc
       go_wp2
       repeat (go_quiet (fail); try go_wp2)
       go_roundg (l0.length - (i + 1))
       case measure => have := HM.out; omega
       case rel => exact ⟨i + 1, P.take (j + 1) ++ y :: P.drop (j + 1), by go_num, hlt, ⟨Nat.le_refl _⟩, ⟨by rw [HN.out, if_neg (by rw [hq]; decide)]; exact (sunk_perm P y (j + 1)).trans (List.Perm.append_right [y] HP.out.1), sunk_sorted HP.out.2 hj HD.out (fun z _ hz => by rw [Nat.add_sub_cancel, HX2.out] at hz; obtain rfl := Option.some.inj hz; exact hc)⟩, by simp; omega, ⟨Kd.R_drewN HO5.out nq⟩, ⟨pw_below_drewN HB5.out nq⟩⟩
  ·obtain rfl : i = l0.length := by omega
   have hltz : ¬ (l0.length : Int) < (l0.length : Int) := by omega
   have hperm := HP.out.1
   rw [List.take_length] at hperm
   have HU := am (union_of hperm HP.out.2)
   have hfold := refFold_clean P []
   rw [List.map_nil, HU.out] at hfold
   have HF := am hfold
   obtain ⟨A, cA, rfl⟩ := Kd.R_slice HO.out
   clear hperm hfold
   go_wp2
   have HOi := am HO.out
   have HBi := am HB.out
   have hPc : P.length * 40 ≤ 140737488355328 := by omega
   generalize hWA : wr = wA at HOi HBi
   go_loopg [6, 7, 8] P.length (fun gg s6 s7 s8 wb => ∃ (k : Nat), s7 = .int .i64 k ∧ k ≤ P.length ∧ Aside0 (P.length - k ≤ gg) ∧ Aside0 (Kd.R k44 44 wb wA.heap.size (fun _ => True) s6 ((P.take k).foldl refStep [])) ∧ Aside0 (Below wA.heap.size wA wb))
   case atStart => exact ⟨0, rfl, Nat.zero_le _, ⟨by omega⟩, ⟨Kd.R_nil _ _ _ _ _⟩, ⟨by rw [← hWA]; exact Below.refl _ _⟩⟩
   case round =>
    obtain ⟨k, rfl, hk, HM2, HO2, HB2⟩ := hrel
    by_cases hlt : k < P.length
    ·have hltz : (k : Int) < (P.length : Int) := by omega
     obtain ⟨g, c, eA⟩ := own3_head HOi.out (by intro e; rw [e] at hlt; simp at hlt)
     injection eA with e1 _ e3
     subst e1
     subst e3
     obtain ⟨y, hy⟩ : ∃ y, P[k]? = some y := ⟨_, List.getElem?_eq_getElem hlt⟩
     have hgA := (own3_parts HOi.out).2.2.2.2.1.lt (by omega)
     have HRw := am ((own3_parts HOi.out).2.2.2.2.1.same (HB2.out.block g hgA))
     obtain ⟨cx0, cx1, cx2, _, _, _⟩ := HRw.out.at0 hy
     have hstep : (P.take (k + 1)).foldl refStep [] = refStep ((P.take k).foldl refStep []) y := by rw [List.take_add_one, hy, List.foldl_append]; rfl
     have hLl : ((P.take k).foldl refStep []).length ≤ k := by have := refFold_len (P.take k) []; rw [List.length_take] at this; simp at this; omega
     generalize (P.take k).foldl refStep [] = L at HO2 hstep hLl
     have HS := am hstep
     have HY := am hy
     have hzr := HB2.out.size
     clear hstep hy
     obtain ⟨A2, c2, rfl⟩ := Kd.R_slice HO2.out
     rcases List.eq_nil_or_concat L with rfl | ⟨o, l, eL⟩
     ·have hs : refStep [] y = [] ++ [y] := rfl
      have hl40 : (([] : List S44).length + 1) * 40 ≤ 140737488355328 := by decide
      go_wp2
      go_quiet (fail)
      go_wp2_with ((with_reducible refine gate_builtin (b := .append) (xs := #[.tmp 88, .tmp 93]) rfl ?_); at_builtin; refine app3 (w0 := wA) (base := wA.heap.size) rfl (.tmp 88) (.tmp 93) rfl _ ([] : List S44) y rfl rfl rfl (Kd.R_drewN HO2.out nq) (pw_below_drewN HB2.out nq) hzr hl40 ?_; intro v1 w4 ho hb)
      go_roundg (P.length - (k + 1))
      case measure => have := HM2.out; omega
      case rel => exact ⟨k + 1, by go_num, hlt, ⟨Nat.le_refl _⟩, ⟨by rw [HS.out, hs]; exact ho⟩, ⟨hb⟩⟩
     ·rw [List.concat_eq_append] at eL
      subst eL
      obtain ⟨g2, c3, e2⟩ := own3_head HO2.out (by simp)
      rw [e2] at HO2 ⊢
      clear e2
      have hlen1 : (o ++ [l]).length = o.length + 1 := by simp
      have HP2 := am (own3_parts HO2.out)
      have hg2 : g2 < wr.heap.size := HP2.out.2.2.2.2.1.lt (by simp)
      obtain ⟨dx0, dx1, dx2, _, gx1, gx2⟩ := HP2.out.2.2.2.2.1.at0 (i := o.length) (x := l) (by simp)
      rw [hlen1] at HO2 ⊢ hLl
      have hwi : True → wrap64 (((o.length + 1 : Nat) : Int) - 1) = (o.length : Int) := fun _ => by rw [Go.IntWalk.wrap64_in _ (by omega)]; omega
      have hil : (o.length : Int) < ((o.length + 1 : Nat) : Int) := by omega
      have hnn : ¬ (o.length : Int) < 0 := by omega
      have hil2 : ((o.length : Int) < (o.length : Int) + 1) = True := eq_true (by omega)
      replace hwi := hwi trivial
      by_cases hj : l.f2 = false ∧ bs l.f1 < bs y.f0
      ·have hcall : ∀ W : World, Calls Tryz.prog 80 #[.agg #[.string l.f0, .string l.f1, .bool l.f2], .agg #[.string y.f0, .string y.f1, .bool y.f2]] W fun e w' => e = .returned (.bool false) ∧ Below W.heap.size W w' := fun W => by
        have := rjoins_rng W l y
        rwa [show (!(!l.f2 && decide (bs l.f1 < bs y.f0))) = false by rw [hj.1, decide_eq_true hj.2]; rfl] at this
       have hs : refStep (o ++ [l]) y = (o ++ [l]) ++ [y] := by unfold refStep; rw [List.getLast?_concat]; simp only; rw [if_pos hj]
       have hl40 : ((o ++ [l]).length + 1) * 40 ≤ 140737488355328 := by rw [hlen1]; omega
       clear hj
       go_wp2
       refine start_ (n := 14) (S := fun w' => w'.cell? ⟨g2, o.length * 3, none⟩ = some (.string l.f0) ∧ w'.cell? ⟨g2, o.length * 3 + 1, none⟩ = some (.string l.f1) ∧ w'.cell? ⟨g2, o.length * 3 + 2, none⟩ = some (.bool l.f2) ∧ w'.cell? ⟨g, k * 3, none⟩ = some (.string y.f0) ∧ w'.cell? ⟨g, k * 3 + 1, none⟩ = some (.string y.f1) ∧ w'.cell? ⟨g, k * 3 + 2, none⟩ = some (.bool y.f2)) (ds := []) (bb 0 14) (by kernel_rfl) rfl rfl ⟨dx0, dx1, dx2, cx0, cx1, cx2⟩ (fun hHeld => ?_); refine with_tabW uni50tab16 uni50bits16 (fun HT_ HW_ => ?_)
       refine pure_ (i := 0) (N := (some 74)) (v := ?_) (a' := ?_) (bb 1 14) rfl rfl (any_of HT_.out (by kernel_rfl)) (fun _ _ _ h => h) (Or.inl ⟨by rfl, ?_⟩) ?_ ?_
       rotate_left
       ·intro w'
        go_simp
        with_reducible rfl
       rotate_left
       ·simp only [Act.put, List.setIfInBounds_toArray, List.set_cons_zero, List.set_cons_succ, i64_w, i32_w]
        rfl
       refine pure_ (i := 1) (N := (some 75)) (v := ?_) (a' := ?_) (bb 2 14) rfl rfl (any_of HT_.out (by kernel_rfl)) (fun _ _ _ h => h) (Or.inl ⟨by rfl, ?_⟩) ?_ ?_
       rotate_left
       ·intro w'
        go_simp
        with_reducible rfl
       rotate_left
       ·simp only [Act.put, List.setIfInBounds_toArray, List.set_cons_zero, List.set_cons_succ, i64_w, i32_w]
        rfl
       refine pure_ (i := 2) (N := (some 76)) (v := ?_) (a' := ?_) (bb 3 14) rfl rfl (any_of HT_.out (by kernel_rfl)) (fun _ _ _ h => h) (Or.inl ⟨by rfl, ?_⟩) ?_ ?_
       rotate_left
       ·intro w'
        go_simp
        with_reducible rfl
       rotate_left
       ·simp only [Act.put, List.setIfInBounds_toArray, List.set_cons_zero, List.set_cons_succ, i64_w, i32_w]
        rfl
       refine pure_ (i := 3) (N := (some 77)) (v := ?_) (a' := ?_) (bb 4 14) rfl rfl (any_of HT_.out (by kernel_rfl)) (fun _ _ _ h => h) (Or.inl ⟨by rfl, ?_⟩) ?_ ?_
       rotate_left
       ·intro w'
        go_simp
        with_reducible rfl
       rotate_left
       ·simp only [Act.put, List.setIfInBounds_toArray, List.set_cons_zero, List.set_cons_succ, i64_w, i32_w]
        rfl
       refine pure_ (i := 4) (N := (some 78)) (v := ?_) (a' := ?_) (bb 5 14) rfl rfl (any_of HT_.out (by kernel_rfl)) (fun _ _ _ h => h) (Or.inl ⟨by rfl, ?_⟩) ?_ ?_
       rotate_left
       ·intro w'
        go_simp
        with_reducible rfl
       rotate_left
       ·simp only [Act.put, List.setIfInBounds_toArray, List.set_cons_zero, List.set_cons_succ, i64_w, i32_w]
        rfl
       refine pure_ (i := 5) (N := (some 79)) (v := ?_) (a' := ?_) (bb 6 14) rfl rfl (any_of HT_.out (by kernel_rfl)) (fun _ _ _ h => h) (Or.inl ⟨by rfl, ?_⟩) ?_ ?_
       rotate_left
       ·intro w'
        go_simp
        with_reducible rfl
       rotate_left
       ·simp only [Act.put, List.setIfInBounds_toArray, List.set_cons_zero, List.set_cons_succ, i64_w, i32_w]
        rfl
       refine pure_ (i := 7) (N := (some 81)) (v := ?_) (a' := ?_) (bs 14 191) rfl rfl (any_of HT_.out (by kernel_rfl)) (fun _ _ _ h => h) (Or.inl ⟨by rfl, ?_⟩) ?_ ?_
       rotate_left
       ·intro w'
        go_simp
        with_reducible rfl
       rotate_left
       ·simp only [Act.put, List.setIfInBounds_toArray, List.set_cons_zero, List.set_cons_succ, i64_w, i32_w]
        rfl
       refine pure_ (i := 8) (N := (some 82)) (v := ?_) (a' := ?_) (bs 14 447) rfl rfl (any_of HT_.out (by kernel_rfl)) (fun _ _ _ h => h) (Or.inl ⟨by rfl, ?_⟩) ?_ ?_
       rotate_left
       ·intro w'
        go_simp
        with_reducible rfl
       rotate_left
       ·simp only [Act.put, List.setIfInBounds_toArray, List.set_cons_zero, List.set_cons_succ, i64_w, i32_w]
        rfl
       refine pure_ (i := 9) (N := (some 83)) (v := ?_) (a' := ?_) (bs 14 959) rfl rfl (any_of HT_.out (by kernel_rfl)) (fun _ _ _ h => h) (Or.inl ⟨by rfl, ?_⟩) ?_ ?_
       rotate_left
       ·intro w'
        go_simp
        with_reducible rfl
       rotate_left
       ·simp only [Act.put, List.setIfInBounds_toArray, List.set_cons_zero, List.set_cons_succ, i64_w, i32_w]
        rfl
       refine take_ (i := 6) (N := (some 80)) (v := ?_) (a' := ?_) (bb 10 14) rfl rfl (take_ofW HT_.out HW_.out (by kernel_rfl)) (fun _ _ _ h => h) (Or.inl ⟨by rfl, ?_⟩) hHeld ?_ ?_
       rotate_left
       ·rintro w' ⟨s0, s1, s2, s3, s4, s5⟩
        go_simp
        with_reducible rfl
       rotate_left
       ·simp only [Act.put, List.setIfInBounds_toArray, List.set_cons_zero, List.set_cons_succ, i64_w, i32_w]
        rfl
       refine take_ (i := 10) (N := (some 84)) (v := ?_) (a' := ?_) (bb 11 14) rfl rfl (take_ofW HT_.out HW_.out (by kernel_rfl)) (fun _ _ _ h => h) (Or.inl ⟨by rfl, ?_⟩) hHeld ?_ ?_
       rotate_left
       ·rintro w' ⟨s0, s1, s2, s3, s4, s5⟩
        go_simp
        with_reducible rfl
       rotate_left
       ·simp only [Act.put, List.setIfInBounds_toArray, List.set_cons_zero, List.set_cons_succ, i64_w, i32_w]
        rfl
       refine one_ (i := 11) (N := (some 85)) (bb 12 14) rfl rfl (one_of HT_.out (by kernel_rfl)) (by decide) (fun K hK => ?_)
       refine goes_ Tryz.func80 (by kernel_rfl) rfl #[.agg #[.string l.f0, .string l.f1, .bool l.f2], .agg #[.string y.f0, .string y.f1, .bool y.f2]] (by rfl) rfl rfl (by (try simp only [List.map_toArray, List.map_cons, List.map_nil]); first | done | rfl | (simp only [*])) ?_
       refine (hcall _).mono ?_; rintro e w' ⟨rfl, hb'⟩; have HO3 := am (Kd.R_below (Kd.R_drew HO2.out) hb'); have HB3 := am (below_step (below_drew1 HB2.out) hb'); have hz3 := HB3.out.size
       refine ⟨_, rfl, ?_⟩
       have Hs0_ := (hb'.cell (World.block_lt_of_cell? _ _ hHeld.1)).trans hHeld.1
       have Hs1_ := (hb'.cell (World.block_lt_of_cell? _ _ hHeld.2.1)).trans hHeld.2.1
       have Hs2_ := (hb'.cell (World.block_lt_of_cell? _ _ hHeld.2.2.1)).trans hHeld.2.2.1
       have Hs3_ := (hb'.cell (World.block_lt_of_cell? _ _ hHeld.2.2.2.1)).trans hHeld.2.2.2.1
       have Hs4_ := (hb'.cell (World.block_lt_of_cell? _ _ hHeld.2.2.2.2.1)).trans hHeld.2.2.2.2.1
       have Hs5_ := (hb'.cell (World.block_lt_of_cell? _ _ hHeld.2.2.2.2.2)).trans hHeld.2.2.2.2.2
       refine hK.out _ _ ⟨Hs0_, Hs1_, Hs2_, Hs3_, Hs4_, Hs5_⟩ (fun hHeld => ?_)
       clear hK K
       refine norm_ (a' := ?_) ?_ ?_
       rotate_left
       ·show Act.put _ (some 85) _ = _
        simp only [Act.put, List.setIfInBounds_toArray, List.set_cons_zero, List.set_cons_succ, i64_w, i32_w]
        rfl
       refine pure_ (i := 12) (N := (some 86)) (v := ?_) (a' := ?_) (bb 13 14) rfl rfl (any_of HT_.out (by kernel_rfl)) (fun _ _ _ h => h) (Or.inl ⟨by rfl, ?_⟩) ?_ ?_
       rotate_left
       ·intro w'
        go_simp
        with_reducible rfl
       rotate_left
       ·simp only [Act.put, List.setIfInBounds_toArray, List.set_cons_zero, List.set_cons_succ, i64_w, i32_w]
        rfl
       refine pure_ (i := 13) (N := (some 87)) (v := ?_) (a' := ?_) (bb 14 14) rfl rfl (any_of HT_.out (by kernel_rfl)) (fun _ _ _ h => h) (Or.inl ⟨by rfl, ?_⟩) ?_ ?_
       rotate_left
       ·intro w'
        go_simp
        with_reducible rfl
       rotate_left
       ·simp only [Act.put, List.setIfInBounds_toArray, List.set_cons_zero, List.set_cons_succ, i64_w, i32_w]
        rfl
       refine done_ (done_of HT_.out (by kernel_rfl)) ?_
       clear dx0 dx1 dx2 gx1 gx2 cx0 cx1 cx2
       obtain ⟨_, _, _, cx0, cx1, cx2⟩ := hHeld
       obtain ⟨dx0, dx1, dx2, _, gx1, gx2⟩ := (own3_parts HO3.out).2.2.2.2.1.at0 (i := o.length) (x := l) (by simp)
       go_wp2_with ((with_reducible refine gate_builtin (b := .append) (xs := #[.tmp 88, .tmp 93]) rfl ?_); at_builtin; refine app3 (w0 := wA) (base := wA.heap.size) rfl (.tmp 88) (.tmp 93) rfl _ (o ++ [l]) y rfl rfl rfl HO3.out HB3.out hz3 hl40 ?_; intro v1 w4 ho hb)
       go_roundg (P.length - (k + 1))
       case measure => have := HM2.out; omega
       case rel => exact ⟨k + 1, by go_num, hlt, ⟨Nat.le_refl _⟩, ⟨by rw [HS.out, hs]; exact ho⟩, ⟨hb⟩⟩
      ·have hcall : ∀ W : World, Calls Tryz.prog 80 #[.agg #[.string l.f0, .string l.f1, .bool l.f2], .agg #[.string y.f0, .string y.f1, .bool y.f2]] W fun e w' => e = .returned (.bool true) ∧ Below W.heap.size W w' := fun W => by
        have := rjoins_rng W l y
        have he : (!(!l.f2 && decide (bs l.f1 < bs y.f0))) = true := by
         cases hq : l.f2 with
         | true => rfl
         | false =>
          have : ¬ bs l.f1 < bs y.f0 := fun h => hj ⟨hq, h⟩
          rw [decide_eq_false this]; rfl
        rwa [he] at this
       have HJ := am hj
       clear hj
       go_wp2
       refine start_ (n := 14) (S := fun w' => w'.cell? ⟨g2, o.length * 3, none⟩ = some (.string l.f0) ∧ w'.cell? ⟨g2, o.length * 3 + 1, none⟩ = some (.string l.f1) ∧ w'.cell? ⟨g2, o.length * 3 + 2, none⟩ = some (.bool l.f2) ∧ w'.cell? ⟨g, k * 3, none⟩ = some (.string y.f0) ∧ w'.cell? ⟨g, k * 3 + 1, none⟩ = some (.string y.f1) ∧ w'.cell? ⟨g, k * 3 + 2, none⟩ = some (.bool y.f2)) (ds := []) (bb 0 14) (by kernel_rfl) rfl rfl ⟨dx0, dx1, dx2, cx0, cx1, cx2⟩ (fun hHeld => ?_); refine with_tabW uni50tab16 uni50bits16 (fun HT_ HW_ => ?_)
       refine pure_ (i := 0) (N := (some 74)) (v := ?_) (a' := ?_) (bb 1 14) rfl rfl (any_of HT_.out (by kernel_rfl)) (fun _ _ _ h => h) (Or.inl ⟨by rfl, ?_⟩) ?_ ?_
       rotate_left
       ·intro w'
        go_simp
        with_reducible rfl
       rotate_left
       ·simp only [Act.put, List.setIfInBounds_toArray, List.set_cons_zero, List.set_cons_succ, i64_w, i32_w]
        rfl
       refine pure_ (i := 1) (N := (some 75)) (v := ?_) (a' := ?_) (bb 2 14) rfl rfl (any_of HT_.out (by kernel_rfl)) (fun _ _ _ h => h) (Or.inl ⟨by rfl, ?_⟩) ?_ ?_
       rotate_left
       ·intro w'
        go_simp
        with_reducible rfl
       rotate_left
       ·simp only [Act.put, List.setIfInBounds_toArray, List.set_cons_zero, List.set_cons_succ, i64_w, i32_w]
        rfl
       refine pure_ (i := 2) (N := (some 76)) (v := ?_) (a' := ?_) (bb 3 14) rfl rfl (any_of HT_.out (by kernel_rfl)) (fun _ _ _ h => h) (Or.inl ⟨by rfl, ?_⟩) ?_ ?_
       rotate_left
       ·intro w'
        go_simp
        with_reducible rfl
       rotate_left
       ·simp only [Act.put, List.setIfInBounds_toArray, List.set_cons_zero, List.set_cons_succ, i64_w, i32_w]
        rfl
       refine pure_ (i := 3) (N := (some 77)) (v := ?_) (a' := ?_) (bb 4 14) rfl rfl (any_of HT_.out (by kernel_rfl)) (fun _ _ _ h => h) (Or.inl ⟨by rfl, ?_⟩) ?_ ?_
       rotate_left
       ·intro w'
        go_simp
        with_reducible rfl
       rotate_left
       ·simp only [Act.put, List.setIfInBounds_toArray, List.set_cons_zero, List.set_cons_succ, i64_w, i32_w]
        rfl
       refine pure_ (i := 4) (N := (some 78)) (v := ?_) (a' := ?_) (bb 5 14) rfl rfl (any_of HT_.out (by kernel_rfl)) (fun _ _ _ h => h) (Or.inl ⟨by rfl, ?_⟩) ?_ ?_
       rotate_left
       ·intro w'
        go_simp
        with_reducible rfl
       rotate_left
       ·simp only [Act.put, List.setIfInBounds_toArray, List.set_cons_zero, List.set_cons_succ, i64_w, i32_w]
        rfl
       refine pure_ (i := 5) (N := (some 79)) (v := ?_) (a' := ?_) (bb 6 14) rfl rfl (any_of HT_.out (by kernel_rfl)) (fun _ _ _ h => h) (Or.inl ⟨by rfl, ?_⟩) ?_ ?_
       rotate_left
       ·intro w'
        go_simp
        with_reducible rfl
       rotate_left
       ·simp only [Act.put, List.setIfInBounds_toArray, List.set_cons_zero, List.set_cons_succ, i64_w, i32_w]
        rfl
       refine pure_ (i := 7) (N := (some 81)) (v := ?_) (a' := ?_) (bs 14 191) rfl rfl (any_of HT_.out (by kernel_rfl)) (fun _ _ _ h => h) (Or.inl ⟨by rfl, ?_⟩) ?_ ?_
       rotate_left
       ·intro w'
        go_simp
        with_reducible rfl
       rotate_left
       ·simp only [Act.put, List.setIfInBounds_toArray, List.set_cons_zero, List.set_cons_succ, i64_w, i32_w]
        rfl
       refine pure_ (i := 8) (N := (some 82)) (v := ?_) (a' := ?_) (bs 14 447) rfl rfl (any_of HT_.out (by kernel_rfl)) (fun _ _ _ h => h) (Or.inl ⟨by rfl, ?_⟩) ?_ ?_
       rotate_left
       ·intro w'
        go_simp
        with_reducible rfl
       rotate_left
       ·simp only [Act.put, List.setIfInBounds_toArray, List.set_cons_zero, List.set_cons_succ, i64_w, i32_w]
        rfl
       refine pure_ (i := 9) (N := (some 83)) (v := ?_) (a' := ?_) (bs 14 959) rfl rfl (any_of HT_.out (by kernel_rfl)) (fun _ _ _ h => h) (Or.inl ⟨by rfl, ?_⟩) ?_ ?_
       rotate_left
       ·intro w'
        go_simp
        with_reducible rfl
       rotate_left
       ·simp only [Act.put, List.setIfInBounds_toArray, List.set_cons_zero, List.set_cons_succ, i64_w, i32_w]
        rfl
       refine take_ (i := 6) (N := (some 80)) (v := ?_) (a' := ?_) (bb 10 14) rfl rfl (take_ofW HT_.out HW_.out (by kernel_rfl)) (fun _ _ _ h => h) (Or.inl ⟨by rfl, ?_⟩) hHeld ?_ ?_
       rotate_left
       ·rintro w' ⟨s0, s1, s2, s3, s4, s5⟩
        go_simp
        with_reducible rfl
       rotate_left
       ·simp only [Act.put, List.setIfInBounds_toArray, List.set_cons_zero, List.set_cons_succ, i64_w, i32_w]
        rfl
       refine take_ (i := 10) (N := (some 84)) (v := ?_) (a' := ?_) (bb 11 14) rfl rfl (take_ofW HT_.out HW_.out (by kernel_rfl)) (fun _ _ _ h => h) (Or.inl ⟨by rfl, ?_⟩) hHeld ?_ ?_
       rotate_left
       ·rintro w' ⟨s0, s1, s2, s3, s4, s5⟩
        go_simp
        with_reducible rfl
       rotate_left
       ·simp only [Act.put, List.setIfInBounds_toArray, List.set_cons_zero, List.set_cons_succ, i64_w, i32_w]
        rfl
       refine one_ (i := 11) (N := (some 85)) (bb 12 14) rfl rfl (one_of HT_.out (by kernel_rfl)) (by decide) (fun K hK => ?_)
       refine goes_ Tryz.func80 (by kernel_rfl) rfl #[.agg #[.string l.f0, .string l.f1, .bool l.f2], .agg #[.string y.f0, .string y.f1, .bool y.f2]] (by rfl) rfl rfl (by (try simp only [List.map_toArray, List.map_cons, List.map_nil]); first | done | rfl | (simp only [*])) ?_
       refine (hcall _).mono ?_; rintro e w' ⟨rfl, hb'⟩; have HO3 := am (Kd.R_below (Kd.R_drew HO2.out) hb'); have HB3 := am (below_step (below_drew1 HB2.out) hb'); have hz3 := HB3.out.size
       refine ⟨_, rfl, ?_⟩
       have Hs0_ := (hb'.cell (World.block_lt_of_cell? _ _ hHeld.1)).trans hHeld.1
       have Hs1_ := (hb'.cell (World.block_lt_of_cell? _ _ hHeld.2.1)).trans hHeld.2.1
       have Hs2_ := (hb'.cell (World.block_lt_of_cell? _ _ hHeld.2.2.1)).trans hHeld.2.2.1
       have Hs3_ := (hb'.cell (World.block_lt_of_cell? _ _ hHeld.2.2.2.1)).trans hHeld.2.2.2.1
       have Hs4_ := (hb'.cell (World.block_lt_of_cell? _ _ hHeld.2.2.2.2.1)).trans hHeld.2.2.2.2.1
       have Hs5_ := (hb'.cell (World.block_lt_of_cell? _ _ hHeld.2.2.2.2.2)).trans hHeld.2.2.2.2.2
       refine hK.out _ _ ⟨Hs0_, Hs1_, Hs2_, Hs3_, Hs4_, Hs5_⟩ (fun hHeld => ?_)
       clear hK K
       refine norm_ (a' := ?_) ?_ ?_
       rotate_left
       ·show Act.put _ (some 85) _ = _
        simp only [Act.put, List.setIfInBounds_toArray, List.set_cons_zero, List.set_cons_succ, i64_w, i32_w]
        rfl
       refine pure_ (i := 12) (N := (some 86)) (v := ?_) (a' := ?_) (bb 13 14) rfl rfl (any_of HT_.out (by kernel_rfl)) (fun _ _ _ h => h) (Or.inl ⟨by rfl, ?_⟩) ?_ ?_
       rotate_left
       ·intro w'
        go_simp
        with_reducible rfl
       rotate_left
       ·simp only [Act.put, List.setIfInBounds_toArray, List.set_cons_zero, List.set_cons_succ, i64_w, i32_w]
        rfl
       refine pure_ (i := 13) (N := (some 87)) (v := ?_) (a' := ?_) (bb 14 14) rfl rfl (any_of HT_.out (by kernel_rfl)) (fun _ _ _ h => h) (Or.inl ⟨by rfl, ?_⟩) ?_ ?_
       rotate_left
       ·intro w'
        go_simp
        with_reducible rfl
       rotate_left
       ·simp only [Act.put, List.setIfInBounds_toArray, List.set_cons_zero, List.set_cons_succ, i64_w, i32_w]
        rfl
       refine done_ (done_of HT_.out (by kernel_rfl)) ?_
       clear dx0 dx1 dx2 gx1 gx2 cx0 cx1 cx2
       obtain ⟨_, _, _, cx0, cx1, cx2⟩ := hHeld
       obtain ⟨dx0, dx1, dx2, _, gx1, gx2⟩ := (own3_parts HO3.out).2.2.2.2.1.at0 (i := o.length) (x := l) (by simp)
       have hge2 := HP2.out.2.1
       have hne1 : (g2 = g) = False := eq_false (by omega)
       have hne2 : (g = g2) = False := eq_false (by omega)
       have hset : ∀ z l : S44, (o ++ [l]).set o.length z = o ++ [z] := by intro z l; simp
       cases hq : y.f2 with
       | true =>
        rw [hq] at cx2
        have hs : refStep (o ++ [l]) y = o ++ [⟨l.f0, y.f1, true⟩] := by unfold refStep; rw [List.getLast?_concat, List.dropLast_concat]; simp only; rw [if_neg HJ.out, if_pos (Or.inl hq), hq]
        go_wp2
        repeat (go_quiet (fail); try go_wp2)
        have hO1 := put3 (Kd.R_drewN HO3.out nq) (i := o.length) (x := l) (by simp) ⟨l.f0, y.f1, l.f2⟩ 1 (.string y.f1) rfl (by intro j hj; rcases j with _ | _ | _ | j <;> first | rfl | exact absurd rfl hj)
        rw [hset] at hO1
        have hO2 := put3 hO1 (i := o.length) (x := ⟨l.f0, y.f1, l.f2⟩) (by simp) ⟨l.f0, y.f1, true⟩ 2 (.bool true) rfl (by intro j hj; rcases j with _ | _ | _ | j <;> first | rfl | exact absurd rfl hj)
        rw [hset] at hO2
        have hB2 := ((pw_below_drewN HB3.out nq).setCell (p := ⟨g2, o.length * 3 + 1, none⟩) hge2 (.string y.f1)).setCell (p := ⟨g2, o.length * 3 + 2, none⟩) hge2 (.bool true)
        go_roundg (P.length - (k + 1))
        case measure => have := HM2.out; omega
        case rel => exact ⟨k + 1, by go_num, hlt, ⟨Nat.le_refl _⟩, ⟨by rw [HS.out, hs]; exact hO2⟩, ⟨hB2⟩⟩
       | false =>
        rw [hq] at cx2
        cases hql : l.f2 with
        | true =>
         rw [hql] at dx2
         have hs : refStep (o ++ [l]) y = o ++ [l] := by unfold refStep; rw [List.getLast?_concat]; simp only; rw [if_neg HJ.out, if_neg (by rw [hq, hql]; simp)]
         go_wp2
         repeat (go_quiet (fail); try go_wp2)
         go_roundg (P.length - (k + 1))
         case measure => have := HM2.out; omega
         case rel => exact ⟨k + 1, by go_num, hlt, ⟨Nat.le_refl _⟩, ⟨by rw [HS.out, hs]; exact Kd.R_drewN HO3.out nq⟩, ⟨pw_below_drewN HB3.out nq⟩⟩
        | false =>
         rw [hql] at dx2
         by_cases hc : bs l.f1 < bs y.f1
         ·have hcm : Op.bytesLess l.f1.toList y.f1.toList = true := by rw [bless_eq]; exact decide_eq_true hc
          have hs : refStep (o ++ [l]) y = o ++ [⟨l.f0, y.f1, false⟩] := by unfold refStep; rw [List.getLast?_concat, List.dropLast_concat]; simp only; rw [if_neg HJ.out, if_pos (Or.inr ⟨hql, hc⟩), hq]
          go_wp2
          repeat (go_quiet (fail); try go_wp2)
          have hO1 := put3 (Kd.R_drewN HO3.out nq) (i := o.length) (x := l) (by simp) ⟨l.f0, y.f1, l.f2⟩ 1 (.string y.f1) rfl (by intro j hj; rcases j with _ | _ | _ | j <;> first | rfl | exact absurd rfl hj)
          rw [hset] at hO1
          have hO2 := put3 hO1 (i := o.length) (x := ⟨l.f0, y.f1, l.f2⟩) (by simp) ⟨l.f0, y.f1, false⟩ 2 (.bool false) rfl (by intro j hj; rcases j with _ | _ | _ | j <;> first | rfl | exact absurd rfl hj)
          rw [hset] at hO2
          have hB2 := ((pw_below_drewN HB3.out nq).setCell (p := ⟨g2, o.length * 3 + 1, none⟩) hge2 (.string y.f1)).setCell (p := ⟨g2, o.length * 3 + 2, none⟩) hge2 (.bool false)
          go_roundg (P.length - (k + 1))
          case measure => have := HM2.out; omega
          case rel => exact ⟨k + 1, by go_num, hlt, ⟨Nat.le_refl _⟩, ⟨by rw [HS.out, hs]; exact hO2⟩, ⟨hB2⟩⟩
         ·have hcm : Op.bytesLess l.f1.toList y.f1.toList = false := by rw [bless_eq]; exact decide_eq_false hc
          have hs : refStep (o ++ [l]) y = o ++ [l] := by unfold refStep; rw [List.getLast?_concat]; simp only; rw [if_neg HJ.out, if_neg (fun h => h.elim (fun h => by rw [hq] at h; cases h) (fun h => hc h.2))]
          go_wp2
          repeat (go_quiet (fail); try go_wp2)
          go_roundg (P.length - (k + 1))
          case measure => have := HM2.out; omega
          case rel => exact ⟨k + 1, by go_num, hlt, ⟨Nat.le_refl _⟩, ⟨by rw [HS.out, hs]; exact Kd.R_drewN HO3.out nq⟩, ⟨pw_below_drewN HB3.out nq⟩⟩
    ·obtain rfl : k = P.length := by omega
     have hltz : ¬ (P.length : Int) < (P.length : Int) := by omega
     have hfin := HO2.out
     rw [List.take_length] at hfin
     have hLl := refFold_len P []
     generalize P.foldl refStep [] = L at hfin HF hLl
     have hLP : L.length ≤ P.length := by simpa using hLl
     have HO5 := am hfin
     obtain ⟨A2, c2, rfl⟩ := Kd.R_slice HO5.out
     have HB5 := am HB2.out
     clear hfin hLl HO2 HB2
     go_wp2
     go_loopg [9] L.length (fun gg s9 wc => ∃ i : Nat, s9 = .int .i64 i ∧ i ≤ L.length ∧ Aside0 (L.length - i ≤ gg) ∧ Aside0 (Kd.R k44 44 wc wA.heap.size (fun _ => True) (.slice A2 L.length c2) ((L.take i).map cleanR ++ L.drop i)) ∧ Aside0 (Below wA.heap.size wA wc))
     case atStart => exact ⟨0, rfl, Nat.zero_le _, ⟨by omega⟩, ⟨by simpa using HO5.out⟩, ⟨HB5.out⟩⟩
     case round =>
      obtain ⟨i, rfl, hi, HM3, HO3, HB3⟩ := hrel
      by_cases hlt : i < L.length
      ·have hltz : (i : Int) < (L.length : Int) := by omega
       obtain ⟨y, hy⟩ : ∃ y, L[i]? = some y := ⟨_, List.getElem?_eq_getElem hlt⟩
       have HY := am hy
       obtain ⟨g, c, eA⟩ := own3_head HO3.out (by intro e; have := clean_len L i; rw [e] at this; simp at this; omega)
       injection eA with e1 e2 e3
       clear e2
       subst e1
       subst e3
       obtain ⟨cx0, cx1, cx2, fx0, fx1, fx2⟩ := (own3_parts HO3.out).2.2.2.2.1.at0 (clean_at L i y hy)
       have hge := (own3_parts HO3.out).2.1
       clear hy
       cases hq : y.f2 with
       | true =>
        rw [hq] at cx2
        have hcl : (⟨y.f0, ⟨#[]⟩, y.f2⟩ : S44) = cleanR y := by unfold cleanR; rw [if_pos hq, hq]
        go_wp2
        have hO7 := put3 HO3.out (i := i) (x := y) (clean_at L i y HY.out) ⟨y.f0, ⟨#[]⟩, y.f2⟩ 1 (.string ⟨#[]⟩) rfl (by intro j hj; rcases j with _ | _ | _ | j <;> first | rfl | exact absurd rfl hj)
        rw [hcl, clean_set L i y HY.out] at hO7
        have hB7 := HB3.out.setCell (p := ⟨g, i * 3 + 1, none⟩) hge (.string ⟨#[]⟩)
        go_roundg (L.length - (i + 1))
        case measure => have := HM3.out; omega
        case rel => exact ⟨i + 1, by go_num, hlt, ⟨Nat.le_refl _⟩, ⟨hO7⟩, ⟨hB7⟩⟩
       | false =>
        rw [hq] at cx2
        go_wp2
        go_roundg (L.length - (i + 1))
        case measure => have := HM3.out; omega
        case rel => exact ⟨i + 1, by go_num, hlt, ⟨Nat.le_refl _⟩, ⟨by rw [clean_same L i y HY.out (by unfold cleanR; rw [if_neg (by rw [hq]; decide)])]; exact HO3.out⟩, ⟨HB3.out⟩⟩
      ·obtain rfl : i = L.length := by omega
       have hltz : ¬ (L.length : Int) < (L.length : Int) := by omega
       have hfin := HO3.out
       rw [List.take_length, List.drop_length, List.append_nil, HF.out] at hfin
       go_wp2
       go_ret
       exact ⟨_, rfl, Kd.R_lower hfin HBi.out.size, Below.trans HBi.out (HB3.out.mono HBi.out.size)⟩
def vellumref02_Union.f (k : Nat) (l0 : List S44) : Option (List S44) := code_Union.f l0
theorem vellumref02_Union.calls (k : Nat) (A0 : Option Addr) (c0 : Nat) (l0 : List S44) (r : List S44) (w : World) (hr0 : Kd.C k44 w A0 l0.length l0) (hc0 : l0.length ≤ c0) (h : vellumref02_Union.f k l0 = some r) :
  Calls Tryz.prog 57 #[.slice A0 l0.length c0] w fun e w' => ∃ v0_, e = .returned v0_ ∧ Kd.R k44 44 w' w.heap.size (fun _ => True) v0_ r ∧ Below w.heap.size w w' := by
 unfold vellumref02_Union.f code_Union.f at h
 by_cases hl : l0.length * 40 ≤ 140737488355328
 ·rw [if_pos hl] at h
  obtain rfl := Option.some.inj h
  exact runion_any l0 A0 c0 w hr0 hl
 ·rw [if_neg hl] at h
  cases h
end Go.Proofs.YtldlenjfpjihdaaGreat.PA
end
