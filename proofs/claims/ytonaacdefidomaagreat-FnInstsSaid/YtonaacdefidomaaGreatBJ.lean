/-
  slices.SortFunc laid at this program, in plain words (printed by the kit's tool). No condition.
  slices.SortFunc at rows of Ids, with compareIds. Conditions: the row is the call's own.
  A library function laid at this program, in plain words (printed by the kit's tool). No condition.
  slices.SortFunc at rows of instances of the call's own, by their Ids. Conditions: as named.
  An instance put into a row: impl.InstPut. Conditions: a bound on the sizes.
  What slices.Compact leaves of a row of Ids, from its beginning on. Plain.
  slices.SortFunc at a row of Ids of the call's own. Conditions: as named.
  A row of Ids of the call's own, while slices.Compact goes over it; the built-in clear at a slice of Ids. Conditions: as named.
  slices.Compact at a row of Ids of the call's own. Conditions: a bound on the length.
  Rows of Ids joined: impl.JoinIds. Conditions: bounds on the lengths.
-/
import Derived.Shelf.SlSortCmp.WholeK
import Derived.Ground.SlsfProg
import Derived.Test.YtonaacdefidomaaGreatProg
import Derived.Test.YtonaacdefidomaaGreatBG
import Derived.Test.YtonaacdefidomaaGreatBC
import Derived.Test.YtonaacdefidomaaGreatBH
set_option linter.unusedVariables false
set_option linter.unusedSimpArgs false
namespace Go.Proofs
open Go.Shelf
def Tryz.sortId_ren : Go.Shelf.Ren := ⟨fun | 6 => 40 | 15 => 62 | 14 => 64 | 28 => 82 | 29 => 83 | 20 => 84 | 21 => 85 | 22 => 86 | 23 => 87 | 24 => 88 | 25 => 89 | 26 => 90 | 27 => 91 | 46 => 101 | 47 => 97 | 48 => 98 | 49 => 102 | 50 => 103 | 57 => 107 | n => n, fun | 22 => 32 | 24 => 26 | 25 => 64 | 3 => 3 | 39 => 84 | 0 => 0 | 53 => 100 | 55 => 102 | 4 => 4 | 46 => 93 | 45 => 92 | 50 => 97 | 5 => 5 | 9 => 9 | 66 => 109 | 70 => 113 | 76 => 119 | 77 => 120 | n => n, fun | n => n⟩
theorem Tryz.sortId : Go.Proofs.SlLaysF0.n6 Tryz.prog Tryz.sortId_ren := {
  mixed := by kernel_rfl
  f6 := ⟨Tryz.f40.name, by decide, Tryz.func40.trans (congrArg some (by kernel_rfl))⟩
  f14 := ⟨Tryz.f64.name, by decide, Tryz.func64.trans (congrArg some (by kernel_rfl))⟩
  f15 := Tryz.func62.trans (congrArg some (by kernel_rfl))
  f20 := ⟨Tryz.f84.name, by decide, Tryz.func84.trans (congrArg some (by kernel_rfl))⟩
  f21 := ⟨Tryz.f85.name, by decide, Tryz.func85.trans (congrArg some (by kernel_rfl))⟩
  f22 := ⟨Tryz.f86.name, by decide, Tryz.func86.trans (congrArg some (by kernel_rfl))⟩
  f23 := ⟨Tryz.f87.name, by decide, Tryz.func87.trans (congrArg some (by kernel_rfl))⟩
  f24 := ⟨Tryz.f88.name, by decide, Tryz.func88.trans (congrArg some (by kernel_rfl))⟩
  f25 := ⟨Tryz.f89.name, by decide, Tryz.func89.trans (congrArg some (by kernel_rfl))⟩
  f26 := ⟨Tryz.f90.name, by decide, Tryz.func90.trans (congrArg some (by kernel_rfl))⟩
  f27 := ⟨Tryz.f91.name, by decide, Tryz.func91.trans (congrArg some (by kernel_rfl))⟩
  f28 := Tryz.func82.trans (congrArg some (by kernel_rfl))
  f29 := Tryz.func83.trans (congrArg some (by kernel_rfl))
  f46 := ⟨Tryz.f101.name, by decide, Tryz.func101.trans (congrArg some (by kernel_rfl))⟩
  f47 := Tryz.func97.trans (congrArg some (by kernel_rfl))
  f48 := Tryz.func98.trans (congrArg some (by kernel_rfl))
  f49 := ⟨Tryz.f102.name, by decide, Tryz.func102.trans (congrArg some (by kernel_rfl))⟩
  f50 := ⟨Tryz.f103.name, by decide, Tryz.func103.trans (congrArg some (by kernel_rfl))⟩
  f57 := ⟨Tryz.f107.name, by decide, Tryz.func107.trans (congrArg some (by kernel_rfl))⟩
  t0 := Tryz.underlying0
  a0 := Tryz.isAgg0
  z0 := Tryz.sizeOf0
  v0 := Tryz.zeroValue0
  t3 := Tryz.underlying3
  a3 := Tryz.isAgg3
  z3 := Tryz.sizeOf3
  v3 := Tryz.zeroValue3
  t4 := Tryz.underlying4
  a4 := Tryz.isAgg4
  z4 := Tryz.sizeOf4
  v4 := Tryz.zeroValue4
  t5 := Tryz.underlying5
  a5 := Tryz.isAgg5
  z5 := Tryz.sizeOf5
  v5 := Tryz.zeroValue5
  t9 := Tryz.underlying9
  a9 := Tryz.isAgg9
  z9 := Tryz.sizeOf9
  v9 := Tryz.zeroValue9
  t22 := Tryz.underlying32
  a22 := Tryz.isAgg32
  z22 := Tryz.sizeOf32
  v22 := Tryz.zeroValue32
  t25 := Tryz.underlying64
  a25 := Tryz.isAgg64
  z25 := Tryz.sizeOf64
  v25 := Tryz.zeroValue64
  t39 := Tryz.underlying84
  a39 := Tryz.isAgg84
  z39 := Tryz.sizeOf84
  v39 := Tryz.zeroValue84
  t45 := Tryz.underlying92
  a45 := Tryz.isAgg92
  z45 := Tryz.sizeOf92
  v45 := Tryz.zeroValue92
  t46 := Tryz.underlying93
  a46 := Tryz.isAgg93
  z46 := Tryz.sizeOf93
  v46 := Tryz.zeroValue93
  t50 := Tryz.underlying97
  a50 := Tryz.isAgg97
  z50 := Tryz.sizeOf97
  v50 := Tryz.zeroValue97
  t53 := Tryz.underlying100
  a53 := Tryz.isAgg100
  z53 := Tryz.sizeOf100
  v53 := Tryz.zeroValue100
  t55 := Tryz.underlying102
  a55 := Tryz.isAgg102
  z55 := Tryz.sizeOf102
  v55 := Tryz.zeroValue102
  t66 := Tryz.underlying109
  a66 := Tryz.isAgg109
  z66 := Tryz.sizeOf109
  v66 := Tryz.zeroValue109
  t70 := Tryz.underlying113
  a70 := Tryz.isAgg113
  z70 := Tryz.sizeOf113
  v70 := Tryz.zeroValue113
  t76 := Tryz.underlying119
  a76 := Tryz.isAgg119
  z76 := Tryz.sizeOf119
  v76 := Tryz.zeroValue119
  t77 := Tryz.underlying120
  a77 := Tryz.isAgg120
  z77 := Tryz.sizeOf120
  v77 := Tryz.zeroValue120 }
end Go.Proofs
namespace Go.Proofs.YtonaacdefidomaaGreat
open Go.RowKit Go.Shelf Go.Lib Go.Sort

set_option maxRecDepth 100000 in
set_option maxHeartbeats 1000000 in
theorem compareIds_exact (x y : IdD) (w : World) :
    Calls Tryz.prog 37 #[.agg #[.int .i64 x.rep, .int .i64 x.slot], .agg #[.int .i64 y.rep, .int .i64 y.slot]] w fun e w' => e = .returned (.int .i64 (idCmp x y)) ∧ ∃ (q : Nat) (os' : Array Obj), w' = grow (w.drewN q) os' := by
  obtain ⟨xr, xs⟩ := x
  obtain ⟨yr, ys⟩ := y
  have hid : idLt ⟨xr, xs⟩ ⟨yr, ys⟩ = decide (xr < yr ∨ xr = yr ∧ xs < ys) := rfl
  have HI := Lib.hid hid; clear hid
  simp only []
  by_cases h1 : xr < yr
  · have HR := Lib.hid (show idCmp ⟨xr, xs⟩ ⟨yr, ys⟩ = -1 by rw [idCmp, if_pos (by rw [HI.out]; simp [h1])])
    go_enter Tryz.func37, Tryz.ntmps37
    go_wp2
    go_ret
    exact ⟨ret_eq (by rw [HR.out]; rfl), ⟨0, _, by rw [alloc_eq_grow, alloc_eq_grow, grow_grow]; rfl⟩⟩
  · by_cases h2 : xr = yr
    · subst h2
      clear h1
      by_cases h3 : xs < ys
      · have HR := Lib.hid (show idCmp ⟨xr, xs⟩ ⟨xr, ys⟩ = -1 by rw [idCmp, if_pos (by rw [HI.out]; simp [h3])])
        go_enter Tryz.func37, Tryz.ntmps37
        go_wp2
        go_ret
        exact ⟨ret_eq (by rw [HR.out]; rfl), ⟨0, _, by rw [alloc_eq_grow, alloc_eq_grow, grow_grow]; rfl⟩⟩
      · by_cases h4 : xs = ys
        · subst h4
          have HR := Lib.hid (show idCmp ⟨xr, xs⟩ ⟨xr, xs⟩ = 0 by rw [idCmp, if_neg (by rw [HI.out]; simp), if_pos rfl])
          clear h3
          go_enter Tryz.func37, Tryz.ntmps37
          go_wp2
          go_ret
          exact ⟨ret_eq (by rw [HR.out]; rfl), ⟨0, _, by rw [alloc_eq_grow, alloc_eq_grow, grow_grow]; rfl⟩⟩
        · have HR := Lib.hid (show idCmp ⟨xr, xs⟩ ⟨xr, ys⟩ = 1 by rw [idCmp, if_neg (by rw [HI.out]; simp; omega), if_neg (by simp [h4])])
          have h5 : (xs == ys) = false := by simpa using h4
          clear h4
          go_enter Tryz.func37, Tryz.ntmps37
          go_wp2
          go_ret
          exact ⟨ret_eq (by rw [HR.out]; rfl), ⟨0, _, by rw [alloc_eq_grow, alloc_eq_grow, grow_grow]; rfl⟩⟩
    · have HR := Lib.hid (show idCmp ⟨xr, xs⟩ ⟨yr, ys⟩ = 1 by rw [idCmp, if_neg (by rw [HI.out]; simp; omega), if_neg (by simp [h2])])
      have h3 : (xr == yr) = false := by simpa using h2
      clear h2
      go_enter Tryz.func37, Tryz.ntmps37
      go_wp2
      go_ret
      exact ⟨ret_eq (by rw [HR.out]; rfl), ⟨0, _, by rw [alloc_eq_grow, alloc_eq_grow, grow_grow]; rfl⟩⟩
def encId (x : IdD) : List Value := [.int .i64 x.rep, .int .i64 x.slot]
instance : Inhabited IdD := ⟨⟨0, 0⟩⟩
theorem ltOf_id (x y : IdD) : ltOf idCmp x y = idLt x y := by
  unfold ltOf
  cases h : idLt x y with
  | true => exact decide_eq_true (idCmp_lt.2 h)
  | false => exact decide_eq_false (fun hh => by have := idCmp_lt.1 hh; rw [h] at this; cases this)
theorem swo_id : SWO (ltOf idCmp) where
  irrefl x := by rw [ltOf_id]; exact idLt_irrefl x
  trans x y z h1 h2 := by rw [ltOf_id] at *; exact idLt_trans h1 h2
  ntrans x y z h1 h2 := by rw [ltOf_id] at *; exact idLt_ntrans h1 h2
theorem cmpLays_id (blk off size : Nat) (w : World) : CmpLays Tryz.prog 37 #[] encId 2 idCmp blk off size w :=
  fun _ _ _ _ x y => compareIds_exact x y _
theorem sort_ids (blk off cap : Nat) (d : Array IdD) (w : World) (hH : HoldsK encId 2 w blk off d) (hblk : blk < w.heap.size) (hsz : d.size < 4611686018427387904) :
    Calls Tryz.prog 40 #[.slice (some ⟨blk, off, none⟩) d.size cap, .func (.func 37) #[] #[]] w fun e w' =>
      e = .returned (.tuple #[]) ∧ ∃ d' n os, PermIn 0 d.size d d' ∧ SortedIn (ltOf idCmp) 0 d.size d' ∧ w' = sortWorldK encId 2 w blk off n d' os :=
  AnyQ.slices_SortFunc Tryz.sortId 2 (fun w => agg_Id.isAgg w) (fun w => agg_Id.size w) encId (fun _ => rfl) (fun x v hv => by simp [encId] at hv; rcases hv with rfl | rfl <;> rfl) idCmp swo_id 37 #[] blk off cap d w (enters_of Tryz.func37 (by kernel_rfl) rfl) (cmpLays_id blk off d.size w) hH hblk hsz

end Go.Proofs.YtonaacdefidomaaGreat
namespace Go.Proofs
open Go.Shelf
def Tryz.sortInst_ren : Go.Shelf.Ren := ⟨fun | 6 => 35 | 15 => 62 | 14 => 61 | 28 => 82 | 29 => 83 | 20 => 74 | 21 => 75 | 22 => 76 | 23 => 77 | 24 => 78 | 25 => 79 | 26 => 80 | 27 => 81 | 46 => 96 | 47 => 97 | 48 => 98 | 49 => 99 | 50 => 100 | 57 => 106 | n => n, fun | 22 => 24 | 24 => 38 | 25 => 65 | 3 => 3 | 39 => 84 | 0 => 0 | 53 => 100 | 55 => 102 | 4 => 4 | 46 => 93 | 45 => 92 | 50 => 97 | 5 => 5 | 9 => 9 | 66 => 109 | 70 => 113 | 76 => 119 | 77 => 120 | n => n, fun | n => n⟩
theorem Tryz.sortInst : Go.Proofs.SlLaysF0.n6 Tryz.prog Tryz.sortInst_ren := {
  mixed := by kernel_rfl
  f6 := ⟨Tryz.f35.name, by decide, Tryz.func35.trans (congrArg some (by kernel_rfl))⟩
  f14 := ⟨Tryz.f61.name, by decide, Tryz.func61.trans (congrArg some (by kernel_rfl))⟩
  f15 := Tryz.func62.trans (congrArg some (by kernel_rfl))
  f20 := ⟨Tryz.f74.name, by decide, Tryz.func74.trans (congrArg some (by kernel_rfl))⟩
  f21 := ⟨Tryz.f75.name, by decide, Tryz.func75.trans (congrArg some (by kernel_rfl))⟩
  f22 := ⟨Tryz.f76.name, by decide, Tryz.func76.trans (congrArg some (by kernel_rfl))⟩
  f23 := ⟨Tryz.f77.name, by decide, Tryz.func77.trans (congrArg some (by kernel_rfl))⟩
  f24 := ⟨Tryz.f78.name, by decide, Tryz.func78.trans (congrArg some (by kernel_rfl))⟩
  f25 := ⟨Tryz.f79.name, by decide, Tryz.func79.trans (congrArg some (by kernel_rfl))⟩
  f26 := ⟨Tryz.f80.name, by decide, Tryz.func80.trans (congrArg some (by kernel_rfl))⟩
  f27 := ⟨Tryz.f81.name, by decide, Tryz.func81.trans (congrArg some (by kernel_rfl))⟩
  f28 := Tryz.func82.trans (congrArg some (by kernel_rfl))
  f29 := Tryz.func83.trans (congrArg some (by kernel_rfl))
  f46 := ⟨Tryz.f96.name, by decide, Tryz.func96.trans (congrArg some (by kernel_rfl))⟩
  f47 := Tryz.func97.trans (congrArg some (by kernel_rfl))
  f48 := Tryz.func98.trans (congrArg some (by kernel_rfl))
  f49 := ⟨Tryz.f99.name, by decide, Tryz.func99.trans (congrArg some (by kernel_rfl))⟩
  f50 := ⟨Tryz.f100.name, by decide, Tryz.func100.trans (congrArg some (by kernel_rfl))⟩
  f57 := ⟨Tryz.f106.name, by decide, Tryz.func106.trans (congrArg some (by kernel_rfl))⟩
  t0 := Tryz.underlying0
  a0 := Tryz.isAgg0
  z0 := Tryz.sizeOf0
  v0 := Tryz.zeroValue0
  t3 := Tryz.underlying3
  a3 := Tryz.isAgg3
  z3 := Tryz.sizeOf3
  v3 := Tryz.zeroValue3
  t4 := Tryz.underlying4
  a4 := Tryz.isAgg4
  z4 := Tryz.sizeOf4
  v4 := Tryz.zeroValue4
  t5 := Tryz.underlying5
  a5 := Tryz.isAgg5
  z5 := Tryz.sizeOf5
  v5 := Tryz.zeroValue5
  t9 := Tryz.underlying9
  a9 := Tryz.isAgg9
  z9 := Tryz.sizeOf9
  v9 := Tryz.zeroValue9
  t22 := Tryz.underlying24
  a22 := Tryz.isAgg24
  z22 := Tryz.sizeOf24
  v22 := Tryz.zeroValue24
  t25 := Tryz.underlying65
  a25 := Tryz.isAgg65
  z25 := Tryz.sizeOf65
  v25 := Tryz.zeroValue65
  t39 := Tryz.underlying84
  a39 := Tryz.isAgg84
  z39 := Tryz.sizeOf84
  v39 := Tryz.zeroValue84
  t45 := Tryz.underlying92
  a45 := Tryz.isAgg92
  z45 := Tryz.sizeOf92
  v45 := Tryz.zeroValue92
  t46 := Tryz.underlying93
  a46 := Tryz.isAgg93
  z46 := Tryz.sizeOf93
  v46 := Tryz.zeroValue93
  t50 := Tryz.underlying97
  a50 := Tryz.isAgg97
  z50 := Tryz.sizeOf97
  v50 := Tryz.zeroValue97
  t53 := Tryz.underlying100
  a53 := Tryz.isAgg100
  z53 := Tryz.sizeOf100
  v53 := Tryz.zeroValue100
  t55 := Tryz.underlying102
  a55 := Tryz.isAgg102
  z55 := Tryz.sizeOf102
  v55 := Tryz.zeroValue102
  t66 := Tryz.underlying109
  a66 := Tryz.isAgg109
  z66 := Tryz.sizeOf109
  v66 := Tryz.zeroValue109
  t70 := Tryz.underlying113
  a70 := Tryz.isAgg113
  z70 := Tryz.sizeOf113
  v70 := Tryz.zeroValue113
  t76 := Tryz.underlying119
  a76 := Tryz.isAgg119
  z76 := Tryz.sizeOf119
  v76 := Tryz.zeroValue119
  t77 := Tryz.underlying120
  a77 := Tryz.isAgg120
  z77 := Tryz.sizeOf120
  v77 := Tryz.zeroValue120 }
end Go.Proofs
namespace Go.Proofs.YtonaacdefidomaaGreat
open Go.RowKit Go.Shelf Go.Lib Go.Sort

theorem rows_get {α : Type} [Inhabited α] (enc : α → List Value) (k : Nat) (hk0 : 0 < k) (hk : ∀ x, (enc x).length = k) : ∀ (xs : List α) (j : Nat), j < xs.length * k → (xs.flatMap enc)[j]? = some ((enc xs[j / k]!)[j % k]!)
  | [], j, h => by simp at h
  | x :: r, j, h => by
    rw [List.flatMap_cons]
    rcases Nat.lt_or_ge j k with hj | hj
    · rw [List.getElem?_append_left (by rw [hk]; exact hj), Nat.div_eq_of_lt hj, Nat.mod_eq_of_lt hj]
      simp [hk, hj]
    · obtain ⟨i, rfl⟩ : ∃ i, j = i + k := ⟨j - k, by omega⟩
      rw [List.getElem?_append_right (by rw [hk]; omega), hk, Nat.add_sub_cancel, rows_get enc k hk0 hk r i (by rw [List.length_cons, Nat.add_mul] at h; omega), Nat.add_div_right _ hk0, Nat.add_mod_right]
      rfl
theorem rows_len {α : Type} (enc : α → List Value) (k : Nat) (hk : ∀ x, (enc x).length = k) : ∀ xs : List α, (xs.flatMap enc).length = xs.length * k
  | [] => by simp
  | x :: r => by rw [List.flatMap_cons, List.length_append, hk, rows_len enc k hk r, List.length_cons, Nat.add_mul]; omega
section
variable {α : Type} [Inhabited α] {enc : α → List Value} {k e : Nat}
theorem flat_rows (hk0 : 0 < k) (hk : ∀ x, (enc x).length = k) (d : Array α) (j : Nat) (h : j < d.size * k) : (d.toList.flatMap enc)[j]? = some ((flatK enc k d)[j]!) := by
  rw [rows_get enc k hk0 hk _ _ (by simpa using h), get_flatK _ _ _ _ h]
  have e : d.toList[j / k]! = d[j / k]! := by
    have hj : j / k < d.size := Nat.div_lt_of_lt_mul (by rw [Nat.mul_comm]; exact h)
    rw [List.getElem!_eq_getElem?_getD, getElem!_pos d (j / k) hj]
    simp [hj]
  rw [e]
theorem holds_ownK (hk0 : 0 < k) (hk : ∀ x, (enc x).length = k) {w : World} {base g n c : Nat} {d : Array α} (h : w.ownsRow base e k (.slice (some ⟨g, 0, none⟩) n c) n (d.toList.flatMap enc)) : HoldsK enc k w g 0 d := by
  intro j hj
  rw [size_flatK] at hj
  refine ⟨?_, ?_⟩
  · have := World.ownsRow.cells (g := g) h rfl j _ (flat_rows hk0 hk d j hj)
    rw [add_plain, Nat.zero_add] at this
    rw [Nat.zero_add]
    exact this
  · rw [Nat.zero_add]
    exact h.frozenAt j
theorem own_putK (hk0 : 0 < k) (hk : ∀ x, (enc x).length = k) {w : World} {base g n c : Nat} {xs : List Value} {d : Array α} (hn : n = d.size) (h : w.ownsRow base e k (.slice (some ⟨g, 0, none⟩) n c) n xs) :
    (putRowK enc k w g 0 d).ownsRow base e k (.slice (some ⟨g, 0, none⟩) n c) n (d.toList.flatMap enc) := by
  refine ⟨by rw [rows_len enc k hk]; simp [hn], ?_⟩
  rcases h.2 with ⟨h0, _⟩ | ⟨g', cap, cur, hv, hb, hh, hnc, hcm, hcs, _⟩
  · cases h0
  · injection hv with e1 e2 e3
    injection e1 with e1
    injection e1 with e1
    subst e1 e3
    refine .inr ⟨g, c, putCells id 0 (flatK enc k d) cur, rfl, hb, ?_, hnc, hcm, by simp [putCells, hcs], ?_⟩
    · show ((w.heap.modify g (onCells (putCells id 0 (flatK enc k d)))))[g]? = _
      rw [Array.getElem?_modify, if_pos rfl, hh]
      rfl
    · apply List.ext_getElem?
      intro j
      by_cases hj : j < n * k
      · rw [flat_rows hk0 hk d j (by rw [← hn]; exact hj), List.getElem?_take_of_lt hj]
        have hjc : j < cur.size := by rw [hcs]; have := Nat.mul_le_mul_right k hnc; omega
        simp only [putCells, Array.getElem?_toList, Array.getElem?_mapIdx, Array.getElem?_eq_getElem hjc, Option.map_some]
        rw [if_pos (by simp; rw [← hn]; exact hj)]
        simp
      · rw [List.getElem?_eq_none (by simp; omega), List.getElem?_eq_none (by rw [rows_len enc k hk]; simp; rw [← hn]; omega)]
theorem own_sortedK (hk0 : 0 < k) (hk : ∀ x, (enc x).length = k) {w : World} {base g n c m : Nat} {xs : List Value} {d : Array α} {os : Array Obj} (hn : n = d.size) (hg : g < w.heap.size) (h : w.ownsRow base e k (.slice (some ⟨g, 0, none⟩) n c) n xs) :
    (sortWorldK enc k w g 0 m d os).ownsRow base e k (.slice (some ⟨g, 0, none⟩) n c) n (d.toList.flatMap enc) ∧ w.grownBy (sortWorldK enc k w g 0 m d os) (some g) := by
  have h1 : (putRowK enc k (Sort.ahead w m) g 0 d).ownsRow base e k (.slice (some ⟨g, 0, none⟩) n c) n (d.toList.flatMap enc) := own_putK hk0 hk hn h
  have hsz : (putRowK enc k (Sort.ahead w m) g 0 d).heap.size = w.heap.size := by simp [putRowK, putRow, mapBlock, Sort.ahead]
  have hap : ∀ b, b < w.heap.size → (sortWorldK enc k w g 0 m d os).heap[b]? = (putRowK enc k (Sort.ahead w m) g 0 d).heap[b]? := fun b hb => by
    show ((putRowK enc k (Sort.ahead w m) g 0 d).heap ++ os)[b]? = _
    rw [Array.getElem?_append_left (by rw [hsz]; exact hb)]
  refine ⟨ownsRow_keep h1 (fun b hk => ⟨(h1.lt b hk).1, hap b (by rw [← hsz]; exact (h1.lt b hk).2)⟩), ⟨rfl, rfl, rfl, ?_, fun b hb hne => ?_⟩⟩
  · show w.heap.size ≤ ((putRowK enc k (Sort.ahead w m) g 0 d).heap ++ os).size
    rw [Array.size_append, hsz]; omega
  · rw [hap b hb]
    show (w.heap.modify g _)[b]? = _
    rw [Array.getElem?_modify, if_neg (fun e => hne (congrArg some e.symm))]
end
/-- an instance's cells, raw: its Id and what stands behind -/
structure RawI where
  id : IdD
  rest : List Value
  hl : rest.length = 14
  h1 : ∀ u ∈ rest, u.oneCell' = true
def RawI.enc (x : RawI) : List Value := .int .i64 x.id.rep :: .int .i64 x.id.slot :: x.rest
theorem RawI.enc_len (x : RawI) : x.enc.length = 16 := by simp [RawI.enc, x.hl]
instance : Inhabited RawI := ⟨⟨⟨0, 0⟩, List.replicate 14 (.int .i64 0), by simp, by intro u hu; rw [(List.mem_replicate.1 hu).2]; rfl⟩⟩
def rawCmp (x y : RawI) : Int := idCmp x.id y.id
theorem ltOf_raw (x y : RawI) : ltOf rawCmp x y = idLt x.id y.id := ltOf_id x.id y.id
theorem swo_raw : SWO (ltOf rawCmp) where
  irrefl x := by rw [ltOf_raw]; exact idLt_irrefl x.id
  trans x y z h1 h2 := by rw [ltOf_raw] at *; exact idLt_trans h1 h2
  ntrans x y z h1 h2 := by rw [ltOf_raw] at *; exact idLt_ntrans h1 h2
theorem raw_of {w : World} {base : Nat} : ∀ {xs : List InstD} {cells : List Value} {F : List Nat}, Own w base (cat InstD.c xs) cells F → ∃ d : List RawI, cells = d.flatMap RawI.enc ∧ d.map RawI.id = xs.map InstD.id
  | [], cells, F, h => ⟨[], (Own.nil.1 h).1, rfl⟩
  | x :: xs, cells, F, h => by
    rw [cat_cons] at h
    obtain ⟨c1, c2, F1, F2, rfl, rfl, h1, h2⟩ := Own.app.1 h
    obtain ⟨d, rfl, hd⟩ := raw_of h2
    have hl : c1.length = 16 := h1.length.trans (InstD.width x)
    have h16 := h1.one
    obtain ⟨A0, k0, A1, k1, hc, _, _⟩ := InstD.open h1.repAny
    refine ⟨⟨x.id, c1.drop 2, by rw [List.length_drop, hl], fun u hu => h16 u (List.mem_of_mem_drop hu)⟩ :: d, ?_, by rw [List.map_cons, List.map_cons, hd]⟩
    rw [List.flatMap_cons]
    congr 1
    subst hc
    rfl
theorem raw_perm {w : World} {base : Nat} {d d' : List RawI} (hp : d.Perm d') : ∀ {xs : List InstD} {F : List Nat}, d.map RawI.id = xs.map InstD.id → Own w base (cat InstD.c xs) (d.flatMap RawI.enc) F →
    ∃ ys F', ys.Perm xs ∧ F'.Perm F ∧ d'.map RawI.id = ys.map InstD.id ∧ Own w base (cat InstD.c ys) (d'.flatMap RawI.enc) F' := by
  induction hp with
  | nil => intro xs F he ho; exact ⟨xs, F, .refl _, .refl _, he, ho⟩
  | cons a _ ih =>
    intro xs F he ho
    cases xs with
    | nil => cases he
    | cons x xs =>
      rw [List.map_cons, List.map_cons] at he
      injection he with he1 he2
      rw [cat_cons, List.flatMap_cons] at ho
      obtain ⟨c1, c2, F1, F2, hc, rfl, o1, o2⟩ := Own.app.1 ho
      have hl : c1.length = a.enc.length := by rw [a.enc_len]; exact o1.length.trans (InstD.width x)
      obtain ⟨rfl, rfl⟩ := List.append_inj hc hl.symm
      obtain ⟨ys, F', p1, p2, e, o⟩ := ih he2 o2
      refine ⟨x :: ys, F1 ++ F', p1.cons _, p2.append_left _, by rw [List.map_cons, List.map_cons, he1, e], ?_⟩
      rw [cat_cons, List.flatMap_cons]
      exact Own.app.2 ⟨_, _, _, _, rfl, rfl, o1, o⟩
  | swap a b l =>
    intro xs F he ho
    match xs, he, ho with
    | [], he, _ => cases he
    | [_], he, _ => simp at he
    | x :: y :: xs, he, ho =>
      simp only [List.map_cons, List.cons.injEq] at he
      rw [cat_cons, cat_cons, List.flatMap_cons, List.flatMap_cons] at ho
      obtain ⟨c1, c2, F1, F2, hc, rfl, o1, o2⟩ := Own.app.1 ho
      have hl : c1.length = b.enc.length := by rw [b.enc_len]; exact o1.length.trans (InstD.width x)
      obtain ⟨rfl, rfl⟩ := List.append_inj hc hl.symm
      obtain ⟨c3, c4, F3, F4, hc, rfl, o3, o4⟩ := Own.app.1 o2
      have hl : c3.length = a.enc.length := by rw [a.enc_len]; exact o3.length.trans (InstD.width y)
      obtain ⟨rfl, rfl⟩ := List.append_inj hc hl.symm
      refine ⟨y :: x :: xs, F3 ++ (F1 ++ F4), .swap _ _ _, ?_, by simp [he.1, he.2.1, he.2.2], ?_⟩
      · rw [← List.append_assoc, ← List.append_assoc]
        exact List.perm_append_comm.append_right _
      · rw [cat_cons, cat_cons, List.flatMap_cons, List.flatMap_cons]
        exact Own.app.2 ⟨_, _, _, _, rfl, rfl, o3, Own.app.2 ⟨_, _, _, _, rfl, rfl, o1, o4⟩⟩
  | trans _ _ ih1 ih2 =>
    intro xs F he ho
    obtain ⟨ys, F', p1, p2, e, o⟩ := ih1 he ho
    obtain ⟨zs, F'', p3, p4, e2, o2⟩ := ih2 e o
    exact ⟨zs, F'', p3.trans p1, p4.trans p2, e2, o2⟩
theorem list14 {cs : List Value} (h : cs.length = 14) : ∃ v2 v3 v4 v5 v6 v7 v8 v9 v10 v11 v12 v13 v14 v15, cs = [v2, v3, v4, v5, v6, v7, v8, v9, v10, v11, v12, v13, v14, v15] := by
  match cs, h with
  | [v2, v3, v4, v5, v6, v7, v8, v9, v10, v11, v12, v13, v14, v15], _ => exact ⟨_, _, _, _, _, _, _, _, _, _, _, _, _, _, rfl⟩
set_option maxRecDepth 100000 in
set_option maxHeartbeats 2000000 in
theorem putFn_exact (x y : RawI) (w : World) :
    Calls Tryz.prog 36 #[.agg x.enc.toArray, .agg y.enc.toArray] w fun e w' => e = .returned (.int .i64 (rawCmp x y)) ∧ ∃ (q : Nat) (os' : Array Obj), w' = grow (w.drewN q) os' := by
  have hX : Blk (w.alloc (.cells x.enc.toArray 38)) w.heap.size 38 x.enc.toArray := blk_new _ _ _
  have hY : Blk ((w.alloc (.cells x.enc.toArray 38)).alloc (.cells y.enc.toArray 38)) (w.heap.size + 1) 38 y.enc.toArray := by
    have := blk_new (w.alloc (.cells x.enc.toArray 38)) y.enc.toArray 38
    simpa using this
  have idc : ∀ (z : RawI) (v : World) (g : Nat), Blk v g 38 z.enc.toArray → ∀ j u, [Value.int .i64 z.id.rep, .int .i64 z.id.slot][j]? = some u → v.cell? ((⟨g, 0, none⟩ : Addr).add j) = some u := fun z v g hb j u hu => by
    refine blk_cells hb j u ?_
    match j, hu with
    | 0, hu => exact hu
    | 1, hu => exact hu
    | j + 2, hu => simp at hu
  have HXC := Lib.hid (idc x _ _ (hX.alloc (.cells y.enc.toArray 38)))
  have HYC := Lib.hid (idc y _ _ hY); clear hX hY idc
  have HCMP := Lib.hid (fun W => compareIds_exact x.id y.id W)
  have HR := Lib.hid (show rawCmp x y = idCmp x.id y.id from rfl)
  generalize rawCmp x y = R at *
  generalize idCmp x.id y.id = R2 at *
  obtain ⟨⟨xr, xs⟩, lx, hlx, h1x⟩ := x
  obtain ⟨⟨yr, ys⟩, ly, hly, h1y⟩ := y
  obtain ⟨x2, x3, x4, x5, x6, x7, x8, x9, x10, x11, x12, x13, x14, x15, rfl⟩ := list14 hlx
  obtain ⟨y2, y3, y4, y5, y6, y7, y8, y9, y10, y11, y12, y13, y14, y15, rfl⟩ := list14 hly
  simp only [RawI.enc] at HXC HYC HCMP ⊢
  clear h1x h1y hlx hly
  go_enter Tryz.func36, Tryz.ntmps36
  go_wp2_with (first
    | ((with_reducible show wpList _ _ _ ({ dst := _, op := Op.load 26 _, type := _, pos := _, after := _, guard := _ } :: _) _ _); first | refine wpList_load_row _ ⟨w.heap.size, 0, none⟩ rfl [.int .i64 xr, .int .i64 xs] agg_Id rfl HXC.out ?_ | refine wpList_load_row _ ⟨w.heap.size + 1, 0, none⟩ rfl [.int .i64 yr, .int .i64 ys] agg_Id rfl HYC.out ?_)
    | fail)
  refine (HCMP.out _).mono ?_
  rintro e w' ⟨rfl, q, os', rfl⟩
  go_wp2
  go_ret
  exact ⟨ret_eq (by rw [HR.out]; rfl), q, _, by rw [alloc_eq_grow, alloc_eq_grow, grow_grow]; exact (show grow (grow (w.drewN q) _) os' = _ from grow_grow _ _ _)⟩
theorem sort_instsR (blk off cap : Nat) (d : Array RawI) (w : World) (hH : HoldsK RawI.enc 16 w blk off d) (hblk : blk < w.heap.size) (hsz : d.size < 4611686018427387904) :
    Calls Tryz.prog 35 #[.slice (some ⟨blk, off, none⟩) d.size cap, .func (.func 36) #[] #[]] w fun e w' =>
      e = .returned (.tuple #[]) ∧ ∃ d' n os, PermIn 0 d.size d d' ∧ SortedIn (ltOf rawCmp) 0 d.size d' ∧ w' = sortWorldK RawI.enc 16 w blk off n d' os :=
  AnyQ.slices_SortFunc Tryz.sortInst 16 (fun w => agg_Inst.isAgg w) (fun w => agg_Inst.size w) RawI.enc RawI.enc_len (fun x v hv => by
    simp only [RawI.enc, List.mem_cons] at hv
    rcases hv with rfl | rfl | hv
    · rfl
    · rfl
    · exact x.h1 v hv) rawCmp swo_raw 36 #[] blk off cap d w (enters_of Tryz.func36 (by kernel_rfl) rfl) (fun _ _ _ _ x y => putFn_exact x y _) hH hblk hsz
theorem sort_insts (base g n c : Nat) (xs : List InstD) (w : World) (hn : n = xs.length) (hn1 : n ≤ 4194304) (h : Mine w base (.sl 38 16 n (cat InstD.c xs) .nil) [.slice (some ⟨g, 0, none⟩) n c]) :
    Calls Tryz.prog 35 #[.slice (some ⟨g, 0, none⟩) n c, .func (.func 36) #[] #[]] w fun e w' =>
      e = .returned (.tuple #[]) ∧ ∃ ys : List InstD, ys.Perm xs ∧ ys.Pairwise (fun a b => idLt b.id a.id = false) ∧ Mine w' base (.sl 38 16 n (cat InstD.c ys) .nil) [.slice (some ⟨g, 0, none⟩) n c] ∧ w.grownBy w' (some g) := by
  obtain ⟨cells, F, hr, ho, hnd, hw⟩ := mine_open h
  obtain ⟨d, rfl, hd⟩ := raw_of ho
  have hdl : d.length = xs.length := by have := congrArg List.length hd; simpa using this
  have hg := (hr.lt g rfl).2
  have hH : HoldsK RawI.enc 16 w g 0 d.toArray := holds_ownK (by decide) RawI.enc_len (base := base) (e := 38) (n := n) (c := c) (by simpa using hr)
  have hc := sort_instsR g 0 c d.toArray w hH hg (by simp; omega)
  simp only [List.size_toArray] at hc
  rw [hdl, ← hn] at hc
  refine hc.mono ?_
  rintro e w' ⟨rfl, d', m, os, hp, hs, rfl⟩
  have hsz : d'.size = d.length := by have := hp.1; simpa using this
  have hperm : d.Perm d'.toList := by
    have := hp.2.2
    rw [show d'.extract 0 n = d' from by rw [hn, ← hdl, ← hsz]; simp, show d.toArray.extract 0 n = d.toArray from by rw [hn, ← hdl]; simp] at this
    simpa using this.symm
  obtain ⟨ys, F', p1, p2, e2, o2⟩ := raw_perm hperm hd ho
  have hso := own_sortedK (by decide) RawI.enc_len (m := m) (os := os) (d := d') (by omega) hg hr
  have hF : (Value.slice (some ⟨g, 0, none⟩) n c).ownBlock.toList ++ F' |>.Nodup := ((p2.append_left _).nodup_iff).2 hnd
  have hgF : ∀ b ∈ F', ¬ b = g := fun b hb e => by
    subst e
    have : b ∉ F' := by
      have := hF
      simp [Value.ownBlock] at this
      exact this.1
    exact this hb
  refine ⟨rfl, ys, p1, ?_, ⟨_, hF, Own.sl1.2 ⟨_, F', rfl, ?_, hso.1, ?_⟩⟩, hso.2⟩
  · have hs2 : d'.toList.Pairwise (fun a b => idLt b.id a.id = false) := by
      refine List.pairwise_iff_getElem.2 fun i j hi hj hij => ?_
      have := hs i j (Nat.zero_le _) hij (by rw [hn, ← hdl, ← hsz]; simpa using hj)
      rw [ltOf_raw] at this
      have e1 : d'[i]! = d'.toList[i] := by rw [getElem!_pos d' i (by simpa using hi)]; simp
      have e2 : d'[j]! = d'.toList[j] := by rw [getElem!_pos d' j (by simpa using hj)]; simp
      rw [e1, e2] at this
      exact this
    have h3 : (d'.toList.map RawI.id).Pairwise (fun a b => idLt b a = false) := List.pairwise_map.2 hs2
    rw [e2] at h3
    exact List.pairwise_map.1 h3
  · rw [cat_width InstD.width, p1.length_eq, ← hn]
  · exact o2.keep (fun b hb => hso.2.block b (o2.in b hb).2 (fun e => hgF b hb (by injection e)))

end Go.Proofs.YtonaacdefidomaaGreat
namespace Go.Proofs.YtonaacdefidomaaGreat
open Go.RowKit
theorem grown_below {a b c : World} {g : Nat} (h : Below a.heap.size a b) (k : b.grownBy c (some g)) : a.grownBy c (some g) :=
  ⟨k.os.trans h.os, k.tape.trans h.tape, k.output.trans h.output, Nat.le_trans h.size k.size, fun i hi hne => (k.block i (Nat.lt_of_lt_of_le hi h.size) hne).trans (h.block i hi)⟩

set_option maxRecDepth 100000 in
set_option maxHeartbeats 8000000 in
theorem iInstPut_any (xs : List InstD) (x : InstD) (A : Option Addr) (n c : Nat) (cs : List Value) (w : World) (hn : n = xs.length) (hwt : n + (cat InstD.c xs).wt ≤ 1048576) (hwx : x.c.wt ≤ 1048576) (h : Rep anyB w (.sl 38 16 n (cat InstD.c xs) .nil) [.slice A n c]) (h' : Rep anyB w x.c cs) :
    Calls Tryz.prog 13 #[.slice A n c, .agg cs.toArray] w fun e w' => ∃ A2 m c2, e = .returned (.slice A2 m c2) ∧ m = (fInstPut xs x).length ∧ Mine w' w.heap.size (.sl 38 16 m (cat InstD.c (fInstPut xs x)) .nil) [.slice A2 m c2] ∧ Below w.heap.size w w' := by
  have HL := Lib.hid (show cs.length = 16 from h'.length.trans (InstD.width x))
  have hxid := fun (v : World) (hb : Blk v w.heap.size 38 cs.toArray) => id_cells h' (blk_cells hb)
  have HXI := Lib.hid hxid; clear hxid
  obtain ⟨R, hR⟩ : ∃ R, R = fInstPut xs x := ⟨_, rfl⟩
  rw [← hR]
  have HRF := Lib.hid hR; clear hR
  have HX := Lib.hid h'; clear h'
  have HR := Lib.hid h; clear h
  have HN := Lib.hid hn; clear hn
  have HW := Lib.hid (fun y (hy : y ∈ xs) => show (y.c).wt ≤ 1048576 by have := cat_wt_le (f := InstD.c) hy; omega)
  have HWT := Lib.hid hwt
  have hn1 : n ≤ 1048576 := by omega
  clear hwt
  have HBX := Lib.hid (blk_new w cs.toArray 38)
  have BW := Lib.hid (show Below w.heap.size w (w.alloc (.cells cs.toArray 38)) from (by repeat' (first | with_reducible exact Below.refl _ _ | with_reducible exact BW.out | with_reducible refine Below.setCell ?_ ?_ _ | with_reducible refine Below.alloc ?_ ?_ _ | with_reducible refine Below.drew ?_ | (simp; done) | (simp; omega) | omega)))
  go_enter Tryz.func13, Tryz.ntmps13
  go_wp2_with fail
  refine (iInstsOk_any xs A n c _ HN.out HWT.out (HR.out.below BW.out)).mono ?_; rintro e v1 ⟨rfl, hb⟩
  have X := Lib.hid (HBX.out.below hb); clear HBX
  have HBX := Lib.hid X.out; clear X
  have X := Lib.hid (BW.out.trans (hb.mono BW.out.size)); clear BW hb
  have BW := Lib.hid X.out; clear X
  cases hok : instsOkB xs with
  | false =>
    obtain rfl : R = [] := by rw [HRF.out, fInstPut, if_neg (by simp [hok])]
    go_wp2
    go_ret
    exact ⟨_, _, _, rfl, rfl, mine_row0 _, BW.out⟩
  | true =>
    have HF := Lib.hid (show R = if instOkB x = true then fPut xs x else xs by rw [HRF.out, fInstPut, if_pos hok])
    go_wp2_with fail
    refine (copyInsts_any xs A n c _ HN.out (by omega) HW.out (HR.out.below BW.out)).mono ?_; rintro e v2 ⟨A2, c2, rfl, hm, hb⟩
    have HM0 := Lib.hid (hm.mono BW.out.size); clear hm
    have X := Lib.hid (HBX.out.below hb); clear HBX
    have HBX := Lib.hid X.out; clear X
    have X := Lib.hid (BW.out.trans (hb.mono BW.out.size)); clear BW hb
    have BW := Lib.hid X.out; clear X
    go_wp2_with (first | ((with_reducible show wpList _ _ _ ({ dst := _, op := Op.load 26 _, type := _, pos := _, after := _, guard := _ } :: _) _ _); refine wpList_load_row _ ⟨w.heap.size, 0, none⟩ rfl [.int .i64 _, .int .i64 _] agg_Id rfl (HXI.out _ HBX.out) ?_) | fail)
    refine (instAtI_any xs x.id A n c _ _ HN.out hn1 (HR.out.below BW.out) (id_shut _ _)).mono ?_; rintro e v3 ⟨q, rfl, hq, hb⟩
    have X := Lib.hid (HBX.out.below hb); clear HBX
    have HBX := Lib.hid X.out; clear X
    have X := Lib.hid (HM0.out.below hb); clear HM0
    have HM0 := Lib.hid X.out; clear X
    have X := Lib.hid (BW.out.trans (hb.mono BW.out.size)); clear BW
    have BW := Lib.hid X.out; clear X
    clear hb
    rcases hq with ⟨j, hjx, rfl, he, _⟩ | ⟨rfl, hall⟩
    · have HE := Lib.hid he; clear he
      have hjn : j < n := by have := HN.out; omega
      go_wp2_with (first | ((with_reducible show wpList _ _ _ ({ dst := _, op := Op.load 38 _, type := _, pos := _, after := _, guard := _ } :: _) _ _); refine wpList_load_row _ ⟨w.heap.size, 0, none⟩ rfl cs agg_Inst HL.out (blk_cells HBX.out) ?_) | fail)
      refine (copyInst_any x cs _ hwx (HX.out.below BW.out)).mono ?_; rintro e v4 ⟨cs', rfl, ⟨F', n', o'⟩, hb⟩
      have HL2 := Lib.hid (show cs'.length = 16 from o'.length.trans (InstD.width _))
      obtain ⟨F0, hnd0, hown0⟩ := HM0.out
      obtain ⟨g, rfl, hF0⟩ : ∃ g, A2 = some ⟨g, 0, none⟩ ∧ w.heap.size ≤ g := by
        obtain ⟨cells, F1, _, _, hr, _⟩ := Own.sl1.1 hown0
        rcases hr.2 with ⟨_, h0⟩ | ⟨g, cap, cur, hv, hb, _⟩
        · omega
        · injection hv with e1; exact ⟨g, e1, hb⟩
      have HGB := Lib.hid hF0; clear hF0
      have hsp := set_split xs j hjx x
      have hown1 := hown0
      rw [hsp.1] at hown1
      obtain ⟨c1, c2', c3, spare, hl1, hl2, _, hblk, hclose⟩ := own_swap InstD.width hown1 hnd0
      have hinlt := fun b (hb2 : b ∈ F0) => (hown0.in b hb2).2
      have hlen : (xs.take j).length = j := by rw [List.length_take, Nat.min_eq_left (Nat.le_of_lt hjx)]
      rw [hlen] at hl1
      have hclose2 := fun w' hgr hbb => hclose w' x cs' F' (show Own w' w.heap.size x.c cs' F' from hgr) n' hbb
      clear hclose hown1 hown0 hnd0
      have hgl := hblk.lt
      have KB := Lib.hid (hblk.below hb); clear hblk
      have KL1 := Lib.hid hl1; clear hl1
      have KL2 := Lib.hid hl2; clear hl2 hlen
      have KO := Lib.hid (o'.mono BW.out.size)
      have KD := Lib.hid (fun b (hb2 : b ∈ F') (h3 : b ∈ F0) => by have h4 := (o'.in b hb2).1; have h5 := hinlt b h3; omega : ∀ b ∈ F', b ∉ F0); clear hinlt
      have KG := Lib.hid (show ∀ b ∈ F', b ≠ g from fun b hb2 e => by have h4 := (o'.in b hb2).1; omega)
      have KC := Lib.hid hclose2; clear hclose2
      have KW := Lib.hid hb.size
      have KBV := Lib.hid hb
      have X := Lib.hid (BW.out.trans (hb.mono BW.out.size)); clear BW
      have BW := Lib.hid X.out; clear X
      have KO1 := Lib.hid o'.one
      have KP := Lib.hid hsp.2; clear hsp o' n' hb HM0
      go_wp2_with (first | ((with_reducible show wpList _ _ _ ({ dst := _, op := Op.store 38 _ _, type := _, pos := _, after := _, guard := _ } :: _) _ _); go_must (refine wpList_store_row _ g 38 (j * 16) cs' c1 c2' (c3 ++ spare) _ rfl rfl (HL2.out ▸ agg_Inst) KB.out rfl KL1.out (by rw [KL2.out, HL2.out]) KO1.out ?_; intro v5 h5 g5; have K5 := Lib.hid h5; have G5 := Lib.hid g5; clear h5 g5)) | fail)
      have X := Lib.hid (KO.out.keep (fun b hb2 => G5.out.block b (KO.out.in b hb2).2 (fun e => KG.out b hb2 (by injection e)))); clear KO
      have KO := Lib.hid X.out; clear X
      have hm5 := KC.out v5 KO.out KD.out (grown_below KBV.out G5.out) (by simpa using K5.out)
      rw [← KP.out] at hm5
      have HM := Lib.hid hm5; clear hm5
      have X := Lib.hid (Below.grown BW.out G5.out BW.out.size (fun k hk => by injection hk with hk; have := HGB.out; omega)); clear BW
      have BW := Lib.hid X.out; clear X
      have HML := Lib.hid (show n = (xs.set j x).length ∧ n ≤ n + 1 from ⟨by rw [List.length_set]; exact HN.out, by omega⟩)
      clear KO KC KD K5 G5 KB KL1 KL2 KBV KP KG KO1 KW HL2 HBX HXI
      go_wp2_with fail
      refine (sort_insts w.heap.size g n c2 (xs.set j x) _ HML.out.1 (by have h1 := HML.out.2; omega) HM.out).mono ?_
      rintro e v5 ⟨rfl, ys, hperm, hsort, hm5, hg5⟩
      have hgb := (HM.out.rep)
      have hys : ys = fPut xs x := put_sorted (insts_asc hok) (.inl ⟨j, hjx, HE.out, rfl⟩) hperm hsort
      subst hys
      have HML2 := Lib.hid (show n = (fPut xs x).length from by rw [hperm.length_eq]; exact HML.out.1)
      have HM5 := Lib.hid hm5; clear hm5 hperm hsort hgb
      have X := Lib.hid (BW.out.grown hg5 BW.out.size (fun k hk => by injection hk with hk; have := HGB.out; omega)); clear BW
      have BW := Lib.hid X.out; clear X
      clear hg5
      go_wp2_with fail
      refine (iInstsOk_all (fPut xs x) (some ⟨g, 0, none⟩) n c2 _ HML2.out (by have h1 := HML.out.2; omega) (put_wt HW.out hwx) HM5.out.rep.any).mono ?_; rintro e v6 ⟨rfl, hb⟩
      have X := Lib.hid (HM5.out.below hb); clear HM5
      have HM5 := Lib.hid X.out; clear X
      have X := Lib.hid (BW.out.trans (hb.mono BW.out.size)); clear BW
      have BW := Lib.hid X.out; clear X
      clear hb
      rw [put_ok hok]
      cases hox : instOkB x with
      | false =>
        obtain rfl : xs = R := by rw [HF.out, if_neg (by simp [hox])]
        clear HF HRF
        go_wp2_with fail
        refine (copyInsts_any xs A n c _ HN.out (by omega) HW.out (HR.out.below BW.out)).mono ?_; rintro e v7 ⟨A2, c2, rfl, hm, hb⟩
        have HM7 := Lib.hid (hm.mono BW.out.size); clear hm
        have X := Lib.hid (BW.out.trans (hb.mono BW.out.size)); clear BW
        have BW := Lib.hid X.out; clear X
        clear hb
        go_wp2
        go_ret
        exact ⟨_, _, _, rfl, HN.out, HM7.out, BW.out⟩
      | true =>
        obtain rfl : R = fPut xs x := by rw [HF.out, if_pos hox]
        clear HF HRF
        go_wp2
        go_ret
        exact ⟨_, _, _, rfl, HML2.out, HM5.out, BW.out⟩
    · have HAL := Lib.hid (show ∀ y ∈ xs, ¬ y.id = x.id from fun y hy => by obtain ⟨i, hi, rfl⟩ := List.getElem_of_mem hy; exact hall i hi); clear hall
      obtain ⟨cells, F, hr0, ho0, hnd0, _⟩ := mine_open HM0.out
      have LT0 := Lib.hid (mine_open_lt hr0 ho0)
      have R0 := Lib.hid hr0; clear hr0
      have O0 := Lib.hid ho0; clear ho0
      have N0 := Lib.hid hnd0; clear hnd0 HM0
      go_wp2_with (first | ((with_reducible show wpList _ _ _ ({ dst := _, op := Op.load 38 _, type := _, pos := _, after := _, guard := _ } :: _) _ _); refine wpList_load_row _ ⟨w.heap.size, 0, none⟩ rfl cs agg_Inst HL.out (blk_cells HBX.out) ?_) | fail)
      refine (copyInst_any x cs _ hwx (HX.out.below BW.out)).mono ?_; rintro e v4 ⟨cs', rfl, ⟨F', n', o'⟩, hb⟩
      have HL2 := Lib.hid (show cs'.length = 16 from o'.length.trans (InstD.width _))
      have KD := Lib.hid (show ∀ b ∈ F', b ∉ (Value.slice A2 n c2).ownBlock.toList ++ F from fun b hb2 h3 => by have h4 := (o'.in b hb2).1; have h5 := LT0.out b h3; omega)
      have KO := Lib.hid (o'.mono BW.out.size); clear o'
      have N1 := Lib.hid n'; clear n'
      have X := Lib.hid (R0.out.keptBelowJ hb); clear R0
      have R0 := Lib.hid X.out; clear X
      have X := Lib.hid (O0.out.below hb); clear O0
      have O0 := Lib.hid X.out; clear X
      have X := Lib.hid (BW.out.trans (hb.mono BW.out.size)); clear BW
      have BW := Lib.hid X.out; clear X
      clear hb LT0
      go_wp2_with (first
        | ((with_reducible show wpList _ _ _ ({ dst := _, op := Op.buildSlice _ _ _, type := _, pos := _, after := _, guard := _ } :: _) _ _); go_must (refine wpList_build1 rfl (.tmp 25) rfl cs' HL2.out rfl ?_))
        | (at_builtin; go_must (refine wpList_app E_Inst _ rfl (.tmp 23) (.tmp 26) rfl w.heap.size _ n cells rfl (R0.out.alloc _) _ _ _ _ rfl (Reads.new (e := 38) (by simp [HL2.out])) KO.out.one (by omega) (by have h1 := BW.out.size; simp; omega) ?_; intro v' v5 hown5 hg5 hat5; have hgb := (R0.out.lt); obtain ⟨g, cap, rfl, hF0⟩ : ∃ g cap, v' = .slice (some ⟨g, 0, none⟩) (n + 1) cap ∧ w.heap.size ≤ g := hown5.2.elim (fun h0 => absurd h0.2 (by omega)) (fun ⟨g, cap, cur, hv, hb, _⟩ => ⟨g, cap, hv, hb⟩); have HGB := Lib.hid hF0; clear hF0; have HM := Lib.hid (show Mine v5 w.heap.size (.sl 38 16 (n + 1) (cat InstD.c (xs ++ [x])) .nil) [.slice (some ⟨g, 0, none⟩) (n + 1) cap] from row_app HN.out InstD.width (O0.out.below ((Below.refl _ _).alloc (Nat.le_refl _) _)) N0.out (KO.out.below ((Below.refl _ _).alloc (Nat.le_refl _) _)) N1.out KD.out hown5 hg5 hat5); have X := Lib.hid (show Below w.heap.size w v5 from Below.grown (BW.out.alloc BW.out.size _) hg5 (by have h1 := BW.out.size; simp; omega) (fun k hk => (hgb k hk).1)); clear BW; have BW := Lib.hid X.out; clear X; clear hown5 hg5 hat5 hgb))
        | fail)
      have HML := Lib.hid (show n + 1 = (xs ++ [x]).length ∧ n + 1 ≤ n + 1 from ⟨by rw [List.length_append, HN.out]; rfl, Nat.le_refl _⟩)
      clear KO KD N0 N1 O0 R0 HL2 HBX HXI
      go_wp2_with fail
      refine (sort_insts w.heap.size g (n + 1) cap (xs ++ [x]) _ HML.out.1 (by have h1 := HML.out.2; omega) HM.out).mono ?_
      rintro e v5 ⟨rfl, ys, hperm, hsort, hm5, hg5⟩
      have hgb := (HM.out.rep)
      have hys : ys = fPut xs x := put_sorted (insts_asc hok) (.inr ⟨HAL.out, rfl⟩) hperm hsort
      subst hys
      have HML2 := Lib.hid (show (n + 1) = (fPut xs x).length from by rw [hperm.length_eq]; exact HML.out.1)
      have HM5 := Lib.hid hm5; clear hm5 hperm hsort hgb
      have X := Lib.hid (BW.out.grown hg5 BW.out.size (fun k hk => by injection hk with hk; have := HGB.out; omega)); clear BW
      have BW := Lib.hid X.out; clear X
      clear hg5
      go_wp2_with fail
      refine (iInstsOk_all (fPut xs x) (some ⟨g, 0, none⟩) (n + 1) cap _ HML2.out (by have h1 := HML.out.2; omega) (put_wt HW.out hwx) HM5.out.rep.any).mono ?_; rintro e v6 ⟨rfl, hb⟩
      have X := Lib.hid (HM5.out.below hb); clear HM5
      have HM5 := Lib.hid X.out; clear X
      have X := Lib.hid (BW.out.trans (hb.mono BW.out.size)); clear BW
      have BW := Lib.hid X.out; clear X
      clear hb
      rw [put_ok hok]
      cases hox : instOkB x with
      | false =>
        obtain rfl : xs = R := by rw [HF.out, if_neg (by simp [hox])]
        clear HF HRF
        go_wp2_with fail
        refine (copyInsts_any xs A n c _ HN.out (by omega) HW.out (HR.out.below BW.out)).mono ?_; rintro e v7 ⟨A2, c2, rfl, hm, hb⟩
        have HM7 := Lib.hid (hm.mono BW.out.size); clear hm
        have X := Lib.hid (BW.out.trans (hb.mono BW.out.size)); clear BW
        have BW := Lib.hid X.out; clear X
        clear hb
        go_wp2
        go_ret
        exact ⟨_, _, _, rfl, HN.out, HM7.out, BW.out⟩
      | true =>
        obtain rfl : R = fPut xs x := by rw [HF.out, if_pos hox]
        clear HF HRF
        go_wp2
        go_ret
        exact ⟨_, _, _, rfl, HML2.out, HM5.out, BW.out⟩

end Go.Proofs.YtonaacdefidomaaGreat
namespace Go.Proofs.YtonaacdefidomaaGreat
open Go.RowKit

theorem compactF_cons {a b : IdD} {r : List IdD} : compactF (a :: b :: r) = if a = b then compactF (b :: r) else a :: compactF (b :: r) := by rw [compactF]
theorem compactF_one (a : IdD) : compactF [a] = [a] := by rw [compactF]
theorem compactF_snoc (x y : IdD) : ∀ xs : List IdD, compactF (xs ++ [x, y]) = if x = y then compactF (xs ++ [x]) else compactF (xs ++ [x]) ++ [y]
  | [] => by
    show compactF [x, y] = if x = y then compactF [x] else compactF [x] ++ [y]
    rw [compactF_cons, compactF_one, compactF_one]
    split
    · rename_i h; rw [h]
    · rfl
  | [a] => by
    show compactF [a, x, y] = if x = y then compactF [a, x] else compactF [a, x] ++ [y]
    rw [compactF_cons, compactF_cons (a := a) (b := x) (r := []), compactF_cons (a := x) (b := y) (r := []), compactF_one, compactF_one]
    by_cases h1 : a = x <;> by_cases h2 : x = y <;> simp [h1, h2]
  | a :: b :: r => by
    have ih := compactF_snoc x y (b :: r)
    simp only [List.cons_append] at ih ⊢
    rw [compactF_cons, compactF_cons (a := a), ih]
    by_cases h1 : a = b <;> by_cases h2 : x = y <;> simp [h1, h2]
/-- one element more -/
theorem compactF_take {xs : List IdD} {m : Nat} (h0 : 0 < m) (hm : m < xs.length) : compactF (xs.take (m + 1)) = if xs[m - 1] = xs[m] then compactF (xs.take m) else compactF (xs.take m) ++ [xs[m]] := by
  obtain ⟨k, rfl⟩ : ∃ k, m = k + 1 := ⟨m - 1, by omega⟩
  have h := compactF_snoc xs[k] xs[k + 1] (xs.take k)
  have e1 : xs.take k ++ [xs[k], xs[k + 1]] = xs.take (k + 1 + 1) := by
    have a1 := List.take_succ_eq_append_getElem hm
    have a2 := List.take_succ_eq_append_getElem (show k < xs.length by omega)
    rw [a1, a2, List.append_assoc]
    rfl
  have e2 : xs.take k ++ [xs[k]] = xs.take (k + 1) := (List.take_succ_eq_append_getElem (show k < xs.length by omega)).symm
  rw [e1, e2] at h
  simpa using h
theorem compactF_len : ∀ (xs : List IdD), (compactF xs).length ≤ xs.length
  | [] => by rw [compactF]; exact Nat.le_refl _
  | [a] => by rw [compactF]; exact Nat.le_refl _
  | a :: b :: r => by
    have := compactF_len (b :: r)
    rw [compactF_cons]
    split
    · simp only [List.length_cons] at *; omega
    · simp only [List.length_cons] at *; omega

end Go.Proofs.YtonaacdefidomaaGreat
namespace Go.Proofs.YtonaacdefidomaaGreat
open Go.RowKit Go.Shelf Go.Lib Go.Sort

theorem idCells_get : ∀ (xs : List IdD) (j : Nat), j < xs.length * 2 → (idCells xs)[j]? = some ((encId xs[j / 2]!)[j % 2]!)
  | [], j, h => by simp at h
  | x :: r, 0, _ => rfl
  | x :: r, 1, _ => rfl
  | x :: r, j + 2, h => by
    have ih := idCells_get r j (by simp only [List.length_cons] at h; omega)
    rw [idCells, List.getElem?_cons_succ, List.getElem?_cons_succ, ih, show (j + 2) / 2 = j / 2 + 1 by omega, show (j + 2) % 2 = j % 2 by omega]
    rfl
theorem flat_ids (d : Array IdD) (j : Nat) (h : j < d.size * 2) : (idCells d.toList)[j]? = some ((flatK encId 2 d)[j]!) := by
  rw [idCells_get _ _ (by simpa using h), get_flatK _ _ _ _ h]
  have e : d.toList[j / 2]! = d[j / 2]! := by
    have hj : j / 2 < d.size := by omega
    rw [List.getElem!_eq_getElem?_getD, getElem!_pos d (j / 2) hj]
    simp [hj]
  rw [e]
theorem holds_own {w : World} {base g n c : Nat} {d : Array IdD} (hn : n = d.size) (h : w.ownsRow base 26 2 (.slice (some ⟨g, 0, none⟩) n c) n (idCells d.toList)) : HoldsK encId 2 w g 0 d := by
  intro j hj
  rw [size_flatK] at hj
  refine ⟨?_, ?_⟩
  · have := World.ownsRow.cells (g := g) h rfl j _ (flat_ids d j hj)
    rw [add_plain, Nat.zero_add] at this
    rw [Nat.zero_add]
    exact this
  · rw [Nat.zero_add]
    exact h.frozenAt j
theorem own_put {w : World} {base g n c : Nat} {xs : List Value} {d : Array IdD} (hn : n = d.size) (h : w.ownsRow base 26 2 (.slice (some ⟨g, 0, none⟩) n c) n xs) :
    (putRowK encId 2 w g 0 d).ownsRow base 26 2 (.slice (some ⟨g, 0, none⟩) n c) n (idCells d.toList) := by
  refine ⟨by rw [idCells_length]; simp [hn], ?_⟩
  rcases h.2 with ⟨h0, _⟩ | ⟨g', cap, cur, hv, hb, hh, hnc, hcm, hcs, _⟩
  · cases h0
  · injection hv with e1 e2 e3
    injection e1 with e1
    injection e1 with e1
    subst e1 e3
    refine .inr ⟨g, c, putCells id 0 (flatK encId 2 d) cur, rfl, hb, ?_, hnc, hcm, by simp [putCells, hcs], ?_⟩
    · show ((w.heap.modify g (onCells (putCells id 0 (flatK encId 2 d)))))[g]? = _
      rw [Array.getElem?_modify, if_pos rfl, hh]
      rfl
    · apply List.ext_getElem?
      intro j
      by_cases hj : j < n * 2
      · rw [flat_ids d j (by omega), List.getElem?_take_of_lt hj]
        have hjc : j < cur.size := by rw [hcs]; have := Nat.mul_le_mul_right 2 hnc; omega
        simp only [putCells, Array.getElem?_toList, Array.getElem?_mapIdx, Array.getElem?_eq_getElem hjc, Option.map_some]
        rw [if_pos (by simp; omega)]
        simp
      · rw [List.getElem?_eq_none (by simp; omega), List.getElem?_eq_none (by rw [idCells_length]; simp; omega)]
theorem own_sorted {w : World} {base g n c m : Nat} {xs : List Value} {d : Array IdD} {os : Array Obj} (hn : n = d.size) (hg : g < w.heap.size) (h : w.ownsRow base 26 2 (.slice (some ⟨g, 0, none⟩) n c) n xs) :
    (sortWorldK encId 2 w g 0 m d os).ownsRow base 26 2 (.slice (some ⟨g, 0, none⟩) n c) n (idCells d.toList) ∧ w.grownBy (sortWorldK encId 2 w g 0 m d os) (some g) := by
  have h1 : (putRowK encId 2 (Sort.ahead w m) g 0 d).ownsRow base 26 2 (.slice (some ⟨g, 0, none⟩) n c) n (idCells d.toList) := own_put hn h
  have hsz : (putRowK encId 2 (Sort.ahead w m) g 0 d).heap.size = w.heap.size := by simp [putRowK, putRow, mapBlock, Sort.ahead]
  have hap : ∀ b, b < w.heap.size → (sortWorldK encId 2 w g 0 m d os).heap[b]? = (putRowK encId 2 (Sort.ahead w m) g 0 d).heap[b]? := fun b hb => by
    show ((putRowK encId 2 (Sort.ahead w m) g 0 d).heap ++ os)[b]? = _
    rw [Array.getElem?_append_left (by rw [hsz]; exact hb)]
  refine ⟨ownsRow_keep h1 (fun b hk => ⟨(h1.lt b hk).1, hap b (by rw [← hsz]; exact (h1.lt b hk).2)⟩), ⟨rfl, rfl, rfl, ?_, fun b hb hne => ?_⟩⟩
  · show w.heap.size ≤ ((putRowK encId 2 (Sort.ahead w m) g 0 d).heap ++ os).size
    rw [Array.size_append, hsz]; omega
  · rw [hap b hb]
    show (w.heap.modify g _)[b]? = _
    rw [Array.getElem?_modify, if_neg (fun e => hne (congrArg some e.symm))]
theorem sort_own (base g n c : Nat) (xs : List IdD) (w : World) (hn : n = xs.length) (hn1 : n ≤ 4194304) (h : w.ownsRow base 26 2 (.slice (some ⟨g, 0, none⟩) n c) n (idCells xs)) :
    Calls Tryz.prog 40 #[.slice (some ⟨g, 0, none⟩) n c, .func (.func 37) #[] #[]] w fun e w' =>
      e = .returned (.tuple #[]) ∧ ∃ ys : List IdD, ys.Perm xs ∧ Wk ys ∧ w'.ownsRow base 26 2 (.slice (some ⟨g, 0, none⟩) n c) n (idCells ys) ∧ w.grownBy w' (some g) := by
  subst hn
  have hg := (h.lt g rfl).2
  have hc := sort_ids g 0 c xs.toArray w (holds_own (c := c) (base := base) rfl (by simpa using h)) hg (by simp; omega)
  simp only [List.size_toArray] at hc
  refine hc.mono ?_
  rintro e w' ⟨rfl, d', m, os, hp, hs, rfl⟩
  have hsz : d'.size = xs.length := by have := hp.1; simpa using this
  have ho := own_sorted (m := m) (os := os) (d := d') hsz.symm hg h
  refine ⟨rfl, d'.toList, ?_, ?_, ho.1, ho.2⟩
  · have := hp.2.2
    rw [show d'.extract 0 xs.length = d' from by rw [← hsz]; simp, show xs.toArray.extract 0 xs.length = xs.toArray from by simp] at this
    simpa using this
  · refine List.pairwise_iff_getElem.2 fun i j hi hj hij => ?_
    have := hs i j (Nat.zero_le _) hij (by simpa [hsz] using hj)
    rw [ltOf_id] at this
    have e1 : d'[i]! = d'.toList[i] := by rw [getElem!_pos d' i (by simpa using hi)]; simp
    have e2 : d'[j]! = d'.toList[j] := by rw [getElem!_pos d' j (by simpa using hj)]; simp
    rw [e1, e2] at this
    exact this

end Go.Proofs.YtonaacdefidomaaGreat
namespace Go.Proofs.YtonaacdefidomaaGreat
open Go.RowKit Go.Shelf Go.Lib

theorem idCells_take : ∀ (xs : List IdD) (i : Nat), (idCells xs).take (i * 2) = idCells (xs.take i)
  | xs, 0 => by simp [idCells]
  | [], i + 1 => by simp [idCells]
  | x :: xs, i + 1 => by
    rw [List.take_succ_cons, idCells, show (i + 1) * 2 = i * 2 + 2 by omega]
    show _ :: _ :: (idCells xs).take (i * 2) = _
    rw [idCells_take xs i]
    rfl
structure CompSt (w : World) (g c : Nat) (xs : List IdD) (m k : Nat) : Prop where
  lt : k < m
  le : m ≤ xs.length
  cap : xs.length ≤ c
  len : k = (compactF (xs.take m)).length
  row : ∃ cur : Array Value, Blk w g 26 cur ∧ cur.size = c * 2 ∧ cur.toList.take (k * 2) = idCells (compactF (xs.take m)) ∧ ∀ j, (m - 1) * 2 ≤ j → j < xs.length * 2 → cur[j]? = (idCells xs)[j]?
theorem CompSt.cell {w : World} {g c m k : Nat} {xs : List IdD} (h : CompSt w g c xs m k) (j : Nat) (hm : m ≤ j + 1) (hj : j < xs.length) : ∀ (u : Nat) (v : Value), [Value.int .i64 xs[j].rep, Value.int .i64 xs[j].slot][u]? = some v → w.cell? ((⟨g, j * 2, none⟩ : Addr).add u) = some v := by
  intro u v hv
  obtain ⟨cur, hb, _, _, hc⟩ := h.row
  have hu : u < 2 := by
    rcases Nat.lt_or_ge u 2 with h | h
    · exact h
    · rw [List.getElem?_eq_none (by simpa using h)] at hv; cases hv
  rw [add_plain, hb.cell, hc _ (by have := h.lt; omega) (by omega), idCells_get xs _ (by omega), show (j * 2 + u) / 2 = j by omega, show (j * 2 + u) % 2 = u by omega]
  have e : xs[j]! = xs[j] := getElem!_pos xs j hj
  rw [e]
  have : u = 0 ∨ u = 1 := by omega
  rcases this with rfl | rfl <;> simpa [encId] using hv
theorem CompSt.drew {w : World} {g c m k : Nat} {xs : List IdD} (h : CompSt w g c xs m k) : CompSt w.drew g c xs m k := ⟨h.lt, h.le, h.cap, h.len, h.row⟩
theorem CompSt.skip {w : World} {g c m k : Nat} {xs : List IdD} (h : CompSt w g c xs m k) (hm : m < xs.length) (he : xs[m - 1]'(by have := h.lt; omega) = xs[m]) : CompSt w g c xs (m + 1) k := by
  have hl := h.lt
  have e := compactF_take (xs := xs) (m := m) (by omega) hm
  rw [if_pos he] at e
  obtain ⟨cur, hb, hs, ht, hc⟩ := h.row
  exact ⟨by omega, hm, h.cap, by rw [e]; exact h.len, cur, hb, hs, by rw [e]; exact ht, fun j h1 h2 => hc j (by omega) h2⟩
theorem CompSt.split {w : World} {g c m k : Nat} {xs : List IdD} (h : CompSt w g c xs m k) (hm : m < xs.length) : ∃ (A M C : List Value) (cur : Array Value), Blk w g 26 cur ∧ cur.toList = A ++ (M ++ C) ∧ A.length = k * 2 ∧ M.length = 2 ∧
    (xs[m - 1]'(by have := h.lt; omega) ≠ xs[m] → ∀ w', Blk w' g 26 (A ++ ([Value.int .i64 xs[m].rep, Value.int .i64 xs[m].slot] ++ C)).toArray → CompSt w' g c xs (m + 1) (k + 1)) := by
  have hl := h.lt
  have hcap := h.cap
  obtain ⟨cur, hb, hs, ht, hc⟩ := h.row
  have hsz : cur.toList.length = c * 2 := by simpa using hs
  refine ⟨cur.toList.take (k * 2), (cur.toList.drop (k * 2)).take 2, (cur.toList.drop (k * 2)).drop 2, cur, hb, by rw [List.take_append_drop, List.take_append_drop], by rw [List.length_take]; omega, by rw [List.length_take, List.length_drop]; omega, fun hne w' hb' => ?_⟩
  have e := compactF_take (xs := xs) (m := m) (by omega) hm
  rw [if_neg hne] at e
  have hAl : (cur.toList.take (k * 2)).length = k * 2 := by rw [List.length_take]; omega
  refine ⟨by omega, hm, hcap, by rw [e, List.length_append, ← h.len]; rfl, _, hb', ?_, ?_, fun j h1 h2 => ?_⟩
  · simp only [List.size_toArray, List.length_append, List.length_take, List.length_drop, List.length_cons, List.length_nil]
    omega
  · show List.take ((k + 1) * 2) (_ ++ _) = _
    rw [e, idCells_app, List.take_append, hAl, List.take_of_length_le (by rw [hAl]; omega), ht, show (k + 1) * 2 - k * 2 = 2 by omega]
    rfl
  · have h3 := hc j (by omega) h2
    rw [← h3]
    show ((cur.toList.take (k * 2)) ++ (_ ++ _)).toArray[j]? = _
    rw [List.getElem?_toArray, List.getElem?_append_right (by rw [hAl]; omega), hAl, List.getElem?_append_right (by simp; omega), List.getElem?_drop, List.getElem?_drop]
    simp only [List.length_cons, List.length_nil]
    rw [show k * 2 + (0 + 1 + 1 + (j - k * 2 - (0 + 1 + 1))) = j by omega, Array.getElem?_toList]
    
theorem CompSt.start {w : World} {base g n c k : Nat} {xs : List IdD} (hn : n = xs.length) (h : w.ownsRow base 26 2 (.slice (some ⟨g, 0, none⟩) n c) n (idCells xs)) (h0 : 0 < k) (hk : k < xs.length) (hall : compactF (xs.take k) = xs.take k) (he : xs[k - 1] = xs[k]) : CompSt w g c xs (k + 1) k := by
  have e := compactF_take (xs := xs) (m := k) h0 hk
  rw [if_pos he, hall] at e
  rcases h.2 with ⟨h1, h2⟩ | ⟨g', cap, cur, hv, hb, hg, hnc, hcm, hs, ht⟩
  · cases h1
  · injection hv with e1 e2 e3
    injection e1 with e1
    injection e1 with e1
    subst e1 e3 hn
    have hsz : cur.toList.length = c * 2 := by simpa using hs
    refine ⟨by omega, hk, hnc, by rw [e, List.length_take]; omega, cur, hg, hs, ?_, fun j h1 h2 => ?_⟩
    · rw [e, ← idCells_take, ← ht, List.take_take]
      congr 1
      omega
    · rw [← ht, List.getElem?_take_of_lt h2, Array.getElem?_toList]
/-- the clear of what is left over -/
theorem run_clear_row {P : Program} (w : World) (t e : TypeId) (z : Value) (ht : P.underlying t = some (.slice e)) (hv : ∀ w, (zeroValue e).run P w = .ok z w) (hz : z.cells.size = 2) (h1 : ∀ u ∈ z.cells.toList, u.oneCell' = true) (g o n c : Nat) (te : TypeId) (cur : Array Value) (hn : 0 < n)
    (hb : Blk w g te cur) (hs : o + n * 2 ≤ cur.size) :
    ∃ zs : List Value, zs.length = n * 2 ∧ ∀ ty, (Builtin.clear_ #[t] ty #[.slice (some ⟨g, o, none⟩) n c]).run P w = .ok (.tuple #[]) (w.setRow g (cur.toList.take o ++ zs ++ cur.toList.drop (o + n * 2)).toArray) := by
  have hzl : (Builtin.zeroCells z.cells n).toList.length = n * 2 := by rw [Array.length_toList, size_zeroCells, hz]
  have hone : ∀ v ∈ (Builtin.zeroCells z.cells n).toList, v.oneCell' = true := fun v hv' => by
    obtain ⟨i, hi, rfl⟩ := List.getElem_of_mem hv'
    refine h1 _ ?_
    simp [Builtin.zeroCells]
    have : i % z.cells.size < z.cells.size := Nat.mod_lt _ (by omega)
    rw [getElem!_pos z.cells _ this]
    exact Array.getElem_mem this
  have hst := run_storeCells_at (P := P) g o te (Builtin.zeroCells z.cells n).toList 0 cur w hb (by omega) hone
  rw [hzl, Nat.add_zero] at hst
  refine ⟨_, hzl, fun ty => ?_⟩
  obtain ⟨m, rfl⟩ : ∃ m, n = m + 1 := ⟨n - 1, by omega⟩
  simp [Builtin.clear_, run_underlying ht, hv, hst]
theorem CompSt.done {w : World} {base g c k : Nat} {xs : List IdD} (hbg : base ≤ g) (hcm : c ≤ maxLen) (h : CompSt w g c xs xs.length k) (P : Program) (t : TypeId) (z : Value) (ht : P.underlying t = some (.slice 26)) (hv : ∀ w, (zeroValue 26).run P w = .ok z w) (hz : z.cells.size = 2) (h1 : ∀ u ∈ z.cells.toList, u.oneCell' = true) :
    ∃ w', (∀ ty, (Builtin.clear_ #[t] ty #[.slice (some ⟨g, k * 2, none⟩) (xs.length - k) (c - k)]).run P w = .ok (.tuple #[]) w') ∧ w'.ownsRow base 26 2 (.slice (some ⟨g, 0, none⟩) k c) k (idCells (compactF xs)) ∧ w.grownBy w' (some g) := by
  have hlt := h.lt
  have hcap := h.cap
  obtain ⟨cur, hb, hs, hrow, _⟩ := h.row
  obtain ⟨zs, hzl, hr⟩ := run_clear_row (P := P) w t 26 z ht hv hz h1 g (k * 2) (xs.length - k) (c - k) 26 cur (by omega) hb (by omega)
  have hsz : cur.toList.length = c * 2 := by simpa using hs
  have hlen := h.len
  rw [List.take_of_length_le (Nat.le_refl _)] at hlen hrow
  have hAl : (cur.toList.take (k * 2)).length = k * 2 := by rw [List.length_take]; omega
  refine ⟨_, hr, ⟨by rw [idCells_length, hlen], .inr ⟨g, c, _, rfl, hbg, setRow_blk hb, by omega, hcm, ?_, ?_⟩⟩, setRow_grown _ _ _⟩
  · simp only [List.size_toArray, List.length_append, List.length_take, List.length_drop, hzl]
    omega
  · show List.take (k * 2) ((_ ++ _) ++ _) = _
    rw [List.append_assoc, List.take_append, hAl, List.take_of_length_le (by rw [hAl]; exact Nat.le_refl _), hrow, Nat.sub_self, List.take_zero, List.append_nil]

end Go.Proofs.YtonaacdefidomaaGreat
namespace Go.Proofs.YtonaacdefidomaaGreat
open Go.RowKit Go.Shelf Go.Lib

theorem compact_short : ∀ {xs : List IdD}, xs.length < 2 → compactF xs = xs
  | [], _ => rfl
  | [a], _ => rfl
  | a :: b :: r, h => by simp only [List.length_cons] at h; omega
theorem grown_dr {a b : World} {r : Option Nat} (h : a.grownBy b r) : a.grownBy b.drew r := ⟨h.os, h.tape, h.output, h.size, h.block⟩
theorem grown_tr {a b c : World} {r : Option Nat} (h : a.grownBy b r) (k : b.grownBy c r) : a.grownBy c r :=
  ⟨k.os.trans h.os, k.tape.trans h.tape, k.output.trans h.output, Nat.le_trans h.size k.size, fun j hj hn => (k.block j (Nat.lt_of_lt_of_le hj h.size) hn).trans (h.block j hj hn)⟩
set_option maxRecDepth 100000 in
set_option maxHeartbeats 2000000 in
theorem compact_own (base n c : Nat) (A : Option Addr) (xs : List IdD) (w : World) (hn : n = xs.length) (hn1 : n ≤ 4194304) (h : w.ownsRow base 26 2 (.slice A n c) n (idCells xs)) :
    Calls Tryz.prog 41 #[.slice A n c] w fun e w' =>
      ∃ m, e = .returned (.slice A m c) ∧ m = (compactF xs).length ∧ w'.ownsRow base 26 2 (.slice A m c) m (idCells (compactF xs)) ∧ w.grownBy w' (Value.slice A n c).ownBlock := by
  by_cases h2 : n < 2
  · have hc := compact_short (xs := xs) (by omega)
    have HH := Lib.hid h; clear h
    have HC := Lib.hid hc; clear hc
    have HN := Lib.hid hn; clear hn
    go_enter Tryz.func41, Tryz.ntmps41
    go_wp2
    go_ret
    exact ⟨n, ret_eq rfl, by rw [HC.out]; exact HN.out, by rw [HC.out]; exact HH.out, ⟨rfl, rfl, rfl, Nat.le_refl _, fun _ _ _ => rfl⟩⟩
  · obtain ⟨g, cap, cur, hv, hbg, hg, hnc, hcm, hs, ht⟩ := h.2.resolve_left (fun h0 => by omega)
    injection hv with e1 e2 e3
    subst e1 e3
    have hcap : xs.length ≤ c := by omega
    have HCM := Lib.hid (And.intro hcm hcap)
    have HBG := Lib.hid hbg
    have HO := Lib.hid h
    have HN := Lib.hid hn
    clear hg hnc hcm hs ht hbg e2
    have hnc : n ≤ c := by omega
    have hnm : c ≤ 9223372036854775807 := by have := HCM.out.1; simp only [maxLen] at this; omega
    clear h hn hcap
    have hcells : ∀ (wr : World) (_ : ∀ b, b < w.heap.size → wr.heap[b]? = w.heap[b]?) (j : Nat) (hj : j < xs.length), ∀ (u : Nat) (v : Value), [Value.int .i64 xs[j].rep, Value.int .i64 xs[j].slot][u]? = some v → wr.cell? ((⟨g, j * 2, none⟩ : Addr).add u) = some v := by
      intro wr hw j hj u v hv
      have hu : u < 2 := by
        rcases Nat.lt_or_ge u 2 with h | h
        · exact h
        · rw [List.getElem?_eq_none (by simpa using h)] at hv; cases hv
      have e := idCells_get xs (j * 2 + u) (by omega)
      rw [show (j * 2 + u) / 2 = j by omega, show (j * 2 + u) % 2 = u by omega, getElem!_pos xs j hj] at e
      have h3 := World.ownsRow.cells (g := g) HO.out rfl (j * 2 + u) _ e
      rw [add_plain, Nat.zero_add] at h3
      rw [add_plain, World.cell?_of_block (hw _ (HO.out.lt g rfl).2), h3]
      have : u = 0 ∨ u = 1 := by omega
      rcases this with rfl | rfl <;> simpa [encId] using hv
    have HC := Lib.hid hcells; clear hcells
    go_enter Tryz.func41, Tryz.ntmps41
    go_wp2
    go_loopw [3] (fun kk wr => ∃ k q : Nat, k + 1 ≤ n ∧ kk = .int .i64 ((k : Int) + 1) ∧ wr = w.drewN q ∧ compactF (xs.take (k + 1)) = xs.take (k + 1)) (fun kk _ => n - (intOf kk).toNat)
    case atStart => exact ⟨0, 0, by omega, rfl, rfl, compact_short (by rw [List.length_take]; omega)⟩
    case round =>
      obtain ⟨k, q, hk, rfl, rfl, hall⟩ := hrel
      have HALL := Lib.hid hall; clear hall
      by_cases hlt : k + 1 < n
      · have hk1 : k + 1 < xs.length := by have := HN.out; omega
        have hk0 : k < xs.length := by omega
        have c1 := HC.out (w.drewN q) (fun _ _ => rfl) (k + 1) hk1
        have c0 := HC.out (w.drewN q) (fun _ _ => rfl) k hk0
        have C1 := Lib.hid c1
        have C0 := Lib.hid c0
        clear c1 c0
        by_cases hxy : xs[k] = xs[k + 1]
        · have hst := fun W (hw : W = w.drewN (q + 1)) => CompSt.start (w := W) (c := c) (k := k + 1) HN.out (by subst hw; exact HO.out) (by omega) hk1 HALL.out hxy
          have HST := Lib.hid hst
          clear hst
          rw [hxy] at C0
          generalize xs[k + 1] = x at C1 C0
          obtain ⟨xr, xsl⟩ := x
          simp only [] at C1 C0
          clear hxy
          go_wp2_with fail
          refine wp_region_x 9 [0, 1, 2, 3, 4, 5, 6, 7, 8] (by kernel_rfl) (by kernel_rfl) ?_
          iterate 3 (refine wpX_quiet rfl (by kernel_rfl) rfl ?_; go_wp2; refine ⟨rfl, ?_⟩)
          refine wpX_quiet rfl (by kernel_rfl) rfl ?_; refine wpList_load_row _ _ rfl [.int .i64 xr, .int .i64 xsl] agg_Id rfl C1.out ?_; go_wp2; refine ⟨rfl, ?_⟩
          iterate 4 (refine wpX_quiet rfl (by kernel_rfl) rfl ?_; go_wp2; refine ⟨rfl, ?_⟩)
          refine wpX_quiet rfl (by kernel_rfl) rfl ?_; refine wpList_load_row _ _ rfl [.int .i64 xr, .int .i64 xsl] agg_Id rfl C0.out ?_; go_wp2; refine ⟨rfl, ?_⟩
          refine wpX_nil ?_; simp only [List.drop_succ_cons, List.drop_zero]
          go_wp2
          have hlc : k + 1 < c := by omega
          have hst := HST.out _ rfl
          have hgr : w.grownBy (w.drewN (q + 1)) (some g) := ⟨rfl, rfl, rfl, Nat.le_refl _, fun _ _ _ => rfl⟩
          have HS0 := Lib.hid (And.intro hst hgr)
          clear hst hgr HST C1 C0
          go_loopw [3, 5] (fun kk jj wr => ∃ (k' j : Nat), k + 1 + (j + 1) ≤ n ∧ kk = .int .i64 (k' : Int) ∧ jj = .int .i64 ((j : Int) + 1) ∧ CompSt wr g c xs (k + 1 + (j + 1)) k' ∧ w.grownBy wr (some g)) (fun _ jj _ => n - (intOf jj).toNat)
          case atStart => exact ⟨k + 1, 0, by omega, by go_num, rfl, HS0.out.1, HS0.out.2⟩
          case round =>
            clear HS0
            obtain ⟨k', j, hj, rfl, rfl, hst, hgr⟩ := hrel
            have hkl := hst.lt
            have ST := Lib.hid hst; clear hst
            have GR := Lib.hid hgr; clear hgr
            by_cases hl2 : k + 1 + (j + 1) < n
            · have hm1 : k + 1 + (j + 1) < xs.length := by have := HN.out; omega
              have hm0 : k + 1 + j < xs.length := by omega
              have c1 := ST.out.cell (k + 1 + (j + 1)) (by omega) hm1
              have c0 := ST.out.cell (k + 1 + j) (by omega) hm0
              have hsk := ST.out.skip hm1
              obtain ⟨AA, MM, CC, cur2, hb2, hc2, hA2, hM2, hst2⟩ := ST.out.split hm1
              have e0 : xs[k + 1 + (j + 1) - 1]'(by omega) = xs[k + 1 + j] := by congr 1
              rw [e0] at hsk hst2
              have ec1 : (⟨g, (k + 1 + (j + 1)) * 2, none⟩ : Addr) = ⟨g, (k + 1) * 2 + (j + 1) * 2, none⟩ := by rw [Nat.add_mul (k + 1)]
              have ec0 : (⟨g, (k + 1 + j) * 2, none⟩ : Addr) = ⟨g, (k + 1) * 2 + j * 2, none⟩ := by rw [Nat.add_mul (k + 1)]
              rw [ec1] at c1
              rw [ec0] at c0
              have HE := Lib.hid (And.intro ec1 ec0); clear ec1 ec0 e0
              generalize xs[k + 1 + (j + 1)] = x at *
              generalize xs[k + 1 + j] = y at *
              obtain ⟨xr, xsl⟩ := x
              obtain ⟨yr, ysl⟩ := y
              simp only [] at c1 c0 hst2
              have C1 := Lib.hid c1
              have C0 := Lib.hid c0
              have SK := Lib.hid hsk
              have SP := Lib.hid (And.intro (And.intro hb2 hc2) (And.intro hA2 hM2))
              have ST2 := Lib.hid hst2
              clear c1 c0 hsk hb2 hc2 hA2 hM2 hst2
              have hcj : ¬ c - (k + 1) = 0 := by omega
              by_cases hxy : (⟨yr, ysl⟩ : IdD) = ⟨xr, xsl⟩
              · have hs2 := SK.out hxy
                injection hxy with e1 e2
                subst e1 e2
                have S2 := Lib.hid hs2; clear hs2 SK ST2
                go_wp2_with fail
                refine wp_region_x 9 [0, 1, 2, 3, 4, 5, 6, 7, 8] (by kernel_rfl) (by kernel_rfl) ?_
                iterate 3 (refine wpX_quiet rfl (by kernel_rfl) rfl ?_; go_wp2; refine ⟨rfl, ?_⟩)
                refine wpX_quiet rfl (by kernel_rfl) rfl ?_; refine wpList_load_row _ _ rfl [.int .i64 yr, .int .i64 ysl] agg_Id rfl C1.out ?_; go_wp2; refine ⟨rfl, ?_⟩
                iterate 4 (refine wpX_quiet rfl (by kernel_rfl) rfl ?_; go_wp2; refine ⟨rfl, ?_⟩)
                refine wpX_quiet rfl (by kernel_rfl) rfl ?_; refine wpList_load_row _ _ rfl [.int .i64 yr, .int .i64 ysl] agg_Id rfl C0.out ?_; go_wp2; refine ⟨rfl, ?_⟩
                refine wpX_nil ?_; simp only [List.drop_succ_cons, List.drop_zero]
                go_wp2
                exact ⟨⟨k', j + 1, by omega, rfl, by go_num, S2.out.drew, grown_dr GR.out⟩, by simp only [intOf]; omega⟩
              · have HN2 := Lib.hid (fun W hW => ST2.out hxy W hW)
                clear SK ST2
                by_cases e1 : yr = xr
                · subst e1
                  have e2 : (xsl == ysl) = false := by simp only [beq_eq_false_iff_ne]; intro h; exact hxy (by rw [h])
                  have e3 : (ysl == xsl) = false := by simp only [beq_eq_false_iff_ne]; intro h; exact hxy (by rw [h])
                  clear hxy
                  go_wp2_with fail
                  refine wp_region_x 9 [0, 1, 2, 3, 4, 5, 6, 7, 8] (by kernel_rfl) (by kernel_rfl) ?_
                  iterate 3 (refine wpX_quiet rfl (by kernel_rfl) rfl ?_; go_wp2; refine ⟨rfl, ?_⟩)
                  refine wpX_quiet rfl (by kernel_rfl) rfl ?_; refine wpList_load_row _ _ rfl [.int .i64 yr, .int .i64 xsl] agg_Id rfl C1.out ?_; go_wp2; refine ⟨rfl, ?_⟩
                  iterate 4 (refine wpX_quiet rfl (by kernel_rfl) rfl ?_; go_wp2; refine ⟨rfl, ?_⟩)
                  refine wpX_quiet rfl (by kernel_rfl) rfl ?_; refine wpList_load_row _ _ rfl [.int .i64 yr, .int .i64 ysl] agg_Id rfl C0.out ?_; go_wp2; refine ⟨rfl, ?_⟩
                  refine wpX_nil ?_; simp only [List.drop_succ_cons, List.drop_zero]
                  go_wp2_with (first | ((with_reducible show wpList _ _ _ ({ dst := _, op := Op.load 26 _, type := _, pos := _, after := _, guard := _ } :: _) _ _); refine wpList_load_row _ _ rfl [.int .i64 yr, .int .i64 xsl] agg_Id rfl C1.out ?_) | ((with_reducible show wpList _ _ _ ({ dst := _, op := Op.store 26 _ _, type := _, pos := _, after := _, guard := _ } :: _) _ _); refine wpList_store_row _ g 26 (k' * 2) [.int .i64 yr, .int .i64 xsl] AA MM CC cur2 rfl rfl agg_Id SP.out.1.1 SP.out.1.2 SP.out.2.1 SP.out.2.2 (by simp [Value.oneCell']) ?_; intro w5 hb5 hg5; have HB5 := Lib.hid hb5; have HG5 := Lib.hid hg5; clear hb5 hg5) | fail)
                  exact ⟨⟨k' + 1, j + 1, by omega, by go_num, by go_num, HN2.out _ HB5.out, grown_tr (grown_dr GR.out) HG5.out⟩, by simp only [intOf]; omega⟩
                · have e2 : (xr == yr) = false := by simp only [beq_eq_false_iff_ne]; exact fun h => e1 h.symm
                  have e3 : (yr == xr) = false := by simp only [beq_eq_false_iff_ne]; exact e1
                  clear hxy e1
                  go_wp2_with fail
                  refine wp_region_x 9 [0, 1, 2, 3, 4, 5, 6, 7, 8] (by kernel_rfl) (by kernel_rfl) ?_
                  iterate 3 (refine wpX_quiet rfl (by kernel_rfl) rfl ?_; go_wp2; refine ⟨rfl, ?_⟩)
                  refine wpX_quiet rfl (by kernel_rfl) rfl ?_; refine wpList_load_row _ _ rfl [.int .i64 xr, .int .i64 xsl] agg_Id rfl C1.out ?_; go_wp2; refine ⟨rfl, ?_⟩
                  iterate 4 (refine wpX_quiet rfl (by kernel_rfl) rfl ?_; go_wp2; refine ⟨rfl, ?_⟩)
                  refine wpX_quiet rfl (by kernel_rfl) rfl ?_; refine wpList_load_row _ _ rfl [.int .i64 yr, .int .i64 ysl] agg_Id rfl C0.out ?_; go_wp2; refine ⟨rfl, ?_⟩
                  refine wpX_nil ?_; simp only [List.drop_succ_cons, List.drop_zero]
                  go_wp2_with (first | ((with_reducible show wpList _ _ _ ({ dst := _, op := Op.load 26 _, type := _, pos := _, after := _, guard := _ } :: _) _ _); refine wpList_load_row _ _ rfl [.int .i64 xr, .int .i64 xsl] agg_Id rfl C1.out ?_) | ((with_reducible show wpList _ _ _ ({ dst := _, op := Op.store 26 _ _, type := _, pos := _, after := _, guard := _ } :: _) _ _); refine wpList_store_row _ g 26 (k' * 2) [.int .i64 xr, .int .i64 xsl] AA MM CC cur2 rfl rfl agg_Id SP.out.1.1 SP.out.1.2 SP.out.2.1 SP.out.2.2 (by simp [Value.oneCell']) ?_; intro w5 hb5 hg5; have HB5 := Lib.hid hb5; have HG5 := Lib.hid hg5; clear hb5 hg5) | fail)
                  exact ⟨⟨k' + 1, j + 1, by omega, by go_num, by go_num, HN2.out _ HB5.out, grown_tr (grown_dr GR.out) HG5.out⟩, by simp only [intOf]; omega⟩
            · have hmn : k + 1 + (j + 1) = xs.length := by have := HN.out; omega
              have hst := ST.out
              rw [hmn] at hst
              have hl := hst.len
              rw [List.take_length] at hl
              obtain ⟨w', hcl, hown, hg'⟩ := CompSt.done HBG.out HCM.out.1 hst Tryz.prog 32 (.agg #[.int .i64 0, .int .i64 0]) Tryz.underlying32 (fun _ => rfl) rfl (by intro u hu; simp [Value.cells] at hu; subst hu; rfl)
              rw [← show n = xs.length from HN.out] at hcl
              have HOW := Lib.hid hown
              have HGW := Lib.hid hg'
              have HL := Lib.hid hl
              have hkn : k' < n := by omega
              have hkc : ¬ c - k' = 0 := by omega
              clear hown hg' hl hst
              go_wp2
              go_ret
              exact ⟨k', ret_eq rfl, HL.out, HOW.out, grown_tr GR.out HGW.out⟩
        · have hall2 := compactF_take (xs := xs) (m := k + 1) (by omega) hk1
          rw [if_neg (by exact hxy), HALL.out, ← List.take_succ_eq_append_getElem hk1] at hall2
          have HALL2 := Lib.hid hall2
          clear hall2
          generalize xs[k + 1] = x at *
          generalize xs[k] = y at *
          obtain ⟨xr, xsl⟩ := x
          obtain ⟨yr, ysl⟩ := y
          simp only [] at C1 C0
          by_cases e1 : yr = xr
          · subst e1
            have e2 : (xsl == ysl) = false := by simp only [beq_eq_false_iff_ne]; intro h; exact hxy (by rw [h])
            have e3 : (ysl == xsl) = false := by simp only [beq_eq_false_iff_ne]; intro h; exact hxy (by rw [h])
            clear hxy
            go_wp2_with fail
            refine wp_region_x 9 [0, 1, 2, 3, 4, 5, 6, 7, 8] (by kernel_rfl) (by kernel_rfl) ?_
            iterate 3 (refine wpX_quiet rfl (by kernel_rfl) rfl ?_; go_wp2; refine ⟨rfl, ?_⟩)
            refine wpX_quiet rfl (by kernel_rfl) rfl ?_; refine wpList_load_row _ _ rfl [.int .i64 yr, .int .i64 xsl] agg_Id rfl C1.out ?_; go_wp2; refine ⟨rfl, ?_⟩
            iterate 4 (refine wpX_quiet rfl (by kernel_rfl) rfl ?_; go_wp2; refine ⟨rfl, ?_⟩)
            refine wpX_quiet rfl (by kernel_rfl) rfl ?_; refine wpList_load_row _ _ rfl [.int .i64 yr, .int .i64 ysl] agg_Id rfl C0.out ?_; go_wp2; refine ⟨rfl, ?_⟩
            refine wpX_nil ?_; simp only [List.drop_succ_cons, List.drop_zero]
            go_wp2
            exact ⟨⟨k + 1, q + 1, by omega, by go_num, rfl, HALL2.out⟩, by simp only [intOf]; omega⟩
          · have e2 : (xr == yr) = false := by simp only [beq_eq_false_iff_ne]; exact fun h => e1 h.symm
            have e3 : (yr == xr) = false := by simp only [beq_eq_false_iff_ne]; exact e1
            clear hxy e1
            go_wp2_with fail
            refine wp_region_x 9 [0, 1, 2, 3, 4, 5, 6, 7, 8] (by kernel_rfl) (by kernel_rfl) ?_
            iterate 3 (refine wpX_quiet rfl (by kernel_rfl) rfl ?_; go_wp2; refine ⟨rfl, ?_⟩)
            refine wpX_quiet rfl (by kernel_rfl) rfl ?_; refine wpList_load_row _ _ rfl [.int .i64 xr, .int .i64 xsl] agg_Id rfl C1.out ?_; go_wp2; refine ⟨rfl, ?_⟩
            iterate 4 (refine wpX_quiet rfl (by kernel_rfl) rfl ?_; go_wp2; refine ⟨rfl, ?_⟩)
            refine wpX_quiet rfl (by kernel_rfl) rfl ?_; refine wpList_load_row _ _ rfl [.int .i64 yr, .int .i64 ysl] agg_Id rfl C0.out ?_; go_wp2; refine ⟨rfl, ?_⟩
            refine wpX_nil ?_; simp only [List.drop_succ_cons, List.drop_zero]
            go_wp2
            exact ⟨⟨k + 1, q + 1, by omega, by go_num, rfl, HALL2.out⟩, by simp only [intOf]; omega⟩
      · have hke : k + 1 = n := by omega
        subst hke
        have hc := HALL.out
        rw [show k + 1 = xs.length from HN.out, List.take_length] at hc
        have HCC := Lib.hid hc; clear hc
        go_wp2
        go_ret
        exact ⟨k + 1, ret_eq (by first | rfl | (congr 1)), by rw [HCC.out]; exact HN.out, by rw [HCC.out]; exact HO.out, ⟨rfl, rfl, rfl, Nat.le_refl _, fun _ _ _ => rfl⟩⟩

end Go.Proofs.YtonaacdefidomaaGreat
namespace Go.Proofs.YtonaacdefidomaaGreat
open Go.RowKit

theorem own_at {w : World} {base e sz n : Nat} {v : Value} {xs : List Value} (h : w.ownsRow base e sz v n xs) {k : Nat} (hb : v.ownBlock = some k) : ∃ c, v = .slice (some ⟨k, 0, none⟩) n c ∧ n ≤ c := by
  rcases h.2 with ⟨rfl, _⟩ | ⟨g, cap, cur, rfl, _, _, hnc, _⟩
  · cases hb
  · simp only [Value.ownBlock] at hb
    injection hb with hb
    subst hb
    exact ⟨cap, rfl, hnc⟩
theorem own_at2 {w : World} {base e sz n : Nat} {v : Value} {xs : List Value} (h : w.ownsRow base e sz v n xs) {a b : Nat} (hb : v.ownBlock = some a ∨ v.ownBlock = some b) : ∃ k c, v = .slice (some ⟨k, 0, none⟩) n c ∧ n ≤ c := by
  rcases hb with hb | hb
  · obtain ⟨c, h1⟩ := own_at h hb; exact ⟨_, c, h1⟩
  · obtain ⟨c, h1⟩ := own_at h hb; exact ⟨_, c, h1⟩

set_option maxRecDepth 100000 in
set_option maxHeartbeats 2000000 in
theorem iJoinIds_any (xs ys : List IdD) (A : Option Addr) (n c : Nat) (A' : Option Addr) (n' c' : Nat) (w : World) (hn : n = xs.length) (hwt : n + (cat IdD.c xs).wt ≤ 1048576) (hn' : n' = ys.length) (hwt' : n' + (cat IdD.c ys).wt ≤ 1048576) (h : Rep anyB w (.sl 26 2 n (cat IdD.c xs) .nil) [.slice A n c]) (h' : Rep anyB w (.sl 26 2 n' (cat IdD.c ys) .nil) [.slice A' n' c']) (hcap : n ≤ c) :
    Calls Tryz.prog 15 #[.slice A n c, .slice A' n' c'] w fun e w' => ∃ A2 m c2, e = .returned (.slice A2 m c2) ∧ m = (fJoinIds xs ys).length ∧ Mine w' w.heap.size (.sl 26 2 m (cat IdD.c (fJoinIds xs ys)) .nil) [.slice A2 m c2] ∧ Below w.heap.size w w' := by
  have HA := Lib.hid (fun W => iIdsOk_any xs A n c W hn hwt)
  have HB := Lib.hid (fun W => iIdsOk_any ys A' n' c' W hn' hwt')
  have HR := Lib.hid h
  have HR' := Lib.hid h'
  obtain ⟨R, hR⟩ : ∃ R, R = fJoinIds xs ys := ⟨_, rfl⟩
  rw [← hR]
  unfold fJoinIds at hR
  have HF := Lib.hid hR
  have HN := Lib.hid hn
  have HN' := Lib.hid hn'
  have hb1 : n ≤ 1048576 := by omega
  have hb2 : n' ≤ 1048576 := by omega
  clear h h' hR hn hn' hwt hwt' hcap
  go_enter Tryz.func15, Tryz.ntmps15
  go_wp2_with fail
  refine (HA.out _ HR.out).mono ?_; rintro e v1 ⟨rfl, hb⟩
  have B1 := Lib.hid hb; clear hb
  have fin : ∀ v : World, Below w.heap.size w v → R = [] → Mine v w.heap.size (.sl 26 2 0 (cat IdD.c R) .nil) [.slice none 0 0] := fun v hv e => by
    subst e
    exact mine_ids (l := []) (World.ownsRow_nil _ _ _ _) rfl
  have FIN := Lib.hid fin; clear fin
  cases ha : idsOkB xs with
  | false =>
    have hRz : R = [] := by rw [HF.out, ha, if_neg (by simp)]
    have HRZ := Lib.hid hRz; clear hRz
    go_wp2
    go_ret
    exact ⟨_, 0, 0, ret_eq rfl, by rw [HRZ.out]; rfl, FIN.out _ B1.out HRZ.out, B1.out⟩
  | true =>
    go_wp2_with fail
    refine (HB.out _ (HR'.out.below B1.out)).mono ?_; rintro e v2 ⟨rfl, hb⟩
    have B2 := Lib.hid (B1.out.trans (hb.mono B1.out.size)); clear hb
    cases hbb : idsOkB ys with
    | false =>
      have hRz : R = [] := by rw [HF.out, ha, hbb, if_neg (by simp)]
      have HRZ := Lib.hid hRz; clear hRz
      go_wp2
      go_ret
      exact ⟨_, 0, 0, ret_eq rfl, by rw [HRZ.out]; rfl, FIN.out _ B2.out HRZ.out, B2.out⟩
    | true =>
      have hRz : R = joinF xs ys := by rw [HF.out, ha, hbb, if_pos ⟨rfl, rfl⟩]
      have HRZ := Lib.hid hRz; clear hRz
      have HAS := Lib.hid (ids_asc ha)
      have HBS := Lib.hid (ids_asc hbb)
      clear ha hbb
      obtain ⟨cx, hrdx, hrcx, _⟩ := HR.out.row
      obtain rfl := rep_ids hrcx
      obtain ⟨cy, hrdy, hrcy, _⟩ := HR'.out.row
      obtain rfl := rep_ids hrcy
      have HX := Lib.hid (And.intro hrdx (own_ids w 0 xs).one)
      have HY := Lib.hid (And.intro hrdy (own_ids w 0 ys).one)
      clear hrdx hrcx hrdy hrcy
      have hown : (v2.alloc (.cells #[] 26)).ownsRow w.heap.size 26 2 (.slice (some ⟨v2.heap.size, 0, none⟩) 0 0) 0 [] := World.ownsRow_made v2 #[] 0 B2.out.size (by simp [maxLen]) rfl
      have HO := Lib.hid hown; clear hown
      go_wp2_with (first
        | (at_builtin; (refine wpList_app E_Id _ rfl _ _ rfl w.heap.size _ 0 [] rfl HO.out _ _ _ (idCells xs) rfl (HX.out.1.below (B2.out.alloc B2.out.size _)) HX.out.2 (by omega) (Nat.le_trans B2.out.size (by simp)) ?_; intro vv w3 hown3 hg3 hat3; simp only [Nat.zero_add, List.nil_append] at hown3; obtain ⟨k3, c3, rfl, hc3⟩ := own_at2 hown3 (show _ = some v2.heap.size ∨ _ = some _ from hat3); have HO3 := Lib.hid hown3; have B3 := Lib.hid (Below.grown ((B2.out).alloc (B2.out).size _) hg3 (Nat.le_trans (B2.out).size (by simp)) (fun k hk => (HO.out.lt k hk).1)); clear hown3 hg3 hat3))
        | (at_builtin; go_must (refine wpList_app E_Id _ rfl _ _ rfl w.heap.size _ n (idCells xs) rfl HO3.out _ _ _ (idCells ys) rfl (HY.out.1.below B3.out) HY.out.2 (by omega) B3.out.size ?_; intro vv w4 hown4 hg4 hat4; rw [← idCells_app] at hown4; obtain ⟨k4, c4, rfl, hc4⟩ := own_at2 hown4 hat4; have HO4 := Lib.hid hown4; have B4 := Lib.hid (Below.grown B3.out hg4 B3.out.size (fun k hk => (HO3.out.lt k hk).1)); clear hown4 hg4 hat4))
        | fail)
      refine (sort_own w.heap.size k4 (n + n') c4 (xs ++ ys) _ (by rw [List.length_append, ← show n = xs.length from HN.out, ← show n' = ys.length from HN'.out]) (by omega) HO4.out).mono ?_
      rintro e w5 ⟨rfl, zs, hp, hs, ho5, hg5⟩
      have HP := Lib.hid hp
      have HS := Lib.hid hs
      have HO5 := Lib.hid ho5
      have B5 := Lib.hid (Below.grown B4.out hg5 B4.out.size (fun k hk => (HO4.out.lt k hk).1))
      clear hp hs ho5 hg5
      go_wp2_with fail
      refine (compact_own w.heap.size (n + n') c4 (some ⟨k4, 0, none⟩) zs _ (by rw [HP.out.length_eq, List.length_append, ← show n = xs.length from HN.out, ← show n' = ys.length from HN'.out]) (by omega) HO5.out).mono ?_
      rintro e w6 ⟨m, rfl, hm, ho6, hg6⟩
      have hj : compactF zs = R := by rw [HRZ.out]; exact sorted_join HAS.out HBS.out HP.out HS.out
      rw [hj] at hm ho6
      have HM := Lib.hid (mine_ids ho6 hm)
      have HL := Lib.hid hm
      have B6 := Lib.hid (Below.grown B5.out hg6 B5.out.size (fun k hk => (HO5.out.lt k hk).1))
      clear hm ho6 hg6 hj
      go_wp2
      go_ret
      exact ⟨_, m, c4, ret_eq rfl, HL.out, HM.out, B6.out⟩

end Go.Proofs.YtonaacdefidomaaGreat
