/-
  The arguments of the laws, as the rows' form reads them, as data in memory. Conditions: none beyond that reading.
-/
import Derived.Test.YtoffelfcmfpooaaTy
import Derived.Test.YtoffelfcmfpooaaEnd
import Derived.Deep.Slices
namespace Go.Proofs.Ytoffelfcmfpooaa
open Go.RowKit Go.ChangeShapes Go.WideShapes Go.ChangeAt Go.Deep

theorem str_le {l : List UInt8} (h : (bs l).size ≤ maxLen) : l.length ≤ 9223372036854775807 := by
  rw [bs_size] at h
  simp only [maxLen] at h
  omega
theorem open_sl {α : Type} {f : α → Cs} {sz e' : Nat} (hsz : 0 < sz) (hw : ∀ x, (f x).width = sz) {H : Type} {enc : TypeId × Value → H} {P : Program} {w : World} {base : Nat} {spare : Nat → Bool} {held : Bool} {t e : TypeId}
    (helem : ∀ fuel cs x, DataW.trod enc P w base spare held fuel e cs = some x → ∃ d : α, (f d).ok ∧ Rep anyB w (f d) cs) (hC : P.cellsOf e = sz) (ht : P.underlying t = some (.slice e))
    {fuel : Nat} {cs : List Value} {x : DataW H × List MemPlace} (h : DataW.trod enc P w base spare held fuel t cs = some x) :
    ∃ (ds : List α) (A : Option Addr) (n c : Nat), cs = [.slice A n c] ∧ n = ds.length ∧ n ≤ 9223372036854775807 ∧ (cat f ds).ok ∧ Rep anyB w (.sl e' sz n (cat f ds) .nil) [.slice A n c] := by
  rcases open_slice ht h with ⟨rfl, _⟩ | ⟨a, len, cap, m, n, D, Pl, rfl, hb, hl, hm, hmm, rfl, hx⟩
  · exact ⟨[], none, 0, 0, rfl, rfl, by omega, trivial, Rep.sl_nil⟩
  · have hlm : len ≤ m := by rw [hmm]; split <;> omega
    have key : ∀ k, k ≤ len → ∃ (ds : List α) (cells : List Value), ds.length = k ∧ cells.length = k * sz ∧ (cat f ds).ok ∧ Rep anyB w (cat f ds) cells ∧ ∀ j u, cells[j]? = some u → w.cell? (a.add j) = some u := by
      intro k
      induction k with
      | zero => exact fun _ => ⟨[], [], rfl, by simp, trivial, rfl, by simp⟩
      | succ k ih =>
        intro hk
        obtain ⟨ds, cells, h1, h2, h3, h4, h5⟩ := ih (by omega)
        obtain ⟨cs', h6, h7⟩ := hx k (by omega)
        rw [hC] at h6
        obtain ⟨_, h8, h9⟩ := World.cells?_some h6
        obtain ⟨d, h10, h11⟩ := helem _ _ _ h7
        refine ⟨ds ++ [d], cells ++ cs', by simp [h1], by rw [List.length_append, h2, h8, Nat.succ_mul], ?_, ?_, ?_⟩
        · rw [cat_app, Cs.ok_app, cat_one]; exact ⟨h3, h10⟩
        · rw [cat_app, cat_one]; exact Rep.app.2 ⟨_, _, rfl, h4, h11⟩
        · intro j u hu
          by_cases hj : j < cells.length
          · rw [List.getElem?_append_left hj] at hu; exact h5 j u hu
          · rw [List.getElem?_append_right (by omega)] at hu
            have hlt := (List.getElem?_eq_some_iff.1 hu).1
            have := h9 (j - cells.length) (by omega)
            rw [hu, add_of_add, show k * sz + (j - cells.length) = j by omega] at this
            exact this
    obtain ⟨ds, cells, h1, h2, h3, h4, h5⟩ := key len (Nat.le_refl _)
    refine ⟨ds, some a, len, cap, rfl, h1.symm, ?_, h3, ?_⟩
    · simp only [maxLen] at hm; omega
    · simp only [Rep]
      refine ⟨some a, cap, cells, [], rfl, by rw [cat_width hw, h1], fun hne => ⟨a, rfl, trivial, ?_, h5⟩, h4, rfl⟩
      have hpos : 0 < cells.length := by rw [h2]; exact Nat.mul_pos (by omega) hsz
      have := h5 0 cells[0] (List.getElem?_eq_getElem hpos)
      have h6 := World.block_lt_of_cell? _ _ this
      rwa [block_of_add] at h6

theorem openS_StringS {H : Type} {enc : TypeId × Value → H} {w : World} {base : Nat} {spare : Nat → Bool} {held : Bool} {fuel : Nat} {cs : List Value} {x : DataW H × List MemPlace} (h : DataW.trod enc Try.prog w base spare held fuel 25 cs = some x) :
    ∃ (ds : List (List UInt8)) (A : Option Addr) (n c : Nat), cs = [.slice A n c] ∧ n = ds.length ∧ n ≤ 9223372036854775807 ∧ (cat strC ds).ok ∧ Rep anyB w (.sl 9 1 n (cat strC ds) .nil) [.slice A n c] :=
  open_sl (by decide) strC_width (fun _ _ _ h => by
    obtain ⟨s, rfl, _, b⟩ := DataW.trod_string Try.underlying9 h
    obtain ⟨l, rfl⟩ : ∃ l, s = bs l := ⟨_, bs_eta s⟩
    exact ⟨l, ⟨str_le b, trivial⟩, Rep.str.2 ⟨_, rfl, Rep.nil.2 rfl⟩⟩) (by kernel_rfl) Try.underlying25 h









set_option maxRecDepth 100000 in
theorem openT_Id {H : Type} {enc : TypeId × Value → H} {w : World} {base : Nat} {spare : Nat → Bool} {held : Bool} {fuel : Nat} {cs : List Value} {x : DataW H × List MemPlace} (h : DataW.trod enc Try.prog w base spare held fuel 24 cs = some x) :
    ∃ d : IdD, d.c.ok ∧ Rep anyB w d.c cs := by
  obtain ⟨xs, k, rfl, _, hlen, hxl, hf⟩ := DataW.trod_struct Try.underlying24 h
  have hlen2 : cs.length = 2 := hlen.trans (by kernel_rfl)
  clear hlen h
  have hctint : Try.prog.cellsOf 3 = 1 := by kernel_rfl
  match cs, hlen2 with
  | [v0, v1], _ =>
    obtain ⟨y0, hy0⟩ : ∃ y, xs[0]? = some y := ⟨_, List.getElem?_eq_getElem (by rw [hxl]; decide)⟩
    have g0 : DataW.trod enc Try.prog w base spare held k 3 [v0] = some y0 := by
      have := hf 0 _ rfl
      simp only [hctint, hy0] at this
      exact this
    obtain ⟨n0, e0, _, b0⟩ := DataW.trod_int Try.underlying3 g0
    injection e0 with e0 _
    subst e0
    obtain ⟨y1, hy1⟩ : ∃ y, xs[1]? = some y := ⟨_, List.getElem?_eq_getElem (by rw [hxl]; decide)⟩
    have g1 : DataW.trod enc Try.prog w base spare held k 3 [v1] = some y1 := by
      have := hf 1 _ rfl
      simp only [hctint, hy1] at this
      exact this
    obtain ⟨n1, e1, _, b1⟩ := DataW.trod_int Try.underlying3 g1
    injection e1 with e1 _
    subst e1
    refine ⟨⟨n0, n1⟩, ?_, IdD.shut ⟩
    simp only [IdD.c, IdD.cs, Cs.ok]
    exact ⟨bounds_i64 b0, bounds_i64 b1, trivial⟩


set_option maxRecDepth 100000 in
theorem openT_Cmd {H : Type} {enc : TypeId × Value → H} {w : World} {base : Nat} {spare : Nat → Bool} {held : Bool} {fuel : Nat} {cs : List Value} {x : DataW H × List MemPlace} (h : DataW.trod enc Try.prog w base spare held fuel 27 cs = some x) :
    ∃ d : CmdD, d.c.ok ∧ Rep anyB w d.c cs := by
  obtain ⟨xs, k, rfl, _, hlen, hxl, hf⟩ := DataW.trod_struct Try.underlying27 h
  have hlen2 : cs.length = 8 := hlen.trans (by kernel_rfl)
  clear hlen h
  have hctstring : Try.prog.cellsOf 25 = 1 := by kernel_rfl
  have hctint : Try.prog.cellsOf 3 = 1 := by kernel_rfl
  have hctstring : Try.prog.cellsOf 9 = 1 := by kernel_rfl
  match cs, hlen2 with
  | [v0, v1, v2, v3, v4, v5, v6, v7], _ =>
    obtain ⟨y0, hy0⟩ : ∃ y, xs[0]? = some y := ⟨_, List.getElem?_eq_getElem (by rw [hxl]; decide)⟩
    have g0 : DataW.trod enc Try.prog w base spare held k 3 [v0] = some y0 := by
      have := hf 0 _ rfl
      simp only [hctint, hy0] at this
      exact this
    obtain ⟨n0, e0, _, b0⟩ := DataW.trod_int Try.underlying3 g0
    injection e0 with e0 _
    subst e0
    obtain ⟨y1, hy1⟩ : ∃ y, xs[1]? = some y := ⟨_, List.getElem?_eq_getElem (by rw [hxl]; decide)⟩
    have g1 : DataW.trod enc Try.prog w base spare held k 3 [v1] = some y1 := by
      have := hf 1 _ rfl
      simp only [hctint, hy1] at this
      exact this
    obtain ⟨n1, e1, _, b1⟩ := DataW.trod_int Try.underlying3 g1
    injection e1 with e1 _
    subst e1
    obtain ⟨y2, hy2⟩ : ∃ y, xs[2]? = some y := ⟨_, List.getElem?_eq_getElem (by rw [hxl]; decide)⟩
    have g2 : DataW.trod enc Try.prog w base spare held k 3 [v2] = some y2 := by
      have := hf 2 _ rfl
      simp only [hctint, hy2] at this
      exact this
    obtain ⟨n2, e2, _, b2⟩ := DataW.trod_int Try.underlying3 g2
    injection e2 with e2 _
    subst e2
    obtain ⟨y3, hy3⟩ : ∃ y, xs[3]? = some y := ⟨_, List.getElem?_eq_getElem (by rw [hxl]; decide)⟩
    have g3 : DataW.trod enc Try.prog w base spare held k 9 [v3] = some y3 := by
      have := hf 3 _ rfl
      simp only [hctstring, hy3] at this
      exact this
    obtain ⟨s3, e3, _, b3⟩ := DataW.trod_string Try.underlying9 g3
    injection e3 with e3 _
    subst e3
    obtain ⟨l3, rfl⟩ : ∃ l, s3 = bs l := ⟨_, bs_eta s3⟩
    obtain ⟨y4, hy4⟩ : ∃ y, xs[4]? = some y := ⟨_, List.getElem?_eq_getElem (by rw [hxl]; decide)⟩
    have g4 : DataW.trod enc Try.prog w base spare held k 9 [v4] = some y4 := by
      have := hf 4 _ rfl
      simp only [hctstring, hy4] at this
      exact this
    obtain ⟨s4, e4, _, b4⟩ := DataW.trod_string Try.underlying9 g4
    injection e4 with e4 _
    subst e4
    obtain ⟨l4, rfl⟩ : ∃ l, s4 = bs l := ⟨_, bs_eta s4⟩
    obtain ⟨y5, hy5⟩ : ∃ y, xs[5]? = some y := ⟨_, List.getElem?_eq_getElem (by rw [hxl]; decide)⟩
    have g5 : DataW.trod enc Try.prog w base spare held k 9 [v5] = some y5 := by
      have := hf 5 _ rfl
      simp only [hctstring, hy5] at this
      exact this
    obtain ⟨s5, e5, _, b5⟩ := DataW.trod_string Try.underlying9 g5
    injection e5 with e5 _
    subst e5
    obtain ⟨l5, rfl⟩ : ∃ l, s5 = bs l := ⟨_, bs_eta s5⟩
    obtain ⟨y6, hy6⟩ : ∃ y, xs[6]? = some y := ⟨_, List.getElem?_eq_getElem (by rw [hxl]; decide)⟩
    have g6 : DataW.trod enc Try.prog w base spare held k 3 [v6] = some y6 := by
      have := hf 6 _ rfl
      simp only [hctint, hy6] at this
      exact this
    obtain ⟨n6, e6, _, b6⟩ := DataW.trod_int Try.underlying3 g6
    injection e6 with e6 _
    subst e6
    obtain ⟨y7, hy7⟩ : ∃ y, xs[7]? = some y := ⟨_, List.getElem?_eq_getElem (by rw [hxl]; decide)⟩
    have g7 : DataW.trod enc Try.prog w base spare held k 25 [v7] = some y7 := by
      have := hf 7 _ rfl
      simp only [hctstring, hy7] at this
      exact this
    obtain ⟨ds7, A7, m7, c7, e7, rfl, hm7, ok7, r7⟩ := openS_StringS g7
    injection e7 with e7 _
    subst e7
    refine ⟨⟨n0, n1, n2, l3, l4, l5, n6, ds7⟩, ?_, CmdD.shut r7⟩
    simp only [CmdD.c, CmdD.cs, Cs.ok]
    exact ⟨bounds_i64 b0, bounds_i64 b1, bounds_i64 b2, str_le b3, str_le b4, str_le b5, bounds_i64 b6, hm7, ok7, trivial⟩


































theorem openS_IdS {H : Type} {enc : TypeId × Value → H} {w : World} {base : Nat} {spare : Nat → Bool} {held : Bool} {fuel : Nat} {cs : List Value} {x : DataW H × List MemPlace} (h : DataW.trod enc Try.prog w base spare held fuel 28 cs = some x) :
    ∃ (ds : List IdD) (A : Option Addr) (n c : Nat), cs = [.slice A n c] ∧ n = ds.length ∧ n ≤ 9223372036854775807 ∧ (cat IdD.c ds).ok ∧ Rep anyB w (.sl 36 2 n (cat IdD.c ds) .nil) [.slice A n c] :=
  open_sl (by decide) IdD.width (fun _ _ _ h => openT_Id h) (by kernel_rfl) Try.underlying28 h



























































































































set_option maxRecDepth 100000 in
theorem openT_Inst {H : Type} {enc : TypeId × Value → H} {w : World} {base : Nat} {spare : Nat → Bool} {held : Bool} {fuel : Nat} {cs : List Value} {x : DataW H × List MemPlace} (h : DataW.trod enc Try.prog w base spare held fuel 30 cs = some x) :
    ∃ d : InstD, d.c.ok ∧ Rep anyB w d.c cs := by
  obtain ⟨xs, k, rfl, _, hlen, hxl, hf⟩ := DataW.trod_struct Try.underlying30 h
  have hlen2 : cs.length = 16 := hlen.trans (by kernel_rfl)
  clear hlen h
  have hctlawsId : Try.prog.cellsOf 28 = 1 := by kernel_rfl
  have hctbool : Try.prog.cellsOf 4 = 1 := by kernel_rfl
  have hctint : Try.prog.cellsOf 3 = 1 := by kernel_rfl
  have hctlawsCmd : Try.prog.cellsOf 27 = 8 := by kernel_rfl
  have hctlawsId : Try.prog.cellsOf 24 = 2 := by kernel_rfl
  match cs, hlen2 with
  | [v0, v1, v2, v3, v4, v5, v6, v7, v8, v9, v10, v11, v12, v13, v14, v15], _ =>
    obtain ⟨y0, hy0⟩ : ∃ y, xs[0]? = some y := ⟨_, List.getElem?_eq_getElem (by rw [hxl]; decide)⟩
    have g0 : DataW.trod enc Try.prog w base spare held k 24 [v0, v1] = some y0 := by
      have := hf 0 _ rfl
      simp only [hctlawsId, hy0] at this
      exact this
    obtain ⟨d0, ok0, r0⟩ := openT_Id g0
    obtain e0 := IdD.open r0
    simp only [List.cons.injEq, and_true] at e0
    obtain ⟨rfl, rfl⟩ := e0
    simp only [IdD.c, IdD.cs, Cs.ok] at ok0
    obtain ⟨w0_0, w0_1, _⟩ := ok0
    obtain ⟨y1, hy1⟩ : ∃ y, xs[1]? = some y := ⟨_, List.getElem?_eq_getElem (by rw [hxl]; decide)⟩
    have g1 : DataW.trod enc Try.prog w base spare held k 3 [v2] = some y1 := by
      have := hf 1 _ rfl
      simp only [hctint, hy1] at this
      exact this
    obtain ⟨n1, e1, _, b1⟩ := DataW.trod_int Try.underlying3 g1
    injection e1 with e1 _
    subst e1
    obtain ⟨y2, hy2⟩ : ∃ y, xs[2]? = some y := ⟨_, List.getElem?_eq_getElem (by rw [hxl]; decide)⟩
    have g2 : DataW.trod enc Try.prog w base spare held k 3 [v3] = some y2 := by
      have := hf 2 _ rfl
      simp only [hctint, hy2] at this
      exact this
    obtain ⟨n2, e2, _, b2⟩ := DataW.trod_int Try.underlying3 g2
    injection e2 with e2 _
    subst e2
    obtain ⟨y3, hy3⟩ : ∃ y, xs[3]? = some y := ⟨_, List.getElem?_eq_getElem (by rw [hxl]; decide)⟩
    have g3 : DataW.trod enc Try.prog w base spare held k 3 [v4] = some y3 := by
      have := hf 3 _ rfl
      simp only [hctint, hy3] at this
      exact this
    obtain ⟨n3, e3, _, b3⟩ := DataW.trod_int Try.underlying3 g3
    injection e3 with e3 _
    subst e3
    obtain ⟨y4, hy4⟩ : ∃ y, xs[4]? = some y := ⟨_, List.getElem?_eq_getElem (by rw [hxl]; decide)⟩
    have g4 : DataW.trod enc Try.prog w base spare held k 27 [v5, v6, v7, v8, v9, v10, v11, v12] = some y4 := by
      have := hf 4 _ rfl
      simp only [hctlawsCmd, hy4] at this
      exact this
    obtain ⟨d4, ok4, r4⟩ := openT_Cmd g4
    obtain ⟨A4_0, k4_0, e4, r4_0⟩ := CmdD.open r4
    simp only [List.cons.injEq, and_true] at e4
    obtain ⟨rfl, rfl, rfl, rfl, rfl, rfl, rfl, rfl⟩ := e4
    simp only [CmdD.c, CmdD.cs, Cs.ok] at ok4
    obtain ⟨w4_0, w4_1, w4_2, w4_3, w4_4, w4_5, w4_6, w4_7, u4_7, _⟩ := ok4
    obtain ⟨y5, hy5⟩ : ∃ y, xs[5]? = some y := ⟨_, List.getElem?_eq_getElem (by rw [hxl]; decide)⟩
    have g5 : DataW.trod enc Try.prog w base spare held k 3 [v13] = some y5 := by
      have := hf 5 _ rfl
      simp only [hctint, hy5] at this
      exact this
    obtain ⟨n5, e5, _, b5⟩ := DataW.trod_int Try.underlying3 g5
    injection e5 with e5 _
    subst e5
    obtain ⟨y6, hy6⟩ : ∃ y, xs[6]? = some y := ⟨_, List.getElem?_eq_getElem (by rw [hxl]; decide)⟩
    have g6 : DataW.trod enc Try.prog w base spare held k 28 [v14] = some y6 := by
      have := hf 6 _ rfl
      simp only [hctlawsId, hy6] at this
      exact this
    obtain ⟨ds6, A6, m6, c6, e6, rfl, hm6, ok6, r6⟩ := openS_IdS g6
    injection e6 with e6 _
    subst e6
    obtain ⟨y7, hy7⟩ : ∃ y, xs[7]? = some y := ⟨_, List.getElem?_eq_getElem (by rw [hxl]; decide)⟩
    have g7 : DataW.trod enc Try.prog w base spare held k 4 [v15] = some y7 := by
      have := hf 7 _ rfl
      simp only [hctbool, hy7] at this
      exact this
    obtain ⟨q7, e7, _⟩ := DataW.trod_bool Try.underlying4 g7
    injection e7 with e7 _
    subst e7
    refine ⟨⟨d0, n1, n2, n3, d4, n5, ds6, q7⟩, ?_, InstD.shut r4_0 r6⟩
    simp only [InstD.c, InstD.cs, IdD.c, IdD.cs, CmdD.c, CmdD.cs, Cs.ok]
    exact ⟨w0_0, w0_1, bounds_i64 b1, bounds_i64 b2, bounds_i64 b3, w4_0, w4_1, w4_2, w4_3, w4_4, w4_5, w4_6, w4_7, u4_7, bounds_i64 b5, hm6, ok6, trivial⟩


theorem openS_InstS {H : Type} {enc : TypeId × Value → H} {w : World} {base : Nat} {spare : Nat → Bool} {held : Bool} {fuel : Nat} {cs : List Value} {x : DataW H × List MemPlace} (h : DataW.trod enc Try.prog w base spare held fuel 22 cs = some x) :
    ∃ (ds : List InstD) (A : Option Addr) (n c : Nat), cs = [.slice A n c] ∧ n = ds.length ∧ n ≤ 9223372036854775807 ∧ (cat InstD.c ds).ok ∧ Rep anyB w (.sl 40 16 n (cat InstD.c ds) .nil) [.slice A n c] :=
  open_sl (by decide) InstD.width (fun _ _ _ h => openT_Inst h) (by kernel_rfl) Try.underlying22 h

















































































































section
variable {H : Type} {enc : TypeId × Value → H} {w : World} {base b0 : Nat} {r : Reach} {spare : Nat → Bool} {held : Bool} {v : Value} {d : DataW H} {ps : List MemPlace}

set_option maxRecDepth 100000 in
theorem openV_Id (hval : Value.okWide Try.prog w r b0 24 v) (h : DataW.Trod enc Try.prog w base spare held 24 v d ps) : ∃ (x : IdD) (cs : List Value), v = .agg cs.toArray ∧ x.c.ok ∧ Rep anyB w x.c cs := by
  obtain ⟨cs, rfl, _⟩ := okWide_struct Try.underlying24 hval
  obtain ⟨fuel, hf⟩ := h
  obtain ⟨x, h1, h2⟩ := openT_Id hf
  exact ⟨x, cs.toList, by simp, h1, h2⟩


set_option maxRecDepth 100000 in
theorem openV_Cmd (hval : Value.okWide Try.prog w r b0 27 v) (h : DataW.Trod enc Try.prog w base spare held 27 v d ps) : ∃ (x : CmdD) (cs : List Value), v = .agg cs.toArray ∧ x.c.ok ∧ Rep anyB w x.c cs := by
  obtain ⟨cs, rfl, _⟩ := okWide_struct Try.underlying27 hval
  obtain ⟨fuel, hf⟩ := h
  obtain ⟨x, h1, h2⟩ := openT_Cmd hf
  exact ⟨x, cs.toList, by simp, h1, h2⟩


















set_option maxRecDepth 100000 in
theorem openV_Inst (hval : Value.okWide Try.prog w r b0 30 v) (h : DataW.Trod enc Try.prog w base spare held 30 v d ps) : ∃ (x : InstD) (cs : List Value), v = .agg cs.toArray ∧ x.c.ok ∧ Rep anyB w x.c cs := by
  obtain ⟨cs, rfl, _⟩ := okWide_struct Try.underlying30 hval
  obtain ⟨fuel, hf⟩ := h
  obtain ⟨x, h1, h2⟩ := openT_Inst hf
  exact ⟨x, cs.toList, by simp, h1, h2⟩










set_option maxRecDepth 100000 in
theorem openV_IdS (hval : Value.okWide Try.prog w r b0 28 v) (h : DataW.Trod enc Try.prog w base spare held 28 v d ps) : ∃ (xs : List IdD) (A : Option Addr) (n c : Nat), v = .slice A n c ∧ n = xs.length ∧ n ≤ 9223372036854775807 ∧ (cat IdD.c xs).ok ∧ Rep anyB w (.sl 36 2 n (cat IdD.c xs) .nil) [.slice A n c] := by
  obtain ⟨A, n, c, rfl⟩ := okWide_slice Try.underlying28 hval
  obtain ⟨fuel, hf⟩ := h
  obtain ⟨ds, A', n', c', he, h1, h2, h3, h4⟩ := openS_IdS hf
  injection he with he _
  injection he with e1 e2 e3
  subst e1 e2 e3
  exact ⟨ds, A, n, c, rfl, h1, h2, h3, h4⟩













set_option maxRecDepth 100000 in
theorem openV_InstS (hval : Value.okWide Try.prog w r b0 22 v) (h : DataW.Trod enc Try.prog w base spare held 22 v d ps) : ∃ (xs : List InstD) (A : Option Addr) (n c : Nat), v = .slice A n c ∧ n = xs.length ∧ n ≤ 9223372036854775807 ∧ (cat InstD.c xs).ok ∧ Rep anyB w (.sl 40 16 n (cat InstD.c xs) .nil) [.slice A n c] := by
  obtain ⟨A, n, c, rfl⟩ := okWide_slice Try.underlying22 hval
  obtain ⟨fuel, hf⟩ := h
  obtain ⟨ds, A', n', c', he, h1, h2, h3, h4⟩ := openS_InstS hf
  injection he with he _
  injection he with e1 e2 e3
  subst e1 e2 e3
  exact ⟨ds, A, n, c, rfl, h1, h2, h3, h4⟩

end
end Go.Proofs.Ytoffelfcmfpooaa
