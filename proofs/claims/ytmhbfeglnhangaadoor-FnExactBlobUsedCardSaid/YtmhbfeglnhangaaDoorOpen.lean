/-
  The arguments of the laws, as the rows' form reads them, as data in memory. Conditions: none beyond that reading.
-/
import Derived.Test.YtmhbfeglnhangaaDoorTy
import Derived.Test.YtmhbfeglnhangaaDoorEnd
import Derived.Deep.Slices
namespace Go.Proofs.YtmhbfeglnhangaaDoor
open Go.RowKit Go.ChangeShapes Go.WideShapes Go.ChangeAt Go.Deep

theorem str_le {l : List UInt8} (h : (bs l).size ≤ maxLen) : l.length ≤ 9223372036854775807 := by
  rw [bs_size] at h
  simp only [maxLen] at h
  omega
theorem open_sl {α : Type} {f : α → Cs} {sz e' : Nat} (hsz : 0 < sz) (hw : ∀ x, (f x).width = sz) {H : Type} {enc : TypeId × Value → H} {P : Program} {w : World} {base : Nat} {spare : Nat → Bool} {held : Bool} {t e : TypeId}
    (helem : ∀ fuel cs x, DataW.trod enc P w base spare held fuel e cs = some x → ∃ d : α, (f d).ok ∧ Rep anyB w (f d) cs) (hC : P.cellsOf e = sz) (ht : P.underlying t = some (.slice e))
    {fuel : Nat} {cs : List Value} {x : DataW H × List MemPlace} (h : DataW.trod enc P w base spare held fuel t cs = some x) :
    ∃ (ds : List α) (A : Option Addr) (n c : Nat), cs = [.slice A n c] ∧ n = ds.length ∧ n ≤ 9223372036854775807 ∧ (cat f ds).ok ∧ Rep anyB w (.sl e' sz n (cat f ds) .nil) [.slice A n c] := by
  rcases open_slice ht h with ⟨rfl, _⟩ | ⟨a, len, cap, m, n, D, Pl, rfl, hb, hl, hm, hmm, rfl, hx⟩
  · exact ⟨[], none, 0, 0, rfl, rfl, by omega, trivial, Rep.sl_nil⟩
  · have hlm : len ≤ m := by rw [hmm]; split <;> omega
    have key : ∀ k, k ≤ len → ∃ (ds : List α) (cells : List Value), ds.length = k ∧ cells.length = k * sz ∧ (cat f ds).ok ∧ Rep anyB w (cat f ds) cells ∧ ∀ j u, cells[j]? = some u → w.cell? (a.add j) = some u := by
      intro k
      induction k with
      | zero => exact fun _ => ⟨[], [], rfl, by simp, trivial, rfl, by simp⟩
      | succ k ih =>
        intro hk
        obtain ⟨ds, cells, h1, h2, h3, h4, h5⟩ := ih (by omega)
        obtain ⟨cs', h6, h7⟩ := hx k (by omega)
        rw [hC] at h6
        obtain ⟨_, h8, h9⟩ := World.cells?_some h6
        obtain ⟨d, h10, h11⟩ := helem _ _ _ h7
        refine ⟨ds ++ [d], cells ++ cs', by simp [h1], by rw [List.length_append, h2, h8, Nat.succ_mul], ?_, ?_, ?_⟩
        · rw [cat_app, Cs.ok_app, cat_one]; exact ⟨h3, h10⟩
        · rw [cat_app, cat_one]; exact Rep.app.2 ⟨_, _, rfl, h4, h11⟩
        · intro j u hu
          by_cases hj : j < cells.length
          · rw [List.getElem?_append_left hj] at hu; exact h5 j u hu
          · rw [List.getElem?_append_right (by omega)] at hu
            have hlt := (List.getElem?_eq_some_iff.1 hu).1
            have := h9 (j - cells.length) (by omega)
            rw [hu, add_of_add, show k * sz + (j - cells.length) = j by omega] at this
            exact this
    obtain ⟨ds, cells, h1, h2, h3, h4, h5⟩ := key len (Nat.le_refl _)
    refine ⟨ds, some a, len, cap, rfl, h1.symm, ?_, h3, ?_⟩
    · simp only [maxLen] at hm; omega
    · simp only [Rep]
      refine ⟨some a, cap, cells, [], rfl, by rw [cat_width hw, h1], fun hne => ⟨a, rfl, trivial, ?_, h5⟩, h4, rfl⟩
      have hpos : 0 < cells.length := by rw [h2]; exact Nat.mul_pos (by omega) hsz
      have := h5 0 cells[0] (List.getElem?_eq_getElem hpos)
      have h6 := World.block_lt_of_cell? _ _ this
      rwa [block_of_add] at h6









theorem openS_IntS {H : Type} {enc : TypeId × Value → H} {w : World} {base : Nat} {spare : Nat → Bool} {held : Bool} {fuel : Nat} {cs : List Value} {x : DataW H × List MemPlace} (h : DataW.trod enc Tryd.prog w base spare held fuel 40 cs = some x) :
    ∃ (ds : List Int) (A : Option Addr) (n c : Nat), cs = [.slice A n c] ∧ n = ds.length ∧ n ≤ 9223372036854775807 ∧ (cat intC ds).ok ∧ Rep anyB w (.sl 3 1 n (cat intC ds) .nil) [.slice A n c] :=
  open_sl (by decide) intC_width (fun _ _ _ h => by
    obtain ⟨n, rfl, _, b⟩ := DataW.trod_int Tryd.underlying3 h
    exact ⟨n, ⟨bounds_i64 b, trivial⟩, Rep.int.2 ⟨_, rfl, Rep.nil.2 rfl⟩⟩) (by kernel_rfl) Tryd.underlying40 h




































































































































































































set_option maxRecDepth 100000 in
theorem openT_Blob {H : Type} {enc : TypeId × Value → H} {w : World} {base : Nat} {spare : Nat → Bool} {held : Bool} {fuel : Nat} {cs : List Value} {x : DataW H × List MemPlace} (h : DataW.trod enc Tryd.prog w base spare held fuel 68 cs = some x) :
    ∃ d : BlobD, d.c.ok ∧ Rep anyB w d.c cs := by
  obtain ⟨xs, k, rfl, _, hlen, hxl, hf⟩ := DataW.trod_struct Tryd.underlying68 h
  have hlen2 : cs.length = 3 := hlen.trans (by kernel_rfl)
  clear hlen h
  have hctbool : Tryd.prog.cellsOf 4 = 1 := by kernel_rfl
  have hctstring : Tryd.prog.cellsOf 9 = 1 := by kernel_rfl
  match cs, hlen2 with
  | [v0, v1, v2], _ =>
    obtain ⟨y0, hy0⟩ : ∃ y, xs[0]? = some y := ⟨_, List.getElem?_eq_getElem (by rw [hxl]; decide)⟩
    have g0 : DataW.trod enc Tryd.prog w base spare held k 9 [v0] = some y0 := by
      have := hf 0 _ rfl
      simp only [hctstring, hy0] at this
      exact this
    obtain ⟨s0, e0, _, b0⟩ := DataW.trod_string Tryd.underlying9 g0
    injection e0 with e0 _
    subst e0
    obtain ⟨l0, rfl⟩ : ∃ l, s0 = bs l := ⟨_, bs_eta s0⟩
    obtain ⟨y1, hy1⟩ : ∃ y, xs[1]? = some y := ⟨_, List.getElem?_eq_getElem (by rw [hxl]; decide)⟩
    have g1 : DataW.trod enc Tryd.prog w base spare held k 9 [v1] = some y1 := by
      have := hf 1 _ rfl
      simp only [hctstring, hy1] at this
      exact this
    obtain ⟨s1, e1, _, b1⟩ := DataW.trod_string Tryd.underlying9 g1
    injection e1 with e1 _
    subst e1
    obtain ⟨l1, rfl⟩ : ∃ l, s1 = bs l := ⟨_, bs_eta s1⟩
    obtain ⟨y2, hy2⟩ : ∃ y, xs[2]? = some y := ⟨_, List.getElem?_eq_getElem (by rw [hxl]; decide)⟩
    have g2 : DataW.trod enc Tryd.prog w base spare held k 4 [v2] = some y2 := by
      have := hf 2 _ rfl
      simp only [hctbool, hy2] at this
      exact this
    obtain ⟨q2, e2, _⟩ := DataW.trod_bool Tryd.underlying4 g2
    injection e2 with e2 _
    subst e2
    refine ⟨⟨l0, l1, q2⟩, ?_, BlobD.shut ⟩
    simp only [BlobD.c, BlobD.cs, Cs.ok]
    exact ⟨str_le b0, str_le b1, trivial⟩


theorem openS_BlobS {H : Type} {enc : TypeId × Value → H} {w : World} {base : Nat} {spare : Nat → Bool} {held : Bool} {fuel : Nat} {cs : List Value} {x : DataW H × List MemPlace} (h : DataW.trod enc Tryd.prog w base spare held fuel 27 cs = some x) :
    ∃ (ds : List BlobD) (A : Option Addr) (n c : Nat), cs = [.slice A n c] ∧ n = ds.length ∧ n ≤ 9223372036854775807 ∧ (cat BlobD.c ds).ok ∧ Rep anyB w (.sl 54 3 n (cat BlobD.c ds) .nil) [.slice A n c] :=
  open_sl (by decide) BlobD.width (fun _ _ _ h => openT_Blob h) (by kernel_rfl) Tryd.underlying27 h


set_option maxRecDepth 100000 in
theorem openT_Blobs {H : Type} {enc : TypeId × Value → H} {w : World} {base : Nat} {spare : Nat → Bool} {held : Bool} {fuel : Nat} {cs : List Value} {x : DataW H × List MemPlace} (h : DataW.trod enc Tryd.prog w base spare held fuel 29 cs = some x) :
    ∃ d : BlobsD, d.c.ok ∧ Rep anyB w d.c cs := by
  obtain ⟨xs, k, rfl, _, hlen, hxl, hf⟩ := DataW.trod_struct Tryd.underlying29 h
  have hlen2 : cs.length = 2 := hlen.trans (by kernel_rfl)
  clear hlen h
  have hctlawsBlob : Tryd.prog.cellsOf 27 = 1 := by kernel_rfl
  have hctint : Tryd.prog.cellsOf 3 = 1 := by kernel_rfl
  match cs, hlen2 with
  | [v0, v1], _ =>
    obtain ⟨y0, hy0⟩ : ∃ y, xs[0]? = some y := ⟨_, List.getElem?_eq_getElem (by rw [hxl]; decide)⟩
    have g0 : DataW.trod enc Tryd.prog w base spare held k 3 [v0] = some y0 := by
      have := hf 0 _ rfl
      simp only [hctint, hy0] at this
      exact this
    obtain ⟨n0, e0, _, b0⟩ := DataW.trod_int Tryd.underlying3 g0
    injection e0 with e0 _
    subst e0
    obtain ⟨y1, hy1⟩ : ∃ y, xs[1]? = some y := ⟨_, List.getElem?_eq_getElem (by rw [hxl]; decide)⟩
    have g1 : DataW.trod enc Tryd.prog w base spare held k 27 [v1] = some y1 := by
      have := hf 1 _ rfl
      simp only [hctlawsBlob, hy1] at this
      exact this
    obtain ⟨ds1, A1, m1, c1, e1, rfl, hm1, ok1, r1⟩ := openS_BlobS g1
    injection e1 with e1 _
    subst e1
    refine ⟨⟨n0, ds1⟩, ?_, BlobsD.shut r1⟩
    simp only [BlobsD.c, BlobsD.cs, Cs.ok]
    exact ⟨bounds_i64 b0, hm1, ok1, trivial⟩














































































































































































































section
variable {H : Type} {enc : TypeId × Value → H} {w : World} {base b0 : Nat} {r : Reach} {spare : Nat → Bool} {held : Bool} {v : Value} {d : DataW H} {ps : List MemPlace}

























set_option maxRecDepth 100000 in
theorem openV_Blobs (hval : Value.okWide Tryd.prog w r b0 29 v) (h : DataW.Trod enc Tryd.prog w base spare held 29 v d ps) : ∃ (x : BlobsD) (cs : List Value), v = .agg cs.toArray ∧ x.c.ok ∧ Rep anyB w x.c cs := by
  obtain ⟨cs, rfl, _⟩ := okWide_struct Tryd.underlying29 hval
  obtain ⟨fuel, hf⟩ := h
  obtain ⟨x, h1, h2⟩ := openT_Blobs hf
  exact ⟨x, cs.toList, by simp, h1, h2⟩


















































end
end Go.Proofs.YtmhbfeglnhangaaDoor
