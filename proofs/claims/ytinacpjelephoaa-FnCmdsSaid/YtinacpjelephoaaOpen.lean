/-
  The arguments of the laws, as the rows' form reads them, as data in memory. Conditions: none beyond that reading.
-/
import Derived.Test.YtinacpjelephoaaTy
import Derived.Test.YtinacpjelephoaaEnd
import Derived.Deep.Slices
namespace Go.Proofs.Ytinacpjelephoaa
open Go.RowKit Go.ChangeShapes Go.WideShapes Go.ChangeAt Go.Deep

theorem str_le {l : List UInt8} (h : (bs l).size ≤ maxLen) : l.length ≤ 9223372036854775807 := by
  rw [bs_size] at h
  simp only [maxLen] at h
  omega
theorem open_sl {α : Type} {f : α → Cs} {sz e' : Nat} (hsz : 0 < sz) (hw : ∀ x, (f x).width = sz) {H : Type} {enc : TypeId × Value → H} {P : Program} {w : World} {base : Nat} {spare : Nat → Bool} {held : Bool} {t e : TypeId}
    (helem : ∀ fuel cs x, DataW.trod enc P w base spare held fuel e cs = some x → ∃ d : α, (f d).ok ∧ Rep anyB w (f d) cs) (hC : P.cellsOf e = sz) (ht : P.underlying t = some (.slice e))
    {fuel : Nat} {cs : List Value} {x : DataW H × List MemPlace} (h : DataW.trod enc P w base spare held fuel t cs = some x) :
    ∃ (ds : List α) (A : Option Addr) (n c : Nat), cs = [.slice A n c] ∧ n = ds.length ∧ n ≤ 9223372036854775807 ∧ (cat f ds).ok ∧ Rep anyB w (.sl e' sz n (cat f ds) .nil) [.slice A n c] := by
  rcases open_slice ht h with ⟨rfl, _⟩ | ⟨a, len, cap, m, n, D, Pl, rfl, hb, hl, hm, hmm, rfl, hx⟩
  · exact ⟨[], none, 0, 0, rfl, rfl, by omega, trivial, Rep.sl_nil⟩
  · have hlm : len ≤ m := by rw [hmm]; split <;> omega
    have key : ∀ k, k ≤ len → ∃ (ds : List α) (cells : List Value), ds.length = k ∧ cells.length = k * sz ∧ (cat f ds).ok ∧ Rep anyB w (cat f ds) cells ∧ ∀ j u, cells[j]? = some u → w.cell? (a.add j) = some u := by
      intro k
      induction k with
      | zero => exact fun _ => ⟨[], [], rfl, by simp, trivial, rfl, by simp⟩
      | succ k ih =>
        intro hk
        obtain ⟨ds, cells, h1, h2, h3, h4, h5⟩ := ih (by omega)
        obtain ⟨cs', h6, h7⟩ := hx k (by omega)
        rw [hC] at h6
        obtain ⟨_, h8, h9⟩ := World.cells?_some h6
        obtain ⟨d, h10, h11⟩ := helem _ _ _ h7
        refine ⟨ds ++ [d], cells ++ cs', by simp [h1], by rw [List.length_append, h2, h8, Nat.succ_mul], ?_, ?_, ?_⟩
        · rw [cat_app, Cs.ok_app, cat_one]; exact ⟨h3, h10⟩
        · rw [cat_app, cat_one]; exact Rep.app.2 ⟨_, _, rfl, h4, h11⟩
        · intro j u hu
          by_cases hj : j < cells.length
          · rw [List.getElem?_append_left hj] at hu; exact h5 j u hu
          · rw [List.getElem?_append_right (by omega)] at hu
            have hlt := (List.getElem?_eq_some_iff.1 hu).1
            have := h9 (j - cells.length) (by omega)
            rw [hu, add_of_add, show k * sz + (j - cells.length) = j by omega] at this
            exact this
    obtain ⟨ds, cells, h1, h2, h3, h4, h5⟩ := key len (Nat.le_refl _)
    refine ⟨ds, some a, len, cap, rfl, h1.symm, ?_, h3, ?_⟩
    · simp only [maxLen] at hm; omega
    · simp only [Rep]
      refine ⟨some a, cap, cells, [], rfl, by rw [cat_width hw, h1], fun hne => ⟨a, rfl, trivial, ?_, h5⟩, h4, rfl⟩
      have hpos : 0 < cells.length := by rw [h2]; exact Nat.mul_pos (by omega) hsz
      have := h5 0 cells[0] (List.getElem?_eq_getElem hpos)
      have h6 := World.block_lt_of_cell? _ _ this
      rwa [block_of_add] at h6

theorem openS_StringS {H : Type} {enc : TypeId × Value → H} {w : World} {base : Nat} {spare : Nat → Bool} {held : Bool} {fuel : Nat} {cs : List Value} {x : DataW H × List MemPlace} (h : DataW.trod enc Try.prog w base spare held fuel 36 cs = some x) :
    ∃ (ds : List (List UInt8)) (A : Option Addr) (n c : Nat), cs = [.slice A n c] ∧ n = ds.length ∧ n ≤ 9223372036854775807 ∧ (cat strC ds).ok ∧ Rep anyB w (.sl 9 1 n (cat strC ds) .nil) [.slice A n c] :=
  open_sl (by decide) strC_width (fun _ _ _ h => by
    obtain ⟨s, rfl, _, b⟩ := DataW.trod_string Try.underlying9 h
    obtain ⟨l, rfl⟩ : ∃ l, s = bs l := ⟨_, bs_eta s⟩
    exact ⟨l, ⟨str_le b, trivial⟩, Rep.str.2 ⟨_, rfl, Rep.nil.2 rfl⟩⟩) (by kernel_rfl) Try.underlying36 h


theorem openS_IntS {H : Type} {enc : TypeId × Value → H} {w : World} {base : Nat} {spare : Nat → Bool} {held : Bool} {fuel : Nat} {cs : List Value} {x : DataW H × List MemPlace} (h : DataW.trod enc Try.prog w base spare held fuel 62 cs = some x) :
    ∃ (ds : List Int) (A : Option Addr) (n c : Nat), cs = [.slice A n c] ∧ n = ds.length ∧ n ≤ 9223372036854775807 ∧ (cat intC ds).ok ∧ Rep anyB w (.sl 3 1 n (cat intC ds) .nil) [.slice A n c] :=
  open_sl (by decide) intC_width (fun _ _ _ h => by
    obtain ⟨n, rfl, _, b⟩ := DataW.trod_int Try.underlying3 h
    exact ⟨n, ⟨bounds_i64 b, trivial⟩, Rep.int.2 ⟨_, rfl, Rep.nil.2 rfl⟩⟩) (by kernel_rfl) Try.underlying62 h





























































































































































































































































































































































































































































































section
variable {H : Type} {enc : TypeId × Value → H} {w : World} {base b0 : Nat} {r : Reach} {spare : Nat → Bool} {held : Bool} {v : Value} {d : DataW H} {ps : List MemPlace}

















































































end
end Go.Proofs.Ytinacpjelephoaa
