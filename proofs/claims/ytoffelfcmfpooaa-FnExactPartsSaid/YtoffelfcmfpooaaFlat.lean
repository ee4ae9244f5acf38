/-
  Data without slices: read once, owned anywhere. Conditions: as each lemma names them.
-/
import Derived.Test.YtoffelfcmfpooaaRow
namespace Go.Proofs.Ytoffelfcmfpooaa
open Go.RowKit
def Cs.flat : Cs → Bool
  | .nil => true
  | .int _ r => r.flat
  | .bool _ r => r.flat
  | .str _ r => r.flat
  | .sl _ _ _ _ _ => false
theorem Cs.flat_app {b : Cs} : ∀ {a : Cs}, a.flat = true → b.flat = true → (a.app b).flat = true
  | .nil, _, h => h
  | .int _ r, h, k => Cs.flat_app (a := r) h k
  | .bool _ r, h, k => Cs.flat_app (a := r) h k
  | .str _ r, h, k => Cs.flat_app (a := r) h k
  | .sl _ _ _ _ _, h, _ => by cases h
theorem cat_flat {α : Type} {f : α → Cs} (h : ∀ x, (f x).flat = true) : ∀ xs : List α, (cat f xs).flat = true
  | [] => rfl
  | x :: xs => Cs.flat_app (h x) (cat_flat h xs)
theorem Rep.own {B : Nat → Prop} {w w' : World} {base : Nat} : ∀ {d : Cs} {cs : List Value}, d.flat = true → Rep B w d cs → Own w' base d cs []
  | .nil, _, _, h => by simp only [Rep] at h; subst h; exact Own.nil.2 ⟨rfl, rfl⟩
  | .int _ r, _, hf, h => by simp only [Rep] at h; obtain ⟨c', rfl, h⟩ := h; exact Own.int.2 ⟨c', rfl, Rep.own (d := r) hf h⟩
  | .bool _ r, _, hf, h => by simp only [Rep] at h; obtain ⟨c', rfl, h⟩ := h; exact Own.bool.2 ⟨c', rfl, Rep.own (d := r) hf h⟩
  | .str _ r, _, hf, h => by simp only [Rep] at h; obtain ⟨c', rfl, h⟩ := h; exact Own.str.2 ⟨c', rfl, Rep.own (d := r) hf h⟩
  | .sl _ _ _ _ _, _, hf, _ => by cases hf
theorem Rep.row {B : Nat → Prop} {w : World} {e sz n c : Nat} {i : Cs} {A : Option Addr} (h : Rep B w (.sl e sz n i .nil) [.slice A n c]) : ∃ cells, Reads w sz A n cells ∧ Rep B w i cells ∧ i.width = n * sz := by
  simp only [Rep] at h
  obtain ⟨A', c', cells, _, he, hw, hne, hL, _⟩ := h
  injection he with he _
  injection he with e1 e2 e3
  subst e1 e3
  refine ⟨cells, ⟨by rw [hL.length, hw], fun hn => ?_⟩, hL, hw⟩
  obtain ⟨ad, rfl, _, _, hc⟩ := hne (by omega)
  exact ⟨ad, rfl, hc⟩
/-- a row without slices, owned -/
theorem mine_row {w : World} {base e sz n m : Nat} {i : Cs} {v : Value} {cells : List Value} (hf : i.flat = true) {B : Nat → Prop} {w' : World} (hr : Rep B w' i cells) (hw : i.width = n * sz) (h : w.ownsRow base e sz v n cells) (hm : m = n) : Own w base (.sl e sz m i .nil) [v] v.ownBlock.toList := by
  subst hm
  exact Own.sl1.2 ⟨cells, [], (List.append_nil _).symm, hw, h, Rep.own hf hr⟩
theorem nodup_own (v : Value) : v.ownBlock.toList.Nodup := by cases v.ownBlock <;> simp
end Go.Proofs.Ytoffelfcmfpooaa
