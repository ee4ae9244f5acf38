/-
  Data as a row of cells (numbers, bools, strings, slices with a row of their own): what it is for memory to hold such data (Rep), to hold it in blocks of one's own (Own), and the marks of the laws laid over it (mkE, mkT). Conditions: as each lemma names them.
-/
import Derived.Test.YtoffelfcmfpooaaMark
namespace Go.Proofs.Ytoffelfcmfpooaa
open Go.RowKit

inductive Cs where
  | nil
  | int (n : Int) (r : Cs)
  | bool (b : Bool) (r : Cs)
  | str (s : List UInt8) (r : Cs)
  | sl (e sz n : Nat) (i : Cs) (r : Cs)
def Cs.width : Cs → Nat
  | .nil => 0
  | .int _ r => r.width + 1
  | .bool _ r => r.width + 1
  | .str _ r => r.width + 1
  | .sl _ _ _ _ r => r.width + 1
/-- a weight: the letters of its strings and the elements of its slices -/
def Cs.wt : Cs → Nat
  | .nil => 0
  | .int _ r => r.wt
  | .bool _ r => r.wt
  | .str s r => s.length + r.wt
  | .sl _ _ n i r => n + i.wt + r.wt
/-- how many leaves -/
def Cs.cnt : Cs → Nat
  | .nil => 0
  | .int _ r => 1 + r.cnt
  | .bool _ r => 1 + r.cnt
  | .str _ r => 1 + r.cnt
  | .sl _ _ _ i r => i.cnt + r.cnt
/-- how many leaves behind its slices -/
def Cs.cntT : Cs → Nat
  | .nil => 0
  | .int _ r => r.cntT
  | .bool _ r => r.cntT
  | .str _ r => r.cntT
  | .sl _ _ _ i r => i.cnt + r.cntT
def Cs.mkE : Cs → Nat → Cs
  | .nil, _ => .nil
  | .int _ r, k => .int (k : Int) (r.mkE (k + 1))
  | .bool _ r, k => .bool (decide (k % 3 = 0)) (r.mkE (k + 1))
  | .str _ r, k => .str (markL k) (r.mkE (k + 1))
  | .sl e sz n i r, k => .sl e sz n (i.mkE k) (r.mkE (k + i.cnt))
def Cs.mkT : Cs → Nat → Cs
  | .nil, _ => .nil
  | .int n r, k => .int n (r.mkT k)
  | .bool b r, k => .bool b (r.mkT k)
  | .str s r, k => .str s (r.mkT k)
  | .sl e sz n i r, k => .sl e sz n (i.mkE k) (r.mkT (k + i.cnt))
def Cs.app : Cs → Cs → Cs
  | .nil, b => b
  | .int n r, b => .int n (r.app b)
  | .bool x r, b => .bool x (r.app b)
  | .str s r, b => .str s (r.app b)
  | .sl e sz n i r, b => .sl e sz n i (r.app b)
def cat {α : Type} (f : α → Cs) : List α → Cs
  | [] => .nil
  | x :: xs => (f x).app (cat f xs)
/-- the widths of its slices fit -/
def Cs.fit : Cs → Prop
  | .nil => True
  | .int _ r => r.fit
  | .bool _ r => r.fit
  | .str _ r => r.fit
  | .sl _ sz n i r => i.width = n * sz ∧ i.fit ∧ r.fit
theorem Cs.app_nil : ∀ a : Cs, a.app .nil = a
  | .nil => rfl
  | .int _ r => by rw [app, app_nil r]
  | .bool _ r => by rw [app, app_nil r]
  | .str _ r => by rw [app, app_nil r]
  | .sl _ _ _ _ r => by rw [app, app_nil r]
theorem Cs.app_assoc (b c : Cs) : ∀ a : Cs, (a.app b).app c = a.app (b.app c)
  | .nil => rfl
  | .int _ r => by simp only [app, app_assoc b c r]
  | .bool _ r => by simp only [app, app_assoc b c r]
  | .str _ r => by simp only [app, app_assoc b c r]
  | .sl _ _ _ _ r => by simp only [app, app_assoc b c r]
theorem Cs.width_app (b : Cs) : ∀ a : Cs, (a.app b).width = a.width + b.width
  | .nil => by simp [app, width]
  | .int _ r => by simp only [app, width, width_app b r]; omega
  | .bool _ r => by simp only [app, width, width_app b r]; omega
  | .str _ r => by simp only [app, width, width_app b r]; omega
  | .sl _ _ _ _ r => by simp only [app, width, width_app b r]; omega
theorem Cs.cnt_app (b : Cs) : ∀ a : Cs, (a.app b).cnt = a.cnt + b.cnt
  | .nil => by simp [app, cnt]
  | .int _ r => by simp only [app, cnt, cnt_app b r]; omega
  | .bool _ r => by simp only [app, cnt, cnt_app b r]; omega
  | .str _ r => by simp only [app, cnt, cnt_app b r]; omega
  | .sl _ _ _ _ r => by simp only [app, cnt, cnt_app b r]; omega
theorem Cs.wt_app (b : Cs) : ∀ a : Cs, (a.app b).wt = a.wt + b.wt
  | .nil => by simp [app, wt]
  | .int _ r => by simp only [app, wt, wt_app b r]
  | .bool _ r => by simp only [app, wt, wt_app b r]
  | .str _ r => by simp only [app, wt, wt_app b r]; omega
  | .sl _ _ _ _ r => by simp only [app, wt, wt_app b r]; omega
theorem Cs.mkE_app (b : Cs) : ∀ (a : Cs) (k : Nat), (a.app b).mkE k = (a.mkE k).app (b.mkE (k + a.cnt))
  | .nil, k => by simp [app, mkE, cnt]
  | .int _ r, k => by simp only [app, mkE, cnt, mkE_app b r]; rw [Nat.add_assoc]
  | .bool _ r, k => by simp only [app, mkE, cnt, mkE_app b r]; rw [Nat.add_assoc]
  | .str _ r, k => by simp only [app, mkE, cnt, mkE_app b r]; rw [Nat.add_assoc]
  | .sl _ _ _ i r, k => by simp only [app, mkE, cnt, mkE_app b r]; rw [Nat.add_assoc]
theorem Cs.width_mkE : ∀ (a : Cs) (k : Nat), (a.mkE k).width = a.width
  | .nil, _ => rfl
  | .int _ r, k => by simp only [mkE, width, width_mkE r]
  | .bool _ r, k => by simp only [mkE, width, width_mkE r]
  | .str _ r, k => by simp only [mkE, width, width_mkE r]
  | .sl _ _ _ _ r, k => by simp only [mkE, width, width_mkE r]
section
variable {α : Type} {f : α → Cs}
theorem cat_nil : cat f [] = .nil := rfl
theorem cat_cons (x : α) (xs : List α) : cat f (x :: xs) = (f x).app (cat f xs) := rfl
theorem cat_app (ys : List α) : ∀ xs : List α, cat f (xs ++ ys) = (cat f xs).app (cat f ys)
  | [] => rfl
  | x :: xs => by rw [List.cons_append, cat_cons, cat_app ys xs, cat_cons, Cs.app_assoc]
theorem cat_one (x : α) : cat f [x] = f x := by rw [cat_cons, cat_nil, Cs.app_nil]
theorem cat_width {sz : Nat} (h : ∀ x, (f x).width = sz) : ∀ xs : List α, (cat f xs).width = xs.length * sz
  | [] => by simp [cat, Cs.width]
  | x :: xs => by rw [cat_cons, Cs.width_app, h, cat_width h xs, List.length_cons, Nat.succ_mul]; omega
theorem cat_cnt {m : Nat} (h : ∀ x, (f x).cnt = m) : ∀ xs : List α, (cat f xs).cnt = xs.length * m
  | [] => by simp [cat, Cs.cnt]
  | x :: xs => by rw [cat_cons, Cs.cnt_app, h, cat_cnt h xs, List.length_cons, Nat.succ_mul]; omega
theorem cat_wt_le {xs : List α} {x : α} (h : x ∈ xs) : (f x).wt ≤ (cat f xs).wt := by
  induction xs with
  | nil => cases h
  | cons y ys ih =>
    rw [cat_cons, Cs.wt_app]
    rcases List.mem_cons.1 h with rfl | h
    · omega
    · have := ih h; omega
theorem cat_split (xs : List α) (i : Nat) (hi : i < xs.length) : cat f xs = (cat f (xs.take i)).app ((f xs[i]).app (cat f (xs.drop (i + 1)))) := by
  conv => lhs; rw [← List.take_append_drop i xs]
  rw [cat_app, List.drop_eq_getElem_cons hi, cat_cons]
end

/-! ### reading -/
def Rep (B : Nat → Prop) (w : World) : Cs → List Value → Prop
  | .nil, cs => cs = []
  | .int n r, cs => ∃ c', cs = .int .i64 n :: c' ∧ Rep B w r c'
  | .bool b r, cs => ∃ c', cs = .bool b :: c' ∧ Rep B w r c'
  | .str s r, cs => ∃ c', cs = .string (bs s) :: c' ∧ Rep B w r c'
  | .sl _ sz n i r, cs => ∃ A c cells c', cs = .slice A n c :: c' ∧ i.width = n * sz ∧ (n ≠ 0 → ∃ ad, A = some ad ∧ B ad.block ∧ ad.block < w.heap.size ∧ ∀ j u, cells[j]? = some u → w.cell? (ad.add j) = some u) ∧ Rep B w i cells ∧ Rep B w r c'
theorem Rep.length {B : Nat → Prop} {w : World} : ∀ {d : Cs} {cs : List Value}, Rep B w d cs → cs.length = d.width
  | .nil, _, h => by simp only [Rep] at h; subst h; rfl
  | .int _ r, _, h => by simp only [Rep] at h; obtain ⟨c', rfl, h⟩ := h; simp only [List.length_cons, Cs.width, h.length]
  | .bool _ r, _, h => by simp only [Rep] at h; obtain ⟨c', rfl, h⟩ := h; simp only [List.length_cons, Cs.width, h.length]
  | .str _ r, _, h => by simp only [Rep] at h; obtain ⟨c', rfl, h⟩ := h; simp only [List.length_cons, Cs.width, h.length]
  | .sl _ _ _ _ r, _, h => by simp only [Rep] at h; obtain ⟨_, _, _, c', rfl, _, _, _, h⟩ := h; simp only [List.length_cons, Cs.width, h.length]
theorem Rep.keepM {B B' : Nat → Prop} {w w' : World} (hs : w.heap.size ≤ w'.heap.size) (hB : ∀ b, B b → b < w.heap.size → B' b ∧ w'.heap[b]? = w.heap[b]?) : ∀ {d : Cs} {cs : List Value}, Rep B w d cs → Rep B' w' d cs
  | .nil, _, h => h
  | .int _ r, _, h => by simp only [Rep] at h ⊢; obtain ⟨c', rfl, h⟩ := h; exact ⟨c', rfl, h.keepM hs hB⟩
  | .bool _ r, _, h => by simp only [Rep] at h ⊢; obtain ⟨c', rfl, h⟩ := h; exact ⟨c', rfl, h.keepM hs hB⟩
  | .str _ r, _, h => by simp only [Rep] at h ⊢; obtain ⟨c', rfl, h⟩ := h; exact ⟨c', rfl, h.keepM hs hB⟩
  | .sl _ sz n i r, _, h => by
    simp only [Rep] at h ⊢
    obtain ⟨A, c, cells, c', rfl, h1, h2, h3, h4⟩ := h
    refine ⟨A, c, cells, c', rfl, h1, fun hne => ?_, h3.keepM hs hB, h4.keepM hs hB⟩
    obtain ⟨ad, rfl, hb, hlt, hc⟩ := h2 hne
    have hk := hB _ hb hlt
    exact ⟨ad, rfl, hk.1, Nat.lt_of_lt_of_le hlt hs, fun j u hu => by
      rw [World.cell?_of_block (w := w) (a := ad.add j) (by rw [block_of_add]; exact hk.2)]
      exact hc j u hu⟩
def anyB : Nat → Prop := fun _ => True
section
variable {B : Nat → Prop} {w w' : World} {d : Cs} {cs : List Value}
theorem Rep.keep (h : Rep B w d cs) (hs : w.heap.size ≤ w'.heap.size) (hB : ∀ b, B b → b < w.heap.size → w'.heap[b]? = w.heap[b]?) : Rep B w' d cs := h.keepM hs (fun b h1 h2 => ⟨h1, hB b h1 h2⟩)
theorem Rep.below (h : Rep B w d cs) (hb : Below w.heap.size w w') : Rep B w' d cs := h.keep hb.size fun b _ hlt => hb.block b hlt
theorem Rep.drew (h : Rep B w d cs) : Rep B w.drew d cs := h.keep (Nat.le_refl _) fun _ _ _ => rfl
theorem Rep.alloc (h : Rep B w d cs) (o : Obj) : Rep B (w.alloc o) d cs := h.below ((Below.refl _ _).alloc (Nat.le_refl _) o)
theorem Rep.mono (h : Rep B w d cs) {B' : Nat → Prop} (hB : ∀ b, B b → B' b) : Rep B' w d cs := h.keepM (Nat.le_refl _) (fun b h1 _ => ⟨hB b h1, rfl⟩)
theorem Rep.any (h : Rep B w d cs) : Rep anyB w d cs := h.mono fun _ _ => trivial
theorem Rep.lt (h : Rep B w d cs) : Rep (fun b => b < w.heap.size) w d cs := h.keepM (Nat.le_refl _) (fun _ _ h2 => ⟨h2, rfl⟩)
theorem Rep.int {n : Int} {r : Cs} : Rep B w (.int n r) cs ↔ ∃ c', cs = .int .i64 n :: c' ∧ Rep B w r c' := by simp only [Rep]
theorem Rep.bool {b : Bool} {r : Cs} : Rep B w (.bool b r) cs ↔ ∃ c', cs = .bool b :: c' ∧ Rep B w r c' := by simp only [Rep]
theorem Rep.str {s : List UInt8} {r : Cs} : Rep B w (.str s r) cs ↔ ∃ c', cs = .string (bs s) :: c' ∧ Rep B w r c' := by simp only [Rep]
theorem Rep.nil : Rep B w .nil cs ↔ cs = [] := by simp only [Rep]
/-- a slice alone -/
theorem Rep.sl {e sz n : Nat} {i r : Cs} : Rep B w (.sl e sz n i r) cs ↔ ∃ A c c', cs = .slice A n c :: c' ∧ Rep B w (.sl e sz n i .nil) [.slice A n c] ∧ Rep B w r c' := by
  simp only [Rep]
  constructor
  · rintro ⟨A, c, cells, c', rfl, h1, h2, h3, h4⟩
    exact ⟨A, c, c', rfl, ⟨A, c, cells, [], rfl, h1, h2, h3, rfl⟩, h4⟩
  · rintro ⟨A, c, c', rfl, ⟨A', c2, cells, c3, he, h1, h2, h3, rfl⟩, h4⟩
    injection he with he _
    injection he with e1 e2 e3
    subst e1 e3
    exact ⟨A, c, cells, c', rfl, h1, h2, h3, h4⟩
end
theorem Rep.app {B : Nat → Prop} {w : World} {b : Cs} : ∀ {a : Cs} {cs : List Value}, Rep B w (a.app b) cs ↔ ∃ c1 c2, cs = c1 ++ c2 ∧ Rep B w a c1 ∧ Rep B w b c2
  | .nil, cs => by
    simp only [Cs.app, Rep.nil]
    exact ⟨fun h => ⟨[], cs, rfl, rfl, h⟩, fun ⟨c1, c2, e, e1, h⟩ => by subst e1; rw [e]; exact h⟩
  | .int n r, cs => by
    simp only [Cs.app, Rep.int, Rep.app (a := r)]
    exact ⟨fun ⟨c', e, c1, c2, e2, h1, h2⟩ => ⟨_ :: c1, c2, by rw [e, e2]; rfl, ⟨c1, rfl, h1⟩, h2⟩, fun ⟨_, c2, e, ⟨c1, e1, h1⟩, h2⟩ => ⟨c1 ++ c2, by rw [e, e1]; rfl, c1, c2, rfl, h1, h2⟩⟩
  | .bool n r, cs => by
    simp only [Cs.app, Rep.bool, Rep.app (a := r)]
    exact ⟨fun ⟨c', e, c1, c2, e2, h1, h2⟩ => ⟨_ :: c1, c2, by rw [e, e2]; rfl, ⟨c1, rfl, h1⟩, h2⟩, fun ⟨_, c2, e, ⟨c1, e1, h1⟩, h2⟩ => ⟨c1 ++ c2, by rw [e, e1]; rfl, c1, c2, rfl, h1, h2⟩⟩
  | .str n r, cs => by
    simp only [Cs.app, Rep.str, Rep.app (a := r)]
    exact ⟨fun ⟨c', e, c1, c2, e2, h1, h2⟩ => ⟨_ :: c1, c2, by rw [e, e2]; rfl, ⟨c1, rfl, h1⟩, h2⟩, fun ⟨_, c2, e, ⟨c1, e1, h1⟩, h2⟩ => ⟨c1 ++ c2, by rw [e, e1]; rfl, c1, c2, rfl, h1, h2⟩⟩
  | .sl e sz n i r, cs => by
    simp only [Cs.app]
    rw [Rep.sl]
    simp only [Rep.app (a := r)]
    constructor
    · rintro ⟨A, c, _, rfl, h0, c1, c2, rfl, h1, h2⟩
      exact ⟨_ :: c1, c2, rfl, Rep.sl.2 ⟨A, c, c1, rfl, h0, h1⟩, h2⟩
    · rintro ⟨_, c2, rfl, h, h2⟩
      obtain ⟨A, c, c1, rfl, h0, h1⟩ := Rep.sl.1 h
      exact ⟨A, c, c1 ++ c2, rfl, h0, c1, c2, rfl, h1, h2⟩
/-- an element of a slice: its cells, where they lie -/
theorem Rep.elem {B : Nat → Prop} {w : World} {e sz n c : Nat} {α : Type} {f : α → Cs} {xs : List α} {A : Option Addr} (h : Rep B w (.sl e sz n (cat f xs) .nil) [.slice A n c]) (hf : ∀ x, (f x).width = sz) (i : Nat) (hi : i < xs.length) (hn : n = xs.length) :
    ∃ ad ci, A = some ad ∧ B ad.block ∧ ad.block < w.heap.size ∧ Rep B w (f xs[i]) ci ∧ ci.length = sz ∧ ∀ j v, ci[j]? = some v → w.cell? ((ad.add (i * sz)).add j) = some v := by
  subst hn
  simp only [Rep] at h
  obtain ⟨A', c', cells, _, he, hw, hne, hL, rfl⟩ := h
  injection he with he _
  injection he with e1 e2 e3
  subst e1 e3
  obtain ⟨ad, rfl, hb, hlt, hc⟩ := hne (by omega)
  rw [cat_split xs i hi, Rep.app] at hL
  obtain ⟨c1, c2, rfl, h1, h2⟩ := hL
  obtain ⟨ci, c3, rfl, h2, h3⟩ := Rep.app.1 h2
  have hl1 := h1.length
  rw [cat_width hf, List.length_take, Nat.min_eq_left (by omega)] at hl1
  have hl2 := h2.length
  rw [hf] at hl2
  refine ⟨ad, ci, rfl, hb, hlt, h2, hl2, fun j v hv => ?_⟩
  rw [add_of_add]
  refine hc _ _ ?_
  rw [List.getElem?_append_right (by omega), hl1, Nat.add_sub_cancel_left, List.getElem?_append_left (List.getElem?_eq_some_iff.1 hv).1]
  exact hv
theorem Rep.sl_nil {B : Nat → Prop} {w : World} {e sz c : Nat} {A : Option Addr} : Rep B w (.sl e sz 0 .nil .nil) [.slice A 0 c] := by
  simp only [Rep]
  exact ⟨A, c, [], [], rfl, by simp [Cs.width], by simp, rfl, rfl⟩

/-! ### owning -/
def Own (w : World) (base : Nat) : Cs → List Value → List Nat → Prop
  | .nil, cs, F => cs = [] ∧ F = []
  | .int n r, cs, F => ∃ c', cs = .int .i64 n :: c' ∧ Own w base r c' F
  | .bool b r, cs, F => ∃ c', cs = .bool b :: c' ∧ Own w base r c' F
  | .str s r, cs, F => ∃ c', cs = .string (bs s) :: c' ∧ Own w base r c' F
  | .sl e sz n i r, cs, F => ∃ v cells c' F1 F2, cs = v :: c' ∧ F = (v.ownBlock.toList ++ F1) ++ F2 ∧ i.width = n * sz ∧ w.ownsRow base e sz v n cells ∧ Own w base i cells F1 ∧ Own w base r c' F2
theorem ownsRow_keep {w w' : World} {base base' e size n : Nat} {v : Value} {xs : List Value} (h : w.ownsRow base e size v n xs) (hk : ∀ b, v.ownBlock = some b → base' ≤ b ∧ w'.heap[b]? = w.heap[b]?) : w'.ownsRow base' e size v n xs := by
  refine ⟨h.1, ?_⟩
  rcases h.2 with h0 | ⟨g, cap, cur, rfl, hg, hh, r⟩
  · exact .inl h0
  · have := hk g rfl
    exact .inr ⟨g, cap, cur, rfl, this.1, by rw [this.2]; exact hh, r⟩
theorem Own.keep0 {w w' : World} {base base' : Nat} : ∀ {d : Cs} {cs : List Value} {F : List Nat}, Own w base d cs F → (∀ b ∈ F, base' ≤ b ∧ w'.heap[b]? = w.heap[b]?) → Own w' base' d cs F
  | .nil, _, _, h, _ => h
  | .int _ r, _, _, h, hk => by simp only [Own] at h ⊢; obtain ⟨c', rfl, h⟩ := h; exact ⟨c', rfl, h.keep0 hk⟩
  | .bool _ r, _, _, h, hk => by simp only [Own] at h ⊢; obtain ⟨c', rfl, h⟩ := h; exact ⟨c', rfl, h.keep0 hk⟩
  | .str _ r, _, _, h, hk => by simp only [Own] at h ⊢; obtain ⟨c', rfl, h⟩ := h; exact ⟨c', rfl, h.keep0 hk⟩
  | .sl e sz n i r, _, _, h, hk => by
    simp only [Own] at h ⊢
    obtain ⟨v, cells, c', F1, F2, rfl, rfl, h1, h2, h3, h4⟩ := h
    exact ⟨v, cells, c', F1, F2, rfl, rfl, h1, ownsRow_keep h2 (fun b hb => hk b (by simp [hb])), h3.keep0 (fun b hb => hk b (by simp [hb])), h4.keep0 (fun b hb => hk b (by simp [hb]))⟩
theorem Own.in {w : World} {base : Nat} : ∀ {d : Cs} {cs : List Value} {F : List Nat}, Own w base d cs F → ∀ b ∈ F, base ≤ b ∧ b < w.heap.size
  | .nil, _, _, h => by simp only [Own] at h; obtain ⟨_, rfl⟩ := h; simp
  | .int _ r, _, _, h => by simp only [Own] at h; obtain ⟨c', rfl, h⟩ := h; exact h.in
  | .bool _ r, _, _, h => by simp only [Own] at h; obtain ⟨c', rfl, h⟩ := h; exact h.in
  | .str _ r, _, _, h => by simp only [Own] at h; obtain ⟨c', rfl, h⟩ := h; exact h.in
  | .sl e sz n i r, _, _, h => by
    simp only [Own] at h
    obtain ⟨v, cells, c', F1, F2, rfl, rfl, h1, h2, h3, h4⟩ := h
    intro b hb
    rcases List.mem_append.1 hb with hb | hb
    · rcases List.mem_append.1 hb with hb | hb
      · exact h2.lt b (by simpa using hb)
      · exact h3.in b hb
    · exact h4.in b hb
theorem Own.rep0 {w : World} {base : Nat} {B : Nat → Prop} : ∀ {d : Cs} {cs : List Value} {F : List Nat}, Own w base d cs F → (∀ b ∈ F, B b) → Rep B w d cs
  | .nil, _, _, h, _ => by simp only [Own] at h; simp only [Rep]; exact h.1
  | .int _ r, _, _, h, hB => by simp only [Own] at h; simp only [Rep]; obtain ⟨c', rfl, h⟩ := h; exact ⟨c', rfl, h.rep0 hB⟩
  | .bool _ r, _, _, h, hB => by simp only [Own] at h; simp only [Rep]; obtain ⟨c', rfl, h⟩ := h; exact ⟨c', rfl, h.rep0 hB⟩
  | .str _ r, _, _, h, hB => by simp only [Own] at h; simp only [Rep]; obtain ⟨c', rfl, h⟩ := h; exact ⟨c', rfl, h.rep0 hB⟩
  | .sl e sz n i r, _, _, h, hB => by
    simp only [Own] at h
    obtain ⟨v, cells, c', F1, F2, rfl, rfl, h1, h2, h3, h4⟩ := h
    have hL := h3.rep0 (B := B) (fun b hb => hB b (by simp [hb]))
    have hR := h4.rep0 (B := B) (fun b hb => hB b (by simp [hb]))
    simp only [Rep]
    have h2' := h2
    rcases h2.2 with ⟨rfl, rfl⟩ | ⟨g, cap, cur, rfl, hg, hh, _⟩
    · exact ⟨none, 0, cells, c', rfl, h1, fun hne => absurd rfl hne, hL, hR⟩
    · exact ⟨_, cap, cells, c', rfl, h1, fun _ => ⟨_, rfl, hB g (by simp [Value.ownBlock]), (h2'.lt g rfl).2, h2'.cells (g := g) rfl⟩, hL, hR⟩
/-- Only blocks of F have turned among those that were there. -/
structure Mod (F : List Nat) (w w' : World) : Prop where
  os : w'.os = w.os
  tape : w'.tape = w.tape
  output : w'.output = w.output
  size : w.heap.size ≤ w'.heap.size
  block : ∀ k, k < w.heap.size → k ∉ F → w'.heap[k]? = w.heap[k]?
theorem Mod.refl (F : List Nat) (w : World) : Mod F w w := ⟨rfl, rfl, rfl, Nat.le_refl _, fun _ _ _ => rfl⟩
theorem Mod.trans {F : List Nat} {a b c : World} (h : Mod F a b) (k : Mod F b c) : Mod F a c :=
  ⟨k.os.trans h.os, k.tape.trans h.tape, k.output.trans h.output, Nat.le_trans h.size k.size, fun i hi hn => (k.block i (Nat.lt_of_lt_of_le hi h.size) hn).trans (h.block i hi hn)⟩
theorem Mod.of_below {w w' : World} (h : Below w.heap.size w w') (F : List Nat) : Mod F w w' := ⟨h.os, h.tape, h.output, h.size, fun i hi _ => h.block i hi⟩
theorem Mod.of_grown {w w' : World} {g : Nat} (h : w.grownBy w' (some g)) {F : List Nat} (hg : g ∈ F) : Mod F w w' :=
  ⟨h.os, h.tape, h.output, h.size, fun i hi hn => h.block i hi (fun e => by injection e with e; subst e; exact hn hg)⟩
theorem Mod.mono {F F' : List Nat} {w w' : World} (h : Mod F w w') (hF : ∀ b ∈ F, b ∈ F') : Mod F' w w' := ⟨h.os, h.tape, h.output, h.size, fun i hi hn => h.block i hi (fun hm => hn (hF i hm))⟩
theorem Mod.below {F : List Nat} {a w w' : World} {B : Nat} (h : Below B a w) (k : Mod F w w') (hB : B ≤ w.heap.size) (hF : ∀ b ∈ F, B ≤ b) : Below B a w' :=
  h.trans ⟨k.os, k.tape, k.output, k.size, fun i hi => k.block i (by omega) (fun hm => by have := hF i hm; omega)⟩
theorem Mod.setCell {F : List Nat} {a w : World} (h : Mod F a w) {p : Addr} (hp : p.block ∈ F) (v : Value) : Mod F a (w.setCell p v) :=
  h.trans ⟨rfl, rfl, rfl, by simp [World.setCell], fun k _ hn => Below.heap_setCell _ _ _ _ (fun e => hn (e ▸ hp))⟩
theorem Mod.drew {F : List Nat} {a w : World} (h : Mod F a w) : Mod F a w.drew := ⟨h.os, h.tape, h.output, h.size, h.block⟩
section
variable {w w' : World} {base : Nat} {d : Cs} {cs : List Value} {F : List Nat}
theorem Own.rep (h : Own w base d cs F) : Rep (fun b => b ∈ F) w d cs := h.rep0 fun _ hb => hb
theorem Own.repAny (h : Own w base d cs F) : Rep anyB w d cs := h.rep.any
theorem Own.keep (h : Own w base d cs F) (hk : ∀ b ∈ F, w'.heap[b]? = w.heap[b]?) : Own w' base d cs F := h.keep0 fun b hb => ⟨(h.in b hb).1, hk b hb⟩
theorem Own.below (h : Own w base d cs F) (hb : Below w.heap.size w w') : Own w' base d cs F := h.keep fun b hm => hb.block b (h.in b hm).2
theorem Own.mono (h : Own w base d cs F) {base' : Nat} (hb : base' ≤ base) : Own w base' d cs F := h.keep0 fun b hm => ⟨Nat.le_trans hb (h.in b hm).1, rfl⟩
theorem Own.mod (h : Own w base d cs F) {F' : List Nat} (hm : Mod F' w w') (hd : ∀ b ∈ F, b ∉ F') : Own w' base d cs F := h.keep fun b hb => hm.block b (h.in b hb).2 (hd b hb)
theorem Rep.mod {B : Nat → Prop} (h : Rep B w d cs) {F' : List Nat} (hm : Mod F' w w') (hd : ∀ b, B b → b < w.heap.size → b ∉ F') : Rep B w' d cs := h.keep hm.size fun b h1 h2 => hm.block b h2 (hd b h1 h2)
theorem Own.nil : Own w base .nil cs F ↔ cs = [] ∧ F = [] := by simp only [Own]
theorem Own.int {n : Int} {r : Cs} : Own w base (.int n r) cs F ↔ ∃ c', cs = .int .i64 n :: c' ∧ Own w base r c' F := by simp only [Own]
theorem Own.bool {b : Bool} {r : Cs} : Own w base (.bool b r) cs F ↔ ∃ c', cs = .bool b :: c' ∧ Own w base r c' F := by simp only [Own]
theorem Own.str {s : List UInt8} {r : Cs} : Own w base (.str s r) cs F ↔ ∃ c', cs = .string (bs s) :: c' ∧ Own w base r c' F := by simp only [Own]
theorem Own.sl {e sz n : Nat} {i r : Cs} : Own w base (.sl e sz n i r) cs F ↔ ∃ A c c' F1 F2, cs = .slice A n c :: c' ∧ F = F1 ++ F2 ∧ Own w base (.sl e sz n i .nil) [.slice A n c] F1 ∧ Own w base r c' F2 := by
  simp only [Own]
  constructor
  · rintro ⟨v, cells, c', F1, F2, rfl, rfl, h1, h2, h3, h4⟩
    obtain ⟨A, c, rfl, _⟩ := SlR.of_own h2
    exact ⟨A, c, c', _, F2, rfl, rfl, ⟨_, cells, [], F1, [], rfl, (List.append_nil _).symm, h1, h2, h3, rfl, rfl⟩, h4⟩
  · rintro ⟨A, c, c', _, F2, rfl, rfl, ⟨v, cells, c2, F1, F3, he, rfl, h1, h2, h3, rfl, rfl⟩, h4⟩
    injection he with he _
    subst he
    exact ⟨_, cells, c', F1, F2, rfl, by rw [List.append_nil], h1, h2, h3, h4⟩
end
theorem Own.app {w : World} {base : Nat} {b : Cs} : ∀ {a : Cs} {cs : List Value} {F : List Nat}, Own w base (a.app b) cs F ↔ ∃ c1 c2 F1 F2, cs = c1 ++ c2 ∧ F = F1 ++ F2 ∧ Own w base a c1 F1 ∧ Own w base b c2 F2
  | .nil, cs, F => by
    simp only [Cs.app, Own]
    exact ⟨fun h => ⟨[], cs, [], F, rfl, rfl, ⟨rfl, rfl⟩, h⟩, fun ⟨c1, c2, F1, F2, e1, e2, ⟨e3, e4⟩, h⟩ => by subst e1 e2 e3 e4; exact h⟩
  | .int n r, cs, F => by
    simp only [Cs.app, Own.int, Own.app (a := r)]
    exact ⟨fun ⟨c', e, c1, c2, F1, F2, e2, e3, h1, h2⟩ => ⟨_ :: c1, c2, F1, F2, by rw [e, e2]; rfl, e3, ⟨c1, rfl, h1⟩, h2⟩, fun ⟨_, c2, F1, F2, e, e3, ⟨c1, e1, h1⟩, h2⟩ => ⟨c1 ++ c2, by rw [e, e1]; rfl, c1, c2, F1, F2, rfl, e3, h1, h2⟩⟩
  | .bool n r, cs, F => by
    simp only [Cs.app, Own.bool, Own.app (a := r)]
    exact ⟨fun ⟨c', e, c1, c2, F1, F2, e2, e3, h1, h2⟩ => ⟨_ :: c1, c2, F1, F2, by rw [e, e2]; rfl, e3, ⟨c1, rfl, h1⟩, h2⟩, fun ⟨_, c2, F1, F2, e, e3, ⟨c1, e1, h1⟩, h2⟩ => ⟨c1 ++ c2, by rw [e, e1]; rfl, c1, c2, F1, F2, rfl, e3, h1, h2⟩⟩
  | .str n r, cs, F => by
    simp only [Cs.app, Own.str, Own.app (a := r)]
    exact ⟨fun ⟨c', e, c1, c2, F1, F2, e2, e3, h1, h2⟩ => ⟨_ :: c1, c2, F1, F2, by rw [e, e2]; rfl, e3, ⟨c1, rfl, h1⟩, h2⟩, fun ⟨_, c2, F1, F2, e, e3, ⟨c1, e1, h1⟩, h2⟩ => ⟨c1 ++ c2, by rw [e, e1]; rfl, c1, c2, F1, F2, rfl, e3, h1, h2⟩⟩
  | .sl e sz n i r, cs, F => by
    simp only [Cs.app]
    rw [Own.sl]
    simp only [Own.app (a := r)]
    constructor
    · rintro ⟨A, c, _, F1, _, rfl, rfl, h0, c1, c2, F3, F4, rfl, rfl, h1, h2⟩
      exact ⟨_ :: c1, c2, F1 ++ F3, F4, rfl, (List.append_assoc ..).symm, Own.sl.2 ⟨A, c, c1, F1, F3, rfl, rfl, h0, h1⟩, h2⟩
    · rintro ⟨_, c2, _, F4, rfl, rfl, h, h2⟩
      obtain ⟨A, c, c1, F1, F3, rfl, rfl, h0, h1⟩ := Own.sl.1 h
      exact ⟨A, c, c1 ++ c2, F1, F3 ++ F4, rfl, List.append_assoc .., h0, c1, c2, F3, F4, rfl, rfl, h1, h2⟩
/-- data in blocks of one's own, no block twice -/
def Mine (w : World) (base : Nat) (d : Cs) (cs : List Value) : Prop := ∃ F, F.Nodup ∧ Own w base d cs F
theorem Mine.below {w w' : World} {base : Nat} {d : Cs} {cs : List Value} (h : Mine w base d cs) (hb : Below w.heap.size w w') : Mine w' base d cs := let ⟨F, h1, h2⟩ := h; ⟨F, h1, h2.below hb⟩
theorem Mine.mono {w : World} {base base' : Nat} {d : Cs} {cs : List Value} (h : Mine w base d cs) (hb : base' ≤ base) : Mine w base' d cs := let ⟨F, h1, h2⟩ := h; ⟨F, h1, h2.mono hb⟩
theorem Mine.rep {w : World} {base : Nat} {d : Cs} {cs : List Value} (h : Mine w base d cs) : Rep (fun b => base ≤ b) w d cs := let ⟨_, _, h2⟩ := h; h2.rep.mono fun b hb => (h2.in b hb).1
theorem nodup_app {F1 F2 : List Nat} {m : Nat} (h1 : F1.Nodup) (h2 : F2.Nodup) (a : ∀ b ∈ F1, b < m) (b : ∀ b ∈ F2, m ≤ b) : (F1 ++ F2).Nodup :=
  List.nodup_append.2 ⟨h1, h2, fun x hx y hy e => by have := a x hx; have := b y hy; omega⟩
/-- two rows of data side by side, the second made behind the first -/
theorem Mine.app {w w' : World} {base m : Nat} {d1 d2 : Cs} {c1 c2 : List Value} (h1 : Mine w base d1 c1) (hm : w.heap.size ≤ m) (hk : Below w.heap.size w w') (h2 : Mine w' m d2 c2) (hb : base ≤ m) : Mine w' base (d1.app d2) (c1 ++ c2) := by
  obtain ⟨F1, n1, o1⟩ := h1
  obtain ⟨F2, n2, o2⟩ := h2
  exact ⟨F1 ++ F2, nodup_app (m := m) n1 n2 (fun b hb => by have := (o1.in b hb).2; omega) (fun b hb => (o2.in b hb).1), Own.app.2 ⟨c1, c2, F1, F2, rfl, rfl, o1.below hk, o2.mono hb⟩⟩

/-! ### one block of one's own, its cells turned -/
def Blk (w : World) (g e : Nat) (cs : Array Value) : Prop := w.heap[g]? = some (.cells cs e (0, 0))
section
variable {w w' : World} {g e : Nat} {cs : Array Value}
theorem Blk.cell (h : Blk w g e cs) (p : Nat) : w.cell? ⟨g, p, none⟩ = cs[p]? := by simp [World.cell?, show w.heap[g]? = _ from h]
theorem Blk.frozen (h : Blk w g e cs) (p : Nat) : w.frozen? ⟨g, p, none⟩ = false := by simp [World.frozen?, show w.heap[g]? = _ from h]
theorem Blk.lt (h : Blk w g e cs) : g < w.heap.size := (Array.getElem?_eq_some_iff.1 (show w.heap[g]? = _ from h)).1
theorem Blk.set (h : Blk w g e cs) (p : Nat) (v : Value) : Blk (w.setCell ⟨g, p, none⟩ v) g e (cs.setIfInBounds p v) := by
  simp [Blk, World.setCell, Array.getElem?_modify, show w.heap[g]? = _ from h]
theorem Blk.keep (h : Blk w g e cs) (hk : w'.heap[g]? = w.heap[g]?) : Blk w' g e cs := hk.trans h
theorem Blk.below (h : Blk w g e cs) (hb : Below w.heap.size w w') : Blk w' g e cs := h.keep (hb.block g h.lt)
theorem Blk.drew (h : Blk w g e cs) : Blk w.drew g e cs := h
theorem Blk.mod (h : Blk w g e cs) {F : List Nat} (hm : Mod F w w') (hg : g ∉ F) : Blk w' g e cs := h.keep (hm.block g h.lt hg)
theorem Blk.alloc (h : Blk w g e cs) (o : Obj) : Blk (w.alloc o) g e cs := h.below ((Below.refl _ _).alloc (Nat.le_refl _) o)
end
end Go.Proofs.Ytoffelfcmfpooaa
