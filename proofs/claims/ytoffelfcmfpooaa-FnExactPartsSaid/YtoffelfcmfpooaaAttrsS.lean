/-
  The reference's l8Attrs and AttrsOf as the plain function fAttrsOf. Conditions: bounds on the sizes.
-/
import Derived.Test.YtoffelfcmfpooaaAttrs
namespace Go.Proofs.Ytoffelfcmfpooaa
open Go.RowKit


theorem blk_newAt' (w : World) (cs cs' : Array Value) (e g : Nat) (hg : g = w.heap.size) (hc : cs = cs') : Blk (w.alloc (.cells cs e)) g e cs' := by subst hg hc; exact blk_new _ _ _
theorem kept13 {v1 v2 : World} {o : Obj} {r : Option Nat} {a : Addr} {u : Value} (h : v1.cell? a = some u) (hg : (v1.alloc o).grownBy v2 r) (hr : r ≠ some a.block) : v2.cell? a = some u := by
  have hlt := World.block_lt_of_cell? _ _ h
  rw [World.cell?_of_block (hg.block _ (Nat.lt_of_lt_of_le hlt (by simp)) (fun e => hr e.symm))]
  exact (((Below.refl _ v1).alloc (Nat.le_refl _) o).cell hlt).trans h
theorem keptB {v1 v2 : World} {o : Obj} {r : Option Nat} {g e : Nat} {cs : Array Value} (h : Blk v1 g e cs) (hg : (v1.alloc o).grownBy v2 r) (hr : r ≠ some g) : Blk v2 g e cs :=
  (h.alloc o).keep (hg.block g (h.alloc o).lt (fun e => hr e.symm))
theorem own_nilAt (w : World) (base e size g : Nat) (hg : g = w.heap.size) (hb : base ≤ g) : (w.alloc (.cells #[] e)).ownsRow base e size (.slice (some ⟨g, 0, none⟩) 0 0) 0 [] := by subst hg; exact World.ownsRow_made w #[] 0 hb (by simp [maxLen]) (by simp)

theorem InstD.cmd_wt (x : InstD) : (x.cmd.c).wt ≤ (x.c).wt := by
  have e0 : (x.cmd.c).wt = (x.cmd.set.length + (x.cmd.name.length + (x.cmd.tag.length + (x.cmd.chunks.length + (cat strC x.cmd.chunks).wt + 0)))) := rfl
  have e1 : (x.c).wt = (x.cmd.set.length + (x.cmd.name.length + (x.cmd.tag.length + (x.cmd.chunks.length + (cat strC x.cmd.chunks).wt + (x.deps.length + (cat IdD.c x.deps).wt + 0))))) := rfl
  omega
theorem cmd_cells {B : Nat → Prop} {w w' : World} {x : InstD} {cs : List Value} {p : Addr} (h : Rep B w' x.c cs) (hc : ∀ f v, cs[f]? = some v → w.cell? (p.add f) = some v) :
    ∃ csx, csx.length = 8 ∧ Rep B w' x.cmd.c csx ∧ ∀ f v, csx[f]? = some v → w.cell? ((⟨p.block, p.off + 5, none⟩ : Addr).add f) = some v := by
  obtain ⟨A0, k0, A1, k1, rfl, s0, _⟩ := InstD.open h
  refine ⟨[.int .i64 x.cmd.kind, .int .i64 x.cmd.client, .int .i64 x.cmd.no, .string (bs x.cmd.set), .string (bs x.cmd.name), .string (bs x.cmd.tag), .int .i64 x.cmd.n, .slice A0 x.cmd.chunks.length k0], rfl, CmdD.shut s0, fun f v hv => ?_⟩
  have hlt := (List.getElem?_eq_some_iff.1 hv).1
  have h1 := hc (5 + f) v (by
    have : f = 0 ∨ f = 1 ∨ f = 2 ∨ f = 3 ∨ f = 4 ∨ f = 5 ∨ f = 6 ∨ f = 7 := by simp at hlt; omega
    rcases this with rfl | rfl | rfl | rfl | rfl | rfl | rfl | rfl <;> exact hv)
  rw [← add_of_add] at h1
  exact h1









































































































































































































theorem mine_ids {w : World} {base n : Nat} {A : Option Addr} {c : Nat} {l : List IdD} (h : w.ownsRow base 36 2 (.slice A n c) n (idCells l)) (hn : n = l.length) : Mine w base (.sl 36 2 n (cat IdD.c l) .nil) [.slice A n c] := by
  have hw : (cat IdD.c l).width = n * 2 := by rw [hn, ← idCells_length, (own_ids w base l).length]
  exact ⟨_, nodup_own _, Own.sl1.2 ⟨idCells l, [], (List.append_nil _).symm, hw, h, own_ids w base l⟩⟩




















































end Go.Proofs.Ytoffelfcmfpooaa
