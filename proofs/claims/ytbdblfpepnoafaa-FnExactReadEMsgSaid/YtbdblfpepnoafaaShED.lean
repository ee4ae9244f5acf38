/-
  Messages as text: impl.ShowEMsg, spec.ShowEMsg. Conditions: bounds on the sizes.
-/
import Derived.Test.YtbdblfpepnoafaaEOkI
import Derived.Test.YtbdblfpepnoafaaEOkS
import Derived.Test.YtbdblfpepnoafaaShow
namespace Go.Proofs.Ytbdblfpepnoafaa
open Go.RowKit

def idL (d : IdD) : List UInt8 := varF d.rep ++ varF d.slot
def sameL (b : Bool) : List UInt8 := if b = true then [1] else [0]
def numsE (m : EMsgD) : List Int := [m.kind, m.frm, m.to, m.id.rep, m.id.slot, m.bal, m.status, m.vbal + 1, m.seq]
noncomputable def showEMsgL (m : EMsgD) : List UInt8 := if emsgOkB m = true then ((numsE m).map varF).flatten ++ (sameL m.same ++ (sizedL (showCmdL m.cmd) ++ (varF (m.deps.length : Int) ++ (m.deps.map idL).flatten))) else []
theorem inB_t3 {lo hi x : Int} (h : inB lo hi x = true) : lo ≤ x ∧ x ≤ hi := by simpa [inB] using h
theorem emsgOk_vbal {m : EMsgD} (h : emsgOkB m = true) : -1 ≤ m.vbal ∧ m.vbal ≤ 600 := by
  unfold emsgOkB at h
  simp only [Bool.and_eq_true] at h
  exact inB_t3 h.2.2.2.2.2.2.2.2.2.2.2
theorem showCmd_len (c : CmdD) : (showCmdL c).length ≤ c.c.wt + 60 := by
  have h0 : c.c.wt = c.set.length + (c.name.length + (c.tag.length + (c.chunks.length + (cat strC c.chunks).wt + 0))) := rfl
  unfold showCmdL
  split
  · have := varF_length c.kind; have := varF_length c.client; have := varF_length c.no; have := varF_length c.n
    have := sizedL_length c.set; have := sizedL_length c.name; have := sizedL_length c.tag; have := varF_length (c.chunks.length : Int)
    simp only [showH, List.length_append, flat_len]
    omega
  · simp
theorem idL_len (d : IdD) : (idL d).length ≤ 14 := by
  have := varF_length d.rep; have := varF_length d.slot
  simp only [idL, List.length_append]; omega
theorem flatm_take {α : Type} (f : α → List UInt8) (xs : List α) (j : Nat) (h : j < xs.length) : ((xs.take (j + 1)).map f).flatten = ((xs.take j).map f).flatten ++ f xs[j] := by
  rw [List.take_succ_eq_append_getElem h, List.map_append, List.flatten_append]; simp
theorem flatm_len {α : Type} (f : α → List UInt8) (m : Nat) (hf : ∀ x, (f x).length ≤ m) : ∀ xs : List α, ((xs.map f).flatten).length ≤ xs.length * m
  | [] => by simp
  | x :: xs => by
    have := flatm_len f m hf xs
    have := hf x
    rw [List.map_cons, List.flatten_cons, List.length_append, List.length_cons, Nat.succ_mul]; omega

theorem addr_add0' (a : Addr) : a.add 0 = a := by
  obtain ⟨b, o, v⟩ := a
  unfold Addr.add
  split <;> simp_all
end Go.Proofs.Ytbdblfpepnoafaa
