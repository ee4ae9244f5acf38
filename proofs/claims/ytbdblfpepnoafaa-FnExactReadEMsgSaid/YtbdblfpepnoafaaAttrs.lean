/-
  AttrsOf as a plain function; the reference's l8Attrs and AttrsOf. Conditions: bounds on the sizes.
-/
import Derived.Test.YtbdblfpepnoafaaInsts
import Derived.Test.YtbdblfpepnoafaaClash
import Derived.Test.YtbdblfpepnoafaaFlat
import Derived.Test.YtbdblfpepnoafaaRegG
namespace Go.Proofs.Ytbdblfpepnoafaa
open Go.RowKit


theorem clash_comm (a b : CmdD) : clashB a b = clashB b a := by
  have e : (a.set == b.set) = (b.set == a.set) := by rw [Bool.eq_iff_iff, beq_iff_eq, beq_iff_eq]; exact eq_comm
  simp only [clashB, e]
  cases cmdOkB a <;> cases cmdOkB b <;> cases (a.kind == 0) <;> cases (b.kind == 0) <;> cases (a.kind == 7) <;> cases (b.kind == 7) <;> rfl
noncomputable def keepB (id : IdD) (c : CmdD) (x : InstD) : Bool := !(decide (x.id = id)) && (!(x.status == 0) && clashB c x.cmd)
noncomputable def depsL (id : IdD) (c : CmdD) (xs : List InstD) : List IdD := (xs.filter (keepB id c)).map InstD.id
noncomputable def seqL (id : IdD) (c : CmdD) (xs : List InstD) : Int := xs.foldl (fun s x => if keepB id c x = true then max s x.seq else s) 0
theorem depsL_yes {id : IdD} {c : CmdD} {xs : List InstD} {j : Nat} (hj : j < xs.length) (h : keepB id c xs[j] = true) : depsL id c (xs.take (j + 1)) = depsL id c (xs.take j) ++ [xs[j].id] := by
  rw [List.take_succ_eq_append_getElem hj, depsL, List.filter_append, List.map_append]
  simp [depsL, h]
theorem depsL_no {id : IdD} {c : CmdD} {xs : List InstD} {j : Nat} (hj : j < xs.length) (h : keepB id c xs[j] = false) : depsL id c (xs.take (j + 1)) = depsL id c (xs.take j) := by
  rw [List.take_succ_eq_append_getElem hj, depsL, List.filter_append, List.map_append]
  simp [depsL, h]
theorem seqL_yes {id : IdD} {c : CmdD} {xs : List InstD} {j : Nat} (hj : j < xs.length) (h : keepB id c xs[j] = true) : seqL id c (xs.take (j + 1)) = max (seqL id c (xs.take j)) xs[j].seq := by
  rw [List.take_succ_eq_append_getElem hj, seqL, List.foldl_append]
  simp [seqL, h]
theorem seqL_no {id : IdD} {c : CmdD} {xs : List InstD} {j : Nat} (hj : j < xs.length) (h : keepB id c xs[j] = false) : seqL id c (xs.take (j + 1)) = seqL id c (xs.take j) := by
  rw [List.take_succ_eq_append_getElem hj, seqL, List.foldl_append]
  simp [seqL, h]
theorem depsL_len (id : IdD) (c : CmdD) (xs : List InstD) : (depsL id c xs).length ≤ xs.length := by
  rw [depsL, List.length_map]
  exact List.length_filter_le _ _
noncomputable def fAttrsOf (xs : List InstD) (id : IdD) (c : CmdD) : Int × List IdD := if instsOkB xs = true then (seqL id c xs + 1, depsL id c xs) else (0, [])
theorem bAttrsOf (xs : List InstD) (id : IdD) (c : CmdD) (h : xs.length + (cat InstD.c xs).wt ≤ 1048576) (_ : id.c.wt ≤ 1048576) (_ : c.c.wt ≤ 1048576) :
    (fAttrsOf xs id c).2.length + (cat IdD.c (fAttrsOf xs id c).2).wt ≤ 4611686018427387 ∧ cts IdD.cnt (fAttrsOf xs id c).2 ≤ 4611686018427387 := by
  have hl : (fAttrsOf xs id c).2.length ≤ xs.length := by
    unfold fAttrsOf
    split
    · exact depsL_len _ _ _
    · exact Nat.zero_le _
  generalize (fAttrsOf xs id c).2 = l at hl
  have h1 : (cat IdD.c l).wt = 0 := cat_wt0 (fun _ => rfl) l
  have h2 : cts IdD.cnt l = 2 * l.length := by
    clear hl h1
    induction l with
    | nil => rfl
    | cons x r ih => rw [List.length_cons, cts]; first | (rw [ih]; show 2 + _ = _; omega) | (simp [cts, IdD.cnt] at *; omega)
  omega
def idCells : List IdD → List Value
  | [] => []
  | s :: r => .int .i64 s.rep :: .int .i64 s.slot :: idCells r
theorem idCells_length : ∀ xs : List IdD, (idCells xs).length = xs.length * 2
  | [] => rfl
  | s :: r => by rw [idCells, List.length_cons, List.length_cons, idCells_length r, List.length_cons]; omega
theorem idCells_app : ∀ a b : List IdD, idCells (a ++ b) = idCells a ++ idCells b
  | [], _ => rfl
  | s :: r, b => by rw [List.cons_append, idCells, idCells, idCells_app r b]; rfl
theorem own_ids (w : World) (base : Nat) : ∀ xs : List IdD, Own w base (cat IdD.c xs) (idCells xs) []
  | [] => Own.nil.2 ⟨rfl, rfl⟩
  | s :: r => by
    rw [cat_cons]
    exact Own.app.2 ⟨[_, _], idCells r, [], [], rfl, rfl, IdD.shutO (x := s), own_ids w base r⟩
theorem insts_seq {xs : List InstD} (h : instsOkB xs = true) (j : Nat) (hj : j < xs.length) : 0 ≤ xs[j].seq ∧ xs[j].seq ≤ 60 := by
  have h1 : instsGood xs xs.length := by simpa [instsOkB] using h
  obtain ⟨x, hx, hok, _⟩ := h1 j hj
  rw [List.getElem?_eq_getElem hj] at hx
  injection hx with hx
  rw [hx]
  simp only [instOkB, Bool.and_eq_true] at hok
  have h6 := hok.2.2.2.2.2.1
  simpa [inB] using h6
theorem seqL_range {xs : List InstD} (h : instsOkB xs = true) (id : IdD) (c : CmdD) : ∀ j, j ≤ xs.length → 0 ≤ seqL id c (xs.take j) ∧ seqL id c (xs.take j) ≤ 60
  | 0, _ => by simp [seqL]
  | j + 1, hj => by
    have ih := seqL_range h id c j (by omega)
    have hs := insts_seq h j (by omega)
    cases hk : keepB id c xs[j]
    · rw [seqL_no (by omega) hk]; exact ih
    · rw [seqL_yes (by omega) hk]; omega

end Go.Proofs.Ytbdblfpepnoafaa
