/-
  Rows of Ids that rise: one is known by its members; joined rows, rows without what stands twice. Plain.
  The reference's l8Attrs and AttrsOf as the plain function fAttrsOf. Conditions: bounds on the sizes.
  Rows of Ids joined: spec.l8Join. Conditions: bounds on the lengths.
  Rows of Ids joined: spec.JoinIds. Conditions: bounds on the lengths.
  The program's AttrsOf as the plain function fAttrsOf. Conditions: bounds on the sizes.
-/
import Derived.Test.YtonaacdefidomaaGreatBB
import Derived.Test.YtonaacdefidomaaGreatBC
set_option linter.unusedVariables false
set_option linter.unusedSimpArgs false
namespace Go.Proofs.YtonaacdefidomaaGreat
open Go.RowKit

theorem idLt_iff {a b : IdD} : idLt a b = true ↔ a.rep < b.rep ∨ a.rep = b.rep ∧ a.slot < b.slot := by simp [idLt]
theorem idLt_iff' {a b : IdD} : idLt a b = false ↔ ¬ (a.rep < b.rep ∨ a.rep = b.rep ∧ a.slot < b.slot) := by simp only [idLt, decide_eq_false_iff_not]
theorem idLt_irrefl (a : IdD) : idLt a a = false := idLt_iff'.2 (by omega)
theorem idLt_trans {a b c : IdD} (h : idLt a b = true) (k : idLt b c = true) : idLt a c = true := by
  rw [idLt_iff] at *; omega
theorem idLt_ntrans {a b c : IdD} (h : idLt a b = false) (k : idLt b c = false) : idLt a c = false := by
  rw [idLt_iff'] at *; omega
theorem idLt_asymm {a b : IdD} (h : idLt a b = true) : idLt b a = false := by
  rw [idLt_iff] at h; rw [idLt_iff']; omega
theorem idD_ext {a b : IdD} (h1 : a.rep = b.rep) (h2 : a.slot = b.slot) : a = b := by
  obtain ⟨ar, as'⟩ := a
  obtain ⟨br, bs'⟩ := b
  simp only at h1 h2
  subst h1 h2
  rfl
theorem idLt_eq {a b : IdD} (h : idLt a b = false) (k : idLt b a = false) : a = b := by
  rw [idLt_iff'] at *
  exact idD_ext (by omega) (by omega)
def Asc (xs : List IdD) : Prop := xs.Pairwise fun a b => idLt a b = true
theorem Asc.nil : Asc [] := List.Pairwise.nil
theorem asc_cons {x : IdD} {xs : List IdD} : Asc (x :: xs) ↔ (∀ y ∈ xs, idLt x y = true) ∧ Asc xs := List.pairwise_cons
theorem asc_ext : ∀ {xs ys : List IdD}, Asc xs → Asc ys → (∀ x, x ∈ xs ↔ x ∈ ys) → xs = ys
  | [], [], _, _, _ => rfl
  | [], y :: ys, _, _, h => absurd ((h y).2 (by simp)) (by simp)
  | x :: xs, [], _, _, h => absurd ((h x).1 (by simp)) (by simp)
  | x :: xs, y :: ys, hx, hy, h => by
    obtain ⟨hx1, hx2⟩ := asc_cons.1 hx
    obtain ⟨hy1, hy2⟩ := asc_cons.1 hy
    have he : x = y := by
      rcases List.mem_cons.1 ((h x).1 (by simp)) with e | e
      · exact e
      · rcases List.mem_cons.1 ((h y).2 (by simp)) with e2 | e2
        · exact e2.symm
        · have h1 := hy1 x e
          have h2 := hx1 y e2
          rw [idLt_asymm h1] at h2; cases h2
    subst he
    congr 1
    refine asc_ext hx2 hy2 fun z => ⟨fun hz => ?_, fun hz => ?_⟩
    · rcases List.mem_cons.1 ((h z).1 (List.mem_cons_of_mem _ hz)) with e | e
      · subst e
        have := hx1 z hz
        rw [idLt_irrefl] at this; cases this
      · exact e
    · rcases List.mem_cons.1 ((h z).2 (List.mem_cons_of_mem _ hz)) with e | e
      · subst e
        have := hy1 z hz
        rw [idLt_irrefl] at this; cases this
      · exact e
theorem asc_nodup {xs : List IdD} (h : Asc xs) : xs.Nodup := h.imp fun {a b} hab e => by subst e; rw [idLt_irrefl] at hab; cases hab
theorem ids_good {xs : List IdD} (h : idsOkB xs = true) : idsGood xs xs.length := by simpa [idsOkB] using h
theorem ids_asc {xs : List IdD} (h : idsOkB xs = true) : Asc xs := by
  have hg := ids_good h
  refine List.pairwise_iff_getElem.2 fun i j hi hj hij => ?_
  induction j with
  | zero => omega
  | succ j ih =>
    obtain ⟨x, hx, _, hl⟩ := hg (j + 1) hj
    have hjj : xs[j]? = some xs[j] := List.getElem?_eq_getElem (by omega)
    have h1 := hl xs[j] (by omega) hjj
    rw [List.getElem?_eq_getElem hj] at hx
    injection hx with hx
    subst hx
    rcases Nat.lt_or_ge i j with h2 | h2
    · exact idLt_trans (ih (by omega) h2) h1
    · have : i = j := by omega
      subst this
      exact h1
theorem ids_ok {xs : List IdD} (h : idsOkB xs = true) : ∀ x ∈ xs, idOkB x = true := fun x hx => by
  obtain ⟨i, hi, rfl⟩ := List.getElem_of_mem hx
  obtain ⟨y, hy, h1, _⟩ := ids_good h i hi
  rw [List.getElem?_eq_getElem hi] at hy
  injection hy with hy
  subst hy
  exact h1
theorem ids_of {xs : List IdD} (h1 : Asc xs) (h2 : ∀ x ∈ xs, idOkB x = true) : idsOkB xs = true := by
  refine idsOkB_yes fun i hi => ⟨xs[i], List.getElem?_eq_getElem hi, h2 _ (List.getElem_mem hi), fun y h0 hy => ?_⟩
  rw [List.getElem?_eq_getElem (by omega)] at hy
  injection hy with hy
  subst hy
  exact List.pairwise_iff_getElem.1 h1 (i - 1) i (by omega) hi (by omega)
/-- rows that rise, joined -/
def joinF : List IdD → List IdD → List IdD
  | [], b => b
  | x :: a, [] => x :: a
  | x :: a, y :: b => if idLt x y = true then x :: joinF a (y :: b) else if x = y then y :: joinF a b else y :: joinF (x :: a) b
termination_by a b => a.length + b.length
theorem joinF_nil (b : List IdD) : joinF [] b = b := by rw [joinF]
theorem joinF_nil2 (a : List IdD) : joinF a [] = a := by cases a <;> rw [joinF]
theorem joinF_lt {x y : IdD} {a b : List IdD} (h : idLt x y = true) : joinF (x :: a) (y :: b) = x :: joinF a (y :: b) := by rw [joinF, if_pos h]
theorem joinF_eq {x : IdD} {a b : List IdD} : joinF (x :: a) (x :: b) = x :: joinF a b := by rw [joinF, if_neg (by simp [idLt_irrefl]), if_pos rfl]
theorem joinF_gt {x y : IdD} {a b : List IdD} (h : idLt x y = false) (h2 : ¬ x = y) : joinF (x :: a) (y :: b) = y :: joinF (x :: a) b := by rw [joinF, if_neg (by simp [h]), if_neg h2]
theorem mem_joinF {z : IdD} : ∀ {a b : List IdD}, z ∈ joinF a b ↔ z ∈ a ∨ z ∈ b
  | [], b => by simp [joinF_nil]
  | x :: a, [] => by simp [joinF_nil2]
  | x :: a, y :: b => by
    by_cases h : idLt x y = true
    · rw [joinF_lt h, List.mem_cons, mem_joinF (a := a) (b := y :: b), List.mem_cons (b := x), or_assoc]
    · have h : idLt x y = false := by simpa using h
      by_cases h2 : x = y
      · subst h2
        rw [joinF_eq, List.mem_cons, mem_joinF (a := a) (b := b), List.mem_cons, List.mem_cons]
        exact ⟨fun h => h.elim (fun h => .inl (.inl h)) (fun h => h.elim (fun h => .inl (.inr h)) (fun h => .inr (.inr h))), fun h => h.elim (fun h => h.elim .inl (fun h => .inr (.inl h))) (fun h => h.elim .inl (fun h => .inr (.inr h)))⟩
      · rw [joinF_gt h h2, List.mem_cons, mem_joinF (a := x :: a) (b := b), List.mem_cons (b := y)]
        exact ⟨fun h => h.elim (fun h => .inr (.inl h)) (fun h => h.elim .inl (fun h => .inr (.inr h))), fun h => h.elim (fun h => .inr (.inl h)) (fun h => h.elim .inl (fun h => .inr (.inr h)))⟩
termination_by a b => a.length + b.length
theorem asc_joinF : ∀ {a b : List IdD}, Asc a → Asc b → Asc (joinF a b)
  | [], b, _, hb => by rw [joinF_nil]; exact hb
  | x :: a, [], ha, _ => by rw [joinF_nil2]; exact ha
  | x :: a, y :: b, ha, hb => by
    obtain ⟨ha1, ha2⟩ := asc_cons.1 ha
    obtain ⟨hb1, hb2⟩ := asc_cons.1 hb
    by_cases h : idLt x y = true
    · rw [joinF_lt h]
      refine asc_cons.2 ⟨fun z hz => ?_, asc_joinF ha2 hb⟩
      rcases mem_joinF.1 hz with hz | hz
      · exact ha1 z hz
      · rcases List.mem_cons.1 hz with rfl | hz
        · exact h
        · exact idLt_trans h (hb1 z hz)
    · have h : idLt x y = false := by simpa using h
      by_cases h2 : x = y
      · subst h2
        rw [joinF_eq]
        refine asc_cons.2 ⟨fun z hz => ?_, asc_joinF ha2 hb2⟩
        rcases mem_joinF.1 hz with hz | hz
        · exact ha1 z hz
        · exact hb1 z hz
      · rw [joinF_gt h h2]
        have hyx : idLt y x = true := by
          cases hh : idLt y x with
          | true => rfl
          | false => exact absurd (idLt_eq h hh) h2
        refine asc_cons.2 ⟨fun z hz => ?_, asc_joinF ha hb2⟩
        rcases mem_joinF.1 hz with hz | hz
        · rcases List.mem_cons.1 hz with rfl | hz
          · exact hyx
          · exact idLt_trans hyx (ha1 z hz)
        · exact hb1 z hz
termination_by a b => a.length + b.length
theorem joinF_len : ∀ (a b : List IdD), (joinF a b).length ≤ a.length + b.length
  | [], b => by rw [joinF_nil]; simp
  | x :: a, [] => by rw [joinF_nil2]; simp
  | x :: a, y :: b => by
    by_cases h : idLt x y = true
    · have := joinF_len a (y :: b)
      rw [joinF_lt h]; simp only [List.length_cons] at *; omega
    · have h : idLt x y = false := by simpa using h
      by_cases h2 : x = y
      · subst h2
        have := joinF_len a b
        rw [joinF_eq]; simp only [List.length_cons] at *; omega
      · have := joinF_len (x :: a) b
        rw [joinF_gt h h2]; simp only [List.length_cons] at *; omega
termination_by a b => a.length + b.length
/-- of what stands twice side by side, one -/
def compactF : List IdD → List IdD
  | [] => []
  | [a] => [a]
  | a :: b :: r => if a = b then compactF (b :: r) else a :: compactF (b :: r)
theorem mem_compactF {z : IdD} : ∀ {xs : List IdD}, z ∈ compactF xs ↔ z ∈ xs
  | [] => by rw [compactF]
  | [a] => by rw [compactF]
  | a :: b :: r => by
    rw [compactF]
    split
    · rename_i h
      subst h
      rw [mem_compactF (xs := a :: r)]
      simp
    · rw [List.mem_cons, mem_compactF (xs := b :: r), List.mem_cons (b := a)]
def Wk (xs : List IdD) : Prop := xs.Pairwise fun a b => idLt b a = false
theorem asc_compactF : ∀ {xs : List IdD}, Wk xs → Asc (compactF xs)
  | [], _ => by rw [compactF]; exact Asc.nil
  | [a], _ => by rw [compactF]; exact asc_cons.2 ⟨by simp, Asc.nil⟩
  | a :: b :: r, h => by
    obtain ⟨h1, h2⟩ := List.pairwise_cons.1 h
    rw [compactF]
    split
    · exact asc_compactF h2
    · rename_i hne
      refine asc_cons.2 ⟨fun z hz => ?_, asc_compactF h2⟩
      have hz' := mem_compactF.1 hz
      have hza := h1 z hz'
      cases hh : idLt a z with
      | true => rfl
      | false =>
        exfalso
        have e := idLt_eq hh hza
        subst e
        rcases List.mem_cons.1 hz' with e | hz2
        · exact hne e
        · have h3 := (List.pairwise_cons.1 h2).1 a hz2
          exact hne (idLt_eq (h1 b (by simp) |> fun _ => h3) (h1 b (by simp)))
theorem sorted_join {a b xs : List IdD} (ha : Asc a) (hb : Asc b) (hp : xs.Perm (a ++ b)) (hs : Wk xs) : compactF xs = joinF a b :=
  asc_ext (asc_compactF hs) (asc_joinF ha hb) fun x => by rw [mem_compactF, hp.mem_iff, List.mem_append, mem_joinF]
theorem sorted_asc {xs ys : List IdD} (hn : ys.Nodup) (hp : xs.Perm ys) (hs : Wk xs) : Asc xs := by
  have hnd : xs.Nodup := hp.nodup_iff.2 hn
  have := List.Pairwise.and hs hnd
  refine this.imp fun {a b} hab => ?_
  cases hh : idLt a b with
  | true => rfl
  | false => exact absurd (idLt_eq hh hab.1) hab.2
noncomputable def fJoinIds (a b : List IdD) : List IdD := if idsOkB a = true ∧ idsOkB b = true then joinF a b else []

end Go.Proofs.YtonaacdefidomaaGreat
namespace Go.Proofs.YtonaacdefidomaaGreat
open Go.RowKit


theorem blk_newAt' (w : World) (cs cs' : Array Value) (e g : Nat) (hg : g = w.heap.size) (hc : cs = cs') : Blk (w.alloc (.cells cs e)) g e cs' := by subst hg hc; exact blk_new _ _ _
theorem kept13 {v1 v2 : World} {o : Obj} {r : Option Nat} {a : Addr} {u : Value} (h : v1.cell? a = some u) (hg : (v1.alloc o).grownBy v2 r) (hr : r ≠ some a.block) : v2.cell? a = some u := by
  have hlt := World.block_lt_of_cell? _ _ h
  rw [World.cell?_of_block (hg.block _ (Nat.lt_of_lt_of_le hlt (by simp)) (fun e => hr e.symm))]
  exact (((Below.refl _ v1).alloc (Nat.le_refl _) o).cell hlt).trans h
theorem keptB {v1 v2 : World} {o : Obj} {r : Option Nat} {g e : Nat} {cs : Array Value} (h : Blk v1 g e cs) (hg : (v1.alloc o).grownBy v2 r) (hr : r ≠ some g) : Blk v2 g e cs :=
  (h.alloc o).keep (hg.block g (h.alloc o).lt (fun e => hr e.symm))
theorem own_nilAt (w : World) (base e size g : Nat) (hg : g = w.heap.size) (hb : base ≤ g) : (w.alloc (.cells #[] e)).ownsRow base e size (.slice (some ⟨g, 0, none⟩) 0 0) 0 [] := by subst hg; exact World.ownsRow_made w #[] 0 hb (by simp [maxLen]) (by simp)

theorem InstD.cmd_wt (x : InstD) : (x.cmd.c).wt ≤ (x.c).wt := by
  have e0 : (x.cmd.c).wt = (x.cmd.set.length + (x.cmd.name.length + (x.cmd.tag.length + (x.cmd.chunks.length + (cat strC x.cmd.chunks).wt + 0)))) := rfl
  have e1 : (x.c).wt = (x.cmd.set.length + (x.cmd.name.length + (x.cmd.tag.length + (x.cmd.chunks.length + (cat strC x.cmd.chunks).wt + (x.deps.length + (cat IdD.c x.deps).wt + 0))))) := rfl
  omega
theorem cmd_cells {B : Nat → Prop} {w w' : World} {x : InstD} {cs : List Value} {p : Addr} (h : Rep B w' x.c cs) (hc : ∀ f v, cs[f]? = some v → w.cell? (p.add f) = some v) :
    ∃ csx, csx.length = 8 ∧ Rep B w' x.cmd.c csx ∧ ∀ f v, csx[f]? = some v → w.cell? ((⟨p.block, p.off + 5, none⟩ : Addr).add f) = some v := by
  obtain ⟨A0, k0, A1, k1, rfl, s0, _⟩ := InstD.open h
  refine ⟨[.int .i64 x.cmd.kind, .int .i64 x.cmd.client, .int .i64 x.cmd.no, .string (bs x.cmd.set), .string (bs x.cmd.name), .string (bs x.cmd.tag), .int .i64 x.cmd.n, .slice A0 x.cmd.chunks.length k0], rfl, CmdD.shut s0, fun f v hv => ?_⟩
  have hlt := (List.getElem?_eq_some_iff.1 hv).1
  have h1 := hc (5 + f) v (by
    have : f = 0 ∨ f = 1 ∨ f = 2 ∨ f = 3 ∨ f = 4 ∨ f = 5 ∨ f = 6 ∨ f = 7 := by simp at hlt; omega
    rcases this with rfl | rfl | rfl | rfl | rfl | rfl | rfl | rfl <;> exact hv)
  rw [← add_of_add] at h1
  exact h1


set_option maxRecDepth 100000 in
set_option maxHeartbeats 4000000 in
theorem l8Attrs_any (xs : List InstD) (x : IdD) (c : CmdD) (A : Option Addr) (n k : Nat) (cs csc : List Value) (w : World) (hn : n = xs.length) (hwt : n + (cat InstD.c xs).wt ≤ 1048576) (hwc : c.c.wt ≤ 1048576) (hok : instsOkB xs = true) (h : Rep anyB w (.sl 38 16 n (cat InstD.c xs) .nil) [.slice A n k]) (h' : Rep anyB w x.c cs) (hc' : Rep anyB w c.c csc) :
    Calls Tryz.prog 27 #[.slice A n k, .agg cs.toArray, .agg csc.toArray] w fun e w' => ∃ A' c', e = .returned (.tuple #[.int .i64 (seqL x c xs + 1), .slice A' (depsL x c xs).length c']) ∧ w'.ownsRow w.heap.size 26 2 (.slice A' (depsL x c xs).length c') (depsL x c xs).length (idCells (depsL x c xs)) ∧ Below w.heap.size w w' := by
  have hCL : csc.length = 8 := hc'.length.trans (CmdD.width c)
  obtain rfl := IdD.open h'
  have HSEQ := Lib.hid (seqL_range hok x c)
  have HSX := Lib.hid (insts_seq hok)
  have HN := Lib.hid hn; clear hn
  have HR := Lib.hid h; clear h
  have HRC := Lib.hid hc'; clear hc'
  have HKP := Lib.hid (fun (j : Nat) (hj : j < xs.length) (hk : keepB x c xs[j] = true) => And.intro (depsL_yes hj hk) (seqL_yes hj hk))
  have HKN := Lib.hid (fun (j : Nat) (hj : j < xs.length) (hk : keepB x c xs[j] = false) => And.intro (depsL_no hj hk) (seqL_no hj hk))
  have HD0 := Lib.hid (depsL_len x c)
  have HFD := Lib.hid (show depsL x c (xs.take n) = depsL x c xs ∧ seqL x c (xs.take n) = seqL x c xs by rw [HN.out, List.take_length]; exact ⟨rfl, rfl⟩)
  have HS0 := Lib.hid (show seqL x c (xs.take 0) = 0 ∧ depsL x c (xs.take 0) = [] from ⟨rfl, rfl⟩)
  obtain ⟨D, hD⟩ : ∃ D : Nat → List IdD, D = fun j => depsL x c (xs.take j) := ⟨_, rfl⟩
  obtain ⟨S, hS⟩ : ∃ S : Nat → Int, S = fun j => seqL x c (xs.take j) := ⟨_, rfl⟩
  have HD := Lib.hid hD; clear hD
  have HS := Lib.hid hS; clear hS
  have hnb : n ≤ 1048576 := by omega
  have HWT := Lib.hid hwt; clear hwt
  have HWC := Lib.hid hwc; clear hwc h' hok
  obtain ⟨xr, xs'⟩ := x
  have SB := Lib.hid (show Blk ((w.alloc (.cells #[.int .i64 xr, .int .i64 xs'] 26)).alloc (.cells csc.toArray 29)) w.heap.size 26 [.int .i64 xr, .int .i64 xs'].toArray from (blk_new w _ _).alloc _)
  go_enter Tryz.func27, Tryz.ntmps27
  go_wp2_with fail
  go_loopw [8, 9, 10] (fun sv v i wr => ∃ j : Nat, j ≤ n ∧ i = .int .i64 (j : Int) ∧ sv = .int .i64 (S j + 1) ∧ wr.ownsRow (w.heap.size + 1 + 1) 26 2 v (D j).length (idCells (D j)) ∧ Blk wr w.heap.size 26 [.int .i64 xr, .int .i64 xs'].toArray ∧ Blk wr (w.heap.size + 1) 29 csc.toArray ∧ Below w.heap.size w wr) (fun _ _ i _ => n - (intOf i).toNat)
  case atStart =>
    have h1 : S 0 = 0 := by rw [HS.out]; exact HS0.out.1
    have h2 : D 0 = [] := by rw [HD.out]; exact HS0.out.2
    refine ⟨0, Nat.zero_le _, rfl, by rw [h1]; rfl, ?_, (SB.out.alloc _), ((blk_newAt' _ _ _ _ _ (by simp) rfl).alloc _), (by repeat' (first | with_reducible exact Below.refl _ _ | with_reducible exact BW.out | with_reducible refine Below.setCell ?_ ?_ _ | with_reducible refine Below.alloc ?_ ?_ _ | with_reducible refine Below.drew ?_ | (simp; done) | (simp; omega) | omega))⟩
    rw [h2]
    exact own_nilAt _ _ _ _ _ (by simp) (Nat.le_refl _)
  case round =>
    obtain ⟨j, hj, rfl, rfl, hown, hsb, hcb, hbel⟩ := hrel
    clear SB
    have HO := Lib.hid hown; clear hown
    have hsz := hbel.size
    by_cases hlt : j < n
    · have hjx : j < xs.length := by have := HN.out; omega
      obtain ⟨ad, ci, rfl, _, _, hrc, hl, hc⟩ := (HR.out.below hbel).elem InstD.width j hjx HN.out
      have hadw : ad.block < w.heap.size := by
        obtain ⟨ad', _, he, _, hlt', _⟩ := HR.out.elem InstD.width j hjx HN.out
        injection he with he
        rw [he]; exact hlt'
      have hcid := id_cells hrc hc
      obtain ⟨cmx, hcl, hcr, hcc⟩ := cmd_cells hrc hc
      obtain ⟨A1, k1, A2, k2, rfl, _⟩ := InstD.open hrc
      have h4 : wr.cell? ⟨(ad.add (j * 16)).block, (ad.add (j * 16)).off + 4, none⟩ = some (.int .i64 xs[j].status) := hc 4 _ rfl
      have h13 : wr.cell? ⟨(ad.add (j * 16)).block, (ad.add (j * 16)).off + 13, none⟩ = some (.int .i64 xs[j].seq) := hc 13 _ rfl
      have hkp := HKP.out j hjx
      have hkn := HKN.out j hjx
      have hq1 := HSX.out j hjx
      have hdl : (D j).length ≤ j := by rw [HD.out]; exact Nat.le_trans (HD0.out _) (by simp; omega)
      have hsr : 0 ≤ S j ∧ S j ≤ 60 := by rw [HS.out]; exact HSEQ.out j (by omega)
      have e1 : depsL ⟨xr, xs'⟩ c (xs.take j) = D j ∧ depsL ⟨xr, xs'⟩ c (xs.take (j + 1)) = D (j + 1) := by rw [HD.out]; exact ⟨rfl, rfl⟩
      have e2 : seqL ⟨xr, xs'⟩ c (xs.take j) = S j ∧ seqL ⟨xr, xs'⟩ c (xs.take (j + 1)) = S (j + 1) := by rw [HS.out]; exact ⟨rfl, rfl⟩
      rw [e1.1, e1.2, e2.1, e2.2] at hkp hkn
      have hwx : (xs[j].cmd.c).wt ≤ 1048576 := by
        have h1 := cat_wt_le (f := InstD.c) (List.getElem_mem hjx)
        have h2 := HWT.out
        have h3 := InstD.cmd_wt xs[j]
        omega
      clear hc hrc hl e1 e2
      generalize xs[j] = y at *
      obtain ⟨⟨yr, ys⟩, ybal, yvb, yst, ycmd, yseq, ydeps, ysame⟩ := y
      simp only at hcid hcr h4 h13 hkp hkn hq1 hwx
      have HKPj := Lib.hid hkp; clear hkp
      have HKNj := Lib.hid hkn; clear hkn
      have HCI := Lib.hid hcid; clear hcid
      have HCC := Lib.hid hcc; clear hcc
      have HCR := Lib.hid hcr; clear hcr
      generalize hDj : D j = Dj at HO HKPj HKNj hdl
      generalize hSj : S j = Sj at HKPj HKNj hsr ⊢

      by_cases e1 : yr = xr ∧ ys = xs'
      · obtain ⟨rfl, rfl⟩ := e1
        go_wp2
        refine wp_region_g 25 (.one 0 (.one 1 (.one 2 (.one 3 (.one 4 (.one 5 (.act 6 (.one 7 (.one 8 (.one 9 (.one 10 (.one 11 (.one 12 (.one 13 (.one 14 (.one 15 (.one 16 (.one 17 (.one 18 (.one 19 (.one 20 (.one 21 (.one 22 (.one 23 (.one 24 .leaf))))))))))))))))))))))))) (by kernel_rfl) (by kernel_rfl) ?_
        iterate 4 (refine wpG_quiet rfl (by kernel_rfl) rfl ?_; go_wp2; refine ⟨rfl, ?_⟩)
        refine wpG_quiet rfl (by kernel_rfl) rfl ?_; go_wp2_with (first | (refine wpList_load_row _ (ad.add (j * 16)) rfl [.int .i64 _, .int .i64 _] agg_Id rfl HCI.out ?_) | fail); refine ⟨rfl, ?_⟩
        refine wpG_quiet rfl (by kernel_rfl) rfl ?_; go_wp2_with (first | (refine wpList_load_row _ ⟨w.heap.size, 0, none⟩ rfl [.int .i64 _, .int .i64 _] agg_Id rfl (blk_cells hsb) ?_) | fail); refine ⟨rfl, ?_⟩
        refine wpG_act rfl ?_; go_wp2
        refine ⟨Ext.refl _, ?_⟩
        iterate 1 (refine wpG_quiet rfl (by kernel_rfl) rfl ?_; go_wp2; refine ⟨rfl, ?_⟩)
        iterate 6 (refine wpG_skip rfl rfl (by kernel_rfl) ?_; simp only [List.setIfInBounds_toArray, List.set_cons_succ, List.set_cons_zero])
        iterate 2 (refine wpG_quiet rfl (by kernel_rfl) rfl ?_; go_wp2; refine ⟨rfl, ?_⟩)
        iterate 8 (refine wpG_skip rfl rfl (by kernel_rfl) ?_; simp only [List.setIfInBounds_toArray, List.set_cons_succ, List.set_cons_zero])
        iterate 1 (refine wpG_quiet rfl (by kernel_rfl) rfl ?_; go_wp2; refine ⟨rfl, ?_⟩)
        refine wpG_nil ?_; try simp only [List.drop_succ_cons, List.drop_zero]
        have hk := HKNj.out (by simp [keepB])
        have hkS := Lib.hid hk; clear hk
        go_wp2
        exact ⟨⟨j + 1, by omega, by go_num, by rw [hkS.out.2], by rw [hkS.out.1]; exact HO.out.drew, hsb.drew, hcb.drew, hbel.drew⟩, by simp only [intOf]; omega⟩
      have hne : ¬ (IdD.mk yr ys = IdD.mk xr xs') := fun h => e1 ⟨by injection h, by injection h⟩
      have hd : yr ≠ xr ∨ (yr = xr ∧ ys ≠ xs') := by by_cases h : yr = xr; exact .inr ⟨h, fun h2 => e1 ⟨h, h2⟩⟩; exact .inl h
      clear e1
      by_cases e3 : yst = 0
      · have e3b : (yst == 0) = true := by simpa using e3
        go_wp2
        refine wp_region_g 25 (.one 0 (.one 1 (.one 2 (.one 3 (.one 4 (.one 5 (.act 6 (.one 7 (.one 8 (.one 9 (.one 10 (.one 11 (.one 12 (.one 13 (.one 14 (.one 15 (.one 16 (.one 17 (.one 18 (.one 19 (.one 20 (.one 21 (.one 22 (.one 23 (.one 24 .leaf))))))))))))))))))))))))) (by kernel_rfl) (by kernel_rfl) ?_
        iterate 4 (refine wpG_quiet rfl (by kernel_rfl) rfl ?_; go_wp2; refine ⟨rfl, ?_⟩)
        refine wpG_quiet rfl (by kernel_rfl) rfl ?_; go_wp2_with (first | (refine wpList_load_row _ (ad.add (j * 16)) rfl [.int .i64 _, .int .i64 _] agg_Id rfl HCI.out ?_) | fail); refine ⟨rfl, ?_⟩
        refine wpG_quiet rfl (by kernel_rfl) rfl ?_; go_wp2_with (first | (refine wpList_load_row _ ⟨w.heap.size, 0, none⟩ rfl [.int .i64 _, .int .i64 _] agg_Id rfl (blk_cells hsb) ?_) | fail); refine ⟨rfl, ?_⟩
        refine wpG_act rfl ?_; go_wp2
        all_goals
          refine ⟨Ext.refl _, ?_⟩
          iterate 1 (refine wpG_quiet rfl (by kernel_rfl) rfl ?_; go_wp2; refine ⟨rfl, ?_⟩)
          iterate 6 (refine wpG_quiet rfl (by kernel_rfl) rfl ?_; go_wp2; refine ⟨rfl, ?_⟩)
          iterate 2 (refine wpG_quiet rfl (by kernel_rfl) rfl ?_; go_wp2; refine ⟨rfl, ?_⟩)
          iterate 8 (refine wpG_skip rfl rfl (by kernel_rfl) ?_; simp only [List.setIfInBounds_toArray, List.set_cons_succ, List.set_cons_zero])
          iterate 1 (refine wpG_quiet rfl (by kernel_rfl) rfl ?_; go_wp2; refine ⟨rfl, ?_⟩)
          refine wpG_nil ?_; try simp only [List.drop_succ_cons, List.drop_zero]
          have hk := HKNj.out (by simp [keepB, e3])
          have hkS := Lib.hid hk; clear hk
          go_wp2
          exact ⟨⟨j + 1, by omega, by go_num, by rw [hkS.out.2], by rw [hkS.out.1]; exact HO.out.drew, hsb.drew, hcb.drew, hbel.drew⟩, by simp only [intOf]; omega⟩
      · have e3b : (yst == 0) = false := by simpa using e3
        cases hcl2 : clashB c ycmd
        · skip
          go_wp2
          refine wp_region_g 25 (.one 0 (.one 1 (.one 2 (.one 3 (.one 4 (.one 5 (.act 6 (.one 7 (.one 8 (.one 9 (.one 10 (.one 11 (.one 12 (.one 13 (.one 14 (.one 15 (.one 16 (.one 17 (.one 18 (.one 19 (.one 20 (.one 21 (.one 22 (.one 23 (.one 24 .leaf))))))))))))))))))))))))) (by kernel_rfl) (by kernel_rfl) ?_
          iterate 4 (refine wpG_quiet rfl (by kernel_rfl) rfl ?_; go_wp2; refine ⟨rfl, ?_⟩)
          refine wpG_quiet rfl (by kernel_rfl) rfl ?_; go_wp2_with (first | (refine wpList_load_row _ (ad.add (j * 16)) rfl [.int .i64 _, .int .i64 _] agg_Id rfl HCI.out ?_) | fail); refine ⟨rfl, ?_⟩
          refine wpG_quiet rfl (by kernel_rfl) rfl ?_; go_wp2_with (first | (refine wpList_load_row _ ⟨w.heap.size, 0, none⟩ rfl [.int .i64 _, .int .i64 _] agg_Id rfl (blk_cells hsb) ?_) | fail); refine ⟨rfl, ?_⟩
          refine wpG_act rfl ?_; go_wp2
          all_goals
            refine ⟨Ext.refl _, ?_⟩
            iterate 1 (refine wpG_quiet rfl (by kernel_rfl) rfl ?_; go_wp2; refine ⟨rfl, ?_⟩)
            iterate 6 (refine wpG_quiet rfl (by kernel_rfl) rfl ?_; go_wp2; refine ⟨rfl, ?_⟩)
            iterate 2 (refine wpG_quiet rfl (by kernel_rfl) rfl ?_; go_wp2; refine ⟨rfl, ?_⟩)
            refine wpG_quiet rfl (by kernel_rfl) rfl ?_; go_wp2_with (first | (refine wpList_load_row_g _ (by first | rfl | kernel_rfl) ⟨w.heap.size + 1, 0, none⟩ rfl csc agg_Cmd hCL (blk_cells hcb) ?_) | fail); refine ⟨rfl, ?_⟩
            iterate 4 (refine wpG_quiet rfl (by kernel_rfl) rfl ?_; go_wp2; refine ⟨rfl, ?_⟩)
            refine wpG_quiet rfl (by kernel_rfl) rfl ?_; go_wp2_with (first | (refine wpList_load_row_g _ (by first | rfl | kernel_rfl) ⟨(ad.add (j * 16)).block, (ad.add (j * 16)).off + 5, none⟩ rfl cmx agg_Cmd hcl HCC.out ?_) | fail); refine ⟨rfl, ?_⟩
            refine wpG_actor rfl (by kernel_rfl) ?_; go_wp2_with fail
            refine (sClash_any c ycmd csc cmx _ HWC.out hwx ((HRC.out.below hbel).drew) HCR.out.drew).mono ?_; rintro e v1 ⟨rfl, hb1⟩
            rw [hcl2]
            have HB1 := Lib.hid hb1; clear hb1
            go_wp2; refine ⟨Ext.of_below HB1.out, ?_⟩
            iterate 1 (refine wpG_quiet rfl (by kernel_rfl) rfl ?_; go_wp2; refine ⟨rfl, ?_⟩)
            iterate 1 (refine wpG_quiet rfl (by kernel_rfl) rfl ?_; go_wp2; refine ⟨rfl, ?_⟩)
            refine wpG_nil ?_; try simp only [List.drop_succ_cons, List.drop_zero]
            have hk := HKNj.out (by simp [keepB, hcl2])
            have hkS := Lib.hid hk; clear hk
            have hO1 := ownsRow_keep (base' := w.heap.size + 1 + 1) HO.out (w' := v1) (fun b hb => ⟨(HO.out.lt b hb).1, HB1.out.block b (HO.out.lt b hb).2⟩)
            have hsb1 := hsb.drew.below HB1.out; have hcb1 := hcb.drew.below HB1.out; have hbel1 := hbel.drew.trans (HB1.out.mono hbel.drew.size)
            go_wp2
            exact ⟨⟨j + 1, by omega, by go_num, by rw [hkS.out.2], by rw [hkS.out.1]; exact hO1, hsb1, hcb1, hbel1⟩, by simp only [intOf]; omega⟩
        · skip
          go_wp2
          refine wp_region_g 25 (.one 0 (.one 1 (.one 2 (.one 3 (.one 4 (.one 5 (.act 6 (.one 7 (.one 8 (.one 9 (.one 10 (.one 11 (.one 12 (.one 13 (.one 14 (.one 15 (.one 16 (.one 17 (.one 18 (.one 19 (.one 20 (.one 21 (.one 22 (.one 23 (.one 24 .leaf))))))))))))))))))))))))) (by kernel_rfl) (by kernel_rfl) ?_
          iterate 4 (refine wpG_quiet rfl (by kernel_rfl) rfl ?_; go_wp2; refine ⟨rfl, ?_⟩)
          refine wpG_quiet rfl (by kernel_rfl) rfl ?_; go_wp2_with (first | (refine wpList_load_row _ (ad.add (j * 16)) rfl [.int .i64 _, .int .i64 _] agg_Id rfl HCI.out ?_) | fail); refine ⟨rfl, ?_⟩
          refine wpG_quiet rfl (by kernel_rfl) rfl ?_; go_wp2_with (first | (refine wpList_load_row _ ⟨w.heap.size, 0, none⟩ rfl [.int .i64 _, .int .i64 _] agg_Id rfl (blk_cells hsb) ?_) | fail); refine ⟨rfl, ?_⟩
          refine wpG_act rfl ?_; go_wp2
          all_goals
            refine ⟨Ext.refl _, ?_⟩
            iterate 1 (refine wpG_quiet rfl (by kernel_rfl) rfl ?_; go_wp2; refine ⟨rfl, ?_⟩)
            iterate 6 (refine wpG_quiet rfl (by kernel_rfl) rfl ?_; go_wp2; refine ⟨rfl, ?_⟩)
            iterate 2 (refine wpG_quiet rfl (by kernel_rfl) rfl ?_; go_wp2; refine ⟨rfl, ?_⟩)
            refine wpG_quiet rfl (by kernel_rfl) rfl ?_; go_wp2_with (first | (refine wpList_load_row_g _ (by first | rfl | kernel_rfl) ⟨w.heap.size + 1, 0, none⟩ rfl csc agg_Cmd hCL (blk_cells hcb) ?_) | fail); refine ⟨rfl, ?_⟩
            iterate 4 (refine wpG_quiet rfl (by kernel_rfl) rfl ?_; go_wp2; refine ⟨rfl, ?_⟩)
            refine wpG_quiet rfl (by kernel_rfl) rfl ?_; go_wp2_with (first | (refine wpList_load_row_g _ (by first | rfl | kernel_rfl) ⟨(ad.add (j * 16)).block, (ad.add (j * 16)).off + 5, none⟩ rfl cmx agg_Cmd hcl HCC.out ?_) | fail); refine ⟨rfl, ?_⟩
            refine wpG_actor rfl (by kernel_rfl) ?_; go_wp2_with fail
            refine (sClash_any c ycmd csc cmx _ HWC.out hwx ((HRC.out.below hbel).drew) HCR.out.drew).mono ?_; rintro e v1 ⟨rfl, hb1⟩
            rw [hcl2]
            have HB1 := Lib.hid hb1; clear hb1
            go_wp2; refine ⟨Ext.of_below HB1.out, ?_⟩
            iterate 1 (refine wpG_quiet rfl (by kernel_rfl) rfl ?_; go_wp2; refine ⟨rfl, ?_⟩)
            iterate 1 (refine wpG_quiet rfl (by kernel_rfl) rfl ?_; go_wp2; refine ⟨rfl, ?_⟩)
            refine wpG_nil ?_; try simp only [List.drop_succ_cons, List.drop_zero]
            have hk := HKPj.out (by simp [keepB, hcl2, e3, hne])
            have hkS := Lib.hid hk; clear hk
            have hO1 := ownsRow_keep (base' := w.heap.size + 1 + 1) HO.out (w' := v1) (fun b hb => ⟨(HO.out.lt b hb).1, HB1.out.block b (HO.out.lt b hb).2⟩)
            have hsb1 := hsb.drew.below HB1.out; have hcb1 := hcb.drew.below HB1.out; have hbel1 := hbel.drew.trans (HB1.out.mono hbel.drew.size)
            have HO1 := Lib.hid hO1; clear hO1
            have hsz1 := hbel1.size; have hlt1 := hcb1.lt
            have hci1 : ∀ f v, [Value.int .i64 yr, Value.int .i64 ys][f]? = some v → v1.cell? ((ad.add (j * 16)).add f) = some v := fun f v hv => by have h0 := HCI.out f v hv; exact (HB1.out.cell (World.block_lt_of_cell? wr.drew _ h0)).trans h0
            have h13' : v1.cell? ⟨(ad.add (j * 16)).block, (ad.add (j * 16)).off + 13, none⟩ = some (.int .i64 yseq) := (HB1.out.cell (World.block_lt_of_cell? wr.drew _ h13)).trans h13
            go_wp2_with (first | ((with_reducible show wpList _ _ _ ({ dst := _, op := Op.load 26 _, type := _, pos := _, after := _, guard := _ } :: _) _ _); refine wpList_load_row _ (ad.add (j * 16)) rfl [.int .i64 yr, .int .i64 ys] agg_Id rfl hci1 ?_) | (at_builtin; refine wpList_app E_Id _ rfl (.tmp 43) (.tmp 49) rfl (w.heap.size + 1 + 1) _ Dj.length _ rfl (HO1.out.alloc _) _ _ _ _ rfl (Reads.new (e := 26) rfl) (by intro u hu; simp at hu; rcases hu with rfl | rfl <;> rfl) (by omega) (by simp; omega) ?_; intro v' v2 hown2 hgr2 hat2; have h13b : v2.cell? ⟨(ad.add (j * 16)).block, (ad.add (j * 16)).off + 13, none⟩ = some (.int .i64 yseq) := kept13 h13' hgr2 (fun e => by have h9 := (HO1.out.lt _ e).1; rw [block_of_add] at h9; omega); have HOWN2 := Lib.hid hown2; clear hown2; have HGR2 := Lib.hid hgr2; clear hgr2 hat2) | fail)
            all_goals
              refine ⟨⟨j + 1, by omega, by go_num, by rw [hkS.out.2]; first | rfl | (congr 1; omega), ?_, keptB hsb1 HGR2.out (fun e => by have h9 := (HO1.out.lt _ e).1; omega), keptB hcb1 HGR2.out (fun e => by have h9 := (HO1.out.lt _ e).1; omega), Below.grown (hbel1.alloc hsz1 _) HGR2.out (Nat.le_trans hsz1 (by simp)) (fun k hk => by have h9 := (HO1.out.lt k hk).1; omega)⟩, by simp only [intOf]; omega⟩
              rw [hkS.out.1, List.length_append, idCells_app]
              first | exact HOWN2.out | (have e : yr = xr := by assumption); rw [e]; exact HOWN2.out
    · have hjn : j = n := by omega
      subst hjn
      have h1 : S j = seqL ⟨xr, xs'⟩ c xs := by rw [HS.out]; exact HFD.out.2
      have h2 : D j = depsL ⟨xr, xs'⟩ c xs := by rw [HD.out]; exact HFD.out.1
      rw [h1]
      have hO := HO.out
      rw [h2] at hO
      clear h1 h2
      obtain ⟨Av, cv, rfl, _⟩ := SlR.of_own hO
      have HO2 := Lib.hid hO; clear hO HO
      go_wp2
      go_ret2
      exact ⟨Av, cv, ret_eq (by first | rfl | simp), ownsRow_keep (base' := w.heap.size) HO2.out (fun b hb => ⟨by have := (HO2.out.lt b hb).1; omega, rfl⟩), hbel⟩

theorem mine_ids {w : World} {base n : Nat} {A : Option Addr} {c : Nat} {l : List IdD} (h : w.ownsRow base 26 2 (.slice A n c) n (idCells l)) (hn : n = l.length) : Mine w base (.sl 26 2 n (cat IdD.c l) .nil) [.slice A n c] := by
  have hw : (cat IdD.c l).width = n * 2 := by rw [hn, ← idCells_length, (own_ids w base l).length]
  exact ⟨_, nodup_own _, Own.sl1.2 ⟨idCells l, [], (List.append_nil _).symm, hw, h, own_ids w base l⟩⟩

theorem fAttrs_yes {xs : List InstD} {x : IdD} {c : CmdD} (h : instsOkB xs = true) : fAttrsOf xs x c = (seqL x c xs + 1, depsL x c xs) := if_pos h
theorem fAttrs_no {xs : List InstD} {x : IdD} {c : CmdD} (h : instsOkB xs = false) : fAttrsOf xs x c = (0, []) := if_neg (by simp [h])
set_option maxRecDepth 100000 in
set_option maxHeartbeats 1000000 in
theorem sAttrsOf_any (xs : List InstD) (x : IdD) (c : CmdD) (A : Option Addr) (n k : Nat) (cs csc : List Value) (w : World) (hn : n = xs.length) (hwt : n + (cat InstD.c xs).wt ≤ 1048576) (_ : x.c.wt ≤ 1048576) (hwc : c.c.wt ≤ 1048576) (h : Rep anyB w (.sl 38 16 n (cat InstD.c xs) .nil) [.slice A n k]) (h' : Rep anyB w x.c cs) (hc' : Rep anyB w c.c csc) :
    Calls Tryz.prog 7 #[.slice A n k, .agg cs.toArray, .agg csc.toArray] w fun e w' => ∃ A' m c', e = .returned (.tuple #[.int .i64 (fAttrsOf xs x c).1, .slice A' m c']) ∧ m = (fAttrsOf xs x c).2.length ∧ Mine w' w.heap.size (.sl 26 2 m (cat IdD.c (fAttrsOf xs x c).2) .nil) [.slice A' m c'] ∧ Below w.heap.size w w' := by
  have hCL : csc.length = 8 := hc'.length.trans (CmdD.width c)
  have hIL : cs.length = 2 := h'.length.trans (IdD.width x)
  have SB := Lib.hid (show Blk ((w.alloc (.cells cs.toArray 26)).alloc (.cells csc.toArray 29)) w.heap.size 26 cs.toArray from (blk_new w _ _).alloc _)
  have CB := Lib.hid (show Blk ((w.alloc (.cells cs.toArray 26)).alloc (.cells csc.toArray 29)) (w.heap.size + 1) 29 csc.toArray from blk_newAt' _ _ _ _ _ (by simp) rfl)
  have BL := Lib.hid (show Below w.heap.size w ((w.alloc (.cells cs.toArray 26)).alloc (.cells csc.toArray 29)) from (by repeat' (first | with_reducible exact Below.refl _ _ | with_reducible exact BW.out | with_reducible refine Below.setCell ?_ ?_ _ | with_reducible refine Below.alloc ?_ ?_ _ | with_reducible refine Below.drew ?_ | (simp; done) | (simp; omega) | omega)))
  obtain ⟨U, hU⟩ : ∃ U, U = fAttrsOf xs x c := ⟨_, rfl⟩
  rw [← hU]
  have HY := Lib.hid (fun hok => hU.trans (@fAttrs_yes xs x c hok))
  have HNO := Lib.hid (fun hok => hU.trans (@fAttrs_no xs x c hok))
  clear hU
  have HR := Lib.hid h
  have HI := Lib.hid h'
  have HC := Lib.hid hc'
  have HN := Lib.hid hn
  clear h h' hc' hn
  go_enter Tryz.func7, Tryz.ntmps7
  go_wp2_with fail
  refine (sInstsOk_any xs A n k _ HN.out hwt (HR.out.below BL.out)).mono ?_
  rintro e v1 ⟨rfl, hb1⟩
  have SB1 := Lib.hid (SB.out.below hb1)
  have CB1 := Lib.hid (CB.out.below hb1)
  have BL1 := Lib.hid (BL.out.trans (hb1.mono BL.out.size))
  clear hb1 SB CB BL
  cases hok : instsOkB xs
  · have HF := Lib.hid (HNO.out hok)
    have hsz := BL1.out.size
    go_wp2
    go_ret2
    rw [HF.out]
    exact ⟨_, 0, _, ret_eq (by first | rfl | simp), rfl, mine_ids (l := []) (own_nilAt v1 _ _ _ _ rfl hsz) rfl, BL1.out.alloc hsz _⟩
  · have HF := Lib.hid (HY.out hok)
    have HOK := Lib.hid hok; clear hok
    go_wp2_with (first
      | ((with_reducible show wpList _ _ _ ({ dst := _, op := Op.load 26 _, type := _, pos := _, after := _, guard := _ } :: _) _ _); refine wpList_load_row _ ⟨w.heap.size, 0, none⟩ rfl cs agg_Id hIL (blk_cells SB1.out) ?_)
      | ((with_reducible show wpList _ _ _ ({ dst := _, op := Op.load 29 _, type := _, pos := _, after := _, guard := _ } :: _) _ _); refine wpList_load_row _ ⟨w.heap.size + 1, 0, none⟩ rfl csc agg_Cmd hCL (blk_cells CB1.out) ?_)
      | fail)
    refine (l8Attrs_any xs x c A n k cs csc _ HN.out hwt hwc HOK.out (HR.out.below BL1.out) (HI.out.below BL1.out) (HC.out.below BL1.out)).mono ?_
    rintro e v2 ⟨A', c', rfl, hO, hb2⟩
    have HO := Lib.hid (mine_ids (ownsRow_keep (base' := w.heap.size) hO (fun b hb => ⟨Nat.le_trans BL1.out.size (hO.lt b hb).1, rfl⟩)) rfl); clear hO
    have BL2 := Lib.hid (BL1.out.trans (hb2.mono BL1.out.size)); clear hb2
    go_wp2
    go_ret2
    rw [HF.out]
    exact ⟨A', _, c', ret_eq (by first | rfl | simp), rfl, HO.out, BL2.out⟩

end Go.Proofs.YtonaacdefidomaaGreat
namespace Go.Proofs.YtonaacdefidomaaGreat
open Go.RowKit

theorem rep_ids {B : Nat → Prop} {w : World} : ∀ {xs : List IdD} {cells : List Value}, Rep B w (cat IdD.c xs) cells → cells = idCells xs
  | [], _, h => by simp only [cat, Rep] at h; rw [h]; rfl
  | s :: r, _, h => by
    rw [cat_cons] at h
    obtain ⟨c1, c2, rfl, h1, h2⟩ := Rep.app.1 h
    rw [IdD.open h1, rep_ids h2]
    rfl
theorem idCells_drop : ∀ (xs : List IdD) (i : Nat), (idCells xs).drop (i * 2) = idCells (xs.drop i)
  | xs, 0 => by simp
  | [], i + 1 => by simp [idCells]
  | x :: xs, i + 1 => by
    rw [List.drop_succ_cons, ← idCells_drop xs i, show (i + 1) * 2 = i * 2 + 2 by omega, idCells]
    rfl
theorem reads_drop {w : World} {ad : Addr} {n i : Nat} {cells : List Value} (h : Reads w 2 (some ad) n cells) (hi : i ≤ n) : Reads w 2 (some (ad.add (i * 2))) (n - i) (cells.drop (i * 2)) := by
  refine ⟨by rw [List.length_drop, h.1]; omega, fun h0 => ⟨_, rfl, fun j u hu => ?_⟩⟩
  obtain ⟨ad', e, hc⟩ := h.2 (by omega)
  injection e with e
  subst e
  rw [List.getElem?_drop] at hu
  rw [add_of_add]
  exact hc _ _ hu
theorem _root_.Go.World.ownsRow.keptBelowJ {w w' : World} {base e sz n : Nat} {v : Value} {xs : List Value} (h : w.ownsRow base e sz v n xs) (hb : Below w.heap.size w w') : w'.ownsRow base e sz v n xs :=
  ownsRow_keep h (fun b hk => ⟨(h.lt b hk).1, hb.block b (h.lt b hk).2⟩)

set_option maxRecDepth 100000 in
set_option maxHeartbeats 8000000 in
theorem l8Join_any (xs ys : List IdD) (A A' : Option Addr) (n n' c c' : Nat) (w : World) (hn : n = xs.length) (hn' : n' = ys.length) (hwt : n ≤ 1048576) (hwt' : n' ≤ 1048576) (hcap : n ≤ c) (h : Rep anyB w (.sl 26 2 n (cat IdD.c xs) .nil) [.slice A n c]) (h' : Rep anyB w (.sl 26 2 n' (cat IdD.c ys) .nil) [.slice A' n' c']) :
    Calls Tryz.prog 43 #[.slice A n c, .slice A' n' c'] w fun e w' => ∃ A2 c2, e = .returned (.slice A2 (joinF xs ys).length c2) ∧ w'.ownsRow w.heap.size 26 2 (.slice A2 (joinF xs ys).length c2) (joinF xs ys).length (idCells (joinF xs ys)) ∧ Below w.heap.size w w' := by
  have HN := Lib.hid hn; clear hn
  have HN' := Lib.hid hn'; clear hn'
  have HR := Lib.hid h; clear h
  have HR' := Lib.hid h'; clear h'
  have htl := joinF_len xs ys
  obtain ⟨T, hT⟩ : ∃ T, T = joinF xs ys := ⟨_, rfl⟩
  rw [← hT] at htl ⊢
  have htl2 : T.length ≤ 2097152 := by have := HN.out; have := HN'.out; omega
  have HT := Lib.hid hT; clear hT htl
  go_enter Tryz.func43, Tryz.ntmps43
  go_wp2
  go_loopw [5, 6, 7] (fun oo ii kk wr => ∃ (acc : List IdD) (q i k : Nat) (Av : Option Addr) (kv : Nat), i ≤ n ∧ k ≤ n' ∧ q = acc.length ∧ q ≤ 2097152 ∧ oo = .slice Av q kv ∧ ii = .int .i64 (i : Int) ∧ kk = .int .i64 (k : Int) ∧ acc ++ joinF (xs.drop i) (ys.drop k) = T ∧ wr.ownsRow w.heap.size 26 2 (.slice Av q kv) q (idCells acc) ∧ Below w.heap.size w wr) (fun _ _ kk _ => n' - (intOf kk).toNat)
  case atStart => exact ⟨[], 0, 0, 0, some ⟨w.heap.size, 0, none⟩, 0, Nat.zero_le _, Nat.zero_le _, rfl, by omega, rfl, rfl, rfl, by rw [HT.out]; rfl, World.ownsRow_made w #[] 0 (Nat.le_refl _) (by simp [maxLen]) rfl, (by repeat' (first | with_reducible exact Below.refl _ _ | with_reducible exact BW.out | with_reducible refine Below.setCell ?_ ?_ _ | with_reducible refine Below.alloc ?_ ?_ _ | with_reducible refine Below.drew ?_ | (simp; done) | (simp; omega) | omega))⟩
  case round =>
    obtain ⟨acc, q, i, k, Av, kv, hi, hk, hq, hqb, rfl, rfl, rfl, hT, hown, hbw⟩ := hrel
    by_cases hlt : k < n'
    · have hky : k < ys.length := by have := HN'.out; omega
      have hdy : ys.drop k = ys[k] :: ys.drop (k + 1) := List.drop_eq_getElem_cons hky
      rw [hdy] at hT
      obtain ⟨y, hy⟩ : ∃ y, y = ys[k] := ⟨_, rfl⟩
      rw [← hy] at hT
      have HY := Lib.hid hy; clear hy hdy
      have hT0 := hT; clear hT
      have HT0 := Lib.hid hT0; clear hT0
      have hown0 := hown; clear hown
      have HO0 := Lib.hid hown0; clear hown0
      have BW0 := Lib.hid hbw; clear hbw
      have HQ0 := Lib.hid hq; clear hq
      go_wp2
      go_loopw [5, 6] (fun oo ii wr => ∃ (acc : List IdD) (q i : Nat) (Av : Option Addr) (kv : Nat), i ≤ n ∧ q = acc.length ∧ q ≤ 2097152 ∧ oo = .slice Av q kv ∧ ii = .int .i64 (i : Int) ∧ acc ++ joinF (xs.drop i) (y :: ys.drop (k + 1)) = T ∧ wr.ownsRow w.heap.size 26 2 (.slice Av q kv) q (idCells acc) ∧ Below w.heap.size w wr) (fun _ ii _ => n - (intOf ii).toNat)
      case atStart => exact ⟨acc, q, i, Av, kv, hi, HQ0.out, hqb, rfl, rfl, HT0.out, HO0.out, BW0.out⟩
      case round =>
        clear HT0 HO0 BW0 HQ0 hi hqb
        obtain ⟨acc, q, i, Av, kv, hi, hq, hqb, rfl, rfl, hT, hown, hbw⟩ := hrel
        have HTT := Lib.hid hT
        have HO := Lib.hid hown; clear hown
        have BW := Lib.hid hbw; clear hbw
        have HQ := Lib.hid hq; clear hq
        obtain ⟨ad', cy, rfl, _, _, hrc, hl, hc⟩ := (HR'.out.below BW.out).elem IdD.width k hky HN'.out
        rw [← HY.out] at hrc
        obtain rfl := IdD.open hrc
        have HCY := Lib.hid hc
        have HRY := Lib.hid hrc
        clear hc hrc hl
        obtain ⟨yr, ysl⟩ := y
        simp only [] at HCY
        by_cases hin : i < n
        · have hix : i < xs.length := by have := HN.out; omega
          have hdx : xs.drop i = xs[i] :: xs.drop (i + 1) := List.drop_eq_getElem_cons hix
          obtain ⟨ad, cx, rfl, _, _, hrc, hl, hc⟩ := (HR.out.below BW.out).elem IdD.width i hix HN.out
          rw [hdx] at hT
          obtain rfl := IdD.open hrc
          generalize xs[i] = x at *
          obtain ⟨xr, xsl⟩ := x
          simp only [] at hc
          have HCX := Lib.hid hc
          have HRX := Lib.hid hrc
          have HDX := Lib.hid hdx
          clear hc hrc hl hdx
          have hlen := congrArg List.length hT
          rw [List.length_append] at hlen
          have hq1 := HQ.out
          cases hlt2 : idLt ⟨xr, xsl⟩ ⟨yr, ysl⟩
          case true =>
            rw [joinF_lt hlt2] at hT hlen
            simp only [List.length_cons] at hlen
            have hqq : q + 1 ≤ 2097152 := by omega
            have HLT := Lib.hid hlt2; clear hlt2
            have HTn := Lib.hid (show (acc ++ [⟨xr, xsl⟩]) ++ joinF (xs.drop (i + 1)) (⟨yr, ysl⟩ :: ys.drop (k + 1)) = T by rw [← hT, List.append_assoc]; rfl)
            clear hT hlen hq1
            go_wp2
            refine wp_region_x 15 [0, 1, 2, 3, 4, 5, 6, 7, 8, 9, 10, 11, 12, 13, 14] (by kernel_rfl) (by kernel_rfl) ?_
            iterate 8 (refine wpX_quiet rfl (by kernel_rfl) rfl ?_; go_wp2; refine ⟨rfl, ?_⟩)
            refine wpX_quiet rfl (by kernel_rfl) rfl ?_; refine wpList_load_row_g _ rfl (ad.add (i * 2)) rfl [.int .i64 xr, .int .i64 xsl] agg_Id rfl HCX.out ?_; go_wp2; refine ⟨rfl, ?_⟩
            iterate 3 (refine wpX_quiet rfl (by kernel_rfl) rfl ?_; go_wp2; refine ⟨rfl, ?_⟩)
            refine wpX_quiet rfl (by kernel_rfl) rfl ?_; refine wpList_load_row_g _ rfl (ad'.add (k * 2)) rfl [.int .i64 yr, .int .i64 ysl] agg_Id rfl HCY.out ?_; go_wp2; refine ⟨rfl, ?_⟩
            refine wpX_actor rfl (by kernel_rfl) ?_; go_wp2_with fail
            refine (l8Less_any ⟨xr, xsl⟩ ⟨yr, ysl⟩ [.int .i64 xr, .int .i64 xsl] [.int .i64 yr, .int .i64 ysl] _ HRX.out.drew HRY.out.drew).mono ?_; rintro e v2 ⟨rfl, hb⟩
            rw [HLT.out]
            have HB := Lib.hid hb
            have HO2 := Lib.hid (HO.out.drew.keptBelowJ hb)
            have BW2 := Lib.hid (show Below w.heap.size w v2 from BW.out.trans ((below_drewL hb).mono BW.out.size))
            have HCX2 := Lib.hid (cells_below HCX.out (below_drewL hb))
            have HCY2 := Lib.hid (cells_below HCY.out (below_drewL hb))
            clear hb
            go_wp2
            refine ⟨Ext.of_below HB.out, ?_⟩
            iterate 1 (refine wpX_quiet rfl (by kernel_rfl) rfl ?_; go_wp2; refine ⟨rfl, ?_⟩)
            refine wpX_nil ?_; simp only [List.drop_succ_cons, List.drop_zero]
            go_wp2_with (first | ((with_reducible show wpList _ _ _ ({ dst := _, op := Op.load 26 _, type := _, pos := _, after := _, guard := _ } :: _) _ _); refine wpList_load_row _ (ad.add (i * 2)) rfl [.int .i64 xr, .int .i64 xsl] agg_Id rfl HCX2.out ?_) | (at_builtin; go_must (refine wpList_app E_Id _ rfl _ _ rfl w.heap.size _ q _ rfl (HO2.out.alloc _) _ _ _ _ rfl (Reads.new rfl) (by simp [Value.oneCell']) (by omega) (Nat.le_trans BW2.out.size (by simp)) ?_; intro vv w3 hown3 hg3 hat3; obtain ⟨Av3, kv3, rfl, _⟩ := SlR.of_own hown3; have HO3 := Lib.hid hown3; have HB3 := Lib.hid (Below.grown ((BW2.out).alloc (BW2.out).size _) hg3 (Nat.le_trans (BW2.out).size (by simp)) (fun k hk => (HO2.out.lt k hk).1)); clear hown3 hg3 hat3)) | fail)
            exact ⟨⟨acc ++ [⟨xr, xsl⟩], q + 1, i + 1, Av3, kv3, by omega, by rw [List.length_append, ← HQ.out]; rfl, hqq, rfl, by go_num, HTn.out, by rw [idCells_app]; exact HO3.out, HB3.out⟩, by simp only [intOf]; omega⟩
          case false =>
            have HLT := Lib.hid hlt2
            by_cases hxy : (⟨xr, xsl⟩ : IdD) = ⟨yr, ysl⟩
            · rw [hxy, joinF_eq] at hT
              rw [hxy, joinF_eq] at hlen
              simp only [List.length_cons] at hlen
              have hqq : q + 1 ≤ 2097152 := by omega
              injection hxy with e1 e2
              subst e1 e2
              have HTn := Lib.hid (show (acc ++ [⟨xr, xsl⟩]) ++ joinF (xs.drop (i + 1)) (ys.drop (k + 1)) = T by rw [← hT, List.append_assoc]; rfl)
              clear hT hlen hq1 hlt2
              go_wp2
              refine wp_region_x 15 [0, 1, 2, 3, 4, 5, 6, 7, 8, 9, 10, 11, 12, 13, 14] (by kernel_rfl) (by kernel_rfl) ?_
              iterate 8 (refine wpX_quiet rfl (by kernel_rfl) rfl ?_; go_wp2; refine ⟨rfl, ?_⟩)
              refine wpX_quiet rfl (by kernel_rfl) rfl ?_; refine wpList_load_row_g _ rfl (ad.add (i * 2)) rfl [.int .i64 xr, .int .i64 xsl] agg_Id rfl HCX.out ?_; go_wp2; refine ⟨rfl, ?_⟩
              iterate 3 (refine wpX_quiet rfl (by kernel_rfl) rfl ?_; go_wp2; refine ⟨rfl, ?_⟩)
              refine wpX_quiet rfl (by kernel_rfl) rfl ?_; refine wpList_load_row_g _ rfl (ad'.add (k * 2)) rfl [.int .i64 xr, .int .i64 xsl] agg_Id rfl HCY.out ?_; go_wp2; refine ⟨rfl, ?_⟩
              refine wpX_actor rfl (by kernel_rfl) ?_; go_wp2_with fail
              refine (l8Less_any ⟨xr, xsl⟩ ⟨xr, xsl⟩ [.int .i64 xr, .int .i64 xsl] [.int .i64 xr, .int .i64 xsl] _ HRX.out.drew HRY.out.drew).mono ?_; rintro e v2 ⟨rfl, hb⟩
              rw [HLT.out]
              have HB := Lib.hid hb
              have HO2 := Lib.hid (HO.out.drew.keptBelowJ hb)
              have BW2 := Lib.hid (show Below w.heap.size w v2 from BW.out.trans ((below_drewL hb).mono BW.out.size))
              have HCX2 := Lib.hid (cells_below HCX.out (below_drewL hb))
              have HCY2 := Lib.hid (cells_below HCY.out (below_drewL hb))
              clear hb
              go_wp2
              refine ⟨Ext.of_below HB.out, ?_⟩
              iterate 1 (refine wpX_quiet rfl (by kernel_rfl) rfl ?_; go_wp2; refine ⟨rfl, ?_⟩)
              refine wpX_nil ?_; simp only [List.drop_succ_cons, List.drop_zero]
              go_wp2
              refine wp_region_x 13 [0, 1, 2, 3, 4, 5, 6, 7, 8, 9, 10, 11, 12] (by kernel_rfl) (by kernel_rfl) ?_
              iterate 8 (refine wpX_quiet rfl (by kernel_rfl) rfl ?_; go_wp2; refine ⟨rfl, ?_⟩)
              refine wpX_quiet rfl (by kernel_rfl) rfl ?_; refine wpList_load_row_g _ rfl (ad.add (i * 2)) rfl [.int .i64 xr, .int .i64 xsl] agg_Id rfl HCX2.out ?_; go_wp2; refine ⟨rfl, ?_⟩
              iterate 3 (refine wpX_quiet rfl (by kernel_rfl) rfl ?_; go_wp2; refine ⟨rfl, ?_⟩)
              refine wpX_quiet rfl (by kernel_rfl) rfl ?_; refine wpList_load_row_g _ rfl (ad'.add (k * 2)) rfl [.int .i64 xr, .int .i64 xsl] agg_Id rfl HCY2.out ?_; go_wp2; refine ⟨rfl, ?_⟩
              refine wpX_nil ?_; simp only [List.drop_succ_cons, List.drop_zero]
              go_wp2_with (first | ((with_reducible show wpList _ _ _ ({ dst := _, op := Op.load 26 _, type := _, pos := _, after := _, guard := _ } :: _) _ _); refine wpList_load_row _ (ad'.add (k * 2)) rfl [.int .i64 xr, .int .i64 xsl] agg_Id rfl HCY2.out ?_) | (at_builtin; go_must (refine wpList_app E_Id _ rfl _ _ rfl w.heap.size _ q _ rfl ((HO2.out.alloc _).drew) _ _ _ _ rfl (Reads.new rfl) (by simp [Value.oneCell']) (by omega) (Nat.le_trans BW2.out.size (by simp)) ?_; intro vv w3 hown3 hg3 hat3; obtain ⟨Av3, kv3, rfl, _⟩ := SlR.of_own hown3; have HO3 := Lib.hid hown3; have HB3 := Lib.hid (Below.grown (((BW2.out).alloc (BW2.out).size _).drew) hg3 (Nat.le_trans (BW2.out).size (by simp)) (fun k hk => (HO2.out.lt k hk).1)); clear hown3 hg3 hat3)) | fail)
              exact ⟨⟨acc ++ [⟨xr, xsl⟩], q + 1, i + 1, k + 1, Av3, kv3, by omega, by omega, by rw [List.length_append, ← HQ.out]; rfl, by omega, rfl, by go_num, by go_num, HTn.out, by rw [idCells_app]; exact HO3.out, HB3.out⟩, by simp only [intOf]; omega⟩
            · skip
              rw [joinF_gt hlt2 hxy] at hT hlen
              simp only [List.length_cons] at hlen
              have hqq : q + 1 ≤ 2097152 := by omega
              have HTn := Lib.hid (show (acc ++ [⟨yr, ysl⟩]) ++ joinF (⟨xr, xsl⟩ :: xs.drop (i + 1)) (ys.drop (k + 1)) = T by rw [← hT, List.append_assoc]; rfl)
              rw [← HDX.out] at HTn
              clear hT hlen hq1 hlt2
              by_cases e1 : xr = yr
              · skip
                subst e1
                have e2 : (xsl == ysl) = false := by simp only [beq_eq_false_iff_ne]; intro h; exact hxy (by rw [h])
                have e3 : (ysl == xsl) = false := by simp only [beq_eq_false_iff_ne]; intro h; exact hxy (by rw [h])
                clear hxy
                go_wp2
                refine wp_region_x 15 [0, 1, 2, 3, 4, 5, 6, 7, 8, 9, 10, 11, 12, 13, 14] (by kernel_rfl) (by kernel_rfl) ?_
                iterate 8 (refine wpX_quiet rfl (by kernel_rfl) rfl ?_; go_wp2; refine ⟨rfl, ?_⟩)
                refine wpX_quiet rfl (by kernel_rfl) rfl ?_; refine wpList_load_row_g _ rfl (ad.add (i * 2)) rfl [.int .i64 xr, .int .i64 xsl] agg_Id rfl HCX.out ?_; go_wp2; refine ⟨rfl, ?_⟩
                iterate 3 (refine wpX_quiet rfl (by kernel_rfl) rfl ?_; go_wp2; refine ⟨rfl, ?_⟩)
                refine wpX_quiet rfl (by kernel_rfl) rfl ?_; refine wpList_load_row_g _ rfl (ad'.add (k * 2)) rfl [.int .i64 xr, .int .i64 ysl] agg_Id rfl HCY.out ?_; go_wp2; refine ⟨rfl, ?_⟩
                refine wpX_actor rfl (by kernel_rfl) ?_; go_wp2_with fail
                refine (l8Less_any ⟨xr, xsl⟩ ⟨xr, ysl⟩ [.int .i64 xr, .int .i64 xsl] [.int .i64 xr, .int .i64 ysl] _ HRX.out.drew HRY.out.drew).mono ?_; rintro e v2 ⟨rfl, hb⟩
                rw [HLT.out]
                have HB := Lib.hid hb
                have HO2 := Lib.hid (HO.out.drew.keptBelowJ hb)
                have BW2 := Lib.hid (show Below w.heap.size w v2 from BW.out.trans ((below_drewL hb).mono BW.out.size))
                have HCX2 := Lib.hid (cells_below HCX.out (below_drewL hb))
                have HCY2 := Lib.hid (cells_below HCY.out (below_drewL hb))
                clear hb
                go_wp2
                refine ⟨Ext.of_below HB.out, ?_⟩
                iterate 1 (refine wpX_quiet rfl (by kernel_rfl) rfl ?_; go_wp2; refine ⟨rfl, ?_⟩)
                refine wpX_nil ?_; simp only [List.drop_succ_cons, List.drop_zero]
                go_wp2
                refine wp_region_x 13 [0, 1, 2, 3, 4, 5, 6, 7, 8, 9, 10, 11, 12] (by kernel_rfl) (by kernel_rfl) ?_
                iterate 8 (refine wpX_quiet rfl (by kernel_rfl) rfl ?_; go_wp2; refine ⟨rfl, ?_⟩)
                refine wpX_quiet rfl (by kernel_rfl) rfl ?_; refine wpList_load_row_g _ rfl (ad.add (i * 2)) rfl [.int .i64 xr, .int .i64 xsl] agg_Id rfl HCX2.out ?_; go_wp2; refine ⟨rfl, ?_⟩
                iterate 3 (refine wpX_quiet rfl (by kernel_rfl) rfl ?_; go_wp2; refine ⟨rfl, ?_⟩)
                refine wpX_quiet rfl (by kernel_rfl) rfl ?_; refine wpList_load_row_g _ rfl (ad'.add (k * 2)) rfl [.int .i64 xr, .int .i64 ysl] agg_Id rfl HCY2.out ?_; go_wp2; refine ⟨rfl, ?_⟩
                refine wpX_nil ?_; simp only [List.drop_succ_cons, List.drop_zero]
                go_wp2_with (first | ((with_reducible show wpList _ _ _ ({ dst := _, op := Op.load 26 _, type := _, pos := _, after := _, guard := _ } :: _) _ _); refine wpList_load_row _ (ad'.add (k * 2)) rfl [.int .i64 xr, .int .i64 ysl] agg_Id rfl HCY2.out ?_) | (at_builtin; go_must (refine wpList_app E_Id _ rfl _ _ rfl w.heap.size _ q _ rfl ((HO2.out.alloc _).drew) _ _ _ _ rfl (Reads.new rfl) (by simp [Value.oneCell']) (by omega) (Nat.le_trans BW2.out.size (by simp)) ?_; intro vv w3 hown3 hg3 hat3; obtain ⟨Av3, kv3, rfl, _⟩ := SlR.of_own hown3; have HO3 := Lib.hid hown3; have HB3 := Lib.hid (Below.grown (((BW2.out).alloc (BW2.out).size _).drew) hg3 (Nat.le_trans (BW2.out).size (by simp)) (fun k hk => (HO2.out.lt k hk).1)); clear hown3 hg3 hat3)) | fail)
                exact ⟨⟨acc ++ [⟨xr, ysl⟩], q + 1, i, k + 1, Av3, kv3, by omega, by omega, by rw [List.length_append, ← HQ.out]; rfl, by omega, rfl, rfl, by go_num, HTn.out, by rw [idCells_app]; exact HO3.out, HB3.out⟩, by simp only [intOf]; omega⟩
              · skip
                have e2 : (xr == yr) = false := by simp only [beq_eq_false_iff_ne]; exact e1
                have e3 : (yr == xr) = false := by simp only [beq_eq_false_iff_ne]; exact fun h => e1 h.symm
                clear hxy e1
                go_wp2
                refine wp_region_x 15 [0, 1, 2, 3, 4, 5, 6, 7, 8, 9, 10, 11, 12, 13, 14] (by kernel_rfl) (by kernel_rfl) ?_
                iterate 8 (refine wpX_quiet rfl (by kernel_rfl) rfl ?_; go_wp2; refine ⟨rfl, ?_⟩)
                refine wpX_quiet rfl (by kernel_rfl) rfl ?_; refine wpList_load_row_g _ rfl (ad.add (i * 2)) rfl [.int .i64 xr, .int .i64 xsl] agg_Id rfl HCX.out ?_; go_wp2; refine ⟨rfl, ?_⟩
                iterate 3 (refine wpX_quiet rfl (by kernel_rfl) rfl ?_; go_wp2; refine ⟨rfl, ?_⟩)
                refine wpX_quiet rfl (by kernel_rfl) rfl ?_; refine wpList_load_row_g _ rfl (ad'.add (k * 2)) rfl [.int .i64 yr, .int .i64 ysl] agg_Id rfl HCY.out ?_; go_wp2; refine ⟨rfl, ?_⟩
                refine wpX_actor rfl (by kernel_rfl) ?_; go_wp2_with fail
                refine (l8Less_any ⟨xr, xsl⟩ ⟨yr, ysl⟩ [.int .i64 xr, .int .i64 xsl] [.int .i64 yr, .int .i64 ysl] _ HRX.out.drew HRY.out.drew).mono ?_; rintro e v2 ⟨rfl, hb⟩
                rw [HLT.out]
                have HB := Lib.hid hb
                have HO2 := Lib.hid (HO.out.drew.keptBelowJ hb)
                have BW2 := Lib.hid (show Below w.heap.size w v2 from BW.out.trans ((below_drewL hb).mono BW.out.size))
                have HCX2 := Lib.hid (cells_below HCX.out (below_drewL hb))
                have HCY2 := Lib.hid (cells_below HCY.out (below_drewL hb))
                clear hb
                go_wp2
                refine ⟨Ext.of_below HB.out, ?_⟩
                iterate 1 (refine wpX_quiet rfl (by kernel_rfl) rfl ?_; go_wp2; refine ⟨rfl, ?_⟩)
                refine wpX_nil ?_; simp only [List.drop_succ_cons, List.drop_zero]
                go_wp2
                refine wp_region_x 13 [0, 1, 2, 3, 4, 5, 6, 7, 8, 9, 10, 11, 12] (by kernel_rfl) (by kernel_rfl) ?_
                iterate 8 (refine wpX_quiet rfl (by kernel_rfl) rfl ?_; go_wp2; refine ⟨rfl, ?_⟩)
                refine wpX_quiet rfl (by kernel_rfl) rfl ?_; refine wpList_load_row_g _ rfl (ad.add (i * 2)) rfl [.int .i64 xr, .int .i64 xsl] agg_Id rfl HCX2.out ?_; go_wp2; refine ⟨rfl, ?_⟩
                iterate 3 (refine wpX_quiet rfl (by kernel_rfl) rfl ?_; go_wp2; refine ⟨rfl, ?_⟩)
                refine wpX_quiet rfl (by kernel_rfl) rfl ?_; refine wpList_load_row_g _ rfl (ad'.add (k * 2)) rfl [.int .i64 yr, .int .i64 ysl] agg_Id rfl HCY2.out ?_; go_wp2; refine ⟨rfl, ?_⟩
                refine wpX_nil ?_; simp only [List.drop_succ_cons, List.drop_zero]
                go_wp2_with (first | ((with_reducible show wpList _ _ _ ({ dst := _, op := Op.load 26 _, type := _, pos := _, after := _, guard := _ } :: _) _ _); refine wpList_load_row _ (ad'.add (k * 2)) rfl [.int .i64 yr, .int .i64 ysl] agg_Id rfl HCY2.out ?_) | (at_builtin; go_must (refine wpList_app E_Id _ rfl _ _ rfl w.heap.size _ q _ rfl ((HO2.out.alloc _).drew) _ _ _ _ rfl (Reads.new rfl) (by simp [Value.oneCell']) (by omega) (Nat.le_trans BW2.out.size (by simp)) ?_; intro vv w3 hown3 hg3 hat3; obtain ⟨Av3, kv3, rfl, _⟩ := SlR.of_own hown3; have HO3 := Lib.hid hown3; have HB3 := Lib.hid (Below.grown (((BW2.out).alloc (BW2.out).size _).drew) hg3 (Nat.le_trans (BW2.out).size (by simp)) (fun k hk => (HO2.out.lt k hk).1)); clear hown3 hg3 hat3)) | fail)
                exact ⟨⟨acc ++ [⟨yr, ysl⟩], q + 1, i, k + 1, Av3, kv3, by omega, by omega, by rw [List.length_append, ← HQ.out]; rfl, by omega, rfl, rfl, by go_num, HTn.out, by rw [idCells_app]; exact HO3.out, HB3.out⟩, by simp only [intOf]; omega⟩
        · skip
          have hie : i = n := by omega
          subst hie
          have hdx : xs.drop i = [] := List.drop_of_length_le (by have := HN.out; omega)
          rw [hdx, joinF_nil] at hT
          have hlen := congrArg List.length hT
          rw [List.length_append] at hlen
          simp only [List.length_cons] at hlen
          have hq1 := HQ.out
          have hqq : q + 1 ≤ 2097152 := by omega
          have HTn := Lib.hid (show (acc ++ [⟨yr, ysl⟩]) ++ joinF (xs.drop i) (ys.drop (k + 1)) = T by rw [hdx, joinF_nil, ← hT, List.append_assoc]; rfl)
          clear hT hlen hq1 hdx
          go_wp2
          refine wp_region_x 15 [0, 1, 2, 3, 4, 5, 6, 7, 8, 9, 10, 11, 12, 13, 14] (by kernel_rfl) (by kernel_rfl) ?_
          iterate 5 (refine wpX_quiet rfl (by kernel_rfl) rfl ?_; go_wp2; refine ⟨rfl, ?_⟩)
          (iterate 6 (refine wpX_skip2 rfl rfl (by kernel_rfl) ?_)); simp only [List.setIfInBounds_toArray, List.set_cons_succ, List.set_cons_zero]; (iterate 3 (refine wpX_skip2 rfl rfl (by kernel_rfl) ?_)); simp only [List.setIfInBounds_toArray, List.set_cons_succ, List.set_cons_zero]
          iterate 1 (refine wpX_quiet rfl (by kernel_rfl) rfl ?_; go_wp2; refine ⟨rfl, ?_⟩)
          refine wpX_nil ?_; simp only [List.drop_succ_cons, List.drop_zero]
          go_wp2
          refine wp_region_x 15 [0, 1, 2, 3, 4, 5, 6, 7, 8, 9, 10, 11, 12, 13, 14] (by kernel_rfl) (by kernel_rfl) ?_
          iterate 5 (refine wpX_quiet rfl (by kernel_rfl) rfl ?_; go_wp2; refine ⟨rfl, ?_⟩)
          (iterate 6 (refine wpX_skip2 rfl rfl (by kernel_rfl) ?_)); simp only [List.setIfInBounds_toArray, List.set_cons_succ, List.set_cons_zero]; (iterate 3 (refine wpX_skip2 rfl rfl (by kernel_rfl) ?_)); simp only [List.setIfInBounds_toArray, List.set_cons_succ, List.set_cons_zero]
          iterate 1 (refine wpX_quiet rfl (by kernel_rfl) rfl ?_; go_wp2; refine ⟨rfl, ?_⟩)
          refine wpX_nil ?_; simp only [List.drop_succ_cons, List.drop_zero]
          go_wp2_with (first | ((with_reducible show wpList _ _ _ ({ dst := _, op := Op.load 26 _, type := _, pos := _, after := _, guard := _ } :: _) _ _); refine wpList_load_row _ (ad'.add (k * 2)) rfl [.int .i64 yr, .int .i64 ysl] agg_Id rfl HCY.out ?_) | (at_builtin; go_must (refine wpList_app E_Id _ rfl _ _ rfl w.heap.size _ q _ rfl ((HO.out.alloc _).drew.drew) _ _ _ _ rfl (Reads.new rfl) (by simp [Value.oneCell']) (by omega) (Nat.le_trans BW.out.size (by simp)) ?_; intro vv w3 hown3 hg3 hat3; obtain ⟨Av3, kv3, rfl, _⟩ := SlR.of_own hown3; have HO3 := Lib.hid hown3; have HB3 := Lib.hid (Below.grown (((BW.out).alloc (BW.out).size _).drew.drew) hg3 (Nat.le_trans (BW.out).size (by simp)) (fun k hk => (HO.out.lt k hk).1)); clear hown3 hg3 hat3)) | fail)
          exact ⟨⟨acc ++ [⟨yr, ysl⟩], q + 1, i, k + 1, Av3, kv3, by omega, by omega, by rw [List.length_append, ← HQ.out]; rfl, by omega, rfl, rfl, by go_num, HTn.out, by rw [idCells_app]; exact HO3.out, HB3.out⟩, by simp only [intOf]; omega⟩
    · have hke : k = n' := by omega
      subst hke
      have hdy : ys.drop k = [] := List.drop_of_length_le (by have := HN'.out; omega)
      rw [hdy, joinF_nil2] at hT
      have HTn := Lib.hid hT
      have HO := Lib.hid hown; clear hown
      have BW := Lib.hid hbw; clear hbw
      have HQ := Lib.hid hq; clear hq hT hdy
      obtain ⟨cells, hrd, hrc, _⟩ := HR.out.row
      obtain rfl := rep_ids hrc
      have HRD := Lib.hid (hrd.below BW.out)
      clear hrd hrc
      have hlenT : q + (n - i) = T.length := by rw [← HTn.out, List.length_append, List.length_drop, ← HQ.out, ← HN.out]
      have hcelT : idCells acc ++ idCells (xs.drop i) = idCells T := by rw [← HTn.out, idCells_app]
      have HLT := Lib.hid hlenT
      have HCT := Lib.hid hcelT
      have hm1 : q + (n - i) ≤ 2097152 := by omega
      have HONE := Lib.hid (show ∀ u ∈ idCells (xs.drop i), u.oneCell' = true from (own_ids wr 0 (xs.drop i)).one)
      clear hlenT hcelT
      have hdr := idCells_drop xs i
      by_cases hsl : c = i ∨ A = none
      · have hm0 : n - i = 0 := by
          rcases hsl with h | h
          · omega
          · subst h
            rcases Nat.eq_zero_or_pos n with h0 | h0
            · omega
            · obtain ⟨ad, e, _⟩ := HRD.out.2 h0
              cases e
        have hd0 : xs.drop i = [] := List.drop_of_length_le (by have := HN.out; omega)
        have HRT := Lib.hid (show ∀ B : Option Addr, Reads wr 2 B (n - i) (idCells (xs.drop i)) from fun B => by rw [hm0, hd0]; exact ⟨by simp [idCells], fun h => absurd h (by omega)⟩)
        clear hdr hm0 hd0
        rcases hsl with h | h
        · cases A with
          | none =>
            go_wp2_with (first | (at_builtin; go_must (refine wpList_app E_Id _ rfl _ _ rfl w.heap.size _ q _ rfl HO.out _ _ _ (idCells (xs.drop i)) rfl (HRT.out _) HONE.out (by omega) BW.out.size ?_; intro vv w3 hown3 hg3 hat3; obtain ⟨Av3, kv3, rfl, _⟩ := SlR.of_own hown3; have HO3 := Lib.hid hown3; have HB3 := Lib.hid (Below.grown BW.out hg3 BW.out.size (fun k hk => (HO.out.lt k hk).1)); clear hown3 hg3 hat3)) | fail)
            go_ret
            exact ⟨Av3, kv3, ret_eq (by rw [HLT.out]; rfl), by rw [← HLT.out, ← HCT.out]; exact HO3.out, HB3.out⟩
          | some ad =>
            go_wp2_with (first | (at_builtin; go_must (refine wpList_app E_Id _ rfl _ _ rfl w.heap.size _ q _ rfl HO.out _ _ _ (idCells (xs.drop i)) rfl (HRT.out _) HONE.out (by omega) BW.out.size ?_; intro vv w3 hown3 hg3 hat3; obtain ⟨Av3, kv3, rfl, _⟩ := SlR.of_own hown3; have HO3 := Lib.hid hown3; have HB3 := Lib.hid (Below.grown BW.out hg3 BW.out.size (fun k hk => (HO.out.lt k hk).1)); clear hown3 hg3 hat3)) | fail)
            go_ret
            exact ⟨Av3, kv3, ret_eq (by rw [HLT.out]; rfl), by rw [← HLT.out, ← HCT.out]; exact HO3.out, HB3.out⟩
        · subst h
          go_wp2_with (first | (at_builtin; go_must (refine wpList_app E_Id _ rfl _ _ rfl w.heap.size _ q _ rfl HO.out _ _ _ (idCells (xs.drop i)) rfl (HRT.out _) HONE.out (by omega) BW.out.size ?_; intro vv w3 hown3 hg3 hat3; obtain ⟨Av3, kv3, rfl, _⟩ := SlR.of_own hown3; have HO3 := Lib.hid hown3; have HB3 := Lib.hid (Below.grown BW.out hg3 BW.out.size (fun k hk => (HO.out.lt k hk).1)); clear hown3 hg3 hat3)) | fail)
          go_ret
          exact ⟨Av3, kv3, ret_eq (by rw [HLT.out]; rfl), by rw [← HLT.out, ← HCT.out]; exact HO3.out, HB3.out⟩
      · obtain ⟨ad, rfl⟩ : ∃ ad, A = some ad := by
          cases A with
          | none => exact absurd (Or.inr rfl) hsl
          | some ad => exact ⟨ad, rfl⟩
        have hci : ¬ c = i := fun h => hsl (.inl h)
        have hci2 : ¬ c - i = 0 := by omega
        have HRT := Lib.hid (show Reads wr 2 (some (ad.add (i * 2))) (n - i) (idCells (xs.drop i)) by rw [← hdr]; exact reads_drop HRD.out hi)
        clear hdr hsl
        go_wp2_with (first | (at_builtin; go_must (refine wpList_app E_Id _ rfl _ _ rfl w.heap.size _ q _ rfl HO.out _ _ _ (idCells (xs.drop i)) rfl HRT.out HONE.out (by omega) BW.out.size ?_; intro vv w3 hown3 hg3 hat3; obtain ⟨Av3, kv3, rfl, _⟩ := SlR.of_own hown3; have HO3 := Lib.hid hown3; have HB3 := Lib.hid (Below.grown BW.out hg3 BW.out.size (fun k hk => (HO.out.lt k hk).1)); clear hown3 hg3 hat3)) | fail)
        go_ret
        exact ⟨Av3, kv3, ret_eq (by rw [HLT.out]; rfl), by rw [← HLT.out, ← HCT.out]; exact HO3.out, HB3.out⟩

end Go.Proofs.YtonaacdefidomaaGreat
namespace Go.Proofs.YtonaacdefidomaaGreat
open Go.RowKit

theorem IdD.cts_le : ∀ xs : List IdD, cts IdD.cnt xs ≤ 2 * xs.length
  | [] => Nat.le_refl _
  | x :: xs => by
    have := IdD.cts_le xs
    rw [cts, List.length_cons]
    show 1 + 1 + _ ≤ _
    omega
theorem bJoinIds (xs ys : List IdD) (h : xs.length + (cat IdD.c xs).wt ≤ 1048576) (h' : ys.length + (cat IdD.c ys).wt ≤ 1048576) :
    (fJoinIds xs ys).length + (cat IdD.c (fJoinIds xs ys)).wt ≤ 4611686018427387 ∧ cts IdD.cnt (fJoinIds xs ys) ≤ 4611686018427387 := by
  have hw : ∀ l : List IdD, (cat IdD.c l).wt = 0 := fun l => by
    induction l with
    | nil => rfl
    | cons x r ih => rw [cat_cons, Cs.wt_app, ih]; rfl
  have hc : ∀ l : List IdD, cts IdD.cnt l = 2 * l.length := fun l => by
    induction l with
    | nil => rfl
    | cons x r ih => rw [cts, ih, List.length_cons]; show 1 + 1 + _ = _; omega
  have hl : (fJoinIds xs ys).length ≤ 2097152 := by
    unfold fJoinIds
    split
    · have := joinF_len xs ys; omega
    · simp
  rw [hw, hc]
  omega
theorem Own.sl_cap {w : World} {base e sz n c : Nat} {i : Cs} {A : Option Addr} {F : List Nat} (h : Own w base (.sl e sz n i .nil) [.slice A n c] F) : n ≤ c := by
  obtain ⟨cells, F1, _, _, hrow, _⟩ := Own.sl1.1 h
  rcases hrow.2 with ⟨h1, h2⟩ | ⟨g, cap, cur, hv, _, _, hnc, _⟩
  · omega
  · injection hv with _ _ h3
    omega

set_option maxRecDepth 100000 in
set_option maxHeartbeats 2000000 in
theorem sJoinIds_any (xs ys : List IdD) (A : Option Addr) (n c : Nat) (A' : Option Addr) (n' c' : Nat) (w : World) (hn : n = xs.length) (hwt : n + (cat IdD.c xs).wt ≤ 1048576) (hn' : n' = ys.length) (hwt' : n' + (cat IdD.c ys).wt ≤ 1048576) (h : Rep anyB w (.sl 26 2 n (cat IdD.c xs) .nil) [.slice A n c]) (h' : Rep anyB w (.sl 26 2 n' (cat IdD.c ys) .nil) [.slice A' n' c']) (hcap : n ≤ c) :
    Calls Tryz.prog 17 #[.slice A n c, .slice A' n' c'] w fun e w' => ∃ A2 m c2, e = .returned (.slice A2 m c2) ∧ m = (fJoinIds xs ys).length ∧ Mine w' w.heap.size (.sl 26 2 m (cat IdD.c (fJoinIds xs ys)) .nil) [.slice A2 m c2] ∧ Below w.heap.size w w' := by
  have HA := Lib.hid (fun W => sIdsOk_any xs A n c W hn hwt)
  have HB := Lib.hid (fun W => sIdsOk_any ys A' n' c' W hn' hwt')
  have HJ := Lib.hid (fun W => l8Join_any xs ys A A' n n' c c' W hn hn' (by omega) (by omega) hcap)
  have HR := Lib.hid h
  have HR' := Lib.hid h'
  obtain ⟨R, hR⟩ : ∃ R, R = fJoinIds xs ys := ⟨_, rfl⟩
  rw [← hR]
  unfold fJoinIds at hR
  have HF := Lib.hid hR
  clear h h' hR hn hn' hwt hwt' hcap
  go_enter Tryz.func17, Tryz.ntmps17
  go_wp2_with fail
  refine (HA.out _ HR.out).mono ?_; rintro e v1 ⟨rfl, hb⟩
  have B1 := Lib.hid hb; clear hb
  have fin : ∀ v : World, Below w.heap.size w v → R = [] → Mine (v.alloc (.cells #[] 26)) w.heap.size (.sl 26 2 0 (cat IdD.c R) .nil) [.slice (some ⟨v.heap.size, 0, none⟩) 0 0] := fun v hv e => by
    subst e
    exact mine_ids (l := []) (own_nilAt v w.heap.size _ _ _ rfl hv.size) rfl
  have FIN := Lib.hid fin; clear fin
  cases ha : idsOkB xs with
  | false =>
    have hRz : R = [] := by rw [HF.out, ha, if_neg (by simp)]
    have HRZ := Lib.hid hRz; clear hRz
    go_wp2
    go_ret
    exact ⟨_, 0, 0, ret_eq rfl, by rw [HRZ.out]; rfl, FIN.out _ B1.out HRZ.out, B1.out.alloc B1.out.size _⟩
  | true =>
    go_wp2_with fail
    refine (HB.out _ (HR'.out.below B1.out)).mono ?_; rintro e v2 ⟨rfl, hb⟩
    have B2 := Lib.hid (B1.out.trans (hb.mono B1.out.size)); clear hb
    cases hbb : idsOkB ys with
    | false =>
      have hRz : R = [] := by rw [HF.out, ha, hbb, if_neg (by simp)]
      have HRZ := Lib.hid hRz; clear hRz
      go_wp2
      go_ret
      exact ⟨_, 0, 0, ret_eq rfl, by rw [HRZ.out]; rfl, FIN.out _ B2.out HRZ.out, B2.out.alloc B2.out.size _⟩
    | true =>
      have hRz : R = joinF xs ys := by rw [HF.out, ha, hbb, if_pos ⟨rfl, rfl⟩]
      have HRZ := Lib.hid hRz; clear hRz
      go_wp2_with fail
      refine (HJ.out _ (HR.out.below B2.out) (HR'.out.below B2.out)).mono ?_; rintro e v3 ⟨A2, c2, rfl, hown, hb⟩
      rw [← HRZ.out] at hown ⊢
      have B3 := Lib.hid (B2.out.trans (hb.mono B2.out.size))
      have HM := Lib.hid (Mine.mono (mine_ids hown rfl) B2.out.size); clear hown hb
      go_wp2
      go_ret
      exact ⟨A2, R.length, c2, ret_eq rfl, rfl, HM.out, B3.out⟩

end Go.Proofs.YtonaacdefidomaaGreat
namespace Go.Proofs.YtonaacdefidomaaGreat
open Go.RowKit

theorem blk_app {w : World} {g e : Nat} {L : List Value} (h : Blk w g e ([] ++ (L ++ [])).toArray) : Blk w g e L.toArray := by simpa using h

set_option maxRecDepth 100000 in
set_option maxHeartbeats 4000000 in
theorem iAttrsOf_any (xs : List InstD) (x : IdD) (c : CmdD) (A : Option Addr) (n k : Nat) (cs csc : List Value) (w : World) (hn : n = xs.length) (hwt : n + (cat InstD.c xs).wt ≤ 1048576) (_ : x.c.wt ≤ 1048576) (hwc : c.c.wt ≤ 1048576) (h : Rep anyB w (.sl 38 16 n (cat InstD.c xs) .nil) [.slice A n k]) (h' : Rep anyB w x.c cs) (hc' : Rep anyB w c.c csc) :
    Calls Tryz.prog 6 #[.slice A n k, .agg cs.toArray, .agg csc.toArray] w fun e w' => ∃ A' m c', e = .returned (.tuple #[.int .i64 (fAttrsOf xs x c).1, .slice A' m c']) ∧ m = (fAttrsOf xs x c).2.length ∧ Mine w' w.heap.size (.sl 26 2 m (cat IdD.c (fAttrsOf xs x c).2) .nil) [.slice A' m c'] ∧ Below w.heap.size w w' := by
  have hCL : csc.length = 8 := hc'.length.trans (CmdD.width c)
  obtain rfl := IdD.open h'
  obtain ⟨U, hU⟩ : ∃ U, U = fAttrsOf xs x c := ⟨_, rfl⟩
  rw [← hU]
  have HY := Lib.hid (fun hok => hU.trans (@fAttrs_yes xs x c hok))
  have HNO := Lib.hid (fun hok => hU.trans (@fAttrs_no xs x c hok))
  clear hU
  have hsx := @insts_seq xs
  have hsq := fun hok => @seqL_range xs hok x c
  have HSEQ := Lib.hid hsq; clear hsq
  have HSX := Lib.hid hsx; clear hsx
  have HN := Lib.hid hn; clear hn
  have HR := Lib.hid h; clear h
  have HRC := Lib.hid hc'; clear hc'
  have HKP := Lib.hid (fun (j : Nat) (hj : j < xs.length) (hk : keepB x c xs[j] = true) => And.intro (depsL_yes hj hk) (seqL_yes hj hk))
  have HKN := Lib.hid (fun (j : Nat) (hj : j < xs.length) (hk : keepB x c xs[j] = false) => And.intro (depsL_no hj hk) (seqL_no hj hk))
  have HD0 := Lib.hid (depsL_len x c)
  have HFD := Lib.hid (show depsL x c (xs.take n) = depsL x c xs ∧ seqL x c (xs.take n) = seqL x c xs by rw [HN.out, List.take_length]; exact ⟨rfl, rfl⟩)
  have HS0 := Lib.hid (show seqL x c (xs.take 0) = 0 ∧ depsL x c (xs.take 0) = [] from ⟨rfl, rfl⟩)
  obtain ⟨D, hD⟩ : ∃ D : Nat → List IdD, D = fun j => depsL x c (xs.take j) := ⟨_, rfl⟩
  obtain ⟨S, hS⟩ : ∃ S : Nat → Int, S = fun j => seqL x c (xs.take j) := ⟨_, rfl⟩
  have HD := Lib.hid hD; clear hD
  have HS := Lib.hid hS; clear hS
  have hnb : n ≤ 1048576 := by omega
  have HWT := Lib.hid hwt
  have HWC := Lib.hid hwc; clear hwc h'
  obtain ⟨xr, xs'⟩ := x
  have SB := Lib.hid (show Blk ((w.alloc (.cells #[.int .i64 xr, .int .i64 xs'] 26)).alloc (.cells csc.toArray 29)) w.heap.size 26 [.int .i64 xr, .int .i64 xs'].toArray from (blk_new w _ _).alloc _)
  have CB := Lib.hid (show Blk ((w.alloc (.cells #[.int .i64 xr, .int .i64 xs'] 26)).alloc (.cells csc.toArray 29)) (w.heap.size + 1) 29 csc.toArray from blk_newAt' _ _ _ _ _ (by simp) rfl)
  have BL := Lib.hid (show Below w.heap.size w ((w.alloc (.cells #[.int .i64 xr, .int .i64 xs'] 26)).alloc (.cells csc.toArray 29)) from (by repeat' (first | with_reducible exact Below.refl _ _ | with_reducible exact BW.out | with_reducible refine Below.setCell ?_ ?_ _ | with_reducible refine Below.alloc ?_ ?_ _ | with_reducible refine Below.drew ?_ | (simp; done) | (simp; omega) | omega)))
  have hsz0 : w.heap.size + 1 + 1 ≤ (World.heap ((w.alloc (.cells #[.int .i64 xr, .int .i64 xs'] 26)).alloc (.cells csc.toArray 29))).size := by simp
  go_enter Tryz.func6, Tryz.ntmps6
  go_wp2_with fail
  refine (iInstsOk_any xs A n k _ HN.out hwt (HR.out.below BL.out)).mono ?_
  rintro e v1 ⟨rfl, hb1⟩
  have SB1 := Lib.hid (SB.out.below hb1)
  have CB1 := Lib.hid (CB.out.below hb1)
  have BL1 := Lib.hid (BL.out.trans (hb1.mono BL.out.size))
  have hsz1 := Nat.le_trans hsz0 hb1.size
  clear hb1 SB CB BL hsz0 hwt
  cases hok : instsOkB xs
  · have HF := Lib.hid (HNO.out hok)
    go_wp2
    go_ret2
    rw [HF.out]
    exact ⟨none, 0, 0, ret_eq (by first | rfl | simp), rfl, mine_ids (l := []) ⟨rfl, .inl ⟨rfl, rfl⟩⟩ rfl, BL1.out⟩
  have HF := Lib.hid (HY.out hok)
  have HOK := Lib.hid hok; clear hok
  go_wp2_with fail
  go_loopw [8, 9, 18] (fun sv v i wr => ∃ j : Nat, j ≤ n ∧ i = .int .i64 (j : Int) ∧ sv = .int .i64 (S j) ∧ wr.ownsRow (w.heap.size + 1 + 1) 26 2 v (D j).length (idCells (D j)) ∧ Blk wr w.heap.size 26 [.int .i64 xr, .int .i64 xs'].toArray ∧ Blk wr (w.heap.size + 1) 29 csc.toArray ∧ Below w.heap.size w wr) (fun _ _ i _ => n - (intOf i).toNat)
  case atStart =>
    have h1 : S 0 = 0 := by rw [HS.out]; exact HS0.out.1
    have h2 : D 0 = [] := by rw [HD.out]; exact HS0.out.2
    refine ⟨0, Nat.zero_le _, rfl, by rw [h1], ?_, SB1.out.alloc _, CB1.out.alloc _, BL1.out.alloc BL1.out.size _⟩
    rw [h2]
    exact own_nilAt _ _ _ _ _ rfl hsz1
  case round =>
    obtain ⟨j, hj, rfl, rfl, hown, hsb, hcb, hbel⟩ := hrel
    clear SB1 CB1 BL1
    have HO := Lib.hid hown; clear hown
    have hsz := hbel.size
    have hcl0 := hcb.lt
    by_cases hlt : j < n
    · have hjx : j < xs.length := by have := HN.out; omega
      obtain ⟨ad, ci, rfl, _, _, hrc, hl, hc⟩ := (HR.out.below hbel).elem InstD.width j hjx HN.out
      have hkp := HKP.out j hjx
      have hkn := HKN.out j hjx
      have hq1 := HSX.out HOK.out j hjx
      have hdl : (D j).length ≤ j := by rw [HD.out]; exact Nat.le_trans (HD0.out _) (by simp; omega)
      have hsr : 0 ≤ S j ∧ S j ≤ 60 := by rw [HS.out]; exact HSEQ.out HOK.out j (by omega)
      have e1 : depsL ⟨xr, xs'⟩ c (xs.take j) = D j ∧ depsL ⟨xr, xs'⟩ c (xs.take (j + 1)) = D (j + 1) := by rw [HD.out]; exact ⟨rfl, rfl⟩
      have e2 : seqL ⟨xr, xs'⟩ c (xs.take j) = S j ∧ seqL ⟨xr, xs'⟩ c (xs.take (j + 1)) = S (j + 1) := by rw [HS.out]; exact ⟨rfl, rfl⟩
      rw [e1.1, e1.2, e2.1, e2.2] at hkp hkn
      have hwx : (xs[j].cmd.c).wt ≤ 1048576 := by
        have h1 := cat_wt_le (f := InstD.c) (List.getElem_mem hjx)
        have h2 := HWT.out
        have h3 := InstD.cmd_wt xs[j]
        omega
      obtain ⟨B1, k1, B2, k2, rfl, _⟩ := InstD.open hrc
      clear e1 e2
      generalize xs[j] = y at *
      obtain ⟨⟨yr, ys⟩, ybal, yvb, yst, ycmd, yseq, ydeps, ysame⟩ := y
      simp only at hkp hkn hq1 hwx
      have HKPj := Lib.hid hkp; clear hkp
      have HKNj := Lib.hid hkn; clear hkn
      have HC := Lib.hid hc; clear hc
      have HRY := Lib.hid hrc; clear hrc
      have H1C := Lib.hid HRY.out.one
      generalize hDj : D j = Dj at HO HKPj HKNj hdl
      generalize hSj : S j = Sj at HKPj HKNj hsr ⊢
      by_cases e1 : yr = xr ∧ ys = xs'
      · obtain ⟨rfl, rfl⟩ := e1
        have hk := HKNj.out (by simp [keepB])
        have hkS := Lib.hid hk; clear hk
        go_wp2_with (first
          | ((with_reducible show wpList _ _ _ ({ dst := _, op := Op.load 38 _, type := _, pos := _, after := _, guard := _ } :: _) _ _); refine wpList_load_row _ (ad.add (j * 16)) rfl _ agg_Inst rfl HC.out ?_)
          | ((with_reducible show wpList _ _ _ ({ dst := _, op := Op.store 38 _ _, type := _, pos := _, after := _, guard := _ } :: _) _ _); refine wpList_store_row _ wr.heap.size 38 0 _ [] [.int .i64 0, .int .i64 0, .int .i64 0, .int .i64 0, .int .i64 0, .int .i64 0, .int .i64 0, .int .i64 0, .string ⟨#[]⟩, .string ⟨#[]⟩, .string ⟨#[]⟩, .int .i64 0, .slice none 0 0, .int .i64 0, .slice none 0 0, .bool false] [] _ rfl rfl agg_Inst (blk_new wr _ _) rfl rfl rfl H1C.out ?_; intro v2 hsb2 hsg; have hvb := blk_app hsb2; have hsb' := (hsb.alloc _).grown hsg (by omega); have hcb' := (hcb.alloc _).grown hsg (by omega); have hbel' := Below.grown (hbel.alloc hsz _) hsg (Nat.le_trans hsz (by simp)) (fun k hk => by injection hk with hk; omega); have hO' := ownsRow_keep (base' := w.heap.size + 1 + 1) (HO.out.alloc _) (w' := v2) (fun b hb => ⟨(HO.out.lt b hb).1, hsg.block b (Nat.lt_of_lt_of_le (HO.out.lt b hb).2 (by simp)) (fun e => by injection e with e; have := (HO.out.lt b hb).2; omega)⟩); have hwv : Below wr.heap.size wr v2 := (Below.grown ((Below.refl _ wr).alloc (Nat.le_refl _) _) hsg (by simp) (fun k hk => by injection hk with hk; omega)); have HWV := Lib.hid hwv; clear hwv; have hid := id_cells HRY.out (blk_cells hvb); obtain ⟨cmx, hcl, hcr, hcc⟩ := cmd_cells HRY.out (blk_cells hvb); have h4 := blk_cell0 hvb 4 rfl; have h13 := blk_cell0 hvb 13 rfl; have HO' := Lib.hid hO'; clear hO' hsb2 hsg)
          | ((with_reducible show wpList _ _ _ ({ dst := _, op := Op.load 26 _, type := _, pos := _, after := _, guard := _ } :: _) _ _); first | refine wpList_load_row _ ⟨wr.heap.size, 0, none⟩ rfl _ agg_Id rfl hid ?_ | refine wpList_load_row _ ⟨w.heap.size, 0, none⟩ rfl _ agg_Id rfl (blk_cells hsb') ?_)
          | ((with_reducible show wpList _ _ _ ({ dst := _, op := Op.load 29 _, type := _, pos := _, after := _, guard := _ } :: _) _ _); first | refine wpList_load_row_g _ (by first | rfl | kernel_rfl) ⟨wr.heap.size, 5, none⟩ rfl cmx agg_Cmd hcl hcc ?_ | refine wpList_load_row_g _ (by first | rfl | kernel_rfl) ⟨w.heap.size + 1, 0, none⟩ rfl csc agg_Cmd hCL (blk_cells hcb') ?_)
          | fail)
        exact ⟨⟨j + 1, by omega, by go_num, by rw [hkS.out.2], by rw [hkS.out.1]; exact HO'.out, hsb', hcb', hbel'⟩, by simp only [intOf]; omega⟩
      have hne : ¬ (IdD.mk yr ys = IdD.mk xr xs') := fun h => e1 ⟨by injection h, by injection h⟩
      clear e1
      by_cases e3 : yst = 0
      · have e3b : (yst == 0) = true := by simpa using e3
        have e3c : (yst != 0) = false := by simpa using e3
        have hk := HKNj.out (by simp [keepB, e3])
        clear e3
        have hkS := Lib.hid hk; clear hk
        go_wp2_with (first
          | ((with_reducible show wpList _ _ _ ({ dst := _, op := Op.load 38 _, type := _, pos := _, after := _, guard := _ } :: _) _ _); refine wpList_load_row _ (ad.add (j * 16)) rfl _ agg_Inst rfl HC.out ?_)
          | ((with_reducible show wpList _ _ _ ({ dst := _, op := Op.store 38 _ _, type := _, pos := _, after := _, guard := _ } :: _) _ _); refine wpList_store_row _ wr.heap.size 38 0 _ [] [.int .i64 0, .int .i64 0, .int .i64 0, .int .i64 0, .int .i64 0, .int .i64 0, .int .i64 0, .int .i64 0, .string ⟨#[]⟩, .string ⟨#[]⟩, .string ⟨#[]⟩, .int .i64 0, .slice none 0 0, .int .i64 0, .slice none 0 0, .bool false] [] _ rfl rfl agg_Inst (blk_new wr _ _) rfl rfl rfl H1C.out ?_; intro v2 hsb2 hsg; have hvb := blk_app hsb2; have hsb' := (hsb.alloc _).grown hsg (by omega); have hcb' := (hcb.alloc _).grown hsg (by omega); have hbel' := Below.grown (hbel.alloc hsz _) hsg (Nat.le_trans hsz (by simp)) (fun k hk => by injection hk with hk; omega); have hO' := ownsRow_keep (base' := w.heap.size + 1 + 1) (HO.out.alloc _) (w' := v2) (fun b hb => ⟨(HO.out.lt b hb).1, hsg.block b (Nat.lt_of_lt_of_le (HO.out.lt b hb).2 (by simp)) (fun e => by injection e with e; have := (HO.out.lt b hb).2; omega)⟩); have hwv : Below wr.heap.size wr v2 := (Below.grown ((Below.refl _ wr).alloc (Nat.le_refl _) _) hsg (by simp) (fun k hk => by injection hk with hk; omega)); have HWV := Lib.hid hwv; clear hwv; have hid := id_cells HRY.out (blk_cells hvb); obtain ⟨cmx, hcl, hcr, hcc⟩ := cmd_cells HRY.out (blk_cells hvb); have h4 := blk_cell0 hvb 4 rfl; have h13 := blk_cell0 hvb 13 rfl; have HO' := Lib.hid hO'; clear hO' hsb2 hsg)
          | ((with_reducible show wpList _ _ _ ({ dst := _, op := Op.load 26 _, type := _, pos := _, after := _, guard := _ } :: _) _ _); first | refine wpList_load_row _ ⟨wr.heap.size, 0, none⟩ rfl _ agg_Id rfl hid ?_ | refine wpList_load_row _ ⟨w.heap.size, 0, none⟩ rfl _ agg_Id rfl (blk_cells hsb') ?_)
          | ((with_reducible show wpList _ _ _ ({ dst := _, op := Op.load 29 _, type := _, pos := _, after := _, guard := _ } :: _) _ _); first | refine wpList_load_row_g _ (by first | rfl | kernel_rfl) ⟨wr.heap.size, 5, none⟩ rfl cmx agg_Cmd hcl hcc ?_ | refine wpList_load_row_g _ (by first | rfl | kernel_rfl) ⟨w.heap.size + 1, 0, none⟩ rfl csc agg_Cmd hCL (blk_cells hcb') ?_)
          | fail)
        all_goals exact ⟨⟨j + 1, by omega, by go_num, by rw [hkS.out.2], by rw [hkS.out.1]; exact HO'.out, hsb', hcb', hbel'⟩, by simp only [intOf]; omega⟩
      · have e3b : (yst == 0) = false := by simpa using e3
        have e3c : (yst != 0) = true := by simpa using e3
        have HE3 := Lib.hid e3; clear e3
        cases hcl2 : clashB c ycmd
        · have hk := HKNj.out (by simp [keepB, hcl2])
          have hkS := Lib.hid hk; clear hk
          go_wp2_with (first
            | ((with_reducible show wpList _ _ _ ({ dst := _, op := Op.load 38 _, type := _, pos := _, after := _, guard := _ } :: _) _ _); refine wpList_load_row _ (ad.add (j * 16)) rfl _ agg_Inst rfl HC.out ?_)
            | ((with_reducible show wpList _ _ _ ({ dst := _, op := Op.store 38 _ _, type := _, pos := _, after := _, guard := _ } :: _) _ _); refine wpList_store_row _ wr.heap.size 38 0 _ [] [.int .i64 0, .int .i64 0, .int .i64 0, .int .i64 0, .int .i64 0, .int .i64 0, .int .i64 0, .int .i64 0, .string ⟨#[]⟩, .string ⟨#[]⟩, .string ⟨#[]⟩, .int .i64 0, .slice none 0 0, .int .i64 0, .slice none 0 0, .bool false] [] _ rfl rfl agg_Inst (blk_new wr _ _) rfl rfl rfl H1C.out ?_; intro v2 hsb2 hsg; have hvb := blk_app hsb2; have hsb' := (hsb.alloc _).grown hsg (by omega); have hcb' := (hcb.alloc _).grown hsg (by omega); have hbel' := Below.grown (hbel.alloc hsz _) hsg (Nat.le_trans hsz (by simp)) (fun k hk => by injection hk with hk; omega); have hO' := ownsRow_keep (base' := w.heap.size + 1 + 1) (HO.out.alloc _) (w' := v2) (fun b hb => ⟨(HO.out.lt b hb).1, hsg.block b (Nat.lt_of_lt_of_le (HO.out.lt b hb).2 (by simp)) (fun e => by injection e with e; have := (HO.out.lt b hb).2; omega)⟩); have hwv : Below wr.heap.size wr v2 := (Below.grown ((Below.refl _ wr).alloc (Nat.le_refl _) _) hsg (by simp) (fun k hk => by injection hk with hk; omega)); have HWV := Lib.hid hwv; clear hwv; have hid := id_cells HRY.out (blk_cells hvb); obtain ⟨cmx, hcl, hcr, hcc⟩ := cmd_cells HRY.out (blk_cells hvb); have h4 := blk_cell0 hvb 4 rfl; have h13 := blk_cell0 hvb 13 rfl; have HO' := Lib.hid hO'; clear hO' hsb2 hsg)
            | ((with_reducible show wpList _ _ _ ({ dst := _, op := Op.load 26 _, type := _, pos := _, after := _, guard := _ } :: _) _ _); first | refine wpList_load_row _ ⟨wr.heap.size, 0, none⟩ rfl _ agg_Id rfl hid ?_ | refine wpList_load_row _ ⟨w.heap.size, 0, none⟩ rfl _ agg_Id rfl (blk_cells hsb') ?_)
            | ((with_reducible show wpList _ _ _ ({ dst := _, op := Op.load 29 _, type := _, pos := _, after := _, guard := _ } :: _) _ _); first | refine wpList_load_row_g _ (by first | rfl | kernel_rfl) ⟨wr.heap.size, 5, none⟩ rfl cmx agg_Cmd hcl hcc ?_ | refine wpList_load_row_g _ (by first | rfl | kernel_rfl) ⟨w.heap.size + 1, 0, none⟩ rfl csc agg_Cmd hCL (blk_cells hcb') ?_)
            | fail)
          any_goals (exfalso; apply hne; rw [IdD.mk.injEq]; constructor <;> assumption; done)
          all_goals
            refine (iClash_any ycmd c cmx csc _ hwx HWC.out (hcr.below HWV.out) (HRC.out.below hbel')).mono ?_
            rintro e v3 ⟨rfl, hb3⟩
            rw [clash_comm, hcl2]
            have hvb3 := hvb.below hb3
            have hid3 := id_cells HRY.out (blk_cells hvb3)
            have h13' := blk_cell0 hvb3 13 rfl
            have hO3 := ownsRow_keep (base' := w.heap.size + 1 + 1) HO'.out (w' := v3) (fun b hb => ⟨(HO'.out.lt b hb).1, hb3.block b (HO'.out.lt b hb).2⟩)
            have hsb3 := hsb'.below hb3
            have hcb3 := hcb'.below hb3
            have hbel3 := hbel'.trans (hb3.mono hbel'.size)
            have HO3 := Lib.hid hO3; clear hO3 hb3
            go_wp2
            exact ⟨⟨j + 1, by omega, by go_num, by rw [hkS.out.2], by rw [hkS.out.1]; exact HO3.out, hsb3, hcb3, hbel3⟩, by simp only [intOf]; omega⟩
        · have hk := HKPj.out (by simp [keepB, hcl2, HE3.out, hne])
          have hkS := Lib.hid hk; clear hk
          go_wp2_with (first
            | ((with_reducible show wpList _ _ _ ({ dst := _, op := Op.load 38 _, type := _, pos := _, after := _, guard := _ } :: _) _ _); refine wpList_load_row _ (ad.add (j * 16)) rfl _ agg_Inst rfl HC.out ?_)
            | ((with_reducible show wpList _ _ _ ({ dst := _, op := Op.store 38 _ _, type := _, pos := _, after := _, guard := _ } :: _) _ _); refine wpList_store_row _ wr.heap.size 38 0 _ [] [.int .i64 0, .int .i64 0, .int .i64 0, .int .i64 0, .int .i64 0, .int .i64 0, .int .i64 0, .int .i64 0, .string ⟨#[]⟩, .string ⟨#[]⟩, .string ⟨#[]⟩, .int .i64 0, .slice none 0 0, .int .i64 0, .slice none 0 0, .bool false] [] _ rfl rfl agg_Inst (blk_new wr _ _) rfl rfl rfl H1C.out ?_; intro v2 hsb2 hsg; have hvb := blk_app hsb2; have hsb' := (hsb.alloc _).grown hsg (by omega); have hcb' := (hcb.alloc _).grown hsg (by omega); have hbel' := Below.grown (hbel.alloc hsz _) hsg (Nat.le_trans hsz (by simp)) (fun k hk => by injection hk with hk; omega); have hO' := ownsRow_keep (base' := w.heap.size + 1 + 1) (HO.out.alloc _) (w' := v2) (fun b hb => ⟨(HO.out.lt b hb).1, hsg.block b (Nat.lt_of_lt_of_le (HO.out.lt b hb).2 (by simp)) (fun e => by injection e with e; have := (HO.out.lt b hb).2; omega)⟩); have hwv : Below wr.heap.size wr v2 := (Below.grown ((Below.refl _ wr).alloc (Nat.le_refl _) _) hsg (by simp) (fun k hk => by injection hk with hk; omega)); have HWV := Lib.hid hwv; clear hwv; have hid := id_cells HRY.out (blk_cells hvb); obtain ⟨cmx, hcl, hcr, hcc⟩ := cmd_cells HRY.out (blk_cells hvb); have h4 := blk_cell0 hvb 4 rfl; have h13 := blk_cell0 hvb 13 rfl; have HO' := Lib.hid hO'; clear hO' hsb2 hsg)
            | ((with_reducible show wpList _ _ _ ({ dst := _, op := Op.load 26 _, type := _, pos := _, after := _, guard := _ } :: _) _ _); first | refine wpList_load_row _ ⟨wr.heap.size, 0, none⟩ rfl _ agg_Id rfl hid ?_ | refine wpList_load_row _ ⟨w.heap.size, 0, none⟩ rfl _ agg_Id rfl (blk_cells hsb') ?_)
            | ((with_reducible show wpList _ _ _ ({ dst := _, op := Op.load 29 _, type := _, pos := _, after := _, guard := _ } :: _) _ _); first | refine wpList_load_row_g _ (by first | rfl | kernel_rfl) ⟨wr.heap.size, 5, none⟩ rfl cmx agg_Cmd hcl hcc ?_ | refine wpList_load_row_g _ (by first | rfl | kernel_rfl) ⟨w.heap.size + 1, 0, none⟩ rfl csc agg_Cmd hCL (blk_cells hcb') ?_)
            | fail)
          any_goals (exfalso; apply hne; rw [IdD.mk.injEq]; constructor <;> assumption; done)
          all_goals
            refine (iClash_any ycmd c cmx csc _ hwx HWC.out (hcr.below HWV.out) (HRC.out.below hbel')).mono ?_
            rintro e v3 ⟨rfl, hb3⟩
            rw [clash_comm, hcl2]
            have hvb3 := hvb.below hb3
            have hid3 := id_cells HRY.out (blk_cells hvb3)
            have h13' := blk_cell0 hvb3 13 rfl
            have hO3 := ownsRow_keep (base' := w.heap.size + 1 + 1) HO'.out (w' := v3) (fun b hb => ⟨(HO'.out.lt b hb).1, hb3.block b (HO'.out.lt b hb).2⟩)
            have hsb3 := hsb'.below hb3
            have hcb3 := hcb'.below hb3
            have hbel3 := hbel'.trans (hb3.mono hbel'.size)
            have HO3 := Lib.hid hO3; clear hO3 hb3
            go_wp2_with (first
              | ((with_reducible show wpList _ _ _ ({ dst := _, op := Op.load 26 _, type := _, pos := _, after := _, guard := _ } :: _) _ _); refine wpList_load_row _ ⟨wr.heap.size, 0, none⟩ rfl _ agg_Id rfl hid3 ?_)
              | (at_builtin; refine wpList_app E_Id _ rfl (.tmp 41) (.tmp 44) rfl (w.heap.size + 1 + 1) _ Dj.length _ rfl (HO3.out.alloc _) _ _ _ _ rfl (Reads.new (e := 26) rfl) (by intro u hu; simp at hu; rcases hu with rfl | rfl <;> rfl) (by omega) (by have h8 := hcb3.lt; simp; omega) ?_; intro v' v4 hown4 hgr4 hat4; have HOWN4 := Lib.hid hown4; clear hown4; have HGR4 := Lib.hid hgr4; clear hgr4 hat4)
              | fail)
            all_goals
              refine ⟨⟨j + 1, by omega, by go_num, by rw [hkS.out.2]; first | rfl | (simp only [Value.int.injEq, true_and]; omega), ?_, keptB hsb3 HGR4.out (fun e => by have h9 := (HO3.out.lt _ e).1; omega), keptB hcb3 HGR4.out (fun e => by have h9 := (HO3.out.lt _ e).1; omega), Below.grown (hbel3.alloc hbel3.size _) HGR4.out (Nat.le_trans hbel3.size (by simp)) (fun k hk => by have h9 := (HO3.out.lt k hk).1; omega)⟩, by simp only [intOf]; omega⟩
              rw [hkS.out.1, List.length_append, idCells_app]
              first | exact HOWN4.out | (have e : yr = xr := by assumption); rw [e]; exact HOWN4.out
    · have hjn : j = n := by omega
      subst hjn
      have h1 : S j = seqL ⟨xr, xs'⟩ c xs := by rw [HS.out]; exact HFD.out.2
      have h2 : D j = depsL ⟨xr, xs'⟩ c xs := by rw [HD.out]; exact HFD.out.1
      rw [h1]
      have hO := HO.out
      rw [h2] at hO
      clear h1 h2
      have hr60 : 0 ≤ seqL ⟨xr, xs'⟩ c xs ∧ seqL ⟨xr, xs'⟩ c xs ≤ 60 := by have h9 := HSEQ.out HOK.out j (by have := HN.out; omega); rw [HFD.out.2] at h9; exact h9
      obtain ⟨Av, cv, rfl, _⟩ := SlR.of_own hO
      have HO2 := Lib.hid hO; clear hO HO
      go_wp2
      go_ret2
      rw [HF.out]
      exact ⟨Av, _, cv, ret_eq (by first | rfl | simp), rfl, mine_ids (ownsRow_keep (base' := w.heap.size) HO2.out (fun b hb => ⟨by have := (HO2.out.lt b hb).1; omega, rfl⟩)) rfl, hbel⟩

end Go.Proofs.YtonaacdefidomaaGreat
