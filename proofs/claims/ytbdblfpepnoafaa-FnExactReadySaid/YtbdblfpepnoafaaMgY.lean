/-
  Rows of Ids that rise: one is known by its members; joined rows, rows without what stands twice. Plain.
  Rows of Ids joined: spec.l8Join. Conditions: bounds on the lengths.
  Rows of Ids joined: spec.JoinIds. Conditions: bounds on the lengths.
  slices.SortFunc laid at this program, in plain words (printed by the kit's tool). No condition.
  slices.SortFunc at rows of Ids, with compareIds. Conditions: the row is the call's own.
  slices.SortFunc at a row of Ids of the call's own. Conditions: as named.
  What slices.Compact leaves of a row of Ids, from its beginning on. Plain.
  A row of Ids of the call's own, while slices.Compact goes over it; the built-in clear at a slice of Ids. Conditions: as named.
  slices.Compact at a row of Ids of the call's own. Conditions: a bound on the length.
  Rows of Ids joined: impl.JoinIds. Conditions: bounds on the lengths.
  The Ids that are reached: the least row that holds an Id's Deps and the Deps of its own. Plain.
  The Deps of an Id that is committed; reached Ids of a row of instances. Plain.
  A queue of Ids in a row of the call's own: its first element taken off, one appended. Conditions: as named.
  The Ids that are reached: spec.l12Find, l12Deps, l12Reach, Reach. Conditions: bounds on the sizes.
  The Ids that are reached: impl.Reach. Conditions: bounds on the sizes.
  The law of XRegion with forks: where two operations that act are free of order (a variable that is made beside calls in a chain), both ways are walked.
  A law for regions that draw their order, with operations that touch no memory (addresses of fields) taken first wherever they stand, then a head in one order, then a tail in one order. Conditions: those that the law's Bool checks ask.
  A law for regions that draw their order: operations whose result hangs on no memory are taken first wherever they stand, then a head in one order, then a tail in one order, which may write whatever it will. Conditions: those that the law's Bool checks ask.
  A law for regions that draw their order: operations whose result hangs on no memory first, then a head with forks (two that act and are free of each other), then a tail in one order, which may write. Conditions: those that the law's Bool checks ask.
  Is an instance ready: spec.Ready and impl.Ready. Conditions: bounds on the sizes.
-/
import Derived.Test.YtbdblfpepnoafaaIds
import Derived.Test.YtbdblfpepnoafaaIdsB
import Derived.Test.YtbdblfpepnoafaaAttrsS
import Derived.Shelf.SlSortCmp.WholeK
import Derived.Ground.SlsfProg
import Derived.Test.YtbdblfpepnoafaaProg
import Derived.Test.YtbdblfpepnoafaaAttrs
import Derived.Test.YtbdblfpepnoafaaInstAt
import Derived.ArgAppend
import Derived.Test.YtbdblfpepnoafaaInstAtI
import Derived.Test.YtbdblfpepnoafaaRegion
namespace Go.Proofs.Ytbdblfpepnoafaa
open Go.RowKit

theorem idLt_iff {a b : IdD} : idLt a b = true ↔ a.rep < b.rep ∨ a.rep = b.rep ∧ a.slot < b.slot := by simp [idLt]
theorem idLt_iff' {a b : IdD} : idLt a b = false ↔ ¬ (a.rep < b.rep ∨ a.rep = b.rep ∧ a.slot < b.slot) := by simp only [idLt, decide_eq_false_iff_not]
theorem idLt_irrefl (a : IdD) : idLt a a = false := idLt_iff'.2 (by omega)
theorem idLt_trans {a b c : IdD} (h : idLt a b = true) (k : idLt b c = true) : idLt a c = true := by
  rw [idLt_iff] at *; omega
theorem idLt_ntrans {a b c : IdD} (h : idLt a b = false) (k : idLt b c = false) : idLt a c = false := by
  rw [idLt_iff'] at *; omega
theorem idLt_asymm {a b : IdD} (h : idLt a b = true) : idLt b a = false := by
  rw [idLt_iff] at h; rw [idLt_iff']; omega
theorem idD_ext {a b : IdD} (h1 : a.rep = b.rep) (h2 : a.slot = b.slot) : a = b := by
  obtain ⟨ar, as'⟩ := a
  obtain ⟨br, bs'⟩ := b
  simp only at h1 h2
  subst h1 h2
  rfl
theorem idLt_eq {a b : IdD} (h : idLt a b = false) (k : idLt b a = false) : a = b := by
  rw [idLt_iff'] at *
  exact idD_ext (by omega) (by omega)
def Asc (xs : List IdD) : Prop := xs.Pairwise fun a b => idLt a b = true
theorem Asc.nil : Asc [] := List.Pairwise.nil
theorem asc_cons {x : IdD} {xs : List IdD} : Asc (x :: xs) ↔ (∀ y ∈ xs, idLt x y = true) ∧ Asc xs := List.pairwise_cons
theorem asc_ext : ∀ {xs ys : List IdD}, Asc xs → Asc ys → (∀ x, x ∈ xs ↔ x ∈ ys) → xs = ys
  | [], [], _, _, _ => rfl
  | [], y :: ys, _, _, h => absurd ((h y).2 (by simp)) (by simp)
  | x :: xs, [], _, _, h => absurd ((h x).1 (by simp)) (by simp)
  | x :: xs, y :: ys, hx, hy, h => by
    obtain ⟨hx1, hx2⟩ := asc_cons.1 hx
    obtain ⟨hy1, hy2⟩ := asc_cons.1 hy
    have he : x = y := by
      rcases List.mem_cons.1 ((h x).1 (by simp)) with e | e
      · exact e
      · rcases List.mem_cons.1 ((h y).2 (by simp)) with e2 | e2
        · exact e2.symm
        · have h1 := hy1 x e
          have h2 := hx1 y e2
          rw [idLt_asymm h1] at h2; cases h2
    subst he
    congr 1
    refine asc_ext hx2 hy2 fun z => ⟨fun hz => ?_, fun hz => ?_⟩
    · rcases List.mem_cons.1 ((h z).1 (List.mem_cons_of_mem _ hz)) with e | e
      · subst e
        have := hx1 z hz
        rw [idLt_irrefl] at this; cases this
      · exact e
    · rcases List.mem_cons.1 ((h z).2 (List.mem_cons_of_mem _ hz)) with e | e
      · subst e
        have := hy1 z hz
        rw [idLt_irrefl] at this; cases this
      · exact e
theorem asc_nodup {xs : List IdD} (h : Asc xs) : xs.Nodup := h.imp fun {a b} hab e => by subst e; rw [idLt_irrefl] at hab; cases hab
theorem ids_good {xs : List IdD} (h : idsOkB xs = true) : idsGood xs xs.length := by simpa [idsOkB] using h
theorem ids_asc {xs : List IdD} (h : idsOkB xs = true) : Asc xs := by
  have hg := ids_good h
  refine List.pairwise_iff_getElem.2 fun i j hi hj hij => ?_
  induction j with
  | zero => omega
  | succ j ih =>
    obtain ⟨x, hx, _, hl⟩ := hg (j + 1) hj
    have hjj : xs[j]? = some xs[j] := List.getElem?_eq_getElem (by omega)
    have h1 := hl xs[j] (by omega) hjj
    rw [List.getElem?_eq_getElem hj] at hx
    injection hx with hx
    subst hx
    rcases Nat.lt_or_ge i j with h2 | h2
    · exact idLt_trans (ih (by omega) h2) h1
    · have : i = j := by omega
      subst this
      exact h1
theorem ids_ok {xs : List IdD} (h : idsOkB xs = true) : ∀ x ∈ xs, idOkB x = true := fun x hx => by
  obtain ⟨i, hi, rfl⟩ := List.getElem_of_mem hx
  obtain ⟨y, hy, h1, _⟩ := ids_good h i hi
  rw [List.getElem?_eq_getElem hi] at hy
  injection hy with hy
  subst hy
  exact h1
theorem ids_of {xs : List IdD} (h1 : Asc xs) (h2 : ∀ x ∈ xs, idOkB x = true) : idsOkB xs = true := by
  refine idsOkB_yes fun i hi => ⟨xs[i], List.getElem?_eq_getElem hi, h2 _ (List.getElem_mem hi), fun y h0 hy => ?_⟩
  rw [List.getElem?_eq_getElem (by omega)] at hy
  injection hy with hy
  subst hy
  exact List.pairwise_iff_getElem.1 h1 (i - 1) i (by omega) hi (by omega)
/-- rows that rise, joined -/
def joinF : List IdD → List IdD → List IdD
  | [], b => b
  | x :: a, [] => x :: a
  | x :: a, y :: b => if idLt x y = true then x :: joinF a (y :: b) else if x = y then y :: joinF a b else y :: joinF (x :: a) b
termination_by a b => a.length + b.length
theorem joinF_nil (b : List IdD) : joinF [] b = b := by rw [joinF]
theorem joinF_nil2 (a : List IdD) : joinF a [] = a := by cases a <;> rw [joinF]
theorem joinF_lt {x y : IdD} {a b : List IdD} (h : idLt x y = true) : joinF (x :: a) (y :: b) = x :: joinF a (y :: b) := by rw [joinF, if_pos h]
theorem joinF_eq {x : IdD} {a b : List IdD} : joinF (x :: a) (x :: b) = x :: joinF a b := by rw [joinF, if_neg (by simp [idLt_irrefl]), if_pos rfl]
theorem joinF_gt {x y : IdD} {a b : List IdD} (h : idLt x y = false) (h2 : ¬ x = y) : joinF (x :: a) (y :: b) = y :: joinF (x :: a) b := by rw [joinF, if_neg (by simp [h]), if_neg h2]
theorem mem_joinF {z : IdD} : ∀ {a b : List IdD}, z ∈ joinF a b ↔ z ∈ a ∨ z ∈ b
  | [], b => by simp [joinF_nil]
  | x :: a, [] => by simp [joinF_nil2]
  | x :: a, y :: b => by
    by_cases h : idLt x y = true
    · rw [joinF_lt h, List.mem_cons, mem_joinF (a := a) (b := y :: b), List.mem_cons (b := x), or_assoc]
    · have h : idLt x y = false := by simpa using h
      by_cases h2 : x = y
      · subst h2
        rw [joinF_eq, List.mem_cons, mem_joinF (a := a) (b := b), List.mem_cons, List.mem_cons]
        exact ⟨fun h => h.elim (fun h => .inl (.inl h)) (fun h => h.elim (fun h => .inl (.inr h)) (fun h => .inr (.inr h))), fun h => h.elim (fun h => h.elim .inl (fun h => .inr (.inl h))) (fun h => h.elim .inl (fun h => .inr (.inr h)))⟩
      · rw [joinF_gt h h2, List.mem_cons, mem_joinF (a := x :: a) (b := b), List.mem_cons (b := y)]
        exact ⟨fun h => h.elim (fun h => .inr (.inl h)) (fun h => h.elim .inl (fun h => .inr (.inr h))), fun h => h.elim (fun h => .inr (.inl h)) (fun h => h.elim .inl (fun h => .inr (.inr h)))⟩
termination_by a b => a.length + b.length
theorem asc_joinF : ∀ {a b : List IdD}, Asc a → Asc b → Asc (joinF a b)
  | [], b, _, hb => by rw [joinF_nil]; exact hb
  | x :: a, [], ha, _ => by rw [joinF_nil2]; exact ha
  | x :: a, y :: b, ha, hb => by
    obtain ⟨ha1, ha2⟩ := asc_cons.1 ha
    obtain ⟨hb1, hb2⟩ := asc_cons.1 hb
    by_cases h : idLt x y = true
    · rw [joinF_lt h]
      refine asc_cons.2 ⟨fun z hz => ?_, asc_joinF ha2 hb⟩
      rcases mem_joinF.1 hz with hz | hz
      · exact ha1 z hz
      · rcases List.mem_cons.1 hz with rfl | hz
        · exact h
        · exact idLt_trans h (hb1 z hz)
    · have h : idLt x y = false := by simpa using h
      by_cases h2 : x = y
      · subst h2
        rw [joinF_eq]
        refine asc_cons.2 ⟨fun z hz => ?_, asc_joinF ha2 hb2⟩
        rcases mem_joinF.1 hz with hz | hz
        · exact ha1 z hz
        · exact hb1 z hz
      · rw [joinF_gt h h2]
        have hyx : idLt y x = true := by
          cases hh : idLt y x with
          | true => rfl
          | false => exact absurd (idLt_eq h hh) h2
        refine asc_cons.2 ⟨fun z hz => ?_, asc_joinF ha hb2⟩
        rcases mem_joinF.1 hz with hz | hz
        · rcases List.mem_cons.1 hz with rfl | hz
          · exact hyx
          · exact idLt_trans hyx (ha1 z hz)
        · exact hb1 z hz
termination_by a b => a.length + b.length
theorem joinF_len : ∀ (a b : List IdD), (joinF a b).length ≤ a.length + b.length
  | [], b => by rw [joinF_nil]; simp
  | x :: a, [] => by rw [joinF_nil2]; simp
  | x :: a, y :: b => by
    by_cases h : idLt x y = true
    · have := joinF_len a (y :: b)
      rw [joinF_lt h]; simp only [List.length_cons] at *; omega
    · have h : idLt x y = false := by simpa using h
      by_cases h2 : x = y
      · subst h2
        have := joinF_len a b
        rw [joinF_eq]; simp only [List.length_cons] at *; omega
      · have := joinF_len (x :: a) b
        rw [joinF_gt h h2]; simp only [List.length_cons] at *; omega
termination_by a b => a.length + b.length
/-- of what stands twice side by side, one -/
def compactF : List IdD → List IdD
  | [] => []
  | [a] => [a]
  | a :: b :: r => if a = b then compactF (b :: r) else a :: compactF (b :: r)
theorem mem_compactF {z : IdD} : ∀ {xs : List IdD}, z ∈ compactF xs ↔ z ∈ xs
  | [] => by rw [compactF]
  | [a] => by rw [compactF]
  | a :: b :: r => by
    rw [compactF]
    split
    · rename_i h
      subst h
      rw [mem_compactF (xs := a :: r)]
      simp
    · rw [List.mem_cons, mem_compactF (xs := b :: r), List.mem_cons (b := a)]
def Wk (xs : List IdD) : Prop := xs.Pairwise fun a b => idLt b a = false
theorem asc_compactF : ∀ {xs : List IdD}, Wk xs → Asc (compactF xs)
  | [], _ => by rw [compactF]; exact Asc.nil
  | [a], _ => by rw [compactF]; exact asc_cons.2 ⟨by simp, Asc.nil⟩
  | a :: b :: r, h => by
    obtain ⟨h1, h2⟩ := List.pairwise_cons.1 h
    rw [compactF]
    split
    · exact asc_compactF h2
    · rename_i hne
      refine asc_cons.2 ⟨fun z hz => ?_, asc_compactF h2⟩
      have hz' := mem_compactF.1 hz
      have hza := h1 z hz'
      cases hh : idLt a z with
      | true => rfl
      | false =>
        exfalso
        have e := idLt_eq hh hza
        subst e
        rcases List.mem_cons.1 hz' with e | hz2
        · exact hne e
        · have h3 := (List.pairwise_cons.1 h2).1 a hz2
          exact hne (idLt_eq (h1 b (by simp) |> fun _ => h3) (h1 b (by simp)))
theorem sorted_join {a b xs : List IdD} (ha : Asc a) (hb : Asc b) (hp : xs.Perm (a ++ b)) (hs : Wk xs) : compactF xs = joinF a b :=
  asc_ext (asc_compactF hs) (asc_joinF ha hb) fun x => by rw [mem_compactF, hp.mem_iff, List.mem_append, mem_joinF]
theorem sorted_asc {xs ys : List IdD} (hn : ys.Nodup) (hp : xs.Perm ys) (hs : Wk xs) : Asc xs := by
  have hnd : xs.Nodup := hp.nodup_iff.2 hn
  have := List.Pairwise.and hs hnd
  refine this.imp fun {a b} hab => ?_
  cases hh : idLt a b with
  | true => rfl
  | false => exact absurd (idLt_eq hh hab.1) hab.2
noncomputable def fJoinIds (a b : List IdD) : List IdD := if idsOkB a = true ∧ idsOkB b = true then joinF a b else []

end Go.Proofs.Ytbdblfpepnoafaa
namespace Go.Proofs.Ytbdblfpepnoafaa
open Go.RowKit

theorem rep_ids {B : Nat → Prop} {w : World} : ∀ {xs : List IdD} {cells : List Value}, Rep B w (cat IdD.c xs) cells → cells = idCells xs
  | [], _, h => by simp only [cat, Rep] at h; rw [h]; rfl
  | s :: r, _, h => by
    rw [cat_cons] at h
    obtain ⟨c1, c2, rfl, h1, h2⟩ := Rep.app.1 h
    rw [IdD.open h1, rep_ids h2]
    rfl
theorem idCells_drop : ∀ (xs : List IdD) (i : Nat), (idCells xs).drop (i * 2) = idCells (xs.drop i)
  | xs, 0 => by simp
  | [], i + 1 => by simp [idCells]
  | x :: xs, i + 1 => by
    rw [List.drop_succ_cons, ← idCells_drop xs i, show (i + 1) * 2 = i * 2 + 2 by omega, idCells]
    rfl
theorem reads_drop {w : World} {ad : Addr} {n i : Nat} {cells : List Value} (h : Reads w 2 (some ad) n cells) (hi : i ≤ n) : Reads w 2 (some (ad.add (i * 2))) (n - i) (cells.drop (i * 2)) := by
  refine ⟨by rw [List.length_drop, h.1]; omega, fun h0 => ⟨_, rfl, fun j u hu => ?_⟩⟩
  obtain ⟨ad', e, hc⟩ := h.2 (by omega)
  injection e with e
  subst e
  rw [List.getElem?_drop] at hu
  rw [add_of_add]
  exact hc _ _ hu
theorem _root_.Go.World.ownsRow.keptBelowJ {w w' : World} {base e sz n : Nat} {v : Value} {xs : List Value} (h : w.ownsRow base e sz v n xs) (hb : Below w.heap.size w w') : w'.ownsRow base e sz v n xs :=
  ownsRow_keep h (fun b hk => ⟨(h.lt b hk).1, hb.block b (h.lt b hk).2⟩)

set_option maxRecDepth 100000 in
set_option maxHeartbeats 8000000 in
theorem l8Join_any (xs ys : List IdD) (A A' : Option Addr) (n n' c c' : Nat) (w : World) (hn : n = xs.length) (hn' : n' = ys.length) (hwt : n ≤ 1048576) (hwt' : n' ≤ 1048576) (hcap : n ≤ c) (h : Rep anyB w (.sl 32 2 n (cat IdD.c xs) .nil) [.slice A n c]) (h' : Rep anyB w (.sl 32 2 n' (cat IdD.c ys) .nil) [.slice A' n' c']) :
    Calls Try.prog 108 #[.slice A n c, .slice A' n' c'] w fun e w' => ∃ A2 c2, e = .returned (.slice A2 (joinF xs ys).length c2) ∧ w'.ownsRow w.heap.size 32 2 (.slice A2 (joinF xs ys).length c2) (joinF xs ys).length (idCells (joinF xs ys)) ∧ Below w.heap.size w w' := by
  have HN := Lib.hid hn; clear hn
  have HN' := Lib.hid hn'; clear hn'
  have HR := Lib.hid h; clear h
  have HR' := Lib.hid h'; clear h'
  have htl := joinF_len xs ys
  obtain ⟨T, hT⟩ : ∃ T, T = joinF xs ys := ⟨_, rfl⟩
  rw [← hT] at htl ⊢
  have htl2 : T.length ≤ 2097152 := by have := HN.out; have := HN'.out; omega
  have HT := Lib.hid hT; clear hT htl
  go_enter Try.func108, Try.ntmps108
  go_wp2
  go_loopw [5, 6, 7] (fun oo ii kk wr => ∃ (acc : List IdD) (q i k : Nat) (Av : Option Addr) (kv : Nat), i ≤ n ∧ k ≤ n' ∧ q = acc.length ∧ q ≤ 2097152 ∧ oo = .slice Av q kv ∧ ii = .int .i64 (i : Int) ∧ kk = .int .i64 (k : Int) ∧ acc ++ joinF (xs.drop i) (ys.drop k) = T ∧ wr.ownsRow w.heap.size 32 2 (.slice Av q kv) q (idCells acc) ∧ Below w.heap.size w wr) (fun _ _ kk _ => n' - (intOf kk).toNat)
  case atStart => exact ⟨[], 0, 0, 0, some ⟨w.heap.size, 0, none⟩, 0, Nat.zero_le _, Nat.zero_le _, rfl, by omega, rfl, rfl, rfl, by rw [HT.out]; rfl, World.ownsRow_made w #[] 0 (Nat.le_refl _) (by simp [maxLen]) rfl, (by repeat' (first | with_reducible exact Below.refl _ _ | with_reducible exact BW.out | with_reducible refine Below.setCell ?_ ?_ _ | with_reducible refine Below.alloc ?_ ?_ _ | with_reducible refine Below.drew ?_ | (simp; done) | (simp; omega) | omega))⟩
  case round =>
    obtain ⟨acc, q, i, k, Av, kv, hi, hk, hq, hqb, rfl, rfl, rfl, hT, hown, hbw⟩ := hrel
    by_cases hlt : k < n'
    · have hky : k < ys.length := by have := HN'.out; omega
      have hdy : ys.drop k = ys[k] :: ys.drop (k + 1) := List.drop_eq_getElem_cons hky
      rw [hdy] at hT
      obtain ⟨y, hy⟩ : ∃ y, y = ys[k] := ⟨_, rfl⟩
      rw [← hy] at hT
      have HY := Lib.hid hy; clear hy hdy
      have hT0 := hT; clear hT
      have HT0 := Lib.hid hT0; clear hT0
      have hown0 := hown; clear hown
      have HO0 := Lib.hid hown0; clear hown0
      have BW0 := Lib.hid hbw; clear hbw
      have HQ0 := Lib.hid hq; clear hq
      go_wp2
      go_loopw [5, 6] (fun oo ii wr => ∃ (acc : List IdD) (q i : Nat) (Av : Option Addr) (kv : Nat), i ≤ n ∧ q = acc.length ∧ q ≤ 2097152 ∧ oo = .slice Av q kv ∧ ii = .int .i64 (i : Int) ∧ acc ++ joinF (xs.drop i) (y :: ys.drop (k + 1)) = T ∧ wr.ownsRow w.heap.size 32 2 (.slice Av q kv) q (idCells acc) ∧ Below w.heap.size w wr) (fun _ ii _ => n - (intOf ii).toNat)
      case atStart => exact ⟨acc, q, i, Av, kv, hi, HQ0.out, hqb, rfl, rfl, HT0.out, HO0.out, BW0.out⟩
      case round =>
        clear HT0 HO0 BW0 HQ0 hi hqb
        obtain ⟨acc, q, i, Av, kv, hi, hq, hqb, rfl, rfl, hT, hown, hbw⟩ := hrel
        have HTT := Lib.hid hT
        have HO := Lib.hid hown; clear hown
        have BW := Lib.hid hbw; clear hbw
        have HQ := Lib.hid hq; clear hq
        obtain ⟨ad', cy, rfl, _, _, hrc, hl, hc⟩ := (HR'.out.below BW.out).elem IdD.width k hky HN'.out
        rw [← HY.out] at hrc
        obtain rfl := IdD.open hrc
        have HCY := Lib.hid hc
        have HRY := Lib.hid hrc
        clear hc hrc hl
        obtain ⟨yr, ysl⟩ := y
        simp only [] at HCY
        by_cases hin : i < n
        · have hix : i < xs.length := by have := HN.out; omega
          have hdx : xs.drop i = xs[i] :: xs.drop (i + 1) := List.drop_eq_getElem_cons hix
          obtain ⟨ad, cx, rfl, _, _, hrc, hl, hc⟩ := (HR.out.below BW.out).elem IdD.width i hix HN.out
          rw [hdx] at hT
          obtain rfl := IdD.open hrc
          generalize xs[i] = x at *
          obtain ⟨xr, xsl⟩ := x
          simp only [] at hc
          have HCX := Lib.hid hc
          have HRX := Lib.hid hrc
          have HDX := Lib.hid hdx
          clear hc hrc hl hdx
          have hlen := congrArg List.length hT
          rw [List.length_append] at hlen
          have hq1 := HQ.out
          cases hlt2 : idLt ⟨xr, xsl⟩ ⟨yr, ysl⟩
          case true =>
            rw [joinF_lt hlt2] at hT hlen
            simp only [List.length_cons] at hlen
            have hqq : q + 1 ≤ 2097152 := by omega
            have HLT := Lib.hid hlt2; clear hlt2
            have HTn := Lib.hid (show (acc ++ [⟨xr, xsl⟩]) ++ joinF (xs.drop (i + 1)) (⟨yr, ysl⟩ :: ys.drop (k + 1)) = T by rw [← hT, List.append_assoc]; rfl)
            clear hT hlen hq1
            go_wp2
            refine wp_region_x 15 [0, 1, 2, 3, 4, 5, 6, 7, 8, 9, 10, 11, 12, 13, 14] (by kernel_rfl) (by kernel_rfl) ?_
            iterate 8 (refine wpX_quiet rfl (by kernel_rfl) rfl ?_; go_wp2; refine ⟨rfl, ?_⟩)
            refine wpX_quiet rfl (by kernel_rfl) rfl ?_; refine wpList_load_row_g _ rfl (ad.add (i * 2)) rfl [.int .i64 xr, .int .i64 xsl] agg_Id rfl HCX.out ?_; go_wp2; refine ⟨rfl, ?_⟩
            iterate 3 (refine wpX_quiet rfl (by kernel_rfl) rfl ?_; go_wp2; refine ⟨rfl, ?_⟩)
            refine wpX_quiet rfl (by kernel_rfl) rfl ?_; refine wpList_load_row_g _ rfl (ad'.add (k * 2)) rfl [.int .i64 yr, .int .i64 ysl] agg_Id rfl HCY.out ?_; go_wp2; refine ⟨rfl, ?_⟩
            refine wpX_actor rfl (by kernel_rfl) ?_; go_wp2_with fail
            refine (l8Less_any ⟨xr, xsl⟩ ⟨yr, ysl⟩ [.int .i64 xr, .int .i64 xsl] [.int .i64 yr, .int .i64 ysl] _ HRX.out.drew HRY.out.drew).mono ?_; rintro e v2 ⟨rfl, hb⟩
            rw [HLT.out]
            have HB := Lib.hid hb
            have HO2 := Lib.hid (HO.out.drew.keptBelowJ hb)
            have BW2 := Lib.hid (show Below w.heap.size w v2 from BW.out.trans ((below_drewL hb).mono BW.out.size))
            have HCX2 := Lib.hid (cells_below HCX.out (below_drewL hb))
            have HCY2 := Lib.hid (cells_below HCY.out (below_drewL hb))
            clear hb
            go_wp2
            refine ⟨Ext.of_below HB.out, ?_⟩
            iterate 1 (refine wpX_quiet rfl (by kernel_rfl) rfl ?_; go_wp2; refine ⟨rfl, ?_⟩)
            refine wpX_nil ?_; simp only [List.drop_succ_cons, List.drop_zero]
            go_wp2_with (first | ((with_reducible show wpList _ _ _ ({ dst := _, op := Op.load 32 _, type := _, pos := _, after := _, guard := _ } :: _) _ _); refine wpList_load_row _ (ad.add (i * 2)) rfl [.int .i64 xr, .int .i64 xsl] agg_Id rfl HCX2.out ?_) | (at_builtin; go_must (refine wpList_app E_Id _ rfl _ _ rfl w.heap.size _ q _ rfl (HO2.out.alloc _) _ _ _ _ rfl (Reads.new rfl) (by simp [Value.oneCell']) (by omega) (Nat.le_trans BW2.out.size (by simp)) ?_; intro vv w3 hown3 hg3 hat3; obtain ⟨Av3, kv3, rfl, _⟩ := SlR.of_own hown3; have HO3 := Lib.hid hown3; have HB3 := Lib.hid (Below.grown ((BW2.out).alloc (BW2.out).size _) hg3 (Nat.le_trans (BW2.out).size (by simp)) (fun k hk => (HO2.out.lt k hk).1)); clear hown3 hg3 hat3)) | fail)
            exact ⟨⟨acc ++ [⟨xr, xsl⟩], q + 1, i + 1, Av3, kv3, by omega, by rw [List.length_append, ← HQ.out]; rfl, hqq, rfl, by go_num, HTn.out, by rw [idCells_app]; exact HO3.out, HB3.out⟩, by simp only [intOf]; omega⟩
          case false =>
            have HLT := Lib.hid hlt2
            by_cases hxy : (⟨xr, xsl⟩ : IdD) = ⟨yr, ysl⟩
            · rw [hxy, joinF_eq] at hT
              rw [hxy, joinF_eq] at hlen
              simp only [List.length_cons] at hlen
              have hqq : q + 1 ≤ 2097152 := by omega
              injection hxy with e1 e2
              subst e1 e2
              have HTn := Lib.hid (show (acc ++ [⟨xr, xsl⟩]) ++ joinF (xs.drop (i + 1)) (ys.drop (k + 1)) = T by rw [← hT, List.append_assoc]; rfl)
              clear hT hlen hq1 hlt2
              go_wp2
              refine wp_region_x 15 [0, 1, 2, 3, 4, 5, 6, 7, 8, 9, 10, 11, 12, 13, 14] (by kernel_rfl) (by kernel_rfl) ?_
              iterate 8 (refine wpX_quiet rfl (by kernel_rfl) rfl ?_; go_wp2; refine ⟨rfl, ?_⟩)
              refine wpX_quiet rfl (by kernel_rfl) rfl ?_; refine wpList_load_row_g _ rfl (ad.add (i * 2)) rfl [.int .i64 xr, .int .i64 xsl] agg_Id rfl HCX.out ?_; go_wp2; refine ⟨rfl, ?_⟩
              iterate 3 (refine wpX_quiet rfl (by kernel_rfl) rfl ?_; go_wp2; refine ⟨rfl, ?_⟩)
              refine wpX_quiet rfl (by kernel_rfl) rfl ?_; refine wpList_load_row_g _ rfl (ad'.add (k * 2)) rfl [.int .i64 xr, .int .i64 xsl] agg_Id rfl HCY.out ?_; go_wp2; refine ⟨rfl, ?_⟩
              refine wpX_actor rfl (by kernel_rfl) ?_; go_wp2_with fail
              refine (l8Less_any ⟨xr, xsl⟩ ⟨xr, xsl⟩ [.int .i64 xr, .int .i64 xsl] [.int .i64 xr, .int .i64 xsl] _ HRX.out.drew HRY.out.drew).mono ?_; rintro e v2 ⟨rfl, hb⟩
              rw [HLT.out]
              have HB := Lib.hid hb
              have HO2 := Lib.hid (HO.out.drew.keptBelowJ hb)
              have BW2 := Lib.hid (show Below w.heap.size w v2 from BW.out.trans ((below_drewL hb).mono BW.out.size))
              have HCX2 := Lib.hid (cells_below HCX.out (below_drewL hb))
              have HCY2 := Lib.hid (cells_below HCY.out (below_drewL hb))
              clear hb
              go_wp2
              refine ⟨Ext.of_below HB.out, ?_⟩
              iterate 1 (refine wpX_quiet rfl (by kernel_rfl) rfl ?_; go_wp2; refine ⟨rfl, ?_⟩)
              refine wpX_nil ?_; simp only [List.drop_succ_cons, List.drop_zero]
              go_wp2
              refine wp_region_x 13 [0, 1, 2, 3, 4, 5, 6, 7, 8, 9, 10, 11, 12] (by kernel_rfl) (by kernel_rfl) ?_
              iterate 8 (refine wpX_quiet rfl (by kernel_rfl) rfl ?_; go_wp2; refine ⟨rfl, ?_⟩)
              refine wpX_quiet rfl (by kernel_rfl) rfl ?_; refine wpList_load_row_g _ rfl (ad.add (i * 2)) rfl [.int .i64 xr, .int .i64 xsl] agg_Id rfl HCX2.out ?_; go_wp2; refine ⟨rfl, ?_⟩
              iterate 3 (refine wpX_quiet rfl (by kernel_rfl) rfl ?_; go_wp2; refine ⟨rfl, ?_⟩)
              refine wpX_quiet rfl (by kernel_rfl) rfl ?_; refine wpList_load_row_g _ rfl (ad'.add (k * 2)) rfl [.int .i64 xr, .int .i64 xsl] agg_Id rfl HCY2.out ?_; go_wp2; refine ⟨rfl, ?_⟩
              refine wpX_nil ?_; simp only [List.drop_succ_cons, List.drop_zero]
              go_wp2_with (first | ((with_reducible show wpList _ _ _ ({ dst := _, op := Op.load 32 _, type := _, pos := _, after := _, guard := _ } :: _) _ _); refine wpList_load_row _ (ad'.add (k * 2)) rfl [.int .i64 xr, .int .i64 xsl] agg_Id rfl HCY2.out ?_) | (at_builtin; go_must (refine wpList_app E_Id _ rfl _ _ rfl w.heap.size _ q _ rfl ((HO2.out.alloc _).drew) _ _ _ _ rfl (Reads.new rfl) (by simp [Value.oneCell']) (by omega) (Nat.le_trans BW2.out.size (by simp)) ?_; intro vv w3 hown3 hg3 hat3; obtain ⟨Av3, kv3, rfl, _⟩ := SlR.of_own hown3; have HO3 := Lib.hid hown3; have HB3 := Lib.hid (Below.grown (((BW2.out).alloc (BW2.out).size _).drew) hg3 (Nat.le_trans (BW2.out).size (by simp)) (fun k hk => (HO2.out.lt k hk).1)); clear hown3 hg3 hat3)) | fail)
              exact ⟨⟨acc ++ [⟨xr, xsl⟩], q + 1, i + 1, k + 1, Av3, kv3, by omega, by omega, by rw [List.length_append, ← HQ.out]; rfl, by omega, rfl, by go_num, by go_num, HTn.out, by rw [idCells_app]; exact HO3.out, HB3.out⟩, by simp only [intOf]; omega⟩
            · skip
              rw [joinF_gt hlt2 hxy] at hT hlen
              simp only [List.length_cons] at hlen
              have hqq : q + 1 ≤ 2097152 := by omega
              have HTn := Lib.hid (show (acc ++ [⟨yr, ysl⟩]) ++ joinF (⟨xr, xsl⟩ :: xs.drop (i + 1)) (ys.drop (k + 1)) = T by rw [← hT, List.append_assoc]; rfl)
              rw [← HDX.out] at HTn
              clear hT hlen hq1 hlt2
              by_cases e1 : xr = yr
              · skip
                subst e1
                have e2 : (xsl == ysl) = false := by simp only [beq_eq_false_iff_ne]; intro h; exact hxy (by rw [h])
                have e3 : (ysl == xsl) = false := by simp only [beq_eq_false_iff_ne]; intro h; exact hxy (by rw [h])
                clear hxy
                go_wp2
                refine wp_region_x 15 [0, 1, 2, 3, 4, 5, 6, 7, 8, 9, 10, 11, 12, 13, 14] (by kernel_rfl) (by kernel_rfl) ?_
                iterate 8 (refine wpX_quiet rfl (by kernel_rfl) rfl ?_; go_wp2; refine ⟨rfl, ?_⟩)
                refine wpX_quiet rfl (by kernel_rfl) rfl ?_; refine wpList_load_row_g _ rfl (ad.add (i * 2)) rfl [.int .i64 xr, .int .i64 xsl] agg_Id rfl HCX.out ?_; go_wp2; refine ⟨rfl, ?_⟩
                iterate 3 (refine wpX_quiet rfl (by kernel_rfl) rfl ?_; go_wp2; refine ⟨rfl, ?_⟩)
                refine wpX_quiet rfl (by kernel_rfl) rfl ?_; refine wpList_load_row_g _ rfl (ad'.add (k * 2)) rfl [.int .i64 xr, .int .i64 ysl] agg_Id rfl HCY.out ?_; go_wp2; refine ⟨rfl, ?_⟩
                refine wpX_actor rfl (by kernel_rfl) ?_; go_wp2_with fail
                refine (l8Less_any ⟨xr, xsl⟩ ⟨xr, ysl⟩ [.int .i64 xr, .int .i64 xsl] [.int .i64 xr, .int .i64 ysl] _ HRX.out.drew HRY.out.drew).mono ?_; rintro e v2 ⟨rfl, hb⟩
                rw [HLT.out]
                have HB := Lib.hid hb
                have HO2 := Lib.hid (HO.out.drew.keptBelowJ hb)
                have BW2 := Lib.hid (show Below w.heap.size w v2 from BW.out.trans ((below_drewL hb).mono BW.out.size))
                have HCX2 := Lib.hid (cells_below HCX.out (below_drewL hb))
                have HCY2 := Lib.hid (cells_below HCY.out (below_drewL hb))
                clear hb
                go_wp2
                refine ⟨Ext.of_below HB.out, ?_⟩
                iterate 1 (refine wpX_quiet rfl (by kernel_rfl) rfl ?_; go_wp2; refine ⟨rfl, ?_⟩)
                refine wpX_nil ?_; simp only [List.drop_succ_cons, List.drop_zero]
                go_wp2
                refine wp_region_x 13 [0, 1, 2, 3, 4, 5, 6, 7, 8, 9, 10, 11, 12] (by kernel_rfl) (by kernel_rfl) ?_
                iterate 8 (refine wpX_quiet rfl (by kernel_rfl) rfl ?_; go_wp2; refine ⟨rfl, ?_⟩)
                refine wpX_quiet rfl (by kernel_rfl) rfl ?_; refine wpList_load_row_g _ rfl (ad.add (i * 2)) rfl [.int .i64 xr, .int .i64 xsl] agg_Id rfl HCX2.out ?_; go_wp2; refine ⟨rfl, ?_⟩
                iterate 3 (refine wpX_quiet rfl (by kernel_rfl) rfl ?_; go_wp2; refine ⟨rfl, ?_⟩)
                refine wpX_quiet rfl (by kernel_rfl) rfl ?_; refine wpList_load_row_g _ rfl (ad'.add (k * 2)) rfl [.int .i64 xr, .int .i64 ysl] agg_Id rfl HCY2.out ?_; go_wp2; refine ⟨rfl, ?_⟩
                refine wpX_nil ?_; simp only [List.drop_succ_cons, List.drop_zero]
                go_wp2_with (first | ((with_reducible show wpList _ _ _ ({ dst := _, op := Op.load 32 _, type := _, pos := _, after := _, guard := _ } :: _) _ _); refine wpList_load_row _ (ad'.add (k * 2)) rfl [.int .i64 xr, .int .i64 ysl] agg_Id rfl HCY2.out ?_) | (at_builtin; go_must (refine wpList_app E_Id _ rfl _ _ rfl w.heap.size _ q _ rfl ((HO2.out.alloc _).drew) _ _ _ _ rfl (Reads.new rfl) (by simp [Value.oneCell']) (by omega) (Nat.le_trans BW2.out.size (by simp)) ?_; intro vv w3 hown3 hg3 hat3; obtain ⟨Av3, kv3, rfl, _⟩ := SlR.of_own hown3; have HO3 := Lib.hid hown3; have HB3 := Lib.hid (Below.grown (((BW2.out).alloc (BW2.out).size _).drew) hg3 (Nat.le_trans (BW2.out).size (by simp)) (fun k hk => (HO2.out.lt k hk).1)); clear hown3 hg3 hat3)) | fail)
                exact ⟨⟨acc ++ [⟨xr, ysl⟩], q + 1, i, k + 1, Av3, kv3, by omega, by omega, by rw [List.length_append, ← HQ.out]; rfl, by omega, rfl, rfl, by go_num, HTn.out, by rw [idCells_app]; exact HO3.out, HB3.out⟩, by simp only [intOf]; omega⟩
              · skip
                have e2 : (xr == yr) = false := by simp only [beq_eq_false_iff_ne]; exact e1
                have e3 : (yr == xr) = false := by simp only [beq_eq_false_iff_ne]; exact fun h => e1 h.symm
                clear hxy e1
                go_wp2
                refine wp_region_x 15 [0, 1, 2, 3, 4, 5, 6, 7, 8, 9, 10, 11, 12, 13, 14] (by kernel_rfl) (by kernel_rfl) ?_
                iterate 8 (refine wpX_quiet rfl (by kernel_rfl) rfl ?_; go_wp2; refine ⟨rfl, ?_⟩)
                refine wpX_quiet rfl (by kernel_rfl) rfl ?_; refine wpList_load_row_g _ rfl (ad.add (i * 2)) rfl [.int .i64 xr, .int .i64 xsl] agg_Id rfl HCX.out ?_; go_wp2; refine ⟨rfl, ?_⟩
                iterate 3 (refine wpX_quiet rfl (by kernel_rfl) rfl ?_; go_wp2; refine ⟨rfl, ?_⟩)
                refine wpX_quiet rfl (by kernel_rfl) rfl ?_; refine wpList_load_row_g _ rfl (ad'.add (k * 2)) rfl [.int .i64 yr, .int .i64 ysl] agg_Id rfl HCY.out ?_; go_wp2; refine ⟨rfl, ?_⟩
                refine wpX_actor rfl (by kernel_rfl) ?_; go_wp2_with fail
                refine (l8Less_any ⟨xr, xsl⟩ ⟨yr, ysl⟩ [.int .i64 xr, .int .i64 xsl] [.int .i64 yr, .int .i64 ysl] _ HRX.out.drew HRY.out.drew).mono ?_; rintro e v2 ⟨rfl, hb⟩
                rw [HLT.out]
                have HB := Lib.hid hb
                have HO2 := Lib.hid (HO.out.drew.keptBelowJ hb)
                have BW2 := Lib.hid (show Below w.heap.size w v2 from BW.out.trans ((below_drewL hb).mono BW.out.size))
                have HCX2 := Lib.hid (cells_below HCX.out (below_drewL hb))
                have HCY2 := Lib.hid (cells_below HCY.out (below_drewL hb))
                clear hb
                go_wp2
                refine ⟨Ext.of_below HB.out, ?_⟩
                iterate 1 (refine wpX_quiet rfl (by kernel_rfl) rfl ?_; go_wp2; refine ⟨rfl, ?_⟩)
                refine wpX_nil ?_; simp only [List.drop_succ_cons, List.drop_zero]
                go_wp2
                refine wp_region_x 13 [0, 1, 2, 3, 4, 5, 6, 7, 8, 9, 10, 11, 12] (by kernel_rfl) (by kernel_rfl) ?_
                iterate 8 (refine wpX_quiet rfl (by kernel_rfl) rfl ?_; go_wp2; refine ⟨rfl, ?_⟩)
                refine wpX_quiet rfl (by kernel_rfl) rfl ?_; refine wpList_load_row_g _ rfl (ad.add (i * 2)) rfl [.int .i64 xr, .int .i64 xsl] agg_Id rfl HCX2.out ?_; go_wp2; refine ⟨rfl, ?_⟩
                iterate 3 (refine wpX_quiet rfl (by kernel_rfl) rfl ?_; go_wp2; refine ⟨rfl, ?_⟩)
                refine wpX_quiet rfl (by kernel_rfl) rfl ?_; refine wpList_load_row_g _ rfl (ad'.add (k * 2)) rfl [.int .i64 yr, .int .i64 ysl] agg_Id rfl HCY2.out ?_; go_wp2; refine ⟨rfl, ?_⟩
                refine wpX_nil ?_; simp only [List.drop_succ_cons, List.drop_zero]
                go_wp2_with (first | ((with_reducible show wpList _ _ _ ({ dst := _, op := Op.load 32 _, type := _, pos := _, after := _, guard := _ } :: _) _ _); refine wpList_load_row _ (ad'.add (k * 2)) rfl [.int .i64 yr, .int .i64 ysl] agg_Id rfl HCY2.out ?_) | (at_builtin; go_must (refine wpList_app E_Id _ rfl _ _ rfl w.heap.size _ q _ rfl ((HO2.out.alloc _).drew) _ _ _ _ rfl (Reads.new rfl) (by simp [Value.oneCell']) (by omega) (Nat.le_trans BW2.out.size (by simp)) ?_; intro vv w3 hown3 hg3 hat3; obtain ⟨Av3, kv3, rfl, _⟩ := SlR.of_own hown3; have HO3 := Lib.hid hown3; have HB3 := Lib.hid (Below.grown (((BW2.out).alloc (BW2.out).size _).drew) hg3 (Nat.le_trans (BW2.out).size (by simp)) (fun k hk => (HO2.out.lt k hk).1)); clear hown3 hg3 hat3)) | fail)
                exact ⟨⟨acc ++ [⟨yr, ysl⟩], q + 1, i, k + 1, Av3, kv3, by omega, by omega, by rw [List.length_append, ← HQ.out]; rfl, by omega, rfl, rfl, by go_num, HTn.out, by rw [idCells_app]; exact HO3.out, HB3.out⟩, by simp only [intOf]; omega⟩
        · skip
          have hie : i = n := by omega
          subst hie
          have hdx : xs.drop i = [] := List.drop_of_length_le (by have := HN.out; omega)
          rw [hdx, joinF_nil] at hT
          have hlen := congrArg List.length hT
          rw [List.length_append] at hlen
          simp only [List.length_cons] at hlen
          have hq1 := HQ.out
          have hqq : q + 1 ≤ 2097152 := by omega
          have HTn := Lib.hid (show (acc ++ [⟨yr, ysl⟩]) ++ joinF (xs.drop i) (ys.drop (k + 1)) = T by rw [hdx, joinF_nil, ← hT, List.append_assoc]; rfl)
          clear hT hlen hq1 hdx
          go_wp2
          refine wp_region_x 15 [0, 1, 2, 3, 4, 5, 6, 7, 8, 9, 10, 11, 12, 13, 14] (by kernel_rfl) (by kernel_rfl) ?_
          iterate 5 (refine wpX_quiet rfl (by kernel_rfl) rfl ?_; go_wp2; refine ⟨rfl, ?_⟩)
          (iterate 6 (refine wpX_skip2 rfl rfl (by kernel_rfl) ?_)); simp only [List.setIfInBounds_toArray, List.set_cons_succ, List.set_cons_zero]; (iterate 3 (refine wpX_skip2 rfl rfl (by kernel_rfl) ?_)); simp only [List.setIfInBounds_toArray, List.set_cons_succ, List.set_cons_zero]
          iterate 1 (refine wpX_quiet rfl (by kernel_rfl) rfl ?_; go_wp2; refine ⟨rfl, ?_⟩)
          refine wpX_nil ?_; simp only [List.drop_succ_cons, List.drop_zero]
          go_wp2
          refine wp_region_x 15 [0, 1, 2, 3, 4, 5, 6, 7, 8, 9, 10, 11, 12, 13, 14] (by kernel_rfl) (by kernel_rfl) ?_
          iterate 5 (refine wpX_quiet rfl (by kernel_rfl) rfl ?_; go_wp2; refine ⟨rfl, ?_⟩)
          (iterate 6 (refine wpX_skip2 rfl rfl (by kernel_rfl) ?_)); simp only [List.setIfInBounds_toArray, List.set_cons_succ, List.set_cons_zero]; (iterate 3 (refine wpX_skip2 rfl rfl (by kernel_rfl) ?_)); simp only [List.setIfInBounds_toArray, List.set_cons_succ, List.set_cons_zero]
          iterate 1 (refine wpX_quiet rfl (by kernel_rfl) rfl ?_; go_wp2; refine ⟨rfl, ?_⟩)
          refine wpX_nil ?_; simp only [List.drop_succ_cons, List.drop_zero]
          go_wp2_with (first | ((with_reducible show wpList _ _ _ ({ dst := _, op := Op.load 32 _, type := _, pos := _, after := _, guard := _ } :: _) _ _); refine wpList_load_row _ (ad'.add (k * 2)) rfl [.int .i64 yr, .int .i64 ysl] agg_Id rfl HCY.out ?_) | (at_builtin; go_must (refine wpList_app E_Id _ rfl _ _ rfl w.heap.size _ q _ rfl ((HO.out.alloc _).drew.drew) _ _ _ _ rfl (Reads.new rfl) (by simp [Value.oneCell']) (by omega) (Nat.le_trans BW.out.size (by simp)) ?_; intro vv w3 hown3 hg3 hat3; obtain ⟨Av3, kv3, rfl, _⟩ := SlR.of_own hown3; have HO3 := Lib.hid hown3; have HB3 := Lib.hid (Below.grown (((BW.out).alloc (BW.out).size _).drew.drew) hg3 (Nat.le_trans (BW.out).size (by simp)) (fun k hk => (HO.out.lt k hk).1)); clear hown3 hg3 hat3)) | fail)
          exact ⟨⟨acc ++ [⟨yr, ysl⟩], q + 1, i, k + 1, Av3, kv3, by omega, by omega, by rw [List.length_append, ← HQ.out]; rfl, by omega, rfl, rfl, by go_num, HTn.out, by rw [idCells_app]; exact HO3.out, HB3.out⟩, by simp only [intOf]; omega⟩
    · have hke : k = n' := by omega
      subst hke
      have hdy : ys.drop k = [] := List.drop_of_length_le (by have := HN'.out; omega)
      rw [hdy, joinF_nil2] at hT
      have HTn := Lib.hid hT
      have HO := Lib.hid hown; clear hown
      have BW := Lib.hid hbw; clear hbw
      have HQ := Lib.hid hq; clear hq hT hdy
      obtain ⟨cells, hrd, hrc, _⟩ := HR.out.row
      obtain rfl := rep_ids hrc
      have HRD := Lib.hid (hrd.below BW.out)
      clear hrd hrc
      have hlenT : q + (n - i) = T.length := by rw [← HTn.out, List.length_append, List.length_drop, ← HQ.out, ← HN.out]
      have hcelT : idCells acc ++ idCells (xs.drop i) = idCells T := by rw [← HTn.out, idCells_app]
      have HLT := Lib.hid hlenT
      have HCT := Lib.hid hcelT
      have hm1 : q + (n - i) ≤ 2097152 := by omega
      have HONE := Lib.hid (show ∀ u ∈ idCells (xs.drop i), u.oneCell' = true from (own_ids wr 0 (xs.drop i)).one)
      clear hlenT hcelT
      have hdr := idCells_drop xs i
      by_cases hsl : c = i ∨ A = none
      · have hm0 : n - i = 0 := by
          rcases hsl with h | h
          · omega
          · subst h
            rcases Nat.eq_zero_or_pos n with h0 | h0
            · omega
            · obtain ⟨ad, e, _⟩ := HRD.out.2 h0
              cases e
        have hd0 : xs.drop i = [] := List.drop_of_length_le (by have := HN.out; omega)
        have HRT := Lib.hid (show ∀ B : Option Addr, Reads wr 2 B (n - i) (idCells (xs.drop i)) from fun B => by rw [hm0, hd0]; exact ⟨by simp [idCells], fun h => absurd h (by omega)⟩)
        clear hdr hm0 hd0
        rcases hsl with h | h
        · cases A with
          | none =>
            go_wp2_with (first | (at_builtin; go_must (refine wpList_app E_Id _ rfl _ _ rfl w.heap.size _ q _ rfl HO.out _ _ _ (idCells (xs.drop i)) rfl (HRT.out _) HONE.out (by omega) BW.out.size ?_; intro vv w3 hown3 hg3 hat3; obtain ⟨Av3, kv3, rfl, _⟩ := SlR.of_own hown3; have HO3 := Lib.hid hown3; have HB3 := Lib.hid (Below.grown BW.out hg3 BW.out.size (fun k hk => (HO.out.lt k hk).1)); clear hown3 hg3 hat3)) | fail)
            go_ret
            exact ⟨Av3, kv3, ret_eq (by rw [HLT.out]; rfl), by rw [← HLT.out, ← HCT.out]; exact HO3.out, HB3.out⟩
          | some ad =>
            go_wp2_with (first | (at_builtin; go_must (refine wpList_app E_Id _ rfl _ _ rfl w.heap.size _ q _ rfl HO.out _ _ _ (idCells (xs.drop i)) rfl (HRT.out _) HONE.out (by omega) BW.out.size ?_; intro vv w3 hown3 hg3 hat3; obtain ⟨Av3, kv3, rfl, _⟩ := SlR.of_own hown3; have HO3 := Lib.hid hown3; have HB3 := Lib.hid (Below.grown BW.out hg3 BW.out.size (fun k hk => (HO.out.lt k hk).1)); clear hown3 hg3 hat3)) | fail)
            go_ret
            exact ⟨Av3, kv3, ret_eq (by rw [HLT.out]; rfl), by rw [← HLT.out, ← HCT.out]; exact HO3.out, HB3.out⟩
        · subst h
          go_wp2_with (first | (at_builtin; go_must (refine wpList_app E_Id _ rfl _ _ rfl w.heap.size _ q _ rfl HO.out _ _ _ (idCells (xs.drop i)) rfl (HRT.out _) HONE.out (by omega) BW.out.size ?_; intro vv w3 hown3 hg3 hat3; obtain ⟨Av3, kv3, rfl, _⟩ := SlR.of_own hown3; have HO3 := Lib.hid hown3; have HB3 := Lib.hid (Below.grown BW.out hg3 BW.out.size (fun k hk => (HO.out.lt k hk).1)); clear hown3 hg3 hat3)) | fail)
          go_ret
          exact ⟨Av3, kv3, ret_eq (by rw [HLT.out]; rfl), by rw [← HLT.out, ← HCT.out]; exact HO3.out, HB3.out⟩
      · obtain ⟨ad, rfl⟩ : ∃ ad, A = some ad := by
          cases A with
          | none => exact absurd (Or.inr rfl) hsl
          | some ad => exact ⟨ad, rfl⟩
        have hci : ¬ c = i := fun h => hsl (.inl h)
        have hci2 : ¬ c - i = 0 := by omega
        have HRT := Lib.hid (show Reads wr 2 (some (ad.add (i * 2))) (n - i) (idCells (xs.drop i)) by rw [← hdr]; exact reads_drop HRD.out hi)
        clear hdr hsl
        go_wp2_with (first | (at_builtin; go_must (refine wpList_app E_Id _ rfl _ _ rfl w.heap.size _ q _ rfl HO.out _ _ _ (idCells (xs.drop i)) rfl HRT.out HONE.out (by omega) BW.out.size ?_; intro vv w3 hown3 hg3 hat3; obtain ⟨Av3, kv3, rfl, _⟩ := SlR.of_own hown3; have HO3 := Lib.hid hown3; have HB3 := Lib.hid (Below.grown BW.out hg3 BW.out.size (fun k hk => (HO.out.lt k hk).1)); clear hown3 hg3 hat3)) | fail)
        go_ret
        exact ⟨Av3, kv3, ret_eq (by rw [HLT.out]; rfl), by rw [← HLT.out, ← HCT.out]; exact HO3.out, HB3.out⟩

end Go.Proofs.Ytbdblfpepnoafaa
namespace Go.Proofs.Ytbdblfpepnoafaa
open Go.RowKit

theorem IdD.cts_le : ∀ xs : List IdD, cts IdD.cnt xs ≤ 2 * xs.length
  | [] => Nat.le_refl _
  | x :: xs => by
    have := IdD.cts_le xs
    rw [cts, List.length_cons]
    show 1 + 1 + _ ≤ _
    omega
theorem bJoinIds (xs ys : List IdD) (h : xs.length + (cat IdD.c xs).wt ≤ 1048576) (h' : ys.length + (cat IdD.c ys).wt ≤ 1048576) :
    (fJoinIds xs ys).length + (cat IdD.c (fJoinIds xs ys)).wt ≤ 4611686018427387 ∧ cts IdD.cnt (fJoinIds xs ys) ≤ 4611686018427387 := by
  have hw : ∀ l : List IdD, (cat IdD.c l).wt = 0 := fun l => by
    induction l with
    | nil => rfl
    | cons x r ih => rw [cat_cons, Cs.wt_app, ih]; rfl
  have hc : ∀ l : List IdD, cts IdD.cnt l = 2 * l.length := fun l => by
    induction l with
    | nil => rfl
    | cons x r ih => rw [cts, ih, List.length_cons]; show 1 + 1 + _ = _; omega
  have hl : (fJoinIds xs ys).length ≤ 2097152 := by
    unfold fJoinIds
    split
    · have := joinF_len xs ys; omega
    · simp
  rw [hw, hc]
  omega
theorem Own.sl_cap {w : World} {base e sz n c : Nat} {i : Cs} {A : Option Addr} {F : List Nat} (h : Own w base (.sl e sz n i .nil) [.slice A n c] F) : n ≤ c := by
  obtain ⟨cells, F1, _, _, hrow, _⟩ := Own.sl1.1 h
  rcases hrow.2 with ⟨h1, h2⟩ | ⟨g, cap, cur, hv, _, _, hnc, _⟩
  · omega
  · injection hv with _ _ h3
    omega

set_option maxRecDepth 100000 in
set_option maxHeartbeats 2000000 in
theorem sJoinIds_any (xs ys : List IdD) (A : Option Addr) (n c : Nat) (A' : Option Addr) (n' c' : Nat) (w : World) (hn : n = xs.length) (hwt : n + (cat IdD.c xs).wt ≤ 1048576) (hn' : n' = ys.length) (hwt' : n' + (cat IdD.c ys).wt ≤ 1048576) (h : Rep anyB w (.sl 32 2 n (cat IdD.c xs) .nil) [.slice A n c]) (h' : Rep anyB w (.sl 32 2 n' (cat IdD.c ys) .nil) [.slice A' n' c']) (hcap : n ≤ c) :
    Calls Try.prog 41 #[.slice A n c, .slice A' n' c'] w fun e w' => ∃ A2 m c2, e = .returned (.slice A2 m c2) ∧ m = (fJoinIds xs ys).length ∧ Mine w' w.heap.size (.sl 32 2 m (cat IdD.c (fJoinIds xs ys)) .nil) [.slice A2 m c2] ∧ Below w.heap.size w w' := by
  have HA := Lib.hid (fun W => sIdsOk_any xs A n c W hn hwt)
  have HB := Lib.hid (fun W => sIdsOk_any ys A' n' c' W hn' hwt')
  have HJ := Lib.hid (fun W => l8Join_any xs ys A A' n n' c c' W hn hn' (by omega) (by omega) hcap)
  have HR := Lib.hid h
  have HR' := Lib.hid h'
  obtain ⟨R, hR⟩ : ∃ R, R = fJoinIds xs ys := ⟨_, rfl⟩
  rw [← hR]
  unfold fJoinIds at hR
  have HF := Lib.hid hR
  clear h h' hR hn hn' hwt hwt' hcap
  go_enter Try.func41, Try.ntmps41
  go_wp2_with fail
  refine (HA.out _ HR.out).mono ?_; rintro e v1 ⟨rfl, hb⟩
  have B1 := Lib.hid hb; clear hb
  have fin : ∀ v : World, Below w.heap.size w v → R = [] → Mine (v.alloc (.cells #[] 32)) w.heap.size (.sl 32 2 0 (cat IdD.c R) .nil) [.slice (some ⟨v.heap.size, 0, none⟩) 0 0] := fun v hv e => by
    subst e
    exact mine_ids (l := []) (own_nilAt v w.heap.size _ _ _ rfl hv.size) rfl
  have FIN := Lib.hid fin; clear fin
  cases ha : idsOkB xs with
  | false =>
    have hRz : R = [] := by rw [HF.out, ha, if_neg (by simp)]
    have HRZ := Lib.hid hRz; clear hRz
    go_wp2
    go_ret
    exact ⟨_, 0, 0, ret_eq rfl, by rw [HRZ.out]; rfl, FIN.out _ B1.out HRZ.out, B1.out.alloc B1.out.size _⟩
  | true =>
    go_wp2_with fail
    refine (HB.out _ (HR'.out.below B1.out)).mono ?_; rintro e v2 ⟨rfl, hb⟩
    have B2 := Lib.hid (B1.out.trans (hb.mono B1.out.size)); clear hb
    cases hbb : idsOkB ys with
    | false =>
      have hRz : R = [] := by rw [HF.out, ha, hbb, if_neg (by simp)]
      have HRZ := Lib.hid hRz; clear hRz
      go_wp2
      go_ret
      exact ⟨_, 0, 0, ret_eq rfl, by rw [HRZ.out]; rfl, FIN.out _ B2.out HRZ.out, B2.out.alloc B2.out.size _⟩
    | true =>
      have hRz : R = joinF xs ys := by rw [HF.out, ha, hbb, if_pos ⟨rfl, rfl⟩]
      have HRZ := Lib.hid hRz; clear hRz
      go_wp2_with fail
      refine (HJ.out _ (HR.out.below B2.out) (HR'.out.below B2.out)).mono ?_; rintro e v3 ⟨A2, c2, rfl, hown, hb⟩
      rw [← HRZ.out] at hown ⊢
      have B3 := Lib.hid (B2.out.trans (hb.mono B2.out.size))
      have HM := Lib.hid (Mine.mono (mine_ids hown rfl) B2.out.size); clear hown hb
      go_wp2
      go_ret
      exact ⟨A2, R.length, c2, ret_eq rfl, rfl, HM.out, B3.out⟩

end Go.Proofs.Ytbdblfpepnoafaa
namespace Go.Proofs
open Go.Shelf
def Try.sortId_ren : Go.Shelf.Ren := ⟨fun | 6 => 110 | 15 => 144 | 14 => 143 | 28 => 163 | 29 => 164 | 20 => 155 | 21 => 156 | 22 => 157 | 23 => 158 | 24 => 159 | 25 => 160 | 26 => 161 | 27 => 162 | 46 => 166 | 47 => 167 | 48 => 168 | 49 => 169 | 50 => 170 | 57 => 171 | n => n, fun | 22 => 34 | 24 => 32 | 25 => 121 | 3 => 3 | 39 => 135 | 0 => 0 | 53 => 156 | 55 => 158 | 4 => 4 | 46 => 149 | 45 => 148 | 50 => 153 | 5 => 5 | 9 => 9 | 66 => 160 | 70 => 164 | 76 => 166 | 77 => 136 | n => n, fun | n => n⟩
theorem Try.sortId : Go.Proofs.SlLaysF0.n6 Try.prog Try.sortId_ren := {
  mixed := by kernel_rfl
  f6 := ⟨Try.f110.name, by decide, Try.func110.trans (congrArg some (by kernel_rfl))⟩
  f14 := ⟨Try.f143.name, by decide, Try.func143.trans (congrArg some (by kernel_rfl))⟩
  f15 := Try.func144.trans (congrArg some (by kernel_rfl))
  f20 := ⟨Try.f155.name, by decide, Try.func155.trans (congrArg some (by kernel_rfl))⟩
  f21 := ⟨Try.f156.name, by decide, Try.func156.trans (congrArg some (by kernel_rfl))⟩
  f22 := ⟨Try.f157.name, by decide, Try.func157.trans (congrArg some (by kernel_rfl))⟩
  f23 := ⟨Try.f158.name, by decide, Try.func158.trans (congrArg some (by kernel_rfl))⟩
  f24 := ⟨Try.f159.name, by decide, Try.func159.trans (congrArg some (by kernel_rfl))⟩
  f25 := ⟨Try.f160.name, by decide, Try.func160.trans (congrArg some (by kernel_rfl))⟩
  f26 := ⟨Try.f161.name, by decide, Try.func161.trans (congrArg some (by kernel_rfl))⟩
  f27 := ⟨Try.f162.name, by decide, Try.func162.trans (congrArg some (by kernel_rfl))⟩
  f28 := Try.func163.trans (congrArg some (by kernel_rfl))
  f29 := Try.func164.trans (congrArg some (by kernel_rfl))
  f46 := ⟨Try.f166.name, by decide, Try.func166.trans (congrArg some (by kernel_rfl))⟩
  f47 := Try.func167.trans (congrArg some (by kernel_rfl))
  f48 := Try.func168.trans (congrArg some (by kernel_rfl))
  f49 := ⟨Try.f169.name, by decide, Try.func169.trans (congrArg some (by kernel_rfl))⟩
  f50 := ⟨Try.f170.name, by decide, Try.func170.trans (congrArg some (by kernel_rfl))⟩
  f57 := ⟨Try.f171.name, by decide, Try.func171.trans (congrArg some (by kernel_rfl))⟩
  t0 := Try.underlying0
  a0 := Try.isAgg0
  z0 := Try.sizeOf0
  v0 := Try.zeroValue0
  t3 := Try.underlying3
  a3 := Try.isAgg3
  z3 := Try.sizeOf3
  v3 := Try.zeroValue3
  t4 := Try.underlying4
  a4 := Try.isAgg4
  z4 := Try.sizeOf4
  v4 := Try.zeroValue4
  t5 := Try.underlying5
  a5 := Try.isAgg5
  z5 := Try.sizeOf5
  v5 := Try.zeroValue5
  t9 := Try.underlying9
  a9 := Try.isAgg9
  z9 := Try.sizeOf9
  v9 := Try.zeroValue9
  t22 := Try.underlying34
  a22 := Try.isAgg34
  z22 := Try.sizeOf34
  v22 := Try.zeroValue34
  t25 := Try.underlying121
  a25 := Try.isAgg121
  z25 := Try.sizeOf121
  v25 := Try.zeroValue121
  t39 := Try.underlying135
  a39 := Try.isAgg135
  z39 := Try.sizeOf135
  v39 := Try.zeroValue135
  t45 := Try.underlying148
  a45 := Try.isAgg148
  z45 := Try.sizeOf148
  v45 := Try.zeroValue148
  t46 := Try.underlying149
  a46 := Try.isAgg149
  z46 := Try.sizeOf149
  v46 := Try.zeroValue149
  t50 := Try.underlying153
  a50 := Try.isAgg153
  z50 := Try.sizeOf153
  v50 := Try.zeroValue153
  t53 := Try.underlying156
  a53 := Try.isAgg156
  z53 := Try.sizeOf156
  v53 := Try.zeroValue156
  t55 := Try.underlying158
  a55 := Try.isAgg158
  z55 := Try.sizeOf158
  v55 := Try.zeroValue158
  t66 := Try.underlying160
  a66 := Try.isAgg160
  z66 := Try.sizeOf160
  v66 := Try.zeroValue160
  t70 := Try.underlying164
  a70 := Try.isAgg164
  z70 := Try.sizeOf164
  v70 := Try.zeroValue164
  t76 := Try.underlying166
  a76 := Try.isAgg166
  z76 := Try.sizeOf166
  v76 := Try.zeroValue166
  t77 := Try.underlying136
  a77 := Try.isAgg136
  z77 := Try.sizeOf136
  v77 := Try.zeroValue136 }
end Go.Proofs
namespace Go.Proofs.Ytbdblfpepnoafaa
open Go.RowKit Go.Shelf Go.Lib Go.Sort

set_option maxRecDepth 100000 in
set_option maxHeartbeats 1000000 in
theorem compareIds_exact (x y : IdD) (w : World) :
    Calls Try.prog 107 #[.agg #[.int .i64 x.rep, .int .i64 x.slot], .agg #[.int .i64 y.rep, .int .i64 y.slot]] w fun e w' => e = .returned (.int .i64 (idCmp x y)) ∧ ∃ (q : Nat) (os' : Array Obj), w' = grow (w.drewN q) os' := by
  obtain ⟨xr, xs⟩ := x
  obtain ⟨yr, ys⟩ := y
  have hid : idLt ⟨xr, xs⟩ ⟨yr, ys⟩ = decide (xr < yr ∨ xr = yr ∧ xs < ys) := rfl
  have HI := Lib.hid hid; clear hid
  simp only []
  by_cases h1 : xr < yr
  · have HR := Lib.hid (show idCmp ⟨xr, xs⟩ ⟨yr, ys⟩ = -1 by rw [idCmp, if_pos (by rw [HI.out]; simp [h1])])
    go_enter Try.func107, Try.ntmps107
    go_wp2
    go_ret
    exact ⟨ret_eq (by rw [HR.out]; rfl), ⟨0, _, by rw [alloc_eq_grow, alloc_eq_grow, grow_grow]; rfl⟩⟩
  · by_cases h2 : xr = yr
    · subst h2
      clear h1
      by_cases h3 : xs < ys
      · have HR := Lib.hid (show idCmp ⟨xr, xs⟩ ⟨xr, ys⟩ = -1 by rw [idCmp, if_pos (by rw [HI.out]; simp [h3])])
        go_enter Try.func107, Try.ntmps107
        go_wp2
        go_ret
        exact ⟨ret_eq (by rw [HR.out]; rfl), ⟨0, _, by rw [alloc_eq_grow, alloc_eq_grow, grow_grow]; rfl⟩⟩
      · by_cases h4 : xs = ys
        · subst h4
          have HR := Lib.hid (show idCmp ⟨xr, xs⟩ ⟨xr, xs⟩ = 0 by rw [idCmp, if_neg (by rw [HI.out]; simp), if_pos rfl])
          clear h3
          go_enter Try.func107, Try.ntmps107
          go_wp2
          go_ret
          exact ⟨ret_eq (by rw [HR.out]; rfl), ⟨0, _, by rw [alloc_eq_grow, alloc_eq_grow, grow_grow]; rfl⟩⟩
        · have HR := Lib.hid (show idCmp ⟨xr, xs⟩ ⟨xr, ys⟩ = 1 by rw [idCmp, if_neg (by rw [HI.out]; simp; omega), if_neg (by simp [h4])])
          have h5 : (xs == ys) = false := by simpa using h4
          clear h4
          go_enter Try.func107, Try.ntmps107
          go_wp2
          go_ret
          exact ⟨ret_eq (by rw [HR.out]; rfl), ⟨0, _, by rw [alloc_eq_grow, alloc_eq_grow, grow_grow]; rfl⟩⟩
    · have HR := Lib.hid (show idCmp ⟨xr, xs⟩ ⟨yr, ys⟩ = 1 by rw [idCmp, if_neg (by rw [HI.out]; simp; omega), if_neg (by simp [h2])])
      have h3 : (xr == yr) = false := by simpa using h2
      clear h2
      go_enter Try.func107, Try.ntmps107
      go_wp2
      go_ret
      exact ⟨ret_eq (by rw [HR.out]; rfl), ⟨0, _, by rw [alloc_eq_grow, alloc_eq_grow, grow_grow]; rfl⟩⟩
def encId (x : IdD) : List Value := [.int .i64 x.rep, .int .i64 x.slot]
instance : Inhabited IdD := ⟨⟨0, 0⟩⟩
theorem ltOf_id (x y : IdD) : ltOf idCmp x y = idLt x y := by
  unfold ltOf
  cases h : idLt x y with
  | true => exact decide_eq_true (idCmp_lt.2 h)
  | false => exact decide_eq_false (fun hh => by have := idCmp_lt.1 hh; rw [h] at this; cases this)
theorem swo_id : SWO (ltOf idCmp) where
  irrefl x := by rw [ltOf_id]; exact idLt_irrefl x
  trans x y z h1 h2 := by rw [ltOf_id] at *; exact idLt_trans h1 h2
  ntrans x y z h1 h2 := by rw [ltOf_id] at *; exact idLt_ntrans h1 h2
theorem cmpLays_id (blk off size : Nat) (w : World) : CmpLays Try.prog 107 #[] encId 2 idCmp blk off size w :=
  fun _ _ _ _ x y => compareIds_exact x y _
theorem sort_ids (blk off cap : Nat) (d : Array IdD) (w : World) (hH : HoldsK encId 2 w blk off d) (hblk : blk < w.heap.size) (hsz : d.size < 4611686018427387904) :
    Calls Try.prog 110 #[.slice (some ⟨blk, off, none⟩) d.size cap, .func (.func 107) #[] #[]] w fun e w' =>
      e = .returned (.tuple #[]) ∧ ∃ d' n os, PermIn 0 d.size d d' ∧ SortedIn (ltOf idCmp) 0 d.size d' ∧ w' = sortWorldK encId 2 w blk off n d' os :=
  AnyQ.slices_SortFunc Try.sortId 2 (fun w => agg_Id.isAgg w) (fun w => agg_Id.size w) encId (fun _ => rfl) (fun x v hv => by simp [encId] at hv; rcases hv with rfl | rfl <;> rfl) idCmp swo_id 107 #[] blk off cap d w (enters_of Try.func107 (by kernel_rfl) rfl) (cmpLays_id blk off d.size w) hH hblk hsz

end Go.Proofs.Ytbdblfpepnoafaa
namespace Go.Proofs.Ytbdblfpepnoafaa
open Go.RowKit Go.Shelf Go.Lib Go.Sort

theorem idCells_get : ∀ (xs : List IdD) (j : Nat), j < xs.length * 2 → (idCells xs)[j]? = some ((encId xs[j / 2]!)[j % 2]!)
  | [], j, h => by simp at h
  | x :: r, 0, _ => rfl
  | x :: r, 1, _ => rfl
  | x :: r, j + 2, h => by
    have ih := idCells_get r j (by simp only [List.length_cons] at h; omega)
    rw [idCells, List.getElem?_cons_succ, List.getElem?_cons_succ, ih, show (j + 2) / 2 = j / 2 + 1 by omega, show (j + 2) % 2 = j % 2 by omega]
    rfl
theorem flat_ids (d : Array IdD) (j : Nat) (h : j < d.size * 2) : (idCells d.toList)[j]? = some ((flatK encId 2 d)[j]!) := by
  rw [idCells_get _ _ (by simpa using h), get_flatK _ _ _ _ h]
  have e : d.toList[j / 2]! = d[j / 2]! := by
    have hj : j / 2 < d.size := by omega
    rw [List.getElem!_eq_getElem?_getD, getElem!_pos d (j / 2) hj]
    simp [hj]
  rw [e]
theorem holds_own {w : World} {base g n c : Nat} {d : Array IdD} (hn : n = d.size) (h : w.ownsRow base 32 2 (.slice (some ⟨g, 0, none⟩) n c) n (idCells d.toList)) : HoldsK encId 2 w g 0 d := by
  intro j hj
  rw [size_flatK] at hj
  refine ⟨?_, ?_⟩
  · have := World.ownsRow.cells (g := g) h rfl j _ (flat_ids d j hj)
    rw [add_plain, Nat.zero_add] at this
    rw [Nat.zero_add]
    exact this
  · rw [Nat.zero_add]
    exact h.frozenAt j
theorem own_put {w : World} {base g n c : Nat} {xs : List Value} {d : Array IdD} (hn : n = d.size) (h : w.ownsRow base 32 2 (.slice (some ⟨g, 0, none⟩) n c) n xs) :
    (putRowK encId 2 w g 0 d).ownsRow base 32 2 (.slice (some ⟨g, 0, none⟩) n c) n (idCells d.toList) := by
  refine ⟨by rw [idCells_length]; simp [hn], ?_⟩
  rcases h.2 with ⟨h0, _⟩ | ⟨g', cap, cur, hv, hb, hh, hnc, hcm, hcs, _⟩
  · cases h0
  · injection hv with e1 e2 e3
    injection e1 with e1
    injection e1 with e1
    subst e1 e3
    refine .inr ⟨g, c, putCells id 0 (flatK encId 2 d) cur, rfl, hb, ?_, hnc, hcm, by simp [putCells, hcs], ?_⟩
    · show ((w.heap.modify g (onCells (putCells id 0 (flatK encId 2 d)))))[g]? = _
      rw [Array.getElem?_modify, if_pos rfl, hh]
      rfl
    · apply List.ext_getElem?
      intro j
      by_cases hj : j < n * 2
      · rw [flat_ids d j (by omega), List.getElem?_take_of_lt hj]
        have hjc : j < cur.size := by rw [hcs]; have := Nat.mul_le_mul_right 2 hnc; omega
        simp only [putCells, Array.getElem?_toList, Array.getElem?_mapIdx, Array.getElem?_eq_getElem hjc, Option.map_some]
        rw [if_pos (by simp; omega)]
        simp
      · rw [List.getElem?_eq_none (by simp; omega), List.getElem?_eq_none (by rw [idCells_length]; simp; omega)]
theorem own_sorted {w : World} {base g n c m : Nat} {xs : List Value} {d : Array IdD} {os : Array Obj} (hn : n = d.size) (hg : g < w.heap.size) (h : w.ownsRow base 32 2 (.slice (some ⟨g, 0, none⟩) n c) n xs) :
    (sortWorldK encId 2 w g 0 m d os).ownsRow base 32 2 (.slice (some ⟨g, 0, none⟩) n c) n (idCells d.toList) ∧ w.grownBy (sortWorldK encId 2 w g 0 m d os) (some g) := by
  have h1 : (putRowK encId 2 (Sort.ahead w m) g 0 d).ownsRow base 32 2 (.slice (some ⟨g, 0, none⟩) n c) n (idCells d.toList) := own_put hn h
  have hsz : (putRowK encId 2 (Sort.ahead w m) g 0 d).heap.size = w.heap.size := by simp [putRowK, putRow, mapBlock, Sort.ahead]
  have hap : ∀ b, b < w.heap.size → (sortWorldK encId 2 w g 0 m d os).heap[b]? = (putRowK encId 2 (Sort.ahead w m) g 0 d).heap[b]? := fun b hb => by
    show ((putRowK encId 2 (Sort.ahead w m) g 0 d).heap ++ os)[b]? = _
    rw [Array.getElem?_append_left (by rw [hsz]; exact hb)]
  refine ⟨ownsRow_keep h1 (fun b hk => ⟨(h1.lt b hk).1, hap b (by rw [← hsz]; exact (h1.lt b hk).2)⟩), ⟨rfl, rfl, rfl, ?_, fun b hb hne => ?_⟩⟩
  · show w.heap.size ≤ ((putRowK encId 2 (Sort.ahead w m) g 0 d).heap ++ os).size
    rw [Array.size_append, hsz]; omega
  · rw [hap b hb]
    show (w.heap.modify g _)[b]? = _
    rw [Array.getElem?_modify, if_neg (fun e => hne (congrArg some e.symm))]
theorem sort_own (base g n c : Nat) (xs : List IdD) (w : World) (hn : n = xs.length) (hn1 : n ≤ 4194304) (h : w.ownsRow base 32 2 (.slice (some ⟨g, 0, none⟩) n c) n (idCells xs)) :
    Calls Try.prog 110 #[.slice (some ⟨g, 0, none⟩) n c, .func (.func 107) #[] #[]] w fun e w' =>
      e = .returned (.tuple #[]) ∧ ∃ ys : List IdD, ys.Perm xs ∧ Wk ys ∧ w'.ownsRow base 32 2 (.slice (some ⟨g, 0, none⟩) n c) n (idCells ys) ∧ w.grownBy w' (some g) := by
  subst hn
  have hg := (h.lt g rfl).2
  have hc := sort_ids g 0 c xs.toArray w (holds_own (c := c) (base := base) rfl (by simpa using h)) hg (by simp; omega)
  simp only [List.size_toArray] at hc
  refine hc.mono ?_
  rintro e w' ⟨rfl, d', m, os, hp, hs, rfl⟩
  have hsz : d'.size = xs.length := by have := hp.1; simpa using this
  have ho := own_sorted (m := m) (os := os) (d := d') hsz.symm hg h
  refine ⟨rfl, d'.toList, ?_, ?_, ho.1, ho.2⟩
  · have := hp.2.2
    rw [show d'.extract 0 xs.length = d' from by rw [← hsz]; simp, show xs.toArray.extract 0 xs.length = xs.toArray from by simp] at this
    simpa using this
  · refine List.pairwise_iff_getElem.2 fun i j hi hj hij => ?_
    have := hs i j (Nat.zero_le _) hij (by simpa [hsz] using hj)
    rw [ltOf_id] at this
    have e1 : d'[i]! = d'.toList[i] := by rw [getElem!_pos d' i (by simpa using hi)]; simp
    have e2 : d'[j]! = d'.toList[j] := by rw [getElem!_pos d' j (by simpa using hj)]; simp
    rw [e1, e2] at this
    exact this

end Go.Proofs.Ytbdblfpepnoafaa
namespace Go.Proofs.Ytbdblfpepnoafaa
open Go.RowKit

theorem compactF_cons {a b : IdD} {r : List IdD} : compactF (a :: b :: r) = if a = b then compactF (b :: r) else a :: compactF (b :: r) := by rw [compactF]
theorem compactF_one (a : IdD) : compactF [a] = [a] := by rw [compactF]
theorem compactF_snoc (x y : IdD) : ∀ xs : List IdD, compactF (xs ++ [x, y]) = if x = y then compactF (xs ++ [x]) else compactF (xs ++ [x]) ++ [y]
  | [] => by
    show compactF [x, y] = if x = y then compactF [x] else compactF [x] ++ [y]
    rw [compactF_cons, compactF_one, compactF_one]
    split
    · rename_i h; rw [h]
    · rfl
  | [a] => by
    show compactF [a, x, y] = if x = y then compactF [a, x] else compactF [a, x] ++ [y]
    rw [compactF_cons, compactF_cons (a := a) (b := x) (r := []), compactF_cons (a := x) (b := y) (r := []), compactF_one, compactF_one]
    by_cases h1 : a = x <;> by_cases h2 : x = y <;> simp [h1, h2]
  | a :: b :: r => by
    have ih := compactF_snoc x y (b :: r)
    simp only [List.cons_append] at ih ⊢
    rw [compactF_cons, compactF_cons (a := a), ih]
    by_cases h1 : a = b <;> by_cases h2 : x = y <;> simp [h1, h2]
/-- one element more -/
theorem compactF_take {xs : List IdD} {m : Nat} (h0 : 0 < m) (hm : m < xs.length) : compactF (xs.take (m + 1)) = if xs[m - 1] = xs[m] then compactF (xs.take m) else compactF (xs.take m) ++ [xs[m]] := by
  obtain ⟨k, rfl⟩ : ∃ k, m = k + 1 := ⟨m - 1, by omega⟩
  have h := compactF_snoc xs[k] xs[k + 1] (xs.take k)
  have e1 : xs.take k ++ [xs[k], xs[k + 1]] = xs.take (k + 1 + 1) := by
    have a1 := List.take_succ_eq_append_getElem hm
    have a2 := List.take_succ_eq_append_getElem (show k < xs.length by omega)
    rw [a1, a2, List.append_assoc]
    rfl
  have e2 : xs.take k ++ [xs[k]] = xs.take (k + 1) := (List.take_succ_eq_append_getElem (show k < xs.length by omega)).symm
  rw [e1, e2] at h
  simpa using h
theorem compactF_len : ∀ (xs : List IdD), (compactF xs).length ≤ xs.length
  | [] => by rw [compactF]; exact Nat.le_refl _
  | [a] => by rw [compactF]; exact Nat.le_refl _
  | a :: b :: r => by
    have := compactF_len (b :: r)
    rw [compactF_cons]
    split
    · simp only [List.length_cons] at *; omega
    · simp only [List.length_cons] at *; omega

end Go.Proofs.Ytbdblfpepnoafaa
namespace Go.Proofs.Ytbdblfpepnoafaa
open Go.RowKit Go.Shelf Go.Lib

theorem idCells_take : ∀ (xs : List IdD) (i : Nat), (idCells xs).take (i * 2) = idCells (xs.take i)
  | xs, 0 => by simp [idCells]
  | [], i + 1 => by simp [idCells]
  | x :: xs, i + 1 => by
    rw [List.take_succ_cons, idCells, show (i + 1) * 2 = i * 2 + 2 by omega]
    show _ :: _ :: (idCells xs).take (i * 2) = _
    rw [idCells_take xs i]
    rfl
structure CompSt (w : World) (g c : Nat) (xs : List IdD) (m k : Nat) : Prop where
  lt : k < m
  le : m ≤ xs.length
  cap : xs.length ≤ c
  len : k = (compactF (xs.take m)).length
  row : ∃ cur : Array Value, Blk w g 32 cur ∧ cur.size = c * 2 ∧ cur.toList.take (k * 2) = idCells (compactF (xs.take m)) ∧ ∀ j, (m - 1) * 2 ≤ j → j < xs.length * 2 → cur[j]? = (idCells xs)[j]?
theorem CompSt.cell {w : World} {g c m k : Nat} {xs : List IdD} (h : CompSt w g c xs m k) (j : Nat) (hm : m ≤ j + 1) (hj : j < xs.length) : ∀ (u : Nat) (v : Value), [Value.int .i64 xs[j].rep, Value.int .i64 xs[j].slot][u]? = some v → w.cell? ((⟨g, j * 2, none⟩ : Addr).add u) = some v := by
  intro u v hv
  obtain ⟨cur, hb, _, _, hc⟩ := h.row
  have hu : u < 2 := by
    rcases Nat.lt_or_ge u 2 with h | h
    · exact h
    · rw [List.getElem?_eq_none (by simpa using h)] at hv; cases hv
  rw [add_plain, hb.cell, hc _ (by have := h.lt; omega) (by omega), idCells_get xs _ (by omega), show (j * 2 + u) / 2 = j by omega, show (j * 2 + u) % 2 = u by omega]
  have e : xs[j]! = xs[j] := getElem!_pos xs j hj
  rw [e]
  have : u = 0 ∨ u = 1 := by omega
  rcases this with rfl | rfl <;> simpa [encId] using hv
theorem CompSt.drew {w : World} {g c m k : Nat} {xs : List IdD} (h : CompSt w g c xs m k) : CompSt w.drew g c xs m k := ⟨h.lt, h.le, h.cap, h.len, h.row⟩
theorem CompSt.skip {w : World} {g c m k : Nat} {xs : List IdD} (h : CompSt w g c xs m k) (hm : m < xs.length) (he : xs[m - 1]'(by have := h.lt; omega) = xs[m]) : CompSt w g c xs (m + 1) k := by
  have hl := h.lt
  have e := compactF_take (xs := xs) (m := m) (by omega) hm
  rw [if_pos he] at e
  obtain ⟨cur, hb, hs, ht, hc⟩ := h.row
  exact ⟨by omega, hm, h.cap, by rw [e]; exact h.len, cur, hb, hs, by rw [e]; exact ht, fun j h1 h2 => hc j (by omega) h2⟩
theorem CompSt.split {w : World} {g c m k : Nat} {xs : List IdD} (h : CompSt w g c xs m k) (hm : m < xs.length) : ∃ (A M C : List Value) (cur : Array Value), Blk w g 32 cur ∧ cur.toList = A ++ (M ++ C) ∧ A.length = k * 2 ∧ M.length = 2 ∧
    (xs[m - 1]'(by have := h.lt; omega) ≠ xs[m] → ∀ w', Blk w' g 32 (A ++ ([Value.int .i64 xs[m].rep, Value.int .i64 xs[m].slot] ++ C)).toArray → CompSt w' g c xs (m + 1) (k + 1)) := by
  have hl := h.lt
  have hcap := h.cap
  obtain ⟨cur, hb, hs, ht, hc⟩ := h.row
  have hsz : cur.toList.length = c * 2 := by simpa using hs
  refine ⟨cur.toList.take (k * 2), (cur.toList.drop (k * 2)).take 2, (cur.toList.drop (k * 2)).drop 2, cur, hb, by rw [List.take_append_drop, List.take_append_drop], by rw [List.length_take]; omega, by rw [List.length_take, List.length_drop]; omega, fun hne w' hb' => ?_⟩
  have e := compactF_take (xs := xs) (m := m) (by omega) hm
  rw [if_neg hne] at e
  have hAl : (cur.toList.take (k * 2)).length = k * 2 := by rw [List.length_take]; omega
  refine ⟨by omega, hm, hcap, by rw [e, List.length_append, ← h.len]; rfl, _, hb', ?_, ?_, fun j h1 h2 => ?_⟩
  · simp only [List.size_toArray, List.length_append, List.length_take, List.length_drop, List.length_cons, List.length_nil]
    omega
  · show List.take ((k + 1) * 2) (_ ++ _) = _
    rw [e, idCells_app, List.take_append, hAl, List.take_of_length_le (by rw [hAl]; omega), ht, show (k + 1) * 2 - k * 2 = 2 by omega]
    rfl
  · have h3 := hc j (by omega) h2
    rw [← h3]
    show ((cur.toList.take (k * 2)) ++ (_ ++ _)).toArray[j]? = _
    rw [List.getElem?_toArray, List.getElem?_append_right (by rw [hAl]; omega), hAl, List.getElem?_append_right (by simp; omega), List.getElem?_drop, List.getElem?_drop]
    simp only [List.length_cons, List.length_nil]
    rw [show k * 2 + (0 + 1 + 1 + (j - k * 2 - (0 + 1 + 1))) = j by omega, Array.getElem?_toList]
    
theorem CompSt.start {w : World} {base g n c k : Nat} {xs : List IdD} (hn : n = xs.length) (h : w.ownsRow base 32 2 (.slice (some ⟨g, 0, none⟩) n c) n (idCells xs)) (h0 : 0 < k) (hk : k < xs.length) (hall : compactF (xs.take k) = xs.take k) (he : xs[k - 1] = xs[k]) : CompSt w g c xs (k + 1) k := by
  have e := compactF_take (xs := xs) (m := k) h0 hk
  rw [if_pos he, hall] at e
  rcases h.2 with ⟨h1, h2⟩ | ⟨g', cap, cur, hv, hb, hg, hnc, hcm, hs, ht⟩
  · cases h1
  · injection hv with e1 e2 e3
    injection e1 with e1
    injection e1 with e1
    subst e1 e3 hn
    have hsz : cur.toList.length = c * 2 := by simpa using hs
    refine ⟨by omega, hk, hnc, by rw [e, List.length_take]; omega, cur, hg, hs, ?_, fun j h1 h2 => ?_⟩
    · rw [e, ← idCells_take, ← ht, List.take_take]
      congr 1
      omega
    · rw [← ht, List.getElem?_take_of_lt h2, Array.getElem?_toList]
/-- the clear of what is left over -/
theorem run_clear_row {P : Program} (w : World) (t e : TypeId) (z : Value) (ht : P.underlying t = some (.slice e)) (hv : ∀ w, (zeroValue e).run P w = .ok z w) (hz : z.cells.size = 2) (h1 : ∀ u ∈ z.cells.toList, u.oneCell' = true) (g o n c : Nat) (te : TypeId) (cur : Array Value) (hn : 0 < n)
    (hb : Blk w g te cur) (hs : o + n * 2 ≤ cur.size) :
    ∃ zs : List Value, zs.length = n * 2 ∧ ∀ ty, (Builtin.clear_ #[t] ty #[.slice (some ⟨g, o, none⟩) n c]).run P w = .ok (.tuple #[]) (w.setRow g (cur.toList.take o ++ zs ++ cur.toList.drop (o + n * 2)).toArray) := by
  have hzl : (Builtin.zeroCells z.cells n).toList.length = n * 2 := by rw [Array.length_toList, size_zeroCells, hz]
  have hone : ∀ v ∈ (Builtin.zeroCells z.cells n).toList, v.oneCell' = true := fun v hv' => by
    obtain ⟨i, hi, rfl⟩ := List.getElem_of_mem hv'
    refine h1 _ ?_
    simp [Builtin.zeroCells]
    have : i % z.cells.size < z.cells.size := Nat.mod_lt _ (by omega)
    rw [getElem!_pos z.cells _ this]
    exact Array.getElem_mem this
  have hst := run_storeCells_at (P := P) g o te (Builtin.zeroCells z.cells n).toList 0 cur w hb (by omega) hone
  rw [hzl, Nat.add_zero] at hst
  refine ⟨_, hzl, fun ty => ?_⟩
  obtain ⟨m, rfl⟩ : ∃ m, n = m + 1 := ⟨n - 1, by omega⟩
  simp [Builtin.clear_, run_underlying ht, hv, hst]
theorem CompSt.done {w : World} {base g c k : Nat} {xs : List IdD} (hbg : base ≤ g) (hcm : c ≤ maxLen) (h : CompSt w g c xs xs.length k) (P : Program) (t : TypeId) (z : Value) (ht : P.underlying t = some (.slice 32)) (hv : ∀ w, (zeroValue 32).run P w = .ok z w) (hz : z.cells.size = 2) (h1 : ∀ u ∈ z.cells.toList, u.oneCell' = true) :
    ∃ w', (∀ ty, (Builtin.clear_ #[t] ty #[.slice (some ⟨g, k * 2, none⟩) (xs.length - k) (c - k)]).run P w = .ok (.tuple #[]) w') ∧ w'.ownsRow base 32 2 (.slice (some ⟨g, 0, none⟩) k c) k (idCells (compactF xs)) ∧ w.grownBy w' (some g) := by
  have hlt := h.lt
  have hcap := h.cap
  obtain ⟨cur, hb, hs, hrow, _⟩ := h.row
  obtain ⟨zs, hzl, hr⟩ := run_clear_row (P := P) w t 32 z ht hv hz h1 g (k * 2) (xs.length - k) (c - k) 32 cur (by omega) hb (by omega)
  have hsz : cur.toList.length = c * 2 := by simpa using hs
  have hlen := h.len
  rw [List.take_of_length_le (Nat.le_refl _)] at hlen hrow
  have hAl : (cur.toList.take (k * 2)).length = k * 2 := by rw [List.length_take]; omega
  refine ⟨_, hr, ⟨by rw [idCells_length, hlen], .inr ⟨g, c, _, rfl, hbg, setRow_blk hb, by omega, hcm, ?_, ?_⟩⟩, setRow_grown _ _ _⟩
  · simp only [List.size_toArray, List.length_append, List.length_take, List.length_drop, hzl]
    omega
  · show List.take (k * 2) ((_ ++ _) ++ _) = _
    rw [List.append_assoc, List.take_append, hAl, List.take_of_length_le (by rw [hAl]; exact Nat.le_refl _), hrow, Nat.sub_self, List.take_zero, List.append_nil]

end Go.Proofs.Ytbdblfpepnoafaa
namespace Go.Proofs.Ytbdblfpepnoafaa
open Go.RowKit Go.Shelf Go.Lib

theorem compact_short : ∀ {xs : List IdD}, xs.length < 2 → compactF xs = xs
  | [], _ => rfl
  | [a], _ => rfl
  | a :: b :: r, h => by simp only [List.length_cons] at h; omega
theorem grown_dr {a b : World} {r : Option Nat} (h : a.grownBy b r) : a.grownBy b.drew r := ⟨h.os, h.tape, h.output, h.size, h.block⟩
theorem grown_tr {a b c : World} {r : Option Nat} (h : a.grownBy b r) (k : b.grownBy c r) : a.grownBy c r :=
  ⟨k.os.trans h.os, k.tape.trans h.tape, k.output.trans h.output, Nat.le_trans h.size k.size, fun j hj hn => (k.block j (Nat.lt_of_lt_of_le hj h.size) hn).trans (h.block j hj hn)⟩
set_option maxRecDepth 100000 in
set_option maxHeartbeats 2000000 in
theorem compact_own (base n c : Nat) (A : Option Addr) (xs : List IdD) (w : World) (hn : n = xs.length) (hn1 : n ≤ 4194304) (h : w.ownsRow base 32 2 (.slice A n c) n (idCells xs)) :
    Calls Try.prog 111 #[.slice A n c] w fun e w' =>
      ∃ m, e = .returned (.slice A m c) ∧ m = (compactF xs).length ∧ w'.ownsRow base 32 2 (.slice A m c) m (idCells (compactF xs)) ∧ w.grownBy w' (Value.slice A n c).ownBlock := by
  by_cases h2 : n < 2
  · have hc := compact_short (xs := xs) (by omega)
    have HH := Lib.hid h; clear h
    have HC := Lib.hid hc; clear hc
    have HN := Lib.hid hn; clear hn
    go_enter Try.func111, Try.ntmps111
    go_wp2
    go_ret
    exact ⟨n, ret_eq rfl, by rw [HC.out]; exact HN.out, by rw [HC.out]; exact HH.out, ⟨rfl, rfl, rfl, Nat.le_refl _, fun _ _ _ => rfl⟩⟩
  · obtain ⟨g, cap, cur, hv, hbg, hg, hnc, hcm, hs, ht⟩ := h.2.resolve_left (fun h0 => by omega)
    injection hv with e1 e2 e3
    subst e1 e3
    have hcap : xs.length ≤ c := by omega
    have HCM := Lib.hid (And.intro hcm hcap)
    have HBG := Lib.hid hbg
    have HO := Lib.hid h
    have HN := Lib.hid hn
    clear hg hnc hcm hs ht hbg e2
    have hnc : n ≤ c := by omega
    have hnm : c ≤ 9223372036854775807 := by have := HCM.out.1; simp only [maxLen] at this; omega
    clear h hn hcap
    have hcells : ∀ (wr : World) (_ : ∀ b, b < w.heap.size → wr.heap[b]? = w.heap[b]?) (j : Nat) (hj : j < xs.length), ∀ (u : Nat) (v : Value), [Value.int .i64 xs[j].rep, Value.int .i64 xs[j].slot][u]? = some v → wr.cell? ((⟨g, j * 2, none⟩ : Addr).add u) = some v := by
      intro wr hw j hj u v hv
      have hu : u < 2 := by
        rcases Nat.lt_or_ge u 2 with h | h
        · exact h
        · rw [List.getElem?_eq_none (by simpa using h)] at hv; cases hv
      have e := idCells_get xs (j * 2 + u) (by omega)
      rw [show (j * 2 + u) / 2 = j by omega, show (j * 2 + u) % 2 = u by omega, getElem!_pos xs j hj] at e
      have h3 := World.ownsRow.cells (g := g) HO.out rfl (j * 2 + u) _ e
      rw [add_plain, Nat.zero_add] at h3
      rw [add_plain, World.cell?_of_block (hw _ (HO.out.lt g rfl).2), h3]
      have : u = 0 ∨ u = 1 := by omega
      rcases this with rfl | rfl <;> simpa [encId] using hv
    have HC := Lib.hid hcells; clear hcells
    go_enter Try.func111, Try.ntmps111
    go_wp2
    go_loopw [3] (fun kk wr => ∃ k q : Nat, k + 1 ≤ n ∧ kk = .int .i64 ((k : Int) + 1) ∧ wr = w.drewN q ∧ compactF (xs.take (k + 1)) = xs.take (k + 1)) (fun kk _ => n - (intOf kk).toNat)
    case atStart => exact ⟨0, 0, by omega, rfl, rfl, compact_short (by rw [List.length_take]; omega)⟩
    case round =>
      obtain ⟨k, q, hk, rfl, rfl, hall⟩ := hrel
      have HALL := Lib.hid hall; clear hall
      by_cases hlt : k + 1 < n
      · have hk1 : k + 1 < xs.length := by have := HN.out; omega
        have hk0 : k < xs.length := by omega
        have c1 := HC.out (w.drewN q) (fun _ _ => rfl) (k + 1) hk1
        have c0 := HC.out (w.drewN q) (fun _ _ => rfl) k hk0
        have C1 := Lib.hid c1
        have C0 := Lib.hid c0
        clear c1 c0
        by_cases hxy : xs[k] = xs[k + 1]
        · have hst := fun W (hw : W = w.drewN (q + 1)) => CompSt.start (w := W) (c := c) (k := k + 1) HN.out (by subst hw; exact HO.out) (by omega) hk1 HALL.out hxy
          have HST := Lib.hid hst
          clear hst
          rw [hxy] at C0
          generalize xs[k + 1] = x at C1 C0
          obtain ⟨xr, xsl⟩ := x
          simp only [] at C1 C0
          clear hxy
          go_wp2_with fail
          refine wp_region_x 9 [0, 1, 2, 3, 4, 5, 6, 7, 8] (by kernel_rfl) (by kernel_rfl) ?_
          iterate 3 (refine wpX_quiet rfl (by kernel_rfl) rfl ?_; go_wp2; refine ⟨rfl, ?_⟩)
          refine wpX_quiet rfl (by kernel_rfl) rfl ?_; refine wpList_load_row _ _ rfl [.int .i64 xr, .int .i64 xsl] agg_Id rfl C1.out ?_; go_wp2; refine ⟨rfl, ?_⟩
          iterate 4 (refine wpX_quiet rfl (by kernel_rfl) rfl ?_; go_wp2; refine ⟨rfl, ?_⟩)
          refine wpX_quiet rfl (by kernel_rfl) rfl ?_; refine wpList_load_row _ _ rfl [.int .i64 xr, .int .i64 xsl] agg_Id rfl C0.out ?_; go_wp2; refine ⟨rfl, ?_⟩
          refine wpX_nil ?_; simp only [List.drop_succ_cons, List.drop_zero]
          go_wp2
          have hlc : k + 1 < c := by omega
          have hst := HST.out _ rfl
          have hgr : w.grownBy (w.drewN (q + 1)) (some g) := ⟨rfl, rfl, rfl, Nat.le_refl _, fun _ _ _ => rfl⟩
          have HS0 := Lib.hid (And.intro hst hgr)
          clear hst hgr HST C1 C0
          go_loopw [3, 5] (fun kk jj wr => ∃ (k' j : Nat), k + 1 + (j + 1) ≤ n ∧ kk = .int .i64 (k' : Int) ∧ jj = .int .i64 ((j : Int) + 1) ∧ CompSt wr g c xs (k + 1 + (j + 1)) k' ∧ w.grownBy wr (some g)) (fun _ jj _ => n - (intOf jj).toNat)
          case atStart => exact ⟨k + 1, 0, by omega, by go_num, rfl, HS0.out.1, HS0.out.2⟩
          case round =>
            clear HS0
            obtain ⟨k', j, hj, rfl, rfl, hst, hgr⟩ := hrel
            have hkl := hst.lt
            have ST := Lib.hid hst; clear hst
            have GR := Lib.hid hgr; clear hgr
            by_cases hl2 : k + 1 + (j + 1) < n
            · have hm1 : k + 1 + (j + 1) < xs.length := by have := HN.out; omega
              have hm0 : k + 1 + j < xs.length := by omega
              have c1 := ST.out.cell (k + 1 + (j + 1)) (by omega) hm1
              have c0 := ST.out.cell (k + 1 + j) (by omega) hm0
              have hsk := ST.out.skip hm1
              obtain ⟨AA, MM, CC, cur2, hb2, hc2, hA2, hM2, hst2⟩ := ST.out.split hm1
              have e0 : xs[k + 1 + (j + 1) - 1]'(by omega) = xs[k + 1 + j] := by congr 1
              rw [e0] at hsk hst2
              have ec1 : (⟨g, (k + 1 + (j + 1)) * 2, none⟩ : Addr) = ⟨g, (k + 1) * 2 + (j + 1) * 2, none⟩ := by rw [Nat.add_mul (k + 1)]
              have ec0 : (⟨g, (k + 1 + j) * 2, none⟩ : Addr) = ⟨g, (k + 1) * 2 + j * 2, none⟩ := by rw [Nat.add_mul (k + 1)]
              rw [ec1] at c1
              rw [ec0] at c0
              have HE := Lib.hid (And.intro ec1 ec0); clear ec1 ec0 e0
              generalize xs[k + 1 + (j + 1)] = x at *
              generalize xs[k + 1 + j] = y at *
              obtain ⟨xr, xsl⟩ := x
              obtain ⟨yr, ysl⟩ := y
              simp only [] at c1 c0 hst2
              have C1 := Lib.hid c1
              have C0 := Lib.hid c0
              have SK := Lib.hid hsk
              have SP := Lib.hid (And.intro (And.intro hb2 hc2) (And.intro hA2 hM2))
              have ST2 := Lib.hid hst2
              clear c1 c0 hsk hb2 hc2 hA2 hM2 hst2
              have hcj : ¬ c - (k + 1) = 0 := by omega
              by_cases hxy : (⟨yr, ysl⟩ : IdD) = ⟨xr, xsl⟩
              · have hs2 := SK.out hxy
                injection hxy with e1 e2
                subst e1 e2
                have S2 := Lib.hid hs2; clear hs2 SK ST2
                go_wp2_with fail
                refine wp_region_x 9 [0, 1, 2, 3, 4, 5, 6, 7, 8] (by kernel_rfl) (by kernel_rfl) ?_
                iterate 3 (refine wpX_quiet rfl (by kernel_rfl) rfl ?_; go_wp2; refine ⟨rfl, ?_⟩)
                refine wpX_quiet rfl (by kernel_rfl) rfl ?_; refine wpList_load_row _ _ rfl [.int .i64 yr, .int .i64 ysl] agg_Id rfl C1.out ?_; go_wp2; refine ⟨rfl, ?_⟩
                iterate 4 (refine wpX_quiet rfl (by kernel_rfl) rfl ?_; go_wp2; refine ⟨rfl, ?_⟩)
                refine wpX_quiet rfl (by kernel_rfl) rfl ?_; refine wpList_load_row _ _ rfl [.int .i64 yr, .int .i64 ysl] agg_Id rfl C0.out ?_; go_wp2; refine ⟨rfl, ?_⟩
                refine wpX_nil ?_; simp only [List.drop_succ_cons, List.drop_zero]
                go_wp2
                exact ⟨⟨k', j + 1, by omega, rfl, by go_num, S2.out.drew, grown_dr GR.out⟩, by simp only [intOf]; omega⟩
              · have HN2 := Lib.hid (fun W hW => ST2.out hxy W hW)
                clear SK ST2
                by_cases e1 : yr = xr
                · subst e1
                  have e2 : (xsl == ysl) = false := by simp only [beq_eq_false_iff_ne]; intro h; exact hxy (by rw [h])
                  have e3 : (ysl == xsl) = false := by simp only [beq_eq_false_iff_ne]; intro h; exact hxy (by rw [h])
                  clear hxy
                  go_wp2_with fail
                  refine wp_region_x 9 [0, 1, 2, 3, 4, 5, 6, 7, 8] (by kernel_rfl) (by kernel_rfl) ?_
                  iterate 3 (refine wpX_quiet rfl (by kernel_rfl) rfl ?_; go_wp2; refine ⟨rfl, ?_⟩)
                  refine wpX_quiet rfl (by kernel_rfl) rfl ?_; refine wpList_load_row _ _ rfl [.int .i64 yr, .int .i64 xsl] agg_Id rfl C1.out ?_; go_wp2; refine ⟨rfl, ?_⟩
                  iterate 4 (refine wpX_quiet rfl (by kernel_rfl) rfl ?_; go_wp2; refine ⟨rfl, ?_⟩)
                  refine wpX_quiet rfl (by kernel_rfl) rfl ?_; refine wpList_load_row _ _ rfl [.int .i64 yr, .int .i64 ysl] agg_Id rfl C0.out ?_; go_wp2; refine ⟨rfl, ?_⟩
                  refine wpX_nil ?_; simp only [List.drop_succ_cons, List.drop_zero]
                  go_wp2_with (first | ((with_reducible show wpList _ _ _ ({ dst := _, op := Op.load 32 _, type := _, pos := _, after := _, guard := _ } :: _) _ _); refine wpList_load_row _ _ rfl [.int .i64 yr, .int .i64 xsl] agg_Id rfl C1.out ?_) | ((with_reducible show wpList _ _ _ ({ dst := _, op := Op.store 32 _ _, type := _, pos := _, after := _, guard := _ } :: _) _ _); refine wpList_store_row _ g 32 (k' * 2) [.int .i64 yr, .int .i64 xsl] AA MM CC cur2 rfl rfl agg_Id SP.out.1.1 SP.out.1.2 SP.out.2.1 SP.out.2.2 (by simp [Value.oneCell']) ?_; intro w5 hb5 hg5; have HB5 := Lib.hid hb5; have HG5 := Lib.hid hg5; clear hb5 hg5) | fail)
                  exact ⟨⟨k' + 1, j + 1, by omega, by go_num, by go_num, HN2.out _ HB5.out, grown_tr (grown_dr GR.out) HG5.out⟩, by simp only [intOf]; omega⟩
                · have e2 : (xr == yr) = false := by simp only [beq_eq_false_iff_ne]; exact fun h => e1 h.symm
                  have e3 : (yr == xr) = false := by simp only [beq_eq_false_iff_ne]; exact e1
                  clear hxy e1
                  go_wp2_with fail
                  refine wp_region_x 9 [0, 1, 2, 3, 4, 5, 6, 7, 8] (by kernel_rfl) (by kernel_rfl) ?_
                  iterate 3 (refine wpX_quiet rfl (by kernel_rfl) rfl ?_; go_wp2; refine ⟨rfl, ?_⟩)
                  refine wpX_quiet rfl (by kernel_rfl) rfl ?_; refine wpList_load_row _ _ rfl [.int .i64 xr, .int .i64 xsl] agg_Id rfl C1.out ?_; go_wp2; refine ⟨rfl, ?_⟩
                  iterate 4 (refine wpX_quiet rfl (by kernel_rfl) rfl ?_; go_wp2; refine ⟨rfl, ?_⟩)
                  refine wpX_quiet rfl (by kernel_rfl) rfl ?_; refine wpList_load_row _ _ rfl [.int .i64 yr, .int .i64 ysl] agg_Id rfl C0.out ?_; go_wp2; refine ⟨rfl, ?_⟩
                  refine wpX_nil ?_; simp only [List.drop_succ_cons, List.drop_zero]
                  go_wp2_with (first | ((with_reducible show wpList _ _ _ ({ dst := _, op := Op.load 32 _, type := _, pos := _, after := _, guard := _ } :: _) _ _); refine wpList_load_row _ _ rfl [.int .i64 xr, .int .i64 xsl] agg_Id rfl C1.out ?_) | ((with_reducible show wpList _ _ _ ({ dst := _, op := Op.store 32 _ _, type := _, pos := _, after := _, guard := _ } :: _) _ _); refine wpList_store_row _ g 32 (k' * 2) [.int .i64 xr, .int .i64 xsl] AA MM CC cur2 rfl rfl agg_Id SP.out.1.1 SP.out.1.2 SP.out.2.1 SP.out.2.2 (by simp [Value.oneCell']) ?_; intro w5 hb5 hg5; have HB5 := Lib.hid hb5; have HG5 := Lib.hid hg5; clear hb5 hg5) | fail)
                  exact ⟨⟨k' + 1, j + 1, by omega, by go_num, by go_num, HN2.out _ HB5.out, grown_tr (grown_dr GR.out) HG5.out⟩, by simp only [intOf]; omega⟩
            · have hmn : k + 1 + (j + 1) = xs.length := by have := HN.out; omega
              have hst := ST.out
              rw [hmn] at hst
              have hl := hst.len
              rw [List.take_length] at hl
              obtain ⟨w', hcl, hown, hg'⟩ := CompSt.done HBG.out HCM.out.1 hst Try.prog 34 (.agg #[.int .i64 0, .int .i64 0]) Try.underlying34 (fun _ => rfl) rfl (by intro u hu; simp [Value.cells] at hu; subst hu; rfl)
              rw [← show n = xs.length from HN.out] at hcl
              have HOW := Lib.hid hown
              have HGW := Lib.hid hg'
              have HL := Lib.hid hl
              have hkn : k' < n := by omega
              have hkc : ¬ c - k' = 0 := by omega
              clear hown hg' hl hst
              go_wp2
              go_ret
              exact ⟨k', ret_eq rfl, HL.out, HOW.out, grown_tr GR.out HGW.out⟩
        · have hall2 := compactF_take (xs := xs) (m := k + 1) (by omega) hk1
          rw [if_neg (by exact hxy), HALL.out, ← List.take_succ_eq_append_getElem hk1] at hall2
          have HALL2 := Lib.hid hall2
          clear hall2
          generalize xs[k + 1] = x at *
          generalize xs[k] = y at *
          obtain ⟨xr, xsl⟩ := x
          obtain ⟨yr, ysl⟩ := y
          simp only [] at C1 C0
          by_cases e1 : yr = xr
          · subst e1
            have e2 : (xsl == ysl) = false := by simp only [beq_eq_false_iff_ne]; intro h; exact hxy (by rw [h])
            have e3 : (ysl == xsl) = false := by simp only [beq_eq_false_iff_ne]; intro h; exact hxy (by rw [h])
            clear hxy
            go_wp2_with fail
            refine wp_region_x 9 [0, 1, 2, 3, 4, 5, 6, 7, 8] (by kernel_rfl) (by kernel_rfl) ?_
            iterate 3 (refine wpX_quiet rfl (by kernel_rfl) rfl ?_; go_wp2; refine ⟨rfl, ?_⟩)
            refine wpX_quiet rfl (by kernel_rfl) rfl ?_; refine wpList_load_row _ _ rfl [.int .i64 yr, .int .i64 xsl] agg_Id rfl C1.out ?_; go_wp2; refine ⟨rfl, ?_⟩
            iterate 4 (refine wpX_quiet rfl (by kernel_rfl) rfl ?_; go_wp2; refine ⟨rfl, ?_⟩)
            refine wpX_quiet rfl (by kernel_rfl) rfl ?_; refine wpList_load_row _ _ rfl [.int .i64 yr, .int .i64 ysl] agg_Id rfl C0.out ?_; go_wp2; refine ⟨rfl, ?_⟩
            refine wpX_nil ?_; simp only [List.drop_succ_cons, List.drop_zero]
            go_wp2
            exact ⟨⟨k + 1, q + 1, by omega, by go_num, rfl, HALL2.out⟩, by simp only [intOf]; omega⟩
          · have e2 : (xr == yr) = false := by simp only [beq_eq_false_iff_ne]; exact fun h => e1 h.symm
            have e3 : (yr == xr) = false := by simp only [beq_eq_false_iff_ne]; exact e1
            clear hxy e1
            go_wp2_with fail
            refine wp_region_x 9 [0, 1, 2, 3, 4, 5, 6, 7, 8] (by kernel_rfl) (by kernel_rfl) ?_
            iterate 3 (refine wpX_quiet rfl (by kernel_rfl) rfl ?_; go_wp2; refine ⟨rfl, ?_⟩)
            refine wpX_quiet rfl (by kernel_rfl) rfl ?_; refine wpList_load_row _ _ rfl [.int .i64 xr, .int .i64 xsl] agg_Id rfl C1.out ?_; go_wp2; refine ⟨rfl, ?_⟩
            iterate 4 (refine wpX_quiet rfl (by kernel_rfl) rfl ?_; go_wp2; refine ⟨rfl, ?_⟩)
            refine wpX_quiet rfl (by kernel_rfl) rfl ?_; refine wpList_load_row _ _ rfl [.int .i64 yr, .int .i64 ysl] agg_Id rfl C0.out ?_; go_wp2; refine ⟨rfl, ?_⟩
            refine wpX_nil ?_; simp only [List.drop_succ_cons, List.drop_zero]
            go_wp2
            exact ⟨⟨k + 1, q + 1, by omega, by go_num, rfl, HALL2.out⟩, by simp only [intOf]; omega⟩
      · have hke : k + 1 = n := by omega
        subst hke
        have hc := HALL.out
        rw [show k + 1 = xs.length from HN.out, List.take_length] at hc
        have HCC := Lib.hid hc; clear hc
        go_wp2
        go_ret
        exact ⟨k + 1, ret_eq (by first | rfl | (congr 1)), by rw [HCC.out]; exact HN.out, by rw [HCC.out]; exact HO.out, ⟨rfl, rfl, rfl, Nat.le_refl _, fun _ _ _ => rfl⟩⟩

end Go.Proofs.Ytbdblfpepnoafaa
namespace Go.Proofs.Ytbdblfpepnoafaa
open Go.RowKit

theorem own_at {w : World} {base e sz n : Nat} {v : Value} {xs : List Value} (h : w.ownsRow base e sz v n xs) {k : Nat} (hb : v.ownBlock = some k) : ∃ c, v = .slice (some ⟨k, 0, none⟩) n c ∧ n ≤ c := by
  rcases h.2 with ⟨rfl, _⟩ | ⟨g, cap, cur, rfl, _, _, hnc, _⟩
  · cases hb
  · simp only [Value.ownBlock] at hb
    injection hb with hb
    subst hb
    exact ⟨cap, rfl, hnc⟩
theorem own_at2 {w : World} {base e sz n : Nat} {v : Value} {xs : List Value} (h : w.ownsRow base e sz v n xs) {a b : Nat} (hb : v.ownBlock = some a ∨ v.ownBlock = some b) : ∃ k c, v = .slice (some ⟨k, 0, none⟩) n c ∧ n ≤ c := by
  rcases hb with hb | hb
  · obtain ⟨c, h1⟩ := own_at h hb; exact ⟨_, c, h1⟩
  · obtain ⟨c, h1⟩ := own_at h hb; exact ⟨_, c, h1⟩
set_option maxRecDepth 100000 in
set_option maxHeartbeats 2000000 in
theorem iJoinIds_any (xs ys : List IdD) (A : Option Addr) (n c : Nat) (A' : Option Addr) (n' c' : Nat) (w : World) (hn : n = xs.length) (hwt : n + (cat IdD.c xs).wt ≤ 1048576) (hn' : n' = ys.length) (hwt' : n' + (cat IdD.c ys).wt ≤ 1048576) (h : Rep anyB w (.sl 32 2 n (cat IdD.c xs) .nil) [.slice A n c]) (h' : Rep anyB w (.sl 32 2 n' (cat IdD.c ys) .nil) [.slice A' n' c']) (hcap : n ≤ c) :
    Calls Try.prog 43 #[.slice A n c, .slice A' n' c'] w fun e w' => ∃ A2 m c2, e = .returned (.slice A2 m c2) ∧ m = (fJoinIds xs ys).length ∧ Mine w' w.heap.size (.sl 32 2 m (cat IdD.c (fJoinIds xs ys)) .nil) [.slice A2 m c2] ∧ Below w.heap.size w w' := by
  have HA := Lib.hid (fun W => iIdsOk_any xs A n c W hn hwt)
  have HB := Lib.hid (fun W => iIdsOk_any ys A' n' c' W hn' hwt')
  have HR := Lib.hid h
  have HR' := Lib.hid h'
  obtain ⟨R, hR⟩ : ∃ R, R = fJoinIds xs ys := ⟨_, rfl⟩
  rw [← hR]
  unfold fJoinIds at hR
  have HF := Lib.hid hR
  have HN := Lib.hid hn
  have HN' := Lib.hid hn'
  have hb1 : n ≤ 1048576 := by omega
  have hb2 : n' ≤ 1048576 := by omega
  clear h h' hR hn hn' hwt hwt' hcap
  go_enter Try.func43, Try.ntmps43
  go_wp2_with fail
  refine (HA.out _ HR.out).mono ?_; rintro e v1 ⟨rfl, hb⟩
  have B1 := Lib.hid hb; clear hb
  have fin : ∀ v : World, Below w.heap.size w v → R = [] → Mine v w.heap.size (.sl 32 2 0 (cat IdD.c R) .nil) [.slice none 0 0] := fun v hv e => by
    subst e
    exact mine_ids (l := []) (World.ownsRow_nil _ _ _ _) rfl
  have FIN := Lib.hid fin; clear fin
  cases ha : idsOkB xs with
  | false =>
    have hRz : R = [] := by rw [HF.out, ha, if_neg (by simp)]
    have HRZ := Lib.hid hRz; clear hRz
    go_wp2
    go_ret
    exact ⟨_, 0, 0, ret_eq rfl, by rw [HRZ.out]; rfl, FIN.out _ B1.out HRZ.out, B1.out⟩
  | true =>
    go_wp2_with fail
    refine (HB.out _ (HR'.out.below B1.out)).mono ?_; rintro e v2 ⟨rfl, hb⟩
    have B2 := Lib.hid (B1.out.trans (hb.mono B1.out.size)); clear hb
    cases hbb : idsOkB ys with
    | false =>
      have hRz : R = [] := by rw [HF.out, ha, hbb, if_neg (by simp)]
      have HRZ := Lib.hid hRz; clear hRz
      go_wp2
      go_ret
      exact ⟨_, 0, 0, ret_eq rfl, by rw [HRZ.out]; rfl, FIN.out _ B2.out HRZ.out, B2.out⟩
    | true =>
      have hRz : R = joinF xs ys := by rw [HF.out, ha, hbb, if_pos ⟨rfl, rfl⟩]
      have HRZ := Lib.hid hRz; clear hRz
      have HAS := Lib.hid (ids_asc ha)
      have HBS := Lib.hid (ids_asc hbb)
      clear ha hbb
      obtain ⟨cx, hrdx, hrcx, _⟩ := HR.out.row
      obtain rfl := rep_ids hrcx
      obtain ⟨cy, hrdy, hrcy, _⟩ := HR'.out.row
      obtain rfl := rep_ids hrcy
      have HX := Lib.hid (And.intro hrdx (own_ids w 0 xs).one)
      have HY := Lib.hid (And.intro hrdy (own_ids w 0 ys).one)
      clear hrdx hrcx hrdy hrcy
      have hown : (v2.alloc (.cells #[] 32)).ownsRow w.heap.size 32 2 (.slice (some ⟨v2.heap.size, 0, none⟩) 0 0) 0 [] := World.ownsRow_made v2 #[] 0 B2.out.size (by simp [maxLen]) rfl
      have HO := Lib.hid hown; clear hown
      go_wp2_with (first
        | (at_builtin; (refine wpList_app E_Id _ rfl _ _ rfl w.heap.size _ 0 [] rfl HO.out _ _ _ (idCells xs) rfl (HX.out.1.below (B2.out.alloc B2.out.size _)) HX.out.2 (by omega) (Nat.le_trans B2.out.size (by simp)) ?_; intro vv w3 hown3 hg3 hat3; simp only [Nat.zero_add, List.nil_append] at hown3; obtain ⟨k3, c3, rfl, hc3⟩ := own_at2 hown3 (show _ = some v2.heap.size ∨ _ = some _ from hat3); have HO3 := Lib.hid hown3; have B3 := Lib.hid (Below.grown ((B2.out).alloc (B2.out).size _) hg3 (Nat.le_trans (B2.out).size (by simp)) (fun k hk => (HO.out.lt k hk).1)); clear hown3 hg3 hat3))
        | (at_builtin; go_must (refine wpList_app E_Id _ rfl _ _ rfl w.heap.size _ n (idCells xs) rfl HO3.out _ _ _ (idCells ys) rfl (HY.out.1.below B3.out) HY.out.2 (by omega) B3.out.size ?_; intro vv w4 hown4 hg4 hat4; rw [← idCells_app] at hown4; obtain ⟨k4, c4, rfl, hc4⟩ := own_at2 hown4 hat4; have HO4 := Lib.hid hown4; have B4 := Lib.hid (Below.grown B3.out hg4 B3.out.size (fun k hk => (HO3.out.lt k hk).1)); clear hown4 hg4 hat4))
        | fail)
      refine (sort_own w.heap.size k4 (n + n') c4 (xs ++ ys) _ (by rw [List.length_append, ← show n = xs.length from HN.out, ← show n' = ys.length from HN'.out]) (by omega) HO4.out).mono ?_
      rintro e w5 ⟨rfl, zs, hp, hs, ho5, hg5⟩
      have HP := Lib.hid hp
      have HS := Lib.hid hs
      have HO5 := Lib.hid ho5
      have B5 := Lib.hid (Below.grown B4.out hg5 B4.out.size (fun k hk => (HO4.out.lt k hk).1))
      clear hp hs ho5 hg5
      go_wp2_with fail
      refine (compact_own w.heap.size (n + n') c4 (some ⟨k4, 0, none⟩) zs _ (by rw [HP.out.length_eq, List.length_append, ← show n = xs.length from HN.out, ← show n' = ys.length from HN'.out]) (by omega) HO5.out).mono ?_
      rintro e w6 ⟨m, rfl, hm, ho6, hg6⟩
      have hj : compactF zs = R := by rw [HRZ.out]; exact sorted_join HAS.out HBS.out HP.out HS.out
      rw [hj] at hm ho6
      have HM := Lib.hid (mine_ids ho6 hm)
      have HL := Lib.hid hm
      have B6 := Lib.hid (Below.grown B5.out hg6 B5.out.size (fun k hk => (HO5.out.lt k hk).1))
      clear hm ho6 hg6 hj
      go_wp2
      go_ret
      exact ⟨_, m, c4, ret_eq rfl, HL.out, HM.out, B6.out⟩

end Go.Proofs.Ytbdblfpepnoafaa
namespace Go.Proofs.Ytbdblfpepnoafaa
open Go.RowKit

/-- x is reached from id -/
def Rch (D : IdD → List IdD) (id x : IdD) : Prop := ∀ S : IdD → Prop, (∀ y ∈ D id, S y) → (∀ y, S y → ∀ z ∈ D y, S z) → S x
theorem Rch.base {D : IdD → List IdD} {id x : IdD} (h : x ∈ D id) : Rch D id x := fun _ h1 _ => h1 x h
theorem Rch.step {D : IdD → List IdD} {id y x : IdD} (h : Rch D id y) (k : x ∈ D y) : Rch D id x := fun S h1 h2 => h2 y (h S h1 h2) x k
/-- a row that holds the Deps of id and of its own, and nothing that is not reached -/
theorem rch_iff {D : IdD → List IdD} {id : IdD} {out : List IdD} (h1 : ∀ x ∈ out, Rch D id x) (h2 : ∀ x ∈ D id, x ∈ out) (h3 : ∀ y ∈ out, ∀ x ∈ D y, x ∈ out) (x : IdD) : x ∈ out ↔ Rch D id x :=
  ⟨h1 x, fun h => h (· ∈ out) h2 h3⟩
theorem joinF_ge : ∀ (a b : List IdD), a.length ≤ (joinF a b).length ∧ ((joinF a b).length = a.length → joinF a b = a)
  | [], b => by
    rw [joinF_nil]
    exact ⟨Nat.zero_le _, fun h => List.length_eq_zero_iff.1 h⟩
  | x :: a, [] => by rw [joinF_nil2]; exact ⟨Nat.le_refl _, fun _ => rfl⟩
  | x :: a, y :: b => by
    by_cases h : idLt x y = true
    · have ih := joinF_ge a (y :: b)
      rw [joinF_lt h, List.length_cons, List.length_cons]
      exact ⟨by omega, fun e => by rw [ih.2 (by omega)]⟩
    · have h : idLt x y = false := by simpa using h
      by_cases h2 : x = y
      · subst h2
        have ih := joinF_ge a b
        rw [joinF_eq, List.length_cons, List.length_cons]
        exact ⟨by omega, fun e => by rw [ih.2 (by omega)]⟩
      · have ih := joinF_ge (x :: a) b
        rw [joinF_gt h h2]
        simp only [List.length_cons] at ih ⊢
        exact ⟨by omega, fun e => by omega⟩
termination_by a b => a.length + b.length
/-- all Deps joined to a row -/
def foldJ (D : IdD → List IdD) (nx : List IdD) (l : List IdD) : List IdD := l.foldl (fun a y => joinF a (D y)) nx
def stepF (D : IdD → List IdD) (out : List IdD) : List IdD := foldJ D out out
def iterF (D : IdD → List IdD) : Nat → List IdD → List IdD
  | 0, out => out
  | n + 1, out => iterF D n (stepF D out)
theorem foldJ_snoc (D : IdD → List IdD) (nx l : List IdD) (y : IdD) : foldJ D nx (l ++ [y]) = joinF (foldJ D nx l) (D y) := by
  rw [foldJ, List.foldl_append]; rfl
theorem foldJ_take (D : IdD → List IdD) (nx l : List IdD) (i : Nat) (hi : i < l.length) : foldJ D nx (l.take (i + 1)) = joinF (foldJ D nx (l.take i)) (D l[i]) := by
  rw [List.take_succ_eq_append_getElem hi, foldJ_snoc]
theorem foldJ_ge (D : IdD → List IdD) : ∀ (l nx : List IdD), nx.length ≤ (foldJ D nx l).length ∧ ((foldJ D nx l).length = nx.length → foldJ D nx l = nx)
  | [], nx => ⟨Nat.le_refl _, fun _ => rfl⟩
  | y :: l, nx => by
    have h1 := joinF_ge nx (D y)
    have h2 := foldJ_ge D l (joinF nx (D y))
    show nx.length ≤ (foldJ D (joinF nx (D y)) l).length ∧ ((foldJ D (joinF nx (D y)) l).length = nx.length → foldJ D (joinF nx (D y)) l = nx)
    refine ⟨by omega, fun e => ?_⟩
    rw [h2.2 (by omega), h1.2 (by omega)]
theorem mem_foldJ (D : IdD → List IdD) {x : IdD} : ∀ {l nx : List IdD}, x ∈ foldJ D nx l ↔ x ∈ nx ∨ ∃ y ∈ l, x ∈ D y
  | [], nx => by simp [foldJ]
  | y :: l, nx => by
    show x ∈ foldJ D (joinF nx (D y)) l ↔ _
    rw [mem_foldJ D, mem_joinF, or_assoc]
    simp
theorem asc_foldJ {D : IdD → List IdD} (hD : ∀ y, Asc (D y)) : ∀ {l nx : List IdD}, Asc nx → Asc (foldJ D nx l)
  | [], nx, h => h
  | y :: l, nx, h => asc_foldJ hD (l := l) (asc_joinF h (hD y))
theorem asc_iter {D : IdD → List IdD} (hD : ∀ y, Asc (D y)) : ∀ (n : Nat) {out : List IdD}, Asc out → Asc (iterF D n out)
  | 0, _, h => h
  | n + 1, _, h => asc_iter hD n (asc_foldJ hD h)
theorem iter_fix {D : IdD → List IdD} {out : List IdD} (h : stepF D out = out) : ∀ n : Nat, iterF D n out = out
  | 0 => rfl
  | n + 1 => by rw [iterF, h, iter_fix h n]
theorem sub_iter {D : IdD → List IdD} : ∀ (n : Nat) {out : List IdD} {x : IdD}, x ∈ out → x ∈ iterF D n out
  | 0, _, _, h => h
  | n + 1, _, _, h => sub_iter n ((mem_foldJ D).2 (.inl h))
theorem iter_rch {D : IdD → List IdD} {id : IdD} : ∀ (n : Nat) {out : List IdD}, (∀ x ∈ out, Rch D id x) → ∀ x ∈ iterF D n out, Rch D id x
  | 0, _, h => h
  | n + 1, _, h => iter_rch n fun x hx => by
    rcases (mem_foldJ D).1 hx with h1 | ⟨y, hy, h1⟩
    · exact h x h1
    · exact (h y hy).step h1
theorem iter_okP {D : IdD → List IdD} {p : IdD → Prop} (hD : ∀ y, ∀ x ∈ D y, p x) : ∀ (n : Nat) {out : List IdD}, (∀ x ∈ out, p x) → ∀ x ∈ iterF D n out, p x
  | 0, _, h => h
  | n + 1, _, h => iter_okP hD n fun x hx => by
    rcases (mem_foldJ D).1 hx with h1 | ⟨y, _, h1⟩
    · exact h x h1
    · exact hD y x h1
theorem nodup_lt : ∀ (n : Nat) (l : List Nat), l.Nodup → (∀ x ∈ l, x < n) → l.length ≤ n
  | 0, l, _, h => by
    cases l with
    | nil => exact Nat.le_refl _
    | cons x r => exact absurd (h x (by simp)) (by omega)
  | n + 1, l, hn, h => by
    by_cases hm : n ∈ l
    · have ih := nodup_lt n (l.erase n) (hn.erase n) fun x hx => by
        have h1 := h x (List.mem_of_mem_erase hx)
        have h2 : x ≠ n := fun e => by
          subst e
          exact (List.Nodup.not_mem_erase hn) hx
        omega
      rw [List.length_erase_of_mem hm] at ih
      omega
    · have ih := nodup_lt n l hn fun x hx => by
        have h1 := h x hx
        have h2 : x ≠ n := fun e => hm (e ▸ hx)
        omega
      omega
theorem ok_bounds {x : IdD} (h : idOkB x = true) : 0 ≤ x.rep ∧ x.rep ≤ 2 ∧ 1 ≤ x.slot ∧ x.slot ≤ 6 := by
  simp [idOkB, inB] at h
  omega
/-- right Ids without doubles are at most 18 -/
theorem ok_len {l : List IdD} (hn : l.Nodup) (hk : ∀ x ∈ l, idOkB x = true) : l.length ≤ 18 := by
  have h := nodup_lt 18 (l.map fun x => (x.rep * 6 + x.slot - 1).toNat) ?_ ?_
  · simpa using h
  · refine List.pairwise_map.2 ?_
    have h2 : l.Pairwise fun a b => a ∈ l ∧ b ∈ l ∧ a ≠ b := List.Pairwise.imp_of_mem (fun {a b} ha hb h => ⟨ha, hb, h⟩) hn
    refine h2.imp fun {a b} hab e => hab.2.2 ?_
    have ha := ok_bounds (hk a hab.1)
    have hb := ok_bounds (hk b hab.2.1)
    have e2 : a.rep * 6 + a.slot - 1 = b.rep * 6 + b.slot - 1 := by omega
    exact idD_ext (by omega) (by omega)
  · intro x hx
    obtain ⟨y, hy, rfl⟩ := List.mem_map.1 hx
    have := ok_bounds (hk y hy)
    omega
/-- whoever goes on 18 times has all -/
theorem iter_closed {D : IdD → List IdD} (hD : ∀ y, Asc (D y)) (hk : ∀ y, ∀ x ∈ D y, idOkB x = true) : ∀ (n : Nat) {out : List IdD}, Asc out → (∀ x ∈ out, idOkB x = true) → 18 ≤ n + out.length → stepF D (iterF D n out) = iterF D n out
  | 0, out, ha, ho, h => by
    show stepF D out = out
    have h1 := foldJ_ge D out out
    have h2 : (stepF D out).length ≤ 18 := ok_len (asc_nodup (asc_foldJ hD ha)) fun x hx => by
      rcases (mem_foldJ D).1 hx with h1 | ⟨y, _, h1⟩
      · exact ho x h1
      · exact hk y x h1
    exact h1.2 (Nat.le_antisymm (by have : (stepF D out).length = (foldJ D out out).length := rfl; omega) h1.1)
  | n + 1, out, ha, ho, h => by
    have h1 := foldJ_ge D out out
    by_cases he : (stepF D out).length = out.length
    · have e := h1.2 he
      have e : stepF D out = out := e
      rw [iter_fix e, e]
    · have hl : out.length + 1 ≤ (stepF D out).length := by
        have : (stepF D out).length = (foldJ D out out).length := rfl
        omega
      exact iter_closed hD hk n (asc_foldJ hD ha) (fun x hx => by
        rcases (mem_foldJ D).1 hx with h1 | ⟨y, _, h1⟩
        · exact ho x h1
        · exact hk y x h1) (by have : (stepF D out).length ≤ (foldJ D out out).length := Nat.le_refl _; omega)
def reachF (D : IdD → List IdD) (id : IdD) : List IdD := iterF D 18 (D id)
theorem asc_reach {D : IdD → List IdD} (hD : ∀ y, Asc (D y)) (id : IdD) : Asc (reachF D id) := asc_iter hD 18 (hD id)
theorem reach_ok {D : IdD → List IdD} (hk : ∀ y, ∀ x ∈ D y, idOkB x = true) (id : IdD) : ∀ x ∈ reachF D id, idOkB x = true := iter_okP hk 18 (hk id)
theorem mem_reach {D : IdD → List IdD} (hD : ∀ y, Asc (D y)) (hk : ∀ y, ∀ x ∈ D y, idOkB x = true) (id x : IdD) : x ∈ reachF D id ↔ Rch D id x := by
  refine rch_iff (iter_rch 18 fun x hx => Rch.base hx) (fun x hx => sub_iter 18 hx) (fun y hy x hx => ?_) x
  have h := iter_closed hD hk 18 (hD id) (hk id) (by omega)
  have h2 : x ∈ stepF D (iterF D 18 (D id)) := (mem_foldJ D).2 (.inr ⟨y, hy, hx⟩)
  rw [h] at h2
  exact h2
/-- what was found, sorted -/
theorem reach_sorted {D : IdD → List IdD} (hD : ∀ y, Asc (D y)) (hk : ∀ y, ∀ x ∈ D y, idOkB x = true) {id : IdD} {out ys : List IdD} (hn : out.Nodup) (h1 : ∀ x ∈ out, Rch D id x) (h2 : ∀ x ∈ D id, x ∈ out) (h3 : ∀ y ∈ out, ∀ x ∈ D y, x ∈ out) (hp : ys.Perm out) (hs : Wk ys) : ys = reachF D id :=
  asc_ext (sorted_asc hn hp hs) (asc_reach hD id) fun x => by rw [hp.mem_iff, rch_iff h1 h2 h3, mem_reach hD hk]

end Go.Proofs.Ytbdblfpepnoafaa
namespace Go.Proofs.Ytbdblfpepnoafaa
open Go.RowKit

theorem insts_good {xs : List InstD} (h : instsOkB xs = true) : instsGood xs xs.length := by simpa [instsOkB] using h
theorem insts_lt {xs : List InstD} (h : instsOkB xs = true) : ∀ i j (hi : i < xs.length) (hj : j < xs.length), i < j → idLt xs[i].id xs[j].id = true := by
  have hg := insts_good h
  intro i j hi hj hij
  induction j with
  | zero => omega
  | succ j ih =>
    obtain ⟨x, hx, _, hl⟩ := hg (j + 1) hj
    have hjj : xs[j]? = some xs[j] := List.getElem?_eq_getElem (by omega)
    have h1 := hl xs[j] (by omega) hjj
    rw [List.getElem?_eq_getElem hj] at hx
    injection hx with hx
    subst hx
    rcases Nat.lt_or_ge i j with h2 | h2
    · exact idLt_trans (ih (by omega) h2) h1
    · have : i = j := by omega
      subst this
      exact h1
theorem insts_ne {xs : List InstD} (h : instsOkB xs = true) (i j : Nat) (hi : i < xs.length) (hj : j < xs.length) (hne : i ≠ j) : xs[i].id ≠ xs[j].id := by
  intro e
  rcases Nat.lt_or_gt_of_ne hne with h1 | h1
  · have := insts_lt h i j hi hj h1
    rw [e, idLt_irrefl] at this
    cases this
  · have := insts_lt h j i hj hi h1
    rw [e, idLt_irrefl] at this
    cases this
theorem inst_ok {xs : List InstD} (h : instsOkB xs = true) (i : Nat) (hi : i < xs.length) : instOkB xs[i] = true := by
  obtain ⟨x, hx, h1, _⟩ := insts_good h i hi
  rw [List.getElem?_eq_getElem hi] at hx
  injection hx with hx
  rw [hx]; exact h1
theorem inst_deps {x : InstD} (h : instOkB x = true) : idsOkB x.deps = true := by
  unfold instOkB at h
  simp only [Bool.and_eq_true] at h
  exact h.2.2.2.2.2.2.1
theorem fInstAt_at {xs : List InstD} (h : instsOkB xs = true) (j : Nat) (hj : j < xs.length) : fInstAt xs xs[j].id = xs[j] :=
  instAt_yes hj (fun i hi hlt => insts_ne h i j hi hj (by omega)) rfl
theorem fInstAt_or (xs : List InstD) (x : IdD) : (∃ j, ∃ hj : j < xs.length, fInstAt xs x = xs[j] ∧ xs[j].id = x) ∨ fInstAt xs x = newInst x := by
  by_cases h : ∃ j, ∃ hj : j < xs.length, xs[j].id = x ∧ ∀ i (hi : i < xs.length), i < j → ¬ xs[i].id = x
  · obtain ⟨j, hj, h1, h2⟩ := h
    exact .inl ⟨j, hj, instAt_yes hj h2 h1, h1⟩
  · refine .inr (instAt_no ?_)
    have : ∀ i, ∀ hi : i < xs.length, ¬ xs[i].id = x := by
      intro i
      induction i using Nat.strongRecOn with
      | ind i ih =>
        intro hi he
        exact h ⟨i, hi, he, fun k hk hlt => ih k hlt hk⟩
    exact this
/-- is an Id committed? -/
def comB (xs : List InstD) (x : IdD) : Bool := decide ((fInstAt xs x).status = 3)
def depsOf (xs : List InstD) (x : IdD) : List IdD := if (fInstAt xs x).status = 3 then (fInstAt xs x).deps else []
theorem com_at {xs : List InstD} (h : instsOkB xs = true) {x : IdD} (j : Nat) (hj : j < xs.length) (hx : xs[j].id = x) (hs : xs[j].status = 3) : comB xs x = true ∧ depsOf xs x = xs[j].deps := by
  subst hx
  unfold comB depsOf
  rw [fInstAt_at h j hj]
  simp [hs]
theorem com_no {xs : List InstD} {x : IdD} (h : ∀ j (hj : j < xs.length), ¬ (xs[j].id = x ∧ xs[j].status = 3)) : comB xs x = false ∧ depsOf xs x = [] := by
  unfold comB depsOf
  rcases fInstAt_or xs x with ⟨j, hj, e, hx⟩ | e
  · have : ¬ xs[j].status = 3 := fun hs => h j hj ⟨hx, hs⟩
    rw [e]
    simp [this]
  · rw [e]
    simp [newInst]
theorem depsOf_ok {xs : List InstD} (h : instsOkB xs = true) (y : IdD) : idsOkB (depsOf xs y) = true := by
  unfold depsOf
  split
  · rcases fInstAt_or xs y with ⟨j, hj, e, _⟩ | e
    · rw [e]; exact inst_deps (inst_ok h j hj)
    · rw [e]; exact ids_of Asc.nil (fun x hx => absurd hx (by simp [newInst]))
  · exact ids_of Asc.nil (fun x hx => absurd hx (by simp))
theorem depsOf_asc {xs : List InstD} (h : instsOkB xs = true) (y : IdD) : Asc (depsOf xs y) := ids_asc (depsOf_ok h y)
theorem depsOf_all {xs : List InstD} (h : instsOkB xs = true) (y : IdD) : ∀ x ∈ depsOf xs y, idOkB x = true := ids_ok (depsOf_ok h y)
noncomputable def fReach (xs : List InstD) (x : IdD) : List IdD := if instsOkB xs = true then reachF (depsOf xs) x else []
noncomputable def fReady (xs : List InstD) (x : IdD) : Bool := instsOkB xs && (comB xs x && (reachF (depsOf xs) x).all (comB xs))
theorem reach_len {xs : List InstD} (h : instsOkB xs = true) (x : IdD) : (reachF (depsOf xs) x).length ≤ 18 :=
  ok_len (asc_nodup (asc_reach (depsOf_asc h) x)) (reach_ok (depsOf_all h) x)
theorem reach_done {xs : List InstD} (h : instsOkB xs = true) {id : IdD} {out ys : List IdD} (hn : out.Nodup) (h1 : ∀ x ∈ out, Rch (depsOf xs) id x) (h2 : ∀ x ∈ depsOf xs id, x ∈ out) (h3 : ∀ y ∈ out, ∀ x ∈ depsOf xs y, x ∈ out) (hp : ys.Perm out) (hs : Wk ys) : ys = reachF (depsOf xs) id :=
  reach_sorted (depsOf_asc h) (depsOf_all h) hn h1 h2 h3 hp hs
/-- the search goes on -/
structure Srch (D : IdD → List IdD) (id : IdD) (out q : List IdD) : Prop where
  nodup : out.Nodup
  rch : ∀ x ∈ out, Rch D id x
  qs : ∀ x ∈ q, x = id ∨ x ∈ out
  here : (id ∈ q ∨ ∀ x ∈ D id, x ∈ out)
  all : ∀ y ∈ out, y ∈ q ∨ ∀ x ∈ D y, x ∈ out
theorem Srch.start (D : IdD → List IdD) (id : IdD) : Srch D id [] [id] := ⟨List.nodup_nil, by simp, by simp, .inl (by simp), by simp⟩
/-- while the Deps of y are looked at: those ahead of place j are in -/
structure SrchIn (D : IdD → List IdD) (id y : IdD) (j : Nat) (out q : List IdD) : Prop where
  nodup : out.Nodup
  rch : ∀ x ∈ out, Rch D id x
  qs : ∀ x ∈ q, x = id ∨ x ∈ out
  me : y = id ∨ y ∈ out
  done : ∀ x ∈ (D y).take j, x ∈ out
  here : y ≠ id → (id ∈ q ∨ ∀ x ∈ D id, x ∈ out)
  all : ∀ z ∈ out, z ≠ y → z ∈ q ∨ ∀ x ∈ D z, x ∈ out
theorem Srch.enter {D : IdD → List IdD} {id y : IdD} {out q : List IdD} (h : Srch D id out (y :: q)) : SrchIn D id y 0 out q where
  nodup := h.nodup
  rch := h.rch
  qs := fun x hx => h.qs x (List.mem_cons_of_mem _ hx)
  me := h.qs y (by simp)
  done := by simp
  here := fun hne => by
    rcases h.here with h1 | h1
    · rcases List.mem_cons.1 h1 with h2 | h2
      · exact absurd h2.symm hne
      · exact .inl h2
    · exact .inr h1
  all := fun z hz hne => by
    rcases h.all z hz with h1 | h1
    · rcases List.mem_cons.1 h1 with h2 | h2
      · exact absurd h2 hne
      · exact .inl h2
    · exact .inr h1
theorem SrchIn.skip {D : IdD → List IdD} {id y : IdD} {j : Nat} {out q : List IdD} (h : SrchIn D id y j out q) (hj : j < (D y).length) (hm : (D y)[j] ∈ out) : SrchIn D id y (j + 1) out q where
  nodup := h.nodup
  rch := h.rch
  qs := h.qs
  me := h.me
  done := fun x hx => by
    rw [List.take_succ_eq_append_getElem hj, List.mem_append] at hx
    rcases hx with hx | hx
    · exact h.done x hx
    · rw [List.mem_singleton.1 hx]; exact hm
  here := h.here
  all := h.all
theorem SrchIn.rchy {D : IdD → List IdD} {id y : IdD} {j : Nat} {out q : List IdD} (h : SrchIn D id y j out q) {x : IdD} (hx : x ∈ D y) : Rch D id x := by
  rcases h.me with rfl | h1
  · exact Rch.base hx
  · exact (h.rch y h1).step hx
theorem SrchIn.add {D : IdD → List IdD} {id y : IdD} {j : Nat} {out q : List IdD} (h : SrchIn D id y j out q) (hj : j < (D y).length) (hm : (D y)[j] ∉ out) : SrchIn D id y (j + 1) (out ++ [(D y)[j]]) (q ++ [(D y)[j]]) where
  nodup := List.nodup_append.2 ⟨h.nodup, by simp, fun a ha b hb e => by rw [List.mem_singleton.1 hb] at e; subst e; exact hm ha⟩
  rch := fun x hx => by
    rcases List.mem_append.1 hx with hx | hx
    · exact h.rch x hx
    · rw [List.mem_singleton.1 hx]; exact h.rchy (List.getElem_mem hj)
  qs := fun x hx => by
    rcases List.mem_append.1 hx with hx | hx
    · rcases h.qs x hx with h1 | h1
      · exact .inl h1
      · exact .inr (List.mem_append_left _ h1)
    · exact .inr (List.mem_append_right _ hx)
  me := h.me.elim .inl fun h1 => .inr (List.mem_append_left _ h1)
  done := fun x hx => by
    rw [List.take_succ_eq_append_getElem hj] at hx
    rcases List.mem_append.1 hx with hx | hx
    · exact List.mem_append_left _ (h.done x hx)
    · exact List.mem_append_right _ hx
  here := fun hne => (h.here hne).elim (fun h1 => .inl (List.mem_append_left _ h1)) fun h1 => .inr fun x hx => List.mem_append_left _ (h1 x hx)
  all := fun z hz hne => by
    rcases List.mem_append.1 hz with hz | hz
    · exact (h.all z hz hne).elim (fun h1 => .inl (List.mem_append_left _ h1)) fun h1 => .inr fun x hx => List.mem_append_left _ (h1 x hx)
    · exact .inl (List.mem_append_right _ hz)
theorem SrchIn.leave {D : IdD → List IdD} {id y : IdD} {j : Nat} {out q : List IdD} (h : SrchIn D id y j out q) (hj : j = (D y).length) : Srch D id out q := by
  have hd : ∀ x ∈ D y, x ∈ out := fun x hx => h.done x (by rw [hj, List.take_length]; exact hx)
  refine ⟨h.nodup, h.rch, h.qs, ?_, fun z hz => ?_⟩
  · by_cases e : y = id
    · exact .inr (e ▸ hd)
    · exact h.here e
  · by_cases e : z = y
    · exact .inr (e ▸ hd)
    · exact h.all z hz e
theorem Srch.done {xs : List InstD} (hok : instsOkB xs = true) {id : IdD} {out ys : List IdD} (h : Srch (depsOf xs) id out []) (hp : ys.Perm out) (hs : Wk ys) : ys = reachF (depsOf xs) id := by
  refine reach_done hok h.nodup h.rch ?_ (fun y hy => ?_) hp hs
  · rcases h.here with h1 | h1
    · cases h1
    · exact h1
  · rcases h.all y hy with h1 | h1
    · cases h1
    · exact h1
theorem Srch.len {xs : List InstD} (hok : instsOkB xs = true) {id : IdD} {out q : List IdD} (h1 : out.Nodup) (h2 : ∀ x ∈ out, Rch (depsOf xs) id x) : out.length ≤ 18 :=
  ok_len h1 fun x hx => reach_ok (depsOf_all hok) id x ((mem_reach (depsOf_asc hok) (depsOf_all hok) id x).2 (h2 x hx))

end Go.Proofs.Ytbdblfpepnoafaa
namespace Go.Proofs.Ytbdblfpepnoafaa
open Go.RowKit

structure QRow (w : World) (base g off n c : Nat) (xs : List IdD) : Prop where
  len : n = xs.length
  base_le : base ≤ g
  row : ∃ cur : Array Value, Blk w g 32 cur ∧ n ≤ c ∧ c ≤ maxLen ∧ off + c * 2 ≤ cur.size ∧ ∀ j, j < n * 2 → cur[off + j]? = (idCells xs)[j]?
theorem QRow.cells {w : World} {base g off n c : Nat} {xs : List IdD} (h : QRow w base g off n c xs) : ∀ j u, (idCells xs)[j]? = some u → w.cell? ⟨g, off + j, none⟩ = some u := fun j u hu => by
  obtain ⟨cur, hb, _, _, _, hc⟩ := h.row
  have hj : j < n * 2 := by
    have := (List.getElem?_eq_some_iff.1 hu).1
    rw [idCells_length] at this
    rw [h.len]; exact this
  rw [hb.cell, hc j hj]
  exact hu
theorem QRow.keep {w w' : World} {base g off n c : Nat} {xs : List IdD} (h : QRow w base g off n c xs) (hk : w'.heap[g]? = w.heap[g]?) : QRow w' base g off n c xs := by
  obtain ⟨cur, hb, h1⟩ := h.row
  exact ⟨h.len, h.base_le, cur, hb.keep hk, h1⟩
theorem QRow.lt {w : World} {base g off n c : Nat} {xs : List IdD} (h : QRow w base g off n c xs) : g < w.heap.size := by
  obtain ⟨cur, hb, _⟩ := h.row
  exact hb.lt
theorem QRow.cap {w : World} {base g off n c : Nat} {xs : List IdD} (h : QRow w base g off n c xs) : n ≤ c := by
  obtain ⟨cur, hb, h1, _⟩ := h.row
  exact h1
theorem QRow.below {w w' : World} {base g off n c : Nat} {xs : List IdD} (h : QRow w base g off n c xs) (hb : Below w.heap.size w w') : QRow w' base g off n c xs := h.keep (hb.block g h.lt)
/-- the first one taken off -/
theorem QRow.pop {w : World} {base g off n c : Nat} {x : IdD} {xs : List IdD} (h : QRow w base g off (n + 1) (c + 1) (x :: xs)) : QRow w base g (off + 2) n c xs := by
  obtain ⟨cur, hb, h1, h2, h3, h4⟩ := h.row
  refine ⟨by have := h.len; simp only [List.length_cons] at this; omega, h.base_le, cur, hb, by omega, by omega, by omega, fun j hj => ?_⟩
  have := h4 (j + 2) (by omega)
  rw [show off + (j + 2) = off + 2 + j by omega] at this
  rw [this, idCells]
  rfl
/-- the last one taken off, and there is no room behind it -/
theorem QRow.pop1 {w : World} {base g off : Nat} {x : IdD} {xs : List IdD} (h : QRow w base g off 1 1 (x :: xs)) : QRow w base g off 0 0 xs := by
  obtain ⟨cur, hb, h1, h2, h3, h4⟩ := h.row
  exact ⟨by have := h.len; simp only [List.length_cons] at this; omega, h.base_le, cur, hb, by omega, by omega, by omega, fun j hj => by omega⟩
theorem qrow_of {w : World} {base g n c : Nat} {xs : List IdD} (hn : n = xs.length) (h : w.ownsRow base 32 2 (.slice (some ⟨g, 0, none⟩) n c) n (idCells xs)) : QRow w base g 0 n c xs := by
  rcases h.2 with ⟨h1, _⟩ | ⟨g', cap, cur, hv, hb, hg, hnc, hcm, hs, ht⟩
  · cases h1
  · injection hv with e1 e2 e3
    injection e1 with e1
    injection e1 with e1
    subst e1 e3
    refine ⟨hn, hb, cur, hg, hnc, hcm, by omega, fun j hj => ?_⟩
    rw [← ht, List.getElem?_take_of_lt hj, Nat.zero_add, Array.getElem?_toList]
section
variable {P : Program} {T : TypeId} {z : Value} {bytes : Nat}
theorem wpList_qapp (E : Elem P T 32 z 2 bytes) (w : World) {ops : Array Oper} {rest : List Oper} {o : Oper} {a : Act} {Q : Exit → Act → World → Prop} (hgd : o.guard = none) (s x : Operand)
    (ho : o.op = .call { callee := .builtin .append, args := #[s, x], argTypes := #[T, T] }) (base g off n c : Nat)
    (xs : List IdD) (hs : a.eval s = .slice (some ⟨g, off, none⟩) n c) (hown : QRow w base g off n c xs)
    (ad : Addr) (k : Nat) (y : IdD) (hx : a.eval x = .slice (some ad) 1 k) (hr : ∀ j u, [Value.int .i64 y.rep, Value.int .i64 y.slot][j]? = some u → w.cell? (ad.add j) = some u)
    (hbytes : (n + 1) * bytes ≤ 140737488355328) (hbase : base ≤ w.heap.size)
    (h : ∀ g' off' c' w', QRow w' base g' off' (n + 1) c' (xs ++ [y]) → w.grownBy w' (some g) → (g' = g ∨ w.heap.size ≤ g') → wpList P ops Q rest (a.put o.dst (.slice (some ⟨g', off', none⟩) (n + 1) c')) w') : wpList P ops Q (o :: rest) a w := by
  obtain ⟨i, hi, hz, hs1, hb1⟩ := info_parts E.hi
  have hbnd := Nat.le_mul_of_pos_right (n + 1) E.hb
  have hlen : (idCells xs).length = n * 2 := by rw [idCells_length, ← hown.len]
  refine wpList_append_arg w hgd s x T ho 32 i z 2 bytes E.ht hi hz hs1 hb1 E.hzs E.hsz g off n c (idCells xs) hs hlen hown.cells ad 1 k [.int .i64 y.rep, .int .i64 y.slot] hx rfl hr (by intro u hu; simp only [List.mem_cons, List.not_mem_nil, or_false] at hu; rcases hu with rfl | rfl <;> rfl) ?_ (by simp only [maxLen]; omega) hbytes ?_ ?_
  · intro hroom j hj
    obtain ⟨cur, hb, h1, h2, h3, h4⟩ := hown.row
    have hj2 : j < 2 := hj
    rw [hb.cell, hb.frozen]
    refine ⟨?_, rfl⟩
    rw [Array.getElem?_eq_getElem (by omega)]
    rfl
  · intro hroom
    refine h g off c _ ?_ ?_ (.inl rfl)
    · obtain ⟨cur, hb, h1, h2, h3, h4⟩ := hown.row
      refine ⟨by rw [List.length_append, ← hown.len]; rfl, hown.base_le, _, (hb.set (off + n * 2) (.int .i64 y.rep)).set (off + n * 2 + 1) (.int .i64 y.slot), hroom, h2, by simp; omega, fun j hj => ?_⟩
      rw [idCells_app]
      rcases Nat.lt_or_ge j (n * 2) with hj2 | hj2
      · rw [Array.getElem?_setIfInBounds_ne (by omega), Array.getElem?_setIfInBounds_ne (by omega), List.getElem?_append_left (by omega)]
        exact h4 j hj2
      · rw [List.getElem?_append_right (by omega), hlen]
        have hjj : j = n * 2 ∨ j = n * 2 + 1 := by omega
        rcases hjj with rfl | rfl
        · rw [Array.getElem?_setIfInBounds_ne (by omega), Array.getElem?_setIfInBounds_self_of_lt (by omega), Nat.sub_self]
          rfl
        · rw [← Nat.add_assoc, Array.getElem?_setIfInBounds_self_of_lt (by simp; omega), show n * 2 + 1 - n * 2 = 1 by omega]
          rfl
    · refine ⟨rfl, rfl, rfl, by simp [World.setCells, World.setCell], fun b hb hn => ?_⟩
      show ((w.setCell _ _).setCell _ _).heap[b]? = _
      rw [Below.heap_setCell _ _ _ _ (fun e => hn (by rw [e])), Below.heap_setCell _ _ _ _ (fun e => hn (by rw [e]))]
  · intro hgrow v' w' ho' hg'
    have hown2 : w'.ownsRow w.heap.size 32 2 v' (n + 1) (idCells (xs ++ [y])) := by rw [idCells_app]; exact ho'
    rcases ho'.2 with ⟨_, h0⟩ | ⟨g', cap, cur, hv, hb, hh, hnc, _⟩
    · omega
    · subst hv
      have hq := qrow_of (by rw [List.length_append, ← hown.len]; rfl) hown2
      exact h g' 0 cap w' ⟨hq.len, Nat.le_trans hbase hb, hq.row⟩ ⟨hg'.os, hg'.tape, hg'.output, hg'.size, fun k hk _ => hg'.block k hk (by simp)⟩ (.inr hb)
end

end Go.Proofs.Ytbdblfpepnoafaa
namespace Go.Proofs.Ytbdblfpepnoafaa
open Go.RowKit

set_option maxRecDepth 100000 in
set_option maxHeartbeats 4000000 in
theorem l12Find_any (xs : List InstD) (x : IdD) (A : Option Addr) (n k : Nat) (cs : List Value) (w : World) (hn : n = xs.length) (hwt : n ≤ 1048576) (hok : instsOkB xs = true) (h : Rep anyB w (.sl 49 16 n (cat InstD.c xs) .nil) [.slice A n k]) (h' : Rep anyB w x.c cs) :
    Calls Try.prog 146 #[.slice A n k, .agg cs.toArray] w fun e w' => ∃ r : Int, e = .returned (.int .i64 r) ∧ ((∃ j, ∃ hj : j < xs.length, r = (j : Int) ∧ comB xs x = true ∧ depsOf xs x = xs[j].deps) ∨ (r = -1 ∧ comB xs x = false ∧ depsOf xs x = [])) ∧ Below w.heap.size w w' := by
  obtain rfl := IdD.open h'
  have HN := Lib.hid hn; clear hn
  have HR := Lib.hid h; clear h
  have HY := Lib.hid (fun j hj h1 h2 => @com_at xs hok x j hj h1 h2)
  have HNO := Lib.hid (fun h => @com_no xs x h)
  generalize comB xs x = C at HY HNO ⊢
  generalize depsOf xs x = D at HY HNO ⊢
  clear h' hok
  obtain ⟨xr, xs'⟩ := x
  simp only [] at HY HNO ⊢
  have SB := Lib.hid (blk_new w #[.int .i64 xr, .int .i64 xs'] 32)
  go_enter Try.func146, Try.ntmps146
  go_wp2_with fail
  go_loopw [5] (fun ii wr => ∃ j : Nat, j ≤ n ∧ ii = .int .i64 (j : Int) ∧ (∀ i (hi : i < xs.length), i < j → ¬ (xs[i].id = ⟨xr, xs'⟩ ∧ xs[i].status = 3)) ∧ Blk wr w.heap.size 32 [.int .i64 xr, .int .i64 xs'].toArray ∧ Below w.heap.size w wr) (fun ii _ => n - (intOf ii).toNat)
  case atStart => exact ⟨0, Nat.zero_le _, rfl, fun i _ hi => absurd hi (Nat.not_lt_zero _), SB.out, (by repeat' (first | with_reducible exact Below.refl _ _ | with_reducible exact BW.out | with_reducible refine Below.setCell ?_ ?_ _ | with_reducible refine Below.alloc ?_ ?_ _ | with_reducible refine Below.drew ?_ | (simp; done) | (simp; omega) | omega))⟩
  case round =>
    obtain ⟨j, hj, rfl, hno, hsb, hbel⟩ := hrel
    clear SB
    have HNJ := Lib.hid hno; clear hno
    have BW := Lib.hid hbel; clear hbel
    by_cases hlt : j < n
    · have hjx : j < xs.length := by have := HN.out; omega
      obtain ⟨ad, ci, rfl, _, _, hrc, hl, hc⟩ := (HR.out.below BW.out).elem InstD.width j hjx HN.out
      have hcid := id_cells hrc hc
      obtain ⟨A1, k1, A2, k2, rfl, _⟩ := InstD.open hrc
      have h4 : wr.cell? ⟨(ad.add (j * 16)).block, (ad.add (j * 16)).off + 4, none⟩ = some (.int .i64 xs[j].status) := hc 4 _ rfl
      have hye := HY.out j hjx
      have hnx : ∀ (hq : ¬ (xs[j].id = ⟨xr, xs'⟩ ∧ xs[j].status = 3)), ∀ i (hi : i < xs.length), i < j + 1 → ¬ (xs[i].id = ⟨xr, xs'⟩ ∧ xs[i].status = 3) := fun hq i hi hlt => by
        rcases Nat.lt_or_ge i j with h | h
        · exact HNJ.out i hi h
        · have : i = j := by omega
          subst this
          exact hq
      have HYE := Lib.hid hye; clear hye
      have HNX := Lib.hid hnx; clear hnx
      clear hc hrc hl
      obtain ⟨Y, hY⟩ : ∃ Y, Y = xs[j] := ⟨_, rfl⟩
      rw [← hY] at hcid h4 HYE HNX
      have HYX := Lib.hid hY; clear hY
      obtain ⟨⟨yr, ys⟩, ybal, yvb, yst, ycmd, yseq, ydeps, ysame⟩ := Y
      simp only [] at hcid h4 HYE HNX
      have HCI := Lib.hid hcid; clear hcid
      by_cases e1 : yr = xr
      · subst e1
        by_cases e2 : ys = xs'
        · subst e2
          by_cases e3 : yst = 3
          · subst e3
            have hy := HYE.out rfl rfl
            have HD := Lib.hid hy; clear hy HNX
            go_wp2
            refine wp_region_g 14 (.one 0 (.one 1 (.one 2 (.one 3 (.one 4 (.one 5 (.act 6 (.one 7 (.one 8 (.one 9 (.one 10 (.one 11 (.one 12 (.one 13 .leaf)))))))))))))) (by kernel_rfl) (by kernel_rfl) ?_
            iterate 4 (refine wpG_quiet rfl (by kernel_rfl) rfl ?_; go_wp2; refine ⟨rfl, ?_⟩)
            refine wpG_quiet rfl (by kernel_rfl) rfl ?_; refine wpList_load_row _ _ rfl [.int .i64 yr, .int .i64 ys] agg_Id rfl HCI.out ?_; go_wp2; refine ⟨rfl, ?_⟩
            refine wpG_quiet rfl (by kernel_rfl) rfl ?_; refine wpList_load_row _ ⟨w.heap.size, 0, none⟩ rfl [.int .i64 yr, .int .i64 ys] agg_Id rfl (blk_cells hsb) ?_; go_wp2; refine ⟨rfl, ?_⟩
            refine wpG_act rfl ?_; go_wp2
            refine ⟨Ext.refl _, ?_⟩
            iterate 1 (refine wpG_quiet rfl (by kernel_rfl) rfl ?_; go_wp2; refine ⟨rfl, ?_⟩)
            iterate 6 (refine wpG_quiet rfl (by kernel_rfl) rfl ?_; go_wp2; refine ⟨rfl, ?_⟩)
            refine wpG_nil ?_; try simp only [List.drop_succ_cons, List.drop_zero]
            go_wp2
            go_ret
            exact ⟨(j : Int), ret_eq rfl, .inl ⟨j, hjx, rfl, HD.out.1, by rw [← HYX.out]; exact HD.out.2⟩, BW.out.drew⟩
          · have e3b : (yst == 3) = false := by simpa using e3
            have HQ := Lib.hid (show ¬ ((⟨yr, ys⟩ : IdD) = ⟨yr, ys⟩ ∧ yst = 3) from fun h => e3 h.2)
            clear e3
            go_wp2
            refine wp_region_g 14 (.one 0 (.one 1 (.one 2 (.one 3 (.one 4 (.one 5 (.act 6 (.one 7 (.one 8 (.one 9 (.one 10 (.one 11 (.one 12 (.one 13 .leaf)))))))))))))) (by kernel_rfl) (by kernel_rfl) ?_
            iterate 4 (refine wpG_quiet rfl (by kernel_rfl) rfl ?_; go_wp2; refine ⟨rfl, ?_⟩)
            refine wpG_quiet rfl (by kernel_rfl) rfl ?_; refine wpList_load_row _ _ rfl [.int .i64 yr, .int .i64 ys] agg_Id rfl HCI.out ?_; go_wp2; refine ⟨rfl, ?_⟩
            refine wpG_quiet rfl (by kernel_rfl) rfl ?_; refine wpList_load_row _ ⟨w.heap.size, 0, none⟩ rfl [.int .i64 yr, .int .i64 ys] agg_Id rfl (blk_cells hsb) ?_; go_wp2; refine ⟨rfl, ?_⟩
            refine wpG_act rfl ?_; go_wp2
            refine ⟨Ext.refl _, ?_⟩
            iterate 1 (refine wpG_quiet rfl (by kernel_rfl) rfl ?_; go_wp2; refine ⟨rfl, ?_⟩)
            iterate 6 (refine wpG_quiet rfl (by kernel_rfl) rfl ?_; go_wp2; refine ⟨rfl, ?_⟩)
            refine wpG_nil ?_; try simp only [List.drop_succ_cons, List.drop_zero]
            go_wp2
            exact ⟨⟨j + 1, by omega, by go_num, HNX.out HQ.out, hsb.drew, BW.out.drew⟩, by simp only [intOf]; omega⟩
        · have e2b : (ys == xs') = false := by simpa using e2
          have e2c : (xs' == ys) = false := by simpa using fun h : xs' = ys => e2 h.symm
          have HQ := Lib.hid (show ¬ ((⟨yr, ys⟩ : IdD) = ⟨yr, xs'⟩ ∧ yst = 3) from fun h => e2 (by injection h.1))
          clear e2
          go_wp2
          refine wp_region_g 14 (.one 0 (.one 1 (.one 2 (.one 3 (.one 4 (.one 5 (.act 6 (.one 7 (.one 8 (.one 9 (.one 10 (.one 11 (.one 12 (.one 13 .leaf)))))))))))))) (by kernel_rfl) (by kernel_rfl) ?_
          iterate 4 (refine wpG_quiet rfl (by kernel_rfl) rfl ?_; go_wp2; refine ⟨rfl, ?_⟩)
          refine wpG_quiet rfl (by kernel_rfl) rfl ?_; refine wpList_load_row _ _ rfl [.int .i64 yr, .int .i64 ys] agg_Id rfl HCI.out ?_; go_wp2; refine ⟨rfl, ?_⟩
          refine wpG_quiet rfl (by kernel_rfl) rfl ?_; refine wpList_load_row _ ⟨w.heap.size, 0, none⟩ rfl [.int .i64 yr, .int .i64 xs'] agg_Id rfl (blk_cells hsb) ?_; go_wp2; refine ⟨rfl, ?_⟩
          refine wpG_act rfl ?_; go_wp2
          refine ⟨Ext.refl _, ?_⟩
          iterate 1 (refine wpG_quiet rfl (by kernel_rfl) rfl ?_; go_wp2; refine ⟨rfl, ?_⟩)
          iterate 6 (refine wpG_skip rfl rfl (by kernel_rfl) ?_; simp only [List.setIfInBounds_toArray, List.set_cons_succ, List.set_cons_zero])
          refine wpG_nil ?_; try simp only [List.drop_succ_cons, List.drop_zero]
          go_wp2
          exact ⟨⟨j + 1, by omega, by go_num, HNX.out HQ.out, hsb.drew, BW.out.drew⟩, by simp only [intOf]; omega⟩
      · have e1b : (yr == xr) = false := by simpa using e1
        have e1c : (xr == yr) = false := by simpa using fun h : xr = yr => e1 h.symm
        have HQ := Lib.hid (show ¬ ((⟨yr, ys⟩ : IdD) = ⟨xr, xs'⟩ ∧ yst = 3) from fun h => e1 (by injection h.1))
        clear e1
        go_wp2
        refine wp_region_g 14 (.one 0 (.one 1 (.one 2 (.one 3 (.one 4 (.one 5 (.act 6 (.one 7 (.one 8 (.one 9 (.one 10 (.one 11 (.one 12 (.one 13 .leaf)))))))))))))) (by kernel_rfl) (by kernel_rfl) ?_
        iterate 4 (refine wpG_quiet rfl (by kernel_rfl) rfl ?_; go_wp2; refine ⟨rfl, ?_⟩)
        refine wpG_quiet rfl (by kernel_rfl) rfl ?_; refine wpList_load_row _ _ rfl [.int .i64 yr, .int .i64 ys] agg_Id rfl HCI.out ?_; go_wp2; refine ⟨rfl, ?_⟩
        refine wpG_quiet rfl (by kernel_rfl) rfl ?_; refine wpList_load_row _ ⟨w.heap.size, 0, none⟩ rfl [.int .i64 xr, .int .i64 xs'] agg_Id rfl (blk_cells hsb) ?_; go_wp2; refine ⟨rfl, ?_⟩
        refine wpG_act rfl ?_; go_wp2
        refine ⟨Ext.refl _, ?_⟩
        iterate 1 (refine wpG_quiet rfl (by kernel_rfl) rfl ?_; go_wp2; refine ⟨rfl, ?_⟩)
        iterate 6 (refine wpG_skip rfl rfl (by kernel_rfl) ?_; simp only [List.setIfInBounds_toArray, List.set_cons_succ, List.set_cons_zero])
        refine wpG_nil ?_; try simp only [List.drop_succ_cons, List.drop_zero]
        go_wp2
        exact ⟨⟨j + 1, by omega, by go_num, HNX.out HQ.out, hsb.drew, BW.out.drew⟩, by simp only [intOf]; omega⟩
    · have hjn : j = n := by omega
      subst hjn
      have HF := Lib.hid (HNO.out (fun i hi => HNJ.out i hi (by have := HN.out; omega)))
      go_wp2
      go_ret
      exact ⟨-1, ret_eq rfl, .inr ⟨rfl, HF.out.1, HF.out.2⟩, BW.out⟩

set_option maxRecDepth 100000 in
set_option maxHeartbeats 4000000 in
theorem l12Deps_any (xs : List InstD) (x : IdD) (A : Option Addr) (n k : Nat) (cs : List Value) (w : World) (hn : n = xs.length) (hwt : n ≤ 1048576) (hok : instsOkB xs = true) (h : Rep anyB w (.sl 49 16 n (cat InstD.c xs) .nil) [.slice A n k]) (h' : Rep anyB w x.c cs) :
    Calls Try.prog 147 #[.slice A n k, .agg cs.toArray] w fun e w' => ∃ A2 m c2, e = .returned (.slice A2 m c2) ∧ m = (depsOf xs x).length ∧ Rep anyB w' (.sl 32 2 m (cat IdD.c (depsOf xs x)) .nil) [.slice A2 m c2] ∧ Below w.heap.size w w' := by
  have HF := Lib.hid (fun W h h' => l12Find_any xs x A n k cs W hn hwt hok h h')
  have hX := h'
  obtain rfl := IdD.open h'
  have HN := Lib.hid hn; clear hn
  have HR := Lib.hid h; clear h
  have HX := Lib.hid hX; clear hX h' hok
  generalize comB xs x = C at HF
  generalize depsOf xs x = D at HF ⊢
  have SB := Lib.hid (blk_new w #[.int .i64 x.rep, .int .i64 x.slot] 32)
  go_enter Try.func147, Try.ntmps147
  go_wp2_with (first | ((with_reducible show wpList _ _ _ ({ dst := _, op := Op.load 32 _, type := _, pos := _, after := _, guard := _ } :: _) _ _); refine wpList_load_row _ ⟨w.heap.size, 0, none⟩ rfl [.int .i64 x.rep, .int .i64 x.slot] agg_Id rfl (blk_cells SB.out) ?_) | fail)
  refine (HF.out _ (HR.out.below (by repeat' (first | with_reducible exact Below.refl _ _ | with_reducible exact BW.out | with_reducible refine Below.setCell ?_ ?_ _ | with_reducible refine Below.alloc ?_ ?_ _ | with_reducible refine Below.drew ?_ | (simp; done) | (simp; omega) | omega))) (HX.out.below (by repeat' (first | with_reducible exact Below.refl _ _ | with_reducible exact BW.out | with_reducible refine Below.setCell ?_ ?_ _ | with_reducible refine Below.alloc ?_ ?_ _ | with_reducible refine Below.drew ?_ | (simp; done) | (simp; omega) | omega)))).mono ?_; rintro e w1 ⟨r, rfl, hr, hb⟩
  have BW := Lib.hid (show Below w.heap.size w w1 from Below.trans (by repeat' (first | with_reducible exact Below.refl _ _ | with_reducible exact BW.out | with_reducible refine Below.setCell ?_ ?_ _ | with_reducible refine Below.alloc ?_ ?_ _ | with_reducible refine Below.drew ?_ | (simp; done) | (simp; omega) | omega)) (hb.mono (by first | (simp; done) | (simp; omega) | omega))); clear hb
  rcases hr with ⟨j, hj, rfl, _, hd⟩ | ⟨rfl, _, hd⟩
  · have HD := Lib.hid hd; clear hd
    have hjn : j < n := by have := HN.out; omega
    obtain ⟨ad, ci, rfl, _, _, hrc, hl, hc⟩ := (HR.out.below BW.out).elem InstD.width j hj HN.out
    obtain ⟨A1, k1, A2, k2, rfl, _, hdr⟩ := InstD.open hrc
    have h14 : w1.cell? ⟨(ad.add (j * 16)).block, (ad.add (j * 16)).off + 14, none⟩ = some (.slice A2 xs[j].deps.length k2) := hc 14 _ rfl
    clear hc hrc hl
    rw [← HD.out] at hdr h14
    have HDR := Lib.hid hdr; clear hdr
    go_wp2
    go_ret
    exact ⟨A2, D.length, k2, ret_eq rfl, rfl, HDR.out, BW.out⟩
  · subst hd
    have HM := Lib.hid (fun v : World => (mine_ids (l := []) (own_nilAt v v.heap.size 32 2 v.heap.size rfl (Nat.le_refl _)) rfl).elim fun F h => h.2.repAny)
    go_wp2
    go_ret
    exact ⟨_, 0, 0, ret_eq rfl, rfl, HM.out w1, BW.out.alloc BW.out.size _⟩

theorem own_cap {w : World} {base e sz n c : Nat} {A : Option Addr} {xs : List Value} (h : w.ownsRow base e sz (.slice A n c) n xs) : n ≤ c := by
  rcases h.2 with ⟨h1, h2⟩ | ⟨g, cap, cur, hv, _, _, hnc, _⟩
  · omega
  · injection hv with _ _ h3
    omega
theorem own_rep {w : World} {base n c : Nat} {A : Option Addr} {l : List IdD} (h : w.ownsRow base 32 2 (.slice A n c) n (idCells l)) (hn : n = l.length) : Rep anyB w (.sl 32 2 n (cat IdD.c l) .nil) [.slice A n c] :=
  (mine_ids h hn).elim fun F h => h.2.repAny
def GoodIds (l : List IdD) : Prop := Asc l ∧ ∀ x ∈ l, idOkB x = true
theorem GoodIds.len {l : List IdD} (h : GoodIds l) : l.length ≤ 18 := ok_len (asc_nodup h.1) h.2
theorem GoodIds.join {a b : List IdD} (h : GoodIds a) (k : GoodIds b) : GoodIds (joinF a b) := ⟨asc_joinF h.1 k.1, fun x hx => (mem_joinF.1 hx).elim (h.2 x) (k.2 x)⟩
theorem deps_good {xs : List InstD} (h : instsOkB xs = true) (y : IdD) : GoodIds (depsOf xs y) := ⟨depsOf_asc h y, depsOf_all h y⟩
theorem iter_next {D : IdD → List IdD} {acc nx T : List IdD} {r : Nat} (hr : r < 18) (hT : iterF D (18 - r) acc = T) (hnx : nx = stepF D acc) : iterF D (18 - (r + 1)) nx = T := by
  subst hnx
  rw [show 18 - r = (18 - (r + 1)) + 1 by omega] at hT
  exact hT
theorem iter_stop {D : IdD → List IdD} {acc nx T : List IdD} {r : Nat} (hT : iterF D r acc = T) (hnx : nx = stepF D acc) (hl : nx.length = acc.length) : acc = T := by
  subst hnx
  have h1 : stepF D acc = acc := (foldJ_ge D acc acc).2 hl
  rw [iter_fix h1] at hT
  exact hT
set_option maxRecDepth 100000 in
set_option maxHeartbeats 4000000 in
theorem l12Reach_any (xs : List InstD) (x : IdD) (A : Option Addr) (n k : Nat) (cs : List Value) (w : World) (hn : n = xs.length) (hwt : n ≤ 1048576) (hok : instsOkB xs = true) (h : Rep anyB w (.sl 49 16 n (cat InstD.c xs) .nil) [.slice A n k]) (h' : Rep anyB w x.c cs) :
    Calls Try.prog 118 #[.slice A n k, .agg cs.toArray] w fun e w' => ∃ A2 m c2, e = .returned (.slice A2 m c2) ∧ m = (reachF (depsOf xs) x).length ∧ w'.ownsRow w.heap.size 32 2 (.slice A2 m c2) m (idCells (reachF (depsOf xs) x)) ∧ Below w.heap.size w w' := by
  have HF := Lib.hid (fun y cs W h h' => l12Deps_any xs y A n k cs W hn hwt hok h h')
  have HG := Lib.hid (fun y => deps_good hok y)
  have hX := h'
  obtain rfl := IdD.open h'
  obtain ⟨T, hT⟩ : ∃ T, T = reachF (depsOf xs) x := ⟨_, rfl⟩
  rw [← hT]
  have HT := Lib.hid (show iterF (depsOf xs) (18 - 0) (depsOf xs x) = T from hT.symm)
  have HR := Lib.hid h; clear h hT
  have HX := Lib.hid hX; clear hX h' hok hn
  obtain ⟨D, hD⟩ : ∃ D, D = depsOf xs := ⟨_, rfl⟩
  rw [← hD] at HF HG HT
  clear hD
  have SB := Lib.hid (blk_new w #[.int .i64 x.rep, .int .i64 x.slot] 32)
  go_enter Try.func118, Try.ntmps118
  go_wp2_with (first | ((with_reducible show wpList _ _ _ ({ dst := _, op := Op.load 32 _, type := _, pos := _, after := _, guard := _ } :: _) _ _); refine wpList_load_row _ ⟨w.heap.size, 0, none⟩ rfl [.int .i64 x.rep, .int .i64 x.slot] agg_Id rfl (blk_cells (SB.out.alloc _)) ?_) | fail)
  have own0 : ((w.alloc (.cells #[.int .i64 x.rep, .int .i64 x.slot] 32)).alloc (.cells #[] 32)).ownsRow w.heap.size 32 2 (.slice (some ⟨w.heap.size + 1, 0, none⟩) 0 0) 0 (idCells []) := own_nilAt _ _ _ _ _ (by simp) (by simp)
  have R0 := Lib.hid own0; clear own0
  refine (HF.out x _ _ (HR.out.below (by repeat' (first | with_reducible exact Below.refl _ _ | with_reducible exact BW.out | with_reducible refine Below.setCell ?_ ?_ _ | with_reducible refine Below.alloc ?_ ?_ _ | with_reducible refine Below.drew ?_ | (simp; done) | (simp; omega) | omega))) (HX.out.below (by repeat' (first | with_reducible exact Below.refl _ _ | with_reducible exact BW.out | with_reducible refine Below.setCell ?_ ?_ _ | with_reducible refine Below.alloc ?_ ?_ _ | with_reducible refine Below.drew ?_ | (simp; done) | (simp; omega) | omega)))).mono ?_; rintro e w1 ⟨A1, m1, c1, rfl, hm1, hd1, hb⟩
  have hg := HG.out x
  have hm18 : m1 ≤ 18 := by rw [hm1]; exact hg.len
  have BW := Lib.hid (show Below w.heap.size w w1 from Below.trans (by repeat' (first | with_reducible exact Below.refl _ _ | with_reducible exact BW.out | with_reducible refine Below.setCell ?_ ?_ _ | with_reducible refine Below.alloc ?_ ?_ _ | with_reducible refine Below.drew ?_ | (simp; done) | (simp; omega) | omega)) (hb.mono (by first | (simp; done) | (simp; omega) | omega)))
  have R1 := Lib.hid ((own_rep R0.out rfl).below hb)
  have HD1 := Lib.hid hd1
  have HM1 := Lib.hid hm1
  have HG1 := Lib.hid hg
  clear hb hd1 hm1 hg R0 SB
  go_wp2_with fail
  refine (l8Join_any [] (D x) _ A1 0 m1 0 c1 _ rfl HM1.out (by omega) (by omega) (Nat.le_refl _) R1.out HD1.out).mono ?_; rintro e w2 ⟨A2, c2, rfl, hown, hb⟩
  rw [joinF_nil] at hown ⊢
  have HO := Lib.hid (ownsRow_keep (base' := w.heap.size) hown (w' := w2) (fun b hb2 => ⟨Nat.le_trans BW.out.size (hown.lt b hb2).1, rfl⟩))
  have BW2 := Lib.hid (BW.out.trans (hb.mono BW.out.size))
  clear hown hb BW R1 HD1
  obtain ⟨d0, hd0⟩ : ∃ d0, d0 = D x := ⟨_, rfl⟩
  rw [← hd0] at HT HO HG1 HM1 ⊢
  clear hd0 HM1
  go_wp2
  go_loopw [5, 6] (fun oo rr wr => ∃ (acc : List IdD) (r q : Nat) (Av : Option Addr) (kv : Nat), r ≤ 18 ∧ q = acc.length ∧ q ≤ 18 ∧ oo = .slice Av q kv ∧ rr = .int .i64 (r : Int) ∧ GoodIds acc ∧ iterF D (18 - r) acc = T ∧ wr.ownsRow w.heap.size 32 2 (.slice Av q kv) q (idCells acc) ∧ Below w.heap.size w wr) (fun _ rr _ => 18 - (intOf rr).toNat)
  case atStart => exact ⟨d0, 0, d0.length, A2, c2, by omega, rfl, HG1.out.len, rfl, rfl, HG1.out, HT.out, HO.out, BW2.out⟩
  case round =>
    obtain ⟨acc, r, q, Av, kv, hr, hq, hq18, rfl, rfl, hga, hit, hown, hbw⟩ := hrel
    clear HT HO BW2 HG1
    have HIT := Lib.hid hit; clear hit
    have HGA := Lib.hid hga; clear hga
    have HO := Lib.hid hown; clear hown
    have BW := Lib.hid hbw; clear hbw
    have HQ := Lib.hid hq; clear hq
    by_cases hlt : r < 18
    · have hrd : decide ((r : Int) < 18) = true := by simp; omega
      go_wp2
      go_loopw [7, 8] (fun nn ii wr => ∃ (nx : List IdD) (i p : Nat) (Bv : Option Addr) (cv : Nat), i ≤ q ∧ p = nx.length ∧ p ≤ 18 ∧ nn = .slice Bv p cv ∧ ii = .int .i64 (i : Int) ∧ GoodIds nx ∧ nx = foldJ D acc (acc.take i) ∧ wr.ownsRow w.heap.size 32 2 (.slice Bv p cv) p (idCells nx) ∧ wr.ownsRow w.heap.size 32 2 (.slice Av q kv) q (idCells acc) ∧ Below w.heap.size w wr) (fun _ ii _ => q - (intOf ii).toNat)
      case atStart => exact ⟨acc, 0, q, Av, kv, by omega, HQ.out, hq18, rfl, rfl, HGA.out, by rw [List.take_zero]; rfl, HO.out, HO.out, BW.out⟩
      case round =>
        clear HO BW
        obtain ⟨nx, i, p, Bv, cv, hi, hp, hp18, rfl, rfl, hgn, hnx, hownn, hown, hbw⟩ := hrel
        have HGN := Lib.hid hgn; clear hgn
        have HNX := Lib.hid hnx; clear hnx
        have HON := Lib.hid hownn; clear hownn
        have HO := Lib.hid hown; clear hown
        have BW := Lib.hid hbw; clear hbw
        have HP := Lib.hid hp; clear hp
        by_cases hli : i < q
        · have hia : i < acc.length := by have := HQ.out; omega
          obtain ⟨ad, cy, rfl, _, _, hrc, hl, hc⟩ := (own_rep HO.out HQ.out).elem IdD.width i hia HQ.out
          obtain rfl := IdD.open hrc
          have hnx2 : joinF nx (D acc[i]) = foldJ D acc (acc.take (i + 1)) := by rw [foldJ_take D acc acc i hia, ← HNX.out]
          have HNX2 := Lib.hid hnx2; clear hnx2
          have HGY := Lib.hid (HG.out acc[i])
          generalize acc[i] = y at *
          have HC := Lib.hid hc
          have HRY := Lib.hid hrc
          clear hc hrc hl
          go_wp2_with (first | ((with_reducible show wpList _ _ _ ({ dst := _, op := Op.load 32 _, type := _, pos := _, after := _, guard := _ } :: _) _ _); refine wpList_load_row _ _ rfl [.int .i64 y.rep, .int .i64 y.slot] agg_Id rfl HC.out ?_) | fail)
          refine (HF.out y _ _ (HR.out.below BW.out) HRY.out).mono ?_; rintro e w3 ⟨A3, m3, c3, rfl, hm3, hd3, hb⟩
          have hm18 : m3 ≤ 18 := by rw [hm3]; exact HGY.out.len
          have R3 := Lib.hid ((own_rep HON.out HP.out).below hb)
          have HO3 := Lib.hid (HO.out.keptBelowJ hb)
          have BW3 := Lib.hid (BW.out.trans (hb.mono BW.out.size))
          have HD3 := Lib.hid hd3
          have HM3 := Lib.hid hm3
          have hcapn := own_cap HON.out
          clear hb hd3 hm3
          go_wp2_with fail
          refine (l8Join_any nx (D y) Bv A3 p m3 cv c3 _ HP.out HM3.out (by omega) (by omega) hcapn R3.out HD3.out).mono ?_; rintro e w4 ⟨A4, c4, rfl, hown4, hb⟩
          have hgj := HGN.out.join HGY.out
          have HO4 := Lib.hid (ownsRow_keep (base' := w.heap.size) hown4 (w' := w4) (fun b hb2 => ⟨Nat.le_trans BW3.out.size (hown4.lt b hb2).1, rfl⟩))
          have HO5 := Lib.hid (HO3.out.keptBelowJ hb)
          have BW4 := Lib.hid (BW3.out.trans (hb.mono BW3.out.size))
          have HGJ := Lib.hid hgj
          clear hown4 hb hgj
          go_wp2
          exact ⟨⟨joinF nx (D y), i + 1, (joinF nx (D y)).length, A4, c4, by omega, rfl, HGJ.out.len, rfl, by go_num, HGJ.out, HNX2.out, HO4.out, HO5.out, BW4.out⟩, by simp only [intOf]; omega⟩
        · have hie : i = q := by omega
          subst hie
          have hst : nx = stepF D acc := by rw [HNX.out, HQ.out, List.take_length]; rfl
          have HST := Lib.hid hst; clear hst
          by_cases hpe : p = i
          · subst hpe
            have hT := iter_stop HIT.out HST.out (by rw [← show p = nx.length from HP.out, ← show p = acc.length from HQ.out])
            have HTT := Lib.hid hT; clear hT
            go_wp2
            go_ret
            exact ⟨Av, p, kv, ret_eq rfl, by rw [← HTT.out]; exact HQ.out, by rw [← HTT.out]; exact HO.out, BW.out⟩
          · have hpb : ((p : Int) == (i : Int)) = false := by simp; omega
            clear hpe
            have HTT := Lib.hid (iter_next hlt HIT.out HST.out)
            go_wp2
            exact ⟨⟨nx, r + 1, p, Bv, cv, by omega, HP.out, hp18, rfl, by go_num, HGN.out, HTT.out, HON.out, BW.out⟩, by simp only [intOf]; omega⟩
    · have hre : r = 18 := by omega
      subst hre
      have hT : acc = T := HIT.out
      have HTT := Lib.hid hT; clear hT
      go_wp2
      go_ret
      exact ⟨Av, q, kv, ret_eq rfl, by rw [← HTT.out]; exact HQ.out, by rw [← HTT.out]; exact HO.out, BW.out⟩

theorem bReach (xs : List InstD) (x : IdD) (_ : xs.length + (cat InstD.c xs).wt ≤ 1048576) (_ : x.c.wt ≤ 1048576) :
    (fReach xs x).length + (cat IdD.c (fReach xs x)).wt ≤ 4611686018427387 ∧ cts IdD.cnt (fReach xs x) ≤ 4611686018427387 := by
  have hw : ∀ l : List IdD, (cat IdD.c l).wt = 0 := fun l => by
    induction l with
    | nil => rfl
    | cons x r ih => rw [cat_cons, Cs.wt_app, ih]; rfl
  have hl : (fReach xs x).length ≤ 18 := by
    unfold fReach
    split
    · rename_i h; exact reach_len h x
    · simp
  have hc := IdD.cts_le (fReach xs x)
  rw [hw]
  omega
set_option maxRecDepth 100000 in
set_option maxHeartbeats 2000000 in
theorem sReach_any (xs : List InstD) (x : IdD) (A : Option Addr) (n c : Nat) (cs : List Value) (w : World) (hn : n = xs.length) (hwt : n + (cat InstD.c xs).wt ≤ 1048576) (_ : x.c.wt ≤ 1048576) (h : Rep anyB w (.sl 49 16 n (cat InstD.c xs) .nil) [.slice A n c]) (h' : Rep anyB w x.c cs) :
    Calls Try.prog 55 #[.slice A n c, .agg cs.toArray] w fun e w' => ∃ A2 m c2, e = .returned (.slice A2 m c2) ∧ m = (fReach xs x).length ∧ Mine w' w.heap.size (.sl 32 2 m (cat IdD.c (fReach xs x)) .nil) [.slice A2 m c2] ∧ Below w.heap.size w w' := by
  have HOK := Lib.hid (fun W h => sInstsOk_any xs A n c W hn hwt h)
  have HRE := Lib.hid (fun hok W h h' => l12Reach_any xs x A n c cs W hn (by omega) hok h h')
  have hX := h'
  obtain rfl := IdD.open h'
  have HR := Lib.hid h; clear h
  have HX := Lib.hid hX; clear hX h' hn
  obtain ⟨R, hR⟩ : ∃ R, R = fReach xs x := ⟨_, rfl⟩
  rw [← hR]
  unfold fReach at hR
  have SB := Lib.hid (blk_new w #[.int .i64 x.rep, .int .i64 x.slot] 32)
  go_enter Try.func55, Try.ntmps55
  go_wp2_with fail
  refine (HOK.out _ (HR.out.below (by repeat' (first | with_reducible exact Below.refl _ _ | with_reducible exact BW.out | with_reducible refine Below.setCell ?_ ?_ _ | with_reducible refine Below.alloc ?_ ?_ _ | with_reducible refine Below.drew ?_ | (simp; done) | (simp; omega) | omega)))).mono ?_; rintro e w1 ⟨rfl, hb⟩
  have BW := Lib.hid (show Below w.heap.size w w1 from Below.trans (by repeat' (first | with_reducible exact Below.refl _ _ | with_reducible exact BW.out | with_reducible refine Below.setCell ?_ ?_ _ | with_reducible refine Below.alloc ?_ ?_ _ | with_reducible refine Below.drew ?_ | (simp; done) | (simp; omega) | omega)) (hb.mono (by first | (simp; done) | (simp; omega) | omega)))
  have SB1 := Lib.hid (SB.out.below hb)
  clear hb SB
  cases hok : instsOkB xs with
  | false =>
    rw [hok, if_neg (by simp)] at hR
    subst hR
    have HM := Lib.hid (mine_ids (l := []) (own_nilAt w1 w.heap.size 32 2 w1.heap.size rfl BW.out.size) rfl)
    go_wp2
    go_ret
    exact ⟨_, 0, 0, ret_eq rfl, rfl, HM.out, BW.out.alloc BW.out.size _⟩
  | true =>
    rw [hok, if_pos rfl] at hR
    have HRE2 := Lib.hid (fun W h h' => HRE.out hok W h h')
    rw [← hR] at HRE2
    clear hok HRE HOK hR
    go_wp2_with (first | ((with_reducible show wpList _ _ _ ({ dst := _, op := Op.load 32 _, type := _, pos := _, after := _, guard := _ } :: _) _ _); refine wpList_load_row _ ⟨w.heap.size, 0, none⟩ rfl [.int .i64 x.rep, .int .i64 x.slot] agg_Id rfl (blk_cells SB1.out) ?_) | fail)
    refine (HRE2.out _ (HR.out.below BW.out) (HX.out.below BW.out)).mono ?_; rintro e w2 ⟨A2, m, c2, rfl, hm, hown, hb⟩
    have HM := Lib.hid (Mine.mono (mine_ids hown hm) BW.out.size)
    have BW2 := Lib.hid (BW.out.trans (hb.mono BW.out.size))
    have HL := Lib.hid hm
    clear hown hm hb
    go_wp2
    go_ret
    exact ⟨A2, m, c2, ret_eq rfl, HL.out, HM.out, BW2.out⟩

end Go.Proofs.Ytbdblfpepnoafaa
namespace Go.Proofs.Ytbdblfpepnoafaa
open Go.RowKit

def slLen : Value → Nat
  | .slice _ n _ => n
  | _ => 0
theorem own_at3 {w : World} {base e sz n : Nat} {v : Value} {xs : List Value} (h : w.ownsRow base e sz v n xs) {a b : Nat} (hb : v.ownBlock = some a ∨ v.ownBlock = some b) : ∃ k c, v = .slice (some ⟨k, 0, none⟩) n c ∧ (k = a ∨ k = b) := by
  rcases hb with hb | hb
  · obtain ⟨c, h1, _⟩ := own_at h hb; exact ⟨_, c, h1, .inl rfl⟩
  · obtain ⟨c, h1, _⟩ := own_at h hb; exact ⟨_, c, h1, .inr rfl⟩
theorem qrow_new (w : World) (base : Nat) (cs : Array Value) (y : IdD) (hb : base ≤ w.heap.size) (hc : cs = #[.int .i64 y.rep, .int .i64 y.slot]) : QRow (w.alloc (.cells cs 32)) base w.heap.size 0 1 1 [y] := by
  subst hc
  refine ⟨rfl, hb, _, blk_new _ _ _, Nat.le_refl _, by simp [maxLen], by simp, fun j hj => ?_⟩
  have : j = 0 ∨ j = 1 := by omega
  rcases this with rfl | rfl <;> rfl
theorem QRow.head {w : World} {base g off n c : Nat} {y : IdD} {xs : List IdD} (h : QRow w base g off n c (y :: xs)) : ∀ u v, [Value.int .i64 y.rep, Value.int .i64 y.slot][u]? = some v → w.cell? ((⟨g, off, none⟩ : Addr).add u) = some v := fun u v hv => by
  rw [add_plain]
  refine h.cells u v ?_
  have hu : u < 2 := by
    rcases Nat.lt_or_ge u 2 with h | h
    · exact h
    · rw [List.getElem?_eq_none (by simpa using h)] at hv; cases hv
  have : u = 0 ∨ u = 1 := by omega
  rcases this with rfl | rfl <;> exact hv
theorem QRow.pop2 {w : World} {base g off n c : Nat} {y : IdD} {xs : List IdD} (h : QRow w base g off n c (y :: xs)) : QRow w base g (off + 2) (n - 1) (c - 1) xs := by
  have h1 := h.len
  have h2 := h.cap
  simp only [List.length_cons] at h1
  obtain ⟨m, rfl⟩ : ∃ m, n = m + 1 := ⟨n - 1, by omega⟩
  obtain ⟨d, rfl⟩ : ∃ d, c = d + 1 := ⟨c - 1, by omega⟩
  exact h.pop
theorem QRow.pop3 {w : World} {base g off n : Nat} {y : IdD} {xs : List IdD} (h : QRow w base g off n 1 (y :: xs)) : QRow w base g off (n - 1) 0 xs := by
  have h1 := h.len
  have h2 := h.cap
  simp only [List.length_cons] at h1
  have : n = 1 := by omega
  subst this
  exact h.pop1
theorem reads_elem {w : World} {A : Option Addr} {d : List IdD} (h : Reads w 2 A d.length (idCells d)) (j : Nat) (hj : j < d.length) : ∃ ad, A = some ad ∧ ∀ u v, [Value.int .i64 d[j].rep, Value.int .i64 d[j].slot][u]? = some v → w.cell? ((ad.add (j * 2)).add u) = some v := by
  obtain ⟨ad, e, hc⟩ := h.2 (by omega)
  refine ⟨ad, e, fun u v hv => ?_⟩
  have hu : u < 2 := by
    rcases Nat.lt_or_ge u 2 with h | h
    · exact h
    · rw [List.getElem?_eq_none (by simpa using h)] at hv; cases hv
  rw [add_of_add]
  refine hc (j * 2 + u) v ?_
  have h1 : (idCells d)[j * 2 + u]? = ((idCells d).drop (j * 2))[u]? := by rw [List.getElem?_drop]
  rw [h1, idCells_drop, List.drop_eq_getElem_cons hj, idCells]
  have : u = 0 ∨ u = 1 := by omega
  rcases this with rfl | rfl <;> exact hv
theorem reads_kept {w w' : World} {A : Option Addr} {n : Nat} {cells : List Value} (h : Reads w 2 A n cells) (hk : ∀ ad, A = some ad → 0 < n → w'.heap[ad.block]? = w.heap[ad.block]?) : Reads w' 2 A n cells :=
  ⟨h.1, fun hn => by
    obtain ⟨ad, e, hc⟩ := h.2 hn
    refine ⟨ad, e, fun j u hu => ?_⟩
    have e2 := World.cell?_of_block (w := w) (w' := w') (a := ad.add j) (by rw [block_of_add]; exact hk ad e hn)
    rw [e2]
    exact hc j u hu⟩
theorem deps_yes {xs : List InstD} {y : IdD} (h : (fInstAt xs y).status = 3) : depsOf xs y = (fInstAt xs y).deps := if_pos h
theorem deps_no {xs : List InstD} {y : IdD} (h : ¬ (fInstAt xs y).status = 3) : depsOf xs y = [] := if_neg h
theorem own_block {w : World} {base e n c : Nat} {A : Option Addr} {xs : List Value} (h : w.ownsRow base e 2 (.slice A n c) n xs) : ∀ ad, A = some ad → 0 < n → base ≤ ad.block ∧ ad.block < w.heap.size := fun ad e hn => by
  subst e
  exact h.lt ad.block rfl
/-- an instance in a block of its own -/
theorem inst_slot {v : World} {g : Nat} {z : InstD} {A0 A1 : Option Addr} {k0 k1 : Nat} (h : Blk v g 49 [.int .i64 z.id.rep, .int .i64 z.id.slot, .int .i64 z.bal, .int .i64 z.vbal, .int .i64 z.status, .int .i64 z.cmd.kind, .int .i64 z.cmd.client, .int .i64 z.cmd.no, .string (bs z.cmd.set), .string (bs z.cmd.name), .string (bs z.cmd.tag), .int .i64 z.cmd.n, .slice A0 z.cmd.chunks.length k0, .int .i64 z.seq, .slice A1 z.deps.length k1, .bool z.same].toArray) :
    v.cell? ⟨g, 4, none⟩ = some (.int .i64 z.status) ∧ v.cell? ⟨g, 14, none⟩ = some (.slice A1 z.deps.length k1) := ⟨blk_cell0 h 4 rfl, blk_cell0 h 14 rfl⟩
def DepRow (w : World) (A : Option Addr) (d : List IdD) (go g : Nat) : Prop := Reads w 2 A d.length (idCells d) ∧ ∀ ad, A = some ad → 0 < d.length → ad.block ≠ go ∧ ad.block ≠ g ∧ ad.block < w.heap.size
theorem DepRow.below {w w' : World} {A : Option Addr} {d : List IdD} {go g : Nat} (h : DepRow w A d go g) (hb : Below w.heap.size w w') : DepRow w' A d go g :=
  ⟨reads_kept h.1 fun ad e hn => hb.block _ (h.2 ad e hn).2.2, fun ad e hn => ⟨(h.2 ad e hn).1, (h.2 ad e hn).2.1, Nat.lt_of_lt_of_le (h.2 ad e hn).2.2 hb.size⟩⟩
theorem DepRow.out {w w' : World} {A : Option Addr} {d : List IdD} {go g go' : Nat} (h : DepRow w A d go g) (hg : w.grownBy w' (some go)) (hn' : go' = go ∨ w.heap.size ≤ go') : DepRow w' A d go' g :=
  ⟨reads_kept h.1 fun ad e hn => hg.block _ (h.2 ad e hn).2.2 (fun e2 => by injection e2 with e2; exact (h.2 ad e hn).1 e2), fun ad e hn => ⟨by have := h.2 ad e hn; rcases hn' with rfl | h2 <;> omega, (h.2 ad e hn).2.1, Nat.lt_of_lt_of_le (h.2 ad e hn).2.2 hg.size⟩⟩
theorem DepRow.queue {w w' : World} {A : Option Addr} {d : List IdD} {go g g' : Nat} (h : DepRow w A d go g) (hg : w.grownBy w' (some g)) (hn' : g' = g ∨ w.heap.size ≤ g') : DepRow w' A d go g' :=
  ⟨reads_kept h.1 fun ad e hn => hg.block _ (h.2 ad e hn).2.2 (fun e2 => by injection e2 with e2; exact (h.2 ad e hn).2.1 e2), fun ad e hn => ⟨(h.2 ad e hn).1, by have := h.2 ad e hn; rcases hn' with rfl | h2 <;> omega, Nat.lt_of_lt_of_le (h.2 ad e hn).2.2 hg.size⟩⟩
theorem QRow.kept {w w' : World} {base g off n c : Nat} {xs : List IdD} {r : Nat} (h : QRow w base g off n c xs) (hg : w.grownBy w' (some r)) (hn : g ≠ r) : QRow w' base g off n c xs :=
  h.keep (hg.block g h.lt (fun e => hn (by injection e)))
set_option maxRecDepth 100000 in
set_option maxHeartbeats 8000000 in
theorem iReach_any (xs : List InstD) (x : IdD) (A : Option Addr) (n c : Nat) (cs : List Value) (w : World) (hn : n = xs.length) (hwt : n + (cat InstD.c xs).wt ≤ 1048576) (_ : x.c.wt ≤ 1048576) (h : Rep anyB w (.sl 49 16 n (cat InstD.c xs) .nil) [.slice A n c]) (h' : Rep anyB w x.c cs) :
    Calls Try.prog 56 #[.slice A n c, .agg cs.toArray] w fun e w' => ∃ A2 m c2, e = .returned (.slice A2 m c2) ∧ m = (fReach xs x).length ∧ Mine w' w.heap.size (.sl 32 2 m (cat IdD.c (fReach xs x)) .nil) [.slice A2 m c2] ∧ Below w.heap.size w w' := by
  have HOK := Lib.hid (fun W h => iInstsOk_any xs A n c W hn hwt h)
  have HIA := Lib.hid (fun y cs W h h' => iInstAt_any xs y A n c cs W hn hwt (Nat.zero_le _) h h')
  obtain rfl := IdD.open h'
  have HR := Lib.hid h; clear h
  clear h' hn
  obtain ⟨R, hR⟩ : ∃ R, R = fReach xs x := ⟨_, rfl⟩
  rw [← hR]
  unfold fReach at hR
  have SB := Lib.hid (blk_new w #[.int .i64 x.rep, .int .i64 x.slot] 32)
  go_enter Try.func56, Try.ntmps56
  go_wp2_with fail
  refine (HOK.out _ (HR.out.below (by repeat' (first | with_reducible exact Below.refl _ _ | with_reducible exact BW.out | with_reducible refine Below.setCell ?_ ?_ _ | with_reducible refine Below.alloc ?_ ?_ _ | with_reducible refine Below.drew ?_ | (simp; done) | (simp; omega) | omega)))).mono ?_; rintro e w1 ⟨rfl, hb⟩
  have BW := Lib.hid (show Below w.heap.size w w1 from Below.trans (by repeat' (first | with_reducible exact Below.refl _ _ | with_reducible exact BW.out | with_reducible refine Below.setCell ?_ ?_ _ | with_reducible refine Below.alloc ?_ ?_ _ | with_reducible refine Below.drew ?_ | (simp; done) | (simp; omega) | omega)) (hb.mono (by first | (simp; done) | (simp; omega) | omega)))
  have SB1 := Lib.hid (SB.out.below hb)
  clear hb SB
  cases hok : instsOkB xs with
  | false =>
    rw [hok, if_neg (by simp)] at hR
    subst hR
    have HM := Lib.hid (mine_ids (l := []) (World.ownsRow_nil w1 w.heap.size 32 2) rfl)
    go_wp2
    go_ret
    exact ⟨_, 0, 0, ret_eq rfl, rfl, HM.out, BW.out⟩
  | true =>
    rw [hok, if_pos rfl] at hR
    have HEND := Lib.hid (fun acc ys hs hp hw => hR.trans (@Srch.done xs hok x acc ys hs hp hw).symm)
    have HLEN := Lib.hid (fun out h1 h2 => @Srch.len xs hok x out [] h1 h2)
    have HDY := Lib.hid (fun y h => @deps_yes xs y h)
    have HDN := Lib.hid (fun y h => @deps_no xs y h)
    have HS0 := Lib.hid (Srch.start (depsOf xs) x)
    have HGD := Lib.hid (fun y => (deps_good hok y).len)
    generalize depsOf xs = D at *
    clear hok HOK hR
    go_wp2_with (first | ((with_reducible show wpList _ _ _ ({ dst := _, op := Op.load 32 _, type := _, pos := _, after := _, guard := _ } :: _) _ _); refine wpList_load_row _ ⟨w.heap.size, 0, none⟩ rfl [.int .i64 x.rep, .int .i64 x.slot] agg_Id rfl (blk_cells (SB1.out.alloc _)) ?_) | fail)
    have own0 : (w1.alloc (.cells #[] 32)).ownsRow w.heap.size 32 2 (.slice (some ⟨w1.heap.size, 0, none⟩) 0 0) 0 (idCells []) := own_nilAt _ _ _ _ _ rfl BW.out.size
    have OW0 := Lib.hid own0; clear own0
    go_loopw [5, 6] (fun oo qq wr => ∃ (acc q : List IdD) (p qn go kv g off qc : Nat), p = acc.length ∧ p ≤ 18 ∧ qn + 2 * (18 - p) ≤ 37 ∧ oo = .slice (some ⟨go, 0, none⟩) p kv ∧ qq = .slice (some ⟨g, off, none⟩) qn qc ∧ Srch D x acc q ∧ wr.ownsRow w.heap.size 32 2 (.slice (some ⟨go, 0, none⟩) p kv) p (idCells acc) ∧ QRow wr w.heap.size g off qn qc q ∧ go ≠ g ∧ Below w.heap.size w wr) (fun oo qq _ => slLen qq + 2 * (18 - slLen oo))
    case atStart =>
      refine ⟨[], [x], 0, 1, w1.heap.size, 0, w1.heap.size + 1, 0, 1, rfl, by omega, by omega, rfl, rfl, HS0.out, OW0.out.keptBelowJ ((Below.refl _ _).alloc (Nat.le_refl _) _), ?_, by omega, (BW.out.alloc BW.out.size _).alloc (Nat.le_trans BW.out.size (by simp)) _⟩
      have := qrow_new (w1.alloc (.cells #[] 32)) w.heap.size #[.int .i64 x.rep, .int .i64 x.slot] x (Nat.le_trans BW.out.size (by simp)) rfl
      simpa using this
    case round =>
      obtain ⟨acc, q, p, qn, go, kv, g, off, qc, hp, hp18, hM, rfl, rfl, hsr, hown, hqr, hgg, hbw⟩ := hrel
      clear OW0 BW HS0 SB1
      have HS := Lib.hid hsr; clear hsr
      have HO := Lib.hid hown; clear hown
      have BW := Lib.hid hbw; clear hbw
      have HP := Lib.hid hp; clear hp
      by_cases hq0 : 0 < qn
      · obtain ⟨y, q', rfl⟩ : ∃ y q', q = y :: q' := by
          cases q with
          | nil => have := hqr.len; simp at this; omega
          | cons y q' => exact ⟨y, q', rfl⟩
        have hcap := hqr.cap
        have HQ := Lib.hid hqr; clear hqr
        have hQ0 : decide ((0 : Int) < (qn : Int)) = true := by simp; omega
        have HQH := Lib.hid HQ.out.head
        by_cases hq1 : qc = 1
        · subst hq1
          have hqn1 : qn = 1 := by omega
          subst hqn1
          clear hcap
          go_wp2_with (first | ((with_reducible show wpList _ _ _ ({ dst := _, op := Op.load 32 _, type := _, pos := _, after := _, guard := _ } :: _) _ _); refine wpList_load_row _ _ rfl [.int .i64 y.rep, .int .i64 y.slot] agg_Id rfl HQH.out ?_) | fail)
          refine (HIA.out y _ _ (HR.out.below BW.out) IdD.shut).mono ?_; rintro e w2 ⟨csx, rfl, hMi, hb⟩
          obtain ⟨F, hnd, ho⟩ := hMi
          obtain ⟨z, hz⟩ : ∃ z, z = fInstAt xs y := ⟨_, rfl⟩
          rw [← hz] at ho
          have hdy := HDY.out y
          have hdn := HDN.out y
          rw [← hz] at hdy hdn
          clear hz hnd
          have H1C := Lib.hid ho.one
          obtain ⟨A0, k0, A1, k1, F0, F1, rfl, _, _, hs1⟩ := InstD.openO ho
          clear ho
          have HW2 := Lib.hid hb.size
          have HO2 := Lib.hid (HO.out.keptBelowJ hb)
          have HQ2 := Lib.hid (HQ.out.below hb)
          have BW2 := Lib.hid (BW.out.trans (hb.mono BW.out.size))
          have HLo := Lib.hid (HO.out.lt go rfl).2
          have HLg := Lib.hid HQ.out.lt
          have hdrow : DepRow w2 A1 z.deps go g := by
            obtain ⟨cells, F2, _, _, hrow, _⟩ := Own.sl1.1 hs1
            obtain ⟨cd, hrd, hrc, _⟩ := hs1.repAny.row
            obtain rfl := rep_ids hrc
            exact ⟨hrd, fun ad e hn => by
              have h1 := own_block hrow ad e hn
              have h2 := HLo.out
              have h3 := HLg.out
              exact ⟨by omega, by omega, h1.2⟩⟩
          have HDR := Lib.hid hdrow
          clear hdrow hs1 hb HQH
          have HDYN := Lib.hid (And.intro hdy hdn); clear hdy hdn
          have hBA : ∀ o, Below w2.heap.size w2 (w2.alloc o) := fun o => (Below.refl _ w2).alloc (Nat.le_refl _) o
          have HO3 := Lib.hid (fun o => HO2.out.keptBelowJ (hBA o))
          have HQ3 := Lib.hid (fun o => (HQ2.out.below (hBA o)).pop3)
          have BW3 := Lib.hid (fun o => BW2.out.alloc BW2.out.size o)
          have HDR3 := Lib.hid (fun o => HDR.out.below (hBA o))
          clear HO2 HQ2 BW2 HDR hBA H1C
          have HEN := Lib.hid HS.out.enter
          by_cases hst : z.status = 3
          · have hde : D y = z.deps := HDYN.out.1 hst
            have HDE := Lib.hid hde; clear hde HDYN
            have hsb : (z.status != 3) = false := by simpa using hst
            have hd18 : z.deps.length ≤ 18 := by rw [← HDE.out]; exact HGD.out y
            clear hst
            generalize z.deps = d at *
            have HEN2 := Lib.hid HEN.out
            obtain ⟨M0, hM0⟩ : ∃ M0, M0 = 0 + 2 * (18 - p) := ⟨_, rfl⟩
            have hM37 : M0 + 1 ≤ 37 := by omega
            have HM0 := Lib.hid hM0; clear hM0
            go_wp2
            go_loopw [5, 6, 32] (fun oo qq jj wr => ∃ (acc q : List IdD) (p qn go kv g off qc j : Nat), p = acc.length ∧ p ≤ 18 ∧ qn + 2 * (18 - p) ≤ M0 ∧ oo = .slice (some ⟨go, 0, none⟩) p kv ∧ qq = .slice (some ⟨g, off, none⟩) qn qc ∧ jj = .int .i64 (j : Int) ∧ j ≤ d.length ∧ SrchIn D x y j acc q ∧ wr.ownsRow w.heap.size 32 2 (.slice (some ⟨go, 0, none⟩) p kv) p (idCells acc) ∧ QRow wr w.heap.size g off qn qc q ∧ go ≠ g ∧ DepRow wr A1 d go g ∧ Below w.heap.size w wr) (fun _ _ jj _ => d.length - (intOf jj).toNat)
            case atStart => exact ⟨acc, q', p, 0, go, kv, g, off, 0, 0, HP.out, hp18, Nat.le_of_eq HM0.out.symm, rfl, rfl, rfl, Nat.zero_le _, HEN2.out, HO3.out _, HQ3.out _, hgg, HDR3.out _, BW3.out _⟩
            case round =>
              clear HO3 HQ3 BW3 HDR3 HEN2 HEN HO HQ BW HS HP HLo HLg
              obtain ⟨acc, q, p, qn, go, kv, g, off, qc, j, hp, hp18', hM', rfl, rfl, rfl, hj, hsr, hown, hqr, hgg, hdr, hbw⟩ := hrel
              have HS := Lib.hid hsr; clear hsr
              have HO := Lib.hid hown; clear hown
              have HQ := Lib.hid hqr; clear hqr
              have BW := Lib.hid hbw; clear hbw
              have HP := Lib.hid hp; clear hp
              have HDR := Lib.hid hdr; clear hdr
              by_cases hjl : j < d.length
              · obtain ⟨ad, rfl, hce⟩ := reads_elem HDR.out.1 j hjl
                have hskip := fun h => HS.out.skip (by rw [HDE.out]; exact hjl) h
                have hadd := fun h => HS.out.add (by rw [HDE.out]; exact hjl) h
                have hdj : (D y)[j]'(by rw [HDE.out]; exact hjl) = d[j] := by simp only [HDE.out]
                rw [hdj] at hskip hadd
                have HSK := Lib.hid hskip; clear hskip
                have HAD := Lib.hid hadd; clear hadd hdj
                generalize d[j] = t at *
                have HCE := Lib.hid hce; clear hce
                have hlo := (HO.out.lt go rfl).2
                have hlg := HQ.out.lt
                go_wp2_with (first
                  | ((with_reducible show wpList _ _ _ ({ dst := _, op := Op.load 32 _, type := _, pos := _, after := _, guard := _ } :: _) _ _); first | refine wpList_load_row _ ⟨wr.heap.size, 0, none⟩ rfl [.int .i64 t.rep, .int .i64 t.slot] agg_Id rfl (blk_cells (blk_new wr _ _)) ?_ | refine wpList_load_row _ _ rfl [.int .i64 t.rep, .int .i64 t.slot] agg_Id rfl HCE.out ?_)
                  | fail)
                refine (containsId_any acc t _ p kv _ _ HP.out (by omega) (own_rep (HO.out.keptBelowJ ((Below.refl _ wr).alloc (Nat.le_refl _) _)) HP.out) IdD.shut).mono ?_; rintro e v4 ⟨rfl, hb⟩
                have BV4 := Lib.hid (((Below.refl _ wr).alloc (Nat.le_refl _) _).trans (hb.mono (by simp)))
                have HTB4 := Lib.hid (show Blk v4 wr.heap.size 32 [.int .i64 t.rep, .int .i64 t.slot].toArray from (blk_new wr _ _).below hb)
                have HO5 := Lib.hid (HO.out.keptBelowJ BV4.out)
                have HQ5 := Lib.hid (HQ.out.below BV4.out)
                have HD5 := Lib.hid (HDR.out.below BV4.out)
                have BW5 := Lib.hid (BW.out.trans (BV4.out.mono BW.out.size))
                have hs4 := HTB4.out.lt
                clear hb
                cases hh : hasB acc t with
                | true =>
                  have hmem : t ∈ acc := by simpa [hasB] using hh
                  have HS2 := Lib.hid (HSK.out hmem)
                  clear hmem HSK HAD hh
                  go_wp2
                  exact ⟨⟨acc, q, p, qn, go, kv, g, off, qc, j + 1, HP.out, hp18', hM', rfl, rfl, by go_num, by omega, HS2.out, HO5.out, HQ5.out, hgg, HD5.out, BW5.out⟩, by simp only [intOf]; omega⟩
                | false =>
                  have hmem : t ∉ acc := by simpa [hasB] using hh
                  have hs2 := HAD.out hmem
                  have hl18 := HLEN.out _ hs2.nodup hs2.rch
                  rw [List.length_append, ← show p = acc.length from HP.out] at hl18
                  simp only [List.length_cons, List.length_nil] at hl18
                  have HS2 := Lib.hid hs2
                  clear hmem HSK HAD hh hs2
                  go_wp2_with (first
                    | ((with_reducible show wpList _ _ _ ({ dst := _, op := Op.load 32 _, type := _, pos := _, after := _, guard := _ } :: _) _ _); first | refine wpList_load_row _ ⟨wr.heap.size, 0, none⟩ rfl [.int .i64 t.rep, .int .i64 t.slot] agg_Id rfl (blk_cells HTB4.out) ?_ | refine wpList_load_row _ ⟨wr.heap.size, 0, none⟩ rfl [.int .i64 t.rep, .int .i64 t.slot] agg_Id rfl (blk_cells HTB6.out) ?_)
                    | (at_builtin; (refine wpList_qapp E_Id _ rfl _ _ rfl w.heap.size g off qn qc q rfl (HQ6.out.below ((Below.refl _ v6).alloc (Nat.le_refl _) _)) _ _ t rfl (blk_cells (blk_new v6 _ _)) (by omega) (Nat.le_trans BW6.out.size (by simp)) ?_; intro g2 off2 qc2 v7 hq7 hg7 hg2; have hBA : ∀ o, Below v6.heap.size v6 (v6.alloc o) := (fun o => (Below.refl _ v6).alloc (Nat.le_refl _) o); have HQ7 := Lib.hid hq7; have HO7 := Lib.hid ((HO6.out.keptBelowJ (hBA _)).kept hg7 (.inr (by simp only [Value.ownBlock]; exact fun e => hgo6 (by injection e)))); have HD7 := Lib.hid ((HD6.out.below (hBA _)).queue hg7 hg2); have BW7 := Lib.hid (Below.grown (BW6.out.trans ((hBA _).mono BW6.out.size)) hg7 (Nat.le_trans BW6.out.size (hBA _).size) (fun k hk => by injection hk with hk; have := HQ6.out.base_le; omega)); have hgo7 : go2 ≠ g2 := by { have h1 := (HO6.out.lt go2 rfl).2; rcases hg2 with h | h; { rw [h]; exact hgo6 }; { have h3 := Nat.le_trans (hBA _).size h; omega } }; clear hq7 hg7 hg2 hBA))
                    | (at_builtin; go_must (refine wpList_app E_Id _ rfl _ _ rfl w.heap.size _ p (idCells acc) rfl (HO5.out.keptBelowJ ((Below.refl _ v4).alloc (Nat.le_refl _) _)) _ _ _ _ rfl (Reads.new rfl) (by simp [Value.oneCell']) (by omega) (Nat.le_trans BW5.out.size (by simp)) ?_; intro vv v6 hown6 hg6 hat6; replace hg6 : World.grownBy _ v6 (some go) := hg6; obtain ⟨go2, kv2, rfl, hgo2⟩ := own_at3 hown6 (show _ = some go ∨ _ = some _ from hat6); have hgo3 : go2 = go ∨ v4.heap.size ≤ go2 := hgo2.imp id (fun h => by rw [h]; simp); have hBA : ∀ o, Below v4.heap.size v4 (v4.alloc o) := (fun o => (Below.refl _ v4).alloc (Nat.le_refl _) o); have HO6 := Lib.hid (show v6.ownsRow w.heap.size 32 2 (.slice (some ⟨go2, 0, none⟩) (p + 1) kv2) (p + 1) (idCells (acc ++ [t])) by rw [idCells_app]; exact hown6); have HQ6 := Lib.hid ((HQ5.out.below (hBA _)).kept hg6 (fun e => hgg e.symm)); have HTB6 := Lib.hid ((HTB4.out.below (hBA _)).grown hg6 (by omega)); have HD6 := Lib.hid ((HD5.out.below (hBA _)).out hg6 (hgo2.imp id (fun h => by rw [h]; exact Nat.le_refl _))); have BW6 := Lib.hid (Below.grown (BW5.out.trans ((hBA _).mono BW5.out.size)) hg6 (Nat.le_trans BW5.out.size (hBA _).size) (fun k hk => by injection hk with hk; have := (HO5.out.lt go rfl).1; omega)); have hs6 : v4.heap.size ≤ v6.heap.size := Nat.le_trans (hBA _).size hg6.size; have hgo6 : go2 ≠ g := by { have := HQ5.out.lt; rcases hgo3 with h | h <;> omega }; clear hown6 hg6 hat6 hgo2 hBA))
                    | fail)
                  exact ⟨⟨acc ++ [t], q ++ [t], p + 1, qn + 1, go2, kv2, g2, off2, qc2, j + 1, by rw [List.length_append, ← show p = acc.length from HP.out]; rfl, by omega, by omega, rfl, rfl, by go_num, by omega, HS2.out, HO7.out, HQ7.out, hgo7, HD7.out, BW7.out⟩, by simp only [intOf]; omega⟩
              · have hje : j = d.length := by omega
                subst hje
                have HS2 := Lib.hid (HS.out.leave (by rw [HDE.out]))
                go_wp2
                exact ⟨⟨acc, q, p, qn, go, kv, g, off, qc, HP.out, hp18', by omega, rfl, rfl, HS2.out, HO.out, HQ.out, hgg, BW.out⟩, by have h0 := HM0.out; simp only [slLen]; omega⟩
          · have hde : D y = [] := HDYN.out.2 hst
            have hsb : (z.status != 3) = true := by simpa using hst
            have HS2 := Lib.hid (HEN.out.leave (by rw [hde]; rfl))
            clear hde hst
            go_wp2
            exact ⟨⟨acc, q', p, 0, go, kv, g, off, 0, HP.out, hp18, by omega, rfl, rfl, HS2.out, HO3.out _, HQ3.out _, hgg, BW3.out _⟩, by simp only [slLen]; omega⟩
        · have hq2 : ¬ qc - 1 = 0 := by omega
          go_wp2_with (first | ((with_reducible show wpList _ _ _ ({ dst := _, op := Op.load 32 _, type := _, pos := _, after := _, guard := _ } :: _) _ _); refine wpList_load_row _ _ rfl [.int .i64 y.rep, .int .i64 y.slot] agg_Id rfl HQH.out ?_) | fail)
          refine (HIA.out y _ _ (HR.out.below BW.out) IdD.shut).mono ?_; rintro e w2 ⟨csx, rfl, hMi, hb⟩
          obtain ⟨F, hnd, ho⟩ := hMi
          obtain ⟨z, hz⟩ : ∃ z, z = fInstAt xs y := ⟨_, rfl⟩
          rw [← hz] at ho
          have hdy := HDY.out y
          have hdn := HDN.out y
          rw [← hz] at hdy hdn
          clear hz hnd
          have H1C := Lib.hid ho.one
          obtain ⟨A0, k0, A1, k1, F0, F1, rfl, _, _, hs1⟩ := InstD.openO ho
          clear ho
          have HW2 := Lib.hid hb.size
          have HO2 := Lib.hid (HO.out.keptBelowJ hb)
          have HQ2 := Lib.hid (HQ.out.below hb)
          have BW2 := Lib.hid (BW.out.trans (hb.mono BW.out.size))
          have HLo := Lib.hid (HO.out.lt go rfl).2
          have HLg := Lib.hid HQ.out.lt
          have hdrow : DepRow w2 A1 z.deps go g := by
            obtain ⟨cells, F2, _, _, hrow, _⟩ := Own.sl1.1 hs1
            obtain ⟨cd, hrd, hrc, _⟩ := hs1.repAny.row
            obtain rfl := rep_ids hrc
            exact ⟨hrd, fun ad e hn => by
              have h1 := own_block hrow ad e hn
              have h2 := HLo.out
              have h3 := HLg.out
              exact ⟨by omega, by omega, h1.2⟩⟩
          have HDR := Lib.hid hdrow
          clear hdrow hs1 hb HQH
          have HDYN := Lib.hid (And.intro hdy hdn); clear hdy hdn
          have hBA : ∀ o, Below w2.heap.size w2 (w2.alloc o) := fun o => (Below.refl _ w2).alloc (Nat.le_refl _) o
          have HO3 := Lib.hid (fun o => HO2.out.keptBelowJ (hBA o))
          have HQ3 := Lib.hid (fun o => (HQ2.out.below (hBA o)).pop2)
          have BW3 := Lib.hid (fun o => BW2.out.alloc BW2.out.size o)
          have HDR3 := Lib.hid (fun o => HDR.out.below (hBA o))
          clear HO2 HQ2 BW2 HDR hBA H1C
          have HEN := Lib.hid HS.out.enter
          by_cases hst : z.status = 3
          · have hde : D y = z.deps := HDYN.out.1 hst
            have HDE := Lib.hid hde; clear hde HDYN
            have hsb : (z.status != 3) = false := by simpa using hst
            have hd18 : z.deps.length ≤ 18 := by rw [← HDE.out]; exact HGD.out y
            clear hst
            generalize z.deps = d at *
            have HEN2 := Lib.hid HEN.out
            obtain ⟨M0, hM0⟩ : ∃ M0, M0 = (qn - 1) + 2 * (18 - p) := ⟨_, rfl⟩
            have hM37 : M0 + 1 ≤ 37 := by omega
            have HM0 := Lib.hid hM0; clear hM0
            go_wp2
            go_loopw [5, 6, 32] (fun oo qq jj wr => ∃ (acc q : List IdD) (p qn go kv g off qc j : Nat), p = acc.length ∧ p ≤ 18 ∧ qn + 2 * (18 - p) ≤ M0 ∧ oo = .slice (some ⟨go, 0, none⟩) p kv ∧ qq = .slice (some ⟨g, off, none⟩) qn qc ∧ jj = .int .i64 (j : Int) ∧ j ≤ d.length ∧ SrchIn D x y j acc q ∧ wr.ownsRow w.heap.size 32 2 (.slice (some ⟨go, 0, none⟩) p kv) p (idCells acc) ∧ QRow wr w.heap.size g off qn qc q ∧ go ≠ g ∧ DepRow wr A1 d go g ∧ Below w.heap.size w wr) (fun _ _ jj _ => d.length - (intOf jj).toNat)
            case atStart => exact ⟨acc, q', p, (qn - 1), go, kv, g, (off + 2), (qc - 1), 0, HP.out, hp18, Nat.le_of_eq HM0.out.symm, rfl, rfl, rfl, Nat.zero_le _, HEN2.out, HO3.out _, HQ3.out _, hgg, HDR3.out _, BW3.out _⟩
            case round =>
              clear HO3 HQ3 BW3 HDR3 HEN2 HEN HO HQ BW HS HP HLo HLg
              obtain ⟨acc, q, p, qn, go, kv, g, off, qc, j, hp, hp18', hM', rfl, rfl, rfl, hj, hsr, hown, hqr, hgg, hdr, hbw⟩ := hrel
              have HS := Lib.hid hsr; clear hsr
              have HO := Lib.hid hown; clear hown
              have HQ := Lib.hid hqr; clear hqr
              have BW := Lib.hid hbw; clear hbw
              have HP := Lib.hid hp; clear hp
              have HDR := Lib.hid hdr; clear hdr
              by_cases hjl : j < d.length
              · obtain ⟨ad, rfl, hce⟩ := reads_elem HDR.out.1 j hjl
                have hskip := fun h => HS.out.skip (by rw [HDE.out]; exact hjl) h
                have hadd := fun h => HS.out.add (by rw [HDE.out]; exact hjl) h
                have hdj : (D y)[j]'(by rw [HDE.out]; exact hjl) = d[j] := by simp only [HDE.out]
                rw [hdj] at hskip hadd
                have HSK := Lib.hid hskip; clear hskip
                have HAD := Lib.hid hadd; clear hadd hdj
                generalize d[j] = t at *
                have HCE := Lib.hid hce; clear hce
                have hlo := (HO.out.lt go rfl).2
                have hlg := HQ.out.lt
                go_wp2_with (first
                  | ((with_reducible show wpList _ _ _ ({ dst := _, op := Op.load 32 _, type := _, pos := _, after := _, guard := _ } :: _) _ _); first | refine wpList_load_row _ ⟨wr.heap.size, 0, none⟩ rfl [.int .i64 t.rep, .int .i64 t.slot] agg_Id rfl (blk_cells (blk_new wr _ _)) ?_ | refine wpList_load_row _ _ rfl [.int .i64 t.rep, .int .i64 t.slot] agg_Id rfl HCE.out ?_)
                  | fail)
                refine (containsId_any acc t _ p kv _ _ HP.out (by omega) (own_rep (HO.out.keptBelowJ ((Below.refl _ wr).alloc (Nat.le_refl _) _)) HP.out) IdD.shut).mono ?_; rintro e v4 ⟨rfl, hb⟩
                have BV4 := Lib.hid (((Below.refl _ wr).alloc (Nat.le_refl _) _).trans (hb.mono (by simp)))
                have HTB4 := Lib.hid (show Blk v4 wr.heap.size 32 [.int .i64 t.rep, .int .i64 t.slot].toArray from (blk_new wr _ _).below hb)
                have HO5 := Lib.hid (HO.out.keptBelowJ BV4.out)
                have HQ5 := Lib.hid (HQ.out.below BV4.out)
                have HD5 := Lib.hid (HDR.out.below BV4.out)
                have BW5 := Lib.hid (BW.out.trans (BV4.out.mono BW.out.size))
                have hs4 := HTB4.out.lt
                clear hb
                cases hh : hasB acc t with
                | true =>
                  have hmem : t ∈ acc := by simpa [hasB] using hh
                  have HS2 := Lib.hid (HSK.out hmem)
                  clear hmem HSK HAD hh
                  go_wp2
                  exact ⟨⟨acc, q, p, qn, go, kv, g, off, qc, j + 1, HP.out, hp18', hM', rfl, rfl, by go_num, by omega, HS2.out, HO5.out, HQ5.out, hgg, HD5.out, BW5.out⟩, by simp only [intOf]; omega⟩
                | false =>
                  have hmem : t ∉ acc := by simpa [hasB] using hh
                  have hs2 := HAD.out hmem
                  have hl18 := HLEN.out _ hs2.nodup hs2.rch
                  rw [List.length_append, ← show p = acc.length from HP.out] at hl18
                  simp only [List.length_cons, List.length_nil] at hl18
                  have HS2 := Lib.hid hs2
                  clear hmem HSK HAD hh hs2
                  go_wp2_with (first
                    | ((with_reducible show wpList _ _ _ ({ dst := _, op := Op.load 32 _, type := _, pos := _, after := _, guard := _ } :: _) _ _); first | refine wpList_load_row _ ⟨wr.heap.size, 0, none⟩ rfl [.int .i64 t.rep, .int .i64 t.slot] agg_Id rfl (blk_cells HTB4.out) ?_ | refine wpList_load_row _ ⟨wr.heap.size, 0, none⟩ rfl [.int .i64 t.rep, .int .i64 t.slot] agg_Id rfl (blk_cells HTB6.out) ?_)
                    | (at_builtin; (refine wpList_qapp E_Id _ rfl _ _ rfl w.heap.size g off qn qc q rfl (HQ6.out.below ((Below.refl _ v6).alloc (Nat.le_refl _) _)) _ _ t rfl (blk_cells (blk_new v6 _ _)) (by omega) (Nat.le_trans BW6.out.size (by simp)) ?_; intro g2 off2 qc2 v7 hq7 hg7 hg2; have hBA : ∀ o, Below v6.heap.size v6 (v6.alloc o) := (fun o => (Below.refl _ v6).alloc (Nat.le_refl _) o); have HQ7 := Lib.hid hq7; have HO7 := Lib.hid ((HO6.out.keptBelowJ (hBA _)).kept hg7 (.inr (by simp only [Value.ownBlock]; exact fun e => hgo6 (by injection e)))); have HD7 := Lib.hid ((HD6.out.below (hBA _)).queue hg7 hg2); have BW7 := Lib.hid (Below.grown (BW6.out.trans ((hBA _).mono BW6.out.size)) hg7 (Nat.le_trans BW6.out.size (hBA _).size) (fun k hk => by injection hk with hk; have := HQ6.out.base_le; omega)); have hgo7 : go2 ≠ g2 := by { have h1 := (HO6.out.lt go2 rfl).2; rcases hg2 with h | h; { rw [h]; exact hgo6 }; { have h3 := Nat.le_trans (hBA _).size h; omega } }; clear hq7 hg7 hg2 hBA))
                    | (at_builtin; go_must (refine wpList_app E_Id _ rfl _ _ rfl w.heap.size _ p (idCells acc) rfl (HO5.out.keptBelowJ ((Below.refl _ v4).alloc (Nat.le_refl _) _)) _ _ _ _ rfl (Reads.new rfl) (by simp [Value.oneCell']) (by omega) (Nat.le_trans BW5.out.size (by simp)) ?_; intro vv v6 hown6 hg6 hat6; replace hg6 : World.grownBy _ v6 (some go) := hg6; obtain ⟨go2, kv2, rfl, hgo2⟩ := own_at3 hown6 (show _ = some go ∨ _ = some _ from hat6); have hgo3 : go2 = go ∨ v4.heap.size ≤ go2 := hgo2.imp id (fun h => by rw [h]; simp); have hBA : ∀ o, Below v4.heap.size v4 (v4.alloc o) := (fun o => (Below.refl _ v4).alloc (Nat.le_refl _) o); have HO6 := Lib.hid (show v6.ownsRow w.heap.size 32 2 (.slice (some ⟨go2, 0, none⟩) (p + 1) kv2) (p + 1) (idCells (acc ++ [t])) by rw [idCells_app]; exact hown6); have HQ6 := Lib.hid ((HQ5.out.below (hBA _)).kept hg6 (fun e => hgg e.symm)); have HTB6 := Lib.hid ((HTB4.out.below (hBA _)).grown hg6 (by omega)); have HD6 := Lib.hid ((HD5.out.below (hBA _)).out hg6 (hgo2.imp id (fun h => by rw [h]; exact Nat.le_refl _))); have BW6 := Lib.hid (Below.grown (BW5.out.trans ((hBA _).mono BW5.out.size)) hg6 (Nat.le_trans BW5.out.size (hBA _).size) (fun k hk => by injection hk with hk; have := (HO5.out.lt go rfl).1; omega)); have hs6 : v4.heap.size ≤ v6.heap.size := Nat.le_trans (hBA _).size hg6.size; have hgo6 : go2 ≠ g := by { have := HQ5.out.lt; rcases hgo3 with h | h <;> omega }; clear hown6 hg6 hat6 hgo2 hBA))
                    | fail)
                  exact ⟨⟨acc ++ [t], q ++ [t], p + 1, qn + 1, go2, kv2, g2, off2, qc2, j + 1, by rw [List.length_append, ← show p = acc.length from HP.out]; rfl, by omega, by omega, rfl, rfl, by go_num, by omega, HS2.out, HO7.out, HQ7.out, hgo7, HD7.out, BW7.out⟩, by simp only [intOf]; omega⟩
              · have hje : j = d.length := by omega
                subst hje
                have HS2 := Lib.hid (HS.out.leave (by rw [HDE.out]))
                go_wp2
                exact ⟨⟨acc, q, p, qn, go, kv, g, off, qc, HP.out, hp18', by omega, rfl, rfl, HS2.out, HO.out, HQ.out, hgg, BW.out⟩, by have h0 := HM0.out; simp only [slLen]; omega⟩
          · have hde : D y = [] := HDYN.out.2 hst
            have hsb : (z.status != 3) = true := by simpa using hst
            have HS2 := Lib.hid (HEN.out.leave (by rw [hde]; rfl))
            clear hde hst
            go_wp2
            exact ⟨⟨acc, q', p, (qn - 1), go, kv, g, (off + 2), (qc - 1), HP.out, hp18, by omega, rfl, rfl, HS2.out, HO3.out _, HQ3.out _, hgg, BW3.out _⟩, by simp only [slLen]; omega⟩
      · have hqe : qn = 0 := by omega
        subst hqe
        have hqn : q = [] := List.length_eq_zero_iff.1 hqr.len.symm
        subst hqn
        clear hqr
        go_wp2_with fail
        refine (sort_own w.heap.size go p kv acc _ HP.out (by omega) HO.out).mono ?_
        rintro e w5 ⟨rfl, ys, hpm, hwk, ho5, hg5⟩
        have hre := HEND.out acc ys HS.out hpm hwk
        have hpl : p = R.length := by rw [hre, hpm.length_eq]; exact HP.out
        rw [← hre] at ho5
        have HM := Lib.hid (mine_ids ho5 hpl)
        have HL := Lib.hid hpl
        have B5 := Lib.hid (Below.grown BW.out hg5 BW.out.size (fun k hk => (HO.out.lt k hk).1))
        clear ho5 hg5 hpl hre hpm hwk
        go_wp2
        go_ret
        exact ⟨_, p, kv, ret_eq rfl, HL.out, HM.out, B5.out⟩

end Go.Proofs.Ytbdblfpepnoafaa
namespace Go.Proofs.Ytbdblfpepnoafaa
open Go.RowKit
inductive HT where
  | leaf
  | one (i : Nat) (r : HT)
  | two (i k : Nat) (r s : HT)
def HT.len : HT → Nat
  | .leaf => 0
  | .one _ r => r.len + 1
  | .two _ _ r _ => r.len + 1
section
variable {P : Program} {md : Region.Mode} {ops : Array Oper}
def wpT (P : Program) (ops : Array Oper) (Q : Exit → Act → World → Prop) (tail : List Oper) : HT → Act → World → Prop
  | .leaf, a, w => wpList P ops Q tail a w
  | .one i r, a, w => match ops[i]? with
    | none => False
    | some o =>
      if quietKind P o.op = true then (Region.wanted o (yielded ops a.tmps) = true → plainB o a = true) ∧ wpList P ops (stopQ w (wpT P ops Q tail r)) [o] a w
      else wpList P ops (stopA w (wpT P ops Q tail r)) [o] a w
  | .two i k r s, a, w => match ops[i]? with
    | none => False
    | some o => match ops[k]? with
      | none => False
      | some o' => wpList P ops (stopA w (wpT P ops Q tail r)) [o] a w ∧ wpList P ops (stopA w (wpT P ops Q tail s)) [o'] a w

theorem wpT_quiet {Q : Exit → Act → World → Prop} {tail : List Oper} {i : Nat} {r : HT} {a : Act} {w : World} {o : Oper} (hi : ops[i]? = some o) (hk : quietKind P o.op = true) (hp : plainB o a = true)
    (h : wpList P ops (stopQ w (wpT P ops Q tail r)) [o] a w) : wpT P ops Q tail (.one i r) a w := by
  simp only [wpT, hi, hk, if_true]
  exact ⟨fun _ => hp, h⟩
theorem wpT_actor {Q : Exit → Act → World → Prop} {tail : List Oper} {i : Nat} {r : HT} {a : Act} {w : World} {o : Oper} (hi : ops[i]? = some o) (hk : quietKind P o.op = false)
    (h : wpList P ops (stopA w (wpT P ops Q tail r)) [o] a w) : wpT P ops Q tail (.one i r) a w := by
  simp only [wpT, hi, hk, Bool.false_eq_true, if_false]
  exact h
theorem wpT_two {Q : Exit → Act → World → Prop} {tail : List Oper} {i k : Nat} {r s : HT} {a : Act} {w : World} {o o' : Oper} (hi : ops[i]? = some o) (hk : ops[k]? = some o')
    (h : wpList P ops (stopA w (wpT P ops Q tail r)) [o] a w) (h' : wpList P ops (stopA w (wpT P ops Q tail s)) [o'] a w) : wpT P ops Q tail (.two i k r s) a w := by
  simp only [wpT, hi, hk]
  exact ⟨h, h'⟩
theorem wpT_nil {Q : Exit → Act → World → Prop} {tail : List Oper} {a : Act} {w : World} (h : wpList P ops Q tail a w) : wpT P ops Q tail .leaf a w := h

def headT (P : Program) (md : Region.Mode) (ops : Array Oper) (n : Nat) : HT → Array Bool → Bool
  | .leaf, listed => Region.seqB md ops (ops.size - n) n listed
  | .one i r, listed => decide (i < n) && (match ops[i]? with
      | none => false
      | some o => if quietKind P o.op = true then (Region.ready md ops listed).contains i && Region.free md ops listed i else decide (Region.ready md ops listed = [i])) &&
    headT P md ops n r (listed.setIfInBounds i true)
  | .two i k r s, listed => decide (i < n) && decide (k < n) && decide (r.len = s.len) && decide (Region.ready md ops listed = [i, k]) && headT P md ops n r (listed.setIfInBounds i true) && headT P md ops n s (listed.setIfInBounds k true)
def headBT (P : Program) (md : Region.Mode) (ops : Array Oper) (n : Nat) (r : HT) : Bool :=
  Region.noSelect ops && (decide (n = ops.size) || (decide (n < ops.size) && Region.sinkB md ops n && Region.chainB md ops n)) && decide (r.len = n) && headT P md ops n r (Array.replicate ops.size false)

theorem wpOp_of_stopA {n : Nat} {Q : Exit → Act → World → Prop} {tail : List Oper} {r : HT} {j : Nat} {o : Oper} {listed : Array Bool} {a : Act} {w : World} {f : Nat} (ho : ops[j]? = some o)
    (step : ∀ a' w', stopA w (wpT P ops Q tail r) .normal a' w' → wpAnyC P md ops n (Ext w) (fun listed' a' w' => Region.seqB md ops (ops.size - n) n listed' = true ∧ wpList P ops Q tail a' w') f (listed.setIfInBounds j true) a' w')
    (h : wpList P ops (stopA w (wpT P ops Q tail r)) [o] a w) :
    wpOp P ops noQ j (wpAnyC P md ops n (Ext w) (fun listed' a' w' => Region.seqB md ops (ops.size - n) n listed' = true ∧ wpList P ops Q tail a' w') f (listed.setIfInBounds j true)) a w := by
  unfold wpOp
  simp only [ho]
  simp only [wpList] at h
  by_cases hw : Region.wanted o (yielded ops a.tmps) = true
  · rw [if_pos hw] at h ⊢
    rcases h with h | ⟨_, _, _, hx⟩
    · exact .inl (wp_off stopA_off step h)
    · exact hx.elim
  · rw [if_neg hw] at h ⊢
    exact step _ _ h

theorem wpAnyC_of_T {n : Nat} {Q : Exit → Act → World → Prop} {tail : List Oper} (hsel : ∀ (j : Nat) (o : Oper) cs b, ops[j]? = some o → o.op ≠ .select cs b) (hblk : Blocks md ops n) :
    ∀ (r : HT) (listed : Array Bool) (a : Act) (w : World), HeadInv md ops n listed → headT P md ops n r listed = true → wpT P ops Q tail r a w →
      wpAnyC P md ops n (Ext w) (fun listed' a' w' => Region.seqB md ops (ops.size - n) n listed' = true ∧ wpList P ops Q tail a' w') r.len listed a w
  | .leaf, _, _, w, _, hB, h => ⟨Ext.refl w, hB, h⟩
  | .two i k r s, listed, a, w, inv, hB, h => by
    simp only [headT, Bool.and_eq_true, decide_eq_true_eq] at hB
    obtain ⟨⟨⟨⟨⟨hin, hkn⟩, hlen⟩, hready⟩, hB1⟩, hB2⟩ := hB
    cases ho : ops[i]? with
    | none => simp only [wpT, ho] at h
    | some o =>
      cases ho' : ops[k]? with
      | none => simp only [wpT, ho, ho'] at h
      | some o' =>
        simp only [wpT, ho, ho'] at h
        have hri : i ∈ Region.ready md ops listed := by rw [hready]; simp
        have hrk : k ∈ Region.ready md ops listed := by rw [hready]; simp
        refine ⟨Ext.refl w, by rw [hready]; simp, fun j hj => ?_⟩
        rw [hready] at hj
        simp only [List.mem_cons, List.not_mem_nil, or_false] at hj
        rcases hj with rfl | rfl
        · exact ⟨hin, wpOp_of_stopA ho (fun a' w' hs => wpAnyC_mono (fun w2 h2 => hs.1.trans h2) _ _ _ _ (wpAnyC_of_T hsel hblk r _ a' w' (inv.set hri hin) hB1 hs.2)) h.1⟩
        · refine ⟨hkn, wpOp_of_stopA ho' (fun a' w' hs => ?_) h.2⟩
          have := wpAnyC_mono (fun w2 h2 => hs.1.trans h2) _ _ _ _ (wpAnyC_of_T hsel hblk s _ a' w' (inv.set hrk hkn) hB2 hs.2)
          rw [← hlen] at this
          exact this
  | .one i r, listed, a, w, inv, hB, h => by
    simp only [headT, Bool.and_eq_true, decide_eq_true_eq] at hB
    obtain ⟨⟨hin, hB1⟩, hB2⟩ := hB
    cases ho : ops[i]? with
    | none => rw [ho] at hB1; cases hB1
    | some o =>
      rw [ho] at hB1
      simp only [wpT, ho] at h
      simp only at hB1
      have hdone : ∀ (listed : Array Bool) (a : Act) (w : World), (Region.seqB md ops (ops.size - n) n listed = true ∧ wpList P ops Q tail a w) → ∀ j ∈ Region.ready md ops listed, n ≤ j := fun _ _ _ hx => seqB_ready hx.1
      by_cases hk : quietKind P o.op = true
      · rw [if_pos hk] at hB1 h
        simp only [Bool.and_eq_true] at hB1
        have hr : i ∈ Region.ready md ops listed := by simpa using hB1.1
        obtain ⟨hp, h⟩ := h
        simp only [wpList] at h
        have key : ∃ v, YieldsE P ops (Ext w) o v a ∧ wpT P ops Q tail r (a.put o.dst v) w := by
          by_cases hw : Region.wanted o (yielded ops a.tmps) = true
          · rw [if_pos hw] at h
            rcases h with h | ⟨_, _, _, hx⟩
            · have hst := Stable.op (P := P) (o := o) (a := a) hk (hp hw)
              unfold Oper.wp at h
              cases hrun : (execOp a.eval o).run P w with
              | halt x w' =>
                rw [hrun] at h
                cases x <;> simp only [Oper.upon] at h
                exact h.elim
              | ok nx w' =>
                obtain ⟨rfl, hall⟩ := hst w nx w' hrun
                rw [hrun] at h
                have hval : ∃ v, nx = .value v := by
                  obtain ⟨dst, op, type, pos, after, guard⟩ := o
                  have fromVal : ∀ {s : Sem Value}, (do Pure.pure (Next.value (← s)) : Sem Next).run P w' = .ok nx w' → ∃ v, nx = .value v := fun {s} hs => by
                    rw [Sem.run_bind] at hs
                    cases hs2 : s.run P w' with
                    | halt _ _ => rw [hs2] at hs; cases hs
                    | ok v w2 =>
                      rw [hs2] at hs
                      simp only [Result.andThen, Sem.run_pure, Result.ok.injEq] at hs
                      exact ⟨v, hs.1.symm⟩
                  cases op <;> first | exact absurd hk Bool.false_ne_true | exact fromVal hrun | skip
                  case move x => simp only [execOp, Sem.run_pure, Result.ok.injEq] at hrun; exact ⟨_, hrun.1.symm⟩
                  case assign x => simp only [execOp, Sem.run_pure, Result.ok.injEq] at hrun; exact ⟨_, hrun.1.symm⟩
                  case pick c x y =>
                    simp only [execOp, Sem.run_bind] at hrun
                    cases hs2 : (asBool (a.eval c)).run P w' with
                    | halt _ _ => rw [hs2] at hrun; cases hrun
                    | ok v w2 =>
                      rw [hs2] at hrun
                      simp only [Result.andThen, Sem.run_pure, Result.ok.injEq] at hrun
                      exact ⟨_, hrun.1.symm⟩
                  case nilCheck x =>
                    have hp' := hp hw
                    simp only [plainB] at hp'
                    simp only [execOp] at hrun
                    split at hp'
                    · rename_i ad he
                      rw [he] at hrun
                      simp only [Sem.run_pure, Result.ok.injEq] at hrun
                      exact ⟨_, hrun.1.symm⟩
                    · cases hp'
                  case call c =>
                    obtain ⟨⟨x, t⟩, hc⟩ := Option.isSome_iff_exists.1 (show (lenCall c).isSome = true from hk)
                    have hc' := lenCall_spec hc
                    subst hc'
                    refine fromVal (s := Builtin.len_ #[t] type #[a.eval x]) ?_
                    rw [← hrun]
                    simp only [execOp, resolve, invoke, builtin, Sem.run_bind, Sem.run_pure, Result.andThen_ok, List.map_toArray, List.map_cons, List.map_nil]
                obtain ⟨v, rfl⟩ := hval
                simp only [Oper.upon] at h
                exact ⟨v, .inl ⟨hw, fun w2 hw2 => hall w2 hw2⟩, h.2⟩
            · exact hx.elim
          · rw [if_neg hw] at h
            exact ⟨undef, .inr ⟨by simpa using hw, rfl⟩, h.2⟩
        obtain ⟨v, hy, hX⟩ := key
        exact take_first ho hsel hblk hin hdone r.len listed a w inv (fun j oj hj hne hun hno => Region.free_spec ho hB1.2 j oj hj hne hun hno) hr hy (Ext.refl w)
          (wpAnyC_of_T hsel hblk r _ _ w (inv.set hr hin) hB2 hX)
      · rw [if_neg hk] at hB1 h
        have hready : Region.ready md ops listed = [i] := by simpa using hB1
        have hr : i ∈ Region.ready md ops listed := by rw [hready]; simp
        refine ⟨Ext.refl w, by rw [hready]; simp, fun j hj => ?_⟩
        rw [hready] at hj
        have hji : j = i := by simpa using hj
        subst hji
        exact ⟨hin, wpOp_of_stopA ho (fun a' w' hs => wpAnyC_mono (fun w2 h2 => hs.1.trans h2) _ _ _ _ (wpAnyC_of_T hsel hblk r _ a' w' (inv.set hr hin) hB2 hs.2)) h⟩

theorem wp_region_t {id : Nat} {Q : Exit → Act → World → Prop} {a : Act} {w : World} {l : List Oper} (n : Nat) (r : HT) (hm : P.follows .mixedOrders = true) (hB : headBT P .any l.toArray n r = true)
    (h : wpT P l.toArray Q (l.drop n) r a w.drew) : (Code.region id l.toArray true).wp P Q a w := by
  simp only [headBT, Bool.and_eq_true, Bool.or_eq_true, decide_eq_true_eq] at hB
  obtain ⟨⟨⟨hsel, hcut⟩, hlen⟩, hsim⟩ := hB
  have hnl : n ≤ l.length := by
    rcases hcut with h1 | h1
    · simp at h1; omega
    · have := h1.1.1; simp at this; omega
  have hblk : Blocks .any l.toArray n := by
    rcases hcut with h1 | h1
    · intro listed _ i _ _ t ht
      obtain ⟨_, o, ho, _⟩ := mem_ready.1 ht
      have := (Array.getElem?_eq_some_iff.1 ho).1
      omega
    · intro listed inv i hin hun t ht
      rcases Nat.lt_or_ge t n with h2 | h2
      · exact h2
      · exact absurd ht (tail_waits h1.1.2 h1.2 h1.1.1 inv _ i rfl hin hun t h2)
  have inv0 : HeadInv .any l.toArray n (Array.replicate l.toArray.size false) :=
    ⟨by simp, fun j oj _ hl => (by rw [getD_replicate_false] at hl; cases hl), fun t _ ht => getD_in (by simpa using ht) (getD_replicate_false _ _)⟩
  have h1 := wpAnyC_of_T (P := P) (Region.noSelect_spec hsel) hblk r _ a w.drew inv0 hsim h
  have hdl : (l.drop n).length = l.toArray.size - n := by simp
  have h2 := wpAny_of_C (Q := Q) (g := l.toArray.size - n) (fun listed' a' w' hx => by
    rw [← hdl]
    refine wpAny_of_seq (l.drop n) n listed' a' w' (fun j => by simp [List.getElem?_drop]) ?_ hx.2
    rw [hdl]
    exact hx.1) r.len _ a w.drew h1
  refine wp_region_any hm ?_
  rw [show l.toArray.size = r.len + (l.toArray.size - n) by simp; omega]
  rw [show r.len + (l.toArray.size - n) = l.toArray.size by simp; omega]
  rw [show r.len + (l.toArray.size - n) = l.toArray.size by simp; omega] at h2
  exact h2
theorem wp_join {c : Code} {Q : Exit → Act → World → Prop} {a : Act} {w : World} (J : Act → Act → World → Prop) (h1 : c.wp P (fun e a' w' => e = .normal ∧ J a a' w') a w) (h2 : ∀ a' w', J a a' w' → Q .normal a' w') : c.wp P Q a w :=
  Code.wp_mono (Q := fun e a' w' => e = .normal ∧ J a a' w') (by rintro e a' w' ⟨rfl, h⟩; exact h2 a' w' h) h1
end
end Go.Proofs.Ytbdblfpepnoafaa
namespace Go.Proofs.Ytbdblfpepnoafaa
open Go.RowKit
section
variable {P : Program} {md : Region.Mode} {ops : Array Oper}

/-! ### the invariant: what is listed is closed under what it waits for; the floats are listed -/
structure FInv (md : Region.Mode) (ops : Array Oper) (fl : List Nat) (listed : Array Bool) : Prop where
  closed : ∀ j oj, ops[j]? = some oj → listed.getD j false = true → ∀ e ∈ oj.after, Region.binds md e = true → listed.getD e.on false = true
  floats : ∀ t ∈ fl, listed.getD t true = true
theorem FInv.set {fl : List Nat} {i : Nat} {listed : Array Bool} (inv : FInv md ops fl listed) (hi : i ∈ Region.ready md ops listed) : FInv md ops fl (listed.setIfInBounds i true) := by
  obtain ⟨_, oi, hoi, hall⟩ := mem_ready.1 hi
  refine ⟨fun j oj hj hl e he hb => ?_, fun t ht => ?_⟩
  · by_cases hij : i = j
    · subst hij
      have : oj = oi := Option.some.inj (hj.symm.trans hoi)
      subst this
      exact getD_set_true (hall e he hb)
    · rw [getD_set_ne false hij] at hl
      exact getD_set_true (inv.closed j oj hj hl e he hb)
  · by_cases hij : i = t
    · subst hij
      rcases Nat.lt_or_ge i listed.size with h | h
      · simp [h]
      · simp [h]
    · rw [getD_set_ne true hij]
      exact inv.floats t ht
def waitsB (md : Region.Mode) (ops : Array Oper) : Nat → Nat → Nat → Bool
  | 0, _, _ => false
  | f + 1, t, i => match ops[t]? with
    | none => false
    | some o => o.after.toList.any fun e => Region.binds md e && (e.on == i || waitsB md ops f e.on i)
theorem waitsB_listed {fl : List Nat} {listed : Array Bool} (inv : FInv md ops fl listed) : ∀ (f t i : Nat), listed.getD t false = true → waitsB md ops f t i = true → listed.getD i false = true
  | 0, _, _, _, h => by simp [waitsB] at h
  | f + 1, t, i, ht, h => by
    simp only [waitsB] at h
    split at h
    · cases h
    · rename_i o ho
      obtain ⟨e, he, hb⟩ := List.any_eq_true.1 h
      simp only [Bool.and_eq_true, Bool.or_eq_true, beq_iff_eq] at hb
      have hl := inv.closed t o ho ht e (by simpa using he) hb.1
      rcases hb.2 with h1 | h1
      · rw [← h1]; exact hl
      · exact waitsB_listed inv f e.on i hl h1
theorem ready_waits {fl : List Nat} {listed : Array Bool} (inv : FInv md ops fl listed) {f t i : Nat} (ht : t ∈ Region.ready md ops listed) (h : waitsB md ops f t i = true) : listed.getD i false = true := by
  obtain ⟨_, o, ho, hall⟩ := mem_ready.1 ht
  cases f with
  | zero => simp [waitsB] at h
  | succ f =>
    simp only [waitsB, ho] at h
    obtain ⟨e, he, hb⟩ := List.any_eq_true.1 h
    simp only [Bool.and_eq_true, Bool.or_eq_true, beq_iff_eq] at hb
    have hl := hall e (by simpa using he) hb.1
    rcases hb.2 with h1 | h1
    · rw [← h1]; exact hl
    · exact waitsB_listed inv f e.on i hl h1
/-- the head is done before anything but a float of the tail comes up -/
def blockB (md : Region.Mode) (ops : Array Oper) (n : Nat) (fl : List Nat) : Bool :=
  (List.range ops.size).all fun t => decide (t < n) || fl.contains t || (List.range n).all fun i => fl.contains i || waitsB md ops ops.size t i
def BlocksF (md : Region.Mode) (ops : Array Oper) (n : Nat) (fl : List Nat) : Prop := ∀ listed, FInv md ops fl listed → ∀ i, i < n → listed.getD i true = false → ∀ t ∈ Region.ready md ops listed, t < n
theorem blocksF_of {n : Nat} {fl : List Nat} (h : blockB md ops n fl = true) : BlocksF md ops n fl := by
  intro listed inv i hin hun t ht
  have hts : t < ops.size := by
    obtain ⟨_, o, ho, _⟩ := mem_ready.1 ht
    exact (Array.getElem?_eq_some_iff.1 ho).1
  have h1 := List.all_eq_true.1 h t (List.mem_range.2 hts)
  simp only [Bool.or_eq_true, decide_eq_true_eq] at h1
  rcases h1 with (h1 | h1) | h1
  · exact h1
  · have h2 := inv.floats t (by simpa using h1)
    have h3 := (mem_ready.1 ht).1
    rw [h2] at h3; cases h3
  · have h2 := List.all_eq_true.1 h1 i (List.mem_range.2 hin)
    simp only [Bool.or_eq_true] at h2
    rcases h2 with h2 | h2
    · have h3 := inv.floats i (by simpa using h2)
      rw [h3] at hun; cases hun
    · have h3 := ready_waits inv ht h2
      rw [getD_both hun] at h3; cases h3

theorem take_firstF {n i : Nat} {fl : List Nat} {oi : Oper} {v : Value} {C : World → Prop} {L : Array Bool → Act → World → Prop} (hi : ops[i]? = some oi) (hsel : ∀ (j : Nat) (o : Oper) cs b, ops[j]? = some o → o.op ≠ .select cs b)
    (hblk : BlocksF md ops n fl) (hin : i < n) (hdone : ∀ listed a w, L listed a w → ∀ j ∈ Region.ready md ops listed, n ≤ j) :
    ∀ (f : Nat) (listed : Array Bool) (a : Act) (w : World), FInv md ops fl listed →
      (∀ j oj, ops[j]? = some oj → j ≠ i → listed.getD j true = false → (∀ e ∈ oj.after, Region.binds md e = true → e.on ≠ i) → oi.apart ops oj = true) →
      i ∈ Region.ready md ops listed → YieldsE P ops C oi v a → C w →
      wpAnyC P md ops n C L f (listed.setIfInBounds i true) (a.put oi.dst v) w → wpAnyC P md ops n C L (f + 1) listed a w := by
  intro f
  induction f with
  | zero =>
    intro listed a w inv _ hr hy hw H
    have hun := (mem_ready.1 hr).1
    refine ⟨hw, fun h => (by rw [h] at hr; cases hr), fun j hj => ?_⟩
    have hjn := hblk listed inv i hin hun j hj
    refine ⟨hjn, ?_⟩
    by_cases hji : j = i
    · subst hji
      exact hy.go hi hw H
    · have := hdone _ _ _ H.2 j (ready_mono hj hji)
      omega
  | succ f ih =>
    intro listed a w inv hfree hr hy hw H
    have hun := (mem_ready.1 hr).1
    refine ⟨hw, fun h => (by rw [h] at hr; cases hr), fun j hj => ?_⟩
    have hjn := hblk listed inv i hin hun j hj
    refine ⟨hjn, ?_⟩
    by_cases hji : j = i
    · subst hji
      exact hy.go hi hw H
    · have h1 := (H.2.2 j (ready_mono hj hji)).2
      obtain ⟨hjun, oj, hoj, hall⟩ := mem_ready.1 hj
      have hnot : ∀ e ∈ oj.after, Region.binds md e = true → e.on ≠ i := fun e he hb heq => by
        have h1 := hall e he hb
        rw [heq, getD_both hun] at h1
        cases h1
      have h2 := move_past hoj (hfree j oj hoj hji hjun hnot) (fun cs b => hsel i oi cs b hi) (fun cs b => hsel j oj cs b hoj) hy h1
      have hfree' : ∀ k ok, ops[k]? = some ok → k ≠ i → (listed.setIfInBounds j true).getD k true = false →
          (∀ e ∈ ok.after, Region.binds md e = true → e.on ≠ i) → oi.apart ops ok = true := fun k ok hk hki hun2 hno => by
        refine hfree k ok hk hki ?_ hno
        by_cases hjk : j = k
        · subst hjk; exact hjun
        · rw [getD_set_ne true hjk] at hun2; exact hun2
      refine wpOp_mono (fun a' w' h3 => ?_) h2
      have hcw : C w' := by
        cases f with
        | zero => exact h3.2.1
        | succ f => exact h3.2.1
      refine ih (listed.setIfInBounds j true) a' w' (inv.set hj) hfree' (ready_mono hr (Ne.symm hji)) h3.1 hcw ?_
      rw [Array.setIfInBounds_comm _ _ hji]
      exact h3.2

/-! ### a head in one order: reads, structs built, actors -/
def buildOf : Op → Option (TypeId × Array (Nat × Operand))
  | .build t parts => some (t, parts)
  | _ => none
theorem buildOf_spec {op : Op} {t : TypeId} {parts : Array (Nat × Operand)} (h : buildOf op = some (t, parts)) : op = .build t parts := by
  cases op <;> simp [buildOf] at h
  obtain ⟨rfl, rfl⟩ := h
  rfl
def wpH (P : Program) (ops : Array Oper) (Q : Exit → Act → World → Prop) (tail : List Oper) : List Nat → Act → World → Prop
  | [], a, w => wpList P ops Q tail a w
  | i :: r, a, w => match ops[i]? with
    | none => False
    | some o => match buildOf o.op with
      | some (t, parts) => o.guard = none ∧ ∃ cells, P.built t (parts.map fun (i, x) => (i, a.eval x)).toList = some cells ∧ wpH P ops Q tail r (a.put o.dst (.agg cells)) w
      | none =>
        if quietKind P o.op = true then (Region.wanted o (yielded ops a.tmps) = true → plainB o a = true) ∧ wpList P ops (stopQ w (wpH P ops Q tail r)) [o] a w
        else wpList P ops (stopA w (wpH P ops Q tail r)) [o] a w
section
variable {Q : Exit → Act → World → Prop} {tail : List Oper} {i : Nat} {r : List Nat} {a : Act} {w : World} {o : Oper}
theorem wpH_build (hi : ops[i]? = some o) {t : TypeId} {parts : Array (Nat × Operand)} (hb : buildOf o.op = some (t, parts)) (hg : o.guard = none) (cells : Array Value) (hc : P.built t (parts.map fun (i, x) => (i, a.eval x)).toList = some cells)
    (h : wpH P ops Q tail r (a.put o.dst (.agg cells)) w) : wpH P ops Q tail (i :: r) a w := by
  simp only [wpH, hi, hb]; exact ⟨hg, cells, hc, h⟩
theorem wpH_quiet (hi : ops[i]? = some o) (hb : buildOf o.op = none) (hk : quietKind P o.op = true) (hp : plainB o a = true)
    (h : wpList P ops (stopQ w (wpH P ops Q tail r)) [o] a w) : wpH P ops Q tail (i :: r) a w := by
  simp only [wpH, hi, hb, hk, if_true]
  exact ⟨fun _ => hp, h⟩
theorem wpH_actor (hi : ops[i]? = some o) (hb : buildOf o.op = none) (hk : quietKind P o.op = false)
    (h : wpList P ops (stopA w (wpH P ops Q tail r)) [o] a w) : wpH P ops Q tail (i :: r) a w := by
  simp only [wpH, hi, hb, hk, Bool.false_eq_true, if_false]
  exact h
theorem wpH_nil (h : wpList P ops Q tail a w) : wpH P ops Q tail [] a w := h
end
theorem execOp_build {a : Act} {o : Oper} {t : TypeId} {parts : Array (Nat × Operand)} (hb : buildOf o.op = some (t, parts)) {cells : Array Value} (hc : P.built t (parts.map fun (i, x) => (i, a.eval x)).toList = some cells) (w : World) :
    (execOp a.eval o).run P w = .ok (.value (.agg cells)) w := by
  obtain ⟨dst, op, type, pos, after, guard⟩ := o
  have := buildOf_spec hb
  simp only at this
  subst this
  show (do Pure.pure (Next.value (← Instr.build t (parts.map fun (i, x) => (i, a.eval x)))) : Sem Next).run P w = _
  rw [Sem.run_bind, run_build w t _ cells hc]
  simp only [Result.andThen, Sem.run_pure]

def headSimF (P : Program) (md : Region.Mode) (ops : Array Oper) (n : Nat) (seq : Array Bool → Bool) : List Nat → Array Bool → Bool
  | [], listed => seq listed
  | i :: r, listed => decide (i < n) && (match ops[i]? with
      | none => false
      | some o => if (buildOf o.op).isSome || quietKind P o.op then (Region.ready md ops listed).contains i && Region.free md ops listed i else decide (Region.ready md ops listed = [i])) &&
    headSimF P md ops n seq r (listed.setIfInBounds i true)

theorem wpAnyC_of_XF {n : Nat} {fl : List Nat} {Q : Exit → Act → World → Prop} {tail : List Oper} {seq : Array Bool → Bool} (hsel : ∀ (j : Nat) (o : Oper) cs b, ops[j]? = some o → o.op ≠ .select cs b) (hblk : BlocksF md ops n fl) (hseq : ∀ listed, seq listed = true → ∀ j ∈ Region.ready md ops listed, n ≤ j) :
    ∀ (r : List Nat) (listed : Array Bool) (a : Act) (w : World), FInv md ops fl listed → headSimF P md ops n seq r listed = true → wpH P ops Q tail r a w →
      wpAnyC P md ops n (Ext w) (fun listed' a' w' => seq listed' = true ∧ wpList P ops Q tail a' w') r.length listed a w
  | [], _, _, w, _, hB, h => ⟨Ext.refl w, hB, h⟩
  | i :: r, listed, a, w, inv, hB, h => by
    simp only [headSimF, Bool.and_eq_true, decide_eq_true_eq] at hB
    obtain ⟨⟨hin, hB1⟩, hB2⟩ := hB
    cases ho : ops[i]? with
    | none => rw [ho] at hB1; cases hB1
    | some o =>
      rw [ho] at hB1
      simp only [wpH, ho] at h
      simp only at hB1
      have hdone : ∀ (listed : Array Bool) (a : Act) (w : World), (seq listed = true ∧ wpList P ops Q tail a w) → ∀ j ∈ Region.ready md ops listed, n ≤ j := fun _ _ _ hx => hseq _ hx.1
      cases hbo : buildOf o.op with
      | some tp =>
        obtain ⟨t, parts⟩ := tp
        rw [hbo] at hB1 h
        simp only [Option.isSome_some, Bool.true_or, if_true, Bool.and_eq_true] at hB1
        have hr : i ∈ Region.ready md ops listed := by simpa using hB1.1
        obtain ⟨hg, cells, hc, hX⟩ := h
        have hw : Region.wanted o (yielded ops a.tmps) = true := by simp [Region.wanted, hg]
        exact take_firstF ho hsel hblk hin hdone r.length listed a w inv (fun j oj hj hne hun hno => Region.free_spec ho hB1.2 j oj hj hne hun hno) hr (.inl ⟨hw, fun w2 _ => execOp_build hbo hc w2⟩) (Ext.refl w)
          (wpAnyC_of_XF hsel hblk hseq r _ _ w (inv.set hr) hB2 hX)
      | none =>
      rw [hbo] at hB1 h
      simp only [Option.isSome_none, Bool.false_or] at hB1 h
      by_cases hk : quietKind P o.op = true
      · rw [if_pos hk] at hB1 h
        simp only [Bool.and_eq_true] at hB1
        have hr : i ∈ Region.ready md ops listed := by simpa using hB1.1
        obtain ⟨hp, h⟩ := h
        simp only [wpList] at h
        have key : ∃ v, YieldsE P ops (Ext w) o v a ∧ wpH P ops Q tail r (a.put o.dst v) w := by
          by_cases hw : Region.wanted o (yielded ops a.tmps) = true
          · rw [if_pos hw] at h
            rcases h with h | ⟨_, _, _, hx⟩
            · have hst := Stable.op (P := P) (o := o) (a := a) hk (hp hw)
              unfold Oper.wp at h
              cases hrun : (execOp a.eval o).run P w with
              | halt x w' =>
                rw [hrun] at h
                cases x <;> simp only [Oper.upon] at h
                exact h.elim
              | ok nx w' =>
                obtain ⟨rfl, hall⟩ := hst w nx w' hrun
                rw [hrun] at h
                have hval : ∃ v, nx = .value v := by
                  obtain ⟨dst, op, type, pos, after, guard⟩ := o
                  have fromVal : ∀ {s : Sem Value}, (do Pure.pure (Next.value (← s)) : Sem Next).run P w' = .ok nx w' → ∃ v, nx = .value v := fun {s} hs => by
                    rw [Sem.run_bind] at hs
                    cases hs2 : s.run P w' with
                    | halt _ _ => rw [hs2] at hs; cases hs
                    | ok v w2 =>
                      rw [hs2] at hs
                      simp only [Result.andThen, Sem.run_pure, Result.ok.injEq] at hs
                      exact ⟨v, hs.1.symm⟩
                  cases op <;> first | exact absurd hk Bool.false_ne_true | exact fromVal hrun | skip
                  case move x => simp only [execOp, Sem.run_pure, Result.ok.injEq] at hrun; exact ⟨_, hrun.1.symm⟩
                  case assign x => simp only [execOp, Sem.run_pure, Result.ok.injEq] at hrun; exact ⟨_, hrun.1.symm⟩
                  case pick c x y =>
                    simp only [execOp, Sem.run_bind] at hrun
                    cases hs2 : (asBool (a.eval c)).run P w' with
                    | halt _ _ => rw [hs2] at hrun; cases hrun
                    | ok v w2 =>
                      rw [hs2] at hrun
                      simp only [Result.andThen, Sem.run_pure, Result.ok.injEq] at hrun
                      exact ⟨_, hrun.1.symm⟩
                  case nilCheck x =>
                    have hp' := hp hw
                    simp only [plainB] at hp'
                    simp only [execOp] at hrun
                    split at hp'
                    · rename_i ad he
                      rw [he] at hrun
                      simp only [Sem.run_pure, Result.ok.injEq] at hrun
                      exact ⟨_, hrun.1.symm⟩
                    · cases hp'
                  case call c =>
                    obtain ⟨⟨x, t⟩, hc⟩ := Option.isSome_iff_exists.1 (show (lenCall c).isSome = true from hk)
                    have hc' := lenCall_spec hc
                    subst hc'
                    refine fromVal (s := Builtin.len_ #[t] type #[a.eval x]) ?_
                    rw [← hrun]
                    simp only [execOp, resolve, invoke, builtin, Sem.run_bind, Sem.run_pure, Result.andThen_ok, List.map_toArray, List.map_cons, List.map_nil]
                obtain ⟨v, rfl⟩ := hval
                simp only [Oper.upon] at h
                exact ⟨v, .inl ⟨hw, fun w2 hw2 => hall w2 hw2⟩, h.2⟩
            · exact hx.elim
          · rw [if_neg hw] at h
            exact ⟨undef, .inr ⟨by simpa using hw, rfl⟩, h.2⟩
        obtain ⟨v, hy, hX⟩ := key
        exact take_firstF ho hsel hblk hin hdone r.length listed a w inv (fun j oj hj hne hun hno => Region.free_spec ho hB1.2 j oj hj hne hun hno) hr hy (Ext.refl w)
          (wpAnyC_of_XF hsel hblk hseq r _ _ w (inv.set hr) hB2 hX)
      · rw [if_neg hk] at hB1 h
        have hready : Region.ready md ops listed = [i] := by simpa using hB1
        have hr : i ∈ Region.ready md ops listed := by rw [hready]; simp
        refine ⟨Ext.refl w, by rw [hready]; simp, fun j hj => ?_⟩
        rw [hready] at hj
        have hji : j = i := by simpa using hj
        subst hji
        refine ⟨hin, ?_⟩
        have step : ∀ a' w', stopA w (wpH P ops Q tail r) .normal a' w' → wpAnyC P md ops n (Ext w) (fun listed' a' w' => seq listed' = true ∧ wpList P ops Q tail a' w') r.length (listed.setIfInBounds j true) a' w' :=
          fun a' w' hs => wpAnyC_mono (fun w2 h2 => hs.1.trans h2) _ _ _ _ (wpAnyC_of_XF hsel hblk hseq r _ a' w' (inv.set hr) hB2 hs.2)
        unfold wpOp
        simp only [ho]
        simp only [wpList] at h
        by_cases hw : Region.wanted o (yielded ops a.tmps) = true
        · rw [if_pos hw] at h ⊢
          rcases h with h | ⟨_, _, _, hx⟩
          · exact .inl (wp_off stopA_off step h)
          · exact hx.elim
        · rw [if_neg hw] at h ⊢
          exact step _ _ h

/-! ### the tail: one operation after the other, none of which leaves the region -/
def stopN (Q : Exit → Act → World → Prop) : Exit → Act → World → Prop
  | .normal, a, w => True ∧ Q .normal a w
  | _, _, _ => False
def seqZ (md : Region.Mode) (ops : Array Oper) : List Nat → Array Bool → Bool
  | [], listed => decide (Region.ready md ops listed = [])
  | i :: z, listed => decide (Region.ready md ops listed = [i]) && seqZ md ops z (listed.setIfInBounds i true)
theorem seqZ_ge {n : Nat} : ∀ {z : List Nat} {listed : Array Bool}, (∀ t ∈ z, n ≤ t) → seqZ md ops z listed = true → ∀ j ∈ Region.ready md ops listed, n ≤ j
  | [], listed, _, h, j, hj => by simp only [seqZ, decide_eq_true_eq] at h; rw [h] at hj; cases hj
  | i :: z, listed, hz, h, j, hj => by
    simp only [seqZ, Bool.and_eq_true, decide_eq_true_eq] at h
    rw [h.1] at hj
    have : j = i := by simpa using hj
    subst this
    exact hz j (by simp)
def LQ (md : Region.Mode) (ops : Array Oper) (Q : Exit → Act → World → Prop) (listed : Array Bool) (a : Act) (w : World) : Prop := Region.ready md ops listed = [] ∧ Q .normal a w
def pickOps (ops : Array Oper) : List Nat → List Oper
  | [] => []
  | i :: z => match ops[i]? with | none => [] | some o => o :: pickOps ops z
theorem wpAnyC_of_Z {Q : Exit → Act → World → Prop} : ∀ (z : List Nat) (listed : Array Bool) (a : Act) (w : World), seqZ md ops z listed = true → wpList P ops (stopN Q) (pickOps ops z) a w →
    wpAnyC P md ops ops.size (fun _ => True) (LQ md ops Q) z.length listed a w
  | [], listed, a, w, hB, h => ⟨trivial, by simpa [seqZ] using hB, h.2⟩
  | i :: z, listed, a, w, hB, h => by
    simp only [seqZ, Bool.and_eq_true, decide_eq_true_eq] at hB
    have hr : i ∈ Region.ready md ops listed := by rw [hB.1]; simp
    obtain ⟨_, o, ho, _⟩ := mem_ready.1 hr
    refine ⟨trivial, by rw [hB.1]; simp, fun j hj => ?_⟩
    rw [hB.1] at hj
    have hji : j = i := by simpa using hj
    subst hji
    refine ⟨(Array.getElem?_eq_some_iff.1 ho).1, ?_⟩
    simp only [pickOps, ho] at h
    unfold wpOp
    simp only [ho]
    simp only [wpList] at h
    have step : ∀ a' w', wpList P ops (stopN Q) (pickOps ops z) a' w' → wpAnyC P md ops ops.size (fun _ => True) (LQ md ops Q) z.length (listed.setIfInBounds j true) a' w' := fun a' w' h' => wpAnyC_of_Z z _ a' w' hB.2 h'
    by_cases hw : Region.wanted o (yielded ops a.tmps) = true
    · rw [if_pos hw] at h ⊢
      rcases h with h | ⟨_, _, _, hx⟩
      · refine .inl (wp_off (fun e a w hs => ?_) step h)
        cases e <;> first | rfl | exact hs.elim
      · exact hx.elim
    · rw [if_neg hw] at h ⊢
      exact step _ _ h
theorem wpAnyC_glue {n g : Nat} {C : World → Prop} {L L' : Array Bool → Act → World → Prop} (hn : n ≤ ops.size) (hL : ∀ listed a w, L listed a w → wpAnyC P md ops ops.size (fun _ => True) L' g listed a w) :
    ∀ (f : Nat) (listed : Array Bool) (a : Act) (w : World), wpAnyC P md ops n C L f listed a w → wpAnyC P md ops ops.size (fun _ => True) L' (f + g) listed a w
  | 0, listed, a, w, h => by rw [Nat.zero_add]; exact hL _ _ _ h.2
  | f + 1, listed, a, w, h => by
    rw [show f + 1 + g = (f + g) + 1 by omega]
    exact ⟨trivial, h.2.1, fun i hi => ⟨Nat.lt_of_lt_of_le (h.2.2 i hi).1 hn, wpOp_mono (fun a' w' h' => wpAnyC_glue hn hL f _ a' w' h') (h.2.2 i hi).2⟩⟩

/-! ### the floats: addresses of fields -/
def floatKind (P : Program) : Op → Bool
  | .fieldAddr t _ f => fieldPlain P t f
  | .move _ => true
  | .assign _ => true
  | _ => false
theorem float_run {o : Oper} {a : Act} {w w1 : World} {nx : Next} (hk : floatKind P o.op = true) (hrun : (execOp a.eval o).run P w = .ok nx w1) : w1 = w ∧ ∃ v, nx = .value v ∧ ∀ w', (execOp a.eval o).run P w' = .ok nx w' := by
  obtain ⟨dst, op, type, pos, after, guard⟩ := o
  cases op <;> first | exact absurd hk Bool.false_ne_true | skip
  case move x =>
    simp only [execOp, Sem.run_pure, Result.ok.injEq] at hrun
    obtain ⟨rfl, rfl⟩ := hrun
    exact ⟨rfl, _, rfl, fun w' => by simp only [execOp, Sem.run_pure]⟩
  case assign x =>
    simp only [execOp, Sem.run_pure, Result.ok.injEq] at hrun
    obtain ⟨rfl, rfl⟩ := hrun
    exact ⟨rfl, _, rfl, fun w' => by simp only [execOp, Sem.run_pure]⟩
  case fieldAddr t x f =>
    have h : fieldPlain P t f = true := hk
    unfold fieldPlain at h
    split at h
    · rename_i fs hfs
      split at h
      · rename_i fd hfd
        split at h
        · rename_i i hi
          have hsz : i.size ≠ 0 := by simpa using h
          have hr : ∀ w : World, (Instr.fieldAt t (a.eval x) f).run P w = (do
              let a ← Instr.sureAddr (a.eval x)
              Pure.pure (Value.pointer (some (a.add fd.offset))) : Sem Value).run P w := by
            intro w
            unfold Instr.fieldAt
            simp only [Sem.run_bind, run_underlying hfs, Result.andThen, hfd]
            cases hs : (Instr.sureAddr (a.eval x)).run P w with
            | halt _ _ => rfl
            | ok a w1 =>
              simp only [fieldPlace, Sem.run_bind, sizeOf, typeInfo, Go.program, Sem.run]
              simp [Sem.run, Result.andThen, hi, hsz, Sem.run_bind, Go.program]
          have hex : ∀ w : World, (execOp a.eval { dst := dst, op := Op.fieldAddr t x f, type := type, pos := pos, after := after, guard := guard }).run P w = (do Pure.pure (Next.value (← (Instr.fieldAt t (a.eval x) f))) : Sem Next).run P w := fun w => rfl
          rw [hex, Sem.run_bind, hr] at hrun
          cases hx : a.eval x <;> first | (simp [hx, Instr.sureAddr, Sem.run_bind, Sem.run, Result.andThen] at hrun; done) | skip
          rename_i pa
          cases pa with
          | none => simp [hx, Instr.sureAddr, Sem.run_bind, Sem.run, Result.andThen] at hrun
          | some ad =>
            simp only [hx, Instr.sureAddr, Sem.run_bind, Sem.run_pure, Result.andThen, Result.ok.injEq] at hrun
            obtain ⟨rfl, rfl⟩ := hrun
            exact ⟨rfl, _, rfl, fun w' => by rw [hex, Sem.run_bind, hr]; simp only [hx, Instr.sureAddr, Sem.run_bind, Sem.run_pure, Result.andThen]⟩
        · cases h
      · cases h
    · cases h
def wpFl (P : Program) (ops : Array Oper) (K : Act → World → Prop) : List Nat → Act → World → Prop
  | [], a, w => K a w
  | i :: r, a, w => match ops[i]? with
    | none => False
    | some o => wpList P ops (stopQ w (wpFl P ops K r)) [o] a w
theorem wpFl_step {K : Act → World → Prop} {i : Nat} {r : List Nat} {a : Act} {w : World} {o : Oper} (hi : ops[i]? = some o) (h : wpList P ops (stopQ w (wpFl P ops K r)) [o] a w) : wpFl P ops K (i :: r) a w := by
  simp only [wpFl, hi]; exact h
theorem wpFl_nil {K : Act → World → Prop} {a : Act} {w : World} (h : K a w) : wpFl P ops K [] a w := h
def floatSim (P : Program) (md : Region.Mode) (ops : Array Oper) (next : Array Bool → Bool) : List Nat → Array Bool → Bool
  | [], listed => next listed
  | i :: r, listed => (match ops[i]? with
      | none => false
      | some o => floatKind P o.op && (o.guard.isNone && ((Region.ready md ops listed).contains i && Region.free md ops listed i))) && floatSim P md ops next r (listed.setIfInBounds i true)
theorem BlocksF_all : BlocksF md ops ops.size [] := fun listed _ i _ _ t ht => by
  obtain ⟨_, o, ho, _⟩ := mem_ready.1 ht
  exact (Array.getElem?_eq_some_iff.1 ho).1
theorem wpAnyC_of_Fl {Q : Exit → Act → World → Prop} {K : Act → World → Prop} {next : Array Bool → Bool} {g : Nat} (hsel : ∀ (j : Nat) (o : Oper) cs b, ops[j]? = some o → o.op ≠ .select cs b)
    (hK : ∀ listed a w, FInv md ops [] listed → next listed = true → K a w → wpAnyC P md ops ops.size (fun _ => True) (LQ md ops Q) g listed a w) :
    ∀ (r : List Nat) (listed : Array Bool) (a : Act) (w : World), FInv md ops [] listed → floatSim P md ops next r listed = true → wpFl P ops K r a w →
      wpAnyC P md ops ops.size (fun _ => True) (LQ md ops Q) (r.length + g) listed a w
  | [], listed, a, w, inv, hB, h => by rw [List.length_nil, Nat.zero_add]; exact hK _ _ _ inv hB h
  | i :: r, listed, a, w, inv, hB, h => by
    simp only [floatSim, Bool.and_eq_true] at hB
    obtain ⟨hB1, hB2⟩ := hB
    cases ho : ops[i]? with
    | none => rw [ho] at hB1; cases hB1
    | some o =>
      rw [ho] at hB1
      simp only [Bool.and_eq_true] at hB1
      obtain ⟨hk, hgd, hr1, hfr⟩ := hB1
      have hr : i ∈ Region.ready md ops listed := by simpa using hr1
      simp only [wpFl, ho] at h
      have hw : Region.wanted o (yielded ops a.tmps) = true := by
        have : o.guard = none := by simpa using hgd
        simp [Region.wanted, this]
      simp only [wpList, hw, if_true] at h
      rcases h with h | ⟨_, _, _, hx⟩
      · unfold Oper.wp at h
        cases hrun : (execOp a.eval o).run P w with
        | halt x w' =>
          rw [hrun] at h
          cases x <;> simp only [Oper.upon] at h
          exact h.elim
        | ok nx w' =>
          obtain ⟨rfl, v, rfl, hall⟩ := float_run hk hrun
          rw [hrun] at h
          simp only [Oper.upon] at h
          rw [show (i :: r).length + g = (r.length + g) + 1 by simp only [List.length_cons]; omega]
          exact take_firstF (fl := []) ho hsel BlocksF_all (by exact (Array.getElem?_eq_some_iff.1 ho).1) (fun _ _ _ hx j hj => by rw [hx.1] at hj; cases hj) _ listed a w' inv (fun j oj hj hne hun hno => Region.free_spec ho hfr j oj hj hne hun hno) hr (.inl ⟨hw, fun w2 _ => hall w2⟩) trivial
            (wpAnyC_of_Fl hsel hK r _ _ w' (inv.set hr) hB2 h.2)
      · exact hx.elim
theorem FInv.floated {fl : List Nat} {listed : Array Bool} (inv : FInv md ops [] listed) (h : fl.all (fun t => listed.getD t true) = true) : FInv md ops fl listed :=
  ⟨inv.closed, fun t ht => List.all_eq_true.1 h t ht⟩
/-- The law's check: floats fl, the head n in the order r (without floats), the tail in the order z. -/
def regH (P : Program) (md : Region.Mode) (ops : Array Oper) (n : Nat) (fl r z : List Nat) : Bool :=
  Region.noSelect ops && decide (n ≤ ops.size) && decide (fl.length + r.length + z.length = ops.size) && z.all (fun t => decide (n ≤ t)) && blockB md ops n fl &&
    floatSim P md ops (fun listed => fl.all (fun t => listed.getD t true) && headSimF P md ops n (seqZ md ops z) r listed) fl (Array.replicate ops.size false)
theorem wp_region_h {id : Nat} {Q : Exit → Act → World → Prop} {a : Act} {w : World} {l : List Oper} (n : Nat) (fl r z : List Nat) (hm : P.follows .mixedOrders = true) (hB : regH P .any l.toArray n fl r z = true)
    (h : wpFl P l.toArray (wpH P l.toArray (stopN Q) (pickOps l.toArray z) r) fl a w.drew) : (Code.region id l.toArray true).wp P Q a w := by
  simp only [regH, Bool.and_eq_true, decide_eq_true_eq] at hB
  obtain ⟨⟨⟨⟨⟨hsel, hn⟩, hlen⟩, hz⟩, hblk⟩, hsim⟩ := hB
  have hz' : ∀ t ∈ z, n ≤ t := fun t ht => by simpa using List.all_eq_true.1 hz t ht
  have inv0 : FInv .any l.toArray [] (Array.replicate l.toArray.size false) := ⟨fun j oj _ hl => (by rw [getD_replicate_false] at hl; cases hl), fun t ht => absurd ht (by simp)⟩
  have h1 := wpAnyC_of_Fl (P := P) (md := .any) (ops := l.toArray) (Q := Q) (g := r.length + z.length) (K := wpH P l.toArray (stopN Q) (pickOps l.toArray z) r) (Region.noSelect_spec hsel) (fun listed a w inv hnx hK => by
    simp only [Bool.and_eq_true] at hnx
    have h2 := wpAnyC_of_XF (P := P) (Region.noSelect_spec hsel) (blocksF_of hblk) (fun listed hs => seqZ_ge hz' hs) r listed a w (inv.floated hnx.1) hnx.2 hK
    exact wpAnyC_glue hn (fun listed a w hL => wpAnyC_of_Z z listed a w hL.1 hL.2) r.length listed a w h2) fl _ a w.drew inv0 hsim h
  have h3 := wpAny_of_C (P := P) (md := .any) (Q := Q) (g := 0) (n := l.toArray.size) (C := fun _ => True) (L := LQ .any l.toArray Q) (fun listed a w hL => hL) _ _ a w.drew h1
  refine wp_region_any hm ?_
  rw [show l.toArray.size = fl.length + (r.length + z.length) + 0 by omega]
  rw [show fl.length + (r.length + z.length) + 0 = l.toArray.size by omega]
  rw [show fl.length + (r.length + z.length) + 0 = l.toArray.size by omega] at h3
  exact h3
end
end Go.Proofs.Ytbdblfpepnoafaa
namespace Go.Proofs.Ytbdblfpepnoafaa
open Go.RowKit
section
variable {P : Program} {md : Region.Mode} {ops : Array Oper}
theorem quiet_value {o : Oper} {a : Act} {w' : World} {nx : Next} (hk : quietKind P o.op = true) (hp : plainB o a = true) (hrun : (execOp a.eval o).run P w' = .ok nx w') : ∃ v, nx = .value v := by
  obtain ⟨dst, op, type, pos, after, guard⟩ := o
  have fromVal : ∀ {s : Sem Value}, (do Pure.pure (Next.value (← s)) : Sem Next).run P w' = .ok nx w' → ∃ v, nx = .value v := fun {s} hs => by
    rw [Sem.run_bind] at hs
    cases hs2 : s.run P w' with
    | halt _ _ => rw [hs2] at hs; cases hs
    | ok v w2 =>
      rw [hs2] at hs
      simp only [Result.andThen, Sem.run_pure, Result.ok.injEq] at hs
      exact ⟨v, hs.1.symm⟩
  cases op <;> first | exact absurd hk Bool.false_ne_true | exact fromVal hrun | skip
  case move x => simp only [execOp, Sem.run_pure, Result.ok.injEq] at hrun; exact ⟨_, hrun.1.symm⟩
  case assign x => simp only [execOp, Sem.run_pure, Result.ok.injEq] at hrun; exact ⟨_, hrun.1.symm⟩
  case pick c x y =>
    simp only [execOp, Sem.run_bind] at hrun
    cases hs2 : (asBool (a.eval c)).run P w' with
    | halt _ _ => rw [hs2] at hrun; cases hrun
    | ok v w2 =>
      rw [hs2] at hrun
      simp only [Result.andThen, Sem.run_pure, Result.ok.injEq] at hrun
      exact ⟨_, hrun.1.symm⟩
  case nilCheck x =>
    have hp' := hp
    simp only [plainB] at hp'
    simp only [execOp] at hrun
    split at hp'
    · rename_i ad he
      rw [he] at hrun
      simp only [Sem.run_pure, Result.ok.injEq] at hrun
      exact ⟨_, hrun.1.symm⟩
    · cases hp'
  case call c =>
    obtain ⟨⟨x, t⟩, hc⟩ := Option.isSome_iff_exists.1 (show (lenCall c).isSome = true from hk)
    have hc' := lenCall_spec hc
    subst hc'
    refine fromVal (s := Builtin.len_ #[t] type #[a.eval x]) ?_
    rw [← hrun]
    simp only [execOp, resolve, invoke, builtin, Sem.run_bind, Sem.run_pure, Result.andThen_ok, List.map_toArray, List.map_cons, List.map_nil]
/-- a world without memory -/
def bare (w : World) : World := { w with heap := #[] }
theorem bare_ext (w w' : World) : Ext (bare w) w' := fun b hb => absurd hb (by simp [bare])
theorem bare_run {o : Oper} {a : Act} {w w1 : World} {nx : Next} (hk : quietKind P o.op = true) (hp : plainB o a = true) (hrun : (execOp a.eval o).run P (bare w) = .ok nx w1) : w1 = bare w ∧ ∃ v, nx = .value v ∧ ∀ w', (execOp a.eval o).run P w' = .ok nx w' := by
  obtain ⟨rfl, hall⟩ := Stable.op (P := P) (o := o) (a := a) hk hp _ _ _ hrun
  obtain ⟨v, rfl⟩ := quiet_value hk hp hrun
  exact ⟨rfl, v, rfl, fun w' => hall w' (bare_ext w w')⟩
def wpB (P : Program) (ops : Array Oper) (K : Act → World → Prop) : List Nat → Act → World → Prop
  | [], a, w => K a w
  | i :: r, a, w => match ops[i]? with
    | none => False
    | some o => plainB o a = true ∧ wpList P ops (stopQ (bare w) (fun a' _ => wpB P ops K r a' w)) [o] a (bare w)
theorem wpB_step {K : Act → World → Prop} {i : Nat} {r : List Nat} {a : Act} {w : World} {o : Oper} (hi : ops[i]? = some o) (hp : plainB o a = true) (h : wpList P ops (stopQ (bare w) (fun a' _ => wpB P ops K r a' w)) [o] a (bare w)) : wpB P ops K (i :: r) a w := by
  simp only [wpB, hi]; exact ⟨hp, h⟩
theorem wpB_nil {K : Act → World → Prop} {a : Act} {w : World} (h : K a w) : wpB P ops K [] a w := h
def bareSim (P : Program) (md : Region.Mode) (ops : Array Oper) (next : Array Bool → Bool) : List Nat → Array Bool → Bool
  | [], listed => next listed
  | i :: r, listed => (match ops[i]? with
      | none => false
      | some o => quietKind P o.op && (o.guard.isNone && ((Region.ready md ops listed).contains i && Region.free md ops listed i))) && bareSim P md ops next r (listed.setIfInBounds i true)
theorem wpAnyC_of_B {Q : Exit → Act → World → Prop} {K : Act → World → Prop} {next : Array Bool → Bool} {g : Nat} (hsel : ∀ (j : Nat) (o : Oper) cs b, ops[j]? = some o → o.op ≠ .select cs b)
    (hK : ∀ listed a w, FInv md ops [] listed → next listed = true → K a w → wpAnyC P md ops ops.size (fun _ => True) (LQ md ops Q) g listed a w) :
    ∀ (r : List Nat) (listed : Array Bool) (a : Act) (w : World), FInv md ops [] listed → bareSim P md ops next r listed = true → wpB P ops K r a w →
      wpAnyC P md ops ops.size (fun _ => True) (LQ md ops Q) (r.length + g) listed a w
  | [], listed, a, w, inv, hB, h => by rw [List.length_nil, Nat.zero_add]; exact hK _ _ _ inv hB h
  | i :: r, listed, a, w, inv, hB, h => by
    simp only [bareSim, Bool.and_eq_true] at hB
    obtain ⟨hB1, hB2⟩ := hB
    cases ho : ops[i]? with
    | none => rw [ho] at hB1; cases hB1
    | some o =>
      rw [ho] at hB1
      simp only [Bool.and_eq_true] at hB1
      obtain ⟨hk, hgd, hr1, hfr⟩ := hB1
      have hr : i ∈ Region.ready md ops listed := by simpa using hr1
      simp only [wpB, ho] at h
      obtain ⟨hp, h⟩ := h
      have hw : Region.wanted o (yielded ops a.tmps) = true := by
        have : o.guard = none := by simpa using hgd
        simp [Region.wanted, this]
      simp only [wpList, hw, if_true] at h
      rcases h with h | ⟨_, _, _, hx⟩
      · unfold Oper.wp at h
        cases hrun : (execOp a.eval o).run P (bare w) with
        | halt x w' =>
          rw [hrun] at h
          cases x <;> simp only [Oper.upon] at h
          exact h.elim
        | ok nx w' =>
          obtain ⟨rfl, v, rfl, hall⟩ := bare_run hk hp hrun
          rw [hrun] at h
          simp only [Oper.upon] at h
          rw [show (i :: r).length + g = (r.length + g) + 1 by simp only [List.length_cons]; omega]
          exact take_firstF (fl := []) ho hsel BlocksF_all (by exact (Array.getElem?_eq_some_iff.1 ho).1) (fun _ _ _ hx j hj => by rw [hx.1] at hj; cases hj) _ listed a w inv (fun j oj hj hne hun hno => Region.free_spec ho hfr j oj hj hne hun hno) hr (.inl ⟨hw, fun w2 _ => hall w2⟩) trivial
            (wpAnyC_of_B hsel hK r _ _ w (inv.set hr) hB2 h.2)
      · exact hx.elim
/-- The law's check: fl first (they hang on no memory), then z in its order. -/
def regI (P : Program) (md : Region.Mode) (ops : Array Oper) (fl z : List Nat) : Bool :=
  Region.noSelect ops && decide (fl.length + z.length = ops.size) && bareSim P md ops (seqZ md ops z) fl (Array.replicate ops.size false)
theorem wp_region_i {id : Nat} {Q : Exit → Act → World → Prop} {a : Act} {w : World} {l : List Oper} (fl z : List Nat) (hm : P.follows .mixedOrders = true) (hB : regI P .any l.toArray fl z = true)
    (h : wpB P l.toArray (fun a w => wpList P l.toArray (stopN Q) (pickOps l.toArray z) a w) fl a w.drew) : (Code.region id l.toArray true).wp P Q a w := by
  simp only [regI, Bool.and_eq_true, decide_eq_true_eq] at hB
  obtain ⟨⟨hsel, hlen⟩, hsim⟩ := hB
  have inv0 : FInv .any l.toArray [] (Array.replicate l.toArray.size false) := ⟨fun j oj _ hl => (by rw [getD_replicate_false] at hl; cases hl), fun t ht => absurd ht (by simp)⟩
  have h1 := wpAnyC_of_B (P := P) (md := .any) (ops := l.toArray) (Q := Q) (g := z.length) (K := fun a w => wpList P l.toArray (stopN Q) (pickOps l.toArray z) a w) (Region.noSelect_spec hsel) (fun listed a w inv hnx hK => wpAnyC_of_Z z listed a w hnx hK) fl _ a w.drew inv0 hsim h
  have h3 := wpAny_of_C (P := P) (md := .any) (Q := Q) (g := 0) (n := l.toArray.size) (C := fun _ => True) (L := LQ .any l.toArray Q) (fun listed a w hL => hL) _ _ a w.drew h1
  refine wp_region_any hm ?_
  rw [show fl.length + z.length + 0 = l.toArray.size by omega] at h3
  exact h3
end
end Go.Proofs.Ytbdblfpepnoafaa
namespace Go.Proofs.Ytbdblfpepnoafaa
open Go.RowKit
section
variable {P : Program} {md : Region.Mode} {ops : Array Oper}
def wpU (P : Program) (ops : Array Oper) (Q : Exit → Act → World → Prop) (tail : List Oper) : HT → Act → World → Prop
  | .leaf, a, w => wpList P ops Q tail a w
  | .one i r, a, w => match ops[i]? with
    | none => False
    | some o =>
      if quietKind P o.op = true then (Region.wanted o (yielded ops a.tmps) = true → plainB o a = true) ∧ wpList P ops (stopQ w (wpU P ops Q tail r)) [o] a w
      else wpList P ops (stopA w (wpU P ops Q tail r)) [o] a w
  | .two i k r s, a, w => match ops[i]? with
    | none => False
    | some o => match ops[k]? with
      | none => False
      | some o' => wpList P ops (stopA w (wpU P ops Q tail r)) [o] a w ∧ wpList P ops (stopA w (wpU P ops Q tail s)) [o'] a w

theorem wpU_quiet {Q : Exit → Act → World → Prop} {tail : List Oper} {i : Nat} {r : HT} {a : Act} {w : World} {o : Oper} (hi : ops[i]? = some o) (hk : quietKind P o.op = true) (hp : plainB o a = true)
    (h : wpList P ops (stopQ w (wpU P ops Q tail r)) [o] a w) : wpU P ops Q tail (.one i r) a w := by
  simp only [wpU, hi, hk, if_true]
  exact ⟨fun _ => hp, h⟩
theorem wpU_actor {Q : Exit → Act → World → Prop} {tail : List Oper} {i : Nat} {r : HT} {a : Act} {w : World} {o : Oper} (hi : ops[i]? = some o) (hk : quietKind P o.op = false)
    (h : wpList P ops (stopA w (wpU P ops Q tail r)) [o] a w) : wpU P ops Q tail (.one i r) a w := by
  simp only [wpU, hi, hk, Bool.false_eq_true, if_false]
  exact h
theorem wpU_two {Q : Exit → Act → World → Prop} {tail : List Oper} {i k : Nat} {r s : HT} {a : Act} {w : World} {o o' : Oper} (hi : ops[i]? = some o) (hk : ops[k]? = some o')
    (h : wpList P ops (stopA w (wpU P ops Q tail r)) [o] a w) (h' : wpList P ops (stopA w (wpU P ops Q tail s)) [o'] a w) : wpU P ops Q tail (.two i k r s) a w := by
  simp only [wpU, hi, hk]
  exact ⟨h, h'⟩
theorem wpU_nil {Q : Exit → Act → World → Prop} {tail : List Oper} {a : Act} {w : World} (h : wpList P ops Q tail a w) : wpU P ops Q tail .leaf a w := h

def headU (P : Program) (md : Region.Mode) (ops : Array Oper) (n : Nat) (seq : Array Bool → Bool) : HT → Array Bool → Bool
  | .leaf, listed => seq listed
  | .one i r, listed => decide (i < n) && (match ops[i]? with
      | none => false
      | some o => if quietKind P o.op = true then (Region.ready md ops listed).contains i && Region.free md ops listed i else decide (Region.ready md ops listed = [i])) &&
    headU P md ops n seq r (listed.setIfInBounds i true)
  | .two i k r s, listed => decide (i < n) && decide (k < n) && decide (r.len = s.len) && decide (Region.ready md ops listed = [i, k]) && headU P md ops n seq r (listed.setIfInBounds i true) && headU P md ops n seq s (listed.setIfInBounds k true)
theorem wpOp_of_stopU {n : Nat} {seq : Array Bool → Bool} {Q : Exit → Act → World → Prop} {tail : List Oper} {r : HT} {j : Nat} {o : Oper} {listed : Array Bool} {a : Act} {w : World} {f : Nat} (ho : ops[j]? = some o)
    (step : ∀ a' w', stopA w (wpU P ops Q tail r) .normal a' w' → wpAnyC P md ops n (Ext w) (fun listed' a' w' => seq listed' = true ∧ wpList P ops Q tail a' w') f (listed.setIfInBounds j true) a' w')
    (h : wpList P ops (stopA w (wpU P ops Q tail r)) [o] a w) :
    wpOp P ops noQ j (wpAnyC P md ops n (Ext w) (fun listed' a' w' => seq listed' = true ∧ wpList P ops Q tail a' w') f (listed.setIfInBounds j true)) a w := by
  unfold wpOp
  simp only [ho]
  simp only [wpList] at h
  by_cases hw : Region.wanted o (yielded ops a.tmps) = true
  · rw [if_pos hw] at h ⊢
    rcases h with h | ⟨_, _, _, hx⟩
    · exact .inl (wp_off stopA_off step h)
    · exact hx.elim
  · rw [if_neg hw] at h ⊢
    exact step _ _ h

theorem wpAnyC_of_U {n : Nat} {fl : List Nat} {seq : Array Bool → Bool} {Q : Exit → Act → World → Prop} {tail : List Oper} (hsel : ∀ (j : Nat) (o : Oper) cs b, ops[j]? = some o → o.op ≠ .select cs b) (hblk : BlocksF md ops n fl) (hseq : ∀ listed, seq listed = true → ∀ j ∈ Region.ready md ops listed, n ≤ j) :
    ∀ (r : HT) (listed : Array Bool) (a : Act) (w : World), FInv md ops fl listed → headU P md ops n seq r listed = true → wpU P ops Q tail r a w →
      wpAnyC P md ops n (Ext w) (fun listed' a' w' => seq listed' = true ∧ wpList P ops Q tail a' w') r.len listed a w
  | .leaf, _, _, w, _, hB, h => ⟨Ext.refl w, hB, h⟩
  | .two i k r s, listed, a, w, inv, hB, h => by
    simp only [headU, Bool.and_eq_true, decide_eq_true_eq] at hB
    obtain ⟨⟨⟨⟨⟨hin, hkn⟩, hlen⟩, hready⟩, hB1⟩, hB2⟩ := hB
    cases ho : ops[i]? with
    | none => simp only [wpU, ho] at h
    | some o =>
      cases ho' : ops[k]? with
      | none => simp only [wpU, ho, ho'] at h
      | some o' =>
        simp only [wpU, ho, ho'] at h
        have hri : i ∈ Region.ready md ops listed := by rw [hready]; simp
        have hrk : k ∈ Region.ready md ops listed := by rw [hready]; simp
        refine ⟨Ext.refl w, by rw [hready]; simp, fun j hj => ?_⟩
        rw [hready] at hj
        simp only [List.mem_cons, List.not_mem_nil, or_false] at hj
        rcases hj with rfl | rfl
        · exact ⟨hin, wpOp_of_stopU ho (fun a' w' hs => wpAnyC_mono (fun w2 h2 => hs.1.trans h2) _ _ _ _ (wpAnyC_of_U hsel hblk hseq r _ a' w' (inv.set hri) hB1 hs.2)) h.1⟩
        · refine ⟨hkn, wpOp_of_stopU ho' (fun a' w' hs => ?_) h.2⟩
          have := wpAnyC_mono (fun w2 h2 => hs.1.trans h2) _ _ _ _ (wpAnyC_of_U hsel hblk hseq s _ a' w' (inv.set hrk) hB2 hs.2)
          rw [← hlen] at this
          exact this
  | .one i r, listed, a, w, inv, hB, h => by
    simp only [headU, Bool.and_eq_true, decide_eq_true_eq] at hB
    obtain ⟨⟨hin, hB1⟩, hB2⟩ := hB
    cases ho : ops[i]? with
    | none => rw [ho] at hB1; cases hB1
    | some o =>
      rw [ho] at hB1
      simp only [wpU, ho] at h
      simp only at hB1
      have hdone : ∀ (listed : Array Bool) (a : Act) (w : World), (seq listed = true ∧ wpList P ops Q tail a w) → ∀ j ∈ Region.ready md ops listed, n ≤ j := fun _ _ _ hx => hseq _ hx.1
      by_cases hk : quietKind P o.op = true
      · rw [if_pos hk] at hB1 h
        simp only [Bool.and_eq_true] at hB1
        have hr : i ∈ Region.ready md ops listed := by simpa using hB1.1
        obtain ⟨hp, h⟩ := h
        simp only [wpList] at h
        have key : ∃ v, YieldsE P ops (Ext w) o v a ∧ wpU P ops Q tail r (a.put o.dst v) w := by
          by_cases hw : Region.wanted o (yielded ops a.tmps) = true
          · rw [if_pos hw] at h
            rcases h with h | ⟨_, _, _, hx⟩
            · have hst := Stable.op (P := P) (o := o) (a := a) hk (hp hw)
              unfold Oper.wp at h
              cases hrun : (execOp a.eval o).run P w with
              | halt x w' =>
                rw [hrun] at h
                cases x <;> simp only [Oper.upon] at h
                exact h.elim
              | ok nx w' =>
                obtain ⟨rfl, hall⟩ := hst w nx w' hrun
                rw [hrun] at h
                have hval : ∃ v, nx = .value v := by
                  obtain ⟨dst, op, type, pos, after, guard⟩ := o
                  have fromVal : ∀ {s : Sem Value}, (do Pure.pure (Next.value (← s)) : Sem Next).run P w' = .ok nx w' → ∃ v, nx = .value v := fun {s} hs => by
                    rw [Sem.run_bind] at hs
                    cases hs2 : s.run P w' with
                    | halt _ _ => rw [hs2] at hs; cases hs
                    | ok v w2 =>
                      rw [hs2] at hs
                      simp only [Result.andThen, Sem.run_pure, Result.ok.injEq] at hs
                      exact ⟨v, hs.1.symm⟩
                  cases op <;> first | exact absurd hk Bool.false_ne_true | exact fromVal hrun | skip
                  case move x => simp only [execOp, Sem.run_pure, Result.ok.injEq] at hrun; exact ⟨_, hrun.1.symm⟩
                  case assign x => simp only [execOp, Sem.run_pure, Result.ok.injEq] at hrun; exact ⟨_, hrun.1.symm⟩
                  case pick c x y =>
                    simp only [execOp, Sem.run_bind] at hrun
                    cases hs2 : (asBool (a.eval c)).run P w' with
                    | halt _ _ => rw [hs2] at hrun; cases hrun
                    | ok v w2 =>
                      rw [hs2] at hrun
                      simp only [Result.andThen, Sem.run_pure, Result.ok.injEq] at hrun
                      exact ⟨_, hrun.1.symm⟩
                  case nilCheck x =>
                    have hp' := hp hw
                    simp only [plainB] at hp'
                    simp only [execOp] at hrun
                    split at hp'
                    · rename_i ad he
                      rw [he] at hrun
                      simp only [Sem.run_pure, Result.ok.injEq] at hrun
                      exact ⟨_, hrun.1.symm⟩
                    · cases hp'
                  case call c =>
                    obtain ⟨⟨x, t⟩, hc⟩ := Option.isSome_iff_exists.1 (show (lenCall c).isSome = true from hk)
                    have hc' := lenCall_spec hc
                    subst hc'
                    refine fromVal (s := Builtin.len_ #[t] type #[a.eval x]) ?_
                    rw [← hrun]
                    simp only [execOp, resolve, invoke, builtin, Sem.run_bind, Sem.run_pure, Result.andThen_ok, List.map_toArray, List.map_cons, List.map_nil]
                obtain ⟨v, rfl⟩ := hval
                simp only [Oper.upon] at h
                exact ⟨v, .inl ⟨hw, fun w2 hw2 => hall w2 hw2⟩, h.2⟩
            · exact hx.elim
          · rw [if_neg hw] at h
            exact ⟨undef, .inr ⟨by simpa using hw, rfl⟩, h.2⟩
        obtain ⟨v, hy, hX⟩ := key
        exact take_firstF ho hsel hblk hin hdone r.len listed a w inv (fun j oj hj hne hun hno => Region.free_spec ho hB1.2 j oj hj hne hun hno) hr hy (Ext.refl w)
          (wpAnyC_of_U hsel hblk hseq r _ _ w (inv.set hr) hB2 hX)
      · rw [if_neg hk] at hB1 h
        have hready : Region.ready md ops listed = [i] := by simpa using hB1
        have hr : i ∈ Region.ready md ops listed := by rw [hready]; simp
        refine ⟨Ext.refl w, by rw [hready]; simp, fun j hj => ?_⟩
        rw [hready] at hj
        have hji : j = i := by simpa using hj
        subst hji
        exact ⟨hin, wpOp_of_stopU ho (fun a' w' hs => wpAnyC_mono (fun w2 h2 => hs.1.trans h2) _ _ _ _ (wpAnyC_of_U hsel hblk hseq r _ a' w' (inv.set hr) hB2 hs.2)) h⟩

/-- The law's check. -/
def regK (P : Program) (md : Region.Mode) (ops : Array Oper) (n : Nat) (fl : List Nat) (r : HT) (z : List Nat) : Bool :=
  Region.noSelect ops && decide (n ≤ ops.size) && decide (fl.length + r.len + z.length = ops.size) && z.all (fun t => decide (n ≤ t)) && blockB md ops n fl &&
    bareSim P md ops (fun listed => fl.all (fun t => listed.getD t true) && headU P md ops n (seqZ md ops z) r listed) fl (Array.replicate ops.size false)
theorem wp_region_k {id : Nat} {Q : Exit → Act → World → Prop} {a : Act} {w : World} {l : List Oper} (n : Nat) (fl : List Nat) (r : HT) (z : List Nat) (hm : P.follows .mixedOrders = true) (hB : regK P .any l.toArray n fl r z = true)
    (h : wpB P l.toArray (wpU P l.toArray (stopN Q) (pickOps l.toArray z) r) fl a w.drew) : (Code.region id l.toArray true).wp P Q a w := by
  simp only [regK, Bool.and_eq_true, decide_eq_true_eq] at hB
  obtain ⟨⟨⟨⟨⟨hsel, hn⟩, hlen⟩, hz⟩, hblk⟩, hsim⟩ := hB
  have hz' : ∀ t ∈ z, n ≤ t := fun t ht => by simpa using List.all_eq_true.1 hz t ht
  have inv0 : FInv .any l.toArray [] (Array.replicate l.toArray.size false) := ⟨fun j oj _ hl => (by rw [getD_replicate_false] at hl; cases hl), fun t ht => absurd ht (by simp)⟩
  have h1 := wpAnyC_of_B (P := P) (md := .any) (ops := l.toArray) (Q := Q) (g := r.len + z.length) (K := wpU P l.toArray (stopN Q) (pickOps l.toArray z) r) (Region.noSelect_spec hsel) (fun listed a w inv hnx hK => by
    simp only [Bool.and_eq_true] at hnx
    have h2 := wpAnyC_of_U (P := P) (Region.noSelect_spec hsel) (blocksF_of hblk) (fun listed hs => seqZ_ge hz' hs) r listed a w (inv.floated hnx.1) hnx.2 hK
    exact wpAnyC_glue hn (fun listed a w hL => wpAnyC_of_Z z listed a w hL.1 hL.2) r.len listed a w h2) fl _ a w.drew inv0 hsim h
  have h3 := wpAny_of_C (P := P) (md := .any) (Q := Q) (g := 0) (n := l.toArray.size) (C := fun _ => True) (L := LQ .any l.toArray Q) (fun listed a w hL => hL) _ _ a w.drew h1
  refine wp_region_any hm ?_
  rw [show fl.length + (r.len + z.length) + 0 = l.toArray.size by omega] at h3
  exact h3
end
end Go.Proofs.Ytbdblfpepnoafaa
namespace Go.Proofs.Ytbdblfpepnoafaa
open Go.RowKit

theorem all_take {T : List IdD} {C : IdD → Bool} {i : Nat} (hi : i < T.length) (h : (T.take i).all C = true) (hc : C T[i] = true) : (T.take (i + 1)).all C = true := by
  rw [List.take_succ_eq_append_getElem hi, List.all_append, h]
  simp [hc]
theorem all_no {T : List IdD} {C : IdD → Bool} {i : Nat} (hi : i < T.length) (hc : C T[i] = false) : T.all C = false := by
  cases h : T.all C with
  | false => rfl
  | true =>
    have := List.all_eq_true.1 h T[i] (List.getElem_mem hi)
    rw [hc] at this
    cases this
set_option maxRecDepth 100000 in
set_option maxHeartbeats 4000000 in
theorem l12Ready_any (xs : List InstD) (x : IdD) (A : Option Addr) (n k : Nat) (cs : List Value) (w : World) (hn : n = xs.length) (hwt : n ≤ 1048576) (hok : instsOkB xs = true) (h : Rep anyB w (.sl 49 16 n (cat InstD.c xs) .nil) [.slice A n k]) (h' : Rep anyB w x.c cs) :
    Calls Try.prog 117 #[.slice A n k, .agg cs.toArray] w fun e w' => e = .returned (.bool (comB xs x && (reachF (depsOf xs) x).all (comB xs))) ∧ Below w.heap.size w w' := by
  have HF := Lib.hid (fun y cs W h h' => l12Find_any xs y A n k cs W hn hwt hok h h')
  have HRE := Lib.hid (fun W h h' => l12Reach_any xs x A n k cs W hn hwt hok h h')
  have hm18 := reach_len hok x
  have hX := h'
  obtain rfl := IdD.open h'
  have HR := Lib.hid h; clear h
  have HX := Lib.hid hX; clear hX h' hok hn
  generalize reachF (depsOf xs) x = T at *
  generalize comB xs = C at *
  have SB := Lib.hid (blk_new w #[.int .i64 x.rep, .int .i64 x.slot] 32)
  go_enter Try.func117, Try.ntmps117
  go_wp2_with (first | ((with_reducible show wpList _ _ _ ({ dst := _, op := Op.load 32 _, type := _, pos := _, after := _, guard := _ } :: _) _ _); refine wpList_load_row _ ⟨w.heap.size, 0, none⟩ rfl [.int .i64 x.rep, .int .i64 x.slot] agg_Id rfl (blk_cells SB.out) ?_) | fail)
  refine (HF.out x _ _ (HR.out.below (by repeat' (first | with_reducible exact Below.refl _ _ | with_reducible exact BW.out | with_reducible refine Below.setCell ?_ ?_ _ | with_reducible refine Below.alloc ?_ ?_ _ | with_reducible refine Below.drew ?_ | (simp; done) | (simp; omega) | omega))) (HX.out.below (by repeat' (first | with_reducible exact Below.refl _ _ | with_reducible exact BW.out | with_reducible refine Below.setCell ?_ ?_ _ | with_reducible refine Below.alloc ?_ ?_ _ | with_reducible refine Below.drew ?_ | (simp; done) | (simp; omega) | omega)))).mono ?_; rintro e w1 ⟨r, rfl, hr, hb⟩
  have BW := Lib.hid (show Below w.heap.size w w1 from Below.trans (by repeat' (first | with_reducible exact Below.refl _ _ | with_reducible exact BW.out | with_reducible refine Below.setCell ?_ ?_ _ | with_reducible refine Below.alloc ?_ ?_ _ | with_reducible refine Below.drew ?_ | (simp; done) | (simp; omega) | omega)) (hb.mono (by first | (simp; done) | (simp; omega) | omega)))
  have SB1 := Lib.hid (SB.out.below hb)
  clear hb SB
  rcases hr with ⟨j, hj, rfl, hc, _⟩ | ⟨rfl, hc, _⟩
  · have HC := Lib.hid hc; clear hc
    have hj0 : decide ((j : Int) < 0) = false := by simp
    go_wp2_with (first | ((with_reducible show wpList _ _ _ ({ dst := _, op := Op.load 32 _, type := _, pos := _, after := _, guard := _ } :: _) _ _); refine wpList_load_row _ ⟨w.heap.size, 0, none⟩ rfl [.int .i64 x.rep, .int .i64 x.slot] agg_Id rfl (blk_cells SB1.out) ?_) | fail)
    refine (HRE.out _ (HR.out.below BW.out) (HX.out.below BW.out)).mono ?_; rintro e w2 ⟨A2, m, c2, rfl, hm, hown, hb⟩
    have HO := Lib.hid (ownsRow_keep (base' := w.heap.size) hown (w' := w2) (fun b hb2 => ⟨Nat.le_trans BW.out.size (hown.lt b hb2).1, rfl⟩))
    have BW2 := Lib.hid (BW.out.trans (hb.mono BW.out.size))
    have hml : m ≤ 18 := by omega
    have HM := Lib.hid hm
    clear hown hb BW SB1 hm hm18
    go_wp2
    go_loopw [6] (fun ii wr => ∃ i : Nat, i ≤ m ∧ ii = .int .i64 (i : Int) ∧ (T.take i).all C = true ∧ wr.ownsRow w.heap.size 32 2 (.slice A2 m c2) m (idCells T) ∧ Below w.heap.size w wr) (fun ii _ => m - (intOf ii).toNat)
    case atStart => exact ⟨0, Nat.zero_le _, rfl, by rw [List.take_zero]; rfl, HO.out, BW2.out⟩
    case round =>
      clear HO BW2
      obtain ⟨i, hi, rfl, hall, hown, hbw⟩ := hrel
      have HALL := Lib.hid hall; clear hall
      have HO := Lib.hid hown; clear hown
      have BW := Lib.hid hbw; clear hbw
      by_cases hlt : i < m
      · have hiT : i < T.length := by have := HM.out; omega
        obtain ⟨ad, cy, rfl, _, _, hrc, hl, hce⟩ := (own_rep HO.out HM.out).elem IdD.width i hiT HM.out
        obtain rfl := IdD.open hrc
        have HYE := Lib.hid (fun h => all_take hiT HALL.out h)
        have HNO := Lib.hid (fun h => @all_no T C i hiT h)
        generalize T[i] = y at *
        have HCE := Lib.hid hce
        have HRY := Lib.hid hrc
        clear hce hrc hl
        go_wp2_with (first | ((with_reducible show wpList _ _ _ ({ dst := _, op := Op.load 32 _, type := _, pos := _, after := _, guard := _ } :: _) _ _); refine wpList_load_row _ _ rfl [.int .i64 y.rep, .int .i64 y.slot] agg_Id rfl HCE.out ?_) | fail)
        refine (HF.out y _ _ (HR.out.below BW.out) HRY.out).mono ?_; rintro e w3 ⟨r, rfl, hr, hb⟩
        have HO3 := Lib.hid (HO.out.keptBelowJ hb)
        have BW3 := Lib.hid (BW.out.trans (hb.mono BW.out.size))
        clear hb
        rcases hr with ⟨j', hj', rfl, hc, _⟩ | ⟨rfl, hc, _⟩
        · have hj0' : decide ((j' : Int) < 0) = false := by simp
          have HYY := Lib.hid (HYE.out hc)
          clear hc
          go_wp2
          exact ⟨⟨i + 1, by omega, by go_num, HYY.out, HO3.out, BW3.out⟩, by simp only [intOf]; omega⟩
        · have HNN := Lib.hid (HNO.out hc)
          clear hc
          go_wp2
          go_ret
          exact ⟨ret_eq (by rw [HC.out, HNN.out]; rfl), BW3.out⟩
      · have hie : i = m := by omega
        subst hie
        have hall : T.all C = true := by have := HALL.out; rw [HM.out, List.take_length] at this; exact this
        have HAL := Lib.hid hall; clear hall
        go_wp2
        go_ret
        exact ⟨ret_eq (by rw [HC.out, HAL.out]; rfl), BW.out⟩
  · have HC := Lib.hid hc; clear hc
    go_wp2
    go_ret
    exact ⟨ret_eq (by rw [HC.out]; rfl), BW.out⟩

set_option maxRecDepth 100000 in
set_option maxHeartbeats 2000000 in
theorem sReady_any (xs : List InstD) (x : IdD) (A : Option Addr) (n c : Nat) (cs : List Value) (w : World) (hn : n = xs.length) (hwt : n + (cat InstD.c xs).wt ≤ 1048576) (_ : x.c.wt ≤ 1048576) (h : Rep anyB w (.sl 49 16 n (cat InstD.c xs) .nil) [.slice A n c]) (h' : Rep anyB w x.c cs) :
    Calls Try.prog 53 #[.slice A n c, .agg cs.toArray] w fun e w' => e = .returned (.bool (fReady xs x)) ∧ Below w.heap.size w w' := by
  have HOK := Lib.hid (fun W h => sInstsOk_any xs A n c W hn hwt h)
  have HRE := Lib.hid (fun hok W h h' => l12Ready_any xs x A n c cs W hn (by omega) hok h h')
  have hX := h'
  obtain rfl := IdD.open h'
  have HR := Lib.hid h; clear h
  have HX := Lib.hid hX; clear hX h' hn
  obtain ⟨R, hR⟩ : ∃ R, R = fReady xs x := ⟨_, rfl⟩
  rw [← hR]
  unfold fReady at hR
  have SB := Lib.hid (blk_new w #[.int .i64 x.rep, .int .i64 x.slot] 32)
  go_enter Try.func53, Try.ntmps53
  go_wp2_with fail
  refine (HOK.out _ (HR.out.below (by repeat' (first | with_reducible exact Below.refl _ _ | with_reducible exact BW.out | with_reducible refine Below.setCell ?_ ?_ _ | with_reducible refine Below.alloc ?_ ?_ _ | with_reducible refine Below.drew ?_ | (simp; done) | (simp; omega) | omega)))).mono ?_; rintro e w1 ⟨rfl, hb⟩
  have BW := Lib.hid (show Below w.heap.size w w1 from Below.trans (by repeat' (first | with_reducible exact Below.refl _ _ | with_reducible exact BW.out | with_reducible refine Below.setCell ?_ ?_ _ | with_reducible refine Below.alloc ?_ ?_ _ | with_reducible refine Below.drew ?_ | (simp; done) | (simp; omega) | omega)) (hb.mono (by first | (simp; done) | (simp; omega) | omega)))
  have SB1 := Lib.hid (SB.out.below hb)
  clear hb SB
  cases hok : instsOkB xs with
  | false =>
    rw [hok] at hR
    have HRR := Lib.hid hR; clear hR
    go_wp2
    go_ret
    exact ⟨ret_eq (by rw [HRR.out]; rfl), BW.out⟩
  | true =>
    have HRE2 := Lib.hid (fun W h h' => HRE.out hok W h h')
    rw [hok, Bool.true_and] at hR
    rw [← hR] at HRE2
    clear hok HRE HOK hR
    go_wp2_with (first | ((with_reducible show wpList _ _ _ ({ dst := _, op := Op.load 32 _, type := _, pos := _, after := _, guard := _ } :: _) _ _); refine wpList_load_row_g _ (by first | rfl | kernel_rfl) ⟨w.heap.size, 0, none⟩ rfl [.int .i64 x.rep, .int .i64 x.slot] agg_Id rfl (blk_cells SB1.out) ?_) | fail)
    refine (HRE2.out _ (HR.out.below BW.out) (HX.out.below BW.out)).mono ?_; rintro e w2 ⟨rfl, hb⟩
    have BW2 := Lib.hid (BW.out.trans (hb.mono BW.out.size))
    clear hb
    go_wp2
    go_ret
    exact ⟨ret_eq (by first | rfl | simp), BW2.out⟩

theorem fld_status (a0 a1 a2 a3 a4 a5 a6 a7 a8 a9 a10 a11 a12 a13 a14 a15 : Value) (w : World) : (Instr.field 49 (.agg #[a0, a1, a2, a3, a4, a5, a6, a7, a8, a9, a10, a11, a12, a13, a14, a15]) 3).run Try.prog w = .ok a4 w := by
  kernel_rfl
theorem wpList_fld {P : Program} (w : World) {ops : Array Oper} {rest : List Oper} {a : Act} {Q : Exit → Act → World → Prop} {t ty : TypeId} {x : Operand} {f : Nat} {ps : String} {af : Array Edge} {dst : Option Tmp} (c v : Value) (hx : a.eval x = c) (hrun : (Instr.field t c f).run P w = .ok v w)
    (hK : wpList P ops Q rest (a.put dst v) w) : wpList P ops Q ({ dst := dst, op := Op.field t x f, type := ty, pos := ps, after := af, guard := none } :: rest) a w := by
  refine wpList_plain rfl fun K hK' => ?_
  unfold Oper.wp
  simp only [execOp, hx, Sem.run_bind, hrun, Result.andThen, Sem.run_pure]
  exact hK' _ _ hK
theorem mine_row_ids {w : World} {base m c : Nat} {A : Option Addr} {l : List IdD} (h : Mine w base (.sl 32 2 m (cat IdD.c l) .nil) [.slice A m c]) : w.ownsRow base 32 2 (.slice A m c) m (idCells l) := by
  obtain ⟨F, _, ho⟩ := h
  obtain ⟨cells, F1, _, _, hrow, hc⟩ := Own.sl1.1 ho
  obtain rfl := rep_ids hc.repAny
  exact hrow
set_option maxRecDepth 100000 in
set_option maxHeartbeats 8000000 in
theorem iReady_any (xs : List InstD) (x : IdD) (A : Option Addr) (n c : Nat) (cs : List Value) (w : World) (hn : n = xs.length) (hwt : n + (cat InstD.c xs).wt ≤ 1048576) (_ : x.c.wt ≤ 1048576) (h : Rep anyB w (.sl 49 16 n (cat InstD.c xs) .nil) [.slice A n c]) (h' : Rep anyB w x.c cs) :
    Calls Try.prog 54 #[.slice A n c, .agg cs.toArray] w fun e w' => e = .returned (.bool (fReady xs x)) ∧ Below w.heap.size w w' := by
  have HOK := Lib.hid (fun W h => iInstsOk_any xs A n c W hn hwt h)
  have HRE := Lib.hid (fun W h h' => iReach_any xs x A n c cs W hn hwt (Nat.zero_le _) h h')
  have HIA := Lib.hid (fun y cs W h h' => iInstAt_any xs y A n c cs W hn hwt (Nat.zero_le _) h h')
  have hX := h'
  obtain rfl := IdD.open h'
  have HR := Lib.hid h; clear h
  have HX := Lib.hid hX; clear hX h' hn
  obtain ⟨R, hR⟩ : ∃ R, R = fReady xs x := ⟨_, rfl⟩
  rw [← hR]
  unfold fReady at hR
  have SB := Lib.hid (blk_new w #[.int .i64 x.rep, .int .i64 x.slot] 32)
  go_enter Try.func54, Try.ntmps54
  go_wp2_with fail
  refine (HOK.out _ (HR.out.below (by repeat' (first | with_reducible exact Below.refl _ _ | with_reducible exact BW.out | with_reducible refine Below.setCell ?_ ?_ _ | with_reducible refine Below.alloc ?_ ?_ _ | with_reducible refine Below.drew ?_ | (simp; done) | (simp; omega) | omega)))).mono ?_; rintro e w1 ⟨rfl, hb⟩
  have BW := Lib.hid (show Below w.heap.size w w1 from Below.trans (by repeat' (first | with_reducible exact Below.refl _ _ | with_reducible exact BW.out | with_reducible refine Below.setCell ?_ ?_ _ | with_reducible refine Below.alloc ?_ ?_ _ | with_reducible refine Below.drew ?_ | (simp; done) | (simp; omega) | omega)) (hb.mono (by first | (simp; done) | (simp; omega) | omega)))
  have SB1 := Lib.hid (SB.out.below hb)
  clear hb SB
  cases hok : instsOkB xs with
  | false =>
    rw [hok] at hR
    have HRR := Lib.hid hR; clear hR
    go_wp2
    go_ret
    exact ⟨ret_eq (by rw [HRR.out]; rfl), BW.out⟩
  | true =>
    rw [hok, Bool.true_and] at hR
    have hfr : fReach xs x = reachF (depsOf xs) x := if_pos hok
    have hT18 := reach_len hok x
    rw [hfr] at HRE
    generalize reachF (depsOf xs) x = T at *
    obtain ⟨L, hL⟩ : ∃ L, L = T ++ [x] := ⟨_, rfl⟩
    have hRL : R = L.all (comB xs) := by rw [hR, hL, List.all_append, Bool.and_comm]; simp
    have hLl : L.length = T.length + 1 := by rw [hL]; simp
    have hcell : idCells T ++ idCells [x] = idCells L := by rw [hL, idCells_app]
    have HRL := Lib.hid hRL
    have HCL := Lib.hid hcell
    have HC := Lib.hid (fun y => show comB xs y = decide ((fInstAt xs y).status = 3) from rfl)
    generalize comB xs = C at *
    clear hok HOK hR hfr hL hRL hcell
    go_wp2
    refine wp_region_k 5 [0, 7] (.one 1 (.one 3 (.two 2 4 (.one 4 .leaf) (.one 2 .leaf)))) [5, 6] (by kernel_rfl) (by kernel_rfl) ?_
    iterate 2 (refine wpB_step rfl rfl ?_; go_wp2; refine ⟨rfl, ?_⟩)
    refine wpB_nil ?_
    refine wpU_quiet rfl (by kernel_rfl) rfl ?_; refine wpList_load_row _ ⟨w.heap.size, 0, none⟩ rfl [.int .i64 x.rep, .int .i64 x.slot] agg_Id rfl (blk_cells SB1.out.drew) ?_; go_wp2; refine ⟨rfl, ?_⟩
    refine wpU_quiet rfl (by kernel_rfl) rfl ?_; refine wpList_load_row _ ⟨w.heap.size, 0, none⟩ rfl [.int .i64 x.rep, .int .i64 x.slot] agg_Id rfl (blk_cells SB1.out.drew) ?_; go_wp2; refine ⟨rfl, ?_⟩
    have BD := Lib.hid BW.out.drew
    refine wpU_two rfl rfl ?_ ?_
    · go_wp2_with fail
      refine (HRE.out _ (HR.out.below BD.out) (HX.out.below BD.out)).mono ?_; rintro e w2 ⟨A2, m, c2, rfl, hm, hmi, hb⟩
      have hown := mine_row_ids hmi
      have HM := Lib.hid hm
      have hEx := Ext.of_below hb
      have hBx := BD.out.trans (hb.mono BD.out.size)
      have HO := Lib.hid ((ownsRow_keep (base' := w.heap.size) hown (w' := w2) (fun b hb2 => ⟨Nat.le_trans BD.out.size (hown.lt b hb2).1, rfl⟩)).keptBelowJ ((Below.refl _ w2).alloc (Nat.le_refl _) (.cells #[.int .i64 x.rep, .int .i64 x.slot] 32)))
      have B2 := Lib.hid (hBx.alloc hBx.size (.cells #[.int .i64 x.rep, .int .i64 x.slot] 32))
      have XC := Lib.hid (blk_cells (blk_new w2 (#[.int .i64 x.rep, .int .i64 x.slot] : Array Value) 32))
      have hm18 : m ≤ 18 := by rw [hm]; exact hT18
      clear hown hmi hb hm BW SB1 BD
      go_wp2
      refine ⟨hEx, ?_⟩
      refine wpU_actor rfl (by kernel_rfl) ?_
      go_wp2
      refine ⟨Ext.alloc (Ext.refl _) _, ?_⟩
      clear hEx hBx
      refine wpU_nil ?_
      simp only [pickOps, List.getElem?_toArray, List.getElem?_cons_succ, List.getElem?_cons_zero]
      go_wp2_with (first
        | (at_builtin; go_must (refine wpList_app E_Id _ rfl _ _ rfl w.heap.size _ m (idCells T) rfl HO.out _ _ _ (idCells [x]) rfl ⟨rfl, fun _ => ⟨_, rfl, XC.out⟩⟩ (by simp [idCells, Value.oneCell']) (by omega) B2.out.size ?_; intro vv w4 hown4 hg4 hat4; rw [HCL.out] at hown4; obtain ⟨A4, c4, rfl, _⟩ := SlR.of_own hown4; have HO4 := Lib.hid hown4; have B4 := Lib.hid (Below.grown B2.out hg4 B2.out.size (fun k hk => (HO.out.lt k hk).1)); clear hown4 hg4 hat4))
        | fail)
      refine ⟨trivial, ?_⟩
      clear HO B2 XC
      obtain ⟨l, hl⟩ : ∃ l, l = m + 1 := ⟨_, rfl⟩
      rw [← hl] at HO4 ⊢
      have hlL : l = L.length := by rw [hl, hLl, HM.out]
      have HLL := Lib.hid hlL
      have HL1 := Lib.hid hl
      have hl19 : l ≤ 19 := by rw [hlL, hLl]; omega
      clear hl hlL
      go_wp2
      go_loopw [17] (fun ii wr => ∃ i : Nat, i ≤ l ∧ ii = .int .i64 (i : Int) ∧ (L.take i).all C = true ∧ wr.ownsRow w.heap.size 32 2 (.slice A4 l c4) l (idCells L) ∧ Below w.heap.size w wr) (fun ii _ => l - (intOf ii).toNat)
      case atStart => exact ⟨0, Nat.zero_le _, rfl, by rw [List.take_zero]; rfl, HO4.out, B4.out⟩
      case round =>
        clear HO4 B4
        obtain ⟨i, hi, rfl, hall, hown, hbw⟩ := hrel
        have HALL := Lib.hid hall; clear hall
        have HO := Lib.hid hown; clear hown
        have BW := Lib.hid hbw; clear hbw
        by_cases hlt : i < l
        · have hdl : decide ((i : Int) < (m : Int) + 1) = true := by have := HL1.out; simp; omega
          have hiT : i < L.length := by have := HLL.out; omega
          obtain ⟨ad, cy, rfl, _, _, hrc, hl, hce⟩ := (own_rep HO.out HLL.out).elem IdD.width i hiT HLL.out
          obtain rfl := IdD.open hrc
          have HYE := Lib.hid (fun h => all_take hiT HALL.out h)
          have HNO := Lib.hid (fun h => @all_no L C i hiT h)
          generalize L[i] = y at *
          have HCE := Lib.hid hce
          clear hce hrc hl
          go_wp2_with (first
            | ((with_reducible show wpList _ _ _ ({ dst := _, op := Op.load 32 _, type := _, pos := _, after := _, guard := _ } :: _) _ _); first | refine wpList_load_row _ ⟨wr.heap.size, 0, none⟩ rfl [.int .i64 y.rep, .int .i64 y.slot] agg_Id rfl (blk_cells (blk_new wr _ _)) ?_ | refine wpList_load_row _ _ rfl [.int .i64 y.rep, .int .i64 y.slot] agg_Id rfl HCE.out ?_)
            | fail)
          have hBA : ∀ o, Below wr.heap.size wr (wr.alloc o) := fun o => (Below.refl _ wr).alloc (Nat.le_refl _) o
          refine (HIA.out y _ _ (HR.out.below (BW.out.alloc BW.out.size _)) IdD.shut).mono ?_; rintro e w5 ⟨csx, rfl, hMi, hb⟩
          have hb5 : Below wr.heap.size wr w5 := (hBA _).trans (hb.mono (hBA _).size)
          have HO5 := Lib.hid (HO.out.keptBelowJ hb5)
          have BW5 := Lib.hid (BW.out.trans (hb5.mono BW.out.size))
          have hcy := HC.out y
          generalize fInstAt xs y = z at *
          obtain ⟨A0, k0, A1, k1, rfl, _⟩ := InstD.open hMi.rep.any
          clear hMi hb hb5 hBA
          by_cases hst : z.status = 3
          · have hsb : (z.status != 3) = false := by simpa using hst
            have hc : C y = true := by rw [hcy]; simpa using hst
            have HYY := Lib.hid (HYE.out hc)
            clear hst hc hcy
            go_wp2_with (first | ((with_reducible show wpList _ _ _ ({ dst := _, op := Op.field 49 _ 3, type := _, pos := _, after := _, guard := _ } :: _) _ _); refine wpList_fld _ _ _ rfl (fld_status _ _ _ _ _ _ _ _ _ _ _ _ _ _ _ _ _) ?_) | fail)
            exact ⟨⟨i + 1, by omega, by go_num, HYY.out, HO5.out, BW5.out⟩, by simp only [intOf]; omega⟩
          · have hsb : (z.status != 3) = true := by simpa using hst
            have hc : C y = false := by rw [hcy]; simpa using hst
            have HNN := Lib.hid (HNO.out hc)
            clear hst hc hcy
            go_wp2_with (first | ((with_reducible show wpList _ _ _ ({ dst := _, op := Op.field 49 _ 3, type := _, pos := _, after := _, guard := _ } :: _) _ _); refine wpList_fld _ _ _ rfl (fld_status _ _ _ _ _ _ _ _ _ _ _ _ _ _ _ _ _) ?_) | fail)
            go_ret
            exact ⟨ret_eq (by rw [HRL.out, HNN.out]; rfl), BW5.out⟩
        · have hie : i = l := by omega
          subst hie
          have hdl : decide ((i : Int) < (m : Int) + 1) = false := by have := HL1.out; simp; omega
          have hall : L.all C = true := by have := HALL.out; rw [HLL.out, List.take_length] at this; exact this
          have HAL := Lib.hid hall; clear hall
          go_wp2
          go_ret
          exact ⟨ret_eq (by rw [HRL.out, HAL.out]; rfl), BW.out⟩
    · go_wp2
      refine ⟨Ext.alloc (Ext.refl _) _, ?_⟩
      refine wpU_actor rfl (by kernel_rfl) ?_
      go_wp2_with fail
      have BA := Lib.hid (BD.out.alloc BD.out.size (.cells #[.int .i64 x.rep, .int .i64 x.slot] 32))
      refine (HRE.out _ (HR.out.below BA.out) (HX.out.below BA.out)).mono ?_; rintro e w2 ⟨A2, m, c2, rfl, hm, hmi, hb⟩
      have hown := mine_row_ids hmi
      have HM := Lib.hid hm
      have hEx := Ext.of_below hb
      have hBx := BA.out.trans (hb.mono BA.out.size)
      have HO := Lib.hid (ownsRow_keep (base' := w.heap.size) hown (w' := w2) (fun b hb2 => ⟨Nat.le_trans BA.out.size (hown.lt b hb2).1, rfl⟩))
      have B2 := Lib.hid hBx
      have XC := Lib.hid (blk_cells ((blk_new w1.drew (#[.int .i64 x.rep, .int .i64 x.slot] : Array Value) 32).below hb))
      have hm18 : m ≤ 18 := by rw [hm]; exact hT18
      clear hown hmi hb hm BW SB1 BD BA
      go_wp2
      refine ⟨hEx, ?_⟩
      clear hEx hBx
      refine wpU_nil ?_
      simp only [pickOps, List.getElem?_toArray, List.getElem?_cons_succ, List.getElem?_cons_zero]
      go_wp2_with (first
        | (at_builtin; go_must (refine wpList_app E_Id _ rfl _ _ rfl w.heap.size _ m (idCells T) rfl HO.out _ _ _ (idCells [x]) rfl ⟨rfl, fun _ => ⟨_, rfl, XC.out⟩⟩ (by simp [idCells, Value.oneCell']) (by omega) B2.out.size ?_; intro vv w4 hown4 hg4 hat4; rw [HCL.out] at hown4; obtain ⟨A4, c4, rfl, _⟩ := SlR.of_own hown4; have HO4 := Lib.hid hown4; have B4 := Lib.hid (Below.grown B2.out hg4 B2.out.size (fun k hk => (HO.out.lt k hk).1)); clear hown4 hg4 hat4))
        | fail)
      refine ⟨trivial, ?_⟩
      clear HO B2 XC
      obtain ⟨l, hl⟩ : ∃ l, l = m + 1 := ⟨_, rfl⟩
      rw [← hl] at HO4 ⊢
      have hlL : l = L.length := by rw [hl, hLl, HM.out]
      have HLL := Lib.hid hlL
      have HL1 := Lib.hid hl
      have hl19 : l ≤ 19 := by rw [hlL, hLl]; omega
      clear hl hlL
      go_wp2
      go_loopw [17] (fun ii wr => ∃ i : Nat, i ≤ l ∧ ii = .int .i64 (i : Int) ∧ (L.take i).all C = true ∧ wr.ownsRow w.heap.size 32 2 (.slice A4 l c4) l (idCells L) ∧ Below w.heap.size w wr) (fun ii _ => l - (intOf ii).toNat)
      case atStart => exact ⟨0, Nat.zero_le _, rfl, by rw [List.take_zero]; rfl, HO4.out, B4.out⟩
      case round =>
        clear HO4 B4
        obtain ⟨i, hi, rfl, hall, hown, hbw⟩ := hrel
        have HALL := Lib.hid hall; clear hall
        have HO := Lib.hid hown; clear hown
        have BW := Lib.hid hbw; clear hbw
        by_cases hlt : i < l
        · have hdl : decide ((i : Int) < (m : Int) + 1) = true := by have := HL1.out; simp; omega
          have hiT : i < L.length := by have := HLL.out; omega
          obtain ⟨ad, cy, rfl, _, _, hrc, hl, hce⟩ := (own_rep HO.out HLL.out).elem IdD.width i hiT HLL.out
          obtain rfl := IdD.open hrc
          have HYE := Lib.hid (fun h => all_take hiT HALL.out h)
          have HNO := Lib.hid (fun h => @all_no L C i hiT h)
          generalize L[i] = y at *
          have HCE := Lib.hid hce
          clear hce hrc hl
          go_wp2_with (first
            | ((with_reducible show wpList _ _ _ ({ dst := _, op := Op.load 32 _, type := _, pos := _, after := _, guard := _ } :: _) _ _); first | refine wpList_load_row _ ⟨wr.heap.size, 0, none⟩ rfl [.int .i64 y.rep, .int .i64 y.slot] agg_Id rfl (blk_cells (blk_new wr _ _)) ?_ | refine wpList_load_row _ _ rfl [.int .i64 y.rep, .int .i64 y.slot] agg_Id rfl HCE.out ?_)
            | fail)
          have hBA : ∀ o, Below wr.heap.size wr (wr.alloc o) := fun o => (Below.refl _ wr).alloc (Nat.le_refl _) o
          refine (HIA.out y _ _ (HR.out.below (BW.out.alloc BW.out.size _)) IdD.shut).mono ?_; rintro e w5 ⟨csx, rfl, hMi, hb⟩
          have hb5 : Below wr.heap.size wr w5 := (hBA _).trans (hb.mono (hBA _).size)
          have HO5 := Lib.hid (HO.out.keptBelowJ hb5)
          have BW5 := Lib.hid (BW.out.trans (hb5.mono BW.out.size))
          have hcy := HC.out y
          generalize fInstAt xs y = z at *
          obtain ⟨A0, k0, A1, k1, rfl, _⟩ := InstD.open hMi.rep.any
          clear hMi hb hb5 hBA
          by_cases hst : z.status = 3
          · have hsb : (z.status != 3) = false := by simpa using hst
            have hc : C y = true := by rw [hcy]; simpa using hst
            have HYY := Lib.hid (HYE.out hc)
            clear hst hc hcy
            go_wp2_with (first | ((with_reducible show wpList _ _ _ ({ dst := _, op := Op.field 49 _ 3, type := _, pos := _, after := _, guard := _ } :: _) _ _); refine wpList_fld _ _ _ rfl (fld_status _ _ _ _ _ _ _ _ _ _ _ _ _ _ _ _ _) ?_) | fail)
            exact ⟨⟨i + 1, by omega, by go_num, HYY.out, HO5.out, BW5.out⟩, by simp only [intOf]; omega⟩
          · have hsb : (z.status != 3) = true := by simpa using hst
            have hc : C y = false := by rw [hcy]; simpa using hst
            have HNN := Lib.hid (HNO.out hc)
            clear hst hc hcy
            go_wp2_with (first | ((with_reducible show wpList _ _ _ ({ dst := _, op := Op.field 49 _ 3, type := _, pos := _, after := _, guard := _ } :: _) _ _); refine wpList_fld _ _ _ rfl (fld_status _ _ _ _ _ _ _ _ _ _ _ _ _ _ _ _ _) ?_) | fail)
            go_ret
            exact ⟨ret_eq (by rw [HRL.out, HNN.out]; rfl), BW5.out⟩
        · have hie : i = l := by omega
          subst hie
          have hdl : decide ((i : Int) < (m : Int) + 1) = false := by have := HL1.out; simp; omega
          have hall : L.all C = true := by have := HALL.out; rw [HLL.out, List.take_length] at this; exact this
          have HAL := Lib.hid hall; clear hall
          go_wp2
          go_ret
          exact ⟨ret_eq (by rw [HRL.out, HAL.out]; rfl), BW.out⟩

end Go.Proofs.Ytbdblfpepnoafaa
