/-
  Right sets of chunks (BlobsOk) and their size (BlobUsed), program and reference. Conditions: a bound on the sizes; the table of constants lies at its place.
-/
import Derived.Test.YtmhbfeglnhangaaDoorEq
import Derived.Test.YtmhbfeglnhangaaDoorSha5
namespace Go.Proofs.YtmhbfeglnhangaaDoor
open Go.RowKit

theorem addr_add0 (a : Addr) : a.add 0 = a := by
  obtain ⟨b, o, v⟩ := a
  unfold Addr.add
  split <;> simp_all
theorem inB_f {lo hi x : Int} (h : inB lo hi x = false) : ¬ (lo ≤ x ∧ x ≤ hi) := by simpa [inB] using h
theorem inB_t {lo hi x : Int} (h : inB lo hi x = true) : lo ≤ x ∧ x ≤ hi := by simpa [inB] using h
def sumB : List BlobD → Nat
  | [] => 0
  | x :: r => x.data.length + sumB r
theorem sumB_app (a : List BlobD) (x : BlobD) : sumB (a ++ [x]) = sumB a + x.data.length := by
  induction a with
  | nil => simp [sumB]
  | cons y a ih => simp only [List.cons_append, sumB, ih]; omega
theorem sumB_take (l : List BlobD) (j : Nat) (hj : j < l.length) : sumB (l.take (j + 1)) = sumB (l.take j) + l[j].data.length := by
  rw [List.take_succ_eq_append_getElem hj, sumB_app]
theorem sumB_le : ∀ l : List BlobD, sumB l ≤ (cat BlobD.c l).wt
  | [] => by simp [sumB]
  | x :: r => by
    have h := sumB_le r
    have e : (cat BlobD.c (x :: r)).wt = (x.c).wt + (cat BlobD.c r).wt := by first | rfl | rw [cat, Cs.wt_app] | simp [cat, Cs.wt_app]
    have e2 : (x.c).wt = x.id.length + (x.data.length + 0) := rfl
    simp only [sumB]
    omega
theorem sumB_take_le (l : List BlobD) : ∀ j, sumB (l.take j) ≤ sumB l := by
  induction l with
  | nil => intro j; simp [sumB]
  | cons x r ih =>
    intro j
    cases j with
    | zero => simp [sumB]
    | succ j => simp only [List.take_succ_cons, sumB]; have := ih j; omega
set_option maxRecDepth 100000 in
set_option maxHeartbeats 1000000 in
theorem sSum_any (x : BlobsD) (cs : List Value) (w : World) (hwt : x.c.wt ≤ 1048576) (h : Rep anyB w x.c cs) :
    Calls Tryd.prog 31 #[.agg cs.toArray] w fun e w' => e = .returned (.int .i64 ((sumB x.list : Nat) : Int)) ∧ Below w.heap.size w w' := by
  have hw0 : x.c.wt = x.list.length + (cat BlobD.c x.list).wt + 0 := rfl
  obtain ⟨A0, k0, rfl, s0⟩ := BlobsD.open h
  obtain ⟨quota, list⟩ := x
  simp only [] at s0 hw0 ⊢
  have hsum := sumB_le list
  have hS : sumB list ≤ 1048576 := by omega
  have hl : list.length ≤ 1048576 := by omega
  obtain ⟨n, hn⟩ : ∃ n, n = list.length := ⟨_, rfl⟩
  rw [← hn] at s0 hl ⊢
  have HN := Lib.hid hn; clear hn
  clear h hw0 hwt hsum
  go_enter Tryd.func31, Tryd.ntmps31
  go_wp2_with fail
  go_loopw [3, 4] (fun s i wr => ∃ j q : Nat, j ≤ n ∧ i = .int .i64 (j : Int) ∧ q = sumB (list.take j) ∧ s = .int .i64 (q : Int) ∧ Blk wr w.heap.size 34 [.int .i64 quota, .slice A0 n k0].toArray ∧ Below w.heap.size w wr) (fun _ i _ => n - (intOf i).toNat)
  case atStart => exact ⟨0, 0, Nat.zero_le _, rfl, rfl, rfl, blk_new _ _ _, (by repeat' (first | with_reducible exact Below.refl _ _ | with_reducible exact BW.out | with_reducible refine Below.setCell ?_ ?_ _ | with_reducible refine Below.alloc ?_ ?_ _ | with_reducible refine Below.drew ?_ | (simp; done) | (simp; omega) | omega))⟩
  case round =>
    obtain ⟨j, q, hj, rfl, hq, rfl, hb, hbel⟩ := hrel
    have c1 := blk_cell0 hb 1 rfl
    have hqs : q ≤ 1048576 := by rw [hq]; exact Nat.le_trans (sumB_take_le list j) hS
    by_cases hlt : j < n
    · have hjx : j < list.length := by have := HN.out; omega
      obtain ⟨ad, ci, rfl, _, _, hrc, hl3, hc⟩ := (s0.below hbel).elem BlobD.width j hjx HN.out
      obtain rfl := BlobD.open hrc
      have e1 : wr.cell? ⟨(ad.add (j * 3)).block, (ad.add (j * 3)).off + 1, none⟩ = some (.string (bs list[j].data)) := hc 1 _ rfl
      have hst := sumB_take list j hjx
      have hst2 := sumB_take_le list (j + 1)
      rw [← hq] at hst
      have hq2 : q + list[j].data.length ≤ 1048576 := by omega
      clear hc hrc hl3 hst2 hq
      have HS := Lib.hid hst; clear hst
      generalize list[j].data = dj at e1 hq2 HS
      go_wp2
      exact ⟨⟨j + 1, q + dj.length, by omega, by go_num, HS.out.symm, by go_num, hb, hbel⟩, by simp only [intOf]; omega⟩
    · have hjn : j = n := by omega
      subst hjn
      have hq' : q = sumB list := by rw [hq, HN.out, List.take_length]
      clear hq
      have HQ := Lib.hid hq'; clear hq'
      go_wp2
      go_ret
      exact ⟨ret_eq (by rw [← HQ.out]; rfl), hbel⟩
theorem agg_zB : ([.string ⟨#[]⟩, .string ⟨#[]⟩, .bool false] : List Value).length = 3 := rfl
set_option maxRecDepth 100000 in
set_option maxHeartbeats 1000000 in
theorem iSum_any (x : BlobsD) (cs : List Value) (w : World) (hwt : x.c.wt ≤ 1048576) (h : Rep anyB w x.c cs) :
    Calls Tryd.prog 34 #[.agg cs.toArray] w fun e w' => e = .returned (.int .i64 ((sumB x.list : Nat) : Int)) ∧ Below w.heap.size w w' := by
  have hw0 : x.c.wt = x.list.length + (cat BlobD.c x.list).wt + 0 := rfl
  obtain ⟨A0, k0, rfl, s0⟩ := BlobsD.open h
  obtain ⟨quota, list⟩ := x
  simp only [] at s0 hw0 ⊢
  have hsum := sumB_le list
  have hS : sumB list ≤ 1048576 := by omega
  have hl : list.length ≤ 1048576 := by omega
  obtain ⟨n, hn⟩ : ∃ n, n = list.length := ⟨_, rfl⟩
  rw [← hn] at s0 hl ⊢
  have HN := Lib.hid hn; clear hn
  clear h hw0 hwt hsum
  go_enter Tryd.func34, Tryd.ntmps34
  go_wp2_with fail
  go_loopw [3, 9] (fun s i wr => ∃ j q : Nat, j ≤ n ∧ i = .int .i64 (j : Int) ∧ q = sumB (list.take j) ∧ s = .int .i64 (q : Int) ∧ Below w.heap.size w wr) (fun _ i _ => n - (intOf i).toNat)
  case atStart => exact ⟨0, 0, Nat.zero_le _, rfl, rfl, rfl, (by repeat' (first | with_reducible exact Below.refl _ _ | with_reducible exact BW.out | with_reducible refine Below.setCell ?_ ?_ _ | with_reducible refine Below.alloc ?_ ?_ _ | with_reducible refine Below.drew ?_ | (simp; done) | (simp; omega) | omega))⟩
  case round =>
    obtain ⟨j, q, hj, rfl, hq, rfl, hbel⟩ := hrel
    have hqs : q ≤ 1048576 := by rw [hq]; exact Nat.le_trans (sumB_take_le list j) hS
    by_cases hlt : j < n
    · have hjx : j < list.length := by have := HN.out; omega
      obtain ⟨ad, ci, rfl, _, _, hrc, hl3, hc⟩ := (s0.below hbel).elem BlobD.width j hjx HN.out
      obtain rfl := BlobD.open hrc
      have hst := sumB_take list j hjx
      have hst2 := sumB_take_le list (j + 1)
      rw [← hq] at hst
      have hq2 : q + list[j].data.length ≤ 1048576 := by omega
      clear hrc hl3 hst2 hq
      have HS := Lib.hid hst; clear hst
      generalize list[j] = bj at hc hq2 HS
      have HC := Lib.hid hc; clear hc
      have hsz := hbel.size
      go_wp2_with (first
        | ((with_reducible show wpList _ _ _ ({ dst := _, op := Op.load 54 _, type := _, pos := _, after := _, guard := _ } :: _) _ _); refine wpList_load_row _ (ad.add (j * 3)) rfl [.string (bs bj.id), .string (bs bj.data), .bool bj.bad] agg_Blob rfl HC.out ?_)
        | ((with_reducible show wpList _ _ _ ({ dst := _, op := Op.store 54 _ _, type := _, pos := _, after := _, guard := _ } :: _) _ _); refine wpList_store_row _ wr.heap.size 54 0 [.string (bs bj.id), .string (bs bj.data), .bool bj.bad] [] [.string ⟨#[]⟩, .string ⟨#[]⟩, .bool false] [] _ rfl rfl agg_Blob (blk_new wr _ _) rfl rfl rfl (by intro u hu; simp only [List.mem_cons, List.not_mem_nil, or_false] at hu; rcases hu with rfl | rfl | rfl <;> rfl) ?_; intro v2 hsb hsg; have e1 : v2.cell? ⟨wr.heap.size, 1, none⟩ = some (.string (bs bj.data)) := blk_cell0 (L := [.string (bs bj.id), .string (bs bj.data), .bool bj.bad]) (by simpa using hsb) 1 rfl; have hbel2 : Below w.heap.size w v2 := Below.grown (hbel.alloc hsz _) hsg (Nat.le_trans hsz (by simp)) (fun k hk => by injection hk with hk; omega); clear hsb hsg; have HB2 := Lib.hid hbel2; clear hbel2)
        | fail)
      exact ⟨⟨j + 1, q + bj.data.length, by omega, by go_num, HS.out.symm, by go_num, HB2.out⟩, by simp only [intOf]; omega⟩
    · have hjn : j = n := by omega
      subst hjn
      have hq' : q = sumB list := by rw [hq, HN.out, List.take_length]
      clear hq
      have HQ := Lib.hid hq'; clear hq'
      go_wp2
      go_ret
      exact ⟨ret_eq (by rw [← HQ.out]; rfl), hbel⟩
def GEB (a b : List UInt8) : Bool := !Op.bytesLess a b
def pidB (l : List BlobD) (j : Nat) : List UInt8 := match l[j - 1]? with
  | some y => y.id
  | none => []
def blG (j : Nat) (p : List UInt8) (x : BlobD) : Prop := x.data.length ≤ 40 ∧ x.id.length = 8 ∧ (x.bad = true ∨ x.id = shortL x.data) ∧ (j = 0 ∨ GEB p x.id = false)
def blAt (l : List BlobD) (j : Nat) : Prop := ∃ x, l[j]? = some x ∧ blG j (pidB l j) x
def BlobsGood (x : BlobsD) : Prop := (0 ≤ x.quota ∧ x.quota ≤ 1000) ∧ x.list.length ≤ 12 ∧ (sumB x.list : Int) ≤ x.quota ∧ ∀ j, j < x.list.length → blAt x.list j
open Classical in
noncomputable def blobsOkB (x : BlobsD) : Bool := decide (BlobsGood x)
theorem blobs_yes {x : BlobsD} (h : BlobsGood x) : blobsOkB x = true := by simp [blobsOkB, h]
theorem blobs_no {x : BlobsD} (h : ¬ BlobsGood x) : blobsOkB x = false := by simp [blobsOkB, h]
theorem blAt_iff {l : List BlobD} {j : Nat} (hj : j < l.length) : blAt l j ↔ blG j (pidB l j) l[j] := by
  constructor
  · rintro ⟨x, hx, h⟩
    rw [List.getElem?_eq_getElem hj] at hx
    injection hx with hx
    rw [hx]; exact h
  · intro h
    exact ⟨l[j], List.getElem?_eq_getElem hj, h⟩
end Go.Proofs.YtmhbfeglnhangaaDoor
