/-
  An instance's index: impl's closure, slices.IndexFunc, instAt. Conditions: a bound on the sizes.
-/
import Derived.Test.YtoffelfcmfpooaaInstAt
namespace Go.Proofs.Ytoffelfcmfpooaa
open Go.RowKit

set_option maxRecDepth 100000 in
set_option maxHeartbeats 2000000 in
theorem instAtFn_any (y : InstD) (ci : List Value) (g : Nat) (xr xs' : Int) (w : World) (h : Rep anyB w y.c ci) (hb : Blk w g 36 [.int .i64 xr, .int .i64 xs'].toArray) :
    Calls Try.prog 72 #[.agg ci.toArray, .pointer (some ⟨g, 0, none⟩)] w fun e w' => e = .returned (.bool (decide (y.id = ⟨xr, xs'⟩))) ∧ Below w.heap.size w w' := by
  obtain ⟨A0, k0, A1, k1, rfl, _, _⟩ := InstD.open h
  obtain ⟨⟨yr, ys⟩, a2, a3, a4, ⟨c0, c1, c2, c3, c4, c5, c6, c7⟩, a5, a6, a7⟩ := y
  simp only []
  clear h
  have hg := hb.lt
  have SB := Lib.hid (hb.alloc (.cells #[.int .i64 yr, .int .i64 ys, .int .i64 a2, .int .i64 a3, .int .i64 a4, .int .i64 c0, .int .i64 c1, .int .i64 c2, .string (bs c3), .string (bs c4), .string (bs c5), .int .i64 c6, .slice A0 c7.length k0, .int .i64 a5, .slice A1 a6.length k1, .bool a7] 40))
  have hs0 : World.cell? w ⟨g, 0, none⟩ = some (.int .i64 xr) := blk_cell0 (L := [.int .i64 xr, .int .i64 xs']) hb 0 rfl
  have hs1 : World.cell? w ⟨g, 1, none⟩ = some (.int .i64 xs') := blk_cell0 (L := [.int .i64 xr, .int .i64 xs']) hb 1 rfl
  have HD := Lib.hid (show decide ((⟨yr, ys⟩ : IdD) = ⟨xr, xs'⟩) = ((yr == xr) && (ys == xs')) by rw [Bool.eq_iff_iff]; simp)
  go_enter Try.func72, Try.ntmps72
  go_wp2_with (first
    | ((with_reducible show wpList _ _ _ ({ dst := _, op := Op.load 36 _, type := _, pos := _, after := _, guard := _ } :: _) _ _); refine wpList_load_row _ ⟨g, 0, none⟩ rfl [.int .i64 xr, .int .i64 xs'] agg_Id rfl (blk_cells SB.out) ?_)
    | fail)
  all_goals (go_ret; exact ⟨rfl, (by repeat' (first | with_reducible exact Below.refl _ _ | with_reducible exact BW.out | with_reducible refine Below.setCell ?_ ?_ _ | with_reducible refine Below.alloc ?_ ?_ _ | with_reducible refine Below.drew ?_ | (simp; done) | (simp; omega) | omega))⟩)

set_option maxRecDepth 100000 in
set_option maxHeartbeats 2000000 in
theorem indexFn_any (xs : List InstD) (A : Option Addr) (n c g : Nat) (xr xs' : Int) (w : World) (hn : n = xs.length) (hwt : n ≤ 1048576) (h : Rep anyB w (.sl 40 16 n (cat InstD.c xs) .nil) [.slice A n c]) (hb : Blk w g 36 [.int .i64 xr, .int .i64 xs'].toArray) :
    Calls Try.prog 71 #[.slice A n c, .func (.func 72) #[] #[.pointer (some ⟨g, 0, none⟩)]] w fun e w' => ∃ q : Int, e = .returned (.int .i64 q) ∧ ((∃ (j : Nat) (hj : j < xs.length), q = (j : Int) ∧ xs[j].id = ⟨xr, xs'⟩ ∧ ∀ i (hi : i < xs.length), i < j → ¬ xs[i].id = ⟨xr, xs'⟩) ∨ (q = -1 ∧ ∀ i (hi : i < xs.length), ¬ xs[i].id = ⟨xr, xs'⟩)) ∧ Below w.heap.size w w' := by
  have HN := Lib.hid hn; clear hn
  have HR := Lib.hid h; clear h
  have SB := Lib.hid hb; clear hb
  go_enter Try.func71, Try.ntmps71
  go_wp2
  go_loopw [8] (fun ii wr => ∃ j : Nat, j ≤ n ∧ ii = .int .i64 (j : Int) ∧ (∀ i (hi : i < xs.length), i < j → ¬ xs[i].id = ⟨xr, xs'⟩) ∧ Blk wr g 36 [.int .i64 xr, .int .i64 xs'].toArray ∧ Below w.heap.size w wr) (fun ii _ => n - (intOf ii).toNat)
  case atStart => exact ⟨0, Nat.zero_le _, rfl, fun i hi h => absurd h (Nat.not_lt_zero _), SB.out, Below.refl _ _⟩
  case round =>
    obtain ⟨j, hj, rfl, hall, hsb, hbel⟩ := hrel
    clear SB
    have SB := Lib.hid hsb; clear hsb
    have HA := Lib.hid hall; clear hall
    have BW := Lib.hid hbel; clear hbel
    by_cases hlt : j < n
    · have hjx : j < xs.length := by have := HN.out; omega
      obtain ⟨ad, ci, rfl, _, _, hrc, hl, hc⟩ := (HR.out.below BW.out).elem InstD.width j hjx HN.out
      have hst : ¬ xs[j].id = ⟨xr, xs'⟩ → ∀ i (hi : i < xs.length), i < j + 1 → ¬ xs[i].id = ⟨xr, xs'⟩ := fun hne i hi hij => by
        by_cases he : i = j
        · subst he; exact hne
        · exact HA.out i hi (by omega)
      have HST := Lib.hid hst; clear hst
      have hyes : xs[j].id = ⟨xr, xs'⟩ → ∃ (j' : Nat) (hj' : j' < xs.length), ((j : Int)) = (j' : Int) ∧ xs[j'].id = ⟨xr, xs'⟩ ∧ ∀ i (hi : i < xs.length), i < j' → ¬ xs[i].id = ⟨xr, xs'⟩ := fun he => ⟨j, hjx, rfl, he, HA.out⟩
      have HY := Lib.hid hyes; clear hyes
      have HL := Lib.hid hl; clear hl
      have HC := Lib.hid hc; clear hc
      have HRC := Lib.hid hrc; clear hrc
      generalize xs[j] = y at *
      go_wp2_with (first | ((with_reducible show wpList _ _ _ ({ dst := _, op := Op.load 40 _, type := _, pos := _, after := _, guard := _ } :: _) _ _); refine wpList_load_row _ (ad.add (j * 16)) rfl ci agg_Inst HL.out HC.out ?_) | fail)
      refine (instAtFn_any y ci g xr xs' _ HRC.out SB.out).mono ?_; rintro e v1 ⟨rfl, hb⟩
      have X := Lib.hid (SB.out.below hb); clear SB
      have SB := Lib.hid X.out; clear X
      have X := Lib.hid (show Below w.heap.size w v1 from BW.out.trans (hb.mono BW.out.size)); clear BW hb
      have BW := Lib.hid X.out; clear X
      cases hd : decide (y.id = ⟨xr, xs'⟩)
      case true =>
        have HY2 := Lib.hid (HY.out (of_decide_eq_true hd)); clear hd
        go_wp2
        go_ret
        exact ⟨_, rfl, .inl HY2.out, BW.out⟩
      case false =>
        have HS := Lib.hid (HST.out (of_decide_eq_false hd)); clear hd
        go_wp2
        exact ⟨⟨j + 1, by omega, by go_num, HS.out, SB.out, BW.out⟩, by simp only [intOf]; omega⟩
    · have hjn : j = n := by omega
      subst hjn
      have HF := Lib.hid (fun i (hi : i < xs.length) => HA.out i hi (by have := HN.out; omega))
      go_wp2
      go_ret
      exact ⟨_, rfl, .inr ⟨rfl, HF.out⟩, BW.out⟩

set_option maxRecDepth 100000 in
set_option maxHeartbeats 2000000 in
theorem instAtI_any (xs : List InstD) (x : IdD) (A : Option Addr) (n c : Nat) (cs : List Value) (w : World) (hn : n = xs.length) (hwt : n ≤ 1048576) (h : Rep anyB w (.sl 40 16 n (cat InstD.c xs) .nil) [.slice A n c]) (h' : Rep anyB w x.c cs) :
    Calls Try.prog 38 #[.slice A n c, .agg cs.toArray] w fun e w' => ∃ q : Int, e = .returned (.int .i64 q) ∧ ((∃ (j : Nat) (hj : j < xs.length), q = (j : Int) ∧ xs[j].id = x ∧ ∀ i (hi : i < xs.length), i < j → ¬ xs[i].id = x) ∨ (q = -1 ∧ ∀ i (hi : i < xs.length), ¬ xs[i].id = x)) ∧ Below w.heap.size w w' := by
  obtain rfl := IdD.open h'
  clear h'
  obtain ⟨xr, xs'⟩ := x
  simp only []
  have HN := Lib.hid hn; clear hn
  have HR := Lib.hid h; clear h
  have hmf : ∀ (fn : Fn) (first cap : Array Value) (w : World), (Instr.makeFunc fn first cap).run Try.prog w = .ok (.func fn first cap) w := fun _ _ _ _ => rfl
  go_enter Try.func38, Try.ntmps38
  go_wp2_with fail
  refine (indexFn_any xs A n c w.heap.size xr xs' _ HN.out hwt (HR.out.below (by repeat' (first | with_reducible exact Below.refl _ _ | with_reducible exact BW.out | with_reducible refine Below.setCell ?_ ?_ _ | with_reducible refine Below.alloc ?_ ?_ _ | with_reducible refine Below.drew ?_ | (simp; done) | (simp; omega) | omega))) (blk_new _ _ _)).mono ?_; rintro e v1 ⟨q, rfl, hq, hb⟩
  have HQ := Lib.hid hq; clear hq
  have BW := Lib.hid (show Below w.heap.size w v1 from Below.trans (by repeat' (first | with_reducible exact Below.refl _ _ | with_reducible exact BW.out | with_reducible refine Below.setCell ?_ ?_ _ | with_reducible refine Below.alloc ?_ ?_ _ | with_reducible refine Below.drew ?_ | (simp; done) | (simp; omega) | omega)) (hb.mono (by first | (simp; done) | (simp; omega) | omega))); clear hb
  clear hmf
  go_wp2
  go_ret
  exact ⟨_, rfl, HQ.out, BW.out⟩

end Go.Proofs.Ytoffelfcmfpooaa
