/-
  Rows of Ids joined: spec.JoinIds. Conditions: bounds on the lengths.
-/
import Derived.Test.YtbdblfpepnoafaaJoin
namespace Go.Proofs.Ytbdblfpepnoafaa
open Go.RowKit

theorem IdD.cts_le : ∀ xs : List IdD, cts IdD.cnt xs ≤ 2 * xs.length
  | [] => Nat.le_refl _
  | x :: xs => by
    have := IdD.cts_le xs
    rw [cts, List.length_cons]
    show 1 + 1 + _ ≤ _
    omega
theorem bJoinIds (xs ys : List IdD) (h : xs.length + (cat IdD.c xs).wt ≤ 1048576) (h' : ys.length + (cat IdD.c ys).wt ≤ 1048576) :
    (fJoinIds xs ys).length + (cat IdD.c (fJoinIds xs ys)).wt ≤ 4611686018427387 ∧ cts IdD.cnt (fJoinIds xs ys) ≤ 4611686018427387 := by
  have hw : ∀ l : List IdD, (cat IdD.c l).wt = 0 := fun l => by
    induction l with
    | nil => rfl
    | cons x r ih => rw [cat_cons, Cs.wt_app, ih]; rfl
  have hc : ∀ l : List IdD, cts IdD.cnt l = 2 * l.length := fun l => by
    induction l with
    | nil => rfl
    | cons x r ih => rw [cts, ih, List.length_cons]; show 1 + 1 + _ = _; omega
  have hl : (fJoinIds xs ys).length ≤ 2097152 := by
    unfold fJoinIds
    split
    · have := joinF_len xs ys; omega
    · simp
  rw [hw, hc]
  omega
theorem Own.sl_cap {w : World} {base e sz n c : Nat} {i : Cs} {A : Option Addr} {F : List Nat} (h : Own w base (.sl e sz n i .nil) [.slice A n c] F) : n ≤ c := by
  obtain ⟨cells, F1, _, _, hrow, _⟩ := Own.sl1.1 h
  rcases hrow.2 with ⟨h1, h2⟩ | ⟨g, cap, cur, hv, _, _, hnc, _⟩
  · omega
  · injection hv with _ _ h3
    omega

set_option maxRecDepth 100000 in
set_option maxHeartbeats 2000000 in
theorem sJoinIds_any (xs ys : List IdD) (A : Option Addr) (n c : Nat) (A' : Option Addr) (n' c' : Nat) (w : World) (hn : n = xs.length) (hwt : n + (cat IdD.c xs).wt ≤ 1048576) (hn' : n' = ys.length) (hwt' : n' + (cat IdD.c ys).wt ≤ 1048576) (h : Rep anyB w (.sl 32 2 n (cat IdD.c xs) .nil) [.slice A n c]) (h' : Rep anyB w (.sl 32 2 n' (cat IdD.c ys) .nil) [.slice A' n' c']) (hcap : n ≤ c) :
    Calls Try.prog 41 #[.slice A n c, .slice A' n' c'] w fun e w' => ∃ A2 m c2, e = .returned (.slice A2 m c2) ∧ m = (fJoinIds xs ys).length ∧ Mine w' w.heap.size (.sl 32 2 m (cat IdD.c (fJoinIds xs ys)) .nil) [.slice A2 m c2] ∧ Below w.heap.size w w' := by
  have HA := Lib.hid (fun W => sIdsOk_any xs A n c W hn hwt)
  have HB := Lib.hid (fun W => sIdsOk_any ys A' n' c' W hn' hwt')
  have HJ := Lib.hid (fun W => l8Join_any xs ys A A' n n' c c' W hn hn' (by omega) (by omega) hcap)
  have HR := Lib.hid h
  have HR' := Lib.hid h'
  obtain ⟨R, hR⟩ : ∃ R, R = fJoinIds xs ys := ⟨_, rfl⟩
  rw [← hR]
  unfold fJoinIds at hR
  have HF := Lib.hid hR
  clear h h' hR hn hn' hwt hwt' hcap
  go_enter Try.func41, Try.ntmps41
  go_wp2_with fail
  refine (HA.out _ HR.out).mono ?_; rintro e v1 ⟨rfl, hb⟩
  have B1 := Lib.hid hb; clear hb
  have fin : ∀ v : World, Below w.heap.size w v → R = [] → Mine (v.alloc (.cells #[] 32)) w.heap.size (.sl 32 2 0 (cat IdD.c R) .nil) [.slice (some ⟨v.heap.size, 0, none⟩) 0 0] := fun v hv e => by
    subst e
    exact mine_ids (l := []) (own_nilAt v w.heap.size _ _ _ rfl hv.size) rfl
  have FIN := Lib.hid fin; clear fin
  cases ha : idsOkB xs with
  | false =>
    have hRz : R = [] := by rw [HF.out, ha, if_neg (by simp)]
    have HRZ := Lib.hid hRz; clear hRz
    go_wp2
    go_ret
    exact ⟨_, 0, 0, ret_eq rfl, by rw [HRZ.out]; rfl, FIN.out _ B1.out HRZ.out, B1.out.alloc B1.out.size _⟩
  | true =>
    go_wp2_with fail
    refine (HB.out _ (HR'.out.below B1.out)).mono ?_; rintro e v2 ⟨rfl, hb⟩
    have B2 := Lib.hid (B1.out.trans (hb.mono B1.out.size)); clear hb
    cases hbb : idsOkB ys with
    | false =>
      have hRz : R = [] := by rw [HF.out, ha, hbb, if_neg (by simp)]
      have HRZ := Lib.hid hRz; clear hRz
      go_wp2
      go_ret
      exact ⟨_, 0, 0, ret_eq rfl, by rw [HRZ.out]; rfl, FIN.out _ B2.out HRZ.out, B2.out.alloc B2.out.size _⟩
    | true =>
      have hRz : R = joinF xs ys := by rw [HF.out, ha, hbb, if_pos ⟨rfl, rfl⟩]
      have HRZ := Lib.hid hRz; clear hRz
      go_wp2_with fail
      refine (HJ.out _ (HR.out.below B2.out) (HR'.out.below B2.out)).mono ?_; rintro e v3 ⟨A2, c2, rfl, hown, hb⟩
      rw [← HRZ.out] at hown ⊢
      have B3 := Lib.hid (B2.out.trans (hb.mono B2.out.size))
      have HM := Lib.hid (Mine.mono (mine_ids hown rfl) B2.out.size); clear hown hb
      go_wp2
      go_ret
      exact ⟨A2, R.length, c2, ret_eq rfl, rfl, HM.out, B3.out⟩

end Go.Proofs.Ytbdblfpepnoafaa
