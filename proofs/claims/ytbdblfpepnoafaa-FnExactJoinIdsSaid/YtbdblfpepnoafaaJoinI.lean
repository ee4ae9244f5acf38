/-
  Rows of Ids joined: impl.JoinIds. Conditions: bounds on the lengths.
-/
import Derived.Test.YtbdblfpepnoafaaComp
import Derived.Test.YtbdblfpepnoafaaJoinS
namespace Go.Proofs.Ytbdblfpepnoafaa
open Go.RowKit

theorem own_at {w : World} {base e sz n : Nat} {v : Value} {xs : List Value} (h : w.ownsRow base e sz v n xs) {k : Nat} (hb : v.ownBlock = some k) : ∃ c, v = .slice (some ⟨k, 0, none⟩) n c ∧ n ≤ c := by
  rcases h.2 with ⟨rfl, _⟩ | ⟨g, cap, cur, rfl, _, _, hnc, _⟩
  · cases hb
  · simp only [Value.ownBlock] at hb
    injection hb with hb
    subst hb
    exact ⟨cap, rfl, hnc⟩
theorem own_at2 {w : World} {base e sz n : Nat} {v : Value} {xs : List Value} (h : w.ownsRow base e sz v n xs) {a b : Nat} (hb : v.ownBlock = some a ∨ v.ownBlock = some b) : ∃ k c, v = .slice (some ⟨k, 0, none⟩) n c ∧ n ≤ c := by
  rcases hb with hb | hb
  · obtain ⟨c, h1⟩ := own_at h hb; exact ⟨_, c, h1⟩
  · obtain ⟨c, h1⟩ := own_at h hb; exact ⟨_, c, h1⟩
set_option maxRecDepth 100000 in
set_option maxHeartbeats 2000000 in
theorem iJoinIds_any (xs ys : List IdD) (A : Option Addr) (n c : Nat) (A' : Option Addr) (n' c' : Nat) (w : World) (hn : n = xs.length) (hwt : n + (cat IdD.c xs).wt ≤ 1048576) (hn' : n' = ys.length) (hwt' : n' + (cat IdD.c ys).wt ≤ 1048576) (h : Rep anyB w (.sl 32 2 n (cat IdD.c xs) .nil) [.slice A n c]) (h' : Rep anyB w (.sl 32 2 n' (cat IdD.c ys) .nil) [.slice A' n' c']) (hcap : n ≤ c) :
    Calls Try.prog 43 #[.slice A n c, .slice A' n' c'] w fun e w' => ∃ A2 m c2, e = .returned (.slice A2 m c2) ∧ m = (fJoinIds xs ys).length ∧ Mine w' w.heap.size (.sl 32 2 m (cat IdD.c (fJoinIds xs ys)) .nil) [.slice A2 m c2] ∧ Below w.heap.size w w' := by
  have HA := Lib.hid (fun W => iIdsOk_any xs A n c W hn hwt)
  have HB := Lib.hid (fun W => iIdsOk_any ys A' n' c' W hn' hwt')
  have HR := Lib.hid h
  have HR' := Lib.hid h'
  obtain ⟨R, hR⟩ : ∃ R, R = fJoinIds xs ys := ⟨_, rfl⟩
  rw [← hR]
  unfold fJoinIds at hR
  have HF := Lib.hid hR
  have HN := Lib.hid hn
  have HN' := Lib.hid hn'
  have hb1 : n ≤ 1048576 := by omega
  have hb2 : n' ≤ 1048576 := by omega
  clear h h' hR hn hn' hwt hwt' hcap
  go_enter Try.func43, Try.ntmps43
  go_wp2_with fail
  refine (HA.out _ HR.out).mono ?_; rintro e v1 ⟨rfl, hb⟩
  have B1 := Lib.hid hb; clear hb
  have fin : ∀ v : World, Below w.heap.size w v → R = [] → Mine v w.heap.size (.sl 32 2 0 (cat IdD.c R) .nil) [.slice none 0 0] := fun v hv e => by
    subst e
    exact mine_ids (l := []) (World.ownsRow_nil _ _ _ _) rfl
  have FIN := Lib.hid fin; clear fin
  cases ha : idsOkB xs with
  | false =>
    have hRz : R = [] := by rw [HF.out, ha, if_neg (by simp)]
    have HRZ := Lib.hid hRz; clear hRz
    go_wp2
    go_ret
    exact ⟨_, 0, 0, ret_eq rfl, by rw [HRZ.out]; rfl, FIN.out _ B1.out HRZ.out, B1.out⟩
  | true =>
    go_wp2_with fail
    refine (HB.out _ (HR'.out.below B1.out)).mono ?_; rintro e v2 ⟨rfl, hb⟩
    have B2 := Lib.hid (B1.out.trans (hb.mono B1.out.size)); clear hb
    cases hbb : idsOkB ys with
    | false =>
      have hRz : R = [] := by rw [HF.out, ha, hbb, if_neg (by simp)]
      have HRZ := Lib.hid hRz; clear hRz
      go_wp2
      go_ret
      exact ⟨_, 0, 0, ret_eq rfl, by rw [HRZ.out]; rfl, FIN.out _ B2.out HRZ.out, B2.out⟩
    | true =>
      have hRz : R = joinF xs ys := by rw [HF.out, ha, hbb, if_pos ⟨rfl, rfl⟩]
      have HRZ := Lib.hid hRz; clear hRz
      have HAS := Lib.hid (ids_asc ha)
      have HBS := Lib.hid (ids_asc hbb)
      clear ha hbb
      obtain ⟨cx, hrdx, hrcx, _⟩ := HR.out.row
      obtain rfl := rep_ids hrcx
      obtain ⟨cy, hrdy, hrcy, _⟩ := HR'.out.row
      obtain rfl := rep_ids hrcy
      have HX := Lib.hid (And.intro hrdx (own_ids w 0 xs).one)
      have HY := Lib.hid (And.intro hrdy (own_ids w 0 ys).one)
      clear hrdx hrcx hrdy hrcy
      have hown : (v2.alloc (.cells #[] 32)).ownsRow w.heap.size 32 2 (.slice (some ⟨v2.heap.size, 0, none⟩) 0 0) 0 [] := World.ownsRow_made v2 #[] 0 B2.out.size (by simp [maxLen]) rfl
      have HO := Lib.hid hown; clear hown
      go_wp2_with (first
        | (at_builtin; (refine wpList_app E_Id _ rfl _ _ rfl w.heap.size _ 0 [] rfl HO.out _ _ _ (idCells xs) rfl (HX.out.1.below (B2.out.alloc B2.out.size _)) HX.out.2 (by omega) (Nat.le_trans B2.out.size (by simp)) ?_; intro vv w3 hown3 hg3 hat3; simp only [Nat.zero_add, List.nil_append] at hown3; obtain ⟨k3, c3, rfl, hc3⟩ := own_at2 hown3 (show _ = some v2.heap.size ∨ _ = some _ from hat3); have HO3 := Lib.hid hown3; have B3 := Lib.hid (Below.grown ((B2.out).alloc (B2.out).size _) hg3 (Nat.le_trans (B2.out).size (by simp)) (fun k hk => (HO.out.lt k hk).1)); clear hown3 hg3 hat3))
        | (at_builtin; go_must (refine wpList_app E_Id _ rfl _ _ rfl w.heap.size _ n (idCells xs) rfl HO3.out _ _ _ (idCells ys) rfl (HY.out.1.below B3.out) HY.out.2 (by omega) B3.out.size ?_; intro vv w4 hown4 hg4 hat4; rw [← idCells_app] at hown4; obtain ⟨k4, c4, rfl, hc4⟩ := own_at2 hown4 hat4; have HO4 := Lib.hid hown4; have B4 := Lib.hid (Below.grown B3.out hg4 B3.out.size (fun k hk => (HO3.out.lt k hk).1)); clear hown4 hg4 hat4))
        | fail)
      refine (sort_own w.heap.size k4 (n + n') c4 (xs ++ ys) _ (by rw [List.length_append, ← show n = xs.length from HN.out, ← show n' = ys.length from HN'.out]) (by omega) HO4.out).mono ?_
      rintro e w5 ⟨rfl, zs, hp, hs, ho5, hg5⟩
      have HP := Lib.hid hp
      have HS := Lib.hid hs
      have HO5 := Lib.hid ho5
      have B5 := Lib.hid (Below.grown B4.out hg5 B4.out.size (fun k hk => (HO4.out.lt k hk).1))
      clear hp hs ho5 hg5
      go_wp2_with fail
      refine (compact_own w.heap.size (n + n') c4 (some ⟨k4, 0, none⟩) zs _ (by rw [HP.out.length_eq, List.length_append, ← show n = xs.length from HN.out, ← show n' = ys.length from HN'.out]) (by omega) HO5.out).mono ?_
      rintro e w6 ⟨m, rfl, hm, ho6, hg6⟩
      have hj : compactF zs = R := by rw [HRZ.out]; exact sorted_join HAS.out HBS.out HP.out HS.out
      rw [hj] at hm ho6
      have HM := Lib.hid (mine_ids ho6 hm)
      have HL := Lib.hid hm
      have B6 := Lib.hid (Below.grown B5.out hg6 B5.out.size (fun k hk => (HO5.out.lt k hk).1))
      clear hm ho6 hg6 hj
      go_wp2
      go_ret
      exact ⟨_, m, c4, ret_eq rfl, HL.out, HM.out, B6.out⟩

end Go.Proofs.Ytbdblfpepnoafaa
