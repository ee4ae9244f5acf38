/-
  Copies of texts and Ids: impl's copyTexts, copyIds. Conditions: a bound on the sizes.
-/
import Derived.Test.YtoffelfcmfpooaaEq
import Derived.Test.YtoffelfcmfpooaaFlat
namespace Go.Proofs.Ytoffelfcmfpooaa
open Go.RowKit
theorem strC_flat (s : List UInt8) : (strC s).flat = true := rfl

set_option maxRecDepth 100000 in
set_option maxHeartbeats 1000000 in
theorem copyTexts_any (xs : List (List UInt8)) (A : Option Addr) (n c : Nat) (w : World) (hn : n ≤ 1048576) (h : Rep anyB w (.sl 9 1 n (cat strC xs) .nil) [.slice A n c]) :
    Calls Try.prog 93 #[.slice A n c] w fun e w' => ∃ A' c', e = .returned (.slice A' n c') ∧ Mine w' w.heap.size (.sl 9 1 n (cat strC xs) .nil) [.slice A' n c'] ∧ Below w.heap.size w w' := by
  obtain ⟨cells, hrd, hrc, hwd⟩ := h.row
  have HRD := Lib.hid hrd
  have HRC := Lib.hid hrc
  have HWD := Lib.hid hwd
  clear h hrd hrc hwd
  go_enter Try.func93, Try.ntmps93
  go_wp2_with (at_builtin; go_must (refine wpList_app E_str _ rfl _ (.tmp 3) rfl w.heap.size (.slice none 0 0) 0 [] rfl ⟨by simp, .inl ⟨rfl, rfl⟩⟩ _ _ _ cells rfl HRD.out HRC.out.one (by omega) (Nat.le_refl _) ?_; intro vv w2 hown hg hat; have hb2 : Below w.heap.size w w2 := Below.grown (Below.refl _ _) hg (Nat.le_refl _) (fun k hk => by cases hk); rw [Nat.zero_add, List.nil_append] at hown; obtain ⟨Av, cv, rfl, _⟩ := SlR.of_own hown; have HB2 := Lib.hid hb2; have HO := Lib.hid hown; clear hb2 hown hg hat))
  go_ret
  exact ⟨_, _, rfl, ⟨_, nodup_own _, mine_row (cat_flat strC_flat xs) HRC.out HWD.out HO.out rfl⟩, HB2.out⟩

theorem IdD.flat (x : IdD) : x.c.flat = true := rfl

set_option maxRecDepth 100000 in
set_option maxHeartbeats 1000000 in
theorem copyIds_any (xs : List IdD) (A : Option Addr) (n c : Nat) (w : World) (hn : n ≤ 1048576) (h : Rep anyB w (.sl 36 2 n (cat IdD.c xs) .nil) [.slice A n c]) :
    Calls Try.prog 74 #[.slice A n c] w fun e w' => ∃ A' c', e = .returned (.slice A' n c') ∧ Mine w' w.heap.size (.sl 36 2 n (cat IdD.c xs) .nil) [.slice A' n c'] ∧ Below w.heap.size w w' := by
  obtain ⟨cells, hrd, hrc, hwd⟩ := h.row
  have HRD := Lib.hid hrd
  have HRC := Lib.hid hrc
  have HWD := Lib.hid hwd
  clear h hrd hrc hwd
  go_enter Try.func74, Try.ntmps74
  go_wp2_with (at_builtin; go_must (refine wpList_app E_Id _ rfl _ (.tmp 3) rfl w.heap.size (.slice none 0 0) 0 [] rfl ⟨by simp, .inl ⟨rfl, rfl⟩⟩ _ _ _ cells rfl HRD.out HRC.out.one (by omega) (Nat.le_refl _) ?_; intro vv w2 hown hg hat; have hb2 : Below w.heap.size w w2 := Below.grown (Below.refl _ _) hg (Nat.le_refl _) (fun k hk => by cases hk); rw [Nat.zero_add, List.nil_append] at hown; obtain ⟨Av, cv, rfl, _⟩ := SlR.of_own hown; have HB2 := Lib.hid hb2; have HO := Lib.hid hown; clear hb2 hown hg hat))
  go_ret
  exact ⟨_, _, rfl, ⟨_, nodup_own _, mine_row (cat_flat IdD.flat xs) HRC.out HWD.out HO.out rfl⟩, HB2.out⟩

end Go.Proofs.Ytoffelfcmfpooaa
