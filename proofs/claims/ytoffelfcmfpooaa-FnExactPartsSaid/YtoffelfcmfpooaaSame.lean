/-
  Two commands alike: impl and spec. Conditions: as each contract names them.
-/
import Derived.Test.YtoffelfcmfpooaaMk
import Derived.Test.YtoffelfcmfpooaaStrs
namespace Go.Proofs.Ytoffelfcmfpooaa
open Go.RowKit

def cmdSame (x y : CmdD) : Bool := decide (x = y)


set_option maxRecDepth 100000 in
set_option maxHeartbeats 4000000 in
theorem iSameCmd_any (x y : CmdD) (cs cs' : List Value) (w : World) (hwt : x.c.wt ≤ 1048576) (hwt' : y.c.wt ≤ 1048576) (h : Rep anyB w x.c cs) (h' : Rep anyB w y.c cs') :
    Calls Try.prog 108 #[.agg cs.toArray, .agg cs'.toArray] w fun e w' => e = .returned (.bool (cmdSame x y)) ∧ Below w.heap.size w w' := by
  have hw1 : x.chunks.length ≤ 1048576 := by have h0 : x.c.wt = x.set.length + (x.name.length + (x.tag.length + (x.chunks.length + (cat strC x.chunks).wt + 0))) := rfl; omega
  have hw2 : y.chunks.length ≤ 1048576 := by have h0 : y.c.wt = y.set.length + (y.name.length + (y.tag.length + (y.chunks.length + (cat strC y.chunks).wt + 0))) := rfl; omega
  obtain ⟨A0, k0, rfl, s0⟩ := CmdD.open h
  obtain ⟨A1, k1, rfl, s1⟩ := CmdD.open h'
  obtain ⟨a0, a1, a2, a3, a4, a5, a6, xs⟩ := x
  obtain ⟨b0, b1, b2, b3, b4, b5, b6, ys⟩ := y
  simp only [] at s0 s1 hw1 hw2 ⊢
  have S0 := Lib.hid s0.strs
  have S1 := Lib.hid s1.strs
  clear s0 s1 h h' hwt hwt'
  by_cases h0 : a0 = b0
  · subst h0
    by_cases h1 : a1 = b1
    · subst h1
      by_cases h2 : a2 = b2
      · subst h2
        by_cases h3 : a3 = b3
        · subst h3
          by_cases h4 : a4 = b4
          · subst h4
            by_cases h5 : a5 = b5
            · subst h5
              by_cases h6 : a6 = b6
              · subst h6
                have HR := Lib.hid (show cmdSame (⟨a0, a1, a2, a3, a4, a5, a6, xs⟩ : CmdD) (⟨a0, a1, a2, a3, a4, a5, a6, ys⟩ : CmdD) = decide (xs = ys) by simp [cmdSame])
                go_enter Try.func108, Try.ntmps108
                go_wp2_with fail
                refine (EqualStr_any _ _ xs ys _ (by omega) (by omega) (S0.out.below (by repeat' (first | with_reducible exact Below.refl _ _ | with_reducible exact BW.out | with_reducible refine Below.setCell ?_ ?_ _ | with_reducible refine Below.alloc ?_ ?_ _ | with_reducible refine Below.drew ?_ | (simp; done) | (simp; omega) | omega))) (S1.out.below (by repeat' (first | with_reducible exact Below.refl _ _ | with_reducible exact BW.out | with_reducible refine Below.setCell ?_ ?_ _ | with_reducible refine Below.alloc ?_ ?_ _ | with_reducible refine Below.drew ?_ | (simp; done) | (simp; omega) | omega)))).mono ?_; rintro e v1 ⟨rfl, hb⟩
                have BW := Lib.hid (show Below w.heap.size w v1 from Below.trans (by repeat' (first | with_reducible exact Below.refl _ _ | with_reducible exact BW.out | with_reducible refine Below.setCell ?_ ?_ _ | with_reducible refine Below.alloc ?_ ?_ _ | with_reducible refine Below.drew ?_ | (simp; done) | (simp; omega) | omega)) (hb.mono (by first | (simp; done) | (simp; omega) | omega))); clear hb
                go_wp2
                go_ret
                exact ⟨ret_eq (by rw [HR.out]; rfl), BW.out⟩
              · have HR := Lib.hid (show cmdSame (⟨a0, a1, a2, a3, a4, a5, a6, xs⟩ : CmdD) (⟨a0, a1, a2, a3, a4, a5, b6, ys⟩ : CmdD) = false by simp [cmdSame, h6])
                have hb6 : (a6 == b6) = false := by simpa using h6
                clear h6
                go_enter Try.func108, Try.ntmps108
                go_wp2
                go_ret
                exact ⟨ret_eq (by rw [HR.out]; rfl), (by repeat' (first | with_reducible exact Below.refl _ _ | with_reducible exact BW.out | with_reducible refine Below.setCell ?_ ?_ _ | with_reducible refine Below.alloc ?_ ?_ _ | with_reducible refine Below.drew ?_ | (simp; done) | (simp; omega) | omega))⟩
            · have HR := Lib.hid (show cmdSame (⟨a0, a1, a2, a3, a4, a5, a6, xs⟩ : CmdD) (⟨a0, a1, a2, a3, a4, b5, b6, ys⟩ : CmdD) = false by simp [cmdSame, h5])
              have hb5 : (a5 == b5) = false := by simpa using h5
              clear h5
              go_enter Try.func108, Try.ntmps108
              go_wp2
              go_ret
              exact ⟨ret_eq (by rw [HR.out]; rfl), (by repeat' (first | with_reducible exact Below.refl _ _ | with_reducible exact BW.out | with_reducible refine Below.setCell ?_ ?_ _ | with_reducible refine Below.alloc ?_ ?_ _ | with_reducible refine Below.drew ?_ | (simp; done) | (simp; omega) | omega))⟩
          · have HR := Lib.hid (show cmdSame (⟨a0, a1, a2, a3, a4, a5, a6, xs⟩ : CmdD) (⟨a0, a1, a2, a3, b4, b5, b6, ys⟩ : CmdD) = false by simp [cmdSame, h4])
            have hb4 : (a4 == b4) = false := by simpa using h4
            clear h4
            go_enter Try.func108, Try.ntmps108
            go_wp2
            go_ret
            exact ⟨ret_eq (by rw [HR.out]; rfl), (by repeat' (first | with_reducible exact Below.refl _ _ | with_reducible exact BW.out | with_reducible refine Below.setCell ?_ ?_ _ | with_reducible refine Below.alloc ?_ ?_ _ | with_reducible refine Below.drew ?_ | (simp; done) | (simp; omega) | omega))⟩
        · have HR := Lib.hid (show cmdSame (⟨a0, a1, a2, a3, a4, a5, a6, xs⟩ : CmdD) (⟨a0, a1, a2, b3, b4, b5, b6, ys⟩ : CmdD) = false by simp [cmdSame, h3])
          have hb3 : (a3 == b3) = false := by simpa using h3
          clear h3
          go_enter Try.func108, Try.ntmps108
          go_wp2
          go_ret
          exact ⟨ret_eq (by rw [HR.out]; rfl), (by repeat' (first | with_reducible exact Below.refl _ _ | with_reducible exact BW.out | with_reducible refine Below.setCell ?_ ?_ _ | with_reducible refine Below.alloc ?_ ?_ _ | with_reducible refine Below.drew ?_ | (simp; done) | (simp; omega) | omega))⟩
      · have HR := Lib.hid (show cmdSame (⟨a0, a1, a2, a3, a4, a5, a6, xs⟩ : CmdD) (⟨a0, a1, b2, b3, b4, b5, b6, ys⟩ : CmdD) = false by simp [cmdSame, h2])
        have hb2 : (a2 == b2) = false := by simpa using h2
        clear h2
        go_enter Try.func108, Try.ntmps108
        go_wp2
        go_ret
        exact ⟨ret_eq (by rw [HR.out]; rfl), (by repeat' (first | with_reducible exact Below.refl _ _ | with_reducible exact BW.out | with_reducible refine Below.setCell ?_ ?_ _ | with_reducible refine Below.alloc ?_ ?_ _ | with_reducible refine Below.drew ?_ | (simp; done) | (simp; omega) | omega))⟩
    · have HR := Lib.hid (show cmdSame (⟨a0, a1, a2, a3, a4, a5, a6, xs⟩ : CmdD) (⟨a0, b1, b2, b3, b4, b5, b6, ys⟩ : CmdD) = false by simp [cmdSame, h1])
      have hb1 : (a1 == b1) = false := by simpa using h1
      clear h1
      go_enter Try.func108, Try.ntmps108
      go_wp2
      go_ret
      exact ⟨ret_eq (by rw [HR.out]; rfl), (by repeat' (first | with_reducible exact Below.refl _ _ | with_reducible exact BW.out | with_reducible refine Below.setCell ?_ ?_ _ | with_reducible refine Below.alloc ?_ ?_ _ | with_reducible refine Below.drew ?_ | (simp; done) | (simp; omega) | omega))⟩
  · have HR := Lib.hid (show cmdSame (⟨a0, a1, a2, a3, a4, a5, a6, xs⟩ : CmdD) (⟨b0, b1, b2, b3, b4, b5, b6, ys⟩ : CmdD) = false by simp [cmdSame, h0])
    have hb0 : (a0 == b0) = false := by simpa using h0
    clear h0
    go_enter Try.func108, Try.ntmps108
    go_wp2
    go_ret
    exact ⟨ret_eq (by rw [HR.out]; rfl), (by repeat' (first | with_reducible exact Below.refl _ _ | with_reducible exact BW.out | with_reducible refine Below.setCell ?_ ?_ _ | with_reducible refine Below.alloc ?_ ?_ _ | with_reducible refine Below.drew ?_ | (simp; done) | (simp; omega) | omega))⟩


set_option maxRecDepth 100000 in
set_option maxHeartbeats 4000000 in
theorem sSameCmd_any (x y : CmdD) (cs cs' : List Value) (w : World) (hwt : x.c.wt ≤ 1048576) (hwt' : y.c.wt ≤ 1048576) (h : Rep anyB w x.c cs) (h' : Rep anyB w y.c cs') :
    Calls Try.prog 86 #[.agg cs.toArray, .agg cs'.toArray] w fun e w' => e = .returned (.bool (cmdSame x y)) ∧ Below w.heap.size w w' := by
  have hw1 : x.chunks.length ≤ 1048576 := by have h0 : x.c.wt = x.set.length + (x.name.length + (x.tag.length + (x.chunks.length + (cat strC x.chunks).wt + 0))) := rfl; omega
  have hw2 : y.chunks.length ≤ 1048576 := by have h0 : y.c.wt = y.set.length + (y.name.length + (y.tag.length + (y.chunks.length + (cat strC y.chunks).wt + 0))) := rfl; omega
  obtain ⟨A0, k0, rfl, s0⟩ := CmdD.open h
  obtain ⟨A1, k1, rfl, s1⟩ := CmdD.open h'
  obtain ⟨a0, a1, a2, a3, a4, a5, a6, xs⟩ := x
  obtain ⟨b0, b1, b2, b3, b4, b5, b6, ys⟩ := y
  simp only [] at s0 s1 hw1 hw2 ⊢
  have S0 := Lib.hid s0.strs
  have S1 := Lib.hid s1.strs
  clear s0 s1 h h' hwt hwt'
  by_cases h0 : a0 = b0
  · subst h0
    by_cases h1 : a1 = b1
    · subst h1
      by_cases h2 : a2 = b2
      · subst h2
        by_cases h3 : a3 = b3
        · subst h3
          by_cases h4 : a4 = b4
          · subst h4
            by_cases h5 : a5 = b5
            · subst h5
              by_cases h6 : a6 = b6
              · subst h6
                have HR := Lib.hid (show cmdSame (⟨a0, a1, a2, a3, a4, a5, a6, xs⟩ : CmdD) (⟨a0, a1, a2, a3, a4, a5, a6, ys⟩ : CmdD) = decide (xs = ys) by simp [cmdSame])
                go_enter Try.func86, Try.ntmps86
                go_wp2_with fail
                refine (l4Texts_any _ _ xs ys _ (by omega) (by omega) (S0.out.below (by repeat' (first | with_reducible exact Below.refl _ _ | with_reducible exact BW.out | with_reducible refine Below.setCell ?_ ?_ _ | with_reducible refine Below.alloc ?_ ?_ _ | with_reducible refine Below.drew ?_ | (simp; done) | (simp; omega) | omega))) (S1.out.below (by repeat' (first | with_reducible exact Below.refl _ _ | with_reducible exact BW.out | with_reducible refine Below.setCell ?_ ?_ _ | with_reducible refine Below.alloc ?_ ?_ _ | with_reducible refine Below.drew ?_ | (simp; done) | (simp; omega) | omega)))).mono ?_; rintro e v1 ⟨rfl, hb⟩
                have BW := Lib.hid (show Below w.heap.size w v1 from Below.trans (by repeat' (first | with_reducible exact Below.refl _ _ | with_reducible exact BW.out | with_reducible refine Below.setCell ?_ ?_ _ | with_reducible refine Below.alloc ?_ ?_ _ | with_reducible refine Below.drew ?_ | (simp; done) | (simp; omega) | omega)) (hb.mono (by first | (simp; done) | (simp; omega) | omega))); clear hb
                go_wp2
                go_ret
                exact ⟨ret_eq (by rw [HR.out]; rfl), BW.out⟩
              · have HR := Lib.hid (show cmdSame (⟨a0, a1, a2, a3, a4, a5, a6, xs⟩ : CmdD) (⟨a0, a1, a2, a3, a4, a5, b6, ys⟩ : CmdD) = false by simp [cmdSame, h6])
                have hb6 : (a6 == b6) = false := by simpa using h6
                clear h6
                go_enter Try.func86, Try.ntmps86
                go_wp2
                go_ret
                exact ⟨ret_eq (by rw [HR.out]; rfl), (by repeat' (first | with_reducible exact Below.refl _ _ | with_reducible exact BW.out | with_reducible refine Below.setCell ?_ ?_ _ | with_reducible refine Below.alloc ?_ ?_ _ | with_reducible refine Below.drew ?_ | (simp; done) | (simp; omega) | omega))⟩
            · have HR := Lib.hid (show cmdSame (⟨a0, a1, a2, a3, a4, a5, a6, xs⟩ : CmdD) (⟨a0, a1, a2, a3, a4, b5, b6, ys⟩ : CmdD) = false by simp [cmdSame, h5])
              have hb5 : (a5 == b5) = false := by simpa using h5
              clear h5
              go_enter Try.func86, Try.ntmps86
              go_wp2
              go_ret
              exact ⟨ret_eq (by rw [HR.out]; rfl), (by repeat' (first | with_reducible exact Below.refl _ _ | with_reducible exact BW.out | with_reducible refine Below.setCell ?_ ?_ _ | with_reducible refine Below.alloc ?_ ?_ _ | with_reducible refine Below.drew ?_ | (simp; done) | (simp; omega) | omega))⟩
          · have HR := Lib.hid (show cmdSame (⟨a0, a1, a2, a3, a4, a5, a6, xs⟩ : CmdD) (⟨a0, a1, a2, a3, b4, b5, b6, ys⟩ : CmdD) = false by simp [cmdSame, h4])
            have hb4 : (a4 == b4) = false := by simpa using h4
            clear h4
            go_enter Try.func86, Try.ntmps86
            go_wp2
            go_ret
            exact ⟨ret_eq (by rw [HR.out]; rfl), (by repeat' (first | with_reducible exact Below.refl _ _ | with_reducible exact BW.out | with_reducible refine Below.setCell ?_ ?_ _ | with_reducible refine Below.alloc ?_ ?_ _ | with_reducible refine Below.drew ?_ | (simp; done) | (simp; omega) | omega))⟩
        · have HR := Lib.hid (show cmdSame (⟨a0, a1, a2, a3, a4, a5, a6, xs⟩ : CmdD) (⟨a0, a1, a2, b3, b4, b5, b6, ys⟩ : CmdD) = false by simp [cmdSame, h3])
          have hb3 : (a3 == b3) = false := by simpa using h3
          clear h3
          go_enter Try.func86, Try.ntmps86
          go_wp2
          go_ret
          exact ⟨ret_eq (by rw [HR.out]; rfl), (by repeat' (first | with_reducible exact Below.refl _ _ | with_reducible exact BW.out | with_reducible refine Below.setCell ?_ ?_ _ | with_reducible refine Below.alloc ?_ ?_ _ | with_reducible refine Below.drew ?_ | (simp; done) | (simp; omega) | omega))⟩
      · have HR := Lib.hid (show cmdSame (⟨a0, a1, a2, a3, a4, a5, a6, xs⟩ : CmdD) (⟨a0, a1, b2, b3, b4, b5, b6, ys⟩ : CmdD) = false by simp [cmdSame, h2])
        have hb2 : (a2 == b2) = false := by simpa using h2
        clear h2
        go_enter Try.func86, Try.ntmps86
        go_wp2
        go_ret
        exact ⟨ret_eq (by rw [HR.out]; rfl), (by repeat' (first | with_reducible exact Below.refl _ _ | with_reducible exact BW.out | with_reducible refine Below.setCell ?_ ?_ _ | with_reducible refine Below.alloc ?_ ?_ _ | with_reducible refine Below.drew ?_ | (simp; done) | (simp; omega) | omega))⟩
    · have HR := Lib.hid (show cmdSame (⟨a0, a1, a2, a3, a4, a5, a6, xs⟩ : CmdD) (⟨a0, b1, b2, b3, b4, b5, b6, ys⟩ : CmdD) = false by simp [cmdSame, h1])
      have hb1 : (a1 == b1) = false := by simpa using h1
      clear h1
      go_enter Try.func86, Try.ntmps86
      go_wp2
      go_ret
      exact ⟨ret_eq (by rw [HR.out]; rfl), (by repeat' (first | with_reducible exact Below.refl _ _ | with_reducible exact BW.out | with_reducible refine Below.setCell ?_ ?_ _ | with_reducible refine Below.alloc ?_ ?_ _ | with_reducible refine Below.drew ?_ | (simp; done) | (simp; omega) | omega))⟩
  · have HR := Lib.hid (show cmdSame (⟨a0, a1, a2, a3, a4, a5, a6, xs⟩ : CmdD) (⟨b0, b1, b2, b3, b4, b5, b6, ys⟩ : CmdD) = false by simp [cmdSame, h0])
    have hb0 : (a0 == b0) = false := by simpa using h0
    clear h0
    go_enter Try.func86, Try.ntmps86
    go_wp2
    go_ret
    exact ⟨ret_eq (by rw [HR.out]; rfl), (by repeat' (first | with_reducible exact Below.refl _ _ | with_reducible exact BW.out | with_reducible refine Below.setCell ?_ ?_ _ | with_reducible refine Below.alloc ?_ ?_ _ | with_reducible refine Below.drew ?_ | (simp; done) | (simp; omega) | omega))⟩


attribute [irreducible] cmdSame

end Go.Proofs.Ytoffelfcmfpooaa
