/-
  The law on InstsOk holds for all arguments. No condition.
-/
import Derived.Test.YtbdblfpepnoafaaEq
import Derived.Test.YtbdblfpepnoafaaOpen
import Derived.Test.YtbdblfpepnoafaaInsts
import Derived.Test.YtbdblfpepnoafaaMk
namespace Go.Proofs.Ytbdblfpepnoafaa
open Go.RowKit Go.ChangeShapes Go.WideShapes Go.ChangeAt
open Go.ChangeMaps (open_string)

set_option maxRecDepth 100000 in
set_option maxHeartbeats 2000000 in
theorem lInstsOk_all (x0 : List InstD) (A0 : Option Addr) (n0 c0 : Nat) (w : World) (hn0 : n0 = x0.length) (hm0 : n0 ≤ 9223372036854775807) (hok0 : (cat InstD.c x0).ok) (h0 : Rep anyB w (.sl 49 16 n0 (cat InstD.c x0) .nil) [.slice A0 n0 c0]) :
    Calls Try.prog 8 #[.slice A0 n0 c0] w fun e w' => e = .returned (.bool true) ∧ Below w.heap.size w w' := by
  have HN0 := Lib.hid hn0; clear hn0
  have OK0 := Lib.hid hok0; clear hok0
  have RA0 := Lib.hid h0; clear h0
  by_cases cc0 : (((n0 + (cat InstD.c x0).wt) : Nat) : Int) ≤ 1048576
  · skip
    go_enter Try.func8, Try.ntmps8
    go_wp2_with (fail)
    refine (szInstS_yes x0 _ A0 n0 c0 _ HN0.out (by omega) (by omega) hm0 OK0.out (RA0.out.below (by repeat' (first | with_reducible exact Below.refl _ _ | with_reducible refine Below.alloc ?_ ?_ _ | (simp; done) | (simp; omega) | omega))) (by omega)).mono ?_; rintro e v1 ⟨q0, rfl, ⟨g0a, g0b⟩, hq, hb⟩
    have HQ0 := Lib.hid hq; clear hq
    have BW := Lib.hid (show Below w.heap.size w v1 from Below.trans (by repeat' (first | with_reducible exact Below.refl _ _ | with_reducible refine Below.alloc ?_ ?_ _ | (simp; done) | (simp; omega) | omega)) (hb.mono (by first | (simp; done) | (simp; omega) | omega)))
    clear hb
    go_wp2_with (fail)
    refine (toInstS_any x0 A0 n0 c0 _ HN0.out (by omega) (RA0.out.below BW.out)).mono ?_; rintro e v2 ⟨A'1, c'2, rfl, hM, hb⟩
    have R3 := Lib.hid (hM.rep.any); clear hM
    have X := Lib.hid (show Below w.heap.size w v2 from BW.out.trans (hb.mono BW.out.size)); clear BW
    have BW := Lib.hid X.out; clear X
    clear hb
    go_wp2_with (fail)
    refine (sInstsOk_any x0 A'1 n0 c'2 _ HN0.out (by omega) R3.out).mono ?_; rintro e v3 ⟨rfl, hb⟩
    have X := Lib.hid (show Below w.heap.size w v3 from BW.out.trans (hb.mono BW.out.size)); clear BW
    have BW := Lib.hid X.out; clear X
    have X := Lib.hid (R3.out.below hb); clear R3
    have R3 := Lib.hid X.out; clear X
    clear hb
    go_wp2_with (fail)
    refine (toInstS_any x0 A0 n0 c0 _ HN0.out (by omega) (RA0.out.below BW.out)).mono ?_; rintro e v4 ⟨A'4, c'5, rfl, hM, hb⟩
    have R6 := Lib.hid (hM.rep.any); clear hM
    have X := Lib.hid (show Below w.heap.size w v4 from BW.out.trans (hb.mono BW.out.size)); clear BW
    have BW := Lib.hid X.out; clear X
    have X := Lib.hid (R3.out.below hb); clear R3
    have R3 := Lib.hid X.out; clear X
    clear hb
    go_wp2_with (fail)
    refine (iInstsOk_any x0 A'4 n0 c'5 _ HN0.out (by omega) R6.out).mono ?_; rintro e v5 ⟨rfl, hb⟩
    have X := Lib.hid (show Below w.heap.size w v5 from BW.out.trans (hb.mono BW.out.size)); clear BW
    have BW := Lib.hid X.out; clear X
    have X := Lib.hid (R3.out.below hb); clear R3
    have R3 := Lib.hid X.out; clear X
    have X := Lib.hid (R6.out.below hb); clear R6
    have R6 := Lib.hid X.out; clear X
    clear hb
    go_wp2_with (fail)
    refine (toInstS_any x0 A0 n0 c0 _ HN0.out (by omega) (RA0.out.below BW.out)).mono ?_; rintro e v6 ⟨A'7, c'8, rfl, hM, hb⟩
    have R9 := Lib.hid (hM.rep.any); clear hM
    have X := Lib.hid (show Below w.heap.size w v6 from BW.out.trans (hb.mono BW.out.size)); clear BW
    have BW := Lib.hid X.out; clear X
    have X := Lib.hid (R3.out.below hb); clear R3
    have R3 := Lib.hid X.out; clear X
    have X := Lib.hid (R6.out.below hb); clear R6
    have R6 := Lib.hid X.out; clear X
    clear hb
    go_wp2_with (fail)
    refine (eqInstS_any x0 A'4 A'7 n0 c'5 c'8 _ HN0.out (by omega) R6.out R9.out).mono ?_; rintro e v7 ⟨rfl, hb⟩
    have X := Lib.hid (show Below w.heap.size w v7 from BW.out.trans (hb.mono BW.out.size)); clear BW
    have BW := Lib.hid X.out; clear X
    have X := Lib.hid (R3.out.below hb); clear R3
    have R3 := Lib.hid X.out; clear X
    have X := Lib.hid (R6.out.below hb); clear R6
    have R6 := Lib.hid X.out; clear X
    have X := Lib.hid (R9.out.below hb); clear R9
    have R9 := Lib.hid X.out; clear X
    clear hb
    go_wp2
    go_ret
    exact ⟨ret_eq (by first | rfl | simp), BW.out⟩
  · skip
    go_enter Try.func8, Try.ntmps8
    go_wp2_with (fail)
    refine (szInstS_no x0 _ A0 n0 c0 _ HN0.out (by omega) (by omega) hm0 OK0.out (RA0.out.below (by repeat' (first | with_reducible exact Below.refl _ _ | with_reducible refine Below.alloc ?_ ?_ _ | (simp; done) | (simp; omega) | omega))) (by omega)).mono ?_; rintro e v1 ⟨rfl, hb⟩
    have BW := Lib.hid (show Below w.heap.size w v1 from Below.trans (by repeat' (first | with_reducible exact Below.refl _ _ | with_reducible refine Below.alloc ?_ ?_ _ | (simp; done) | (simp; omega) | omega)) (hb.mono (by first | (simp; done) | (simp; omega) | omega)))
    clear hb
    go_wp2
    go_ret
    exact ⟨ret_eq (by first | rfl | simp), BW.out⟩
set_option maxRecDepth 100000 in
theorem FnExactInstsOk_lifted (os : Os) (started : os.Started) (H : Type) (enc : TypeId × Value → H) :
    ReturnsInHanded {} Try.checked os 8 .any (Rows.fnExactInstsOkSpec.pre6 enc Try.prog Try.f8 Rows.fnExactInstsOkRow.domain false) (Rows.fnExactInstsOkSpec.post enc Try.prog Try.f8 false true false false) := by
  refine returnsInHanded_of_change (C := Try.checked) own started (by kernel_rfl) Try.func8
    (ChangeSpec.witness6 (enc := enc) (C := Try.checked) false ⟨#[], #[.slice none 0 0], []⟩ 8 (by kernel_rfl) (by kernel_rfl) (by kernel_rfl) (by kernel_rfl)) ?_
  intro W base args ds gs before hval0 hW _ _
  have hval : ∀ (j : Nat) t v, Try.f8.params[j]? = some t → args[j]? = some v → Value.okWide Try.prog W .any base t v := hval0
  have hW' := hW
  obtain ⟨p, q, hA0, hV, rfl, hfz, hnd⟩ := hW
  have hA : DataW.TrodAll enc Try.prog W 0 (fun _ => true) true Try.f8.params.toList args.toList ds p := hA0
  rw [Try.params8] at hA hval
  obtain ⟨v0, vs0, d0, ds0, p0, q0, hargs, rfl, rfl, h0, r0⟩ := trodAll_cons hA
  obtain ⟨rfl, rfl, rfl⟩ := trodAll_nil r0
  obtain rfl : args = #[v0] := Array.ext' hargs
  obtain ⟨x0, A0, n0, c0, rfl, hn0, hm0, ok0, rp0⟩ := openV_InstS (hval 0 46 v0 rfl rfl) h0
  refine (lInstsOk_all x0 A0 n0 c0 W hn0 hm0 ok0 rp0).mono fun e W' ⟨he, hb⟩ => ?_
  subst he
  refine ⟨_, rfl, law_post (tb := 4) laidOut (by kernel_rfl) rfl Try.underlying4 rfl ?_ hW' hb⟩
  intro ds hl
  rw [Try.params8] at hl
  match ds, hl with
  | [_], _ => rfl
theorem FnExactInstsOk_holds : Rows.FnExactInstsOkSaid :=
  OpenClaim.holds_of_wide 8 Try.f8 rfl rfl rfl rfl rfl rfl rfl ⟨rfl, rfl, rfl, rfl, rfl⟩ rfl rfl rfl rfl rfl (by kernel_rfl) Try.func8 (by kernel_rfl)
    (of_decide_eq_true (by kernel_rfl)) (by unfold Func.isWrapper; first | (rw [if_pos (by decide +kernel)]; kernel_rfl) | (rw [if_neg (by decide +kernel)]; exact ⟨rfl, rfl⟩))
    (fun os started H enc _ => FnExactInstsOk_lifted os started H enc)
end Go.Proofs.Ytbdblfpepnoafaa
