/-
  The law on Parts holds for all arguments. No condition.
-/
import Derived.Test.YtoffelfcmfpooaaEq
import Derived.Test.YtoffelfcmfpooaaOpen
import Derived.Test.YtoffelfcmfpooaaMxE
import Derived.Test.YtoffelfcmfpooaaInstAtI
import Derived.Test.YtoffelfcmfpooaaMxD
import Derived.Test.YtoffelfcmfpooaaMkB
namespace Go.Proofs.Ytoffelfcmfpooaa
open Go.RowKit Go.ChangeShapes Go.WideShapes Go.ChangeAt
open Go.ChangeMaps (open_string)

attribute [local irreducible] markL marks mks cts 
set_option maxRecDepth 100000 in
set_option maxHeartbeats 4000000 in
theorem lParts_all (x0 : List InstD) (A0 : Option Addr) (n0 c0 : Nat) (w : World) (hn0 : n0 = x0.length) (hm0 : n0 ≤ 9223372036854775807) (hok0 : (cat InstD.c x0).ok) (h0 : Rep anyB w (.sl 40 16 n0 (cat InstD.c x0) .nil) [.slice A0 n0 c0]) :
    Calls Try.prog 4 #[.slice A0 n0 c0] w fun e w' => e = .returned (.bool true) ∧ Below w.heap.size w w' := by
  have HN0 := Lib.hid hn0; clear hn0
  have OK0 := Lib.hid hok0; clear hok0
  have RA0 := Lib.hid h0; clear h0
  by_cases cc0 : (((n0 + (cat InstD.c x0).wt) : Nat) : Int) ≤ 1048576
  · skip
    have hs := fun B0 C0 W g0 => sParts_any x0 B0 n0 C0 W HN0.out (by omega) g0
    have hi := fun B0 C0 W g0 => iParts_any x0 B0 n0 C0 W HN0.out (by omega) g0
    have hbd := bParts x0 (by have := HN0.out; omega)
    generalize fParts x0 = r0 at hs hi hbd
    have Hs := Lib.hid hs; clear hs
    have Hi := Lib.hid hi; clear hi
    obtain ⟨hwt0, hcn0⟩ := hbd
    have HWT := Lib.hid hwt0
    have HCN := Lib.hid hcn0
    clear hwt0 hcn0
    have HCX0 := Lib.hid (InstD.cts_le x0)
    go_enter Try.func4, Try.ntmps4
    go_wp2_with (fail)
    refine (szInstS_yes x0 _ A0 n0 c0 _ HN0.out (by omega) (by omega) hm0 OK0.out (RA0.out.below (by repeat' (first | with_reducible exact Below.refl _ _ | with_reducible refine Below.alloc ?_ ?_ _ | (simp; done) | (simp; omega) | omega))) (by omega)).mono ?_; rintro e v1 ⟨q0, rfl, ⟨g0a, g0b⟩, hq, hb⟩
    have HQ0 := Lib.hid hq; clear hq
    have BW := Lib.hid (show Below w.heap.size w v1 from Below.trans (by repeat' (first | with_reducible exact Below.refl _ _ | with_reducible refine Below.alloc ?_ ?_ _ | (simp; done) | (simp; omega) | omega)) (hb.mono (by first | (simp; done) | (simp; omega) | omega)))
    clear hb
    go_wp2_with (fail)
    have HSZ := Lib.hid BW.out.size
    refine (toInstS_any x0 A0 n0 c0 _ HN0.out (by omega) (RA0.out.below BW.out)).mono ?_; rintro e v2 ⟨A'1, c'2, rfl, hM, hb⟩
    obtain ⟨F4, hnd, ho⟩ := hM
    have N5 := Lib.hid hnd; clear hnd
    have hbs := hb.size
    have HBS := Lib.hid hbs; clear hbs
    have X := Lib.hid (show Below w.heap.size w v2 from BW.out.trans (hb.mono BW.out.size)); clear BW
    have BW := Lib.hid X.out; clear X
    clear hb
    have O3 := Lib.hid (Own.mono ho (show w.heap.size ≤ _ from HSZ.out)); clear ho HBS
    clear HSZ
    go_wp2_with (fail)
    have HSZ := Lib.hid BW.out.size
    refine (Hs.out A'1 c'2 _ O3.out.repAny).mono ?_; rintro e v3 ⟨A'6, _, c'7, rfl, rfl, hM0, hb⟩
    obtain ⟨F9, hnd, ho⟩ := hM0
    have N10 := Lib.hid hnd; clear hnd
    have D11 := Lib.hid (show ∀ b ∈ F4, b ∉ F9 from fun b hb he => by have h1 := (O3.out.in b hb).2; have h2 := (ho.in b he).1; first | omega | (revert h1 h2; simp; done) | (revert h1 h2; simp; omega))
    have D12 := Lib.hid (show ∀ b ∈ F9, b ∉ F4 from fun b he hb => by have h1 := (O3.out.in b hb).2; have h2 := (ho.in b he).1; first | omega | (revert h1 h2; simp; done) | (revert h1 h2; simp; omega))
    have hbs := hb.size
    have HBS := Lib.hid hbs; clear hbs
    have X := Lib.hid (show Below w.heap.size w v3 from BW.out.trans (hb.mono BW.out.size)); clear BW
    have BW := Lib.hid X.out; clear X
    have X := Lib.hid (O3.out.below hb); clear O3
    have O3 := Lib.hid X.out; clear X
    clear hb
    have O8 := Lib.hid (Own.mono ho (show w.heap.size ≤ _ from HSZ.out)); clear ho HBS
    clear HSZ
    go_wp2_with (fail)
    have HSZ := Lib.hid BW.out.size
    refine (toInstS_any x0 A0 n0 c0 _ HN0.out (by omega) (RA0.out.below BW.out)).mono ?_; rintro e v4 ⟨A'13, c'14, rfl, hM, hb⟩
    obtain ⟨F16, hnd, ho⟩ := hM
    have N17 := Lib.hid hnd; clear hnd
    have D18 := Lib.hid (show ∀ b ∈ F4, b ∉ F16 from fun b hb he => by have h1 := (O3.out.in b hb).2; have h2 := (ho.in b he).1; first | omega | (revert h1 h2; simp; done) | (revert h1 h2; simp; omega))
    have D19 := Lib.hid (show ∀ b ∈ F16, b ∉ F4 from fun b he hb => by have h1 := (O3.out.in b hb).2; have h2 := (ho.in b he).1; first | omega | (revert h1 h2; simp; done) | (revert h1 h2; simp; omega))
    have D20 := Lib.hid (show ∀ b ∈ F9, b ∉ F16 from fun b hb he => by have h1 := (O8.out.in b hb).2; have h2 := (ho.in b he).1; first | omega | (revert h1 h2; simp; done) | (revert h1 h2; simp; omega))
    have D21 := Lib.hid (show ∀ b ∈ F16, b ∉ F9 from fun b he hb => by have h1 := (O8.out.in b hb).2; have h2 := (ho.in b he).1; first | omega | (revert h1 h2; simp; done) | (revert h1 h2; simp; omega))
    have hbs := hb.size
    have HBS := Lib.hid hbs; clear hbs
    have X := Lib.hid (show Below w.heap.size w v4 from BW.out.trans (hb.mono BW.out.size)); clear BW
    have BW := Lib.hid X.out; clear X
    have X := Lib.hid (O3.out.below hb); clear O3
    have O3 := Lib.hid X.out; clear X
    have X := Lib.hid (O8.out.below hb); clear O8
    have O8 := Lib.hid X.out; clear X
    clear hb
    have O15 := Lib.hid (Own.mono ho (show w.heap.size ≤ _ from HSZ.out)); clear ho HBS
    clear HSZ
    go_wp2_with (fail)
    have HSZ := Lib.hid BW.out.size
    refine (Hi.out A'13 c'14 _ O15.out.repAny).mono ?_; rintro e v5 ⟨A'22, _, c'23, rfl, rfl, hM0, hb⟩
    obtain ⟨F25, hnd, ho⟩ := hM0
    have N26 := Lib.hid hnd; clear hnd
    have D27 := Lib.hid (show ∀ b ∈ F4, b ∉ F25 from fun b hb he => by have h1 := (O3.out.in b hb).2; have h2 := (ho.in b he).1; first | omega | (revert h1 h2; simp; done) | (revert h1 h2; simp; omega))
    have D28 := Lib.hid (show ∀ b ∈ F25, b ∉ F4 from fun b he hb => by have h1 := (O3.out.in b hb).2; have h2 := (ho.in b he).1; first | omega | (revert h1 h2; simp; done) | (revert h1 h2; simp; omega))
    have D29 := Lib.hid (show ∀ b ∈ F9, b ∉ F25 from fun b hb he => by have h1 := (O8.out.in b hb).2; have h2 := (ho.in b he).1; first | omega | (revert h1 h2; simp; done) | (revert h1 h2; simp; omega))
    have D30 := Lib.hid (show ∀ b ∈ F25, b ∉ F9 from fun b he hb => by have h1 := (O8.out.in b hb).2; have h2 := (ho.in b he).1; first | omega | (revert h1 h2; simp; done) | (revert h1 h2; simp; omega))
    have D31 := Lib.hid (show ∀ b ∈ F16, b ∉ F25 from fun b hb he => by have h1 := (O15.out.in b hb).2; have h2 := (ho.in b he).1; first | omega | (revert h1 h2; simp; done) | (revert h1 h2; simp; omega))
    have D32 := Lib.hid (show ∀ b ∈ F25, b ∉ F16 from fun b he hb => by have h1 := (O15.out.in b hb).2; have h2 := (ho.in b he).1; first | omega | (revert h1 h2; simp; done) | (revert h1 h2; simp; omega))
    have hbs := hb.size
    have HBS := Lib.hid hbs; clear hbs
    have X := Lib.hid (show Below w.heap.size w v5 from BW.out.trans (hb.mono BW.out.size)); clear BW
    have BW := Lib.hid X.out; clear X
    have X := Lib.hid (O3.out.below hb); clear O3
    have O3 := Lib.hid X.out; clear X
    have X := Lib.hid (O8.out.below hb); clear O8
    have O8 := Lib.hid X.out; clear X
    have X := Lib.hid (O15.out.below hb); clear O15
    have O15 := Lib.hid X.out; clear X
    clear hb
    have O24 := Lib.hid (Own.mono ho (show w.heap.size ≤ _ from HSZ.out)); clear ho HBS
    clear HSZ
    go_wp2_with (fail)
    have HSZ := Lib.hid BW.out.size
    refine (eqIdSS_any r0 A'22 A'6 r0.length c'23 c'7 _ rfl (by first | omega | (have := HWT.out; omega)) O24.out.repAny O8.out.repAny).mono ?_; rintro e v6 ⟨rfl, hb⟩
    have X := Lib.hid (show Below w.heap.size w v6 from BW.out.trans (hb.mono BW.out.size)); clear BW
    have BW := Lib.hid X.out; clear X
    have X := Lib.hid (O3.out.below hb); clear O3
    have O3 := Lib.hid X.out; clear X
    have X := Lib.hid (O8.out.below hb); clear O8
    have O8 := Lib.hid X.out; clear X
    have X := Lib.hid (O15.out.below hb); clear O15
    have O15 := Lib.hid X.out; clear X
    have X := Lib.hid (O24.out.below hb); clear O24
    have O24 := Lib.hid X.out; clear X
    clear hb
    clear HSZ
    go_wp2_with (fail)
    have HSZ := Lib.hid BW.out.size
    refine (toInstS_any x0 A0 n0 c0 _ HN0.out (by omega) (RA0.out.below BW.out)).mono ?_; rintro e v7 ⟨A'33, c'34, rfl, hM, hb⟩
    obtain ⟨F36, hnd, ho⟩ := hM
    have N37 := Lib.hid hnd; clear hnd
    have D38 := Lib.hid (show ∀ b ∈ F4, b ∉ F36 from fun b hb he => by have h1 := (O3.out.in b hb).2; have h2 := (ho.in b he).1; first | omega | (revert h1 h2; simp; done) | (revert h1 h2; simp; omega))
    have D39 := Lib.hid (show ∀ b ∈ F36, b ∉ F4 from fun b he hb => by have h1 := (O3.out.in b hb).2; have h2 := (ho.in b he).1; first | omega | (revert h1 h2; simp; done) | (revert h1 h2; simp; omega))
    have D40 := Lib.hid (show ∀ b ∈ F9, b ∉ F36 from fun b hb he => by have h1 := (O8.out.in b hb).2; have h2 := (ho.in b he).1; first | omega | (revert h1 h2; simp; done) | (revert h1 h2; simp; omega))
    have D41 := Lib.hid (show ∀ b ∈ F36, b ∉ F9 from fun b he hb => by have h1 := (O8.out.in b hb).2; have h2 := (ho.in b he).1; first | omega | (revert h1 h2; simp; done) | (revert h1 h2; simp; omega))
    have D42 := Lib.hid (show ∀ b ∈ F16, b ∉ F36 from fun b hb he => by have h1 := (O15.out.in b hb).2; have h2 := (ho.in b he).1; first | omega | (revert h1 h2; simp; done) | (revert h1 h2; simp; omega))
    have D43 := Lib.hid (show ∀ b ∈ F36, b ∉ F16 from fun b he hb => by have h1 := (O15.out.in b hb).2; have h2 := (ho.in b he).1; first | omega | (revert h1 h2; simp; done) | (revert h1 h2; simp; omega))
    have D44 := Lib.hid (show ∀ b ∈ F25, b ∉ F36 from fun b hb he => by have h1 := (O24.out.in b hb).2; have h2 := (ho.in b he).1; first | omega | (revert h1 h2; simp; done) | (revert h1 h2; simp; omega))
    have D45 := Lib.hid (show ∀ b ∈ F36, b ∉ F25 from fun b he hb => by have h1 := (O24.out.in b hb).2; have h2 := (ho.in b he).1; first | omega | (revert h1 h2; simp; done) | (revert h1 h2; simp; omega))
    have hbs := hb.size
    have HBS := Lib.hid hbs; clear hbs
    have X := Lib.hid (show Below w.heap.size w v7 from BW.out.trans (hb.mono BW.out.size)); clear BW
    have BW := Lib.hid X.out; clear X
    have X := Lib.hid (O3.out.below hb); clear O3
    have O3 := Lib.hid X.out; clear X
    have X := Lib.hid (O8.out.below hb); clear O8
    have O8 := Lib.hid X.out; clear X
    have X := Lib.hid (O15.out.below hb); clear O15
    have O15 := Lib.hid X.out; clear X
    have X := Lib.hid (O24.out.below hb); clear O24
    have O24 := Lib.hid X.out; clear X
    clear hb
    have O35 := Lib.hid (Own.mono ho (show w.heap.size ≤ _ from HSZ.out)); clear ho HBS
    clear HSZ
    go_wp2_with (fail)
    have HSZ := Lib.hid BW.out.size
    refine (eqInstS_any x0 A'13 A'33 n0 c'14 c'34 _ HN0.out (by omega) O15.out.repAny O35.out.repAny).mono ?_; rintro e v8 ⟨rfl, hb⟩
    have X := Lib.hid (show Below w.heap.size w v8 from BW.out.trans (hb.mono BW.out.size)); clear BW
    have BW := Lib.hid X.out; clear X
    have X := Lib.hid (O3.out.below hb); clear O3
    have O3 := Lib.hid X.out; clear X
    have X := Lib.hid (O8.out.below hb); clear O8
    have O8 := Lib.hid X.out; clear X
    have X := Lib.hid (O15.out.below hb); clear O15
    have O15 := Lib.hid X.out; clear X
    have X := Lib.hid (O24.out.below hb); clear O24
    have O24 := Lib.hid X.out; clear X
    have X := Lib.hid (O35.out.below hb); clear O35
    have O35 := Lib.hid X.out; clear X
    clear hb
    clear HSZ
    go_wp2_with (fail)
    have HSZ := Lib.hid BW.out.size
    refine (markInstS_any x0 (1) _ w.heap.size A'13 n0 c'14 F16 _ HN0.out (by first | rfl | omega) (by omega) (by first | omega | (have := HCN.out; omega) | (have := HCX0.out; have := HN0.out; omega)) N17.out O15.out).mono ?_; rintro e v9 ⟨q46, rfl, hq, ho, hm⟩
    have hq0 : 0 ≤ q46 := by omega
    have HY47 := Lib.hid hq; clear hq
    have q46z := Lib.hid hq0
    have hdq46 : decide (q46 < 0) = false := by simp only [decide_eq_false_iff_not]; omega
    have X := Lib.hid (O3.out.mod1 hm D18.out); clear O3
    have O3 := Lib.hid X.out; clear X
    have X := Lib.hid (O8.out.mod1 hm D20.out); clear O8
    have O8 := Lib.hid X.out; clear X
    have X := Lib.hid (O24.out.mod1 hm D32.out); clear O24
    have O24 := Lib.hid X.out; clear X
    have X := Lib.hid (O35.out.mod1 hm D43.out); clear O35
    have O35 := Lib.hid X.out; clear X
    have X := Lib.hid (show Below w.heap.size w v9 from Mod.below BW.out hm BW.out.size (fun b hb => (O15.out.in b hb).1)); clear BW O15
    have BW := Lib.hid X.out; clear X
    have O15 := Lib.hid ho; clear ho hm
    clear HSZ
    go_wp2_with (fail)
    have HSZ := Lib.hid BW.out.size
    refine (eqIdSS_any r0 A'22 A'6 r0.length c'23 c'7 _ rfl (by first | omega | (have := HWT.out; omega)) O24.out.repAny O8.out.repAny).mono ?_; rintro e v10 ⟨rfl, hb⟩
    have X := Lib.hid (show Below w.heap.size w v10 from BW.out.trans (hb.mono BW.out.size)); clear BW
    have BW := Lib.hid X.out; clear X
    have X := Lib.hid (O3.out.below hb); clear O3
    have O3 := Lib.hid X.out; clear X
    have X := Lib.hid (O8.out.below hb); clear O8
    have O8 := Lib.hid X.out; clear X
    have X := Lib.hid (O15.out.below hb); clear O15
    have O15 := Lib.hid X.out; clear X
    have X := Lib.hid (O24.out.below hb); clear O24
    have O24 := Lib.hid X.out; clear X
    have X := Lib.hid (O35.out.below hb); clear O35
    have O35 := Lib.hid X.out; clear X
    clear hb
    clear HSZ
    go_wp2_with (fail)
    have HSZ := Lib.hid BW.out.size
    refine (markIdSS_any r0 (1) _ w.heap.size A'22 r0.length c'23 F25 _ rfl (by first | rfl | omega) (by omega) (by first | omega | (have := HCN.out; omega) | (have := HCX0.out; have := HN0.out; omega)) N26.out O24.out).mono ?_; rintro e v11 ⟨q48, rfl, hq, ho, hm⟩
    have hq0 : 0 ≤ q48 := by omega
    have HY49 := Lib.hid hq; clear hq
    have q48z := Lib.hid hq0
    have hdq48 : decide (q48 < 0) = false := by simp only [decide_eq_false_iff_not]; omega
    have X := Lib.hid (O3.out.mod1 hm D27.out); clear O3
    have O3 := Lib.hid X.out; clear X
    have X := Lib.hid (O8.out.mod1 hm D29.out); clear O8
    have O8 := Lib.hid X.out; clear X
    have X := Lib.hid (O15.out.mod1 hm D31.out); clear O15
    have O15 := Lib.hid X.out; clear X
    have X := Lib.hid (O35.out.mod1 hm D45.out); clear O35
    have O35 := Lib.hid X.out; clear X
    have X := Lib.hid (show Below w.heap.size w v11 from Mod.below BW.out hm BW.out.size (fun b hb => (O24.out.in b hb).1)); clear BW O24
    have BW := Lib.hid X.out; clear X
    have O24 := Lib.hid ho; clear ho hm
    clear HSZ
    go_wp2_with (fail)
    have HSZ := Lib.hid BW.out.size
    refine (heldIdSS_any r0 (1) _ A'22 r0.length c'23 _ rfl (by first | omega | (have := HWT.out; omega)) (by first | rfl | omega) (by omega) (by first | omega | (have := HCN.out; omega)) O24.out.repAny).mono ?_; rintro e v12 ⟨q50, rfl, hq, hb⟩
    have hq1 : q48 = q50 := (hq.trans HY49.out.symm).symm
    subst hq1
    clear hq
    have X := Lib.hid (show Below w.heap.size w v12 from BW.out.trans (hb.mono BW.out.size)); clear BW
    have BW := Lib.hid X.out; clear X
    have X := Lib.hid (O3.out.below hb); clear O3
    have O3 := Lib.hid X.out; clear X
    have X := Lib.hid (O8.out.below hb); clear O8
    have O8 := Lib.hid X.out; clear X
    have X := Lib.hid (O15.out.below hb); clear O15
    have O15 := Lib.hid X.out; clear X
    have X := Lib.hid (O24.out.below hb); clear O24
    have O24 := Lib.hid X.out; clear X
    have X := Lib.hid (O35.out.below hb); clear O35
    have O35 := Lib.hid X.out; clear X
    clear hb
    clear HSZ
    go_wp2_with (fail)
    have HSZ := Lib.hid BW.out.size
    refine (toInstS_any x0 A0 n0 c0 _ HN0.out (by omega) (RA0.out.below BW.out)).mono ?_; rintro e v13 ⟨A'51, c'52, rfl, hM, hb⟩
    obtain ⟨F54, hnd, ho⟩ := hM
    have N55 := Lib.hid hnd; clear hnd
    have D56 := Lib.hid (show ∀ b ∈ F4, b ∉ F54 from fun b hb he => by have h1 := (O3.out.in b hb).2; have h2 := (ho.in b he).1; first | omega | (revert h1 h2; simp; done) | (revert h1 h2; simp; omega))
    have D57 := Lib.hid (show ∀ b ∈ F54, b ∉ F4 from fun b he hb => by have h1 := (O3.out.in b hb).2; have h2 := (ho.in b he).1; first | omega | (revert h1 h2; simp; done) | (revert h1 h2; simp; omega))
    have D58 := Lib.hid (show ∀ b ∈ F9, b ∉ F54 from fun b hb he => by have h1 := (O8.out.in b hb).2; have h2 := (ho.in b he).1; first | omega | (revert h1 h2; simp; done) | (revert h1 h2; simp; omega))
    have D59 := Lib.hid (show ∀ b ∈ F54, b ∉ F9 from fun b he hb => by have h1 := (O8.out.in b hb).2; have h2 := (ho.in b he).1; first | omega | (revert h1 h2; simp; done) | (revert h1 h2; simp; omega))
    have D60 := Lib.hid (show ∀ b ∈ F16, b ∉ F54 from fun b hb he => by have h1 := (O15.out.in b hb).2; have h2 := (ho.in b he).1; first | omega | (revert h1 h2; simp; done) | (revert h1 h2; simp; omega))
    have D61 := Lib.hid (show ∀ b ∈ F54, b ∉ F16 from fun b he hb => by have h1 := (O15.out.in b hb).2; have h2 := (ho.in b he).1; first | omega | (revert h1 h2; simp; done) | (revert h1 h2; simp; omega))
    have D62 := Lib.hid (show ∀ b ∈ F25, b ∉ F54 from fun b hb he => by have h1 := (O24.out.in b hb).2; have h2 := (ho.in b he).1; first | omega | (revert h1 h2; simp; done) | (revert h1 h2; simp; omega))
    have D63 := Lib.hid (show ∀ b ∈ F54, b ∉ F25 from fun b he hb => by have h1 := (O24.out.in b hb).2; have h2 := (ho.in b he).1; first | omega | (revert h1 h2; simp; done) | (revert h1 h2; simp; omega))
    have D64 := Lib.hid (show ∀ b ∈ F36, b ∉ F54 from fun b hb he => by have h1 := (O35.out.in b hb).2; have h2 := (ho.in b he).1; first | omega | (revert h1 h2; simp; done) | (revert h1 h2; simp; omega))
    have D65 := Lib.hid (show ∀ b ∈ F54, b ∉ F36 from fun b he hb => by have h1 := (O35.out.in b hb).2; have h2 := (ho.in b he).1; first | omega | (revert h1 h2; simp; done) | (revert h1 h2; simp; omega))
    have hbs := hb.size
    have HBS := Lib.hid hbs; clear hbs
    have X := Lib.hid (show Below w.heap.size w v13 from BW.out.trans (hb.mono BW.out.size)); clear BW
    have BW := Lib.hid X.out; clear X
    have X := Lib.hid (O3.out.below hb); clear O3
    have O3 := Lib.hid X.out; clear X
    have X := Lib.hid (O8.out.below hb); clear O8
    have O8 := Lib.hid X.out; clear X
    have X := Lib.hid (O15.out.below hb); clear O15
    have O15 := Lib.hid X.out; clear X
    have X := Lib.hid (O24.out.below hb); clear O24
    have O24 := Lib.hid X.out; clear X
    have X := Lib.hid (O35.out.below hb); clear O35
    have O35 := Lib.hid X.out; clear X
    clear hb
    have O53 := Lib.hid (Own.mono ho (show w.heap.size ≤ _ from HSZ.out)); clear ho HBS
    clear HSZ
    go_wp2_with (fail)
    have HSZ := Lib.hid BW.out.size
    refine (Hi.out A'51 c'52 _ O53.out.repAny).mono ?_; rintro e v14 ⟨A'66, _, c'67, rfl, rfl, hM0, hb⟩
    obtain ⟨F69, hnd, ho⟩ := hM0
    have N70 := Lib.hid hnd; clear hnd
    have D71 := Lib.hid (show ∀ b ∈ F4, b ∉ F69 from fun b hb he => by have h1 := (O3.out.in b hb).2; have h2 := (ho.in b he).1; first | omega | (revert h1 h2; simp; done) | (revert h1 h2; simp; omega))
    have D72 := Lib.hid (show ∀ b ∈ F69, b ∉ F4 from fun b he hb => by have h1 := (O3.out.in b hb).2; have h2 := (ho.in b he).1; first | omega | (revert h1 h2; simp; done) | (revert h1 h2; simp; omega))
    have D73 := Lib.hid (show ∀ b ∈ F9, b ∉ F69 from fun b hb he => by have h1 := (O8.out.in b hb).2; have h2 := (ho.in b he).1; first | omega | (revert h1 h2; simp; done) | (revert h1 h2; simp; omega))
    have D74 := Lib.hid (show ∀ b ∈ F69, b ∉ F9 from fun b he hb => by have h1 := (O8.out.in b hb).2; have h2 := (ho.in b he).1; first | omega | (revert h1 h2; simp; done) | (revert h1 h2; simp; omega))
    have D75 := Lib.hid (show ∀ b ∈ F16, b ∉ F69 from fun b hb he => by have h1 := (O15.out.in b hb).2; have h2 := (ho.in b he).1; first | omega | (revert h1 h2; simp; done) | (revert h1 h2; simp; omega))
    have D76 := Lib.hid (show ∀ b ∈ F69, b ∉ F16 from fun b he hb => by have h1 := (O15.out.in b hb).2; have h2 := (ho.in b he).1; first | omega | (revert h1 h2; simp; done) | (revert h1 h2; simp; omega))
    have D77 := Lib.hid (show ∀ b ∈ F25, b ∉ F69 from fun b hb he => by have h1 := (O24.out.in b hb).2; have h2 := (ho.in b he).1; first | omega | (revert h1 h2; simp; done) | (revert h1 h2; simp; omega))
    have D78 := Lib.hid (show ∀ b ∈ F69, b ∉ F25 from fun b he hb => by have h1 := (O24.out.in b hb).2; have h2 := (ho.in b he).1; first | omega | (revert h1 h2; simp; done) | (revert h1 h2; simp; omega))
    have D79 := Lib.hid (show ∀ b ∈ F36, b ∉ F69 from fun b hb he => by have h1 := (O35.out.in b hb).2; have h2 := (ho.in b he).1; first | omega | (revert h1 h2; simp; done) | (revert h1 h2; simp; omega))
    have D80 := Lib.hid (show ∀ b ∈ F69, b ∉ F36 from fun b he hb => by have h1 := (O35.out.in b hb).2; have h2 := (ho.in b he).1; first | omega | (revert h1 h2; simp; done) | (revert h1 h2; simp; omega))
    have D81 := Lib.hid (show ∀ b ∈ F54, b ∉ F69 from fun b hb he => by have h1 := (O53.out.in b hb).2; have h2 := (ho.in b he).1; first | omega | (revert h1 h2; simp; done) | (revert h1 h2; simp; omega))
    have D82 := Lib.hid (show ∀ b ∈ F69, b ∉ F54 from fun b he hb => by have h1 := (O53.out.in b hb).2; have h2 := (ho.in b he).1; first | omega | (revert h1 h2; simp; done) | (revert h1 h2; simp; omega))
    have hbs := hb.size
    have HBS := Lib.hid hbs; clear hbs
    have X := Lib.hid (show Below w.heap.size w v14 from BW.out.trans (hb.mono BW.out.size)); clear BW
    have BW := Lib.hid X.out; clear X
    have X := Lib.hid (O3.out.below hb); clear O3
    have O3 := Lib.hid X.out; clear X
    have X := Lib.hid (O8.out.below hb); clear O8
    have O8 := Lib.hid X.out; clear X
    have X := Lib.hid (O15.out.below hb); clear O15
    have O15 := Lib.hid X.out; clear X
    have X := Lib.hid (O24.out.below hb); clear O24
    have O24 := Lib.hid X.out; clear X
    have X := Lib.hid (O35.out.below hb); clear O35
    have O35 := Lib.hid X.out; clear X
    have X := Lib.hid (O53.out.below hb); clear O53
    have O53 := Lib.hid X.out; clear X
    clear hb
    have O68 := Lib.hid (Own.mono ho (show w.heap.size ≤ _ from HSZ.out)); clear ho HBS
    clear HSZ
    go_wp2_with (fail)
    have HSZ := Lib.hid BW.out.size
    refine (eqIdSS_any r0 A'66 A'6 r0.length c'67 c'7 _ rfl (by first | omega | (have := HWT.out; omega)) O68.out.repAny O8.out.repAny).mono ?_; rintro e v15 ⟨rfl, hb⟩
    have X := Lib.hid (show Below w.heap.size w v15 from BW.out.trans (hb.mono BW.out.size)); clear BW
    have BW := Lib.hid X.out; clear X
    have X := Lib.hid (O3.out.below hb); clear O3
    have O3 := Lib.hid X.out; clear X
    have X := Lib.hid (O8.out.below hb); clear O8
    have O8 := Lib.hid X.out; clear X
    have X := Lib.hid (O15.out.below hb); clear O15
    have O15 := Lib.hid X.out; clear X
    have X := Lib.hid (O24.out.below hb); clear O24
    have O24 := Lib.hid X.out; clear X
    have X := Lib.hid (O35.out.below hb); clear O35
    have O35 := Lib.hid X.out; clear X
    have X := Lib.hid (O53.out.below hb); clear O53
    have O53 := Lib.hid X.out; clear X
    have X := Lib.hid (O68.out.below hb); clear O68
    have O68 := Lib.hid X.out; clear X
    clear hb
    clear HSZ
    go_wp2_with (fail)
    have HSZ := Lib.hid BW.out.size
    refine (heldIdSS_any r0 (1) _ A'22 r0.length c'23 _ rfl (by first | omega | (have := HWT.out; omega)) (by first | rfl | omega) (by omega) (by first | omega | (have := HCN.out; omega)) O24.out.repAny).mono ?_; rintro e v16 ⟨q83, rfl, hq, hb⟩
    have hq1 : q48 = q83 := (hq.trans HY49.out.symm).symm
    subst hq1
    clear hq
    have X := Lib.hid (show Below w.heap.size w v16 from BW.out.trans (hb.mono BW.out.size)); clear BW
    have BW := Lib.hid X.out; clear X
    have X := Lib.hid (O3.out.below hb); clear O3
    have O3 := Lib.hid X.out; clear X
    have X := Lib.hid (O8.out.below hb); clear O8
    have O8 := Lib.hid X.out; clear X
    have X := Lib.hid (O15.out.below hb); clear O15
    have O15 := Lib.hid X.out; clear X
    have X := Lib.hid (O24.out.below hb); clear O24
    have O24 := Lib.hid X.out; clear X
    have X := Lib.hid (O35.out.below hb); clear O35
    have O35 := Lib.hid X.out; clear X
    have X := Lib.hid (O53.out.below hb); clear O53
    have O53 := Lib.hid X.out; clear X
    have X := Lib.hid (O68.out.below hb); clear O68
    have O68 := Lib.hid X.out; clear X
    clear hb
    clear HSZ
    go_wp2
    go_ret
    exact ⟨ret_eq (by first | rfl | simp), BW.out⟩
  · skip
    go_enter Try.func4, Try.ntmps4
    go_wp2_with (fail)
    refine (szInstS_no x0 _ A0 n0 c0 _ HN0.out (by omega) (by omega) hm0 OK0.out (RA0.out.below (by repeat' (first | with_reducible exact Below.refl _ _ | with_reducible refine Below.alloc ?_ ?_ _ | (simp; done) | (simp; omega) | omega))) (by omega)).mono ?_; rintro e v1 ⟨rfl, hb⟩
    have BW := Lib.hid (show Below w.heap.size w v1 from Below.trans (by repeat' (first | with_reducible exact Below.refl _ _ | with_reducible refine Below.alloc ?_ ?_ _ | (simp; done) | (simp; omega) | omega)) (hb.mono (by first | (simp; done) | (simp; omega) | omega)))
    clear hb
    go_wp2
    go_ret
    exact ⟨ret_eq (by first | rfl | simp), BW.out⟩
set_option maxRecDepth 100000 in
theorem FnExactParts_lifted (os : Os) (started : os.Started) (H : Type) (enc : TypeId × Value → H) :
    ReturnsInHanded {} Try.checked os 4 .any (Rows.fnExactPartsSpec.pre6 enc Try.prog Try.f4 Rows.fnExactPartsRow.domain false) (Rows.fnExactPartsSpec.post enc Try.prog Try.f4 false true false false) := by
  refine returnsInHanded_of_change (C := Try.checked) own started (by kernel_rfl) Try.func4
    (ChangeSpec.witness6 (enc := enc) (C := Try.checked) false ⟨#[], #[.slice none 0 0], []⟩ 8 (by kernel_rfl) (by kernel_rfl) (by kernel_rfl) (by kernel_rfl)) ?_
  intro W base args ds gs before hval0 hW _ _
  have hval : ∀ (j : Nat) t v, Try.f4.params[j]? = some t → args[j]? = some v → Value.okWide Try.prog W .any base t v := hval0
  have hW' := hW
  obtain ⟨p, q, hA0, hV, rfl, hfz, hnd⟩ := hW
  have hA : DataW.TrodAll enc Try.prog W 0 (fun _ => true) true Try.f4.params.toList args.toList ds p := hA0
  rw [Try.params4] at hA hval
  obtain ⟨v0, vs0, d0, ds0, p0, q0, hargs, rfl, rfl, h0, r0⟩ := trodAll_cons hA
  obtain ⟨rfl, rfl, rfl⟩ := trodAll_nil r0
  obtain rfl : args = #[v0] := Array.ext' hargs
  obtain ⟨x0, A0, n0, c0, rfl, hn0, hm0, ok0, rp0⟩ := openV_InstS (hval 0 22 v0 rfl rfl) h0
  refine (lParts_all x0 A0 n0 c0 W hn0 hm0 ok0 rp0).mono fun e W' ⟨he, hb⟩ => ?_
  subst he
  refine ⟨_, rfl, law_post (tb := 4) laidOut (by kernel_rfl) rfl Try.underlying4 rfl ?_ hW' hb⟩
  intro ds hl
  rw [Try.params4] at hl
  match ds, hl with
  | [_], _ => rfl
theorem FnExactParts_holds : Rows.FnExactPartsSaid :=
  OpenClaim.holds_of_wide 4 Try.f4 rfl rfl rfl rfl rfl rfl rfl ⟨rfl, rfl, rfl, rfl, rfl⟩ rfl rfl rfl rfl rfl (by kernel_rfl) Try.func4 (by kernel_rfl)
    (of_decide_eq_true (by kernel_rfl)) (by unfold Func.isWrapper; first | (rw [if_pos (by decide +kernel)]; kernel_rfl) | (rw [if_neg (by decide +kernel)]; exact ⟨rfl, rfl⟩))
    (fun os started H enc _ => FnExactParts_lifted os started H enc)
end Go.Proofs.Ytoffelfcmfpooaa
