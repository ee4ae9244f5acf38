/-
  The law on JoinIds holds for all arguments. No condition.
-/
import Derived.Test.YtbdblfpepnoafaaEq
import Derived.Test.YtbdblfpepnoafaaOpen
import Derived.Test.YtbdblfpepnoafaaJoinI
import Derived.Test.YtbdblfpepnoafaaCntC
import Derived.Test.YtbdblfpepnoafaaMk
namespace Go.Proofs.Ytbdblfpepnoafaa
open Go.RowKit Go.ChangeShapes Go.WideShapes Go.ChangeAt
open Go.ChangeMaps (open_string)

attribute [local irreducible] markL marks mks cts 
set_option maxRecDepth 100000 in
set_option maxHeartbeats 4000000 in
theorem lJoinIds_all (x0 : List IdD) (A0 : Option Addr) (n0 c0 : Nat) (x1 : List IdD) (A1 : Option Addr) (n1 c1 : Nat) (w : World) (hn0 : n0 = x0.length) (hm0 : n0 ≤ 9223372036854775807) (hok0 : (cat IdD.c x0).ok) (h0 : Rep anyB w (.sl 32 2 n0 (cat IdD.c x0) .nil) [.slice A0 n0 c0]) (hn1 : n1 = x1.length) (hm1 : n1 ≤ 9223372036854775807) (hok1 : (cat IdD.c x1).ok) (h1 : Rep anyB w (.sl 32 2 n1 (cat IdD.c x1) .nil) [.slice A1 n1 c1]) :
    Calls Try.prog 9 #[.slice A0 n0 c0, .slice A1 n1 c1] w fun e w' => e = .returned (.bool true) ∧ Below w.heap.size w w' := by
  have HN0 := Lib.hid hn0; clear hn0
  have OK0 := Lib.hid hok0; clear hok0
  have RA0 := Lib.hid h0; clear h0
  have HN1 := Lib.hid hn1; clear hn1
  have OK1 := Lib.hid hok1; clear hok1
  have RA1 := Lib.hid h1; clear h1
  by_cases cc0 : (((n0 + (cat IdD.c x0).wt) : Nat) : Int) ≤ 1048576
  · skip
    by_cases cc1 : (((n1 + (cat IdD.c x1).wt) : Nat) : Int) ≤ 1048576 - (((n0 + (cat IdD.c x0).wt) : Nat) : Int)
    · skip
      have hs := fun B0 C0 B1 C1 W g0 g1 g2 => sJoinIds_any x0 x1 B0 n0 C0 B1 n1 C1 W HN0.out (by omega) HN1.out (by omega) g0 g1 g2
      have hi := fun B0 C0 B1 C1 W g0 g1 g2 => iJoinIds_any x0 x1 B0 n0 C0 B1 n1 C1 W HN0.out (by omega) HN1.out (by omega) g0 g1 g2
      have hbd := bJoinIds x0 x1 (by have := HN0.out; omega) (by have := HN1.out; omega)
      generalize fJoinIds x0 x1 = r0 at hs hi hbd
      have Hs := Lib.hid hs; clear hs
      have Hi := Lib.hid hi; clear hi
      obtain ⟨hwt0, hcn0⟩ := hbd
      have HWT := Lib.hid hwt0
      have HCN := Lib.hid hcn0
      clear hwt0 hcn0
      have HCX0 := Lib.hid (IdD.cts_le x0)
      have HCX1 := Lib.hid (IdD.cts_le x1)
      go_enter Try.func9, Try.ntmps9
      go_wp2_with (fail)
      refine (szIdS_yes x0 _ A0 n0 c0 _ HN0.out (by omega) (by omega) hm0 OK0.out (RA0.out.below (by repeat' (first | with_reducible exact Below.refl _ _ | with_reducible refine Below.alloc ?_ ?_ _ | (simp; done) | (simp; omega) | omega))) (by omega)).mono ?_; rintro e v1 ⟨q0, rfl, ⟨g0a, g0b⟩, hq, hb⟩
      have HQ0 := Lib.hid hq; clear hq
      have BW := Lib.hid (show Below w.heap.size w v1 from Below.trans (by repeat' (first | with_reducible exact Below.refl _ _ | with_reducible refine Below.alloc ?_ ?_ _ | (simp; done) | (simp; omega) | omega)) (hb.mono (by first | (simp; done) | (simp; omega) | omega)))
      clear hb
      go_wp2_with (fail)
      have HSZ := Lib.hid BW.out.size
      refine (szIdS_yes x1 _ A1 n1 c1 _ HN1.out (by omega) (by omega) hm1 OK1.out (RA1.out.below BW.out) (by have := HQ0.out; omega)).mono ?_; rintro e v2 ⟨q1, rfl, ⟨g1a, g1b⟩, hq, hb⟩
      have HQ1 := Lib.hid hq; clear hq
      have X := Lib.hid (show Below w.heap.size w v2 from BW.out.trans (hb.mono BW.out.size)); clear BW
      have BW := Lib.hid X.out; clear X
      clear hb
      clear HSZ
      go_wp2_with (fail)
      have HSZ := Lib.hid BW.out.size
      refine (toIdS_any x0 A0 n0 c0 _ HN0.out (by omega) (RA0.out.below BW.out)).mono ?_; rintro e v3 ⟨A'1, c'2, rfl, hM, hb⟩
      obtain ⟨F4, hnd, ho⟩ := hM
      have N5 := Lib.hid hnd; clear hnd
      have hbs := hb.size
      have HBS := Lib.hid hbs; clear hbs
      have X := Lib.hid (show Below w.heap.size w v3 from BW.out.trans (hb.mono BW.out.size)); clear BW
      have BW := Lib.hid X.out; clear X
      clear hb
      have O3 := Lib.hid (Own.mono ho (show w.heap.size ≤ _ from HSZ.out)); clear ho HBS
      clear HSZ
      go_wp2_with (fail)
      have HSZ := Lib.hid BW.out.size
      refine (toIdS_any x1 A1 n1 c1 _ HN1.out (by omega) (RA1.out.below BW.out)).mono ?_; rintro e v4 ⟨A'6, c'7, rfl, hM, hb⟩
      obtain ⟨F9, hnd, ho⟩ := hM
      have N10 := Lib.hid hnd; clear hnd
      have D11 := Lib.hid (show ∀ b ∈ F4, b ∉ F9 from fun b hb he => by have h1 := (O3.out.in b hb).2; have h2 := (ho.in b he).1; first | omega | (revert h1 h2; simp; done) | (revert h1 h2; simp; omega))
      have D12 := Lib.hid (show ∀ b ∈ F9, b ∉ F4 from fun b he hb => by have h1 := (O3.out.in b hb).2; have h2 := (ho.in b he).1; first | omega | (revert h1 h2; simp; done) | (revert h1 h2; simp; omega))
      have hbs := hb.size
      have HBS := Lib.hid hbs; clear hbs
      have X := Lib.hid (show Below w.heap.size w v4 from BW.out.trans (hb.mono BW.out.size)); clear BW
      have BW := Lib.hid X.out; clear X
      have X := Lib.hid (O3.out.below hb); clear O3
      have O3 := Lib.hid X.out; clear X
      clear hb
      have O8 := Lib.hid (Own.mono ho (show w.heap.size ≤ _ from HSZ.out)); clear ho HBS
      clear HSZ
      go_wp2_with (fail)
      have HSZ := Lib.hid BW.out.size
      refine (Hs.out A'1 c'2 A'6 c'7 _ O3.out.repAny O8.out.repAny (Own.sl_cap O3.out)).mono ?_; rintro e v5 ⟨A'13, _, c'14, rfl, rfl, hM0, hb⟩
      obtain ⟨F16, hnd, ho⟩ := hM0
      have N17 := Lib.hid hnd; clear hnd
      have D18 := Lib.hid (show ∀ b ∈ F4, b ∉ F16 from fun b hb he => by have h1 := (O3.out.in b hb).2; have h2 := (ho.in b he).1; first | omega | (revert h1 h2; simp; done) | (revert h1 h2; simp; omega))
      have D19 := Lib.hid (show ∀ b ∈ F16, b ∉ F4 from fun b he hb => by have h1 := (O3.out.in b hb).2; have h2 := (ho.in b he).1; first | omega | (revert h1 h2; simp; done) | (revert h1 h2; simp; omega))
      have D20 := Lib.hid (show ∀ b ∈ F9, b ∉ F16 from fun b hb he => by have h1 := (O8.out.in b hb).2; have h2 := (ho.in b he).1; first | omega | (revert h1 h2; simp; done) | (revert h1 h2; simp; omega))
      have D21 := Lib.hid (show ∀ b ∈ F16, b ∉ F9 from fun b he hb => by have h1 := (O8.out.in b hb).2; have h2 := (ho.in b he).1; first | omega | (revert h1 h2; simp; done) | (revert h1 h2; simp; omega))
      have hbs := hb.size
      have HBS := Lib.hid hbs; clear hbs
      have X := Lib.hid (show Below w.heap.size w v5 from BW.out.trans (hb.mono BW.out.size)); clear BW
      have BW := Lib.hid X.out; clear X
      have X := Lib.hid (O3.out.below hb); clear O3
      have O3 := Lib.hid X.out; clear X
      have X := Lib.hid (O8.out.below hb); clear O8
      have O8 := Lib.hid X.out; clear X
      clear hb
      have O15 := Lib.hid (Own.mono ho (show w.heap.size ≤ _ from HSZ.out)); clear ho HBS
      clear HSZ
      go_wp2_with (fail)
      have HSZ := Lib.hid BW.out.size
      refine (toIdS_any x0 A0 n0 c0 _ HN0.out (by omega) (RA0.out.below BW.out)).mono ?_; rintro e v6 ⟨A'22, c'23, rfl, hM, hb⟩
      obtain ⟨F25, hnd, ho⟩ := hM
      have N26 := Lib.hid hnd; clear hnd
      have D27 := Lib.hid (show ∀ b ∈ F4, b ∉ F25 from fun b hb he => by have h1 := (O3.out.in b hb).2; have h2 := (ho.in b he).1; first | omega | (revert h1 h2; simp; done) | (revert h1 h2; simp; omega))
      have D28 := Lib.hid (show ∀ b ∈ F25, b ∉ F4 from fun b he hb => by have h1 := (O3.out.in b hb).2; have h2 := (ho.in b he).1; first | omega | (revert h1 h2; simp; done) | (revert h1 h2; simp; omega))
      have D29 := Lib.hid (show ∀ b ∈ F9, b ∉ F25 from fun b hb he => by have h1 := (O8.out.in b hb).2; have h2 := (ho.in b he).1; first | omega | (revert h1 h2; simp; done) | (revert h1 h2; simp; omega))
      have D30 := Lib.hid (show ∀ b ∈ F25, b ∉ F9 from fun b he hb => by have h1 := (O8.out.in b hb).2; have h2 := (ho.in b he).1; first | omega | (revert h1 h2; simp; done) | (revert h1 h2; simp; omega))
      have D31 := Lib.hid (show ∀ b ∈ F16, b ∉ F25 from fun b hb he => by have h1 := (O15.out.in b hb).2; have h2 := (ho.in b he).1; first | omega | (revert h1 h2; simp; done) | (revert h1 h2; simp; omega))
      have D32 := Lib.hid (show ∀ b ∈ F25, b ∉ F16 from fun b he hb => by have h1 := (O15.out.in b hb).2; have h2 := (ho.in b he).1; first | omega | (revert h1 h2; simp; done) | (revert h1 h2; simp; omega))
      have hbs := hb.size
      have HBS := Lib.hid hbs; clear hbs
      have X := Lib.hid (show Below w.heap.size w v6 from BW.out.trans (hb.mono BW.out.size)); clear BW
      have BW := Lib.hid X.out; clear X
      have X := Lib.hid (O3.out.below hb); clear O3
      have O3 := Lib.hid X.out; clear X
      have X := Lib.hid (O8.out.below hb); clear O8
      have O8 := Lib.hid X.out; clear X
      have X := Lib.hid (O15.out.below hb); clear O15
      have O15 := Lib.hid X.out; clear X
      clear hb
      have O24 := Lib.hid (Own.mono ho (show w.heap.size ≤ _ from HSZ.out)); clear ho HBS
      clear HSZ
      go_wp2_with (fail)
      have HSZ := Lib.hid BW.out.size
      refine (toIdS_any x1 A1 n1 c1 _ HN1.out (by omega) (RA1.out.below BW.out)).mono ?_; rintro e v7 ⟨A'33, c'34, rfl, hM, hb⟩
      obtain ⟨F36, hnd, ho⟩ := hM
      have N37 := Lib.hid hnd; clear hnd
      have D38 := Lib.hid (show ∀ b ∈ F4, b ∉ F36 from fun b hb he => by have h1 := (O3.out.in b hb).2; have h2 := (ho.in b he).1; first | omega | (revert h1 h2; simp; done) | (revert h1 h2; simp; omega))
      have D39 := Lib.hid (show ∀ b ∈ F36, b ∉ F4 from fun b he hb => by have h1 := (O3.out.in b hb).2; have h2 := (ho.in b he).1; first | omega | (revert h1 h2; simp; done) | (revert h1 h2; simp; omega))
      have D40 := Lib.hid (show ∀ b ∈ F9, b ∉ F36 from fun b hb he => by have h1 := (O8.out.in b hb).2; have h2 := (ho.in b he).1; first | omega | (revert h1 h2; simp; done) | (revert h1 h2; simp; omega))
      have D41 := Lib.hid (show ∀ b ∈ F36, b ∉ F9 from fun b he hb => by have h1 := (O8.out.in b hb).2; have h2 := (ho.in b he).1; first | omega | (revert h1 h2; simp; done) | (revert h1 h2; simp; omega))
      have D42 := Lib.hid (show ∀ b ∈ F16, b ∉ F36 from fun b hb he => by have h1 := (O15.out.in b hb).2; have h2 := (ho.in b he).1; first | omega | (revert h1 h2; simp; done) | (revert h1 h2; simp; omega))
      have D43 := Lib.hid (show ∀ b ∈ F36, b ∉ F16 from fun b he hb => by have h1 := (O15.out.in b hb).2; have h2 := (ho.in b he).1; first | omega | (revert h1 h2; simp; done) | (revert h1 h2; simp; omega))
      have D44 := Lib.hid (show ∀ b ∈ F25, b ∉ F36 from fun b hb he => by have h1 := (O24.out.in b hb).2; have h2 := (ho.in b he).1; first | omega | (revert h1 h2; simp; done) | (revert h1 h2; simp; omega))
      have D45 := Lib.hid (show ∀ b ∈ F36, b ∉ F25 from fun b he hb => by have h1 := (O24.out.in b hb).2; have h2 := (ho.in b he).1; first | omega | (revert h1 h2; simp; done) | (revert h1 h2; simp; omega))
      have hbs := hb.size
      have HBS := Lib.hid hbs; clear hbs
      have X := Lib.hid (show Below w.heap.size w v7 from BW.out.trans (hb.mono BW.out.size)); clear BW
      have BW := Lib.hid X.out; clear X
      have X := Lib.hid (O3.out.below hb); clear O3
      have O3 := Lib.hid X.out; clear X
      have X := Lib.hid (O8.out.below hb); clear O8
      have O8 := Lib.hid X.out; clear X
      have X := Lib.hid (O15.out.below hb); clear O15
      have O15 := Lib.hid X.out; clear X
      have X := Lib.hid (O24.out.below hb); clear O24
      have O24 := Lib.hid X.out; clear X
      clear hb
      have O35 := Lib.hid (Own.mono ho (show w.heap.size ≤ _ from HSZ.out)); clear ho HBS
      clear HSZ
      go_wp2_with (fail)
      have HSZ := Lib.hid BW.out.size
      refine (Hi.out A'22 c'23 A'33 c'34 _ O24.out.repAny O35.out.repAny (Own.sl_cap O24.out)).mono ?_; rintro e v8 ⟨A'46, _, c'47, rfl, rfl, hM0, hb⟩
      obtain ⟨F49, hnd, ho⟩ := hM0
      have N50 := Lib.hid hnd; clear hnd
      have D51 := Lib.hid (show ∀ b ∈ F4, b ∉ F49 from fun b hb he => by have h1 := (O3.out.in b hb).2; have h2 := (ho.in b he).1; first | omega | (revert h1 h2; simp; done) | (revert h1 h2; simp; omega))
      have D52 := Lib.hid (show ∀ b ∈ F49, b ∉ F4 from fun b he hb => by have h1 := (O3.out.in b hb).2; have h2 := (ho.in b he).1; first | omega | (revert h1 h2; simp; done) | (revert h1 h2; simp; omega))
      have D53 := Lib.hid (show ∀ b ∈ F9, b ∉ F49 from fun b hb he => by have h1 := (O8.out.in b hb).2; have h2 := (ho.in b he).1; first | omega | (revert h1 h2; simp; done) | (revert h1 h2; simp; omega))
      have D54 := Lib.hid (show ∀ b ∈ F49, b ∉ F9 from fun b he hb => by have h1 := (O8.out.in b hb).2; have h2 := (ho.in b he).1; first | omega | (revert h1 h2; simp; done) | (revert h1 h2; simp; omega))
      have D55 := Lib.hid (show ∀ b ∈ F16, b ∉ F49 from fun b hb he => by have h1 := (O15.out.in b hb).2; have h2 := (ho.in b he).1; first | omega | (revert h1 h2; simp; done) | (revert h1 h2; simp; omega))
      have D56 := Lib.hid (show ∀ b ∈ F49, b ∉ F16 from fun b he hb => by have h1 := (O15.out.in b hb).2; have h2 := (ho.in b he).1; first | omega | (revert h1 h2; simp; done) | (revert h1 h2; simp; omega))
      have D57 := Lib.hid (show ∀ b ∈ F25, b ∉ F49 from fun b hb he => by have h1 := (O24.out.in b hb).2; have h2 := (ho.in b he).1; first | omega | (revert h1 h2; simp; done) | (revert h1 h2; simp; omega))
      have D58 := Lib.hid (show ∀ b ∈ F49, b ∉ F25 from fun b he hb => by have h1 := (O24.out.in b hb).2; have h2 := (ho.in b he).1; first | omega | (revert h1 h2; simp; done) | (revert h1 h2; simp; omega))
      have D59 := Lib.hid (show ∀ b ∈ F36, b ∉ F49 from fun b hb he => by have h1 := (O35.out.in b hb).2; have h2 := (ho.in b he).1; first | omega | (revert h1 h2; simp; done) | (revert h1 h2; simp; omega))
      have D60 := Lib.hid (show ∀ b ∈ F49, b ∉ F36 from fun b he hb => by have h1 := (O35.out.in b hb).2; have h2 := (ho.in b he).1; first | omega | (revert h1 h2; simp; done) | (revert h1 h2; simp; omega))
      have hbs := hb.size
      have HBS := Lib.hid hbs; clear hbs
      have X := Lib.hid (show Below w.heap.size w v8 from BW.out.trans (hb.mono BW.out.size)); clear BW
      have BW := Lib.hid X.out; clear X
      have X := Lib.hid (O3.out.below hb); clear O3
      have O3 := Lib.hid X.out; clear X
      have X := Lib.hid (O8.out.below hb); clear O8
      have O8 := Lib.hid X.out; clear X
      have X := Lib.hid (O15.out.below hb); clear O15
      have O15 := Lib.hid X.out; clear X
      have X := Lib.hid (O24.out.below hb); clear O24
      have O24 := Lib.hid X.out; clear X
      have X := Lib.hid (O35.out.below hb); clear O35
      have O35 := Lib.hid X.out; clear X
      clear hb
      have O48 := Lib.hid (Own.mono ho (show w.heap.size ≤ _ from HSZ.out)); clear ho HBS
      clear HSZ
      go_wp2_with (fail)
      have HSZ := Lib.hid BW.out.size
      refine (eqIdS_any r0 A'46 A'13 r0.length c'47 c'14 _ rfl (by first | omega | (have := HWT.out; omega)) O48.out.repAny O15.out.repAny).mono ?_; rintro e v9 ⟨rfl, hb⟩
      have X := Lib.hid (show Below w.heap.size w v9 from BW.out.trans (hb.mono BW.out.size)); clear BW
      have BW := Lib.hid X.out; clear X
      have X := Lib.hid (O3.out.below hb); clear O3
      have O3 := Lib.hid X.out; clear X
      have X := Lib.hid (O8.out.below hb); clear O8
      have O8 := Lib.hid X.out; clear X
      have X := Lib.hid (O15.out.below hb); clear O15
      have O15 := Lib.hid X.out; clear X
      have X := Lib.hid (O24.out.below hb); clear O24
      have O24 := Lib.hid X.out; clear X
      have X := Lib.hid (O35.out.below hb); clear O35
      have O35 := Lib.hid X.out; clear X
      have X := Lib.hid (O48.out.below hb); clear O48
      have O48 := Lib.hid X.out; clear X
      clear hb
      clear HSZ
      go_wp2_with (fail)
      have HSZ := Lib.hid BW.out.size
      refine (toIdS_any x0 A0 n0 c0 _ HN0.out (by omega) (RA0.out.below BW.out)).mono ?_; rintro e v10 ⟨A'61, c'62, rfl, hM, hb⟩
      obtain ⟨F64, hnd, ho⟩ := hM
      have N65 := Lib.hid hnd; clear hnd
      have D66 := Lib.hid (show ∀ b ∈ F4, b ∉ F64 from fun b hb he => by have h1 := (O3.out.in b hb).2; have h2 := (ho.in b he).1; first | omega | (revert h1 h2; simp; done) | (revert h1 h2; simp; omega))
      have D67 := Lib.hid (show ∀ b ∈ F64, b ∉ F4 from fun b he hb => by have h1 := (O3.out.in b hb).2; have h2 := (ho.in b he).1; first | omega | (revert h1 h2; simp; done) | (revert h1 h2; simp; omega))
      have D68 := Lib.hid (show ∀ b ∈ F9, b ∉ F64 from fun b hb he => by have h1 := (O8.out.in b hb).2; have h2 := (ho.in b he).1; first | omega | (revert h1 h2; simp; done) | (revert h1 h2; simp; omega))
      have D69 := Lib.hid (show ∀ b ∈ F64, b ∉ F9 from fun b he hb => by have h1 := (O8.out.in b hb).2; have h2 := (ho.in b he).1; first | omega | (revert h1 h2; simp; done) | (revert h1 h2; simp; omega))
      have D70 := Lib.hid (show ∀ b ∈ F16, b ∉ F64 from fun b hb he => by have h1 := (O15.out.in b hb).2; have h2 := (ho.in b he).1; first | omega | (revert h1 h2; simp; done) | (revert h1 h2; simp; omega))
      have D71 := Lib.hid (show ∀ b ∈ F64, b ∉ F16 from fun b he hb => by have h1 := (O15.out.in b hb).2; have h2 := (ho.in b he).1; first | omega | (revert h1 h2; simp; done) | (revert h1 h2; simp; omega))
      have D72 := Lib.hid (show ∀ b ∈ F25, b ∉ F64 from fun b hb he => by have h1 := (O24.out.in b hb).2; have h2 := (ho.in b he).1; first | omega | (revert h1 h2; simp; done) | (revert h1 h2; simp; omega))
      have D73 := Lib.hid (show ∀ b ∈ F64, b ∉ F25 from fun b he hb => by have h1 := (O24.out.in b hb).2; have h2 := (ho.in b he).1; first | omega | (revert h1 h2; simp; done) | (revert h1 h2; simp; omega))
      have D74 := Lib.hid (show ∀ b ∈ F36, b ∉ F64 from fun b hb he => by have h1 := (O35.out.in b hb).2; have h2 := (ho.in b he).1; first | omega | (revert h1 h2; simp; done) | (revert h1 h2; simp; omega))
      have D75 := Lib.hid (show ∀ b ∈ F64, b ∉ F36 from fun b he hb => by have h1 := (O35.out.in b hb).2; have h2 := (ho.in b he).1; first | omega | (revert h1 h2; simp; done) | (revert h1 h2; simp; omega))
      have D76 := Lib.hid (show ∀ b ∈ F49, b ∉ F64 from fun b hb he => by have h1 := (O48.out.in b hb).2; have h2 := (ho.in b he).1; first | omega | (revert h1 h2; simp; done) | (revert h1 h2; simp; omega))
      have D77 := Lib.hid (show ∀ b ∈ F64, b ∉ F49 from fun b he hb => by have h1 := (O48.out.in b hb).2; have h2 := (ho.in b he).1; first | omega | (revert h1 h2; simp; done) | (revert h1 h2; simp; omega))
      have hbs := hb.size
      have HBS := Lib.hid hbs; clear hbs
      have X := Lib.hid (show Below w.heap.size w v10 from BW.out.trans (hb.mono BW.out.size)); clear BW
      have BW := Lib.hid X.out; clear X
      have X := Lib.hid (O3.out.below hb); clear O3
      have O3 := Lib.hid X.out; clear X
      have X := Lib.hid (O8.out.below hb); clear O8
      have O8 := Lib.hid X.out; clear X
      have X := Lib.hid (O15.out.below hb); clear O15
      have O15 := Lib.hid X.out; clear X
      have X := Lib.hid (O24.out.below hb); clear O24
      have O24 := Lib.hid X.out; clear X
      have X := Lib.hid (O35.out.below hb); clear O35
      have O35 := Lib.hid X.out; clear X
      have X := Lib.hid (O48.out.below hb); clear O48
      have O48 := Lib.hid X.out; clear X
      clear hb
      have O63 := Lib.hid (Own.mono ho (show w.heap.size ≤ _ from HSZ.out)); clear ho HBS
      clear HSZ
      go_wp2_with (fail)
      have HSZ := Lib.hid BW.out.size
      refine (eqIdS_any x0 A'22 A'61 n0 c'23 c'62 _ HN0.out (by omega) O24.out.repAny O63.out.repAny).mono ?_; rintro e v11 ⟨rfl, hb⟩
      have X := Lib.hid (show Below w.heap.size w v11 from BW.out.trans (hb.mono BW.out.size)); clear BW
      have BW := Lib.hid X.out; clear X
      have X := Lib.hid (O3.out.below hb); clear O3
      have O3 := Lib.hid X.out; clear X
      have X := Lib.hid (O8.out.below hb); clear O8
      have O8 := Lib.hid X.out; clear X
      have X := Lib.hid (O15.out.below hb); clear O15
      have O15 := Lib.hid X.out; clear X
      have X := Lib.hid (O24.out.below hb); clear O24
      have O24 := Lib.hid X.out; clear X
      have X := Lib.hid (O35.out.below hb); clear O35
      have O35 := Lib.hid X.out; clear X
      have X := Lib.hid (O48.out.below hb); clear O48
      have O48 := Lib.hid X.out; clear X
      have X := Lib.hid (O63.out.below hb); clear O63
      have O63 := Lib.hid X.out; clear X
      clear hb
      clear HSZ
      go_wp2_with (fail)
      have HSZ := Lib.hid BW.out.size
      refine (toIdS_any x1 A1 n1 c1 _ HN1.out (by omega) (RA1.out.below BW.out)).mono ?_; rintro e v12 ⟨A'78, c'79, rfl, hM, hb⟩
      obtain ⟨F81, hnd, ho⟩ := hM
      have N82 := Lib.hid hnd; clear hnd
      have D83 := Lib.hid (show ∀ b ∈ F4, b ∉ F81 from fun b hb he => by have h1 := (O3.out.in b hb).2; have h2 := (ho.in b he).1; first | omega | (revert h1 h2; simp; done) | (revert h1 h2; simp; omega))
      have D84 := Lib.hid (show ∀ b ∈ F81, b ∉ F4 from fun b he hb => by have h1 := (O3.out.in b hb).2; have h2 := (ho.in b he).1; first | omega | (revert h1 h2; simp; done) | (revert h1 h2; simp; omega))
      have D85 := Lib.hid (show ∀ b ∈ F9, b ∉ F81 from fun b hb he => by have h1 := (O8.out.in b hb).2; have h2 := (ho.in b he).1; first | omega | (revert h1 h2; simp; done) | (revert h1 h2; simp; omega))
      have D86 := Lib.hid (show ∀ b ∈ F81, b ∉ F9 from fun b he hb => by have h1 := (O8.out.in b hb).2; have h2 := (ho.in b he).1; first | omega | (revert h1 h2; simp; done) | (revert h1 h2; simp; omega))
      have D87 := Lib.hid (show ∀ b ∈ F16, b ∉ F81 from fun b hb he => by have h1 := (O15.out.in b hb).2; have h2 := (ho.in b he).1; first | omega | (revert h1 h2; simp; done) | (revert h1 h2; simp; omega))
      have D88 := Lib.hid (show ∀ b ∈ F81, b ∉ F16 from fun b he hb => by have h1 := (O15.out.in b hb).2; have h2 := (ho.in b he).1; first | omega | (revert h1 h2; simp; done) | (revert h1 h2; simp; omega))
      have D89 := Lib.hid (show ∀ b ∈ F25, b ∉ F81 from fun b hb he => by have h1 := (O24.out.in b hb).2; have h2 := (ho.in b he).1; first | omega | (revert h1 h2; simp; done) | (revert h1 h2; simp; omega))
      have D90 := Lib.hid (show ∀ b ∈ F81, b ∉ F25 from fun b he hb => by have h1 := (O24.out.in b hb).2; have h2 := (ho.in b he).1; first | omega | (revert h1 h2; simp; done) | (revert h1 h2; simp; omega))
      have D91 := Lib.hid (show ∀ b ∈ F36, b ∉ F81 from fun b hb he => by have h1 := (O35.out.in b hb).2; have h2 := (ho.in b he).1; first | omega | (revert h1 h2; simp; done) | (revert h1 h2; simp; omega))
      have D92 := Lib.hid (show ∀ b ∈ F81, b ∉ F36 from fun b he hb => by have h1 := (O35.out.in b hb).2; have h2 := (ho.in b he).1; first | omega | (revert h1 h2; simp; done) | (revert h1 h2; simp; omega))
      have D93 := Lib.hid (show ∀ b ∈ F49, b ∉ F81 from fun b hb he => by have h1 := (O48.out.in b hb).2; have h2 := (ho.in b he).1; first | omega | (revert h1 h2; simp; done) | (revert h1 h2; simp; omega))
      have D94 := Lib.hid (show ∀ b ∈ F81, b ∉ F49 from fun b he hb => by have h1 := (O48.out.in b hb).2; have h2 := (ho.in b he).1; first | omega | (revert h1 h2; simp; done) | (revert h1 h2; simp; omega))
      have D95 := Lib.hid (show ∀ b ∈ F64, b ∉ F81 from fun b hb he => by have h1 := (O63.out.in b hb).2; have h2 := (ho.in b he).1; first | omega | (revert h1 h2; simp; done) | (revert h1 h2; simp; omega))
      have D96 := Lib.hid (show ∀ b ∈ F81, b ∉ F64 from fun b he hb => by have h1 := (O63.out.in b hb).2; have h2 := (ho.in b he).1; first | omega | (revert h1 h2; simp; done) | (revert h1 h2; simp; omega))
      have hbs := hb.size
      have HBS := Lib.hid hbs; clear hbs
      have X := Lib.hid (show Below w.heap.size w v12 from BW.out.trans (hb.mono BW.out.size)); clear BW
      have BW := Lib.hid X.out; clear X
      have X := Lib.hid (O3.out.below hb); clear O3
      have O3 := Lib.hid X.out; clear X
      have X := Lib.hid (O8.out.below hb); clear O8
      have O8 := Lib.hid X.out; clear X
      have X := Lib.hid (O15.out.below hb); clear O15
      have O15 := Lib.hid X.out; clear X
      have X := Lib.hid (O24.out.below hb); clear O24
      have O24 := Lib.hid X.out; clear X
      have X := Lib.hid (O35.out.below hb); clear O35
      have O35 := Lib.hid X.out; clear X
      have X := Lib.hid (O48.out.below hb); clear O48
      have O48 := Lib.hid X.out; clear X
      have X := Lib.hid (O63.out.below hb); clear O63
      have O63 := Lib.hid X.out; clear X
      clear hb
      have O80 := Lib.hid (Own.mono ho (show w.heap.size ≤ _ from HSZ.out)); clear ho HBS
      clear HSZ
      go_wp2_with (fail)
      have HSZ := Lib.hid BW.out.size
      refine (eqIdS_any x1 A'33 A'78 n1 c'34 c'79 _ HN1.out (by omega) O35.out.repAny O80.out.repAny).mono ?_; rintro e v13 ⟨rfl, hb⟩
      have X := Lib.hid (show Below w.heap.size w v13 from BW.out.trans (hb.mono BW.out.size)); clear BW
      have BW := Lib.hid X.out; clear X
      have X := Lib.hid (O3.out.below hb); clear O3
      have O3 := Lib.hid X.out; clear X
      have X := Lib.hid (O8.out.below hb); clear O8
      have O8 := Lib.hid X.out; clear X
      have X := Lib.hid (O15.out.below hb); clear O15
      have O15 := Lib.hid X.out; clear X
      have X := Lib.hid (O24.out.below hb); clear O24
      have O24 := Lib.hid X.out; clear X
      have X := Lib.hid (O35.out.below hb); clear O35
      have O35 := Lib.hid X.out; clear X
      have X := Lib.hid (O48.out.below hb); clear O48
      have O48 := Lib.hid X.out; clear X
      have X := Lib.hid (O63.out.below hb); clear O63
      have O63 := Lib.hid X.out; clear X
      have X := Lib.hid (O80.out.below hb); clear O80
      have O80 := Lib.hid X.out; clear X
      clear hb
      clear HSZ
      go_wp2_with (fail)
      have HSZ := Lib.hid BW.out.size
      refine (markIdS_any x0 (1) _ w.heap.size A'22 n0 c'23 F25 _ HN0.out (by first | rfl | omega) (by omega) (by first | omega | (have := HCN.out; omega) | (have := HCX0.out; have := HN0.out; omega) | (have := HCX1.out; have := HN1.out; omega) | (have := HCX0.out; have := HN0.out; have := HCX1.out; have := HN1.out; omega)) N26.out O24.out).mono ?_; rintro e v14 ⟨q97, rfl, hq, ho, hm⟩
      have hq0 : 0 ≤ q97 := by omega
      have HY98 := Lib.hid hq; clear hq
      have q97z := Lib.hid hq0
      have hdq97 : decide (q97 < 0) = false := by simp only [decide_eq_false_iff_not]; omega
      have X := Lib.hid (O3.out.mod1 hm D27.out); clear O3
      have O3 := Lib.hid X.out; clear X
      have X := Lib.hid (O8.out.mod1 hm D29.out); clear O8
      have O8 := Lib.hid X.out; clear X
      have X := Lib.hid (O15.out.mod1 hm D31.out); clear O15
      have O15 := Lib.hid X.out; clear X
      have X := Lib.hid (O35.out.mod1 hm D45.out); clear O35
      have O35 := Lib.hid X.out; clear X
      have X := Lib.hid (O48.out.mod1 hm D58.out); clear O48
      have O48 := Lib.hid X.out; clear X
      have X := Lib.hid (O63.out.mod1 hm D73.out); clear O63
      have O63 := Lib.hid X.out; clear X
      have X := Lib.hid (O80.out.mod1 hm D90.out); clear O80
      have O80 := Lib.hid X.out; clear X
      have X := Lib.hid (show Below w.heap.size w v14 from Mod.below BW.out hm BW.out.size (fun b hb => (O24.out.in b hb).1)); clear BW O24
      have BW := Lib.hid X.out; clear X
      have O24 := Lib.hid ho; clear ho hm
      clear HSZ
      go_wp2_with (fail)
      have HSZ := Lib.hid BW.out.size
      refine (markIdS_any x1 (1 + cts IdD.cnt x0) _ w.heap.size A'33 n1 c'34 F36 _ HN1.out (by first | rfl | exact HY98.out) (by omega) (by first | omega | (have := HCN.out; omega) | (have := HCX0.out; have := HN0.out; omega) | (have := HCX1.out; have := HN1.out; omega) | (have := HCX0.out; have := HN0.out; have := HCX1.out; have := HN1.out; omega)) N37.out O35.out).mono ?_; rintro e v15 ⟨q99, rfl, hq, ho, hm⟩
      have hq0 : 0 ≤ q99 := by omega
      have HY100 := Lib.hid hq; clear hq
      have q99z := Lib.hid hq0
      have hdq99 : decide (q99 < 0) = false := by simp only [decide_eq_false_iff_not]; omega
      have X := Lib.hid (O3.out.mod1 hm D38.out); clear O3
      have O3 := Lib.hid X.out; clear X
      have X := Lib.hid (O8.out.mod1 hm D40.out); clear O8
      have O8 := Lib.hid X.out; clear X
      have X := Lib.hid (O15.out.mod1 hm D42.out); clear O15
      have O15 := Lib.hid X.out; clear X
      have X := Lib.hid (O24.out.mod1 hm D44.out); clear O24
      have O24 := Lib.hid X.out; clear X
      have X := Lib.hid (O48.out.mod1 hm D60.out); clear O48
      have O48 := Lib.hid X.out; clear X
      have X := Lib.hid (O63.out.mod1 hm D75.out); clear O63
      have O63 := Lib.hid X.out; clear X
      have X := Lib.hid (O80.out.mod1 hm D92.out); clear O80
      have O80 := Lib.hid X.out; clear X
      have X := Lib.hid (show Below w.heap.size w v15 from Mod.below BW.out hm BW.out.size (fun b hb => (O35.out.in b hb).1)); clear BW O35
      have BW := Lib.hid X.out; clear X
      have O35 := Lib.hid ho; clear ho hm
      clear HSZ
      go_wp2_with (fail)
      have HSZ := Lib.hid BW.out.size
      refine (eqIdS_any r0 A'46 A'13 r0.length c'47 c'14 _ rfl (by first | omega | (have := HWT.out; omega)) O48.out.repAny O15.out.repAny).mono ?_; rintro e v16 ⟨rfl, hb⟩
      have X := Lib.hid (show Below w.heap.size w v16 from BW.out.trans (hb.mono BW.out.size)); clear BW
      have BW := Lib.hid X.out; clear X
      have X := Lib.hid (O3.out.below hb); clear O3
      have O3 := Lib.hid X.out; clear X
      have X := Lib.hid (O8.out.below hb); clear O8
      have O8 := Lib.hid X.out; clear X
      have X := Lib.hid (O15.out.below hb); clear O15
      have O15 := Lib.hid X.out; clear X
      have X := Lib.hid (O24.out.below hb); clear O24
      have O24 := Lib.hid X.out; clear X
      have X := Lib.hid (O35.out.below hb); clear O35
      have O35 := Lib.hid X.out; clear X
      have X := Lib.hid (O48.out.below hb); clear O48
      have O48 := Lib.hid X.out; clear X
      have X := Lib.hid (O63.out.below hb); clear O63
      have O63 := Lib.hid X.out; clear X
      have X := Lib.hid (O80.out.below hb); clear O80
      have O80 := Lib.hid X.out; clear X
      clear hb
      clear HSZ
      go_wp2_with (fail)
      have HSZ := Lib.hid BW.out.size
      refine (markIdS_any r0 (1) _ w.heap.size A'46 r0.length c'47 F49 _ rfl (by first | rfl | omega) (by omega) (by first | omega | (have := HCN.out; omega) | (have := HCX0.out; have := HN0.out; omega) | (have := HCX1.out; have := HN1.out; omega) | (have := HCX0.out; have := HN0.out; have := HCX1.out; have := HN1.out; omega)) N50.out O48.out).mono ?_; rintro e v17 ⟨q101, rfl, hq, ho, hm⟩
      have hq0 : 0 ≤ q101 := by omega
      have HY102 := Lib.hid hq; clear hq
      have q101z := Lib.hid hq0
      have hdq101 : decide (q101 < 0) = false := by simp only [decide_eq_false_iff_not]; omega
      have X := Lib.hid (O3.out.mod1 hm D51.out); clear O3
      have O3 := Lib.hid X.out; clear X
      have X := Lib.hid (O8.out.mod1 hm D53.out); clear O8
      have O8 := Lib.hid X.out; clear X
      have X := Lib.hid (O15.out.mod1 hm D55.out); clear O15
      have O15 := Lib.hid X.out; clear X
      have X := Lib.hid (O24.out.mod1 hm D57.out); clear O24
      have O24 := Lib.hid X.out; clear X
      have X := Lib.hid (O35.out.mod1 hm D59.out); clear O35
      have O35 := Lib.hid X.out; clear X
      have X := Lib.hid (O63.out.mod1 hm D77.out); clear O63
      have O63 := Lib.hid X.out; clear X
      have X := Lib.hid (O80.out.mod1 hm D94.out); clear O80
      have O80 := Lib.hid X.out; clear X
      have X := Lib.hid (show Below w.heap.size w v17 from Mod.below BW.out hm BW.out.size (fun b hb => (O48.out.in b hb).1)); clear BW O48
      have BW := Lib.hid X.out; clear X
      have O48 := Lib.hid ho; clear ho hm
      clear HSZ
      go_wp2_with (fail)
      have HSZ := Lib.hid BW.out.size
      refine (heldIdS_any r0 (1) _ A'46 r0.length c'47 _ rfl (by first | rfl | omega) (by omega) (by first | omega | (have := HCN.out; omega)) O48.out.repAny).mono ?_; rintro e v18 ⟨q103, rfl, hq, hb⟩
      have hq1 : q101 = q103 := (hq.trans HY102.out.symm).symm
      subst hq1
      clear hq
      have X := Lib.hid (show Below w.heap.size w v18 from BW.out.trans (hb.mono BW.out.size)); clear BW
      have BW := Lib.hid X.out; clear X
      have X := Lib.hid (O3.out.below hb); clear O3
      have O3 := Lib.hid X.out; clear X
      have X := Lib.hid (O8.out.below hb); clear O8
      have O8 := Lib.hid X.out; clear X
      have X := Lib.hid (O15.out.below hb); clear O15
      have O15 := Lib.hid X.out; clear X
      have X := Lib.hid (O24.out.below hb); clear O24
      have O24 := Lib.hid X.out; clear X
      have X := Lib.hid (O35.out.below hb); clear O35
      have O35 := Lib.hid X.out; clear X
      have X := Lib.hid (O48.out.below hb); clear O48
      have O48 := Lib.hid X.out; clear X
      have X := Lib.hid (O63.out.below hb); clear O63
      have O63 := Lib.hid X.out; clear X
      have X := Lib.hid (O80.out.below hb); clear O80
      have O80 := Lib.hid X.out; clear X
      clear hb
      clear HSZ
      go_wp2_with (fail)
      have HSZ := Lib.hid BW.out.size
      refine (toIdS_any x0 A0 n0 c0 _ HN0.out (by omega) (RA0.out.below BW.out)).mono ?_; rintro e v19 ⟨A'104, c'105, rfl, hM, hb⟩
      obtain ⟨F107, hnd, ho⟩ := hM
      have N108 := Lib.hid hnd; clear hnd
      have D109 := Lib.hid (show ∀ b ∈ F4, b ∉ F107 from fun b hb he => by have h1 := (O3.out.in b hb).2; have h2 := (ho.in b he).1; first | omega | (revert h1 h2; simp; done) | (revert h1 h2; simp; omega))
      have D110 := Lib.hid (show ∀ b ∈ F107, b ∉ F4 from fun b he hb => by have h1 := (O3.out.in b hb).2; have h2 := (ho.in b he).1; first | omega | (revert h1 h2; simp; done) | (revert h1 h2; simp; omega))
      have D111 := Lib.hid (show ∀ b ∈ F9, b ∉ F107 from fun b hb he => by have h1 := (O8.out.in b hb).2; have h2 := (ho.in b he).1; first | omega | (revert h1 h2; simp; done) | (revert h1 h2; simp; omega))
      have D112 := Lib.hid (show ∀ b ∈ F107, b ∉ F9 from fun b he hb => by have h1 := (O8.out.in b hb).2; have h2 := (ho.in b he).1; first | omega | (revert h1 h2; simp; done) | (revert h1 h2; simp; omega))
      have D113 := Lib.hid (show ∀ b ∈ F16, b ∉ F107 from fun b hb he => by have h1 := (O15.out.in b hb).2; have h2 := (ho.in b he).1; first | omega | (revert h1 h2; simp; done) | (revert h1 h2; simp; omega))
      have D114 := Lib.hid (show ∀ b ∈ F107, b ∉ F16 from fun b he hb => by have h1 := (O15.out.in b hb).2; have h2 := (ho.in b he).1; first | omega | (revert h1 h2; simp; done) | (revert h1 h2; simp; omega))
      have D115 := Lib.hid (show ∀ b ∈ F25, b ∉ F107 from fun b hb he => by have h1 := (O24.out.in b hb).2; have h2 := (ho.in b he).1; first | omega | (revert h1 h2; simp; done) | (revert h1 h2; simp; omega))
      have D116 := Lib.hid (show ∀ b ∈ F107, b ∉ F25 from fun b he hb => by have h1 := (O24.out.in b hb).2; have h2 := (ho.in b he).1; first | omega | (revert h1 h2; simp; done) | (revert h1 h2; simp; omega))
      have D117 := Lib.hid (show ∀ b ∈ F36, b ∉ F107 from fun b hb he => by have h1 := (O35.out.in b hb).2; have h2 := (ho.in b he).1; first | omega | (revert h1 h2; simp; done) | (revert h1 h2; simp; omega))
      have D118 := Lib.hid (show ∀ b ∈ F107, b ∉ F36 from fun b he hb => by have h1 := (O35.out.in b hb).2; have h2 := (ho.in b he).1; first | omega | (revert h1 h2; simp; done) | (revert h1 h2; simp; omega))
      have D119 := Lib.hid (show ∀ b ∈ F49, b ∉ F107 from fun b hb he => by have h1 := (O48.out.in b hb).2; have h2 := (ho.in b he).1; first | omega | (revert h1 h2; simp; done) | (revert h1 h2; simp; omega))
      have D120 := Lib.hid (show ∀ b ∈ F107, b ∉ F49 from fun b he hb => by have h1 := (O48.out.in b hb).2; have h2 := (ho.in b he).1; first | omega | (revert h1 h2; simp; done) | (revert h1 h2; simp; omega))
      have D121 := Lib.hid (show ∀ b ∈ F64, b ∉ F107 from fun b hb he => by have h1 := (O63.out.in b hb).2; have h2 := (ho.in b he).1; first | omega | (revert h1 h2; simp; done) | (revert h1 h2; simp; omega))
      have D122 := Lib.hid (show ∀ b ∈ F107, b ∉ F64 from fun b he hb => by have h1 := (O63.out.in b hb).2; have h2 := (ho.in b he).1; first | omega | (revert h1 h2; simp; done) | (revert h1 h2; simp; omega))
      have D123 := Lib.hid (show ∀ b ∈ F81, b ∉ F107 from fun b hb he => by have h1 := (O80.out.in b hb).2; have h2 := (ho.in b he).1; first | omega | (revert h1 h2; simp; done) | (revert h1 h2; simp; omega))
      have D124 := Lib.hid (show ∀ b ∈ F107, b ∉ F81 from fun b he hb => by have h1 := (O80.out.in b hb).2; have h2 := (ho.in b he).1; first | omega | (revert h1 h2; simp; done) | (revert h1 h2; simp; omega))
      have hbs := hb.size
      have HBS := Lib.hid hbs; clear hbs
      have X := Lib.hid (show Below w.heap.size w v19 from BW.out.trans (hb.mono BW.out.size)); clear BW
      have BW := Lib.hid X.out; clear X
      have X := Lib.hid (O3.out.below hb); clear O3
      have O3 := Lib.hid X.out; clear X
      have X := Lib.hid (O8.out.below hb); clear O8
      have O8 := Lib.hid X.out; clear X
      have X := Lib.hid (O15.out.below hb); clear O15
      have O15 := Lib.hid X.out; clear X
      have X := Lib.hid (O24.out.below hb); clear O24
      have O24 := Lib.hid X.out; clear X
      have X := Lib.hid (O35.out.below hb); clear O35
      have O35 := Lib.hid X.out; clear X
      have X := Lib.hid (O48.out.below hb); clear O48
      have O48 := Lib.hid X.out; clear X
      have X := Lib.hid (O63.out.below hb); clear O63
      have O63 := Lib.hid X.out; clear X
      have X := Lib.hid (O80.out.below hb); clear O80
      have O80 := Lib.hid X.out; clear X
      clear hb
      have O106 := Lib.hid (Own.mono ho (show w.heap.size ≤ _ from HSZ.out)); clear ho HBS
      clear HSZ
      go_wp2_with (fail)
      have HSZ := Lib.hid BW.out.size
      refine (toIdS_any x1 A1 n1 c1 _ HN1.out (by omega) (RA1.out.below BW.out)).mono ?_; rintro e v20 ⟨A'125, c'126, rfl, hM, hb⟩
      obtain ⟨F128, hnd, ho⟩ := hM
      have N129 := Lib.hid hnd; clear hnd
      have D130 := Lib.hid (show ∀ b ∈ F4, b ∉ F128 from fun b hb he => by have h1 := (O3.out.in b hb).2; have h2 := (ho.in b he).1; first | omega | (revert h1 h2; simp; done) | (revert h1 h2; simp; omega))
      have D131 := Lib.hid (show ∀ b ∈ F128, b ∉ F4 from fun b he hb => by have h1 := (O3.out.in b hb).2; have h2 := (ho.in b he).1; first | omega | (revert h1 h2; simp; done) | (revert h1 h2; simp; omega))
      have D132 := Lib.hid (show ∀ b ∈ F9, b ∉ F128 from fun b hb he => by have h1 := (O8.out.in b hb).2; have h2 := (ho.in b he).1; first | omega | (revert h1 h2; simp; done) | (revert h1 h2; simp; omega))
      have D133 := Lib.hid (show ∀ b ∈ F128, b ∉ F9 from fun b he hb => by have h1 := (O8.out.in b hb).2; have h2 := (ho.in b he).1; first | omega | (revert h1 h2; simp; done) | (revert h1 h2; simp; omega))
      have D134 := Lib.hid (show ∀ b ∈ F16, b ∉ F128 from fun b hb he => by have h1 := (O15.out.in b hb).2; have h2 := (ho.in b he).1; first | omega | (revert h1 h2; simp; done) | (revert h1 h2; simp; omega))
      have D135 := Lib.hid (show ∀ b ∈ F128, b ∉ F16 from fun b he hb => by have h1 := (O15.out.in b hb).2; have h2 := (ho.in b he).1; first | omega | (revert h1 h2; simp; done) | (revert h1 h2; simp; omega))
      have D136 := Lib.hid (show ∀ b ∈ F25, b ∉ F128 from fun b hb he => by have h1 := (O24.out.in b hb).2; have h2 := (ho.in b he).1; first | omega | (revert h1 h2; simp; done) | (revert h1 h2; simp; omega))
      have D137 := Lib.hid (show ∀ b ∈ F128, b ∉ F25 from fun b he hb => by have h1 := (O24.out.in b hb).2; have h2 := (ho.in b he).1; first | omega | (revert h1 h2; simp; done) | (revert h1 h2; simp; omega))
      have D138 := Lib.hid (show ∀ b ∈ F36, b ∉ F128 from fun b hb he => by have h1 := (O35.out.in b hb).2; have h2 := (ho.in b he).1; first | omega | (revert h1 h2; simp; done) | (revert h1 h2; simp; omega))
      have D139 := Lib.hid (show ∀ b ∈ F128, b ∉ F36 from fun b he hb => by have h1 := (O35.out.in b hb).2; have h2 := (ho.in b he).1; first | omega | (revert h1 h2; simp; done) | (revert h1 h2; simp; omega))
      have D140 := Lib.hid (show ∀ b ∈ F49, b ∉ F128 from fun b hb he => by have h1 := (O48.out.in b hb).2; have h2 := (ho.in b he).1; first | omega | (revert h1 h2; simp; done) | (revert h1 h2; simp; omega))
      have D141 := Lib.hid (show ∀ b ∈ F128, b ∉ F49 from fun b he hb => by have h1 := (O48.out.in b hb).2; have h2 := (ho.in b he).1; first | omega | (revert h1 h2; simp; done) | (revert h1 h2; simp; omega))
      have D142 := Lib.hid (show ∀ b ∈ F64, b ∉ F128 from fun b hb he => by have h1 := (O63.out.in b hb).2; have h2 := (ho.in b he).1; first | omega | (revert h1 h2; simp; done) | (revert h1 h2; simp; omega))
      have D143 := Lib.hid (show ∀ b ∈ F128, b ∉ F64 from fun b he hb => by have h1 := (O63.out.in b hb).2; have h2 := (ho.in b he).1; first | omega | (revert h1 h2; simp; done) | (revert h1 h2; simp; omega))
      have D144 := Lib.hid (show ∀ b ∈ F81, b ∉ F128 from fun b hb he => by have h1 := (O80.out.in b hb).2; have h2 := (ho.in b he).1; first | omega | (revert h1 h2; simp; done) | (revert h1 h2; simp; omega))
      have D145 := Lib.hid (show ∀ b ∈ F128, b ∉ F81 from fun b he hb => by have h1 := (O80.out.in b hb).2; have h2 := (ho.in b he).1; first | omega | (revert h1 h2; simp; done) | (revert h1 h2; simp; omega))
      have D146 := Lib.hid (show ∀ b ∈ F107, b ∉ F128 from fun b hb he => by have h1 := (O106.out.in b hb).2; have h2 := (ho.in b he).1; first | omega | (revert h1 h2; simp; done) | (revert h1 h2; simp; omega))
      have D147 := Lib.hid (show ∀ b ∈ F128, b ∉ F107 from fun b he hb => by have h1 := (O106.out.in b hb).2; have h2 := (ho.in b he).1; first | omega | (revert h1 h2; simp; done) | (revert h1 h2; simp; omega))
      have hbs := hb.size
      have HBS := Lib.hid hbs; clear hbs
      have X := Lib.hid (show Below w.heap.size w v20 from BW.out.trans (hb.mono BW.out.size)); clear BW
      have BW := Lib.hid X.out; clear X
      have X := Lib.hid (O3.out.below hb); clear O3
      have O3 := Lib.hid X.out; clear X
      have X := Lib.hid (O8.out.below hb); clear O8
      have O8 := Lib.hid X.out; clear X
      have X := Lib.hid (O15.out.below hb); clear O15
      have O15 := Lib.hid X.out; clear X
      have X := Lib.hid (O24.out.below hb); clear O24
      have O24 := Lib.hid X.out; clear X
      have X := Lib.hid (O35.out.below hb); clear O35
      have O35 := Lib.hid X.out; clear X
      have X := Lib.hid (O48.out.below hb); clear O48
      have O48 := Lib.hid X.out; clear X
      have X := Lib.hid (O63.out.below hb); clear O63
      have O63 := Lib.hid X.out; clear X
      have X := Lib.hid (O80.out.below hb); clear O80
      have O80 := Lib.hid X.out; clear X
      have X := Lib.hid (O106.out.below hb); clear O106
      have O106 := Lib.hid X.out; clear X
      clear hb
      have O127 := Lib.hid (Own.mono ho (show w.heap.size ≤ _ from HSZ.out)); clear ho HBS
      clear HSZ
      go_wp2_with (fail)
      have HSZ := Lib.hid BW.out.size
      refine (Hi.out A'104 c'105 A'125 c'126 _ O106.out.repAny O127.out.repAny (Own.sl_cap O106.out)).mono ?_; rintro e v21 ⟨A'148, _, c'149, rfl, rfl, hM0, hb⟩
      obtain ⟨F151, hnd, ho⟩ := hM0
      have N152 := Lib.hid hnd; clear hnd
      have D153 := Lib.hid (show ∀ b ∈ F4, b ∉ F151 from fun b hb he => by have h1 := (O3.out.in b hb).2; have h2 := (ho.in b he).1; first | omega | (revert h1 h2; simp; done) | (revert h1 h2; simp; omega))
      have D154 := Lib.hid (show ∀ b ∈ F151, b ∉ F4 from fun b he hb => by have h1 := (O3.out.in b hb).2; have h2 := (ho.in b he).1; first | omega | (revert h1 h2; simp; done) | (revert h1 h2; simp; omega))
      have D155 := Lib.hid (show ∀ b ∈ F9, b ∉ F151 from fun b hb he => by have h1 := (O8.out.in b hb).2; have h2 := (ho.in b he).1; first | omega | (revert h1 h2; simp; done) | (revert h1 h2; simp; omega))
      have D156 := Lib.hid (show ∀ b ∈ F151, b ∉ F9 from fun b he hb => by have h1 := (O8.out.in b hb).2; have h2 := (ho.in b he).1; first | omega | (revert h1 h2; simp; done) | (revert h1 h2; simp; omega))
      have D157 := Lib.hid (show ∀ b ∈ F16, b ∉ F151 from fun b hb he => by have h1 := (O15.out.in b hb).2; have h2 := (ho.in b he).1; first | omega | (revert h1 h2; simp; done) | (revert h1 h2; simp; omega))
      have D158 := Lib.hid (show ∀ b ∈ F151, b ∉ F16 from fun b he hb => by have h1 := (O15.out.in b hb).2; have h2 := (ho.in b he).1; first | omega | (revert h1 h2; simp; done) | (revert h1 h2; simp; omega))
      have D159 := Lib.hid (show ∀ b ∈ F25, b ∉ F151 from fun b hb he => by have h1 := (O24.out.in b hb).2; have h2 := (ho.in b he).1; first | omega | (revert h1 h2; simp; done) | (revert h1 h2; simp; omega))
      have D160 := Lib.hid (show ∀ b ∈ F151, b ∉ F25 from fun b he hb => by have h1 := (O24.out.in b hb).2; have h2 := (ho.in b he).1; first | omega | (revert h1 h2; simp; done) | (revert h1 h2; simp; omega))
      have D161 := Lib.hid (show ∀ b ∈ F36, b ∉ F151 from fun b hb he => by have h1 := (O35.out.in b hb).2; have h2 := (ho.in b he).1; first | omega | (revert h1 h2; simp; done) | (revert h1 h2; simp; omega))
      have D162 := Lib.hid (show ∀ b ∈ F151, b ∉ F36 from fun b he hb => by have h1 := (O35.out.in b hb).2; have h2 := (ho.in b he).1; first | omega | (revert h1 h2; simp; done) | (revert h1 h2; simp; omega))
      have D163 := Lib.hid (show ∀ b ∈ F49, b ∉ F151 from fun b hb he => by have h1 := (O48.out.in b hb).2; have h2 := (ho.in b he).1; first | omega | (revert h1 h2; simp; done) | (revert h1 h2; simp; omega))
      have D164 := Lib.hid (show ∀ b ∈ F151, b ∉ F49 from fun b he hb => by have h1 := (O48.out.in b hb).2; have h2 := (ho.in b he).1; first | omega | (revert h1 h2; simp; done) | (revert h1 h2; simp; omega))
      have D165 := Lib.hid (show ∀ b ∈ F64, b ∉ F151 from fun b hb he => by have h1 := (O63.out.in b hb).2; have h2 := (ho.in b he).1; first | omega | (revert h1 h2; simp; done) | (revert h1 h2; simp; omega))
      have D166 := Lib.hid (show ∀ b ∈ F151, b ∉ F64 from fun b he hb => by have h1 := (O63.out.in b hb).2; have h2 := (ho.in b he).1; first | omega | (revert h1 h2; simp; done) | (revert h1 h2; simp; omega))
      have D167 := Lib.hid (show ∀ b ∈ F81, b ∉ F151 from fun b hb he => by have h1 := (O80.out.in b hb).2; have h2 := (ho.in b he).1; first | omega | (revert h1 h2; simp; done) | (revert h1 h2; simp; omega))
      have D168 := Lib.hid (show ∀ b ∈ F151, b ∉ F81 from fun b he hb => by have h1 := (O80.out.in b hb).2; have h2 := (ho.in b he).1; first | omega | (revert h1 h2; simp; done) | (revert h1 h2; simp; omega))
      have D169 := Lib.hid (show ∀ b ∈ F107, b ∉ F151 from fun b hb he => by have h1 := (O106.out.in b hb).2; have h2 := (ho.in b he).1; first | omega | (revert h1 h2; simp; done) | (revert h1 h2; simp; omega))
      have D170 := Lib.hid (show ∀ b ∈ F151, b ∉ F107 from fun b he hb => by have h1 := (O106.out.in b hb).2; have h2 := (ho.in b he).1; first | omega | (revert h1 h2; simp; done) | (revert h1 h2; simp; omega))
      have D171 := Lib.hid (show ∀ b ∈ F128, b ∉ F151 from fun b hb he => by have h1 := (O127.out.in b hb).2; have h2 := (ho.in b he).1; first | omega | (revert h1 h2; simp; done) | (revert h1 h2; simp; omega))
      have D172 := Lib.hid (show ∀ b ∈ F151, b ∉ F128 from fun b he hb => by have h1 := (O127.out.in b hb).2; have h2 := (ho.in b he).1; first | omega | (revert h1 h2; simp; done) | (revert h1 h2; simp; omega))
      have hbs := hb.size
      have HBS := Lib.hid hbs; clear hbs
      have X := Lib.hid (show Below w.heap.size w v21 from BW.out.trans (hb.mono BW.out.size)); clear BW
      have BW := Lib.hid X.out; clear X
      have X := Lib.hid (O3.out.below hb); clear O3
      have O3 := Lib.hid X.out; clear X
      have X := Lib.hid (O8.out.below hb); clear O8
      have O8 := Lib.hid X.out; clear X
      have X := Lib.hid (O15.out.below hb); clear O15
      have O15 := Lib.hid X.out; clear X
      have X := Lib.hid (O24.out.below hb); clear O24
      have O24 := Lib.hid X.out; clear X
      have X := Lib.hid (O35.out.below hb); clear O35
      have O35 := Lib.hid X.out; clear X
      have X := Lib.hid (O48.out.below hb); clear O48
      have O48 := Lib.hid X.out; clear X
      have X := Lib.hid (O63.out.below hb); clear O63
      have O63 := Lib.hid X.out; clear X
      have X := Lib.hid (O80.out.below hb); clear O80
      have O80 := Lib.hid X.out; clear X
      have X := Lib.hid (O106.out.below hb); clear O106
      have O106 := Lib.hid X.out; clear X
      have X := Lib.hid (O127.out.below hb); clear O127
      have O127 := Lib.hid X.out; clear X
      clear hb
      have O150 := Lib.hid (Own.mono ho (show w.heap.size ≤ _ from HSZ.out)); clear ho HBS
      clear HSZ
      go_wp2_with (fail)
      have HSZ := Lib.hid BW.out.size
      refine (eqIdS_any r0 A'148 A'13 r0.length c'149 c'14 _ rfl (by first | omega | (have := HWT.out; omega)) O150.out.repAny O15.out.repAny).mono ?_; rintro e v22 ⟨rfl, hb⟩
      have X := Lib.hid (show Below w.heap.size w v22 from BW.out.trans (hb.mono BW.out.size)); clear BW
      have BW := Lib.hid X.out; clear X
      have X := Lib.hid (O3.out.below hb); clear O3
      have O3 := Lib.hid X.out; clear X
      have X := Lib.hid (O8.out.below hb); clear O8
      have O8 := Lib.hid X.out; clear X
      have X := Lib.hid (O15.out.below hb); clear O15
      have O15 := Lib.hid X.out; clear X
      have X := Lib.hid (O24.out.below hb); clear O24
      have O24 := Lib.hid X.out; clear X
      have X := Lib.hid (O35.out.below hb); clear O35
      have O35 := Lib.hid X.out; clear X
      have X := Lib.hid (O48.out.below hb); clear O48
      have O48 := Lib.hid X.out; clear X
      have X := Lib.hid (O63.out.below hb); clear O63
      have O63 := Lib.hid X.out; clear X
      have X := Lib.hid (O80.out.below hb); clear O80
      have O80 := Lib.hid X.out; clear X
      have X := Lib.hid (O106.out.below hb); clear O106
      have O106 := Lib.hid X.out; clear X
      have X := Lib.hid (O127.out.below hb); clear O127
      have O127 := Lib.hid X.out; clear X
      have X := Lib.hid (O150.out.below hb); clear O150
      have O150 := Lib.hid X.out; clear X
      clear hb
      clear HSZ
      go_wp2_with (fail)
      have HSZ := Lib.hid BW.out.size
      refine (heldIdS_any r0 (1) _ A'46 r0.length c'47 _ rfl (by first | rfl | omega) (by omega) (by first | omega | (have := HCN.out; omega)) O48.out.repAny).mono ?_; rintro e v23 ⟨q173, rfl, hq, hb⟩
      have hq1 : q101 = q173 := (hq.trans HY102.out.symm).symm
      subst hq1
      clear hq
      have X := Lib.hid (show Below w.heap.size w v23 from BW.out.trans (hb.mono BW.out.size)); clear BW
      have BW := Lib.hid X.out; clear X
      have X := Lib.hid (O3.out.below hb); clear O3
      have O3 := Lib.hid X.out; clear X
      have X := Lib.hid (O8.out.below hb); clear O8
      have O8 := Lib.hid X.out; clear X
      have X := Lib.hid (O15.out.below hb); clear O15
      have O15 := Lib.hid X.out; clear X
      have X := Lib.hid (O24.out.below hb); clear O24
      have O24 := Lib.hid X.out; clear X
      have X := Lib.hid (O35.out.below hb); clear O35
      have O35 := Lib.hid X.out; clear X
      have X := Lib.hid (O48.out.below hb); clear O48
      have O48 := Lib.hid X.out; clear X
      have X := Lib.hid (O63.out.below hb); clear O63
      have O63 := Lib.hid X.out; clear X
      have X := Lib.hid (O80.out.below hb); clear O80
      have O80 := Lib.hid X.out; clear X
      have X := Lib.hid (O106.out.below hb); clear O106
      have O106 := Lib.hid X.out; clear X
      have X := Lib.hid (O127.out.below hb); clear O127
      have O127 := Lib.hid X.out; clear X
      have X := Lib.hid (O150.out.below hb); clear O150
      have O150 := Lib.hid X.out; clear X
      clear hb
      clear HSZ
      go_wp2
      go_ret
      exact ⟨ret_eq (by first | rfl | simp), BW.out⟩
    · skip
      go_enter Try.func9, Try.ntmps9
      go_wp2_with (fail)
      refine (szIdS_yes x0 _ A0 n0 c0 _ HN0.out (by omega) (by omega) hm0 OK0.out (RA0.out.below (by repeat' (first | with_reducible exact Below.refl _ _ | with_reducible refine Below.alloc ?_ ?_ _ | (simp; done) | (simp; omega) | omega))) (by omega)).mono ?_; rintro e v1 ⟨q0, rfl, ⟨g0a, g0b⟩, hq, hb⟩
      have HQ0 := Lib.hid hq; clear hq
      have BW := Lib.hid (show Below w.heap.size w v1 from Below.trans (by repeat' (first | with_reducible exact Below.refl _ _ | with_reducible refine Below.alloc ?_ ?_ _ | (simp; done) | (simp; omega) | omega)) (hb.mono (by first | (simp; done) | (simp; omega) | omega)))
      clear hb
      go_wp2_with (fail)
      have HSZ := Lib.hid BW.out.size
      refine (szIdS_no x1 _ A1 n1 c1 _ HN1.out (by omega) (by omega) hm1 OK1.out (RA1.out.below BW.out) (by have := HQ0.out; omega)).mono ?_; rintro e v2 ⟨rfl, hb⟩
      have X := Lib.hid (show Below w.heap.size w v2 from BW.out.trans (hb.mono BW.out.size)); clear BW
      have BW := Lib.hid X.out; clear X
      clear hb
      clear HSZ
      go_wp2
      go_ret
      exact ⟨ret_eq (by first | rfl | simp), BW.out⟩
  · skip
    go_enter Try.func9, Try.ntmps9
    go_wp2_with (fail)
    refine (szIdS_no x0 _ A0 n0 c0 _ HN0.out (by omega) (by omega) hm0 OK0.out (RA0.out.below (by repeat' (first | with_reducible exact Below.refl _ _ | with_reducible refine Below.alloc ?_ ?_ _ | (simp; done) | (simp; omega) | omega))) (by omega)).mono ?_; rintro e v1 ⟨rfl, hb⟩
    have BW := Lib.hid (show Below w.heap.size w v1 from Below.trans (by repeat' (first | with_reducible exact Below.refl _ _ | with_reducible refine Below.alloc ?_ ?_ _ | (simp; done) | (simp; omega) | omega)) (hb.mono (by first | (simp; done) | (simp; omega) | omega)))
    clear hb
    go_wp2
    go_ret
    exact ⟨ret_eq (by first | rfl | simp), BW.out⟩
set_option maxRecDepth 100000 in
theorem FnExactJoinIds_lifted (os : Os) (started : os.Started) (H : Type) (enc : TypeId × Value → H) :
    ReturnsInHanded {} Try.checked os 9 .any (Rows.fnExactJoinIdsSpec.pre6 enc Try.prog Try.f9 Rows.fnExactJoinIdsRow.domain false) (Rows.fnExactJoinIdsSpec.post enc Try.prog Try.f9 false true false false) := by
  refine returnsInHanded_of_change (C := Try.checked) own started (by kernel_rfl) Try.func9
    (ChangeSpec.witness6 (enc := enc) (C := Try.checked) false ⟨#[], #[.slice none 0 0, .slice none 0 0], []⟩ 8 (by kernel_rfl) (by kernel_rfl) (by kernel_rfl) (by kernel_rfl)) ?_
  intro W base args ds gs before hval0 hW _ _
  have hval : ∀ (j : Nat) t v, Try.f9.params[j]? = some t → args[j]? = some v → Value.okWide Try.prog W .any base t v := hval0
  have hW' := hW
  obtain ⟨p, q, hA0, hV, rfl, hfz, hnd⟩ := hW
  have hA : DataW.TrodAll enc Try.prog W 0 (fun _ => true) true Try.f9.params.toList args.toList ds p := hA0
  rw [Try.params9] at hA hval
  obtain ⟨v0, vs0, d0, ds0, p0, q0, hargs, rfl, rfl, h0, r0⟩ := trodAll_cons hA
  obtain ⟨v1, vs1, d1, ds1, p1, q1, rfl, rfl, rfl, h1, r1⟩ := trodAll_cons r0
  obtain ⟨rfl, rfl, rfl⟩ := trodAll_nil r1
  obtain rfl : args = #[v0, v1] := Array.ext' hargs
  obtain ⟨x0, A0, n0, c0, rfl, hn0, hm0, ok0, rp0⟩ := openV_IdS (hval 0 27 v0 rfl rfl) h0
  obtain ⟨x1, A1, n1, c1, rfl, hn1, hm1, ok1, rp1⟩ := openV_IdS (hval 1 27 v1 rfl rfl) h1
  refine (lJoinIds_all x0 A0 n0 c0 x1 A1 n1 c1 W hn0 hm0 ok0 rp0 hn1 hm1 ok1 rp1).mono fun e W' ⟨he, hb⟩ => ?_
  subst he
  refine ⟨_, rfl, law_post (tb := 4) laidOut (by kernel_rfl) rfl Try.underlying4 rfl ?_ hW' hb⟩
  intro ds hl
  rw [Try.params9] at hl
  match ds, hl with
  | [_, _], _ => rfl
theorem FnExactJoinIds_holds : Rows.FnExactJoinIdsSaid :=
  OpenClaim.holds_of_wide 9 Try.f9 rfl rfl rfl rfl rfl rfl rfl ⟨rfl, rfl, rfl, rfl, rfl⟩ rfl rfl rfl rfl rfl (by kernel_rfl) Try.func9 (by kernel_rfl)
    (of_decide_eq_true (by kernel_rfl)) (by unfold Func.isWrapper; first | (rw [if_pos (by decide +kernel)]; kernel_rfl) | (rw [if_neg (by decide +kernel)]; exact ⟨rfl, rfl⟩))
    (fun os started H enc _ => FnExactJoinIds_lifted os started H enc)
end Go.Proofs.Ytbdblfpepnoafaa
