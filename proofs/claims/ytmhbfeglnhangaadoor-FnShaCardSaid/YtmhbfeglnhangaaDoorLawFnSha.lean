/-
  The law on digests (FnSha) holds for all codes. No condition.
-/
import Derived.Test.YtmhbfeglnhangaaDoorSha5
import Derived.Test.YtmhbfeglnhangaaDoorDraw
import Derived.Test.YtmhbfeglnhangaaDoorEnd
import Derived.Test.YtmhbfeglnhangaaDoorLaid
import Derived.Test.YtmhbfeglnhangaaDoorTie
import Derived.Test.YtmhbfeglnhangaaDoorCards
import Derived.Test.YtmhbfeglnhangaaDoorOpen
namespace Go.Proofs.YtmhbfeglnhangaaDoor
open Go.RowKit Go.ChangeShapes Go.WideShapes Go.ChangeAt Go.Deep

theorem wf_u8 {x : Int} (h : (Lit.int .u8 x).wf = true) : 0 ≤ x ∧ x < 256 := by
  have h1 : IntKind.u8.min = 0 := rfl
  have h2 : IntKind.u8.max = 255 := rfl
  simp only [Lit.wf, Bool.and_eq_true, decide_eq_true_eq] at h
  omega
def byteOf : Value → UInt8
  | .int _ z => UInt8.ofNat z.toNat
  | _ => 0
theorem open_bytes {H : Type} {enc : TypeId × Value → H} {w : World} {base : Nat} {spare : Nat → Bool} {held : Bool} {v : Value} {d : DataW H} {ps : List MemPlace}
    (hv : ∃ A n c, v = .slice A n c) (h : DataW.Trod enc Tryd.prog w base spare held 24 v d ps) : ∃ (xs : List UInt8) (A : Option Addr) (n c : Nat), v = .slice A n c ∧ n ≤ 9223372036854775807 ∧ Reads w 1 A n (xs.map u8v) := by
  obtain ⟨A, n, c, rfl⟩ := hv
  obtain ⟨fuel, hf⟩ := h
  rcases open_slice1 Tryd.underlying24 (by kernel_rfl) hf with ⟨he, _⟩ | ⟨a, len, cap, m, n', V, D, Pl, he, _, hlc, hcm, hmm, _, hx⟩
  · simp [Value.cells] at he
    obtain ⟨rfl, rfl, rfl⟩ := he
    exact ⟨[], none, 0, 0, rfl, by omega, Reads.none_⟩
  · simp [Value.cells] at he
    obtain ⟨rfl, rfl, rfl⟩ := he
    have hlm : n ≤ m := by rw [hmm]; split <;> omega
    refine ⟨(List.range n).map fun i => byteOf (V i), some a, n, c, rfl, by simp only [maxLen] at hcm; omega, by simp, fun _ => ⟨a, rfl, fun j u hu => ?_⟩⟩
    have hj : j < n := by
      have := (List.getElem?_eq_some_iff.1 hu).1
      simpa using this
    obtain ⟨h1, h2⟩ := hx j (by omega)
    obtain ⟨z, hz, _, hwf⟩ := DataW.trod_int Tryd.underlying5 h2
    have hV : V j = .int .u8 z := by simpa using hz
    have hz2 := wf_u8 hwf
    rw [h1]
    simp only [List.map_map, List.getElem?_map, List.getElem?_range hj, Option.map_some, Function.comp_apply, Option.some.injEq] at hu
    rw [← hu, hV]
    simp only [byteOf, u8v]
    rw [ofNat_toNat (by omega), Int.toNat_of_nonneg hz2.1]
set_option maxRecDepth 100000 in
theorem digest_abc : hexL (shaL [97, 98, 99]) = [98, 97, 55, 56, 49, 54, 98, 102, 56, 102, 48, 49, 99, 102, 101, 97, 52, 49, 52, 49, 52, 48, 100, 101, 53, 100, 97, 101, 50, 50, 50, 51, 98, 48, 48, 51, 54, 49, 97, 51, 57, 54, 49, 55, 55, 97, 57, 99, 98, 52, 49, 48, 102, 102, 54, 49, 102, 50, 48, 48, 49, 53, 97, 100] := by decide +kernel
theorem digest_str : Value.string (bs (hexL (shaL [97, 98, 99]))) = .string { data := #[98, 97, 55, 56, 49, 54, 98, 102, 56, 102, 48, 49, 99, 102, 101, 97, 52, 49, 52, 49, 52, 48, 100, 101, 53, 100, 97, 101, 50, 50, 50, 51, 98, 48, 48, 51, 54, 49, 97, 51, 57, 54, 49, 55, 55, 97, 57, 99, 98, 52, 49, 48, 102, 102, 54, 49, 102, 50, 48, 48, 49, 53, 97, 100] } := by rw [digest_abc]; rfl
theorem big_any (A : Option Addr) (n c : Nat) (w : World) :
    Calls Tryd.prog 12 #[.slice A n c] w fun e w' => e = .returned (.bool (decide ((1048576 : Int) < (n : Int)))) ∧ w = w' := by
  go_enter Tryd.func12, Tryd.ntmps12
  go_wp2
  go_ret
  exact ⟨ret_eq rfl, rfl⟩
set_option maxRecDepth 100000 in
set_option maxHeartbeats 2000000 in
theorem lFnSha_all (A0 : Option Addr) (n0 c0 : Nat) (xs : List UInt8) (w : World) (hK : KK w) (hn0 : n0 ≤ 9223372036854775807) (h0 : Reads w 1 A0 n0 (xs.map u8v)) :
    Calls Tryd.prog 5 #[.slice A0 n0 c0] w fun e w' => e = .returned (.bool true) ∧ Below w.heap.size w w' := by
  have hB0 := hK.pos
  by_cases hl : n0 ≤ 1048576
  · have hbig : decide ((1048576 : Int) < (n0 : Int)) = false := by simp; omega
    go_enter Tryd.func5, Tryd.ntmps5
    go_wp2_with fail
    refine (big_any A0 n0 c0 _).mono ?_
    rintro e _ ⟨rfl, rfl⟩
    rw [hbig]
    go_wp2_with fail
    refine (drawSha_any A0 n0 c0 xs _ h0 hl).mono ?_
    rintro e v0 ⟨l, hll, rfl, hbd⟩
    have BW := Lib.hid hbd; clear hbd
    go_wp2_with fail
    obtain ⟨R1, hR1⟩ : ∃ R, R = shaL l := ⟨_, rfl⟩
    obtain ⟨R2, hR2⟩ : ∃ R, R = shaL (l ++ [120]) := ⟨_, rfl⟩
    obtain ⟨R4, hR4⟩ : ∃ R, R = shaL [97, 98, 99] := ⟨_, rfl⟩
    have hL1 : R1.length = 32 := by rw [hR1]; exact shaL_length _
    have hL2 : R2.length = 32 := by rw [hR2]; exact shaL_length _
    have hL4 : R4.length = 32 := by rw [hR4]; exact shaL_length _
    have HS := Lib.hid (show shortL l = R1.take 8 by rw [hR1, shortL])
    have hD := digest_str
    rw [← hR4] at hD
    have HD := Lib.hid hD; clear hD
    have EX := Lib.hid (show bs l ++ (ByteArray.mk #[120]) = bs (l ++ [120]) by rw [show (ByteArray.mk #[120]) = bs [120] from rfl, bs_append])
    have HR1 := Lib.hid hR1; clear hR1
    have HR2 := Lib.hid hR2; clear hR2
    have HR4 := Lib.hid hR4; clear hR4
    refine (iSha_any l _ (by omega) (hK.below BW.out hB0)).mono ?_
    rintro e v00 ⟨rfl, hb⟩
    have X := Lib.hid (show Below w.heap.size w v00 from BW.out.trans (hb.mono BW.out.size)); clear BW; have BW := Lib.hid X.out; clear X
    clear hb
    rw [← HR1.out]
    go_wp2
    have X := Lib.hid BW.out.drew; clear BW; have BW := Lib.hid X.out; clear X
    refine wp_region_x 31 [0, 1, 2, 3, 4, 5, 6, 7, 8, 9, 10, 13, 11, 14, 12, 15, 16, 17, 18, 19, 21, 22, 20, 23, 24, 25, 26, 27, 28, 29, 30] (by kernel_rfl) (by kernel_rfl) ?_
    iterate 1 (refine wpX_quiet rfl (by kernel_rfl) rfl ?_; go_wp2; refine ⟨rfl, ?_⟩)
    iterate 1 (refine wpX_quiet rfl (by kernel_rfl) rfl ?_; go_wp2; refine ⟨rfl, ?_⟩)
    iterate 1 (refine wpX_quiet rfl (by kernel_rfl) rfl ?_; go_wp2; refine ⟨rfl, ?_⟩)
    iterate 1 (refine wpX_quiet rfl (by kernel_rfl) rfl ?_; go_wp2; refine ⟨rfl, ?_⟩)
    iterate 2 (refine wpX_quiet rfl (by kernel_rfl) rfl ?_; go_wp2; refine ⟨rfl, ?_⟩)
    refine wpX_actor rfl (by kernel_rfl) ?_; go_wp2_with fail
    refine (sSha_any l _ (by omega)).mono ?_; rintro e v1 ⟨rfl, hb⟩; have X := Lib.hid (show Below w.heap.size w v1 from BW.out.trans (hb.mono BW.out.size)); clear BW; have BW := Lib.hid X.out; clear X; have HB := Lib.hid hb; clear hb
    rw [← HR1.out]
    go_wp2; refine ⟨Ext.of_below HB.out, ?_⟩; clear HB
    iterate 1 (refine wpX_quiet rfl (by kernel_rfl) rfl ?_; go_wp2; refine ⟨rfl, ?_⟩)
    iterate 1 (refine wpX_quiet rfl (by kernel_rfl) rfl ?_; go_wp2; refine ⟨rfl, ?_⟩)
    iterate 1 (refine wpX_quiet rfl (by kernel_rfl) rfl ?_; go_wp2; refine ⟨rfl, ?_⟩)
    iterate 2 (refine wpX_quiet rfl (by kernel_rfl) rfl ?_; go_wp2; refine ⟨rfl, ?_⟩)
    iterate 2 (refine wpX_quiet rfl (by kernel_rfl) rfl ?_; go_wp2; refine ⟨rfl, ?_⟩)
    refine wpX_actor rfl (by kernel_rfl) ?_; go_wp2_with fail
    try rw [EX.out]
    refine (iSha_any (l ++ [120]) _ (by simp; omega) (hK.below BW.out hB0)).mono ?_; rintro e v2 ⟨rfl, hb⟩; have X := Lib.hid (show Below w.heap.size w v2 from BW.out.trans (hb.mono BW.out.size)); clear BW; have BW := Lib.hid X.out; clear X; have HB := Lib.hid hb; clear hb
    rw [← HR2.out]
    go_wp2; refine ⟨Ext.of_below HB.out, ?_⟩; clear HB
    refine wpX_actor rfl (by kernel_rfl) ?_; go_wp2_with fail
    try rw [EX.out]
    refine (sSha_any (l ++ [120]) _ (by simp; omega)).mono ?_; rintro e v3 ⟨rfl, hb⟩; have X := Lib.hid (show Below w.heap.size w v3 from BW.out.trans (hb.mono BW.out.size)); clear BW; have BW := Lib.hid X.out; clear X; have HB := Lib.hid hb; clear hb
    rw [← HR2.out]
    go_wp2; refine ⟨Ext.of_below HB.out, ?_⟩; clear HB
    iterate 1 (refine wpX_quiet rfl (by kernel_rfl) rfl ?_; go_wp2; refine ⟨rfl, ?_⟩)
    iterate 1 (refine wpX_quiet rfl (by kernel_rfl) rfl ?_; go_wp2; refine ⟨rfl, ?_⟩)
    iterate 1 (refine wpX_quiet rfl (by kernel_rfl) rfl ?_; go_wp2; refine ⟨rfl, ?_⟩)
    iterate 2 (refine wpX_quiet rfl (by kernel_rfl) rfl ?_; go_wp2; refine ⟨rfl, ?_⟩)
    iterate 1 (refine wpX_quiet rfl (by kernel_rfl) rfl ?_; go_wp2; refine ⟨rfl, ?_⟩)
    refine wpX_actor rfl (by kernel_rfl) ?_; go_wp2_with fail
    refine (iShort_any l _ (by omega) (hK.below BW.out hB0)).mono ?_; rintro e v4 ⟨rfl, hb⟩; have X := Lib.hid (show Below w.heap.size w v4 from BW.out.trans (hb.mono BW.out.size)); clear BW; have BW := Lib.hid X.out; clear X; have HB := Lib.hid hb; clear hb
    rw [HS.out]
    go_wp2; refine ⟨Ext.of_below HB.out, ?_⟩; clear HB
    iterate 1 (refine wpX_quiet rfl (by kernel_rfl) rfl ?_; go_wp2; refine ⟨rfl, ?_⟩)
    iterate 1 (refine wpX_quiet rfl (by kernel_rfl) rfl ?_; go_wp2; refine ⟨rfl, ?_⟩)
    iterate 1 (refine wpX_quiet rfl (by kernel_rfl) rfl ?_; go_wp2; refine ⟨rfl, ?_⟩)
    refine wpX_actor rfl (by kernel_rfl) ?_; go_wp2_with fail
    refine (iSha_any [97, 98, 99] _ (by decide) (hK.below BW.out hB0)).mono ?_; rintro e v5 ⟨rfl, hb⟩; have X := Lib.hid (show Below w.heap.size w v5 from BW.out.trans (hb.mono BW.out.size)); clear BW; have BW := Lib.hid X.out; clear X; have HB := Lib.hid hb; clear hb
    rw [← HR4.out]
    go_wp2; refine ⟨Ext.of_below HB.out, ?_⟩; clear HB
    refine wpX_actor rfl (by kernel_rfl) ?_; go_wp2_with fail
    refine (iHex_any R4 _ (by omega)).mono ?_; rintro e v6 ⟨rfl, hb⟩; have X := Lib.hid (show Below w.heap.size w v6 from BW.out.trans (hb.mono BW.out.size)); clear BW; have BW := Lib.hid X.out; clear X; have HB := Lib.hid hb; clear hb
    rw [HD.out]
    go_wp2; refine ⟨Ext.of_below HB.out, ?_⟩; clear HB
    iterate 1 (refine wpX_quiet rfl (by kernel_rfl) rfl ?_; go_wp2; refine ⟨rfl, ?_⟩)
    iterate 1 (refine wpX_quiet rfl (by kernel_rfl) rfl ?_; go_wp2; refine ⟨rfl, ?_⟩)
    iterate 1 (refine wpX_quiet rfl (by kernel_rfl) rfl ?_; go_wp2; refine ⟨rfl, ?_⟩)
    refine wpX_nil ?_; try simp only [List.drop_succ_cons, List.drop_zero]
    go_wp2
    go_ret
    exact ⟨ret_eq (by first | rfl | simp), BW.out⟩
  · have hbig : decide ((1048576 : Int) < (n0 : Int)) = true := by simp; omega
    go_enter Tryd.func5, Tryd.ntmps5
    go_wp2_with fail
    refine (big_any A0 n0 c0 _).mono ?_
    rintro e _ ⟨rfl, rfl⟩
    rw [hbig]
    go_wp2_with fail
    go_ret
    exact ⟨ret_eq (by first | rfl | simp), Below.refl _ _⟩
set_option maxRecDepth 100000 in
theorem FnSha_lifted (os : Os) (started : os.Started) (H : Type) (enc : TypeId × Value → H) :
    ReturnsInHanded {} Tryd.checked os 5 .any (fun w args => (Rows.fnShaSpec.pre enc Tryd.prog Tryd.f5 [] false w args ∧ laidMetH Tryd.prog LL w) ∧ sizedMet enc Tryd.prog Tryd.f5 (OpenSpec.ofChange Rows.fnShaSpec) false w args) (Rows.fnShaSpec.post enc Tryd.prog Tryd.f5 false true false false) := by
  refine returnsInHanded_of_change_and (C := Tryd.checked) (X := fun w _ => laidMetH Tryd.prog LL w) (fun _ _ _ hh h => h.of_heap hh) own started (by kernel_rfl) Tryd.func5
    (ChangeSpec.witness_at (enc := enc) (C := Tryd.checked) (os := os) (X := fun w _ => laidMetH Tryd.prog LL w) false (laidW os) #[.slice none 0 0] 8 rfl (by kernel_rfl) (by kernel_rfl) (by kernel_rfl) (by kernel_rfl) (by kernel_rfl) (laidW_met os _)) ?_
  intro W base args ds gs before hval0 hW _ _ hL _
  have hval : ∀ (j : Nat) t v, Tryd.f5.params[j]? = some t → args[j]? = some v → Value.okWide Tryd.prog W .any base t v := hval0
  have hW' := hW
  obtain ⟨p, q, hA0, hV, rfl, hfz, hnd⟩ := hW
  have hA : DataW.TrodAll enc Tryd.prog W 0 (fun _ => true) true Tryd.f5.params.toList args.toList ds p := hA0
  rw [Tryd.params5] at hA hval
  obtain ⟨v0, vs0, d0, ds0, p0, q0, hargs, rfl, rfl, h0, r0⟩ := trodAll_cons hA
  obtain ⟨rfl, rfl, rfl⟩ := trodAll_nil r0
  obtain rfl : args = #[v0] := Array.ext' hargs
  obtain ⟨xs, a0, len0, cap0, rfl, hn0, hrd⟩ := open_bytes (okWide_slice Tryd.underlying24 (hval 0 24 v0 rfl rfl)) h0
  refine (lFnSha_all a0 len0 cap0 xs W (kk_of_laid hL) hn0 hrd).mono fun e W' ⟨he, hb⟩ => ?_
  subst he
  refine ⟨_, rfl, law_postV (tb := 4) laidOut (by kernel_rfl) rfl Tryd.underlying4 rfl gName gType gRead gRow ?_ hW' hb⟩
  intro ds g hl
  rw [Tryd.params5] at hl
  match ds, hl with
  | [_], _ => rfl
theorem FnSha_row : Rows.FnShaSaid :=
  OpenClaim.holds_of_wide 5 Tryd.f5 rfl rfl rfl rfl rfl rfl rfl ⟨rfl, rfl, rfl, rfl, rfl⟩ rfl rfl rfl rfl rfl (by kernel_rfl) Tryd.func5 (by kernel_rfl)
    (of_decide_eq_true (by kernel_rfl)) (by unfold Func.isWrapper; first | (rw [if_pos (by decide +kernel)]; kernel_rfl) | (rw [if_neg (by decide +kernel)]; exact ⟨rfl, rfl⟩))
    (fun os started H enc _ => FnSha_lifted os started H enc)
set_option maxRecDepth 100000 in
theorem FnSha_holds : Rows.FnShaCardSaid :=
  Claim7.holds_tied_plain_at .later [] [.data] true (true, "8f377b4529ddb00f0062f6252c1f7b706c2a9f0cfc2d507aa24e580916bab316") false
    FnSha_row (fun _ h => by cases h) (by kernel_rfl) (fun _ h => by cases h) fnSha_row_tie rfl ⟨rfl, rfl⟩ (by kernel_rfl) rfl
    (fun f fn hf hfn => by
      obtain rfl : 5 = f := Option.some.inj ((show Tryd.prog.funcNamed "loop.example/g00954/laws.FnSha" = some 5 by kernel_rfl).symm.trans hf)
      obtain rfl : fn = Tryd.f5 := (Option.some.inj (Tryd.func5.symm.trans hfn)).symm
      have hall : Tryd.f5.params.toList.all (fun t => !Tryd.prog.wantsStandIn t) = true := by kernel_rfl
      exact ⟨by kernel_rfl, fun j t ht => by
        have h1 := List.all_eq_true.1 hall t (List.mem_of_getElem? (by rw [Array.getElem?_toList]; exact ht))
        have h2 : Tryd.prog.wantsStandIn t = false := by simpa using h1
        exact h2⟩)
    (by kernel_rfl)
end Go.Proofs.YtmhbfeglnhangaaDoor
