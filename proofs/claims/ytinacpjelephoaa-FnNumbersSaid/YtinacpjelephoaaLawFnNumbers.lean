/-
  The law on numbers (FnNumbers) holds for all codes. No condition.
-/
import Derived.Test.YtinacpjelephoaaDrawV
import Derived.Test.YtinacpjelephoaaNumLaw
import Derived.Test.YtinacpjelephoaaEnd
import Derived.Test.YtinacpjelephoaaOpen
namespace Go.Proofs.Ytinacpjelephoaa
open Go.RowKit Go.ChangeShapes Go.WideShapes Go.ChangeAt Go.Deep
theorem wf_u8 {x : Int} (h : (Lit.int .u8 x).wf = true) : 0 ≤ x ∧ x < 256 := by
  have h1 : IntKind.u8.min = 0 := rfl
  have h2 : IntKind.u8.max = 255 := rfl
  simp only [Lit.wf, Bool.and_eq_true, decide_eq_true_eq] at h
  omega
def byteOf : Value → UInt8
  | .int _ z => UInt8.ofNat z.toNat
  | _ => 0
theorem open_bytes {H : Type} {enc : TypeId × Value → H} {w : World} {base : Nat} {spare : Nat → Bool} {held : Bool} {v : Value} {d : DataW H} {ps : List MemPlace}
    (hv : ∃ A n c, v = .slice A n c) (h : DataW.Trod enc Try.prog w base spare held 22 v d ps) : ∃ (xs : List UInt8) (A : Option Addr) (n c : Nat), v = .slice A n c ∧ n ≤ 9223372036854775807 ∧ Reads w 1 A n (xs.map u8v) := by
  obtain ⟨A, n, c, rfl⟩ := hv
  obtain ⟨fuel, hf⟩ := h
  rcases open_slice1 Try.underlying22 (by kernel_rfl) hf with ⟨he, _⟩ | ⟨a, len, cap, m, n', V, D, Pl, he, _, hlc, hcm, hmm, _, hx⟩
  · simp [Value.cells] at he
    obtain ⟨rfl, rfl, rfl⟩ := he
    exact ⟨[], none, 0, 0, rfl, by omega, Reads.none_⟩
  · simp [Value.cells] at he
    obtain ⟨rfl, rfl, rfl⟩ := he
    have hlm : n ≤ m := by rw [hmm]; split <;> omega
    refine ⟨(List.range n).map fun i => byteOf (V i), some a, n, c, rfl, by simp only [maxLen] at hcm; omega, by simp, fun _ => ⟨a, rfl, fun j u hu => ?_⟩⟩
    have hj : j < n := by
      have := (List.getElem?_eq_some_iff.1 hu).1
      simpa using this
    obtain ⟨h1, h2⟩ := hx j (by omega)
    obtain ⟨z, hz, _, hwf⟩ := DataW.trod_int Try.underlying5 h2
    have hV : V j = .int .u8 z := by simpa using hz
    have hz2 := wf_u8 hwf
    rw [h1]
    simp only [List.map_map, List.getElem?_map, List.getElem?_range hj, Option.map_some, Function.comp_apply, Option.some.injEq] at hu
    rw [← hu, hV]
    simp only [byteOf, u8v]
    rw [ofNat_toNat (by omega), Int.toNat_of_nonneg hz2.1]
theorem big_any (A : Option Addr) (n c : Nat) (w : World) :
    Calls Try.prog 5 #[.slice A n c] w fun e w' => e = .returned (.bool (decide ((1048576 : Int) < (n : Int)))) ∧ w = w' := by
  go_enter Try.func5, Try.ntmps5
  go_wp2
  go_ret
  exact ⟨ret_eq rfl, rfl⟩
theorem spoilF_len (xs : List UInt8) (s : DSt) (l : List UInt8) : (spoilF xs s l).1.length ≤ l.length + 4 := by
  unfold spoilF
  split
  · have := textF_len xs 3 s
    omega
  · simp only []
    split
    · simp only [List.length_append, List.length_take, List.length_drop]; omega
    · split
      · simp only [List.length_append, List.length_take, List.length_drop, List.length_cons, List.length_nil]; omega
      · split
        · simp only [List.length_take]; omega
        · simp only [List.length_append, List.length_take, List.length_drop, List.length_cons, List.length_nil]; omega
theorem drawRVF_len (xs : List UInt8) : (drawRVF xs).length ≤ 100 := by
  unfold drawRVF
  simp only []
  have h1 := varF_length (numF xs (startF xs)).1
  have h2 := textF_len xs 4 (numF xs (startF xs)).2
  split
  · refine Nat.le_trans (spoilF_len _ _ _) ?_
    rw [List.length_append]; omega
  · rw [List.length_append]; omega
theorem decL_len20 {n : Int} (h : i64ok n) : (decL n).length ≤ 1099511627776 := Nat.le_trans (decL_length h) (by omega)
set_option maxRecDepth 100000 in
set_option maxHeartbeats 4000000 in
theorem lFnNumbers_all (A0 : Option Addr) (n0 c0 : Nat) (xs : List UInt8) (w : World) (hn0 : n0 ≤ 9223372036854775807) (h0 : Reads w 1 A0 n0 (xs.map u8v)) :
    Calls Try.prog 3 #[.slice A0 n0 c0] w fun e w' => e = .returned (.bool true) ∧ Below w.heap.size w w' := by
  by_cases hl : n0 ≤ 1048576
  · have hbig : decide ((1048576 : Int) < (n0 : Int)) = false := by simp; omega
    have HDV := Lib.hid (fun W h => drawVar_x A0 n0 c0 xs W h hl)
    have HDH := Lib.hid (fun W h => drawHex_x A0 n0 c0 xs W h hl)
    have HDR := Lib.hid (fun W h => drawReadVar_x A0 n0 c0 xs W h hl)
    have hok := numF_ok xs (startF xs)
    generalize (numF xs (startF xs)).1 = N at *
    have htl := textF_len xs 40 (startF xs)
    generalize (textF xs 40 (startF xs)).1 = TL at *
    have hT := drawRVF_len xs
    generalize drawRVF xs = T at *
    have hj := readVarF_le T
    have hit := readVar_hit T
    have HRT := Lib.hid (fun W => iReadVar_any T W (by omega))
    have HV2 := Lib.hid (fun W => iVar_any ((readVarF T).1 : Int) W)
    generalize readVarF T = RT at *
    obtain ⟨z, j⟩ := RT
    simp only [] at hj hit HRT HV2
    generalize varF (z : Int) = VZ at *
    have hjT := hj.2.1
    have HIT := Lib.hid hit; clear hit hj
    have HH := Lib.hid (fun W => iHex_any TL W (by omega))
    have HU := Lib.hid (fun W => iUnhex_any (hexL TL) W (by rw [hexL_length]; omega))
    rw [unhexR_hex] at HU
    generalize hexL TL = HX at *
    have HV := Lib.hid (fun W => iVar_any N W)
    have HF := Lib.hid (fun W => iFixed_any N 7 W hok)
    have HD := Lib.hid (fun W => iDec_any N W hok)
    have HRD := Lib.hid (fun W => iReadDec_any (decL N) W (decL_len20 hok))
    have HRV := Lib.hid (fun W => iReadVar_any (varF N ++ TL) W (by rw [List.length_append]; have := varF_length N; omega))
    have HRF := Lib.hid (fun W h => iReadFixed_any (fixedF N 7 ++ TL) 7 W h)
    have hdec := readDec_back N
    generalize readDecF (decL N) = RD at *
    obtain ⟨dv, fine⟩ := RD
    simp only [] at hdec HRD
    generalize decL N = DL at *
    have HB := Lib.hid h0; clear h0
    by_cases hn1 : 0 ≤ N
    · by_cases hn2 : N ≤ 562949953421311
      · by_cases hn3 : N < 1000000000
        · skip
          obtain ⟨m, rfl⟩ : ∃ m : Nat, N = (m : Int) := ⟨N.toNat, by omega⟩
          have hm : m ≤ 562949953421311 := by omega
          have e1 := varF_nat hm
          have e2 := readVar_back hm TL
          have hne := varL_ne m
          have hVl := varL_length7 hm
          rw [e1] at HV HRV
          rw [e2] at HRV
          simp only [] at HRV
          generalize varL m = V at *
          have hV0 : V.isEmpty = false := by cases V with
            | nil => exact absurd rfl hne
            | cons a b => rfl
          clear e1 e2 hne
          have ef := fixed7_yes (n := m) (by omega) TL
          rw [ef.2] at HRF
          have HRF := Lib.hid (fun W => HRF.out W (by rw [List.length_append, ef.1]; omega))
          have hFl := ef.1
          simp only [] at HRF
          generalize fixedF ((m : Int) : Int) 7 = FX at *
          have hF0 : FX.isEmpty = false := by cases FX with
            | nil => cases hFl
            | cons a b => rfl
          have hF7 : (FX.length : Int) = 7 := by omega
          have hFl7 : FX.length ≤ 7 := by omega
          clear ef
          have hd := hdec.1 (by omega)
          injection hd with hd1 hd2
          rw [hd1, hd2] at HRD
          clear hdec hd1 hd2
          have d1 : decide ((0 : Int) ≤ (m : Int)) = true := by simp <;> omega
          have d2 : decide ((m : Int) ≤ 562949953421311) = true := by simp <;> omega
          have d3 : decide ((m : Int) < 0) = false := by simp <;> omega
          have d4 : decide (72057594037927936 ≤ (m : Int)) = false := by simp <;> omega
          have d5 : decide (-1000000000 < (m : Int)) = true := by simp <;> omega
          have d6 : decide ((m : Int) < 1000000000) = true := by simp <;> omega
          go_enter Try.func3, Try.ntmps3
          go_wp2_with fail
          refine (big_any A0 n0 c0 _).mono ?_
          rintro e _ ⟨rfl, rfl⟩
          rw [hbig]
          go_wp2_with fail
          refine (HDV.out _ HB.out).mono ?_
          rintro e w1 ⟨rfl, hb⟩
          have B1 := Lib.hid hb; clear hb
          go_wp2_with fail
          refine (HDH.out _ (HB.out.below B1.out)).mono ?_
          rintro e w2 ⟨rfl, hb⟩
          have B2 := Lib.hid (B1.out.trans (hb.mono B1.out.size)); clear hb B1
          go_wp2_with fail
          refine (HV.out _).mono ?_
          rintro e w3 ⟨rfl, hb⟩
          have B3 := Lib.hid (B2.out.trans (hb.mono B2.out.size)); clear hb B2
          go_wp2_with fail
          refine (HRV.out _).mono ?_
          rintro e w4 ⟨rfl, hb⟩
          have B4 := Lib.hid (B3.out.trans (hb.mono B3.out.size)); clear hb B3
          go_wp2_with fail
          refine (HF.out _).mono ?_
          rintro e w5 ⟨rfl, hb⟩
          have B5 := Lib.hid (B4.out.trans (hb.mono B4.out.size)); clear hb B4
          go_wp2_with fail
          refine (HRF.out _).mono ?_
          rintro e w6 ⟨rfl, hb⟩
          have B6 := Lib.hid (B5.out.trans (hb.mono B5.out.size)); clear hb B5
          go_wp2_with fail
          refine (HD.out _).mono ?_
          rintro e w7 ⟨rfl, hb⟩
          have B7 := Lib.hid (B6.out.trans (hb.mono B6.out.size)); clear hb B6
          go_wp2_with fail
          refine (HRD.out _).mono ?_
          rintro e w8 ⟨rfl, hb⟩
          have B8 := Lib.hid (B7.out.trans (hb.mono B7.out.size)); clear hb B7
          go_wp2_with fail
          refine (HH.out _).mono ?_
          rintro e w9 ⟨rfl, hb⟩
          have B9 := Lib.hid (B8.out.trans (hb.mono B8.out.size)); clear hb B8
          go_wp2_with fail
          refine (HU.out _).mono ?_
          rintro e w10 ⟨rfl, hb⟩
          have B10 := Lib.hid (B9.out.trans (hb.mono B9.out.size)); clear hb B9
          go_wp2_with fail
          refine (HDR.out _ (HB.out.below B10.out)).mono ?_
          rintro e w11 ⟨rfl, hb⟩
          have B11 := Lib.hid (B10.out.trans (hb.mono B10.out.size)); clear hb B10
          go_wp2_with fail
          refine (HRT.out _).mono ?_
          rintro e w12 ⟨rfl, hb⟩
          have B12 := Lib.hid (B11.out.trans (hb.mono B11.out.size)); clear hb B11
          by_cases hj0 : j = 0
          · subst hj0
            go_wp2
            go_ret
            exact ⟨ret_eq (by first | rfl | simp), B12.out⟩
          · have hjb : ((j : Int) == 0) = false := by simp only [beq_eq_false_iff_ne]; omega
            have hjl : (j : Int) ≤ (T.length : Int) := by omega
            have hVZ : VZ = T.take j := HIT.out.resolve_left hj0
            have HVZ := Lib.hid hVZ; clear hVZ
            clear hj0
            go_wp2_with fail
            refine (HV2.out _).mono ?_
            rintro e w13 ⟨rfl, hb⟩
            have B13 := Lib.hid (B12.out.trans (hb.mono B12.out.size)); clear hb B12
            go_wp2_with fail
            refine (HDR.out _ (HB.out.below B13.out)).mono ?_
            rintro e w14 ⟨rfl, hb⟩
            have B14 := Lib.hid (B13.out.trans (hb.mono B13.out.size)); clear hb B13
            rw [HVZ.out]
            go_wp2
            go_ret
            exact ⟨ret_eq (by first | rfl | simp), B14.out⟩
        · skip
          obtain ⟨m, rfl⟩ : ∃ m : Nat, N = (m : Int) := ⟨N.toNat, by omega⟩
          have hm : m ≤ 562949953421311 := by omega
          have e1 := varF_nat hm
          have e2 := readVar_back hm TL
          have hne := varL_ne m
          have hVl := varL_length7 hm
          rw [e1] at HV HRV
          rw [e2] at HRV
          simp only [] at HRV
          generalize varL m = V at *
          have hV0 : V.isEmpty = false := by cases V with
            | nil => exact absurd rfl hne
            | cons a b => rfl
          clear e1 e2 hne
          have ef := fixed7_yes (n := m) (by omega) TL
          rw [ef.2] at HRF
          have HRF := Lib.hid (fun W => HRF.out W (by rw [List.length_append, ef.1]; omega))
          have hFl := ef.1
          simp only [] at HRF
          generalize fixedF ((m : Int) : Int) 7 = FX at *
          have hF0 : FX.isEmpty = false := by cases FX with
            | nil => cases hFl
            | cons a b => rfl
          have hF7 : (FX.length : Int) = 7 := by omega
          have hFl7 : FX.length ≤ 7 := by omega
          clear ef
          have hd := hdec.2 (by omega)
          rw [hd] at HRD
          clear hdec hd
          have d1 : decide ((0 : Int) ≤ (m : Int)) = true := by simp <;> omega
          have d2 : decide ((m : Int) ≤ 562949953421311) = true := by simp <;> omega
          have d3 : decide ((m : Int) < 0) = false := by simp <;> omega
          have d4 : decide (72057594037927936 ≤ (m : Int)) = false := by simp <;> omega
          have d5 : decide (-1000000000 < (m : Int)) = true := by simp <;> omega
          have d6 : decide ((m : Int) < 1000000000) = false := by simp <;> omega
          go_enter Try.func3, Try.ntmps3
          go_wp2_with fail
          refine (big_any A0 n0 c0 _).mono ?_
          rintro e _ ⟨rfl, rfl⟩
          rw [hbig]
          go_wp2_with fail
          refine (HDV.out _ HB.out).mono ?_
          rintro e w1 ⟨rfl, hb⟩
          have B1 := Lib.hid hb; clear hb
          go_wp2_with fail
          refine (HDH.out _ (HB.out.below B1.out)).mono ?_
          rintro e w2 ⟨rfl, hb⟩
          have B2 := Lib.hid (B1.out.trans (hb.mono B1.out.size)); clear hb B1
          go_wp2_with fail
          refine (HV.out _).mono ?_
          rintro e w3 ⟨rfl, hb⟩
          have B3 := Lib.hid (B2.out.trans (hb.mono B2.out.size)); clear hb B2
          go_wp2_with fail
          refine (HRV.out _).mono ?_
          rintro e w4 ⟨rfl, hb⟩
          have B4 := Lib.hid (B3.out.trans (hb.mono B3.out.size)); clear hb B3
          go_wp2_with fail
          refine (HF.out _).mono ?_
          rintro e w5 ⟨rfl, hb⟩
          have B5 := Lib.hid (B4.out.trans (hb.mono B4.out.size)); clear hb B4
          go_wp2_with fail
          refine (HRF.out _).mono ?_
          rintro e w6 ⟨rfl, hb⟩
          have B6 := Lib.hid (B5.out.trans (hb.mono B5.out.size)); clear hb B5
          go_wp2_with fail
          refine (HD.out _).mono ?_
          rintro e w7 ⟨rfl, hb⟩
          have B7 := Lib.hid (B6.out.trans (hb.mono B6.out.size)); clear hb B6
          go_wp2_with fail
          refine (HRD.out _).mono ?_
          rintro e w8 ⟨rfl, hb⟩
          have B8 := Lib.hid (B7.out.trans (hb.mono B7.out.size)); clear hb B7
          go_wp2_with fail
          refine (HH.out _).mono ?_
          rintro e w9 ⟨rfl, hb⟩
          have B9 := Lib.hid (B8.out.trans (hb.mono B8.out.size)); clear hb B8
          go_wp2_with fail
          refine (HU.out _).mono ?_
          rintro e w10 ⟨rfl, hb⟩
          have B10 := Lib.hid (B9.out.trans (hb.mono B9.out.size)); clear hb B9
          go_wp2_with fail
          refine (HDR.out _ (HB.out.below B10.out)).mono ?_
          rintro e w11 ⟨rfl, hb⟩
          have B11 := Lib.hid (B10.out.trans (hb.mono B10.out.size)); clear hb B10
          go_wp2_with fail
          refine (HRT.out _).mono ?_
          rintro e w12 ⟨rfl, hb⟩
          have B12 := Lib.hid (B11.out.trans (hb.mono B11.out.size)); clear hb B11
          by_cases hj0 : j = 0
          · subst hj0
            go_wp2
            go_ret
            exact ⟨ret_eq (by first | rfl | simp), B12.out⟩
          · have hjb : ((j : Int) == 0) = false := by simp only [beq_eq_false_iff_ne]; omega
            have hjl : (j : Int) ≤ (T.length : Int) := by omega
            have hVZ : VZ = T.take j := HIT.out.resolve_left hj0
            have HVZ := Lib.hid hVZ; clear hVZ
            clear hj0
            go_wp2_with fail
            refine (HV2.out _).mono ?_
            rintro e w13 ⟨rfl, hb⟩
            have B13 := Lib.hid (B12.out.trans (hb.mono B12.out.size)); clear hb B12
            go_wp2_with fail
            refine (HDR.out _ (HB.out.below B13.out)).mono ?_
            rintro e w14 ⟨rfl, hb⟩
            have B14 := Lib.hid (B13.out.trans (hb.mono B13.out.size)); clear hb B13
            rw [HVZ.out]
            go_wp2
            go_ret
            exact ⟨ret_eq (by first | rfl | simp), B14.out⟩
      · by_cases hn4 : N < 72057594037927936
        · skip
          have e1 : varF N = [] := varF_nil.2 (by omega)
          rw [e1] at HV HRV
          rw [List.nil_append] at HRV
          generalize readVarF TL = RV at *
          obtain ⟨x, k⟩ := RV
          simp only [] at HRV
          clear e1
          obtain ⟨m, rfl⟩ : ∃ m : Nat, N = (m : Int) := ⟨N.toNat, by omega⟩
          have ef := fixed7_yes (n := m) (by omega) TL
          rw [ef.2] at HRF
          have HRF := Lib.hid (fun W => HRF.out W (by rw [List.length_append, ef.1]; omega))
          have hFl := ef.1
          simp only [] at HRF
          generalize fixedF ((m : Int) : Int) 7 = FX at *
          have hF0 : FX.isEmpty = false := by cases FX with
            | nil => cases hFl
            | cons a b => rfl
          have hF7 : (FX.length : Int) = 7 := by omega
          have hFl7 : FX.length ≤ 7 := by omega
          clear ef
          have hd := hdec.2 (by omega)
          rw [hd] at HRD
          clear hdec hd
          have d1 : decide ((0 : Int) ≤ (m : Int)) = true := by simp <;> omega
          have d2 : decide ((m : Int) ≤ 562949953421311) = false := by simp <;> omega
          have d3 : decide ((m : Int) < 0) = false := by simp <;> omega
          have d4 : decide (72057594037927936 ≤ (m : Int)) = false := by simp <;> omega
          have d5 : decide (-1000000000 < (m : Int)) = true := by simp <;> omega
          have d6 : decide ((m : Int) < 1000000000) = false := by simp <;> omega
          go_enter Try.func3, Try.ntmps3
          go_wp2_with fail
          refine (big_any A0 n0 c0 _).mono ?_
          rintro e _ ⟨rfl, rfl⟩
          rw [hbig]
          go_wp2_with fail
          refine (HDV.out _ HB.out).mono ?_
          rintro e w1 ⟨rfl, hb⟩
          have B1 := Lib.hid hb; clear hb
          go_wp2_with fail
          refine (HDH.out _ (HB.out.below B1.out)).mono ?_
          rintro e w2 ⟨rfl, hb⟩
          have B2 := Lib.hid (B1.out.trans (hb.mono B1.out.size)); clear hb B1
          go_wp2_with fail
          refine (HV.out _).mono ?_
          rintro e w3 ⟨rfl, hb⟩
          have B3 := Lib.hid (B2.out.trans (hb.mono B2.out.size)); clear hb B2
          go_wp2_with fail
          refine (HRV.out _).mono ?_
          rintro e w4 ⟨rfl, hb⟩
          have B4 := Lib.hid (B3.out.trans (hb.mono B3.out.size)); clear hb B3
          go_wp2_with fail
          refine (HF.out _).mono ?_
          rintro e w5 ⟨rfl, hb⟩
          have B5 := Lib.hid (B4.out.trans (hb.mono B4.out.size)); clear hb B4
          go_wp2_with fail
          refine (HRF.out _).mono ?_
          rintro e w6 ⟨rfl, hb⟩
          have B6 := Lib.hid (B5.out.trans (hb.mono B5.out.size)); clear hb B5
          go_wp2_with fail
          refine (HD.out _).mono ?_
          rintro e w7 ⟨rfl, hb⟩
          have B7 := Lib.hid (B6.out.trans (hb.mono B6.out.size)); clear hb B6
          go_wp2_with fail
          refine (HRD.out _).mono ?_
          rintro e w8 ⟨rfl, hb⟩
          have B8 := Lib.hid (B7.out.trans (hb.mono B7.out.size)); clear hb B7
          go_wp2_with fail
          refine (HH.out _).mono ?_
          rintro e w9 ⟨rfl, hb⟩
          have B9 := Lib.hid (B8.out.trans (hb.mono B8.out.size)); clear hb B8
          go_wp2_with fail
          refine (HU.out _).mono ?_
          rintro e w10 ⟨rfl, hb⟩
          have B10 := Lib.hid (B9.out.trans (hb.mono B9.out.size)); clear hb B9
          go_wp2_with fail
          refine (HDR.out _ (HB.out.below B10.out)).mono ?_
          rintro e w11 ⟨rfl, hb⟩
          have B11 := Lib.hid (B10.out.trans (hb.mono B10.out.size)); clear hb B10
          go_wp2_with fail
          refine (HRT.out _).mono ?_
          rintro e w12 ⟨rfl, hb⟩
          have B12 := Lib.hid (B11.out.trans (hb.mono B11.out.size)); clear hb B11
          by_cases hj0 : j = 0
          · subst hj0
            go_wp2
            go_ret
            exact ⟨ret_eq (by first | rfl | simp), B12.out⟩
          · have hjb : ((j : Int) == 0) = false := by simp only [beq_eq_false_iff_ne]; omega
            have hjl : (j : Int) ≤ (T.length : Int) := by omega
            have hVZ : VZ = T.take j := HIT.out.resolve_left hj0
            have HVZ := Lib.hid hVZ; clear hVZ
            clear hj0
            go_wp2_with fail
            refine (HV2.out _).mono ?_
            rintro e w13 ⟨rfl, hb⟩
            have B13 := Lib.hid (B12.out.trans (hb.mono B12.out.size)); clear hb B12
            go_wp2_with fail
            refine (HDR.out _ (HB.out.below B13.out)).mono ?_
            rintro e w14 ⟨rfl, hb⟩
            have B14 := Lib.hid (B13.out.trans (hb.mono B13.out.size)); clear hb B13
            rw [HVZ.out]
            go_wp2
            go_ret
            exact ⟨ret_eq (by first | rfl | simp), B14.out⟩
        · skip
          have e1 : varF N = [] := varF_nil.2 (by omega)
          rw [e1] at HV HRV
          rw [List.nil_append] at HRV
          generalize readVarF TL = RV at *
          obtain ⟨x, k⟩ := RV
          simp only [] at HRV
          clear e1
          have ef : fixedF N 7 = [] := fixed7_no (by omega)
          rw [ef] at HF HRF
          rw [List.nil_append] at HRF
          have HRF := Lib.hid (fun W => HRF.out W (by omega))
          generalize readFixedF TL 7 = RF at *
          obtain ⟨y, isy⟩ := RF
          simp only [] at HRF
          clear ef
          have hd := hdec.2 (by omega)
          rw [hd] at HRD
          clear hdec hd
          have d1 : decide ((0 : Int) ≤ N) = true := by simp <;> omega
          have d2 : decide (N ≤ 562949953421311) = false := by simp <;> omega
          have d3 : decide (N < 0) = false := by simp <;> omega
          have d4 : decide (72057594037927936 ≤ N) = true := by simp <;> omega
          have d5 : decide (-1000000000 < N) = true := by simp <;> omega
          have d6 : decide (N < 1000000000) = false := by simp <;> omega
          go_enter Try.func3, Try.ntmps3
          go_wp2_with fail
          refine (big_any A0 n0 c0 _).mono ?_
          rintro e _ ⟨rfl, rfl⟩
          rw [hbig]
          go_wp2_with fail
          refine (HDV.out _ HB.out).mono ?_
          rintro e w1 ⟨rfl, hb⟩
          have B1 := Lib.hid hb; clear hb
          go_wp2_with fail
          refine (HDH.out _ (HB.out.below B1.out)).mono ?_
          rintro e w2 ⟨rfl, hb⟩
          have B2 := Lib.hid (B1.out.trans (hb.mono B1.out.size)); clear hb B1
          go_wp2_with fail
          refine (HV.out _).mono ?_
          rintro e w3 ⟨rfl, hb⟩
          have B3 := Lib.hid (B2.out.trans (hb.mono B2.out.size)); clear hb B2
          go_wp2_with fail
          refine (HRV.out _).mono ?_
          rintro e w4 ⟨rfl, hb⟩
          have B4 := Lib.hid (B3.out.trans (hb.mono B3.out.size)); clear hb B3
          go_wp2_with fail
          refine (HF.out _).mono ?_
          rintro e w5 ⟨rfl, hb⟩
          have B5 := Lib.hid (B4.out.trans (hb.mono B4.out.size)); clear hb B4
          go_wp2_with fail
          refine (HRF.out _).mono ?_
          rintro e w6 ⟨rfl, hb⟩
          have B6 := Lib.hid (B5.out.trans (hb.mono B5.out.size)); clear hb B5
          go_wp2_with fail
          refine (HD.out _).mono ?_
          rintro e w7 ⟨rfl, hb⟩
          have B7 := Lib.hid (B6.out.trans (hb.mono B6.out.size)); clear hb B6
          go_wp2_with fail
          refine (HRD.out _).mono ?_
          rintro e w8 ⟨rfl, hb⟩
          have B8 := Lib.hid (B7.out.trans (hb.mono B7.out.size)); clear hb B7
          go_wp2_with fail
          refine (HH.out _).mono ?_
          rintro e w9 ⟨rfl, hb⟩
          have B9 := Lib.hid (B8.out.trans (hb.mono B8.out.size)); clear hb B8
          go_wp2_with fail
          refine (HU.out _).mono ?_
          rintro e w10 ⟨rfl, hb⟩
          have B10 := Lib.hid (B9.out.trans (hb.mono B9.out.size)); clear hb B9
          go_wp2_with fail
          refine (HDR.out _ (HB.out.below B10.out)).mono ?_
          rintro e w11 ⟨rfl, hb⟩
          have B11 := Lib.hid (B10.out.trans (hb.mono B10.out.size)); clear hb B10
          go_wp2_with fail
          refine (HRT.out _).mono ?_
          rintro e w12 ⟨rfl, hb⟩
          have B12 := Lib.hid (B11.out.trans (hb.mono B11.out.size)); clear hb B11
          by_cases hj0 : j = 0
          · subst hj0
            go_wp2
            go_ret
            exact ⟨ret_eq (by first | rfl | simp), B12.out⟩
          · have hjb : ((j : Int) == 0) = false := by simp only [beq_eq_false_iff_ne]; omega
            have hjl : (j : Int) ≤ (T.length : Int) := by omega
            have hVZ : VZ = T.take j := HIT.out.resolve_left hj0
            have HVZ := Lib.hid hVZ; clear hVZ
            clear hj0
            go_wp2_with fail
            refine (HV2.out _).mono ?_
            rintro e w13 ⟨rfl, hb⟩
            have B13 := Lib.hid (B12.out.trans (hb.mono B12.out.size)); clear hb B12
            go_wp2_with fail
            refine (HDR.out _ (HB.out.below B13.out)).mono ?_
            rintro e w14 ⟨rfl, hb⟩
            have B14 := Lib.hid (B13.out.trans (hb.mono B13.out.size)); clear hb B13
            rw [HVZ.out]
            go_wp2
            go_ret
            exact ⟨ret_eq (by first | rfl | simp), B14.out⟩
    · by_cases hn3 : -1000000000 < N
      · skip
        have e1 : varF N = [] := varF_nil.2 (by omega)
        rw [e1] at HV HRV
        rw [List.nil_append] at HRV
        generalize readVarF TL = RV at *
        obtain ⟨x, k⟩ := RV
        simp only [] at HRV
        clear e1
        have ef : fixedF N 7 = [] := fixed7_no (by omega)
        rw [ef] at HF HRF
        rw [List.nil_append] at HRF
        have HRF := Lib.hid (fun W => HRF.out W (by omega))
        generalize readFixedF TL 7 = RF at *
        obtain ⟨y, isy⟩ := RF
        simp only [] at HRF
        clear ef
        have hd := hdec.1 (by omega)
        injection hd with hd1 hd2
        rw [hd1, hd2] at HRD
        clear hdec hd1 hd2
        have d1 : decide ((0 : Int) ≤ N) = false := by simp <;> omega
        have d2 : decide (N ≤ 562949953421311) = true := by simp <;> omega
        have d3 : decide (N < 0) = true := by simp <;> omega
        have d4 : decide (72057594037927936 ≤ N) = false := by simp <;> omega
        have d5 : decide (-1000000000 < N) = true := by simp <;> omega
        have d6 : decide (N < 1000000000) = true := by simp <;> omega
        go_enter Try.func3, Try.ntmps3
        go_wp2_with fail
        refine (big_any A0 n0 c0 _).mono ?_
        rintro e _ ⟨rfl, rfl⟩
        rw [hbig]
        go_wp2_with fail
        refine (HDV.out _ HB.out).mono ?_
        rintro e w1 ⟨rfl, hb⟩
        have B1 := Lib.hid hb; clear hb
        go_wp2_with fail
        refine (HDH.out _ (HB.out.below B1.out)).mono ?_
        rintro e w2 ⟨rfl, hb⟩
        have B2 := Lib.hid (B1.out.trans (hb.mono B1.out.size)); clear hb B1
        go_wp2_with fail
        refine (HV.out _).mono ?_
        rintro e w3 ⟨rfl, hb⟩
        have B3 := Lib.hid (B2.out.trans (hb.mono B2.out.size)); clear hb B2
        go_wp2_with fail
        refine (HRV.out _).mono ?_
        rintro e w4 ⟨rfl, hb⟩
        have B4 := Lib.hid (B3.out.trans (hb.mono B3.out.size)); clear hb B3
        go_wp2_with fail
        refine (HF.out _).mono ?_
        rintro e w5 ⟨rfl, hb⟩
        have B5 := Lib.hid (B4.out.trans (hb.mono B4.out.size)); clear hb B4
        go_wp2_with fail
        refine (HRF.out _).mono ?_
        rintro e w6 ⟨rfl, hb⟩
        have B6 := Lib.hid (B5.out.trans (hb.mono B5.out.size)); clear hb B5
        go_wp2_with fail
        refine (HD.out _).mono ?_
        rintro e w7 ⟨rfl, hb⟩
        have B7 := Lib.hid (B6.out.trans (hb.mono B6.out.size)); clear hb B6
        go_wp2_with fail
        refine (HRD.out _).mono ?_
        rintro e w8 ⟨rfl, hb⟩
        have B8 := Lib.hid (B7.out.trans (hb.mono B7.out.size)); clear hb B7
        go_wp2_with fail
        refine (HH.out _).mono ?_
        rintro e w9 ⟨rfl, hb⟩
        have B9 := Lib.hid (B8.out.trans (hb.mono B8.out.size)); clear hb B8
        go_wp2_with fail
        refine (HU.out _).mono ?_
        rintro e w10 ⟨rfl, hb⟩
        have B10 := Lib.hid (B9.out.trans (hb.mono B9.out.size)); clear hb B9
        go_wp2_with fail
        refine (HDR.out _ (HB.out.below B10.out)).mono ?_
        rintro e w11 ⟨rfl, hb⟩
        have B11 := Lib.hid (B10.out.trans (hb.mono B10.out.size)); clear hb B10
        go_wp2_with fail
        refine (HRT.out _).mono ?_
        rintro e w12 ⟨rfl, hb⟩
        have B12 := Lib.hid (B11.out.trans (hb.mono B11.out.size)); clear hb B11
        by_cases hj0 : j = 0
        · subst hj0
          go_wp2
          go_ret
          exact ⟨ret_eq (by first | rfl | simp), B12.out⟩
        · have hjb : ((j : Int) == 0) = false := by simp only [beq_eq_false_iff_ne]; omega
          have hjl : (j : Int) ≤ (T.length : Int) := by omega
          have hVZ : VZ = T.take j := HIT.out.resolve_left hj0
          have HVZ := Lib.hid hVZ; clear hVZ
          clear hj0
          go_wp2_with fail
          refine (HV2.out _).mono ?_
          rintro e w13 ⟨rfl, hb⟩
          have B13 := Lib.hid (B12.out.trans (hb.mono B12.out.size)); clear hb B12
          go_wp2_with fail
          refine (HDR.out _ (HB.out.below B13.out)).mono ?_
          rintro e w14 ⟨rfl, hb⟩
          have B14 := Lib.hid (B13.out.trans (hb.mono B13.out.size)); clear hb B13
          rw [HVZ.out]
          go_wp2
          go_ret
          exact ⟨ret_eq (by first | rfl | simp), B14.out⟩
      · skip
        have e1 : varF N = [] := varF_nil.2 (by omega)
        rw [e1] at HV HRV
        rw [List.nil_append] at HRV
        generalize readVarF TL = RV at *
        obtain ⟨x, k⟩ := RV
        simp only [] at HRV
        clear e1
        have ef : fixedF N 7 = [] := fixed7_no (by omega)
        rw [ef] at HF HRF
        rw [List.nil_append] at HRF
        have HRF := Lib.hid (fun W => HRF.out W (by omega))
        generalize readFixedF TL 7 = RF at *
        obtain ⟨y, isy⟩ := RF
        simp only [] at HRF
        clear ef
        have hd := hdec.2 (by omega)
        rw [hd] at HRD
        clear hdec hd
        have d1 : decide ((0 : Int) ≤ N) = false := by simp <;> omega
        have d2 : decide (N ≤ 562949953421311) = true := by simp <;> omega
        have d3 : decide (N < 0) = true := by simp <;> omega
        have d4 : decide (72057594037927936 ≤ N) = false := by simp <;> omega
        have d5 : decide (-1000000000 < N) = false := by simp <;> omega
        have d6 : decide (N < 1000000000) = true := by simp <;> omega
        go_enter Try.func3, Try.ntmps3
        go_wp2_with fail
        refine (big_any A0 n0 c0 _).mono ?_
        rintro e _ ⟨rfl, rfl⟩
        rw [hbig]
        go_wp2_with fail
        refine (HDV.out _ HB.out).mono ?_
        rintro e w1 ⟨rfl, hb⟩
        have B1 := Lib.hid hb; clear hb
        go_wp2_with fail
        refine (HDH.out _ (HB.out.below B1.out)).mono ?_
        rintro e w2 ⟨rfl, hb⟩
        have B2 := Lib.hid (B1.out.trans (hb.mono B1.out.size)); clear hb B1
        go_wp2_with fail
        refine (HV.out _).mono ?_
        rintro e w3 ⟨rfl, hb⟩
        have B3 := Lib.hid (B2.out.trans (hb.mono B2.out.size)); clear hb B2
        go_wp2_with fail
        refine (HRV.out _).mono ?_
        rintro e w4 ⟨rfl, hb⟩
        have B4 := Lib.hid (B3.out.trans (hb.mono B3.out.size)); clear hb B3
        go_wp2_with fail
        refine (HF.out _).mono ?_
        rintro e w5 ⟨rfl, hb⟩
        have B5 := Lib.hid (B4.out.trans (hb.mono B4.out.size)); clear hb B4
        go_wp2_with fail
        refine (HRF.out _).mono ?_
        rintro e w6 ⟨rfl, hb⟩
        have B6 := Lib.hid (B5.out.trans (hb.mono B5.out.size)); clear hb B5
        go_wp2_with fail
        refine (HD.out _).mono ?_
        rintro e w7 ⟨rfl, hb⟩
        have B7 := Lib.hid (B6.out.trans (hb.mono B6.out.size)); clear hb B6
        go_wp2_with fail
        refine (HRD.out _).mono ?_
        rintro e w8 ⟨rfl, hb⟩
        have B8 := Lib.hid (B7.out.trans (hb.mono B7.out.size)); clear hb B7
        go_wp2_with fail
        refine (HH.out _).mono ?_
        rintro e w9 ⟨rfl, hb⟩
        have B9 := Lib.hid (B8.out.trans (hb.mono B8.out.size)); clear hb B8
        go_wp2_with fail
        refine (HU.out _).mono ?_
        rintro e w10 ⟨rfl, hb⟩
        have B10 := Lib.hid (B9.out.trans (hb.mono B9.out.size)); clear hb B9
        go_wp2_with fail
        refine (HDR.out _ (HB.out.below B10.out)).mono ?_
        rintro e w11 ⟨rfl, hb⟩
        have B11 := Lib.hid (B10.out.trans (hb.mono B10.out.size)); clear hb B10
        go_wp2_with fail
        refine (HRT.out _).mono ?_
        rintro e w12 ⟨rfl, hb⟩
        have B12 := Lib.hid (B11.out.trans (hb.mono B11.out.size)); clear hb B11
        by_cases hj0 : j = 0
        · subst hj0
          go_wp2
          go_ret
          exact ⟨ret_eq (by first | rfl | simp), B12.out⟩
        · have hjb : ((j : Int) == 0) = false := by simp only [beq_eq_false_iff_ne]; omega
          have hjl : (j : Int) ≤ (T.length : Int) := by omega
          have hVZ : VZ = T.take j := HIT.out.resolve_left hj0
          have HVZ := Lib.hid hVZ; clear hVZ
          clear hj0
          go_wp2_with fail
          refine (HV2.out _).mono ?_
          rintro e w13 ⟨rfl, hb⟩
          have B13 := Lib.hid (B12.out.trans (hb.mono B12.out.size)); clear hb B12
          go_wp2_with fail
          refine (HDR.out _ (HB.out.below B13.out)).mono ?_
          rintro e w14 ⟨rfl, hb⟩
          have B14 := Lib.hid (B13.out.trans (hb.mono B13.out.size)); clear hb B13
          rw [HVZ.out]
          go_wp2
          go_ret
          exact ⟨ret_eq (by first | rfl | simp), B14.out⟩
  · have hbig : decide ((1048576 : Int) < (n0 : Int)) = true := by simp; omega
    go_enter Try.func3, Try.ntmps3
    go_wp2_with fail
    refine (big_any A0 n0 c0 _).mono ?_
    rintro e _ ⟨rfl, rfl⟩
    rw [hbig]
    go_wp2_with fail
    go_ret
    exact ⟨ret_eq (by first | rfl | simp), Below.refl _ _⟩
set_option maxRecDepth 100000 in
theorem FnNumbers_lifted (os : Os) (started : os.Started) (H : Type) (enc : TypeId × Value → H) :
    ReturnsInHanded {} Try.checked os 3 .any (Rows.fnNumbersSpec.pre6 enc Try.prog Try.f3 Rows.fnNumbersRow.domain false) (Rows.fnNumbersSpec.post enc Try.prog Try.f3 false true false false) := by
  refine returnsInHanded_of_change (C := Try.checked) own started (by kernel_rfl) Try.func3
    (ChangeSpec.witness6 (enc := enc) (C := Try.checked) false ⟨#[], #[.slice none 0 0], []⟩ 8 (by kernel_rfl) (by kernel_rfl) (by kernel_rfl) (by kernel_rfl)) ?_
  intro W base args ds gs before hval0 hW _ _
  have hval : ∀ (j : Nat) t v, Try.f3.params[j]? = some t → args[j]? = some v → Value.okWide Try.prog W .any base t v := hval0
  have hW' := hW
  obtain ⟨p, q, hA0, hV, rfl, hfz, hnd⟩ := hW
  have hA : DataW.TrodAll enc Try.prog W 0 (fun _ => true) true Try.f3.params.toList args.toList ds p := hA0
  rw [Try.params3] at hA hval
  obtain ⟨v0, vs0, d0, ds0, p0, q0, hargs, rfl, rfl, h0, r0⟩ := trodAll_cons hA
  obtain ⟨rfl, rfl, rfl⟩ := trodAll_nil r0
  obtain rfl : args = #[v0] := Array.ext' hargs
  obtain ⟨xs, a0, len0, cap0, rfl, hn0, hrd⟩ := open_bytes (okWide_slice Try.underlying22 (hval 0 22 v0 rfl rfl)) h0
  refine (lFnNumbers_all a0 len0 cap0 xs W hn0 hrd).mono fun e W' ⟨he, hb⟩ => ?_
  subst he
  refine ⟨_, rfl, law_post (tb := 4) laidOut (by kernel_rfl) rfl Try.underlying4 rfl ?_ hW' hb⟩
  intro ds hl
  rw [Try.params3] at hl
  match ds, hl with
  | [_], _ => rfl
theorem FnNumbers_holds : Rows.FnNumbersSaid :=
  OpenClaim.holds_of_wide 3 Try.f3 rfl rfl rfl rfl rfl rfl rfl ⟨rfl, rfl, rfl, rfl, rfl⟩ rfl rfl rfl rfl rfl (by kernel_rfl) Try.func3 (by kernel_rfl)
    (of_decide_eq_true (by kernel_rfl)) (by unfold Func.isWrapper; first | (rw [if_pos (by decide +kernel)]; kernel_rfl) | (rw [if_neg (by decide +kernel)]; exact ⟨rfl, rfl⟩))
    (fun os started H enc _ => FnNumbers_lifted os started H enc)
end Go.Proofs.Ytinacpjelephoaa
