/-
  More of what the reference draws out of a code, with its values (texts, numbers, a text spoilt). Conditions: a code of at most 2^20 bytes.
-/
import Derived.Test.YtinacpjelephoaaDrawX
import Derived.Test.YtinacpjelephoaaRegI
namespace Go.Proofs.Ytinacpjelephoaa
open Go.RowKit

set_option maxRecDepth 100000 in
theorem l1Once_x (B g n : Nat) (xs : List UInt8) (s : DSt) (w : World) (hc : Cur B g xs s w) (h1 : 1 ≤ n) (h2 : n ≤ 1000000000) :
    Calls Try.prog 35 #[.pointer (some ⟨g, 0, none⟩), .int .i64 (n : Int)] w fun e w' => e = .returned (.bool (onceF xs n s).1) ∧ Cur B g xs (onceF xs n s).2 w' ∧ w.grownBy w' (some g) := by
  unfold onceF
  have H1 := Lib.hid (fun w hc => l1Below_x B g n xs s w hc h1 h2)
  generalize belowF xs n s = R at *
  obtain ⟨rv, rs⟩ := R
  simp only []
  go_enter Try.func35, Try.ntmps35
  go_wp2_with fail
  refine (H1.out _ hc).mono ?_
  rintro e w2 ⟨rfl, hc2, hg⟩
  have HC := Lib.hid hc2; clear hc2
  have HG := Lib.hid hg; clear hg
  by_cases h0 : rv = 0
  · subst h0
    go_wp2
    go_ret
    exact ⟨ret_eq (by first | rfl | simp), HC.out, HG.out⟩
  · have hb : ((rv : Int) == 0) = false := by simpa using h0
    have hd : decide (rv = 0) = false := by simpa using h0
    have HD := Lib.hid hd; clear hd
    clear h0
    go_wp2
    go_ret
    exact ⟨ret_eq (by rw [HD.out]; rfl), HC.out, HG.out⟩

theorem own_byte_x {w : World} {base e n : Nat} {v : Value} {l : List UInt8} {b : Nat} {R : Int} (h : w.ownsRow base e 1 v n (l.map u8v ++ [.int .u8 R])) (hR : R = (b : Int)) (hb : b ≤ 255) : w.ownsRow base e 1 v n ((l ++ [UInt8.ofNat b]).map u8v) := by
  subst hR
  rw [List.map_append]
  have : [UInt8.ofNat b].map u8v = [.int .u8 (b : Int)] := by
    simp only [List.map_cons, List.map_nil, u8v]
    rw [ofNat_toNat (by omega)]
  rw [this]
  exact h
set_option maxRecDepth 100000 in
set_option maxHeartbeats 4000000 in
theorem l1Text_x (B g most : Nat) (xs : List UInt8) (s : DSt) (w : World) (hc : Cur B g xs s w) (hm : most ≤ 1000) :
    Calls Try.prog 31 #[.pointer (some ⟨g, 0, none⟩), .int .i64 (most : Int)] w fun e w' => e = .returned (.string (bs (textF xs most s).1)) ∧ Cur B g xs (textF xs most s).2 w' ∧ w.grownBy w' (some g) := by
  have hgl := hc.lt
  have H1 := Lib.hid (fun w hc => l1Below_x B g 4 xs s w hc (by omega) (by omega))
  have hk4 := belowF_lt xs 4 s (by omega)
  obtain ⟨RT, hRT⟩ : ∃ RT, RT = textF xs most s := ⟨_, rfl⟩
  rw [← hRT]
  unfold textF at hRT
  simp only [] at hRT
  generalize belowF xs 4 s = R1 at *
  obtain ⟨sty, s1⟩ := R1
  simp only [] at hk4 hRT
  have H2 := Lib.hid (fun w hc => l1Below_x B g (most + 1) xs s1 w hc (by omega) (by omega))
  have hk5 := belowF_lt xs (most + 1) s1 (by omega)
  generalize belowF xs (most + 1) s1 = R2 at *
  obtain ⟨cnt, s2⟩ := R2
  simp only [] at hk5 hRT
  have HRT := Lib.hid (show textR xs sty cnt [] s2 = RT from hRT.symm)
  clear hRT
  have hcm : ((most + 1 : Nat) : Int) = (most : Int) + 1 := by push_cast; rfl
  rw [hcm] at H2
  go_enter Try.func31, Try.ntmps31
  go_wp2_with fail
  refine (H1.out _ (hc.keep (grown_alloc w _) (fun k hk => by cases hk))).mono ?_
  rintro e w2 ⟨rfl, hc2, hg2⟩
  have hO : (w.alloc (.cells #[] 5)).ownsRow w.heap.size 5 1 (.slice (some ⟨w.heap.size, 0, none⟩) 0 0) 0 (([] : List UInt8).map u8v) := World.ownsRow_made w #[] 0 (Nat.le_refl _) (by simp [maxLen]) rfl
  have hO2 := hO.kept hg2 (.inr (by simp [Value.ownBlock]; omega))
  have hG2 : w.grownBy w2 (some g) := grown_trans (grown_weak (grown_alloc w _)) hg2
  clear hg2 hO hc
  generalize Value.slice (some ⟨w.heap.size, 0, none⟩) 0 0 = v0 at hO2 ⊢
  go_wp2_with fail
  refine (H2.out _ hc2).mono ?_
  rintro e w3 ⟨rfl, hc3, hg3⟩
  have hO3 := hO2.kept hg3 (.inr (fun e => by have := (hO2.lt g e).1; omega))
  have hG3 : w.grownBy w3 (some g) := grown_trans hG2 hg3
  clear hg3 hc2 hO2 hG2 hcm
  have HS3 := Lib.hid (And.intro hO3 (And.intro hc3 hG3))
  clear hO3 hc3 hG3
  have HST := Lib.hid (fun b (hb : b ≤ 255) => @styleF_le sty b hb)
  have hsty : sty = 1 ∨ sty = 2 ∨ (¬ sty = 1 ∧ ¬ sty = 2) := by omega
  rcases hsty with rfl | rfl | ⟨hs1, hs2⟩
  · go_wp2_with fail
    go_loopw [5, 7] (fun v i wr => ∃ (k : Nat) (l : List UInt8) (st : DSt), i = .int .i64 (k : Int) ∧ l.length + k ≤ most ∧ textR xs 1 k l st = RT ∧ wr.ownsRow w.heap.size 5 1 v l.length (l.map u8v) ∧ Cur B g xs st wr ∧ w.grownBy wr (some g)) (fun _ i _ => (intOf i).toNat)
    case atStart => exact ⟨cnt, [], s2, rfl, by simp; omega, HRT.out, HS3.out.1, HS3.out.2.1, HS3.out.2.2⟩
    case round =>
      clear HS3 HRT
      obtain ⟨k, l, st, rfl, hkl, hT, hO, hC, hG⟩ := hrel
      have HT := Lib.hid hT; clear hT
      by_cases hk : 0 < k
      · obtain ⟨k', rfl⟩ : ∃ k', k = k' + 1 := ⟨k - 1, by omega⟩
        have hT2 := HT.out
        rw [textR] at hT2
        have H3 := Lib.hid (fun w hc => l1Byte_x B g xs st w hc)
        have hb255 := byteF_le xs st
        have hsb := HST.out _ hb255
        generalize byteF xs st = R3 at *
        obtain ⟨x, st'⟩ := R3
        simp only [] at hT2 hb255 hsb
        have HT2 := Lib.hid hT2
        clear hT2 HT
        go_wp2_with fail
        refine (H3.out _ hC).mono ?_
        rintro e w4 ⟨rfl, hc4, hg4⟩
        have hO4 := hO.kept hg4 (.inr (fun e => by have := (hO.lt g e).1; omega))
        have hG4 : w.grownBy w4 (some g) := grown_trans hG hg4
        have hsz : w.heap.size ≤ w4.heap.size := hG4.size
        clear hO hC hG hg4
        have HO := Lib.hid hO4; clear hO4
        have HC := Lib.hid hc4; clear hc4
        have HG := Lib.hid hG4; clear hG4
        have HSB := Lib.hid hsb; clear hsb
        go_wp2_with (first
          | (at_builtin; go_must (refine wpList_app E_u8 _ rfl _ _ rfl w.heap.size _ l.length _ rfl (HO.out.alloc _) _ _ _ _ rfl (Reads.new (e := 5) rfl) (by intro u hu; rw [List.mem_singleton.1 hu]; rfl) (by omega) (Nat.le_trans hsz (by simp)) ?_; intro v' w5 hown5 hgr5 hat5))
          | fail)
        have hb := own_byte_x (b := styleF 1 x) hown5 (by rw [show styleF 1 x = x % 2 from rfl]; push_cast; first | rfl | omega) HSB.out
        exact ⟨⟨k', l ++ [UInt8.ofNat (styleF 1 x)], st', by first | rfl | go_num, by rw [List.length_append]; show l.length + 1 + k' ≤ most; omega, HT2.out, by rw [List.length_append]; exact hb, (HC.out.keep (grown_alloc _ _) (fun k hk => by cases hk)).keep hgr5 (fun k hk => by have := (HO.out.lt k hk).1; omega), grownBy_trans_new (grown_trans HG.out (grown_weak (grown_alloc _ _))) hgr5 (fun k hk => .inr (HO.out.lt k hk).1)⟩, by simp only [intOf]; omega⟩
      · have hk0 : k = 0 := by omega
        subst hk0
        have hT2 : (l, st) = RT := HT.out
        subst hT2
        have HO := Lib.hid hO; clear hO
        go_wp2_with (first
          | (refine wpList_bytes_own _ rfl 22 9 _ rfl 5 E_u8.ht Try.underlying5 Try.underlying9 w.heap.size _ _ l rfl (by exact HO.out) ?_)
          | fail)
        go_ret
        exact ⟨ret_eq rfl, hC, hG⟩
  · go_wp2_with fail
    go_loopw [5, 7] (fun v i wr => ∃ (k : Nat) (l : List UInt8) (st : DSt), i = .int .i64 (k : Int) ∧ l.length + k ≤ most ∧ textR xs 2 k l st = RT ∧ wr.ownsRow w.heap.size 5 1 v l.length (l.map u8v) ∧ Cur B g xs st wr ∧ w.grownBy wr (some g)) (fun _ i _ => (intOf i).toNat)
    case atStart => exact ⟨cnt, [], s2, rfl, by simp; omega, HRT.out, HS3.out.1, HS3.out.2.1, HS3.out.2.2⟩
    case round =>
      clear HS3 HRT
      obtain ⟨k, l, st, rfl, hkl, hT, hO, hC, hG⟩ := hrel
      have HT := Lib.hid hT; clear hT
      by_cases hk : 0 < k
      · obtain ⟨k', rfl⟩ : ∃ k', k = k' + 1 := ⟨k - 1, by omega⟩
        have hT2 := HT.out
        rw [textR] at hT2
        have H3 := Lib.hid (fun w hc => l1Byte_x B g xs st w hc)
        have hb255 := byteF_le xs st
        have hsb := HST.out _ hb255
        generalize byteF xs st = R3 at *
        obtain ⟨x, st'⟩ := R3
        simp only [] at hT2 hb255 hsb
        have HT2 := Lib.hid hT2
        clear hT2 HT
        go_wp2_with fail
        refine (H3.out _ hC).mono ?_
        rintro e w4 ⟨rfl, hc4, hg4⟩
        have hO4 := hO.kept hg4 (.inr (fun e => by have := (hO.lt g e).1; omega))
        have hG4 : w.grownBy w4 (some g) := grown_trans hG hg4
        have hsz : w.heap.size ≤ w4.heap.size := hG4.size
        clear hO hC hG hg4
        have HO := Lib.hid hO4; clear hO4
        have HC := Lib.hid hc4; clear hc4
        have HG := Lib.hid hG4; clear hG4
        have HSB := Lib.hid hsb; clear hsb
        go_wp2_with (first
          | (at_builtin; go_must (refine wpList_app E_u8 _ rfl _ _ rfl w.heap.size _ l.length _ rfl (HO.out.alloc _) _ _ _ _ rfl (Reads.new (e := 5) rfl) (by intro u hu; rw [List.mem_singleton.1 hu]; rfl) (by omega) (Nat.le_trans hsz (by simp)) ?_; intro v' w5 hown5 hgr5 hat5))
          | fail)
        have hb := own_byte_x (b := styleF 2 x) hown5 (by rw [show styleF 2 x = 97 + x % 4 from rfl]; push_cast; first | rfl | omega) HSB.out
        exact ⟨⟨k', l ++ [UInt8.ofNat (styleF 2 x)], st', by first | rfl | go_num, by rw [List.length_append]; show l.length + 1 + k' ≤ most; omega, HT2.out, by rw [List.length_append]; exact hb, (HC.out.keep (grown_alloc _ _) (fun k hk => by cases hk)).keep hgr5 (fun k hk => by have := (HO.out.lt k hk).1; omega), grownBy_trans_new (grown_trans HG.out (grown_weak (grown_alloc _ _))) hgr5 (fun k hk => .inr (HO.out.lt k hk).1)⟩, by simp only [intOf]; omega⟩
      · have hk0 : k = 0 := by omega
        subst hk0
        have hT2 : (l, st) = RT := HT.out
        subst hT2
        have HO := Lib.hid hO; clear hO
        go_wp2_with (first
          | (refine wpList_bytes_own _ rfl 22 9 _ rfl 5 E_u8.ht Try.underlying5 Try.underlying9 w.heap.size _ _ l rfl (by exact HO.out) ?_)
          | fail)
        go_ret
        exact ⟨ret_eq rfl, hC, hG⟩
  · have hsb1 : ((sty : Int) == 1) = false := by simp only [beq_eq_false_iff_ne]; omega
    have hsb2 : ((sty : Int) == 2) = false := by simp only [beq_eq_false_iff_ne]; omega
    have HSE := Lib.hid (fun x : Nat => show styleF sty x = x by unfold styleF; rw [if_neg hs1, if_neg hs2])
    clear hs1 hs2
    go_wp2_with fail
    go_loopw [5, 7] (fun v i wr => ∃ (k : Nat) (l : List UInt8) (st : DSt), i = .int .i64 (k : Int) ∧ l.length + k ≤ most ∧ textR xs sty k l st = RT ∧ wr.ownsRow w.heap.size 5 1 v l.length (l.map u8v) ∧ Cur B g xs st wr ∧ w.grownBy wr (some g)) (fun _ i _ => (intOf i).toNat)
    case atStart => exact ⟨cnt, [], s2, rfl, by simp; omega, HRT.out, HS3.out.1, HS3.out.2.1, HS3.out.2.2⟩
    case round =>
      clear HS3 HRT
      obtain ⟨k, l, st, rfl, hkl, hT, hO, hC, hG⟩ := hrel
      have HT := Lib.hid hT; clear hT
      by_cases hk : 0 < k
      · obtain ⟨k', rfl⟩ : ∃ k', k = k' + 1 := ⟨k - 1, by omega⟩
        have hT2 := HT.out
        rw [textR] at hT2
        have H3 := Lib.hid (fun w hc => l1Byte_x B g xs st w hc)
        have hb255 := byteF_le xs st
        have hsb := HST.out _ hb255
        generalize byteF xs st = R3 at *
        obtain ⟨x, st'⟩ := R3
        simp only [] at hT2 hb255 hsb
        have HT2 := Lib.hid hT2
        clear hT2 HT
        go_wp2_with fail
        refine (H3.out _ hC).mono ?_
        rintro e w4 ⟨rfl, hc4, hg4⟩
        have hO4 := hO.kept hg4 (.inr (fun e => by have := (hO.lt g e).1; omega))
        have hG4 : w.grownBy w4 (some g) := grown_trans hG hg4
        have hsz : w.heap.size ≤ w4.heap.size := hG4.size
        clear hO hC hG hg4
        have HO := Lib.hid hO4; clear hO4
        have HC := Lib.hid hc4; clear hc4
        have HG := Lib.hid hG4; clear hG4
        have HSB := Lib.hid hsb; clear hsb
        go_wp2_with (first
          | (at_builtin; go_must (refine wpList_app E_u8 _ rfl _ _ rfl w.heap.size _ l.length _ rfl (HO.out.alloc _) _ _ _ _ rfl (Reads.new (e := 5) rfl) (by intro u hu; rw [List.mem_singleton.1 hu]; rfl) (by omega) (Nat.le_trans hsz (by simp)) ?_; intro v' w5 hown5 hgr5 hat5))
          | fail)
        have hb := own_byte_x (b := styleF sty x) hown5 (by rw [HSE.out]) HSB.out
        exact ⟨⟨k', l ++ [UInt8.ofNat (styleF sty x)], st', by first | rfl | go_num, by rw [List.length_append]; show l.length + 1 + k' ≤ most; omega, HT2.out, by rw [List.length_append]; exact hb, (HC.out.keep (grown_alloc _ _) (fun k hk => by cases hk)).keep hgr5 (fun k hk => by have := (HO.out.lt k hk).1; omega), grownBy_trans_new (grown_trans HG.out (grown_weak (grown_alloc _ _))) hgr5 (fun k hk => .inr (HO.out.lt k hk).1)⟩, by simp only [intOf]; omega⟩
      · have hk0 : k = 0 := by omega
        subst hk0
        have hT2 : (l, st) = RT := HT.out
        subst hT2
        have HO := Lib.hid hO; clear hO
        go_wp2_with (first
          | (refine wpList_bytes_own _ rfl 22 9 _ rfl 5 E_u8.ht Try.underlying5 Try.underlying9 w.heap.size _ _ l rfl (by exact HO.out) ?_)
          | fail)
        go_ret
        exact ⟨ret_eq rfl, hC, hG⟩

end Go.Proofs.Ytinacpjelephoaa
