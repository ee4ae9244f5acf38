/-
  Records of a log: impl.LogRead, spec.LogRead. Conditions: a bound on the sizes.
-/
import Derived.Test.YtifdkjddiohahaaLogOk
namespace Go.Proofs.Ytifdkjddiohahaa
open Go.RowKit

def keepF (mark : Int) : List (List UInt8) → Int → List (List UInt8)
  | [], _ => []
  | t :: r, a => if mark < a then t :: keepF mark r (a + 1) else keepF mark r (a + 1)
def readSeg (mark : Int) (s : SegD) : List (List UInt8) := keepF mark (unframeL s.text).1 s.first
noncomputable def fLogRead (l : LogD) : List (List UInt8) := if logOkB l = true then (l.segs.map (readSeg l.mark)).flatten else []
theorem own_apart2 {a b : World} {base base' : Nat} {e e' : TypeId} {size size' : Nat} {v v' : Value} {n n' : Nat} {xs xs' : List Value} (h : a.ownsRow base e size v n xs) (h' : b.ownsRow base' e' size' v' n' xs') (hb : a.heap.size ≤ base') : v'.ownBlock = none ∨ v'.ownBlock ≠ v.ownBlock := by
  cases hv : v'.ownBlock with
  | none => exact Or.inl rfl
  | some g =>
    right
    intro he
    have h1 := h.lt g he.symm
    have h2 := h'.lt g hv
    omega
theorem alloc_ne {w : World} {o : Obj} {g : Nat} (h : (some (w.alloc o).heap.size : Option Nat) = some g) (hg : g < w.heap.size) : False := by
  have h2 := Option.some.inj h
  have h3 : (w.alloc o).heap.size = w.heap.size + 1 := by simp
  omega
theorem apart_step {w w' : World} {base e size n : Nat} {v u u' : Value} {xs : List Value} (h : w.ownsRow base e size v n xs) (ha : v.ownBlock = none ∨ v.ownBlock ≠ u.ownBlock) (hat : u'.ownBlock = u.ownBlock ∨ u'.ownBlock = some w'.heap.size) (hs : w.heap.size ≤ w'.heap.size) : v.ownBlock = none ∨ v.ownBlock ≠ u'.ownBlock := by
  rcases ha with ha | ha
  · exact .inl ha
  · rcases hat with h1 | h1
    · exact .inr (by rw [h1]; exact ha)
    · refine .inr fun he => ?_
      rw [h1] at he
      have := (h.lt _ he).2
      omega
theorem keepF_len (mark : Int) : ∀ (xs : List (List UInt8)) (a : Int), (keepF mark xs a).length ≤ xs.length
  | [], _ => by simp [keepF]
  | t :: r, a => by
    have := keepF_len mark r (a + 1)
    rw [keepF]
    split <;> simp <;> omega
theorem segsF_first {mark : Int} : ∀ {xs : List SegD} {a nx : Int}, segsF mark xs a = some nx → a ≤ nx ∧ ∀ s ∈ xs, a ≤ s.first ∧ s.first ≤ nx
  | [], a, nx, h => by
    simp only [segsF, Option.some.injEq] at h
    subst h
    exact ⟨Int.le_refl _, by simp⟩
  | s :: r, a, nx, h => by
    by_cases h1 : ¬ endU s.text = s.text.length ∨ (60 < s.text.length ∧ ¬ cntU s.text = 1) ∨ ¬ s.first = a
    · rw [segsF_1 h1] at h; cases h
    · by_cases h2 : ¬ r.length = 0 ∧ (cntU s.text = 0 ∨ a + cntU s.text - 1 ≤ mark)
      · rw [segsF_2 h2] at h; cases h
      · rw [segsF_3 h1 h2] at h
        obtain ⟨h3, h4⟩ := segsF_first h
        refine ⟨by omega, fun x hx => ?_⟩
        rcases List.mem_cons.1 hx with rfl | hx
        · omega
        · have := h4 x hx; omega
theorem readSeg_len (mark : Int) (s : SegD) : (readSeg mark s).length ≤ s.text.length := Nat.le_trans (keepF_len _ _ _) (cntU_le s.text)
theorem readSegs_len (mark : Int) : ∀ xs : List SegD, ((xs.map (readSeg mark)).flatten).length ≤ (cat SegD.c xs).wt
  | [] => by simp
  | s :: r => by
    have h1 := readSegs_len mark r
    have h2 := readSeg_len mark s
    have e : (s.c).wt = s.text.length + 0 := rfl
    rw [List.map_cons, List.flatten_cons, List.length_append, cat_cons, Cs.wt_app]
    omega
theorem keepF_wt (mark : Int) : ∀ (xs : List (List UInt8)) (a : Int), (cat strC (keepF mark xs a)).wt ≤ (cat strC xs).wt
  | [], _ => by simp [keepF]
  | t :: r, a => by
    have := keepF_wt mark r (a + 1)
    rw [keepF]
    split <;> (simp only [cat_cons, Cs.wt_app]; omega)
theorem unfr_wt : ∀ (f : Nat) (s : List UInt8), (cat strC (unfr f s).1).wt ≤ s.length
  | 0, s => by simp [unfr, cat, Cs.wt]
  | f + 1, s => by
    cases h : frame1 s with
    | none => rw [unfr_none h]; simp [cat, Cs.wt]
    | some t =>
      obtain ⟨_, h5, hne, hle, _⟩ := frame1_some h
      obtain ⟨h200, hge⟩ := frameL_ne hne
      have hfl := frameL_length h200
      have := unfr_wt f (s.drop (frameL t).length)
      rw [List.length_drop] at this
      rw [unfr_some h]
      have e : (strC t).wt = t.length + 0 := rfl
      simp only [cat_cons, Cs.wt_app]
      omega
theorem readSegs_wt (mark : Int) : ∀ xs : List SegD, (cat strC ((xs.map (readSeg mark)).flatten)).wt ≤ (cat SegD.c xs).wt
  | [] => by simp [cat, Cs.wt]
  | s :: r => by
    have h1 := readSegs_wt mark r
    have h2 := keepF_wt mark (unframeL s.text).1 s.first
    have h3 := unfr_wt (s.text.length + 1) s.text
    rw [← unframeL_eq] at h3
    have e : (s.c).wt = s.text.length + 0 := rfl
    rw [List.map_cons, List.flatten_cons, cat_app, Cs.wt_app, cat_cons, Cs.wt_app]
    simp only [readSeg]
    omega
theorem bLogRead (l : LogD) (h : l.c.wt ≤ 1048576) : (fLogRead l).length + (cat strC (fLogRead l)).wt ≤ 4611686018427387 ∧ cts (fun _ => 1) (fLogRead l) ≤ 4611686018427387 := by
  have h0 : l.c.wt = l.segs.length + (cat SegD.c l.segs).wt + 0 := rfl
  have h1 := readSegs_len l.mark l.segs
  have h2 := readSegs_wt l.mark l.segs
  rw [cts_one]
  unfold fLogRead
  split
  · omega
  · simp [cat, Cs.wt]


set_option maxRecDepth 100000 in
set_option maxHeartbeats 4000000 in
theorem iLogRead_any (x : LogD) (cs : List Value) (w : World) (hwt : x.c.wt ≤ 1048576) (h : Rep anyB w x.c cs) :
    Calls Try.prog 45 #[.agg cs.toArray] w fun e w' => ∃ A n c, e = .returned (.slice A n c) ∧ n = (fLogRead x).length ∧ Mine w' w.heap.size (.sl 9 1 n (cat strC (fLogRead x)) .nil) [.slice A n c] ∧ Below w.heap.size w w' := by
  have hw0 : x.c.wt = x.segs.length + (cat SegD.c x.segs).wt + 0 := rfl
  have HA := Lib.hid h
  have HW := Lib.hid hwt
  have hlen := readSegs_len x.mark x.segs
  obtain ⟨A0, k0, rfl, s0⟩ := LogD.open h
  obtain ⟨R, hR⟩ : ∃ R, R = fLogRead x := ⟨_, rfl⟩
  rw [← hR]
  unfold fLogRead at hR
  have hgood := @logOk_iff x
  obtain ⟨segs, next, mark⟩ := x
  simp only [] at s0 hw0 hR hlen HA HW ⊢
  have HR := Lib.hid hR; clear hR
  obtain ⟨n, hn⟩ : ∃ n, n = segs.length := ⟨_, rfl⟩
  have HN := Lib.hid hn
  have S0 := Lib.hid (show Rep anyB w (.sl 90 2 n (cat SegD.c segs) .nil) [.slice A0 n k0] by rw [hn]; exact s0)
  have hWb : n + (cat SegD.c segs).wt ≤ 1048576 := by omega
  have HWb := Lib.hid hWb
  have hn1 : n ≤ 1048576 := by omega
  rw [← hn] at HA ⊢
  have HLN := Lib.hid (show ((segs.map (readSeg mark)).flatten).length ≤ 1048576 by omega)
  clear h hw0 hwt hWb s0 hn hlen
  go_enter Try.func45, Try.ntmps45
  go_wp2_with fail
  refine (iLogOk_any ⟨segs, next, mark⟩ _ _ HW.out (HA.out.below (by repeat' (first | with_reducible exact Below.refl _ _ | with_reducible exact BW.out | with_reducible refine Below.setCell ?_ ?_ _ | with_reducible refine Below.alloc ?_ ?_ _ | with_reducible refine Below.drew ?_ | (simp; done) | (simp; omega) | omega)))).mono ?_; rintro e v1 ⟨rfl, hb⟩
  have SB := Lib.hid (Blk.below (blk_new _ _ _) hb)
  have BW := Lib.hid (show Below w.heap.size w v1 from Below.trans (by repeat' (first | with_reducible exact Below.refl _ _ | with_reducible exact BW.out | with_reducible refine Below.setCell ?_ ?_ _ | with_reducible refine Below.alloc ?_ ?_ _ | with_reducible refine Below.drew ?_ | (simp; done) | (simp; omega) | omega)) (hb.mono (by first | (simp; done) | (simp; omega) | omega))); clear hb
  cases hx : logOkB ⟨segs, next, mark⟩
  case false =>
    rw [hx] at HR
    have hRn : R = [] := by rw [HR.out]; rfl
    subst hRn
    go_wp2
    go_ret
    exact ⟨none, 0, 0, rfl, rfl, Mine.strs_mk rfl ⟨by simp, .inl ⟨rfl, rfl⟩⟩, BW.out⟩
  case true =>
    rw [hx, if_pos rfl] at HR
    have hg := hgood.1 hx
    clear hx hgood
    obtain ⟨_, h6, _, hf2, hsf, hnx, _, _⟩ := hg
    have hfi := segsF_first hsf
    simp only [] at hfi hnx h6
    have hf1 : 1 ≤ fstL ⟨segs, next, mark⟩ := by assumption
    have HF := Lib.hid hfi.2; clear hfi hsf
    have HF1 := Lib.hid hf1; clear hf1 hf2
    have hs0 : World.cell? (v1.alloc (.cells #[] 9)) ⟨w.heap.size, 0, none⟩ = some (.slice A0 n k0) := blk_cell0 (L := [.slice A0 n k0, .int .i64 next, .int .i64 mark]) (SB.out.alloc _) 0 rfl
    go_wp2
    clear hs0
    have HV := Lib.hid (show ([] : List (List UInt8)) ++ ((segs.drop 0).map (readSeg mark)).flatten = R by rw [List.drop_zero]; exact HR.out.symm)
    go_loopw [3, 17] (fun oo ii wr => ∃ (j : Nat) (acc : List (List UInt8)), j ≤ n ∧ ii = .int .i64 (j : Int) ∧ acc ++ ((segs.drop j).map (readSeg mark)).flatten = R ∧ wr.ownsRow v1.heap.size 9 1 oo acc.length (acc.map strv) ∧ Blk wr w.heap.size 46 [.slice A0 n k0, .int .i64 next, .int .i64 mark].toArray ∧ Below w.heap.size w wr ∧ v1.heap.size ≤ wr.heap.size) (fun _ ii _ => n - (intOf ii).toNat)
    case atStart => exact ⟨0, [], Nat.zero_le _, rfl, HV.out, World.ownsRow_made v1 #[] 0 (Nat.le_refl _) (by simp [maxLen]) rfl, SB.out.alloc _, BW.out.alloc BW.out.size _, by simp⟩
    case round =>
      obtain ⟨j, acc, hj, rfl, hv, hown, hsb, hbw, hsz⟩ := hrel
      have SB0 := Lib.hid SB.out
      clear SB HV
      have B1 := Lib.hid BW.out.size
      have HW1 := Lib.hid SB0.out.lt
      clear BW SB0
      have SB := Lib.hid hsb; clear hsb
      have BW := Lib.hid hbw; clear hbw
      have HO := Lib.hid hown; clear hown
      have HSZ := Lib.hid hsz; clear hsz
      by_cases hlt : j < n
      · have hjx : j < segs.length := by have := HN.out; omega
        obtain ⟨ad, ci, rfl, _, _, hrc, hl, hc⟩ := (S0.out.below BW.out).elem SegD.width j hjx HN.out
        obtain rfl := SegD.open hrc
        have hwl := seg_wt_le j hjx
        have hfj := HF.out segs[j] (List.getElem_mem hjx)
        rw [show segs.drop j = segs[j] :: segs.drop (j + 1) from List.drop_eq_getElem_cons hjx, List.map_cons, List.flatten_cons] at hv
        clear hrc hl
        generalize segs[j] = s at *
        obtain ⟨fj, txt⟩ := s
        simp only [readSeg] at hwl hc hfj hv
        have hfa : 1 ≤ fj ∧ fj ≤ 1000 := by have := HF1.out; omega
        obtain ⟨hfa1, hfa2⟩ := hfa
        clear hfj
        have hun := fun W => iUnframe_any txt W (by have := HWb.out; omega)
        have hcu := cntU_le txt
        simp only [cntU] at hcu
        generalize unframeL txt = U at *
        obtain ⟨ul, en⟩ := U
        simp only [] at hun hcu hv
        have HUN := Lib.hid hun; clear hun
        have HC := Lib.hid hc; clear hc
        have hb1 : ul.length ≤ 1048576 := by have := HWb.out; omega
        clear hwl hcu
        generalize hrest : ((segs.drop (j + 1)).map (readSeg mark)).flatten = rest at *
        have HREST := Lib.hid hrest; clear hrest
        have HVV := Lib.hid hv; clear hv
        go_wp2_with (first | ((with_reducible show wpList _ _ _ ({ dst := _, op := Op.load 90 _, type := _, pos := _, after := _, guard := _ } :: _) _ _); refine wpList_load_row _ (ad.add (j * 2)) rfl [.int .i64 fj, .string (bs txt)] agg_Seg rfl HC.out ?_) | fail)
        refine (HUN.out _).mono ?_; rintro e w2 ⟨lv, rfl, hul, hb⟩
        have LB := Lib.hid (show Blk w2 wr.heap.size 90 [.int .i64 fj, .string (bs txt)].toArray from Blk.below (blk_new _ _ _) hb)
        have X := Lib.hid (show Blk w2 w.heap.size 46 [.slice (some ad) n k0, .int .i64 next, .int .i64 mark].toArray from (SB.out.alloc _).below hb); clear SB
        have SB := Lib.hid X.out; clear X
        have hbx : Below wr.heap.size wr w2 := ((Below.refl _ _).alloc (Nat.le_refl _) _).trans (hb.mono (by simp))
        have hap := own_apart2 HO.out hul (by simp)
        have ho2 := HO.out.kept (only_of_below hbx none) (by cases u3.ownBlock <;> simp)
        have hz2 : v1.heap.size ≤ w2.heap.size := Nat.le_trans HSZ.out hbx.size
        have hbw2 : Below w.heap.size w w2 := BW.out.trans (hbx.mono BW.out.size)
        have HO0 := Lib.hid HO.out
        obtain ⟨Au, cu, rfl, _⟩ := SlR.of_own hul
        clear BW hb hbx HO
        have BW := Lib.hid hbw2; clear hbw2
        have HO := Lib.hid ho2; clear ho2
        have HUL := Lib.hid hul; clear hul
        have HAP := Lib.hid hap; clear hap
        have HZ2 := Lib.hid hz2; clear hz2
        have hul0 := ownsRow_keep (base' := 0) HUL.out (fun b hb => ⟨Nat.zero_le _, rfl⟩)
        have hla : u3.ownBlock ≠ some wr.heap.size := fun he => by have := (HO0.out.lt _ he).2; omega
        have hz3 : w.heap.size < wr.heap.size := by have := B1.out; have := HSZ.out; have := HW1.out; omega
        clear HUL HSZ HO0
        have HUL := Lib.hid hul0; clear hul0
        generalize wr.heap.size = gl at *
        have HLA := Lib.hid hla; clear hla
        have HGL := Lib.hid hz3; clear hz3
        have HIN := Lib.hid (show acc ++ (keepF mark (ul.drop 0) (fj + ((0 : Nat) : Int)) ++ rest) = R by rw [List.drop_zero]; simpa using HVV.out)
        have HRL := Lib.hid (show R.length ≤ 1048576 by have := HLN.out; rw [← HR.out] at this; exact this)
        go_wp2
        go_loopw [3, 29] (fun oo kk wr => ∃ (k : Nat) (acc : List (List UInt8)), k ≤ ul.length ∧ kk = .int .i64 (k : Int) ∧ acc ++ (keepF mark (ul.drop k) (fj + (k : Int)) ++ rest) = R ∧ wr.ownsRow v1.heap.size 9 1 oo acc.length (acc.map strv) ∧ wr.ownsRow 0 9 1 (.slice Au ul.length cu) ul.length (ul.map strv) ∧ ((Value.slice Au ul.length cu).ownBlock = none ∨ (Value.slice Au ul.length cu).ownBlock ≠ oo.ownBlock) ∧ oo.ownBlock ≠ some gl ∧ Blk wr gl 90 [.int .i64 fj, .string (bs txt)].toArray ∧ Blk wr w.heap.size 46 [.slice (some ad) n k0, .int .i64 next, .int .i64 mark].toArray ∧ Below w.heap.size w wr ∧ v1.heap.size ≤ wr.heap.size) (fun _ kk _ => ul.length - (intOf kk).toNat)
        case atStart => exact ⟨0, acc, Nat.zero_le _, rfl, HIN.out, HO.out, HUL.out, HAP.out, HLA.out, LB.out, SB.out, BW.out, HZ2.out⟩
        case round =>
          obtain ⟨k, acc, hk, rfl, hin, hown, hul, hap, hla, hlb, hsb, hbw, hsz⟩ := hrel
          clear HIN HO HUL HAP HLA LB SB BW HZ2
          have HIN := Lib.hid hin; clear hin
          have HO := Lib.hid hown; clear hown
          have HUL := Lib.hid hul; clear hul
          have HAP := Lib.hid hap; clear hap
          have HLA := Lib.hid hla; clear hla
          have LB := Lib.hid hlb; clear hlb
          have SB := Lib.hid hsb; clear hsb
          have BW := Lib.hid hbw; clear hbw
          have HZ2 := Lib.hid hsz; clear hsz
          have ht0 : World.cell? wr ⟨gl, 0, none⟩ = some (.int .i64 fj) := blk_cell0 (L := [.int .i64 fj, .string (bs txt)]) LB.out 0 rfl
          have hs2 : World.cell? wr ⟨w.heap.size, 2, none⟩ = some (.int .i64 mark) := blk_cell0 (L := [.slice (some ad) n k0, .int .i64 next, .int .i64 mark]) SB.out 2 rfl
          by_cases hkl : k < ul.length
          · obtain ⟨hlen, hcells⟩ := Reads.of_own HUL.out
            obtain ⟨au, rfl, hcl⟩ := hcells (by omega)
            have hc := hcl k (strv ul[k]) (by rw [List.getElem?_map, List.getElem?_eq_getElem hkl]; rfl)
            have hin := HIN.out
            rw [show ul.drop k = ul[k] :: ul.drop (k + 1) from List.drop_eq_getElem_cons hkl, keepF] at hin
            clear HIN hcl hlen
            have hal : acc.length ≤ 1048576 := by have h1 := HRL.out; have h2 := congrArg List.length hin; rw [List.length_append] at h2; omega
            generalize ul[k] = y at *
            have hc2 : World.cell? wr (au.add k) = some (.string (bs y)) := hc
            clear hc
            by_cases hcond : mark < fj + (k : Int)
            · rw [if_pos hcond] at hin
              have hin2 : (acc ++ [y]) ++ (keepF mark (ul.drop (k + 1)) (fj + ((k + 1 : Nat) : Int)) ++ rest) = R := by
                rw [← hin, show fj + ((k + 1 : Nat) : Int) = fj + (k : Int) + 1 by omega]; simp
              have HIN := Lib.hid hin2; clear hin2 hin
              go_wp2_with (at_builtin; go_must (refine wpList_app E_str _ rfl (.tmp 41) (.tmp 43) rfl v1.heap.size _ acc.length _ rfl (HO.out.alloc _) _ _ _ _ rfl (Reads.new rfl) (one1 rfl) (by omega) (Nat.le_trans HZ2.out (by simp)) ?_; intro vv w4 hown1 hg1 hat1; have hbel3 := (BW.out.alloc BW.out.size _).grown hg1 (Nat.le_trans BW.out.size (by simp)) (fun g hg => by have := (HO.out.lt g hg).1; have := B1.out; omega); have hown3 := own_snocS y hown1; have hul3 := (HUL.out.alloc (.cells #[.string (bs y)] 9)).kept hg1 HAP.out; have hlb3 := Blk.keep (LB.out.alloc (.cells #[.string (bs y)] 9)) (hg1.block gl (LB.out.alloc (.cells #[.string (bs y)] 9)).lt (fun e => HLA.out e.symm)); have hsb3 := Blk.keep (SB.out.alloc (.cells #[.string (bs y)] 9)) (hg1.block w.heap.size (SB.out.alloc (.cells #[.string (bs y)] 9)).lt (fun e => by have h1 := (HO.out.lt _ e.symm).1; have h2 := B1.out; have h3 := HW1.out; omega)); have hz4 : v1.heap.size ≤ w4.heap.size := Nat.le_trans HZ2.out (Nat.le_trans (by simp) hg1.size); have hap4 := apart_step HUL.out HAP.out hat1 (by simp); have hla4 : vv.ownBlock ≠ some gl := (fun he => by (rcases hat1 with h1 | h1 <;> first | exact HLA.out (h1 ▸ he) | (exact alloc_ne (h1.symm.trans he) LB.out.lt))); clear hown1 hg1 hat1; have H7 := Lib.hid hown3; have H8 := Lib.hid hbel3; have H9 := Lib.hid hul3; have H10 := Lib.hid hlb3; have H11 := Lib.hid hsb3; have H12 := Lib.hid hz4; have H13 := Lib.hid hap4; have H14 := Lib.hid hla4; clear hown3 hbel3 hul3 hlb3 hsb3 hz4 hap4 hla4))
              exact ⟨⟨k + 1, acc ++ [y], by omega, by go_num, HIN.out, H7.out, H9.out, H13.out, H14.out, H10.out, H11.out, H8.out, H12.out⟩, by simp only [intOf]; omega⟩
            · rw [if_neg hcond] at hin
              have hin2 : acc ++ (keepF mark (ul.drop (k + 1)) (fj + ((k + 1 : Nat) : Int)) ++ rest) = R := by
                rw [← hin, show fj + ((k + 1 : Nat) : Int) = fj + (k : Int) + 1 by omega]
              have HIN := Lib.hid hin2; clear hin2 hin
              go_wp2
              exact ⟨⟨k + 1, acc, by omega, by go_num, HIN.out, HO.out, HUL.out, HAP.out, HLA.out, LB.out, SB.out, BW.out, HZ2.out⟩, by simp only [intOf]; omega⟩
          · have hkn : ul.length ≤ k := by omega
            have hin := HIN.out
            rw [List.drop_of_length_le hkn] at hin
            have HEND := Lib.hid (show acc ++ rest = R from hin); clear hin HIN
            have hke : k = ul.length := by omega
            subst hke
            clear ht0 hs2
            go_wp2
            exact ⟨⟨j + 1, acc, by omega, by go_num, HREST.out ▸ HEND.out, HO.out, SB.out, BW.out, HZ2.out⟩, by simp only [intOf]; omega⟩
      · have hjn : j = n := by omega
        subst hjn
        rw [List.drop_of_length_le (by have := HN.out; omega)] at hv
        have hRa : acc = R := by simpa using hv
        subst hRa
        obtain ⟨A, c, rfl, _⟩ := SlR.of_own HO.out
        go_wp2
        go_ret
        exact ⟨_, _, _, rfl, rfl, Mine.strs_mk rfl (ownsRow_keep HO.out (fun b hb => ⟨Nat.le_trans B1.out (HO.out.lt b hb).1, rfl⟩)), BW.out⟩

end Go.Proofs.Ytifdkjddiohahaa
