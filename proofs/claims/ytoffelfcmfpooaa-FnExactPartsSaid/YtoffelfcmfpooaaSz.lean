/-
  The laws' helpers sz*: how great an argument is. Conditions: the bounds that the form gives each argument.
-/
import Derived.Test.YtoffelfcmfpooaaTy
import Derived.Test.YtoffelfcmfpooaaStrs
namespace Go.Proofs.Ytoffelfcmfpooaa
open Go.RowKit

theorem i64_eq {a b : Int} (h : a = b) : Value.int .i64 a = .int .i64 b := by rw [h]
theorem cat_wt0 {α : Type} {f : α → Cs} (h : ∀ x, (f x).wt = 0) : ∀ xs : List α, (cat f xs).wt = 0
  | [] => rfl
  | x :: xs => by rw [cat_cons, Cs.wt_app, h, cat_wt0 h xs]

set_option maxRecDepth 100000 in
set_option maxHeartbeats 1000000 in
theorem szStringS_z (xs : List (List UInt8)) (left : Int) (A : Option Addr) (n c : Nat) (w : World) (hn : n = xs.length) (h0 : 0 ≤ left) (h1 : left ≤ 4611686018427387904) (hok0 : n ≤ 9223372036854775807) (hok : (cat strC xs).ok) (h : Rep anyB w (.sl 9 1 n (cat strC xs) .nil) [.slice A n c]) :
    Calls Try.prog 62 #[.slice A n c, .int .i64 left] w fun e w' => e = .returned (.int .i64 (szZ left (n + (cat strC xs).wt))) ∧ Below w.heap.size w w' := by
  obtain ⟨q, rfl⟩ : ∃ q : Nat, left = (q : Int) := ⟨left.toNat, by omega⟩
  subst hn
  have hx : ∀ x ∈ xs, x.length ≤ 9223372036854775807 := fun x hx => by
    obtain ⟨j, hj, rfl⟩ := List.getElem_of_mem hx
    have := cat_ok hok j hj
    simp only [strC, Cs.ok] at this
    exact this.1
  refine (szStringS_any _ xs q w (by omega) hok0 hx h.strs).mono fun e w' ⟨a, b⟩ => ⟨?_, b⟩
  rw [a]
  congr 2
  have e1 : wtS xs = xs.length + (cat strC xs).wt := by rw [strs_wt]; rfl
  rw [← e1]
  simp only [szR, szZ, Int.ofNat_le]
theorem szStringS_yes (xs : List (List UInt8)) (left : Int) (A : Option Addr) (n c : Nat) (w : World) (hn : n = xs.length) (h0 : 0 ≤ left) (h1 : left ≤ 4611686018427387904) (hok0 : n ≤ 9223372036854775807) (hok : (cat strC xs).ok) (h : Rep anyB w (.sl 9 1 n (cat strC xs) .nil) [.slice A n c]) (hw : ((n + (cat strC xs).wt : Nat) : Int) ≤ left) :
    Calls Try.prog 62 #[.slice A n c, .int .i64 left] w fun e w' => ∃ q : Int, e = .returned (.int .i64 q) ∧ (0 ≤ q ∧ q ≤ left) ∧ q = left - ((n + (cat strC xs).wt : Nat) : Int) ∧ Below w.heap.size w w' :=
  (szStringS_z xs left A n c w hn h0 h1 hok0 hok h).mono fun e w' ⟨a, b⟩ => ⟨_, a, by rw [szZ_yes hw]; omega, szZ_yes hw, b⟩
theorem szStringS_no (xs : List (List UInt8)) (left : Int) (A : Option Addr) (n c : Nat) (w : World) (hn : n = xs.length) (h0 : 0 ≤ left) (h1 : left ≤ 4611686018427387904) (hok0 : n ≤ 9223372036854775807) (hok : (cat strC xs).ok) (h : Rep anyB w (.sl 9 1 n (cat strC xs) .nil) [.slice A n c]) (hw : ¬ ((n + (cat strC xs).wt : Nat) : Int) ≤ left) :
    Calls Try.prog 62 #[.slice A n c, .int .i64 left] w fun e w' => e = .returned (.int .i64 (-1)) ∧ Below w.heap.size w w' :=
  (szStringS_z xs left A n c w hn h0 h1 hok0 hok h).mono fun e w' ⟨a, b⟩ => ⟨by rw [a, szZ_no hw], b⟩




























set_option maxRecDepth 100000 in
set_option maxHeartbeats 1000000 in
theorem szIdS_z (xs : List IdD) (left : Int) (A : Option Addr) (n c : Nat) (w : World) (hn : n = xs.length) (h0 : 0 ≤ left) (h1 : left ≤ 4611686018427387904) (hok0 : n ≤ 9223372036854775807) (hok : (cat IdD.c xs).ok) (h : Rep anyB w (.sl 36 2 n (cat IdD.c xs) .nil) [.slice A n c]) :
    Calls Try.prog 28 #[.slice A n c, .int .i64 left] w fun e w' => e = .returned (.int .i64 (szZ left (n + (cat IdD.c xs).wt))) ∧ Below w.heap.size w w' := by
  have hz : (cat IdD.c xs).wt = 0 := cat_wt0 (fun _ => rfl) xs
  rw [hz, Nat.add_zero]
  clear hz hok h hn
  by_cases c0 : (n : Int) ≤ left
  · have HR := Lib.hid (szZ_yes c0)
    go_enter Try.func28, Try.ntmps28
    go_wp2
    go_ret
    exact ⟨ret_eq (by rw [HR.out]; rfl), Below.refl _ _⟩
  · have HR := Lib.hid (szZ_no c0)
    go_enter Try.func28, Try.ntmps28
    go_wp2
    go_ret
    exact ⟨ret_eq (by rw [HR.out]; rfl), Below.refl _ _⟩
theorem szIdS_yes (xs : List IdD) (left : Int) (A : Option Addr) (n c : Nat) (w : World) (hn : n = xs.length) (h0 : 0 ≤ left) (h1 : left ≤ 4611686018427387904) (hok0 : n ≤ 9223372036854775807) (hok : (cat IdD.c xs).ok) (h : Rep anyB w (.sl 36 2 n (cat IdD.c xs) .nil) [.slice A n c]) (hw : ((n + (cat IdD.c xs).wt : Nat) : Int) ≤ left) :
    Calls Try.prog 28 #[.slice A n c, .int .i64 left] w fun e w' => ∃ q : Int, e = .returned (.int .i64 q) ∧ (0 ≤ q ∧ q ≤ left) ∧ q = left - ((n + (cat IdD.c xs).wt : Nat) : Int) ∧ Below w.heap.size w w' :=
  (szIdS_z xs left A n c w hn h0 h1 hok0 hok h).mono fun e w' ⟨a, b⟩ => ⟨_, a, by rw [szZ_yes hw]; omega, szZ_yes hw, b⟩
theorem szIdS_no (xs : List IdD) (left : Int) (A : Option Addr) (n c : Nat) (w : World) (hn : n = xs.length) (h0 : 0 ≤ left) (h1 : left ≤ 4611686018427387904) (hok0 : n ≤ 9223372036854775807) (hok : (cat IdD.c xs).ok) (h : Rep anyB w (.sl 36 2 n (cat IdD.c xs) .nil) [.slice A n c]) (hw : ¬ ((n + (cat IdD.c xs).wt : Nat) : Int) ≤ left) :
    Calls Try.prog 28 #[.slice A n c, .int .i64 left] w fun e w' => e = .returned (.int .i64 (-1)) ∧ Below w.heap.size w w' :=
  (szIdS_z xs left A n c w hn h0 h1 hok0 hok h).mono fun e w' ⟨a, b⟩ => ⟨by rw [a, szZ_no hw], b⟩


set_option maxRecDepth 100000 in
set_option maxHeartbeats 1000000 in
theorem szCmd_z (x : CmdD) (left : Int) (cs : List Value) (w : World) (h0 : 0 ≤ left) (h1 : left ≤ 4611686018427387904) (hok : x.c.ok) (h : Rep anyB w x.c cs) :
    Calls Try.prog 27 #[.agg cs.toArray, .int .i64 left] w fun e w' => e = .returned (.int .i64 (szZ left x.c.wt)) ∧ Below w.heap.size w w' := by
  obtain ⟨A0, k0, rfl, s0⟩ := CmdD.open h
  simp only [CmdD.c, CmdD.cs, Cs.ok] at hok
  obtain ⟨b0, b1, b2, b3, b4, b5, b6, b7, d7, _⟩ := hok
  have HW := Lib.hid (show x.c.wt = (x.set.length + (x.name.length + (x.tag.length + (x.chunks.length + (cat strC x.chunks).wt + 0)))) from rfl)
  generalize x.c.wt = T at *
  have S0 := Lib.hid s0; clear s0
  clear b0
  clear b1
  clear b2
  clear b6
  have D7 := Lib.hid d7; clear d7
  by_cases c0 : (x.set.length : Int) ≤ left
  · skip
    by_cases c1 : (x.set.length : Int) + (x.name.length : Int) ≤ left
    · skip
      by_cases c2 : (x.set.length : Int) + (x.name.length : Int) + (x.tag.length : Int) ≤ left
      · skip
        by_cases c3 : (x.set.length : Int) + (x.name.length : Int) + (x.tag.length : Int) + ((x.chunks.length + (cat strC x.chunks).wt) : Int) ≤ left
        · skip
          have HR := Lib.hid (szZ_yes (l := left) (n := T) (by have := HW.out; omega))
          go_enter Try.func27, Try.ntmps27
          have BW := Lib.hid ((Below.refl w.heap.size w).alloc (Nat.le_refl _) (.cells #[.int .i64 x.kind, .int .i64 x.client, .int .i64 x.no, .string (bs x.set), .string (bs x.name), .string (bs x.tag), .int .i64 x.n, (.slice A0 x.chunks.length k0)] 27))
          go_wp2_with fail
          refine (szStringS_yes x.chunks _ _ _ _ _ rfl (by omega) (by omega) b7 D7.out (S0.out.below BW.out) (by omega)).mono ?_; rintro e w4 ⟨q3, rfl, g3, hq3, hb⟩
          have HQ3 := Lib.hid hq3; clear hq3
          have B1 := Lib.hid (BW.out.trans (hb.mono BW.out.size)); clear BW
          obtain ⟨hc, hf⟩ := bcell hb; clear hb
          have BW := Lib.hid B1.out; clear B1
          go_wp2
          go_ret
          exact ⟨ret_eq ((i64_eq (by rw [HR.out]; have := HW.out; have := HQ3.out; omega)).trans rfl), BW.out⟩
        · have HR := Lib.hid (szZ_no (l := left) (n := T) (by have := HW.out; omega))
          go_enter Try.func27, Try.ntmps27
          have BW := Lib.hid ((Below.refl w.heap.size w).alloc (Nat.le_refl _) (.cells #[.int .i64 x.kind, .int .i64 x.client, .int .i64 x.no, .string (bs x.set), .string (bs x.name), .string (bs x.tag), .int .i64 x.n, (.slice A0 x.chunks.length k0)] 27))
          go_wp2_with fail
          refine (szStringS_no x.chunks _ _ _ _ _ rfl (by omega) (by omega) b7 D7.out (S0.out.below BW.out) (by omega)).mono ?_; rintro e w4 ⟨rfl, hb⟩
          have B1 := Lib.hid (BW.out.trans (hb.mono BW.out.size)); clear BW
          obtain ⟨hc, hf⟩ := bcell hb; clear hb
          have BW := Lib.hid B1.out; clear B1
          go_wp2
          go_ret
          exact ⟨ret_eq (by rw [HR.out]; rfl), BW.out⟩
      · have HR := Lib.hid (szZ_no (l := left) (n := T) (by have := HW.out; omega))
        go_enter Try.func27, Try.ntmps27
        have BW := Lib.hid ((Below.refl w.heap.size w).alloc (Nat.le_refl _) (.cells #[.int .i64 x.kind, .int .i64 x.client, .int .i64 x.no, .string (bs x.set), .string (bs x.name), .string (bs x.tag), .int .i64 x.n, (.slice A0 x.chunks.length k0)] 27))
        go_wp2
        go_ret
        exact ⟨ret_eq (by rw [HR.out]; rfl), BW.out⟩
    · have HR := Lib.hid (szZ_no (l := left) (n := T) (by have := HW.out; omega))
      go_enter Try.func27, Try.ntmps27
      have BW := Lib.hid ((Below.refl w.heap.size w).alloc (Nat.le_refl _) (.cells #[.int .i64 x.kind, .int .i64 x.client, .int .i64 x.no, .string (bs x.set), .string (bs x.name), .string (bs x.tag), .int .i64 x.n, (.slice A0 x.chunks.length k0)] 27))
      go_wp2
      go_ret
      exact ⟨ret_eq (by rw [HR.out]; rfl), BW.out⟩
  · have HR := Lib.hid (szZ_no (l := left) (n := T) (by have := HW.out; omega))
    go_enter Try.func27, Try.ntmps27
    have BW := Lib.hid ((Below.refl w.heap.size w).alloc (Nat.le_refl _) (.cells #[.int .i64 x.kind, .int .i64 x.client, .int .i64 x.no, .string (bs x.set), .string (bs x.name), .string (bs x.tag), .int .i64 x.n, (.slice A0 x.chunks.length k0)] 27))
    go_wp2
    go_ret
    exact ⟨ret_eq (by rw [HR.out]; rfl), BW.out⟩
theorem szCmd_yes (x : CmdD) (left : Int) (cs : List Value) (w : World) (h0 : 0 ≤ left) (h1 : left ≤ 4611686018427387904) (hok : x.c.ok) (h : Rep anyB w x.c cs) (hw : (x.c.wt : Int) ≤ left) :
    Calls Try.prog 27 #[.agg cs.toArray, .int .i64 left] w fun e w' => ∃ q : Int, e = .returned (.int .i64 q) ∧ (0 ≤ q ∧ q ≤ left) ∧ q = left - x.c.wt ∧ Below w.heap.size w w' :=
  (szCmd_z x left cs w h0 h1 hok h).mono fun e w' ⟨a, b⟩ => ⟨_, a, by rw [szZ_yes hw]; omega, szZ_yes hw, b⟩
theorem szCmd_no (x : CmdD) (left : Int) (cs : List Value) (w : World) (h0 : 0 ≤ left) (h1 : left ≤ 4611686018427387904) (hok : x.c.ok) (h : Rep anyB w x.c cs) (hw : ¬ (x.c.wt : Int) ≤ left) :
    Calls Try.prog 27 #[.agg cs.toArray, .int .i64 left] w fun e w' => e = .returned (.int .i64 (-1)) ∧ Below w.heap.size w w' :=
  (szCmd_z x left cs w h0 h1 hok h).mono fun e w' ⟨a, b⟩ => ⟨by rw [a, szZ_no hw], b⟩




















































































































































































































































































































set_option maxRecDepth 100000 in
set_option maxHeartbeats 1000000 in
theorem szInst_z (x : InstD) (left : Int) (cs : List Value) (w : World) (h0 : 0 ≤ left) (h1 : left ≤ 4611686018427387904) (hok : x.c.ok) (h : Rep anyB w x.c cs) :
    Calls Try.prog 7 #[.agg cs.toArray, .int .i64 left] w fun e w' => e = .returned (.int .i64 (szZ left x.c.wt)) ∧ Below w.heap.size w w' := by
  obtain ⟨A0, k0, A1, k1, rfl, s0, s1⟩ := InstD.open h
  simp only [InstD.c, InstD.cs, IdD.c, IdD.cs, CmdD.c, CmdD.cs, Cs.ok] at hok
  obtain ⟨b0, b1, b2, b3, b4, b5, b6, b7, b8, b9, b10, b11, b12, d12, b13, b14, d14, _⟩ := hok
  have HW := Lib.hid (show x.c.wt = (x.cmd.set.length + (x.cmd.name.length + (x.cmd.tag.length + (x.cmd.chunks.length + (cat strC x.cmd.chunks).wt + (x.deps.length + (cat IdD.c x.deps).wt + 0))))) from rfl)
  generalize x.c.wt = T at *
  have S0 := Lib.hid s0; clear s0
  have S1 := Lib.hid s1; clear s1
  have OK0 := Lib.hid (show x.cmd.c.ok from ⟨b5, b6, b7, b8, b9, b10, b11, b12, d12, trivial⟩)
  have HE0 := Lib.hid (show x.cmd.c.wt = (x.cmd.set.length + (x.cmd.name.length + (x.cmd.tag.length + (x.cmd.chunks.length + (cat strC x.cmd.chunks).wt + 0)))) from rfl)
  clear b0
  clear b1
  clear b2
  clear b3
  clear b4
  clear b5
  clear b6
  clear b7
  clear b11
  have D12 := Lib.hid d12; clear d12
  clear b13
  have D14 := Lib.hid d14; clear d14
  by_cases c0 : (x.cmd.c.wt : Int) ≤ left
  · skip
    by_cases c1 : (x.cmd.c.wt : Int) + ((x.deps.length + (cat IdD.c x.deps).wt) : Int) ≤ left
    · skip
      have HR := Lib.hid (szZ_yes (l := left) (n := T) (by have := HW.out; have := HE0.out; omega))
      go_enter Try.func7, Try.ntmps7
      have BW := Lib.hid ((Below.refl w.heap.size w).alloc (Nat.le_refl _) (.cells #[.int .i64 x.id.rep, .int .i64 x.id.slot, .int .i64 x.bal, .int .i64 x.vbal, .int .i64 x.status, .int .i64 x.cmd.kind, .int .i64 x.cmd.client, .int .i64 x.cmd.no, .string (bs x.cmd.set), .string (bs x.cmd.name), .string (bs x.cmd.tag), .int .i64 x.cmd.n, (.slice A0 x.cmd.chunks.length k0), .int .i64 x.seq, (.slice A1 x.deps.length k1), .bool x.same] 30))
      go_wp2_with fail
      refine (szCmd_yes x.cmd _ _ _ (by omega) (by omega) OK0.out (CmdD.shut (S0.out.below BW.out)) (by have := HE0.out; omega)).mono ?_; rintro e w1 ⟨q0, rfl, g0, hq0, hb⟩
      have HQ0 := Lib.hid hq0; clear hq0
      have B1 := Lib.hid (BW.out.trans (hb.mono BW.out.size)); clear BW
      obtain ⟨hc, hf⟩ := bcell hb; clear hb
      have BW := Lib.hid B1.out; clear B1
      go_wp2_with fail
      refine (szIdS_yes x.deps _ _ _ _ _ rfl (by omega) (by omega) b14 D14.out (S1.out.below BW.out) (by have := HE0.out; have := HQ0.out; omega)).mono ?_; rintro e w2 ⟨q1, rfl, g1, hq1, hb⟩
      have HQ1 := Lib.hid hq1; clear hq1
      have B1 := Lib.hid (BW.out.trans (hb.mono BW.out.size)); clear BW
      obtain ⟨hc, hf⟩ := bcell hb; clear hb
      have BW := Lib.hid B1.out; clear B1
      go_wp2
      go_ret
      exact ⟨ret_eq ((i64_eq (by rw [HR.out]; have := HW.out; have := HE0.out; have := HQ0.out; have := HQ1.out; omega)).trans rfl), BW.out⟩
    · have HR := Lib.hid (szZ_no (l := left) (n := T) (by have := HW.out; have := HE0.out; omega))
      go_enter Try.func7, Try.ntmps7
      have BW := Lib.hid ((Below.refl w.heap.size w).alloc (Nat.le_refl _) (.cells #[.int .i64 x.id.rep, .int .i64 x.id.slot, .int .i64 x.bal, .int .i64 x.vbal, .int .i64 x.status, .int .i64 x.cmd.kind, .int .i64 x.cmd.client, .int .i64 x.cmd.no, .string (bs x.cmd.set), .string (bs x.cmd.name), .string (bs x.cmd.tag), .int .i64 x.cmd.n, (.slice A0 x.cmd.chunks.length k0), .int .i64 x.seq, (.slice A1 x.deps.length k1), .bool x.same] 30))
      go_wp2_with fail
      refine (szCmd_yes x.cmd _ _ _ (by omega) (by omega) OK0.out (CmdD.shut (S0.out.below BW.out)) (by have := HE0.out; omega)).mono ?_; rintro e w1 ⟨q0, rfl, g0, hq0, hb⟩
      have HQ0 := Lib.hid hq0; clear hq0
      have B1 := Lib.hid (BW.out.trans (hb.mono BW.out.size)); clear BW
      obtain ⟨hc, hf⟩ := bcell hb; clear hb
      have BW := Lib.hid B1.out; clear B1
      go_wp2_with fail
      refine (szIdS_no x.deps _ _ _ _ _ rfl (by omega) (by omega) b14 D14.out (S1.out.below BW.out) (by have := HE0.out; have := HQ0.out; omega)).mono ?_; rintro e w2 ⟨rfl, hb⟩
      have B1 := Lib.hid (BW.out.trans (hb.mono BW.out.size)); clear BW
      obtain ⟨hc, hf⟩ := bcell hb; clear hb
      have BW := Lib.hid B1.out; clear B1
      go_wp2
      go_ret
      exact ⟨ret_eq (by rw [HR.out]; rfl), BW.out⟩
  · have HR := Lib.hid (szZ_no (l := left) (n := T) (by have := HW.out; have := HE0.out; omega))
    go_enter Try.func7, Try.ntmps7
    have BW := Lib.hid ((Below.refl w.heap.size w).alloc (Nat.le_refl _) (.cells #[.int .i64 x.id.rep, .int .i64 x.id.slot, .int .i64 x.bal, .int .i64 x.vbal, .int .i64 x.status, .int .i64 x.cmd.kind, .int .i64 x.cmd.client, .int .i64 x.cmd.no, .string (bs x.cmd.set), .string (bs x.cmd.name), .string (bs x.cmd.tag), .int .i64 x.cmd.n, (.slice A0 x.cmd.chunks.length k0), .int .i64 x.seq, (.slice A1 x.deps.length k1), .bool x.same] 30))
    go_wp2_with fail
    refine (szCmd_no x.cmd _ _ _ (by omega) (by omega) OK0.out (CmdD.shut (S0.out.below BW.out)) (by have := HE0.out; omega)).mono ?_; rintro e w1 ⟨rfl, hb⟩
    have B1 := Lib.hid (BW.out.trans (hb.mono BW.out.size)); clear BW
    obtain ⟨hc, hf⟩ := bcell hb; clear hb
    have BW := Lib.hid B1.out; clear B1
    go_wp2
    go_ret
    exact ⟨ret_eq (by rw [HR.out]; rfl), BW.out⟩
theorem szInst_yes (x : InstD) (left : Int) (cs : List Value) (w : World) (h0 : 0 ≤ left) (h1 : left ≤ 4611686018427387904) (hok : x.c.ok) (h : Rep anyB w x.c cs) (hw : (x.c.wt : Int) ≤ left) :
    Calls Try.prog 7 #[.agg cs.toArray, .int .i64 left] w fun e w' => ∃ q : Int, e = .returned (.int .i64 q) ∧ (0 ≤ q ∧ q ≤ left) ∧ q = left - x.c.wt ∧ Below w.heap.size w w' :=
  (szInst_z x left cs w h0 h1 hok h).mono fun e w' ⟨a, b⟩ => ⟨_, a, by rw [szZ_yes hw]; omega, szZ_yes hw, b⟩
theorem szInst_no (x : InstD) (left : Int) (cs : List Value) (w : World) (h0 : 0 ≤ left) (h1 : left ≤ 4611686018427387904) (hok : x.c.ok) (h : Rep anyB w x.c cs) (hw : ¬ (x.c.wt : Int) ≤ left) :
    Calls Try.prog 7 #[.agg cs.toArray, .int .i64 left] w fun e w' => e = .returned (.int .i64 (-1)) ∧ Below w.heap.size w w' :=
  (szInst_z x left cs w h0 h1 hok h).mono fun e w' ⟨a, b⟩ => ⟨by rw [a, szZ_no hw], b⟩


set_option maxRecDepth 100000 in
set_option maxHeartbeats 1000000 in
theorem szInstS_z (xs : List InstD) (left : Int) (A : Option Addr) (n c : Nat) (w : World) (hn : n = xs.length) (h0 : 0 ≤ left) (h1 : left ≤ 4611686018427387904) (hok0 : n ≤ 9223372036854775807) (hok : (cat InstD.c xs).ok) (h : Rep anyB w (.sl 40 16 n (cat InstD.c xs) .nil) [.slice A n c]) :
    Calls Try.prog 6 #[.slice A n c, .int .i64 left] w fun e w' => e = .returned (.int .i64 (szZ left (n + (cat InstD.c xs).wt))) ∧ Below w.heap.size w w' := by
  have HR := Lib.hid h; clear h
  have HN := Lib.hid hn; clear hn
  have HO := Lib.hid hok; clear hok
  obtain ⟨T, hT⟩ : ∃ T, T = n + (cat InstD.c xs).wt := ⟨_, rfl⟩
  rw [← hT]
  have HT := Lib.hid hT; clear hT
  by_cases c0 : (n : Int) ≤ left
  · go_enter Try.func6, Try.ntmps6
    go_wp2
    go_loopw [1, 5] (fun ll ii wr => ∃ (j : Nat) (y : Int), j ≤ n ∧ ii = .int .i64 (j : Int) ∧ ll = .int .i64 y ∧ 0 ≤ y ∧ y ≤ left ∧ y = left - n - (cat InstD.c (xs.take j)).wt ∧ Below w.heap.size w wr) (fun _ ii _ => n - (intOf ii).toNat)
    case atStart => exact ⟨0, left - n, Nat.zero_le _, rfl, rfl, by omega, by omega, by simp [cat, Cs.wt], Below.refl _ _⟩
    case round =>
      obtain ⟨j, y, hj, rfl, rfl, hy0, hy1, hy, hbel⟩ := hrel
      have HY := Lib.hid hy; clear hy
      have H2 := Lib.hid hbel; clear hbel
      by_cases hlt : j < n
      · have hjx : j < xs.length := by have := HN.out; omega
        obtain ⟨ad, ci, rfl, _, _, hrc, hl, hc⟩ := (HR.out.below H2.out).elem InstD.width j hjx HN.out
        have hok1 := cat_ok HO.out j hjx
        have hst := cat_wt_take (f := InstD.c) xs j hjx
        have hsl := cat_wt_take_le (f := InstD.c) xs (j + 1)
        rw [hst] at hsl
        generalize xs[j] = x at *
        have HL := Lib.hid hl; clear hl
        have HC := Lib.hid hc; clear hc
        have HRC := Lib.hid hrc; clear hrc
        have HST := Lib.hid hst; clear hst
        have HSL := Lib.hid hsl; clear hsl
        have HO1 := Lib.hid hok1; clear hok1
        by_cases hov : (x.c.wt : Int) ≤ y
        · go_wp2_with (first | ((with_reducible show wpList _ _ _ ({ dst := _, op := Op.load 30 _, type := _, pos := _, after := _, guard := _ } :: _) _ _); refine wpList_load_row _ (ad.add (j * 16)) rfl ci agg_lInst HL.out HC.out ?_) | fail)
          refine (szInst_yes x y ci _ hy0 (by omega) HO1.out HRC.out (by omega)).mono ?_; rintro e w1 ⟨q, rfl, g, hq, hb⟩
          have HQ := Lib.hid hq; clear hq
          have B1 := Lib.hid hb; clear hb
          go_wp2
          exact ⟨⟨j + 1, q, by omega, by go_num, rfl, by omega, by omega, by have := HQ.out; have := HY.out; have := HST.out; omega, H2.out.trans (B1.out.mono H2.out.size)⟩, by simp only [intOf]; omega⟩
        · have HZ := Lib.hid (szZ_no (l := left) (n := T) (by have := HT.out; have := HY.out; have := HSL.out; omega))
          go_wp2_with (first | ((with_reducible show wpList _ _ _ ({ dst := _, op := Op.load 30 _, type := _, pos := _, after := _, guard := _ } :: _) _ _); refine wpList_load_row _ (ad.add (j * 16)) rfl ci agg_lInst HL.out HC.out ?_) | fail)
          refine (szInst_no x y ci _ hy0 (by omega) HO1.out HRC.out (by omega)).mono ?_; rintro e w1 ⟨rfl, hb⟩
          have B1 := Lib.hid hb; clear hb
          go_wp2
          go_ret
          exact ⟨ret_eq (by rw [HZ.out]; rfl), H2.out.trans (B1.out.mono H2.out.size)⟩
      · have hjn : j = n := by omega
        subst hjn
        have hy2 : y = left - T := by
          have h1 := HY.out
          have h2 := HT.out
          rw [List.take_of_length_le (by have := HN.out; omega)] at h1
          omega
        have HZ := Lib.hid (szZ_yes (l := left) (n := T) (by omega))
        have HY2 := Lib.hid hy2; clear hy2
        go_wp2
        go_ret
        exact ⟨ret_eq (by rw [HZ.out, ← HY2.out]; rfl), H2.out⟩
  · have HZ := Lib.hid (szZ_no (l := left) (n := T) (by have := HT.out; omega))
    go_enter Try.func6, Try.ntmps6
    go_wp2
    go_ret
    exact ⟨ret_eq (by rw [HZ.out]; rfl), Below.refl _ _⟩
theorem szInstS_yes (xs : List InstD) (left : Int) (A : Option Addr) (n c : Nat) (w : World) (hn : n = xs.length) (h0 : 0 ≤ left) (h1 : left ≤ 4611686018427387904) (hok0 : n ≤ 9223372036854775807) (hok : (cat InstD.c xs).ok) (h : Rep anyB w (.sl 40 16 n (cat InstD.c xs) .nil) [.slice A n c]) (hw : ((n + (cat InstD.c xs).wt : Nat) : Int) ≤ left) :
    Calls Try.prog 6 #[.slice A n c, .int .i64 left] w fun e w' => ∃ q : Int, e = .returned (.int .i64 q) ∧ (0 ≤ q ∧ q ≤ left) ∧ q = left - ((n + (cat InstD.c xs).wt : Nat) : Int) ∧ Below w.heap.size w w' :=
  (szInstS_z xs left A n c w hn h0 h1 hok0 hok h).mono fun e w' ⟨a, b⟩ => ⟨_, a, by rw [szZ_yes hw]; omega, szZ_yes hw, b⟩
theorem szInstS_no (xs : List InstD) (left : Int) (A : Option Addr) (n c : Nat) (w : World) (hn : n = xs.length) (h0 : 0 ≤ left) (h1 : left ≤ 4611686018427387904) (hok0 : n ≤ 9223372036854775807) (hok : (cat InstD.c xs).ok) (h : Rep anyB w (.sl 40 16 n (cat InstD.c xs) .nil) [.slice A n c]) (hw : ¬ ((n + (cat InstD.c xs).wt : Nat) : Int) ≤ left) :
    Calls Try.prog 6 #[.slice A n c, .int .i64 left] w fun e w' => e = .returned (.int .i64 (-1)) ∧ Below w.heap.size w w' :=
  (szInstS_z xs left A n c w hn h0 h1 hok0 hok h).mono fun e w' ⟨a, b⟩ => ⟨by rw [a, szZ_no hw], b⟩























































































end Go.Proofs.Ytoffelfcmfpooaa
