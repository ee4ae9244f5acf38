/-
  The law on Unframe holds for all arguments. No condition.
-/
import Derived.Test.YtfimkceekebacaaUnframeS
import Derived.Test.YtfimkceekebacaaMark
import Derived.Test.YtfimkceekebacaaEnd
namespace Go.Proofs.Ytfimkceekebacaa
open Go.RowKit Go.ChangeShapes Go.WideShapes Go.ChangeAt
open Go.ChangeMaps (open_string)

theorem unfr_len : ∀ (f : Nat) (s : List UInt8), (unfr f s).1.length ≤ s.length
  | 0, s => by simp [unfr]
  | f + 1, s => by
    cases h : frame1 s with
    | none => rw [unfr_none h]; simp
    | some t =>
      obtain ⟨_, h5, hne, hle, _⟩ := frame1_some h
      obtain ⟨_, hge⟩ := frameL_ne hne
      have := unfr_len f (s.drop (frameL t).length)
      rw [List.length_drop] at this
      rw [unfr_some h]
      simp only [List.length_cons]
      omega
theorem own_apart {a b : World} {base base' : Nat} {e e' : TypeId} {size size' : Nat} {v v' : Value} {n n' : Nat} {xs xs' : List Value} (h : a.ownsRow base e size v n xs) (h' : b.ownsRow base' e' size' v' n' xs') (hb : a.heap.size ≤ base') : v.ownBlock = none ∨ v.ownBlock ≠ v'.ownBlock := by
  cases hv : v.ownBlock with
  | none => exact Or.inl rfl
  | some g =>
    right
    intro he
    have h1 := h.lt g hv
    have h2 := h'.lt g he.symm
    omega
attribute [local irreducible] unframeL marks
set_option maxRecDepth 100000 in
set_option maxHeartbeats 2000000 in
theorem lUnframe_all (l0 : List UInt8) (w : World) (h0 : (l0.length : Int) ≤ 9223372036854775807) :
    Calls Try.prog 14 #[.string (bs l0)] w fun e w' => e = .returned (.bool true) ∧ Below w.heap.size w w' := by
  by_cases hl : l0.length ≤ 1048576
  · have hn : (unframeL l0).1.length ≤ l0.length := by rw [unframeL_eq]; exact unfr_len _ _
    have hs := fun W => sUnframe_any l0 W (by omega)
    have hi := fun W => iUnframe_any l0 W (by omega)
    generalize unframeL l0 = U at *
    obtain ⟨xs, K⟩ := U
    simp only at hn hs hi
    have HS := Lib.hid hs; clear hs
    have HI := Lib.hid hi; clear hi
    go_enter Try.func14, Try.ntmps14
    go_wp2_with fail
    refine (HS.out _).mono ?_; rintro e w1 ⟨v0, rfl, hO0, hB1⟩
    have O0 := Lib.hid hO0; clear hO0
    have B1 := Lib.hid hB1; clear hB1
    go_wp2_with fail
    refine (HI.out _).mono ?_; rintro e w2 ⟨v1, rfl, hO1, hB2⟩
    have hap := own_apart O0.out hO1 (Nat.le_refl _)
    have hw1 := B1.out.size
    have HW := Lib.hid hw1; clear hw1
    have hsz2 := hB2.size
    have HS2 := Lib.hid hsz2; clear hsz2
    have hO0 := O0.out.kept (only_of_below hB2 none) (by cases v0.ownBlock <;> simp)
    have hB := B1.out.trans (hB2.mono B1.out.size)
    clear O0 B1 hB2
    have O0 := Lib.hid hO0; clear hO0
    have O1 := Lib.hid hO1; clear hO1
    have B1 := Lib.hid hB; clear hB
    have HA := Lib.hid hap; clear hap
    go_wp2_with fail
    refine (eqStringS_any _ _ xs _ (by omega) (SlR.of_own O1.out) (SlR.of_own O0.out)).mono ?_; rintro e w3 ⟨rfl, hB3⟩
    have hO0 := O0.out.kept (only_of_below hB3 none) (by cases v0.ownBlock <;> simp)
    have hO1 := O1.out.kept (only_of_below hB3 none) (by cases v1.ownBlock <;> simp)
    have hB := B1.out.trans (hB3.mono B1.out.size)
    have hsz3 := hB3.size
    have HS3 := Lib.hid hsz3; clear hsz3
    clear O0 O1 B1 hB3
    have O0 := Lib.hid hO0; clear hO0
    have O1 := Lib.hid hO1; clear hO1
    have B1 := Lib.hid hB; clear hB
    go_wp2_with fail
    refine (markStringS_any w1.heap.size v1 xs 1 _ (Nat.le_trans HS2.out HS3.out) (by omega) (by omega) O1.out).mono ?_; rintro e w4 ⟨rfl, hO1, hG⟩
    have hO0 := O0.out.kept hG HA.out
    have hB := B1.out.grown hG B1.out.size (fun k hk => Nat.le_trans HW.out (O1.out.lt k hk).1)
    clear O0 O1 B1 hG HA
    have O0 := Lib.hid hO0; clear hO0
    have O1 := Lib.hid hO1; clear hO1
    have B1 := Lib.hid hB; clear hB
    go_wp2_with fail
    refine (heldStringS_any v1 xs.length 1 _ (by omega) (by omega) (SlR.of_own O1.out)).mono ?_; rintro e w5 ⟨rfl, hB3⟩
    have hO0 := O0.out.kept (only_of_below hB3 none) (by cases v0.ownBlock <;> simp)
    have hO1 := O1.out.kept (only_of_below hB3 none) (by cases v1.ownBlock <;> simp)
    have hB := B1.out.trans (hB3.mono B1.out.size)
    clear O0 O1 B1 hB3
    have O0 := Lib.hid hO0; clear hO0
    have O1 := Lib.hid hO1; clear hO1
    have B1 := Lib.hid hB; clear hB
    go_wp2_with fail
    refine (HI.out _).mono ?_; rintro e w6 ⟨v2, rfl, hO2, hB3⟩
    have hO0 := O0.out.kept (only_of_below hB3 none) (by cases v0.ownBlock <;> simp)
    have hO1 := O1.out.kept (only_of_below hB3 none) (by cases v1.ownBlock <;> simp)
    have hB := B1.out.trans (hB3.mono B1.out.size)
    clear O0 O1 B1 hB3
    have O0 := Lib.hid hO0; clear hO0
    have O1 := Lib.hid hO1; clear hO1
    have O2 := Lib.hid hO2; clear hO2
    have B1 := Lib.hid hB; clear hB
    go_wp2_with fail
    refine (eqStringS_any _ _ xs _ (by omega) (SlR.of_own O2.out) (SlR.of_own O0.out)).mono ?_; rintro e w7 ⟨rfl, hB3⟩
    have hO1 := O1.out.kept (only_of_below hB3 none) (by cases v1.ownBlock <;> simp)
    have hB := B1.out.trans (hB3.mono B1.out.size)
    clear O0 O1 B1 O2 hB3
    have O1 := Lib.hid hO1; clear hO1
    have B1 := Lib.hid hB; clear hB
    go_wp2_with fail
    refine (heldStringS_any v1 xs.length 1 _ (by omega) (by omega) (SlR.of_own O1.out)).mono ?_; rintro e w8 ⟨rfl, hB3⟩
    have hB := B1.out.trans (hB3.mono B1.out.size)
    clear O1 B1 hB3
    have B1 := Lib.hid hB; clear hB
    go_wp2
    go_ret
    exact ⟨ret_eq (by first | rfl | simp), B1.out⟩
  · go_enter Try.func14, Try.ntmps14
    go_wp2
    go_ret
    exact ⟨ret_eq (by first | rfl | simp), Below.refl _ _⟩
set_option maxRecDepth 100000 in
theorem FnExactUnframe_lifted (os : Os) (started : os.Started) (H : Type) (enc : TypeId × Value → H) :
    ReturnsInHanded {} Try.checked os 14 .any (Rows.fnExactUnframeSpec.pre6 enc Try.prog Try.f14 Rows.fnExactUnframeRow.domain false) (Rows.fnExactUnframeSpec.post enc Try.prog Try.f14 false true false false) := by
  refine returnsInHanded_of_change (C := Try.checked) own started (by kernel_rfl) Try.func14
    (ChangeSpec.witness6 (enc := enc) (C := Try.checked) false ⟨#[], #[.string ⟨#[]⟩], []⟩ 8 (by kernel_rfl) (by kernel_rfl) (by kernel_rfl) (by kernel_rfl)) ?_
  intro W base args ds gs before hval0 hW _ _
  have hval : ∀ (j : Nat) t v, Try.f14.params[j]? = some t → args[j]? = some v → Value.okWide Try.prog W .any base t v := hval0
  have hW' := hW
  obtain ⟨p, q, hA0, hV, rfl, hfz, hnd⟩ := hW
  have hA : DataW.TrodAll enc Try.prog W 0 (fun _ => true) true Try.f14.params.toList args.toList ds p := hA0
  rw [Try.params14] at hA hval
  obtain ⟨v0, vs0, d0, ds0, p0, q0, hargs, rfl, rfl, h0, r0⟩ := trodAll_cons hA
  obtain ⟨rfl, rfl, rfl⟩ := trodAll_nil r0
  obtain rfl : args = #[v0] := Array.ext' hargs
  obtain ⟨a0, rfl, rfl, rfl, w0⟩ := open_string Try.underlying9 (hval 0 9 v0 rfl rfl) h0
  obtain ⟨l0, rfl⟩ : ∃ l, a0 = bs l := ⟨_, bs_eta a0⟩
  refine (lUnframe_all l0 W (len_le w0)).mono fun e W' ⟨he, hb⟩ => ?_
  subst he
  refine ⟨_, rfl, law_post (tb := 4) laidOut (by kernel_rfl) rfl Try.underlying4 rfl ?_ hW' hb⟩
  intro ds hl
  rw [Try.params14] at hl
  match ds, hl with
  | [_], _ => rfl
theorem FnExactUnframe_holds : Rows.FnExactUnframeSaid :=
  OpenClaim.holds_of_wide 14 Try.f14 rfl rfl rfl rfl rfl rfl rfl ⟨rfl, rfl, rfl, rfl, rfl⟩ rfl rfl rfl rfl rfl (by kernel_rfl) Try.func14 (by kernel_rfl)
    (of_decide_eq_true (by kernel_rfl)) (by unfold Func.isWrapper; first | (rw [if_pos (by decide +kernel)]; kernel_rfl) | (rw [if_neg (by decide +kernel)]; exact ⟨rfl, rfl⟩))
    (fun os started H enc _ => FnExactUnframe_lifted os started H enc)
end Go.Proofs.Ytfimkceekebacaa
