/-
  The law on Short holds for all arguments. No condition.
-/
import Derived.Test.YtmhbfeglnhangaaDoorSha5
import Derived.Test.YtmhbfeglnhangaaDoorEnd
import Derived.Test.YtmhbfeglnhangaaDoorLaid
import Derived.Test.YtmhbfeglnhangaaDoorTie
import Derived.Test.YtmhbfeglnhangaaDoorCards
namespace Go.Proofs.YtmhbfeglnhangaaDoor
open Go.RowKit Go.ChangeShapes Go.WideShapes Go.ChangeAt
open Go.ChangeMaps (open_string)

set_option maxHeartbeats 400000 in
theorem lShort_all (l0 : List UInt8) (w : World) (hK : KK w) (h0 : (l0.length : Int) ≤ 9223372036854775807) :
    Calls Tryd.prog 4 #[.string (bs l0)] w fun e w' => e = .returned (.bool true) ∧ Below w.heap.size w w' := by
  by_cases hl : l0.length ≤ 1048576
  · go_enter Tryd.func4, Tryd.ntmps4
    go_wp2_with (first
      | (go_at_call 10; refine (sShort_any l0 _ (by omega)).mono ?_; rintro e w1 ⟨rfl, hb1⟩; have H1 := Lib.hid hb1; clear hb1)
      | (go_at_call 11; refine (iShort_any l0 _ (by omega) (hK.below H1.out hK.pos)).mono ?_; rintro e w2 ⟨rfl, hb2⟩; have H2 := Lib.hid hb2; clear hb2))
    all_goals go_ret
    all_goals exact ⟨ret_eq (by first | rfl | simp), H1.out.trans (H2.out.mono H1.out.size)⟩
  · go_enter Tryd.func4, Tryd.ntmps4
    go_wp2
    go_ret
    exact ⟨ret_eq (by first | rfl | simp), Below.refl _ _⟩
set_option maxRecDepth 100000 in
theorem FnExactShort_lifted (os : Os) (started : os.Started) (H : Type) (enc : TypeId × Value → H) :
    ReturnsInHanded {} Tryd.checked os 4 .any (fun w args => (Rows.fnExactShortSpec.pre enc Tryd.prog Tryd.f4 [] false w args ∧ laidMetH Tryd.prog LL w) ∧ sizedMet enc Tryd.prog Tryd.f4 (OpenSpec.ofChange Rows.fnExactShortSpec) false w args) (Rows.fnExactShortSpec.post enc Tryd.prog Tryd.f4 false true false false) := by
  refine returnsInHanded_of_change_and (C := Tryd.checked) (X := fun w _ => laidMetH Tryd.prog LL w) (fun _ _ _ hh h => h.of_heap hh) own started (by kernel_rfl) Tryd.func4
    (ChangeSpec.witness_at (enc := enc) (C := Tryd.checked) (os := os) (X := fun w _ => laidMetH Tryd.prog LL w) false (laidW os) #[.string ⟨#[]⟩] 8 rfl (by kernel_rfl) (by kernel_rfl) (by kernel_rfl) (by kernel_rfl) (by kernel_rfl) (laidW_met os _)) ?_
  intro W base args ds gs before hval0 hW _ _ hL _
  have hval : ∀ (j : Nat) t v, Tryd.f4.params[j]? = some t → args[j]? = some v → Value.okWide Tryd.prog W .any base t v := hval0
  have hW' := hW
  obtain ⟨p, q, hA0, hV, rfl, hfz, hnd⟩ := hW
  have hA : DataW.TrodAll enc Tryd.prog W 0 (fun _ => true) true Tryd.f4.params.toList args.toList ds p := hA0
  rw [Tryd.params4] at hA hval
  obtain ⟨v0, vs0, d0, ds0, p0, q0, hargs, rfl, rfl, h0, r0⟩ := trodAll_cons hA
  obtain ⟨rfl, rfl, rfl⟩ := trodAll_nil r0
  obtain rfl : args = #[v0] := Array.ext' hargs
  obtain ⟨a0, rfl, rfl, rfl, w0⟩ := open_string Tryd.underlying9 (hval 0 9 v0 rfl rfl) h0
  obtain ⟨l0, rfl⟩ : ∃ l, a0 = bs l := ⟨_, bs_eta a0⟩
  refine (lShort_all l0 W (kk_of_laid hL) (len_le w0)).mono fun e W' ⟨he, hb⟩ => ?_
  subst he
  refine ⟨_, rfl, law_postV (tb := 4) laidOut (by kernel_rfl) rfl Tryd.underlying4 rfl gName gType gRead gRow ?_ hW' hb⟩
  intro ds g hl
  rw [Tryd.params4] at hl
  match ds, hl with
  | [_], _ => rfl
theorem FnExactShort_row : Rows.FnExactShortSaid :=
  OpenClaim.holds_of_wide 4 Tryd.f4 rfl rfl rfl rfl rfl rfl rfl ⟨rfl, rfl, rfl, rfl, rfl⟩ rfl rfl rfl rfl rfl (by kernel_rfl) Tryd.func4 (by kernel_rfl)
    (of_decide_eq_true (by kernel_rfl)) (by unfold Func.isWrapper; first | (rw [if_pos (by decide +kernel)]; kernel_rfl) | (rw [if_neg (by decide +kernel)]; exact ⟨rfl, rfl⟩))
    (fun os started H enc _ => FnExactShort_lifted os started H enc)
set_option maxRecDepth 100000 in
theorem FnExactShort_holds : Rows.FnExactShortCardSaid :=
  Claim7.holds_tied_plain_at .later [] [.data] true (true, "8f377b4529ddb00f0062f6252c1f7b706c2a9f0cfc2d507aa24e580916bab316") false
    FnExactShort_row (fun _ h => by cases h) (by kernel_rfl) (fun _ h => by cases h) fnExactShort_row_tie rfl ⟨rfl, rfl⟩ (by kernel_rfl) rfl
    (fun f fn hf hfn => by
      obtain rfl : 4 = f := Option.some.inj ((show Tryd.prog.funcNamed "loop.example/g00954/laws.FnExactShort" = some 4 by kernel_rfl).symm.trans hf)
      obtain rfl : fn = Tryd.f4 := (Option.some.inj (Tryd.func4.symm.trans hfn)).symm
      have hall : Tryd.f4.params.toList.all (fun t => !Tryd.prog.wantsStandIn t) = true := by kernel_rfl
      exact ⟨by kernel_rfl, fun j t ht => by
        have h1 := List.all_eq_true.1 hall t (List.mem_of_getElem? (by rw [Array.getElem?_toList]; exact ht))
        have h2 : Tryd.prog.wantsStandIn t = false := by simpa using h1
        exact h2⟩)
    (by kernel_rfl)
end Go.Proofs.YtmhbfeglnhangaaDoor
