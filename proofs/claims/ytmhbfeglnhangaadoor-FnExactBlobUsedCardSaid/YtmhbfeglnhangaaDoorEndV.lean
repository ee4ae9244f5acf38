/-
  From the contract of a law whose row names one package variable to the row's post. Conditions: the types are readable (closed checks).
-/
import Derived.Test.YtmhbfeglnhangaaDoorEnd
import Derived.ChangeVars
namespace Go.Proofs.YtmhbfeglnhangaaDoor
open Go.RowKit Go.ChangeShapes Go.WideShapes Go.ChangeAt

section
variable {H : Type} {enc : TypeId × Value → H} {P : Program}
theorem trodVars_stays1 (hl : laidOutB P = true) {W W' : World} (hb : Below W.heap.size W W') (sp : Nat → Bool) {n : String} {gs : List (DataW H)} {ps : List MemPlace} {g : Nat} {t : TypeId}
    (hg : P.globalNamed n = some g) (ht : (P.globals[g]?).map (·.type) = some t) (hr : P.readableRec t = true) (hrow : t < P.types.size)
    (h : DataW.TrodVars enc P W (fun _ => true) [n] gs ps) (hlt : ∀ x ∈ ps, x.block < W.heap.size) (hsp : ∀ x ∈ ps, sp x.block = true) : DataW.TrodVars enc P W' sp [n] gs ps := by
  obtain ⟨g', t', cs, fuel, d, p, rfl, h1, h2, h3, h4, rfl⟩ := trodVars_one h
  obtain rfl : g' = g := Option.some.inj (h1.symm.trans hg)
  obtain rfl : t' = t := Option.some.inj (h2.symm.trans ht)
  have h3' : W'.var? P n = some cs := by
    have h5 := h3
    simp only [World.var?, hg, Option.bind_some] at h5 ⊢
    have hlt' : g' < W.heap.size := by
      by_cases hx : g' < W.heap.size
      · exact hx
      · rw [Array.getElem?_eq_none (by omega)] at h5
        cases h5
    rw [hb.block g' hlt']
    exact h5
  refine trodVars_mk1 h1 h2 h3' (DataW.trod_stays (kids_book hl hr) (book_sized hr) (fun h => by cases h) ⟨hrow, book_self t'⟩ h4 ?_ ?_)
  · intro x hx
    exact hb.same (hlt x (List.mem_append_right _ hx))
  · intro x hx
    exact hsp x (List.mem_append_right _ hx)

theorem law_postV {f : Func} {s : ChangeSpec} {W W' : World} {args : Array Value} {ds gs : List (DataW H)} {before : List MemPlace} {tb tv : TypeId} {nm : String} {gv : Nat}
    (hl : laidOutB P = true) (hr : f.params.toList.all (fun t => P.readableRec t && decide (t < P.types.size)) = true) (hres : f.resultTypes = #[tb]) (htb : P.underlying tb = some .bool)
    (hv : s.vars = [nm]) (hgn : P.globalNamed nm = some gv) (hgt : (P.globals[gv]?).map (·.type) = some tv) (hrv : P.readableRec tv = true) (hrow : tv < P.types.size) (hs : ∀ (ds : List (DataW H)) (g : DataW H), ds.length = f.params.toList.length → s.fn H (ds ++ [g]) = { results := [.lit (.bool true)], args := ds, vars := [g] })
    (hW : DataW.Whole enc P f.params.toList s.vars false W args.toList ds gs before) (hb : Below W.heap.size W W') :
    s.post enc P f false true false false W args (.bool true) W' := by
  have hlt : ∀ p ∈ before, p.block < W.heap.size := fun p hp => hW.lt p hp
  have hold : ∀ p ∈ before, (fun b => decide (b < W.heap.size)) p.block = true := fun p hp => by simpa using hlt p hp
  have hW' := hW
  obtain ⟨pa, pv, hA, hV, hps, hz, _⟩ := hW
  rw [hv] at hV
  obtain ⟨_, _, _, _, g1, _, hgs, _⟩ := trodVars_one hV
  subst hgs
  have hpa : ∀ p ∈ pa, p ∈ before := fun p hp => by rw [hps]; exact List.mem_append_left _ hp
  have hpv : ∀ p ∈ pv, p ∈ before := fun p hp => by rw [hps]; exact List.mem_append_right _ hp
  have hlen : ds.length = f.params.toList.length := by
    have : ∀ (ts : List TypeId) (vs : List Value) (ds : List (DataW H)) (ps : List MemPlace), DataW.TrodAll enc P W 0 (fun _ => true) true ts vs ds ps → ds.length = ts.length := by
      intro ts
      induction ts with
      | nil => intro vs ds ps h; obtain ⟨_, rfl, _⟩ := trodAll_nil h; rfl
      | cons t ts ih =>
        intro vs ds ps h
        obtain ⟨v, vs', d, ds', p, q, rfl, rfl, rfl, _, hrest⟩ := trodAll_cons h
        simp [ih _ _ _ hrest]
    exact this _ _ _ _ hA
  have hfn := hs ds g1 hlen
  have hargs : ∀ sp : Nat → Bool, (∀ p ∈ before, sp p.block = true) → DataW.TrodAll enc P W' 0 sp true f.params.toList args.toList (s.fn H (ds ++ [g1])).args pa := fun sp hsp => by
    rw [hfn]
    exact trodAll_stays hl hb sp _ _ _ _ hr hA (fun p hp => hlt p (hpa p hp)) (fun p hp => hsp p (hpa p hp))
  have hresl : ∀ (b : Nat) (sp : Nat → Bool) (hd : Bool), DataW.TrodAll enc P W' b sp hd f.resultTypes.toList ((Value.bool true).resultList f.resultTypes.size) (s.fn H (ds ++ [g1])).results [] := by
    intro b sp hd
    rw [hfn, hres]
    exact trodAll_cons_mk (shut_bool htb _) trodAll_mk0
  have hvars : ∀ sp : Nat → Bool, (∀ p ∈ before, sp p.block = true) → DataW.TrodVars enc P W' sp s.vars (s.fn H (ds ++ [g1])).vars pv := fun sp hsp => by
    rw [hv, hfn]
    exact trodVars_stays1 hl hb sp hgn hgt hrv hrow hV (fun p hp => hlt p (hpv p hp)) (fun p hp => hsp p (hpv p hp))
  refine ⟨ds, [g1], before, [], pa, pv, hW', hresl _ _ _, hargs _ hold, hvars _ hold, World.keptBut_mono (fun p hp => by rw [hps] at hp; exact ⟨by rw [hps]; exact hp, by rcases List.mem_append.1 hp with h | h; exact Or.inr (Or.inl h); exact Or.inr (Or.inr h)⟩) (hb.frame (· ∈ before)), fun _ => ?_⟩
  refine ⟨?_, _, _, ([] ++ pa) ++ pv, ⟨[] ++ pa, pv, trodAll_append (hargs _ (fun _ _ => rfl)) (hresl _ _ _), hvars _ (fun _ _ => rfl), rfl, ?_, ?_⟩, ?_⟩
  · intro j t r hj hr'
    rw [hres] at hj hr'
    match j, hj, hr' with
    | 0, hj, hr' =>
      simp [Value.resultList] at hj hr'
      subst hj; subst hr'
      exact okWide_bool_mk htb _
  · intro b off hp
    have hin : MemPlace.cell b off ∈ before := by rw [hps]; simpa using hp
    rw [hb.frozen (hlt _ hin)]
    exact hz b off hin
  · intro ha; cases ha
  · intro p hp _
    rw [hps]
    simpa using hp
end
end Go.Proofs.YtmhbfeglnhangaaDoor
