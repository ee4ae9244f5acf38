/-
  A command read back from its text, by the scanner and by places: plain laws. Plain.
  Rows of Ids that rise: one is known by its members; joined rows, rows without what stands twice. Plain.
  The Ids that are reached: the least row that holds an Id's Deps and the Deps of its own. Plain.
  A message read back from its text, by the scanner and by places: plain laws. Plain.
  A command read: impl.ReadCmd. Condition: a bound on the size.
  A law for regions that draw their order, with operations that touch no memory (addresses of fields) taken first wherever they stand, then a head in one order, then a tail in one order. Conditions: those that the law's Bool checks ask.
  A command read by places: spec.ReadCmd. Condition: a bound on the size.
  A message read by places: plain laws. Plain.
  What slices.Compact leaves of a row of Ids, from its beginning on. Plain.
  slices.SortFunc laid at this program, in plain words (printed by the kit's tool). No condition.
  slices.SortFunc at rows of Ids, with compareIds. Conditions: the row is the call's own.
  slices.SortFunc at a row of Ids of the call's own. Conditions: as named.
  A row of Ids of the call's own, while slices.Compact goes over it; the built-in clear at a slice of Ids. Conditions: as named.
  slices.Compact at a row of Ids of the call's own. Conditions: a bound on the length.
  Rows of Ids joined: spec.l8Join. Conditions: bounds on the lengths.
  Rows of Ids joined: spec.JoinIds. Conditions: bounds on the lengths.
  Rows of Ids joined: impl.JoinIds. Conditions: bounds on the lengths.
-/
import Derived.Test.YtbdblfpepnoafaaParse
import Derived.Test.YtbdblfpepnoafaaShow
import Derived.Test.YtbdblfpepnoafaaIds
import Derived.Test.YtbdblfpepnoafaaShED
import Derived.Test.YtbdblfpepnoafaaRet
import Derived.Test.YtbdblfpepnoafaaEq
import Derived.Test.YtbdblfpepnoafaaFlat
import Derived.Test.YtbdblfpepnoafaaRegion
import Derived.Shelf.SlSortCmp.WholeK
import Derived.Ground.SlsfProg
import Derived.Test.YtbdblfpepnoafaaProg
import Derived.Test.YtbdblfpepnoafaaAttrs
import Derived.Test.YtbdblfpepnoafaaIdsB
import Derived.Test.YtbdblfpepnoafaaAttrsS
namespace Go.Proofs.Ytbdblfpepnoafaa
open Go.RowKit
theorem inB_tc {lo hi x : Int} (h : inB lo hi x = true) : lo ≤ x ∧ x ≤ hi := by simpa [inB] using h
theorem scanNum_eat (r : List UInt8) (b : Bool) : (scanNum r b).2.1.length ≤ r.length ∧ ((scanNum r b).2.2 = false → b = false ∧ (scanNum r b).2.1.length + 1 ≤ r.length) ∧ ((scanNum r b).2.2 = true → (scanNum r b).1 = 0) := by
  have hle := (readVarF_le r).2.1
  unfold scanNum
  split
  · exact ⟨Nat.le_refl _, (fun h => by cases h), fun _ => rfl⟩
  · rename_i h
    simp only [not_or] at h
    refine ⟨by simp, fun _ => ⟨by simpa using h.1, ?_⟩, fun h => by cases h⟩
    simp only [List.length_drop]
    have := h.2
    omega
theorem scanCut_eat (r : List UInt8) (b : Bool) (n : Int) : (scanCut r b n).1.length + (scanCut r b n).2.1.length ≤ r.length ∧ ((scanCut r b n).2.2 = false → b = false) := by
  unfold scanCut
  split
  · exact ⟨by simp, fun h => by cases h⟩
  · rename_i h
    simp only [not_or] at h
    exact ⟨by simp only [List.length_take, List.length_drop]; omega, fun _ => by simpa using h.1⟩
theorem scanText_eat (r : List UInt8) (b : Bool) : (scanText r b).1.length + (scanText r b).2.1.length ≤ r.length ∧ ((scanText r b).2.2 = false → b = false ∧ (scanText r b).1.length + (scanText r b).2.1.length + 1 ≤ r.length) := by
  have h1 := scanNum_eat r b
  have h2 := scanCut_eat (scanNum r b).2.1 (scanNum r b).2.2 ((scanNum r b).1 : Int)
  unfold scanText
  refine ⟨by omega, fun h => ?_⟩
  have h3 := h1.2.1 (h2.2 h)
  exact ⟨h3.1, by omega⟩
def cutsL : Nat → List UInt8 → Bool → List (List UInt8) × List UInt8 × Bool
  | 0, r, b => ([], r, b)
  | n + 1, r, b => ((scanCut r b 8).1 :: (cutsL n (scanCut r b 8).2.1 (scanCut r b 8).2.2).1, (cutsL n (scanCut r b 8).2.1 (scanCut r b 8).2.2).2)
theorem cutsL_eat : ∀ (n : Nat) (r : List UInt8) (b : Bool), (cutsL n r b).1.flatten.length + (cutsL n r b).2.1.length ≤ r.length ∧ (cutsL n r b).1.length = n
  | 0, r, b => ⟨by simp [cutsL], rfl⟩
  | n + 1, r, b => by
    have h1 := scanCut_eat r b 8
    have h2 := cutsL_eat n (scanCut r b 8).2.1 (scanCut r b 8).2.2
    simp only [cutsL, List.flatten_cons, List.length_append, List.length_cons]
    omega
theorem cutsL_flat : ∀ (xs : List (List UInt8)), (∀ x ∈ xs, x.length = 8) → cutsL xs.length xs.flatten false = (xs, [], false)
  | [], _ => rfl
  | x :: xs, h => by
    have h8 := h x (by simp)
    have h1 := scanCut_take x xs.flatten 8 (by omega)
    have ih := cutsL_flat xs (fun y hy => h y (List.mem_cons_of_mem _ hy))
    simp only [List.length_cons, List.flatten_cons, cutsL, h1, ih]

/-- what a right command's parts are bounded by -/
theorem cmdOk_bounds {c : CmdD} (h : cmdOkB c = true) : (0 ≤ c.kind ∧ c.kind ≤ 7) ∧ (0 ≤ c.client ∧ c.client ≤ 9) ∧ (0 ≤ c.no ∧ c.no ≤ 1000) ∧ (0 ≤ c.n ∧ c.n ≤ 9) ∧ c.set.length ≤ 8 ∧ c.name.length ≤ 8 ∧ c.tag.length ≤ 8 ∧ c.chunks.length ≤ 4 ∧ ∀ x ∈ c.chunks, x.length = 8 := by
  have wd : ∀ (s : List UInt8) (b : Bool), wordIfB s b = true → s.length ≤ 8 := fun s b hh => by
    unfold wordIfB at hh
    split at hh
    · simp only [wordB, Bool.and_eq_true] at hh
      have := inB_tc hh.1
      omega
    · simp only [decide_eq_true_eq] at hh
      rw [hh]; simp
  unfold cmdOkB at h
  split at h
  · simp only [cmdSame, decide_eq_true_eq] at h
    subst h
    simp [zeroCmd]
  · rename_i hk
    simp only [Bool.and_eq_true, Bool.or_eq_true, beq_iff_eq] at h
    obtain ⟨h1, h2, h3, h4, h5, h6, h7, h8⟩ := h
    have h1 := inB_tc h1
    have h2 := inB_tc h2
    have h3 := inB_tc h3
    refine ⟨by omega, by omega, by omega, ?_, wd _ _ h4, wd _ _ h5, wd _ _ h6, ?_⟩
    · rcases h7 with h7 | ⟨_, h7⟩
      · omega
      · exact inB_tc h7
    · split at h8
      · simp only [Bool.and_eq_true] at h8
        have h9 := inB_tc h8.1
        exact ⟨by omega, fun x hx => by have := List.all_eq_true.1 h8.2 x hx; simpa using this⟩
      · simp only [beq_iff_eq] at h8
        have h9 : c.chunks = [] := List.eq_nil_of_length_eq_zero (by omega)
        rw [h9]; simp
theorem showH_pos (c : CmdD) (h : cmdOkB c = true) : showH c ≠ [] := by
  obtain ⟨h1, _⟩ := cmdOk_bounds h
  have := varF_pos (n := c.kind) (by omega)
  intro e
  rw [showH] at e
  have := congrArg List.length e
  simp only [List.length_append, List.length_nil] at this
  omega
def parseC (s : List UInt8) : CmdD × Bool :=
  let k := scanNum s false
  let cl := scanNum k.2.1 k.2.2
  let no := scanNum cl.2.1 cl.2.2
  let n := scanNum no.2.1 no.2.2
  let st := scanText n.2.1 n.2.2
  let nm := scanText st.2.1 st.2.2
  let tg := scanText nm.2.1 nm.2.2
  let m := scanNum tg.2.1 tg.2.2
  let ch := if m.1 ≤ 4 then cutsL m.1 m.2.1 m.2.2 else ([], m.2.1, m.2.2)
  (⟨(k.1 : Int), (cl.1 : Int), (no.1 : Int), st.1, nm.1, tg.1, (n.1 : Int), ch.1⟩, ch.2.2)
theorem parseC_show {c : CmdD} (h : cmdOkB c = true) : parseC (showCmdL c) = (c, false) := by
  obtain ⟨h1, h2, h3, h4, h5, h6, h7, h8, h9⟩ := cmdOk_bounds h
  have hs : showCmdL c = varF c.kind ++ (varF c.client ++ (varF c.no ++ (varF c.n ++ (sizedL c.set ++ (sizedL c.name ++ (sizedL c.tag ++ (varF (c.chunks.length : Int) ++ c.chunks.flatten))))))) := by
    rw [showCmdL, if_pos h, showH]
    simp only [List.append_assoc]
  rw [hs]
  unfold parseC
  simp only [scanNum_varF (show 0 ≤ c.kind ∧ c.kind ≤ 562949953421311 by omega), scanNum_varF (show 0 ≤ c.client ∧ c.client ≤ 562949953421311 by omega), scanNum_varF (show 0 ≤ c.no ∧ c.no ≤ 562949953421311 by omega), scanNum_varF (show 0 ≤ c.n ∧ c.n ≤ 562949953421311 by omega),
    scanText_sized c.set _ (by omega), scanText_sized c.name _ (by omega), scanText_sized c.tag _ (by omega), scanNum_varF (show 0 ≤ (c.chunks.length : Int) ∧ (c.chunks.length : Int) ≤ 562949953421311 by omega), Int.toNat_natCast, h8, if_true, cutsL_flat c.chunks h9]
  rw [Int.toNat_of_nonneg h1.1, Int.toNat_of_nonneg h2.1, Int.toNat_of_nonneg h3.1, Int.toNat_of_nonneg h4.1]
theorem wt_cmd (c : CmdD) : c.c.wt = c.set.length + (c.name.length + (c.tag.length + (c.chunks.length + c.chunks.flatten.length + 0))) := by rw [flat_len]; rfl
theorem parseC_wt (s : List UInt8) : (parseC s).1.c.wt ≤ s.length := by
  rw [wt_cmd]
  unfold parseC
  simp only []
  have e1 := scanNum_eat s false
  generalize scanNum s false = k at *
  have e2 := scanNum_eat k.2.1 k.2.2
  generalize scanNum k.2.1 k.2.2 = cl at *
  have e3 := scanNum_eat cl.2.1 cl.2.2
  generalize scanNum cl.2.1 cl.2.2 = no at *
  have e4 := scanNum_eat no.2.1 no.2.2
  generalize scanNum no.2.1 no.2.2 = n at *
  have e5 := scanText_eat n.2.1 n.2.2
  generalize scanText n.2.1 n.2.2 = st at *
  have e6 := scanText_eat st.2.1 st.2.2
  generalize scanText st.2.1 st.2.2 = nm at *
  have e7 := scanText_eat nm.2.1 nm.2.2
  generalize scanText nm.2.1 nm.2.2 = tg at *
  have e8 := scanNum_eat tg.2.1 tg.2.2
  generalize scanNum tg.2.1 tg.2.2 = m at *
  split
  · rename_i hm
    have e9 := cutsL_eat m.1 m.2.1 m.2.2
    generalize cutsL m.1 m.2.1 m.2.2 = ch at *
    by_cases hb : m.2.2 = true
    · have := e8.2.2 hb
      omega
    · have hb : m.2.2 = false := by simpa using hb
      obtain ⟨g7, l8⟩ := e8.2.1 hb
      obtain ⟨g6, l7⟩ := e7.2 g7
      obtain ⟨g5, l6⟩ := e6.2 g6
      obtain ⟨g4, l5⟩ := e5.2 g5
      obtain ⟨g3, l4⟩ := e4.2.1 g4
      obtain ⟨g2, l3⟩ := e3.2.1 g3
      obtain ⟨g1, l2⟩ := e2.2.1 g2
      obtain ⟨_, l1⟩ := e1.2.1 g1
      omega
  · simp only [List.length_nil, List.flatten_nil]
    omega
/-- the command of which s is the text, if there is one -/
def fReadCmd (s : List UInt8) : CmdD × Bool := if s ≠ [] ∧ showCmdL (parseC s).1 = s then ((parseC s).1, true) else (zeroCmd, false)
theorem show_ne {c : CmdD} {s : List UInt8} (h : showCmdL c = s) (hs : s ≠ []) : cmdOkB c = true := by
  cases hc : cmdOkB c with
  | true => rfl
  | false => rw [showCmdL, hc] at h; exact absurd h.symm hs
theorem readCmd_yes {c : CmdD} {s : List UInt8} (h : showCmdL c = s) (hs : s ≠ []) : fReadCmd s = (c, true) := by
  have hb := parseC_show (show_ne h hs)
  rw [h] at hb
  unfold fReadCmd
  rw [hb, if_pos ⟨hs, h⟩]
theorem readCmd_no {s : List UInt8} (h : ∀ c, cmdOkB c = true → showCmdL c ≠ s) : fReadCmd s = (zeroCmd, false) := by
  unfold fReadCmd
  rw [if_neg]
  rintro ⟨h1, h2⟩
  exact h _ (show_ne h2 h1) h2
/-- impl's last test -/
theorem readCmd_i1 {s : List UInt8} (h : (parseC s).2 = true ∨ s = [] ∨ showCmdL (parseC s).1 ≠ s) : fReadCmd s = (zeroCmd, false) := by
  refine readCmd_no fun c hc hs => ?_
  have hb := parseC_show hc
  rw [hs] at hb
  rcases h with h | h | h
  · rw [hb] at h; cases h
  · subst h
    rw [showCmdL, if_pos hc] at hs
    have := showH_pos c hc
    exact this (List.append_eq_nil_iff.1 hs).1
  · rw [hb] at h; exact h hs
theorem readCmd_i2 {s : List UInt8} (h2 : s ≠ []) (h3 : showCmdL (parseC s).1 = s) : fReadCmd s = ((parseC s).1, true) := readCmd_yes h3 h2
/-! by places -/
def chunksAt (s : List UInt8) (a : Nat) : Nat → List (List UInt8)
  | 0 => []
  | n + 1 => chunksAt s a n ++ [(s.drop (a + 8 * n)).take 8]
theorem chunksAt_length (s : List UInt8) (a : Nat) : ∀ n, (chunksAt s a n).length = n
  | 0 => rfl
  | n + 1 => by rw [chunksAt, List.length_append, chunksAt_length s a n]; rfl
theorem flat8 : ∀ (l : List (List UInt8)), (∀ x ∈ l, x.length = 8) → l.flatten.length = 8 * l.length
  | [], _ => rfl
  | y :: l, hh => by rw [List.flatten_cons, List.length_append, flat8 l (fun z hz => hh z (List.mem_cons_of_mem _ hz)), hh y (by simp), List.length_cons]; omega
theorem chunksAt_take {s p : List UInt8} {xs : List (List UInt8)} (hs : s = p ++ xs.flatten) (h8 : ∀ x ∈ xs, x.length = 8) : ∀ n, n ≤ xs.length → chunksAt s p.length n = xs.take n
  | 0, _ => rfl
  | n + 1, h => by
    have hn : n < xs.length := h
    have hd : s.drop (p.length + 8 * n) = xs[n] ++ (xs.drop (n + 1)).flatten := by
      rw [hs, ← List.drop_drop, List.drop_left' rfl]
      conv => lhs; rw [← List.take_append_drop n xs, List.flatten_append]
      rw [List.drop_left' (by rw [flat8 _ (fun x hx => h8 x (List.mem_of_mem_take hx)), List.length_take, Nat.min_eq_left (by omega)]), List.drop_eq_getElem_cons hn, List.flatten_cons]
    rw [chunksAt, chunksAt_take hs h8 n (by omega), hd, List.take_left' (h8 _ (List.getElem_mem hn)), List.take_succ_eq_append_getElem hn]
theorem chunksAt_flat {s p : List UInt8} {xs : List (List UInt8)} (hs : s = p ++ xs.flatten) (h8 : ∀ x ∈ xs, x.length = 8) : chunksAt s p.length xs.length = xs := by
  rw [chunksAt_take hs h8 _ (Nat.le_refl _), List.take_length]
def placeC (s : List UInt8) : CmdD :=
  let l := l4V s 4 0
  let a := l4T s l.2
  let b := l4T s a.2
  let t := l4T s b.2
  let n := l4V s 1 t.2
  ⟨((l.1.getD 0 0 : Nat) : Int), ((l.1.getD 1 0 : Nat) : Int), ((l.1.getD 2 0 : Nat) : Int), a.1, b.1, t.1, ((l.1.getD 3 0 : Nat) : Int), chunksAt s n.2.toNat (n.1.getD 0 0)⟩
theorem placeC_show {c : CmdD} (h : cmdOkB c = true) : 0 ≤ (l4V (showCmdL c) 4 0).2 ∧ (∃ m, l4V (showCmdL c) 1 (l4T (showCmdL c) (l4T (showCmdL c) (l4T (showCmdL c) (l4V (showCmdL c) 4 0).2).2).2).2 = ([c.chunks.length], m) ∧ 0 ≤ m ∧ ((showCmdL c).length : Int) = m + 8 * c.chunks.length) ∧ placeC (showCmdL c) = c := by
  obtain ⟨h1, h2, h3, h4, h5, h6, h7, h8, h9⟩ := cmdOk_bounds h
  obtain ⟨s, hs⟩ : ∃ s, s = showCmdL c := ⟨_, rfl⟩
  rw [← hs]
  rw [showCmdL, if_pos h, showH] at hs
  have b1 : 0 ≤ c.kind ∧ c.kind ≤ 562949953421311 := by omega
  have b2 : 0 ≤ c.client ∧ c.client ≤ 562949953421311 := by omega
  have b3 : 0 ≤ c.no ∧ c.no ≤ 562949953421311 := by omega
  have b4 : 0 ≤ c.n ∧ c.n ≤ 562949953421311 := by omega
  have b8 : 0 ≤ (c.chunks.length : Int) ∧ (c.chunks.length : Int) ≤ 562949953421311 := by omega
  have s1 := l4V_step [] (varF c.client ++ (varF c.no ++ (varF c.n ++ (sizedL c.set ++ (sizedL c.name ++ (sizedL c.tag ++ (varF (c.chunks.length : Int) ++ c.chunks.flatten))))))) c.kind 3 b1
  have s2 := l4V_step (varF c.kind) (varF c.no ++ (varF c.n ++ (sizedL c.set ++ (sizedL c.name ++ (sizedL c.tag ++ (varF (c.chunks.length : Int) ++ c.chunks.flatten)))))) c.client 2 b2
  have s3 := l4V_step (varF c.kind ++ varF c.client) (varF c.n ++ (sizedL c.set ++ (sizedL c.name ++ (sizedL c.tag ++ (varF (c.chunks.length : Int) ++ c.chunks.flatten))))) c.no 1 b3
  have s4 := l4V_one (varF c.kind ++ varF c.client ++ varF c.no) (sizedL c.set ++ (sizedL c.name ++ (sizedL c.tag ++ (varF (c.chunks.length : Int) ++ c.chunks.flatten)))) c.n b4
  have t1 := l4T_sized (varF c.kind ++ varF c.client ++ varF c.no ++ varF c.n) c.set (sizedL c.name ++ (sizedL c.tag ++ (varF (c.chunks.length : Int) ++ c.chunks.flatten))) (by omega)
  have t2 := l4T_sized (varF c.kind ++ varF c.client ++ varF c.no ++ varF c.n ++ sizedL c.set) c.name (sizedL c.tag ++ (varF (c.chunks.length : Int) ++ c.chunks.flatten)) (by omega)
  have t3 := l4T_sized (varF c.kind ++ varF c.client ++ varF c.no ++ varF c.n ++ sizedL c.set ++ sizedL c.name) c.tag (varF (c.chunks.length : Int) ++ c.chunks.flatten) (by omega)
  have s5 := l4V_one (varF c.kind ++ varF c.client ++ varF c.no ++ varF c.n ++ sizedL c.set ++ sizedL c.name ++ sizedL c.tag) c.chunks.flatten (c.chunks.length : Int) b8
  have hch := chunksAt_flat (s := s) (p := varF c.kind ++ varF c.client ++ varF c.no ++ varF c.n ++ sizedL c.set ++ sizedL c.name ++ sizedL c.tag ++ varF (c.chunks.length : Int)) (xs := c.chunks) (by rw [hs]; simp only [List.append_assoc]) h9
  have hlen : s.length = (varF c.kind ++ varF c.client ++ varF c.no ++ varF c.n ++ sizedL c.set ++ sizedL c.name ++ sizedL c.tag ++ varF (c.chunks.length : Int)).length + 8 * c.chunks.length := by
    rw [hs, ← flat8 c.chunks h9]
    simp only [List.length_append]
    omega
  simp only [List.append_assoc] at hs
  simp only [List.append_assoc, List.nil_append] at s1 s2 s3 s4 t1 t2 t3 s5 hch hlen
  simp only [← hs] at s1 s2 s3 s4 t1 t2 t3 s5
  rw [show ((([] : List UInt8).length : Nat) : Int) = 0 from rfl] at s1
  rw [s4] at s3
  rw [s3] at s2
  rw [s2] at s1
  simp only [] at s1
  unfold placeC
  simp only [s1, t1, t2, t3, s5]
  refine ⟨by omega, ⟨_, by rw [Int.toNat_natCast], by omega, by omega⟩, ?_⟩
  simp only [List.getD_cons_zero, List.getD_cons_succ, Int.toNat_natCast, hch]
  rw [Int.toNat_of_nonneg h1.1, Int.toNat_of_nonneg h2.1, Int.toNat_of_nonneg h3.1, Int.toNat_of_nonneg h4.1]
/-- every way out of the reference but the last one -/
theorem readCmd_s1 {s : List UInt8} (h : (l4V s 4 0).2 < 0) : fReadCmd s = (zeroCmd, false) := readCmd_no fun c hc hs => by
  have := (placeC_show hc).1
  rw [hs] at this
  omega
theorem readCmd_s2 {s : List UInt8} {n : Nat} {m : Int} (hv : l4V s 1 (l4T s (l4T s (l4T s (l4V s 4 0).2).2).2).2 = ([n], m)) (h : 4 < n ∨ ¬ (s.length : Int) = m + 8 * n) : fReadCmd s = (zeroCmd, false) := readCmd_no fun c hc hs => by
  obtain ⟨_, ⟨m', he, _, hl⟩, _⟩ := placeC_show hc
  have h8 := (cmdOk_bounds hc).2.2.2.2.2.2.2.1
  rw [hs, hv] at he
  rw [hs] at hl
  injection he with he1 he2
  injection he1 with he1
  subst he1 he2
  rcases h with h | h
  · omega
  · exact h hl
theorem readCmd_s3 {s : List UInt8} (hv : (l4V s 1 (l4T s (l4T s (l4T s (l4V s 4 0).2).2).2).2).2 < 0) : fReadCmd s = (zeroCmd, false) := readCmd_no fun c hc hs => by
  obtain ⟨_, ⟨m', he, hm, hl⟩, _⟩ := placeC_show hc
  rw [hs] at he
  rw [he] at hv
  simp only [] at hv
  omega
theorem readCmd_s4 {s : List UInt8} (h : showCmdL (placeC s) ≠ s) : fReadCmd s = (zeroCmd, false) := readCmd_no fun c hc hs => by
  obtain ⟨_, _, hp⟩ := placeC_show hc
  rw [hs] at hp
  rw [hp] at h
  exact h hs
theorem readCmd_s5 {s : List UInt8} (hs : s ≠ []) (h : showCmdL (placeC s) = s) : fReadCmd s = (placeC s, true) := readCmd_yes h hs

end Go.Proofs.Ytbdblfpepnoafaa
namespace Go.Proofs.Ytbdblfpepnoafaa
open Go.RowKit

theorem idLt_iff {a b : IdD} : idLt a b = true ↔ a.rep < b.rep ∨ a.rep = b.rep ∧ a.slot < b.slot := by simp [idLt]
theorem idLt_iff' {a b : IdD} : idLt a b = false ↔ ¬ (a.rep < b.rep ∨ a.rep = b.rep ∧ a.slot < b.slot) := by simp only [idLt, decide_eq_false_iff_not]
theorem idLt_irrefl (a : IdD) : idLt a a = false := idLt_iff'.2 (by omega)
theorem idLt_trans {a b c : IdD} (h : idLt a b = true) (k : idLt b c = true) : idLt a c = true := by
  rw [idLt_iff] at *; omega
theorem idLt_ntrans {a b c : IdD} (h : idLt a b = false) (k : idLt b c = false) : idLt a c = false := by
  rw [idLt_iff'] at *; omega
theorem idLt_asymm {a b : IdD} (h : idLt a b = true) : idLt b a = false := by
  rw [idLt_iff] at h; rw [idLt_iff']; omega
theorem idD_ext {a b : IdD} (h1 : a.rep = b.rep) (h2 : a.slot = b.slot) : a = b := by
  obtain ⟨ar, as'⟩ := a
  obtain ⟨br, bs'⟩ := b
  simp only at h1 h2
  subst h1 h2
  rfl
theorem idLt_eq {a b : IdD} (h : idLt a b = false) (k : idLt b a = false) : a = b := by
  rw [idLt_iff'] at *
  exact idD_ext (by omega) (by omega)
def Asc (xs : List IdD) : Prop := xs.Pairwise fun a b => idLt a b = true
theorem Asc.nil : Asc [] := List.Pairwise.nil
theorem asc_cons {x : IdD} {xs : List IdD} : Asc (x :: xs) ↔ (∀ y ∈ xs, idLt x y = true) ∧ Asc xs := List.pairwise_cons
theorem asc_ext : ∀ {xs ys : List IdD}, Asc xs → Asc ys → (∀ x, x ∈ xs ↔ x ∈ ys) → xs = ys
  | [], [], _, _, _ => rfl
  | [], y :: ys, _, _, h => absurd ((h y).2 (by simp)) (by simp)
  | x :: xs, [], _, _, h => absurd ((h x).1 (by simp)) (by simp)
  | x :: xs, y :: ys, hx, hy, h => by
    obtain ⟨hx1, hx2⟩ := asc_cons.1 hx
    obtain ⟨hy1, hy2⟩ := asc_cons.1 hy
    have he : x = y := by
      rcases List.mem_cons.1 ((h x).1 (by simp)) with e | e
      · exact e
      · rcases List.mem_cons.1 ((h y).2 (by simp)) with e2 | e2
        · exact e2.symm
        · have h1 := hy1 x e
          have h2 := hx1 y e2
          rw [idLt_asymm h1] at h2; cases h2
    subst he
    congr 1
    refine asc_ext hx2 hy2 fun z => ⟨fun hz => ?_, fun hz => ?_⟩
    · rcases List.mem_cons.1 ((h z).1 (List.mem_cons_of_mem _ hz)) with e | e
      · subst e
        have := hx1 z hz
        rw [idLt_irrefl] at this; cases this
      · exact e
    · rcases List.mem_cons.1 ((h z).2 (List.mem_cons_of_mem _ hz)) with e | e
      · subst e
        have := hy1 z hz
        rw [idLt_irrefl] at this; cases this
      · exact e
theorem asc_nodup {xs : List IdD} (h : Asc xs) : xs.Nodup := h.imp fun {a b} hab e => by subst e; rw [idLt_irrefl] at hab; cases hab
theorem ids_good {xs : List IdD} (h : idsOkB xs = true) : idsGood xs xs.length := by simpa [idsOkB] using h
theorem ids_asc {xs : List IdD} (h : idsOkB xs = true) : Asc xs := by
  have hg := ids_good h
  refine List.pairwise_iff_getElem.2 fun i j hi hj hij => ?_
  induction j with
  | zero => omega
  | succ j ih =>
    obtain ⟨x, hx, _, hl⟩ := hg (j + 1) hj
    have hjj : xs[j]? = some xs[j] := List.getElem?_eq_getElem (by omega)
    have h1 := hl xs[j] (by omega) hjj
    rw [List.getElem?_eq_getElem hj] at hx
    injection hx with hx
    subst hx
    rcases Nat.lt_or_ge i j with h2 | h2
    · exact idLt_trans (ih (by omega) h2) h1
    · have : i = j := by omega
      subst this
      exact h1
theorem ids_ok {xs : List IdD} (h : idsOkB xs = true) : ∀ x ∈ xs, idOkB x = true := fun x hx => by
  obtain ⟨i, hi, rfl⟩ := List.getElem_of_mem hx
  obtain ⟨y, hy, h1, _⟩ := ids_good h i hi
  rw [List.getElem?_eq_getElem hi] at hy
  injection hy with hy
  subst hy
  exact h1
theorem ids_of {xs : List IdD} (h1 : Asc xs) (h2 : ∀ x ∈ xs, idOkB x = true) : idsOkB xs = true := by
  refine idsOkB_yes fun i hi => ⟨xs[i], List.getElem?_eq_getElem hi, h2 _ (List.getElem_mem hi), fun y h0 hy => ?_⟩
  rw [List.getElem?_eq_getElem (by omega)] at hy
  injection hy with hy
  subst hy
  exact List.pairwise_iff_getElem.1 h1 (i - 1) i (by omega) hi (by omega)
/-- rows that rise, joined -/
def joinF : List IdD → List IdD → List IdD
  | [], b => b
  | x :: a, [] => x :: a
  | x :: a, y :: b => if idLt x y = true then x :: joinF a (y :: b) else if x = y then y :: joinF a b else y :: joinF (x :: a) b
termination_by a b => a.length + b.length
theorem joinF_nil (b : List IdD) : joinF [] b = b := by rw [joinF]
theorem joinF_nil2 (a : List IdD) : joinF a [] = a := by cases a <;> rw [joinF]
theorem joinF_lt {x y : IdD} {a b : List IdD} (h : idLt x y = true) : joinF (x :: a) (y :: b) = x :: joinF a (y :: b) := by rw [joinF, if_pos h]
theorem joinF_eq {x : IdD} {a b : List IdD} : joinF (x :: a) (x :: b) = x :: joinF a b := by rw [joinF, if_neg (by simp [idLt_irrefl]), if_pos rfl]
theorem joinF_gt {x y : IdD} {a b : List IdD} (h : idLt x y = false) (h2 : ¬ x = y) : joinF (x :: a) (y :: b) = y :: joinF (x :: a) b := by rw [joinF, if_neg (by simp [h]), if_neg h2]
theorem mem_joinF {z : IdD} : ∀ {a b : List IdD}, z ∈ joinF a b ↔ z ∈ a ∨ z ∈ b
  | [], b => by simp [joinF_nil]
  | x :: a, [] => by simp [joinF_nil2]
  | x :: a, y :: b => by
    by_cases h : idLt x y = true
    · rw [joinF_lt h, List.mem_cons, mem_joinF (a := a) (b := y :: b), List.mem_cons (b := x), or_assoc]
    · have h : idLt x y = false := by simpa using h
      by_cases h2 : x = y
      · subst h2
        rw [joinF_eq, List.mem_cons, mem_joinF (a := a) (b := b), List.mem_cons, List.mem_cons]
        exact ⟨fun h => h.elim (fun h => .inl (.inl h)) (fun h => h.elim (fun h => .inl (.inr h)) (fun h => .inr (.inr h))), fun h => h.elim (fun h => h.elim .inl (fun h => .inr (.inl h))) (fun h => h.elim .inl (fun h => .inr (.inr h)))⟩
      · rw [joinF_gt h h2, List.mem_cons, mem_joinF (a := x :: a) (b := b), List.mem_cons (b := y)]
        exact ⟨fun h => h.elim (fun h => .inr (.inl h)) (fun h => h.elim .inl (fun h => .inr (.inr h))), fun h => h.elim (fun h => .inr (.inl h)) (fun h => h.elim .inl (fun h => .inr (.inr h)))⟩
termination_by a b => a.length + b.length
theorem asc_joinF : ∀ {a b : List IdD}, Asc a → Asc b → Asc (joinF a b)
  | [], b, _, hb => by rw [joinF_nil]; exact hb
  | x :: a, [], ha, _ => by rw [joinF_nil2]; exact ha
  | x :: a, y :: b, ha, hb => by
    obtain ⟨ha1, ha2⟩ := asc_cons.1 ha
    obtain ⟨hb1, hb2⟩ := asc_cons.1 hb
    by_cases h : idLt x y = true
    · rw [joinF_lt h]
      refine asc_cons.2 ⟨fun z hz => ?_, asc_joinF ha2 hb⟩
      rcases mem_joinF.1 hz with hz | hz
      · exact ha1 z hz
      · rcases List.mem_cons.1 hz with rfl | hz
        · exact h
        · exact idLt_trans h (hb1 z hz)
    · have h : idLt x y = false := by simpa using h
      by_cases h2 : x = y
      · subst h2
        rw [joinF_eq]
        refine asc_cons.2 ⟨fun z hz => ?_, asc_joinF ha2 hb2⟩
        rcases mem_joinF.1 hz with hz | hz
        · exact ha1 z hz
        · exact hb1 z hz
      · rw [joinF_gt h h2]
        have hyx : idLt y x = true := by
          cases hh : idLt y x with
          | true => rfl
          | false => exact absurd (idLt_eq h hh) h2
        refine asc_cons.2 ⟨fun z hz => ?_, asc_joinF ha hb2⟩
        rcases mem_joinF.1 hz with hz | hz
        · rcases List.mem_cons.1 hz with rfl | hz
          · exact hyx
          · exact idLt_trans hyx (ha1 z hz)
        · exact hb1 z hz
termination_by a b => a.length + b.length
theorem joinF_len : ∀ (a b : List IdD), (joinF a b).length ≤ a.length + b.length
  | [], b => by rw [joinF_nil]; simp
  | x :: a, [] => by rw [joinF_nil2]; simp
  | x :: a, y :: b => by
    by_cases h : idLt x y = true
    · have := joinF_len a (y :: b)
      rw [joinF_lt h]; simp only [List.length_cons] at *; omega
    · have h : idLt x y = false := by simpa using h
      by_cases h2 : x = y
      · subst h2
        have := joinF_len a b
        rw [joinF_eq]; simp only [List.length_cons] at *; omega
      · have := joinF_len (x :: a) b
        rw [joinF_gt h h2]; simp only [List.length_cons] at *; omega
termination_by a b => a.length + b.length
/-- of what stands twice side by side, one -/
def compactF : List IdD → List IdD
  | [] => []
  | [a] => [a]
  | a :: b :: r => if a = b then compactF (b :: r) else a :: compactF (b :: r)
theorem mem_compactF {z : IdD} : ∀ {xs : List IdD}, z ∈ compactF xs ↔ z ∈ xs
  | [] => by rw [compactF]
  | [a] => by rw [compactF]
  | a :: b :: r => by
    rw [compactF]
    split
    · rename_i h
      subst h
      rw [mem_compactF (xs := a :: r)]
      simp
    · rw [List.mem_cons, mem_compactF (xs := b :: r), List.mem_cons (b := a)]
def Wk (xs : List IdD) : Prop := xs.Pairwise fun a b => idLt b a = false
theorem asc_compactF : ∀ {xs : List IdD}, Wk xs → Asc (compactF xs)
  | [], _ => by rw [compactF]; exact Asc.nil
  | [a], _ => by rw [compactF]; exact asc_cons.2 ⟨by simp, Asc.nil⟩
  | a :: b :: r, h => by
    obtain ⟨h1, h2⟩ := List.pairwise_cons.1 h
    rw [compactF]
    split
    · exact asc_compactF h2
    · rename_i hne
      refine asc_cons.2 ⟨fun z hz => ?_, asc_compactF h2⟩
      have hz' := mem_compactF.1 hz
      have hza := h1 z hz'
      cases hh : idLt a z with
      | true => rfl
      | false =>
        exfalso
        have e := idLt_eq hh hza
        subst e
        rcases List.mem_cons.1 hz' with e | hz2
        · exact hne e
        · have h3 := (List.pairwise_cons.1 h2).1 a hz2
          exact hne (idLt_eq (h1 b (by simp) |> fun _ => h3) (h1 b (by simp)))
theorem sorted_join {a b xs : List IdD} (ha : Asc a) (hb : Asc b) (hp : xs.Perm (a ++ b)) (hs : Wk xs) : compactF xs = joinF a b :=
  asc_ext (asc_compactF hs) (asc_joinF ha hb) fun x => by rw [mem_compactF, hp.mem_iff, List.mem_append, mem_joinF]
theorem sorted_asc {xs ys : List IdD} (hn : ys.Nodup) (hp : xs.Perm ys) (hs : Wk xs) : Asc xs := by
  have hnd : xs.Nodup := hp.nodup_iff.2 hn
  have := List.Pairwise.and hs hnd
  refine this.imp fun {a b} hab => ?_
  cases hh : idLt a b with
  | true => rfl
  | false => exact absurd (idLt_eq hh hab.1) hab.2
noncomputable def fJoinIds (a b : List IdD) : List IdD := if idsOkB a = true ∧ idsOkB b = true then joinF a b else []

end Go.Proofs.Ytbdblfpepnoafaa
namespace Go.Proofs.Ytbdblfpepnoafaa
open Go.RowKit

/-- x is reached from id -/
def Rch (D : IdD → List IdD) (id x : IdD) : Prop := ∀ S : IdD → Prop, (∀ y ∈ D id, S y) → (∀ y, S y → ∀ z ∈ D y, S z) → S x
theorem Rch.base {D : IdD → List IdD} {id x : IdD} (h : x ∈ D id) : Rch D id x := fun _ h1 _ => h1 x h
theorem Rch.step {D : IdD → List IdD} {id y x : IdD} (h : Rch D id y) (k : x ∈ D y) : Rch D id x := fun S h1 h2 => h2 y (h S h1 h2) x k
/-- a row that holds the Deps of id and of its own, and nothing that is not reached -/
theorem rch_iff {D : IdD → List IdD} {id : IdD} {out : List IdD} (h1 : ∀ x ∈ out, Rch D id x) (h2 : ∀ x ∈ D id, x ∈ out) (h3 : ∀ y ∈ out, ∀ x ∈ D y, x ∈ out) (x : IdD) : x ∈ out ↔ Rch D id x :=
  ⟨h1 x, fun h => h (· ∈ out) h2 h3⟩
theorem joinF_ge : ∀ (a b : List IdD), a.length ≤ (joinF a b).length ∧ ((joinF a b).length = a.length → joinF a b = a)
  | [], b => by
    rw [joinF_nil]
    exact ⟨Nat.zero_le _, fun h => List.length_eq_zero_iff.1 h⟩
  | x :: a, [] => by rw [joinF_nil2]; exact ⟨Nat.le_refl _, fun _ => rfl⟩
  | x :: a, y :: b => by
    by_cases h : idLt x y = true
    · have ih := joinF_ge a (y :: b)
      rw [joinF_lt h, List.length_cons, List.length_cons]
      exact ⟨by omega, fun e => by rw [ih.2 (by omega)]⟩
    · have h : idLt x y = false := by simpa using h
      by_cases h2 : x = y
      · subst h2
        have ih := joinF_ge a b
        rw [joinF_eq, List.length_cons, List.length_cons]
        exact ⟨by omega, fun e => by rw [ih.2 (by omega)]⟩
      · have ih := joinF_ge (x :: a) b
        rw [joinF_gt h h2]
        simp only [List.length_cons] at ih ⊢
        exact ⟨by omega, fun e => by omega⟩
termination_by a b => a.length + b.length
/-- all Deps joined to a row -/
def foldJ (D : IdD → List IdD) (nx : List IdD) (l : List IdD) : List IdD := l.foldl (fun a y => joinF a (D y)) nx
def stepF (D : IdD → List IdD) (out : List IdD) : List IdD := foldJ D out out
def iterF (D : IdD → List IdD) : Nat → List IdD → List IdD
  | 0, out => out
  | n + 1, out => iterF D n (stepF D out)
theorem foldJ_snoc (D : IdD → List IdD) (nx l : List IdD) (y : IdD) : foldJ D nx (l ++ [y]) = joinF (foldJ D nx l) (D y) := by
  rw [foldJ, List.foldl_append]; rfl
theorem foldJ_take (D : IdD → List IdD) (nx l : List IdD) (i : Nat) (hi : i < l.length) : foldJ D nx (l.take (i + 1)) = joinF (foldJ D nx (l.take i)) (D l[i]) := by
  rw [List.take_succ_eq_append_getElem hi, foldJ_snoc]
theorem foldJ_ge (D : IdD → List IdD) : ∀ (l nx : List IdD), nx.length ≤ (foldJ D nx l).length ∧ ((foldJ D nx l).length = nx.length → foldJ D nx l = nx)
  | [], nx => ⟨Nat.le_refl _, fun _ => rfl⟩
  | y :: l, nx => by
    have h1 := joinF_ge nx (D y)
    have h2 := foldJ_ge D l (joinF nx (D y))
    show nx.length ≤ (foldJ D (joinF nx (D y)) l).length ∧ ((foldJ D (joinF nx (D y)) l).length = nx.length → foldJ D (joinF nx (D y)) l = nx)
    refine ⟨by omega, fun e => ?_⟩
    rw [h2.2 (by omega), h1.2 (by omega)]
theorem mem_foldJ (D : IdD → List IdD) {x : IdD} : ∀ {l nx : List IdD}, x ∈ foldJ D nx l ↔ x ∈ nx ∨ ∃ y ∈ l, x ∈ D y
  | [], nx => by simp [foldJ]
  | y :: l, nx => by
    show x ∈ foldJ D (joinF nx (D y)) l ↔ _
    rw [mem_foldJ D, mem_joinF, or_assoc]
    simp
theorem asc_foldJ {D : IdD → List IdD} (hD : ∀ y, Asc (D y)) : ∀ {l nx : List IdD}, Asc nx → Asc (foldJ D nx l)
  | [], nx, h => h
  | y :: l, nx, h => asc_foldJ hD (l := l) (asc_joinF h (hD y))
theorem asc_iter {D : IdD → List IdD} (hD : ∀ y, Asc (D y)) : ∀ (n : Nat) {out : List IdD}, Asc out → Asc (iterF D n out)
  | 0, _, h => h
  | n + 1, _, h => asc_iter hD n (asc_foldJ hD h)
theorem iter_fix {D : IdD → List IdD} {out : List IdD} (h : stepF D out = out) : ∀ n : Nat, iterF D n out = out
  | 0 => rfl
  | n + 1 => by rw [iterF, h, iter_fix h n]
theorem sub_iter {D : IdD → List IdD} : ∀ (n : Nat) {out : List IdD} {x : IdD}, x ∈ out → x ∈ iterF D n out
  | 0, _, _, h => h
  | n + 1, _, _, h => sub_iter n ((mem_foldJ D).2 (.inl h))
theorem iter_rch {D : IdD → List IdD} {id : IdD} : ∀ (n : Nat) {out : List IdD}, (∀ x ∈ out, Rch D id x) → ∀ x ∈ iterF D n out, Rch D id x
  | 0, _, h => h
  | n + 1, _, h => iter_rch n fun x hx => by
    rcases (mem_foldJ D).1 hx with h1 | ⟨y, hy, h1⟩
    · exact h x h1
    · exact (h y hy).step h1
theorem iter_okP {D : IdD → List IdD} {p : IdD → Prop} (hD : ∀ y, ∀ x ∈ D y, p x) : ∀ (n : Nat) {out : List IdD}, (∀ x ∈ out, p x) → ∀ x ∈ iterF D n out, p x
  | 0, _, h => h
  | n + 1, _, h => iter_okP hD n fun x hx => by
    rcases (mem_foldJ D).1 hx with h1 | ⟨y, _, h1⟩
    · exact h x h1
    · exact hD y x h1
theorem nodup_lt : ∀ (n : Nat) (l : List Nat), l.Nodup → (∀ x ∈ l, x < n) → l.length ≤ n
  | 0, l, _, h => by
    cases l with
    | nil => exact Nat.le_refl _
    | cons x r => exact absurd (h x (by simp)) (by omega)
  | n + 1, l, hn, h => by
    by_cases hm : n ∈ l
    · have ih := nodup_lt n (l.erase n) (hn.erase n) fun x hx => by
        have h1 := h x (List.mem_of_mem_erase hx)
        have h2 : x ≠ n := fun e => by
          subst e
          exact (List.Nodup.not_mem_erase hn) hx
        omega
      rw [List.length_erase_of_mem hm] at ih
      omega
    · have ih := nodup_lt n l hn fun x hx => by
        have h1 := h x hx
        have h2 : x ≠ n := fun e => hm (e ▸ hx)
        omega
      omega
theorem ok_bounds {x : IdD} (h : idOkB x = true) : 0 ≤ x.rep ∧ x.rep ≤ 2 ∧ 1 ≤ x.slot ∧ x.slot ≤ 6 := by
  simp [idOkB, inB] at h
  omega
/-- right Ids without doubles are at most 18 -/
theorem ok_len {l : List IdD} (hn : l.Nodup) (hk : ∀ x ∈ l, idOkB x = true) : l.length ≤ 18 := by
  have h := nodup_lt 18 (l.map fun x => (x.rep * 6 + x.slot - 1).toNat) ?_ ?_
  · simpa using h
  · refine List.pairwise_map.2 ?_
    have h2 : l.Pairwise fun a b => a ∈ l ∧ b ∈ l ∧ a ≠ b := List.Pairwise.imp_of_mem (fun {a b} ha hb h => ⟨ha, hb, h⟩) hn
    refine h2.imp fun {a b} hab e => hab.2.2 ?_
    have ha := ok_bounds (hk a hab.1)
    have hb := ok_bounds (hk b hab.2.1)
    have e2 : a.rep * 6 + a.slot - 1 = b.rep * 6 + b.slot - 1 := by omega
    exact idD_ext (by omega) (by omega)
  · intro x hx
    obtain ⟨y, hy, rfl⟩ := List.mem_map.1 hx
    have := ok_bounds (hk y hy)
    omega
/-- whoever goes on 18 times has all -/
theorem iter_closed {D : IdD → List IdD} (hD : ∀ y, Asc (D y)) (hk : ∀ y, ∀ x ∈ D y, idOkB x = true) : ∀ (n : Nat) {out : List IdD}, Asc out → (∀ x ∈ out, idOkB x = true) → 18 ≤ n + out.length → stepF D (iterF D n out) = iterF D n out
  | 0, out, ha, ho, h => by
    show stepF D out = out
    have h1 := foldJ_ge D out out
    have h2 : (stepF D out).length ≤ 18 := ok_len (asc_nodup (asc_foldJ hD ha)) fun x hx => by
      rcases (mem_foldJ D).1 hx with h1 | ⟨y, _, h1⟩
      · exact ho x h1
      · exact hk y x h1
    exact h1.2 (Nat.le_antisymm (by have : (stepF D out).length = (foldJ D out out).length := rfl; omega) h1.1)
  | n + 1, out, ha, ho, h => by
    have h1 := foldJ_ge D out out
    by_cases he : (stepF D out).length = out.length
    · have e := h1.2 he
      have e : stepF D out = out := e
      rw [iter_fix e, e]
    · have hl : out.length + 1 ≤ (stepF D out).length := by
        have : (stepF D out).length = (foldJ D out out).length := rfl
        omega
      exact iter_closed hD hk n (asc_foldJ hD ha) (fun x hx => by
        rcases (mem_foldJ D).1 hx with h1 | ⟨y, _, h1⟩
        · exact ho x h1
        · exact hk y x h1) (by have : (stepF D out).length ≤ (foldJ D out out).length := Nat.le_refl _; omega)
def reachF (D : IdD → List IdD) (id : IdD) : List IdD := iterF D 18 (D id)
theorem asc_reach {D : IdD → List IdD} (hD : ∀ y, Asc (D y)) (id : IdD) : Asc (reachF D id) := asc_iter hD 18 (hD id)
theorem reach_ok {D : IdD → List IdD} (hk : ∀ y, ∀ x ∈ D y, idOkB x = true) (id : IdD) : ∀ x ∈ reachF D id, idOkB x = true := iter_okP hk 18 (hk id)
theorem mem_reach {D : IdD → List IdD} (hD : ∀ y, Asc (D y)) (hk : ∀ y, ∀ x ∈ D y, idOkB x = true) (id x : IdD) : x ∈ reachF D id ↔ Rch D id x := by
  refine rch_iff (iter_rch 18 fun x hx => Rch.base hx) (fun x hx => sub_iter 18 hx) (fun y hy x hx => ?_) x
  have h := iter_closed hD hk 18 (hD id) (hk id) (by omega)
  have h2 : x ∈ stepF D (iterF D 18 (D id)) := (mem_foldJ D).2 (.inr ⟨y, hy, hx⟩)
  rw [h] at h2
  exact h2
/-- what was found, sorted -/
theorem reach_sorted {D : IdD → List IdD} (hD : ∀ y, Asc (D y)) (hk : ∀ y, ∀ x ∈ D y, idOkB x = true) {id : IdD} {out ys : List IdD} (hn : out.Nodup) (h1 : ∀ x ∈ out, Rch D id x) (h2 : ∀ x ∈ D id, x ∈ out) (h3 : ∀ y ∈ out, ∀ x ∈ D y, x ∈ out) (hp : ys.Perm out) (hs : Wk ys) : ys = reachF D id :=
  asc_ext (sorted_asc hn hp hs) (asc_reach hD id) fun x => by rw [hp.mem_iff, rch_iff h1 h2 h3, mem_reach hD hk]

end Go.Proofs.Ytbdblfpepnoafaa
namespace Go.Proofs.Ytbdblfpepnoafaa
open Go.RowKit

def zeroE : EMsgD := ⟨0, 0, 0, ⟨0, 0⟩, 0, zeroCmd, 0, [], 0, 0, false⟩
theorem emsg_bounds {m : EMsgD} (h : emsgOkB m = true) : (1 ≤ m.kind ∧ m.kind ≤ 7) ∧ (0 ≤ m.frm ∧ m.frm ≤ 2) ∧ (0 ≤ m.to ∧ m.to ≤ 2) ∧ idOkB m.id = true ∧ (0 ≤ m.bal ∧ m.bal ≤ 600) ∧ cmdOkB m.cmd = true ∧ (0 ≤ m.seq ∧ m.seq ≤ 60) ∧ idsOkB m.deps = true ∧ (0 ≤ m.status ∧ m.status ≤ 3) ∧ (-1 ≤ m.vbal ∧ m.vbal ≤ 600) := by
  unfold emsgOkB at h
  simp only [Bool.and_eq_true] at h
  obtain ⟨h1, h2, h3, _, h5, h6, h7, h8, h9, _, h11, h12⟩ := h
  exact ⟨inB_tc h1, inB_tc h2, inB_tc h3, h5, inB_tc h6, h7, inB_tc h8, h9, inB_tc h11, inB_tc h12⟩
theorem deps_18 {l : List IdD} (h : idsOkB l = true) : l.length ≤ 18 := ok_len (asc_nodup (ids_asc h)) (ids_ok h)
theorem showE_eq {m : EMsgD} (h : emsgOkB m = true) : showEMsgL m = ((numsE m).map varF).flatten ++ (sameL m.same ++ (sizedL (showCmdL m.cmd) ++ (varF (m.deps.length : Int) ++ (m.deps.map idL).flatten))) := by rw [showEMsgL, if_pos h]
theorem nums_ok {m : EMsgD} (h : emsgOkB m = true) : ∀ n ∈ numsE m, 0 ≤ n ∧ n ≤ 562949953421311 := by
  obtain ⟨h1, h2, h3, h4, h5, _, h7, _, h9, h10⟩ := emsg_bounds h
  have hi := ok_bounds h4
  intro n hn
  simp only [numsE, List.mem_cons, List.not_mem_nil, or_false] at hn
  rcases hn with rfl | rfl | rfl | rfl | rfl | rfl | rfl | rfl | rfl <;> omega
theorem showE_ne {m : EMsgD} (h : emsgOkB m = true) : showEMsgL m ≠ [] := by
  have hp := varF_pos (nums_ok h m.kind (by simp [numsE]))
  rw [showE_eq h]
  intro e
  have := congrArg List.length e
  simp only [numsE, List.map_cons, List.flatten_cons, List.length_append, List.length_nil] at this
  omega
theorem emsg_of_show {m : EMsgD} {s : List UInt8} (h : showEMsgL m = s) (hs : s ≠ []) : emsgOkB m = true := by
  cases hc : emsgOkB m with
  | true => rfl
  | false => rw [showEMsgL, hc] at h; exact absurd h.symm hs
theorem showCmd_ne {c : CmdD} (h : cmdOkB c = true) : showCmdL c ≠ [] := by
  rw [showCmdL, if_pos h]
  intro e
  exact showH_pos c h (List.append_eq_nil_iff.1 e).1
theorem readCmd_show {c : CmdD} (h : cmdOkB c = true) : (fReadCmd (showCmdL c)).1 = c := by rw [readCmd_yes rfl (showCmd_ne h)]
theorem showCmd_short {c : CmdD} (h : cmdOkB c = true) : (showCmdL c).length ≤ 562949953421311 := by
  have h1 := showCmd_len c
  obtain ⟨_, _, _, _, h5, h6, h7, h8, h9⟩ := cmdOk_bounds h
  have h10 := wt_cmd c
  have h11 := flat8 c.chunks h9
  omega
/-! by the scanner -/
def pairsL : Nat → List UInt8 → Bool → List IdD × List UInt8 × Bool
  | 0, r, b => ([], r, b)
  | n + 1, r, b =>
    (⟨((scanNum r b).1 : Int), ((scanNum (scanNum r b).2.1 (scanNum r b).2.2).1 : Int)⟩ :: (pairsL n (scanNum (scanNum r b).2.1 (scanNum r b).2.2).2.1 (scanNum (scanNum r b).2.1 (scanNum r b).2.2).2.2).1,
      (pairsL n (scanNum (scanNum r b).2.1 (scanNum r b).2.2).2.1 (scanNum (scanNum r b).2.1 (scanNum r b).2.2).2.2).2)
theorem pairsL_len : ∀ (n : Nat) (r : List UInt8) (b : Bool), (pairsL n r b).1.length = n
  | 0, _, _ => rfl
  | n + 1, r, b => by rw [pairsL, List.length_cons, pairsL_len n]
theorem pairsL_eat : ∀ (n : Nat) (r : List UInt8) (b : Bool), (pairsL n r b).2.2 = false → b = false ∧ n + (pairsL n r b).2.1.length ≤ r.length
  | 0, r, b, h => ⟨h, by simp [pairsL]⟩
  | n + 1, r, b, h => by
    rw [pairsL] at h ⊢
    have e1 := scanNum_eat r b
    generalize scanNum r b = a at *
    have e2 := scanNum_eat a.2.1 a.2.2
    generalize scanNum a.2.1 a.2.2 = c at *
    obtain ⟨h1, h2⟩ := pairsL_eat n c.2.1 c.2.2 h
    obtain ⟨h3, h4⟩ := e2.2.1 h1
    obtain ⟨h5, h6⟩ := e1.2.1 h3
    exact ⟨h5, by simp only at h2 ⊢; omega⟩
theorem pairsL_ids (t : List UInt8) : ∀ (xs : List IdD), (∀ x ∈ xs, idOkB x = true) → pairsL xs.length ((xs.map idL).flatten ++ t) false = (xs, t, false)
  | [], _ => rfl
  | x :: xs, h => by
    have hb := ok_bounds (h x (by simp))
    have ih := pairsL_ids t xs (fun y hy => h y (List.mem_cons_of_mem _ hy))
    have e : ((x :: xs).map idL).flatten ++ t = varF x.rep ++ (varF x.slot ++ ((xs.map idL).flatten ++ t)) := by simp [idL]
    rw [e, List.length_cons, pairsL]
    simp only [scanNum_varF (show 0 ≤ x.rep ∧ x.rep ≤ 562949953421311 by omega), scanNum_varF (show 0 ≤ x.slot ∧ x.slot ≤ 562949953421311 by omega), ih]
    rw [Int.toNat_of_nonneg hb.1, Int.toNat_of_nonneg (by omega : 0 ≤ x.slot)]
def parseE (s : List UInt8) : EMsgD × Bool :=
  let k1 := scanNum s false
  let k2 := scanNum k1.2.1 k1.2.2
  let k3 := scanNum k2.2.1 k2.2.2
  let k4 := scanNum k3.2.1 k3.2.2
  let k5 := scanNum k4.2.1 k4.2.2
  let k6 := scanNum k5.2.1 k5.2.2
  let k7 := scanNum k6.2.1 k6.2.2
  let k8 := scanNum k7.2.1 k7.2.2
  let k9 := scanNum k8.2.1 k8.2.2
  let c := scanCut k9.2.1 k9.2.2 1
  let t := scanText c.2.1 c.2.2
  let n := scanNum t.2.1 t.2.2
  let ps := if n.1 ≤ 18 then pairsL n.1 n.2.1 n.2.2 else ([], n.2.1, n.2.2)
  (⟨(k1.1 : Int), (k2.1 : Int), (k3.1 : Int), ⟨(k4.1 : Int), (k5.1 : Int)⟩, (k6.1 : Int), (fReadCmd t.1).1, (k9.1 : Int), ps.1, (k7.1 : Int), (k8.1 : Int) - 1, c.1 == [1]⟩, ps.2.2)
theorem parseE_show {m : EMsgD} (h : emsgOkB m = true) : parseE (showEMsgL m) = (m, false) := by
  obtain ⟨h1, h2, h3, h4, h5, h6, h7, h8, h9, h10⟩ := emsg_bounds h
  have hi := ok_bounds h4
  have hd := deps_18 h8
  have hc := showCmd_short h6
  have hs : showEMsgL m = varF m.kind ++ (varF m.frm ++ (varF m.to ++ (varF m.id.rep ++ (varF m.id.slot ++ (varF m.bal ++ (varF m.status ++ (varF (m.vbal + 1) ++ (varF m.seq ++ (sameL m.same ++ (sizedL (showCmdL m.cmd) ++ (varF (m.deps.length : Int) ++ ((m.deps.map idL).flatten ++ [])))))))))))) := by
    rw [showE_eq h]
    simp only [numsE, List.map_cons, List.map_nil, List.flatten_cons, List.flatten_nil, List.append_nil, List.append_assoc]
  have hsame : (sameL m.same).length = 1 ∧ (sameL m.same == [1]) = m.same := by cases m.same <;> exact ⟨rfl, rfl⟩
  rw [hs]
  unfold parseE
  simp only [scanNum_varF (show 0 ≤ m.kind ∧ m.kind ≤ 562949953421311 by omega), scanNum_varF (show 0 ≤ m.frm ∧ m.frm ≤ 562949953421311 by omega), scanNum_varF (show 0 ≤ m.to ∧ m.to ≤ 562949953421311 by omega), scanNum_varF (show 0 ≤ m.id.rep ∧ m.id.rep ≤ 562949953421311 by omega), scanNum_varF (show 0 ≤ m.id.slot ∧ m.id.slot ≤ 562949953421311 by omega), scanNum_varF (show 0 ≤ m.bal ∧ m.bal ≤ 562949953421311 by omega), scanNum_varF (show 0 ≤ m.status ∧ m.status ≤ 562949953421311 by omega), scanNum_varF (show 0 ≤ m.vbal + 1 ∧ m.vbal + 1 ≤ 562949953421311 by omega), scanNum_varF (show 0 ≤ m.seq ∧ m.seq ≤ 562949953421311 by omega),
    scanCut_take (sameL m.same) _ 1 (by rw [hsame.1]; rfl), scanText_sized (showCmdL m.cmd) _ hc, scanNum_varF (show 0 ≤ (m.deps.length : Int) ∧ (m.deps.length : Int) ≤ 562949953421311 by omega), Int.toNat_natCast, hd, if_true, pairsL_ids [] m.deps (ids_ok h8), readCmd_show h6, hsame.2]
  rw [Int.toNat_of_nonneg (by omega : 0 ≤ m.kind), Int.toNat_of_nonneg h2.1, Int.toNat_of_nonneg h3.1, Int.toNat_of_nonneg hi.1, Int.toNat_of_nonneg (by omega : 0 ≤ m.id.slot), Int.toNat_of_nonneg h5.1, Int.toNat_of_nonneg h7.1, Int.toNat_of_nonneg h9.1, Int.toNat_of_nonneg (by omega : 0 ≤ m.vbal + 1), Int.add_sub_cancel]
theorem fReadCmd_wt (t : List UInt8) : (fReadCmd t).1.c.wt ≤ t.length := by
  unfold fReadCmd
  split
  · exact parseC_wt t
  · exact Nat.zero_le _
theorem ids_wt0 : ∀ l : List IdD, (cat IdD.c l).wt = 0
  | [] => rfl
  | x :: l => by rw [cat_cons, Cs.wt_app, ids_wt0 l]; rfl
theorem wt_emsg (m : EMsgD) : m.c.wt = m.cmd.c.wt + m.deps.length := by
  have e0 : m.c.wt = (m.cmd.set.length + (m.cmd.name.length + (m.cmd.tag.length + (m.cmd.chunks.length + (cat strC m.cmd.chunks).wt + (m.deps.length + (cat IdD.c m.deps).wt + 0))))) := rfl
  have e1 : m.cmd.c.wt = m.cmd.set.length + (m.cmd.name.length + (m.cmd.tag.length + (m.cmd.chunks.length + (cat strC m.cmd.chunks).wt + 0))) := rfl
  have e2 := ids_wt0 m.deps
  omega
theorem parseE_deps (s : List UInt8) : (parseE s).1.deps.length ≤ 18 := by
  unfold parseE
  simp only []
  split
  · rename_i h
    rw [pairsL_len]; exact h
  · exact Nat.zero_le _
theorem parseE_cmd (s : List UInt8) : (parseE s).1.cmd.c.wt ≤ s.length := by
  unfold parseE
  simp only []
  refine Nat.le_trans (fReadCmd_wt _) ?_
  have e1 := (scanNum_eat s false).1
  generalize scanNum s false = k1 at *
  have e2 := (scanNum_eat k1.2.1 k1.2.2).1
  generalize scanNum k1.2.1 k1.2.2 = k2 at *
  have e3 := (scanNum_eat k2.2.1 k2.2.2).1
  generalize scanNum k2.2.1 k2.2.2 = k3 at *
  have e4 := (scanNum_eat k3.2.1 k3.2.2).1
  generalize scanNum k3.2.1 k3.2.2 = k4 at *
  have e5 := (scanNum_eat k4.2.1 k4.2.2).1
  generalize scanNum k4.2.1 k4.2.2 = k5 at *
  have e6 := (scanNum_eat k5.2.1 k5.2.2).1
  generalize scanNum k5.2.1 k5.2.2 = k6 at *
  have e7 := (scanNum_eat k6.2.1 k6.2.2).1
  generalize scanNum k6.2.1 k6.2.2 = k7 at *
  have e8 := (scanNum_eat k7.2.1 k7.2.2).1
  generalize scanNum k7.2.1 k7.2.2 = k8 at *
  have e9 := (scanNum_eat k8.2.1 k8.2.2).1
  generalize scanNum k8.2.1 k8.2.2 = k9 at *
  have e10 := (scanCut_eat k9.2.1 k9.2.2 1).1
  generalize scanCut k9.2.1 k9.2.2 1 = c at *
  have e11 := (scanText_eat c.2.1 c.2.2).1
  generalize scanText c.2.1 c.2.2 = t at *
  omega
theorem parseE_wt {s : List UInt8} (h : (parseE s).2 = false) : s ≠ [] ∧ (parseE s).1.c.wt ≤ s.length := by
  rw [wt_emsg]
  unfold parseE at h ⊢
  simp only [] at h ⊢
  have e1 := scanNum_eat s false
  generalize scanNum s false = k1 at *
  have e2 := scanNum_eat k1.2.1 k1.2.2
  generalize scanNum k1.2.1 k1.2.2 = k2 at *
  have e3 := scanNum_eat k2.2.1 k2.2.2
  generalize scanNum k2.2.1 k2.2.2 = k3 at *
  have e4 := scanNum_eat k3.2.1 k3.2.2
  generalize scanNum k3.2.1 k3.2.2 = k4 at *
  have e5 := scanNum_eat k4.2.1 k4.2.2
  generalize scanNum k4.2.1 k4.2.2 = k5 at *
  have e6 := scanNum_eat k5.2.1 k5.2.2
  generalize scanNum k5.2.1 k5.2.2 = k6 at *
  have e7 := scanNum_eat k6.2.1 k6.2.2
  generalize scanNum k6.2.1 k6.2.2 = k7 at *
  have e8 := scanNum_eat k7.2.1 k7.2.2
  generalize scanNum k7.2.1 k7.2.2 = k8 at *
  have e9 := scanNum_eat k8.2.1 k8.2.2
  generalize scanNum k8.2.1 k8.2.2 = k9 at *
  have e10 := scanCut_eat k9.2.1 k9.2.2 1
  generalize scanCut k9.2.1 k9.2.2 1 = c at *
  have e11 := scanText_eat c.2.1 c.2.2
  generalize scanText c.2.1 c.2.2 = t at *
  have e12 := scanNum_eat t.2.1 t.2.2
  generalize scanNum t.2.1 t.2.2 = n at *
  have hw := fReadCmd_wt t.1
  have hps : ∀ ps : List IdD × List UInt8 × Bool, (ps = if n.1 ≤ 18 then pairsL n.1 n.2.1 n.2.2 else ([], n.2.1, n.2.2)) → ps.2.2 = false → n.2.2 = false ∧ ps.1.length + ps.2.1.length ≤ n.2.1.length := by
    intro ps hp hb
    split at hp
    · subst hp
      have h1 := pairsL_eat n.1 n.2.1 n.2.2 hb
      rw [pairsL_len]
      exact h1
    · subst hp
      exact ⟨hb, by simp⟩
  obtain ⟨g12, l13⟩ := hps _ rfl h
  obtain ⟨g11, l12⟩ := e12.2.1 g12
  obtain ⟨g10, l11⟩ := e11.2 g11
  have g9 := e10.2 g10
  have l10 := e10.1
  obtain ⟨g8, l9⟩ := e9.2.1 g9
  obtain ⟨g7, l8⟩ := e8.2.1 g8
  obtain ⟨g6, l7⟩ := e7.2.1 g7
  obtain ⟨g5, l6⟩ := e6.2.1 g6
  obtain ⟨g4, l5⟩ := e5.2.1 g5
  obtain ⟨g3, l4⟩ := e4.2.1 g4
  obtain ⟨g2, l3⟩ := e3.2.1 g3
  obtain ⟨g1, l2⟩ := e2.2.1 g2
  obtain ⟨_, l1⟩ := e1.2.1 g1
  refine ⟨fun e => ?_, by omega⟩
  subst e
  simp at l1
/-- the message of which s is the text, if there is one -/
noncomputable def fReadEMsg (s : List UInt8) : EMsgD × Bool := if s ≠ [] ∧ showEMsgL (parseE s).1 = s then ((parseE s).1, true) else (zeroE, false)
theorem readE_yes {m : EMsgD} {s : List UInt8} (h : showEMsgL m = s) (hs : s ≠ []) : fReadEMsg s = (m, true) := by
  have hb := parseE_show (emsg_of_show h hs)
  rw [h] at hb
  unfold fReadEMsg
  rw [hb, if_pos ⟨hs, h⟩]
theorem readE_no {s : List UInt8} (h : ∀ m, emsgOkB m = true → showEMsgL m ≠ s) : fReadEMsg s = (zeroE, false) := by
  unfold fReadEMsg
  rw [if_neg]
  rintro ⟨h1, h2⟩
  exact h _ (emsg_of_show h2 h1) h2
/-- impl's last test -/
theorem readE_i1 {s : List UInt8} (h : (parseE s).2 = true ∨ s = [] ∨ showEMsgL (parseE s).1 ≠ s) : fReadEMsg s = (zeroE, false) := by
  refine readE_no fun m hm hs => ?_
  have hb := parseE_show hm
  rw [hs] at hb
  rcases h with h | h | h
  · rw [hb] at h; cases h
  · subst h; exact showE_ne hm hs
  · rw [hb] at h; exact h hs
theorem readE_i2 {s : List UInt8} (h2 : s ≠ []) (h3 : showEMsgL (parseE s).1 = s) : fReadEMsg s = ((parseE s).1, true) := readE_yes h3 h2
/-! by places -/
theorem l4V_nums : ∀ (ns : List Int) (a t : List UInt8), (∀ n ∈ ns, 0 ≤ n ∧ n ≤ 562949953421311) → l4V (a ++ ((ns.map varF).flatten ++ t)) ns.length (a.length : Int) = (ns.map Int.toNat, ((a.length + (ns.map varF).flatten.length : Nat) : Int))
  | [], a, t, _ => by simp [l4V]
  | n :: ns, a, t, h => by
    have ih := l4V_nums ns (a ++ varF n) t (fun x hx => h x (List.mem_cons_of_mem _ hx))
    have e : a ++ (((n :: ns).map varF).flatten ++ t) = a ++ (varF n ++ ((ns.map varF).flatten ++ t)) := by simp
    rw [e, List.length_cons, l4V_step a ((ns.map varF).flatten ++ t) n ns.length (h n (by simp))]
    rw [← List.append_assoc, ih]
    simp only [List.map_cons, List.flatten_cons, List.length_append, Prod.mk.injEq, true_and]
    omega
/-- where the parts of a message stand in its text -/
structure Placed (m : EMsgD) (s : List UInt8) (p9 p10 p11 : Nat) : Prop where
  nums : l4V s 9 0 = ((numsE m).map Int.toNat, (p9 : Int))
  lt : p9 < s.length
  same : s.getD p9 0 = if m.same = true then 1 else 0
  cmd : l4T s ((p9 : Int) + 1) = (showCmdL m.cmd, (p10 : Int))
  n : l4V s 1 (p10 : Int) = ([m.deps.length], (p11 : Int))
  dep : ∀ i (hi : i < m.deps.length), l4V s 2 ((p11 + ((m.deps.take i).map idL).flatten.length : Nat) : Int) = ([m.deps[i].rep.toNat, m.deps[i].slot.toNat], ((p11 + ((m.deps.take (i + 1)).map idL).flatten.length : Nat) : Int))
theorem placed {m : EMsgD} {s : List UInt8} (h : emsgOkB m = true) (hs : showEMsgL m = s) : ∃ p9 p10 p11, Placed m s p9 p10 p11 := by
  obtain ⟨h1, h2, h3, h4, h5, h6, h7, h8, h9, h10⟩ := emsg_bounds h
  have hd := deps_18 h8
  have hc := showCmd_short h6
  have hn := nums_ok h
  rw [showE_eq h] at hs
  obtain ⟨A, hA⟩ : ∃ A, A = ((numsE m).map varF).flatten := ⟨_, rfl⟩
  obtain ⟨Bq, hB⟩ : ∃ B, B = sameL m.same := ⟨_, rfl⟩
  obtain ⟨C, hC⟩ : ∃ C, C = sizedL (showCmdL m.cmd) := ⟨_, rfl⟩
  obtain ⟨E, hE⟩ : ∃ E, E = varF (m.deps.length : Int) := ⟨_, rfl⟩
  have hBl : Bq.length = 1 := by rw [hB]; cases m.same <;> rfl
  have l9 := l4V_nums (numsE m) [] (Bq ++ (C ++ (E ++ (m.deps.map idL).flatten))) hn
  rw [← hA, ← hB, ← hC, ← hE] at hs
  rw [← hA] at l9
  have e9 : (numsE m).length = 9 := rfl
  rw [e9, List.nil_append, hs] at l9
  have t1 := l4T_sized (A ++ Bq) (showCmdL m.cmd) (E ++ (m.deps.map idL).flatten) hc
  rw [← hC] at t1
  have es1 : (A ++ Bq) ++ (C ++ (E ++ (m.deps.map idL).flatten)) = s := by rw [List.append_assoc]; exact hs
  rw [es1] at t1
  have v1 := l4V_one (A ++ Bq ++ C) ((m.deps.map idL).flatten) (m.deps.length : Int) (by omega)
  rw [← hE] at v1
  have es2 : A ++ Bq ++ C ++ (E ++ (m.deps.map idL).flatten) = s := by rw [List.append_assoc, es1]
  rw [es2, Int.toNat_natCast] at v1
  refine ⟨A.length, (A ++ Bq ++ C).length, (A ++ Bq ++ C ++ E).length, ⟨?_, ?_, ?_, ?_, v1, ?_⟩⟩
  · simpa using l9
  · rw [← hs]; simp only [List.length_append]; omega
  · rw [← hs, List.getD_eq_getElem?_getD, List.getElem?_append_right (Nat.le_refl _), Nat.sub_self, hB]
    cases m.same <;> rfl
  · have e : ((A.length : Int) + 1) = ((A ++ Bq).length : Int) := by simp only [List.length_append]; omega
    rw [e]; exact t1
  · intro i hi
    have hib := ok_bounds (ids_ok h8 m.deps[i] (List.getElem_mem hi))
    have hfl : (m.deps.map idL).flatten = ((m.deps.take i).map idL).flatten ++ (([m.deps[i].rep, m.deps[i].slot].map varF).flatten ++ ((m.deps.drop (i + 1)).map idL).flatten) := by
      have e1 : m.deps = m.deps.take i ++ (m.deps[i] :: m.deps.drop (i + 1)) := by rw [← List.drop_eq_getElem_cons hi, List.take_append_drop]
      have e2 : (m.deps.map idL).flatten = ((m.deps.take i ++ (m.deps[i] :: m.deps.drop (i + 1))).map idL).flatten := congrArg (fun l => (List.map idL l).flatten) e1
      rw [e2, List.map_append, List.flatten_append, List.map_cons, List.flatten_cons]
      simp only [idL, List.map_cons, List.map_nil, List.flatten_cons, List.flatten_nil, List.append_nil, List.append_assoc]
    have hx := l4V_nums [m.deps[i].rep, m.deps[i].slot] (A ++ Bq ++ C ++ E ++ ((m.deps.take i).map idL).flatten) (((m.deps.drop (i + 1)).map idL).flatten) (by
      intro n hn
      simp only [List.mem_cons, List.not_mem_nil, or_false] at hn
      rcases hn with rfl | rfl <;> omega)
    have es3 : A ++ Bq ++ C ++ E ++ ((m.deps.take i).map idL).flatten ++ (([m.deps[i].rep, m.deps[i].slot].map varF).flatten ++ ((m.deps.drop (i + 1)).map idL).flatten) = s := by
      rw [List.append_assoc (A ++ Bq ++ C ++ E), ← hfl, List.append_assoc (A ++ Bq ++ C), es2]
    rw [es3] at hx
    have hil : idL m.deps[i] = ([m.deps[i].rep, m.deps[i].slot].map varF).flatten := by simp [idL]
    have hl2 : ((m.deps.take (i + 1)).map idL).flatten.length = ((m.deps.take i).map idL).flatten.length + ([m.deps[i].rep, m.deps[i].slot].map varF).flatten.length := by rw [flatm_take idL m.deps i hi, List.length_append, hil]
    have q1 : (A ++ Bq ++ C ++ E ++ ((m.deps.take i).map idL).flatten).length = (A ++ Bq ++ C ++ E).length + ((m.deps.take i).map idL).flatten.length := List.length_append
    rw [q1] at hx
    rw [hl2, ← Nat.add_assoc]
    exact hx

end Go.Proofs.Ytbdblfpepnoafaa
namespace Go.Proofs.Ytbdblfpepnoafaa
open Go.RowKit

theorem ScanCell.blk {w : World} {b : Nat} {r : List UInt8} {x : Bool} (h : ScanCell w b r x) : Blk w b 110 #[.string (bs r), .bool x] := h
theorem ScanCell.of {w : World} {b : Nat} {r : List UInt8} {x : Bool} (h : Blk w b 110 #[.string (bs r), .bool x]) : ScanCell w b r x := h
theorem Mine.grownAt {w w' : World} {base g b : Nat} {d : Cs} {cs : List Value} (h : Mine w g d cs) (hg : w.grownBy w' (some b)) (hb : ¬ g ≤ b) (hbase : base ≤ g) : Mine w' base d cs :=
  let ⟨F, h1, h2⟩ := h
  ⟨F, h1, h2.keep0 fun k hk => ⟨Nat.le_trans hbase (h2.in k hk).1, hg.block k (h2.in k hk).2 (fun e => by injection e with e; have := (h2.in k hk).1; omega)⟩⟩
theorem zeroCmd_mine (w : World) (base : Nat) : Mine w base zeroCmd.c [.int .i64 0, .int .i64 0, .int .i64 0, .string (bs []), .string (bs []), .string (bs []), .int .i64 0, .slice none 0 0] :=
  ⟨_, nodup_own _, CmdD.shutO (x := zeroCmd) (Own.strs_mk rfl ⟨by simp [zeroCmd], .inl ⟨rfl, rfl⟩⟩)⟩
theorem cmd_mine {w : World} {base : Nat} {c : CmdD} {A : Option Addr} {k : Nat} (h : w.ownsRow base 9 1 (.slice A c.chunks.length k) c.chunks.length (c.chunks.map strv)) : Mine w base c.c [.int .i64 c.kind, .int .i64 c.client, .int .i64 c.no, .string (bs c.set), .string (bs c.name), .string (bs c.tag), .int .i64 c.n, .slice A c.chunks.length k] :=
  ⟨_, nodup_own _, CmdD.shutO (Own.strs_mk rfl h)⟩
theorem parseC_eq {s : List UInt8} {n1 n2 n3 n4 n8 : Nat} {t5 t6 t7 r1 r2 r3 r4 r5 r6 r7 r8 r9 : List UInt8} {b1 b2 b3 b4 b5 b6 b7 b8 b9 : Bool} {N : Nat} {acc : List (List UInt8)}
    (h1 : scanNum s false = (n1, r1, b1)) (h2 : scanNum r1 b1 = (n2, r2, b2)) (h3 : scanNum r2 b2 = (n3, r3, b3)) (h4 : scanNum r3 b3 = (n4, r4, b4))
    (h5 : scanText r4 b4 = (t5, r5, b5)) (h6 : scanText r5 b5 = (t6, r6, b6)) (h7 : scanText r6 b6 = (t7, r7, b7)) (h8 : scanNum r7 b7 = (n8, r8, b8))
    (hN : N = if n8 ≤ 4 then n8 else 0) (h9 : cutsL N r8 b8 = (acc, r9, b9)) : parseC s = (⟨(n1 : Int), (n2 : Int), (n3 : Int), t5, t6, t7, (n4 : Int), acc⟩, b9) := by
  unfold parseC
  simp only [h1, h2, h3, h4, h5, h6, h7, h8]
  split
  · rename_i h
    rw [if_pos h] at hN
    subst hN
    rw [h9]
  · rename_i h
    rw [if_neg h] at hN
    subst hN
    rw [cutsL] at h9
    injection h9 with e1 e2
    injection e2 with e2 e3
    subst e1 e3
    rfl
theorem bad_nil {s : List UInt8} {n1 n2 n3 n4 n8 : Nat} {t5 t6 t7 r1 r2 r3 r4 r5 r6 r7 r8 : List UInt8} {b1 b2 b3 b4 b5 b6 b7 b8 : Bool} {N : Nat} {acc : List (List UInt8)} {r9 : List UInt8} {b9 : Bool} (h1 : scanNum s false = (n1, r1, b1)) (h2 : scanNum r1 b1 = (n2, r2, b2)) (h3 : scanNum r2 b2 = (n3, r3, b3)) (h4 : scanNum r3 b3 = (n4, r4, b4))
    (h5 : scanText r4 b4 = (t5, r5, b5)) (h6 : scanText r5 b5 = (t6, r6, b6)) (h7 : scanText r6 b6 = (t7, r7, b7)) (h8 : scanNum r7 b7 = (n8, r8, b8)) (h9 : cutsL N r8 b8 = (acc, r9, b9)) (hb : b9 = false) : s ≠ [] := by
  have mono : ∀ (n : Nat) (r : List UInt8) (b : Bool), (cutsL n r b).2.2 = false → b = false := fun n => by
    induction n with
    | zero => intro r b h; exact h
    | succ n ih => intro r b h; exact (scanCut_eat r b 8).2 (ih _ _ h)
  have g8 := mono N r8 b8 (by rw [h9]; exact hb)
  have g7 := ((scanNum_eat r7 b7).2.1 (by rw [h8]; exact g8)).1
  have g6 := ((scanText_eat r6 b6).2 (by rw [h7]; exact g7)).1
  have g5 := ((scanText_eat r5 b5).2 (by rw [h6]; exact g6)).1
  have g4 := ((scanText_eat r4 b4).2 (by rw [h5]; exact g5)).1
  have g3 := ((scanNum_eat r3 b3).2.1 (by rw [h4]; exact g4)).1
  have g2 := ((scanNum_eat r2 b2).2.1 (by rw [h3]; exact g3)).1
  have g1 := ((scanNum_eat r1 b1).2.1 (by rw [h2]; exact g2)).1
  have g0 := ((scanNum_eat s false).2.1 (by rw [h1]; exact g1)).2
  intro e
  subst e
  simp at g0

set_option maxRecDepth 100000 in
set_option maxHeartbeats 8000000 in
theorem iReadCmd_any (s : List UInt8) (w : World) (hs : s.length ≤ 1048576) :
    Calls Try.prog 95 #[.string (bs s)] w fun e w' => ∃ cs', e = .returned (.tuple #[.agg cs'.toArray, .bool (fReadCmd s).2]) ∧ Mine w' w.heap.size (fReadCmd s).1.c cs' ∧ Below w.heap.size w w' := by
  obtain ⟨R, hR⟩ : ∃ R, R = fReadCmd s := ⟨_, rfl⟩
  rw [← hR]
  have HR := Lib.hid hR; clear hR
  obtain ⟨n1, r1, b1, h1⟩ : ∃ a b c, scanNum s false = (a, b, c) := ⟨_, _, _, rfl⟩
  have l1 := (scanNum_len s false).1
  have m1 := (scanNum_len s false).2
  rw [h1] at l1 m1
  simp only [] at l1 m1
  have l1' : r1.length ≤ 1048576 := by omega
  clear l1
  obtain ⟨n2, r2, b2, h2⟩ : ∃ a b c, scanNum r1 b1 = (a, b, c) := ⟨_, _, _, rfl⟩
  have l2 := (scanNum_len r1 b1).1
  have m2 := (scanNum_len r1 b1).2
  rw [h2] at l2 m2
  simp only [] at l2 m2
  have l2' : r2.length ≤ 1048576 := by omega
  clear l2
  obtain ⟨n3, r3, b3, h3⟩ : ∃ a b c, scanNum r2 b2 = (a, b, c) := ⟨_, _, _, rfl⟩
  have l3 := (scanNum_len r2 b2).1
  have m3 := (scanNum_len r2 b2).2
  rw [h3] at l3 m3
  simp only [] at l3 m3
  have l3' : r3.length ≤ 1048576 := by omega
  clear l3
  obtain ⟨n4, r4, b4, h4⟩ : ∃ a b c, scanNum r3 b3 = (a, b, c) := ⟨_, _, _, rfl⟩
  have l4 := (scanNum_len r3 b3).1
  have m4 := (scanNum_len r3 b3).2
  rw [h4] at l4 m4
  simp only [] at l4 m4
  have l4' : r4.length ≤ 1048576 := by omega
  clear l4
  obtain ⟨t5, r5, b5, h5⟩ : ∃ a b c, scanText r4 b4 = (a, b, c) := ⟨_, _, _, rfl⟩
  have l5 := (scanText_len r4 b4).1
  have m5 := (scanText_len r4 b4).2
  rw [h5] at l5 m5
  simp only [] at l5 m5
  have l5' : r5.length ≤ 1048576 := by omega
  clear l5
  have m5' : t5.length ≤ 1048576 := by omega
  clear m5
  obtain ⟨t6, r6, b6, h6⟩ : ∃ a b c, scanText r5 b5 = (a, b, c) := ⟨_, _, _, rfl⟩
  have l6 := (scanText_len r5 b5).1
  have m6 := (scanText_len r5 b5).2
  rw [h6] at l6 m6
  simp only [] at l6 m6
  have l6' : r6.length ≤ 1048576 := by omega
  clear l6
  have m6' : t6.length ≤ 1048576 := by omega
  clear m6
  obtain ⟨t7, r7, b7, h7⟩ : ∃ a b c, scanText r6 b6 = (a, b, c) := ⟨_, _, _, rfl⟩
  have l7 := (scanText_len r6 b6).1
  have m7 := (scanText_len r6 b6).2
  rw [h7] at l7 m7
  simp only [] at l7 m7
  have l7' : r7.length ≤ 1048576 := by omega
  clear l7
  have m7' : t7.length ≤ 1048576 := by omega
  clear m7
  obtain ⟨n8, r8, b8, h8⟩ : ∃ a b c, scanNum r7 b7 = (a, b, c) := ⟨_, _, _, rfl⟩
  have l8 := (scanNum_len r7 b7).1
  have m8 := (scanNum_len r7 b7).2
  rw [h8] at l8 m8
  simp only [] at l8 m8
  have l8' : r8.length ≤ 1048576 := by omega
  clear l8
  obtain ⟨N, hN⟩ : ∃ N, N = if n8 ≤ 4 then n8 else 0 := ⟨_, rfl⟩
  obtain ⟨acc9, r9, b9, h9⟩ : ∃ a b c, cutsL N r8 b8 = (a, b, c) := ⟨_, _, _, rfl⟩
  have hpc := parseC_eq h1 h2 h3 h4 h5 h6 h7 h8 hN h9
  have HBN := Lib.hid (fun hb => bad_nil h1 h2 h3 h4 h5 h6 h7 h8 h9 hb)
  have hwt := parseC_wt s
  rw [hpc] at hwt
  simp only [] at hwt
  have HWT := Lib.hid (Nat.le_trans hwt hs); clear hwt
  have HPC := Lib.hid hpc; clear hpc
  have hN4 : N ≤ 4 ∧ N ≤ n8 ∧ (n8 ≤ 4 → N = n8) ∧ (¬ n8 ≤ 4 → N = 0) := by rw [hN]; split <;> omega
  clear hN
  obtain ⟨hN1, hN2, hN3, hN4⟩ := hN4
  have H1 := Lib.hid h1; clear h1
  have H2 := Lib.hid h2; clear h2
  have H3 := Lib.hid h3; clear h3
  have H4 := Lib.hid h4; clear h4
  have H5 := Lib.hid h5; clear h5
  have H6 := Lib.hid h6; clear h6
  have H7 := Lib.hid h7; clear h7
  have H8 := Lib.hid h8; clear h8
  have H9 := Lib.hid h9; clear h9
  clear m1 m2 m3 m4
  go_enter Try.func95, Try.ntmps95
  go_wp2_with fail
  have HS := Lib.hid (show ScanCell ((w.alloc (.cells #[.int .i64 0, .int .i64 0, .int .i64 0, .string (bs []), .string (bs []), .string (bs []), .int .i64 0, .slice none 0 0] 33)).alloc (.cells #[.string (bs s), .bool false] 110)) (w.heap.size + 1) s false from blk2_1 _ _ _ _)
  have ZB := Lib.hid (show Blk ((w.alloc (.cells #[.int .i64 0, .int .i64 0, .int .i64 0, .string (bs []), .string (bs []), .string (bs []), .int .i64 0, .slice none 0 0] 33)).alloc (.cells #[.string (bs s), .bool false] 110)) w.heap.size 33 [.int .i64 0, .int .i64 0, .int .i64 0, .string (bs []), .string (bs []), .string (bs []), .int .i64 0, .slice none 0 0].toArray from blk2_0 _ _ _ _)
  have BW := Lib.hid (show Below w.heap.size w ((w.alloc (.cells #[.int .i64 0, .int .i64 0, .int .i64 0, .string (bs []), .string (bs []), .string (bs []), .int .i64 0, .slice none 0 0] 33)).alloc (.cells #[.string (bs s), .bool false] 110)) from (by repeat' (first | with_reducible exact Below.refl _ _ | with_reducible exact BW.out | with_reducible refine Below.setCell ?_ ?_ _ | with_reducible refine Below.alloc ?_ ?_ _ | with_reducible refine Below.drew ?_ | (simp; done) | (simp; omega) | omega)))
  have hz0 : w.heap.size + 1 + 1 ≤ (World.heap ((w.alloc (.cells #[.int .i64 0, .int .i64 0, .int .i64 0, .string (bs []), .string (bs []), .string (bs []), .int .i64 0, .slice none 0 0] 33)).alloc (.cells #[.string (bs s), .bool false] 110))).size := by simp
  have HZ := Lib.hid hz0; clear hz0
  refine (scanNum_any (w.heap.size + 1) s false _ (by omega) HS.out).mono ?_; rintro e v1 ⟨rfl, hs, hg⟩
  rw [H1.out] at hs ⊢
  simp only [] at hs ⊢
  clear HS
  have HS := Lib.hid hs; clear hs
  have X := Lib.hid (ZB.out.grown hg (by omega)); clear ZB
  have ZB := Lib.hid X.out; clear X
  have X := Lib.hid (Nat.le_trans HZ.out hg.size); clear HZ
  have HZ := Lib.hid X.out; clear X
  have X := Lib.hid (Below.grown BW.out hg BW.out.size (fun k hk => by injection hk with hk; omega)); clear BW hg
  have BW := Lib.hid X.out; clear X
  obtain ⟨gc, hgc⟩ : ∃ g, g = v1.heap.size := ⟨_, rfl⟩
  have HGE := Lib.hid hgc; clear hgc
  have HGC := Lib.hid (show w.heap.size + 1 + 1 ≤ gc by rw [HGE.out]; exact HZ.out)
  go_wp2_with (first | ((with_reducible show wpList _ _ _ ({ dst := _, op := Op.store 33 _ _, type := _, pos := _, after := _, guard := _ } :: _) _ _); refine wpList_store_row _ v1.heap.size 33 0 [.int .i64 (n1 : Int), .int .i64 0, .int .i64 0, .string (bs []), .string (bs []), .string (bs []), .int .i64 0, .slice none 0 0] [] [.int .i64 0, .int .i64 0, .int .i64 0, .string (bs []), .string (bs []), .string (bs []), .int .i64 0, .slice none 0 0] [] _ rfl rfl agg_Cmd (blk_new v1 _ _) rfl rfl rfl (by simp [Value.oneCell']) ?_; intro v1' hsb hsg; rw [← HGE.out] at hsb hsg ⊢; have CB := Lib.hid (show Blk v1' gc 33 [.int .i64 (n1 : Int), .int .i64 0, .int .i64 0, .string (bs []), .string (bs []), .string (bs []), .int .i64 0, .slice none 0 0].toArray by simpa using hsb); have X := Lib.hid (show ScanCell v1' (w.heap.size + 1) r1 b1 from ScanCell.of ((HS.out.blk.alloc _).grown hsg (fun e => by have := HGC.out; omega))); clear HS; have HS := Lib.hid X.out; clear X; have X := Lib.hid ((ZB.out.alloc _).grown hsg (fun e => by have := HGC.out; omega)); clear ZB; have ZB := Lib.hid X.out; clear X; have X := Lib.hid (Below.grown (BW.out.alloc BW.out.size _) hsg (Nat.le_trans BW.out.size (by simp)) (fun k hk => by injection hk with hk; have := HGC.out; omega)); clear BW; have BW := Lib.hid X.out; clear X; have X := Lib.hid (Nat.le_trans HZ.out (Nat.le_trans (by simp) hsg.size)); clear HZ; have HZ := Lib.hid X.out; clear X; have HGB := Lib.hid (show gc + 1 ≤ v1'.heap.size from Nat.le_trans (by rw [HGE.out]; simp) hsg.size); clear hsb hsg) | fail)
  refine (scanNum_any (w.heap.size + 1) r1 b1 _ (by omega) HS.out).mono ?_; rintro e v2 ⟨rfl, hs, hg⟩
  rw [H2.out] at hs ⊢
  simp only [] at hs ⊢
  clear HS
  have HS := Lib.hid hs; clear hs
  have X := Lib.hid (ZB.out.grown hg (by omega)); clear ZB
  have ZB := Lib.hid X.out; clear X
  have X := Lib.hid (CB.out.grown hg (fun e => by have := HGC.out; omega)); clear CB
  have CB := Lib.hid X.out; clear X
  have X := Lib.hid (Nat.le_trans HZ.out hg.size); clear HZ
  have HZ := Lib.hid X.out; clear X
  have X := Lib.hid (Nat.le_trans HGB.out hg.size); clear HGB
  have HGB := Lib.hid X.out; clear X
  have X := Lib.hid (Below.grown BW.out hg BW.out.size (fun k hk => by injection hk with hk; omega)); clear BW hg
  have BW := Lib.hid X.out; clear X
  have hq : v2.cell? ⟨gc, 1, none⟩ = some (.int .i64 0) := blk_cell0 (L := [.int .i64 (n1 : Int), .int .i64 0, .int .i64 0, .string (bs []), .string (bs []), .string (bs []), .int .i64 0, .slice none 0 0]) CB.out 1 rfl
  have hfz : v2.frozen? ⟨gc, 1, none⟩ = false := CB.out.frozen 1
  go_wp2_with fail
  clear hq hfz
  have X := Lib.hid (show Blk (v2.setCell ⟨gc, 1, none⟩ (.int .i64 (n2 : Int))) gc 33 [.int .i64 (n1 : Int), .int .i64 (n2 : Int), .int .i64 0, .string (bs []), .string (bs []), .string (bs []), .int .i64 0, .slice none 0 0].toArray from blk_put0 CB.out 1 (.int .i64 (n2 : Int))); clear CB
  have CB := Lib.hid X.out; clear X
  have X := Lib.hid (ScanCell.of (Blk.setOther HS.out.blk (a := ⟨gc, 1, none⟩) (by have := HGC.out; show gc ≠ _; omega) (.int .i64 (n2 : Int)))); clear HS
  have HS := Lib.hid X.out; clear X
  have X := Lib.hid (Blk.setOther ZB.out (a := ⟨gc, 1, none⟩) (by have := HGC.out; show gc ≠ _; omega) (.int .i64 (n2 : Int))); clear ZB
  have ZB := Lib.hid X.out; clear X
  have X := Lib.hid (Below.setCell BW.out (p := ⟨gc, 1, none⟩) (by have := HGC.out; show _ ≤ gc; omega) (.int .i64 (n2 : Int))); clear BW
  have BW := Lib.hid X.out; clear X
  have X := Lib.hid (show w.heap.size + 1 + 1 ≤ (World.heap (v2.setCell ⟨gc, 1, none⟩ (.int .i64 (n2 : Int)))).size by rw [setCell_size]; exact HZ.out); clear HZ
  have HZ := Lib.hid X.out; clear X
  have X := Lib.hid (show gc + 1 ≤ (World.heap (v2.setCell ⟨gc, 1, none⟩ (.int .i64 (n2 : Int)))).size by rw [setCell_size]; exact HGB.out); clear HGB
  have HGB := Lib.hid X.out; clear X
  refine (scanNum_any (w.heap.size + 1) r2 b2 _ (by omega) HS.out).mono ?_; rintro e v3 ⟨rfl, hs, hg⟩
  rw [H3.out] at hs ⊢
  simp only [] at hs ⊢
  clear HS
  have HS := Lib.hid hs; clear hs
  have X := Lib.hid (ZB.out.grown hg (by omega)); clear ZB
  have ZB := Lib.hid X.out; clear X
  have X := Lib.hid (CB.out.grown hg (fun e => by have := HGC.out; omega)); clear CB
  have CB := Lib.hid X.out; clear X
  have X := Lib.hid (Nat.le_trans HZ.out hg.size); clear HZ
  have HZ := Lib.hid X.out; clear X
  have X := Lib.hid (Nat.le_trans HGB.out hg.size); clear HGB
  have HGB := Lib.hid X.out; clear X
  have X := Lib.hid (Below.grown BW.out hg BW.out.size (fun k hk => by injection hk with hk; omega)); clear BW hg
  have BW := Lib.hid X.out; clear X
  have hq : v3.cell? ⟨gc, 2, none⟩ = some (.int .i64 0) := blk_cell0 (L := [.int .i64 (n1 : Int), .int .i64 (n2 : Int), .int .i64 0, .string (bs []), .string (bs []), .string (bs []), .int .i64 0, .slice none 0 0]) CB.out 2 rfl
  have hfz : v3.frozen? ⟨gc, 2, none⟩ = false := CB.out.frozen 2
  go_wp2_with fail
  clear hq hfz
  have X := Lib.hid (show Blk (v3.setCell ⟨gc, 2, none⟩ (.int .i64 (n3 : Int))) gc 33 [.int .i64 (n1 : Int), .int .i64 (n2 : Int), .int .i64 (n3 : Int), .string (bs []), .string (bs []), .string (bs []), .int .i64 0, .slice none 0 0].toArray from blk_put0 CB.out 2 (.int .i64 (n3 : Int))); clear CB
  have CB := Lib.hid X.out; clear X
  have X := Lib.hid (ScanCell.of (Blk.setOther HS.out.blk (a := ⟨gc, 2, none⟩) (by have := HGC.out; show gc ≠ _; omega) (.int .i64 (n3 : Int)))); clear HS
  have HS := Lib.hid X.out; clear X
  have X := Lib.hid (Blk.setOther ZB.out (a := ⟨gc, 2, none⟩) (by have := HGC.out; show gc ≠ _; omega) (.int .i64 (n3 : Int))); clear ZB
  have ZB := Lib.hid X.out; clear X
  have X := Lib.hid (Below.setCell BW.out (p := ⟨gc, 2, none⟩) (by have := HGC.out; show _ ≤ gc; omega) (.int .i64 (n3 : Int))); clear BW
  have BW := Lib.hid X.out; clear X
  have X := Lib.hid (show w.heap.size + 1 + 1 ≤ (World.heap (v3.setCell ⟨gc, 2, none⟩ (.int .i64 (n3 : Int)))).size by rw [setCell_size]; exact HZ.out); clear HZ
  have HZ := Lib.hid X.out; clear X
  have X := Lib.hid (show gc + 1 ≤ (World.heap (v3.setCell ⟨gc, 2, none⟩ (.int .i64 (n3 : Int)))).size by rw [setCell_size]; exact HGB.out); clear HGB
  have HGB := Lib.hid X.out; clear X
  refine (scanNum_any (w.heap.size + 1) r3 b3 _ (by omega) HS.out).mono ?_; rintro e v4 ⟨rfl, hs, hg⟩
  rw [H4.out] at hs ⊢
  simp only [] at hs ⊢
  clear HS
  have HS := Lib.hid hs; clear hs
  have X := Lib.hid (ZB.out.grown hg (by omega)); clear ZB
  have ZB := Lib.hid X.out; clear X
  have X := Lib.hid (CB.out.grown hg (fun e => by have := HGC.out; omega)); clear CB
  have CB := Lib.hid X.out; clear X
  have X := Lib.hid (Nat.le_trans HZ.out hg.size); clear HZ
  have HZ := Lib.hid X.out; clear X
  have X := Lib.hid (Nat.le_trans HGB.out hg.size); clear HGB
  have HGB := Lib.hid X.out; clear X
  have X := Lib.hid (Below.grown BW.out hg BW.out.size (fun k hk => by injection hk with hk; omega)); clear BW hg
  have BW := Lib.hid X.out; clear X
  have hq : v4.cell? ⟨gc, 6, none⟩ = some (.int .i64 0) := blk_cell0 (L := [.int .i64 (n1 : Int), .int .i64 (n2 : Int), .int .i64 (n3 : Int), .string (bs []), .string (bs []), .string (bs []), .int .i64 0, .slice none 0 0]) CB.out 6 rfl
  have hfz : v4.frozen? ⟨gc, 6, none⟩ = false := CB.out.frozen 6
  go_wp2_with fail
  clear hq hfz
  have X := Lib.hid (show Blk (v4.setCell ⟨gc, 6, none⟩ (.int .i64 (n4 : Int))) gc 33 [.int .i64 (n1 : Int), .int .i64 (n2 : Int), .int .i64 (n3 : Int), .string (bs []), .string (bs []), .string (bs []), .int .i64 (n4 : Int), .slice none 0 0].toArray from blk_put0 CB.out 6 (.int .i64 (n4 : Int))); clear CB
  have CB := Lib.hid X.out; clear X
  have X := Lib.hid (ScanCell.of (Blk.setOther HS.out.blk (a := ⟨gc, 6, none⟩) (by have := HGC.out; show gc ≠ _; omega) (.int .i64 (n4 : Int)))); clear HS
  have HS := Lib.hid X.out; clear X
  have X := Lib.hid (Blk.setOther ZB.out (a := ⟨gc, 6, none⟩) (by have := HGC.out; show gc ≠ _; omega) (.int .i64 (n4 : Int))); clear ZB
  have ZB := Lib.hid X.out; clear X
  have X := Lib.hid (Below.setCell BW.out (p := ⟨gc, 6, none⟩) (by have := HGC.out; show _ ≤ gc; omega) (.int .i64 (n4 : Int))); clear BW
  have BW := Lib.hid X.out; clear X
  have X := Lib.hid (show w.heap.size + 1 + 1 ≤ (World.heap (v4.setCell ⟨gc, 6, none⟩ (.int .i64 (n4 : Int)))).size by rw [setCell_size]; exact HZ.out); clear HZ
  have HZ := Lib.hid X.out; clear X
  have X := Lib.hid (show gc + 1 ≤ (World.heap (v4.setCell ⟨gc, 6, none⟩ (.int .i64 (n4 : Int)))).size by rw [setCell_size]; exact HGB.out); clear HGB
  have HGB := Lib.hid X.out; clear X
  refine (scanText_any (w.heap.size + 1) r4 b4 _ (by omega) HS.out).mono ?_; rintro e v5 ⟨rfl, hs, hg⟩
  rw [H5.out] at hs ⊢
  simp only [] at hs ⊢
  clear HS
  have HS := Lib.hid hs; clear hs
  have X := Lib.hid (ZB.out.grown hg (by omega)); clear ZB
  have ZB := Lib.hid X.out; clear X
  have X := Lib.hid (CB.out.grown hg (fun e => by have := HGC.out; omega)); clear CB
  have CB := Lib.hid X.out; clear X
  have X := Lib.hid (Nat.le_trans HZ.out hg.size); clear HZ
  have HZ := Lib.hid X.out; clear X
  have X := Lib.hid (Nat.le_trans HGB.out hg.size); clear HGB
  have HGB := Lib.hid X.out; clear X
  have X := Lib.hid (Below.grown BW.out hg BW.out.size (fun k hk => by injection hk with hk; omega)); clear BW hg
  have BW := Lib.hid X.out; clear X
  have hq : v5.cell? ⟨gc, 3, none⟩ = some (.string (bs [])) := blk_cell0 (L := [.int .i64 (n1 : Int), .int .i64 (n2 : Int), .int .i64 (n3 : Int), .string (bs []), .string (bs []), .string (bs []), .int .i64 (n4 : Int), .slice none 0 0]) CB.out 3 rfl
  have hfz : v5.frozen? ⟨gc, 3, none⟩ = false := CB.out.frozen 3
  go_wp2_with fail
  clear hq hfz
  have X := Lib.hid (show Blk (v5.setCell ⟨gc, 3, none⟩ (.string (bs t5))) gc 33 [.int .i64 (n1 : Int), .int .i64 (n2 : Int), .int .i64 (n3 : Int), .string (bs t5), .string (bs []), .string (bs []), .int .i64 (n4 : Int), .slice none 0 0].toArray from blk_put0 CB.out 3 (.string (bs t5))); clear CB
  have CB := Lib.hid X.out; clear X
  have X := Lib.hid (ScanCell.of (Blk.setOther HS.out.blk (a := ⟨gc, 3, none⟩) (by have := HGC.out; show gc ≠ _; omega) (.string (bs t5)))); clear HS
  have HS := Lib.hid X.out; clear X
  have X := Lib.hid (Blk.setOther ZB.out (a := ⟨gc, 3, none⟩) (by have := HGC.out; show gc ≠ _; omega) (.string (bs t5))); clear ZB
  have ZB := Lib.hid X.out; clear X
  have X := Lib.hid (Below.setCell BW.out (p := ⟨gc, 3, none⟩) (by have := HGC.out; show _ ≤ gc; omega) (.string (bs t5))); clear BW
  have BW := Lib.hid X.out; clear X
  have X := Lib.hid (show w.heap.size + 1 + 1 ≤ (World.heap (v5.setCell ⟨gc, 3, none⟩ (.string (bs t5)))).size by rw [setCell_size]; exact HZ.out); clear HZ
  have HZ := Lib.hid X.out; clear X
  have X := Lib.hid (show gc + 1 ≤ (World.heap (v5.setCell ⟨gc, 3, none⟩ (.string (bs t5)))).size by rw [setCell_size]; exact HGB.out); clear HGB
  have HGB := Lib.hid X.out; clear X
  refine (scanText_any (w.heap.size + 1) r5 b5 _ (by omega) HS.out).mono ?_; rintro e v6 ⟨rfl, hs, hg⟩
  rw [H6.out] at hs ⊢
  simp only [] at hs ⊢
  clear HS
  have HS := Lib.hid hs; clear hs
  have X := Lib.hid (ZB.out.grown hg (by omega)); clear ZB
  have ZB := Lib.hid X.out; clear X
  have X := Lib.hid (CB.out.grown hg (fun e => by have := HGC.out; omega)); clear CB
  have CB := Lib.hid X.out; clear X
  have X := Lib.hid (Nat.le_trans HZ.out hg.size); clear HZ
  have HZ := Lib.hid X.out; clear X
  have X := Lib.hid (Nat.le_trans HGB.out hg.size); clear HGB
  have HGB := Lib.hid X.out; clear X
  have X := Lib.hid (Below.grown BW.out hg BW.out.size (fun k hk => by injection hk with hk; omega)); clear BW hg
  have BW := Lib.hid X.out; clear X
  have hq : v6.cell? ⟨gc, 4, none⟩ = some (.string (bs [])) := blk_cell0 (L := [.int .i64 (n1 : Int), .int .i64 (n2 : Int), .int .i64 (n3 : Int), .string (bs t5), .string (bs []), .string (bs []), .int .i64 (n4 : Int), .slice none 0 0]) CB.out 4 rfl
  have hfz : v6.frozen? ⟨gc, 4, none⟩ = false := CB.out.frozen 4
  go_wp2_with fail
  clear hq hfz
  have X := Lib.hid (show Blk (v6.setCell ⟨gc, 4, none⟩ (.string (bs t6))) gc 33 [.int .i64 (n1 : Int), .int .i64 (n2 : Int), .int .i64 (n3 : Int), .string (bs t5), .string (bs t6), .string (bs []), .int .i64 (n4 : Int), .slice none 0 0].toArray from blk_put0 CB.out 4 (.string (bs t6))); clear CB
  have CB := Lib.hid X.out; clear X
  have X := Lib.hid (ScanCell.of (Blk.setOther HS.out.blk (a := ⟨gc, 4, none⟩) (by have := HGC.out; show gc ≠ _; omega) (.string (bs t6)))); clear HS
  have HS := Lib.hid X.out; clear X
  have X := Lib.hid (Blk.setOther ZB.out (a := ⟨gc, 4, none⟩) (by have := HGC.out; show gc ≠ _; omega) (.string (bs t6))); clear ZB
  have ZB := Lib.hid X.out; clear X
  have X := Lib.hid (Below.setCell BW.out (p := ⟨gc, 4, none⟩) (by have := HGC.out; show _ ≤ gc; omega) (.string (bs t6))); clear BW
  have BW := Lib.hid X.out; clear X
  have X := Lib.hid (show w.heap.size + 1 + 1 ≤ (World.heap (v6.setCell ⟨gc, 4, none⟩ (.string (bs t6)))).size by rw [setCell_size]; exact HZ.out); clear HZ
  have HZ := Lib.hid X.out; clear X
  have X := Lib.hid (show gc + 1 ≤ (World.heap (v6.setCell ⟨gc, 4, none⟩ (.string (bs t6)))).size by rw [setCell_size]; exact HGB.out); clear HGB
  have HGB := Lib.hid X.out; clear X
  refine (scanText_any (w.heap.size + 1) r6 b6 _ (by omega) HS.out).mono ?_; rintro e v7 ⟨rfl, hs, hg⟩
  rw [H7.out] at hs ⊢
  simp only [] at hs ⊢
  clear HS
  have HS := Lib.hid hs; clear hs
  have X := Lib.hid (ZB.out.grown hg (by omega)); clear ZB
  have ZB := Lib.hid X.out; clear X
  have X := Lib.hid (CB.out.grown hg (fun e => by have := HGC.out; omega)); clear CB
  have CB := Lib.hid X.out; clear X
  have X := Lib.hid (Nat.le_trans HZ.out hg.size); clear HZ
  have HZ := Lib.hid X.out; clear X
  have X := Lib.hid (Nat.le_trans HGB.out hg.size); clear HGB
  have HGB := Lib.hid X.out; clear X
  have X := Lib.hid (Below.grown BW.out hg BW.out.size (fun k hk => by injection hk with hk; omega)); clear BW hg
  have BW := Lib.hid X.out; clear X
  have hq : v7.cell? ⟨gc, 5, none⟩ = some (.string (bs [])) := blk_cell0 (L := [.int .i64 (n1 : Int), .int .i64 (n2 : Int), .int .i64 (n3 : Int), .string (bs t5), .string (bs t6), .string (bs []), .int .i64 (n4 : Int), .slice none 0 0]) CB.out 5 rfl
  have hfz : v7.frozen? ⟨gc, 5, none⟩ = false := CB.out.frozen 5
  go_wp2_with fail
  clear hq hfz
  have X := Lib.hid (show Blk (v7.setCell ⟨gc, 5, none⟩ (.string (bs t7))) gc 33 [.int .i64 (n1 : Int), .int .i64 (n2 : Int), .int .i64 (n3 : Int), .string (bs t5), .string (bs t6), .string (bs t7), .int .i64 (n4 : Int), .slice none 0 0].toArray from blk_put0 CB.out 5 (.string (bs t7))); clear CB
  have CB := Lib.hid X.out; clear X
  have X := Lib.hid (ScanCell.of (Blk.setOther HS.out.blk (a := ⟨gc, 5, none⟩) (by have := HGC.out; show gc ≠ _; omega) (.string (bs t7)))); clear HS
  have HS := Lib.hid X.out; clear X
  have X := Lib.hid (Blk.setOther ZB.out (a := ⟨gc, 5, none⟩) (by have := HGC.out; show gc ≠ _; omega) (.string (bs t7))); clear ZB
  have ZB := Lib.hid X.out; clear X
  have X := Lib.hid (Below.setCell BW.out (p := ⟨gc, 5, none⟩) (by have := HGC.out; show _ ≤ gc; omega) (.string (bs t7))); clear BW
  have BW := Lib.hid X.out; clear X
  have X := Lib.hid (show w.heap.size + 1 + 1 ≤ (World.heap (v7.setCell ⟨gc, 5, none⟩ (.string (bs t7)))).size by rw [setCell_size]; exact HZ.out); clear HZ
  have HZ := Lib.hid X.out; clear X
  have X := Lib.hid (show gc + 1 ≤ (World.heap (v7.setCell ⟨gc, 5, none⟩ (.string (bs t7)))).size by rw [setCell_size]; exact HGB.out); clear HGB
  have HGB := Lib.hid X.out; clear X
  refine (scanNum_any (w.heap.size + 1) r7 b7 _ (by omega) HS.out).mono ?_; rintro e v8 ⟨rfl, hs, hg⟩
  rw [H8.out] at hs ⊢
  simp only [] at hs ⊢
  clear HS
  have HS := Lib.hid hs; clear hs
  have X := Lib.hid (ZB.out.grown hg (by omega)); clear ZB
  have ZB := Lib.hid X.out; clear X
  have X := Lib.hid (CB.out.grown hg (fun e => by have := HGC.out; omega)); clear CB
  have CB := Lib.hid X.out; clear X
  have X := Lib.hid (Nat.le_trans HZ.out hg.size); clear HZ
  have HZ := Lib.hid X.out; clear X
  have X := Lib.hid (Nat.le_trans HGB.out hg.size); clear HGB
  have HGB := Lib.hid X.out; clear X
  have X := Lib.hid (Below.grown BW.out hg BW.out.size (fun k hk => by injection hk with hk; omega)); clear BW hg
  have BW := Lib.hid X.out; clear X
  clear HGE
  go_wp2
  go_loopw [7, 8] (fun ii _ wr => ∃ (j : Nat) (acc : List (List UInt8)) (rj : List UInt8) (bj : Bool) (Aj : Option Addr) (kj : Nat), j ≤ N ∧ ii = .int .i64 (j : Int) ∧ acc.length = j ∧ rj.length ≤ 1048576 ∧ acc ++ (cutsL (N - j) rj bj).1 = acc9 ∧ (cutsL (N - j) rj bj).2 = (r9, b9) ∧ ScanCell wr (w.heap.size + 1) rj bj ∧ Blk wr w.heap.size 33 [.int .i64 0, .int .i64 0, .int .i64 0, .string (bs []), .string (bs []), .string (bs []), .int .i64 0, .slice none 0 0].toArray ∧ Blk wr gc 33 [.int .i64 (n1 : Int), .int .i64 (n2 : Int), .int .i64 (n3 : Int), .string (bs t5), .string (bs t6), .string (bs t7), .int .i64 (n4 : Int), .slice Aj j kj].toArray ∧ wr.ownsRow (gc + 1) 9 1 (.slice Aj j kj) j (acc.map strv) ∧ Below w.heap.size w wr ∧ gc + 1 ≤ wr.heap.size) (fun ii _ _ => N - (intOf ii).toNat)
  case atStart => exact ⟨0, [], r8, b8, none, 0, Nat.zero_le _, rfl, rfl, l8', by rw [Nat.sub_zero, H9.out]; rfl, by rw [Nat.sub_zero, H9.out], HS.out, ZB.out, CB.out, ⟨by simp, .inl ⟨rfl, rfl⟩⟩, BW.out, HGB.out⟩
  case round =>
    obtain ⟨j, acc, rj, bj, Aj, kj, hj, rfl, hal, hrl, he1, he2, hsc, hzb, hcb, hown, hbw, hgb⟩ := hrel
    clear HS ZB CB BW HZ HGB
    have HS := Lib.hid hsc; clear hsc
    have ZB := Lib.hid hzb; clear hzb
    have CB := Lib.hid hcb; clear hcb
    have HO := Lib.hid hown; clear hown
    have BW := Lib.hid hbw; clear hbw
    have HGB := Lib.hid hgb; clear hgb
    have HAL := Lib.hid hal; clear hal
    have HE1 := Lib.hid he1; clear he1
    have HE2 := Lib.hid he2; clear he2
    by_cases hlt : j < N
    · have hN8 : N = n8 := hN3 (by omega)
      have hjn : (j : Int) < (n8 : Int) := by omega
      have hn84 : (n8 : Int) ≤ 4 := by omega
      obtain ⟨tc, rc, bc, hc⟩ : ∃ a b c, scanCut rj bj 8 = (a, b, c) := ⟨_, _, _, rfl⟩
      have lc := (scanCut_len rj bj 8).1
      rw [hc] at lc
      simp only [] at lc
      have hrc : rc.length ≤ 1048576 := by omega
      clear lc
      have he1 := HE1.out
      have he2 := HE2.out
      rw [show N - j = (N - (j + 1)) + 1 by omega, cutsL, hc] at he1 he2
      simp only [] at he1 he2
      have HE1' := Lib.hid (show (acc ++ [tc]) ++ (cutsL (N - (j + 1)) rc bc).1 = acc9 by rw [← he1, List.append_assoc]; rfl)
      have HE2' := Lib.hid he2
      clear he1 he2 HE1 HE2
      have HC := Lib.hid hc; clear hc
      go_wp2_with fail
      refine (scanCut_any (w.heap.size + 1) rj bj 8 _ (by omega) HS.out).mono ?_; rintro e v2 ⟨rfl, hs, hg⟩
      rw [HC.out] at hs ⊢
      simp only [] at hs ⊢
      clear HS
      have HS := Lib.hid hs; clear hs
      have X := Lib.hid (ZB.out.grown hg (by omega)); clear ZB
      have ZB := Lib.hid X.out; clear X
      have X := Lib.hid (CB.out.grown hg (fun e => by have := HGC.out; omega)); clear CB
      have CB := Lib.hid X.out; clear X
      have X := Lib.hid (HO.out.kept hg (.inr (fun e => by have := (HO.out.lt _ e).1; have := HGC.out; omega))); clear HO
      have HO := Lib.hid X.out; clear X
      have X := Lib.hid (Nat.le_trans HGB.out hg.size); clear HGB
      have HGB := Lib.hid X.out; clear X
      have X := Lib.hid (Below.grown BW.out hg BW.out.size (fun k hk => by injection hk with hk; omega)); clear BW hg
      have BW := Lib.hid X.out; clear X
      have hq : v2.cell? ⟨gc, 7, none⟩ = some (.slice Aj j kj) := blk_cell0 (L := [.int .i64 (n1 : Int), .int .i64 (n2 : Int), .int .i64 (n3 : Int), .string (bs t5), .string (bs t6), .string (bs t7), .int .i64 (n4 : Int), .slice Aj j kj]) CB.out 7 rfl
      go_wp2_with (at_builtin; go_must (refine wpList_app E_str _ rfl _ _ rfl (gc + 1) _ j _ rfl (HO.out.alloc _) _ _ _ _ rfl (Reads.new rfl) (one1 rfl) (by omega) (Nat.le_trans HGB.out (by simp)) ?_; intro vv w3 hown3 hg3 hat3; obtain ⟨Av, kv, rfl, _⟩ := SlR.of_own hown3; have hgb3 : ∀ k, (Value.slice Aj j kj).ownBlock = some k → gc < k := (fun k hk => by have := (HO.out.lt k hk).1; omega); have hcb3 := Blk.keep (CB.out.alloc (.cells #[.string (bs tc)] 9)) (hg3.block _ (CB.out.alloc _).lt (fun e => by have := hgb3 _ e.symm; omega)); have hq3 : w3.cell? ⟨gc, 7, none⟩ = some (.slice Aj j kj) := blk_cell0 (L := [.int .i64 (n1 : Int), .int .i64 (n2 : Int), .int .i64 (n3 : Int), .string (bs t5), .string (bs t6), .string (bs t7), .int .i64 (n4 : Int), .slice Aj j kj]) hcb3 7 rfl; have hfz3 : w3.frozen? ⟨gc, 7, none⟩ = false := hcb3.frozen 7; have HCB3 := Lib.hid hcb3; have HO3 := Lib.hid hown3; have HG3 := Lib.hid hg3; have HGB3 := Lib.hid hgb3; have HAT3 := Lib.hid hat3; clear hcb3 hown3 hg3 hgb3 hat3))
      have hsz3 : v2.heap.size + 1 ≤ w3.heap.size := Nat.le_trans (by simp) HG3.out.size
      have hbv : ∀ k, (Value.slice Av (j + 1) kv).ownBlock = some k → gc < k := fun k hk => by
        rcases HAT3.out with h | h
        · exact HGB3.out k (h.symm.trans hk)
        · have e := hk.symm.trans h
          injection e with e
          have := HGB.out
          simp at e
          omega
      have hsc3 : ScanCell w3 (w.heap.size + 1) rc bc := ScanCell.of (Blk.keep (HS.out.blk.alloc (.cells #[.string (bs tc)] 9)) (HG3.out.block _ (HS.out.blk.alloc _).lt (fun e => by have := HGB3.out _ e.symm; have := HGC.out; omega)))
      have hzb3 := Blk.keep (ZB.out.alloc (.cells #[.string (bs tc)] 9)) (HG3.out.block _ (ZB.out.alloc _).lt (fun e => by have := HGB3.out _ e.symm; have := HGC.out; omega))
      have hbw3 : Below w.heap.size w w3 := Below.grown (BW.out.alloc BW.out.size _) HG3.out (Nat.le_trans BW.out.size (by simp)) (fun k hk => by have := HGB3.out k hk; have := HGC.out; omega)
      have hown4 : (w3.setCell ⟨gc, 7, none⟩ (.slice Av (j + 1) kv)).ownsRow (gc + 1) 9 1 (.slice Av (j + 1) kv) (j + 1) ((acc ++ [tc]).map strv) := by
        rw [List.map_append]
        exact ownsRow_keep HO3.out (fun k hk => ⟨(HO3.out.lt k hk).1, Below.heap_setCell _ _ _ _ (fun e => by have := hbv k hk; have e2 : k = gc := e; omega)⟩)
      exact ⟨⟨j + 1, acc ++ [tc], rc, bc, Av, kv, by omega, by go_num, by rw [List.length_append, HAL.out]; rfl, hrc, HE1'.out, HE2'.out, ScanCell.of (Blk.setOther hsc3.blk (a := ⟨gc, 7, none⟩) (by have := HGC.out; show gc ≠ _; omega) _), Blk.setOther hzb3 (a := ⟨gc, 7, none⟩) (by have := HGC.out; show gc ≠ _; omega) _, blk_put0 HCB3.out 7 _, hown4, Below.setCell hbw3 (p := ⟨gc, 7, none⟩) (by have := HGC.out; show _ ≤ gc; omega) _, by rw [setCell_size]; have := HGB.out; omega⟩, by simp only [intOf]; omega⟩
    · have hjN : j = N := by omega
      subst hjN
      have he1 := HE1.out
      have he2 := HE2.out
      rw [Nat.sub_self, cutsL] at he1 he2
      simp only [List.append_nil] at he1
      injection he2 with e1 e2
      subst e1 e2 he1
      clear HE1 HE2 hlt
      have HCP := HPC.out
      have hbad : World.cell? wr ⟨w.heap.size + 1, 1, none⟩ = some (.bool bj) := HS.out.c1
      rw [← HAL.out] at HO CB
      obtain ⟨cc, hcc⟩ : ∃ cc : CmdD, cc = ⟨(n1 : Int), (n2 : Int), (n3 : Int), t5, t6, t7, (n4 : Int), acc⟩ := ⟨_, rfl⟩
      have hrep : Mine wr (gc + 1) cc.c [.int .i64 (n1 : Int), .int .i64 (n2 : Int), .int .i64 (n3 : Int), .string (bs t5), .string (bs t6), .string (bs t7), .int .i64 (n4 : Int), .slice Aj acc.length kj] := by rw [hcc]; exact cmd_mine HO.out
      rw [← hcc] at HCP
      have HW2 := HWT.out
      rw [← hcc] at HW2
      have hR1 := @readCmd_i1 s
      have hR2 := @readCmd_i2 s
      rw [HCP, ← HR.out] at hR1 hR2
      simp only [] at hR1 hR2
      have HSH := Lib.hid (fun W h => iShowCmd_any cc [.int .i64 (n1 : Int), .int .i64 (n2 : Int), .int .i64 (n3 : Int), .string (bs t5), .string (bs t6), .string (bs t7), .int .i64 (n4 : Int), .slice Aj acc.length kj] W HW2 h)
      obtain ⟨sh, hsh⟩ : ∃ sh, sh = showCmdL cc := ⟨_, rfl⟩
      rw [← hsh] at HSH hR1 hR2
      have HR1 := Lib.hid hR1
      have HR2 := Lib.hid hR2
      have HREP := Lib.hid hrep
      have HCC := Lib.hid hcc
      clear hR1 hR2 hsh HCP HW2 hrep hcc HPC HWT HR
      rcases Nat.lt_or_ge 4 n8 with hn84 | hn84
      · have hj0 := hN4 (by omega)
        have hn1 : (0 : Int) < (n8 : Int) := by omega
        have hn2 : ¬ (n8 : Int) ≤ 4 := by omega
        have HJ0 := Lib.hid hj0
        have hj1 : (j : Int) < (n8 : Int) := by omega
        clear hj0 hN1 hN2 hN3 hN4 hj hn84
        cases hbj : bj
        case true =>
          subst hbj
          have hRz := HR1.out (.inl rfl)
          subst hRz
          go_wp2_with (first | ((with_reducible show wpList _ _ _ ({ dst := _, op := Op.store 33 _ _, type := _, pos := _, after := _, guard := _ } :: _) _ _); refine wpList_store_row _ w.heap.size 33 0 [.int .i64 0, .int .i64 0, .int .i64 0, .string (bs []), .string (bs []), .string (bs []), .int .i64 0, .slice none 0 0] [] [.int .i64 0, .int .i64 0, .int .i64 0, .string (bs []), .string (bs []), .string (bs []), .int .i64 0, .slice none 0 0] [] _ rfl rfl agg_Cmd ZB.out rfl rfl rfl (by simp [Value.oneCell']) ?_; intro v9 hzb hzg) | fail)
          exact bodyPost_cell2 rfl ⟨w.heap.size, 0, none⟩ rfl [.int .i64 0, .int .i64 0, .int .i64 0, .string (bs []), .string (bs []), .string (bs []), .int .i64 0, .slice none 0 0] _ rfl agg_Cmd rfl (blk_cells hzb) rfl ⟨_, rfl, zeroCmd_mine _ _, Below.grown BW.out hzg BW.out.size (fun k hk => by injection hk with hk; omega)⟩
        case false =>
          subst hbj
          have hsn := HBN.out rfl
          have hE1 : s.isEmpty = false := by cases s with | nil => exact absurd rfl hsn | cons _ _ => rfl
          go_wp2_with (first | ((with_reducible show wpList _ _ _ ({ dst := _, op := Op.load 33 _, type := _, pos := _, after := _, guard := _ } :: _) _ _); refine wpList_load_row_g _ (by first | rfl | kernel_rfl) ⟨gc, 0, none⟩ rfl [.int .i64 (n1 : Int), .int .i64 (n2 : Int), .int .i64 (n3 : Int), .string (bs t5), .string (bs t6), .string (bs t7), .int .i64 (n4 : Int), .slice Aj acc.length kj] agg_Cmd rfl (blk_cells CB.out) ?_) | fail)
          refine (HSH.out _ HREP.out.rep.any).mono ?_; rintro e v9 ⟨rfl, hb⟩
          have X := Lib.hid (ZB.out.below hb); clear ZB
          have ZB := Lib.hid X.out; clear X
          have X := Lib.hid (CB.out.below hb); clear CB
          have CB := Lib.hid X.out; clear X
          have X := Lib.hid (HREP.out.below hb); clear HREP
          have HREP := Lib.hid X.out; clear X
          have X := Lib.hid (Nat.le_trans HGB.out hb.size); clear HGB
          have HGB := Lib.hid X.out; clear X
          have X := Lib.hid (show Below w.heap.size w v9 from BW.out.trans (hb.mono BW.out.size)); clear BW hb
          have BW := Lib.hid X.out; clear X
          have HO9 := Lib.hid (HO.out); clear HO
          by_cases hq : sh = s
          · have hRz := HR2.out hsn hq
            subst hRz
            have hb1 : (sh == s) = true := by simp [hq]
            clear hq hsn
            go_wp2_with (first | ((with_reducible show wpList _ _ _ ({ dst := _, op := Op.load 33 _, type := _, pos := _, after := _, guard := _ } :: _) _ _); refine wpList_load_row_g _ (by first | rfl | kernel_rfl) ⟨gc, 0, none⟩ rfl [.int .i64 (n1 : Int), .int .i64 (n2 : Int), .int .i64 (n3 : Int), .string (bs t5), .string (bs t6), .string (bs t7), .int .i64 (n4 : Int), .slice Aj acc.length kj] agg_Cmd rfl (blk_cells CB.out) ?_) | ((with_reducible show wpList _ _ _ ({ dst := _, op := Op.store 33 _ _, type := _, pos := _, after := _, guard := _ } :: _) _ _); refine wpList_store_row _ w.heap.size 33 0 [.int .i64 (n1 : Int), .int .i64 (n2 : Int), .int .i64 (n3 : Int), .string (bs t5), .string (bs t6), .string (bs t7), .int .i64 (n4 : Int), .slice Aj acc.length kj] [] [.int .i64 0, .int .i64 0, .int .i64 0, .string (bs []), .string (bs []), .string (bs []), .int .i64 0, .slice none 0 0] [] _ rfl rfl agg_Cmd ZB.out rfl rfl rfl (by simp [Value.oneCell']) ?_; intro v10 hzb hzg) | fail)
            exact bodyPost_cell2 rfl ⟨w.heap.size, 0, none⟩ rfl [.int .i64 (n1 : Int), .int .i64 (n2 : Int), .int .i64 (n3 : Int), .string (bs t5), .string (bs t6), .string (bs t7), .int .i64 (n4 : Int), .slice Aj acc.length kj] _ rfl agg_Cmd rfl (blk_cells hzb) rfl ⟨_, rfl, HREP.out.grownAt hzg (fun e => by have := HGC.out; omega) (by have := HGC.out; omega), Below.grown BW.out hzg BW.out.size (fun k hk => by injection hk with hk; omega)⟩
          · have hRz := HR1.out (.inr (.inr hq))
            subst hRz
            have hb1 : (sh == s) = false := by simpa using hq
            clear hq hsn
            go_wp2_with (first | ((with_reducible show wpList _ _ _ ({ dst := _, op := Op.store 33 _ _, type := _, pos := _, after := _, guard := _ } :: _) _ _); refine wpList_store_row _ w.heap.size 33 0 [.int .i64 0, .int .i64 0, .int .i64 0, .string (bs []), .string (bs []), .string (bs []), .int .i64 0, .slice none 0 0] [] [.int .i64 0, .int .i64 0, .int .i64 0, .string (bs []), .string (bs []), .string (bs []), .int .i64 0, .slice none 0 0] [] _ rfl rfl agg_Cmd ZB.out rfl rfl rfl (by simp [Value.oneCell']) ?_; intro v9 hzb hzg) | fail)
            exact bodyPost_cell2 rfl ⟨w.heap.size, 0, none⟩ rfl [.int .i64 0, .int .i64 0, .int .i64 0, .string (bs []), .string (bs []), .string (bs []), .int .i64 0, .slice none 0 0] _ rfl agg_Cmd rfl (blk_cells hzb) rfl ⟨_, rfl, zeroCmd_mine _ _, Below.grown BW.out hzg BW.out.size (fun k hk => by injection hk with hk; omega)⟩
      · have hj0 := hN3 (by omega)
        subst hj0
        clear hN1 hN2 hN3 hN4 hj hn84
        cases hbj : bj
        case true =>
          subst hbj
          have hRz := HR1.out (.inl rfl)
          subst hRz
          go_wp2_with (first | ((with_reducible show wpList _ _ _ ({ dst := _, op := Op.store 33 _ _, type := _, pos := _, after := _, guard := _ } :: _) _ _); refine wpList_store_row _ w.heap.size 33 0 [.int .i64 0, .int .i64 0, .int .i64 0, .string (bs []), .string (bs []), .string (bs []), .int .i64 0, .slice none 0 0] [] [.int .i64 0, .int .i64 0, .int .i64 0, .string (bs []), .string (bs []), .string (bs []), .int .i64 0, .slice none 0 0] [] _ rfl rfl agg_Cmd ZB.out rfl rfl rfl (by simp [Value.oneCell']) ?_; intro v9 hzb hzg) | fail)
          exact bodyPost_cell2 rfl ⟨w.heap.size, 0, none⟩ rfl [.int .i64 0, .int .i64 0, .int .i64 0, .string (bs []), .string (bs []), .string (bs []), .int .i64 0, .slice none 0 0] _ rfl agg_Cmd rfl (blk_cells hzb) rfl ⟨_, rfl, zeroCmd_mine _ _, Below.grown BW.out hzg BW.out.size (fun k hk => by injection hk with hk; omega)⟩
        case false =>
          subst hbj
          have hsn := HBN.out rfl
          have hE1 : s.isEmpty = false := by cases s with | nil => exact absurd rfl hsn | cons _ _ => rfl
          go_wp2_with (first | ((with_reducible show wpList _ _ _ ({ dst := _, op := Op.load 33 _, type := _, pos := _, after := _, guard := _ } :: _) _ _); refine wpList_load_row_g _ (by first | rfl | kernel_rfl) ⟨gc, 0, none⟩ rfl [.int .i64 (n1 : Int), .int .i64 (n2 : Int), .int .i64 (n3 : Int), .string (bs t5), .string (bs t6), .string (bs t7), .int .i64 (n4 : Int), .slice Aj acc.length kj] agg_Cmd rfl (blk_cells CB.out) ?_) | fail)
          refine (HSH.out _ HREP.out.rep.any).mono ?_; rintro e v9 ⟨rfl, hb⟩
          have X := Lib.hid (ZB.out.below hb); clear ZB
          have ZB := Lib.hid X.out; clear X
          have X := Lib.hid (CB.out.below hb); clear CB
          have CB := Lib.hid X.out; clear X
          have X := Lib.hid (HREP.out.below hb); clear HREP
          have HREP := Lib.hid X.out; clear X
          have X := Lib.hid (Nat.le_trans HGB.out hb.size); clear HGB
          have HGB := Lib.hid X.out; clear X
          have X := Lib.hid (show Below w.heap.size w v9 from BW.out.trans (hb.mono BW.out.size)); clear BW hb
          have BW := Lib.hid X.out; clear X
          have HO9 := Lib.hid (HO.out); clear HO
          by_cases hq : sh = s
          · have hRz := HR2.out hsn hq
            subst hRz
            have hb1 : (sh == s) = true := by simp [hq]
            clear hq hsn
            go_wp2_with (first | ((with_reducible show wpList _ _ _ ({ dst := _, op := Op.load 33 _, type := _, pos := _, after := _, guard := _ } :: _) _ _); refine wpList_load_row_g _ (by first | rfl | kernel_rfl) ⟨gc, 0, none⟩ rfl [.int .i64 (n1 : Int), .int .i64 (n2 : Int), .int .i64 (n3 : Int), .string (bs t5), .string (bs t6), .string (bs t7), .int .i64 (n4 : Int), .slice Aj acc.length kj] agg_Cmd rfl (blk_cells CB.out) ?_) | ((with_reducible show wpList _ _ _ ({ dst := _, op := Op.store 33 _ _, type := _, pos := _, after := _, guard := _ } :: _) _ _); refine wpList_store_row _ w.heap.size 33 0 [.int .i64 (n1 : Int), .int .i64 (n2 : Int), .int .i64 (n3 : Int), .string (bs t5), .string (bs t6), .string (bs t7), .int .i64 (n4 : Int), .slice Aj acc.length kj] [] [.int .i64 0, .int .i64 0, .int .i64 0, .string (bs []), .string (bs []), .string (bs []), .int .i64 0, .slice none 0 0] [] _ rfl rfl agg_Cmd ZB.out rfl rfl rfl (by simp [Value.oneCell']) ?_; intro v10 hzb hzg) | fail)
            exact bodyPost_cell2 rfl ⟨w.heap.size, 0, none⟩ rfl [.int .i64 (n1 : Int), .int .i64 (n2 : Int), .int .i64 (n3 : Int), .string (bs t5), .string (bs t6), .string (bs t7), .int .i64 (n4 : Int), .slice Aj acc.length kj] _ rfl agg_Cmd rfl (blk_cells hzb) rfl ⟨_, rfl, HREP.out.grownAt hzg (fun e => by have := HGC.out; omega) (by have := HGC.out; omega), Below.grown BW.out hzg BW.out.size (fun k hk => by injection hk with hk; omega)⟩
          · have hRz := HR1.out (.inr (.inr hq))
            subst hRz
            have hb1 : (sh == s) = false := by simpa using hq
            clear hq hsn
            go_wp2_with (first | ((with_reducible show wpList _ _ _ ({ dst := _, op := Op.store 33 _ _, type := _, pos := _, after := _, guard := _ } :: _) _ _); refine wpList_store_row _ w.heap.size 33 0 [.int .i64 0, .int .i64 0, .int .i64 0, .string (bs []), .string (bs []), .string (bs []), .int .i64 0, .slice none 0 0] [] [.int .i64 0, .int .i64 0, .int .i64 0, .string (bs []), .string (bs []), .string (bs []), .int .i64 0, .slice none 0 0] [] _ rfl rfl agg_Cmd ZB.out rfl rfl rfl (by simp [Value.oneCell']) ?_; intro v9 hzb hzg) | fail)
            exact bodyPost_cell2 rfl ⟨w.heap.size, 0, none⟩ rfl [.int .i64 0, .int .i64 0, .int .i64 0, .string (bs []), .string (bs []), .string (bs []), .int .i64 0, .slice none 0 0] _ rfl agg_Cmd rfl (blk_cells hzb) rfl ⟨_, rfl, zeroCmd_mine _ _, Below.grown BW.out hzg BW.out.size (fun k hk => by injection hk with hk; omega)⟩

end Go.Proofs.Ytbdblfpepnoafaa
namespace Go.Proofs.Ytbdblfpepnoafaa
open Go.RowKit
section
variable {P : Program} {md : Region.Mode} {ops : Array Oper}

/-! ### the invariant: what is listed is closed under what it waits for; the floats are listed -/
structure FInv (md : Region.Mode) (ops : Array Oper) (fl : List Nat) (listed : Array Bool) : Prop where
  closed : ∀ j oj, ops[j]? = some oj → listed.getD j false = true → ∀ e ∈ oj.after, Region.binds md e = true → listed.getD e.on false = true
  floats : ∀ t ∈ fl, listed.getD t true = true
theorem FInv.set {fl : List Nat} {i : Nat} {listed : Array Bool} (inv : FInv md ops fl listed) (hi : i ∈ Region.ready md ops listed) : FInv md ops fl (listed.setIfInBounds i true) := by
  obtain ⟨_, oi, hoi, hall⟩ := mem_ready.1 hi
  refine ⟨fun j oj hj hl e he hb => ?_, fun t ht => ?_⟩
  · by_cases hij : i = j
    · subst hij
      have : oj = oi := Option.some.inj (hj.symm.trans hoi)
      subst this
      exact getD_set_true (hall e he hb)
    · rw [getD_set_ne false hij] at hl
      exact getD_set_true (inv.closed j oj hj hl e he hb)
  · by_cases hij : i = t
    · subst hij
      rcases Nat.lt_or_ge i listed.size with h | h
      · simp [h]
      · simp [h]
    · rw [getD_set_ne true hij]
      exact inv.floats t ht
def waitsB (md : Region.Mode) (ops : Array Oper) : Nat → Nat → Nat → Bool
  | 0, _, _ => false
  | f + 1, t, i => match ops[t]? with
    | none => false
    | some o => o.after.toList.any fun e => Region.binds md e && (e.on == i || waitsB md ops f e.on i)
theorem waitsB_listed {fl : List Nat} {listed : Array Bool} (inv : FInv md ops fl listed) : ∀ (f t i : Nat), listed.getD t false = true → waitsB md ops f t i = true → listed.getD i false = true
  | 0, _, _, _, h => by simp [waitsB] at h
  | f + 1, t, i, ht, h => by
    simp only [waitsB] at h
    split at h
    · cases h
    · rename_i o ho
      obtain ⟨e, he, hb⟩ := List.any_eq_true.1 h
      simp only [Bool.and_eq_true, Bool.or_eq_true, beq_iff_eq] at hb
      have hl := inv.closed t o ho ht e (by simpa using he) hb.1
      rcases hb.2 with h1 | h1
      · rw [← h1]; exact hl
      · exact waitsB_listed inv f e.on i hl h1
theorem ready_waits {fl : List Nat} {listed : Array Bool} (inv : FInv md ops fl listed) {f t i : Nat} (ht : t ∈ Region.ready md ops listed) (h : waitsB md ops f t i = true) : listed.getD i false = true := by
  obtain ⟨_, o, ho, hall⟩ := mem_ready.1 ht
  cases f with
  | zero => simp [waitsB] at h
  | succ f =>
    simp only [waitsB, ho] at h
    obtain ⟨e, he, hb⟩ := List.any_eq_true.1 h
    simp only [Bool.and_eq_true, Bool.or_eq_true, beq_iff_eq] at hb
    have hl := hall e (by simpa using he) hb.1
    rcases hb.2 with h1 | h1
    · rw [← h1]; exact hl
    · exact waitsB_listed inv f e.on i hl h1
/-- the head is done before anything but a float of the tail comes up -/
def blockB (md : Region.Mode) (ops : Array Oper) (n : Nat) (fl : List Nat) : Bool :=
  (List.range ops.size).all fun t => decide (t < n) || fl.contains t || (List.range n).all fun i => fl.contains i || waitsB md ops ops.size t i
def BlocksF (md : Region.Mode) (ops : Array Oper) (n : Nat) (fl : List Nat) : Prop := ∀ listed, FInv md ops fl listed → ∀ i, i < n → listed.getD i true = false → ∀ t ∈ Region.ready md ops listed, t < n
theorem blocksF_of {n : Nat} {fl : List Nat} (h : blockB md ops n fl = true) : BlocksF md ops n fl := by
  intro listed inv i hin hun t ht
  have hts : t < ops.size := by
    obtain ⟨_, o, ho, _⟩ := mem_ready.1 ht
    exact (Array.getElem?_eq_some_iff.1 ho).1
  have h1 := List.all_eq_true.1 h t (List.mem_range.2 hts)
  simp only [Bool.or_eq_true, decide_eq_true_eq] at h1
  rcases h1 with (h1 | h1) | h1
  · exact h1
  · have h2 := inv.floats t (by simpa using h1)
    have h3 := (mem_ready.1 ht).1
    rw [h2] at h3; cases h3
  · have h2 := List.all_eq_true.1 h1 i (List.mem_range.2 hin)
    simp only [Bool.or_eq_true] at h2
    rcases h2 with h2 | h2
    · have h3 := inv.floats i (by simpa using h2)
      rw [h3] at hun; cases hun
    · have h3 := ready_waits inv ht h2
      rw [getD_both hun] at h3; cases h3

theorem take_firstF {n i : Nat} {fl : List Nat} {oi : Oper} {v : Value} {C : World → Prop} {L : Array Bool → Act → World → Prop} (hi : ops[i]? = some oi) (hsel : ∀ (j : Nat) (o : Oper) cs b, ops[j]? = some o → o.op ≠ .select cs b)
    (hblk : BlocksF md ops n fl) (hin : i < n) (hdone : ∀ listed a w, L listed a w → ∀ j ∈ Region.ready md ops listed, n ≤ j) :
    ∀ (f : Nat) (listed : Array Bool) (a : Act) (w : World), FInv md ops fl listed →
      (∀ j oj, ops[j]? = some oj → j ≠ i → listed.getD j true = false → (∀ e ∈ oj.after, Region.binds md e = true → e.on ≠ i) → oi.apart ops oj = true) →
      i ∈ Region.ready md ops listed → YieldsE P ops C oi v a → C w →
      wpAnyC P md ops n C L f (listed.setIfInBounds i true) (a.put oi.dst v) w → wpAnyC P md ops n C L (f + 1) listed a w := by
  intro f
  induction f with
  | zero =>
    intro listed a w inv _ hr hy hw H
    have hun := (mem_ready.1 hr).1
    refine ⟨hw, fun h => (by rw [h] at hr; cases hr), fun j hj => ?_⟩
    have hjn := hblk listed inv i hin hun j hj
    refine ⟨hjn, ?_⟩
    by_cases hji : j = i
    · subst hji
      exact hy.go hi hw H
    · have := hdone _ _ _ H.2 j (ready_mono hj hji)
      omega
  | succ f ih =>
    intro listed a w inv hfree hr hy hw H
    have hun := (mem_ready.1 hr).1
    refine ⟨hw, fun h => (by rw [h] at hr; cases hr), fun j hj => ?_⟩
    have hjn := hblk listed inv i hin hun j hj
    refine ⟨hjn, ?_⟩
    by_cases hji : j = i
    · subst hji
      exact hy.go hi hw H
    · have h1 := (H.2.2 j (ready_mono hj hji)).2
      obtain ⟨hjun, oj, hoj, hall⟩ := mem_ready.1 hj
      have hnot : ∀ e ∈ oj.after, Region.binds md e = true → e.on ≠ i := fun e he hb heq => by
        have h1 := hall e he hb
        rw [heq, getD_both hun] at h1
        cases h1
      have h2 := move_past hoj (hfree j oj hoj hji hjun hnot) (fun cs b => hsel i oi cs b hi) (fun cs b => hsel j oj cs b hoj) hy h1
      have hfree' : ∀ k ok, ops[k]? = some ok → k ≠ i → (listed.setIfInBounds j true).getD k true = false →
          (∀ e ∈ ok.after, Region.binds md e = true → e.on ≠ i) → oi.apart ops ok = true := fun k ok hk hki hun2 hno => by
        refine hfree k ok hk hki ?_ hno
        by_cases hjk : j = k
        · subst hjk; exact hjun
        · rw [getD_set_ne true hjk] at hun2; exact hun2
      refine wpOp_mono (fun a' w' h3 => ?_) h2
      have hcw : C w' := by
        cases f with
        | zero => exact h3.2.1
        | succ f => exact h3.2.1
      refine ih (listed.setIfInBounds j true) a' w' (inv.set hj) hfree' (ready_mono hr (Ne.symm hji)) h3.1 hcw ?_
      rw [Array.setIfInBounds_comm _ _ hji]
      exact h3.2

/-! ### a head in one order: reads, structs built, actors -/
def buildOf : Op → Option (TypeId × Array (Nat × Operand))
  | .build t parts => some (t, parts)
  | _ => none
theorem buildOf_spec {op : Op} {t : TypeId} {parts : Array (Nat × Operand)} (h : buildOf op = some (t, parts)) : op = .build t parts := by
  cases op <;> simp [buildOf] at h
  obtain ⟨rfl, rfl⟩ := h
  rfl
def wpH (P : Program) (ops : Array Oper) (Q : Exit → Act → World → Prop) (tail : List Oper) : List Nat → Act → World → Prop
  | [], a, w => wpList P ops Q tail a w
  | i :: r, a, w => match ops[i]? with
    | none => False
    | some o => match buildOf o.op with
      | some (t, parts) => o.guard = none ∧ ∃ cells, P.built t (parts.map fun (i, x) => (i, a.eval x)).toList = some cells ∧ wpH P ops Q tail r (a.put o.dst (.agg cells)) w
      | none =>
        if quietKind P o.op = true then (Region.wanted o (yielded ops a.tmps) = true → plainB o a = true) ∧ wpList P ops (stopQ w (wpH P ops Q tail r)) [o] a w
        else wpList P ops (stopA w (wpH P ops Q tail r)) [o] a w
section
variable {Q : Exit → Act → World → Prop} {tail : List Oper} {i : Nat} {r : List Nat} {a : Act} {w : World} {o : Oper}
theorem wpH_build (hi : ops[i]? = some o) {t : TypeId} {parts : Array (Nat × Operand)} (hb : buildOf o.op = some (t, parts)) (hg : o.guard = none) (cells : Array Value) (hc : P.built t (parts.map fun (i, x) => (i, a.eval x)).toList = some cells)
    (h : wpH P ops Q tail r (a.put o.dst (.agg cells)) w) : wpH P ops Q tail (i :: r) a w := by
  simp only [wpH, hi, hb]; exact ⟨hg, cells, hc, h⟩
theorem wpH_quiet (hi : ops[i]? = some o) (hb : buildOf o.op = none) (hk : quietKind P o.op = true) (hp : plainB o a = true)
    (h : wpList P ops (stopQ w (wpH P ops Q tail r)) [o] a w) : wpH P ops Q tail (i :: r) a w := by
  simp only [wpH, hi, hb, hk, if_true]
  exact ⟨fun _ => hp, h⟩
theorem wpH_actor (hi : ops[i]? = some o) (hb : buildOf o.op = none) (hk : quietKind P o.op = false)
    (h : wpList P ops (stopA w (wpH P ops Q tail r)) [o] a w) : wpH P ops Q tail (i :: r) a w := by
  simp only [wpH, hi, hb, hk, Bool.false_eq_true, if_false]
  exact h
theorem wpH_nil (h : wpList P ops Q tail a w) : wpH P ops Q tail [] a w := h
end
theorem execOp_build {a : Act} {o : Oper} {t : TypeId} {parts : Array (Nat × Operand)} (hb : buildOf o.op = some (t, parts)) {cells : Array Value} (hc : P.built t (parts.map fun (i, x) => (i, a.eval x)).toList = some cells) (w : World) :
    (execOp a.eval o).run P w = .ok (.value (.agg cells)) w := by
  obtain ⟨dst, op, type, pos, after, guard⟩ := o
  have := buildOf_spec hb
  simp only at this
  subst this
  show (do Pure.pure (Next.value (← Instr.build t (parts.map fun (i, x) => (i, a.eval x)))) : Sem Next).run P w = _
  rw [Sem.run_bind, run_build w t _ cells hc]
  simp only [Result.andThen, Sem.run_pure]

def headSimF (P : Program) (md : Region.Mode) (ops : Array Oper) (n : Nat) (seq : Array Bool → Bool) : List Nat → Array Bool → Bool
  | [], listed => seq listed
  | i :: r, listed => decide (i < n) && (match ops[i]? with
      | none => false
      | some o => if (buildOf o.op).isSome || quietKind P o.op then (Region.ready md ops listed).contains i && Region.free md ops listed i else decide (Region.ready md ops listed = [i])) &&
    headSimF P md ops n seq r (listed.setIfInBounds i true)

theorem wpAnyC_of_XF {n : Nat} {fl : List Nat} {Q : Exit → Act → World → Prop} {tail : List Oper} {seq : Array Bool → Bool} (hsel : ∀ (j : Nat) (o : Oper) cs b, ops[j]? = some o → o.op ≠ .select cs b) (hblk : BlocksF md ops n fl) (hseq : ∀ listed, seq listed = true → ∀ j ∈ Region.ready md ops listed, n ≤ j) :
    ∀ (r : List Nat) (listed : Array Bool) (a : Act) (w : World), FInv md ops fl listed → headSimF P md ops n seq r listed = true → wpH P ops Q tail r a w →
      wpAnyC P md ops n (Ext w) (fun listed' a' w' => seq listed' = true ∧ wpList P ops Q tail a' w') r.length listed a w
  | [], _, _, w, _, hB, h => ⟨Ext.refl w, hB, h⟩
  | i :: r, listed, a, w, inv, hB, h => by
    simp only [headSimF, Bool.and_eq_true, decide_eq_true_eq] at hB
    obtain ⟨⟨hin, hB1⟩, hB2⟩ := hB
    cases ho : ops[i]? with
    | none => rw [ho] at hB1; cases hB1
    | some o =>
      rw [ho] at hB1
      simp only [wpH, ho] at h
      simp only at hB1
      have hdone : ∀ (listed : Array Bool) (a : Act) (w : World), (seq listed = true ∧ wpList P ops Q tail a w) → ∀ j ∈ Region.ready md ops listed, n ≤ j := fun _ _ _ hx => hseq _ hx.1
      cases hbo : buildOf o.op with
      | some tp =>
        obtain ⟨t, parts⟩ := tp
        rw [hbo] at hB1 h
        simp only [Option.isSome_some, Bool.true_or, if_true, Bool.and_eq_true] at hB1
        have hr : i ∈ Region.ready md ops listed := by simpa using hB1.1
        obtain ⟨hg, cells, hc, hX⟩ := h
        have hw : Region.wanted o (yielded ops a.tmps) = true := by simp [Region.wanted, hg]
        exact take_firstF ho hsel hblk hin hdone r.length listed a w inv (fun j oj hj hne hun hno => Region.free_spec ho hB1.2 j oj hj hne hun hno) hr (.inl ⟨hw, fun w2 _ => execOp_build hbo hc w2⟩) (Ext.refl w)
          (wpAnyC_of_XF hsel hblk hseq r _ _ w (inv.set hr) hB2 hX)
      | none =>
      rw [hbo] at hB1 h
      simp only [Option.isSome_none, Bool.false_or] at hB1 h
      by_cases hk : quietKind P o.op = true
      · rw [if_pos hk] at hB1 h
        simp only [Bool.and_eq_true] at hB1
        have hr : i ∈ Region.ready md ops listed := by simpa using hB1.1
        obtain ⟨hp, h⟩ := h
        simp only [wpList] at h
        have key : ∃ v, YieldsE P ops (Ext w) o v a ∧ wpH P ops Q tail r (a.put o.dst v) w := by
          by_cases hw : Region.wanted o (yielded ops a.tmps) = true
          · rw [if_pos hw] at h
            rcases h with h | ⟨_, _, _, hx⟩
            · have hst := Stable.op (P := P) (o := o) (a := a) hk (hp hw)
              unfold Oper.wp at h
              cases hrun : (execOp a.eval o).run P w with
              | halt x w' =>
                rw [hrun] at h
                cases x <;> simp only [Oper.upon] at h
                exact h.elim
              | ok nx w' =>
                obtain ⟨rfl, hall⟩ := hst w nx w' hrun
                rw [hrun] at h
                have hval : ∃ v, nx = .value v := by
                  obtain ⟨dst, op, type, pos, after, guard⟩ := o
                  have fromVal : ∀ {s : Sem Value}, (do Pure.pure (Next.value (← s)) : Sem Next).run P w' = .ok nx w' → ∃ v, nx = .value v := fun {s} hs => by
                    rw [Sem.run_bind] at hs
                    cases hs2 : s.run P w' with
                    | halt _ _ => rw [hs2] at hs; cases hs
                    | ok v w2 =>
                      rw [hs2] at hs
                      simp only [Result.andThen, Sem.run_pure, Result.ok.injEq] at hs
                      exact ⟨v, hs.1.symm⟩
                  cases op <;> first | exact absurd hk Bool.false_ne_true | exact fromVal hrun | skip
                  case move x => simp only [execOp, Sem.run_pure, Result.ok.injEq] at hrun; exact ⟨_, hrun.1.symm⟩
                  case assign x => simp only [execOp, Sem.run_pure, Result.ok.injEq] at hrun; exact ⟨_, hrun.1.symm⟩
                  case pick c x y =>
                    simp only [execOp, Sem.run_bind] at hrun
                    cases hs2 : (asBool (a.eval c)).run P w' with
                    | halt _ _ => rw [hs2] at hrun; cases hrun
                    | ok v w2 =>
                      rw [hs2] at hrun
                      simp only [Result.andThen, Sem.run_pure, Result.ok.injEq] at hrun
                      exact ⟨_, hrun.1.symm⟩
                  case nilCheck x =>
                    have hp' := hp hw
                    simp only [plainB] at hp'
                    simp only [execOp] at hrun
                    split at hp'
                    · rename_i ad he
                      rw [he] at hrun
                      simp only [Sem.run_pure, Result.ok.injEq] at hrun
                      exact ⟨_, hrun.1.symm⟩
                    · cases hp'
                  case call c =>
                    obtain ⟨⟨x, t⟩, hc⟩ := Option.isSome_iff_exists.1 (show (lenCall c).isSome = true from hk)
                    have hc' := lenCall_spec hc
                    subst hc'
                    refine fromVal (s := Builtin.len_ #[t] type #[a.eval x]) ?_
                    rw [← hrun]
                    simp only [execOp, resolve, invoke, builtin, Sem.run_bind, Sem.run_pure, Result.andThen_ok, List.map_toArray, List.map_cons, List.map_nil]
                obtain ⟨v, rfl⟩ := hval
                simp only [Oper.upon] at h
                exact ⟨v, .inl ⟨hw, fun w2 hw2 => hall w2 hw2⟩, h.2⟩
            · exact hx.elim
          · rw [if_neg hw] at h
            exact ⟨undef, .inr ⟨by simpa using hw, rfl⟩, h.2⟩
        obtain ⟨v, hy, hX⟩ := key
        exact take_firstF ho hsel hblk hin hdone r.length listed a w inv (fun j oj hj hne hun hno => Region.free_spec ho hB1.2 j oj hj hne hun hno) hr hy (Ext.refl w)
          (wpAnyC_of_XF hsel hblk hseq r _ _ w (inv.set hr) hB2 hX)
      · rw [if_neg hk] at hB1 h
        have hready : Region.ready md ops listed = [i] := by simpa using hB1
        have hr : i ∈ Region.ready md ops listed := by rw [hready]; simp
        refine ⟨Ext.refl w, by rw [hready]; simp, fun j hj => ?_⟩
        rw [hready] at hj
        have hji : j = i := by simpa using hj
        subst hji
        refine ⟨hin, ?_⟩
        have step : ∀ a' w', stopA w (wpH P ops Q tail r) .normal a' w' → wpAnyC P md ops n (Ext w) (fun listed' a' w' => seq listed' = true ∧ wpList P ops Q tail a' w') r.length (listed.setIfInBounds j true) a' w' :=
          fun a' w' hs => wpAnyC_mono (fun w2 h2 => hs.1.trans h2) _ _ _ _ (wpAnyC_of_XF hsel hblk hseq r _ a' w' (inv.set hr) hB2 hs.2)
        unfold wpOp
        simp only [ho]
        simp only [wpList] at h
        by_cases hw : Region.wanted o (yielded ops a.tmps) = true
        · rw [if_pos hw] at h ⊢
          rcases h with h | ⟨_, _, _, hx⟩
          · exact .inl (wp_off stopA_off step h)
          · exact hx.elim
        · rw [if_neg hw] at h ⊢
          exact step _ _ h

/-! ### the tail: one operation after the other, none of which leaves the region -/
def stopN (Q : Exit → Act → World → Prop) : Exit → Act → World → Prop
  | .normal, a, w => True ∧ Q .normal a w
  | _, _, _ => False
def seqZ (md : Region.Mode) (ops : Array Oper) : List Nat → Array Bool → Bool
  | [], listed => decide (Region.ready md ops listed = [])
  | i :: z, listed => decide (Region.ready md ops listed = [i]) && seqZ md ops z (listed.setIfInBounds i true)
theorem seqZ_ge {n : Nat} : ∀ {z : List Nat} {listed : Array Bool}, (∀ t ∈ z, n ≤ t) → seqZ md ops z listed = true → ∀ j ∈ Region.ready md ops listed, n ≤ j
  | [], listed, _, h, j, hj => by simp only [seqZ, decide_eq_true_eq] at h; rw [h] at hj; cases hj
  | i :: z, listed, hz, h, j, hj => by
    simp only [seqZ, Bool.and_eq_true, decide_eq_true_eq] at h
    rw [h.1] at hj
    have : j = i := by simpa using hj
    subst this
    exact hz j (by simp)
def LQ (md : Region.Mode) (ops : Array Oper) (Q : Exit → Act → World → Prop) (listed : Array Bool) (a : Act) (w : World) : Prop := Region.ready md ops listed = [] ∧ Q .normal a w
def pickOps (ops : Array Oper) : List Nat → List Oper
  | [] => []
  | i :: z => match ops[i]? with | none => [] | some o => o :: pickOps ops z
theorem wpAnyC_of_Z {Q : Exit → Act → World → Prop} : ∀ (z : List Nat) (listed : Array Bool) (a : Act) (w : World), seqZ md ops z listed = true → wpList P ops (stopN Q) (pickOps ops z) a w →
    wpAnyC P md ops ops.size (fun _ => True) (LQ md ops Q) z.length listed a w
  | [], listed, a, w, hB, h => ⟨trivial, by simpa [seqZ] using hB, h.2⟩
  | i :: z, listed, a, w, hB, h => by
    simp only [seqZ, Bool.and_eq_true, decide_eq_true_eq] at hB
    have hr : i ∈ Region.ready md ops listed := by rw [hB.1]; simp
    obtain ⟨_, o, ho, _⟩ := mem_ready.1 hr
    refine ⟨trivial, by rw [hB.1]; simp, fun j hj => ?_⟩
    rw [hB.1] at hj
    have hji : j = i := by simpa using hj
    subst hji
    refine ⟨(Array.getElem?_eq_some_iff.1 ho).1, ?_⟩
    simp only [pickOps, ho] at h
    unfold wpOp
    simp only [ho]
    simp only [wpList] at h
    have step : ∀ a' w', wpList P ops (stopN Q) (pickOps ops z) a' w' → wpAnyC P md ops ops.size (fun _ => True) (LQ md ops Q) z.length (listed.setIfInBounds j true) a' w' := fun a' w' h' => wpAnyC_of_Z z _ a' w' hB.2 h'
    by_cases hw : Region.wanted o (yielded ops a.tmps) = true
    · rw [if_pos hw] at h ⊢
      rcases h with h | ⟨_, _, _, hx⟩
      · refine .inl (wp_off (fun e a w hs => ?_) step h)
        cases e <;> first | rfl | exact hs.elim
      · exact hx.elim
    · rw [if_neg hw] at h ⊢
      exact step _ _ h
theorem wpAnyC_glue {n g : Nat} {C : World → Prop} {L L' : Array Bool → Act → World → Prop} (hn : n ≤ ops.size) (hL : ∀ listed a w, L listed a w → wpAnyC P md ops ops.size (fun _ => True) L' g listed a w) :
    ∀ (f : Nat) (listed : Array Bool) (a : Act) (w : World), wpAnyC P md ops n C L f listed a w → wpAnyC P md ops ops.size (fun _ => True) L' (f + g) listed a w
  | 0, listed, a, w, h => by rw [Nat.zero_add]; exact hL _ _ _ h.2
  | f + 1, listed, a, w, h => by
    rw [show f + 1 + g = (f + g) + 1 by omega]
    exact ⟨trivial, h.2.1, fun i hi => ⟨Nat.lt_of_lt_of_le (h.2.2 i hi).1 hn, wpOp_mono (fun a' w' h' => wpAnyC_glue hn hL f _ a' w' h') (h.2.2 i hi).2⟩⟩

/-! ### the floats: addresses of fields -/
def floatKind (P : Program) : Op → Bool
  | .fieldAddr t _ f => fieldPlain P t f
  | .move _ => true
  | .assign _ => true
  | _ => false
theorem float_run {o : Oper} {a : Act} {w w1 : World} {nx : Next} (hk : floatKind P o.op = true) (hrun : (execOp a.eval o).run P w = .ok nx w1) : w1 = w ∧ ∃ v, nx = .value v ∧ ∀ w', (execOp a.eval o).run P w' = .ok nx w' := by
  obtain ⟨dst, op, type, pos, after, guard⟩ := o
  cases op <;> first | exact absurd hk Bool.false_ne_true | skip
  case move x =>
    simp only [execOp, Sem.run_pure, Result.ok.injEq] at hrun
    obtain ⟨rfl, rfl⟩ := hrun
    exact ⟨rfl, _, rfl, fun w' => by simp only [execOp, Sem.run_pure]⟩
  case assign x =>
    simp only [execOp, Sem.run_pure, Result.ok.injEq] at hrun
    obtain ⟨rfl, rfl⟩ := hrun
    exact ⟨rfl, _, rfl, fun w' => by simp only [execOp, Sem.run_pure]⟩
  case fieldAddr t x f =>
    have h : fieldPlain P t f = true := hk
    unfold fieldPlain at h
    split at h
    · rename_i fs hfs
      split at h
      · rename_i fd hfd
        split at h
        · rename_i i hi
          have hsz : i.size ≠ 0 := by simpa using h
          have hr : ∀ w : World, (Instr.fieldAt t (a.eval x) f).run P w = (do
              let a ← Instr.sureAddr (a.eval x)
              Pure.pure (Value.pointer (some (a.add fd.offset))) : Sem Value).run P w := by
            intro w
            unfold Instr.fieldAt
            simp only [Sem.run_bind, run_underlying hfs, Result.andThen, hfd]
            cases hs : (Instr.sureAddr (a.eval x)).run P w with
            | halt _ _ => rfl
            | ok a w1 =>
              simp only [fieldPlace, Sem.run_bind, sizeOf, typeInfo, Go.program, Sem.run]
              simp [Sem.run, Result.andThen, hi, hsz, Sem.run_bind, Go.program]
          have hex : ∀ w : World, (execOp a.eval { dst := dst, op := Op.fieldAddr t x f, type := type, pos := pos, after := after, guard := guard }).run P w = (do Pure.pure (Next.value (← (Instr.fieldAt t (a.eval x) f))) : Sem Next).run P w := fun w => rfl
          rw [hex, Sem.run_bind, hr] at hrun
          cases hx : a.eval x <;> first | (simp [hx, Instr.sureAddr, Sem.run_bind, Sem.run, Result.andThen] at hrun; done) | skip
          rename_i pa
          cases pa with
          | none => simp [hx, Instr.sureAddr, Sem.run_bind, Sem.run, Result.andThen] at hrun
          | some ad =>
            simp only [hx, Instr.sureAddr, Sem.run_bind, Sem.run_pure, Result.andThen, Result.ok.injEq] at hrun
            obtain ⟨rfl, rfl⟩ := hrun
            exact ⟨rfl, _, rfl, fun w' => by rw [hex, Sem.run_bind, hr]; simp only [hx, Instr.sureAddr, Sem.run_bind, Sem.run_pure, Result.andThen]⟩
        · cases h
      · cases h
    · cases h
def wpFl (P : Program) (ops : Array Oper) (K : Act → World → Prop) : List Nat → Act → World → Prop
  | [], a, w => K a w
  | i :: r, a, w => match ops[i]? with
    | none => False
    | some o => wpList P ops (stopQ w (wpFl P ops K r)) [o] a w
theorem wpFl_step {K : Act → World → Prop} {i : Nat} {r : List Nat} {a : Act} {w : World} {o : Oper} (hi : ops[i]? = some o) (h : wpList P ops (stopQ w (wpFl P ops K r)) [o] a w) : wpFl P ops K (i :: r) a w := by
  simp only [wpFl, hi]; exact h
theorem wpFl_nil {K : Act → World → Prop} {a : Act} {w : World} (h : K a w) : wpFl P ops K [] a w := h
def floatSim (P : Program) (md : Region.Mode) (ops : Array Oper) (next : Array Bool → Bool) : List Nat → Array Bool → Bool
  | [], listed => next listed
  | i :: r, listed => (match ops[i]? with
      | none => false
      | some o => floatKind P o.op && (o.guard.isNone && ((Region.ready md ops listed).contains i && Region.free md ops listed i))) && floatSim P md ops next r (listed.setIfInBounds i true)
theorem BlocksF_all : BlocksF md ops ops.size [] := fun listed _ i _ _ t ht => by
  obtain ⟨_, o, ho, _⟩ := mem_ready.1 ht
  exact (Array.getElem?_eq_some_iff.1 ho).1
theorem wpAnyC_of_Fl {Q : Exit → Act → World → Prop} {K : Act → World → Prop} {next : Array Bool → Bool} {g : Nat} (hsel : ∀ (j : Nat) (o : Oper) cs b, ops[j]? = some o → o.op ≠ .select cs b)
    (hK : ∀ listed a w, FInv md ops [] listed → next listed = true → K a w → wpAnyC P md ops ops.size (fun _ => True) (LQ md ops Q) g listed a w) :
    ∀ (r : List Nat) (listed : Array Bool) (a : Act) (w : World), FInv md ops [] listed → floatSim P md ops next r listed = true → wpFl P ops K r a w →
      wpAnyC P md ops ops.size (fun _ => True) (LQ md ops Q) (r.length + g) listed a w
  | [], listed, a, w, inv, hB, h => by rw [List.length_nil, Nat.zero_add]; exact hK _ _ _ inv hB h
  | i :: r, listed, a, w, inv, hB, h => by
    simp only [floatSim, Bool.and_eq_true] at hB
    obtain ⟨hB1, hB2⟩ := hB
    cases ho : ops[i]? with
    | none => rw [ho] at hB1; cases hB1
    | some o =>
      rw [ho] at hB1
      simp only [Bool.and_eq_true] at hB1
      obtain ⟨hk, hgd, hr1, hfr⟩ := hB1
      have hr : i ∈ Region.ready md ops listed := by simpa using hr1
      simp only [wpFl, ho] at h
      have hw : Region.wanted o (yielded ops a.tmps) = true := by
        have : o.guard = none := by simpa using hgd
        simp [Region.wanted, this]
      simp only [wpList, hw, if_true] at h
      rcases h with h | ⟨_, _, _, hx⟩
      · unfold Oper.wp at h
        cases hrun : (execOp a.eval o).run P w with
        | halt x w' =>
          rw [hrun] at h
          cases x <;> simp only [Oper.upon] at h
          exact h.elim
        | ok nx w' =>
          obtain ⟨rfl, v, rfl, hall⟩ := float_run hk hrun
          rw [hrun] at h
          simp only [Oper.upon] at h
          rw [show (i :: r).length + g = (r.length + g) + 1 by simp only [List.length_cons]; omega]
          exact take_firstF (fl := []) ho hsel BlocksF_all (by exact (Array.getElem?_eq_some_iff.1 ho).1) (fun _ _ _ hx j hj => by rw [hx.1] at hj; cases hj) _ listed a w' inv (fun j oj hj hne hun hno => Region.free_spec ho hfr j oj hj hne hun hno) hr (.inl ⟨hw, fun w2 _ => hall w2⟩) trivial
            (wpAnyC_of_Fl hsel hK r _ _ w' (inv.set hr) hB2 h.2)
      · exact hx.elim
theorem FInv.floated {fl : List Nat} {listed : Array Bool} (inv : FInv md ops [] listed) (h : fl.all (fun t => listed.getD t true) = true) : FInv md ops fl listed :=
  ⟨inv.closed, fun t ht => List.all_eq_true.1 h t ht⟩
/-- The law's check: floats fl, the head n in the order r (without floats), the tail in the order z. -/
def regH (P : Program) (md : Region.Mode) (ops : Array Oper) (n : Nat) (fl r z : List Nat) : Bool :=
  Region.noSelect ops && decide (n ≤ ops.size) && decide (fl.length + r.length + z.length = ops.size) && z.all (fun t => decide (n ≤ t)) && blockB md ops n fl &&
    floatSim P md ops (fun listed => fl.all (fun t => listed.getD t true) && headSimF P md ops n (seqZ md ops z) r listed) fl (Array.replicate ops.size false)
theorem wp_region_h {id : Nat} {Q : Exit → Act → World → Prop} {a : Act} {w : World} {l : List Oper} (n : Nat) (fl r z : List Nat) (hm : P.follows .mixedOrders = true) (hB : regH P .any l.toArray n fl r z = true)
    (h : wpFl P l.toArray (wpH P l.toArray (stopN Q) (pickOps l.toArray z) r) fl a w.drew) : (Code.region id l.toArray true).wp P Q a w := by
  simp only [regH, Bool.and_eq_true, decide_eq_true_eq] at hB
  obtain ⟨⟨⟨⟨⟨hsel, hn⟩, hlen⟩, hz⟩, hblk⟩, hsim⟩ := hB
  have hz' : ∀ t ∈ z, n ≤ t := fun t ht => by simpa using List.all_eq_true.1 hz t ht
  have inv0 : FInv .any l.toArray [] (Array.replicate l.toArray.size false) := ⟨fun j oj _ hl => (by rw [getD_replicate_false] at hl; cases hl), fun t ht => absurd ht (by simp)⟩
  have h1 := wpAnyC_of_Fl (P := P) (md := .any) (ops := l.toArray) (Q := Q) (g := r.length + z.length) (K := wpH P l.toArray (stopN Q) (pickOps l.toArray z) r) (Region.noSelect_spec hsel) (fun listed a w inv hnx hK => by
    simp only [Bool.and_eq_true] at hnx
    have h2 := wpAnyC_of_XF (P := P) (Region.noSelect_spec hsel) (blocksF_of hblk) (fun listed hs => seqZ_ge hz' hs) r listed a w (inv.floated hnx.1) hnx.2 hK
    exact wpAnyC_glue hn (fun listed a w hL => wpAnyC_of_Z z listed a w hL.1 hL.2) r.length listed a w h2) fl _ a w.drew inv0 hsim h
  have h3 := wpAny_of_C (P := P) (md := .any) (Q := Q) (g := 0) (n := l.toArray.size) (C := fun _ => True) (L := LQ .any l.toArray Q) (fun listed a w hL => hL) _ _ a w.drew h1
  refine wp_region_any hm ?_
  rw [show l.toArray.size = fl.length + (r.length + z.length) + 0 by omega]
  rw [show fl.length + (r.length + z.length) + 0 = l.toArray.size by omega]
  rw [show fl.length + (r.length + z.length) + 0 = l.toArray.size by omega] at h3
  exact h3
end
end Go.Proofs.Ytbdblfpepnoafaa
namespace Go.Proofs.Ytbdblfpepnoafaa
open Go.RowKit

theorem _root_.Go.World.ownsRow.keptBelow {w w' : World} {base e sz n : Nat} {v : Value} {xs : List Value} (h : w.ownsRow base e sz v n xs) (hb : Below w.heap.size w w') : w'.ownsRow base e sz v n xs :=
  ownsRow_keep h (fun b hk => ⟨(h.lt b hk).1, hb.block b (h.lt b hk).2⟩)
theorem bReadCmd (s : List UInt8) (h : s.length ≤ 1048576) : (fReadCmd s).1.c.wt ≤ 4611686018427387 ∧ (fReadCmd s).1.cntT ≤ 4611686018427387 := by
  have key : ∀ c : CmdD, c.c.wt ≤ 1048576 → c.c.wt ≤ 4611686018427387 ∧ c.cntT ≤ 4611686018427387 := fun c hc => by
    have h1 : c.cntT = cts (fun _ => 1) c.chunks := rfl
    have h2 : cts (fun _ : List UInt8 => 1) c.chunks = c.chunks.length := cts_one _
    have h3 := wt_cmd c
    omega
  refine key _ ?_
  unfold fReadCmd
  split
  · exact Nat.le_trans (parseC_wt s) h
  · exact Nat.zero_le _
theorem l4V_adv (s : List UInt8) : ∀ (n : Nat) (at_ : Int), 0 ≤ (l4V s n at_).2 → at_ + n ≤ (l4V s n at_).2 ∧ 0 ≤ at_
  | 0, at_, h => by simp only [l4V] at h ⊢; omega
  | n + 1, at_, h => by
    by_cases hb : at_ < 0 ∨ at_ > s.length
    · rw [l4V_bad s n _ hb] at h; simp at h
    · by_cases h0 : (readVarF (s.drop at_.toNat)).2 = 0
      · rw [l4V_zero s n _ hb h0] at h; simp at h
      · rw [l4V_next s n _ hb h0] at h ⊢
        have := l4V_adv s n _ h
        simp only [] at this ⊢
        omega
theorem l4T_adv (s : List UInt8) (at_ : Int) (h : 0 ≤ (l4T s at_).2) : at_ + 1 + (l4T s at_).1.length ≤ (l4T s at_).2 ∧ 0 ≤ at_ := by
  unfold l4T at h ⊢
  split at h
  · simp at h
  · rename_i hc
    rw [if_neg hc]
    have hc1 : 0 ≤ (l4V s 1 at_).2 := Int.not_lt.1 fun hh => hc (.inl hh)
    have := l4V_adv s 1 at_ hc1
    simp only [List.length_take, List.length_drop]
    omega
theorem placeC_wt {s : List UInt8} {l : List Nat} {ta tb tt : List UInt8} {p0 p1 p2 p3 p4 : Int} {n : Nat} (hV : l4V s 4 0 = (l, p0)) (hA : l4T s p0 = (ta, p1)) (hB : l4T s p1 = (tb, p2)) (hT : l4T s p2 = (tt, p3)) (hN : l4V s 1 p3 = ([n], p4))
    (h4 : 0 ≤ p4) (hn : n ≤ 4) (hl : (s.length : Int) = p4 + 8 * n) : (placeC s).c.wt ≤ s.length := by
  have e4 := l4V_adv s 1 p3 (by rw [hN]; exact h4)
  rw [hN] at e4
  have e3 := l4T_adv s p2 (by rw [hT]; exact e4.2)
  rw [hT] at e3
  have e2 := l4T_adv s p1 (by rw [hB]; exact e3.2)
  rw [hB] at e2
  have e1 := l4T_adv s p0 (by rw [hA]; exact e2.2)
  rw [hA] at e1
  have e0 := l4V_adv s 4 0 (by rw [hV]; exact e1.2)
  rw [hV] at e0
  rw [wt_cmd]
  unfold placeC
  simp only [hV, hA, hB, hT, hN, List.getD_cons_zero] at *
  have hf : ∀ k, (chunksAt s p4.toNat k).flatten.length ≤ 8 * k := fun k => by
    induction k with
    | zero => simp [chunksAt]
    | succ k ih =>
      rw [chunksAt, List.flatten_append, List.length_append]
      simp only [List.flatten_cons, List.flatten_nil, List.append_nil, List.length_take]
      omega
  have := hf n
  have hk := chunksAt_length s p4.toNat n
  omega

set_option maxRecDepth 100000 in
set_option maxHeartbeats 8000000 in
theorem sReadCmd_any (s : List UInt8) (w : World) (hs : s.length ≤ 1048576) :
    Calls Try.prog 91 #[.string (bs s)] w fun e w' => ∃ cs', e = .returned (.tuple #[.agg cs'.toArray, .bool (fReadCmd s).2]) ∧ Mine w' w.heap.size (fReadCmd s).1.c cs' ∧ Below w.heap.size w w' := by
  obtain ⟨R, hR⟩ : ∃ R, R = fReadCmd s := ⟨_, rfl⟩
  rw [← hR]
  obtain ⟨l, p0, hV⟩ : ∃ a b, l4V s 4 0 = (a, b) := ⟨_, _, rfl⟩
  obtain ⟨ta, p1, hA⟩ : ∃ a b, l4T s p0 = (a, b) := ⟨_, _, rfl⟩
  obtain ⟨tb, p2, hB⟩ : ∃ a b, l4T s p1 = (a, b) := ⟨_, _, rfl⟩
  obtain ⟨tt, p3, hT⟩ : ∃ a b, l4T s p2 = (a, b) := ⟨_, _, rfl⟩
  obtain ⟨ln, p4, hN⟩ : ∃ a b, l4V s 1 p3 = (a, b) := ⟨_, _, rfl⟩
  have q0 := l4V_range s 4 0 (by omega) (.inr (by omega))
  rw [hV] at q0
  have q1 := l4T_range s p0 q0.1
  rw [hA] at q1
  have q2 := l4T_range s p1 q1.1
  rw [hB] at q2
  have q3 := l4T_range s p2 q2.1
  rw [hT] at q3
  have q4 := l4V_range s 1 p3 q3.1 (.inr (by omega))
  rw [hN] at q4
  have k0 := l4V_len s 4 0
  rw [hV] at k0
  have k4 := l4V_len s 1 p3
  rw [hN] at k4
  have la := l4T_len s p0
  rw [hA] at la
  have lb := l4T_len s p1
  rw [hB] at lb
  have lt := l4T_len s p2
  rw [hT] at lt
  simp only [] at q0 q1 q2 q3 q4 k0 k4 la lb lt
  obtain ⟨q0a, q0b⟩ := q0
  obtain ⟨q1a, q1b⟩ := q1
  obtain ⟨q2a, q2b⟩ := q2
  obtain ⟨q3a, q3b⟩ := q3
  obtain ⟨q4a, q4b⟩ := q4
  have la' : ta.length ≤ 1048576 := by omega
  have lb' : tb.length ≤ 1048576 := by omega
  have lt' : tt.length ≤ 1048576 := by omega
  clear la lb lt
  have F1 := @readCmd_s1 s
  have F3 := @readCmd_s3 s
  have F2 := fun n m => @readCmd_s2 s n m
  simp only [hV, hA, hB, hT, hN, ← hR] at F1 F2 F3
  have F4 := @readCmd_s4 s
  have F5 := @readCmd_s5 s
  rw [← hR] at F4 F5
  have HF1 := Lib.hid F1; clear F1
  have HF2 := Lib.hid F2; clear F2
  have HF3 := Lib.hid F3; clear F3
  have HF4 := Lib.hid F4; clear F4
  have HF5 := Lib.hid F5; clear F5
  have HK0 := Lib.hid k0; clear k0
  have HK4 := Lib.hid k4; clear k4
  have HV := Lib.hid hV; clear hV
  have HA := Lib.hid hA; clear hA
  have HB := Lib.hid hB; clear hB
  have HT := Lib.hid hT; clear hT
  have HN := Lib.hid hN; clear hN
  clear hR
  go_enter Try.func91, Try.ntmps91
  go_wp2_with fail
  refine (l4Vars_any s 0 4 _ (by omega) ⟨by omega, by omega⟩ (by omega)).mono ?_; rintro e v1 ⟨vl, rfl, hown, hb⟩
  rw [HV.out] at hown ⊢
  simp only [] at hown ⊢
  have ZB := Lib.hid (Blk.below (blk_new w #[.int .i64 0, .int .i64 0, .int .i64 0, .string (bs []), .string (bs []), .string (bs []), .int .i64 0, .slice none 0 0] 33) hb)
  have BW := Lib.hid (show Below w.heap.size w v1 from Below.trans (by repeat' (first | with_reducible exact Below.refl _ _ | with_reducible exact BW.out | with_reducible refine Below.setCell ?_ ?_ _ | with_reducible refine Below.alloc ?_ ?_ _ | with_reducible refine Below.drew ?_ | (simp; done) | (simp; omega) | omega)) (hb.mono (by first | (simp; done) | (simp; omega) | omega)))
  have HZ := Lib.hid (show w.heap.size + 1 ≤ v1.heap.size from Nat.le_trans (by simp) hb.size); clear hb
  have hown := ownsRow_keep (base' := w.heap.size + 1) hown (w' := v1) (fun k hk => ⟨by have := (hown.lt k hk).1; simp at this; omega, rfl⟩)
  by_cases h0 : p0 < 0
  · skip
    have hRz := HF1.out h0
    subst hRz
    go_wp2_with (first | ((with_reducible show wpList _ _ _ ({ dst := _, op := Op.store 33 _ _, type := _, pos := _, after := _, guard := _ } :: _) _ _); refine wpList_store_row _ w.heap.size 33 0 [.int .i64 0, .int .i64 0, .int .i64 0, .string (bs []), .string (bs []), .string (bs []), .int .i64 0, .slice none 0 0] [] [.int .i64 0, .int .i64 0, .int .i64 0, .string (bs []), .string (bs []), .string (bs []), .int .i64 0, .slice none 0 0] [] _ rfl rfl agg_Cmd ZB.out rfl rfl rfl (by simp [Value.oneCell']) ?_; intro v9 hzb hzg) | fail)
    exact bodyPost_cell2 rfl ⟨w.heap.size, 0, none⟩ rfl [.int .i64 0, .int .i64 0, .int .i64 0, .string (bs []), .string (bs []), .string (bs []), .int .i64 0, .slice none 0 0] _ rfl agg_Cmd rfl (blk_cells hzb) rfl ⟨_, rfl, zeroCmd_mine _ _, Below.grown BW.out hzg BW.out.size (fun k hk => by injection hk with hk; omega)⟩
  · have hl4 := HK0.out.2.1 (by omega)
    obtain ⟨x0, x1, x2, x3, rfl⟩ : ∃ a b c d, l = [a, b, c, d] := by
      match l, hl4 with
      | [a, b, c, d], _ => exact ⟨a, b, c, d, rfl⟩
    clear hl4
    obtain ⟨gl, cl, rfl, hgl1, hgl2⟩ := own_form hown (by simp)
    have HL := Lib.hid hown; clear hown hgl2
    go_wp2_with fail
    refine (l4Take_any s p0 _ (by omega) ⟨by omega, by omega⟩).mono ?_; rintro e v2 ⟨rfl, hb⟩
    rw [HA.out]
    simp only []
    have X := Lib.hid (ZB.out.below hb); clear ZB
    have ZB := Lib.hid X.out; clear X
    have X := Lib.hid (HL.out.keptBelow hb); clear HL
    have HL := Lib.hid X.out; clear X
    have X := Lib.hid (Nat.le_trans HZ.out hb.size); clear HZ
    have HZ := Lib.hid X.out; clear X
    have X := Lib.hid (show Below w.heap.size w v2 from BW.out.trans (hb.mono BW.out.size)); clear BW hb
    have BW := Lib.hid X.out; clear X
    go_wp2_with fail
    refine (l4Take_any s p1 _ (by omega) ⟨by omega, by omega⟩).mono ?_; rintro e v3 ⟨rfl, hb⟩
    rw [HB.out]
    simp only []
    have X := Lib.hid (ZB.out.below hb); clear ZB
    have ZB := Lib.hid X.out; clear X
    have X := Lib.hid (HL.out.keptBelow hb); clear HL
    have HL := Lib.hid X.out; clear X
    have X := Lib.hid (Nat.le_trans HZ.out hb.size); clear HZ
    have HZ := Lib.hid X.out; clear X
    have X := Lib.hid (show Below w.heap.size w v3 from BW.out.trans (hb.mono BW.out.size)); clear BW hb
    have BW := Lib.hid X.out; clear X
    go_wp2_with fail
    refine (l4Take_any s p2 _ (by omega) ⟨by omega, by omega⟩).mono ?_; rintro e v4 ⟨rfl, hb⟩
    rw [HT.out]
    simp only []
    have X := Lib.hid (ZB.out.below hb); clear ZB
    have ZB := Lib.hid X.out; clear X
    have X := Lib.hid (HL.out.keptBelow hb); clear HL
    have HL := Lib.hid X.out; clear X
    have X := Lib.hid (Nat.le_trans HZ.out hb.size); clear HZ
    have HZ := Lib.hid X.out; clear X
    have X := Lib.hid (show Below w.heap.size w v4 from BW.out.trans (hb.mono BW.out.size)); clear BW hb
    have BW := Lib.hid X.out; clear X
    go_wp2_with fail
    refine (l4Vars_any s p3 1 _ (by omega) ⟨by omega, by omega⟩ (by omega)).mono ?_; rintro e v5 ⟨vn, rfl, hown, hb⟩
    rw [HN.out] at hown ⊢
    simp only [] at hown ⊢
    have hown := ownsRow_keep (base' := w.heap.size + 1) hown (w' := v5) (fun k hk => ⟨by have := (hown.lt k hk).1; have := HZ.out; omega, rfl⟩)
    have X := Lib.hid (ZB.out.below hb); clear ZB
    have ZB := Lib.hid X.out; clear X
    have X := Lib.hid (HL.out.keptBelow hb); clear HL
    have HL := Lib.hid X.out; clear X
    have X := Lib.hid (Nat.le_trans HZ.out hb.size); clear HZ
    have HZ := Lib.hid X.out; clear X
    have X := Lib.hid (show Below w.heap.size w v5 from BW.out.trans (hb.mono BW.out.size)); clear BW hb
    have BW := Lib.hid X.out; clear X
    by_cases h4 : p4 < 0
    · skip
      have hRz := HF3.out h4
      subst hRz
      go_wp2_with (first | ((with_reducible show wpList _ _ _ ({ dst := _, op := Op.store 33 _ _, type := _, pos := _, after := _, guard := _ } :: _) _ _); refine wpList_store_row _ w.heap.size 33 0 [.int .i64 0, .int .i64 0, .int .i64 0, .string (bs []), .string (bs []), .string (bs []), .int .i64 0, .slice none 0 0] [] [.int .i64 0, .int .i64 0, .int .i64 0, .string (bs []), .string (bs []), .string (bs []), .int .i64 0, .slice none 0 0] [] _ rfl rfl agg_Cmd ZB.out rfl rfl rfl (by simp [Value.oneCell']) ?_; intro v9 hzb hzg) | fail)
      exact bodyPost_cell2 rfl ⟨w.heap.size, 0, none⟩ rfl [.int .i64 0, .int .i64 0, .int .i64 0, .string (bs []), .string (bs []), .string (bs []), .int .i64 0, .slice none 0 0] _ rfl agg_Cmd rfl (blk_cells hzb) rfl ⟨_, rfl, zeroCmd_mine _ _, Below.grown BW.out hzg BW.out.size (fun k hk => by injection hk with hk; omega)⟩
    · have hn1 := HK4.out.2.1 (by omega)
      obtain ⟨n, rfl⟩ : ∃ a, ln = [a] := by
        match ln, hn1 with
        | [a], _ => exact ⟨a, rfl⟩
      have hnb := HK4.out.2.2 n (by simp)
      clear hn1
      obtain ⟨gn, cn, rfl, hgn1, hgn2⟩ := own_form hown (by simp)
      have HNN := Lib.hid hown; clear hown hgn2
      have hn0 : v5.cell? ⟨gn, 0, none⟩ = some (.int .i64 (n : Int)) := World.ownsRow.cells (g := gn) HNN.out rfl 0 _ rfl
      obtain ⟨P, rfl⟩ := Int.eq_ofNat_of_zero_le (show 0 ≤ p4 by omega)
      by_cases hn4 : 4 < n
      · have hn4' : (4 : Int) < (n : Int) := by omega
        have hRz := HF2.out n _ rfl (.inl hn4)
        subst hRz
        go_wp2_with (first | ((with_reducible show wpList _ _ _ ({ dst := _, op := Op.store 33 _ _, type := _, pos := _, after := _, guard := _ } :: _) _ _); refine wpList_store_row _ w.heap.size 33 0 [.int .i64 0, .int .i64 0, .int .i64 0, .string (bs []), .string (bs []), .string (bs []), .int .i64 0, .slice none 0 0] [] [.int .i64 0, .int .i64 0, .int .i64 0, .string (bs []), .string (bs []), .string (bs []), .int .i64 0, .slice none 0 0] [] _ rfl rfl agg_Cmd ZB.out rfl rfl rfl (by simp [Value.oneCell']) ?_; intro v9 hzb hzg) | fail)
        exact bodyPost_cell2 rfl ⟨w.heap.size, 0, none⟩ rfl [.int .i64 0, .int .i64 0, .int .i64 0, .string (bs []), .string (bs []), .string (bs []), .int .i64 0, .slice none 0 0] _ rfl agg_Cmd rfl (blk_cells hzb) rfl ⟨_, rfl, zeroCmd_mine _ _, Below.grown BW.out hzg BW.out.size (fun k hk => by injection hk with hk; omega)⟩
      by_cases hsl : (s.length : Int) = (P : Int) + 8 * (n : Int)
      case neg =>
        have hsl2 : ((s.length : Int) != (P : Int) + 8 * (n : Int)) = true := by simpa using hsl
        have hRz := HF2.out n _ rfl (.inr hsl)
        subst hRz
        go_wp2_with (first | ((with_reducible show wpList _ _ _ ({ dst := _, op := Op.store 33 _ _, type := _, pos := _, after := _, guard := _ } :: _) _ _); refine wpList_store_row _ w.heap.size 33 0 [.int .i64 0, .int .i64 0, .int .i64 0, .string (bs []), .string (bs []), .string (bs []), .int .i64 0, .slice none 0 0] [] [.int .i64 0, .int .i64 0, .int .i64 0, .string (bs []), .string (bs []), .string (bs []), .int .i64 0, .slice none 0 0] [] _ rfl rfl agg_Cmd ZB.out rfl rfl rfl (by simp [Value.oneCell']) ?_; intro v9 hzb hzg) | fail)
        exact bodyPost_cell2 rfl ⟨w.heap.size, 0, none⟩ rfl [.int .i64 0, .int .i64 0, .int .i64 0, .string (bs []), .string (bs []), .string (bs []), .int .i64 0, .slice none 0 0] _ rfl agg_Cmd rfl (blk_cells hzb) rfl ⟨_, rfl, zeroCmd_mine _ _, Below.grown BW.out hzg BW.out.size (fun k hk => by injection hk with hk; omega)⟩
      have hn4' : ¬ (4 : Int) < (n : Int) := by omega
      have hsl2 : ((s.length : Int) != (P : Int) + 8 * (n : Int)) = false := by simpa using hsl
      have HSN := Lib.hid (show 1 ≤ s.length by have hh := l4V_adv s 1 p3 (by rw [HN.out]; simp only []; omega); rw [HN.out] at hh; simp only [] at hh; omega)
      have HWT := Lib.hid (Nat.le_trans (placeC_wt HV.out HA.out HB.out HT.out HN.out (by omega) (by omega) hsl) hs)
      have hpc : placeC s = ⟨(x0 : Int), (x1 : Int), (x2 : Int), ta, tb, tt, (x3 : Int), chunksAt s P n⟩ := by
        unfold placeC
        simp only [HV.out, HA.out, HB.out, HT.out, HN.out, List.getD_cons_zero, List.getD_cons_succ, Int.toNat_natCast]
      have HPC := Lib.hid hpc; clear hpc
      have hc0 : v5.cell? ⟨gl, 0, none⟩ = some (.int .i64 (x0 : Int)) := World.ownsRow.cells (g := gl) HL.out rfl 0 _ rfl
      have hc1 : v5.cell? ⟨gl, 1, none⟩ = some (.int .i64 (x1 : Int)) := World.ownsRow.cells (g := gl) HL.out rfl 1 _ rfl
      have hc2 : v5.cell? ⟨gl, 2, none⟩ = some (.int .i64 (x2 : Int)) := World.ownsRow.cells (g := gl) HL.out rfl 2 _ rfl
      have hc3 : v5.cell? ⟨gl, 3, none⟩ = some (.int .i64 (x3 : Int)) := World.ownsRow.cells (g := gl) HL.out rfl 3 _ rfl
      go_wp2
      refine wp_region_h 17 [] [0, 1, 2, 3, 4, 5, 6, 7, 8, 9, 10, 11, 12, 13, 14, 15, 16] [17] (by kernel_rfl) (by kernel_rfl) ?_
      refine wpFl_nil ?_
      iterate 15 (refine wpH_quiet rfl rfl (by kernel_rfl) rfl ?_; go_wp2; refine ⟨rfl, ?_⟩)
      refine wpH_build rfl rfl rfl #[.int .i64 (x0 : Int), .int .i64 (x1 : Int), .int .i64 (x2 : Int), .string (bs ta), .string (bs tb), .string (bs tt), .int .i64 (x3 : Int), .slice none 0 0] (by kernel_rfl) ?_
      refine wpH_actor rfl rfl (by kernel_rfl) ?_
      go_wp2
      refine ⟨Ext.alloc (Ext.refl _) _, ?_⟩
      refine wpH_nil ?_
      simp only [pickOps, List.getElem?_toArray, List.getElem?_cons_succ, List.getElem?_cons_zero]
      obtain ⟨gc, hgc⟩ : ∃ g, g = v5.heap.size := ⟨_, rfl⟩
      have HGE := Lib.hid hgc; clear hgc
      clear hn0 hc0 hc1 hc2 hc3
      have HNN0 := Lib.hid HNN.out
      go_wp2_with (first | ((with_reducible show wpList _ _ _ ({ dst := _, op := Op.store 33 _ _, type := _, pos := _, after := _, guard := _ } :: _) _ _); refine wpList_store_row _ v5.heap.size 33 0 [.int .i64 (x0 : Int), .int .i64 (x1 : Int), .int .i64 (x2 : Int), .string (bs ta), .string (bs tb), .string (bs tt), .int .i64 (x3 : Int), .slice none 0 0] [] [.int .i64 0, .int .i64 0, .int .i64 0, .string (bs []), .string (bs []), .string (bs []), .int .i64 0, .slice none 0 0] [] _ rfl rfl agg_Cmd ((blk_new v5 _ _).drew) rfl rfl rfl (by simp [Value.oneCell']) ?_; intro v6 hsb hsg) | fail)
      refine ⟨trivial, ?_⟩
      rw [← HGE.out] at hsb hsg ⊢
      have CB := Lib.hid (show Blk v6 gc 33 [.int .i64 (x0 : Int), .int .i64 (x1 : Int), .int .i64 (x2 : Int), .string (bs ta), .string (bs tb), .string (bs tt), .int .i64 (x3 : Int), .slice none 0 0].toArray by simpa using hsb)
      have HGC := Lib.hid (show w.heap.size + 1 ≤ gc by rw [HGE.out]; exact HZ.out)
      have X := Lib.hid ((ZB.out.alloc _).drew.grown hsg (fun e => by have := HGC.out; omega))
      clear ZB
      have ZB := Lib.hid X.out
      clear X
      have X := Lib.hid ((HNN.out.alloc _).drew.kept hsg (.inr (fun e => by have h1 := (HNN.out.lt gn rfl).2; have h2 := HGE.out; have e2 : some gn = some gc := e; injection e2 with e2; omega)))
      clear HNN
      have HNN := Lib.hid X.out
      clear X
      have X := Lib.hid (Below.grown (BW.out.alloc BW.out.size _).drew hsg (Nat.le_trans BW.out.size (by simp)) (fun k hk => by injection hk with hk; have := HGC.out; omega))
      clear BW
      have BW := Lib.hid X.out
      clear X
      have HGB := Lib.hid (show gc + 1 ≤ v6.heap.size from Nat.le_trans (by rw [HGE.out]; simp) hsg.size)
      have HGN := Lib.hid (show gn < gc by rw [HGE.out]; exact (HNN0.out.lt gn rfl).2)
      clear hsb hsg
      go_wp2
      clear HNN0 HL hnb HV HA HB HT HN HK0 HK4 HF1 HF2 HF3
      go_loopw [11] (fun ii wr => ∃ (j : Nat) (Aj : Option Addr) (kj : Nat), j ≤ n ∧ ii = .int .i64 (j : Int) ∧ Blk wr w.heap.size 33 [.int .i64 0, .int .i64 0, .int .i64 0, .string (bs []), .string (bs []), .string (bs []), .int .i64 0, .slice none 0 0].toArray ∧ Blk wr gc 33 [.int .i64 (x0 : Int), .int .i64 (x1 : Int), .int .i64 (x2 : Int), .string (bs ta), .string (bs tb), .string (bs tt), .int .i64 (x3 : Int), .slice Aj j kj].toArray ∧ wr.ownsRow (gc + 1) 9 1 (.slice Aj j kj) j ((chunksAt s P j).map strv) ∧ wr.ownsRow (w.heap.size + 1) 3 1 (.slice (some ⟨gn, 0, none⟩) 1 cn) 1 [natv n] ∧ Below w.heap.size w wr ∧ gc + 1 ≤ wr.heap.size) (fun ii _ => n - (intOf ii).toNat)
      case atStart => exact ⟨0, none, 0, Nat.zero_le _, rfl, ZB.out, CB.out, ⟨by simp [chunksAt], .inl ⟨rfl, rfl⟩⟩, HNN.out, BW.out, HGB.out⟩
      case round =>
        obtain ⟨j, Aj, kj, hj, rfl, hzb, hcb, hown, hnn, hbw, hgb⟩ := hrel
        clear ZB CB HNN BW HGB HZ
        have ZB := Lib.hid hzb; clear hzb
        have CB := Lib.hid hcb; clear hcb
        have HO := Lib.hid hown; clear hown
        have HNN := Lib.hid hnn; clear hnn
        have BW := Lib.hid hbw; clear hbw
        have HGB := Lib.hid hgb; clear hgb
        have hn0 : wr.cell? ⟨gn, 0, none⟩ = some (.int .i64 (n : Int)) := World.ownsRow.cells (g := gn) HNN.out rfl 0 _ rfl
        by_cases hlt : j < n
        · have hjn : (j : Int) < (n : Int) := by omega
          have hjP : P + 8 * j + 8 ≤ s.length := by omega
          have hcx : wr.cell? ⟨gc, 7, none⟩ = some (.slice Aj j kj) := blk_cell0 (L := [.int .i64 (x0 : Int), .int .i64 (x1 : Int), .int .i64 (x2 : Int), .string (bs ta), .string (bs tb), .string (bs tt), .int .i64 (x3 : Int), .slice Aj j kj]) CB.out 7 rfl
          have hst : (chunksAt s P (j + 1)) = chunksAt s P j ++ [(s.drop (P + 8 * j)).take 8] := by rw [chunksAt]
          have HST := Lib.hid hst; clear hst
          clear hsl hsl2
          go_wp2
          refine wp_region_x 14 [0, 1, 2, 3, 4, 5, 6, 7, 8, 9, 10, 11, 12, 13] (by kernel_rfl) (by kernel_rfl) ?_
          iterate 12 (refine wpX_quiet rfl (by kernel_rfl) rfl ?_; go_wp2; refine ⟨rfl, ?_⟩)
          refine wpX_quiet rfl (by kernel_rfl) rfl ?_; go_wp2; refine ⟨rfl, ?_⟩
          refine wpX_actor rfl (by kernel_rfl) ?_
          go_wp2
          refine ⟨Ext.alloc (Ext.refl _) _, ?_⟩
          refine wpX_nil ?_; simp only [List.drop_succ_cons, List.drop_zero]
          clear hcx
          go_wp2_with (first | (at_builtin; go_must (refine wpList_app E_str _ rfl _ _ rfl (gc + 1) _ j _ rfl ((HO.out.alloc _).drew) _ _ _ _ rfl (Reads.new rfl) (one1 rfl) (by omega) (Nat.le_trans HGB.out (by simp)) ?_; intro vv w3 hown3 hg3 hat3; obtain ⟨Av, kv, rfl, _⟩ := SlR.of_own hown3; have hgb3 : ∀ k, (Value.slice Aj j kj).ownBlock = some k → gc < k := (fun k hk => by have := (HO.out.lt k hk).1; omega); have hcb3 := Blk.keep ((CB.out.alloc (.cells #[.string (bs ((s.drop (P + 8 * j)).take 8))] 9)).drew) (hg3.block _ (CB.out.alloc _).lt (fun e => by have := hgb3 _ e.symm; omega)); have hq3 : w3.cell? ⟨gc, 7, none⟩ = some (.slice Aj j kj) := blk_cell0 (L := [.int .i64 (x0 : Int), .int .i64 (x1 : Int), .int .i64 (x2 : Int), .string (bs ta), .string (bs tb), .string (bs tt), .int .i64 (x3 : Int), .slice Aj j kj]) hcb3 7 rfl; have hfz3 : w3.frozen? ⟨gc, 7, none⟩ = false := hcb3.frozen 7; have HCB3 := Lib.hid hcb3; have HO3 := Lib.hid hown3; have HG3 := Lib.hid hg3; have HGB3 := Lib.hid hgb3; have HAT3 := Lib.hid hat3; clear hcb3 hown3 hg3 hgb3 hat3)) | fail)
          have hsz3 : wr.heap.size + 1 ≤ w3.heap.size := Nat.le_trans (by simp) HG3.out.size
          have hbv : ∀ k, (Value.slice Av (j + 1) kv).ownBlock = some k → gc < k := fun k hk => by
            rcases HAT3.out with h | h
            · exact HGB3.out k (h.symm.trans hk)
            · have e := hk.symm.trans h
              injection e with e
              have := HGB.out
              simp at e
              omega
          have hzb3 := Blk.keep ((ZB.out.alloc (.cells #[.string (bs ((s.drop (P + 8 * j)).take 8))] 9)).drew) (HG3.out.block _ (ZB.out.alloc _).lt (fun e => by have := HGB3.out _ e.symm; have := HGC.out; omega))
          have hnn3 := ownsRow_keep (base' := w.heap.size + 1) ((HNN.out.alloc (.cells #[.string (bs ((s.drop (P + 8 * j)).take 8))] 9)).drew) (w' := w3) (fun k hk => ⟨(HNN.out.lt k hk).1, HG3.out.block _ ((HNN.out.alloc _).lt k hk).2 (fun e => by have := HGB3.out _ e.symm; have := HGN.out; have e2 : some gn = some k := hk; injection e2 with e2; omega)⟩)
          have hbw3 : Below w.heap.size w w3 := Below.grown ((BW.out.alloc BW.out.size _).drew) HG3.out (Nat.le_trans BW.out.size (by simp)) (fun k hk => by have := HGB3.out k hk; have := HGC.out; omega)
          have hown4 : (w3.setCell ⟨gc, 7, none⟩ (.slice Av (j + 1) kv)).ownsRow (gc + 1) 9 1 (.slice Av (j + 1) kv) (j + 1) ((chunksAt s P (j + 1)).map strv) := by
            rw [HST.out, List.map_append]
            exact ownsRow_keep HO3.out (fun k hk => ⟨(HO3.out.lt k hk).1, Below.heap_setCell _ _ _ _ (fun e => by have := hbv k hk; have e2 : k = gc := e; omega)⟩)
          have hnn4 : (w3.setCell ⟨gc, 7, none⟩ (.slice Av (j + 1) kv)).ownsRow (w.heap.size + 1) 3 1 (.slice (some ⟨gn, 0, none⟩) 1 cn) 1 [natv n] := ownsRow_keep hnn3 (fun k hk => ⟨(hnn3.lt k hk).1, Below.heap_setCell _ _ _ _ (fun e => by have := HGN.out; have e1 : some gn = some k := hk; injection e1 with e1; have e2 : k = gc := e; omega)⟩)
          exact ⟨⟨j + 1, Av, kv, by omega, by go_num, Blk.setOther hzb3 (a := ⟨gc, 7, none⟩) (by have := HGC.out; show gc ≠ _; omega) _, blk_put0 HCB3.out 7 _, hown4, hnn4, Below.setCell hbw3 (p := ⟨gc, 7, none⟩) (by have := HGC.out; show _ ≤ gc; omega) _, by rw [setCell_size]; have := HGB.out; omega⟩, by simp only [intOf]; omega⟩
        · have hjn : j = n := by omega
          subst hjn
          have hnl : ¬ (j : Int) < (j : Int) := by omega
          have hchl := chunksAt_length s P j
          obtain ⟨cc, hcc⟩ : ∃ cc : CmdD, cc = ⟨(x0 : Int), (x1 : Int), (x2 : Int), ta, tb, tt, (x3 : Int), chunksAt s P j⟩ := ⟨_, rfl⟩
          have hmine : Mine wr (gc + 1) cc.c [.int .i64 (x0 : Int), .int .i64 (x1 : Int), .int .i64 (x2 : Int), .string (bs ta), .string (bs tb), .string (bs tt), .int .i64 (x3 : Int), .slice Aj j kj] := by
            have h0 := HO.out
            rw [hcc]
            have h1 := cmd_mine (w := wr) (base := gc + 1) (c := ⟨(x0 : Int), (x1 : Int), (x2 : Int), ta, tb, tt, (x3 : Int), chunksAt s P j⟩) (A := Aj) (k := kj) (by simp only [hchl]; exact h0)
            simp only [hchl] at h1
            exact h1
          have HREP := Lib.hid hmine
          have hpc := HPC.out
          rw [← hcc] at hpc
          have HW2 := HWT.out
          have hR4 := HF4.out
          have hR5 := HF5.out
          rw [hpc] at HW2 hR4 hR5
          have HSH := Lib.hid (fun W h => sShowCmd_any cc [.int .i64 (x0 : Int), .int .i64 (x1 : Int), .int .i64 (x2 : Int), .string (bs ta), .string (bs tb), .string (bs tt), .int .i64 (x3 : Int), .slice Aj j kj] W HW2 h)
          obtain ⟨sh, hsh⟩ : ∃ sh, sh = showCmdL cc := ⟨_, rfl⟩
          rw [← hsh] at HSH hR4 hR5
          have HR4 := Lib.hid hR4
          have HR5 := Lib.hid hR5
          have hsn : s ≠ [] := by
            intro e
            subst e
            have := HSN.out
            simp at this
          clear hR4 hR5 hsh HW2 hmine hcc hpc HPC HWT HF4 HF5 hnl hsl hsl2
          go_wp2_with (first | ((with_reducible show wpList _ _ _ ({ dst := _, op := Op.load 33 _, type := _, pos := _, after := _, guard := _ } :: _) _ _); refine wpList_load_row _ ⟨gc, 0, none⟩ rfl [.int .i64 (x0 : Int), .int .i64 (x1 : Int), .int .i64 (x2 : Int), .string (bs ta), .string (bs tb), .string (bs tt), .int .i64 (x3 : Int), .slice Aj j kj] agg_Cmd rfl (blk_cells CB.out) ?_) | fail)
          refine (HSH.out _ HREP.out.rep.any).mono ?_; rintro e v9 ⟨rfl, hb⟩
          have X := Lib.hid (ZB.out.below hb); clear ZB
          have ZB := Lib.hid X.out; clear X
          have X := Lib.hid (CB.out.below hb); clear CB
          have CB := Lib.hid X.out; clear X
          have X := Lib.hid (HREP.out.below hb); clear HREP
          have HREP := Lib.hid X.out; clear X
          have X := Lib.hid (show Below w.heap.size w v9 from BW.out.trans (hb.mono BW.out.size)); clear BW hb
          have BW := Lib.hid X.out; clear X
          by_cases hq : sh = s
          · have hRz := HR5.out hsn hq
            subst hRz
            have hb1 : (sh == s) = true := by simp [hq]
            clear hq hsn
            go_wp2_with (first | ((with_reducible show wpList _ _ _ ({ dst := _, op := Op.load 33 _, type := _, pos := _, after := _, guard := _ } :: _) _ _); refine wpList_load_row _ ⟨gc, 0, none⟩ rfl [.int .i64 (x0 : Int), .int .i64 (x1 : Int), .int .i64 (x2 : Int), .string (bs ta), .string (bs tb), .string (bs tt), .int .i64 (x3 : Int), .slice Aj j kj] agg_Cmd rfl (blk_cells CB.out) ?_) | ((with_reducible show wpList _ _ _ ({ dst := _, op := Op.store 33 _ _, type := _, pos := _, after := _, guard := _ } :: _) _ _); refine wpList_store_row _ w.heap.size 33 0 [.int .i64 (x0 : Int), .int .i64 (x1 : Int), .int .i64 (x2 : Int), .string (bs ta), .string (bs tb), .string (bs tt), .int .i64 (x3 : Int), .slice Aj j kj] [] [.int .i64 0, .int .i64 0, .int .i64 0, .string (bs []), .string (bs []), .string (bs []), .int .i64 0, .slice none 0 0] [] _ rfl rfl agg_Cmd ZB.out rfl rfl rfl (by simp [Value.oneCell']) ?_; intro v10 hzb hzg) | fail)
            exact bodyPost_cell2 rfl ⟨w.heap.size, 0, none⟩ rfl [.int .i64 (x0 : Int), .int .i64 (x1 : Int), .int .i64 (x2 : Int), .string (bs ta), .string (bs tb), .string (bs tt), .int .i64 (x3 : Int), .slice Aj j kj] _ rfl agg_Cmd rfl (blk_cells hzb) rfl ⟨_, rfl, HREP.out.grownAt hzg (fun e => by have := HGC.out; omega) (by have := HGC.out; omega), Below.grown BW.out hzg BW.out.size (fun k hk => by injection hk with hk; omega)⟩
          · have hRz := HR4.out hq
            subst hRz
            have hb1 : (sh == s) = false := by simpa using hq
            clear hq hsn
            go_wp2_with (first | ((with_reducible show wpList _ _ _ ({ dst := _, op := Op.store 33 _ _, type := _, pos := _, after := _, guard := _ } :: _) _ _); refine wpList_store_row _ w.heap.size 33 0 [.int .i64 0, .int .i64 0, .int .i64 0, .string (bs []), .string (bs []), .string (bs []), .int .i64 0, .slice none 0 0] [] [.int .i64 0, .int .i64 0, .int .i64 0, .string (bs []), .string (bs []), .string (bs []), .int .i64 0, .slice none 0 0] [] _ rfl rfl agg_Cmd ZB.out rfl rfl rfl (by simp [Value.oneCell']) ?_; intro v9 hzb hzg) | fail)
            exact bodyPost_cell2 rfl ⟨w.heap.size, 0, none⟩ rfl [.int .i64 0, .int .i64 0, .int .i64 0, .string (bs []), .string (bs []), .string (bs []), .int .i64 0, .slice none 0 0] _ rfl agg_Cmd rfl (blk_cells hzb) rfl ⟨_, rfl, zeroCmd_mine _ _, Below.grown BW.out hzg BW.out.size (fun k hk => by injection hk with hk; omega)⟩

end Go.Proofs.Ytbdblfpepnoafaa
namespace Go.Proofs.Ytbdblfpepnoafaa
open Go.RowKit

theorem place_1 {s : List UInt8} {l : List Nat} {p0 : Int} (hV : l4V s 9 0 = (l, p0)) (h : p0 < 0 ∨ (s.length : Int) ≤ p0) : fReadEMsg s = (zeroE, false) := readE_no fun m hm hs => by
  obtain ⟨p9, p10, p11, hp⟩ := placed hm hs
  have h1 := hp.nums
  have h2 := hp.lt
  rw [hV] at h1
  injection h1 with h3 h4
  omega
/-- what the places tell of a message of which s is the text -/
structure Tells (m : EMsgD) (s : List UInt8) (l : List Nat) (p0 : Nat) (t : List UInt8) (n : Nat) (p2 : Int) : Prop where
  nums : l = (numsE m).map Int.toNat
  same : m.same = (s.getD p0 0 == 1)
  cmd : (fReadCmd t).1 = m.cmd
  n : m.deps.length = n
  dep : ∀ i (hi : i < m.deps.length), l4V s 2 (p2 + (((m.deps.take i).map idL).flatten.length : Nat)) = ([m.deps[i].rep.toNat, m.deps[i].slot.toNat], p2 + (((m.deps.take (i + 1)).map idL).flatten.length : Nat))
theorem tells {m : EMsgD} {s : List UInt8} {l ln : List Nat} {p0 : Nat} {p1 p2 : Int} {t : List UInt8} (hV : l4V s 9 0 = (l, (p0 : Int))) (hT : l4T s ((p0 : Int) + 1) = (t, p1)) (hN : l4V s 1 p1 = (ln, p2)) (hm : emsgOkB m = true) (hs : showEMsgL m = s) : 0 ≤ p2 ∧ ln = [m.deps.length] ∧ Tells m s l p0 t m.deps.length p2 := by
  obtain ⟨p9, p10, p11, hp⟩ := placed hm hs
  have h1 := hp.nums
  rw [hV] at h1
  injection h1 with h3 h4
  have h5 : p0 = p9 := by omega
  subst h5
  have h6 := hp.cmd
  rw [hT] at h6
  injection h6 with h7 h8
  subst h8
  have h9 := hp.n
  rw [hN] at h9
  injection h9 with h10 h11
  subst h11
  refine ⟨by omega, h10, ⟨h3, ?_, ?_, rfl, fun i hi => ?_⟩⟩
  · rw [hp.same]
    cases m.same <;> rfl
  · rw [h7]; exact readCmd_show (emsg_bounds hm).2.2.2.2.2.1
  · have := hp.dep i hi
    rw [Int.natCast_add, Int.natCast_add] at this
    exact this
theorem place_2 {s : List UInt8} {l ln : List Nat} {p0 : Nat} {p1 p2 : Int} {t : List UInt8} (hV : l4V s 9 0 = (l, (p0 : Int))) (hT : l4T s ((p0 : Int) + 1) = (t, p1)) (hN : l4V s 1 p1 = (ln, p2)) (h : p2 < 0 ∨ ∃ n, ln = [n] ∧ 18 < n) : fReadEMsg s = (zeroE, false) := readE_no fun m hm hs => by
  obtain ⟨h1, h2, _⟩ := tells hV hT hN hm hs
  have h3 := deps_18 (emsg_bounds hm).2.2.2.2.2.2.2.1
  rcases h with h | ⟨n, h4, h5⟩
  · omega
  · rw [h2] at h4
    injection h4 with h4
    omega
/-- behind j of the Deps -/
def Along (s : List UInt8) (l : List Nat) (p0 : Nat) (t : List UInt8) (n : Nat) (p2 : Int) (j : Nat) (acc : List IdD) (p : Int) : Prop :=
  ∀ m, emsgOkB m = true → showEMsgL m = s → Tells m s l p0 t n p2 ∧ acc = m.deps.take j ∧ p = p2 + (((m.deps.take j).map idL).flatten.length : Nat)
theorem along_0 {s : List UInt8} {l : List Nat} {p0 n : Nat} {p1 p2 : Int} {t : List UInt8} (hV : l4V s 9 0 = (l, (p0 : Int))) (hT : l4T s ((p0 : Int) + 1) = (t, p1)) (hN : l4V s 1 p1 = ([n], p2)) : Along s l p0 t n p2 0 [] p2 := fun m hm hs => by
  obtain ⟨_, h2, h3⟩ := tells hV hT hN hm hs
  injection h2 with h2
  subst h2
  exact ⟨h3, by simp, by simp⟩
theorem along_next {s : List UInt8} {l : List Nat} {p0 n : Nat} {p2 : Int} {t : List UInt8} {j : Nat} {acc : List IdD} {p : Int} {d : List Nat} {e : Int} (h : Along s l p0 t n p2 j acc p) (hj : j < n) (hd : l4V s 2 p = (d, e)) {a b : Nat} (hab : d = [a, b]) : Along s l p0 t n p2 (j + 1) (acc ++ [⟨(a : Int), (b : Int)⟩]) e := fun m hm hs => by
  obtain ⟨h1, h2, h3⟩ := h m hm hs
  have hjm : j < m.deps.length := by rw [h1.n]; exact hj
  have h4 := h1.dep j hjm
  rw [← h3, hd, hab] at h4
  injection h4 with h5 h6
  injection h5 with h7 h8
  injection h8 with h8
  have hib := ok_bounds (ids_ok (emsg_bounds hm).2.2.2.2.2.2.2.1 m.deps[j] (List.getElem_mem hjm))
  refine ⟨h1, ?_, h6⟩
  rw [List.take_succ_eq_append_getElem hjm, ← h2]
  congr 2
  exact idD_ext (by simp only; omega) (by simp only; omega)
theorem place_3 {s : List UInt8} {l : List Nat} {p0 n : Nat} {p2 : Int} {t : List UInt8} {j : Nat} {acc : List IdD} {p : Int} {d : List Nat} {e : Int} (h : Along s l p0 t n p2 j acc p) (hp2 : 0 ≤ p2) (hj : j < n) (hd : l4V s 2 p = (d, e)) (he : e < 0) : fReadEMsg s = (zeroE, false) := readE_no fun m hm hs => by
  obtain ⟨h1, h2, h3⟩ := h m hm hs
  have hjm : j < m.deps.length := by rw [h1.n]; exact hj
  have h4 := h1.dep j hjm
  rw [← h3, hd] at h4
  injection h4 with h5 h6
  omega
theorem place_4 {s : List UInt8} {p0 n : Nat} {p2 : Int} {t : List UInt8} {acc : List IdD} {p : Int} {x0 x1 x2 x3 x4 x5 x6 x7 x8 : Nat} (h : Along s [x0, x1, x2, x3, x4, x5, x6, x7, x8] p0 t n p2 n acc p)
    (hne : showEMsgL ⟨(x0 : Int), (x1 : Int), (x2 : Int), ⟨(x3 : Int), (x4 : Int)⟩, (x5 : Int), (fReadCmd t).1, (x8 : Int), acc, (x6 : Int), (x7 : Int) - 1, s.getD p0 0 == 1⟩ ≠ s) : fReadEMsg s = (zeroE, false) := readE_no fun m hm hs => by
  obtain ⟨h1, h2, h3⟩ := h m hm hs
  apply hne
  have hnums := h1.nums
  simp only [numsE, List.map_cons, List.map_nil, List.cons.injEq, and_true] at hnums
  obtain ⟨e0, e1, e2, e3, e4, e5, e6, e7, e8⟩ := hnums
  obtain ⟨b1, b2, b3, b4, b5, _, b7, _, b9, b10⟩ := emsg_bounds hm
  have hi := ok_bounds b4
  have e : (⟨(x0 : Int), (x1 : Int), (x2 : Int), ⟨(x3 : Int), (x4 : Int)⟩, (x5 : Int), (fReadCmd t).1, (x8 : Int), acc, (x6 : Int), (x7 : Int) - 1, s.getD p0 0 == 1⟩ : EMsgD) = m := by
    obtain ⟨k0, k1, k2, ⟨k3, k4⟩, k5, k6, k7, k8, k9, k10, k11⟩ := m
    simp only at e0 e1 e2 e3 e4 e5 e6 e7 e8 b1 b2 b3 hi b5 b7 b9 b10 h1 h2
    have hc := h1.cmd
    have hsm := h1.same
    have hn := h1.n
    simp only at hc hsm hn
    rw [← hn, List.take_length] at h2
    simp only [EMsgD.mk.injEq, IdD.mk.injEq]
    refine ⟨by omega, by omega, by omega, ⟨by omega, by omega⟩, by omega, hc, by omega, h2, by omega, by omega, hsm.symm⟩
  rw [e]
  exact hs

end Go.Proofs.Ytbdblfpepnoafaa
namespace Go.Proofs.Ytbdblfpepnoafaa
open Go.RowKit

theorem compactF_cons {a b : IdD} {r : List IdD} : compactF (a :: b :: r) = if a = b then compactF (b :: r) else a :: compactF (b :: r) := by rw [compactF]
theorem compactF_one (a : IdD) : compactF [a] = [a] := by rw [compactF]
theorem compactF_snoc (x y : IdD) : ∀ xs : List IdD, compactF (xs ++ [x, y]) = if x = y then compactF (xs ++ [x]) else compactF (xs ++ [x]) ++ [y]
  | [] => by
    show compactF [x, y] = if x = y then compactF [x] else compactF [x] ++ [y]
    rw [compactF_cons, compactF_one, compactF_one]
    split
    · rename_i h; rw [h]
    · rfl
  | [a] => by
    show compactF [a, x, y] = if x = y then compactF [a, x] else compactF [a, x] ++ [y]
    rw [compactF_cons, compactF_cons (a := a) (b := x) (r := []), compactF_cons (a := x) (b := y) (r := []), compactF_one, compactF_one]
    by_cases h1 : a = x <;> by_cases h2 : x = y <;> simp [h1, h2]
  | a :: b :: r => by
    have ih := compactF_snoc x y (b :: r)
    simp only [List.cons_append] at ih ⊢
    rw [compactF_cons, compactF_cons (a := a), ih]
    by_cases h1 : a = b <;> by_cases h2 : x = y <;> simp [h1, h2]
/-- one element more -/
theorem compactF_take {xs : List IdD} {m : Nat} (h0 : 0 < m) (hm : m < xs.length) : compactF (xs.take (m + 1)) = if xs[m - 1] = xs[m] then compactF (xs.take m) else compactF (xs.take m) ++ [xs[m]] := by
  obtain ⟨k, rfl⟩ : ∃ k, m = k + 1 := ⟨m - 1, by omega⟩
  have h := compactF_snoc xs[k] xs[k + 1] (xs.take k)
  have e1 : xs.take k ++ [xs[k], xs[k + 1]] = xs.take (k + 1 + 1) := by
    have a1 := List.take_succ_eq_append_getElem hm
    have a2 := List.take_succ_eq_append_getElem (show k < xs.length by omega)
    rw [a1, a2, List.append_assoc]
    rfl
  have e2 : xs.take k ++ [xs[k]] = xs.take (k + 1) := (List.take_succ_eq_append_getElem (show k < xs.length by omega)).symm
  rw [e1, e2] at h
  simpa using h
theorem compactF_len : ∀ (xs : List IdD), (compactF xs).length ≤ xs.length
  | [] => by rw [compactF]; exact Nat.le_refl _
  | [a] => by rw [compactF]; exact Nat.le_refl _
  | a :: b :: r => by
    have := compactF_len (b :: r)
    rw [compactF_cons]
    split
    · simp only [List.length_cons] at *; omega
    · simp only [List.length_cons] at *; omega

end Go.Proofs.Ytbdblfpepnoafaa
namespace Go.Proofs
open Go.Shelf
def Try.sortId_ren : Go.Shelf.Ren := ⟨fun | 6 => 110 | 15 => 144 | 14 => 143 | 28 => 163 | 29 => 164 | 20 => 155 | 21 => 156 | 22 => 157 | 23 => 158 | 24 => 159 | 25 => 160 | 26 => 161 | 27 => 162 | 46 => 166 | 47 => 167 | 48 => 168 | 49 => 169 | 50 => 170 | 57 => 171 | n => n, fun | 22 => 34 | 24 => 32 | 25 => 121 | 3 => 3 | 39 => 135 | 0 => 0 | 53 => 156 | 55 => 158 | 4 => 4 | 46 => 149 | 45 => 148 | 50 => 153 | 5 => 5 | 9 => 9 | 66 => 160 | 70 => 164 | 76 => 166 | 77 => 136 | n => n, fun | n => n⟩
theorem Try.sortId : Go.Proofs.SlLaysF0.n6 Try.prog Try.sortId_ren := {
  mixed := by kernel_rfl
  f6 := ⟨Try.f110.name, by decide, Try.func110.trans (congrArg some (by kernel_rfl))⟩
  f14 := ⟨Try.f143.name, by decide, Try.func143.trans (congrArg some (by kernel_rfl))⟩
  f15 := Try.func144.trans (congrArg some (by kernel_rfl))
  f20 := ⟨Try.f155.name, by decide, Try.func155.trans (congrArg some (by kernel_rfl))⟩
  f21 := ⟨Try.f156.name, by decide, Try.func156.trans (congrArg some (by kernel_rfl))⟩
  f22 := ⟨Try.f157.name, by decide, Try.func157.trans (congrArg some (by kernel_rfl))⟩
  f23 := ⟨Try.f158.name, by decide, Try.func158.trans (congrArg some (by kernel_rfl))⟩
  f24 := ⟨Try.f159.name, by decide, Try.func159.trans (congrArg some (by kernel_rfl))⟩
  f25 := ⟨Try.f160.name, by decide, Try.func160.trans (congrArg some (by kernel_rfl))⟩
  f26 := ⟨Try.f161.name, by decide, Try.func161.trans (congrArg some (by kernel_rfl))⟩
  f27 := ⟨Try.f162.name, by decide, Try.func162.trans (congrArg some (by kernel_rfl))⟩
  f28 := Try.func163.trans (congrArg some (by kernel_rfl))
  f29 := Try.func164.trans (congrArg some (by kernel_rfl))
  f46 := ⟨Try.f166.name, by decide, Try.func166.trans (congrArg some (by kernel_rfl))⟩
  f47 := Try.func167.trans (congrArg some (by kernel_rfl))
  f48 := Try.func168.trans (congrArg some (by kernel_rfl))
  f49 := ⟨Try.f169.name, by decide, Try.func169.trans (congrArg some (by kernel_rfl))⟩
  f50 := ⟨Try.f170.name, by decide, Try.func170.trans (congrArg some (by kernel_rfl))⟩
  f57 := ⟨Try.f171.name, by decide, Try.func171.trans (congrArg some (by kernel_rfl))⟩
  t0 := Try.underlying0
  a0 := Try.isAgg0
  z0 := Try.sizeOf0
  v0 := Try.zeroValue0
  t3 := Try.underlying3
  a3 := Try.isAgg3
  z3 := Try.sizeOf3
  v3 := Try.zeroValue3
  t4 := Try.underlying4
  a4 := Try.isAgg4
  z4 := Try.sizeOf4
  v4 := Try.zeroValue4
  t5 := Try.underlying5
  a5 := Try.isAgg5
  z5 := Try.sizeOf5
  v5 := Try.zeroValue5
  t9 := Try.underlying9
  a9 := Try.isAgg9
  z9 := Try.sizeOf9
  v9 := Try.zeroValue9
  t22 := Try.underlying34
  a22 := Try.isAgg34
  z22 := Try.sizeOf34
  v22 := Try.zeroValue34
  t25 := Try.underlying121
  a25 := Try.isAgg121
  z25 := Try.sizeOf121
  v25 := Try.zeroValue121
  t39 := Try.underlying135
  a39 := Try.isAgg135
  z39 := Try.sizeOf135
  v39 := Try.zeroValue135
  t45 := Try.underlying148
  a45 := Try.isAgg148
  z45 := Try.sizeOf148
  v45 := Try.zeroValue148
  t46 := Try.underlying149
  a46 := Try.isAgg149
  z46 := Try.sizeOf149
  v46 := Try.zeroValue149
  t50 := Try.underlying153
  a50 := Try.isAgg153
  z50 := Try.sizeOf153
  v50 := Try.zeroValue153
  t53 := Try.underlying156
  a53 := Try.isAgg156
  z53 := Try.sizeOf156
  v53 := Try.zeroValue156
  t55 := Try.underlying158
  a55 := Try.isAgg158
  z55 := Try.sizeOf158
  v55 := Try.zeroValue158
  t66 := Try.underlying160
  a66 := Try.isAgg160
  z66 := Try.sizeOf160
  v66 := Try.zeroValue160
  t70 := Try.underlying164
  a70 := Try.isAgg164
  z70 := Try.sizeOf164
  v70 := Try.zeroValue164
  t76 := Try.underlying166
  a76 := Try.isAgg166
  z76 := Try.sizeOf166
  v76 := Try.zeroValue166
  t77 := Try.underlying136
  a77 := Try.isAgg136
  z77 := Try.sizeOf136
  v77 := Try.zeroValue136 }
end Go.Proofs
namespace Go.Proofs.Ytbdblfpepnoafaa
open Go.RowKit Go.Shelf Go.Lib Go.Sort

set_option maxRecDepth 100000 in
set_option maxHeartbeats 1000000 in
theorem compareIds_exact (x y : IdD) (w : World) :
    Calls Try.prog 107 #[.agg #[.int .i64 x.rep, .int .i64 x.slot], .agg #[.int .i64 y.rep, .int .i64 y.slot]] w fun e w' => e = .returned (.int .i64 (idCmp x y)) ∧ ∃ (q : Nat) (os' : Array Obj), w' = grow (w.drewN q) os' := by
  obtain ⟨xr, xs⟩ := x
  obtain ⟨yr, ys⟩ := y
  have hid : idLt ⟨xr, xs⟩ ⟨yr, ys⟩ = decide (xr < yr ∨ xr = yr ∧ xs < ys) := rfl
  have HI := Lib.hid hid; clear hid
  simp only []
  by_cases h1 : xr < yr
  · have HR := Lib.hid (show idCmp ⟨xr, xs⟩ ⟨yr, ys⟩ = -1 by rw [idCmp, if_pos (by rw [HI.out]; simp [h1])])
    go_enter Try.func107, Try.ntmps107
    go_wp2
    go_ret
    exact ⟨ret_eq (by rw [HR.out]; rfl), ⟨0, _, by rw [alloc_eq_grow, alloc_eq_grow, grow_grow]; rfl⟩⟩
  · by_cases h2 : xr = yr
    · subst h2
      clear h1
      by_cases h3 : xs < ys
      · have HR := Lib.hid (show idCmp ⟨xr, xs⟩ ⟨xr, ys⟩ = -1 by rw [idCmp, if_pos (by rw [HI.out]; simp [h3])])
        go_enter Try.func107, Try.ntmps107
        go_wp2
        go_ret
        exact ⟨ret_eq (by rw [HR.out]; rfl), ⟨0, _, by rw [alloc_eq_grow, alloc_eq_grow, grow_grow]; rfl⟩⟩
      · by_cases h4 : xs = ys
        · subst h4
          have HR := Lib.hid (show idCmp ⟨xr, xs⟩ ⟨xr, xs⟩ = 0 by rw [idCmp, if_neg (by rw [HI.out]; simp), if_pos rfl])
          clear h3
          go_enter Try.func107, Try.ntmps107
          go_wp2
          go_ret
          exact ⟨ret_eq (by rw [HR.out]; rfl), ⟨0, _, by rw [alloc_eq_grow, alloc_eq_grow, grow_grow]; rfl⟩⟩
        · have HR := Lib.hid (show idCmp ⟨xr, xs⟩ ⟨xr, ys⟩ = 1 by rw [idCmp, if_neg (by rw [HI.out]; simp; omega), if_neg (by simp [h4])])
          have h5 : (xs == ys) = false := by simpa using h4
          clear h4
          go_enter Try.func107, Try.ntmps107
          go_wp2
          go_ret
          exact ⟨ret_eq (by rw [HR.out]; rfl), ⟨0, _, by rw [alloc_eq_grow, alloc_eq_grow, grow_grow]; rfl⟩⟩
    · have HR := Lib.hid (show idCmp ⟨xr, xs⟩ ⟨yr, ys⟩ = 1 by rw [idCmp, if_neg (by rw [HI.out]; simp; omega), if_neg (by simp [h2])])
      have h3 : (xr == yr) = false := by simpa using h2
      clear h2
      go_enter Try.func107, Try.ntmps107
      go_wp2
      go_ret
      exact ⟨ret_eq (by rw [HR.out]; rfl), ⟨0, _, by rw [alloc_eq_grow, alloc_eq_grow, grow_grow]; rfl⟩⟩
def encId (x : IdD) : List Value := [.int .i64 x.rep, .int .i64 x.slot]
instance : Inhabited IdD := ⟨⟨0, 0⟩⟩
theorem ltOf_id (x y : IdD) : ltOf idCmp x y = idLt x y := by
  unfold ltOf
  cases h : idLt x y with
  | true => exact decide_eq_true (idCmp_lt.2 h)
  | false => exact decide_eq_false (fun hh => by have := idCmp_lt.1 hh; rw [h] at this; cases this)
theorem swo_id : SWO (ltOf idCmp) where
  irrefl x := by rw [ltOf_id]; exact idLt_irrefl x
  trans x y z h1 h2 := by rw [ltOf_id] at *; exact idLt_trans h1 h2
  ntrans x y z h1 h2 := by rw [ltOf_id] at *; exact idLt_ntrans h1 h2
theorem cmpLays_id (blk off size : Nat) (w : World) : CmpLays Try.prog 107 #[] encId 2 idCmp blk off size w :=
  fun _ _ _ _ x y => compareIds_exact x y _
theorem sort_ids (blk off cap : Nat) (d : Array IdD) (w : World) (hH : HoldsK encId 2 w blk off d) (hblk : blk < w.heap.size) (hsz : d.size < 4611686018427387904) :
    Calls Try.prog 110 #[.slice (some ⟨blk, off, none⟩) d.size cap, .func (.func 107) #[] #[]] w fun e w' =>
      e = .returned (.tuple #[]) ∧ ∃ d' n os, PermIn 0 d.size d d' ∧ SortedIn (ltOf idCmp) 0 d.size d' ∧ w' = sortWorldK encId 2 w blk off n d' os :=
  AnyQ.slices_SortFunc Try.sortId 2 (fun w => agg_Id.isAgg w) (fun w => agg_Id.size w) encId (fun _ => rfl) (fun x v hv => by simp [encId] at hv; rcases hv with rfl | rfl <;> rfl) idCmp swo_id 107 #[] blk off cap d w (enters_of Try.func107 (by kernel_rfl) rfl) (cmpLays_id blk off d.size w) hH hblk hsz

end Go.Proofs.Ytbdblfpepnoafaa
namespace Go.Proofs.Ytbdblfpepnoafaa
open Go.RowKit Go.Shelf Go.Lib Go.Sort

theorem idCells_get : ∀ (xs : List IdD) (j : Nat), j < xs.length * 2 → (idCells xs)[j]? = some ((encId xs[j / 2]!)[j % 2]!)
  | [], j, h => by simp at h
  | x :: r, 0, _ => rfl
  | x :: r, 1, _ => rfl
  | x :: r, j + 2, h => by
    have ih := idCells_get r j (by simp only [List.length_cons] at h; omega)
    rw [idCells, List.getElem?_cons_succ, List.getElem?_cons_succ, ih, show (j + 2) / 2 = j / 2 + 1 by omega, show (j + 2) % 2 = j % 2 by omega]
    rfl
theorem flat_ids (d : Array IdD) (j : Nat) (h : j < d.size * 2) : (idCells d.toList)[j]? = some ((flatK encId 2 d)[j]!) := by
  rw [idCells_get _ _ (by simpa using h), get_flatK _ _ _ _ h]
  have e : d.toList[j / 2]! = d[j / 2]! := by
    have hj : j / 2 < d.size := by omega
    rw [List.getElem!_eq_getElem?_getD, getElem!_pos d (j / 2) hj]
    simp [hj]
  rw [e]
theorem holds_own {w : World} {base g n c : Nat} {d : Array IdD} (hn : n = d.size) (h : w.ownsRow base 32 2 (.slice (some ⟨g, 0, none⟩) n c) n (idCells d.toList)) : HoldsK encId 2 w g 0 d := by
  intro j hj
  rw [size_flatK] at hj
  refine ⟨?_, ?_⟩
  · have := World.ownsRow.cells (g := g) h rfl j _ (flat_ids d j hj)
    rw [add_plain, Nat.zero_add] at this
    rw [Nat.zero_add]
    exact this
  · rw [Nat.zero_add]
    exact h.frozenAt j
theorem own_put {w : World} {base g n c : Nat} {xs : List Value} {d : Array IdD} (hn : n = d.size) (h : w.ownsRow base 32 2 (.slice (some ⟨g, 0, none⟩) n c) n xs) :
    (putRowK encId 2 w g 0 d).ownsRow base 32 2 (.slice (some ⟨g, 0, none⟩) n c) n (idCells d.toList) := by
  refine ⟨by rw [idCells_length]; simp [hn], ?_⟩
  rcases h.2 with ⟨h0, _⟩ | ⟨g', cap, cur, hv, hb, hh, hnc, hcm, hcs, _⟩
  · cases h0
  · injection hv with e1 e2 e3
    injection e1 with e1
    injection e1 with e1
    subst e1 e3
    refine .inr ⟨g, c, putCells id 0 (flatK encId 2 d) cur, rfl, hb, ?_, hnc, hcm, by simp [putCells, hcs], ?_⟩
    · show ((w.heap.modify g (onCells (putCells id 0 (flatK encId 2 d)))))[g]? = _
      rw [Array.getElem?_modify, if_pos rfl, hh]
      rfl
    · apply List.ext_getElem?
      intro j
      by_cases hj : j < n * 2
      · rw [flat_ids d j (by omega), List.getElem?_take_of_lt hj]
        have hjc : j < cur.size := by rw [hcs]; have := Nat.mul_le_mul_right 2 hnc; omega
        simp only [putCells, Array.getElem?_toList, Array.getElem?_mapIdx, Array.getElem?_eq_getElem hjc, Option.map_some]
        rw [if_pos (by simp; omega)]
        simp
      · rw [List.getElem?_eq_none (by simp; omega), List.getElem?_eq_none (by rw [idCells_length]; simp; omega)]
theorem own_sorted {w : World} {base g n c m : Nat} {xs : List Value} {d : Array IdD} {os : Array Obj} (hn : n = d.size) (hg : g < w.heap.size) (h : w.ownsRow base 32 2 (.slice (some ⟨g, 0, none⟩) n c) n xs) :
    (sortWorldK encId 2 w g 0 m d os).ownsRow base 32 2 (.slice (some ⟨g, 0, none⟩) n c) n (idCells d.toList) ∧ w.grownBy (sortWorldK encId 2 w g 0 m d os) (some g) := by
  have h1 : (putRowK encId 2 (Sort.ahead w m) g 0 d).ownsRow base 32 2 (.slice (some ⟨g, 0, none⟩) n c) n (idCells d.toList) := own_put hn h
  have hsz : (putRowK encId 2 (Sort.ahead w m) g 0 d).heap.size = w.heap.size := by simp [putRowK, putRow, mapBlock, Sort.ahead]
  have hap : ∀ b, b < w.heap.size → (sortWorldK encId 2 w g 0 m d os).heap[b]? = (putRowK encId 2 (Sort.ahead w m) g 0 d).heap[b]? := fun b hb => by
    show ((putRowK encId 2 (Sort.ahead w m) g 0 d).heap ++ os)[b]? = _
    rw [Array.getElem?_append_left (by rw [hsz]; exact hb)]
  refine ⟨ownsRow_keep h1 (fun b hk => ⟨(h1.lt b hk).1, hap b (by rw [← hsz]; exact (h1.lt b hk).2)⟩), ⟨rfl, rfl, rfl, ?_, fun b hb hne => ?_⟩⟩
  · show w.heap.size ≤ ((putRowK encId 2 (Sort.ahead w m) g 0 d).heap ++ os).size
    rw [Array.size_append, hsz]; omega
  · rw [hap b hb]
    show (w.heap.modify g _)[b]? = _
    rw [Array.getElem?_modify, if_neg (fun e => hne (congrArg some e.symm))]
theorem sort_own (base g n c : Nat) (xs : List IdD) (w : World) (hn : n = xs.length) (hn1 : n ≤ 4194304) (h : w.ownsRow base 32 2 (.slice (some ⟨g, 0, none⟩) n c) n (idCells xs)) :
    Calls Try.prog 110 #[.slice (some ⟨g, 0, none⟩) n c, .func (.func 107) #[] #[]] w fun e w' =>
      e = .returned (.tuple #[]) ∧ ∃ ys : List IdD, ys.Perm xs ∧ Wk ys ∧ w'.ownsRow base 32 2 (.slice (some ⟨g, 0, none⟩) n c) n (idCells ys) ∧ w.grownBy w' (some g) := by
  subst hn
  have hg := (h.lt g rfl).2
  have hc := sort_ids g 0 c xs.toArray w (holds_own (c := c) (base := base) rfl (by simpa using h)) hg (by simp; omega)
  simp only [List.size_toArray] at hc
  refine hc.mono ?_
  rintro e w' ⟨rfl, d', m, os, hp, hs, rfl⟩
  have hsz : d'.size = xs.length := by have := hp.1; simpa using this
  have ho := own_sorted (m := m) (os := os) (d := d') hsz.symm hg h
  refine ⟨rfl, d'.toList, ?_, ?_, ho.1, ho.2⟩
  · have := hp.2.2
    rw [show d'.extract 0 xs.length = d' from by rw [← hsz]; simp, show xs.toArray.extract 0 xs.length = xs.toArray from by simp] at this
    simpa using this
  · refine List.pairwise_iff_getElem.2 fun i j hi hj hij => ?_
    have := hs i j (Nat.zero_le _) hij (by simpa [hsz] using hj)
    rw [ltOf_id] at this
    have e1 : d'[i]! = d'.toList[i] := by rw [getElem!_pos d' i (by simpa using hi)]; simp
    have e2 : d'[j]! = d'.toList[j] := by rw [getElem!_pos d' j (by simpa using hj)]; simp
    rw [e1, e2] at this
    exact this

end Go.Proofs.Ytbdblfpepnoafaa
namespace Go.Proofs.Ytbdblfpepnoafaa
open Go.RowKit Go.Shelf Go.Lib

theorem idCells_take : ∀ (xs : List IdD) (i : Nat), (idCells xs).take (i * 2) = idCells (xs.take i)
  | xs, 0 => by simp [idCells]
  | [], i + 1 => by simp [idCells]
  | x :: xs, i + 1 => by
    rw [List.take_succ_cons, idCells, show (i + 1) * 2 = i * 2 + 2 by omega]
    show _ :: _ :: (idCells xs).take (i * 2) = _
    rw [idCells_take xs i]
    rfl
structure CompSt (w : World) (g c : Nat) (xs : List IdD) (m k : Nat) : Prop where
  lt : k < m
  le : m ≤ xs.length
  cap : xs.length ≤ c
  len : k = (compactF (xs.take m)).length
  row : ∃ cur : Array Value, Blk w g 32 cur ∧ cur.size = c * 2 ∧ cur.toList.take (k * 2) = idCells (compactF (xs.take m)) ∧ ∀ j, (m - 1) * 2 ≤ j → j < xs.length * 2 → cur[j]? = (idCells xs)[j]?
theorem CompSt.cell {w : World} {g c m k : Nat} {xs : List IdD} (h : CompSt w g c xs m k) (j : Nat) (hm : m ≤ j + 1) (hj : j < xs.length) : ∀ (u : Nat) (v : Value), [Value.int .i64 xs[j].rep, Value.int .i64 xs[j].slot][u]? = some v → w.cell? ((⟨g, j * 2, none⟩ : Addr).add u) = some v := by
  intro u v hv
  obtain ⟨cur, hb, _, _, hc⟩ := h.row
  have hu : u < 2 := by
    rcases Nat.lt_or_ge u 2 with h | h
    · exact h
    · rw [List.getElem?_eq_none (by simpa using h)] at hv; cases hv
  rw [add_plain, hb.cell, hc _ (by have := h.lt; omega) (by omega), idCells_get xs _ (by omega), show (j * 2 + u) / 2 = j by omega, show (j * 2 + u) % 2 = u by omega]
  have e : xs[j]! = xs[j] := getElem!_pos xs j hj
  rw [e]
  have : u = 0 ∨ u = 1 := by omega
  rcases this with rfl | rfl <;> simpa [encId] using hv
theorem CompSt.drew {w : World} {g c m k : Nat} {xs : List IdD} (h : CompSt w g c xs m k) : CompSt w.drew g c xs m k := ⟨h.lt, h.le, h.cap, h.len, h.row⟩
theorem CompSt.skip {w : World} {g c m k : Nat} {xs : List IdD} (h : CompSt w g c xs m k) (hm : m < xs.length) (he : xs[m - 1]'(by have := h.lt; omega) = xs[m]) : CompSt w g c xs (m + 1) k := by
  have hl := h.lt
  have e := compactF_take (xs := xs) (m := m) (by omega) hm
  rw [if_pos he] at e
  obtain ⟨cur, hb, hs, ht, hc⟩ := h.row
  exact ⟨by omega, hm, h.cap, by rw [e]; exact h.len, cur, hb, hs, by rw [e]; exact ht, fun j h1 h2 => hc j (by omega) h2⟩
theorem CompSt.split {w : World} {g c m k : Nat} {xs : List IdD} (h : CompSt w g c xs m k) (hm : m < xs.length) : ∃ (A M C : List Value) (cur : Array Value), Blk w g 32 cur ∧ cur.toList = A ++ (M ++ C) ∧ A.length = k * 2 ∧ M.length = 2 ∧
    (xs[m - 1]'(by have := h.lt; omega) ≠ xs[m] → ∀ w', Blk w' g 32 (A ++ ([Value.int .i64 xs[m].rep, Value.int .i64 xs[m].slot] ++ C)).toArray → CompSt w' g c xs (m + 1) (k + 1)) := by
  have hl := h.lt
  have hcap := h.cap
  obtain ⟨cur, hb, hs, ht, hc⟩ := h.row
  have hsz : cur.toList.length = c * 2 := by simpa using hs
  refine ⟨cur.toList.take (k * 2), (cur.toList.drop (k * 2)).take 2, (cur.toList.drop (k * 2)).drop 2, cur, hb, by rw [List.take_append_drop, List.take_append_drop], by rw [List.length_take]; omega, by rw [List.length_take, List.length_drop]; omega, fun hne w' hb' => ?_⟩
  have e := compactF_take (xs := xs) (m := m) (by omega) hm
  rw [if_neg hne] at e
  have hAl : (cur.toList.take (k * 2)).length = k * 2 := by rw [List.length_take]; omega
  refine ⟨by omega, hm, hcap, by rw [e, List.length_append, ← h.len]; rfl, _, hb', ?_, ?_, fun j h1 h2 => ?_⟩
  · simp only [List.size_toArray, List.length_append, List.length_take, List.length_drop, List.length_cons, List.length_nil]
    omega
  · show List.take ((k + 1) * 2) (_ ++ _) = _
    rw [e, idCells_app, List.take_append, hAl, List.take_of_length_le (by rw [hAl]; omega), ht, show (k + 1) * 2 - k * 2 = 2 by omega]
    rfl
  · have h3 := hc j (by omega) h2
    rw [← h3]
    show ((cur.toList.take (k * 2)) ++ (_ ++ _)).toArray[j]? = _
    rw [List.getElem?_toArray, List.getElem?_append_right (by rw [hAl]; omega), hAl, List.getElem?_append_right (by simp; omega), List.getElem?_drop, List.getElem?_drop]
    simp only [List.length_cons, List.length_nil]
    rw [show k * 2 + (0 + 1 + 1 + (j - k * 2 - (0 + 1 + 1))) = j by omega, Array.getElem?_toList]
    
theorem CompSt.start {w : World} {base g n c k : Nat} {xs : List IdD} (hn : n = xs.length) (h : w.ownsRow base 32 2 (.slice (some ⟨g, 0, none⟩) n c) n (idCells xs)) (h0 : 0 < k) (hk : k < xs.length) (hall : compactF (xs.take k) = xs.take k) (he : xs[k - 1] = xs[k]) : CompSt w g c xs (k + 1) k := by
  have e := compactF_take (xs := xs) (m := k) h0 hk
  rw [if_pos he, hall] at e
  rcases h.2 with ⟨h1, h2⟩ | ⟨g', cap, cur, hv, hb, hg, hnc, hcm, hs, ht⟩
  · cases h1
  · injection hv with e1 e2 e3
    injection e1 with e1
    injection e1 with e1
    subst e1 e3 hn
    have hsz : cur.toList.length = c * 2 := by simpa using hs
    refine ⟨by omega, hk, hnc, by rw [e, List.length_take]; omega, cur, hg, hs, ?_, fun j h1 h2 => ?_⟩
    · rw [e, ← idCells_take, ← ht, List.take_take]
      congr 1
      omega
    · rw [← ht, List.getElem?_take_of_lt h2, Array.getElem?_toList]
/-- the clear of what is left over -/
theorem run_clear_row {P : Program} (w : World) (t e : TypeId) (z : Value) (ht : P.underlying t = some (.slice e)) (hv : ∀ w, (zeroValue e).run P w = .ok z w) (hz : z.cells.size = 2) (h1 : ∀ u ∈ z.cells.toList, u.oneCell' = true) (g o n c : Nat) (te : TypeId) (cur : Array Value) (hn : 0 < n)
    (hb : Blk w g te cur) (hs : o + n * 2 ≤ cur.size) :
    ∃ zs : List Value, zs.length = n * 2 ∧ ∀ ty, (Builtin.clear_ #[t] ty #[.slice (some ⟨g, o, none⟩) n c]).run P w = .ok (.tuple #[]) (w.setRow g (cur.toList.take o ++ zs ++ cur.toList.drop (o + n * 2)).toArray) := by
  have hzl : (Builtin.zeroCells z.cells n).toList.length = n * 2 := by rw [Array.length_toList, size_zeroCells, hz]
  have hone : ∀ v ∈ (Builtin.zeroCells z.cells n).toList, v.oneCell' = true := fun v hv' => by
    obtain ⟨i, hi, rfl⟩ := List.getElem_of_mem hv'
    refine h1 _ ?_
    simp [Builtin.zeroCells]
    have : i % z.cells.size < z.cells.size := Nat.mod_lt _ (by omega)
    rw [getElem!_pos z.cells _ this]
    exact Array.getElem_mem this
  have hst := run_storeCells_at (P := P) g o te (Builtin.zeroCells z.cells n).toList 0 cur w hb (by omega) hone
  rw [hzl, Nat.add_zero] at hst
  refine ⟨_, hzl, fun ty => ?_⟩
  obtain ⟨m, rfl⟩ : ∃ m, n = m + 1 := ⟨n - 1, by omega⟩
  simp [Builtin.clear_, run_underlying ht, hv, hst]
theorem CompSt.done {w : World} {base g c k : Nat} {xs : List IdD} (hbg : base ≤ g) (hcm : c ≤ maxLen) (h : CompSt w g c xs xs.length k) (P : Program) (t : TypeId) (z : Value) (ht : P.underlying t = some (.slice 32)) (hv : ∀ w, (zeroValue 32).run P w = .ok z w) (hz : z.cells.size = 2) (h1 : ∀ u ∈ z.cells.toList, u.oneCell' = true) :
    ∃ w', (∀ ty, (Builtin.clear_ #[t] ty #[.slice (some ⟨g, k * 2, none⟩) (xs.length - k) (c - k)]).run P w = .ok (.tuple #[]) w') ∧ w'.ownsRow base 32 2 (.slice (some ⟨g, 0, none⟩) k c) k (idCells (compactF xs)) ∧ w.grownBy w' (some g) := by
  have hlt := h.lt
  have hcap := h.cap
  obtain ⟨cur, hb, hs, hrow, _⟩ := h.row
  obtain ⟨zs, hzl, hr⟩ := run_clear_row (P := P) w t 32 z ht hv hz h1 g (k * 2) (xs.length - k) (c - k) 32 cur (by omega) hb (by omega)
  have hsz : cur.toList.length = c * 2 := by simpa using hs
  have hlen := h.len
  rw [List.take_of_length_le (Nat.le_refl _)] at hlen hrow
  have hAl : (cur.toList.take (k * 2)).length = k * 2 := by rw [List.length_take]; omega
  refine ⟨_, hr, ⟨by rw [idCells_length, hlen], .inr ⟨g, c, _, rfl, hbg, setRow_blk hb, by omega, hcm, ?_, ?_⟩⟩, setRow_grown _ _ _⟩
  · simp only [List.size_toArray, List.length_append, List.length_take, List.length_drop, hzl]
    omega
  · show List.take (k * 2) ((_ ++ _) ++ _) = _
    rw [List.append_assoc, List.take_append, hAl, List.take_of_length_le (by rw [hAl]; exact Nat.le_refl _), hrow, Nat.sub_self, List.take_zero, List.append_nil]

end Go.Proofs.Ytbdblfpepnoafaa
namespace Go.Proofs.Ytbdblfpepnoafaa
open Go.RowKit Go.Shelf Go.Lib

theorem compact_short : ∀ {xs : List IdD}, xs.length < 2 → compactF xs = xs
  | [], _ => rfl
  | [a], _ => rfl
  | a :: b :: r, h => by simp only [List.length_cons] at h; omega
theorem grown_dr {a b : World} {r : Option Nat} (h : a.grownBy b r) : a.grownBy b.drew r := ⟨h.os, h.tape, h.output, h.size, h.block⟩
theorem grown_tr {a b c : World} {r : Option Nat} (h : a.grownBy b r) (k : b.grownBy c r) : a.grownBy c r :=
  ⟨k.os.trans h.os, k.tape.trans h.tape, k.output.trans h.output, Nat.le_trans h.size k.size, fun j hj hn => (k.block j (Nat.lt_of_lt_of_le hj h.size) hn).trans (h.block j hj hn)⟩
set_option maxRecDepth 100000 in
set_option maxHeartbeats 2000000 in
theorem compact_own (base n c : Nat) (A : Option Addr) (xs : List IdD) (w : World) (hn : n = xs.length) (hn1 : n ≤ 4194304) (h : w.ownsRow base 32 2 (.slice A n c) n (idCells xs)) :
    Calls Try.prog 111 #[.slice A n c] w fun e w' =>
      ∃ m, e = .returned (.slice A m c) ∧ m = (compactF xs).length ∧ w'.ownsRow base 32 2 (.slice A m c) m (idCells (compactF xs)) ∧ w.grownBy w' (Value.slice A n c).ownBlock := by
  by_cases h2 : n < 2
  · have hc := compact_short (xs := xs) (by omega)
    have HH := Lib.hid h; clear h
    have HC := Lib.hid hc; clear hc
    have HN := Lib.hid hn; clear hn
    go_enter Try.func111, Try.ntmps111
    go_wp2
    go_ret
    exact ⟨n, ret_eq rfl, by rw [HC.out]; exact HN.out, by rw [HC.out]; exact HH.out, ⟨rfl, rfl, rfl, Nat.le_refl _, fun _ _ _ => rfl⟩⟩
  · obtain ⟨g, cap, cur, hv, hbg, hg, hnc, hcm, hs, ht⟩ := h.2.resolve_left (fun h0 => by omega)
    injection hv with e1 e2 e3
    subst e1 e3
    have hcap : xs.length ≤ c := by omega
    have HCM := Lib.hid (And.intro hcm hcap)
    have HBG := Lib.hid hbg
    have HO := Lib.hid h
    have HN := Lib.hid hn
    clear hg hnc hcm hs ht hbg e2
    have hnc : n ≤ c := by omega
    have hnm : c ≤ 9223372036854775807 := by have := HCM.out.1; simp only [maxLen] at this; omega
    clear h hn hcap
    have hcells : ∀ (wr : World) (_ : ∀ b, b < w.heap.size → wr.heap[b]? = w.heap[b]?) (j : Nat) (hj : j < xs.length), ∀ (u : Nat) (v : Value), [Value.int .i64 xs[j].rep, Value.int .i64 xs[j].slot][u]? = some v → wr.cell? ((⟨g, j * 2, none⟩ : Addr).add u) = some v := by
      intro wr hw j hj u v hv
      have hu : u < 2 := by
        rcases Nat.lt_or_ge u 2 with h | h
        · exact h
        · rw [List.getElem?_eq_none (by simpa using h)] at hv; cases hv
      have e := idCells_get xs (j * 2 + u) (by omega)
      rw [show (j * 2 + u) / 2 = j by omega, show (j * 2 + u) % 2 = u by omega, getElem!_pos xs j hj] at e
      have h3 := World.ownsRow.cells (g := g) HO.out rfl (j * 2 + u) _ e
      rw [add_plain, Nat.zero_add] at h3
      rw [add_plain, World.cell?_of_block (hw _ (HO.out.lt g rfl).2), h3]
      have : u = 0 ∨ u = 1 := by omega
      rcases this with rfl | rfl <;> simpa [encId] using hv
    have HC := Lib.hid hcells; clear hcells
    go_enter Try.func111, Try.ntmps111
    go_wp2
    go_loopw [3] (fun kk wr => ∃ k q : Nat, k + 1 ≤ n ∧ kk = .int .i64 ((k : Int) + 1) ∧ wr = w.drewN q ∧ compactF (xs.take (k + 1)) = xs.take (k + 1)) (fun kk _ => n - (intOf kk).toNat)
    case atStart => exact ⟨0, 0, by omega, rfl, rfl, compact_short (by rw [List.length_take]; omega)⟩
    case round =>
      obtain ⟨k, q, hk, rfl, rfl, hall⟩ := hrel
      have HALL := Lib.hid hall; clear hall
      by_cases hlt : k + 1 < n
      · have hk1 : k + 1 < xs.length := by have := HN.out; omega
        have hk0 : k < xs.length := by omega
        have c1 := HC.out (w.drewN q) (fun _ _ => rfl) (k + 1) hk1
        have c0 := HC.out (w.drewN q) (fun _ _ => rfl) k hk0
        have C1 := Lib.hid c1
        have C0 := Lib.hid c0
        clear c1 c0
        by_cases hxy : xs[k] = xs[k + 1]
        · have hst := fun W (hw : W = w.drewN (q + 1)) => CompSt.start (w := W) (c := c) (k := k + 1) HN.out (by subst hw; exact HO.out) (by omega) hk1 HALL.out hxy
          have HST := Lib.hid hst
          clear hst
          rw [hxy] at C0
          generalize xs[k + 1] = x at C1 C0
          obtain ⟨xr, xsl⟩ := x
          simp only [] at C1 C0
          clear hxy
          go_wp2_with fail
          refine wp_region_x 9 [0, 1, 2, 3, 4, 5, 6, 7, 8] (by kernel_rfl) (by kernel_rfl) ?_
          iterate 3 (refine wpX_quiet rfl (by kernel_rfl) rfl ?_; go_wp2; refine ⟨rfl, ?_⟩)
          refine wpX_quiet rfl (by kernel_rfl) rfl ?_; refine wpList_load_row _ _ rfl [.int .i64 xr, .int .i64 xsl] agg_Id rfl C1.out ?_; go_wp2; refine ⟨rfl, ?_⟩
          iterate 4 (refine wpX_quiet rfl (by kernel_rfl) rfl ?_; go_wp2; refine ⟨rfl, ?_⟩)
          refine wpX_quiet rfl (by kernel_rfl) rfl ?_; refine wpList_load_row _ _ rfl [.int .i64 xr, .int .i64 xsl] agg_Id rfl C0.out ?_; go_wp2; refine ⟨rfl, ?_⟩
          refine wpX_nil ?_; simp only [List.drop_succ_cons, List.drop_zero]
          go_wp2
          have hlc : k + 1 < c := by omega
          have hst := HST.out _ rfl
          have hgr : w.grownBy (w.drewN (q + 1)) (some g) := ⟨rfl, rfl, rfl, Nat.le_refl _, fun _ _ _ => rfl⟩
          have HS0 := Lib.hid (And.intro hst hgr)
          clear hst hgr HST C1 C0
          go_loopw [3, 5] (fun kk jj wr => ∃ (k' j : Nat), k + 1 + (j + 1) ≤ n ∧ kk = .int .i64 (k' : Int) ∧ jj = .int .i64 ((j : Int) + 1) ∧ CompSt wr g c xs (k + 1 + (j + 1)) k' ∧ w.grownBy wr (some g)) (fun _ jj _ => n - (intOf jj).toNat)
          case atStart => exact ⟨k + 1, 0, by omega, by go_num, rfl, HS0.out.1, HS0.out.2⟩
          case round =>
            clear HS0
            obtain ⟨k', j, hj, rfl, rfl, hst, hgr⟩ := hrel
            have hkl := hst.lt
            have ST := Lib.hid hst; clear hst
            have GR := Lib.hid hgr; clear hgr
            by_cases hl2 : k + 1 + (j + 1) < n
            · have hm1 : k + 1 + (j + 1) < xs.length := by have := HN.out; omega
              have hm0 : k + 1 + j < xs.length := by omega
              have c1 := ST.out.cell (k + 1 + (j + 1)) (by omega) hm1
              have c0 := ST.out.cell (k + 1 + j) (by omega) hm0
              have hsk := ST.out.skip hm1
              obtain ⟨AA, MM, CC, cur2, hb2, hc2, hA2, hM2, hst2⟩ := ST.out.split hm1
              have e0 : xs[k + 1 + (j + 1) - 1]'(by omega) = xs[k + 1 + j] := by congr 1
              rw [e0] at hsk hst2
              have ec1 : (⟨g, (k + 1 + (j + 1)) * 2, none⟩ : Addr) = ⟨g, (k + 1) * 2 + (j + 1) * 2, none⟩ := by rw [Nat.add_mul (k + 1)]
              have ec0 : (⟨g, (k + 1 + j) * 2, none⟩ : Addr) = ⟨g, (k + 1) * 2 + j * 2, none⟩ := by rw [Nat.add_mul (k + 1)]
              rw [ec1] at c1
              rw [ec0] at c0
              have HE := Lib.hid (And.intro ec1 ec0); clear ec1 ec0 e0
              generalize xs[k + 1 + (j + 1)] = x at *
              generalize xs[k + 1 + j] = y at *
              obtain ⟨xr, xsl⟩ := x
              obtain ⟨yr, ysl⟩ := y
              simp only [] at c1 c0 hst2
              have C1 := Lib.hid c1
              have C0 := Lib.hid c0
              have SK := Lib.hid hsk
              have SP := Lib.hid (And.intro (And.intro hb2 hc2) (And.intro hA2 hM2))
              have ST2 := Lib.hid hst2
              clear c1 c0 hsk hb2 hc2 hA2 hM2 hst2
              have hcj : ¬ c - (k + 1) = 0 := by omega
              by_cases hxy : (⟨yr, ysl⟩ : IdD) = ⟨xr, xsl⟩
              · have hs2 := SK.out hxy
                injection hxy with e1 e2
                subst e1 e2
                have S2 := Lib.hid hs2; clear hs2 SK ST2
                go_wp2_with fail
                refine wp_region_x 9 [0, 1, 2, 3, 4, 5, 6, 7, 8] (by kernel_rfl) (by kernel_rfl) ?_
                iterate 3 (refine wpX_quiet rfl (by kernel_rfl) rfl ?_; go_wp2; refine ⟨rfl, ?_⟩)
                refine wpX_quiet rfl (by kernel_rfl) rfl ?_; refine wpList_load_row _ _ rfl [.int .i64 yr, .int .i64 ysl] agg_Id rfl C1.out ?_; go_wp2; refine ⟨rfl, ?_⟩
                iterate 4 (refine wpX_quiet rfl (by kernel_rfl) rfl ?_; go_wp2; refine ⟨rfl, ?_⟩)
                refine wpX_quiet rfl (by kernel_rfl) rfl ?_; refine wpList_load_row _ _ rfl [.int .i64 yr, .int .i64 ysl] agg_Id rfl C0.out ?_; go_wp2; refine ⟨rfl, ?_⟩
                refine wpX_nil ?_; simp only [List.drop_succ_cons, List.drop_zero]
                go_wp2
                exact ⟨⟨k', j + 1, by omega, rfl, by go_num, S2.out.drew, grown_dr GR.out⟩, by simp only [intOf]; omega⟩
              · have HN2 := Lib.hid (fun W hW => ST2.out hxy W hW)
                clear SK ST2
                by_cases e1 : yr = xr
                · subst e1
                  have e2 : (xsl == ysl) = false := by simp only [beq_eq_false_iff_ne]; intro h; exact hxy (by rw [h])
                  have e3 : (ysl == xsl) = false := by simp only [beq_eq_false_iff_ne]; intro h; exact hxy (by rw [h])
                  clear hxy
                  go_wp2_with fail
                  refine wp_region_x 9 [0, 1, 2, 3, 4, 5, 6, 7, 8] (by kernel_rfl) (by kernel_rfl) ?_
                  iterate 3 (refine wpX_quiet rfl (by kernel_rfl) rfl ?_; go_wp2; refine ⟨rfl, ?_⟩)
                  refine wpX_quiet rfl (by kernel_rfl) rfl ?_; refine wpList_load_row _ _ rfl [.int .i64 yr, .int .i64 xsl] agg_Id rfl C1.out ?_; go_wp2; refine ⟨rfl, ?_⟩
                  iterate 4 (refine wpX_quiet rfl (by kernel_rfl) rfl ?_; go_wp2; refine ⟨rfl, ?_⟩)
                  refine wpX_quiet rfl (by kernel_rfl) rfl ?_; refine wpList_load_row _ _ rfl [.int .i64 yr, .int .i64 ysl] agg_Id rfl C0.out ?_; go_wp2; refine ⟨rfl, ?_⟩
                  refine wpX_nil ?_; simp only [List.drop_succ_cons, List.drop_zero]
                  go_wp2_with (first | ((with_reducible show wpList _ _ _ ({ dst := _, op := Op.load 32 _, type := _, pos := _, after := _, guard := _ } :: _) _ _); refine wpList_load_row _ _ rfl [.int .i64 yr, .int .i64 xsl] agg_Id rfl C1.out ?_) | ((with_reducible show wpList _ _ _ ({ dst := _, op := Op.store 32 _ _, type := _, pos := _, after := _, guard := _ } :: _) _ _); refine wpList_store_row _ g 32 (k' * 2) [.int .i64 yr, .int .i64 xsl] AA MM CC cur2 rfl rfl agg_Id SP.out.1.1 SP.out.1.2 SP.out.2.1 SP.out.2.2 (by simp [Value.oneCell']) ?_; intro w5 hb5 hg5; have HB5 := Lib.hid hb5; have HG5 := Lib.hid hg5; clear hb5 hg5) | fail)
                  exact ⟨⟨k' + 1, j + 1, by omega, by go_num, by go_num, HN2.out _ HB5.out, grown_tr (grown_dr GR.out) HG5.out⟩, by simp only [intOf]; omega⟩
                · have e2 : (xr == yr) = false := by simp only [beq_eq_false_iff_ne]; exact fun h => e1 h.symm
                  have e3 : (yr == xr) = false := by simp only [beq_eq_false_iff_ne]; exact e1
                  clear hxy e1
                  go_wp2_with fail
                  refine wp_region_x 9 [0, 1, 2, 3, 4, 5, 6, 7, 8] (by kernel_rfl) (by kernel_rfl) ?_
                  iterate 3 (refine wpX_quiet rfl (by kernel_rfl) rfl ?_; go_wp2; refine ⟨rfl, ?_⟩)
                  refine wpX_quiet rfl (by kernel_rfl) rfl ?_; refine wpList_load_row _ _ rfl [.int .i64 xr, .int .i64 xsl] agg_Id rfl C1.out ?_; go_wp2; refine ⟨rfl, ?_⟩
                  iterate 4 (refine wpX_quiet rfl (by kernel_rfl) rfl ?_; go_wp2; refine ⟨rfl, ?_⟩)
                  refine wpX_quiet rfl (by kernel_rfl) rfl ?_; refine wpList_load_row _ _ rfl [.int .i64 yr, .int .i64 ysl] agg_Id rfl C0.out ?_; go_wp2; refine ⟨rfl, ?_⟩
                  refine wpX_nil ?_; simp only [List.drop_succ_cons, List.drop_zero]
                  go_wp2_with (first | ((with_reducible show wpList _ _ _ ({ dst := _, op := Op.load 32 _, type := _, pos := _, after := _, guard := _ } :: _) _ _); refine wpList_load_row _ _ rfl [.int .i64 xr, .int .i64 xsl] agg_Id rfl C1.out ?_) | ((with_reducible show wpList _ _ _ ({ dst := _, op := Op.store 32 _ _, type := _, pos := _, after := _, guard := _ } :: _) _ _); refine wpList_store_row _ g 32 (k' * 2) [.int .i64 xr, .int .i64 xsl] AA MM CC cur2 rfl rfl agg_Id SP.out.1.1 SP.out.1.2 SP.out.2.1 SP.out.2.2 (by simp [Value.oneCell']) ?_; intro w5 hb5 hg5; have HB5 := Lib.hid hb5; have HG5 := Lib.hid hg5; clear hb5 hg5) | fail)
                  exact ⟨⟨k' + 1, j + 1, by omega, by go_num, by go_num, HN2.out _ HB5.out, grown_tr (grown_dr GR.out) HG5.out⟩, by simp only [intOf]; omega⟩
            · have hmn : k + 1 + (j + 1) = xs.length := by have := HN.out; omega
              have hst := ST.out
              rw [hmn] at hst
              have hl := hst.len
              rw [List.take_length] at hl
              obtain ⟨w', hcl, hown, hg'⟩ := CompSt.done HBG.out HCM.out.1 hst Try.prog 34 (.agg #[.int .i64 0, .int .i64 0]) Try.underlying34 (fun _ => rfl) rfl (by intro u hu; simp [Value.cells] at hu; subst hu; rfl)
              rw [← show n = xs.length from HN.out] at hcl
              have HOW := Lib.hid hown
              have HGW := Lib.hid hg'
              have HL := Lib.hid hl
              have hkn : k' < n := by omega
              have hkc : ¬ c - k' = 0 := by omega
              clear hown hg' hl hst
              go_wp2
              go_ret
              exact ⟨k', ret_eq rfl, HL.out, HOW.out, grown_tr GR.out HGW.out⟩
        · have hall2 := compactF_take (xs := xs) (m := k + 1) (by omega) hk1
          rw [if_neg (by exact hxy), HALL.out, ← List.take_succ_eq_append_getElem hk1] at hall2
          have HALL2 := Lib.hid hall2
          clear hall2
          generalize xs[k + 1] = x at *
          generalize xs[k] = y at *
          obtain ⟨xr, xsl⟩ := x
          obtain ⟨yr, ysl⟩ := y
          simp only [] at C1 C0
          by_cases e1 : yr = xr
          · subst e1
            have e2 : (xsl == ysl) = false := by simp only [beq_eq_false_iff_ne]; intro h; exact hxy (by rw [h])
            have e3 : (ysl == xsl) = false := by simp only [beq_eq_false_iff_ne]; intro h; exact hxy (by rw [h])
            clear hxy
            go_wp2_with fail
            refine wp_region_x 9 [0, 1, 2, 3, 4, 5, 6, 7, 8] (by kernel_rfl) (by kernel_rfl) ?_
            iterate 3 (refine wpX_quiet rfl (by kernel_rfl) rfl ?_; go_wp2; refine ⟨rfl, ?_⟩)
            refine wpX_quiet rfl (by kernel_rfl) rfl ?_; refine wpList_load_row _ _ rfl [.int .i64 yr, .int .i64 xsl] agg_Id rfl C1.out ?_; go_wp2; refine ⟨rfl, ?_⟩
            iterate 4 (refine wpX_quiet rfl (by kernel_rfl) rfl ?_; go_wp2; refine ⟨rfl, ?_⟩)
            refine wpX_quiet rfl (by kernel_rfl) rfl ?_; refine wpList_load_row _ _ rfl [.int .i64 yr, .int .i64 ysl] agg_Id rfl C0.out ?_; go_wp2; refine ⟨rfl, ?_⟩
            refine wpX_nil ?_; simp only [List.drop_succ_cons, List.drop_zero]
            go_wp2
            exact ⟨⟨k + 1, q + 1, by omega, by go_num, rfl, HALL2.out⟩, by simp only [intOf]; omega⟩
          · have e2 : (xr == yr) = false := by simp only [beq_eq_false_iff_ne]; exact fun h => e1 h.symm
            have e3 : (yr == xr) = false := by simp only [beq_eq_false_iff_ne]; exact e1
            clear hxy e1
            go_wp2_with fail
            refine wp_region_x 9 [0, 1, 2, 3, 4, 5, 6, 7, 8] (by kernel_rfl) (by kernel_rfl) ?_
            iterate 3 (refine wpX_quiet rfl (by kernel_rfl) rfl ?_; go_wp2; refine ⟨rfl, ?_⟩)
            refine wpX_quiet rfl (by kernel_rfl) rfl ?_; refine wpList_load_row _ _ rfl [.int .i64 xr, .int .i64 xsl] agg_Id rfl C1.out ?_; go_wp2; refine ⟨rfl, ?_⟩
            iterate 4 (refine wpX_quiet rfl (by kernel_rfl) rfl ?_; go_wp2; refine ⟨rfl, ?_⟩)
            refine wpX_quiet rfl (by kernel_rfl) rfl ?_; refine wpList_load_row _ _ rfl [.int .i64 yr, .int .i64 ysl] agg_Id rfl C0.out ?_; go_wp2; refine ⟨rfl, ?_⟩
            refine wpX_nil ?_; simp only [List.drop_succ_cons, List.drop_zero]
            go_wp2
            exact ⟨⟨k + 1, q + 1, by omega, by go_num, rfl, HALL2.out⟩, by simp only [intOf]; omega⟩
      · have hke : k + 1 = n := by omega
        subst hke
        have hc := HALL.out
        rw [show k + 1 = xs.length from HN.out, List.take_length] at hc
        have HCC := Lib.hid hc; clear hc
        go_wp2
        go_ret
        exact ⟨k + 1, ret_eq (by first | rfl | (congr 1)), by rw [HCC.out]; exact HN.out, by rw [HCC.out]; exact HO.out, ⟨rfl, rfl, rfl, Nat.le_refl _, fun _ _ _ => rfl⟩⟩

end Go.Proofs.Ytbdblfpepnoafaa
namespace Go.Proofs.Ytbdblfpepnoafaa
open Go.RowKit

theorem rep_ids {B : Nat → Prop} {w : World} : ∀ {xs : List IdD} {cells : List Value}, Rep B w (cat IdD.c xs) cells → cells = idCells xs
  | [], _, h => by simp only [cat, Rep] at h; rw [h]; rfl
  | s :: r, _, h => by
    rw [cat_cons] at h
    obtain ⟨c1, c2, rfl, h1, h2⟩ := Rep.app.1 h
    rw [IdD.open h1, rep_ids h2]
    rfl
theorem idCells_drop : ∀ (xs : List IdD) (i : Nat), (idCells xs).drop (i * 2) = idCells (xs.drop i)
  | xs, 0 => by simp
  | [], i + 1 => by simp [idCells]
  | x :: xs, i + 1 => by
    rw [List.drop_succ_cons, ← idCells_drop xs i, show (i + 1) * 2 = i * 2 + 2 by omega, idCells]
    rfl
theorem reads_drop {w : World} {ad : Addr} {n i : Nat} {cells : List Value} (h : Reads w 2 (some ad) n cells) (hi : i ≤ n) : Reads w 2 (some (ad.add (i * 2))) (n - i) (cells.drop (i * 2)) := by
  refine ⟨by rw [List.length_drop, h.1]; omega, fun h0 => ⟨_, rfl, fun j u hu => ?_⟩⟩
  obtain ⟨ad', e, hc⟩ := h.2 (by omega)
  injection e with e
  subst e
  rw [List.getElem?_drop] at hu
  rw [add_of_add]
  exact hc _ _ hu
theorem _root_.Go.World.ownsRow.keptBelowJ {w w' : World} {base e sz n : Nat} {v : Value} {xs : List Value} (h : w.ownsRow base e sz v n xs) (hb : Below w.heap.size w w') : w'.ownsRow base e sz v n xs :=
  ownsRow_keep h (fun b hk => ⟨(h.lt b hk).1, hb.block b (h.lt b hk).2⟩)

set_option maxRecDepth 100000 in
set_option maxHeartbeats 8000000 in
theorem l8Join_any (xs ys : List IdD) (A A' : Option Addr) (n n' c c' : Nat) (w : World) (hn : n = xs.length) (hn' : n' = ys.length) (hwt : n ≤ 1048576) (hwt' : n' ≤ 1048576) (hcap : n ≤ c) (h : Rep anyB w (.sl 32 2 n (cat IdD.c xs) .nil) [.slice A n c]) (h' : Rep anyB w (.sl 32 2 n' (cat IdD.c ys) .nil) [.slice A' n' c']) :
    Calls Try.prog 108 #[.slice A n c, .slice A' n' c'] w fun e w' => ∃ A2 c2, e = .returned (.slice A2 (joinF xs ys).length c2) ∧ w'.ownsRow w.heap.size 32 2 (.slice A2 (joinF xs ys).length c2) (joinF xs ys).length (idCells (joinF xs ys)) ∧ Below w.heap.size w w' := by
  have HN := Lib.hid hn; clear hn
  have HN' := Lib.hid hn'; clear hn'
  have HR := Lib.hid h; clear h
  have HR' := Lib.hid h'; clear h'
  have htl := joinF_len xs ys
  obtain ⟨T, hT⟩ : ∃ T, T = joinF xs ys := ⟨_, rfl⟩
  rw [← hT] at htl ⊢
  have htl2 : T.length ≤ 2097152 := by have := HN.out; have := HN'.out; omega
  have HT := Lib.hid hT; clear hT htl
  go_enter Try.func108, Try.ntmps108
  go_wp2
  go_loopw [5, 6, 7] (fun oo ii kk wr => ∃ (acc : List IdD) (q i k : Nat) (Av : Option Addr) (kv : Nat), i ≤ n ∧ k ≤ n' ∧ q = acc.length ∧ q ≤ 2097152 ∧ oo = .slice Av q kv ∧ ii = .int .i64 (i : Int) ∧ kk = .int .i64 (k : Int) ∧ acc ++ joinF (xs.drop i) (ys.drop k) = T ∧ wr.ownsRow w.heap.size 32 2 (.slice Av q kv) q (idCells acc) ∧ Below w.heap.size w wr) (fun _ _ kk _ => n' - (intOf kk).toNat)
  case atStart => exact ⟨[], 0, 0, 0, some ⟨w.heap.size, 0, none⟩, 0, Nat.zero_le _, Nat.zero_le _, rfl, by omega, rfl, rfl, rfl, by rw [HT.out]; rfl, World.ownsRow_made w #[] 0 (Nat.le_refl _) (by simp [maxLen]) rfl, (by repeat' (first | with_reducible exact Below.refl _ _ | with_reducible exact BW.out | with_reducible refine Below.setCell ?_ ?_ _ | with_reducible refine Below.alloc ?_ ?_ _ | with_reducible refine Below.drew ?_ | (simp; done) | (simp; omega) | omega))⟩
  case round =>
    obtain ⟨acc, q, i, k, Av, kv, hi, hk, hq, hqb, rfl, rfl, rfl, hT, hown, hbw⟩ := hrel
    by_cases hlt : k < n'
    · have hky : k < ys.length := by have := HN'.out; omega
      have hdy : ys.drop k = ys[k] :: ys.drop (k + 1) := List.drop_eq_getElem_cons hky
      rw [hdy] at hT
      obtain ⟨y, hy⟩ : ∃ y, y = ys[k] := ⟨_, rfl⟩
      rw [← hy] at hT
      have HY := Lib.hid hy; clear hy hdy
      have hT0 := hT; clear hT
      have HT0 := Lib.hid hT0; clear hT0
      have hown0 := hown; clear hown
      have HO0 := Lib.hid hown0; clear hown0
      have BW0 := Lib.hid hbw; clear hbw
      have HQ0 := Lib.hid hq; clear hq
      go_wp2
      go_loopw [5, 6] (fun oo ii wr => ∃ (acc : List IdD) (q i : Nat) (Av : Option Addr) (kv : Nat), i ≤ n ∧ q = acc.length ∧ q ≤ 2097152 ∧ oo = .slice Av q kv ∧ ii = .int .i64 (i : Int) ∧ acc ++ joinF (xs.drop i) (y :: ys.drop (k + 1)) = T ∧ wr.ownsRow w.heap.size 32 2 (.slice Av q kv) q (idCells acc) ∧ Below w.heap.size w wr) (fun _ ii _ => n - (intOf ii).toNat)
      case atStart => exact ⟨acc, q, i, Av, kv, hi, HQ0.out, hqb, rfl, rfl, HT0.out, HO0.out, BW0.out⟩
      case round =>
        clear HT0 HO0 BW0 HQ0 hi hqb
        obtain ⟨acc, q, i, Av, kv, hi, hq, hqb, rfl, rfl, hT, hown, hbw⟩ := hrel
        have HTT := Lib.hid hT
        have HO := Lib.hid hown; clear hown
        have BW := Lib.hid hbw; clear hbw
        have HQ := Lib.hid hq; clear hq
        obtain ⟨ad', cy, rfl, _, _, hrc, hl, hc⟩ := (HR'.out.below BW.out).elem IdD.width k hky HN'.out
        rw [← HY.out] at hrc
        obtain rfl := IdD.open hrc
        have HCY := Lib.hid hc
        have HRY := Lib.hid hrc
        clear hc hrc hl
        obtain ⟨yr, ysl⟩ := y
        simp only [] at HCY
        by_cases hin : i < n
        · have hix : i < xs.length := by have := HN.out; omega
          have hdx : xs.drop i = xs[i] :: xs.drop (i + 1) := List.drop_eq_getElem_cons hix
          obtain ⟨ad, cx, rfl, _, _, hrc, hl, hc⟩ := (HR.out.below BW.out).elem IdD.width i hix HN.out
          rw [hdx] at hT
          obtain rfl := IdD.open hrc
          generalize xs[i] = x at *
          obtain ⟨xr, xsl⟩ := x
          simp only [] at hc
          have HCX := Lib.hid hc
          have HRX := Lib.hid hrc
          have HDX := Lib.hid hdx
          clear hc hrc hl hdx
          have hlen := congrArg List.length hT
          rw [List.length_append] at hlen
          have hq1 := HQ.out
          cases hlt2 : idLt ⟨xr, xsl⟩ ⟨yr, ysl⟩
          case true =>
            rw [joinF_lt hlt2] at hT hlen
            simp only [List.length_cons] at hlen
            have hqq : q + 1 ≤ 2097152 := by omega
            have HLT := Lib.hid hlt2; clear hlt2
            have HTn := Lib.hid (show (acc ++ [⟨xr, xsl⟩]) ++ joinF (xs.drop (i + 1)) (⟨yr, ysl⟩ :: ys.drop (k + 1)) = T by rw [← hT, List.append_assoc]; rfl)
            clear hT hlen hq1
            go_wp2
            refine wp_region_x 15 [0, 1, 2, 3, 4, 5, 6, 7, 8, 9, 10, 11, 12, 13, 14] (by kernel_rfl) (by kernel_rfl) ?_
            iterate 8 (refine wpX_quiet rfl (by kernel_rfl) rfl ?_; go_wp2; refine ⟨rfl, ?_⟩)
            refine wpX_quiet rfl (by kernel_rfl) rfl ?_; refine wpList_load_row_g _ rfl (ad.add (i * 2)) rfl [.int .i64 xr, .int .i64 xsl] agg_Id rfl HCX.out ?_; go_wp2; refine ⟨rfl, ?_⟩
            iterate 3 (refine wpX_quiet rfl (by kernel_rfl) rfl ?_; go_wp2; refine ⟨rfl, ?_⟩)
            refine wpX_quiet rfl (by kernel_rfl) rfl ?_; refine wpList_load_row_g _ rfl (ad'.add (k * 2)) rfl [.int .i64 yr, .int .i64 ysl] agg_Id rfl HCY.out ?_; go_wp2; refine ⟨rfl, ?_⟩
            refine wpX_actor rfl (by kernel_rfl) ?_; go_wp2_with fail
            refine (l8Less_any ⟨xr, xsl⟩ ⟨yr, ysl⟩ [.int .i64 xr, .int .i64 xsl] [.int .i64 yr, .int .i64 ysl] _ HRX.out.drew HRY.out.drew).mono ?_; rintro e v2 ⟨rfl, hb⟩
            rw [HLT.out]
            have HB := Lib.hid hb
            have HO2 := Lib.hid (HO.out.drew.keptBelowJ hb)
            have BW2 := Lib.hid (show Below w.heap.size w v2 from BW.out.trans ((below_drewL hb).mono BW.out.size))
            have HCX2 := Lib.hid (cells_below HCX.out (below_drewL hb))
            have HCY2 := Lib.hid (cells_below HCY.out (below_drewL hb))
            clear hb
            go_wp2
            refine ⟨Ext.of_below HB.out, ?_⟩
            iterate 1 (refine wpX_quiet rfl (by kernel_rfl) rfl ?_; go_wp2; refine ⟨rfl, ?_⟩)
            refine wpX_nil ?_; simp only [List.drop_succ_cons, List.drop_zero]
            go_wp2_with (first | ((with_reducible show wpList _ _ _ ({ dst := _, op := Op.load 32 _, type := _, pos := _, after := _, guard := _ } :: _) _ _); refine wpList_load_row _ (ad.add (i * 2)) rfl [.int .i64 xr, .int .i64 xsl] agg_Id rfl HCX2.out ?_) | (at_builtin; go_must (refine wpList_app E_Id _ rfl _ _ rfl w.heap.size _ q _ rfl (HO2.out.alloc _) _ _ _ _ rfl (Reads.new rfl) (by simp [Value.oneCell']) (by omega) (Nat.le_trans BW2.out.size (by simp)) ?_; intro vv w3 hown3 hg3 hat3; obtain ⟨Av3, kv3, rfl, _⟩ := SlR.of_own hown3; have HO3 := Lib.hid hown3; have HB3 := Lib.hid (Below.grown ((BW2.out).alloc (BW2.out).size _) hg3 (Nat.le_trans (BW2.out).size (by simp)) (fun k hk => (HO2.out.lt k hk).1)); clear hown3 hg3 hat3)) | fail)
            exact ⟨⟨acc ++ [⟨xr, xsl⟩], q + 1, i + 1, Av3, kv3, by omega, by rw [List.length_append, ← HQ.out]; rfl, hqq, rfl, by go_num, HTn.out, by rw [idCells_app]; exact HO3.out, HB3.out⟩, by simp only [intOf]; omega⟩
          case false =>
            have HLT := Lib.hid hlt2
            by_cases hxy : (⟨xr, xsl⟩ : IdD) = ⟨yr, ysl⟩
            · rw [hxy, joinF_eq] at hT
              rw [hxy, joinF_eq] at hlen
              simp only [List.length_cons] at hlen
              have hqq : q + 1 ≤ 2097152 := by omega
              injection hxy with e1 e2
              subst e1 e2
              have HTn := Lib.hid (show (acc ++ [⟨xr, xsl⟩]) ++ joinF (xs.drop (i + 1)) (ys.drop (k + 1)) = T by rw [← hT, List.append_assoc]; rfl)
              clear hT hlen hq1 hlt2
              go_wp2
              refine wp_region_x 15 [0, 1, 2, 3, 4, 5, 6, 7, 8, 9, 10, 11, 12, 13, 14] (by kernel_rfl) (by kernel_rfl) ?_
              iterate 8 (refine wpX_quiet rfl (by kernel_rfl) rfl ?_; go_wp2; refine ⟨rfl, ?_⟩)
              refine wpX_quiet rfl (by kernel_rfl) rfl ?_; refine wpList_load_row_g _ rfl (ad.add (i * 2)) rfl [.int .i64 xr, .int .i64 xsl] agg_Id rfl HCX.out ?_; go_wp2; refine ⟨rfl, ?_⟩
              iterate 3 (refine wpX_quiet rfl (by kernel_rfl) rfl ?_; go_wp2; refine ⟨rfl, ?_⟩)
              refine wpX_quiet rfl (by kernel_rfl) rfl ?_; refine wpList_load_row_g _ rfl (ad'.add (k * 2)) rfl [.int .i64 xr, .int .i64 xsl] agg_Id rfl HCY.out ?_; go_wp2; refine ⟨rfl, ?_⟩
              refine wpX_actor rfl (by kernel_rfl) ?_; go_wp2_with fail
              refine (l8Less_any ⟨xr, xsl⟩ ⟨xr, xsl⟩ [.int .i64 xr, .int .i64 xsl] [.int .i64 xr, .int .i64 xsl] _ HRX.out.drew HRY.out.drew).mono ?_; rintro e v2 ⟨rfl, hb⟩
              rw [HLT.out]
              have HB := Lib.hid hb
              have HO2 := Lib.hid (HO.out.drew.keptBelowJ hb)
              have BW2 := Lib.hid (show Below w.heap.size w v2 from BW.out.trans ((below_drewL hb).mono BW.out.size))
              have HCX2 := Lib.hid (cells_below HCX.out (below_drewL hb))
              have HCY2 := Lib.hid (cells_below HCY.out (below_drewL hb))
              clear hb
              go_wp2
              refine ⟨Ext.of_below HB.out, ?_⟩
              iterate 1 (refine wpX_quiet rfl (by kernel_rfl) rfl ?_; go_wp2; refine ⟨rfl, ?_⟩)
              refine wpX_nil ?_; simp only [List.drop_succ_cons, List.drop_zero]
              go_wp2
              refine wp_region_x 13 [0, 1, 2, 3, 4, 5, 6, 7, 8, 9, 10, 11, 12] (by kernel_rfl) (by kernel_rfl) ?_
              iterate 8 (refine wpX_quiet rfl (by kernel_rfl) rfl ?_; go_wp2; refine ⟨rfl, ?_⟩)
              refine wpX_quiet rfl (by kernel_rfl) rfl ?_; refine wpList_load_row_g _ rfl (ad.add (i * 2)) rfl [.int .i64 xr, .int .i64 xsl] agg_Id rfl HCX2.out ?_; go_wp2; refine ⟨rfl, ?_⟩
              iterate 3 (refine wpX_quiet rfl (by kernel_rfl) rfl ?_; go_wp2; refine ⟨rfl, ?_⟩)
              refine wpX_quiet rfl (by kernel_rfl) rfl ?_; refine wpList_load_row_g _ rfl (ad'.add (k * 2)) rfl [.int .i64 xr, .int .i64 xsl] agg_Id rfl HCY2.out ?_; go_wp2; refine ⟨rfl, ?_⟩
              refine wpX_nil ?_; simp only [List.drop_succ_cons, List.drop_zero]
              go_wp2_with (first | ((with_reducible show wpList _ _ _ ({ dst := _, op := Op.load 32 _, type := _, pos := _, after := _, guard := _ } :: _) _ _); refine wpList_load_row _ (ad'.add (k * 2)) rfl [.int .i64 xr, .int .i64 xsl] agg_Id rfl HCY2.out ?_) | (at_builtin; go_must (refine wpList_app E_Id _ rfl _ _ rfl w.heap.size _ q _ rfl ((HO2.out.alloc _).drew) _ _ _ _ rfl (Reads.new rfl) (by simp [Value.oneCell']) (by omega) (Nat.le_trans BW2.out.size (by simp)) ?_; intro vv w3 hown3 hg3 hat3; obtain ⟨Av3, kv3, rfl, _⟩ := SlR.of_own hown3; have HO3 := Lib.hid hown3; have HB3 := Lib.hid (Below.grown (((BW2.out).alloc (BW2.out).size _).drew) hg3 (Nat.le_trans (BW2.out).size (by simp)) (fun k hk => (HO2.out.lt k hk).1)); clear hown3 hg3 hat3)) | fail)
              exact ⟨⟨acc ++ [⟨xr, xsl⟩], q + 1, i + 1, k + 1, Av3, kv3, by omega, by omega, by rw [List.length_append, ← HQ.out]; rfl, by omega, rfl, by go_num, by go_num, HTn.out, by rw [idCells_app]; exact HO3.out, HB3.out⟩, by simp only [intOf]; omega⟩
            · skip
              rw [joinF_gt hlt2 hxy] at hT hlen
              simp only [List.length_cons] at hlen
              have hqq : q + 1 ≤ 2097152 := by omega
              have HTn := Lib.hid (show (acc ++ [⟨yr, ysl⟩]) ++ joinF (⟨xr, xsl⟩ :: xs.drop (i + 1)) (ys.drop (k + 1)) = T by rw [← hT, List.append_assoc]; rfl)
              rw [← HDX.out] at HTn
              clear hT hlen hq1 hlt2
              by_cases e1 : xr = yr
              · skip
                subst e1
                have e2 : (xsl == ysl) = false := by simp only [beq_eq_false_iff_ne]; intro h; exact hxy (by rw [h])
                have e3 : (ysl == xsl) = false := by simp only [beq_eq_false_iff_ne]; intro h; exact hxy (by rw [h])
                clear hxy
                go_wp2
                refine wp_region_x 15 [0, 1, 2, 3, 4, 5, 6, 7, 8, 9, 10, 11, 12, 13, 14] (by kernel_rfl) (by kernel_rfl) ?_
                iterate 8 (refine wpX_quiet rfl (by kernel_rfl) rfl ?_; go_wp2; refine ⟨rfl, ?_⟩)
                refine wpX_quiet rfl (by kernel_rfl) rfl ?_; refine wpList_load_row_g _ rfl (ad.add (i * 2)) rfl [.int .i64 xr, .int .i64 xsl] agg_Id rfl HCX.out ?_; go_wp2; refine ⟨rfl, ?_⟩
                iterate 3 (refine wpX_quiet rfl (by kernel_rfl) rfl ?_; go_wp2; refine ⟨rfl, ?_⟩)
                refine wpX_quiet rfl (by kernel_rfl) rfl ?_; refine wpList_load_row_g _ rfl (ad'.add (k * 2)) rfl [.int .i64 xr, .int .i64 ysl] agg_Id rfl HCY.out ?_; go_wp2; refine ⟨rfl, ?_⟩
                refine wpX_actor rfl (by kernel_rfl) ?_; go_wp2_with fail
                refine (l8Less_any ⟨xr, xsl⟩ ⟨xr, ysl⟩ [.int .i64 xr, .int .i64 xsl] [.int .i64 xr, .int .i64 ysl] _ HRX.out.drew HRY.out.drew).mono ?_; rintro e v2 ⟨rfl, hb⟩
                rw [HLT.out]
                have HB := Lib.hid hb
                have HO2 := Lib.hid (HO.out.drew.keptBelowJ hb)
                have BW2 := Lib.hid (show Below w.heap.size w v2 from BW.out.trans ((below_drewL hb).mono BW.out.size))
                have HCX2 := Lib.hid (cells_below HCX.out (below_drewL hb))
                have HCY2 := Lib.hid (cells_below HCY.out (below_drewL hb))
                clear hb
                go_wp2
                refine ⟨Ext.of_below HB.out, ?_⟩
                iterate 1 (refine wpX_quiet rfl (by kernel_rfl) rfl ?_; go_wp2; refine ⟨rfl, ?_⟩)
                refine wpX_nil ?_; simp only [List.drop_succ_cons, List.drop_zero]
                go_wp2
                refine wp_region_x 13 [0, 1, 2, 3, 4, 5, 6, 7, 8, 9, 10, 11, 12] (by kernel_rfl) (by kernel_rfl) ?_
                iterate 8 (refine wpX_quiet rfl (by kernel_rfl) rfl ?_; go_wp2; refine ⟨rfl, ?_⟩)
                refine wpX_quiet rfl (by kernel_rfl) rfl ?_; refine wpList_load_row_g _ rfl (ad.add (i * 2)) rfl [.int .i64 xr, .int .i64 xsl] agg_Id rfl HCX2.out ?_; go_wp2; refine ⟨rfl, ?_⟩
                iterate 3 (refine wpX_quiet rfl (by kernel_rfl) rfl ?_; go_wp2; refine ⟨rfl, ?_⟩)
                refine wpX_quiet rfl (by kernel_rfl) rfl ?_; refine wpList_load_row_g _ rfl (ad'.add (k * 2)) rfl [.int .i64 xr, .int .i64 ysl] agg_Id rfl HCY2.out ?_; go_wp2; refine ⟨rfl, ?_⟩
                refine wpX_nil ?_; simp only [List.drop_succ_cons, List.drop_zero]
                go_wp2_with (first | ((with_reducible show wpList _ _ _ ({ dst := _, op := Op.load 32 _, type := _, pos := _, after := _, guard := _ } :: _) _ _); refine wpList_load_row _ (ad'.add (k * 2)) rfl [.int .i64 xr, .int .i64 ysl] agg_Id rfl HCY2.out ?_) | (at_builtin; go_must (refine wpList_app E_Id _ rfl _ _ rfl w.heap.size _ q _ rfl ((HO2.out.alloc _).drew) _ _ _ _ rfl (Reads.new rfl) (by simp [Value.oneCell']) (by omega) (Nat.le_trans BW2.out.size (by simp)) ?_; intro vv w3 hown3 hg3 hat3; obtain ⟨Av3, kv3, rfl, _⟩ := SlR.of_own hown3; have HO3 := Lib.hid hown3; have HB3 := Lib.hid (Below.grown (((BW2.out).alloc (BW2.out).size _).drew) hg3 (Nat.le_trans (BW2.out).size (by simp)) (fun k hk => (HO2.out.lt k hk).1)); clear hown3 hg3 hat3)) | fail)
                exact ⟨⟨acc ++ [⟨xr, ysl⟩], q + 1, i, k + 1, Av3, kv3, by omega, by omega, by rw [List.length_append, ← HQ.out]; rfl, by omega, rfl, rfl, by go_num, HTn.out, by rw [idCells_app]; exact HO3.out, HB3.out⟩, by simp only [intOf]; omega⟩
              · skip
                have e2 : (xr == yr) = false := by simp only [beq_eq_false_iff_ne]; exact e1
                have e3 : (yr == xr) = false := by simp only [beq_eq_false_iff_ne]; exact fun h => e1 h.symm
                clear hxy e1
                go_wp2
                refine wp_region_x 15 [0, 1, 2, 3, 4, 5, 6, 7, 8, 9, 10, 11, 12, 13, 14] (by kernel_rfl) (by kernel_rfl) ?_
                iterate 8 (refine wpX_quiet rfl (by kernel_rfl) rfl ?_; go_wp2; refine ⟨rfl, ?_⟩)
                refine wpX_quiet rfl (by kernel_rfl) rfl ?_; refine wpList_load_row_g _ rfl (ad.add (i * 2)) rfl [.int .i64 xr, .int .i64 xsl] agg_Id rfl HCX.out ?_; go_wp2; refine ⟨rfl, ?_⟩
                iterate 3 (refine wpX_quiet rfl (by kernel_rfl) rfl ?_; go_wp2; refine ⟨rfl, ?_⟩)
                refine wpX_quiet rfl (by kernel_rfl) rfl ?_; refine wpList_load_row_g _ rfl (ad'.add (k * 2)) rfl [.int .i64 yr, .int .i64 ysl] agg_Id rfl HCY.out ?_; go_wp2; refine ⟨rfl, ?_⟩
                refine wpX_actor rfl (by kernel_rfl) ?_; go_wp2_with fail
                refine (l8Less_any ⟨xr, xsl⟩ ⟨yr, ysl⟩ [.int .i64 xr, .int .i64 xsl] [.int .i64 yr, .int .i64 ysl] _ HRX.out.drew HRY.out.drew).mono ?_; rintro e v2 ⟨rfl, hb⟩
                rw [HLT.out]
                have HB := Lib.hid hb
                have HO2 := Lib.hid (HO.out.drew.keptBelowJ hb)
                have BW2 := Lib.hid (show Below w.heap.size w v2 from BW.out.trans ((below_drewL hb).mono BW.out.size))
                have HCX2 := Lib.hid (cells_below HCX.out (below_drewL hb))
                have HCY2 := Lib.hid (cells_below HCY.out (below_drewL hb))
                clear hb
                go_wp2
                refine ⟨Ext.of_below HB.out, ?_⟩
                iterate 1 (refine wpX_quiet rfl (by kernel_rfl) rfl ?_; go_wp2; refine ⟨rfl, ?_⟩)
                refine wpX_nil ?_; simp only [List.drop_succ_cons, List.drop_zero]
                go_wp2
                refine wp_region_x 13 [0, 1, 2, 3, 4, 5, 6, 7, 8, 9, 10, 11, 12] (by kernel_rfl) (by kernel_rfl) ?_
                iterate 8 (refine wpX_quiet rfl (by kernel_rfl) rfl ?_; go_wp2; refine ⟨rfl, ?_⟩)
                refine wpX_quiet rfl (by kernel_rfl) rfl ?_; refine wpList_load_row_g _ rfl (ad.add (i * 2)) rfl [.int .i64 xr, .int .i64 xsl] agg_Id rfl HCX2.out ?_; go_wp2; refine ⟨rfl, ?_⟩
                iterate 3 (refine wpX_quiet rfl (by kernel_rfl) rfl ?_; go_wp2; refine ⟨rfl, ?_⟩)
                refine wpX_quiet rfl (by kernel_rfl) rfl ?_; refine wpList_load_row_g _ rfl (ad'.add (k * 2)) rfl [.int .i64 yr, .int .i64 ysl] agg_Id rfl HCY2.out ?_; go_wp2; refine ⟨rfl, ?_⟩
                refine wpX_nil ?_; simp only [List.drop_succ_cons, List.drop_zero]
                go_wp2_with (first | ((with_reducible show wpList _ _ _ ({ dst := _, op := Op.load 32 _, type := _, pos := _, after := _, guard := _ } :: _) _ _); refine wpList_load_row _ (ad'.add (k * 2)) rfl [.int .i64 yr, .int .i64 ysl] agg_Id rfl HCY2.out ?_) | (at_builtin; go_must (refine wpList_app E_Id _ rfl _ _ rfl w.heap.size _ q _ rfl ((HO2.out.alloc _).drew) _ _ _ _ rfl (Reads.new rfl) (by simp [Value.oneCell']) (by omega) (Nat.le_trans BW2.out.size (by simp)) ?_; intro vv w3 hown3 hg3 hat3; obtain ⟨Av3, kv3, rfl, _⟩ := SlR.of_own hown3; have HO3 := Lib.hid hown3; have HB3 := Lib.hid (Below.grown (((BW2.out).alloc (BW2.out).size _).drew) hg3 (Nat.le_trans (BW2.out).size (by simp)) (fun k hk => (HO2.out.lt k hk).1)); clear hown3 hg3 hat3)) | fail)
                exact ⟨⟨acc ++ [⟨yr, ysl⟩], q + 1, i, k + 1, Av3, kv3, by omega, by omega, by rw [List.length_append, ← HQ.out]; rfl, by omega, rfl, rfl, by go_num, HTn.out, by rw [idCells_app]; exact HO3.out, HB3.out⟩, by simp only [intOf]; omega⟩
        · skip
          have hie : i = n := by omega
          subst hie
          have hdx : xs.drop i = [] := List.drop_of_length_le (by have := HN.out; omega)
          rw [hdx, joinF_nil] at hT
          have hlen := congrArg List.length hT
          rw [List.length_append] at hlen
          simp only [List.length_cons] at hlen
          have hq1 := HQ.out
          have hqq : q + 1 ≤ 2097152 := by omega
          have HTn := Lib.hid (show (acc ++ [⟨yr, ysl⟩]) ++ joinF (xs.drop i) (ys.drop (k + 1)) = T by rw [hdx, joinF_nil, ← hT, List.append_assoc]; rfl)
          clear hT hlen hq1 hdx
          go_wp2
          refine wp_region_x 15 [0, 1, 2, 3, 4, 5, 6, 7, 8, 9, 10, 11, 12, 13, 14] (by kernel_rfl) (by kernel_rfl) ?_
          iterate 5 (refine wpX_quiet rfl (by kernel_rfl) rfl ?_; go_wp2; refine ⟨rfl, ?_⟩)
          (iterate 6 (refine wpX_skip2 rfl rfl (by kernel_rfl) ?_)); simp only [List.setIfInBounds_toArray, List.set_cons_succ, List.set_cons_zero]; (iterate 3 (refine wpX_skip2 rfl rfl (by kernel_rfl) ?_)); simp only [List.setIfInBounds_toArray, List.set_cons_succ, List.set_cons_zero]
          iterate 1 (refine wpX_quiet rfl (by kernel_rfl) rfl ?_; go_wp2; refine ⟨rfl, ?_⟩)
          refine wpX_nil ?_; simp only [List.drop_succ_cons, List.drop_zero]
          go_wp2
          refine wp_region_x 15 [0, 1, 2, 3, 4, 5, 6, 7, 8, 9, 10, 11, 12, 13, 14] (by kernel_rfl) (by kernel_rfl) ?_
          iterate 5 (refine wpX_quiet rfl (by kernel_rfl) rfl ?_; go_wp2; refine ⟨rfl, ?_⟩)
          (iterate 6 (refine wpX_skip2 rfl rfl (by kernel_rfl) ?_)); simp only [List.setIfInBounds_toArray, List.set_cons_succ, List.set_cons_zero]; (iterate 3 (refine wpX_skip2 rfl rfl (by kernel_rfl) ?_)); simp only [List.setIfInBounds_toArray, List.set_cons_succ, List.set_cons_zero]
          iterate 1 (refine wpX_quiet rfl (by kernel_rfl) rfl ?_; go_wp2; refine ⟨rfl, ?_⟩)
          refine wpX_nil ?_; simp only [List.drop_succ_cons, List.drop_zero]
          go_wp2_with (first | ((with_reducible show wpList _ _ _ ({ dst := _, op := Op.load 32 _, type := _, pos := _, after := _, guard := _ } :: _) _ _); refine wpList_load_row _ (ad'.add (k * 2)) rfl [.int .i64 yr, .int .i64 ysl] agg_Id rfl HCY.out ?_) | (at_builtin; go_must (refine wpList_app E_Id _ rfl _ _ rfl w.heap.size _ q _ rfl ((HO.out.alloc _).drew.drew) _ _ _ _ rfl (Reads.new rfl) (by simp [Value.oneCell']) (by omega) (Nat.le_trans BW.out.size (by simp)) ?_; intro vv w3 hown3 hg3 hat3; obtain ⟨Av3, kv3, rfl, _⟩ := SlR.of_own hown3; have HO3 := Lib.hid hown3; have HB3 := Lib.hid (Below.grown (((BW.out).alloc (BW.out).size _).drew.drew) hg3 (Nat.le_trans (BW.out).size (by simp)) (fun k hk => (HO.out.lt k hk).1)); clear hown3 hg3 hat3)) | fail)
          exact ⟨⟨acc ++ [⟨yr, ysl⟩], q + 1, i, k + 1, Av3, kv3, by omega, by omega, by rw [List.length_append, ← HQ.out]; rfl, by omega, rfl, rfl, by go_num, HTn.out, by rw [idCells_app]; exact HO3.out, HB3.out⟩, by simp only [intOf]; omega⟩
    · have hke : k = n' := by omega
      subst hke
      have hdy : ys.drop k = [] := List.drop_of_length_le (by have := HN'.out; omega)
      rw [hdy, joinF_nil2] at hT
      have HTn := Lib.hid hT
      have HO := Lib.hid hown; clear hown
      have BW := Lib.hid hbw; clear hbw
      have HQ := Lib.hid hq; clear hq hT hdy
      obtain ⟨cells, hrd, hrc, _⟩ := HR.out.row
      obtain rfl := rep_ids hrc
      have HRD := Lib.hid (hrd.below BW.out)
      clear hrd hrc
      have hlenT : q + (n - i) = T.length := by rw [← HTn.out, List.length_append, List.length_drop, ← HQ.out, ← HN.out]
      have hcelT : idCells acc ++ idCells (xs.drop i) = idCells T := by rw [← HTn.out, idCells_app]
      have HLT := Lib.hid hlenT
      have HCT := Lib.hid hcelT
      have hm1 : q + (n - i) ≤ 2097152 := by omega
      have HONE := Lib.hid (show ∀ u ∈ idCells (xs.drop i), u.oneCell' = true from (own_ids wr 0 (xs.drop i)).one)
      clear hlenT hcelT
      have hdr := idCells_drop xs i
      by_cases hsl : c = i ∨ A = none
      · have hm0 : n - i = 0 := by
          rcases hsl with h | h
          · omega
          · subst h
            rcases Nat.eq_zero_or_pos n with h0 | h0
            · omega
            · obtain ⟨ad, e, _⟩ := HRD.out.2 h0
              cases e
        have hd0 : xs.drop i = [] := List.drop_of_length_le (by have := HN.out; omega)
        have HRT := Lib.hid (show ∀ B : Option Addr, Reads wr 2 B (n - i) (idCells (xs.drop i)) from fun B => by rw [hm0, hd0]; exact ⟨by simp [idCells], fun h => absurd h (by omega)⟩)
        clear hdr hm0 hd0
        rcases hsl with h | h
        · cases A with
          | none =>
            go_wp2_with (first | (at_builtin; go_must (refine wpList_app E_Id _ rfl _ _ rfl w.heap.size _ q _ rfl HO.out _ _ _ (idCells (xs.drop i)) rfl (HRT.out _) HONE.out (by omega) BW.out.size ?_; intro vv w3 hown3 hg3 hat3; obtain ⟨Av3, kv3, rfl, _⟩ := SlR.of_own hown3; have HO3 := Lib.hid hown3; have HB3 := Lib.hid (Below.grown BW.out hg3 BW.out.size (fun k hk => (HO.out.lt k hk).1)); clear hown3 hg3 hat3)) | fail)
            go_ret
            exact ⟨Av3, kv3, ret_eq (by rw [HLT.out]; rfl), by rw [← HLT.out, ← HCT.out]; exact HO3.out, HB3.out⟩
          | some ad =>
            go_wp2_with (first | (at_builtin; go_must (refine wpList_app E_Id _ rfl _ _ rfl w.heap.size _ q _ rfl HO.out _ _ _ (idCells (xs.drop i)) rfl (HRT.out _) HONE.out (by omega) BW.out.size ?_; intro vv w3 hown3 hg3 hat3; obtain ⟨Av3, kv3, rfl, _⟩ := SlR.of_own hown3; have HO3 := Lib.hid hown3; have HB3 := Lib.hid (Below.grown BW.out hg3 BW.out.size (fun k hk => (HO.out.lt k hk).1)); clear hown3 hg3 hat3)) | fail)
            go_ret
            exact ⟨Av3, kv3, ret_eq (by rw [HLT.out]; rfl), by rw [← HLT.out, ← HCT.out]; exact HO3.out, HB3.out⟩
        · subst h
          go_wp2_with (first | (at_builtin; go_must (refine wpList_app E_Id _ rfl _ _ rfl w.heap.size _ q _ rfl HO.out _ _ _ (idCells (xs.drop i)) rfl (HRT.out _) HONE.out (by omega) BW.out.size ?_; intro vv w3 hown3 hg3 hat3; obtain ⟨Av3, kv3, rfl, _⟩ := SlR.of_own hown3; have HO3 := Lib.hid hown3; have HB3 := Lib.hid (Below.grown BW.out hg3 BW.out.size (fun k hk => (HO.out.lt k hk).1)); clear hown3 hg3 hat3)) | fail)
          go_ret
          exact ⟨Av3, kv3, ret_eq (by rw [HLT.out]; rfl), by rw [← HLT.out, ← HCT.out]; exact HO3.out, HB3.out⟩
      · obtain ⟨ad, rfl⟩ : ∃ ad, A = some ad := by
          cases A with
          | none => exact absurd (Or.inr rfl) hsl
          | some ad => exact ⟨ad, rfl⟩
        have hci : ¬ c = i := fun h => hsl (.inl h)
        have hci2 : ¬ c - i = 0 := by omega
        have HRT := Lib.hid (show Reads wr 2 (some (ad.add (i * 2))) (n - i) (idCells (xs.drop i)) by rw [← hdr]; exact reads_drop HRD.out hi)
        clear hdr hsl
        go_wp2_with (first | (at_builtin; go_must (refine wpList_app E_Id _ rfl _ _ rfl w.heap.size _ q _ rfl HO.out _ _ _ (idCells (xs.drop i)) rfl HRT.out HONE.out (by omega) BW.out.size ?_; intro vv w3 hown3 hg3 hat3; obtain ⟨Av3, kv3, rfl, _⟩ := SlR.of_own hown3; have HO3 := Lib.hid hown3; have HB3 := Lib.hid (Below.grown BW.out hg3 BW.out.size (fun k hk => (HO.out.lt k hk).1)); clear hown3 hg3 hat3)) | fail)
        go_ret
        exact ⟨Av3, kv3, ret_eq (by rw [HLT.out]; rfl), by rw [← HLT.out, ← HCT.out]; exact HO3.out, HB3.out⟩

end Go.Proofs.Ytbdblfpepnoafaa
namespace Go.Proofs.Ytbdblfpepnoafaa
open Go.RowKit

theorem IdD.cts_le : ∀ xs : List IdD, cts IdD.cnt xs ≤ 2 * xs.length
  | [] => Nat.le_refl _
  | x :: xs => by
    have := IdD.cts_le xs
    rw [cts, List.length_cons]
    show 1 + 1 + _ ≤ _
    omega
theorem bJoinIds (xs ys : List IdD) (h : xs.length + (cat IdD.c xs).wt ≤ 1048576) (h' : ys.length + (cat IdD.c ys).wt ≤ 1048576) :
    (fJoinIds xs ys).length + (cat IdD.c (fJoinIds xs ys)).wt ≤ 4611686018427387 ∧ cts IdD.cnt (fJoinIds xs ys) ≤ 4611686018427387 := by
  have hw : ∀ l : List IdD, (cat IdD.c l).wt = 0 := fun l => by
    induction l with
    | nil => rfl
    | cons x r ih => rw [cat_cons, Cs.wt_app, ih]; rfl
  have hc : ∀ l : List IdD, cts IdD.cnt l = 2 * l.length := fun l => by
    induction l with
    | nil => rfl
    | cons x r ih => rw [cts, ih, List.length_cons]; show 1 + 1 + _ = _; omega
  have hl : (fJoinIds xs ys).length ≤ 2097152 := by
    unfold fJoinIds
    split
    · have := joinF_len xs ys; omega
    · simp
  rw [hw, hc]
  omega
theorem Own.sl_cap {w : World} {base e sz n c : Nat} {i : Cs} {A : Option Addr} {F : List Nat} (h : Own w base (.sl e sz n i .nil) [.slice A n c] F) : n ≤ c := by
  obtain ⟨cells, F1, _, _, hrow, _⟩ := Own.sl1.1 h
  rcases hrow.2 with ⟨h1, h2⟩ | ⟨g, cap, cur, hv, _, _, hnc, _⟩
  · omega
  · injection hv with _ _ h3
    omega

set_option maxRecDepth 100000 in
set_option maxHeartbeats 2000000 in
theorem sJoinIds_any (xs ys : List IdD) (A : Option Addr) (n c : Nat) (A' : Option Addr) (n' c' : Nat) (w : World) (hn : n = xs.length) (hwt : n + (cat IdD.c xs).wt ≤ 1048576) (hn' : n' = ys.length) (hwt' : n' + (cat IdD.c ys).wt ≤ 1048576) (h : Rep anyB w (.sl 32 2 n (cat IdD.c xs) .nil) [.slice A n c]) (h' : Rep anyB w (.sl 32 2 n' (cat IdD.c ys) .nil) [.slice A' n' c']) (hcap : n ≤ c) :
    Calls Try.prog 41 #[.slice A n c, .slice A' n' c'] w fun e w' => ∃ A2 m c2, e = .returned (.slice A2 m c2) ∧ m = (fJoinIds xs ys).length ∧ Mine w' w.heap.size (.sl 32 2 m (cat IdD.c (fJoinIds xs ys)) .nil) [.slice A2 m c2] ∧ Below w.heap.size w w' := by
  have HA := Lib.hid (fun W => sIdsOk_any xs A n c W hn hwt)
  have HB := Lib.hid (fun W => sIdsOk_any ys A' n' c' W hn' hwt')
  have HJ := Lib.hid (fun W => l8Join_any xs ys A A' n n' c c' W hn hn' (by omega) (by omega) hcap)
  have HR := Lib.hid h
  have HR' := Lib.hid h'
  obtain ⟨R, hR⟩ : ∃ R, R = fJoinIds xs ys := ⟨_, rfl⟩
  rw [← hR]
  unfold fJoinIds at hR
  have HF := Lib.hid hR
  clear h h' hR hn hn' hwt hwt' hcap
  go_enter Try.func41, Try.ntmps41
  go_wp2_with fail
  refine (HA.out _ HR.out).mono ?_; rintro e v1 ⟨rfl, hb⟩
  have B1 := Lib.hid hb; clear hb
  have fin : ∀ v : World, Below w.heap.size w v → R = [] → Mine (v.alloc (.cells #[] 32)) w.heap.size (.sl 32 2 0 (cat IdD.c R) .nil) [.slice (some ⟨v.heap.size, 0, none⟩) 0 0] := fun v hv e => by
    subst e
    exact mine_ids (l := []) (own_nilAt v w.heap.size _ _ _ rfl hv.size) rfl
  have FIN := Lib.hid fin; clear fin
  cases ha : idsOkB xs with
  | false =>
    have hRz : R = [] := by rw [HF.out, ha, if_neg (by simp)]
    have HRZ := Lib.hid hRz; clear hRz
    go_wp2
    go_ret
    exact ⟨_, 0, 0, ret_eq rfl, by rw [HRZ.out]; rfl, FIN.out _ B1.out HRZ.out, B1.out.alloc B1.out.size _⟩
  | true =>
    go_wp2_with fail
    refine (HB.out _ (HR'.out.below B1.out)).mono ?_; rintro e v2 ⟨rfl, hb⟩
    have B2 := Lib.hid (B1.out.trans (hb.mono B1.out.size)); clear hb
    cases hbb : idsOkB ys with
    | false =>
      have hRz : R = [] := by rw [HF.out, ha, hbb, if_neg (by simp)]
      have HRZ := Lib.hid hRz; clear hRz
      go_wp2
      go_ret
      exact ⟨_, 0, 0, ret_eq rfl, by rw [HRZ.out]; rfl, FIN.out _ B2.out HRZ.out, B2.out.alloc B2.out.size _⟩
    | true =>
      have hRz : R = joinF xs ys := by rw [HF.out, ha, hbb, if_pos ⟨rfl, rfl⟩]
      have HRZ := Lib.hid hRz; clear hRz
      go_wp2_with fail
      refine (HJ.out _ (HR.out.below B2.out) (HR'.out.below B2.out)).mono ?_; rintro e v3 ⟨A2, c2, rfl, hown, hb⟩
      rw [← HRZ.out] at hown ⊢
      have B3 := Lib.hid (B2.out.trans (hb.mono B2.out.size))
      have HM := Lib.hid (Mine.mono (mine_ids hown rfl) B2.out.size); clear hown hb
      go_wp2
      go_ret
      exact ⟨A2, R.length, c2, ret_eq rfl, rfl, HM.out, B3.out⟩

end Go.Proofs.Ytbdblfpepnoafaa
namespace Go.Proofs.Ytbdblfpepnoafaa
open Go.RowKit

theorem own_at {w : World} {base e sz n : Nat} {v : Value} {xs : List Value} (h : w.ownsRow base e sz v n xs) {k : Nat} (hb : v.ownBlock = some k) : ∃ c, v = .slice (some ⟨k, 0, none⟩) n c ∧ n ≤ c := by
  rcases h.2 with ⟨rfl, _⟩ | ⟨g, cap, cur, rfl, _, _, hnc, _⟩
  · cases hb
  · simp only [Value.ownBlock] at hb
    injection hb with hb
    subst hb
    exact ⟨cap, rfl, hnc⟩
theorem own_at2 {w : World} {base e sz n : Nat} {v : Value} {xs : List Value} (h : w.ownsRow base e sz v n xs) {a b : Nat} (hb : v.ownBlock = some a ∨ v.ownBlock = some b) : ∃ k c, v = .slice (some ⟨k, 0, none⟩) n c ∧ n ≤ c := by
  rcases hb with hb | hb
  · obtain ⟨c, h1⟩ := own_at h hb; exact ⟨_, c, h1⟩
  · obtain ⟨c, h1⟩ := own_at h hb; exact ⟨_, c, h1⟩
set_option maxRecDepth 100000 in
set_option maxHeartbeats 2000000 in
theorem iJoinIds_any (xs ys : List IdD) (A : Option Addr) (n c : Nat) (A' : Option Addr) (n' c' : Nat) (w : World) (hn : n = xs.length) (hwt : n + (cat IdD.c xs).wt ≤ 1048576) (hn' : n' = ys.length) (hwt' : n' + (cat IdD.c ys).wt ≤ 1048576) (h : Rep anyB w (.sl 32 2 n (cat IdD.c xs) .nil) [.slice A n c]) (h' : Rep anyB w (.sl 32 2 n' (cat IdD.c ys) .nil) [.slice A' n' c']) (hcap : n ≤ c) :
    Calls Try.prog 43 #[.slice A n c, .slice A' n' c'] w fun e w' => ∃ A2 m c2, e = .returned (.slice A2 m c2) ∧ m = (fJoinIds xs ys).length ∧ Mine w' w.heap.size (.sl 32 2 m (cat IdD.c (fJoinIds xs ys)) .nil) [.slice A2 m c2] ∧ Below w.heap.size w w' := by
  have HA := Lib.hid (fun W => iIdsOk_any xs A n c W hn hwt)
  have HB := Lib.hid (fun W => iIdsOk_any ys A' n' c' W hn' hwt')
  have HR := Lib.hid h
  have HR' := Lib.hid h'
  obtain ⟨R, hR⟩ : ∃ R, R = fJoinIds xs ys := ⟨_, rfl⟩
  rw [← hR]
  unfold fJoinIds at hR
  have HF := Lib.hid hR
  have HN := Lib.hid hn
  have HN' := Lib.hid hn'
  have hb1 : n ≤ 1048576 := by omega
  have hb2 : n' ≤ 1048576 := by omega
  clear h h' hR hn hn' hwt hwt' hcap
  go_enter Try.func43, Try.ntmps43
  go_wp2_with fail
  refine (HA.out _ HR.out).mono ?_; rintro e v1 ⟨rfl, hb⟩
  have B1 := Lib.hid hb; clear hb
  have fin : ∀ v : World, Below w.heap.size w v → R = [] → Mine v w.heap.size (.sl 32 2 0 (cat IdD.c R) .nil) [.slice none 0 0] := fun v hv e => by
    subst e
    exact mine_ids (l := []) (World.ownsRow_nil _ _ _ _) rfl
  have FIN := Lib.hid fin; clear fin
  cases ha : idsOkB xs with
  | false =>
    have hRz : R = [] := by rw [HF.out, ha, if_neg (by simp)]
    have HRZ := Lib.hid hRz; clear hRz
    go_wp2
    go_ret
    exact ⟨_, 0, 0, ret_eq rfl, by rw [HRZ.out]; rfl, FIN.out _ B1.out HRZ.out, B1.out⟩
  | true =>
    go_wp2_with fail
    refine (HB.out _ (HR'.out.below B1.out)).mono ?_; rintro e v2 ⟨rfl, hb⟩
    have B2 := Lib.hid (B1.out.trans (hb.mono B1.out.size)); clear hb
    cases hbb : idsOkB ys with
    | false =>
      have hRz : R = [] := by rw [HF.out, ha, hbb, if_neg (by simp)]
      have HRZ := Lib.hid hRz; clear hRz
      go_wp2
      go_ret
      exact ⟨_, 0, 0, ret_eq rfl, by rw [HRZ.out]; rfl, FIN.out _ B2.out HRZ.out, B2.out⟩
    | true =>
      have hRz : R = joinF xs ys := by rw [HF.out, ha, hbb, if_pos ⟨rfl, rfl⟩]
      have HRZ := Lib.hid hRz; clear hRz
      have HAS := Lib.hid (ids_asc ha)
      have HBS := Lib.hid (ids_asc hbb)
      clear ha hbb
      obtain ⟨cx, hrdx, hrcx, _⟩ := HR.out.row
      obtain rfl := rep_ids hrcx
      obtain ⟨cy, hrdy, hrcy, _⟩ := HR'.out.row
      obtain rfl := rep_ids hrcy
      have HX := Lib.hid (And.intro hrdx (own_ids w 0 xs).one)
      have HY := Lib.hid (And.intro hrdy (own_ids w 0 ys).one)
      clear hrdx hrcx hrdy hrcy
      have hown : (v2.alloc (.cells #[] 32)).ownsRow w.heap.size 32 2 (.slice (some ⟨v2.heap.size, 0, none⟩) 0 0) 0 [] := World.ownsRow_made v2 #[] 0 B2.out.size (by simp [maxLen]) rfl
      have HO := Lib.hid hown; clear hown
      go_wp2_with (first
        | (at_builtin; (refine wpList_app E_Id _ rfl _ _ rfl w.heap.size _ 0 [] rfl HO.out _ _ _ (idCells xs) rfl (HX.out.1.below (B2.out.alloc B2.out.size _)) HX.out.2 (by omega) (Nat.le_trans B2.out.size (by simp)) ?_; intro vv w3 hown3 hg3 hat3; simp only [Nat.zero_add, List.nil_append] at hown3; obtain ⟨k3, c3, rfl, hc3⟩ := own_at2 hown3 (show _ = some v2.heap.size ∨ _ = some _ from hat3); have HO3 := Lib.hid hown3; have B3 := Lib.hid (Below.grown ((B2.out).alloc (B2.out).size _) hg3 (Nat.le_trans (B2.out).size (by simp)) (fun k hk => (HO.out.lt k hk).1)); clear hown3 hg3 hat3))
        | (at_builtin; go_must (refine wpList_app E_Id _ rfl _ _ rfl w.heap.size _ n (idCells xs) rfl HO3.out _ _ _ (idCells ys) rfl (HY.out.1.below B3.out) HY.out.2 (by omega) B3.out.size ?_; intro vv w4 hown4 hg4 hat4; rw [← idCells_app] at hown4; obtain ⟨k4, c4, rfl, hc4⟩ := own_at2 hown4 hat4; have HO4 := Lib.hid hown4; have B4 := Lib.hid (Below.grown B3.out hg4 B3.out.size (fun k hk => (HO3.out.lt k hk).1)); clear hown4 hg4 hat4))
        | fail)
      refine (sort_own w.heap.size k4 (n + n') c4 (xs ++ ys) _ (by rw [List.length_append, ← show n = xs.length from HN.out, ← show n' = ys.length from HN'.out]) (by omega) HO4.out).mono ?_
      rintro e w5 ⟨rfl, zs, hp, hs, ho5, hg5⟩
      have HP := Lib.hid hp
      have HS := Lib.hid hs
      have HO5 := Lib.hid ho5
      have B5 := Lib.hid (Below.grown B4.out hg5 B4.out.size (fun k hk => (HO4.out.lt k hk).1))
      clear hp hs ho5 hg5
      go_wp2_with fail
      refine (compact_own w.heap.size (n + n') c4 (some ⟨k4, 0, none⟩) zs _ (by rw [HP.out.length_eq, List.length_append, ← show n = xs.length from HN.out, ← show n' = ys.length from HN'.out]) (by omega) HO5.out).mono ?_
      rintro e w6 ⟨m, rfl, hm, ho6, hg6⟩
      have hj : compactF zs = R := by rw [HRZ.out]; exact sorted_join HAS.out HBS.out HP.out HS.out
      rw [hj] at hm ho6
      have HM := Lib.hid (mine_ids ho6 hm)
      have HL := Lib.hid hm
      have B6 := Lib.hid (Below.grown B5.out hg6 B5.out.size (fun k hk => (HO5.out.lt k hk).1))
      clear hm ho6 hg6 hj
      go_wp2
      go_ret
      exact ⟨_, m, c4, ret_eq rfl, HL.out, HM.out, B6.out⟩

end Go.Proofs.Ytbdblfpepnoafaa
