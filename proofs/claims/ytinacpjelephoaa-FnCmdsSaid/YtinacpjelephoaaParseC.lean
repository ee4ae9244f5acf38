/-
  A command read back from its text, by the scanner and by places: plain laws. Plain.
-/
import Derived.Test.YtinacpjelephoaaParse
import Derived.Test.YtinacpjelephoaaShow
namespace Go.Proofs.Ytinacpjelephoaa
open Go.RowKit
theorem inB_tc {lo hi x : Int} (h : inB lo hi x = true) : lo ≤ x ∧ x ≤ hi := by simpa [inB] using h
theorem scanNum_eat (r : List UInt8) (b : Bool) : (scanNum r b).2.1.length ≤ r.length ∧ ((scanNum r b).2.2 = false → b = false ∧ (scanNum r b).2.1.length + 1 ≤ r.length) ∧ ((scanNum r b).2.2 = true → (scanNum r b).1 = 0) := by
  have hle := (readVarF_le r).2.1
  unfold scanNum
  split
  · exact ⟨Nat.le_refl _, (fun h => by cases h), fun _ => rfl⟩
  · rename_i h
    simp only [not_or] at h
    refine ⟨by simp, fun _ => ⟨by simpa using h.1, ?_⟩, fun h => by cases h⟩
    simp only [List.length_drop]
    have := h.2
    omega
theorem scanCut_eat (r : List UInt8) (b : Bool) (n : Int) : (scanCut r b n).1.length + (scanCut r b n).2.1.length ≤ r.length ∧ ((scanCut r b n).2.2 = false → b = false) := by
  unfold scanCut
  split
  · exact ⟨by simp, fun h => by cases h⟩
  · rename_i h
    simp only [not_or] at h
    exact ⟨by simp only [List.length_take, List.length_drop]; omega, fun _ => by simpa using h.1⟩
theorem scanText_eat (r : List UInt8) (b : Bool) : (scanText r b).1.length + (scanText r b).2.1.length ≤ r.length ∧ ((scanText r b).2.2 = false → b = false ∧ (scanText r b).1.length + (scanText r b).2.1.length + 1 ≤ r.length) := by
  have h1 := scanNum_eat r b
  have h2 := scanCut_eat (scanNum r b).2.1 (scanNum r b).2.2 ((scanNum r b).1 : Int)
  unfold scanText
  refine ⟨by omega, fun h => ?_⟩
  have h3 := h1.2.1 (h2.2 h)
  exact ⟨h3.1, by omega⟩
def cutsL : Nat → List UInt8 → Bool → List (List UInt8) × List UInt8 × Bool
  | 0, r, b => ([], r, b)
  | n + 1, r, b => ((scanCut r b 8).1 :: (cutsL n (scanCut r b 8).2.1 (scanCut r b 8).2.2).1, (cutsL n (scanCut r b 8).2.1 (scanCut r b 8).2.2).2)
theorem cutsL_eat : ∀ (n : Nat) (r : List UInt8) (b : Bool), (cutsL n r b).1.flatten.length + (cutsL n r b).2.1.length ≤ r.length ∧ (cutsL n r b).1.length = n
  | 0, r, b => ⟨by simp [cutsL], rfl⟩
  | n + 1, r, b => by
    have h1 := scanCut_eat r b 8
    have h2 := cutsL_eat n (scanCut r b 8).2.1 (scanCut r b 8).2.2
    simp only [cutsL, List.flatten_cons, List.length_append, List.length_cons]
    omega
theorem cutsL_flat : ∀ (xs : List (List UInt8)), (∀ x ∈ xs, x.length = 8) → cutsL xs.length xs.flatten false = (xs, [], false)
  | [], _ => rfl
  | x :: xs, h => by
    have h8 := h x (by simp)
    have h1 := scanCut_take x xs.flatten 8 (by omega)
    have ih := cutsL_flat xs (fun y hy => h y (List.mem_cons_of_mem _ hy))
    simp only [List.length_cons, List.flatten_cons, cutsL, h1, ih]

/-- what a right command's parts are bounded by -/
theorem cmdOk_bounds {c : CmdD} (h : cmdOkB c = true) : (0 ≤ c.kind ∧ c.kind ≤ 7) ∧ (0 ≤ c.client ∧ c.client ≤ 9) ∧ (0 ≤ c.no ∧ c.no ≤ 1000) ∧ (0 ≤ c.n ∧ c.n ≤ 9) ∧ c.set.length ≤ 8 ∧ c.name.length ≤ 8 ∧ c.tag.length ≤ 8 ∧ c.chunks.length ≤ 4 ∧ ∀ x ∈ c.chunks, x.length = 8 := by
  have wd : ∀ (s : List UInt8) (b : Bool), wordIfB s b = true → s.length ≤ 8 := fun s b hh => by
    unfold wordIfB at hh
    split at hh
    · simp only [wordB, Bool.and_eq_true] at hh
      have := inB_tc hh.1
      omega
    · simp only [decide_eq_true_eq] at hh
      rw [hh]; simp
  unfold cmdOkB at h
  split at h
  · simp only [cmdSame, decide_eq_true_eq] at h
    subst h
    simp [zeroCmd]
  · rename_i hk
    simp only [Bool.and_eq_true, Bool.or_eq_true, beq_iff_eq] at h
    obtain ⟨h1, h2, h3, h4, h5, h6, h7, h8⟩ := h
    have h1 := inB_tc h1
    have h2 := inB_tc h2
    have h3 := inB_tc h3
    refine ⟨by omega, by omega, by omega, ?_, wd _ _ h4, wd _ _ h5, wd _ _ h6, ?_⟩
    · rcases h7 with h7 | ⟨_, h7⟩
      · omega
      · exact inB_tc h7
    · split at h8
      · simp only [Bool.and_eq_true] at h8
        have h9 := inB_tc h8.1
        exact ⟨by omega, fun x hx => by have := List.all_eq_true.1 h8.2 x hx; simpa using this⟩
      · simp only [beq_iff_eq] at h8
        have h9 : c.chunks = [] := List.eq_nil_of_length_eq_zero (by omega)
        rw [h9]; simp
theorem showH_pos (c : CmdD) (h : cmdOkB c = true) : showH c ≠ [] := by
  obtain ⟨h1, _⟩ := cmdOk_bounds h
  have := varF_pos (n := c.kind) (by omega)
  intro e
  rw [showH] at e
  have := congrArg List.length e
  simp only [List.length_append, List.length_nil] at this
  omega
def parseC (s : List UInt8) : CmdD × Bool :=
  let k := scanNum s false
  let cl := scanNum k.2.1 k.2.2
  let no := scanNum cl.2.1 cl.2.2
  let n := scanNum no.2.1 no.2.2
  let st := scanText n.2.1 n.2.2
  let nm := scanText st.2.1 st.2.2
  let tg := scanText nm.2.1 nm.2.2
  let m := scanNum tg.2.1 tg.2.2
  let ch := if m.1 ≤ 4 then cutsL m.1 m.2.1 m.2.2 else ([], m.2.1, m.2.2)
  (⟨(k.1 : Int), (cl.1 : Int), (no.1 : Int), st.1, nm.1, tg.1, (n.1 : Int), ch.1⟩, ch.2.2)
theorem parseC_show {c : CmdD} (h : cmdOkB c = true) : parseC (showCmdL c) = (c, false) := by
  obtain ⟨h1, h2, h3, h4, h5, h6, h7, h8, h9⟩ := cmdOk_bounds h
  have hs : showCmdL c = varF c.kind ++ (varF c.client ++ (varF c.no ++ (varF c.n ++ (sizedL c.set ++ (sizedL c.name ++ (sizedL c.tag ++ (varF (c.chunks.length : Int) ++ c.chunks.flatten))))))) := by
    rw [showCmdL, if_pos h, showH]
    simp only [List.append_assoc]
  rw [hs]
  unfold parseC
  simp only [scanNum_varF (show 0 ≤ c.kind ∧ c.kind ≤ 562949953421311 by omega), scanNum_varF (show 0 ≤ c.client ∧ c.client ≤ 562949953421311 by omega), scanNum_varF (show 0 ≤ c.no ∧ c.no ≤ 562949953421311 by omega), scanNum_varF (show 0 ≤ c.n ∧ c.n ≤ 562949953421311 by omega),
    scanText_sized c.set _ (by omega), scanText_sized c.name _ (by omega), scanText_sized c.tag _ (by omega), scanNum_varF (show 0 ≤ (c.chunks.length : Int) ∧ (c.chunks.length : Int) ≤ 562949953421311 by omega), Int.toNat_natCast, h8, if_true, cutsL_flat c.chunks h9]
  rw [Int.toNat_of_nonneg h1.1, Int.toNat_of_nonneg h2.1, Int.toNat_of_nonneg h3.1, Int.toNat_of_nonneg h4.1]
theorem wt_cmd (c : CmdD) : c.c.wt = c.set.length + (c.name.length + (c.tag.length + (c.chunks.length + c.chunks.flatten.length + 0))) := by rw [flat_len]; rfl
theorem parseC_wt (s : List UInt8) : (parseC s).1.c.wt ≤ s.length := by
  rw [wt_cmd]
  unfold parseC
  simp only []
  have e1 := scanNum_eat s false
  generalize scanNum s false = k at *
  have e2 := scanNum_eat k.2.1 k.2.2
  generalize scanNum k.2.1 k.2.2 = cl at *
  have e3 := scanNum_eat cl.2.1 cl.2.2
  generalize scanNum cl.2.1 cl.2.2 = no at *
  have e4 := scanNum_eat no.2.1 no.2.2
  generalize scanNum no.2.1 no.2.2 = n at *
  have e5 := scanText_eat n.2.1 n.2.2
  generalize scanText n.2.1 n.2.2 = st at *
  have e6 := scanText_eat st.2.1 st.2.2
  generalize scanText st.2.1 st.2.2 = nm at *
  have e7 := scanText_eat nm.2.1 nm.2.2
  generalize scanText nm.2.1 nm.2.2 = tg at *
  have e8 := scanNum_eat tg.2.1 tg.2.2
  generalize scanNum tg.2.1 tg.2.2 = m at *
  split
  · rename_i hm
    have e9 := cutsL_eat m.1 m.2.1 m.2.2
    generalize cutsL m.1 m.2.1 m.2.2 = ch at *
    by_cases hb : m.2.2 = true
    · have := e8.2.2 hb
      omega
    · have hb : m.2.2 = false := by simpa using hb
      obtain ⟨g7, l8⟩ := e8.2.1 hb
      obtain ⟨g6, l7⟩ := e7.2 g7
      obtain ⟨g5, l6⟩ := e6.2 g6
      obtain ⟨g4, l5⟩ := e5.2 g5
      obtain ⟨g3, l4⟩ := e4.2.1 g4
      obtain ⟨g2, l3⟩ := e3.2.1 g3
      obtain ⟨g1, l2⟩ := e2.2.1 g2
      obtain ⟨_, l1⟩ := e1.2.1 g1
      omega
  · simp only [List.length_nil, List.flatten_nil]
    omega
/-- the command of which s is the text, if there is one -/
def fReadCmd (s : List UInt8) : CmdD × Bool := if s ≠ [] ∧ showCmdL (parseC s).1 = s then ((parseC s).1, true) else (zeroCmd, false)
theorem show_ne {c : CmdD} {s : List UInt8} (h : showCmdL c = s) (hs : s ≠ []) : cmdOkB c = true := by
  cases hc : cmdOkB c with
  | true => rfl
  | false => rw [showCmdL, hc] at h; exact absurd h.symm hs
theorem readCmd_yes {c : CmdD} {s : List UInt8} (h : showCmdL c = s) (hs : s ≠ []) : fReadCmd s = (c, true) := by
  have hb := parseC_show (show_ne h hs)
  rw [h] at hb
  unfold fReadCmd
  rw [hb, if_pos ⟨hs, h⟩]
theorem readCmd_no {s : List UInt8} (h : ∀ c, cmdOkB c = true → showCmdL c ≠ s) : fReadCmd s = (zeroCmd, false) := by
  unfold fReadCmd
  rw [if_neg]
  rintro ⟨h1, h2⟩
  exact h _ (show_ne h2 h1) h2
/-- impl's last test -/
theorem readCmd_i1 {s : List UInt8} (h : (parseC s).2 = true ∨ s = [] ∨ showCmdL (parseC s).1 ≠ s) : fReadCmd s = (zeroCmd, false) := by
  refine readCmd_no fun c hc hs => ?_
  have hb := parseC_show hc
  rw [hs] at hb
  rcases h with h | h | h
  · rw [hb] at h; cases h
  · subst h
    rw [showCmdL, if_pos hc] at hs
    have := showH_pos c hc
    exact this (List.append_eq_nil_iff.1 hs).1
  · rw [hb] at h; exact h hs
theorem readCmd_i2 {s : List UInt8} (h2 : s ≠ []) (h3 : showCmdL (parseC s).1 = s) : fReadCmd s = ((parseC s).1, true) := readCmd_yes h3 h2
/-! by places -/
def chunksAt (s : List UInt8) (a : Nat) : Nat → List (List UInt8)
  | 0 => []
  | n + 1 => chunksAt s a n ++ [(s.drop (a + 8 * n)).take 8]
theorem chunksAt_length (s : List UInt8) (a : Nat) : ∀ n, (chunksAt s a n).length = n
  | 0 => rfl
  | n + 1 => by rw [chunksAt, List.length_append, chunksAt_length s a n]; rfl
theorem flat8 : ∀ (l : List (List UInt8)), (∀ x ∈ l, x.length = 8) → l.flatten.length = 8 * l.length
  | [], _ => rfl
  | y :: l, hh => by rw [List.flatten_cons, List.length_append, flat8 l (fun z hz => hh z (List.mem_cons_of_mem _ hz)), hh y (by simp), List.length_cons]; omega
theorem chunksAt_take {s p : List UInt8} {xs : List (List UInt8)} (hs : s = p ++ xs.flatten) (h8 : ∀ x ∈ xs, x.length = 8) : ∀ n, n ≤ xs.length → chunksAt s p.length n = xs.take n
  | 0, _ => rfl
  | n + 1, h => by
    have hn : n < xs.length := h
    have hd : s.drop (p.length + 8 * n) = xs[n] ++ (xs.drop (n + 1)).flatten := by
      rw [hs, ← List.drop_drop, List.drop_left' rfl]
      conv => lhs; rw [← List.take_append_drop n xs, List.flatten_append]
      rw [List.drop_left' (by rw [flat8 _ (fun x hx => h8 x (List.mem_of_mem_take hx)), List.length_take, Nat.min_eq_left (by omega)]), List.drop_eq_getElem_cons hn, List.flatten_cons]
    rw [chunksAt, chunksAt_take hs h8 n (by omega), hd, List.take_left' (h8 _ (List.getElem_mem hn)), List.take_succ_eq_append_getElem hn]
theorem chunksAt_flat {s p : List UInt8} {xs : List (List UInt8)} (hs : s = p ++ xs.flatten) (h8 : ∀ x ∈ xs, x.length = 8) : chunksAt s p.length xs.length = xs := by
  rw [chunksAt_take hs h8 _ (Nat.le_refl _), List.take_length]
def placeC (s : List UInt8) : CmdD :=
  let l := l4V s 4 0
  let a := l4T s l.2
  let b := l4T s a.2
  let t := l4T s b.2
  let n := l4V s 1 t.2
  ⟨((l.1.getD 0 0 : Nat) : Int), ((l.1.getD 1 0 : Nat) : Int), ((l.1.getD 2 0 : Nat) : Int), a.1, b.1, t.1, ((l.1.getD 3 0 : Nat) : Int), chunksAt s n.2.toNat (n.1.getD 0 0)⟩
theorem placeC_show {c : CmdD} (h : cmdOkB c = true) : 0 ≤ (l4V (showCmdL c) 4 0).2 ∧ (∃ m, l4V (showCmdL c) 1 (l4T (showCmdL c) (l4T (showCmdL c) (l4T (showCmdL c) (l4V (showCmdL c) 4 0).2).2).2).2 = ([c.chunks.length], m) ∧ 0 ≤ m ∧ ((showCmdL c).length : Int) = m + 8 * c.chunks.length) ∧ placeC (showCmdL c) = c := by
  obtain ⟨h1, h2, h3, h4, h5, h6, h7, h8, h9⟩ := cmdOk_bounds h
  obtain ⟨s, hs⟩ : ∃ s, s = showCmdL c := ⟨_, rfl⟩
  rw [← hs]
  rw [showCmdL, if_pos h, showH] at hs
  have b1 : 0 ≤ c.kind ∧ c.kind ≤ 562949953421311 := by omega
  have b2 : 0 ≤ c.client ∧ c.client ≤ 562949953421311 := by omega
  have b3 : 0 ≤ c.no ∧ c.no ≤ 562949953421311 := by omega
  have b4 : 0 ≤ c.n ∧ c.n ≤ 562949953421311 := by omega
  have b8 : 0 ≤ (c.chunks.length : Int) ∧ (c.chunks.length : Int) ≤ 562949953421311 := by omega
  have s1 := l4V_step [] (varF c.client ++ (varF c.no ++ (varF c.n ++ (sizedL c.set ++ (sizedL c.name ++ (sizedL c.tag ++ (varF (c.chunks.length : Int) ++ c.chunks.flatten))))))) c.kind 3 b1
  have s2 := l4V_step (varF c.kind) (varF c.no ++ (varF c.n ++ (sizedL c.set ++ (sizedL c.name ++ (sizedL c.tag ++ (varF (c.chunks.length : Int) ++ c.chunks.flatten)))))) c.client 2 b2
  have s3 := l4V_step (varF c.kind ++ varF c.client) (varF c.n ++ (sizedL c.set ++ (sizedL c.name ++ (sizedL c.tag ++ (varF (c.chunks.length : Int) ++ c.chunks.flatten))))) c.no 1 b3
  have s4 := l4V_one (varF c.kind ++ varF c.client ++ varF c.no) (sizedL c.set ++ (sizedL c.name ++ (sizedL c.tag ++ (varF (c.chunks.length : Int) ++ c.chunks.flatten)))) c.n b4
  have t1 := l4T_sized (varF c.kind ++ varF c.client ++ varF c.no ++ varF c.n) c.set (sizedL c.name ++ (sizedL c.tag ++ (varF (c.chunks.length : Int) ++ c.chunks.flatten))) (by omega)
  have t2 := l4T_sized (varF c.kind ++ varF c.client ++ varF c.no ++ varF c.n ++ sizedL c.set) c.name (sizedL c.tag ++ (varF (c.chunks.length : Int) ++ c.chunks.flatten)) (by omega)
  have t3 := l4T_sized (varF c.kind ++ varF c.client ++ varF c.no ++ varF c.n ++ sizedL c.set ++ sizedL c.name) c.tag (varF (c.chunks.length : Int) ++ c.chunks.flatten) (by omega)
  have s5 := l4V_one (varF c.kind ++ varF c.client ++ varF c.no ++ varF c.n ++ sizedL c.set ++ sizedL c.name ++ sizedL c.tag) c.chunks.flatten (c.chunks.length : Int) b8
  have hch := chunksAt_flat (s := s) (p := varF c.kind ++ varF c.client ++ varF c.no ++ varF c.n ++ sizedL c.set ++ sizedL c.name ++ sizedL c.tag ++ varF (c.chunks.length : Int)) (xs := c.chunks) (by rw [hs]; simp only [List.append_assoc]) h9
  have hlen : s.length = (varF c.kind ++ varF c.client ++ varF c.no ++ varF c.n ++ sizedL c.set ++ sizedL c.name ++ sizedL c.tag ++ varF (c.chunks.length : Int)).length + 8 * c.chunks.length := by
    rw [hs, ← flat8 c.chunks h9]
    simp only [List.length_append]
    omega
  simp only [List.append_assoc] at hs
  simp only [List.append_assoc, List.nil_append] at s1 s2 s3 s4 t1 t2 t3 s5 hch hlen
  simp only [← hs] at s1 s2 s3 s4 t1 t2 t3 s5
  rw [show ((([] : List UInt8).length : Nat) : Int) = 0 from rfl] at s1
  rw [s4] at s3
  rw [s3] at s2
  rw [s2] at s1
  simp only [] at s1
  unfold placeC
  simp only [s1, t1, t2, t3, s5]
  refine ⟨by omega, ⟨_, by rw [Int.toNat_natCast], by omega, by omega⟩, ?_⟩
  simp only [List.getD_cons_zero, List.getD_cons_succ, Int.toNat_natCast, hch]
  rw [Int.toNat_of_nonneg h1.1, Int.toNat_of_nonneg h2.1, Int.toNat_of_nonneg h3.1, Int.toNat_of_nonneg h4.1]
/-- every way out of the reference but the last one -/
theorem readCmd_s1 {s : List UInt8} (h : (l4V s 4 0).2 < 0) : fReadCmd s = (zeroCmd, false) := readCmd_no fun c hc hs => by
  have := (placeC_show hc).1
  rw [hs] at this
  omega
theorem readCmd_s2 {s : List UInt8} {n : Nat} {m : Int} (hv : l4V s 1 (l4T s (l4T s (l4T s (l4V s 4 0).2).2).2).2 = ([n], m)) (h : 4 < n ∨ ¬ (s.length : Int) = m + 8 * n) : fReadCmd s = (zeroCmd, false) := readCmd_no fun c hc hs => by
  obtain ⟨_, ⟨m', he, _, hl⟩, _⟩ := placeC_show hc
  have h8 := (cmdOk_bounds hc).2.2.2.2.2.2.2.1
  rw [hs, hv] at he
  rw [hs] at hl
  injection he with he1 he2
  injection he1 with he1
  subst he1 he2
  rcases h with h | h
  · omega
  · exact h hl
theorem readCmd_s3 {s : List UInt8} (hv : (l4V s 1 (l4T s (l4T s (l4T s (l4V s 4 0).2).2).2).2).2 < 0) : fReadCmd s = (zeroCmd, false) := readCmd_no fun c hc hs => by
  obtain ⟨_, ⟨m', he, hm, hl⟩, _⟩ := placeC_show hc
  rw [hs] at he
  rw [he] at hv
  simp only [] at hv
  omega
theorem readCmd_s4 {s : List UInt8} (h : showCmdL (placeC s) ≠ s) : fReadCmd s = (zeroCmd, false) := readCmd_no fun c hc hs => by
  obtain ⟨_, _, hp⟩ := placeC_show hc
  rw [hs] at hp
  rw [hp] at h
  exact h hs
theorem readCmd_s5 {s : List UInt8} (hs : s ≠ []) (h : showCmdL (placeC s) = s) : fReadCmd s = (placeC s, true) := readCmd_yes h hs

end Go.Proofs.Ytinacpjelephoaa
