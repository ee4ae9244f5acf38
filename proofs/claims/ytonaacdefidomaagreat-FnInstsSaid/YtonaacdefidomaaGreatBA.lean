/-
  Plain lemmas that know of no program: bytes as lists, what is read and what is owned in memory, laws for append, make and conversions in the form in which the walks of this seat use them. Conditions: none beyond those each lemma names.
  What the reference draws out of a code, as plain functions of the cursor's place and number. Plain.
  A law for regions that draw their order: their head (reads, plain operations, calls that only make new memory) is walked in ONE order, the tail in the text's order. Conditions: those that the law's Bool checks ask (each closes by the kernel).
  The functions of the number chapter (impl and spec): each returns just what the plain functions of this file say. Conditions: lengths of strings as named in each contract.
  Var and Fixed (impl and spec) as plain functions on numbers. Conditions: none.
  Dec (impl and spec) as the plain function decL. Conditions: the argument is an int.
  ReadVar (impl and spec) as one plain function. Conditions: a string's length is an int.
  Fixed and ReadFixed (impl and spec) as plain functions. Conditions: a string's length is an int.
  Crc (impl and spec) as one plain function. Conditions: a string's length is an int.
  Frames (impl and spec): Frame, the scanner, frameAt, Unframe as plain functions. Conditions: a string's length is an int; Unframe at most 2^40 bytes.
  The scanner's cut and text, and the reference's l4Vars and l4Take, as plain functions. Conditions: lengths are ints; a list read has at most 2^30 numbers.
  Unframe (impl and spec) as one plain function. Conditions: a string of at most 2^40 bytes.
  The laws' helpers on slices of strings: marks laid, marks held, two slices alike. Conditions: as each contract names them.
  Data as a row of cells (numbers, bools, strings, slices with a row of their own): what it is for memory to hold such data (Rep), to hold it in blocks of one's own (Own), and the marks of the laws laid over it (mkE, mkT). Conditions: as each lemma names them.
  Laws for structs that lie in slices: loaded whole, stored whole; blocks of one's own said cell by cell. Conditions: as each law names them.
  The law of XRegion with forks: where two operations that act are free of order (a variable that is made beside calls in a chain), both ways are walked.
-/
import Derived.WalkKit
import Derived.WalkSpells
import Derived.WalkLawsBesides
import Derived.Lib.Hide
import Derived.Maps.AppendAt
import Derived.Deep.AppendLies
import Derived.Deep.Draws
import Derived.ProofKit
import Derived.OpenShut
import Derived.StillTail
import Derived.StillTailTactics
import Derived.Test.YtonaacdefidomaaGreatRows
import Derived.Deep.QuietTactic
import Derived.BigQuiet
import Derived.Deep.RegionLaw
import Derived.Laws.Cells
set_option linter.unusedVariables false
set_option linter.unusedSimpArgs false
namespace Go.Proofs.YtonaacdefidomaaGreat
open Go.RowKit Go.ChangeShapes Go.WideShapes

/-! ### bytes -/
def bs (l : List UInt8) : ByteArray := ⟨l.toArray⟩
@[simp] theorem bs_toList (l : List UInt8) : (bs l).toList = l := ByteArray.toList_mk l
@[simp] theorem bs_data (l : List UInt8) : (bs l).data.toList = l := by simp [bs]
@[simp] theorem bs_size (l : List UInt8) : (bs l).size = l.length := by simp [bs, ByteArray.size]
@[simp] theorem bs_extract (l : List UInt8) (a b : Nat) : (bs l).extract a b = bs ((l.drop a).take (b - a)) := ByteArray.extract_mk l a b
@[simp] theorem bs_append (a b : List UInt8) : bs a ++ bs b = bs (a ++ b) := ByteArray.mk_append_mk a b
@[simp high] theorem bs_extract_end (l : List UInt8) (a : Nat) : (bs l).extract a l.length = bs (l.drop a) := by
  rw [bs_extract, List.take_of_length_le (by rw [List.length_drop]; exact Nat.le_refl _)]
theorem bs_eta (s : ByteArray) : s = bs s.data.toList := by cases s; rfl
@[simp] theorem bs_get (l : List UInt8) (i : Nat) (h : i < (bs l).size) : (bs l)[i] = l.getD i 0 := by
  have h' : i < l.length := by simpa using h
  have h2 : (bs l)[i] = l[i] := by simp [bs, ByteArray.getElem_eq_getElem_data]
  refine Eq.trans h2 ?_
  rw [List.getD_eq_getElem?_getD, List.getElem?_eq_getElem h']; rfl
@[simp] theorem bs_inj {a b : List UInt8} : bs a = bs b ↔ a = b := by
  constructor
  · intro h
    have := congrArg ByteArray.toList h
    simpa using this
  · rintro rfl; rfl
theorem len_le {l : List UInt8} (h : (bs l).size ≤ maxLen) : (l.length : Int) ≤ 9223372036854775807 := by
  rw [bs_size] at h
  simp only [maxLen] at h
  omega
theorem mk_nil : ({ data := #[] } : ByteArray) = bs [] := rfl
theorem strOfNums_bs (l : List UInt8) : strOfNums (l.map fun b => (b.toNat : Int)) = bs l := by
  have : ∀ l : List UInt8, (l.map fun b => (b.toNat : Int)).map (fun n => UInt8.ofNat n.toNat) = l := fun l => by
    induction l with
    | nil => rfl
    | cons b l ih => simp only [List.map_cons, ih]; simp
  simp only [strOfNums, this, bs]
attribute [go_sem] bs_toList bs_size bs_extract bs_append bs_get
attribute [go_sem high] bs_extract_end
theorem ret_eq {a b : Value} (h : a = b) : Ending.returned a = .returned b := by rw [h]
def u8v (b : UInt8) : Value := .int .u8 (b.toNat : Int)
def i64v (n : Int) : Value := .int .i64 n
def i64ok (n : Int) : Prop := -9223372036854775808 ≤ n ∧ n ≤ 9223372036854775807

/-! ### bits -/
theorem ofInt_i64 (a : Nat) (ha : a < 9223372036854775808) : (BitVec.ofInt 64 (a : Int)).toNat = a := by
  rw [BitVec.ofInt_natCast, BitVec.toNat_ofNat]; exact Nat.mod_eq_of_lt (by omega)
theorem i64_and_nat (a b : Nat) (ha : a < 9223372036854775808) (hb : b < 9223372036854775808) : bits .and .i64 (a : Int) (b : Int) = ((a &&& b : Nat) : Int) := by
  have hx : a &&& b < 2 ^ 63 := Nat.and_lt_two_pow _ (by omega)
  show IntKind.i64.wrap ((BitVec.ofInt 64 (a : Int) &&& BitVec.ofInt 64 (b : Int)).toNat : Int) = _
  rw [BitVec.toNat_and, ofInt_i64 a ha, ofInt_i64 b hb, IntKind.wrap_i64]
  omega
theorem i64_or_nat (a b : Nat) (ha : a < 9223372036854775808) (hb : b < 9223372036854775808) : bits .or .i64 (a : Int) (b : Int) = ((a ||| b : Nat) : Int) := by
  have hx : a ||| b < 2 ^ 63 := Nat.or_lt_two_pow (by omega) (by omega)
  show IntKind.i64.wrap ((BitVec.ofInt 64 (a : Int) ||| BitVec.ofInt 64 (b : Int)).toNat : Int) = _
  rw [BitVec.toNat_or, ofInt_i64 a ha, ofInt_i64 b hb, IntKind.wrap_i64]
  omega
theorem i64_xor_nat (a b : Nat) (ha : a < 9223372036854775808) (hb : b < 9223372036854775808) : bits .xor .i64 (a : Int) (b : Int) = ((a ^^^ b : Nat) : Int) := by
  have hx : a ^^^ b < 2 ^ 63 := Nat.xor_lt_two_pow (by omega) (by omega)
  show IntKind.i64.wrap ((BitVec.ofInt 64 (a : Int) ^^^ BitVec.ofInt 64 (b : Int)).toNat : Int) = _
  rw [BitVec.toNat_xor, ofInt_i64 a ha, ofInt_i64 b hb, IntKind.wrap_i64]
  omega
theorem i64_and_255 (a : Nat) (ha : a < 9223372036854775808) : bits .and .i64 (a : Int) 255 = ((a % 256 : Nat) : Int) := by
  rw [show (255 : Int) = ((255 : Nat) : Int) from rfl, i64_and_nat a 255 ha (by omega)]
  congr 1
  exact Nat.and_two_pow_sub_one_eq_mod a 8
theorem i64_and_127 (a : Nat) (ha : a < 9223372036854775808) : bits .and .i64 (a : Int) 127 = ((a % 128 : Nat) : Int) := by
  rw [show (127 : Int) = ((127 : Nat) : Int) from rfl, i64_and_nat a 127 ha (by omega)]
  congr 1
  exact Nat.and_two_pow_sub_one_eq_mod a 7

theorem still_of {P : Program} {f : FuncId} {args : Array Value} {w : World} {v : Value} (h : Calls P f args w fun e w' => e = .returned v ∧ w = w') : Calls P f args w fun e w'' => e = .returned v ∧ w'' = w :=
  h.mono fun _ _ ⟨a, b⟩ => ⟨a, b.symm⟩

/-! ### what stays: 'Same D w w'': the blocks of D, and the streams, are as they were -/
theorem below_drewN {B : Nat} {a w : World} (h : Below B a w) (n : Nat) : Below B a (w.drewN n) := ⟨h.os, h.tape, h.output, h.size, h.block⟩

theorem grownBy_trans_new {a b c : World} {r r' : Option Nat} (h : a.grownBy b r) (k : b.grownBy c r') (hr : ∀ g, r' = some g → r = some g ∨ a.heap.size ≤ g) : a.grownBy c r :=
  ⟨k.os.trans h.os, k.tape.trans h.tape, k.output.trans h.output, Nat.le_trans h.size k.size, fun i hi hne =>
    (k.block i (Nat.lt_of_lt_of_le hi h.size) (fun e => by
      rcases hr i e.symm with h1 | h1
      · exact hne h1.symm
      · omega)).trans (h.block i hi hne)⟩

/-! ### laws: a slice of bytes as a string; make; append -/
theorem wpList_bytes_own {P : Program} (w : World) {ops : Array Oper} {rest : List Oper} {o : Oper} {a : Act} {Q : Exit → Act → World → Prop}
    (hg : o.guard = none) (s d : TypeId) (x : Operand) (hop : o.op = Op.convert s d x)
    (e : TypeId) (hs : P.underlying s = some (.slice e)) (he : P.underlying e = some (.int .u8)) (hd : P.underlying d = some .string)
    (base : Nat) (v : Value) (n : Nat) (l : List UInt8) (hv : a.eval x = v) (hown : w.ownsRow base e 1 v n (l.map u8v))
    (hK : wpList P ops Q rest (a.put o.dst (.string (bs l))) w) : wpList P ops Q (o :: rest) a w := by
  refine wpList_plain hg fun K hK' => ?_
  have hlen : n = l.length := by have := hown.1; simpa using this.symm
  have hrun : (convert s d v).run P w = .ok (.string (bs l)) w := by
    rcases hown.2 with ⟨rfl, h0⟩ | ⟨g, cap, cur, rfl, _⟩
    · have : l = [] := List.eq_nil_of_length_eq_zero (by omega)
      subst this
      exact run_convert_bytes_nil (w := w) s e hs he 0 0 d hd
    · have := run_convert_bytes_arg (P := P) (w := w) s e hs he g 0 n cap (l.map fun b => (b.toNat : Int)) (by simp [hlen]) (fun i hi => by
        rw [Nat.zero_add, hown.cellAt i (by omega)]
        simp [u8v, List.getD, List.getElem?_eq_getElem (show i < l.length by omega)]) d hd
      rw [this, strOfNums_bs]
  unfold Oper.wp
  simp [execOp, hop, hv, hrun, Result.andThen]
  exact hK' _ _ hK

theorem block_of_add (a : Addr) (n : Nat) : (a.add n).block = a.block := by unfold Addr.add; split <;> rfl
theorem add_of_add (a : Addr) (i j : Nat) : (a.add i).add j = a.add (i + j) := by
  unfold Addr.add
  by_cases hi : i = 0 <;> by_cases hj : j = 0 <;> simp [hi, hj, Nat.add_assoc]
theorem add_plain (b off n : Nat) : (⟨b, off, none⟩ : Addr).add n = ⟨b, off + n, none⟩ := by unfold Addr.add; split <;> simp_all


/-! ### append onto a row of the call's own: AppendAny -/
theorem heap_of_cell {w w' : World} {p : Addr} (h : w'.heap[p.block]? = w.heap[p.block]?) : w'.cell? p = w.cell? p := World.cell?_of_block h

/-- The slice value '.slice A n c' holds the cells xs (n elements of 'size' cells). -/
def Reads (w : World) (size : Nat) (A : Option Addr) (n : Nat) (xs : List Value) : Prop :=
  xs.length = n * size ∧ (0 < n → ∃ ad, A = some ad ∧ ∀ j u, xs[j]? = some u → w.cell? (ad.add j) = some u)
theorem Reads.none_ {w : World} {size : Nat} {A : Option Addr} : Reads w size A 0 [] := ⟨by simp, fun h => absurd h (by omega)⟩
theorem Reads.of_own {w : World} {base size : Nat} {e : TypeId} {A : Option Addr} {n c : Nat} {xs : List Value} (h : w.ownsRow base e size (.slice A n c) n xs) : Reads w size A n xs := by
  refine ⟨h.1, fun hn => ?_⟩
  rcases h.2 with ⟨_, h0⟩ | ⟨g, cap, cur, hv, _⟩
  · omega
  · injection hv with hA
    subst hA
    exact ⟨_, rfl, h.cells (g := g) rfl⟩
theorem Reads.keep {w w' : World} {size : Nat} {A : Option Addr} {n : Nat} {xs : List Value} (h : Reads w size A n xs) (hk : ∀ p : Addr, (w.cell? p).isSome = true → w'.cell? p = w.cell? p) : Reads w' size A n xs :=
  ⟨h.1, fun hn => by
    obtain ⟨ad, e, hc⟩ := h.2 hn
    exact ⟨ad, e, fun j u hu => (hk _ (by rw [hc j u hu]; rfl)).trans (hc j u hu)⟩⟩
theorem Reads.below {w w' : World} {size : Nat} {A : Option Addr} {n : Nat} {xs : List Value} (h : Reads w size A n xs) (hb : Below w.heap.size w w') : Reads w' size A n xs :=
  h.keep fun p hp => by
    obtain ⟨v, hv⟩ := Option.isSome_iff_exists.1 hp
    exact hb.cell (World.block_lt_of_cell? _ _ hv)

section
variable {P : Program} (w : World)
theorem run_append_of_nil (base : Nat) (t ty e : TypeId) (i : TypeInfo) (size : Nat) (ht : P.underlying t = some (.slice e)) (hi : P.info? e = some i)
    (v : Value) (n : Nat) (xs : List Value) (hown : w.ownsRow base e size v n xs) (c : Nat) : (Builtin.append_ #[t, t] ty #[v, .slice none 0 c]).run P w = .ok v w := by
  rcases hown.2 with ⟨rfl, rfl⟩ | ⟨g, cap, cur, rfl, _, _, hnc, _⟩
  · simp [Builtin.append_, run_underlying ht, sizeOf, typeInfo, hi, Builtin.lenOf, Builtin.firstCells]
  · simp [Builtin.append_, run_underlying ht, sizeOf, typeInfo, hi, Builtin.lenOf, Builtin.firstCells, hnc, storeCells]

theorem run_append_any (base : Nat) (t ty e : TypeId) (i : TypeInfo) (z : Value) (size bytes : Nat) (ht : P.underlying t = some (.slice e)) (hi : P.info? e = some i) (hz : i.zero = some z)
    (hsize : i.size = size) (hby : i.bytes = bytes) (hzs : z.cells.size = size) (hsz : 0 < size)
    (v : Value) (n : Nat) (xs : List Value) (hown : w.ownsRow base e size v n xs)
    (A : Option Addr) (m c : Nat) (news : List Value) (hr : Reads w size A m news) (h1 : ∀ u ∈ news, u.oneCell' = true)
    (h63 : n + m ≤ maxLen) (hbytes : (n + m) * bytes ≤ 140737488355328) (hbase : base ≤ w.heap.size) :
    ∃ v' w', (Builtin.append_ #[t, t] ty #[v, .slice A m c]).run P w = .ok v' w' ∧ w'.ownsRow base e size v' (n + m) (xs ++ news) ∧ w.grownBy w' v.ownBlock ∧
      (v'.ownBlock = v.ownBlock ∨ v'.ownBlock = some w.heap.size) := by
  rcases A with _ | ad
  · have hm : m = 0 := by
      rcases Nat.eq_zero_or_pos m with h0 | h0
      · exact h0
      · obtain ⟨ad, h, _⟩ := hr.2 h0
        cases h
    subst hm
    have hn : news = [] := List.eq_nil_of_length_eq_zero (by simpa using hr.1)
    subst hn
    exact ⟨v, w, run_append_of_nil w base t ty e i size ht hi v n xs hown c, by simpa using hown, World.grownBy.refl w _, .inl rfl⟩
  · have hcells : ∀ j u, news[j]? = some u → w.cell? (ad.add j) = some u := by
      intro j u hu
      rcases Nat.eq_zero_or_pos m with h0 | h0
      · subst h0
        have hn : news = [] := List.eq_nil_of_length_eq_zero (by simpa using hr.1)
        subst hn
        simp at hu
      · obtain ⟨ad', h, hc⟩ := hr.2 h0
        injection h with h
        subst h
        exact hc j u hu
    obtain ⟨v', w', hrun, h2, h3, _, h5⟩ := run_append_own_at (P := P) w base t ty e i z size bytes ht hi hz hsize hby hzs hsz v n xs hown ad m c news hr.1 hcells h1 h63 hbytes hbase
    exact ⟨v', w', hrun, h2, h3, h5⟩

theorem wp_append_any {o : Oper} {a : Act} {K : Act → World → Prop} {Q : Exit → Act → World → Prop} (s x : Operand) (t : TypeId)
    (ho : o.op = .call { callee := .builtin .append, args := #[s, x], argTypes := #[t, t] })
    (base : Nat) (e : TypeId) (i : TypeInfo) (z : Value) (size bytes : Nat) (ht : P.underlying t = some (.slice e)) (hi : P.info? e = some i) (hz : i.zero = some z)
    (hsize : i.size = size) (hby : i.bytes = bytes) (hzs : z.cells.size = size) (hsz : 0 < size)
    (v : Value) (n : Nat) (xs : List Value) (hs : a.eval s = v) (hown : w.ownsRow base e size v n xs)
    (A : Option Addr) (m c : Nat) (news : List Value) (hx : a.eval x = .slice A m c) (hr : Reads w size A m news) (h1 : ∀ u ∈ news, u.oneCell' = true)
    (h63 : n + m ≤ maxLen) (hbytes : (n + m) * bytes ≤ 140737488355328) (hbase : base ≤ w.heap.size)
    (h : ∀ v' w', w'.ownsRow base e size v' (n + m) (xs ++ news) → w.grownBy w' v.ownBlock → (v'.ownBlock = v.ownBlock ∨ v'.ownBlock = some w.heap.size) → K (a.put o.dst v') w') : o.wp P a w K Q := by
  obtain ⟨v', w', hrun, h2, h3, h4⟩ := run_append_any (P := P) w base t o.type e i z size bytes ht hi hz hsize hby hzs hsz v n xs hown A m c news hr h1 h63 hbytes hbase
  unfold Oper.wp execOp
  simp only [ho, resolve, invoke, builtin, Sem.run_bind, Sem.run_pure, Result.andThen_ok, List.map_toArray, List.map_cons, List.map_nil, hs, hx, hrun]
  exact h v' w' h2 h3 h4

theorem wpList_append_any {ops : Array Oper} {rest : List Oper} {o : Oper} {a : Act} {Q : Exit → Act → World → Prop} (hgd : o.guard = none) (s x : Operand) (t : TypeId)
    (ho : o.op = .call { callee := .builtin .append, args := #[s, x], argTypes := #[t, t] })
    (base : Nat) (e : TypeId) (i : TypeInfo) (z : Value) (size bytes : Nat) (ht : P.underlying t = some (.slice e)) (hi : P.info? e = some i) (hz : i.zero = some z)
    (hsize : i.size = size) (hby : i.bytes = bytes) (hzs : z.cells.size = size) (hsz : 0 < size)
    (v : Value) (n : Nat) (xs : List Value) (hs : a.eval s = v) (hown : w.ownsRow base e size v n xs)
    (A : Option Addr) (m c : Nat) (news : List Value) (hx : a.eval x = .slice A m c) (hr : Reads w size A m news) (h1 : ∀ u ∈ news, u.oneCell' = true)
    (h63 : n + m ≤ maxLen) (hbytes : (n + m) * bytes ≤ 140737488355328) (hbase : base ≤ w.heap.size)
    (h : ∀ v' w', w'.ownsRow base e size v' (n + m) (xs ++ news) → w.grownBy w' v.ownBlock → (v'.ownBlock = v.ownBlock ∨ v'.ownBlock = some w.heap.size) → wpList P ops Q rest (a.put o.dst v') w') : wpList P ops Q (o :: rest) a w :=
  wpList_plain hgd fun _ hK => wp_append_any w s x t ho base e i z size bytes ht hi hz hsize hby hzs hsz v n xs hs hown A m c news hx hr h1 h63 hbytes hbase fun v' w' h2 h3 h4 => hK _ _ (h v' w' h2 h3 h4)

theorem step_append_any {ops : Array Oper} {o : Oper} {a : Act} {K : Act → World → Prop} {Q : Exit → Act → World → Prop} {E : Prop} (hgd : o.guard = none) (s x : Operand) (t : TypeId)
    (ho : o.op = .call { callee := .builtin .append, args := #[s, x], argTypes := #[t, t] })
    (base : Nat) (e : TypeId) (i : TypeInfo) (z : Value) (size bytes : Nat) (ht : P.underlying t = some (.slice e)) (hi : P.info? e = some i) (hz : i.zero = some z)
    (hsize : i.size = size) (hby : i.bytes = bytes) (hzs : z.cells.size = size) (hsz : 0 < size)
    (v : Value) (n : Nat) (xs : List Value) (hs : a.eval s = v) (hown : w.ownsRow base e size v n xs)
    (A : Option Addr) (m c : Nat) (news : List Value) (hx : a.eval x = .slice A m c) (hr : Reads w size A m news) (h1 : ∀ u ∈ news, u.oneCell' = true)
    (h63 : n + m ≤ maxLen) (hbytes : (n + m) * bytes ≤ 140737488355328) (hbase : base ≤ w.heap.size)
    (h : ∀ v' w', w'.ownsRow base e size v' (n + m) (xs ++ news) → w.grownBy w' v.ownBlock → (v'.ownBlock = v.ownBlock ∨ v'.ownBlock = some w.heap.size) → K (a.put o.dst v') w') :
    if Region.wanted o (yielded ops a.tmps) = true then Oper.wp P o a w K Q else E := by
  have hw : Region.wanted o (yielded ops a.tmps) = true := by simp [Region.wanted, hgd]
  rw [if_pos hw]
  exact wp_append_any w s x t ho base e i z size bytes ht hi hz hsize hby hzs hsz v n xs hs hown A m c news hx hr h1 h63 hbytes hbase h
end


/-! ### element types in one bundle -/
structure Elem (P : Program) (T e : TypeId) (z : Value) (size bytes : Nat) : Prop where
  ht : P.underlying T = some (.slice e)
  hi : (P.info? e).map (fun i => (i.zero, i.size, i.bytes)) = some (some z, size, bytes)
  hzs : z.cells.size = size
  hsz : 0 < size
  hb : 0 < bytes

theorem Reads.new {w : World} {cs : Array Value} {e : TypeId} {size n : Nat} (h : cs.size = n * size) : Reads (w.alloc (.cells cs e)) size (some ⟨w.heap.size, 0, none⟩) n cs.toList := by
  refine ⟨by simpa using h, fun _ => ⟨_, rfl, fun j u hu => ?_⟩⟩
  rw [add_plain, cell_of_row _ _ _ cs e (0, 0) (heap_alloc_new w _), Nat.zero_add]
  simpa using hu

section
variable {P : Program} {T e : TypeId} {z : Value} {size bytes : Nat}
theorem wpList_app (E : Elem P T e z size bytes) (w : World) {ops : Array Oper} {rest : List Oper} {o : Oper} {a : Act} {Q : Exit → Act → World → Prop} (hgd : o.guard = none) (s x : Operand)
    (ho : o.op = .call { callee := .builtin .append, args := #[s, x], argTypes := #[T, T] }) (base : Nat)
    (v : Value) (n : Nat) (xs : List Value) (hs : a.eval s = v) (hown : w.ownsRow base e size v n xs)
    (A : Option Addr) (m c : Nat) (news : List Value) (hx : a.eval x = .slice A m c) (hr : Reads w size A m news) (h1 : ∀ u ∈ news, u.oneCell' = true)
    (hbytes : (n + m) * bytes ≤ 140737488355328) (hbase : base ≤ w.heap.size)
    (h : ∀ v' w', w'.ownsRow base e size v' (n + m) (xs ++ news) → w.grownBy w' v.ownBlock → (v'.ownBlock = v.ownBlock ∨ v'.ownBlock = some w.heap.size) → wpList P ops Q rest (a.put o.dst v') w') : wpList P ops Q (o :: rest) a w := by
  obtain ⟨i, hi, hz, hs1, hb1⟩ := info_parts E.hi
  refine wpList_append_any w hgd s x T ho base e i z size bytes E.ht hi hz hs1 hb1 E.hzs E.hsz v n xs hs hown A m c news hx hr h1 ?_ hbytes hbase h
  have := Nat.le_mul_of_pos_right (n + m) E.hb
  simp only [maxLen]
  omega
theorem wpList_mk (E : Elem P T e z size bytes) (w : World) {ops : Array Oper} {rest : List Oper} {o : Oper} {a : Act} {Q : Exit → Act → World → Prop}
    (hg : o.guard = none) (l c : Operand) (hop : o.op = Op.makeSlice T l c) (base : Nat)
    (kl kc : IntKind) (L C : Int) (n : Nat) (hl : a.eval l = .int kl L) (hc : a.eval c = .int kc C) (hL : L = (n : Int)) (hC : C = (n : Int)) (hbytes : n * bytes ≤ 140737488355328) (b4 : base ≤ w.heap.size)
    (hK : ∀ w', w'.ownsRow base e size (.slice (some ⟨w.heap.size, 0, none⟩) n n) n (madeCells z.cells (n * size)).toList → w.grownBy w' none → wpList P ops Q rest (a.put o.dst (.slice (some ⟨w.heap.size, 0, none⟩) n n)) w') :
    wpList P ops Q (o :: rest) a w := by
  obtain ⟨i, hi, hz, hs1, hb1⟩ := info_parts E.hi
  refine wpList_make_full w hg l c T hop base e i z size E.ht hi hz hs1 kl kc L C n hl hc hL hC ?_ ?_ b4 hK
  · rw [hb1, Nat.mul_comm]; omega
  · have := Nat.le_mul_of_pos_right n E.hb
    simp only [maxLen]
    omega
theorem wpList_mkCap (E : Elem P T e z size bytes) (w : World) {ops : Array Oper} {rest : List Oper} {o : Oper} {a : Act} {Q : Exit → Act → World → Prop}
    (hg : o.guard = none) (l c : Operand) (hop : o.op = Op.makeSlice T l c) (base : Nat)
    (kl kc : IntKind) (C : Int) (n : Nat) (hl : a.eval l = .int kl 0) (hc : a.eval c = .int kc C) (hC : C = (n : Int)) (hbytes : n * bytes ≤ 140737488355328) (b4 : base ≤ w.heap.size)
    (hK : ∀ w', w'.ownsRow base e size (.slice (some ⟨w.heap.size, 0, none⟩) 0 n) 0 [] → w.grownBy w' none → wpList P ops Q rest (a.put o.dst (.slice (some ⟨w.heap.size, 0, none⟩) 0 n)) w') :
    wpList P ops Q (o :: rest) a w := by
  obtain ⟨i, hi, hz, hs1, hb1⟩ := info_parts E.hi
  refine wpList_make_own w hg l c T hop base e i z size E.ht hi hz hs1 kl kc C n hl hc hC ?_ ?_ b4 hK
  · rw [hb1, Nat.mul_comm]; omega
  · have := Nat.le_mul_of_pos_right n E.hb
    simp only [maxLen]
    omega
end
theorem u8s_one (l : List UInt8) : ∀ u ∈ l.map u8v, u.oneCell' = true := by
  intro u hu
  obtain ⟨b, _, rfl⟩ := List.mem_map.1 hu
  rfl
end Go.Proofs.YtonaacdefidomaaGreat
namespace Go.Proofs.YtonaacdefidomaaGreat
open Go.RowKit
/-- a cursor's place and number -/
structure DSt where
  i : Nat
  h : Int
def nxtH (h : Int) : Int := wrap64 (wrap64 (h * 6364136223846793005) + 1442695040888963407)
def mixH (h : Int) : Nat := (bits .and .i64 (bits .xor .i64 (h / 8589934592) (h / 35184372088832)) 255).toNat
def byteF (xs : List UInt8) (s : DSt) : Nat × DSt :=
  match xs[s.i]? with
  | some b => ((bits .and .i64 ((mixH (nxtH s.h) : Int) + (b.toNat : Int)) 255).toNat, ⟨s.i + 1, nxtH s.h⟩)
  | none => (mixH (nxtH s.h), ⟨s.i, nxtH s.h⟩)
def belowF (xs : List UInt8) (n : Nat) (s : DSt) : Nat × DSt :=
  if n ≤ 256 then ((byteF xs s).1 % n, (byteF xs s).2) else
    let a := byteF xs s
    let b := byteF xs a.2
    let c := byteF xs b.2
    let d := byteF xs c.2
    ((a.1 * 16777216 + b.1 * 65536 + c.1 * 256 + d.1) % n, d.2)
def onceF (xs : List UInt8) (n : Nat) (s : DSt) : Bool × DSt := (decide ((belowF xs n s).1 = 0), (belowF xs n s).2)
def styleF (k b : Nat) : Nat := if k = 1 then b % 2 else if k = 2 then 97 + b % 4 else b
def textR (xs : List UInt8) (k : Nat) : Nat → List UInt8 → DSt → List UInt8 × DSt
  | 0, acc, s => (acc, s)
  | n + 1, acc, s => textR xs k n (acc ++ [UInt8.ofNat (styleF k (byteF xs s).1)]) (byteF xs s).2
def textF (xs : List UInt8) (most : Nat) (s : DSt) : List UInt8 × DSt :=
  let k := belowF xs 4 s
  let n := belowF xs (most + 1) k.2
  textR xs k.1 n.1 [] n.2
def pickList : List Int := [-1, 0, 127, 128, 255, 256, 16383, 16384, 65535, 65536, 562949953421311, 562949953421312, 999999999, 1000000000, -999999999, 9223372036854775807, -9223372036854775808]
def numF (xs : List UInt8) (s : DSt) : Int × DSt :=
  let k := belowF xs 8 s
  if k.1 = 0 then (pickList.getD (belowF xs 17 k.2).1 0, (belowF xs 17 k.2).2)
  else if k.1 = 1 then (((belowF xs 1000000000 k.2).1 : Int) * ((belowF xs 1000000000 (belowF xs 1000000000 k.2).2).1 : Int), (belowF xs 1000000000 (belowF xs 1000000000 k.2).2).2)
  else if k.1 = 2 then (-((belowF xs 100000 k.2).1 : Int), (belowF xs 100000 k.2).2)
  else (((belowF xs 70000 k.2).1 : Int), (belowF xs 70000 k.2).2)
def spoilB (c : UInt8) (b : Nat) : UInt8 := UInt8.ofNat (bits .xor .i64 ((c.toNat : Nat) : Int) (1 + (b : Int)) % 256).toNat
def spoilF (xs : List UInt8) (s : DSt) (l : List UInt8) : List UInt8 × DSt :=
  if l = [] then textF xs 3 s else
    let k := belowF xs l.length s
    let m := belowF xs 4 k.2
    if m.1 = 0 then (l.take k.1 ++ l.drop (k.1 + 1), m.2)
    else if m.1 = 1 then (l.take k.1 ++ [UInt8.ofNat (byteF xs m.2).1] ++ l.drop k.1, (byteF xs m.2).2)
    else if m.1 = 2 then (l.take k.1, m.2)
    else (l.take k.1 ++ [spoilB (l.getD k.1 0) (belowF xs 255 m.2).1] ++ l.drop (k.1 + 1), (belowF xs 255 m.2).2)
def newH (xs : List UInt8) : Nat → Int
  | 0 => 10101 + (xs.length : Int)
  | k + 1 => bits .and .i64 (wrap64 (wrap64 (wrap64 (newH xs k * 131) + (((xs.getD k 0).toNat : Nat) : Int)) + 7)) 1073741823
theorem newH_succ (xs : List UInt8) (k : Nat) : newH xs (k + 1) = bits .and .i64 (wrap64 (wrap64 (wrap64 (newH xs k * 131) + (((xs.getD k 0).toNat : Nat) : Int)) + 7)) 1073741823 := rfl
def startF (xs : List UInt8) : DSt := ⟨0, newH xs (min xs.length 4000)⟩
theorem bits_le (X : Int) : ∃ m : Nat, m ≤ 255 ∧ bits .and .i64 X 255 = (m : Int) := by
  refine ⟨(BitVec.ofInt 64 X).toNat &&& 255, Nat.and_le_right, ?_⟩
  show IntKind.i64.wrap ((BitVec.ofInt 64 X &&& BitVec.ofInt 64 (255 : Int)).toNat : Int) = _
  have e2 : (BitVec.ofInt 64 (255 : Int)).toNat = 255 := by decide
  have h : (BitVec.ofInt 64 X).toNat &&& 255 ≤ 255 := Nat.and_le_right
  rw [BitVec.toNat_and, e2, IntKind.wrap_i64]
  omega
theorem mod256 (X : Int) : ∃ q : Nat, q ≤ 255 ∧ X % 256 = (q : Int) := ⟨(X % 256).toNat, by omega, by omega⟩
theorem mixH_le (h : Int) : mixH h ≤ 255 ∧ bits .and .i64 (bits .xor .i64 (h / 8589934592) (h / 35184372088832)) 255 = (mixH h : Int) := by
  obtain ⟨m, h1, h2⟩ := bits_le (bits .xor .i64 (h / 8589934592) (h / 35184372088832))
  unfold mixH
  rw [h2]
  exact ⟨by simpa using h1, by simp⟩
theorem byteF_le (xs : List UInt8) (s : DSt) : (byteF xs s).1 ≤ 255 := by
  unfold byteF
  split
  · rename_i b _
    obtain ⟨m, h1, h2⟩ := bits_le ((mixH (nxtH s.h) : Int) + (b.toNat : Int))
    rw [h2]
    simpa using h1
  · exact (mixH_le _).1
theorem byteF_yes {xs : List UInt8} {s : DSt} (hi : s.i < xs.length) : bits .and .i64 ((mixH (nxtH s.h) : Int) + (xs[s.i].toNat : Int)) 255 = ((byteF xs s).1 : Int) ∧ (byteF xs s).2 = ⟨s.i + 1, nxtH s.h⟩ := by
  unfold byteF
  rw [List.getElem?_eq_getElem hi]
  obtain ⟨m, h1, h2⟩ := bits_le ((mixH (nxtH s.h) : Int) + (xs[s.i].toNat : Int))
  simp only [h2]
  simp
theorem byteF_no {xs : List UInt8} {s : DSt} (hi : ¬ s.i < xs.length) : byteF xs s = (mixH (nxtH s.h), ⟨s.i, nxtH s.h⟩) := by
  unfold byteF
  rw [List.getElem?_eq_none (by omega)]
theorem byteF_i {xs : List UInt8} {s : DSt} (hi : s.i ≤ xs.length) : (byteF xs s).2.i ≤ xs.length := by
  unfold byteF
  split
  · rename_i b hb
    have := (List.getElem?_eq_some_iff.1 hb).1
    simp only
    omega
  · exact hi
theorem belowF_lt (xs : List UInt8) (n : Nat) (s : DSt) (hn : 1 ≤ n) : (belowF xs n s).1 < n := by
  unfold belowF
  split
  · exact Nat.mod_lt _ hn
  · exact Nat.mod_lt _ hn
theorem styleF_le {k b : Nat} (h : b ≤ 255) : styleF k b ≤ 255 := by
  unfold styleF
  split
  · omega
  · split <;> omega
theorem textR_len (xs : List UInt8) (k : Nat) : ∀ (n : Nat) (acc : List UInt8) (s : DSt), (textR xs k n acc s).1.length = acc.length + n
  | 0, _, _ => rfl
  | n + 1, acc, s => by
    rw [textR, textR_len xs k n, List.length_append]
    simp only [List.length_cons, List.length_nil]
    omega
theorem textF_len (xs : List UInt8) (most : Nat) (s : DSt) : (textF xs most s).1.length ≤ most := by
  unfold textF
  have := belowF_lt xs (most + 1) (belowF xs 4 s).2 (by omega)
  simp only [textR_len, List.length_nil]
  omega
end Go.Proofs.YtonaacdefidomaaGreat
namespace Go.Proofs.YtonaacdefidomaaGreat
open Go.RowKit

/-- w' holds all that w holds. -/
def Ext (w w' : World) : Prop := ∀ b, b < w.heap.size → w'.heap[b]? = w.heap[b]?
theorem Ext.refl (w : World) : Ext w w := fun _ _ => rfl
theorem Ext.size {w w' : World} (h : Ext w w') : w.heap.size ≤ w'.heap.size := by
  rcases Nat.eq_zero_or_pos w.heap.size with h0 | h0
  · omega
  · have := h (w.heap.size - 1) (by omega)
    rw [Array.getElem?_eq_getElem (show w.heap.size - 1 < w.heap.size by omega)] at this
    have := (Array.getElem?_eq_some_iff.1 this).1
    omega
theorem Ext.trans {a b c : World} (h : Ext a b) (k : Ext b c) : Ext a c := fun i hi => (k i (Nat.lt_of_lt_of_le hi h.size)).trans (h i hi)
theorem Ext.of_below {w w' : World} (h : Below w.heap.size w w') : Ext w w' := h.block
theorem Ext.of_grown {w w' : World} (h : w.grownBy w' none) : Ext w w' := fun b hb => h.block b hb (by simp)
theorem Ext.drew (w : World) : Ext w w.drew := fun _ _ => rfl
theorem Ext.alloc {w w' : World} (h : Ext w w') (o : Obj) : Ext w (w'.alloc o) := fun b hb => (Below.heap_alloc _ _ _ (Nat.lt_of_lt_of_le hb h.size)).trans (h b hb)

/-! ### what reads and makes nothing gives the same in every later world -/
def Stable {α : Type} (P : Program) (e : Sem α) : Prop := ∀ w v w1, e.run P w = .ok v w1 → w1 = w ∧ ∀ w', Ext w w' → e.run P w' = .ok v w'
section
variable {P : Program} {α β : Type}
theorem Stable.pure (a : α) : Stable P (Pure.pure a : Sem α) := fun w v w1 h => by
  simp only [Sem.run_pure, Result.ok.injEq] at h
  obtain ⟨rfl, rfl⟩ := h
  exact ⟨rfl, fun w' _ => by simp⟩
theorem Stable.halt (h : Halt) : Stable P (Sem.halt h : Sem α) := fun w v w1 hh => by simp [Sem.run] at hh
theorem Stable.bind {e : Sem α} {f : α → Sem β} (he : Stable P e) (hf : ∀ a, Stable P (f a)) : Stable P (e >>= f) := fun w v w1 h => by
  rw [Sem.run_bind] at h
  cases hr : e.run P w with
  | halt x w2 => rw [hr] at h; simp [Result.andThen] at h
  | ok a w2 =>
    rw [hr] at h
    simp only [Result.andThen] at h
    obtain ⟨rfl, h2⟩ := he w a w2 hr
    obtain ⟨rfl, h4⟩ := hf a _ v w1 h
    refine ⟨rfl, fun w' hw' => ?_⟩
    rw [Sem.run_bind, h2 w' hw']
    simp only [Result.andThen]
    exact h4 w' hw'
theorem Stable.program : Stable P (Go.program : Sem Program) := fun w v w1 h => by
  have h' : Result.ok P w = Result.ok v w1 := h
  simp only [Result.ok.injEq] at h'
  obtain ⟨rfl, rfl⟩ := h'
  exact ⟨rfl, fun w' _ => rfl⟩
theorem Stable.info (t : TypeId) : Stable P (typeInfo t) := by
  unfold typeInfo
  refine Stable.bind Stable.program fun p => ?_
  split
  · exact Stable.pure _
  · exact Stable.halt _
theorem Stable.under (t : TypeId) : Stable P (underlying t) := by
  unfold underlying
  refine Stable.bind Stable.program fun p => ?_
  split
  · exact Stable.pure _
  · exact Stable.halt _
theorem Stable.size (t : TypeId) : Stable P (sizeOf t) := by
  unfold sizeOf
  exact Stable.bind (Stable.info t) fun _ => Stable.pure _
theorem Stable.isAgg (t : TypeId) : Stable P (isAgg t) := by
  unfold Go.isAgg
  refine Stable.bind (Stable.under t) fun d => ?_
  split <;> exact Stable.pure _
theorem seen_none (P : Program) (w : World) (at_ : Addr) (u : TypeId) (k : Addr) (b : Bool) (h : w.heap[at_.block]? = none) : ∃ e, w.viewLoad P at_ u k b = .error e := by
  unfold World.viewLoad World.seen
  by_cases h1 : (k.spot.isSome || at_.spot.isSome) = true
  · simp [h1, MonadExcept.throw, throwThe, MonadExceptOf.throw, bind, Except.bind]
  · simp only [h1]
    cases h2 : plainCell P P.depth u k.off with
    | none => simp [MonadExcept.throw, throwThe, MonadExceptOf.throw, bind, Except.bind, pure, Except.pure]
    | some like =>
      cases h3 : like.bytes?.map (·.length) with
      | none => simp [h3, MonadExcept.throw, throwThe, MonadExceptOf.throw, bind, Except.bind, pure, Except.pure]
      | some size =>
        cases h4 : byteOfCell P P.depth u k.off with
        | none => simp [h3, MonadExcept.throw, throwThe, MonadExceptOf.throw, bind, Except.bind, pure, Except.pure]
        | some be => simp [h, h3, MonadExcept.throw, throwThe, MonadExceptOf.throw, bind, Except.bind, pure, Except.pure]

theorem Stable.load (m : Mode) (a : Addr) : Stable P (Sem.load m a Sem.pure : Sem Value) := fun w v w1 h => by
  simp only [Sem.run] at h ⊢
  cases hc : w.cell? a with
  | some u =>
    rw [hc] at h
    simp only [Result.ok.injEq] at h
    obtain ⟨rfl, rfl⟩ := h
    refine ⟨rfl, fun w' hw' => ?_⟩
    have : w'.cell? a = some u := (World.cell?_of_block (hw' a.block (World.block_lt_of_cell? w a hc))).trans hc
    rw [this]
  | none =>
    rw [hc] at h
    simp only [World.farLoad] at h ⊢
    cases hb : w.heap[a.block]? with
    | none => rw [hb] at h; simp at h
    | some o =>
      have hlt : a.block < w.heap.size := (Array.getElem?_eq_some_iff.1 hb).1
      cases o with
      | view at_ u =>
        rw [hb] at h
        simp only at h
        cases hv : w.viewLoad P at_ u a (m == .atomic) with
        | error why => rw [hv] at h; simp at h
        | ok r =>
          obtain ⟨r1, r2⟩ := r
          rw [hv] at h
          simp only [Result.ok.injEq] at h
          obtain ⟨rfl, rfl⟩ := h
          refine ⟨rfl, fun w' hw' => ?_⟩
          have e1 : w'.heap[a.block]? = some (.view at_ u) := (hw' _ hlt).trans hb
          have e2 : w'.cell? a = none := by simp [World.cell?, e1]
          have e3 : w'.viewLoad P at_ u a (m == .atomic) = w.viewLoad P at_ u a (m == .atomic) := by
            have hat : at_.block < w.heap.size := by
              rcases Nat.lt_or_ge at_.block w.heap.size with h' | h'
              · exact h'
              · exfalso
                obtain ⟨e, he⟩ := seen_none P w at_ u a (m == .atomic) (Array.getElem?_eq_none h')
                rw [he] at hv
                cases hv
            have hh := hw' at_.block hat
            simp only [World.viewLoad, World.seen, hh]
          rw [e2]
          simp only [e1, e3, hv]
      | _ => (rw [hb] at h; cases h)
theorem Stable.cells (a : Addr) : ∀ (n i : Nat) (acc : Array Value), Stable P (loadCellsFrom a i n acc)
  | 0, _, _ => Stable.pure _
  | n + 1, i, acc => Stable.bind (Stable.load .plain (a.add i)) fun v => Stable.cells a n (i + 1) (acc.push v)
theorem Stable.loadVar (t : TypeId) (a : Addr) : Stable P (loadVar t a) := by
  unfold Go.loadVar
  refine Stable.bind (Stable.isAgg t) fun b => ?_
  split
  · exact Stable.bind (Stable.size t) fun n => Stable.bind (Stable.cells a n 0 #[]) fun _ => Stable.pure _
  · exact Stable.load _ _
theorem Stable.sure (v : Value) : Stable P (Instr.sureAddr v) := by
  unfold Instr.sureAddr
  split
  · exact Stable.pure _
  · exact Stable.halt _
theorem Stable.loadAt (t : TypeId) (v : Value) : Stable P (Instr.loadAt t v) := by
  unfold Instr.loadAt
  exact Stable.bind (Stable.sure v) fun a => Stable.loadVar t a
/-- What never yields is stable. -/
theorem Stable.never {e : Sem α} (h : ∀ w v w1, e.run P w ≠ .ok v w1) : Stable P e := fun w v w1 hh => absurd hh (h w v w1)
theorem Stable.panicErr (m : String) : Stable P (runtimePanic (.error m) : Sem α) := by
  unfold runtimePanic
  exact Stable.bind Stable.program fun p => Stable.halt _
theorem Stable.panicNil : Stable P (runtimePanic .nilDeref : Sem α) := by
  unfold runtimePanic
  exact Stable.bind Stable.program fun p => Stable.halt _
theorem Stable.bounds (k : IntKind) (x y : Int) (c : BoundsCode) : Stable P (boundsPanic k x y c : Sem α) := by
  refine Stable.never fun w v w1 h => ?_
  obtain ⟨s, w', hr⟩ := run_boundsPanic (α := α) (P := P) (w := w) k x y c
  rw [hr] at h
  cases h
theorem Stable.asInt (v : Value) : Stable P (asIntOf v) := by
  unfold asIntOf
  split
  · exact Stable.pure _
  · exact Stable.halt _
  · exact Stable.halt _
theorem Stable.asBool (v : Value) : Stable P (asBool v) := by
  unfold Go.asBool
  split
  · exact Stable.pure _
  · exact Stable.halt _
theorem Stable.asAgg (v : Value) : Stable P (asAgg v) := by
  unfold Go.asAgg
  split
  · exact Stable.pure _
  · exact Stable.halt _
theorem Stable.part (t : TypeId) (cs : Array Value) (off : Nat) : Stable P (part t cs off) := by
  unfold Go.part
  refine Stable.bind (Stable.isAgg t) fun b => ?_
  split
  · exact Stable.bind (Stable.size t) fun _ => Stable.pure _
  · split
    · exact Stable.pure _
    · exact Stable.halt _
theorem Stable.opShift (op : BinOp) (k : IntKind) (x : Int) (yk : IntKind) (y : Int) : Stable P (Op.shift op k x yk y) := by
  unfold Op.shift
  split
  · exact Stable.panicErr _
  · dsimp only
    split <;> first | exact Stable.pure _ | exact Stable.halt _
theorem Stable.opArith (op : BinOp) (k : IntKind) (x y : Int) : Stable P (Op.intArith op k x y) := by
  unfold Op.intArith
  split <;> first | exact Stable.pure _ | exact Stable.halt _
theorem Stable.opDiv (op : BinOp) (k : IntKind) (x y : Int) : Stable P (Op.intDiv op k x y) := by
  unfold Op.intDiv
  split
  · exact Stable.panicErr _
  · split <;> first | exact Stable.pure _ | exact Stable.halt _
theorem Stable.opBits (op : BinOp) (k : IntKind) (x y : Int) : Stable P (Op.intBits op k x y) := by
  unfold Op.intBits
  dsimp only
  split <;> first | exact Stable.pure _ | exact Stable.halt _
theorem Stable.opCmp (op : BinOp) (x y : Int) : Stable P (Op.intCmp op x y) := by
  unfold Op.intCmp
  split <;> first | exact Stable.pure _ | exact Stable.halt _
theorem Stable.opString (op : BinOp) (x y : ByteArray) : Stable P (Op.stringOp op x y) := by
  unfold Op.stringOp
  dsimp only
  split
  · split <;> first | exact Stable.pure _ | exact Stable.halt _
  all_goals first | exact Stable.pure _ | exact Stable.halt _
theorem Stable.opInts (op : BinOp) (t : TypeId) (k k' : IntKind) (x y : Int) : Stable P (binOp op t (.int k x) (.int k' y)) := by
  cases op
  all_goals first
    | (show Stable P (Op.shift .shl k x k' y); exact Stable.opShift _ _ _ _ _)
    | (show Stable P (Op.shift .shr k x k' y); exact Stable.opShift _ _ _ _ _)
    | (show Stable P (ite _ _ _)
       split
       · exact Stable.halt _
       · first | exact Stable.opArith _ _ _ _ | exact Stable.opDiv _ _ _ _ | exact Stable.opBits _ _ _ _ | exact Stable.opCmp _ _ _)
theorem Stable.opStrings (op : BinOp) (t : TypeId) (x y : ByteArray) : Stable P (binOp op t (.string x) (.string y)) := by
  have : binOp op t (.string x) (.string y) = Op.stringOp op x y := by cases op <;> rfl
  rw [this]
  exact Stable.opString _ _ _
theorem Stable.equalBool (a b : Bool) : ∀ (d : Nat) (t : TypeId), Stable P (Op.equalIn d t (.bool a) (.bool b))
  | 0, _ => Stable.halt _
  | d + 1, t => by
    unfold Op.equalIn
    refine Stable.bind (Stable.under _) fun u => ?_
    split <;> first | exact Stable.pure _ | exact Stable.halt _ | (exfalso; simp_all; done)
theorem Stable.opBools (op : BinOp) (t : TypeId) (x y : Bool) : Stable P (binOp op t (.bool x) (.bool y)) := by
  cases op
  all_goals first
    | exact Stable.halt _
    | exact Stable.bind (Stable.equalBool _ _ _ _) fun _ => Stable.pure _
def plain2 : Value → Value → Bool
  | .int _ _, .int _ _ | .string _, .string _ | .bool _, .bool _ => true
  | _, _ => false
theorem Stable.opPlain (op : BinOp) (t : TypeId) (a b : Value) (h : plain2 a b = true) : Stable P (binOp op t a b) := by
  unfold plain2 at h
  split at h
  · exact Stable.opInts _ _ _ _ _ _
  · exact Stable.opStrings _ _ _ _
  · exact Stable.opBools _ _ _ _
  · cases h
theorem Stable.guardPlain (op : BinOp) (t : TypeId) (x y : Operand) (a b : Value) (h : plain2 a b = true) : Stable P (eqGuard op t x y a b) := by
  unfold plain2 at h
  split at h
  · cases op <;> exact Stable.pure _
  · cases op <;> exact Stable.pure _
  · cases op <;> exact Stable.pure _
  · cases h
theorem Stable.asAddr (v : Value) : Stable P (asAddr v) := by
  unfold Go.asAddr
  split
  · exact Stable.pure _
  all_goals first | exact Stable.panicNil | exact Stable.halt _
theorem Stable.sliceBound (v : Value) (y : Nat) (c : BoundsCode) : Stable P (Instr.sliceBound v y c) := by
  unfold Instr.sliceBound
  refine Stable.bind (Stable.asInt v) fun ki => ?_
  dsimp only
  split
  · exact Stable.pure _
  · exact Stable.bounds _ _ _ _
theorem Stable.sliceBounds (b : Bool) (len cap : Nat) (lo hi mx : Option Value) : Stable P (Instr.sliceBounds b len cap lo hi mx) := by
  unfold Instr.sliceBounds
  repeat' first
    | exact Stable.pure _
    | exact Stable.halt _
    | exact Stable.bounds _ _ _ _
    | exact Stable.under _
    | exact Stable.size _
    | exact Stable.asInt _
    | exact Stable.sure _
    | exact Stable.part _ _ _
    | exact Stable.sliceBound _ _ _
    | (refine Stable.bind ?_ fun _ => ?_)
    | split
    | (dsimp only; done)
    | dsimp only
theorem Stable.indexAt (t : TypeId) (x ix : Value) : Stable P (Instr.indexAt t x ix) := by
  unfold Instr.indexAt
  repeat' first
    | exact Stable.pure _
    | exact Stable.halt _
    | exact Stable.bounds _ _ _ _
    | exact Stable.under _
    | exact Stable.size _
    | exact Stable.asInt _
    | exact Stable.sure _
    | exact Stable.part _ _ _
    | exact Stable.sliceBound _ _ _
    | exact Stable.sliceBounds _ _ _ _ _ _
    | (refine Stable.bind ?_ fun _ => ?_)
    | split
    | (dsimp only; done)
    | dsimp only
theorem Stable.index (t : TypeId) (x ix : Value) : Stable P (Instr.index t x ix) := by
  unfold Instr.index
  repeat' first
    | exact Stable.pure _
    | exact Stable.halt _
    | exact Stable.bounds _ _ _ _
    | exact Stable.under _
    | exact Stable.size _
    | exact Stable.asInt _
    | exact Stable.sure _
    | exact Stable.part _ _ _
    | exact Stable.sliceBound _ _ _
    | exact Stable.sliceBounds _ _ _ _ _ _
    | (refine Stable.bind ?_ fun _ => ?_)
    | split
    | (dsimp only; done)
    | dsimp only
theorem Stable.slice (t : TypeId) (x : Value) (lo hi mx : Option Value) : Stable P (Instr.slice t x lo hi mx) := by
  unfold Instr.slice
  refine Stable.bind (Stable.under _) fun d => ?_
  split
  all_goals repeat' first
    | exact Stable.pure _
    | exact Stable.halt _
    | exact Stable.bounds _ _ _ _
    | exact Stable.under _
    | exact Stable.size _
    | exact Stable.asInt _
    | exact Stable.sure _
    | exact Stable.part _ _ _
    | exact Stable.sliceBound _ _ _
    | exact Stable.sliceBounds _ _ _ _ _ _
    | exact Stable.asAddr _
    | (refine Stable.bind ?_ fun _ => ?_)
    | split
    | (dsimp only; done)
    | dsimp only
theorem Stable.sliceAt (t : TypeId) (x : Value) (lo hi mx : Option Value) : Stable P (Instr.sliceAt t x lo hi mx) := by
  unfold Instr.sliceAt
  refine Stable.bind (Stable.under _) fun d => ?_
  split
  · refine Stable.bind (Stable.sure _) fun d => ?_
    repeat' first
      | exact Stable.pure _
      | exact Stable.halt _
      | exact Stable.bounds _ _ _ _
      | exact Stable.under _
      | exact Stable.size _
      | exact Stable.asInt _
      | exact Stable.sure _
      | exact Stable.part _ _ _
      | exact Stable.sliceBound _ _ _
      | exact Stable.sliceBounds _ _ _ _ _ _
      | (refine Stable.bind ?_ fun _ => ?_)
      | split
      | (dsimp only; done)
      | dsimp only
  · exact Stable.slice _ _ _ _ _
def fieldPlain (P : Program) (t : TypeId) (f : Nat) : Bool :=
  match P.underlying t with
  | some (.struct fs) => match fs[f]? with
    | some fd => match P.info? fd.type with
      | some i => i.size != 0
      | none => false
    | none => false
  | _ => false
theorem Stable.fieldAt (t : TypeId) (x : Value) (f : Nat) (h : fieldPlain P t f = true) : Stable P (Instr.fieldAt t x f) := by
  unfold fieldPlain at h
  split at h
  · rename_i fs hfs
    split at h
    · rename_i fd hfd
      split at h
      · rename_i i hi
        have hsz : i.size ≠ 0 := by simpa using h
        have hrun : ∀ w : World, (Instr.fieldAt t x f).run P w = (do
            let a ← Instr.sureAddr x
            Pure.pure (Value.pointer (some (a.add fd.offset))) : Sem Value).run P w := by
          intro w
          unfold Instr.fieldAt
          simp only [Sem.run_bind, run_underlying hfs, Result.andThen, hfd]
          cases hs : (Instr.sureAddr x).run P w with
          | halt _ _ => rfl
          | ok a w1 =>
            simp only [fieldPlace, Sem.run_bind, sizeOf, typeInfo, Go.program, Sem.run]
            simp [Sem.run, Result.andThen, hi, hsz, Sem.run_bind, Go.program]
        have hst : Stable P (do
            let a ← Instr.sureAddr x
            Pure.pure (Value.pointer (some (a.add fd.offset))) : Sem Value) := Stable.bind (Stable.sure _) fun _ => Stable.pure _
        intro w v w1 hh
        rw [hrun] at hh
        obtain ⟨e, h2⟩ := hst w v w1 hh
        exact ⟨e, fun w' hw' => by rw [hrun]; exact h2 w' hw'⟩
      · cases h
    · cases h
  · cases h
theorem Stable.field (t : TypeId) (x : Value) (f : Nat) : Stable P (Instr.field t x f) := by
  unfold Instr.field
  refine Stable.bind (Stable.under t) fun d => ?_
  split
  · split
    · exact Stable.bind (Stable.asAgg _) fun _ => Stable.part _ _ _
    · exact Stable.halt _
  · exact Stable.halt _
theorem Stable.extract (x : Value) (i : Nat) : Stable P (Instr.extract x i) := by
  unfold Instr.extract
  split
  · split
    · exact Stable.pure _
    · exact Stable.halt _
  · exact Stable.halt _
theorem Stable.unary (op : UnOp) (x : Value) : Stable P (Op.unary op x) := by
  unfold Op.unary
  split <;> first | exact Stable.opArith _ _ _ _ | exact Stable.opBits _ _ _ _ | exact Stable.pure _ | exact Stable.halt _
end

/-! ### the operations that are taken in any order -/
def lenCall (c : Call) : Option (Operand × TypeId) :=
  match c.callee with
  | .builtin b => match b with
    | .len => match c.args.toList, c.argTypes.toList with
      | [x], [t] => some (x, t)
      | _, _ => none
    | _ => none
  | _ => none
theorem lenCall_spec {c : Call} {x : Operand} {t : TypeId} (h : lenCall c = some (x, t)) : c = { callee := .builtin .len, args := #[x], argTypes := #[t] } := by
  obtain ⟨callee, args, types⟩ := c
  obtain ⟨args⟩ := args
  obtain ⟨types⟩ := types
  unfold lenCall at h
  split at h
  · rename_i b hb
    split at h
    · split at h
      · rename_i h1 h2
        simp only [Option.some.injEq, Prod.mk.injEq] at h
        obtain ⟨rfl, rfl⟩ := h
        simp only at hb h1 h2
        subst hb h1 h2
        rfl
      · cases h
    · cases h
  · cases h
def quietKind (P : Program) : Op → Bool
  | .move _ | .assign _ | .pick .. | .load .. | .indexAddr .. | .index .. | .slice .. | .field .. | .extract .. | .unOp .. | .binOp .. | .nilCheck _ => true
  | .fieldAddr t _ f => fieldPlain P t f
  | .convert s d _ => match P.underlying s, P.underlying d with
    | some (.int _), some (.int _) => true
    | _, _ => false
  | .call c => (lenCall c).isSome
  | .build t parts => parts.isEmpty && (P.built t []).isSome
  | _ => false
def plainB (o : Oper) (a : Act) : Bool :=
  match o.op with
  | .binOp _ _ x y _ => plain2 (a.eval x) (a.eval y)
  | .nilCheck x => match a.eval x with
    | .pointer (some _) => true
    | _ => false
  | .convert _ _ x => match a.eval x with
    | .int _ _ => true
    | _ => false
  | .call c => match lenCall c with
    | some (x, _) => match a.eval x with
      | .string _ | .slice _ _ _ => true
      | _ => false
    | none => false
  | _ => true
theorem Stable.len (t ty : TypeId) (x : Value) (h : (match x with | .string _ | .slice _ _ _ => true | _ => false) = true) {P : Program} : Stable P (Builtin.len_ #[t] ty #[x]) := by
  unfold Builtin.len_
  simp only [List.getElem?_toArray, List.getElem?_cons_zero]
  refine Stable.bind (Stable.under _) fun d => ?_
  split at h
  · split <;> first | exact Stable.pure _ | exact Stable.halt _ | (exfalso; simp_all; done) | skip
    all_goals (refine Stable.bind (Stable.under _) fun d => ?_; split <;> first | exact Stable.pure _ | exact Stable.halt _)
  · split <;> first | exact Stable.pure _ | exact Stable.halt _ | (exfalso; simp_all; done) | skip
    all_goals (refine Stable.bind (Stable.under _) fun d => ?_; split <;> first | exact Stable.pure _ | exact Stable.halt _)
  · cases h
theorem Stable.op {P : Program} {o : Oper} {a : Act} (hk : quietKind P o.op = true) (hp : plainB o a = true) : Stable P (execOp a.eval o) := by
  obtain ⟨dst, op, type, pos, after, guard⟩ := o
  have val : ∀ {s : Sem Value}, Stable P s → Stable P (do Pure.pure (Next.value (← s)) : Sem Next) := fun h => Stable.bind h fun _ => Stable.pure _
  cases op <;> first | exact absurd hk Bool.false_ne_true | skip
  case move x => exact Stable.pure _
  case assign x => exact Stable.pure _
  case pick c x y => exact Stable.bind (Stable.asBool _) fun _ => Stable.pure _
  case load t x => exact val (Stable.loadAt _ _)
  case nilCheck x =>
    simp only [plainB] at hp
    simp only [execOp]
    split at hp
    · rename_i ad he
      rw [he]
      exact Stable.pure _
    · cases hp
  case binOp op t x y yt =>
    simp only [plainB] at hp
    exact val (Stable.bind (Stable.guardPlain _ _ _ _ _ _ hp) fun _ => Stable.opPlain _ _ _ _ hp)
  case unOp op t x => exact val (Stable.unary _ _)
  case convert s d x =>
    simp only [plainB] at hp
    simp only [quietKind] at hk
    split at hk
    · rename_i k1 k2 h1 h2
      split at hp
      · rename_i kx nx hx
        refine val ?_
        rw [hx]
        have : ∀ w : World, (convert s d (.int kx nx)).run P w = (Pure.pure (Value.int k2 (k2.wrap nx)) : Sem Value).run P w := by
          intro w
          unfold convert
          simp only [Sem.run_bind, run_underlying h1, run_underlying h2, Result.andThen]
          rfl
        intro w v w1 hh
        rw [this] at hh
        obtain ⟨e, h3⟩ := Stable.pure (P := P) _ w v w1 hh
        exact ⟨e, fun w' hw' => by rw [this]; exact h3 w' hw'⟩
      · cases hp
    · cases hk
  case slice t x lo hi mx => exact val (Stable.sliceAt _ _ _ _ _)
  case fieldAddr t x f => exact val (Stable.fieldAt _ _ _ hk)
  case field t x f => exact val (Stable.field _ _ _)
  case indexAddr t x ix => exact val (Stable.indexAt _ _ _)
  case index t x ix => exact val (Stable.index _ _ _)
  case extract x i => exact val (Stable.extract _ _)
  case build t parts =>
    simp only [quietKind, Bool.and_eq_true] at hk
    obtain ⟨cells, hc⟩ := Option.isSome_iff_exists.1 hk.2
    obtain rfl : parts = #[] := by simpa using hk.1
    have : ∀ w : World, (execOp a.eval { dst, op := .build t #[], type, pos, after, guard }).run P w = (Pure.pure (Next.value (.agg cells)) : Sem Next).run P w := by
      intro w
      have hb := run_build (P := P) w t #[] cells hc
      simp only [execOp, Sem.run_bind, List.map_toArray, List.map_nil, hb, Result.andThen, Sem.run_pure]
    intro w v w1 hh
    rw [this] at hh
    obtain ⟨e, h3⟩ := Stable.pure (P := P) _ w v w1 hh
    exact ⟨e, fun w' hw' => by rw [this]; exact h3 w' hw'⟩
  case call c =>
    obtain ⟨⟨x, t⟩, hc⟩ := Option.isSome_iff_exists.1 hk
    simp only [plainB, hc] at hp
    have hc' := lenCall_spec hc
    subst hc'
    have : ∀ w : World, (execOp a.eval { dst, op := .call { callee := .builtin .len, args := #[x], argTypes := #[t] }, type, pos, after, guard }).run P w = (do Pure.pure (Next.value (← Builtin.len_ #[t] type #[a.eval x])) : Sem Next).run P w := by
      intro w
      simp only [execOp, resolve, invoke, builtin, Sem.run_bind, Sem.run_pure, Result.andThen_ok, List.map_toArray, List.map_cons, List.map_nil]
    have hs := val (Stable.len t type (a.eval x) (by simpa using hp))
    intro w v w1 hh
    rw [this] at hh
    obtain ⟨e, h3⟩ := hs w v w1 hh
    exact ⟨e, fun w' hw' => by rw [this]; exact h3 w' hw'⟩

/-! ### the head in one order -/
section
variable {P : Program} {md : Region.Mode} {ops : Array Oper}
def noQ : Exit → Act → World → Prop := fun _ _ _ => False

theorem wp_off {o : Oper} {a : Act} {w : World} {K K' : Act → World → Prop} {S Q : Exit → Act → World → Prop} (hS : ∀ e a w, S e a w → e = .normal) (h : ∀ a w, K a w → K' a w) (hh : o.wp P a w K S) : o.wp P a w K' Q := by
  unfold Oper.wp at *
  generalize (execOp a.eval o).run P w = r at *
  cases r with
  | ok n w' =>
    cases n <;> simp only [Oper.upon] at hh ⊢
    case value => exact h _ _ hh
    case skip => exact h _ _ hh
    case defer => exact h _ _ hh
    case enter f args =>
      refine Calls.mono hh fun e w'' he => ?_
      cases e with
      | returned v => exact h _ _ he
      | panicked c => exact absurd (hS _ _ _ he) (by simp)
      | outgrown => obtain ⟨_, _, hx⟩ := he; exact absurd (hS _ _ _ hx) (by simp)
    case row => exact Rows.mono hh fun _ _ he => h _ _ he
  | halt x w' =>
    cases x <;> simp only [Oper.upon] at hh ⊢
    exact absurd (hS _ _ _ hh) (by simp)

/-- In every world of C the operation leaves v in its temporary and the world as it is. -/
def YieldsE (P : Program) (ops : Array Oper) (C : World → Prop) (o : Oper) (v : Value) (a : Act) : Prop :=
  (Region.wanted o (yielded ops a.tmps) = true ∧ ∀ w, C w → (execOp a.eval o).run P w = .ok (.value v) w) ∨
  (Region.wanted o (yielded ops a.tmps) = false ∧ v = undef)

theorem YieldsE.go {C : World → Prop} {i : Nat} {o : Oper} {v : Value} {a : Act} {Q : Exit → Act → World → Prop} (hi : ops[i]? = some o) (hy : YieldsE P ops C o v a) {K : Act → World → Prop} {w : World} (hw : C w)
    (h : K (a.put o.dst v) w) : wpOp P ops Q i K a w := by
  unfold wpOp
  simp only [hi]
  rcases hy with ⟨h1, h2⟩ | ⟨h1, rfl⟩
  · rw [if_pos h1]
    exact .inl (by simp only [Oper.wp, h2 w hw, Oper.upon]; exact h)
  · rw [if_neg (by simp [h1])]
    exact h

theorem YieldsE.same {C : World → Prop} {o : Oper} {v : Value} {a a' : Act} (hy : YieldsE P ops C o v a) (he : execOp a'.eval o = execOp a.eval o) (hw : Region.wanted o (yielded ops a'.tmps) = Region.wanted o (yielded ops a.tmps)) :
    YieldsE P ops C o v a' := by
  unfold YieldsE at *
  rw [he, hw]
  exact hy

theorem move_past {C : World → Prop} {j : Nat} {oi oj : Oper} {v : Value} (hj : ops[j]? = some oj) (hap : oi.apart ops oj = true)
    (hsi : ∀ cs b, oi.op ≠ .select cs b) (hsj : ∀ cs b, oj.op ≠ .select cs b) {K : Act → World → Prop} {a : Act} {w : World}
    (hy : YieldsE P ops C oi v a) (h : wpOp P ops noQ j K (a.put oi.dst v) w) :
    wpOp P ops noQ j (fun a' w' => YieldsE P ops C oi v a' ∧ K (a'.put oi.dst v) w') a w := by
  obtain ⟨h1, h2, h3⟩ := Oper.apart_spec hap
  have keep : ∀ u, YieldsE P ops C oi v (a.put oj.dst u) := fun u => hy.same (execOp_put oi hsi a oj.dst u h3) (wanted_put oi a oj.dst u h3)
  have fin : ∀ u w', K ((a.put oi.dst v).put oj.dst u) w' → YieldsE P ops C oi v (a.put oj.dst u) ∧ K ((a.put oj.dst u).put oi.dst v) w' := fun u w' hk =>
    ⟨keep u, by rw [← Act.put_comm a v u h2]; exact hk⟩
  unfold wpOp at h ⊢
  simp only [hj] at h ⊢
  rw [wanted_put oj a oi.dst v h1] at h
  by_cases hw : Region.wanted oj (yielded ops a.tmps) = true
  · rw [if_pos hw] at h ⊢
    rcases h with h | ⟨_, _, _, hx⟩
    · refine .inl ?_
      unfold Oper.wp at h ⊢
      rw [execOp_put oj hsj a oi.dst v h1] at h
      generalize (execOp a.eval oj).run P w = r at *
      cases r with
      | ok n w' =>
        cases n <;> simp only [Oper.upon] at h ⊢
        case value u => exact fin u w' h
        case skip => exact fin undef w' h
        case defer d =>
          have hd : ({ a.put oi.dst v with defers := d :: (a.put oi.dst v).defers } : Act) = ({ a with defers := d :: a.defers } : Act).put oi.dst v := Act.put_defers a oi.dst v d
          rw [hd] at h
          refine ⟨?_, by rw [← Act.put_comm _ v undef h2]; exact h⟩
          exact YieldsE.same (a := { a with defers := d :: a.defers }) (hy.same rfl rfl) (execOp_put oi hsi _ oj.dst undef h3) (wanted_put oi _ oj.dst undef h3)
        case enter f args =>
          refine Calls.mono h fun e w'' he => ?_
          cases e with
          | returned u => exact fin u w'' he
          | panicked c => exact he.elim
          | outgrown => obtain ⟨_, _, hx⟩ := he; exact hx.elim
        case row => exact Rows.mono h fun u w'' he => fin u w'' he
      | halt x w' => cases x <;> simp only [Oper.upon] at h ⊢ <;> exact h
    · exact hx.elim
  · rw [if_neg hw] at h ⊢
    exact fin undef w h

def wpAnyC (P : Program) (md : Region.Mode) (ops : Array Oper) (n : Nat) (C : World → Prop) (L : Array Bool → Act → World → Prop) : Nat → Array Bool → Act → World → Prop
  | 0, listed, a, w => C w ∧ L listed a w
  | f + 1, listed, a, w => C w ∧ Region.ready md ops listed ≠ [] ∧ ∀ i ∈ Region.ready md ops listed, i < n ∧ wpOp P ops noQ i (wpAnyC P md ops n C L f (listed.setIfInBounds i true)) a w

theorem wpAnyC_mono {n : Nat} {C C' : World → Prop} {L : Array Bool → Act → World → Prop} (h : ∀ w, C w → C' w) : ∀ (f : Nat) (listed : Array Bool) (a : Act) (w : World), wpAnyC P md ops n C L f listed a w → wpAnyC P md ops n C' L f listed a w
  | 0, _, _, _, hh => ⟨h _ hh.1, hh.2⟩
  | f + 1, _, _, _, hh => ⟨h _ hh.1, hh.2.1, fun i hi => ⟨(hh.2.2 i hi).1, wpOp_mono (fun a w => wpAnyC_mono h f _ a w) (hh.2.2 i hi).2⟩⟩

theorem wpOp_off {i : Nat} {a : Act} {w : World} {K : Act → World → Prop} {Q : Exit → Act → World → Prop} (h : wpOp P ops noQ i K a w) : wpOp P ops Q i K a w := by
  unfold wpOp at *
  cases ho : ops[i]? with
  | none => rw [ho] at h; exact h
  | some o =>
    rw [ho] at h
    simp only at h ⊢
    by_cases hw : Region.wanted o (yielded ops a.tmps) = true
    · rw [if_pos hw] at h ⊢
      rcases h with h | ⟨_, _, _, hx⟩
      · exact .inl (wp_off (fun _ _ _ hx => hx.elim) (fun _ _ hk => hk) h)
      · exact hx.elim
    · rw [if_neg hw] at h ⊢
      exact h

theorem wpAny_of_C {n g : Nat} {C : World → Prop} {L : Array Bool → Act → World → Prop} {Q : Exit → Act → World → Prop} (hL : ∀ listed a w, L listed a w → wpAny P md ops Q g listed a w) :
    ∀ (f : Nat) (listed : Array Bool) (a : Act) (w : World), wpAnyC P md ops n C L f listed a w → wpAny P md ops Q (f + g) listed a w
  | 0, _, _, _, h => by rw [Nat.zero_add]; exact hL _ _ _ h.2
  | f + 1, listed, a, w, h => by
    rw [show f + 1 + g = (f + g) + 1 by omega]
    exact ⟨fun h0 => absurd h0 h.2.1, fun i hi => wpOp_off (wpOp_mono (fun a' w' h' => wpAny_of_C hL f _ a' w' h') (h.2.2 i hi).2)⟩

/-- While a head operation is not listed, none of the tail may come up. -/
def Blocks (md : Region.Mode) (ops : Array Oper) (n : Nat) : Prop := ∀ listed, HeadInv md ops n listed → ∀ i, i < n → listed.getD i true = false → ∀ t ∈ Region.ready md ops listed, t < n

theorem take_first {n i : Nat} {oi : Oper} {v : Value} {C : World → Prop} {L : Array Bool → Act → World → Prop} (hi : ops[i]? = some oi) (hsel : ∀ (j : Nat) (o : Oper) cs b, ops[j]? = some o → o.op ≠ .select cs b)
    (hblk : Blocks md ops n) (hin : i < n) (hdone : ∀ listed a w, L listed a w → ∀ j ∈ Region.ready md ops listed, n ≤ j) :
    ∀ (f : Nat) (listed : Array Bool) (a : Act) (w : World), HeadInv md ops n listed →
      (∀ j oj, ops[j]? = some oj → j ≠ i → listed.getD j true = false → (∀ e ∈ oj.after, Region.binds md e = true → e.on ≠ i) → oi.apart ops oj = true) →
      i ∈ Region.ready md ops listed → YieldsE P ops C oi v a → C w →
      wpAnyC P md ops n C L f (listed.setIfInBounds i true) (a.put oi.dst v) w → wpAnyC P md ops n C L (f + 1) listed a w := by
  intro f
  induction f with
  | zero =>
    intro listed a w inv _ hr hy hw H
    have hun := (mem_ready.1 hr).1
    refine ⟨hw, fun h => (by rw [h] at hr; cases hr), fun j hj => ?_⟩
    have hjn := hblk listed inv i hin hun j hj
    refine ⟨hjn, ?_⟩
    by_cases hji : j = i
    · subst hji
      exact hy.go hi hw H
    · have := hdone _ _ _ H.2 j (ready_mono hj hji)
      omega
  | succ f ih =>
    intro listed a w inv hfree hr hy hw H
    have hun := (mem_ready.1 hr).1
    refine ⟨hw, fun h => (by rw [h] at hr; cases hr), fun j hj => ?_⟩
    have hjn := hblk listed inv i hin hun j hj
    refine ⟨hjn, ?_⟩
    by_cases hji : j = i
    · subst hji
      exact hy.go hi hw H
    · have h1 := (H.2.2 j (ready_mono hj hji)).2
      obtain ⟨hjun, oj, hoj, hall⟩ := mem_ready.1 hj
      have hnot : ∀ e ∈ oj.after, Region.binds md e = true → e.on ≠ i := fun e he hb heq => by
        have h1 := hall e he hb
        rw [heq, getD_both hun] at h1
        cases h1
      have h2 := move_past hoj (hfree j oj hoj hji hjun hnot) (fun cs b => hsel i oi cs b hi) (fun cs b => hsel j oj cs b hoj) hy h1
      have hfree' : ∀ k ok, ops[k]? = some ok → k ≠ i → (listed.setIfInBounds j true).getD k true = false →
          (∀ e ∈ ok.after, Region.binds md e = true → e.on ≠ i) → oi.apart ops ok = true := fun k ok hk hki hun2 hno => by
        refine hfree k ok hk hki ?_ hno
        by_cases hjk : j = k
        · subst hjk; exact hjun
        · rw [getD_set_ne true hjk] at hun2; exact hun2
      refine wpOp_mono (fun a' w' h3 => ?_) h2
      have hcw : C w' := by
        cases f with
        | zero => exact h3.2.1
        | succ f => exact h3.2.1
      refine ih (listed.setIfInBounds j true) a' w' (inv.set hj hjn) hfree' (ready_mono hr (Ne.symm hji)) h3.1 hcw ?_
      rw [Array.setIfInBounds_comm _ _ hji]
      exact h3.2

def stopQ (w : World) (K : Act → World → Prop) : Exit → Act → World → Prop
  | .normal, a', w' => w' = w ∧ K a' w'
  | _, _, _ => False
def stopA (w : World) (K : Act → World → Prop) : Exit → Act → World → Prop
  | .normal, a', w' => Ext w w' ∧ K a' w'
  | _, _, _ => False
theorem stopQ_off {w0 : World} {K : Act → World → Prop} (e : Exit) (a : Act) (w : World) (h : stopQ w0 K e a w) : e = .normal := by
  cases e <;> first | rfl | exact h.elim
theorem stopA_off {w0 : World} {K : Act → World → Prop} (e : Exit) (a : Act) (w : World) (h : stopA w0 K e a w) : e = .normal := by
  cases e <;> first | rfl | exact h.elim

def wpX (P : Program) (ops : Array Oper) (Q : Exit → Act → World → Prop) (tail : List Oper) : List Nat → Act → World → Prop
  | [], a, w => wpList P ops Q tail a w
  | i :: r, a, w => match ops[i]? with
    | none => False
    | some o =>
      if quietKind P o.op = true then (Region.wanted o (yielded ops a.tmps) = true → plainB o a = true) ∧ wpList P ops (stopQ w (wpX P ops Q tail r)) [o] a w
      else wpList P ops (stopA w (wpX P ops Q tail r)) [o] a w

theorem wpX_quiet {Q : Exit → Act → World → Prop} {tail : List Oper} {i : Nat} {r : List Nat} {a : Act} {w : World} {o : Oper} (hi : ops[i]? = some o) (hk : quietKind P o.op = true) (hp : plainB o a = true)
    (h : wpList P ops (stopQ w (wpX P ops Q tail r)) [o] a w) : wpX P ops Q tail (i :: r) a w := by
  simp only [wpX, hi, hk, if_true]
  exact ⟨fun _ => hp, h⟩
theorem wpX_skip {Q : Exit → Act → World → Prop} {tail : List Oper} {i : Nat} {r : List Nat} {a : Act} {w : World} {o : Oper} (hi : ops[i]? = some o) (hw : Region.wanted o (yielded ops a.tmps) = false)
    (h : wpX P ops Q tail r (a.put o.dst undef) w) : wpX P ops Q tail (i :: r) a w := by
  simp only [wpX, hi]
  have h1 : ∀ S : Exit → Act → World → Prop, S .normal (a.put o.dst undef) w → wpList P ops S [o] a w := fun S hS => by
    simp only [wpList, hw, Bool.false_eq_true, if_false]
    exact hS
  split
  · exact ⟨fun hx => absurd hx (by simp [hw]), h1 _ ⟨rfl, h⟩⟩
  · exact h1 _ ⟨Ext.refl _, h⟩
theorem wpX_actor {Q : Exit → Act → World → Prop} {tail : List Oper} {i : Nat} {r : List Nat} {a : Act} {w : World} {o : Oper} (hi : ops[i]? = some o) (hk : quietKind P o.op = false)
    (h : wpList P ops (stopA w (wpX P ops Q tail r)) [o] a w) : wpX P ops Q tail (i :: r) a w := by
  simp only [wpX, hi, hk, Bool.false_eq_true, if_false]
  exact h
theorem wpX_nil {Q : Exit → Act → World → Prop} {tail : List Oper} {a : Act} {w : World} (h : wpList P ops Q tail a w) : wpX P ops Q tail [] a w := h

def headSim (P : Program) (md : Region.Mode) (ops : Array Oper) (n : Nat) : List Nat → Array Bool → Bool
  | [], listed => Region.seqB md ops (ops.size - n) n listed
  | i :: r, listed => decide (i < n) && (match ops[i]? with
      | none => false
      | some o => if quietKind P o.op = true then (Region.ready md ops listed).contains i && Region.free md ops listed i else decide (Region.ready md ops listed = [i])) &&
    headSim P md ops n r (listed.setIfInBounds i true)
def headB (P : Program) (md : Region.Mode) (ops : Array Oper) (n : Nat) (r : List Nat) : Bool :=
  Region.noSelect ops && (decide (n = ops.size) || (decide (n < ops.size) && Region.sinkB md ops n && Region.chainB md ops n)) && decide (r.length = n) && headSim P md ops n r (Array.replicate ops.size false)

theorem wpAnyC_of_X {n : Nat} {Q : Exit → Act → World → Prop} {tail : List Oper} (hsel : ∀ (j : Nat) (o : Oper) cs b, ops[j]? = some o → o.op ≠ .select cs b) (hblk : Blocks md ops n) :
    ∀ (r : List Nat) (listed : Array Bool) (a : Act) (w : World), HeadInv md ops n listed → headSim P md ops n r listed = true → wpX P ops Q tail r a w →
      wpAnyC P md ops n (Ext w) (fun listed' a' w' => Region.seqB md ops (ops.size - n) n listed' = true ∧ wpList P ops Q tail a' w') r.length listed a w
  | [], _, _, w, _, hB, h => ⟨Ext.refl w, hB, h⟩
  | i :: r, listed, a, w, inv, hB, h => by
    simp only [headSim, Bool.and_eq_true, decide_eq_true_eq] at hB
    obtain ⟨⟨hin, hB1⟩, hB2⟩ := hB
    cases ho : ops[i]? with
    | none => rw [ho] at hB1; cases hB1
    | some o =>
      rw [ho] at hB1
      simp only [wpX, ho] at h
      simp only at hB1
      have hdone : ∀ (listed : Array Bool) (a : Act) (w : World), (Region.seqB md ops (ops.size - n) n listed = true ∧ wpList P ops Q tail a w) → ∀ j ∈ Region.ready md ops listed, n ≤ j := fun _ _ _ hx => seqB_ready hx.1
      by_cases hk : quietKind P o.op = true
      · rw [if_pos hk] at hB1 h
        simp only [Bool.and_eq_true] at hB1
        have hr : i ∈ Region.ready md ops listed := by simpa using hB1.1
        obtain ⟨hp, h⟩ := h
        simp only [wpList] at h
        have key : ∃ v, YieldsE P ops (Ext w) o v a ∧ wpX P ops Q tail r (a.put o.dst v) w := by
          by_cases hw : Region.wanted o (yielded ops a.tmps) = true
          · rw [if_pos hw] at h
            rcases h with h | ⟨_, _, _, hx⟩
            · have hst := Stable.op (P := P) (o := o) (a := a) hk (hp hw)
              unfold Oper.wp at h
              cases hrun : (execOp a.eval o).run P w with
              | halt x w' =>
                rw [hrun] at h
                cases x <;> simp only [Oper.upon] at h
                exact h.elim
              | ok nx w' =>
                obtain ⟨rfl, hall⟩ := hst w nx w' hrun
                rw [hrun] at h
                have hval : ∃ v, nx = .value v := by
                  obtain ⟨dst, op, type, pos, after, guard⟩ := o
                  have fromVal : ∀ {s : Sem Value}, (do Pure.pure (Next.value (← s)) : Sem Next).run P w' = .ok nx w' → ∃ v, nx = .value v := fun {s} hs => by
                    rw [Sem.run_bind] at hs
                    cases hs2 : s.run P w' with
                    | halt _ _ => rw [hs2] at hs; cases hs
                    | ok v w2 =>
                      rw [hs2] at hs
                      simp only [Result.andThen, Sem.run_pure, Result.ok.injEq] at hs
                      exact ⟨v, hs.1.symm⟩
                  cases op <;> first | exact absurd hk Bool.false_ne_true | exact fromVal hrun | skip
                  case move x => simp only [execOp, Sem.run_pure, Result.ok.injEq] at hrun; exact ⟨_, hrun.1.symm⟩
                  case assign x => simp only [execOp, Sem.run_pure, Result.ok.injEq] at hrun; exact ⟨_, hrun.1.symm⟩
                  case pick c x y =>
                    simp only [execOp, Sem.run_bind] at hrun
                    cases hs2 : (asBool (a.eval c)).run P w' with
                    | halt _ _ => rw [hs2] at hrun; cases hrun
                    | ok v w2 =>
                      rw [hs2] at hrun
                      simp only [Result.andThen, Sem.run_pure, Result.ok.injEq] at hrun
                      exact ⟨_, hrun.1.symm⟩
                  case nilCheck x =>
                    have hp' := hp hw
                    simp only [plainB] at hp'
                    simp only [execOp] at hrun
                    split at hp'
                    · rename_i ad he
                      rw [he] at hrun
                      simp only [Sem.run_pure, Result.ok.injEq] at hrun
                      exact ⟨_, hrun.1.symm⟩
                    · cases hp'
                  case call c =>
                    obtain ⟨⟨x, t⟩, hc⟩ := Option.isSome_iff_exists.1 (show (lenCall c).isSome = true from hk)
                    have hc' := lenCall_spec hc
                    subst hc'
                    refine fromVal (s := Builtin.len_ #[t] type #[a.eval x]) ?_
                    rw [← hrun]
                    simp only [execOp, resolve, invoke, builtin, Sem.run_bind, Sem.run_pure, Result.andThen_ok, List.map_toArray, List.map_cons, List.map_nil]
                obtain ⟨v, rfl⟩ := hval
                simp only [Oper.upon] at h
                exact ⟨v, .inl ⟨hw, fun w2 hw2 => hall w2 hw2⟩, h.2⟩
            · exact hx.elim
          · rw [if_neg hw] at h
            exact ⟨undef, .inr ⟨by simpa using hw, rfl⟩, h.2⟩
        obtain ⟨v, hy, hX⟩ := key
        exact take_first ho hsel hblk hin hdone r.length listed a w inv (fun j oj hj hne hun hno => Region.free_spec ho hB1.2 j oj hj hne hun hno) hr hy (Ext.refl w)
          (wpAnyC_of_X hsel hblk r _ _ w (inv.set hr hin) hB2 hX)
      · rw [if_neg hk] at hB1 h
        have hready : Region.ready md ops listed = [i] := by simpa using hB1
        have hr : i ∈ Region.ready md ops listed := by rw [hready]; simp
        refine ⟨Ext.refl w, by rw [hready]; simp, fun j hj => ?_⟩
        rw [hready] at hj
        have hji : j = i := by simpa using hj
        subst hji
        refine ⟨hin, ?_⟩
        have step : ∀ a' w', stopA w (wpX P ops Q tail r) .normal a' w' → wpAnyC P md ops n (Ext w) (fun listed' a' w' => Region.seqB md ops (ops.size - n) n listed' = true ∧ wpList P ops Q tail a' w') r.length (listed.setIfInBounds j true) a' w' :=
          fun a' w' hs => wpAnyC_mono (fun w2 h2 => hs.1.trans h2) _ _ _ _ (wpAnyC_of_X hsel hblk r _ a' w' (inv.set hr hin) hB2 hs.2)
        unfold wpOp
        simp only [ho]
        simp only [wpList] at h
        by_cases hw : Region.wanted o (yielded ops a.tmps) = true
        · rw [if_pos hw] at h ⊢
          rcases h with h | ⟨_, _, _, hx⟩
          · exact .inl (wp_off stopA_off step h)
          · exact hx.elim
        · rw [if_neg hw] at h ⊢
          exact step _ _ h

theorem wp_region_x {id : Nat} {Q : Exit → Act → World → Prop} {a : Act} {w : World} {l : List Oper} (n : Nat) (r : List Nat) (hm : P.follows .mixedOrders = true) (hB : headB P .any l.toArray n r = true)
    (h : wpX P l.toArray Q (l.drop n) r a w.drew) : (Code.region id l.toArray true).wp P Q a w := by
  simp only [headB, Bool.and_eq_true, Bool.or_eq_true, decide_eq_true_eq] at hB
  obtain ⟨⟨⟨hsel, hcut⟩, hlen⟩, hsim⟩ := hB
  have hnl : n ≤ l.length := by
    rcases hcut with h1 | h1
    · simp at h1; omega
    · have := h1.1.1; simp at this; omega
  have hblk : Blocks .any l.toArray n := by
    rcases hcut with h1 | h1
    · intro listed _ i _ _ t ht
      obtain ⟨_, o, ho, _⟩ := mem_ready.1 ht
      have := (Array.getElem?_eq_some_iff.1 ho).1
      omega
    · intro listed inv i hin hun t ht
      rcases Nat.lt_or_ge t n with h2 | h2
      · exact h2
      · exact absurd ht (tail_waits h1.1.2 h1.2 h1.1.1 inv _ i rfl hin hun t h2)
  have inv0 : HeadInv .any l.toArray n (Array.replicate l.toArray.size false) :=
    ⟨by simp, fun j oj _ hl => (by rw [getD_replicate_false] at hl; cases hl), fun t _ ht => getD_in (by simpa using ht) (getD_replicate_false _ _)⟩
  have h1 := wpAnyC_of_X (P := P) (Region.noSelect_spec hsel) hblk r _ a w.drew inv0 hsim h
  have hdl : (l.drop n).length = l.toArray.size - n := by simp
  have h2 := wpAny_of_C (Q := Q) (g := l.toArray.size - n) (fun listed' a' w' hx => by
    rw [← hdl]
    refine wpAny_of_seq (l.drop n) n listed' a' w' (fun j => by simp [List.getElem?_drop]) ?_ hx.2
    rw [hdl]
    exact hx.1) r.length _ a w.drew h1
  refine wp_region_any hm ?_
  rw [show l.toArray.size = r.length + (l.toArray.size - n) by simp; omega]
  rw [show r.length + (l.toArray.size - n) = l.toArray.size by simp; omega]
  rw [show r.length + (l.toArray.size - n) = l.toArray.size by simp; omega] at h2
  exact h2
end
end Go.Proofs.YtonaacdefidomaaGreat
namespace Go.Proofs.YtonaacdefidomaaGreat
open Go.RowKit


theorem E_u8 : Elem Tryz.prog 22 5 (.int .u8 0) 1 1 := ⟨Tryz.underlying22, by kernel_rfl, rfl, by decide, by decide⟩

def inB (lo hi x : Int) : Bool := decide (lo ≤ x ∧ x ≤ hi)
theorem inB_true {lo hi x : Int} (h1 : lo ≤ x) (h2 : x ≤ hi) : inB lo hi x = true := by simp [inB, h1, h2]
theorem inB_false {lo hi x : Int} (h : ¬ (lo ≤ x ∧ x ≤ hi)) : inB lo hi x = false := by simp only [inB, decide_eq_false_iff_not]; exact h


set_option maxHeartbeats 400000 in
theorem within_any (x lo hi : Int) (w : World) :
    Calls Tryz.prog 67 #[.int .i64 x, .int .i64 lo, .int .i64 hi] w fun e w' => e = .returned (.bool (inB lo hi x)) ∧ w = w' := by
  by_cases h1 : lo ≤ x
  · go_enter Tryz.func67, Tryz.ntmps67
    go_wp2
    go_ret
    exact ⟨by simp [inB, h1], rfl⟩
  · go_enter Tryz.func67, Tryz.ntmps67
    go_wp2
    go_ret
    exact ⟨ret_eq (by rw [inB_false (by omega)]; rfl), rfl⟩
theorem within_yes (x lo hi : Int) (w : World) (h : lo ≤ x ∧ x ≤ hi) :
    Calls Tryz.prog 67 #[.int .i64 x, .int .i64 lo, .int .i64 hi] w fun e w' => e = .returned (.bool true) ∧ w = w' :=
  (within_any x lo hi w).mono fun _ _ hh => by rw [inB_true h.1 h.2] at hh; exact hh
theorem within_no (x lo hi : Int) (w : World) (h : ¬ (lo ≤ x ∧ x ≤ hi)) :
    Calls Tryz.prog 67 #[.int .i64 x, .int .i64 lo, .int .i64 hi] w fun e w' => e = .returned (.bool false) ∧ w = w' :=
  (within_any x lo hi w).mono fun _ _ hh => by rw [inB_false h] at hh; exact hh

set_option maxHeartbeats 400000 in
theorem l1In_any (x lo hi : Int) (w : World) :
    Calls Tryz.prog 53 #[.int .i64 x, .int .i64 lo, .int .i64 hi] w fun e w' => e = .returned (.bool (inB lo hi x)) ∧ w = w' := by
  by_cases h1 : lo ≤ x
  · go_enter Tryz.func53, Tryz.ntmps53
    go_wp2
    go_ret
    exact ⟨by simp [inB, h1], rfl⟩
  · go_enter Tryz.func53, Tryz.ntmps53
    go_wp2
    go_ret
    exact ⟨ret_eq (by rw [inB_false (by omega)]; rfl), rfl⟩
theorem l1In_yes (x lo hi : Int) (w : World) (h : lo ≤ x ∧ x ≤ hi) :
    Calls Tryz.prog 53 #[.int .i64 x, .int .i64 lo, .int .i64 hi] w fun e w' => e = .returned (.bool true) ∧ w = w' :=
  (l1In_any x lo hi w).mono fun _ _ hh => by rw [inB_true h.1 h.2] at hh; exact hh
theorem l1In_no (x lo hi : Int) (w : World) (h : ¬ (lo ≤ x ∧ x ≤ hi)) :
    Calls Tryz.prog 53 #[.int .i64 x, .int .i64 lo, .int .i64 hi] w fun e w' => e = .returned (.bool false) ∧ w = w' :=
  (l1In_any x lo hi w).mono fun _ _ hh => by rw [inB_false h] at hh; exact hh

def hexD (k : Nat) : UInt8 := [48, 49, 50, 51, 52, 53, 54, 55, 56, 57, 97, 98, 99, 100, 101, 102].getD k 0
def hexL (l : List UInt8) : List UInt8 := l.flatMap fun b => [hexD (b.toNat / 16), hexD (b.toNat % 16)]
theorem hexL_length (l : List UInt8) : (hexL l).length = 2 * l.length := by
  induction l with
  | nil => rfl
  | cons b l ih => simp only [hexL, List.flatMap_cons, List.length_append, List.length_cons, List.length_nil] at *; omega
theorem hexL_snoc (l : List UInt8) (k : Nat) (h : k < l.length) : hexL (l.take (k + 1)) = hexL (l.take k) ++ [hexD (l[k].toNat / 16), hexD (l[k].toNat % 16)] := by
  rw [List.take_succ_eq_append_getElem h]
  simp only [hexL, List.flatMap_append, List.flatMap_cons, List.flatMap_nil, List.append_nil]











































































































end Go.Proofs.YtonaacdefidomaaGreat
namespace Go.Proofs.YtonaacdefidomaaGreat
open Go.RowKit

def varL (n : Nat) : List UInt8 := if n < 128 then [UInt8.ofNat n] else UInt8.ofNat (128 + n % 128) :: varL (n / 128)
termination_by n
decreasing_by omega
theorem varL_lt {n : Nat} (h : n < 128) : varL n = [UInt8.ofNat n] := by rw [varL, if_pos h]
theorem varL_ge {n : Nat} (h : ¬ n < 128) : varL n = UInt8.ofNat (128 + n % 128) :: varL (n / 128) := by rw [varL, if_neg h]
theorem varL_length : ∀ (k n : Nat), n < 128 ^ (k + 1) → (varL n).length ≤ k + 1
  | 0, n, h => by rw [varL_lt (by omega)]; simp
  | k + 1, n, h => by
    by_cases hn : n < 128
    · rw [varL_lt hn]; simp
    · rw [varL_ge hn, List.length_cons]
      have := varL_length k (n / 128) (by rw [Nat.pow_succ] at h; omega)
      omega
theorem varL_length7 {n : Nat} (h : n ≤ 562949953421311) : (varL n).length ≤ 7 := varL_length 6 n (by omega)
def varF (n : Int) : List UInt8 := if 0 ≤ n ∧ n ≤ 562949953421311 then varL n.toNat else []
theorem varF_nat {n : Nat} (h : n ≤ 562949953421311) : varF (n : Int) = varL n := by rw [varF, if_pos (by omega)]; simp
theorem varF_length (n : Int) : (varF n).length ≤ 7 := by
  unfold varF
  split
  · exact varL_length7 (by omega)
  · simp
theorem byte_of {x : Int} {n : Nat} (h : x = (n : Int)) (h2 : n < 256) : Value.int .u8 x = u8v (UInt8.ofNat n) := by
  subst h
  simp only [u8v, UInt8.toNat_ofNat']
  congr 2
  omega

theorem one1 {v : Value} (h : v.oneCell' = true) : ∀ u ∈ #[v].toList, u.oneCell' = true := by
  intro u hu
  simp only [List.mem_singleton] at hu
  rw [hu]
  exact h
theorem own_snoc {w : World} {base : Nat} {e : TypeId} {v : Value} {acc : List UInt8} {x : Int} (h : w.ownsRow base e 1 v (acc.length + 1) (acc.map u8v ++ #[Value.int .u8 x].toList)) (b : UInt8) (hx : x = (b.toNat : Int)) :
    w.ownsRow base e 1 v (acc ++ [b]).length ((acc ++ [b]).map u8v) := by
  subst hx
  rw [List.map_append, List.length_append]
  exact h
theorem ofNat_toNat {n : Nat} (h : n < 256) : (((UInt8.ofNat n).toNat : Nat) : Int) = (n : Int) := by
  rw [UInt8.toNat_ofNat']
  omega

theorem or_128 (a : Nat) (h : a < 128) : bits .or .i64 (a : Int) 128 = ((128 + a : Nat) : Int) := by
  rw [show (128 : Int) = ((128 : Nat) : Int) from rfl, i64_or_nat a 128 (by omega) (by omega)]
  congr 1
  have h1 := Nat.two_pow_add_eq_or_of_lt (i := 7) (b := a) (by omega) 1
  rw [Nat.or_comm]
  simpa using h1.symm




























































































end Go.Proofs.YtonaacdefidomaaGreat
namespace Go.Proofs.YtonaacdefidomaaGreat
open Go.RowKit

def dB (k : Nat) : UInt8 := UInt8.ofNat (48 + k)
theorem dB_toNat {k : Nat} (h : k < 10) : (dB k).toNat = 48 + k := by
  unfold dB
  rw [UInt8.toNat_ofNat']
  omega
def decN (m : Nat) : List UInt8 := if m = 0 then [] else decN (m / 10) ++ [dB (m % 10)]
termination_by m
decreasing_by omega
theorem decN_zero : decN 0 = [] := by rw [decN]; rfl
theorem decN_pos {m : Nat} (h : 0 < m) : decN m = decN (m / 10) ++ [dB (m % 10)] := by rw [decN, if_neg (by omega)]
theorem decN_length : ∀ (k m : Nat), m < 10 ^ k → (decN m).length ≤ k
  | 0, m, h => by
    have : m = 0 := by simpa using h
    rw [this, decN_zero]; simp
  | k + 1, m, h => by
    rcases Nat.eq_zero_or_pos m with rfl | hp
    · rw [decN_zero]; simp
    · rw [decN_pos hp, List.length_append]
      have := decN_length k (m / 10) (by rw [Nat.pow_succ] at h; omega)
      simp only [List.length_cons, List.length_nil]
      omega
theorem decN_19 {m : Nat} (h : m ≤ 9223372036854775808) : (decN m).length ≤ 19 := decN_length 19 m (by omega)
def decL (n : Int) : List UInt8 := if n = 0 then [48] else if n < 0 then 45 :: decN n.natAbs else decN n.natAbs
theorem decL_zero : decL 0 = [48] := rfl
theorem decL_pos {m : Nat} (h : 0 < m) : decL (m : Int) = decN m := by rw [decL, if_neg (by omega), if_neg (by omega)]; rfl
theorem decL_neg {m : Nat} (h : 0 < m) : decL (-(m : Int)) = 45 :: decN m := by rw [decL, if_neg (by omega), if_pos (by omega), Int.natAbs_neg]; rfl
theorem decL_length {n : Int} (h : i64ok n) : (decL n).length ≤ 20 := by
  unfold decL
  obtain ⟨h1, h2⟩ := h
  have := decN_19 (m := n.natAbs) (by omega)
  split
  · simp
  · split
    · simp only [List.length_cons]; omega
    · omega
theorem tmod_neg (m : Nat) : Int.tmod (-(m : Int)) 10 = -((m % 10 : Nat) : Int) := by rw [Int.neg_tmod]; rfl
theorem tdiv_neg (m : Nat) : Int.tdiv (-(m : Int)) 10 = -((m / 10 : Nat) : Int) := by rw [Int.neg_tdiv]; rfl
/-- the row after the first i swaps of L -/
def Swapped (L X : List UInt8) (i : Nat) : Prop := X.length = L.length ∧ ∀ k, k < L.length → X.getD k 0 = if k < i ∨ L.length - i ≤ k then L.getD (L.length - 1 - k) 0 else L.getD k 0
theorem Swapped.start (L : List UInt8) : Swapped L L 0 := ⟨rfl, fun k hk => by rw [if_neg (by omega)]⟩
theorem getD_set (l : List UInt8) (i k : Nat) (v : UInt8) (hi : i < l.length) : (l.set i v).getD k 0 = if k = i then v else l.getD k 0 := by
  rw [List.getD_eq_getElem?_getD, List.getD_eq_getElem?_getD, List.getElem?_set]
  by_cases h : i = k
  · subst h
    simp [hi]
  · rw [if_neg h, if_neg (by omega)]
theorem Swapped.step {L X : List UInt8} {i : Nat} (h : Swapped L X i) (hi : i + 1 < L.length - i) : Swapped L ((X.set i (X.getD (L.length - 1 - i) 0)).set (L.length - 1 - i) (X.getD i 0)) (i + 1) := by
  obtain ⟨h1, h2⟩ := h
  refine ⟨by simp [h1], fun k hk => ?_⟩
  rw [getD_set _ _ _ _ (by rw [List.length_set, h1]; omega), getD_set _ _ _ _ (by rw [h1]; omega)]
  by_cases hk1 : k = L.length - 1 - i
  · rw [if_pos hk1, h2 i (by omega), if_neg (by omega), if_pos (by omega)]
    congr 1
    omega
  · rw [if_neg hk1]
    by_cases hk2 : k = i
    · rw [if_pos hk2, h2 _ (by omega), if_neg (by omega), if_pos (by omega)]
      congr 1
      omega
    · rw [if_neg hk2, h2 k hk]
      by_cases hk3 : k < i ∨ L.length - i ≤ k
      · rw [if_pos hk3, if_pos (by omega)]
      · rw [if_neg hk3, if_neg (by omega)]
theorem Swapped.done {L X : List UInt8} {i : Nat} (h : Swapped L X i) (hi : L.length ≤ i + i + 1) : X = L.reverse := by
  obtain ⟨h1, h2⟩ := h
  refine List.ext_getElem (by simp [h1]) fun k hk hk' => ?_
  have hkL : k < L.length := by omega
  have e1 : X.getD k 0 = X[k] := by rw [List.getD_eq_getElem?_getD, List.getElem?_eq_getElem hk]; rfl
  have e2 : L.getD (L.length - 1 - k) 0 = L[L.length - 1 - k] := by rw [List.getD_eq_getElem?_getD, List.getElem?_eq_getElem (by omega)]; rfl
  rw [← e1, h2 k hkL, List.getElem_reverse, ← e2]
  split
  · rfl
  · congr 1
    omega
theorem set_u8v (X : List UInt8) (i : Nat) (b : UInt8) : (X.map u8v).set i (u8v b) = (X.set i b).map u8v := by rw [List.map_set]
theorem own_lit1' {w : World} {e : TypeId} {x : Int} (b : UInt8) (hx : x = (b.toNat : Int)) : (w.alloc (.cells #[.int .u8 x] e)).ownsRow 0 e 1 (.slice (some ⟨w.heap.size, 0, none⟩) 1 1) 1 ([b].map u8v) := by
  subst hx
  exact World.ownsRow_lit w #[u8v b] 1 (Nat.zero_le _) (by simp [maxLen]) rfl
theorem own_form' {w : World} {base : Nat} {e : TypeId} {size : Nat} {v : Value} {n : Nat} {xs : List Value} (h : w.ownsRow base e size v n xs) (hn : 0 < n) : ∃ g c, v = .slice (some ⟨g, 0, none⟩) n c ∧ base ≤ g ∧ g < w.heap.size := by
  rcases h.2 with ⟨_, h0⟩ | ⟨g, cap, cur, hv, hb, hg, _⟩
  · omega
  · exact ⟨g, cap, hv, hb, (Array.getElem?_eq_some_iff.1 hg).1⟩
attribute [local irreducible] decL dB





























































































































































































































































































end Go.Proofs.YtonaacdefidomaaGreat
namespace Go.Proofs.YtonaacdefidomaaGreat
open Go.RowKit

def leN : List UInt8 → Nat
  | [] => 0
  | b :: l => b.toNat % 128 + 128 * leN l
theorem leN_lt : ∀ l : List UInt8, leN l < 128 ^ l.length
  | [] => by simp [leN]
  | b :: l => by
    have := leN_lt l
    rw [leN, List.length_cons, Nat.pow_succ]
    omega
theorem leN_snoc : ∀ (l : List UInt8) (b : UInt8), leN (l ++ [b]) = leN l + b.toNat % 128 * 128 ^ l.length
  | [], b => by simp [leN]
  | c :: l, b => by
    rw [List.cons_append, leN, leN, leN_snoc l b, List.length_cons, Nat.pow_succ]
    have e : b.toNat % 128 * (128 ^ l.length * 128) = 128 * (b.toNat % 128 * 128 ^ l.length) := by
      rw [← Nat.mul_assoc, Nat.mul_comm]
    rw [e]
    omega
theorem leN_take (l : List UInt8) (i : Nat) (h : i < l.length) : leN (l.take (i + 1)) = leN (l.take i) + l[i].toNat % 128 * 128 ^ i := by
  rw [List.take_succ_eq_append_getElem h, leN_snoc, List.length_take, Nat.min_eq_left (by omega)]
def rvHit (l : List UInt8) (k : Nat) : Bool := decide (varF (leN (l.take k)) = l.take k)
def rvFrom (l : List UInt8) : Nat → Nat → Nat × Nat
  | 0, _ => (0, 0)
  | f + 1, k => if k ≤ l.length then (if rvHit l k then (leN (l.take k), k) else rvFrom l f (k + 1)) else (0, 0)
def readVarF (l : List UInt8) : Nat × Nat := rvFrom l 7 1
/-- all bytes but the last are high, the last is low -/
def VShape (l : List UInt8) : Prop := ∃ xs b, l = xs ++ [b] ∧ (∀ c ∈ xs, 128 ≤ c.toNat) ∧ b.toNat < 128
theorem varL_shape (n : Nat) : VShape (varL n) := by
  induction n using Nat.strongRecOn with
  | _ n ih =>
    by_cases h : n < 128
    · rw [varL_lt h]
      exact ⟨[], _, rfl, by simp, by rw [UInt8.toNat_ofNat']; omega⟩
    · rw [varL_ge h]
      obtain ⟨xs, b, he, h1, h2⟩ := ih (n / 128) (by omega)
      refine ⟨UInt8.ofNat (128 + n % 128) :: xs, b, by rw [he]; rfl, ?_, h2⟩
      intro c hc
      rcases List.mem_cons.1 hc with rfl | hc
      · rw [UInt8.toNat_ofNat']; omega
      · exact h1 c hc
theorem rvHit_shape {l : List UInt8} {k : Nat} (hk : 1 ≤ k) (hl : k ≤ l.length) (h : rvHit l k = true) : VShape (l.take k) := by
  have he : varF (leN (l.take k)) = l.take k := of_decide_eq_true h
  unfold varF at he
  split at he
  · rw [← he]; exact varL_shape _
  · have : (l.take k).length = 0 := by rw [← he]; rfl
    rw [List.length_take] at this
    omega
theorem shape_at {l : List UInt8} {k j : Nat} (hl : k ≤ l.length) (h : VShape (l.take k)) (hj : j < k) : (l[j]'(by omega)).toNat < 128 ↔ j + 1 = k := by
  obtain ⟨xs, b, he, h1, h2⟩ := h
  have hlen : xs.length + 1 = k := by
    have := congrArg List.length he
    simp only [List.length_take, List.length_append, List.length_singleton] at this
    omega
  have hget : (xs ++ [b])[j]? = some (l[j]'(by omega)) := by
    rw [← he, List.getElem?_take_of_lt hj, List.getElem?_eq_getElem (by omega)]
  by_cases hjx : j < xs.length
  · rw [List.getElem?_append_left hjx, List.getElem?_eq_getElem hjx] at hget
    injection hget with hget
    have := h1 xs[j] (List.getElem_mem _)
    rw [← hget]
    constructor
    · intro h; omega
    · intro h; omega
  · have hj2 : j = xs.length := by omega
    subst hj2
    rw [List.getElem?_append_right (Nat.le_refl _)] at hget
    simp at hget
    rw [← hget]
    constructor
    · intro _; omega
    · intro _; exact h2
theorem rvFrom_skip {l : List UInt8} : ∀ (f k : Nat), 1 ≤ k → (∃ (j : Nat) (h : j < l.length), j + 1 < k ∧ l[j].toNat < 128) → rvFrom l f k = (0, 0)
  | 0, _, _, _ => rfl
  | f + 1, k, hk, hx => by
    obtain ⟨j, hj, hjk, hlow⟩ := hx
    rw [rvFrom]
    split
    · rename_i hkl
      rw [if_neg (fun hh => ?_)]
      · exact rvFrom_skip f (k + 1) (by omega) ⟨j, hj, by omega, hlow⟩
      · have := (shape_at hkl (rvHit_shape hk hkl hh) (show j < k by omega)).1 hlow
        omega
    · rfl
/-- the state of the search behind i high bytes -/
theorem rv_high {l : List UInt8} (i : Nat) (hi : i < 7) (h : ∀ (j : Nat) (hj : j < l.length), j < i → 128 ≤ l[j].toNat) (hil : i ≤ l.length) : readVarF l = rvFrom l (7 - i) (i + 1) := by
  induction i with
  | zero => rfl
  | succ i ih =>
    rw [ih (by omega) (fun j hj hji => h j hj (by omega)) (by omega)]
    rw [show 7 - i = (7 - (i + 1)) + 1 by omega, rvFrom, if_pos (by omega), if_neg]
    intro hh
    have := (shape_at (by omega) (rvHit_shape (by omega) (by omega) hh) (show i < i + 1 by omega)).2 rfl
    have := h i (by omega) (by omega)
    omega
theorem rv_short {l : List UInt8} (i : Nat) (hi : i ≤ 7) (h : ∀ (j : Nat) (hj : j < l.length), j < i → 128 ≤ l[j].toNat) (hil : i = l.length ∨ i = 7) (hil2 : i ≤ l.length) : readVarF l = (0, 0) := by
  by_cases h7 : i = 7
  · subst h7
    rw [rv_high 6 (by omega) (fun j hj hji => h j hj (by omega)) (by omega), rvFrom, if_pos (by omega), if_neg]
    · rfl
    · intro hh
      have := (shape_at (by omega) (rvHit_shape (by omega) (by omega) hh) (show 6 < 7 by omega)).2 rfl
      have := h 6 (by omega) (by omega)
      omega
  · rw [rv_high i (by omega) h (by omega), show 7 - i = (6 - i) + 1 by omega, rvFrom, if_neg (by omega)]
theorem rv_low {l : List UInt8} (i : Nat) (hi : i < 7) (hil : i < l.length) (h : ∀ (j : Nat) (hj : j < l.length), j < i → 128 ≤ l[j].toNat) (hlow : l[i].toNat < 128) :
    readVarF l = if rvHit l (i + 1) then (leN (l.take (i + 1)), i + 1) else (0, 0) := by
  rw [rv_high i hi h (by omega), show 7 - i = (6 - i) + 1 by omega, rvFrom, if_pos (by omega)]
  split
  · rfl
  · exact rvFrom_skip _ _ (by omega) ⟨i, hil, by omega, hlow⟩
theorem readVarF_le (l : List UInt8) : (readVarF l).2 ≤ 7 ∧ (readVarF l).2 ≤ l.length ∧ (readVarF l).1 ≤ 562949953421311 := by
  have : ∀ f k, f + k ≤ 8 → (rvFrom l f k).2 ≤ 7 ∧ (rvFrom l f k).2 ≤ l.length ∧ (rvFrom l f k).1 ≤ 562949953421311 := by
    intro f
    induction f with
    | zero => intro k _; exact ⟨by simp [rvFrom], by simp [rvFrom], by simp [rvFrom]⟩
    | succ f ih =>
      intro k hk
      rw [rvFrom]
      split
      · split
        · have h1 := leN_lt (l.take k)
          have h2 : 128 ^ (l.take k).length ≤ 128 ^ 7 := Nat.pow_le_pow_right (by omega) (by rw [List.length_take]; omega)
          have h3 : (128 : Nat) ^ 7 = 562949953421312 := by decide
          exact ⟨by show k ≤ 7; omega, by assumption, by show leN _ ≤ _; omega⟩
        · exact ih (k + 1) (by omega)
      · exact ⟨by simp, by simp, by simp⟩
  exact this 7 1 (by omega)
theorem u8_and127 (b : Nat) (hb : b < 256) : bits .and .u8 (b : Int) 127 = ((b % 128 : Nat) : Int) := by
  show IntKind.u8.wrap ((BitVec.ofInt 8 (b : Int) &&& BitVec.ofInt 8 127).toNat : Int) = _
  have e1 : (BitVec.ofInt 8 (b : Int)).toNat = b := by rw [BitVec.ofInt_natCast, BitVec.toNat_ofNat]; exact Nat.mod_eq_of_lt (by omega)
  have e2 : (BitVec.ofInt 8 (127 : Int)).toNat = 127 := rfl
  rw [BitVec.toNat_and, e1, e2, Nat.and_two_pow_sub_one_eq_mod b 7, IntKind.wrap_u8]
  omega
theorem pow_128 (k : Nat) : (2 : Nat) ^ (7 * k) = 128 ^ k := by rw [Nat.pow_mul]
theorem rv_step (q b k : Nat) (hq : q < 128 ^ k) (hb : b < 256) (hk : k < 7) :
    bits .or .i64 (q : Int) (wrap64 (wrap64 (bits .and .u8 (b : Int) 127) * 2 ^ (7 * k))) = ((q + b % 128 * 128 ^ k : Nat) : Int) := by
  have h3 : 128 ^ k ≤ 128 ^ 6 := Nat.pow_le_pow_right (by omega) (by omega)
  have h4 : (128 : Nat) ^ 6 = 4398046511104 := by decide
  have h5 : b % 128 * 128 ^ k ≤ 127 * 4398046511104 := Nat.mul_le_mul (by omega) (by omega)
  have hp : (2 : Int) ^ (7 * k) = ((128 ^ k : Nat) : Int) := by
    rw [← pow_128, Int.natCast_pow]; rfl
  rw [u8_and127 b hb, IntWalk.wrap64_in ((b % 128 : Nat) : Int) (by omega), hp, ← Int.natCast_mul, IntWalk.wrap64_in _ (by omega)]
  rw [i64_or_nat q _ (by omega) (by omega)]
  congr 1
  have h1 := Nat.two_pow_add_eq_or_of_lt (i := 7 * k) (b := q) (by rw [pow_128]; exact hq) (b % 128)
  rw [pow_128, Nat.mul_comm (128 ^ k)] at h1
  rw [Nat.or_comm, ← h1, Nat.add_comm]














































































































































































































end Go.Proofs.YtonaacdefidomaaGreat
namespace Go.Proofs.YtonaacdefidomaaGreat
open Go.RowKit

def fixedL : Nat → Nat → List UInt8
  | 0, _ => []
  | k + 1, n => fixedL k (n / 256) ++ [UInt8.ofNat (n % 256)]
theorem fixedL_length : ∀ (k n : Nat), (fixedL k n).length = k
  | 0, _ => rfl
  | k + 1, n => by simp [fixedL, fixedL_length k]
theorem fixedL_top : ∀ (k n : Nat), fixedL (k + 1) (n % 256 ^ (k + 1)) = UInt8.ofNat (n / 256 ^ k % 256) :: fixedL k (n % 256 ^ k) := by
  intro k
  induction k with
  | zero => intro n; simp [fixedL]
  | succ k ih =>
    intro n
    rw [fixedL]
    have a1 : n % 256 ^ (k + 1 + 1) / 256 = (n / 256) % 256 ^ (k + 1) := by
      rw [Nat.pow_succ 256 (k+1), Nat.mul_comm, Nat.mod_mul_right_div_self]
    have a2 : n % 256 ^ (k + 1 + 1) % 256 = n % 256 := by
      rw [Nat.pow_succ 256 (k+1), Nat.mod_mul_left_mod]
    have a3 : n % 256 ^ (k + 1) / 256 = (n / 256) % 256 ^ k := by
      rw [Nat.pow_succ, Nat.mul_comm, Nat.mod_mul_right_div_self]
    have a4 : n % 256 ^ (k + 1) % 256 = n % 256 := by
      rw [Nat.pow_succ, Nat.mod_mul_left_mod]
    rw [a1, a2, ih (n / 256), List.cons_append]
    congr 1
    · rw [Nat.div_div_eq_div_mul, Nat.pow_succ, Nat.mul_comm]
    · rw [fixedL, a3, a4]
theorem fixed_step (j width n : Nat) (h : j + 1 ≤ width) :
    (List.map u8v (List.replicate (j + 1) 0 ++ fixedL (width - (j + 1)) (n % 256 ^ (width - (j + 1))))).set j (.int .u8 ((((n / 256 ^ (width - (j + 1))) % 256 : Nat) : Int))) =
      List.map u8v (List.replicate j 0 ++ fixedL (width - j) (n % 256 ^ (width - j))) := by
  obtain ⟨k, hk⟩ : ∃ k, width = j + 1 + k := ⟨width - (j + 1), by omega⟩
  subst hk
  have e1 : j + 1 + k - (j + 1) = k := by omega
  have e2 : j + 1 + k - j = k + 1 := by omega
  rw [e1, e2, fixedL_top k n]
  rw [List.replicate_succ', List.append_assoc, List.map_append, List.map_append]
  rw [List.set_append_right _ _ (by simp)]
  simp only [List.length_map, List.length_replicate, Nat.sub_self, List.singleton_append, List.map_cons, List.set_cons_zero]
  congr 2
  simp [u8v]
def fixedF (n width : Int) : List UInt8 := if 1 ≤ width ∧ width ≤ 7 ∧ 0 ≤ n ∧ n < 256 ^ width.toNat then fixedL width.toNat n.toNat else []
theorem cast_256 (k : Nat) : ((256 ^ k : Nat) : Int) = (256 : Int) ^ k := Int.natCast_pow 256 k
theorem fixedF_nat {n width : Nat} (h1 : 1 ≤ width) (h2 : width ≤ 7) (h3 : n < 256 ^ width) : fixedF (n : Int) (width : Int) = fixedL width n := by
  have : (n : Int) < 256 ^ width := by rw [← cast_256]; exact Int.ofNat_lt.2 h3
  rw [fixedF, if_pos ⟨by omega, by omega, by omega, by rw [Int.toNat_natCast]; exact this⟩]
  rw [Int.toNat_natCast, Int.toNat_natCast]
theorem fixedF_big {n width : Nat} (h3 : ¬ n < 256 ^ width) : fixedF (n : Int) (width : Int) = [] := by
  have : ¬ ((n : Int) < 256 ^ width) := by rw [← cast_256]; intro h; exact h3 (Int.ofNat_lt.1 h)
  rw [fixedF, if_neg (fun h => this (by have := h.2.2.2; rw [Int.toNat_natCast] at this; exact this))]
theorem pow_le_56 (width : Nat) (h2 : width ≤ 7) : (2:Int)^(8*width) ≤ 72057594037927936 ∧ 1 ≤ (2:Int)^(8*width) := by
  have : width = 0 ∨ width = 1 ∨ width = 2 ∨ width = 3 ∨ width = 4 ∨ width = 5 ∨ width = 6 ∨ width = 7 := by omega
  rcases this with rfl|rfl|rfl|rfl|rfl|rfl|rfl|rfl <;> decide
theorem wrap_pow (width : Nat) (h2 : width ≤ 7) : wrap64 (2^(8*width)) = 2^(8*width) :=
  IntWalk.wrap64_in _ (by have := pow_le_56 width h2; omega)
theorem pow_256 (width : Nat) : ((256 ^ width : Nat) : Int) = 2^(8*width) := by
  rw [Int.pow_mul]; simp






























































































































































attribute [irreducible] fixedF
end Go.Proofs.YtonaacdefidomaaGreat
namespace Go.Proofs.YtonaacdefidomaaGreat
open Go.RowKit

def crcStep (c : Nat) : Nat := if c % 2 = 1 then (c / 2) ^^^ 2197175160 else c / 2
def crcIter : Nat → Nat → Nat
  | 0, c => c
  | k + 1, c => crcStep (crcIter k c)
def crcByte (c : Nat) (b : UInt8) : Nat := crcIter 8 (c ^^^ b.toNat)
def crcFold (l : List UInt8) : Nat := l.foldl crcByte 4294967295
def crcL (l : List UInt8) : Nat := 4294967295 - crcFold l
theorem crcStep_lt {c : Nat} (h : c < 4294967296) : crcStep c < 4294967296 := by
  unfold crcStep
  split
  · exact Nat.xor_lt_two_pow (n := 32) (by omega) (by omega)
  · omega
theorem crcIter_lt {c : Nat} (h : c < 4294967296) : ∀ k, crcIter k c < 4294967296
  | 0 => h
  | k + 1 => crcStep_lt (crcIter_lt h k)
theorem crcByte_lt {c : Nat} {b : UInt8} (h : c < 4294967296) : crcByte c b < 4294967296 :=
  crcIter_lt (Nat.xor_lt_two_pow (n := 32) (by omega) (by have := b.toNat_lt; omega)) 8
theorem crcFold_lt (l : List UInt8) : crcFold l < 4294967296 := by
  have : ∀ (l : List UInt8) (c : Nat), c < 4294967296 → l.foldl crcByte c < 4294967296 := by
    intro l
    induction l with
    | nil => intro c h; exact h
    | cons b l ih => intro c h; exact ih _ (crcByte_lt h)
  exact this l _ (by omega)
theorem crcL_lt (l : List UInt8) : crcL l ≤ 4294967295 := by unfold crcL; omega
theorem crcFold_snoc (l : List UInt8) (k : Nat) (h : k < l.length) : crcFold (l.take (k + 1)) = crcIter 8 (crcFold (l.take k) ^^^ l[k].toNat) := by
  rw [List.take_succ_eq_append_getElem h, crcFold, List.foldl_append]
  rfl
theorem xor_byte (c : Nat) (b : UInt8) (h : c < 4294967296) : bits .xor .i64 (c : Int) (b.toNat : Int) = ((c ^^^ b.toNat : Nat) : Int) :=
  i64_xor_nat c b.toNat (by omega) (by have := b.toNat_lt; omega)
theorem xor_poly (c : Nat) (h : c < 4294967296) : bits .xor .i64 (c : Int) 2197175160 = ((c ^^^ 2197175160 : Nat) : Int) :=
  i64_xor_nat c 2197175160 (by omega) (by omega)
theorem and_1 (c : Nat) (h : c < 4294967296) : bits .and .i64 (c : Int) 1 = ((c % 2 : Nat) : Int) := by
  have := i64_and_nat c 1 (by omega) (by omega)
  rw [Nat.and_one_is_mod] at this
  exact this






























































































































end Go.Proofs.YtonaacdefidomaaGreat
namespace Go.Proofs.YtonaacdefidomaaGreat
open Go.RowKit

def sizedL (l : List UInt8) : List UInt8 := varF (l.length : Int) ++ l
theorem sizedL_length (l : List UInt8) : (sizedL l).length ≤ l.length + 7 := by
  unfold sizedL
  have := varF_length (l.length : Int)
  rw [List.length_append]
  omega
def frameL (l : List UInt8) : List UInt8 := if l.length ≤ 200 then fixedL 4 (crcL (sizedL l)) ++ sizedL l else []
theorem crc_fixed (l : List UInt8) : fixedF ((crcL l : Nat) : Int) 4 = fixedL 4 (crcL l) := by
  have h1 := crcL_lt l
  have h2 : (256 : Nat) ^ 4 = 4294967296 := by decide
  exact fixedF_nat (width := 4) (by omega) (by omega) (by omega)
theorem frameL_length {l : List UInt8} (h : l.length ≤ 200) : (frameL l).length = 4 + (varF (l.length : Int)).length + l.length := by
  rw [frameL, if_pos h, List.length_append, fixedL_length, sizedL, List.length_append]
  omega
theorem frameL_le (l : List UInt8) : (frameL l).length ≤ 211 := by
  by_cases h : l.length ≤ 200
  · have := varF_length (l.length : Int)
    rw [frameL_length h]
    omega
  · rw [frameL, if_neg h]; simp




























































































/-! ### the scanner -/
def scanNum (rest : List UInt8) (bad : Bool) : Nat × List UInt8 × Bool :=
  if bad = true ∨ (readVarF rest).2 = 0 then (0, rest, true) else ((readVarF rest).1, rest.drop (readVarF rest).2, false)
def scanCut (rest : List UInt8) (bad : Bool) (n : Int) : List UInt8 × List UInt8 × Bool :=
  if bad = true ∨ ¬ (0 ≤ n ∧ n ≤ rest.length) then ([], rest, true) else (rest.take n.toNat, rest.drop n.toNat, false)
theorem only_of_below {a w : World} (h : Below a.heap.size a w) (row : Option Nat) : a.grownBy w row := ⟨h.os, h.tape, h.output, h.size, fun i hi _ => h.block i hi⟩
























































































end Go.Proofs.YtonaacdefidomaaGreat
namespace Go.Proofs.YtonaacdefidomaaGreat
open Go.RowKit

theorem scanNum_len (rest : List UInt8) (bad : Bool) : (scanNum rest bad).2.1.length ≤ rest.length ∧ (scanNum rest bad).1 ≤ 562949953421311 := by
  unfold scanNum
  split
  · exact ⟨Nat.le_refl _, by simp⟩
  · exact ⟨by simp, (readVarF_le rest).2.2⟩
def scanText (rest : List UInt8) (bad : Bool) : List UInt8 × List UInt8 × Bool := scanCut (scanNum rest bad).2.1 (scanNum rest bad).2.2 ((scanNum rest bad).1 : Int)
theorem scanCut_len (rest : List UInt8) (bad : Bool) (n : Int) : (scanCut rest bad n).2.1.length ≤ rest.length ∧ (scanCut rest bad n).1.length ≤ rest.length := by
  unfold scanCut
  split
  · exact ⟨Nat.le_refl _, by simp⟩
  · exact ⟨by simp, by simp [List.length_take]; omega⟩
theorem scanText_len (rest : List UInt8) (bad : Bool) : (scanText rest bad).2.1.length ≤ rest.length ∧ (scanText rest bad).1.length ≤ rest.length := by
  have h1 := scanNum_len rest bad
  have h2 := scanCut_len (scanNum rest bad).2.1 (scanNum rest bad).2.2 ((scanNum rest bad).1 : Int)
  exact ⟨Nat.le_trans h2.1 h1.1, Nat.le_trans h2.2 h1.1⟩


































































def l4V (s : List UInt8) : Nat → Int → List Nat × Int
  | 0, at_ => ([], at_)
  | n + 1, at_ => if at_ < 0 ∨ at_ > s.length then ([], -1) else
      if (readVarF (s.drop at_.toNat)).2 = 0 then ([], -1) else
        ((readVarF (s.drop at_.toNat)).1 :: (l4V s n (at_ + (readVarF (s.drop at_.toNat)).2)).1, (l4V s n (at_ + (readVarF (s.drop at_.toNat)).2)).2)
theorem l4V_bad (s : List UInt8) (n : Nat) (at_ : Int) (h : at_ < 0 ∨ at_ > s.length) : l4V s (n + 1) at_ = ([], -1) := by rw [l4V, if_pos h]
theorem l4V_zero (s : List UInt8) (n : Nat) (at_ : Int) (h : ¬ (at_ < 0 ∨ at_ > s.length)) (h2 : (readVarF (s.drop at_.toNat)).2 = 0) : l4V s (n + 1) at_ = ([], -1) := by rw [l4V, if_neg h, if_pos h2]
theorem l4V_next (s : List UInt8) (n : Nat) (at_ : Int) (h : ¬ (at_ < 0 ∨ at_ > s.length)) (h2 : ¬ (readVarF (s.drop at_.toNat)).2 = 0) :
    l4V s (n + 1) at_ = ((readVarF (s.drop at_.toNat)).1 :: (l4V s n (at_ + (readVarF (s.drop at_.toNat)).2)).1, (l4V s n (at_ + (readVarF (s.drop at_.toNat)).2)).2) := by
  rw [l4V, if_neg h, if_neg h2]
def natv (n : Nat) : Value := .int .i64 (n : Int)
theorem own_snocN {w : World} {base : Nat} {e : TypeId} {v : Value} {acc : List Nat} {x : Int} (h : w.ownsRow base e 1 v (acc.length + 1) (acc.map natv ++ #[Value.int .i64 x].toList)) (b : Nat) (hx : x = (b : Int)) :
    w.ownsRow base e 1 v (acc ++ [b]).length ((acc ++ [b]).map natv) := by
  subst hx
  rw [List.map_append, List.length_append]
  exact h
theorem readVarF_drop (s : List UInt8) (a : Nat) (h : a ≤ s.length) : a + (readVarF (s.drop a)).2 ≤ s.length := by
  have := (readVarF_le (s.drop a)).2.1
  rw [List.length_drop] at this
  omega
theorem l4V_range (s : List UInt8) : ∀ (n : Nat) (at_ : Int), -1 ≤ at_ → (at_ ≤ s.length ∨ 0 < n) → -1 ≤ (l4V s n at_).2 ∧ ((l4V s n at_).2 ≤ s.length)
  | 0, at_, h1, h2 => ⟨h1, by rw [l4V]; omega⟩
  | n + 1, at_, h1, h2 => by
    by_cases h : at_ < 0 ∨ at_ > s.length
    · rw [l4V_bad s n at_ h]; exact ⟨Int.le_refl _, by show (-1 : Int) ≤ _; omega⟩
    · by_cases h0 : (readVarF (s.drop at_.toNat)).2 = 0
      · rw [l4V_zero s n at_ h h0]; exact ⟨Int.le_refl _, by show (-1 : Int) ≤ _; omega⟩
      · rw [l4V_next s n at_ h h0]
        have := readVarF_drop s at_.toNat (by omega)
        exact l4V_range s n _ (by omega) (Or.inl (by omega))
theorem l4V_len (s : List UInt8) : ∀ (n : Nat) (at_ : Int), (l4V s n at_).1.length ≤ n ∧ (0 ≤ (l4V s n at_).2 → (l4V s n at_).1.length = n) ∧ ∀ x ∈ (l4V s n at_).1, x ≤ 562949953421311
  | 0, at_ => ⟨by simp [l4V], by simp [l4V], by simp [l4V]⟩
  | n + 1, at_ => by
    by_cases h : at_ < 0 ∨ at_ > s.length
    · rw [l4V_bad s n at_ h]; exact ⟨by simp, by intro h; simp at h, by simp⟩
    · by_cases h0 : (readVarF (s.drop at_.toNat)).2 = 0
      · rw [l4V_zero s n at_ h h0]; exact ⟨by simp, by intro h; simp at h, by simp⟩
      · rw [l4V_next s n at_ h h0]
        obtain ⟨a, b, c⟩ := l4V_len s n (at_ + (readVarF (s.drop at_.toNat)).2)
        refine ⟨by simp only [List.length_cons]; omega, fun hx => by simp only [List.length_cons]; have := b hx; omega, ?_⟩
        intro x hx
        rcases List.mem_cons.1 hx with rfl | hx
        · exact (readVarF_le _).2.2
        · exact c x hx
































































































end Go.Proofs.YtonaacdefidomaaGreat
namespace Go.Proofs.YtonaacdefidomaaGreat
open Go.RowKit

theorem readVarF_hit (l : List UInt8) (h : ¬ (readVarF l).2 = 0) : varF ((readVarF l).1 : Int) = l.take (readVarF l).2 := by
  have : ∀ f k, ¬ (rvFrom l f k).2 = 0 → varF ((rvFrom l f k).1 : Int) = l.take (rvFrom l f k).2 := by
    intro f
    induction f with
    | zero => intro k hk; simp [rvFrom] at hk
    | succ f ih =>
      intro k hk
      rw [rvFrom] at hk ⊢
      split at hk
      · rename_i h1
        rw [if_pos h1]
        split at hk
        · rename_i h2
          rw [if_pos h2]
          exact of_decide_eq_true h2
        · rename_i h2
          rw [if_neg h2]
          exact ih _ hk
      · simp at hk
  exact this 7 1 h
def frameBad (s : List UInt8) : Bool :=
  (scanText (s.drop 4) false).2.2 || (frameL (scanText (s.drop 4) false).1).isEmpty || decide (s.length < (frameL (scanText (s.drop 4) false).1).length) || !(s.take (frameL (scanText (s.drop 4) false).1).length == frameL (scanText (s.drop 4) false).1)
def frame1 (s : List UInt8) : Option (List UInt8) := if s.length < 5 then none else if frameBad s then none else some (scanText (s.drop 4) false).1
theorem frame1_some {s t : List UInt8} (h : frame1 s = some t) : t = (scanText (s.drop 4) false).1 ∧ 5 ≤ s.length ∧ frameL t ≠ [] ∧ (frameL t).length ≤ s.length ∧ s.take (frameL t).length = frameL t := by
  unfold frame1 at h
  split at h
  · cases h
  · rename_i h5
    split at h
    · cases h
    · rename_i hb
      injection h with h
      subst h
      simp only [frameBad, Bool.or_eq_true, Bool.not_eq_true', not_or, Bool.not_eq_true, decide_eq_true_eq, beq_eq_false_iff_ne, ne_eq] at hb
      obtain ⟨⟨⟨h1, h2⟩, h3⟩, h4⟩ := hb
      refine ⟨rfl, by omega, ?_, by omega, ?_⟩
      · intro he
        rw [he] at h2
        simp at h2
      · exact Classical.not_not.1 (by simpa using h4)
theorem frameL_ne {t : List UInt8} (h : frameL t ≠ []) : t.length ≤ 200 ∧ 5 ≤ (frameL t).length := by
  by_cases h2 : t.length ≤ 200
  · refine ⟨h2, ?_⟩
    rw [frameL_length h2]
    have hv : 0 < (varF (t.length : Int)).length := by
      rw [varF_nat (by omega)]
      obtain ⟨xs, b, he, _⟩ := varL_shape t.length
      rw [he]; simp
    omega
  · exact absurd (by rw [frameL, if_neg h2]) h
def unfr : Nat → List UInt8 → List (List UInt8) × Nat
  | 0, _ => ([], 0)
  | f + 1, s => match frame1 s with
    | none => ([], 0)
    | some t => (t :: (unfr f (s.drop (frameL t).length)).1, (frameL t).length + (unfr f (s.drop (frameL t).length)).2)
theorem unfr_none {f : Nat} {s : List UInt8} (h : frame1 s = none) : unfr (f + 1) s = ([], 0) := by rw [unfr, h]
theorem unfr_some {f : Nat} {s t : List UInt8} (h : frame1 s = some t) : unfr (f + 1) s = (t :: (unfr f (s.drop (frameL t).length)).1, (frameL t).length + (unfr f (s.drop (frameL t).length)).2) := by rw [unfr, h]
def unframeL (s : List UInt8) : List (List UInt8) × Nat := unfr (s.length + 1) s
def strv (l : List UInt8) : Value := .string (bs l)
theorem own_snocS {w : World} {base : Nat} {e : TypeId} {v : Value} {acc : List (List UInt8)} (x : List UInt8) (h : w.ownsRow base e 1 v (acc.length + 1) (acc.map strv ++ #[Value.string (bs x)].toList)) :
    w.ownsRow base e 1 v (acc ++ [x]).length ((acc ++ [x]).map strv) := by
  rw [List.map_append, List.length_append]
  exact h
theorem own_form {w : World} {base : Nat} {e : TypeId} {size : Nat} {v : Value} {n : Nat} {xs : List Value} (h : w.ownsRow base e size v n xs) (hn : 0 < n) : ∃ g c, v = .slice (some ⟨g, 0, none⟩) n c ∧ base ≤ g ∧ g < w.heap.size := by
  rcases h.2 with ⟨_, h0⟩ | ⟨g, cap, cur, hv, hb, hg, _⟩
  · omega
  · exact ⟨g, cap, hv, hb, (Array.getElem?_eq_some_iff.1 hg).1⟩

theorem E_str : Elem Tryz.prog 27 9 (.string ⟨#[]⟩) 1 16 := ⟨Tryz.underlying27, by kernel_rfl, rfl, by decide, by decide⟩




























































































































































end Go.Proofs.YtonaacdefidomaaGreat
namespace Go.Proofs.YtonaacdefidomaaGreat
open Go.RowKit

def markL (k : Nat) : List UInt8 := 109 :: decN k
def marks (k n : Nat) : List (List UInt8) := (List.range n).map fun i => markL (k + i)
theorem marks_length (k n : Nat) : (marks k n).length = n := by simp [marks]
theorem marks_succ (k n : Nat) : marks k (n + 1) = marks k n ++ [markL (k + n)] := by simp [marks, List.range_succ]
theorem marks_get (k n i : Nat) (h : i < n) : (marks k n)[i]? = some (markL (k + i)) := by
  simp [marks, List.getElem?_map, List.getElem?_range h]
theorem Below.grownBy' {w w' : World} (h : Below w.heap.size w w') (r : Option Nat) : w.grownBy w' r := ⟨h.os, h.tape, h.output, h.size, fun i hi _ => h.block i hi⟩
theorem marks_step (k n j : Nat) (xs : List (List UInt8)) (hn : n = xs.length) (h : j < n) :
    ((marks k j ++ xs.drop j).map strv).set j (strv (markL (k + j))) = (marks k (j + 1) ++ xs.drop (j + 1)).map strv := by
  subst hn
  rw [List.map_append, List.set_append_right _ _ (by simp [marks_length]), List.length_map, marks_length, Nat.sub_self, List.drop_eq_getElem_cons h, marks_succ, List.map_cons, List.set_cons_zero, List.append_assoc, List.map_append, List.singleton_append, List.map_cons]
/-- a slice value that holds these cells -/
def SlR (w : World) (size : Nat) (v : Value) (n : Nat) (xs : List Value) : Prop := ∃ A c, v = .slice A n c ∧ Reads w size A n xs
theorem SlR.of_own {w : World} {base size : Nat} {e : TypeId} {v : Value} {n : Nat} {xs : List Value} (h : w.ownsRow base e size v n xs) : SlR w size v n xs := by
  have h2 := h.2
  rcases h2 with ⟨rfl, rfl⟩ | ⟨g, cap, cur, rfl, _⟩
  · exact ⟨none, 0, rfl, Reads.of_own h⟩
  · exact ⟨_, _, rfl, Reads.of_own h⟩
theorem SlR.below {w w' : World} {size : Nat} {v : Value} {n : Nat} {xs : List Value} (h : SlR w size v n xs) (hb : Below w.heap.size w w') : SlR w' size v n xs := by
  obtain ⟨A, c, rfl, h⟩ := h
  exact ⟨A, c, rfl, h.below hb⟩
attribute [local irreducible] markL marks dB




























































































































































































end Go.Proofs.YtonaacdefidomaaGreat
namespace Go.Proofs.YtonaacdefidomaaGreat
open Go.RowKit

inductive Cs where
  | nil
  | int (n : Int) (r : Cs)
  | bool (b : Bool) (r : Cs)
  | str (s : List UInt8) (r : Cs)
  | sl (e sz n : Nat) (i : Cs) (r : Cs)
def Cs.width : Cs → Nat
  | .nil => 0
  | .int _ r => r.width + 1
  | .bool _ r => r.width + 1
  | .str _ r => r.width + 1
  | .sl _ _ _ _ r => r.width + 1
/-- a weight: the letters of its strings and the elements of its slices -/
def Cs.wt : Cs → Nat
  | .nil => 0
  | .int _ r => r.wt
  | .bool _ r => r.wt
  | .str s r => s.length + r.wt
  | .sl _ _ n i r => n + i.wt + r.wt
/-- how many leaves -/
def Cs.cnt : Cs → Nat
  | .nil => 0
  | .int _ r => 1 + r.cnt
  | .bool _ r => 1 + r.cnt
  | .str _ r => 1 + r.cnt
  | .sl _ _ _ i r => i.cnt + r.cnt
/-- how many leaves behind its slices -/
def Cs.cntT : Cs → Nat
  | .nil => 0
  | .int _ r => r.cntT
  | .bool _ r => r.cntT
  | .str _ r => r.cntT
  | .sl _ _ _ i r => i.cnt + r.cntT
def Cs.mkE : Cs → Nat → Cs
  | .nil, _ => .nil
  | .int _ r, k => .int (k : Int) (r.mkE (k + 1))
  | .bool _ r, k => .bool (decide (k % 3 = 0)) (r.mkE (k + 1))
  | .str _ r, k => .str (markL k) (r.mkE (k + 1))
  | .sl e sz n i r, k => .sl e sz n (i.mkE k) (r.mkE (k + i.cnt))
def Cs.mkT : Cs → Nat → Cs
  | .nil, _ => .nil
  | .int n r, k => .int n (r.mkT k)
  | .bool b r, k => .bool b (r.mkT k)
  | .str s r, k => .str s (r.mkT k)
  | .sl e sz n i r, k => .sl e sz n (i.mkE k) (r.mkT (k + i.cnt))
def Cs.app : Cs → Cs → Cs
  | .nil, b => b
  | .int n r, b => .int n (r.app b)
  | .bool x r, b => .bool x (r.app b)
  | .str s r, b => .str s (r.app b)
  | .sl e sz n i r, b => .sl e sz n i (r.app b)
def cat {α : Type} (f : α → Cs) : List α → Cs
  | [] => .nil
  | x :: xs => (f x).app (cat f xs)
/-- the widths of its slices fit -/
def Cs.fit : Cs → Prop
  | .nil => True
  | .int _ r => r.fit
  | .bool _ r => r.fit
  | .str _ r => r.fit
  | .sl _ sz n i r => i.width = n * sz ∧ i.fit ∧ r.fit
theorem Cs.app_nil : ∀ a : Cs, a.app .nil = a
  | .nil => rfl
  | .int _ r => by rw [app, app_nil r]
  | .bool _ r => by rw [app, app_nil r]
  | .str _ r => by rw [app, app_nil r]
  | .sl _ _ _ _ r => by rw [app, app_nil r]
theorem Cs.app_assoc (b c : Cs) : ∀ a : Cs, (a.app b).app c = a.app (b.app c)
  | .nil => rfl
  | .int _ r => by simp only [app, app_assoc b c r]
  | .bool _ r => by simp only [app, app_assoc b c r]
  | .str _ r => by simp only [app, app_assoc b c r]
  | .sl _ _ _ _ r => by simp only [app, app_assoc b c r]
theorem Cs.width_app (b : Cs) : ∀ a : Cs, (a.app b).width = a.width + b.width
  | .nil => by simp [app, width]
  | .int _ r => by simp only [app, width, width_app b r]; omega
  | .bool _ r => by simp only [app, width, width_app b r]; omega
  | .str _ r => by simp only [app, width, width_app b r]; omega
  | .sl _ _ _ _ r => by simp only [app, width, width_app b r]; omega
theorem Cs.cnt_app (b : Cs) : ∀ a : Cs, (a.app b).cnt = a.cnt + b.cnt
  | .nil => by simp [app, cnt]
  | .int _ r => by simp only [app, cnt, cnt_app b r]; omega
  | .bool _ r => by simp only [app, cnt, cnt_app b r]; omega
  | .str _ r => by simp only [app, cnt, cnt_app b r]; omega
  | .sl _ _ _ _ r => by simp only [app, cnt, cnt_app b r]; omega
theorem Cs.wt_app (b : Cs) : ∀ a : Cs, (a.app b).wt = a.wt + b.wt
  | .nil => by simp [app, wt]
  | .int _ r => by simp only [app, wt, wt_app b r]
  | .bool _ r => by simp only [app, wt, wt_app b r]
  | .str _ r => by simp only [app, wt, wt_app b r]; omega
  | .sl _ _ _ _ r => by simp only [app, wt, wt_app b r]; omega
theorem Cs.mkE_app (b : Cs) : ∀ (a : Cs) (k : Nat), (a.app b).mkE k = (a.mkE k).app (b.mkE (k + a.cnt))
  | .nil, k => by simp [app, mkE, cnt]
  | .int _ r, k => by simp only [app, mkE, cnt, mkE_app b r]; rw [Nat.add_assoc]
  | .bool _ r, k => by simp only [app, mkE, cnt, mkE_app b r]; rw [Nat.add_assoc]
  | .str _ r, k => by simp only [app, mkE, cnt, mkE_app b r]; rw [Nat.add_assoc]
  | .sl _ _ _ i r, k => by simp only [app, mkE, cnt, mkE_app b r]; rw [Nat.add_assoc]
theorem Cs.width_mkE : ∀ (a : Cs) (k : Nat), (a.mkE k).width = a.width
  | .nil, _ => rfl
  | .int _ r, k => by simp only [mkE, width, width_mkE r]
  | .bool _ r, k => by simp only [mkE, width, width_mkE r]
  | .str _ r, k => by simp only [mkE, width, width_mkE r]
  | .sl _ _ _ _ r, k => by simp only [mkE, width, width_mkE r]
section
variable {α : Type} {f : α → Cs}
theorem cat_nil : cat f [] = .nil := rfl
theorem cat_cons (x : α) (xs : List α) : cat f (x :: xs) = (f x).app (cat f xs) := rfl
theorem cat_app (ys : List α) : ∀ xs : List α, cat f (xs ++ ys) = (cat f xs).app (cat f ys)
  | [] => rfl
  | x :: xs => by rw [List.cons_append, cat_cons, cat_app ys xs, cat_cons, Cs.app_assoc]
theorem cat_one (x : α) : cat f [x] = f x := by rw [cat_cons, cat_nil, Cs.app_nil]
theorem cat_width {sz : Nat} (h : ∀ x, (f x).width = sz) : ∀ xs : List α, (cat f xs).width = xs.length * sz
  | [] => by simp [cat, Cs.width]
  | x :: xs => by rw [cat_cons, Cs.width_app, h, cat_width h xs, List.length_cons, Nat.succ_mul]; omega
theorem cat_cnt {m : Nat} (h : ∀ x, (f x).cnt = m) : ∀ xs : List α, (cat f xs).cnt = xs.length * m
  | [] => by simp [cat, Cs.cnt]
  | x :: xs => by rw [cat_cons, Cs.cnt_app, h, cat_cnt h xs, List.length_cons, Nat.succ_mul]; omega
theorem cat_wt_le {xs : List α} {x : α} (h : x ∈ xs) : (f x).wt ≤ (cat f xs).wt := by
  induction xs with
  | nil => cases h
  | cons y ys ih =>
    rw [cat_cons, Cs.wt_app]
    rcases List.mem_cons.1 h with rfl | h
    · omega
    · have := ih h; omega
theorem cat_split (xs : List α) (i : Nat) (hi : i < xs.length) : cat f xs = (cat f (xs.take i)).app ((f xs[i]).app (cat f (xs.drop (i + 1)))) := by
  conv => lhs; rw [← List.take_append_drop i xs]
  rw [cat_app, List.drop_eq_getElem_cons hi, cat_cons]
end

/-! ### reading -/
def Rep (B : Nat → Prop) (w : World) : Cs → List Value → Prop
  | .nil, cs => cs = []
  | .int n r, cs => ∃ c', cs = .int .i64 n :: c' ∧ Rep B w r c'
  | .bool b r, cs => ∃ c', cs = .bool b :: c' ∧ Rep B w r c'
  | .str s r, cs => ∃ c', cs = .string (bs s) :: c' ∧ Rep B w r c'
  | .sl _ sz n i r, cs => ∃ A c cells c', cs = .slice A n c :: c' ∧ i.width = n * sz ∧ (n ≠ 0 → ∃ ad, A = some ad ∧ B ad.block ∧ ad.block < w.heap.size ∧ ∀ j u, cells[j]? = some u → w.cell? (ad.add j) = some u) ∧ Rep B w i cells ∧ Rep B w r c'
theorem Rep.length {B : Nat → Prop} {w : World} : ∀ {d : Cs} {cs : List Value}, Rep B w d cs → cs.length = d.width
  | .nil, _, h => by simp only [Rep] at h; subst h; rfl
  | .int _ r, _, h => by simp only [Rep] at h; obtain ⟨c', rfl, h⟩ := h; simp only [List.length_cons, Cs.width, h.length]
  | .bool _ r, _, h => by simp only [Rep] at h; obtain ⟨c', rfl, h⟩ := h; simp only [List.length_cons, Cs.width, h.length]
  | .str _ r, _, h => by simp only [Rep] at h; obtain ⟨c', rfl, h⟩ := h; simp only [List.length_cons, Cs.width, h.length]
  | .sl _ _ _ _ r, _, h => by simp only [Rep] at h; obtain ⟨_, _, _, c', rfl, _, _, _, h⟩ := h; simp only [List.length_cons, Cs.width, h.length]
theorem Rep.keepM {B B' : Nat → Prop} {w w' : World} (hs : w.heap.size ≤ w'.heap.size) (hB : ∀ b, B b → b < w.heap.size → B' b ∧ w'.heap[b]? = w.heap[b]?) : ∀ {d : Cs} {cs : List Value}, Rep B w d cs → Rep B' w' d cs
  | .nil, _, h => h
  | .int _ r, _, h => by simp only [Rep] at h ⊢; obtain ⟨c', rfl, h⟩ := h; exact ⟨c', rfl, h.keepM hs hB⟩
  | .bool _ r, _, h => by simp only [Rep] at h ⊢; obtain ⟨c', rfl, h⟩ := h; exact ⟨c', rfl, h.keepM hs hB⟩
  | .str _ r, _, h => by simp only [Rep] at h ⊢; obtain ⟨c', rfl, h⟩ := h; exact ⟨c', rfl, h.keepM hs hB⟩
  | .sl _ sz n i r, _, h => by
    simp only [Rep] at h ⊢
    obtain ⟨A, c, cells, c', rfl, h1, h2, h3, h4⟩ := h
    refine ⟨A, c, cells, c', rfl, h1, fun hne => ?_, h3.keepM hs hB, h4.keepM hs hB⟩
    obtain ⟨ad, rfl, hb, hlt, hc⟩ := h2 hne
    have hk := hB _ hb hlt
    exact ⟨ad, rfl, hk.1, Nat.lt_of_lt_of_le hlt hs, fun j u hu => by
      rw [World.cell?_of_block (w := w) (a := ad.add j) (by rw [block_of_add]; exact hk.2)]
      exact hc j u hu⟩
def anyB : Nat → Prop := fun _ => True
section
variable {B : Nat → Prop} {w w' : World} {d : Cs} {cs : List Value}
theorem Rep.keep (h : Rep B w d cs) (hs : w.heap.size ≤ w'.heap.size) (hB : ∀ b, B b → b < w.heap.size → w'.heap[b]? = w.heap[b]?) : Rep B w' d cs := h.keepM hs (fun b h1 h2 => ⟨h1, hB b h1 h2⟩)
theorem Rep.below (h : Rep B w d cs) (hb : Below w.heap.size w w') : Rep B w' d cs := h.keep hb.size fun b _ hlt => hb.block b hlt
theorem Rep.drew (h : Rep B w d cs) : Rep B w.drew d cs := h.keep (Nat.le_refl _) fun _ _ _ => rfl
theorem Rep.alloc (h : Rep B w d cs) (o : Obj) : Rep B (w.alloc o) d cs := h.below ((Below.refl _ _).alloc (Nat.le_refl _) o)
theorem Rep.mono (h : Rep B w d cs) {B' : Nat → Prop} (hB : ∀ b, B b → B' b) : Rep B' w d cs := h.keepM (Nat.le_refl _) (fun b h1 _ => ⟨hB b h1, rfl⟩)
theorem Rep.any (h : Rep B w d cs) : Rep anyB w d cs := h.mono fun _ _ => trivial
theorem Rep.lt (h : Rep B w d cs) : Rep (fun b => b < w.heap.size) w d cs := h.keepM (Nat.le_refl _) (fun _ _ h2 => ⟨h2, rfl⟩)
theorem Rep.int {n : Int} {r : Cs} : Rep B w (.int n r) cs ↔ ∃ c', cs = .int .i64 n :: c' ∧ Rep B w r c' := by simp only [Rep]
theorem Rep.bool {b : Bool} {r : Cs} : Rep B w (.bool b r) cs ↔ ∃ c', cs = .bool b :: c' ∧ Rep B w r c' := by simp only [Rep]
theorem Rep.str {s : List UInt8} {r : Cs} : Rep B w (.str s r) cs ↔ ∃ c', cs = .string (bs s) :: c' ∧ Rep B w r c' := by simp only [Rep]
theorem Rep.nil : Rep B w .nil cs ↔ cs = [] := by simp only [Rep]
/-- a slice alone -/
theorem Rep.sl {e sz n : Nat} {i r : Cs} : Rep B w (.sl e sz n i r) cs ↔ ∃ A c c', cs = .slice A n c :: c' ∧ Rep B w (.sl e sz n i .nil) [.slice A n c] ∧ Rep B w r c' := by
  simp only [Rep]
  constructor
  · rintro ⟨A, c, cells, c', rfl, h1, h2, h3, h4⟩
    exact ⟨A, c, c', rfl, ⟨A, c, cells, [], rfl, h1, h2, h3, rfl⟩, h4⟩
  · rintro ⟨A, c, c', rfl, ⟨A', c2, cells, c3, he, h1, h2, h3, rfl⟩, h4⟩
    injection he with he _
    injection he with e1 e2 e3
    subst e1 e3
    exact ⟨A, c, cells, c', rfl, h1, h2, h3, h4⟩
end
theorem Rep.app {B : Nat → Prop} {w : World} {b : Cs} : ∀ {a : Cs} {cs : List Value}, Rep B w (a.app b) cs ↔ ∃ c1 c2, cs = c1 ++ c2 ∧ Rep B w a c1 ∧ Rep B w b c2
  | .nil, cs => by
    simp only [Cs.app, Rep.nil]
    exact ⟨fun h => ⟨[], cs, rfl, rfl, h⟩, fun ⟨c1, c2, e, e1, h⟩ => by subst e1; rw [e]; exact h⟩
  | .int n r, cs => by
    simp only [Cs.app, Rep.int, Rep.app (a := r)]
    exact ⟨fun ⟨c', e, c1, c2, e2, h1, h2⟩ => ⟨_ :: c1, c2, by rw [e, e2]; rfl, ⟨c1, rfl, h1⟩, h2⟩, fun ⟨_, c2, e, ⟨c1, e1, h1⟩, h2⟩ => ⟨c1 ++ c2, by rw [e, e1]; rfl, c1, c2, rfl, h1, h2⟩⟩
  | .bool n r, cs => by
    simp only [Cs.app, Rep.bool, Rep.app (a := r)]
    exact ⟨fun ⟨c', e, c1, c2, e2, h1, h2⟩ => ⟨_ :: c1, c2, by rw [e, e2]; rfl, ⟨c1, rfl, h1⟩, h2⟩, fun ⟨_, c2, e, ⟨c1, e1, h1⟩, h2⟩ => ⟨c1 ++ c2, by rw [e, e1]; rfl, c1, c2, rfl, h1, h2⟩⟩
  | .str n r, cs => by
    simp only [Cs.app, Rep.str, Rep.app (a := r)]
    exact ⟨fun ⟨c', e, c1, c2, e2, h1, h2⟩ => ⟨_ :: c1, c2, by rw [e, e2]; rfl, ⟨c1, rfl, h1⟩, h2⟩, fun ⟨_, c2, e, ⟨c1, e1, h1⟩, h2⟩ => ⟨c1 ++ c2, by rw [e, e1]; rfl, c1, c2, rfl, h1, h2⟩⟩
  | .sl e sz n i r, cs => by
    simp only [Cs.app]
    rw [Rep.sl]
    simp only [Rep.app (a := r)]
    constructor
    · rintro ⟨A, c, _, rfl, h0, c1, c2, rfl, h1, h2⟩
      exact ⟨_ :: c1, c2, rfl, Rep.sl.2 ⟨A, c, c1, rfl, h0, h1⟩, h2⟩
    · rintro ⟨_, c2, rfl, h, h2⟩
      obtain ⟨A, c, c1, rfl, h0, h1⟩ := Rep.sl.1 h
      exact ⟨A, c, c1 ++ c2, rfl, h0, c1, c2, rfl, h1, h2⟩
/-- an element of a slice: its cells, where they lie -/
theorem Rep.elem {B : Nat → Prop} {w : World} {e sz n c : Nat} {α : Type} {f : α → Cs} {xs : List α} {A : Option Addr} (h : Rep B w (.sl e sz n (cat f xs) .nil) [.slice A n c]) (hf : ∀ x, (f x).width = sz) (i : Nat) (hi : i < xs.length) (hn : n = xs.length) :
    ∃ ad ci, A = some ad ∧ B ad.block ∧ ad.block < w.heap.size ∧ Rep B w (f xs[i]) ci ∧ ci.length = sz ∧ ∀ j v, ci[j]? = some v → w.cell? ((ad.add (i * sz)).add j) = some v := by
  subst hn
  simp only [Rep] at h
  obtain ⟨A', c', cells, _, he, hw, hne, hL, rfl⟩ := h
  injection he with he _
  injection he with e1 e2 e3
  subst e1 e3
  obtain ⟨ad, rfl, hb, hlt, hc⟩ := hne (by omega)
  rw [cat_split xs i hi, Rep.app] at hL
  obtain ⟨c1, c2, rfl, h1, h2⟩ := hL
  obtain ⟨ci, c3, rfl, h2, h3⟩ := Rep.app.1 h2
  have hl1 := h1.length
  rw [cat_width hf, List.length_take, Nat.min_eq_left (by omega)] at hl1
  have hl2 := h2.length
  rw [hf] at hl2
  refine ⟨ad, ci, rfl, hb, hlt, h2, hl2, fun j v hv => ?_⟩
  rw [add_of_add]
  refine hc _ _ ?_
  rw [List.getElem?_append_right (by omega), hl1, Nat.add_sub_cancel_left, List.getElem?_append_left (List.getElem?_eq_some_iff.1 hv).1]
  exact hv
theorem Rep.sl_nil {B : Nat → Prop} {w : World} {e sz c : Nat} {A : Option Addr} : Rep B w (.sl e sz 0 .nil .nil) [.slice A 0 c] := by
  simp only [Rep]
  exact ⟨A, c, [], [], rfl, by simp [Cs.width], by simp, rfl, rfl⟩

/-! ### owning -/
def Own (w : World) (base : Nat) : Cs → List Value → List Nat → Prop
  | .nil, cs, F => cs = [] ∧ F = []
  | .int n r, cs, F => ∃ c', cs = .int .i64 n :: c' ∧ Own w base r c' F
  | .bool b r, cs, F => ∃ c', cs = .bool b :: c' ∧ Own w base r c' F
  | .str s r, cs, F => ∃ c', cs = .string (bs s) :: c' ∧ Own w base r c' F
  | .sl e sz n i r, cs, F => ∃ v cells c' F1 F2, cs = v :: c' ∧ F = (v.ownBlock.toList ++ F1) ++ F2 ∧ i.width = n * sz ∧ w.ownsRow base e sz v n cells ∧ Own w base i cells F1 ∧ Own w base r c' F2
theorem ownsRow_keep {w w' : World} {base base' e size n : Nat} {v : Value} {xs : List Value} (h : w.ownsRow base e size v n xs) (hk : ∀ b, v.ownBlock = some b → base' ≤ b ∧ w'.heap[b]? = w.heap[b]?) : w'.ownsRow base' e size v n xs := by
  refine ⟨h.1, ?_⟩
  rcases h.2 with h0 | ⟨g, cap, cur, rfl, hg, hh, r⟩
  · exact .inl h0
  · have := hk g rfl
    exact .inr ⟨g, cap, cur, rfl, this.1, by rw [this.2]; exact hh, r⟩
theorem Own.keep0 {w w' : World} {base base' : Nat} : ∀ {d : Cs} {cs : List Value} {F : List Nat}, Own w base d cs F → (∀ b ∈ F, base' ≤ b ∧ w'.heap[b]? = w.heap[b]?) → Own w' base' d cs F
  | .nil, _, _, h, _ => h
  | .int _ r, _, _, h, hk => by simp only [Own] at h ⊢; obtain ⟨c', rfl, h⟩ := h; exact ⟨c', rfl, h.keep0 hk⟩
  | .bool _ r, _, _, h, hk => by simp only [Own] at h ⊢; obtain ⟨c', rfl, h⟩ := h; exact ⟨c', rfl, h.keep0 hk⟩
  | .str _ r, _, _, h, hk => by simp only [Own] at h ⊢; obtain ⟨c', rfl, h⟩ := h; exact ⟨c', rfl, h.keep0 hk⟩
  | .sl e sz n i r, _, _, h, hk => by
    simp only [Own] at h ⊢
    obtain ⟨v, cells, c', F1, F2, rfl, rfl, h1, h2, h3, h4⟩ := h
    exact ⟨v, cells, c', F1, F2, rfl, rfl, h1, ownsRow_keep h2 (fun b hb => hk b (by simp [hb])), h3.keep0 (fun b hb => hk b (by simp [hb])), h4.keep0 (fun b hb => hk b (by simp [hb]))⟩
theorem Own.in {w : World} {base : Nat} : ∀ {d : Cs} {cs : List Value} {F : List Nat}, Own w base d cs F → ∀ b ∈ F, base ≤ b ∧ b < w.heap.size
  | .nil, _, _, h => by simp only [Own] at h; obtain ⟨_, rfl⟩ := h; simp
  | .int _ r, _, _, h => by simp only [Own] at h; obtain ⟨c', rfl, h⟩ := h; exact h.in
  | .bool _ r, _, _, h => by simp only [Own] at h; obtain ⟨c', rfl, h⟩ := h; exact h.in
  | .str _ r, _, _, h => by simp only [Own] at h; obtain ⟨c', rfl, h⟩ := h; exact h.in
  | .sl e sz n i r, _, _, h => by
    simp only [Own] at h
    obtain ⟨v, cells, c', F1, F2, rfl, rfl, h1, h2, h3, h4⟩ := h
    intro b hb
    rcases List.mem_append.1 hb with hb | hb
    · rcases List.mem_append.1 hb with hb | hb
      · exact h2.lt b (by simpa using hb)
      · exact h3.in b hb
    · exact h4.in b hb
theorem Own.rep0 {w : World} {base : Nat} {B : Nat → Prop} : ∀ {d : Cs} {cs : List Value} {F : List Nat}, Own w base d cs F → (∀ b ∈ F, B b) → Rep B w d cs
  | .nil, _, _, h, _ => by simp only [Own] at h; simp only [Rep]; exact h.1
  | .int _ r, _, _, h, hB => by simp only [Own] at h; simp only [Rep]; obtain ⟨c', rfl, h⟩ := h; exact ⟨c', rfl, h.rep0 hB⟩
  | .bool _ r, _, _, h, hB => by simp only [Own] at h; simp only [Rep]; obtain ⟨c', rfl, h⟩ := h; exact ⟨c', rfl, h.rep0 hB⟩
  | .str _ r, _, _, h, hB => by simp only [Own] at h; simp only [Rep]; obtain ⟨c', rfl, h⟩ := h; exact ⟨c', rfl, h.rep0 hB⟩
  | .sl e sz n i r, _, _, h, hB => by
    simp only [Own] at h
    obtain ⟨v, cells, c', F1, F2, rfl, rfl, h1, h2, h3, h4⟩ := h
    have hL := h3.rep0 (B := B) (fun b hb => hB b (by simp [hb]))
    have hR := h4.rep0 (B := B) (fun b hb => hB b (by simp [hb]))
    simp only [Rep]
    have h2' := h2
    rcases h2.2 with ⟨rfl, rfl⟩ | ⟨g, cap, cur, rfl, hg, hh, _⟩
    · exact ⟨none, 0, cells, c', rfl, h1, fun hne => absurd rfl hne, hL, hR⟩
    · exact ⟨_, cap, cells, c', rfl, h1, fun _ => ⟨_, rfl, hB g (by simp [Value.ownBlock]), (h2'.lt g rfl).2, h2'.cells (g := g) rfl⟩, hL, hR⟩
/-- Only blocks of F have turned among those that were there. -/
structure Mod (F : List Nat) (w w' : World) : Prop where
  os : w'.os = w.os
  tape : w'.tape = w.tape
  output : w'.output = w.output
  size : w.heap.size ≤ w'.heap.size
  block : ∀ k, k < w.heap.size → k ∉ F → w'.heap[k]? = w.heap[k]?
theorem Mod.refl (F : List Nat) (w : World) : Mod F w w := ⟨rfl, rfl, rfl, Nat.le_refl _, fun _ _ _ => rfl⟩
theorem Mod.trans {F : List Nat} {a b c : World} (h : Mod F a b) (k : Mod F b c) : Mod F a c :=
  ⟨k.os.trans h.os, k.tape.trans h.tape, k.output.trans h.output, Nat.le_trans h.size k.size, fun i hi hn => (k.block i (Nat.lt_of_lt_of_le hi h.size) hn).trans (h.block i hi hn)⟩
theorem Mod.of_below {w w' : World} (h : Below w.heap.size w w') (F : List Nat) : Mod F w w' := ⟨h.os, h.tape, h.output, h.size, fun i hi _ => h.block i hi⟩
theorem Mod.of_grown {w w' : World} {g : Nat} (h : w.grownBy w' (some g)) {F : List Nat} (hg : g ∈ F) : Mod F w w' :=
  ⟨h.os, h.tape, h.output, h.size, fun i hi hn => h.block i hi (fun e => by injection e with e; subst e; exact hn hg)⟩
theorem Mod.mono {F F' : List Nat} {w w' : World} (h : Mod F w w') (hF : ∀ b ∈ F, b ∈ F') : Mod F' w w' := ⟨h.os, h.tape, h.output, h.size, fun i hi hn => h.block i hi (fun hm => hn (hF i hm))⟩
theorem Mod.below {F : List Nat} {a w w' : World} {B : Nat} (h : Below B a w) (k : Mod F w w') (hB : B ≤ w.heap.size) (hF : ∀ b ∈ F, B ≤ b) : Below B a w' :=
  h.trans ⟨k.os, k.tape, k.output, k.size, fun i hi => k.block i (by omega) (fun hm => by have := hF i hm; omega)⟩
theorem Mod.setCell {F : List Nat} {a w : World} (h : Mod F a w) {p : Addr} (hp : p.block ∈ F) (v : Value) : Mod F a (w.setCell p v) :=
  h.trans ⟨rfl, rfl, rfl, by simp [World.setCell], fun k _ hn => Below.heap_setCell _ _ _ _ (fun e => hn (e ▸ hp))⟩
theorem Mod.drew {F : List Nat} {a w : World} (h : Mod F a w) : Mod F a w.drew := ⟨h.os, h.tape, h.output, h.size, h.block⟩
section
variable {w w' : World} {base : Nat} {d : Cs} {cs : List Value} {F : List Nat}
theorem Own.rep (h : Own w base d cs F) : Rep (fun b => b ∈ F) w d cs := h.rep0 fun _ hb => hb
theorem Own.repAny (h : Own w base d cs F) : Rep anyB w d cs := h.rep.any
theorem Own.keep (h : Own w base d cs F) (hk : ∀ b ∈ F, w'.heap[b]? = w.heap[b]?) : Own w' base d cs F := h.keep0 fun b hb => ⟨(h.in b hb).1, hk b hb⟩
theorem Own.below (h : Own w base d cs F) (hb : Below w.heap.size w w') : Own w' base d cs F := h.keep fun b hm => hb.block b (h.in b hm).2
theorem Own.mono (h : Own w base d cs F) {base' : Nat} (hb : base' ≤ base) : Own w base' d cs F := h.keep0 fun b hm => ⟨Nat.le_trans hb (h.in b hm).1, rfl⟩
theorem Own.mod (h : Own w base d cs F) {F' : List Nat} (hm : Mod F' w w') (hd : ∀ b ∈ F, b ∉ F') : Own w' base d cs F := h.keep fun b hb => hm.block b (h.in b hb).2 (hd b hb)
theorem Rep.mod {B : Nat → Prop} (h : Rep B w d cs) {F' : List Nat} (hm : Mod F' w w') (hd : ∀ b, B b → b < w.heap.size → b ∉ F') : Rep B w' d cs := h.keep hm.size fun b h1 h2 => hm.block b h2 (hd b h1 h2)
theorem Own.nil : Own w base .nil cs F ↔ cs = [] ∧ F = [] := by simp only [Own]
theorem Own.int {n : Int} {r : Cs} : Own w base (.int n r) cs F ↔ ∃ c', cs = .int .i64 n :: c' ∧ Own w base r c' F := by simp only [Own]
theorem Own.bool {b : Bool} {r : Cs} : Own w base (.bool b r) cs F ↔ ∃ c', cs = .bool b :: c' ∧ Own w base r c' F := by simp only [Own]
theorem Own.str {s : List UInt8} {r : Cs} : Own w base (.str s r) cs F ↔ ∃ c', cs = .string (bs s) :: c' ∧ Own w base r c' F := by simp only [Own]
theorem Own.sl {e sz n : Nat} {i r : Cs} : Own w base (.sl e sz n i r) cs F ↔ ∃ A c c' F1 F2, cs = .slice A n c :: c' ∧ F = F1 ++ F2 ∧ Own w base (.sl e sz n i .nil) [.slice A n c] F1 ∧ Own w base r c' F2 := by
  simp only [Own]
  constructor
  · rintro ⟨v, cells, c', F1, F2, rfl, rfl, h1, h2, h3, h4⟩
    obtain ⟨A, c, rfl, _⟩ := SlR.of_own h2
    exact ⟨A, c, c', _, F2, rfl, rfl, ⟨_, cells, [], F1, [], rfl, (List.append_nil _).symm, h1, h2, h3, rfl, rfl⟩, h4⟩
  · rintro ⟨A, c, c', _, F2, rfl, rfl, ⟨v, cells, c2, F1, F3, he, rfl, h1, h2, h3, rfl, rfl⟩, h4⟩
    injection he with he _
    subst he
    exact ⟨_, cells, c', F1, F2, rfl, by rw [List.append_nil], h1, h2, h3, h4⟩
end
theorem Own.app {w : World} {base : Nat} {b : Cs} : ∀ {a : Cs} {cs : List Value} {F : List Nat}, Own w base (a.app b) cs F ↔ ∃ c1 c2 F1 F2, cs = c1 ++ c2 ∧ F = F1 ++ F2 ∧ Own w base a c1 F1 ∧ Own w base b c2 F2
  | .nil, cs, F => by
    simp only [Cs.app, Own]
    exact ⟨fun h => ⟨[], cs, [], F, rfl, rfl, ⟨rfl, rfl⟩, h⟩, fun ⟨c1, c2, F1, F2, e1, e2, ⟨e3, e4⟩, h⟩ => by subst e1 e2 e3 e4; exact h⟩
  | .int n r, cs, F => by
    simp only [Cs.app, Own.int, Own.app (a := r)]
    exact ⟨fun ⟨c', e, c1, c2, F1, F2, e2, e3, h1, h2⟩ => ⟨_ :: c1, c2, F1, F2, by rw [e, e2]; rfl, e3, ⟨c1, rfl, h1⟩, h2⟩, fun ⟨_, c2, F1, F2, e, e3, ⟨c1, e1, h1⟩, h2⟩ => ⟨c1 ++ c2, by rw [e, e1]; rfl, c1, c2, F1, F2, rfl, e3, h1, h2⟩⟩
  | .bool n r, cs, F => by
    simp only [Cs.app, Own.bool, Own.app (a := r)]
    exact ⟨fun ⟨c', e, c1, c2, F1, F2, e2, e3, h1, h2⟩ => ⟨_ :: c1, c2, F1, F2, by rw [e, e2]; rfl, e3, ⟨c1, rfl, h1⟩, h2⟩, fun ⟨_, c2, F1, F2, e, e3, ⟨c1, e1, h1⟩, h2⟩ => ⟨c1 ++ c2, by rw [e, e1]; rfl, c1, c2, F1, F2, rfl, e3, h1, h2⟩⟩
  | .str n r, cs, F => by
    simp only [Cs.app, Own.str, Own.app (a := r)]
    exact ⟨fun ⟨c', e, c1, c2, F1, F2, e2, e3, h1, h2⟩ => ⟨_ :: c1, c2, F1, F2, by rw [e, e2]; rfl, e3, ⟨c1, rfl, h1⟩, h2⟩, fun ⟨_, c2, F1, F2, e, e3, ⟨c1, e1, h1⟩, h2⟩ => ⟨c1 ++ c2, by rw [e, e1]; rfl, c1, c2, F1, F2, rfl, e3, h1, h2⟩⟩
  | .sl e sz n i r, cs, F => by
    simp only [Cs.app]
    rw [Own.sl]
    simp only [Own.app (a := r)]
    constructor
    · rintro ⟨A, c, _, F1, _, rfl, rfl, h0, c1, c2, F3, F4, rfl, rfl, h1, h2⟩
      exact ⟨_ :: c1, c2, F1 ++ F3, F4, rfl, (List.append_assoc ..).symm, Own.sl.2 ⟨A, c, c1, F1, F3, rfl, rfl, h0, h1⟩, h2⟩
    · rintro ⟨_, c2, _, F4, rfl, rfl, h, h2⟩
      obtain ⟨A, c, c1, F1, F3, rfl, rfl, h0, h1⟩ := Own.sl.1 h
      exact ⟨A, c, c1 ++ c2, F1, F3 ++ F4, rfl, List.append_assoc .., h0, c1, c2, F3, F4, rfl, rfl, h1, h2⟩
/-- data in blocks of one's own, no block twice -/
def Mine (w : World) (base : Nat) (d : Cs) (cs : List Value) : Prop := ∃ F, F.Nodup ∧ Own w base d cs F
theorem Mine.below {w w' : World} {base : Nat} {d : Cs} {cs : List Value} (h : Mine w base d cs) (hb : Below w.heap.size w w') : Mine w' base d cs := let ⟨F, h1, h2⟩ := h; ⟨F, h1, h2.below hb⟩
theorem Mine.mono {w : World} {base base' : Nat} {d : Cs} {cs : List Value} (h : Mine w base d cs) (hb : base' ≤ base) : Mine w base' d cs := let ⟨F, h1, h2⟩ := h; ⟨F, h1, h2.mono hb⟩
theorem Mine.rep {w : World} {base : Nat} {d : Cs} {cs : List Value} (h : Mine w base d cs) : Rep (fun b => base ≤ b) w d cs := let ⟨_, _, h2⟩ := h; h2.rep.mono fun b hb => (h2.in b hb).1
theorem nodup_app {F1 F2 : List Nat} {m : Nat} (h1 : F1.Nodup) (h2 : F2.Nodup) (a : ∀ b ∈ F1, b < m) (b : ∀ b ∈ F2, m ≤ b) : (F1 ++ F2).Nodup :=
  List.nodup_append.2 ⟨h1, h2, fun x hx y hy e => by have := a x hx; have := b y hy; omega⟩
/-- two rows of data side by side, the second made behind the first -/
theorem Mine.app {w w' : World} {base m : Nat} {d1 d2 : Cs} {c1 c2 : List Value} (h1 : Mine w base d1 c1) (hm : w.heap.size ≤ m) (hk : Below w.heap.size w w') (h2 : Mine w' m d2 c2) (hb : base ≤ m) : Mine w' base (d1.app d2) (c1 ++ c2) := by
  obtain ⟨F1, n1, o1⟩ := h1
  obtain ⟨F2, n2, o2⟩ := h2
  exact ⟨F1 ++ F2, nodup_app (m := m) n1 n2 (fun b hb => by have := (o1.in b hb).2; omega) (fun b hb => (o2.in b hb).1), Own.app.2 ⟨c1, c2, F1, F2, rfl, rfl, o1.below hk, o2.mono hb⟩⟩

/-! ### one block of one's own, its cells turned -/
def Blk (w : World) (g e : Nat) (cs : Array Value) : Prop := w.heap[g]? = some (.cells cs e (0, 0))
section
variable {w w' : World} {g e : Nat} {cs : Array Value}
theorem Blk.cell (h : Blk w g e cs) (p : Nat) : w.cell? ⟨g, p, none⟩ = cs[p]? := by simp [World.cell?, show w.heap[g]? = _ from h]
theorem Blk.frozen (h : Blk w g e cs) (p : Nat) : w.frozen? ⟨g, p, none⟩ = false := by simp [World.frozen?, show w.heap[g]? = _ from h]
theorem Blk.lt (h : Blk w g e cs) : g < w.heap.size := (Array.getElem?_eq_some_iff.1 (show w.heap[g]? = _ from h)).1
theorem Blk.set (h : Blk w g e cs) (p : Nat) (v : Value) : Blk (w.setCell ⟨g, p, none⟩ v) g e (cs.setIfInBounds p v) := by
  simp [Blk, World.setCell, Array.getElem?_modify, show w.heap[g]? = _ from h]
theorem Blk.keep (h : Blk w g e cs) (hk : w'.heap[g]? = w.heap[g]?) : Blk w' g e cs := hk.trans h
theorem Blk.below (h : Blk w g e cs) (hb : Below w.heap.size w w') : Blk w' g e cs := h.keep (hb.block g h.lt)
theorem Blk.drew (h : Blk w g e cs) : Blk w.drew g e cs := h
theorem Blk.mod (h : Blk w g e cs) {F : List Nat} (hm : Mod F w w') (hg : g ∉ F) : Blk w' g e cs := h.keep (hm.block g h.lt hg)
theorem Blk.alloc (h : Blk w g e cs) (o : Obj) : Blk (w.alloc o) g e cs := h.below ((Below.refl _ _).alloc (Nat.le_refl _) o)
end
end Go.Proofs.YtonaacdefidomaaGreat
namespace Go.Proofs.YtonaacdefidomaaGreat
open Go.RowKit

section
variable {P : Program}
/-- a struct type of so many cells -/
structure Agg (P : Program) (t : TypeId) (n : Nat) : Prop where
  agg : (match P.underlying t with | some (.struct _) => true | _ => false) = true
  info : (P.info? t).map (fun i => i.size) = some n
theorem Agg.isAgg {t : TypeId} {n : Nat} (h : Agg P t n) (w : World) : (isAgg t).run P w = .ok true w := by
  have h1 := h.agg
  split at h1
  · rename_i fs hfs
    unfold Go.isAgg
    simp [Sem.run_bind, run_underlying hfs, Result.andThen]
  · cases h1
theorem Agg.size {t : TypeId} {n : Nat} (h : Agg P t n) (w : World) : (sizeOf t).run P w = .ok n w := by
  obtain ⟨i, hi, hz⟩ := Option.map_eq_some_iff.1 h.info
  unfold sizeOf typeInfo Go.program
  simp only [Sem.run_bind, Sem.run, Result.andThen, hi, hz, Sem.run_pure]
theorem run_load_row (w : World) {t : TypeId} (p : Addr) (cs : List Value) (h : Agg P t cs.length) (hc : ∀ j v, cs[j]? = some v → w.cell? (p.add j) = some v) :
    (Instr.loadAt t (.pointer (some p))).run P w = .ok (.agg cs.toArray) w := by
  unfold Instr.loadAt Instr.sureAddr loadVar
  simp only [Sem.run_bind, Sem.run_pure, Result.andThen, h.isAgg, h.size, if_true]
  rw [run_loadCells_list (P := P) (w := w) p cs hc]
theorem wpList_load_row (w : World) {ops : Array Oper} {rest : List Oper} {a : Act} {Q : Exit → Act → World → Prop} {t ty : TypeId} {x : Operand} {ps : String} {af : Array Edge} {dst : Option Tmp} (p : Addr) (hx : a.eval x = .pointer (some p)) (cs : List Value) {n : Nat} (h : Agg P t n) (hl : cs.length = n)
    (hc : ∀ j v, cs[j]? = some v → w.cell? (p.add j) = some v) (hK : wpList P ops Q rest (a.put dst (.agg cs.toArray)) w) : wpList P ops Q ({ dst := dst, op := Op.load t x, type := ty, pos := ps, after := af, guard := none } :: rest) a w := by
  refine wpList_plain rfl fun K hK' => ?_
  unfold Oper.wp
  simp only [execOp, hx, Sem.run_bind, run_load_row w p cs (hl ▸ h) hc, Result.andThen, Sem.run_pure]
  exact hK' _ _ hK
/-- .. guarded, and the guard holds -/
theorem wpList_load_row_g (w : World) {ops : Array Oper} {rest : List Oper} {a : Act} {Q : Exit → Act → World → Prop} {t ty : TypeId} {x : Operand} {ps : String} {af : Array Edge} {dst : Option Tmp} {gd : Option (Nat × Bool)}
    (hw : Region.wanted { dst := dst, op := Op.load t x, type := ty, pos := ps, after := af, guard := gd } (yielded ops a.tmps) = true) (p : Addr) (hx : a.eval x = .pointer (some p)) (cs : List Value) {n : Nat} (h : Agg P t n) (hl : cs.length = n)
    (hc : ∀ j v, cs[j]? = some v → w.cell? (p.add j) = some v) (hK : wpList P ops Q rest (a.put dst (.agg cs.toArray)) w) : wpList P ops Q ({ dst := dst, op := Op.load t x, type := ty, pos := ps, after := af, guard := gd } :: rest) a w := by
  simp only [wpList, hw, if_true]
  refine .inl ?_
  unfold Oper.wp
  simp only [execOp, hx, Sem.run_bind, run_load_row w p cs (hl ▸ h) hc, Result.andThen, Sem.run_pure]
  exact hK
end

/-! ### a row of one's own -/
theorem Rep.one {B : Nat → Prop} {w : World} : ∀ {d : Cs} {cs : List Value}, Rep B w d cs → ∀ u ∈ cs, u.oneCell' = true
  | .nil, _, h => by simp only [Rep] at h; subst h; simp
  | .int _ r, _, h => by simp only [Rep] at h; obtain ⟨c', rfl, h⟩ := h; intro u hu; rcases List.mem_cons.1 hu with rfl | hu; rfl; exact h.one u hu
  | .bool _ r, _, h => by simp only [Rep] at h; obtain ⟨c', rfl, h⟩ := h; intro u hu; rcases List.mem_cons.1 hu with rfl | hu; rfl; exact h.one u hu
  | .str _ r, _, h => by simp only [Rep] at h; obtain ⟨c', rfl, h⟩ := h; intro u hu; rcases List.mem_cons.1 hu with rfl | hu; rfl; exact h.one u hu
  | .sl _ _ _ _ r, _, h => by simp only [Rep] at h; obtain ⟨_, _, _, c', rfl, _, _, _, h⟩ := h; intro u hu; rcases List.mem_cons.1 hu with rfl | hu; rfl; exact h.one u hu
theorem Own.one {w : World} {base : Nat} {d : Cs} {cs : List Value} {F : List Nat} (h : Own w base d cs F) : ∀ u ∈ cs, u.oneCell' = true := h.repAny.one
theorem Own.length {w : World} {base : Nat} {d : Cs} {cs : List Value} {F : List Nat} (h : Own w base d cs F) : cs.length = d.width := h.repAny.length
theorem Own.sl1 {w : World} {base e sz n : Nat} {i : Cs} {v : Value} {F : List Nat} : Own w base (.sl e sz n i .nil) [v] F ↔ ∃ cells F1, F = v.ownBlock.toList ++ F1 ∧ i.width = n * sz ∧ w.ownsRow base e sz v n cells ∧ Own w base i cells F1 := by
  simp only [Own]
  constructor
  · rintro ⟨v, cells, c', F1, F2, he, rfl, h1, h2, h3, rfl, rfl⟩
    injection he with he _
    subst he
    exact ⟨cells, F1, List.append_nil _, h1, h2, h3⟩
  · rintro ⟨cells, F1, rfl, h1, h2, h3⟩
    exact ⟨v, cells, [], F1, [], rfl, (List.append_nil _).symm, h1, h2, h3, rfl, rfl⟩
section
variable {P : Program}
theorem setRow_blk {w : World} {g e : Nat} {cur cs : Array Value} (h : Blk w g e cur) : Blk (w.setRow g cs) g e cs := setRow_heap w g cur cs e (0, 0) h
theorem setRow_grown (w : World) (g : Nat) (cs : Array Value) : w.grownBy (w.setRow g cs) (some g) :=
  ⟨rfl, rfl, rfl, by simp [World.setRow], fun k _ hn => by
    simp only [World.setRow, Array.getElem?_modify]
    rw [if_neg (fun e => hn (by rw [e]))]⟩
theorem wpList_store_row (w : World) {ops : Array Oper} {rest : List Oper} {a : Act} {Q : Exit → Act → World → Prop} {t ty : TypeId} {x y : Operand} {ps : String} {af : Array Edge} (g e off : Nat) (cs A M C : List Value) (cur : Array Value) (hx : a.eval x = .pointer (some ⟨g, off, none⟩)) (hy : a.eval y = .agg cs.toArray) (h : Agg P t cs.length)
    (hb : Blk w g e cur) (hc : cur.toList = A ++ (M ++ C)) (hA : A.length = off) (hM : M.length = cs.length) (h1 : ∀ u ∈ cs, u.oneCell' = true)
    (hK : ∀ w', Blk w' g e (A ++ (cs ++ C)).toArray → w.grownBy w' (some g) → wpList P ops Q rest a w') : wpList P ops Q ({ dst := none, op := Op.store t x y, type := ty, pos := ps, after := af, guard := none } :: rest) a w := by
  refine wpList_plain rfl fun K hK' => ?_
  have hsz : cur.size = A.length + (M.length + C.length) := by
    have := congrArg List.length hc
    simpa using this
  have hs := run_storeCells_at (P := P) g off e cs 0 cur w hb (by omega) h1
  have e1 : cur.toList.take (off + 0) ++ cs ++ cur.toList.drop (off + 0 + cs.length) = A ++ (cs ++ C) := by
    rw [Nat.add_zero, hc, ← hA, ← hM, List.take_left', List.append_assoc, ← List.append_assoc A M C, ← List.length_append, List.drop_left']
    all_goals rfl
  rw [e1] at hs
  have hrun : (Instr.storeAt t (.pointer (some ⟨g, off, none⟩)) (.agg cs.toArray)).run P w = .ok () (w.setRow g (A ++ (cs ++ C)).toArray) := by
    unfold Instr.storeAt Instr.sureAddr storeVar
    simp [Sem.run_bind, Sem.run_pure, Result.andThen, Value.cells, h.size, hs]
  unfold Oper.wp
  simp only [execOp, hx, hy, Sem.run_bind, Sem.run_pure, Result.andThen, hrun]
  exact hK' (a.put none undef) (w.setRow g (A ++ (cs ++ C)).toArray) (hK _ (setRow_blk hb) (setRow_grown _ _ _))
end
/-! ### sizes -/
def szZ (l : Int) (n : Nat) : Int := if (n : Int) ≤ l then l - n else -1
theorem szZ_yes {l : Int} {n : Nat} (h : (n : Int) ≤ l) : szZ l n = l - n := if_pos h
theorem szZ_no {l : Int} {n : Nat} (h : ¬ (n : Int) ≤ l) : szZ l n = -1 := if_neg h
/-- numbers and lengths as the form of the arguments bounds them -/
def Cs.ok : Cs → Prop
  | .nil => True
  | .int n r => i64ok n ∧ r.ok
  | .bool _ r => r.ok
  | .str s r => s.length ≤ 9223372036854775807 ∧ r.ok
  | .sl _ _ n i r => n ≤ 9223372036854775807 ∧ i.ok ∧ r.ok
theorem Cs.ok_app {b : Cs} : ∀ {a : Cs}, (a.app b).ok ↔ a.ok ∧ b.ok
  | .nil => by simp [app, ok]
  | .int _ r => by simp only [app, ok, ok_app (a := r), and_assoc]
  | .bool _ r => by simp only [app, ok, ok_app (a := r)]
  | .str _ r => by simp only [app, ok, ok_app (a := r), and_assoc]
  | .sl _ _ _ _ r => by simp only [app, ok, ok_app (a := r), and_assoc]
section
variable {α : Type} {f : α → Cs}
theorem cat_ok {xs : List α} (h : (cat f xs).ok) (j : Nat) (hj : j < xs.length) : (f xs[j]).ok := by
  rw [cat_split xs j hj, Cs.ok_app, Cs.ok_app] at h
  exact h.2.1
theorem cat_wt_take (xs : List α) (j : Nat) (hj : j < xs.length) : (cat f (xs.take (j + 1))).wt = (cat f (xs.take j)).wt + (f xs[j]).wt := by
  rw [List.take_succ_eq_append_getElem hj, cat_app, cat_one, Cs.wt_app]
theorem cat_wt_take_le (xs : List α) (j : Nat) : (cat f (xs.take j)).wt ≤ (cat f xs).wt := by
  conv => rhs; rw [← List.take_append_drop j xs]
  rw [cat_app, Cs.wt_app]
  omega
theorem cat_take_succ (xs : List α) (j : Nat) (hj : j < xs.length) : cat f (xs.take (j + 1)) = (cat f (xs.take j)).app (f xs[j]) := by
  rw [List.take_succ_eq_append_getElem hj, cat_app, cat_one]
theorem cat_cnt_take (xs : List α) (j : Nat) (hj : j < xs.length) : (cat f (xs.take (j + 1))).cnt = (cat f (xs.take j)).cnt + (f xs[j]).cnt := by
  rw [List.take_succ_eq_append_getElem hj, cat_app, cat_one, Cs.cnt_app]
theorem cat_cnt_take_le (xs : List α) (j : Nat) : (cat f (xs.take j)).cnt ≤ (cat f xs).cnt := by
  conv => rhs; rw [← List.take_append_drop j xs]
  rw [cat_app, Cs.cnt_app]
  omega
end
/-- all old cells and marks read as before -/
theorem bcell {W w1 : World} (hb : Below W.heap.size W w1) : (∀ b o, b < W.heap.size → w1.cell? ⟨b, o, none⟩ = W.cell? ⟨b, o, none⟩) ∧ (∀ b o, b < W.heap.size → w1.frozen? ⟨b, o, none⟩ = W.frozen? ⟨b, o, none⟩) :=
  ⟨fun b o h => hb.cell (p := ⟨b, o, none⟩) h, fun b o h => hb.frozen (p := ⟨b, o, none⟩) h⟩
def strC (s : List UInt8) : Cs := .str s .nil
def intC (n : Int) : Cs := .int n .nil
theorem strC_width (s : List UInt8) : (strC s).width = 1 := rfl
theorem intC_width (n : Int) : (intC n).width = 1 := rfl
theorem strC_cnt (s : List UInt8) : (strC s).cnt = 1 := rfl
theorem intC_cnt (n : Int) : (intC n).cnt = 1 := rfl
theorem strs_wt : ∀ xs : List (List UInt8), (cat strC xs).wt = (xs.map List.length).sum
  | [] => rfl
  | x :: xs => by rw [cat_cons, Cs.wt_app, strs_wt xs]; simp [strC, Cs.wt]
theorem rep_strs {B : Nat → Prop} {w : World} : ∀ {xs : List (List UInt8)} {cells : List Value}, Rep B w (cat strC xs) cells → cells = xs.map strv
  | [], _, h => by simp only [cat, Rep] at h; exact h
  | x :: xs, _, h => by
    rw [cat_cons] at h
    simp only [strC, Cs.app, Rep] at h
    obtain ⟨c', rfl, h⟩ := h
    rw [rep_strs h]; rfl
theorem rep_strs_mk (B : Nat → Prop) (w : World) : ∀ (xs : List (List UInt8)), Rep B w (cat strC xs) (xs.map strv)
  | [] => by simp only [cat, Rep]; rfl
  | x :: xs => by
    rw [cat_cons]
    simp only [strC, Cs.app, Rep]
    exact ⟨_, rfl, rep_strs_mk B w xs⟩
theorem own_strs {w : World} {base : Nat} : ∀ {xs : List (List UInt8)} {cells : List Value} {F : List Nat}, Own w base (cat strC xs) cells F → cells = xs.map strv ∧ F = []
  | [], _, _, h => by simp only [cat, Own] at h; exact h
  | x :: xs, _, _, h => by
    rw [cat_cons] at h
    simp only [strC, Cs.app, Own] at h
    obtain ⟨c', rfl, h⟩ := h
    obtain ⟨rfl, rfl⟩ := own_strs h
    exact ⟨rfl, rfl⟩
theorem own_strs_mk (w : World) (base : Nat) : ∀ (xs : List (List UInt8)), Own w base (cat strC xs) (xs.map strv) []
  | [] => by simp [cat, Own]
  | x :: xs => by
    rw [cat_cons]
    simp only [strC, Cs.app, Own]
    exact ⟨_, rfl, own_strs_mk w base xs⟩
theorem Rep.strs {B : Nat → Prop} {w : World} {e n : Nat} {xs : List (List UInt8)} {v : Value} (h : Rep B w (.sl e 1 n (cat strC xs) .nil) [v]) : SlR w 1 v n (xs.map strv) := by
  simp only [Rep] at h
  obtain ⟨A, c, cells, _, he, hw, hne, hL, rfl⟩ := h
  injection he with he _
  subst he
  have hl := hL.length
  rw [hw] at hl
  obtain rfl := rep_strs hL
  refine ⟨A, c, rfl, hl, fun hn => ?_⟩
  obtain ⟨ad, rfl, _, _, hc⟩ := hne (by omega)
  exact ⟨ad, rfl, hc⟩
theorem Own.strs {w : World} {base e n : Nat} {xs : List (List UInt8)} {v : Value} {F : List Nat} (h : Own w base (.sl e 1 n (cat strC xs) .nil) [v] F) : w.ownsRow base e 1 v n (xs.map strv) ∧ F = v.ownBlock.toList := by
  obtain ⟨cells, F1, rfl, h1, h2, h3⟩ := Own.sl1.1 h
  obtain ⟨rfl, rfl⟩ := own_strs h3
  exact ⟨h2, List.append_nil _⟩
theorem Own.strs_mk {w : World} {base e n : Nat} {xs : List (List UInt8)} {v : Value} (hn : n = xs.length) (h : w.ownsRow base e 1 v n (xs.map strv)) : Own w base (.sl e 1 n (cat strC xs) .nil) [v] v.ownBlock.toList :=
  Own.sl1.2 ⟨_, [], (List.append_nil _).symm, by rw [cat_width strC_width, hn], h, own_strs_mk w base xs⟩
theorem Mine.strs_mk {w : World} {base e n : Nat} {xs : List (List UInt8)} {v : Value} (hn : n = xs.length) (h : w.ownsRow base e 1 v n (xs.map strv)) : Mine w base (.sl e 1 n (cat strC xs) .nil) [v] :=
  ⟨_, by cases v.ownBlock <;> simp, Own.strs_mk hn h⟩
theorem marks_cons (k n : Nat) : marks k (n + 1) = markL k :: marks (k + 1) n := by
  simp only [marks, List.range_succ_eq_map, List.map_cons, List.map_map, Nat.add_zero]
  congr 1
  apply List.map_congr_left
  intro i _
  simp only [Function.comp]
  congr 1
  omega
theorem strs_mkE : ∀ (xs : List (List UInt8)) (k : Nat), (cat strC xs).mkE k = cat strC (marks k xs.length)
  | [], k => rfl
  | x :: xs, k => by
    rw [cat_cons, Cs.mkE_app, List.length_cons, marks_cons, cat_cons, strs_mkE xs]
    rfl
/-! ### marks laid over a list -/
def mks {α : Type} (mk : α → Nat → α) (cnt : α → Nat) : List α → Nat → List α
  | [], _ => []
  | x :: xs, k => mk x k :: mks mk cnt xs (k + cnt x)
def cts {α : Type} (cnt : α → Nat) : List α → Nat
  | [] => 0
  | x :: xs => cnt x + cts cnt xs
section
variable {α : Type} {mk : α → Nat → α} {cnt : α → Nat}
theorem mks_length : ∀ (xs : List α) (k : Nat), (mks mk cnt xs k).length = xs.length
  | [], _ => rfl
  | x :: xs, k => by rw [mks, List.length_cons, mks_length xs, List.length_cons]
theorem cts_append (ys : List α) : ∀ xs : List α, cts cnt (xs ++ ys) = cts cnt xs + cts cnt ys
  | [] => by simp [cts]
  | x :: xs => by rw [List.cons_append, cts, cts_append ys xs, cts]; omega
theorem mks_append (ys : List α) : ∀ (xs : List α) (k : Nat), mks mk cnt (xs ++ ys) k = mks mk cnt xs k ++ mks mk cnt ys (k + cts cnt xs)
  | [], k => by simp [mks, cts]
  | x :: xs, k => by rw [List.cons_append, mks, mks_append ys xs, mks, cts, List.cons_append, Nat.add_assoc]
theorem cts_take_succ (xs : List α) (j : Nat) (hj : j < xs.length) : cts cnt (xs.take (j + 1)) = cts cnt (xs.take j) + cnt xs[j] := by
  rw [List.take_succ_eq_append_getElem hj, cts_append]; simp [cts]
theorem cts_take_le (xs : List α) (j : Nat) : cts cnt (xs.take j) ≤ cts cnt xs := by
  conv => rhs; rw [← List.take_append_drop j xs]
  rw [cts_append]; omega
theorem mks_take_succ (xs : List α) (k j : Nat) (hj : j < xs.length) : mks mk cnt (xs.take (j + 1)) k ++ xs.drop (j + 1) = mks mk cnt (xs.take j) k ++ (mk xs[j] (k + cts cnt (xs.take j)) :: xs.drop (j + 1)) := by
  rw [List.take_succ_eq_append_getElem hj, mks_append, List.append_assoc]; rfl
theorem mks_take_drop (xs : List α) (k j : Nat) (hj : j < xs.length) : mks mk cnt (xs.take j) k ++ xs.drop j = mks mk cnt (xs.take j) k ++ (xs[j] :: xs.drop (j + 1)) := by
  rw [List.drop_eq_getElem_cons hj]
theorem mks_get (xs : List α) (k j : Nat) (hj : j < xs.length) : (mks mk cnt xs k)[j]'(by rw [mks_length]; exact hj) = mk xs[j] (k + cts cnt (xs.take j)) := by
  have h : mks mk cnt xs k = mks mk cnt (xs.take j) k ++ (mk xs[j] (k + cts cnt (xs.take j)) :: mks mk cnt (xs.drop (j + 1)) (k + cts cnt (xs.take j) + cnt xs[j])) := by
    conv => lhs; rw [← List.take_append_drop j xs]
    rw [mks_append, List.drop_eq_getElem_cons hj, mks]
  have hl : (mks mk cnt (xs.take j) k).length = j := by rw [mks_length, List.length_take, Nat.min_eq_left (by omega)]
  have h2 : (mks mk cnt xs k)[j]? = some (mk xs[j] (k + cts cnt (xs.take j))) := by
    rw [h, List.getElem?_append_right (by omega), hl, Nat.sub_self]; rfl
  have h3 := List.getElem?_eq_getElem (l := mks mk cnt xs k) (i := j) (by rw [mks_length]; exact hj)
  rw [h3] at h2
  exact Option.some.inj h2
end
theorem mks_strs : ∀ (xs : List (List UInt8)) (k : Nat), mks (fun _ k => markL k) (fun _ => 1) xs k = marks k xs.length
  | [], _ => rfl
  | x :: xs, k => by rw [mks, List.length_cons, marks_cons, mks_strs xs]
theorem cts_one {α : Type} : ∀ xs : List α, cts (fun _ => 1) xs = xs.length
  | [] => rfl
  | x :: xs => by rw [cts, cts_one xs, List.length_cons]; omega

/-! ### one element of a slice of one's own, turned -/
theorem own_round {w : World} {base e sz n c g : Nat} {α : Type} {f : α → Cs} {a b : List α} {x : α} {F : List Nat} (hf : ∀ x, (f x).width = sz)
    (h : Own w base (.sl e sz n (cat f (a ++ x :: b)) .nil) [.slice (some ⟨g, 0, none⟩) n c] F) :
    ∃ c1 c2 c3 spare G1 G2 G3, F = g :: (G1 ++ (G2 ++ G3)) ∧ Own w base (cat f a) c1 G1 ∧ Own w base (f x) c2 G2 ∧ Own w base (cat f b) c3 G3 ∧ c1.length = a.length * sz ∧ base ≤ g ∧ Blk w g e (c1 ++ (c2 ++ (c3 ++ spare))).toArray ∧
      ∀ w' x' c2', Own w' base (cat f a) c1 G1 → Own w' base (f x') c2' G2 → Own w' base (cat f b) c3 G3 → Blk w' g e (c1 ++ (c2' ++ (c3 ++ spare))).toArray → Own w' base (.sl e sz n (cat f (a ++ x' :: b)) .nil) [.slice (some ⟨g, 0, none⟩) n c] F := by
  obtain ⟨cells, F1, rfl, hw, hr, hi⟩ := Own.sl1.1 h
  rw [cat_app, cat_cons] at hi
  obtain ⟨c1, _, G1, _, rfl, rfl, h1, hi⟩ := Own.app.1 hi
  obtain ⟨c2, c3, G2, G3, rfl, rfl, h2, h3⟩ := Own.app.1 hi
  have hr2 := hr.2
  rcases hr2 with ⟨h0, _⟩ | ⟨g', cap, cur, hv, hb, hh, hnc, hcm, hs, ht⟩
  · cases h0
  injection hv with e1 _ e3
  injection e1 with e1
  injection e1 with e1
  subst e1 e3
  have hcur : cur.toList = c1 ++ (c2 ++ (c3 ++ cur.toList.drop (n * sz))) := by
    conv => lhs; rw [← List.take_append_drop (n * sz) cur.toList, ht]
    simp only [List.append_assoc]
  have hl1 : c1.length = a.length * sz := by rw [h1.length, cat_width hf]
  have hl2 : c2.length = sz := by rw [h2.length, hf]
  have hcs : cur = (c1 ++ (c2 ++ (c3 ++ cur.toList.drop (n * sz)))).toArray := by rw [← hcur, Array.toArray_toList]
  refine ⟨c1, c2, c3, cur.toList.drop (n * sz), G1, G2, G3, rfl, h1, h2, h3, hl1, hb, by rw [← hcs]; exact hh, fun w' x' c2' o1 o2 o3 hb' => ?_⟩
  have hl2' : c2'.length = sz := by rw [o2.length, hf]
  refine Own.sl1.2 ⟨c1 ++ (c2' ++ c3), G1 ++ (G2 ++ G3), rfl, ?_, ⟨?_, .inr ⟨g, c, _, rfl, hb, hb', hnc, hcm, ?_, ?_⟩⟩, ?_⟩
  · rw [cat_app, cat_cons, Cs.width_app, Cs.width_app, hf] at hw ⊢
    exact hw
  · have := hr.1
    simp only [List.length_append] at this ⊢
    omega
  · rw [← hs]
    conv => rhs; rw [hcs]
    simp only [List.size_toArray, List.length_append]
    omega
  · have hlen : (c1 ++ (c2' ++ c3)).length = n * sz := by
      have := hr.1
      simp only [List.length_append] at this ⊢
      omega
    simp only []
    rw [show c1 ++ (c2' ++ (c3 ++ cur.toList.drop (n * sz))) = (c1 ++ (c2' ++ c3)) ++ cur.toList.drop (n * sz) by simp only [List.append_assoc], ← hlen, List.take_left']
    rfl
  · rw [cat_app, cat_cons]
    exact Own.app.2 ⟨_, _, _, _, rfl, rfl, o1, Own.app.2 ⟨_, _, _, _, rfl, rfl, o2, o3⟩⟩
theorem blk_get {w : World} {g e m : Nat} {L1 E L2 : List Value} (h : Blk w g e (L1 ++ (E ++ L2)).toArray) (hm : L1.length = m) {f : Nat} {u : Value} (hf : E[f]? = some u) : w.cell? ⟨g, m + f, none⟩ = some u := by
  subst hm
  rw [h.cell]
  simp only [List.getElem?_toArray]
  rw [List.getElem?_append_right (by omega), Nat.add_sub_cancel_left, List.getElem?_append_left (List.getElem?_eq_some_iff.1 hf).1]
  exact hf
theorem blk_put {w : World} {g e m : Nat} {L1 E L2 : List Value} (h : Blk w g e (L1 ++ (E ++ L2)).toArray) (hm : L1.length = m) {f : Nat} (v : Value) (hf : f < E.length) : Blk (w.setCell ⟨g, m + f, none⟩ v) g e (L1 ++ (E.set f v ++ L2)).toArray := by
  subst hm
  have := h.set (L1.length + f) v
  simp only [List.setIfInBounds_toArray] at this
  rw [List.set_append_right _ _ (by omega), Nat.add_sub_cancel_left, List.set_append_left _ _ hf] at this
  exact this
theorem Own.mod1 {w w' : World} {base : Nat} {d : Cs} {cs : List Value} {F : List Nat} (h : Own w base d cs F) {F' : List Nat} (hm : Mod F' w w') (hd : ∀ b ∈ F, b ∉ F') : Own w' base d cs F := h.mod hm hd
/-! ### locals that are structs -/
theorem blk_new (w : World) (cs : Array Value) (e : Nat) : Blk (w.alloc (.cells cs e)) w.heap.size e cs := heap_alloc_new w _
theorem Blk.setOther {w : World} {g e : Nat} {cs : Array Value} (h : Blk w g e cs) {a : Addr} (ha : a.block ≠ g) (v : Value) : Blk (w.setCell a v) g e cs := h.keep (Below.heap_setCell _ _ _ _ (fun e => ha e.symm))
theorem Blk.grown {w w' : World} {g e g' : Nat} {cs : Array Value} (h : Blk w g e cs) (hg : w.grownBy w' (some g')) (hn : g ≠ g') : Blk w' g e cs := h.keep (hg.block g h.lt (fun e => hn (by injection e)))
theorem blk_cells {w : World} {g e : Nat} {L : List Value} (h : Blk w g e L.toArray) : ∀ j v, L[j]? = some v → w.cell? ((⟨g, 0, none⟩ : Addr).add j) = some v := fun j v hv => by
  rw [add_plain, Nat.zero_add, h.cell]
  simpa using hv
theorem blk_cell0 {w : World} {g e : Nat} {L : List Value} (h : Blk w g e L.toArray) (f : Nat) {u : Value} (hf : L[f]? = some u) : w.cell? ⟨g, f, none⟩ = some u := by
  rw [h.cell]; simpa using hf
theorem blk_put0 {w : World} {g e : Nat} {L : List Value} (h : Blk w g e L.toArray) (f : Nat) (v : Value) : Blk (w.setCell ⟨g, f, none⟩ v) g e (L.set f v).toArray := by
  have := h.set f v
  simpa only [List.setIfInBounds_toArray] using this
/-- the blocks from B on stay -/
structure Above (B : Nat) (w w' : World) : Prop where
  size : w.heap.size ≤ w'.heap.size
  blk : ∀ b, B ≤ b → b < w.heap.size → w'.heap[b]? = w.heap[b]?
theorem Above.refl (B : Nat) (w : World) : Above B w w := ⟨Nat.le_refl _, fun _ _ _ => rfl⟩
theorem Above.setCell {B : Nat} {a w : World} (h : Above B a w) {p : Addr} (hp : p.block < B) (v : Value) : Above B a (w.setCell p v) :=
  ⟨by simpa [World.setCell] using h.size, fun b h1 h2 => (Below.heap_setCell _ _ _ _ (by omega)).trans (h.blk b h1 h2)⟩
theorem Above.below {B : Nat} {a w w' : World} (h : Above B a w) (hb : Below w.heap.size w w') : Above B a w' :=
  ⟨Nat.le_trans h.size hb.size, fun b h1 h2 => (hb.block b (Nat.lt_of_lt_of_le h2 h.size)).trans (h.blk b h1 h2)⟩
theorem Above.grown {B g : Nat} {a w w' : World} (h : Above B a w) (hg : w.grownBy w' (some g)) (hB : g < B) : Above B a w' :=
  ⟨Nat.le_trans h.size hg.size, fun b h1 h2 => (hg.block b (Nat.lt_of_lt_of_le h2 h.size) (fun e => by injection e with e; omega)).trans (h.blk b h1 h2)⟩
theorem Above.alloc {B : Nat} {a w : World} (h : Above B a w) (o : Obj) : Above B a (w.alloc o) := h.below ((Below.refl _ _).alloc (Nat.le_refl _) o)
theorem Above.drew {B : Nat} {a w : World} (h : Above B a w) : Above B a w.drew := ⟨h.size, h.blk⟩
theorem Own.above {w w' : World} {base base' : Nat} {d : Cs} {cs : List Value} {F : List Nat} (h : Own w base d cs F) (ha : Above base w w') (hb : base' ≤ base) : Own w' base' d cs F :=
  h.keep0 fun b hm => ⟨Nat.le_trans hb (h.in b hm).1, ha.blk b (h.in b hm).1 (h.in b hm).2⟩
theorem bodyPost_cell {P : Program} {fn : Func} {R : Ending → World → Prop} {a : Act} {w : World} {s : Tmp} {t n : Nat} (hres : fn.results = #[.cell s t]) (p : Addr) (hp : a.tmps.getD s undef = .pointer (some p)) (cs : List Value) (h : Agg P t n) (hl : cs.length = n)
    (hc : ∀ j v, cs[j]? = some v → w.cell? (p.add j) = some v) (hd : a.defers = []) (hR : R (.returned (.agg cs.toArray)) w) : bodyPost P fn R .ret a w := by
  refine bodyPost_ret (v := .agg cs.toArray) ?_ hd hR
  unfold results
  rw [hres]
  have hp2 : a.tmps[s]?.getD undef = .pointer (some p) := by simpa using hp
  simp [hp2, asAddr, loadVar, (hl ▸ h : Agg P t cs.length).isAgg, (hl ▸ h : Agg P t cs.length).size, run_loadCells_list (P := P) (w := w) p cs hc, Result.andThen]
theorem wpX_skip2 {P : Program} {ops : Array Oper} {Q : Exit → Act → World → Prop} {tail : List Oper} {i : Nat} {r : List Nat} {T : Array Value} {D : List Deferred} {w : World} {o : Oper} {d : Tmp} (hi : ops[i]? = some o) (hd : o.dst = some d) (hw : Region.wanted o (yielded ops T) = false)
    (h : wpX P ops Q tail r ⟨T.setIfInBounds d undef, D⟩ w) : wpX P ops Q tail (i :: r) ⟨T, D⟩ w :=
  wpX_skip hi hw (by rw [hd]; exact h)
end Go.Proofs.YtonaacdefidomaaGreat
namespace Go.Proofs.YtonaacdefidomaaGreat
open Go.RowKit
inductive HT where
  | leaf
  | one (i : Nat) (r : HT)
  | two (i k : Nat) (r s : HT)
def HT.len : HT → Nat
  | .leaf => 0
  | .one _ r => r.len + 1
  | .two _ _ r _ => r.len + 1
section
variable {P : Program} {md : Region.Mode} {ops : Array Oper}
def wpT (P : Program) (ops : Array Oper) (Q : Exit → Act → World → Prop) (tail : List Oper) : HT → Act → World → Prop
  | .leaf, a, w => wpList P ops Q tail a w
  | .one i r, a, w => match ops[i]? with
    | none => False
    | some o =>
      if quietKind P o.op = true then (Region.wanted o (yielded ops a.tmps) = true → plainB o a = true) ∧ wpList P ops (stopQ w (wpT P ops Q tail r)) [o] a w
      else wpList P ops (stopA w (wpT P ops Q tail r)) [o] a w
  | .two i k r s, a, w => match ops[i]? with
    | none => False
    | some o => match ops[k]? with
      | none => False
      | some o' => wpList P ops (stopA w (wpT P ops Q tail r)) [o] a w ∧ wpList P ops (stopA w (wpT P ops Q tail s)) [o'] a w

theorem wpT_quiet {Q : Exit → Act → World → Prop} {tail : List Oper} {i : Nat} {r : HT} {a : Act} {w : World} {o : Oper} (hi : ops[i]? = some o) (hk : quietKind P o.op = true) (hp : plainB o a = true)
    (h : wpList P ops (stopQ w (wpT P ops Q tail r)) [o] a w) : wpT P ops Q tail (.one i r) a w := by
  simp only [wpT, hi, hk, if_true]
  exact ⟨fun _ => hp, h⟩
theorem wpT_actor {Q : Exit → Act → World → Prop} {tail : List Oper} {i : Nat} {r : HT} {a : Act} {w : World} {o : Oper} (hi : ops[i]? = some o) (hk : quietKind P o.op = false)
    (h : wpList P ops (stopA w (wpT P ops Q tail r)) [o] a w) : wpT P ops Q tail (.one i r) a w := by
  simp only [wpT, hi, hk, Bool.false_eq_true, if_false]
  exact h
theorem wpT_two {Q : Exit → Act → World → Prop} {tail : List Oper} {i k : Nat} {r s : HT} {a : Act} {w : World} {o o' : Oper} (hi : ops[i]? = some o) (hk : ops[k]? = some o')
    (h : wpList P ops (stopA w (wpT P ops Q tail r)) [o] a w) (h' : wpList P ops (stopA w (wpT P ops Q tail s)) [o'] a w) : wpT P ops Q tail (.two i k r s) a w := by
  simp only [wpT, hi, hk]
  exact ⟨h, h'⟩
theorem wpT_nil {Q : Exit → Act → World → Prop} {tail : List Oper} {a : Act} {w : World} (h : wpList P ops Q tail a w) : wpT P ops Q tail .leaf a w := h

def headT (P : Program) (md : Region.Mode) (ops : Array Oper) (n : Nat) : HT → Array Bool → Bool
  | .leaf, listed => Region.seqB md ops (ops.size - n) n listed
  | .one i r, listed => decide (i < n) && (match ops[i]? with
      | none => false
      | some o => if quietKind P o.op = true then (Region.ready md ops listed).contains i && Region.free md ops listed i else decide (Region.ready md ops listed = [i])) &&
    headT P md ops n r (listed.setIfInBounds i true)
  | .two i k r s, listed => decide (i < n) && decide (k < n) && decide (r.len = s.len) && decide (Region.ready md ops listed = [i, k]) && headT P md ops n r (listed.setIfInBounds i true) && headT P md ops n s (listed.setIfInBounds k true)
def headBT (P : Program) (md : Region.Mode) (ops : Array Oper) (n : Nat) (r : HT) : Bool :=
  Region.noSelect ops && (decide (n = ops.size) || (decide (n < ops.size) && Region.sinkB md ops n && Region.chainB md ops n)) && decide (r.len = n) && headT P md ops n r (Array.replicate ops.size false)

theorem wpOp_of_stopA {n : Nat} {Q : Exit → Act → World → Prop} {tail : List Oper} {r : HT} {j : Nat} {o : Oper} {listed : Array Bool} {a : Act} {w : World} {f : Nat} (ho : ops[j]? = some o)
    (step : ∀ a' w', stopA w (wpT P ops Q tail r) .normal a' w' → wpAnyC P md ops n (Ext w) (fun listed' a' w' => Region.seqB md ops (ops.size - n) n listed' = true ∧ wpList P ops Q tail a' w') f (listed.setIfInBounds j true) a' w')
    (h : wpList P ops (stopA w (wpT P ops Q tail r)) [o] a w) :
    wpOp P ops noQ j (wpAnyC P md ops n (Ext w) (fun listed' a' w' => Region.seqB md ops (ops.size - n) n listed' = true ∧ wpList P ops Q tail a' w') f (listed.setIfInBounds j true)) a w := by
  unfold wpOp
  simp only [ho]
  simp only [wpList] at h
  by_cases hw : Region.wanted o (yielded ops a.tmps) = true
  · rw [if_pos hw] at h ⊢
    rcases h with h | ⟨_, _, _, hx⟩
    · exact .inl (wp_off stopA_off step h)
    · exact hx.elim
  · rw [if_neg hw] at h ⊢
    exact step _ _ h

theorem wpAnyC_of_T {n : Nat} {Q : Exit → Act → World → Prop} {tail : List Oper} (hsel : ∀ (j : Nat) (o : Oper) cs b, ops[j]? = some o → o.op ≠ .select cs b) (hblk : Blocks md ops n) :
    ∀ (r : HT) (listed : Array Bool) (a : Act) (w : World), HeadInv md ops n listed → headT P md ops n r listed = true → wpT P ops Q tail r a w →
      wpAnyC P md ops n (Ext w) (fun listed' a' w' => Region.seqB md ops (ops.size - n) n listed' = true ∧ wpList P ops Q tail a' w') r.len listed a w
  | .leaf, _, _, w, _, hB, h => ⟨Ext.refl w, hB, h⟩
  | .two i k r s, listed, a, w, inv, hB, h => by
    simp only [headT, Bool.and_eq_true, decide_eq_true_eq] at hB
    obtain ⟨⟨⟨⟨⟨hin, hkn⟩, hlen⟩, hready⟩, hB1⟩, hB2⟩ := hB
    cases ho : ops[i]? with
    | none => simp only [wpT, ho] at h
    | some o =>
      cases ho' : ops[k]? with
      | none => simp only [wpT, ho, ho'] at h
      | some o' =>
        simp only [wpT, ho, ho'] at h
        have hri : i ∈ Region.ready md ops listed := by rw [hready]; simp
        have hrk : k ∈ Region.ready md ops listed := by rw [hready]; simp
        refine ⟨Ext.refl w, by rw [hready]; simp, fun j hj => ?_⟩
        rw [hready] at hj
        simp only [List.mem_cons, List.not_mem_nil, or_false] at hj
        rcases hj with rfl | rfl
        · exact ⟨hin, wpOp_of_stopA ho (fun a' w' hs => wpAnyC_mono (fun w2 h2 => hs.1.trans h2) _ _ _ _ (wpAnyC_of_T hsel hblk r _ a' w' (inv.set hri hin) hB1 hs.2)) h.1⟩
        · refine ⟨hkn, wpOp_of_stopA ho' (fun a' w' hs => ?_) h.2⟩
          have := wpAnyC_mono (fun w2 h2 => hs.1.trans h2) _ _ _ _ (wpAnyC_of_T hsel hblk s _ a' w' (inv.set hrk hkn) hB2 hs.2)
          rw [← hlen] at this
          exact this
  | .one i r, listed, a, w, inv, hB, h => by
    simp only [headT, Bool.and_eq_true, decide_eq_true_eq] at hB
    obtain ⟨⟨hin, hB1⟩, hB2⟩ := hB
    cases ho : ops[i]? with
    | none => rw [ho] at hB1; cases hB1
    | some o =>
      rw [ho] at hB1
      simp only [wpT, ho] at h
      simp only at hB1
      have hdone : ∀ (listed : Array Bool) (a : Act) (w : World), (Region.seqB md ops (ops.size - n) n listed = true ∧ wpList P ops Q tail a w) → ∀ j ∈ Region.ready md ops listed, n ≤ j := fun _ _ _ hx => seqB_ready hx.1
      by_cases hk : quietKind P o.op = true
      · rw [if_pos hk] at hB1 h
        simp only [Bool.and_eq_true] at hB1
        have hr : i ∈ Region.ready md ops listed := by simpa using hB1.1
        obtain ⟨hp, h⟩ := h
        simp only [wpList] at h
        have key : ∃ v, YieldsE P ops (Ext w) o v a ∧ wpT P ops Q tail r (a.put o.dst v) w := by
          by_cases hw : Region.wanted o (yielded ops a.tmps) = true
          · rw [if_pos hw] at h
            rcases h with h | ⟨_, _, _, hx⟩
            · have hst := Stable.op (P := P) (o := o) (a := a) hk (hp hw)
              unfold Oper.wp at h
              cases hrun : (execOp a.eval o).run P w with
              | halt x w' =>
                rw [hrun] at h
                cases x <;> simp only [Oper.upon] at h
                exact h.elim
              | ok nx w' =>
                obtain ⟨rfl, hall⟩ := hst w nx w' hrun
                rw [hrun] at h
                have hval : ∃ v, nx = .value v := by
                  obtain ⟨dst, op, type, pos, after, guard⟩ := o
                  have fromVal : ∀ {s : Sem Value}, (do Pure.pure (Next.value (← s)) : Sem Next).run P w' = .ok nx w' → ∃ v, nx = .value v := fun {s} hs => by
                    rw [Sem.run_bind] at hs
                    cases hs2 : s.run P w' with
                    | halt _ _ => rw [hs2] at hs; cases hs
                    | ok v w2 =>
                      rw [hs2] at hs
                      simp only [Result.andThen, Sem.run_pure, Result.ok.injEq] at hs
                      exact ⟨v, hs.1.symm⟩
                  cases op <;> first | exact absurd hk Bool.false_ne_true | exact fromVal hrun | skip
                  case move x => simp only [execOp, Sem.run_pure, Result.ok.injEq] at hrun; exact ⟨_, hrun.1.symm⟩
                  case assign x => simp only [execOp, Sem.run_pure, Result.ok.injEq] at hrun; exact ⟨_, hrun.1.symm⟩
                  case pick c x y =>
                    simp only [execOp, Sem.run_bind] at hrun
                    cases hs2 : (asBool (a.eval c)).run P w' with
                    | halt _ _ => rw [hs2] at hrun; cases hrun
                    | ok v w2 =>
                      rw [hs2] at hrun
                      simp only [Result.andThen, Sem.run_pure, Result.ok.injEq] at hrun
                      exact ⟨_, hrun.1.symm⟩
                  case nilCheck x =>
                    have hp' := hp hw
                    simp only [plainB] at hp'
                    simp only [execOp] at hrun
                    split at hp'
                    · rename_i ad he
                      rw [he] at hrun
                      simp only [Sem.run_pure, Result.ok.injEq] at hrun
                      exact ⟨_, hrun.1.symm⟩
                    · cases hp'
                  case call c =>
                    obtain ⟨⟨x, t⟩, hc⟩ := Option.isSome_iff_exists.1 (show (lenCall c).isSome = true from hk)
                    have hc' := lenCall_spec hc
                    subst hc'
                    refine fromVal (s := Builtin.len_ #[t] type #[a.eval x]) ?_
                    rw [← hrun]
                    simp only [execOp, resolve, invoke, builtin, Sem.run_bind, Sem.run_pure, Result.andThen_ok, List.map_toArray, List.map_cons, List.map_nil]
                obtain ⟨v, rfl⟩ := hval
                simp only [Oper.upon] at h
                exact ⟨v, .inl ⟨hw, fun w2 hw2 => hall w2 hw2⟩, h.2⟩
            · exact hx.elim
          · rw [if_neg hw] at h
            exact ⟨undef, .inr ⟨by simpa using hw, rfl⟩, h.2⟩
        obtain ⟨v, hy, hX⟩ := key
        exact take_first ho hsel hblk hin hdone r.len listed a w inv (fun j oj hj hne hun hno => Region.free_spec ho hB1.2 j oj hj hne hun hno) hr hy (Ext.refl w)
          (wpAnyC_of_T hsel hblk r _ _ w (inv.set hr hin) hB2 hX)
      · rw [if_neg hk] at hB1 h
        have hready : Region.ready md ops listed = [i] := by simpa using hB1
        have hr : i ∈ Region.ready md ops listed := by rw [hready]; simp
        refine ⟨Ext.refl w, by rw [hready]; simp, fun j hj => ?_⟩
        rw [hready] at hj
        have hji : j = i := by simpa using hj
        subst hji
        exact ⟨hin, wpOp_of_stopA ho (fun a' w' hs => wpAnyC_mono (fun w2 h2 => hs.1.trans h2) _ _ _ _ (wpAnyC_of_T hsel hblk r _ a' w' (inv.set hr hin) hB2 hs.2)) h⟩

theorem wp_region_t {id : Nat} {Q : Exit → Act → World → Prop} {a : Act} {w : World} {l : List Oper} (n : Nat) (r : HT) (hm : P.follows .mixedOrders = true) (hB : headBT P .any l.toArray n r = true)
    (h : wpT P l.toArray Q (l.drop n) r a w.drew) : (Code.region id l.toArray true).wp P Q a w := by
  simp only [headBT, Bool.and_eq_true, Bool.or_eq_true, decide_eq_true_eq] at hB
  obtain ⟨⟨⟨hsel, hcut⟩, hlen⟩, hsim⟩ := hB
  have hnl : n ≤ l.length := by
    rcases hcut with h1 | h1
    · simp at h1; omega
    · have := h1.1.1; simp at this; omega
  have hblk : Blocks .any l.toArray n := by
    rcases hcut with h1 | h1
    · intro listed _ i _ _ t ht
      obtain ⟨_, o, ho, _⟩ := mem_ready.1 ht
      have := (Array.getElem?_eq_some_iff.1 ho).1
      omega
    · intro listed inv i hin hun t ht
      rcases Nat.lt_or_ge t n with h2 | h2
      · exact h2
      · exact absurd ht (tail_waits h1.1.2 h1.2 h1.1.1 inv _ i rfl hin hun t h2)
  have inv0 : HeadInv .any l.toArray n (Array.replicate l.toArray.size false) :=
    ⟨by simp, fun j oj _ hl => (by rw [getD_replicate_false] at hl; cases hl), fun t _ ht => getD_in (by simpa using ht) (getD_replicate_false _ _)⟩
  have h1 := wpAnyC_of_T (P := P) (Region.noSelect_spec hsel) hblk r _ a w.drew inv0 hsim h
  have hdl : (l.drop n).length = l.toArray.size - n := by simp
  have h2 := wpAny_of_C (Q := Q) (g := l.toArray.size - n) (fun listed' a' w' hx => by
    rw [← hdl]
    refine wpAny_of_seq (l.drop n) n listed' a' w' (fun j => by simp [List.getElem?_drop]) ?_ hx.2
    rw [hdl]
    exact hx.1) r.len _ a w.drew h1
  refine wp_region_any hm ?_
  rw [show l.toArray.size = r.len + (l.toArray.size - n) by simp; omega]
  rw [show r.len + (l.toArray.size - n) = l.toArray.size by simp; omega]
  rw [show r.len + (l.toArray.size - n) = l.toArray.size by simp; omega] at h2
  exact h2
theorem wp_join {c : Code} {Q : Exit → Act → World → Prop} {a : Act} {w : World} (J : Act → Act → World → Prop) (h1 : c.wp P (fun e a' w' => e = .normal ∧ J a a' w') a w) (h2 : ∀ a' w', J a a' w' → Q .normal a' w') : c.wp P Q a w :=
  Code.wp_mono (Q := fun e a' w' => e = .normal ∧ J a a' w') (by rintro e a' w' ⟨rfl, h⟩; exact h2 a' w' h) h1
end
end Go.Proofs.YtonaacdefidomaaGreat
