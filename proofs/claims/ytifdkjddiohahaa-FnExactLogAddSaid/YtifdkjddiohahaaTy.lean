/-
  The structs of the laws as data and as rows of cells; opened and shut. Conditions: none.
-/
import Derived.Test.YtifdkjddiohahaaRow
namespace Go.Proofs.Ytifdkjddiohahaa
open Go.RowKit


structure IdD where
  rep : Int
  slot : Int
  deriving DecidableEq
def IdD.cs (x : IdD) (r : Cs) : Cs := (.int x.rep (.int x.slot r))
def IdD.c (x : IdD) : Cs := x.cs .nil
def IdD.cnt (_ : IdD) : Nat := 1 + 1
def IdD.mkv (_ : IdD) (k : Nat) : IdD := ⟨((k : Nat) : Int), ((k + 1 : Nat) : Int)⟩
def IdD.cntT (_ : IdD) : Nat := 0
def IdD.mkT (x : IdD) (_ : Nat) : IdD := ⟨x.rep, x.slot⟩
theorem IdD.width (x : IdD) : x.c.width = 2 := rfl


theorem E_Id : Elem Try.prog 40 84 (.agg #[.int .i64 0, .int .i64 0]) 2 16 := ⟨Try.underlying40, by kernel_rfl, rfl, by decide, by decide⟩


theorem agg_Id : Agg Try.prog 84 2 := ⟨by kernel_rfl, by kernel_rfl⟩
theorem IdD.open {B : Nat → Prop} {w : World} {x : IdD} {cs : List Value} (h : Rep B w x.c cs) : cs = [.int .i64 x.rep, .int .i64 x.slot] := by
  have h0 : Rep B w x.c cs := h
  obtain ⟨c1, rfl, h1⟩ := Rep.int.1 h0
  obtain ⟨c2, rfl, h2⟩ := Rep.int.1 h1
  obtain rfl := Rep.nil.1 h2
  exact rfl
theorem IdD.shut {B : Nat → Prop} {w : World} {x : IdD} : Rep B w x.c [.int .i64 x.rep, .int .i64 x.slot] := by
  have z : Rep B w .nil [] := Rep.nil.2 rfl
  exact (Rep.int.2 ⟨_, rfl, (Rep.int.2 ⟨_, rfl, z⟩)⟩)
theorem IdD.openO {w : World} {base : Nat} {x : IdD} {cs : List Value} {F : List Nat} (h : Own w base x.c cs F) : cs = [.int .i64 x.rep, .int .i64 x.slot] ∧ F = [] := by
  have h0 : Own w base x.c cs F := h
  obtain ⟨c1, rfl, h1⟩ := Own.int.1 h0
  obtain ⟨c2, rfl, h2⟩ := Own.int.1 h1
  obtain ⟨rfl, rfl⟩ := Own.nil.1 h2
  exact ⟨rfl, rfl⟩
theorem IdD.shutO {w : World} {base : Nat} {x : IdD} : Own w base x.c [.int .i64 x.rep, .int .i64 x.slot] ([]) := by
  have z : Own w base .nil [] [] := Own.nil.2 ⟨rfl, rfl⟩
  exact (Own.int.2 ⟨_, rfl, (Own.int.2 ⟨_, rfl, z⟩)⟩)


theorem agg_lId : Agg Try.prog 87 2 := ⟨by kernel_rfl, by kernel_rfl⟩


structure CmdD where
  kind : Int
  client : Int
  no : Int
  set : List UInt8
  name : List UInt8
  tag : List UInt8
  n : Int
  chunks : List (List UInt8)
  deriving DecidableEq
def CmdD.cs (x : CmdD) (r : Cs) : Cs := (.int x.kind (.int x.client (.int x.no (.str x.set (.str x.name (.str x.tag (.int x.n (.sl 9 1 x.chunks.length (cat strC x.chunks) r))))))))
def CmdD.c (x : CmdD) : Cs := x.cs .nil
def CmdD.cnt (x : CmdD) : Nat := 1 + 1 + 1 + 1 + 1 + 1 + 1 + cts (fun _ => 1) x.chunks
def CmdD.mkv (x : CmdD) (k : Nat) : CmdD := ⟨((k : Nat) : Int), ((k + 1 : Nat) : Int), ((k + 1 + 1 : Nat) : Int), markL (k + 1 + 1 + 1), markL (k + 1 + 1 + 1 + 1), markL (k + 1 + 1 + 1 + 1 + 1), ((k + 1 + 1 + 1 + 1 + 1 + 1 : Nat) : Int), mks (fun _ k => markL k) (fun _ => 1) x.chunks (k + 1 + 1 + 1 + 1 + 1 + 1 + 1)⟩
def CmdD.cntT (x : CmdD) : Nat := cts (fun _ => 1) x.chunks
def CmdD.mkT (x : CmdD) (k : Nat) : CmdD := ⟨x.kind, x.client, x.no, x.set, x.name, x.tag, x.n, mks (fun _ k => markL k) (fun _ => 1) x.chunks (k)⟩
theorem CmdD.width (x : CmdD) : x.c.width = 8 := rfl





theorem agg_Cmd : Agg Try.prog 27 8 := ⟨by kernel_rfl, by kernel_rfl⟩
theorem CmdD.open {B : Nat → Prop} {w : World} {x : CmdD} {cs : List Value} (h : Rep B w x.c cs) : ∃ A0 k0, cs = [.int .i64 x.kind, .int .i64 x.client, .int .i64 x.no, .string (bs x.set), .string (bs x.name), .string (bs x.tag), .int .i64 x.n, .slice A0 x.chunks.length k0] ∧ Rep B w (.sl 9 1 x.chunks.length (cat strC x.chunks) .nil) [.slice A0 x.chunks.length k0] := by
  have h0 : Rep B w x.c cs := h
  obtain ⟨c1, rfl, h1⟩ := Rep.int.1 h0
  obtain ⟨c2, rfl, h2⟩ := Rep.int.1 h1
  obtain ⟨c3, rfl, h3⟩ := Rep.int.1 h2
  obtain ⟨c4, rfl, h4⟩ := Rep.str.1 h3
  obtain ⟨c5, rfl, h5⟩ := Rep.str.1 h4
  obtain ⟨c6, rfl, h6⟩ := Rep.str.1 h5
  obtain ⟨c7, rfl, h7⟩ := Rep.int.1 h6
  obtain ⟨A0, k0, c8, rfl, s0, h8⟩ := Rep.sl.1 h7
  obtain rfl := Rep.nil.1 h8
  exact ⟨A0, k0, rfl, s0⟩
theorem CmdD.shut {B : Nat → Prop} {w : World} {x : CmdD} {v0 : Value} (s0 : Rep B w (.sl 9 1 x.chunks.length (cat strC x.chunks) .nil) [v0]) : Rep B w x.c [.int .i64 x.kind, .int .i64 x.client, .int .i64 x.no, .string (bs x.set), .string (bs x.name), .string (bs x.tag), .int .i64 x.n, v0] := by
  obtain ⟨A0, k0, q0, e0, s0, _⟩ := Rep.sl.1 s0
  injection e0 with e0 _
  subst e0
  have z : Rep B w .nil [] := Rep.nil.2 rfl
  exact (Rep.int.2 ⟨_, rfl, (Rep.int.2 ⟨_, rfl, (Rep.int.2 ⟨_, rfl, (Rep.str.2 ⟨_, rfl, (Rep.str.2 ⟨_, rfl, (Rep.str.2 ⟨_, rfl, (Rep.int.2 ⟨_, rfl, (Rep.sl.2 ⟨_, _, _, rfl, s0, z⟩)⟩)⟩)⟩)⟩)⟩)⟩)⟩)
theorem CmdD.openO {w : World} {base : Nat} {x : CmdD} {cs : List Value} {F : List Nat} (h : Own w base x.c cs F) : ∃ A0 k0 F0, cs = [.int .i64 x.kind, .int .i64 x.client, .int .i64 x.no, .string (bs x.set), .string (bs x.name), .string (bs x.tag), .int .i64 x.n, .slice A0 x.chunks.length k0] ∧ F = F0 ∧ Own w base (.sl 9 1 x.chunks.length (cat strC x.chunks) .nil) [.slice A0 x.chunks.length k0] F0 := by
  have h0 : Own w base x.c cs F := h
  obtain ⟨c1, rfl, h1⟩ := Own.int.1 h0
  obtain ⟨c2, rfl, h2⟩ := Own.int.1 h1
  obtain ⟨c3, rfl, h3⟩ := Own.int.1 h2
  obtain ⟨c4, rfl, h4⟩ := Own.str.1 h3
  obtain ⟨c5, rfl, h5⟩ := Own.str.1 h4
  obtain ⟨c6, rfl, h6⟩ := Own.str.1 h5
  obtain ⟨c7, rfl, h7⟩ := Own.int.1 h6
  obtain ⟨A0, k0, c8, F0, G0, rfl, rfl, s0, h8⟩ := Own.sl.1 h7
  obtain ⟨rfl, rfl⟩ := Own.nil.1 h8
  exact ⟨A0, k0, F0, rfl, by simp only [List.append_nil], s0⟩
theorem CmdD.shutO {w : World} {base : Nat} {x : CmdD} {v0 : Value} {F0 : List Nat} (s0 : Own w base (.sl 9 1 x.chunks.length (cat strC x.chunks) .nil) [v0] F0) : Own w base x.c [.int .i64 x.kind, .int .i64 x.client, .int .i64 x.no, .string (bs x.set), .string (bs x.name), .string (bs x.tag), .int .i64 x.n, v0] (F0) := by
  obtain ⟨A0, k0, q0, X0, Y0, e0, f0, s0, g0⟩ := Own.sl.1 s0
  injection e0 with e0 p0
  subst e0
  subst p0
  obtain ⟨_, rfl⟩ := Own.nil.1 g0
  rw [List.append_nil] at f0
  subst f0
  have z : Own w base .nil [] [] := Own.nil.2 ⟨rfl, rfl⟩
  have hh := (show Own w base x.c [.int .i64 x.kind, .int .i64 x.client, .int .i64 x.no, .string (bs x.set), .string (bs x.name), .string (bs x.tag), .int .i64 x.n, .slice A0 _ k0] (_) from (Own.int.2 ⟨_, rfl, (Own.int.2 ⟨_, rfl, (Own.int.2 ⟨_, rfl, (Own.str.2 ⟨_, rfl, (Own.str.2 ⟨_, rfl, (Own.str.2 ⟨_, rfl, (Own.int.2 ⟨_, rfl, (Own.sl.2 ⟨_, _, _, _, _, rfl, rfl, s0, z⟩)⟩)⟩)⟩)⟩)⟩)⟩)⟩))
  simp only [List.append_nil] at hh
  exact hh


theorem agg_lCmd : Agg Try.prog 24 8 := ⟨by kernel_rfl, by kernel_rfl⟩


structure SegD where
  first : Int
  text : List UInt8
  deriving DecidableEq
def SegD.cs (x : SegD) (r : Cs) : Cs := (.int x.first (.str x.text r))
def SegD.c (x : SegD) : Cs := x.cs .nil
def SegD.cnt (_ : SegD) : Nat := 1 + 1
def SegD.mkv (_ : SegD) (k : Nat) : SegD := ⟨((k : Nat) : Int), markL (k + 1)⟩
def SegD.cntT (_ : SegD) : Nat := 0
def SegD.mkT (x : SegD) (_ : Nat) : SegD := ⟨x.first, x.text⟩
theorem SegD.width (x : SegD) : x.c.width = 2 := rfl


theorem E_Seg : Elem Try.prog 44 90 (.agg #[.int .i64 0, .string ⟨#[]⟩]) 2 24 := ⟨Try.underlying44, by kernel_rfl, rfl, by decide, by decide⟩


theorem agg_Seg : Agg Try.prog 90 2 := ⟨by kernel_rfl, by kernel_rfl⟩
theorem SegD.open {B : Nat → Prop} {w : World} {x : SegD} {cs : List Value} (h : Rep B w x.c cs) : cs = [.int .i64 x.first, .string (bs x.text)] := by
  have h0 : Rep B w x.c cs := h
  obtain ⟨c1, rfl, h1⟩ := Rep.int.1 h0
  obtain ⟨c2, rfl, h2⟩ := Rep.str.1 h1
  obtain rfl := Rep.nil.1 h2
  exact rfl
theorem SegD.shut {B : Nat → Prop} {w : World} {x : SegD} : Rep B w x.c [.int .i64 x.first, .string (bs x.text)] := by
  have z : Rep B w .nil [] := Rep.nil.2 rfl
  exact (Rep.int.2 ⟨_, rfl, (Rep.str.2 ⟨_, rfl, z⟩)⟩)
theorem SegD.openO {w : World} {base : Nat} {x : SegD} {cs : List Value} {F : List Nat} (h : Own w base x.c cs F) : cs = [.int .i64 x.first, .string (bs x.text)] ∧ F = [] := by
  have h0 : Own w base x.c cs F := h
  obtain ⟨c1, rfl, h1⟩ := Own.int.1 h0
  obtain ⟨c2, rfl, h2⟩ := Own.str.1 h1
  obtain ⟨rfl, rfl⟩ := Own.nil.1 h2
  exact ⟨rfl, rfl⟩
theorem SegD.shutO {w : World} {base : Nat} {x : SegD} : Own w base x.c [.int .i64 x.first, .string (bs x.text)] ([]) := by
  have z : Own w base .nil [] [] := Own.nil.2 ⟨rfl, rfl⟩
  exact (Own.int.2 ⟨_, rfl, (Own.str.2 ⟨_, rfl, z⟩)⟩)


theorem agg_lSeg : Agg Try.prog 107 2 := ⟨by kernel_rfl, by kernel_rfl⟩


structure LogD where
  segs : List SegD
  next : Int
  mark : Int
  deriving DecidableEq
def LogD.cs (x : LogD) (r : Cs) : Cs := (.sl 90 2 x.segs.length (cat SegD.c x.segs) (.int x.next (.int x.mark r)))
def LogD.c (x : LogD) : Cs := x.cs .nil
def LogD.cnt (x : LogD) : Nat := cts SegD.cnt x.segs + 1 + 1
def LogD.mkv (x : LogD) (k : Nat) : LogD := ⟨mks SegD.mkv SegD.cnt x.segs (k), ((k + cts SegD.cnt x.segs : Nat) : Int), ((k + cts SegD.cnt x.segs + 1 : Nat) : Int)⟩
def LogD.cntT (x : LogD) : Nat := cts SegD.cnt x.segs
def LogD.mkT (x : LogD) (k : Nat) : LogD := ⟨mks SegD.mkv SegD.cnt x.segs (k), x.next, x.mark⟩
theorem LogD.width (x : LogD) : x.c.width = 3 := rfl





theorem agg_Log : Agg Try.prog 46 3 := ⟨by kernel_rfl, by kernel_rfl⟩
theorem LogD.open {B : Nat → Prop} {w : World} {x : LogD} {cs : List Value} (h : Rep B w x.c cs) : ∃ A0 k0, cs = [.slice A0 x.segs.length k0, .int .i64 x.next, .int .i64 x.mark] ∧ Rep B w (.sl 90 2 x.segs.length (cat SegD.c x.segs) .nil) [.slice A0 x.segs.length k0] := by
  have h0 : Rep B w x.c cs := h
  obtain ⟨A0, k0, c1, rfl, s0, h1⟩ := Rep.sl.1 h0
  obtain ⟨c2, rfl, h2⟩ := Rep.int.1 h1
  obtain ⟨c3, rfl, h3⟩ := Rep.int.1 h2
  obtain rfl := Rep.nil.1 h3
  exact ⟨A0, k0, rfl, s0⟩
theorem LogD.shut {B : Nat → Prop} {w : World} {x : LogD} {v0 : Value} (s0 : Rep B w (.sl 90 2 x.segs.length (cat SegD.c x.segs) .nil) [v0]) : Rep B w x.c [v0, .int .i64 x.next, .int .i64 x.mark] := by
  obtain ⟨A0, k0, q0, e0, s0, _⟩ := Rep.sl.1 s0
  injection e0 with e0 _
  subst e0
  have z : Rep B w .nil [] := Rep.nil.2 rfl
  exact (Rep.sl.2 ⟨_, _, _, rfl, s0, (Rep.int.2 ⟨_, rfl, (Rep.int.2 ⟨_, rfl, z⟩)⟩)⟩)
theorem LogD.openO {w : World} {base : Nat} {x : LogD} {cs : List Value} {F : List Nat} (h : Own w base x.c cs F) : ∃ A0 k0 F0, cs = [.slice A0 x.segs.length k0, .int .i64 x.next, .int .i64 x.mark] ∧ F = F0 ∧ Own w base (.sl 90 2 x.segs.length (cat SegD.c x.segs) .nil) [.slice A0 x.segs.length k0] F0 := by
  have h0 : Own w base x.c cs F := h
  obtain ⟨A0, k0, c1, F0, G0, rfl, rfl, s0, h1⟩ := Own.sl.1 h0
  obtain ⟨c2, rfl, h2⟩ := Own.int.1 h1
  obtain ⟨c3, rfl, h3⟩ := Own.int.1 h2
  obtain ⟨rfl, rfl⟩ := Own.nil.1 h3
  exact ⟨A0, k0, F0, rfl, by simp only [List.append_nil], s0⟩
theorem LogD.shutO {w : World} {base : Nat} {x : LogD} {v0 : Value} {F0 : List Nat} (s0 : Own w base (.sl 90 2 x.segs.length (cat SegD.c x.segs) .nil) [v0] F0) : Own w base x.c [v0, .int .i64 x.next, .int .i64 x.mark] (F0) := by
  obtain ⟨A0, k0, q0, X0, Y0, e0, f0, s0, g0⟩ := Own.sl.1 s0
  injection e0 with e0 p0
  subst e0
  subst p0
  obtain ⟨_, rfl⟩ := Own.nil.1 g0
  rw [List.append_nil] at f0
  subst f0
  have z : Own w base .nil [] [] := Own.nil.2 ⟨rfl, rfl⟩
  have hh := (show Own w base x.c [.slice A0 _ k0, .int .i64 x.next, .int .i64 x.mark] (_) from (Own.sl.2 ⟨_, _, _, _, _, rfl, rfl, s0, (Own.int.2 ⟨_, rfl, (Own.int.2 ⟨_, rfl, z⟩)⟩)⟩))
  simp only [List.append_nil] at hh
  exact hh


theorem agg_lLog : Agg Try.prog 53 3 := ⟨by kernel_rfl, by kernel_rfl⟩


























































































































































































































































































































































































































































































































end Go.Proofs.Ytifdkjddiohahaa
