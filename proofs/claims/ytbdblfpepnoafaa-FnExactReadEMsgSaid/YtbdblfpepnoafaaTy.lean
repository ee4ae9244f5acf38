/-
  The structs of the laws as data and as rows of cells; opened and shut. Conditions: none.
-/
import Derived.Test.YtbdblfpepnoafaaRow
namespace Go.Proofs.Ytbdblfpepnoafaa
open Go.RowKit


structure IdD where
  rep : Int
  slot : Int
  deriving DecidableEq
def IdD.cs (x : IdD) (r : Cs) : Cs := (.int x.rep (.int x.slot r))
def IdD.c (x : IdD) : Cs := x.cs .nil
def IdD.cnt (_ : IdD) : Nat := 1 + 1
def IdD.mkv (_ : IdD) (k : Nat) : IdD := ⟨((k : Nat) : Int), ((k + 1 : Nat) : Int)⟩
def IdD.cntT (_ : IdD) : Nat := 0
def IdD.mkT (x : IdD) (_ : Nat) : IdD := ⟨x.rep, x.slot⟩
theorem IdD.width (x : IdD) : x.c.width = 2 := rfl


theorem E_Id : Elem Try.prog 34 32 (.agg #[.int .i64 0, .int .i64 0]) 2 16 := ⟨Try.underlying34, by kernel_rfl, rfl, by decide, by decide⟩


theorem agg_Id : Agg Try.prog 32 2 := ⟨by kernel_rfl, by kernel_rfl⟩
theorem IdD.open {B : Nat → Prop} {w : World} {x : IdD} {cs : List Value} (h : Rep B w x.c cs) : cs = [.int .i64 x.rep, .int .i64 x.slot] := by
  have h0 : Rep B w x.c cs := h
  obtain ⟨c1, rfl, h1⟩ := Rep.int.1 h0
  obtain ⟨c2, rfl, h2⟩ := Rep.int.1 h1
  obtain rfl := Rep.nil.1 h2
  exact rfl
theorem IdD.shut {B : Nat → Prop} {w : World} {x : IdD} : Rep B w x.c [.int .i64 x.rep, .int .i64 x.slot] := by
  have z : Rep B w .nil [] := Rep.nil.2 rfl
  exact (Rep.int.2 ⟨_, rfl, (Rep.int.2 ⟨_, rfl, z⟩)⟩)
theorem IdD.openO {w : World} {base : Nat} {x : IdD} {cs : List Value} {F : List Nat} (h : Own w base x.c cs F) : cs = [.int .i64 x.rep, .int .i64 x.slot] ∧ F = [] := by
  have h0 : Own w base x.c cs F := h
  obtain ⟨c1, rfl, h1⟩ := Own.int.1 h0
  obtain ⟨c2, rfl, h2⟩ := Own.int.1 h1
  obtain ⟨rfl, rfl⟩ := Own.nil.1 h2
  exact ⟨rfl, rfl⟩
theorem IdD.shutO {w : World} {base : Nat} {x : IdD} : Own w base x.c [.int .i64 x.rep, .int .i64 x.slot] ([]) := by
  have z : Own w base .nil [] [] := Own.nil.2 ⟨rfl, rfl⟩
  exact (Own.int.2 ⟨_, rfl, (Own.int.2 ⟨_, rfl, z⟩)⟩)


theorem agg_lId : Agg Try.prog 23 2 := ⟨by kernel_rfl, by kernel_rfl⟩


structure CmdD where
  kind : Int
  client : Int
  no : Int
  set : List UInt8
  name : List UInt8
  tag : List UInt8
  n : Int
  chunks : List (List UInt8)
  deriving DecidableEq
def CmdD.cs (x : CmdD) (r : Cs) : Cs := (.int x.kind (.int x.client (.int x.no (.str x.set (.str x.name (.str x.tag (.int x.n (.sl 9 1 x.chunks.length (cat strC x.chunks) r))))))))
def CmdD.c (x : CmdD) : Cs := x.cs .nil
def CmdD.cnt (x : CmdD) : Nat := 1 + 1 + 1 + 1 + 1 + 1 + 1 + cts (fun _ => 1) x.chunks
def CmdD.mkv (x : CmdD) (k : Nat) : CmdD := ⟨((k : Nat) : Int), ((k + 1 : Nat) : Int), ((k + 1 + 1 : Nat) : Int), markL (k + 1 + 1 + 1), markL (k + 1 + 1 + 1 + 1), markL (k + 1 + 1 + 1 + 1 + 1), ((k + 1 + 1 + 1 + 1 + 1 + 1 : Nat) : Int), mks (fun _ k => markL k) (fun _ => 1) x.chunks (k + 1 + 1 + 1 + 1 + 1 + 1 + 1)⟩
def CmdD.cntT (x : CmdD) : Nat := cts (fun _ => 1) x.chunks
def CmdD.mkT (x : CmdD) (k : Nat) : CmdD := ⟨x.kind, x.client, x.no, x.set, x.name, x.tag, x.n, mks (fun _ k => markL k) (fun _ => 1) x.chunks (k)⟩
theorem CmdD.width (x : CmdD) : x.c.width = 8 := rfl





theorem agg_Cmd : Agg Try.prog 33 8 := ⟨by kernel_rfl, by kernel_rfl⟩
theorem CmdD.open {B : Nat → Prop} {w : World} {x : CmdD} {cs : List Value} (h : Rep B w x.c cs) : ∃ A0 k0, cs = [.int .i64 x.kind, .int .i64 x.client, .int .i64 x.no, .string (bs x.set), .string (bs x.name), .string (bs x.tag), .int .i64 x.n, .slice A0 x.chunks.length k0] ∧ Rep B w (.sl 9 1 x.chunks.length (cat strC x.chunks) .nil) [.slice A0 x.chunks.length k0] := by
  have h0 : Rep B w x.c cs := h
  obtain ⟨c1, rfl, h1⟩ := Rep.int.1 h0
  obtain ⟨c2, rfl, h2⟩ := Rep.int.1 h1
  obtain ⟨c3, rfl, h3⟩ := Rep.int.1 h2
  obtain ⟨c4, rfl, h4⟩ := Rep.str.1 h3
  obtain ⟨c5, rfl, h5⟩ := Rep.str.1 h4
  obtain ⟨c6, rfl, h6⟩ := Rep.str.1 h5
  obtain ⟨c7, rfl, h7⟩ := Rep.int.1 h6
  obtain ⟨A0, k0, c8, rfl, s0, h8⟩ := Rep.sl.1 h7
  obtain rfl := Rep.nil.1 h8
  exact ⟨A0, k0, rfl, s0⟩
theorem CmdD.shut {B : Nat → Prop} {w : World} {x : CmdD} {v0 : Value} (s0 : Rep B w (.sl 9 1 x.chunks.length (cat strC x.chunks) .nil) [v0]) : Rep B w x.c [.int .i64 x.kind, .int .i64 x.client, .int .i64 x.no, .string (bs x.set), .string (bs x.name), .string (bs x.tag), .int .i64 x.n, v0] := by
  obtain ⟨A0, k0, q0, e0, s0, _⟩ := Rep.sl.1 s0
  injection e0 with e0 _
  subst e0
  have z : Rep B w .nil [] := Rep.nil.2 rfl
  exact (Rep.int.2 ⟨_, rfl, (Rep.int.2 ⟨_, rfl, (Rep.int.2 ⟨_, rfl, (Rep.str.2 ⟨_, rfl, (Rep.str.2 ⟨_, rfl, (Rep.str.2 ⟨_, rfl, (Rep.int.2 ⟨_, rfl, (Rep.sl.2 ⟨_, _, _, rfl, s0, z⟩)⟩)⟩)⟩)⟩)⟩)⟩)⟩)
theorem CmdD.openO {w : World} {base : Nat} {x : CmdD} {cs : List Value} {F : List Nat} (h : Own w base x.c cs F) : ∃ A0 k0 F0, cs = [.int .i64 x.kind, .int .i64 x.client, .int .i64 x.no, .string (bs x.set), .string (bs x.name), .string (bs x.tag), .int .i64 x.n, .slice A0 x.chunks.length k0] ∧ F = F0 ∧ Own w base (.sl 9 1 x.chunks.length (cat strC x.chunks) .nil) [.slice A0 x.chunks.length k0] F0 := by
  have h0 : Own w base x.c cs F := h
  obtain ⟨c1, rfl, h1⟩ := Own.int.1 h0
  obtain ⟨c2, rfl, h2⟩ := Own.int.1 h1
  obtain ⟨c3, rfl, h3⟩ := Own.int.1 h2
  obtain ⟨c4, rfl, h4⟩ := Own.str.1 h3
  obtain ⟨c5, rfl, h5⟩ := Own.str.1 h4
  obtain ⟨c6, rfl, h6⟩ := Own.str.1 h5
  obtain ⟨c7, rfl, h7⟩ := Own.int.1 h6
  obtain ⟨A0, k0, c8, F0, G0, rfl, rfl, s0, h8⟩ := Own.sl.1 h7
  obtain ⟨rfl, rfl⟩ := Own.nil.1 h8
  exact ⟨A0, k0, F0, rfl, by simp only [List.append_nil], s0⟩
theorem CmdD.shutO {w : World} {base : Nat} {x : CmdD} {v0 : Value} {F0 : List Nat} (s0 : Own w base (.sl 9 1 x.chunks.length (cat strC x.chunks) .nil) [v0] F0) : Own w base x.c [.int .i64 x.kind, .int .i64 x.client, .int .i64 x.no, .string (bs x.set), .string (bs x.name), .string (bs x.tag), .int .i64 x.n, v0] (F0) := by
  obtain ⟨A0, k0, q0, X0, Y0, e0, f0, s0, g0⟩ := Own.sl.1 s0
  injection e0 with e0 p0
  subst e0
  subst p0
  obtain ⟨_, rfl⟩ := Own.nil.1 g0
  rw [List.append_nil] at f0
  subst f0
  have z : Own w base .nil [] [] := Own.nil.2 ⟨rfl, rfl⟩
  have hh := (show Own w base x.c [.int .i64 x.kind, .int .i64 x.client, .int .i64 x.no, .string (bs x.set), .string (bs x.name), .string (bs x.tag), .int .i64 x.n, .slice A0 _ k0] (_) from (Own.int.2 ⟨_, rfl, (Own.int.2 ⟨_, rfl, (Own.int.2 ⟨_, rfl, (Own.str.2 ⟨_, rfl, (Own.str.2 ⟨_, rfl, (Own.str.2 ⟨_, rfl, (Own.int.2 ⟨_, rfl, (Own.sl.2 ⟨_, _, _, _, _, rfl, rfl, s0, z⟩)⟩)⟩)⟩)⟩)⟩)⟩)⟩))
  simp only [List.append_nil] at hh
  exact hh


theorem agg_lCmd : Agg Try.prog 26 8 := ⟨by kernel_rfl, by kernel_rfl⟩
































































































































































































structure InstD where
  id : IdD
  bal : Int
  vbal : Int
  status : Int
  cmd : CmdD
  seq : Int
  deps : List IdD
  same : Bool
  deriving DecidableEq
def InstD.cs (x : InstD) (r : Cs) : Cs := (IdD.cs x.id (.int x.bal (.int x.vbal (.int x.status (CmdD.cs x.cmd (.int x.seq (.sl 32 2 x.deps.length (cat IdD.c x.deps) (.bool x.same r))))))))
def InstD.c (x : InstD) : Cs := x.cs .nil
def InstD.cnt (x : InstD) : Nat := IdD.cnt x.id + 1 + 1 + 1 + CmdD.cnt x.cmd + 1 + cts IdD.cnt x.deps + 1
def InstD.mkv (x : InstD) (k : Nat) : InstD := ⟨IdD.mkv x.id (k), ((k + IdD.cnt x.id : Nat) : Int), ((k + IdD.cnt x.id + 1 : Nat) : Int), ((k + IdD.cnt x.id + 1 + 1 : Nat) : Int), CmdD.mkv x.cmd (k + IdD.cnt x.id + 1 + 1 + 1), ((k + IdD.cnt x.id + 1 + 1 + 1 + CmdD.cnt x.cmd : Nat) : Int), mks IdD.mkv IdD.cnt x.deps (k + IdD.cnt x.id + 1 + 1 + 1 + CmdD.cnt x.cmd + 1), decide ((k + IdD.cnt x.id + 1 + 1 + 1 + CmdD.cnt x.cmd + 1 + cts IdD.cnt x.deps) % 3 = 0)⟩
def InstD.cntT (x : InstD) : Nat := CmdD.cntT x.cmd + cts IdD.cnt x.deps
def InstD.mkT (x : InstD) (k : Nat) : InstD := ⟨IdD.mkT x.id (k), x.bal, x.vbal, x.status, CmdD.mkT x.cmd (k), x.seq, mks IdD.mkv IdD.cnt x.deps (k + CmdD.cntT x.cmd), x.same⟩
theorem InstD.width (x : InstD) : x.c.width = 16 := rfl


theorem E_Inst : Elem Try.prog 51 49 (.agg #[.int .i64 0, .int .i64 0, .int .i64 0, .int .i64 0, .int .i64 0, .int .i64 0, .int .i64 0, .int .i64 0, .string ⟨#[]⟩, .string ⟨#[]⟩, .string ⟨#[]⟩, .int .i64 0, .slice none 0 0, .int .i64 0, .slice none 0 0, .bool false]) 16 184 := ⟨Try.underlying51, by kernel_rfl, rfl, by decide, by decide⟩


theorem agg_Inst : Agg Try.prog 49 16 := ⟨by kernel_rfl, by kernel_rfl⟩
theorem InstD.open {B : Nat → Prop} {w : World} {x : InstD} {cs : List Value} (h : Rep B w x.c cs) : ∃ A0 k0 A1 k1, cs = [.int .i64 x.id.rep, .int .i64 x.id.slot, .int .i64 x.bal, .int .i64 x.vbal, .int .i64 x.status, .int .i64 x.cmd.kind, .int .i64 x.cmd.client, .int .i64 x.cmd.no, .string (bs x.cmd.set), .string (bs x.cmd.name), .string (bs x.cmd.tag), .int .i64 x.cmd.n, .slice A0 x.cmd.chunks.length k0, .int .i64 x.seq, .slice A1 x.deps.length k1, .bool x.same] ∧ Rep B w (.sl 9 1 x.cmd.chunks.length (cat strC x.cmd.chunks) .nil) [.slice A0 x.cmd.chunks.length k0] ∧ Rep B w (.sl 32 2 x.deps.length (cat IdD.c x.deps) .nil) [.slice A1 x.deps.length k1] := by
  have h0 : Rep B w x.c cs := h
  obtain ⟨c1, rfl, h1⟩ := Rep.int.1 h0
  obtain ⟨c2, rfl, h2⟩ := Rep.int.1 h1
  obtain ⟨c3, rfl, h3⟩ := Rep.int.1 h2
  obtain ⟨c4, rfl, h4⟩ := Rep.int.1 h3
  obtain ⟨c5, rfl, h5⟩ := Rep.int.1 h4
  obtain ⟨c6, rfl, h6⟩ := Rep.int.1 h5
  obtain ⟨c7, rfl, h7⟩ := Rep.int.1 h6
  obtain ⟨c8, rfl, h8⟩ := Rep.int.1 h7
  obtain ⟨c9, rfl, h9⟩ := Rep.str.1 h8
  obtain ⟨c10, rfl, h10⟩ := Rep.str.1 h9
  obtain ⟨c11, rfl, h11⟩ := Rep.str.1 h10
  obtain ⟨c12, rfl, h12⟩ := Rep.int.1 h11
  obtain ⟨A0, k0, c13, rfl, s0, h13⟩ := Rep.sl.1 h12
  obtain ⟨c14, rfl, h14⟩ := Rep.int.1 h13
  obtain ⟨A1, k1, c15, rfl, s1, h15⟩ := Rep.sl.1 h14
  obtain ⟨c16, rfl, h16⟩ := Rep.bool.1 h15
  obtain rfl := Rep.nil.1 h16
  exact ⟨A0, k0, A1, k1, rfl, s0, s1⟩
theorem InstD.shut {B : Nat → Prop} {w : World} {x : InstD} {v0 v1 : Value} (s0 : Rep B w (.sl 9 1 x.cmd.chunks.length (cat strC x.cmd.chunks) .nil) [v0]) (s1 : Rep B w (.sl 32 2 x.deps.length (cat IdD.c x.deps) .nil) [v1]) : Rep B w x.c [.int .i64 x.id.rep, .int .i64 x.id.slot, .int .i64 x.bal, .int .i64 x.vbal, .int .i64 x.status, .int .i64 x.cmd.kind, .int .i64 x.cmd.client, .int .i64 x.cmd.no, .string (bs x.cmd.set), .string (bs x.cmd.name), .string (bs x.cmd.tag), .int .i64 x.cmd.n, v0, .int .i64 x.seq, v1, .bool x.same] := by
  obtain ⟨A0, k0, q0, e0, s0, _⟩ := Rep.sl.1 s0
  injection e0 with e0 _
  subst e0
  obtain ⟨A1, k1, q1, e1, s1, _⟩ := Rep.sl.1 s1
  injection e1 with e1 _
  subst e1
  have z : Rep B w .nil [] := Rep.nil.2 rfl
  exact (Rep.int.2 ⟨_, rfl, (Rep.int.2 ⟨_, rfl, (Rep.int.2 ⟨_, rfl, (Rep.int.2 ⟨_, rfl, (Rep.int.2 ⟨_, rfl, (Rep.int.2 ⟨_, rfl, (Rep.int.2 ⟨_, rfl, (Rep.int.2 ⟨_, rfl, (Rep.str.2 ⟨_, rfl, (Rep.str.2 ⟨_, rfl, (Rep.str.2 ⟨_, rfl, (Rep.int.2 ⟨_, rfl, (Rep.sl.2 ⟨_, _, _, rfl, s0, (Rep.int.2 ⟨_, rfl, (Rep.sl.2 ⟨_, _, _, rfl, s1, (Rep.bool.2 ⟨_, rfl, z⟩)⟩)⟩)⟩)⟩)⟩)⟩)⟩)⟩)⟩)⟩)⟩)⟩)⟩)⟩)⟩)
theorem InstD.openO {w : World} {base : Nat} {x : InstD} {cs : List Value} {F : List Nat} (h : Own w base x.c cs F) : ∃ A0 k0 A1 k1 F0 F1, cs = [.int .i64 x.id.rep, .int .i64 x.id.slot, .int .i64 x.bal, .int .i64 x.vbal, .int .i64 x.status, .int .i64 x.cmd.kind, .int .i64 x.cmd.client, .int .i64 x.cmd.no, .string (bs x.cmd.set), .string (bs x.cmd.name), .string (bs x.cmd.tag), .int .i64 x.cmd.n, .slice A0 x.cmd.chunks.length k0, .int .i64 x.seq, .slice A1 x.deps.length k1, .bool x.same] ∧ F = F0 ++ (F1) ∧ Own w base (.sl 9 1 x.cmd.chunks.length (cat strC x.cmd.chunks) .nil) [.slice A0 x.cmd.chunks.length k0] F0 ∧ Own w base (.sl 32 2 x.deps.length (cat IdD.c x.deps) .nil) [.slice A1 x.deps.length k1] F1 := by
  have h0 : Own w base x.c cs F := h
  obtain ⟨c1, rfl, h1⟩ := Own.int.1 h0
  obtain ⟨c2, rfl, h2⟩ := Own.int.1 h1
  obtain ⟨c3, rfl, h3⟩ := Own.int.1 h2
  obtain ⟨c4, rfl, h4⟩ := Own.int.1 h3
  obtain ⟨c5, rfl, h5⟩ := Own.int.1 h4
  obtain ⟨c6, rfl, h6⟩ := Own.int.1 h5
  obtain ⟨c7, rfl, h7⟩ := Own.int.1 h6
  obtain ⟨c8, rfl, h8⟩ := Own.int.1 h7
  obtain ⟨c9, rfl, h9⟩ := Own.str.1 h8
  obtain ⟨c10, rfl, h10⟩ := Own.str.1 h9
  obtain ⟨c11, rfl, h11⟩ := Own.str.1 h10
  obtain ⟨c12, rfl, h12⟩ := Own.int.1 h11
  obtain ⟨A0, k0, c13, F0, G0, rfl, rfl, s0, h13⟩ := Own.sl.1 h12
  obtain ⟨c14, rfl, h14⟩ := Own.int.1 h13
  obtain ⟨A1, k1, c15, F1, G1, rfl, rfl, s1, h15⟩ := Own.sl.1 h14
  obtain ⟨c16, rfl, h16⟩ := Own.bool.1 h15
  obtain ⟨rfl, rfl⟩ := Own.nil.1 h16
  exact ⟨A0, k0, A1, k1, F0, F1, rfl, by simp only [List.append_nil], s0, s1⟩
theorem InstD.shutO {w : World} {base : Nat} {x : InstD} {v0 v1 : Value} {F0 F1 : List Nat} (s0 : Own w base (.sl 9 1 x.cmd.chunks.length (cat strC x.cmd.chunks) .nil) [v0] F0) (s1 : Own w base (.sl 32 2 x.deps.length (cat IdD.c x.deps) .nil) [v1] F1) : Own w base x.c [.int .i64 x.id.rep, .int .i64 x.id.slot, .int .i64 x.bal, .int .i64 x.vbal, .int .i64 x.status, .int .i64 x.cmd.kind, .int .i64 x.cmd.client, .int .i64 x.cmd.no, .string (bs x.cmd.set), .string (bs x.cmd.name), .string (bs x.cmd.tag), .int .i64 x.cmd.n, v0, .int .i64 x.seq, v1, .bool x.same] (F0 ++ (F1)) := by
  obtain ⟨A0, k0, q0, X0, Y0, e0, f0, s0, g0⟩ := Own.sl.1 s0
  injection e0 with e0 p0
  subst e0
  subst p0
  obtain ⟨_, rfl⟩ := Own.nil.1 g0
  rw [List.append_nil] at f0
  subst f0
  obtain ⟨A1, k1, q1, X1, Y1, e1, f1, s1, g1⟩ := Own.sl.1 s1
  injection e1 with e1 p1
  subst e1
  subst p1
  obtain ⟨_, rfl⟩ := Own.nil.1 g1
  rw [List.append_nil] at f1
  subst f1
  have z : Own w base .nil [] [] := Own.nil.2 ⟨rfl, rfl⟩
  have hh := (show Own w base x.c [.int .i64 x.id.rep, .int .i64 x.id.slot, .int .i64 x.bal, .int .i64 x.vbal, .int .i64 x.status, .int .i64 x.cmd.kind, .int .i64 x.cmd.client, .int .i64 x.cmd.no, .string (bs x.cmd.set), .string (bs x.cmd.name), .string (bs x.cmd.tag), .int .i64 x.cmd.n, .slice A0 _ k0, .int .i64 x.seq, .slice A1 _ k1, .bool x.same] (_) from (Own.int.2 ⟨_, rfl, (Own.int.2 ⟨_, rfl, (Own.int.2 ⟨_, rfl, (Own.int.2 ⟨_, rfl, (Own.int.2 ⟨_, rfl, (Own.int.2 ⟨_, rfl, (Own.int.2 ⟨_, rfl, (Own.int.2 ⟨_, rfl, (Own.str.2 ⟨_, rfl, (Own.str.2 ⟨_, rfl, (Own.str.2 ⟨_, rfl, (Own.int.2 ⟨_, rfl, (Own.sl.2 ⟨_, _, _, _, _, rfl, rfl, s0, (Own.int.2 ⟨_, rfl, (Own.sl.2 ⟨_, _, _, _, _, rfl, rfl, s1, (Own.bool.2 ⟨_, rfl, z⟩)⟩)⟩)⟩)⟩)⟩)⟩)⟩)⟩)⟩)⟩)⟩)⟩)⟩)⟩)⟩))
  simp only [List.append_nil] at hh
  exact hh


theorem agg_lInst : Agg Try.prog 115 16 := ⟨by kernel_rfl, by kernel_rfl⟩


structure EMsgD where
  kind : Int
  frm : Int
  to : Int
  id : IdD
  bal : Int
  cmd : CmdD
  seq : Int
  deps : List IdD
  status : Int
  vbal : Int
  same : Bool
  deriving DecidableEq
def EMsgD.cs (x : EMsgD) (r : Cs) : Cs := (.int x.kind (.int x.frm (.int x.to (IdD.cs x.id (.int x.bal (CmdD.cs x.cmd (.int x.seq (.sl 32 2 x.deps.length (cat IdD.c x.deps) (.int x.status (.int x.vbal (.bool x.same r)))))))))))
def EMsgD.c (x : EMsgD) : Cs := x.cs .nil
def EMsgD.cnt (x : EMsgD) : Nat := 1 + 1 + 1 + IdD.cnt x.id + 1 + CmdD.cnt x.cmd + 1 + cts IdD.cnt x.deps + 1 + 1 + 1
def EMsgD.mkv (x : EMsgD) (k : Nat) : EMsgD := ⟨((k : Nat) : Int), ((k + 1 : Nat) : Int), ((k + 1 + 1 : Nat) : Int), IdD.mkv x.id (k + 1 + 1 + 1), ((k + 1 + 1 + 1 + IdD.cnt x.id : Nat) : Int), CmdD.mkv x.cmd (k + 1 + 1 + 1 + IdD.cnt x.id + 1), ((k + 1 + 1 + 1 + IdD.cnt x.id + 1 + CmdD.cnt x.cmd : Nat) : Int), mks IdD.mkv IdD.cnt x.deps (k + 1 + 1 + 1 + IdD.cnt x.id + 1 + CmdD.cnt x.cmd + 1), ((k + 1 + 1 + 1 + IdD.cnt x.id + 1 + CmdD.cnt x.cmd + 1 + cts IdD.cnt x.deps : Nat) : Int), ((k + 1 + 1 + 1 + IdD.cnt x.id + 1 + CmdD.cnt x.cmd + 1 + cts IdD.cnt x.deps + 1 : Nat) : Int), decide ((k + 1 + 1 + 1 + IdD.cnt x.id + 1 + CmdD.cnt x.cmd + 1 + cts IdD.cnt x.deps + 1 + 1) % 3 = 0)⟩
def EMsgD.cntT (x : EMsgD) : Nat := CmdD.cntT x.cmd + cts IdD.cnt x.deps
def EMsgD.mkT (x : EMsgD) (k : Nat) : EMsgD := ⟨x.kind, x.frm, x.to, IdD.mkT x.id (k), x.bal, CmdD.mkT x.cmd (k), x.seq, mks IdD.mkv IdD.cnt x.deps (k + CmdD.cntT x.cmd), x.status, x.vbal, x.same⟩
theorem EMsgD.width (x : EMsgD) : x.c.width = 19 := rfl


theorem E_EMsg : Elem Try.prog 85 36 (.agg #[.int .i64 0, .int .i64 0, .int .i64 0, .int .i64 0, .int .i64 0, .int .i64 0, .int .i64 0, .int .i64 0, .int .i64 0, .string ⟨#[]⟩, .string ⟨#[]⟩, .string ⟨#[]⟩, .int .i64 0, .slice none 0 0, .int .i64 0, .slice none 0 0, .int .i64 0, .int .i64 0, .bool false]) 19 208 := ⟨Try.underlying85, by kernel_rfl, rfl, by decide, by decide⟩


theorem agg_EMsg : Agg Try.prog 36 19 := ⟨by kernel_rfl, by kernel_rfl⟩
theorem EMsgD.open {B : Nat → Prop} {w : World} {x : EMsgD} {cs : List Value} (h : Rep B w x.c cs) : ∃ A0 k0 A1 k1, cs = [.int .i64 x.kind, .int .i64 x.frm, .int .i64 x.to, .int .i64 x.id.rep, .int .i64 x.id.slot, .int .i64 x.bal, .int .i64 x.cmd.kind, .int .i64 x.cmd.client, .int .i64 x.cmd.no, .string (bs x.cmd.set), .string (bs x.cmd.name), .string (bs x.cmd.tag), .int .i64 x.cmd.n, .slice A0 x.cmd.chunks.length k0, .int .i64 x.seq, .slice A1 x.deps.length k1, .int .i64 x.status, .int .i64 x.vbal, .bool x.same] ∧ Rep B w (.sl 9 1 x.cmd.chunks.length (cat strC x.cmd.chunks) .nil) [.slice A0 x.cmd.chunks.length k0] ∧ Rep B w (.sl 32 2 x.deps.length (cat IdD.c x.deps) .nil) [.slice A1 x.deps.length k1] := by
  have h0 : Rep B w x.c cs := h
  obtain ⟨c1, rfl, h1⟩ := Rep.int.1 h0
  obtain ⟨c2, rfl, h2⟩ := Rep.int.1 h1
  obtain ⟨c3, rfl, h3⟩ := Rep.int.1 h2
  obtain ⟨c4, rfl, h4⟩ := Rep.int.1 h3
  obtain ⟨c5, rfl, h5⟩ := Rep.int.1 h4
  obtain ⟨c6, rfl, h6⟩ := Rep.int.1 h5
  obtain ⟨c7, rfl, h7⟩ := Rep.int.1 h6
  obtain ⟨c8, rfl, h8⟩ := Rep.int.1 h7
  obtain ⟨c9, rfl, h9⟩ := Rep.int.1 h8
  obtain ⟨c10, rfl, h10⟩ := Rep.str.1 h9
  obtain ⟨c11, rfl, h11⟩ := Rep.str.1 h10
  obtain ⟨c12, rfl, h12⟩ := Rep.str.1 h11
  obtain ⟨c13, rfl, h13⟩ := Rep.int.1 h12
  obtain ⟨A0, k0, c14, rfl, s0, h14⟩ := Rep.sl.1 h13
  obtain ⟨c15, rfl, h15⟩ := Rep.int.1 h14
  obtain ⟨A1, k1, c16, rfl, s1, h16⟩ := Rep.sl.1 h15
  obtain ⟨c17, rfl, h17⟩ := Rep.int.1 h16
  obtain ⟨c18, rfl, h18⟩ := Rep.int.1 h17
  obtain ⟨c19, rfl, h19⟩ := Rep.bool.1 h18
  obtain rfl := Rep.nil.1 h19
  exact ⟨A0, k0, A1, k1, rfl, s0, s1⟩
theorem EMsgD.shut {B : Nat → Prop} {w : World} {x : EMsgD} {v0 v1 : Value} (s0 : Rep B w (.sl 9 1 x.cmd.chunks.length (cat strC x.cmd.chunks) .nil) [v0]) (s1 : Rep B w (.sl 32 2 x.deps.length (cat IdD.c x.deps) .nil) [v1]) : Rep B w x.c [.int .i64 x.kind, .int .i64 x.frm, .int .i64 x.to, .int .i64 x.id.rep, .int .i64 x.id.slot, .int .i64 x.bal, .int .i64 x.cmd.kind, .int .i64 x.cmd.client, .int .i64 x.cmd.no, .string (bs x.cmd.set), .string (bs x.cmd.name), .string (bs x.cmd.tag), .int .i64 x.cmd.n, v0, .int .i64 x.seq, v1, .int .i64 x.status, .int .i64 x.vbal, .bool x.same] := by
  obtain ⟨A0, k0, q0, e0, s0, _⟩ := Rep.sl.1 s0
  injection e0 with e0 _
  subst e0
  obtain ⟨A1, k1, q1, e1, s1, _⟩ := Rep.sl.1 s1
  injection e1 with e1 _
  subst e1
  have z : Rep B w .nil [] := Rep.nil.2 rfl
  exact (Rep.int.2 ⟨_, rfl, (Rep.int.2 ⟨_, rfl, (Rep.int.2 ⟨_, rfl, (Rep.int.2 ⟨_, rfl, (Rep.int.2 ⟨_, rfl, (Rep.int.2 ⟨_, rfl, (Rep.int.2 ⟨_, rfl, (Rep.int.2 ⟨_, rfl, (Rep.int.2 ⟨_, rfl, (Rep.str.2 ⟨_, rfl, (Rep.str.2 ⟨_, rfl, (Rep.str.2 ⟨_, rfl, (Rep.int.2 ⟨_, rfl, (Rep.sl.2 ⟨_, _, _, rfl, s0, (Rep.int.2 ⟨_, rfl, (Rep.sl.2 ⟨_, _, _, rfl, s1, (Rep.int.2 ⟨_, rfl, (Rep.int.2 ⟨_, rfl, (Rep.bool.2 ⟨_, rfl, z⟩)⟩)⟩)⟩)⟩)⟩)⟩)⟩)⟩)⟩)⟩)⟩)⟩)⟩)⟩)⟩)⟩)⟩)⟩)
theorem EMsgD.openO {w : World} {base : Nat} {x : EMsgD} {cs : List Value} {F : List Nat} (h : Own w base x.c cs F) : ∃ A0 k0 A1 k1 F0 F1, cs = [.int .i64 x.kind, .int .i64 x.frm, .int .i64 x.to, .int .i64 x.id.rep, .int .i64 x.id.slot, .int .i64 x.bal, .int .i64 x.cmd.kind, .int .i64 x.cmd.client, .int .i64 x.cmd.no, .string (bs x.cmd.set), .string (bs x.cmd.name), .string (bs x.cmd.tag), .int .i64 x.cmd.n, .slice A0 x.cmd.chunks.length k0, .int .i64 x.seq, .slice A1 x.deps.length k1, .int .i64 x.status, .int .i64 x.vbal, .bool x.same] ∧ F = F0 ++ (F1) ∧ Own w base (.sl 9 1 x.cmd.chunks.length (cat strC x.cmd.chunks) .nil) [.slice A0 x.cmd.chunks.length k0] F0 ∧ Own w base (.sl 32 2 x.deps.length (cat IdD.c x.deps) .nil) [.slice A1 x.deps.length k1] F1 := by
  have h0 : Own w base x.c cs F := h
  obtain ⟨c1, rfl, h1⟩ := Own.int.1 h0
  obtain ⟨c2, rfl, h2⟩ := Own.int.1 h1
  obtain ⟨c3, rfl, h3⟩ := Own.int.1 h2
  obtain ⟨c4, rfl, h4⟩ := Own.int.1 h3
  obtain ⟨c5, rfl, h5⟩ := Own.int.1 h4
  obtain ⟨c6, rfl, h6⟩ := Own.int.1 h5
  obtain ⟨c7, rfl, h7⟩ := Own.int.1 h6
  obtain ⟨c8, rfl, h8⟩ := Own.int.1 h7
  obtain ⟨c9, rfl, h9⟩ := Own.int.1 h8
  obtain ⟨c10, rfl, h10⟩ := Own.str.1 h9
  obtain ⟨c11, rfl, h11⟩ := Own.str.1 h10
  obtain ⟨c12, rfl, h12⟩ := Own.str.1 h11
  obtain ⟨c13, rfl, h13⟩ := Own.int.1 h12
  obtain ⟨A0, k0, c14, F0, G0, rfl, rfl, s0, h14⟩ := Own.sl.1 h13
  obtain ⟨c15, rfl, h15⟩ := Own.int.1 h14
  obtain ⟨A1, k1, c16, F1, G1, rfl, rfl, s1, h16⟩ := Own.sl.1 h15
  obtain ⟨c17, rfl, h17⟩ := Own.int.1 h16
  obtain ⟨c18, rfl, h18⟩ := Own.int.1 h17
  obtain ⟨c19, rfl, h19⟩ := Own.bool.1 h18
  obtain ⟨rfl, rfl⟩ := Own.nil.1 h19
  exact ⟨A0, k0, A1, k1, F0, F1, rfl, by simp only [List.append_nil], s0, s1⟩
theorem EMsgD.shutO {w : World} {base : Nat} {x : EMsgD} {v0 v1 : Value} {F0 F1 : List Nat} (s0 : Own w base (.sl 9 1 x.cmd.chunks.length (cat strC x.cmd.chunks) .nil) [v0] F0) (s1 : Own w base (.sl 32 2 x.deps.length (cat IdD.c x.deps) .nil) [v1] F1) : Own w base x.c [.int .i64 x.kind, .int .i64 x.frm, .int .i64 x.to, .int .i64 x.id.rep, .int .i64 x.id.slot, .int .i64 x.bal, .int .i64 x.cmd.kind, .int .i64 x.cmd.client, .int .i64 x.cmd.no, .string (bs x.cmd.set), .string (bs x.cmd.name), .string (bs x.cmd.tag), .int .i64 x.cmd.n, v0, .int .i64 x.seq, v1, .int .i64 x.status, .int .i64 x.vbal, .bool x.same] (F0 ++ (F1)) := by
  obtain ⟨A0, k0, q0, X0, Y0, e0, f0, s0, g0⟩ := Own.sl.1 s0
  injection e0 with e0 p0
  subst e0
  subst p0
  obtain ⟨_, rfl⟩ := Own.nil.1 g0
  rw [List.append_nil] at f0
  subst f0
  obtain ⟨A1, k1, q1, X1, Y1, e1, f1, s1, g1⟩ := Own.sl.1 s1
  injection e1 with e1 p1
  subst e1
  subst p1
  obtain ⟨_, rfl⟩ := Own.nil.1 g1
  rw [List.append_nil] at f1
  subst f1
  have z : Own w base .nil [] [] := Own.nil.2 ⟨rfl, rfl⟩
  have hh := (show Own w base x.c [.int .i64 x.kind, .int .i64 x.frm, .int .i64 x.to, .int .i64 x.id.rep, .int .i64 x.id.slot, .int .i64 x.bal, .int .i64 x.cmd.kind, .int .i64 x.cmd.client, .int .i64 x.cmd.no, .string (bs x.cmd.set), .string (bs x.cmd.name), .string (bs x.cmd.tag), .int .i64 x.cmd.n, .slice A0 _ k0, .int .i64 x.seq, .slice A1 _ k1, .int .i64 x.status, .int .i64 x.vbal, .bool x.same] (_) from (Own.int.2 ⟨_, rfl, (Own.int.2 ⟨_, rfl, (Own.int.2 ⟨_, rfl, (Own.int.2 ⟨_, rfl, (Own.int.2 ⟨_, rfl, (Own.int.2 ⟨_, rfl, (Own.int.2 ⟨_, rfl, (Own.int.2 ⟨_, rfl, (Own.int.2 ⟨_, rfl, (Own.str.2 ⟨_, rfl, (Own.str.2 ⟨_, rfl, (Own.str.2 ⟨_, rfl, (Own.int.2 ⟨_, rfl, (Own.sl.2 ⟨_, _, _, _, _, rfl, rfl, s0, (Own.int.2 ⟨_, rfl, (Own.sl.2 ⟨_, _, _, _, _, rfl, rfl, s1, (Own.int.2 ⟨_, rfl, (Own.int.2 ⟨_, rfl, (Own.bool.2 ⟨_, rfl, z⟩)⟩)⟩)⟩)⟩)⟩)⟩)⟩)⟩)⟩)⟩)⟩)⟩)⟩)⟩)⟩)⟩)⟩)⟩))
  simp only [List.append_nil] at hh
  exact hh


theorem agg_lEMsg : Agg Try.prog 29 19 := ⟨by kernel_rfl, by kernel_rfl⟩


structure LeadD where
  id : IdD
  bal : Int
  phase : Int
  seq : Int
  deps : List IdD
  frm : List Int
  same : Bool
  deriving DecidableEq
def LeadD.cs (x : LeadD) (r : Cs) : Cs := (IdD.cs x.id (.int x.bal (.int x.phase (.int x.seq (.sl 32 2 x.deps.length (cat IdD.c x.deps) (.sl 3 1 x.frm.length (cat intC x.frm) (.bool x.same r)))))))
def LeadD.c (x : LeadD) : Cs := x.cs .nil
def LeadD.cnt (x : LeadD) : Nat := IdD.cnt x.id + 1 + 1 + 1 + cts IdD.cnt x.deps + cts (fun _ => 1) x.frm + 1
def LeadD.mkv (x : LeadD) (k : Nat) : LeadD := ⟨IdD.mkv x.id (k), ((k + IdD.cnt x.id : Nat) : Int), ((k + IdD.cnt x.id + 1 : Nat) : Int), ((k + IdD.cnt x.id + 1 + 1 : Nat) : Int), mks IdD.mkv IdD.cnt x.deps (k + IdD.cnt x.id + 1 + 1 + 1), mks (fun _ k => (k : Int)) (fun _ => 1) x.frm (k + IdD.cnt x.id + 1 + 1 + 1 + cts IdD.cnt x.deps), decide ((k + IdD.cnt x.id + 1 + 1 + 1 + cts IdD.cnt x.deps + cts (fun _ => 1) x.frm) % 3 = 0)⟩
def LeadD.cntT (x : LeadD) : Nat := cts IdD.cnt x.deps + cts (fun _ => 1) x.frm
def LeadD.mkT (x : LeadD) (k : Nat) : LeadD := ⟨IdD.mkT x.id (k), x.bal, x.phase, x.seq, mks IdD.mkv IdD.cnt x.deps (k), mks (fun _ k => (k : Int)) (fun _ => 1) x.frm (k + cts IdD.cnt x.deps), x.same⟩
theorem LeadD.width (x : LeadD) : x.c.width = 8 := rfl


theorem E_Lead : Elem Try.prog 76 145 (.agg #[.int .i64 0, .int .i64 0, .int .i64 0, .int .i64 0, .int .i64 0, .slice none 0 0, .slice none 0 0, .bool false]) 8 96 := ⟨Try.underlying76, by kernel_rfl, rfl, by decide, by decide⟩


theorem agg_Lead : Agg Try.prog 145 8 := ⟨by kernel_rfl, by kernel_rfl⟩
theorem LeadD.open {B : Nat → Prop} {w : World} {x : LeadD} {cs : List Value} (h : Rep B w x.c cs) : ∃ A0 k0 A1 k1, cs = [.int .i64 x.id.rep, .int .i64 x.id.slot, .int .i64 x.bal, .int .i64 x.phase, .int .i64 x.seq, .slice A0 x.deps.length k0, .slice A1 x.frm.length k1, .bool x.same] ∧ Rep B w (.sl 32 2 x.deps.length (cat IdD.c x.deps) .nil) [.slice A0 x.deps.length k0] ∧ Rep B w (.sl 3 1 x.frm.length (cat intC x.frm) .nil) [.slice A1 x.frm.length k1] := by
  have h0 : Rep B w x.c cs := h
  obtain ⟨c1, rfl, h1⟩ := Rep.int.1 h0
  obtain ⟨c2, rfl, h2⟩ := Rep.int.1 h1
  obtain ⟨c3, rfl, h3⟩ := Rep.int.1 h2
  obtain ⟨c4, rfl, h4⟩ := Rep.int.1 h3
  obtain ⟨c5, rfl, h5⟩ := Rep.int.1 h4
  obtain ⟨A0, k0, c6, rfl, s0, h6⟩ := Rep.sl.1 h5
  obtain ⟨A1, k1, c7, rfl, s1, h7⟩ := Rep.sl.1 h6
  obtain ⟨c8, rfl, h8⟩ := Rep.bool.1 h7
  obtain rfl := Rep.nil.1 h8
  exact ⟨A0, k0, A1, k1, rfl, s0, s1⟩
theorem LeadD.shut {B : Nat → Prop} {w : World} {x : LeadD} {v0 v1 : Value} (s0 : Rep B w (.sl 32 2 x.deps.length (cat IdD.c x.deps) .nil) [v0]) (s1 : Rep B w (.sl 3 1 x.frm.length (cat intC x.frm) .nil) [v1]) : Rep B w x.c [.int .i64 x.id.rep, .int .i64 x.id.slot, .int .i64 x.bal, .int .i64 x.phase, .int .i64 x.seq, v0, v1, .bool x.same] := by
  obtain ⟨A0, k0, q0, e0, s0, _⟩ := Rep.sl.1 s0
  injection e0 with e0 _
  subst e0
  obtain ⟨A1, k1, q1, e1, s1, _⟩ := Rep.sl.1 s1
  injection e1 with e1 _
  subst e1
  have z : Rep B w .nil [] := Rep.nil.2 rfl
  exact (Rep.int.2 ⟨_, rfl, (Rep.int.2 ⟨_, rfl, (Rep.int.2 ⟨_, rfl, (Rep.int.2 ⟨_, rfl, (Rep.int.2 ⟨_, rfl, (Rep.sl.2 ⟨_, _, _, rfl, s0, (Rep.sl.2 ⟨_, _, _, rfl, s1, (Rep.bool.2 ⟨_, rfl, z⟩)⟩)⟩)⟩)⟩)⟩)⟩)⟩)
theorem LeadD.openO {w : World} {base : Nat} {x : LeadD} {cs : List Value} {F : List Nat} (h : Own w base x.c cs F) : ∃ A0 k0 A1 k1 F0 F1, cs = [.int .i64 x.id.rep, .int .i64 x.id.slot, .int .i64 x.bal, .int .i64 x.phase, .int .i64 x.seq, .slice A0 x.deps.length k0, .slice A1 x.frm.length k1, .bool x.same] ∧ F = F0 ++ (F1) ∧ Own w base (.sl 32 2 x.deps.length (cat IdD.c x.deps) .nil) [.slice A0 x.deps.length k0] F0 ∧ Own w base (.sl 3 1 x.frm.length (cat intC x.frm) .nil) [.slice A1 x.frm.length k1] F1 := by
  have h0 : Own w base x.c cs F := h
  obtain ⟨c1, rfl, h1⟩ := Own.int.1 h0
  obtain ⟨c2, rfl, h2⟩ := Own.int.1 h1
  obtain ⟨c3, rfl, h3⟩ := Own.int.1 h2
  obtain ⟨c4, rfl, h4⟩ := Own.int.1 h3
  obtain ⟨c5, rfl, h5⟩ := Own.int.1 h4
  obtain ⟨A0, k0, c6, F0, G0, rfl, rfl, s0, h6⟩ := Own.sl.1 h5
  obtain ⟨A1, k1, c7, F1, G1, rfl, rfl, s1, h7⟩ := Own.sl.1 h6
  obtain ⟨c8, rfl, h8⟩ := Own.bool.1 h7
  obtain ⟨rfl, rfl⟩ := Own.nil.1 h8
  exact ⟨A0, k0, A1, k1, F0, F1, rfl, by simp only [List.append_nil], s0, s1⟩
theorem LeadD.shutO {w : World} {base : Nat} {x : LeadD} {v0 v1 : Value} {F0 F1 : List Nat} (s0 : Own w base (.sl 32 2 x.deps.length (cat IdD.c x.deps) .nil) [v0] F0) (s1 : Own w base (.sl 3 1 x.frm.length (cat intC x.frm) .nil) [v1] F1) : Own w base x.c [.int .i64 x.id.rep, .int .i64 x.id.slot, .int .i64 x.bal, .int .i64 x.phase, .int .i64 x.seq, v0, v1, .bool x.same] (F0 ++ (F1)) := by
  obtain ⟨A0, k0, q0, X0, Y0, e0, f0, s0, g0⟩ := Own.sl.1 s0
  injection e0 with e0 p0
  subst e0
  subst p0
  obtain ⟨_, rfl⟩ := Own.nil.1 g0
  rw [List.append_nil] at f0
  subst f0
  obtain ⟨A1, k1, q1, X1, Y1, e1, f1, s1, g1⟩ := Own.sl.1 s1
  injection e1 with e1 p1
  subst e1
  subst p1
  obtain ⟨_, rfl⟩ := Own.nil.1 g1
  rw [List.append_nil] at f1
  subst f1
  have z : Own w base .nil [] [] := Own.nil.2 ⟨rfl, rfl⟩
  have hh := (show Own w base x.c [.int .i64 x.id.rep, .int .i64 x.id.slot, .int .i64 x.bal, .int .i64 x.phase, .int .i64 x.seq, .slice A0 _ k0, .slice A1 _ k1, .bool x.same] (_) from (Own.int.2 ⟨_, rfl, (Own.int.2 ⟨_, rfl, (Own.int.2 ⟨_, rfl, (Own.int.2 ⟨_, rfl, (Own.int.2 ⟨_, rfl, (Own.sl.2 ⟨_, _, _, _, _, rfl, rfl, s0, (Own.sl.2 ⟨_, _, _, _, _, rfl, rfl, s1, (Own.bool.2 ⟨_, rfl, z⟩)⟩)⟩)⟩)⟩)⟩)⟩)⟩))
  simp only [List.append_nil] at hh
  exact hh





structure ENodeD where
  me : Int
  next : Int
  insts : List InstD
  leads : List LeadD
  deriving DecidableEq
def ENodeD.cs (x : ENodeD) (r : Cs) : Cs := (.int x.me (.int x.next (.sl 49 16 x.insts.length (cat InstD.c x.insts) (.sl 145 8 x.leads.length (cat LeadD.c x.leads) r))))
def ENodeD.c (x : ENodeD) : Cs := x.cs .nil
def ENodeD.cnt (x : ENodeD) : Nat := 1 + 1 + cts InstD.cnt x.insts + cts LeadD.cnt x.leads
def ENodeD.mkv (x : ENodeD) (k : Nat) : ENodeD := ⟨((k : Nat) : Int), ((k + 1 : Nat) : Int), mks InstD.mkv InstD.cnt x.insts (k + 1 + 1), mks LeadD.mkv LeadD.cnt x.leads (k + 1 + 1 + cts InstD.cnt x.insts)⟩
def ENodeD.cntT (x : ENodeD) : Nat := cts InstD.cnt x.insts + cts LeadD.cnt x.leads
def ENodeD.mkT (x : ENodeD) (k : Nat) : ENodeD := ⟨x.me, x.next, mks InstD.mkv InstD.cnt x.insts (k), mks LeadD.mkv LeadD.cnt x.leads (k + cts InstD.cnt x.insts)⟩
theorem ENodeD.width (x : ENodeD) : x.c.width = 4 := rfl


theorem E_ENode : Elem Try.prog 84 78 (.agg #[.int .i64 0, .int .i64 0, .slice none 0 0, .slice none 0 0]) 4 64 := ⟨Try.underlying84, by kernel_rfl, rfl, by decide, by decide⟩


theorem agg_ENode : Agg Try.prog 78 4 := ⟨by kernel_rfl, by kernel_rfl⟩
theorem ENodeD.open {B : Nat → Prop} {w : World} {x : ENodeD} {cs : List Value} (h : Rep B w x.c cs) : ∃ A0 k0 A1 k1, cs = [.int .i64 x.me, .int .i64 x.next, .slice A0 x.insts.length k0, .slice A1 x.leads.length k1] ∧ Rep B w (.sl 49 16 x.insts.length (cat InstD.c x.insts) .nil) [.slice A0 x.insts.length k0] ∧ Rep B w (.sl 145 8 x.leads.length (cat LeadD.c x.leads) .nil) [.slice A1 x.leads.length k1] := by
  have h0 : Rep B w x.c cs := h
  obtain ⟨c1, rfl, h1⟩ := Rep.int.1 h0
  obtain ⟨c2, rfl, h2⟩ := Rep.int.1 h1
  obtain ⟨A0, k0, c3, rfl, s0, h3⟩ := Rep.sl.1 h2
  obtain ⟨A1, k1, c4, rfl, s1, h4⟩ := Rep.sl.1 h3
  obtain rfl := Rep.nil.1 h4
  exact ⟨A0, k0, A1, k1, rfl, s0, s1⟩
theorem ENodeD.shut {B : Nat → Prop} {w : World} {x : ENodeD} {v0 v1 : Value} (s0 : Rep B w (.sl 49 16 x.insts.length (cat InstD.c x.insts) .nil) [v0]) (s1 : Rep B w (.sl 145 8 x.leads.length (cat LeadD.c x.leads) .nil) [v1]) : Rep B w x.c [.int .i64 x.me, .int .i64 x.next, v0, v1] := by
  obtain ⟨A0, k0, q0, e0, s0, _⟩ := Rep.sl.1 s0
  injection e0 with e0 _
  subst e0
  obtain ⟨A1, k1, q1, e1, s1, _⟩ := Rep.sl.1 s1
  injection e1 with e1 _
  subst e1
  have z : Rep B w .nil [] := Rep.nil.2 rfl
  exact (Rep.int.2 ⟨_, rfl, (Rep.int.2 ⟨_, rfl, (Rep.sl.2 ⟨_, _, _, rfl, s0, (Rep.sl.2 ⟨_, _, _, rfl, s1, z⟩)⟩)⟩)⟩)
theorem ENodeD.openO {w : World} {base : Nat} {x : ENodeD} {cs : List Value} {F : List Nat} (h : Own w base x.c cs F) : ∃ A0 k0 A1 k1 F0 F1, cs = [.int .i64 x.me, .int .i64 x.next, .slice A0 x.insts.length k0, .slice A1 x.leads.length k1] ∧ F = F0 ++ (F1) ∧ Own w base (.sl 49 16 x.insts.length (cat InstD.c x.insts) .nil) [.slice A0 x.insts.length k0] F0 ∧ Own w base (.sl 145 8 x.leads.length (cat LeadD.c x.leads) .nil) [.slice A1 x.leads.length k1] F1 := by
  have h0 : Own w base x.c cs F := h
  obtain ⟨c1, rfl, h1⟩ := Own.int.1 h0
  obtain ⟨c2, rfl, h2⟩ := Own.int.1 h1
  obtain ⟨A0, k0, c3, F0, G0, rfl, rfl, s0, h3⟩ := Own.sl.1 h2
  obtain ⟨A1, k1, c4, F1, G1, rfl, rfl, s1, h4⟩ := Own.sl.1 h3
  obtain ⟨rfl, rfl⟩ := Own.nil.1 h4
  exact ⟨A0, k0, A1, k1, F0, F1, rfl, by simp only [List.append_nil], s0, s1⟩
theorem ENodeD.shutO {w : World} {base : Nat} {x : ENodeD} {v0 v1 : Value} {F0 F1 : List Nat} (s0 : Own w base (.sl 49 16 x.insts.length (cat InstD.c x.insts) .nil) [v0] F0) (s1 : Own w base (.sl 145 8 x.leads.length (cat LeadD.c x.leads) .nil) [v1] F1) : Own w base x.c [.int .i64 x.me, .int .i64 x.next, v0, v1] (F0 ++ (F1)) := by
  obtain ⟨A0, k0, q0, X0, Y0, e0, f0, s0, g0⟩ := Own.sl.1 s0
  injection e0 with e0 p0
  subst e0
  subst p0
  obtain ⟨_, rfl⟩ := Own.nil.1 g0
  rw [List.append_nil] at f0
  subst f0
  obtain ⟨A1, k1, q1, X1, Y1, e1, f1, s1, g1⟩ := Own.sl.1 s1
  injection e1 with e1 p1
  subst e1
  subst p1
  obtain ⟨_, rfl⟩ := Own.nil.1 g1
  rw [List.append_nil] at f1
  subst f1
  have z : Own w base .nil [] [] := Own.nil.2 ⟨rfl, rfl⟩
  have hh := (show Own w base x.c [.int .i64 x.me, .int .i64 x.next, .slice A0 _ k0, .slice A1 _ k1] (_) from (Own.int.2 ⟨_, rfl, (Own.int.2 ⟨_, rfl, (Own.sl.2 ⟨_, _, _, _, _, rfl, rfl, s0, (Own.sl.2 ⟨_, _, _, _, _, rfl, rfl, s1, z⟩)⟩)⟩)⟩))
  simp only [List.append_nil] at hh
  exact hh





structure ENetD where
  nodes : List ENodeD
  pool : List EMsgD
  deriving DecidableEq
def ENetD.cs (x : ENetD) (r : Cs) : Cs := (.sl 78 4 x.nodes.length (cat ENodeD.c x.nodes) (.sl 36 19 x.pool.length (cat EMsgD.c x.pool) r))
def ENetD.c (x : ENetD) : Cs := x.cs .nil
def ENetD.cnt (x : ENetD) : Nat := cts ENodeD.cnt x.nodes + cts EMsgD.cnt x.pool
def ENetD.mkv (x : ENetD) (k : Nat) : ENetD := ⟨mks ENodeD.mkv ENodeD.cnt x.nodes (k), mks EMsgD.mkv EMsgD.cnt x.pool (k + cts ENodeD.cnt x.nodes)⟩
def ENetD.cntT (x : ENetD) : Nat := cts ENodeD.cnt x.nodes + cts EMsgD.cnt x.pool
def ENetD.mkT (x : ENetD) (k : Nat) : ENetD := ⟨mks ENodeD.mkv ENodeD.cnt x.nodes (k), mks EMsgD.mkv EMsgD.cnt x.pool (k + cts ENodeD.cnt x.nodes)⟩
theorem ENetD.width (x : ENetD) : x.c.width = 2 := rfl





theorem agg_ENet : Agg Try.prog 87 2 := ⟨by kernel_rfl, by kernel_rfl⟩
theorem ENetD.open {B : Nat → Prop} {w : World} {x : ENetD} {cs : List Value} (h : Rep B w x.c cs) : ∃ A0 k0 A1 k1, cs = [.slice A0 x.nodes.length k0, .slice A1 x.pool.length k1] ∧ Rep B w (.sl 78 4 x.nodes.length (cat ENodeD.c x.nodes) .nil) [.slice A0 x.nodes.length k0] ∧ Rep B w (.sl 36 19 x.pool.length (cat EMsgD.c x.pool) .nil) [.slice A1 x.pool.length k1] := by
  have h0 : Rep B w x.c cs := h
  obtain ⟨A0, k0, c1, rfl, s0, h1⟩ := Rep.sl.1 h0
  obtain ⟨A1, k1, c2, rfl, s1, h2⟩ := Rep.sl.1 h1
  obtain rfl := Rep.nil.1 h2
  exact ⟨A0, k0, A1, k1, rfl, s0, s1⟩
theorem ENetD.shut {B : Nat → Prop} {w : World} {x : ENetD} {v0 v1 : Value} (s0 : Rep B w (.sl 78 4 x.nodes.length (cat ENodeD.c x.nodes) .nil) [v0]) (s1 : Rep B w (.sl 36 19 x.pool.length (cat EMsgD.c x.pool) .nil) [v1]) : Rep B w x.c [v0, v1] := by
  obtain ⟨A0, k0, q0, e0, s0, _⟩ := Rep.sl.1 s0
  injection e0 with e0 _
  subst e0
  obtain ⟨A1, k1, q1, e1, s1, _⟩ := Rep.sl.1 s1
  injection e1 with e1 _
  subst e1
  have z : Rep B w .nil [] := Rep.nil.2 rfl
  exact (Rep.sl.2 ⟨_, _, _, rfl, s0, (Rep.sl.2 ⟨_, _, _, rfl, s1, z⟩)⟩)
theorem ENetD.openO {w : World} {base : Nat} {x : ENetD} {cs : List Value} {F : List Nat} (h : Own w base x.c cs F) : ∃ A0 k0 A1 k1 F0 F1, cs = [.slice A0 x.nodes.length k0, .slice A1 x.pool.length k1] ∧ F = F0 ++ (F1) ∧ Own w base (.sl 78 4 x.nodes.length (cat ENodeD.c x.nodes) .nil) [.slice A0 x.nodes.length k0] F0 ∧ Own w base (.sl 36 19 x.pool.length (cat EMsgD.c x.pool) .nil) [.slice A1 x.pool.length k1] F1 := by
  have h0 : Own w base x.c cs F := h
  obtain ⟨A0, k0, c1, F0, G0, rfl, rfl, s0, h1⟩ := Own.sl.1 h0
  obtain ⟨A1, k1, c2, F1, G1, rfl, rfl, s1, h2⟩ := Own.sl.1 h1
  obtain ⟨rfl, rfl⟩ := Own.nil.1 h2
  exact ⟨A0, k0, A1, k1, F0, F1, rfl, by simp only [List.append_nil], s0, s1⟩
theorem ENetD.shutO {w : World} {base : Nat} {x : ENetD} {v0 v1 : Value} {F0 F1 : List Nat} (s0 : Own w base (.sl 78 4 x.nodes.length (cat ENodeD.c x.nodes) .nil) [v0] F0) (s1 : Own w base (.sl 36 19 x.pool.length (cat EMsgD.c x.pool) .nil) [v1] F1) : Own w base x.c [v0, v1] (F0 ++ (F1)) := by
  obtain ⟨A0, k0, q0, X0, Y0, e0, f0, s0, g0⟩ := Own.sl.1 s0
  injection e0 with e0 p0
  subst e0
  subst p0
  obtain ⟨_, rfl⟩ := Own.nil.1 g0
  rw [List.append_nil] at f0
  subst f0
  obtain ⟨A1, k1, q1, X1, Y1, e1, f1, s1, g1⟩ := Own.sl.1 s1
  injection e1 with e1 p1
  subst e1
  subst p1
  obtain ⟨_, rfl⟩ := Own.nil.1 g1
  rw [List.append_nil] at f1
  subst f1
  have z : Own w base .nil [] [] := Own.nil.2 ⟨rfl, rfl⟩
  have hh := (show Own w base x.c [.slice A0 _ k0, .slice A1 _ k1] (_) from (Own.sl.2 ⟨_, _, _, _, _, rfl, rfl, s0, (Own.sl.2 ⟨_, _, _, _, _, rfl, rfl, s1, z⟩)⟩))
  simp only [List.append_nil] at hh
  exact hh




end Go.Proofs.Ytbdblfpepnoafaa
