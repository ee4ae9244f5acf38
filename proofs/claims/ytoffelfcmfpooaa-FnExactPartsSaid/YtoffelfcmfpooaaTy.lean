/-
  The structs of the laws as data and as rows of cells; opened and shut. Conditions: none.
-/
import Derived.Test.YtoffelfcmfpooaaRow
namespace Go.Proofs.Ytoffelfcmfpooaa
open Go.RowKit


structure IdD where
  rep : Int
  slot : Int
  deriving DecidableEq
def IdD.cs (x : IdD) (r : Cs) : Cs := (.int x.rep (.int x.slot r))
def IdD.c (x : IdD) : Cs := x.cs .nil
def IdD.cnt (_ : IdD) : Nat := 1 + 1
def IdD.mkv (_ : IdD) (k : Nat) : IdD := ⟨((k : Nat) : Int), ((k + 1 : Nat) : Int)⟩
def IdD.cntT (_ : IdD) : Nat := 0
def IdD.mkT (x : IdD) (_ : Nat) : IdD := ⟨x.rep, x.slot⟩
theorem IdD.width (x : IdD) : x.c.width = 2 := rfl


theorem E_Id : Elem Try.prog 38 36 (.agg #[.int .i64 0, .int .i64 0]) 2 16 := ⟨Try.underlying38, by kernel_rfl, rfl, by decide, by decide⟩


theorem agg_Id : Agg Try.prog 36 2 := ⟨by kernel_rfl, by kernel_rfl⟩
theorem IdD.open {B : Nat → Prop} {w : World} {x : IdD} {cs : List Value} (h : Rep B w x.c cs) : cs = [.int .i64 x.rep, .int .i64 x.slot] := by
  have h0 : Rep B w x.c cs := h
  obtain ⟨c1, rfl, h1⟩ := Rep.int.1 h0
  obtain ⟨c2, rfl, h2⟩ := Rep.int.1 h1
  obtain rfl := Rep.nil.1 h2
  exact rfl
theorem IdD.shut {B : Nat → Prop} {w : World} {x : IdD} : Rep B w x.c [.int .i64 x.rep, .int .i64 x.slot] := by
  have z : Rep B w .nil [] := Rep.nil.2 rfl
  exact (Rep.int.2 ⟨_, rfl, (Rep.int.2 ⟨_, rfl, z⟩)⟩)
theorem IdD.openO {w : World} {base : Nat} {x : IdD} {cs : List Value} {F : List Nat} (h : Own w base x.c cs F) : cs = [.int .i64 x.rep, .int .i64 x.slot] ∧ F = [] := by
  have h0 : Own w base x.c cs F := h
  obtain ⟨c1, rfl, h1⟩ := Own.int.1 h0
  obtain ⟨c2, rfl, h2⟩ := Own.int.1 h1
  obtain ⟨rfl, rfl⟩ := Own.nil.1 h2
  exact ⟨rfl, rfl⟩
theorem IdD.shutO {w : World} {base : Nat} {x : IdD} : Own w base x.c [.int .i64 x.rep, .int .i64 x.slot] ([]) := by
  have z : Own w base .nil [] [] := Own.nil.2 ⟨rfl, rfl⟩
  exact (Own.int.2 ⟨_, rfl, (Own.int.2 ⟨_, rfl, z⟩)⟩)


theorem agg_lId : Agg Try.prog 24 2 := ⟨by kernel_rfl, by kernel_rfl⟩


structure CmdD where
  kind : Int
  client : Int
  no : Int
  set : List UInt8
  name : List UInt8
  tag : List UInt8
  n : Int
  chunks : List (List UInt8)
  deriving DecidableEq
def CmdD.cs (x : CmdD) (r : Cs) : Cs := (.int x.kind (.int x.client (.int x.no (.str x.set (.str x.name (.str x.tag (.int x.n (.sl 9 1 x.chunks.length (cat strC x.chunks) r))))))))
def CmdD.c (x : CmdD) : Cs := x.cs .nil
def CmdD.cnt (x : CmdD) : Nat := 1 + 1 + 1 + 1 + 1 + 1 + 1 + cts (fun _ => 1) x.chunks
def CmdD.mkv (x : CmdD) (k : Nat) : CmdD := ⟨((k : Nat) : Int), ((k + 1 : Nat) : Int), ((k + 1 + 1 : Nat) : Int), markL (k + 1 + 1 + 1), markL (k + 1 + 1 + 1 + 1), markL (k + 1 + 1 + 1 + 1 + 1), ((k + 1 + 1 + 1 + 1 + 1 + 1 : Nat) : Int), mks (fun _ k => markL k) (fun _ => 1) x.chunks (k + 1 + 1 + 1 + 1 + 1 + 1 + 1)⟩
def CmdD.cntT (x : CmdD) : Nat := cts (fun _ => 1) x.chunks
def CmdD.mkT (x : CmdD) (k : Nat) : CmdD := ⟨x.kind, x.client, x.no, x.set, x.name, x.tag, x.n, mks (fun _ k => markL k) (fun _ => 1) x.chunks (k)⟩
theorem CmdD.width (x : CmdD) : x.c.width = 8 := rfl





theorem agg_Cmd : Agg Try.prog 37 8 := ⟨by kernel_rfl, by kernel_rfl⟩
theorem CmdD.open {B : Nat → Prop} {w : World} {x : CmdD} {cs : List Value} (h : Rep B w x.c cs) : ∃ A0 k0, cs = [.int .i64 x.kind, .int .i64 x.client, .int .i64 x.no, .string (bs x.set), .string (bs x.name), .string (bs x.tag), .int .i64 x.n, .slice A0 x.chunks.length k0] ∧ Rep B w (.sl 9 1 x.chunks.length (cat strC x.chunks) .nil) [.slice A0 x.chunks.length k0] := by
  have h0 : Rep B w x.c cs := h
  obtain ⟨c1, rfl, h1⟩ := Rep.int.1 h0
  obtain ⟨c2, rfl, h2⟩ := Rep.int.1 h1
  obtain ⟨c3, rfl, h3⟩ := Rep.int.1 h2
  obtain ⟨c4, rfl, h4⟩ := Rep.str.1 h3
  obtain ⟨c5, rfl, h5⟩ := Rep.str.1 h4
  obtain ⟨c6, rfl, h6⟩ := Rep.str.1 h5
  obtain ⟨c7, rfl, h7⟩ := Rep.int.1 h6
  obtain ⟨A0, k0, c8, rfl, s0, h8⟩ := Rep.sl.1 h7
  obtain rfl := Rep.nil.1 h8
  exact ⟨A0, k0, rfl, s0⟩
theorem CmdD.shut {B : Nat → Prop} {w : World} {x : CmdD} {v0 : Value} (s0 : Rep B w (.sl 9 1 x.chunks.length (cat strC x.chunks) .nil) [v0]) : Rep B w x.c [.int .i64 x.kind, .int .i64 x.client, .int .i64 x.no, .string (bs x.set), .string (bs x.name), .string (bs x.tag), .int .i64 x.n, v0] := by
  obtain ⟨A0, k0, q0, e0, s0, _⟩ := Rep.sl.1 s0
  injection e0 with e0 _
  subst e0
  have z : Rep B w .nil [] := Rep.nil.2 rfl
  exact (Rep.int.2 ⟨_, rfl, (Rep.int.2 ⟨_, rfl, (Rep.int.2 ⟨_, rfl, (Rep.str.2 ⟨_, rfl, (Rep.str.2 ⟨_, rfl, (Rep.str.2 ⟨_, rfl, (Rep.int.2 ⟨_, rfl, (Rep.sl.2 ⟨_, _, _, rfl, s0, z⟩)⟩)⟩)⟩)⟩)⟩)⟩)⟩)
theorem CmdD.openO {w : World} {base : Nat} {x : CmdD} {cs : List Value} {F : List Nat} (h : Own w base x.c cs F) : ∃ A0 k0 F0, cs = [.int .i64 x.kind, .int .i64 x.client, .int .i64 x.no, .string (bs x.set), .string (bs x.name), .string (bs x.tag), .int .i64 x.n, .slice A0 x.chunks.length k0] ∧ F = F0 ∧ Own w base (.sl 9 1 x.chunks.length (cat strC x.chunks) .nil) [.slice A0 x.chunks.length k0] F0 := by
  have h0 : Own w base x.c cs F := h
  obtain ⟨c1, rfl, h1⟩ := Own.int.1 h0
  obtain ⟨c2, rfl, h2⟩ := Own.int.1 h1
  obtain ⟨c3, rfl, h3⟩ := Own.int.1 h2
  obtain ⟨c4, rfl, h4⟩ := Own.str.1 h3
  obtain ⟨c5, rfl, h5⟩ := Own.str.1 h4
  obtain ⟨c6, rfl, h6⟩ := Own.str.1 h5
  obtain ⟨c7, rfl, h7⟩ := Own.int.1 h6
  obtain ⟨A0, k0, c8, F0, G0, rfl, rfl, s0, h8⟩ := Own.sl.1 h7
  obtain ⟨rfl, rfl⟩ := Own.nil.1 h8
  exact ⟨A0, k0, F0, rfl, by simp only [List.append_nil], s0⟩
theorem CmdD.shutO {w : World} {base : Nat} {x : CmdD} {v0 : Value} {F0 : List Nat} (s0 : Own w base (.sl 9 1 x.chunks.length (cat strC x.chunks) .nil) [v0] F0) : Own w base x.c [.int .i64 x.kind, .int .i64 x.client, .int .i64 x.no, .string (bs x.set), .string (bs x.name), .string (bs x.tag), .int .i64 x.n, v0] (F0) := by
  obtain ⟨A0, k0, q0, X0, Y0, e0, f0, s0, g0⟩ := Own.sl.1 s0
  injection e0 with e0 p0
  subst e0
  subst p0
  obtain ⟨_, rfl⟩ := Own.nil.1 g0
  rw [List.append_nil] at f0
  subst f0
  have z : Own w base .nil [] [] := Own.nil.2 ⟨rfl, rfl⟩
  have hh := (show Own w base x.c [.int .i64 x.kind, .int .i64 x.client, .int .i64 x.no, .string (bs x.set), .string (bs x.name), .string (bs x.tag), .int .i64 x.n, .slice A0 _ k0] (_) from (Own.int.2 ⟨_, rfl, (Own.int.2 ⟨_, rfl, (Own.int.2 ⟨_, rfl, (Own.str.2 ⟨_, rfl, (Own.str.2 ⟨_, rfl, (Own.str.2 ⟨_, rfl, (Own.int.2 ⟨_, rfl, (Own.sl.2 ⟨_, _, _, _, _, rfl, rfl, s0, z⟩)⟩)⟩)⟩)⟩)⟩)⟩)⟩))
  simp only [List.append_nil] at hh
  exact hh


theorem agg_lCmd : Agg Try.prog 27 8 := ⟨by kernel_rfl, by kernel_rfl⟩
































































































































































































structure InstD where
  id : IdD
  bal : Int
  vbal : Int
  status : Int
  cmd : CmdD
  seq : Int
  deps : List IdD
  same : Bool
  deriving DecidableEq
def InstD.cs (x : InstD) (r : Cs) : Cs := (IdD.cs x.id (.int x.bal (.int x.vbal (.int x.status (CmdD.cs x.cmd (.int x.seq (.sl 36 2 x.deps.length (cat IdD.c x.deps) (.bool x.same r))))))))
def InstD.c (x : InstD) : Cs := x.cs .nil
def InstD.cnt (x : InstD) : Nat := IdD.cnt x.id + 1 + 1 + 1 + CmdD.cnt x.cmd + 1 + cts IdD.cnt x.deps + 1
def InstD.mkv (x : InstD) (k : Nat) : InstD := ⟨IdD.mkv x.id (k), ((k + IdD.cnt x.id : Nat) : Int), ((k + IdD.cnt x.id + 1 : Nat) : Int), ((k + IdD.cnt x.id + 1 + 1 : Nat) : Int), CmdD.mkv x.cmd (k + IdD.cnt x.id + 1 + 1 + 1), ((k + IdD.cnt x.id + 1 + 1 + 1 + CmdD.cnt x.cmd : Nat) : Int), mks IdD.mkv IdD.cnt x.deps (k + IdD.cnt x.id + 1 + 1 + 1 + CmdD.cnt x.cmd + 1), decide ((k + IdD.cnt x.id + 1 + 1 + 1 + CmdD.cnt x.cmd + 1 + cts IdD.cnt x.deps) % 3 = 0)⟩
def InstD.cntT (x : InstD) : Nat := CmdD.cntT x.cmd + cts IdD.cnt x.deps
def InstD.mkT (x : InstD) (k : Nat) : InstD := ⟨IdD.mkT x.id (k), x.bal, x.vbal, x.status, CmdD.mkT x.cmd (k), x.seq, mks IdD.mkv IdD.cnt x.deps (k + CmdD.cntT x.cmd), x.same⟩
theorem InstD.width (x : InstD) : x.c.width = 16 := rfl


theorem E_Inst : Elem Try.prog 33 40 (.agg #[.int .i64 0, .int .i64 0, .int .i64 0, .int .i64 0, .int .i64 0, .int .i64 0, .int .i64 0, .int .i64 0, .string ⟨#[]⟩, .string ⟨#[]⟩, .string ⟨#[]⟩, .int .i64 0, .slice none 0 0, .int .i64 0, .slice none 0 0, .bool false]) 16 184 := ⟨Try.underlying33, by kernel_rfl, rfl, by decide, by decide⟩


theorem agg_Inst : Agg Try.prog 40 16 := ⟨by kernel_rfl, by kernel_rfl⟩
theorem InstD.open {B : Nat → Prop} {w : World} {x : InstD} {cs : List Value} (h : Rep B w x.c cs) : ∃ A0 k0 A1 k1, cs = [.int .i64 x.id.rep, .int .i64 x.id.slot, .int .i64 x.bal, .int .i64 x.vbal, .int .i64 x.status, .int .i64 x.cmd.kind, .int .i64 x.cmd.client, .int .i64 x.cmd.no, .string (bs x.cmd.set), .string (bs x.cmd.name), .string (bs x.cmd.tag), .int .i64 x.cmd.n, .slice A0 x.cmd.chunks.length k0, .int .i64 x.seq, .slice A1 x.deps.length k1, .bool x.same] ∧ Rep B w (.sl 9 1 x.cmd.chunks.length (cat strC x.cmd.chunks) .nil) [.slice A0 x.cmd.chunks.length k0] ∧ Rep B w (.sl 36 2 x.deps.length (cat IdD.c x.deps) .nil) [.slice A1 x.deps.length k1] := by
  have h0 : Rep B w x.c cs := h
  obtain ⟨c1, rfl, h1⟩ := Rep.int.1 h0
  obtain ⟨c2, rfl, h2⟩ := Rep.int.1 h1
  obtain ⟨c3, rfl, h3⟩ := Rep.int.1 h2
  obtain ⟨c4, rfl, h4⟩ := Rep.int.1 h3
  obtain ⟨c5, rfl, h5⟩ := Rep.int.1 h4
  obtain ⟨c6, rfl, h6⟩ := Rep.int.1 h5
  obtain ⟨c7, rfl, h7⟩ := Rep.int.1 h6
  obtain ⟨c8, rfl, h8⟩ := Rep.int.1 h7
  obtain ⟨c9, rfl, h9⟩ := Rep.str.1 h8
  obtain ⟨c10, rfl, h10⟩ := Rep.str.1 h9
  obtain ⟨c11, rfl, h11⟩ := Rep.str.1 h10
  obtain ⟨c12, rfl, h12⟩ := Rep.int.1 h11
  obtain ⟨A0, k0, c13, rfl, s0, h13⟩ := Rep.sl.1 h12
  obtain ⟨c14, rfl, h14⟩ := Rep.int.1 h13
  obtain ⟨A1, k1, c15, rfl, s1, h15⟩ := Rep.sl.1 h14
  obtain ⟨c16, rfl, h16⟩ := Rep.bool.1 h15
  obtain rfl := Rep.nil.1 h16
  exact ⟨A0, k0, A1, k1, rfl, s0, s1⟩
theorem InstD.shut {B : Nat → Prop} {w : World} {x : InstD} {v0 v1 : Value} (s0 : Rep B w (.sl 9 1 x.cmd.chunks.length (cat strC x.cmd.chunks) .nil) [v0]) (s1 : Rep B w (.sl 36 2 x.deps.length (cat IdD.c x.deps) .nil) [v1]) : Rep B w x.c [.int .i64 x.id.rep, .int .i64 x.id.slot, .int .i64 x.bal, .int .i64 x.vbal, .int .i64 x.status, .int .i64 x.cmd.kind, .int .i64 x.cmd.client, .int .i64 x.cmd.no, .string (bs x.cmd.set), .string (bs x.cmd.name), .string (bs x.cmd.tag), .int .i64 x.cmd.n, v0, .int .i64 x.seq, v1, .bool x.same] := by
  obtain ⟨A0, k0, q0, e0, s0, _⟩ := Rep.sl.1 s0
  injection e0 with e0 _
  subst e0
  obtain ⟨A1, k1, q1, e1, s1, _⟩ := Rep.sl.1 s1
  injection e1 with e1 _
  subst e1
  have z : Rep B w .nil [] := Rep.nil.2 rfl
  exact (Rep.int.2 ⟨_, rfl, (Rep.int.2 ⟨_, rfl, (Rep.int.2 ⟨_, rfl, (Rep.int.2 ⟨_, rfl, (Rep.int.2 ⟨_, rfl, (Rep.int.2 ⟨_, rfl, (Rep.int.2 ⟨_, rfl, (Rep.int.2 ⟨_, rfl, (Rep.str.2 ⟨_, rfl, (Rep.str.2 ⟨_, rfl, (Rep.str.2 ⟨_, rfl, (Rep.int.2 ⟨_, rfl, (Rep.sl.2 ⟨_, _, _, rfl, s0, (Rep.int.2 ⟨_, rfl, (Rep.sl.2 ⟨_, _, _, rfl, s1, (Rep.bool.2 ⟨_, rfl, z⟩)⟩)⟩)⟩)⟩)⟩)⟩)⟩)⟩)⟩)⟩)⟩)⟩)⟩)⟩)⟩)
theorem InstD.openO {w : World} {base : Nat} {x : InstD} {cs : List Value} {F : List Nat} (h : Own w base x.c cs F) : ∃ A0 k0 A1 k1 F0 F1, cs = [.int .i64 x.id.rep, .int .i64 x.id.slot, .int .i64 x.bal, .int .i64 x.vbal, .int .i64 x.status, .int .i64 x.cmd.kind, .int .i64 x.cmd.client, .int .i64 x.cmd.no, .string (bs x.cmd.set), .string (bs x.cmd.name), .string (bs x.cmd.tag), .int .i64 x.cmd.n, .slice A0 x.cmd.chunks.length k0, .int .i64 x.seq, .slice A1 x.deps.length k1, .bool x.same] ∧ F = F0 ++ (F1) ∧ Own w base (.sl 9 1 x.cmd.chunks.length (cat strC x.cmd.chunks) .nil) [.slice A0 x.cmd.chunks.length k0] F0 ∧ Own w base (.sl 36 2 x.deps.length (cat IdD.c x.deps) .nil) [.slice A1 x.deps.length k1] F1 := by
  have h0 : Own w base x.c cs F := h
  obtain ⟨c1, rfl, h1⟩ := Own.int.1 h0
  obtain ⟨c2, rfl, h2⟩ := Own.int.1 h1
  obtain ⟨c3, rfl, h3⟩ := Own.int.1 h2
  obtain ⟨c4, rfl, h4⟩ := Own.int.1 h3
  obtain ⟨c5, rfl, h5⟩ := Own.int.1 h4
  obtain ⟨c6, rfl, h6⟩ := Own.int.1 h5
  obtain ⟨c7, rfl, h7⟩ := Own.int.1 h6
  obtain ⟨c8, rfl, h8⟩ := Own.int.1 h7
  obtain ⟨c9, rfl, h9⟩ := Own.str.1 h8
  obtain ⟨c10, rfl, h10⟩ := Own.str.1 h9
  obtain ⟨c11, rfl, h11⟩ := Own.str.1 h10
  obtain ⟨c12, rfl, h12⟩ := Own.int.1 h11
  obtain ⟨A0, k0, c13, F0, G0, rfl, rfl, s0, h13⟩ := Own.sl.1 h12
  obtain ⟨c14, rfl, h14⟩ := Own.int.1 h13
  obtain ⟨A1, k1, c15, F1, G1, rfl, rfl, s1, h15⟩ := Own.sl.1 h14
  obtain ⟨c16, rfl, h16⟩ := Own.bool.1 h15
  obtain ⟨rfl, rfl⟩ := Own.nil.1 h16
  exact ⟨A0, k0, A1, k1, F0, F1, rfl, by simp only [List.append_nil], s0, s1⟩
theorem InstD.shutO {w : World} {base : Nat} {x : InstD} {v0 v1 : Value} {F0 F1 : List Nat} (s0 : Own w base (.sl 9 1 x.cmd.chunks.length (cat strC x.cmd.chunks) .nil) [v0] F0) (s1 : Own w base (.sl 36 2 x.deps.length (cat IdD.c x.deps) .nil) [v1] F1) : Own w base x.c [.int .i64 x.id.rep, .int .i64 x.id.slot, .int .i64 x.bal, .int .i64 x.vbal, .int .i64 x.status, .int .i64 x.cmd.kind, .int .i64 x.cmd.client, .int .i64 x.cmd.no, .string (bs x.cmd.set), .string (bs x.cmd.name), .string (bs x.cmd.tag), .int .i64 x.cmd.n, v0, .int .i64 x.seq, v1, .bool x.same] (F0 ++ (F1)) := by
  obtain ⟨A0, k0, q0, X0, Y0, e0, f0, s0, g0⟩ := Own.sl.1 s0
  injection e0 with e0 p0
  subst e0
  subst p0
  obtain ⟨_, rfl⟩ := Own.nil.1 g0
  rw [List.append_nil] at f0
  subst f0
  obtain ⟨A1, k1, q1, X1, Y1, e1, f1, s1, g1⟩ := Own.sl.1 s1
  injection e1 with e1 p1
  subst e1
  subst p1
  obtain ⟨_, rfl⟩ := Own.nil.1 g1
  rw [List.append_nil] at f1
  subst f1
  have z : Own w base .nil [] [] := Own.nil.2 ⟨rfl, rfl⟩
  have hh := (show Own w base x.c [.int .i64 x.id.rep, .int .i64 x.id.slot, .int .i64 x.bal, .int .i64 x.vbal, .int .i64 x.status, .int .i64 x.cmd.kind, .int .i64 x.cmd.client, .int .i64 x.cmd.no, .string (bs x.cmd.set), .string (bs x.cmd.name), .string (bs x.cmd.tag), .int .i64 x.cmd.n, .slice A0 _ k0, .int .i64 x.seq, .slice A1 _ k1, .bool x.same] (_) from (Own.int.2 ⟨_, rfl, (Own.int.2 ⟨_, rfl, (Own.int.2 ⟨_, rfl, (Own.int.2 ⟨_, rfl, (Own.int.2 ⟨_, rfl, (Own.int.2 ⟨_, rfl, (Own.int.2 ⟨_, rfl, (Own.int.2 ⟨_, rfl, (Own.str.2 ⟨_, rfl, (Own.str.2 ⟨_, rfl, (Own.str.2 ⟨_, rfl, (Own.int.2 ⟨_, rfl, (Own.sl.2 ⟨_, _, _, _, _, rfl, rfl, s0, (Own.int.2 ⟨_, rfl, (Own.sl.2 ⟨_, _, _, _, _, rfl, rfl, s1, (Own.bool.2 ⟨_, rfl, z⟩)⟩)⟩)⟩)⟩)⟩)⟩)⟩)⟩)⟩)⟩)⟩)⟩)⟩)⟩)⟩))
  simp only [List.append_nil] at hh
  exact hh


theorem agg_lInst : Agg Try.prog 30 16 := ⟨by kernel_rfl, by kernel_rfl⟩



























































































































































































































































































































end Go.Proofs.Ytoffelfcmfpooaa
