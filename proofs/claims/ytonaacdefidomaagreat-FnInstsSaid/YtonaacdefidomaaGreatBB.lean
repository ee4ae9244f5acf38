/-
  The structs of the laws as data and as rows of cells; opened and shut. Conditions: none.
  Slices of strings: the laws' szStringS, toStringS; two slices alike (spec.l4Texts, slices.Equal). Conditions: as each contract names them.
  The laws' helpers sz*: how great an argument is. Conditions: the bounds that the form gives each argument.
  The laws' helpers to*: copies of the arguments, in blocks of their own. Conditions: the argument is no greater than 1048576.
  The laws' helpers eq*, asked about equal data. Conditions: a bound on the sizes.
  The laws' helpers mark* and held*. Conditions: as each contract names them.
  Two commands alike: impl and spec. Conditions: as each contract names them.
  Words: impl.isWord, impl.wordIf, spec.l4Word, spec.l4May. Conditions: a bound on the length.
  Right commands: impl.CmdOk and spec.CmdOk; commands that clash. Conditions: a bound on the sizes.
  Ids: in their limits, in order: impl and spec. Conditions: as each contract names them.
  Ids among Ids; rows of Ids alike. Conditions: a bound on the length.
  A return of a struct and a value beside it. Conditions: as the law names them.
  Nodes: impl.ENodeNew, spec.ENodeNew. Conditions: as each contract names them.
  Messages and instances: right ones, same ones. Conditions: bounds on the sizes.
  Data without slices: read once, owned anywhere. Conditions: as each lemma names them.
-/
import Derived.Test.YtonaacdefidomaaGreatBA
set_option linter.unusedVariables false
set_option linter.unusedSimpArgs false
namespace Go.Proofs.YtonaacdefidomaaGreat
open Go.RowKit


structure IdD where
  rep : Int
  slot : Int
  deriving DecidableEq
def IdD.cs (x : IdD) (r : Cs) : Cs := (.int x.rep (.int x.slot r))
def IdD.c (x : IdD) : Cs := x.cs .nil
def IdD.cnt (_ : IdD) : Nat := 1 + 1
def IdD.mkv (_ : IdD) (k : Nat) : IdD := ⟨((k : Nat) : Int), ((k + 1 : Nat) : Int)⟩
def IdD.cntT (_ : IdD) : Nat := 0
def IdD.mkT (x : IdD) (_ : Nat) : IdD := ⟨x.rep, x.slot⟩
theorem IdD.width (x : IdD) : x.c.width = 2 := rfl


theorem E_Id : Elem Tryz.prog 32 26 (.agg #[.int .i64 0, .int .i64 0]) 2 16 := ⟨Tryz.underlying32, by kernel_rfl, rfl, by decide, by decide⟩


theorem agg_Id : Agg Tryz.prog 26 2 := ⟨by kernel_rfl, by kernel_rfl⟩
theorem IdD.open {B : Nat → Prop} {w : World} {x : IdD} {cs : List Value} (h : Rep B w x.c cs) : cs = [.int .i64 x.rep, .int .i64 x.slot] := by
  have h0 : Rep B w x.c cs := h
  obtain ⟨c1, rfl, h1⟩ := Rep.int.1 h0
  obtain ⟨c2, rfl, h2⟩ := Rep.int.1 h1
  obtain rfl := Rep.nil.1 h2
  exact rfl
theorem IdD.shut {B : Nat → Prop} {w : World} {x : IdD} : Rep B w x.c [.int .i64 x.rep, .int .i64 x.slot] := by
  have z : Rep B w .nil [] := Rep.nil.2 rfl
  exact (Rep.int.2 ⟨_, rfl, (Rep.int.2 ⟨_, rfl, z⟩)⟩)
theorem IdD.openO {w : World} {base : Nat} {x : IdD} {cs : List Value} {F : List Nat} (h : Own w base x.c cs F) : cs = [.int .i64 x.rep, .int .i64 x.slot] ∧ F = [] := by
  have h0 : Own w base x.c cs F := h
  obtain ⟨c1, rfl, h1⟩ := Own.int.1 h0
  obtain ⟨c2, rfl, h2⟩ := Own.int.1 h1
  obtain ⟨rfl, rfl⟩ := Own.nil.1 h2
  exact ⟨rfl, rfl⟩
theorem IdD.shutO {w : World} {base : Nat} {x : IdD} : Own w base x.c [.int .i64 x.rep, .int .i64 x.slot] ([]) := by
  have z : Own w base .nil [] [] := Own.nil.2 ⟨rfl, rfl⟩
  exact (Own.int.2 ⟨_, rfl, (Own.int.2 ⟨_, rfl, z⟩)⟩)





structure CmdD where
  kind : Int
  client : Int
  no : Int
  set : List UInt8
  name : List UInt8
  tag : List UInt8
  n : Int
  chunks : List (List UInt8)
  deriving DecidableEq
def CmdD.cs (x : CmdD) (r : Cs) : Cs := (.int x.kind (.int x.client (.int x.no (.str x.set (.str x.name (.str x.tag (.int x.n (.sl 9 1 x.chunks.length (cat strC x.chunks) r))))))))
def CmdD.c (x : CmdD) : Cs := x.cs .nil
def CmdD.cnt (x : CmdD) : Nat := 1 + 1 + 1 + 1 + 1 + 1 + 1 + cts (fun _ => 1) x.chunks
def CmdD.mkv (x : CmdD) (k : Nat) : CmdD := ⟨((k : Nat) : Int), ((k + 1 : Nat) : Int), ((k + 1 + 1 : Nat) : Int), markL (k + 1 + 1 + 1), markL (k + 1 + 1 + 1 + 1), markL (k + 1 + 1 + 1 + 1 + 1), ((k + 1 + 1 + 1 + 1 + 1 + 1 : Nat) : Int), mks (fun _ k => markL k) (fun _ => 1) x.chunks (k + 1 + 1 + 1 + 1 + 1 + 1 + 1)⟩
def CmdD.cntT (x : CmdD) : Nat := cts (fun _ => 1) x.chunks
def CmdD.mkT (x : CmdD) (k : Nat) : CmdD := ⟨x.kind, x.client, x.no, x.set, x.name, x.tag, x.n, mks (fun _ k => markL k) (fun _ => 1) x.chunks (k)⟩
theorem CmdD.width (x : CmdD) : x.c.width = 8 := rfl





theorem agg_Cmd : Agg Tryz.prog 29 8 := ⟨by kernel_rfl, by kernel_rfl⟩
theorem CmdD.open {B : Nat → Prop} {w : World} {x : CmdD} {cs : List Value} (h : Rep B w x.c cs) : ∃ A0 k0, cs = [.int .i64 x.kind, .int .i64 x.client, .int .i64 x.no, .string (bs x.set), .string (bs x.name), .string (bs x.tag), .int .i64 x.n, .slice A0 x.chunks.length k0] ∧ Rep B w (.sl 9 1 x.chunks.length (cat strC x.chunks) .nil) [.slice A0 x.chunks.length k0] := by
  have h0 : Rep B w x.c cs := h
  obtain ⟨c1, rfl, h1⟩ := Rep.int.1 h0
  obtain ⟨c2, rfl, h2⟩ := Rep.int.1 h1
  obtain ⟨c3, rfl, h3⟩ := Rep.int.1 h2
  obtain ⟨c4, rfl, h4⟩ := Rep.str.1 h3
  obtain ⟨c5, rfl, h5⟩ := Rep.str.1 h4
  obtain ⟨c6, rfl, h6⟩ := Rep.str.1 h5
  obtain ⟨c7, rfl, h7⟩ := Rep.int.1 h6
  obtain ⟨A0, k0, c8, rfl, s0, h8⟩ := Rep.sl.1 h7
  obtain rfl := Rep.nil.1 h8
  exact ⟨A0, k0, rfl, s0⟩
theorem CmdD.shut {B : Nat → Prop} {w : World} {x : CmdD} {v0 : Value} (s0 : Rep B w (.sl 9 1 x.chunks.length (cat strC x.chunks) .nil) [v0]) : Rep B w x.c [.int .i64 x.kind, .int .i64 x.client, .int .i64 x.no, .string (bs x.set), .string (bs x.name), .string (bs x.tag), .int .i64 x.n, v0] := by
  obtain ⟨A0, k0, q0, e0, s0, _⟩ := Rep.sl.1 s0
  injection e0 with e0 _
  subst e0
  have z : Rep B w .nil [] := Rep.nil.2 rfl
  exact (Rep.int.2 ⟨_, rfl, (Rep.int.2 ⟨_, rfl, (Rep.int.2 ⟨_, rfl, (Rep.str.2 ⟨_, rfl, (Rep.str.2 ⟨_, rfl, (Rep.str.2 ⟨_, rfl, (Rep.int.2 ⟨_, rfl, (Rep.sl.2 ⟨_, _, _, rfl, s0, z⟩)⟩)⟩)⟩)⟩)⟩)⟩)⟩)
theorem CmdD.openO {w : World} {base : Nat} {x : CmdD} {cs : List Value} {F : List Nat} (h : Own w base x.c cs F) : ∃ A0 k0 F0, cs = [.int .i64 x.kind, .int .i64 x.client, .int .i64 x.no, .string (bs x.set), .string (bs x.name), .string (bs x.tag), .int .i64 x.n, .slice A0 x.chunks.length k0] ∧ F = F0 ∧ Own w base (.sl 9 1 x.chunks.length (cat strC x.chunks) .nil) [.slice A0 x.chunks.length k0] F0 := by
  have h0 : Own w base x.c cs F := h
  obtain ⟨c1, rfl, h1⟩ := Own.int.1 h0
  obtain ⟨c2, rfl, h2⟩ := Own.int.1 h1
  obtain ⟨c3, rfl, h3⟩ := Own.int.1 h2
  obtain ⟨c4, rfl, h4⟩ := Own.str.1 h3
  obtain ⟨c5, rfl, h5⟩ := Own.str.1 h4
  obtain ⟨c6, rfl, h6⟩ := Own.str.1 h5
  obtain ⟨c7, rfl, h7⟩ := Own.int.1 h6
  obtain ⟨A0, k0, c8, F0, G0, rfl, rfl, s0, h8⟩ := Own.sl.1 h7
  obtain ⟨rfl, rfl⟩ := Own.nil.1 h8
  exact ⟨A0, k0, F0, rfl, by simp only [List.append_nil], s0⟩
theorem CmdD.shutO {w : World} {base : Nat} {x : CmdD} {v0 : Value} {F0 : List Nat} (s0 : Own w base (.sl 9 1 x.chunks.length (cat strC x.chunks) .nil) [v0] F0) : Own w base x.c [.int .i64 x.kind, .int .i64 x.client, .int .i64 x.no, .string (bs x.set), .string (bs x.name), .string (bs x.tag), .int .i64 x.n, v0] (F0) := by
  obtain ⟨A0, k0, q0, X0, Y0, e0, f0, s0, g0⟩ := Own.sl.1 s0
  injection e0 with e0 p0
  subst e0
  subst p0
  obtain ⟨_, rfl⟩ := Own.nil.1 g0
  rw [List.append_nil] at f0
  subst f0
  have z : Own w base .nil [] [] := Own.nil.2 ⟨rfl, rfl⟩
  have hh := (show Own w base x.c [.int .i64 x.kind, .int .i64 x.client, .int .i64 x.no, .string (bs x.set), .string (bs x.name), .string (bs x.tag), .int .i64 x.n, .slice A0 _ k0] (_) from (Own.int.2 ⟨_, rfl, (Own.int.2 ⟨_, rfl, (Own.int.2 ⟨_, rfl, (Own.str.2 ⟨_, rfl, (Own.str.2 ⟨_, rfl, (Own.str.2 ⟨_, rfl, (Own.int.2 ⟨_, rfl, (Own.sl.2 ⟨_, _, _, _, _, rfl, rfl, s0, z⟩)⟩)⟩)⟩)⟩)⟩)⟩)⟩))
  simp only [List.append_nil] at hh
  exact hh



































































































































































































structure InstD where
  id : IdD
  bal : Int
  vbal : Int
  status : Int
  cmd : CmdD
  seq : Int
  deps : List IdD
  same : Bool
  deriving DecidableEq
def InstD.cs (x : InstD) (r : Cs) : Cs := (IdD.cs x.id (.int x.bal (.int x.vbal (.int x.status (CmdD.cs x.cmd (.int x.seq (.sl 26 2 x.deps.length (cat IdD.c x.deps) (.bool x.same r))))))))
def InstD.c (x : InstD) : Cs := x.cs .nil
def InstD.cnt (x : InstD) : Nat := IdD.cnt x.id + 1 + 1 + 1 + CmdD.cnt x.cmd + 1 + cts IdD.cnt x.deps + 1
def InstD.mkv (x : InstD) (k : Nat) : InstD := ⟨IdD.mkv x.id (k), ((k + IdD.cnt x.id : Nat) : Int), ((k + IdD.cnt x.id + 1 : Nat) : Int), ((k + IdD.cnt x.id + 1 + 1 : Nat) : Int), CmdD.mkv x.cmd (k + IdD.cnt x.id + 1 + 1 + 1), ((k + IdD.cnt x.id + 1 + 1 + 1 + CmdD.cnt x.cmd : Nat) : Int), mks IdD.mkv IdD.cnt x.deps (k + IdD.cnt x.id + 1 + 1 + 1 + CmdD.cnt x.cmd + 1), decide ((k + IdD.cnt x.id + 1 + 1 + 1 + CmdD.cnt x.cmd + 1 + cts IdD.cnt x.deps) % 3 = 0)⟩
def InstD.cntT (x : InstD) : Nat := CmdD.cntT x.cmd + cts IdD.cnt x.deps
def InstD.mkT (x : InstD) (k : Nat) : InstD := ⟨IdD.mkT x.id (k), x.bal, x.vbal, x.status, CmdD.mkT x.cmd (k), x.seq, mks IdD.mkv IdD.cnt x.deps (k + CmdD.cntT x.cmd), x.same⟩
theorem InstD.width (x : InstD) : x.c.width = 16 := rfl


theorem E_Inst : Elem Tryz.prog 24 38 (.agg #[.int .i64 0, .int .i64 0, .int .i64 0, .int .i64 0, .int .i64 0, .int .i64 0, .int .i64 0, .int .i64 0, .string ⟨#[]⟩, .string ⟨#[]⟩, .string ⟨#[]⟩, .int .i64 0, .slice none 0 0, .int .i64 0, .slice none 0 0, .bool false]) 16 184 := ⟨Tryz.underlying24, by kernel_rfl, rfl, by decide, by decide⟩


theorem agg_Inst : Agg Tryz.prog 38 16 := ⟨by kernel_rfl, by kernel_rfl⟩
theorem InstD.open {B : Nat → Prop} {w : World} {x : InstD} {cs : List Value} (h : Rep B w x.c cs) : ∃ A0 k0 A1 k1, cs = [.int .i64 x.id.rep, .int .i64 x.id.slot, .int .i64 x.bal, .int .i64 x.vbal, .int .i64 x.status, .int .i64 x.cmd.kind, .int .i64 x.cmd.client, .int .i64 x.cmd.no, .string (bs x.cmd.set), .string (bs x.cmd.name), .string (bs x.cmd.tag), .int .i64 x.cmd.n, .slice A0 x.cmd.chunks.length k0, .int .i64 x.seq, .slice A1 x.deps.length k1, .bool x.same] ∧ Rep B w (.sl 9 1 x.cmd.chunks.length (cat strC x.cmd.chunks) .nil) [.slice A0 x.cmd.chunks.length k0] ∧ Rep B w (.sl 26 2 x.deps.length (cat IdD.c x.deps) .nil) [.slice A1 x.deps.length k1] := by
  have h0 : Rep B w x.c cs := h
  obtain ⟨c1, rfl, h1⟩ := Rep.int.1 h0
  obtain ⟨c2, rfl, h2⟩ := Rep.int.1 h1
  obtain ⟨c3, rfl, h3⟩ := Rep.int.1 h2
  obtain ⟨c4, rfl, h4⟩ := Rep.int.1 h3
  obtain ⟨c5, rfl, h5⟩ := Rep.int.1 h4
  obtain ⟨c6, rfl, h6⟩ := Rep.int.1 h5
  obtain ⟨c7, rfl, h7⟩ := Rep.int.1 h6
  obtain ⟨c8, rfl, h8⟩ := Rep.int.1 h7
  obtain ⟨c9, rfl, h9⟩ := Rep.str.1 h8
  obtain ⟨c10, rfl, h10⟩ := Rep.str.1 h9
  obtain ⟨c11, rfl, h11⟩ := Rep.str.1 h10
  obtain ⟨c12, rfl, h12⟩ := Rep.int.1 h11
  obtain ⟨A0, k0, c13, rfl, s0, h13⟩ := Rep.sl.1 h12
  obtain ⟨c14, rfl, h14⟩ := Rep.int.1 h13
  obtain ⟨A1, k1, c15, rfl, s1, h15⟩ := Rep.sl.1 h14
  obtain ⟨c16, rfl, h16⟩ := Rep.bool.1 h15
  obtain rfl := Rep.nil.1 h16
  exact ⟨A0, k0, A1, k1, rfl, s0, s1⟩
theorem InstD.shut {B : Nat → Prop} {w : World} {x : InstD} {v0 v1 : Value} (s0 : Rep B w (.sl 9 1 x.cmd.chunks.length (cat strC x.cmd.chunks) .nil) [v0]) (s1 : Rep B w (.sl 26 2 x.deps.length (cat IdD.c x.deps) .nil) [v1]) : Rep B w x.c [.int .i64 x.id.rep, .int .i64 x.id.slot, .int .i64 x.bal, .int .i64 x.vbal, .int .i64 x.status, .int .i64 x.cmd.kind, .int .i64 x.cmd.client, .int .i64 x.cmd.no, .string (bs x.cmd.set), .string (bs x.cmd.name), .string (bs x.cmd.tag), .int .i64 x.cmd.n, v0, .int .i64 x.seq, v1, .bool x.same] := by
  obtain ⟨A0, k0, q0, e0, s0, _⟩ := Rep.sl.1 s0
  injection e0 with e0 _
  subst e0
  obtain ⟨A1, k1, q1, e1, s1, _⟩ := Rep.sl.1 s1
  injection e1 with e1 _
  subst e1
  have z : Rep B w .nil [] := Rep.nil.2 rfl
  exact (Rep.int.2 ⟨_, rfl, (Rep.int.2 ⟨_, rfl, (Rep.int.2 ⟨_, rfl, (Rep.int.2 ⟨_, rfl, (Rep.int.2 ⟨_, rfl, (Rep.int.2 ⟨_, rfl, (Rep.int.2 ⟨_, rfl, (Rep.int.2 ⟨_, rfl, (Rep.str.2 ⟨_, rfl, (Rep.str.2 ⟨_, rfl, (Rep.str.2 ⟨_, rfl, (Rep.int.2 ⟨_, rfl, (Rep.sl.2 ⟨_, _, _, rfl, s0, (Rep.int.2 ⟨_, rfl, (Rep.sl.2 ⟨_, _, _, rfl, s1, (Rep.bool.2 ⟨_, rfl, z⟩)⟩)⟩)⟩)⟩)⟩)⟩)⟩)⟩)⟩)⟩)⟩)⟩)⟩)⟩)⟩)
theorem InstD.openO {w : World} {base : Nat} {x : InstD} {cs : List Value} {F : List Nat} (h : Own w base x.c cs F) : ∃ A0 k0 A1 k1 F0 F1, cs = [.int .i64 x.id.rep, .int .i64 x.id.slot, .int .i64 x.bal, .int .i64 x.vbal, .int .i64 x.status, .int .i64 x.cmd.kind, .int .i64 x.cmd.client, .int .i64 x.cmd.no, .string (bs x.cmd.set), .string (bs x.cmd.name), .string (bs x.cmd.tag), .int .i64 x.cmd.n, .slice A0 x.cmd.chunks.length k0, .int .i64 x.seq, .slice A1 x.deps.length k1, .bool x.same] ∧ F = F0 ++ (F1) ∧ Own w base (.sl 9 1 x.cmd.chunks.length (cat strC x.cmd.chunks) .nil) [.slice A0 x.cmd.chunks.length k0] F0 ∧ Own w base (.sl 26 2 x.deps.length (cat IdD.c x.deps) .nil) [.slice A1 x.deps.length k1] F1 := by
  have h0 : Own w base x.c cs F := h
  obtain ⟨c1, rfl, h1⟩ := Own.int.1 h0
  obtain ⟨c2, rfl, h2⟩ := Own.int.1 h1
  obtain ⟨c3, rfl, h3⟩ := Own.int.1 h2
  obtain ⟨c4, rfl, h4⟩ := Own.int.1 h3
  obtain ⟨c5, rfl, h5⟩ := Own.int.1 h4
  obtain ⟨c6, rfl, h6⟩ := Own.int.1 h5
  obtain ⟨c7, rfl, h7⟩ := Own.int.1 h6
  obtain ⟨c8, rfl, h8⟩ := Own.int.1 h7
  obtain ⟨c9, rfl, h9⟩ := Own.str.1 h8
  obtain ⟨c10, rfl, h10⟩ := Own.str.1 h9
  obtain ⟨c11, rfl, h11⟩ := Own.str.1 h10
  obtain ⟨c12, rfl, h12⟩ := Own.int.1 h11
  obtain ⟨A0, k0, c13, F0, G0, rfl, rfl, s0, h13⟩ := Own.sl.1 h12
  obtain ⟨c14, rfl, h14⟩ := Own.int.1 h13
  obtain ⟨A1, k1, c15, F1, G1, rfl, rfl, s1, h15⟩ := Own.sl.1 h14
  obtain ⟨c16, rfl, h16⟩ := Own.bool.1 h15
  obtain ⟨rfl, rfl⟩ := Own.nil.1 h16
  exact ⟨A0, k0, A1, k1, F0, F1, rfl, by simp only [List.append_nil], s0, s1⟩
theorem InstD.shutO {w : World} {base : Nat} {x : InstD} {v0 v1 : Value} {F0 F1 : List Nat} (s0 : Own w base (.sl 9 1 x.cmd.chunks.length (cat strC x.cmd.chunks) .nil) [v0] F0) (s1 : Own w base (.sl 26 2 x.deps.length (cat IdD.c x.deps) .nil) [v1] F1) : Own w base x.c [.int .i64 x.id.rep, .int .i64 x.id.slot, .int .i64 x.bal, .int .i64 x.vbal, .int .i64 x.status, .int .i64 x.cmd.kind, .int .i64 x.cmd.client, .int .i64 x.cmd.no, .string (bs x.cmd.set), .string (bs x.cmd.name), .string (bs x.cmd.tag), .int .i64 x.cmd.n, v0, .int .i64 x.seq, v1, .bool x.same] (F0 ++ (F1)) := by
  obtain ⟨A0, k0, q0, X0, Y0, e0, f0, s0, g0⟩ := Own.sl.1 s0
  injection e0 with e0 p0
  subst e0
  subst p0
  obtain ⟨_, rfl⟩ := Own.nil.1 g0
  rw [List.append_nil] at f0
  subst f0
  obtain ⟨A1, k1, q1, X1, Y1, e1, f1, s1, g1⟩ := Own.sl.1 s1
  injection e1 with e1 p1
  subst e1
  subst p1
  obtain ⟨_, rfl⟩ := Own.nil.1 g1
  rw [List.append_nil] at f1
  subst f1
  have z : Own w base .nil [] [] := Own.nil.2 ⟨rfl, rfl⟩
  have hh := (show Own w base x.c [.int .i64 x.id.rep, .int .i64 x.id.slot, .int .i64 x.bal, .int .i64 x.vbal, .int .i64 x.status, .int .i64 x.cmd.kind, .int .i64 x.cmd.client, .int .i64 x.cmd.no, .string (bs x.cmd.set), .string (bs x.cmd.name), .string (bs x.cmd.tag), .int .i64 x.cmd.n, .slice A0 _ k0, .int .i64 x.seq, .slice A1 _ k1, .bool x.same] (_) from (Own.int.2 ⟨_, rfl, (Own.int.2 ⟨_, rfl, (Own.int.2 ⟨_, rfl, (Own.int.2 ⟨_, rfl, (Own.int.2 ⟨_, rfl, (Own.int.2 ⟨_, rfl, (Own.int.2 ⟨_, rfl, (Own.int.2 ⟨_, rfl, (Own.str.2 ⟨_, rfl, (Own.str.2 ⟨_, rfl, (Own.str.2 ⟨_, rfl, (Own.int.2 ⟨_, rfl, (Own.sl.2 ⟨_, _, _, _, _, rfl, rfl, s0, (Own.int.2 ⟨_, rfl, (Own.sl.2 ⟨_, _, _, _, _, rfl, rfl, s1, (Own.bool.2 ⟨_, rfl, z⟩)⟩)⟩)⟩)⟩)⟩)⟩)⟩)⟩)⟩)⟩)⟩)⟩)⟩)⟩)⟩))
  simp only [List.append_nil] at hh
  exact hh






























































































































































































































































































































end Go.Proofs.YtonaacdefidomaaGreat
namespace Go.Proofs.YtonaacdefidomaaGreat
open Go.RowKit

def sumL (xs : List (List UInt8)) : Nat := (xs.map List.length).sum
theorem sumL_take (xs : List (List UInt8)) (j : Nat) (h : j < xs.length) : sumL (xs.take (j + 1)) = sumL (xs.take j) + xs[j].length := by
  rw [List.take_succ_eq_append_getElem h]
  simp only [sumL, List.map_append, List.sum_append, List.map_cons, List.map_nil, List.sum_cons, List.sum_nil, Nat.add_zero]
theorem sumL_take_le (xs : List (List UInt8)) (j : Nat) : sumL (xs.take j) ≤ sumL xs := by
  have h := congrArg sumL (List.take_append_drop j xs)
  simp only [sumL, List.map_append, List.sum_append] at h ⊢
  omega
def wtS (xs : List (List UInt8)) : Nat := xs.length + sumL xs
def szR (left wt : Nat) : Int := if wt ≤ left then (left : Int) - wt else -1
theorem szR_yes {left wt : Nat} (h : wt ≤ left) : szR left wt = ((left - wt : Nat) : Int) := by rw [szR, if_pos h]; omega
theorem szR_no {left wt : Nat} (h : ¬ wt ≤ left) : szR left wt = -1 := if_neg h
theorem take_alike {xs ys : List (List UInt8)} {j : Nat} (h : xs.take j = ys.take j) (hx : j < xs.length) (hy : j < ys.length) (he : xs[j] = ys[j]) : xs.take (j + 1) = ys.take (j + 1) := by
  rw [List.take_succ_eq_append_getElem hx, List.take_succ_eq_append_getElem hy, h, he]









































































































































set_option maxRecDepth 100000 in
set_option maxHeartbeats 1000000 in
theorem l4Texts_any (v v' : Value) (xs ys : List (List UInt8)) (w : World) (hn : xs.length ≤ 4611686018427387904) (hn' : ys.length ≤ 4611686018427387904)
    (hr : SlR w 1 v xs.length (xs.map strv)) (hr' : SlR w 1 v' ys.length (ys.map strv)) :
    Calls Tryz.prog 65 #[v, v'] w fun e w' => e = .returned (.bool (decide (xs = ys))) ∧ Below w.heap.size w w' := by
  obtain ⟨A, c, rfl, hR⟩ := hr
  obtain ⟨A', c', rfl, hR'⟩ := hr'
  obtain ⟨D, hD⟩ : ∃ D, D = decide (xs = ys) := ⟨_, rfl⟩
  rw [← hD]
  by_cases hlen : xs.length = ys.length
  · have hyes : xs = ys → D = true := fun h => by rw [hD]; exact decide_eq_true h
    have hno : ¬ xs = ys → D = false := fun h => by rw [hD]; exact decide_eq_false h
    obtain ⟨n, hnn⟩ : ∃ n, n = xs.length := ⟨_, rfl⟩
    rw [← hlen, ← hnn] at hR'
    rw [← hnn] at hR
    rw [← hnn] at hn
    rw [← hlen, ← hnn]
    have hy : ys.length = n := by omega
    clear hlen hD hn'
    have HN := Lib.hid hnn; clear hnn
    have HNY := Lib.hid hy; clear hy
    have HYES := Lib.hid hyes; clear hyes
    have HNO := Lib.hid hno; clear hno
    have HR := Lib.hid hR; clear hR
    have HR' := Lib.hid hR'; clear hR'
    go_enter Tryz.func65, Tryz.ntmps65
    go_wp2
    go_loopw [5] (fun ii wr => ∃ j : Nat, j ≤ n ∧ ii = .int .i64 (j : Int) ∧ xs.take j = ys.take j ∧ Below w.heap.size w wr) (fun ii _ => n - (intOf ii).toNat)
    case atStart => exact ⟨0, Nat.zero_le _, rfl, rfl, Below.refl _ _⟩
    case round =>
      obtain ⟨j, hj, rfl, hall, hbel⟩ := hrel
      by_cases hlt : j < n
      · have hjx : j < xs.length := by have := HN.out; omega
        have hjy : j < ys.length := by have := HNY.out; omega
        obtain ⟨ad, rfl, hcells⟩ := HR.out.2 (by omega)
        obtain ⟨ad', rfl, hcells'⟩ := HR'.out.2 (by omega)
        have hc := hcells j (strv xs[j]) (by rw [List.getElem?_map, List.getElem?_eq_getElem hjx]; rfl)
        have hc' := hcells' j (strv ys[j]) (by rw [List.getElem?_map, List.getElem?_eq_getElem hjy]; rfl)
        have hc2 : wr.cell? (ad.add j) = some (.string (bs xs[j])) := by
          rw [hbel.cell (World.block_lt_of_cell? _ _ hc)]; exact hc
        have hc2' : wr.cell? (ad'.add j) = some (.string (bs ys[j])) := by
          rw [hbel.cell (World.block_lt_of_cell? _ _ hc')]; exact hc'
        have hstep := take_alike hall hjx hjy
        have hne : xs[j] ≠ ys[j] → ¬ xs = ys := fun h e => h (by subst e; rfl)
        have H2 := Lib.hid hbel; clear hbel
        clear hcells hc hcells' hc' hall
        generalize xs[j] = x at *
        generalize ys[j] = y at *
        by_cases hxy : x = y
        · have hst := hstep hxy
          subst hxy
          have HST := Lib.hid hst; clear hst hstep hne
          go_wp2
          refine wp_region_x 9 [0, 1, 2, 3, 4, 5, 6, 7, 8] (by kernel_rfl) (by kernel_rfl) ?_
          iterate 9 (refine wpX_quiet rfl (by kernel_rfl) rfl ?_; go_wp2; refine ⟨rfl, ?_⟩)
          refine wpX_nil ?_
          simp only [List.drop_succ_cons, List.drop_zero]
          go_wp2
          exact ⟨⟨j + 1, by omega, by go_num, HST.out, H2.out.drew⟩, by simp only [intOf]; omega⟩
        · have hr : D = false := HNO.out (hne hxy)
          have HRR := Lib.hid hr; clear hr hstep hne
          have hb1 : (x == y) = false := by simpa using hxy
          clear hxy
          go_wp2
          refine wp_region_x 9 [0, 1, 2, 3, 4, 5, 6, 7, 8] (by kernel_rfl) (by kernel_rfl) ?_
          iterate 9 (refine wpX_quiet rfl (by kernel_rfl) rfl ?_; go_wp2; refine ⟨rfl, ?_⟩)
          refine wpX_nil ?_
          simp only [List.drop_succ_cons, List.drop_zero]
          go_wp2
          go_ret
          exact ⟨ret_eq (by rw [HRR.out]; rfl), H2.out.drew⟩
      · have hjn : j = n := by omega
        subst hjn
        rw [List.take_of_length_le (by have := HN.out; omega), List.take_of_length_le (by have := HNY.out; omega)] at hall
        have hr : D = true := HYES.out hall
        have HRR := Lib.hid hr; clear hr hall
        have H2 := Lib.hid hbel; clear hbel
        go_wp2
        go_ret
        exact ⟨ret_eq (by rw [HRR.out]; rfl), H2.out⟩
  · have hr : D = false := by rw [hD]; exact decide_eq_false (fun h => hlen (by rw [h]))
    have HRR := Lib.hid hr; clear hr hD hR hR'
    have hb1 : ((xs.length : Int) == (ys.length : Int)) = false := by simp only [beq_eq_false_iff_ne]; omega
    generalize xs.length = n at *
    generalize ys.length = m at *
    clear hlen
    go_enter Tryz.func65, Tryz.ntmps65
    go_wp2
    go_ret
    exact ⟨ret_eq (by rw [HRR.out]; rfl), Below.refl _ _⟩

set_option maxRecDepth 100000 in
set_option maxHeartbeats 1000000 in
theorem EqualStr_any (v v' : Value) (xs ys : List (List UInt8)) (w : World) (hn : xs.length ≤ 4611686018427387904) (hn' : ys.length ≤ 4611686018427387904)
    (hr : SlR w 1 v xs.length (xs.map strv)) (hr' : SlR w 1 v' ys.length (ys.map strv)) :
    Calls Tryz.prog 94 #[v, v'] w fun e w' => e = .returned (.bool (decide (xs = ys))) ∧ Below w.heap.size w w' := by
  obtain ⟨A, c, rfl, hR⟩ := hr
  obtain ⟨A', c', rfl, hR'⟩ := hr'
  obtain ⟨D, hD⟩ : ∃ D, D = decide (xs = ys) := ⟨_, rfl⟩
  rw [← hD]
  by_cases hlen : xs.length = ys.length
  · have hyes : xs = ys → D = true := fun h => by rw [hD]; exact decide_eq_true h
    have hno : ¬ xs = ys → D = false := fun h => by rw [hD]; exact decide_eq_false h
    obtain ⟨n, hnn⟩ : ∃ n, n = xs.length := ⟨_, rfl⟩
    rw [← hlen, ← hnn] at hR'
    rw [← hnn] at hR
    rw [← hnn] at hn
    rw [← hlen, ← hnn]
    have hy : ys.length = n := by omega
    clear hlen hD hn'
    have HN := Lib.hid hnn; clear hnn
    have HNY := Lib.hid hy; clear hy
    have HYES := Lib.hid hyes; clear hyes
    have HNO := Lib.hid hno; clear hno
    have HR := Lib.hid hR; clear hR
    have HR' := Lib.hid hR'; clear hR'
    go_enter Tryz.func94, Tryz.ntmps94
    go_wp2
    go_loopw [5, 13] (fun _ ii wr => ∃ j : Nat, j ≤ n ∧ ii = .int .i64 (j : Int) ∧ xs.take j = ys.take j ∧ Below w.heap.size w wr) (fun _ ii _ => n - (intOf ii).toNat)
    case atStart => exact ⟨0, Nat.zero_le _, rfl, rfl, Below.refl _ _⟩
    case round =>
      obtain ⟨j, hj, rfl, hall, hbel⟩ := hrel
      by_cases hlt : j < n
      · have hjx : j < xs.length := by have := HN.out; omega
        have hjy : j < ys.length := by have := HNY.out; omega
        obtain ⟨ad, rfl, hcells⟩ := HR.out.2 (by omega)
        obtain ⟨ad', rfl, hcells'⟩ := HR'.out.2 (by omega)
        have hc := hcells j (strv xs[j]) (by rw [List.getElem?_map, List.getElem?_eq_getElem hjx]; rfl)
        have hc' := hcells' j (strv ys[j]) (by rw [List.getElem?_map, List.getElem?_eq_getElem hjy]; rfl)
        have hc2 : wr.cell? (ad.add j) = some (.string (bs xs[j])) := by
          rw [hbel.cell (World.block_lt_of_cell? _ _ hc)]; exact hc
        have hc2' : wr.cell? (ad'.add j) = some (.string (bs ys[j])) := by
          rw [hbel.cell (World.block_lt_of_cell? _ _ hc')]; exact hc'
        have hstep := take_alike hall hjx hjy
        have hne : xs[j] ≠ ys[j] → ¬ xs = ys := fun h e => h (by subst e; rfl)
        have H2 := Lib.hid hbel; clear hbel
        clear hcells hc hcells' hc' hall
        generalize xs[j] = x at *
        generalize ys[j] = y at *
        by_cases hxy : x = y
        · have hst := hstep hxy
          subst hxy
          have HST := Lib.hid hst; clear hst hstep hne
          go_wp2
          refine wp_region_x 9 [0, 1, 2, 3, 4, 5, 6, 7, 8] (by kernel_rfl) (by kernel_rfl) ?_
          iterate 9 (refine wpX_quiet rfl (by kernel_rfl) rfl ?_; go_wp2; refine ⟨rfl, ?_⟩)
          refine wpX_nil ?_
          simp only [List.drop_succ_cons, List.drop_zero]
          go_wp2
          exact ⟨⟨j + 1, by omega, by go_num, HST.out, H2.out.drew⟩, by simp only [intOf]; omega⟩
        · have hr : D = false := HNO.out (hne hxy)
          have HRR := Lib.hid hr; clear hr hstep hne
          have hb1 : (x == y) = false := by simpa using hxy
          clear hxy
          go_wp2
          refine wp_region_x 9 [0, 1, 2, 3, 4, 5, 6, 7, 8] (by kernel_rfl) (by kernel_rfl) ?_
          iterate 9 (refine wpX_quiet rfl (by kernel_rfl) rfl ?_; go_wp2; refine ⟨rfl, ?_⟩)
          refine wpX_nil ?_
          simp only [List.drop_succ_cons, List.drop_zero]
          go_wp2
          go_ret
          exact ⟨ret_eq (by rw [HRR.out]; rfl), H2.out.drew⟩
      · have hjn : j = n := by omega
        subst hjn
        rw [List.take_of_length_le (by have := HN.out; omega), List.take_of_length_le (by have := HNY.out; omega)] at hall
        have hr : D = true := HYES.out hall
        have HRR := Lib.hid hr; clear hr hall
        have H2 := Lib.hid hbel; clear hbel
        go_wp2
        go_ret
        exact ⟨ret_eq (by rw [HRR.out]; rfl), H2.out⟩
  · have hr : D = false := by rw [hD]; exact decide_eq_false (fun h => hlen (by rw [h]))
    have HRR := Lib.hid hr; clear hr hD hR hR'
    have hb1 : ((xs.length : Int) == (ys.length : Int)) = false := by simp only [beq_eq_false_iff_ne]; omega
    generalize xs.length = n at *
    generalize ys.length = m at *
    clear hlen
    go_enter Tryz.func94, Tryz.ntmps94
    go_wp2
    go_ret
    exact ⟨ret_eq (by rw [HRR.out]; rfl), Below.refl _ _⟩

end Go.Proofs.YtonaacdefidomaaGreat
namespace Go.Proofs.YtonaacdefidomaaGreat
open Go.RowKit

theorem i64_eq {a b : Int} (h : a = b) : Value.int .i64 a = .int .i64 b := by rw [h]
theorem cat_wt0 {α : Type} {f : α → Cs} (h : ∀ x, (f x).wt = 0) : ∀ xs : List α, (cat f xs).wt = 0
  | [] => rfl
  | x :: xs => by rw [cat_cons, Cs.wt_app, h, cat_wt0 h xs]
























































































































































































































































































































































































































































































































































































































































































































end Go.Proofs.YtonaacdefidomaaGreat
namespace Go.Proofs.YtonaacdefidomaaGreat
open Go.RowKit

theorem own_blk {w : World} {base e size g n : Nat} {cells : List Value} (h : w.ownsRow base e size (.slice (some ⟨g, 0, none⟩) n n) n cells) : ∃ cur, Blk w g e cur ∧ cur.size = n * size := by
  rcases h.2 with ⟨h0, _⟩ | ⟨g', cap, cur, hv, _, hh, _, _, hs, _⟩
  · cases h0
  · injection hv with h1 _ h3
    injection h1 with h1
    injection h1 with h1
    subst h1 h3
    exact ⟨cur, hh, hs⟩
theorem blk_own {w : World} {base e size g n : Nat} {cells : List Value} {cur : Array Value} (hb : base ≤ g) (h : Blk w g e cur) (hn : n ≤ 1048576) (hs : cur.size = n * size) (hc : cur.toList = cells) : w.ownsRow base e size (.slice (some ⟨g, 0, none⟩) n n) n cells := by
  subst hc
  exact ⟨by simpa using hs, .inr ⟨g, n, cur, rfl, hb, h, Nat.le_refl _, by simp only [maxLen]; omega, hs, List.take_of_length_le (by simp [hs])⟩⟩
theorem Own.grown {w w' : World} {base g : Nat} {d : Cs} {cs : List Value} {F : List Nat} (h : Own w base d cs F) (hg : w.grownBy w' (some g)) (hb : g < base) : Own w' base d cs F :=
  h.keep fun b hm => hg.block b (h.in b hm).2 (fun e => by injection e with e; have := (h.in b hm).1; omega)
theorem blk3_0 (w : World) (c : Array Value) (e : Nat) (o1 o2 : Obj) : Blk (((w.alloc (.cells c e)).alloc o1).alloc o2) w.heap.size e c := ((blk_new w c e).alloc _).alloc _
theorem blk3_1 (w : World) (o : Obj) (c : Array Value) (e : Nat) (o2 : Obj) : Blk (((w.alloc o).alloc (.cells c e)).alloc o2) (w.heap.size + 1) e c := by
  have := (blk_new (w.alloc o) c e).alloc o2
  simpa using this
theorem blk3_2 (w : World) (o o1 : Obj) (c : Array Value) (e : Nat) : Blk (((w.alloc o).alloc o1).alloc (.cells c e)) (w.heap.size + 1 + 1) e c := by
  have := blk_new ((w.alloc o).alloc o1) c e
  simpa using this
theorem setCell_size (w : World) (a : Addr) (v : Value) : (w.setCell a v).heap.size = w.heap.size := by simp [World.setCell]
theorem blk_list {w : World} {g e : Nat} {L : List Value} (h : Blk w g e L.toArray) : Blk w g e L.toArray := h
theorem Own.setLow {w : World} {base : Nat} {d : Cs} {cs : List Value} {F : List Nat} (h : Own w base d cs F) {a : Addr} (ha : a.block < base) (v : Value) : Own (w.setCell a v) base d cs F :=
  h.keep fun b hm => Below.heap_setCell _ _ _ _ (fun e => by have := (h.in b hm).1; omega)



































































































































































































































































































































































































































































































































































































































































































































end Go.Proofs.YtonaacdefidomaaGreat
namespace Go.Proofs.YtonaacdefidomaaGreat
open Go.RowKit

theorem blk2_0 (w : World) (c : Array Value) (e : Nat) (o1 : Obj) : Blk ((w.alloc (.cells c e)).alloc o1) w.heap.size e c := (blk_new w c e).alloc _
theorem blk2_1 (w : World) (o : Obj) (c : Array Value) (e : Nat) : Blk ((w.alloc o).alloc (.cells c e)) (w.heap.size + 1) e c := by
  have := blk_new (w.alloc o) c e
  simpa using this





























































































































































































































































































































































































































































































































































































































































































































































































































































































end Go.Proofs.YtonaacdefidomaaGreat
namespace Go.Proofs.YtonaacdefidomaaGreat
open Go.RowKit







theorem cons_eq {α : Type} {a b : α} {l m : List α} (h : a = b) (k : l = m) : a :: l = b :: m := by rw [h, k]
theorem mkl_eq {a b : Nat} (h : a = b) : Value.string (bs (markL a)) = .string (bs (markL b)) := by rw [h]
theorem bool_eq {a b : Bool} (h : a = b) : Value.bool a = .bool b := by rw [h]
theorem Own.castL {w : World} {base : Nat} {d : Cs} {cs cs' : List Value} {F : List Nat} (h : Own w base d cs F) (e : cs' = cs) : Own w base d cs' F := e ▸ h
theorem own_cast {w : World} {base e sz n m : Nat} {i : Cs} {vs : List Value} {F : List Nat} (h : Own w base (.sl e sz n i .nil) vs F) (e1 : n = m) : Own w base (.sl e sz m i .nil) vs F := e1 ▸ h
theorem own_len {w : World} {base e sz n c : Nat} {i : Cs} {A : Option Addr} {F : List Nat} (h : Own w base (.sl e sz n i .nil) [.slice A n c] F) : n ≤ 9223372036854775807 := by
  obtain ⟨_, _, _, _, hr, _⟩ := Own.sl1.1 h
  rcases hr.2 with ⟨_, h0⟩ | ⟨g, _, _, _, _, _, h1, h2, _⟩
  · omega
  · simp only [maxLen] at h2; omega
theorem sub_mid {g : Nat} {G1 G2 G3 : List Nat} : ∀ b ∈ g :: G2, b ∈ g :: (G1 ++ (G2 ++ G3)) := by
  intro b hb
  rcases List.mem_cons.1 hb with rfl | hb
  · simp
  · simp [hb]
theorem strb_eq {a b : List UInt8} (h : a = b) : Value.string (bs a) = .string (bs b) := by rw [h]
theorem cts_ge {α : Type} {cnt : α → Nat} (h : ∀ x, 1 ≤ cnt x) : ∀ xs : List α, xs.length ≤ cts cnt xs
  | [] => Nat.zero_le _
  | x :: xs => by have := h x; have := cts_ge h xs; rw [cts, List.length_cons]; omega
theorem mod3 {q : Int} {k : Nat} (h : q = (k : Int)) : (q % 3 == (0 : Int)) = decide (k % 3 = 0) := by
  subst h
  rw [Bool.eq_iff_iff]
  simp only [beq_iff_eq, decide_eq_true_eq]
  omega
theorem below_drewL {w w' : World} (h : Below w.drew.heap.size w.drew w') : Below w.heap.size w w' := ⟨h.os, h.tape, h.output, h.size, h.block⟩
theorem cells_below {w w' : World} {ci : List Value} {p : Addr} (h : ∀ f v, ci[f]? = some v → w.cell? (p.add f) = some v) (hb : Below w.heap.size w w') : ∀ f v, ci[f]? = some v → w'.cell? (p.add f) = some v :=
  fun f v hv => (hb.cell (World.block_lt_of_cell? _ _ (h f v hv))).trans (h f v hv)
theorem disj {a b : List Nat} (h : (a ++ b).Nodup) (x : Nat) (hx : x ∈ a) (hy : x ∈ b) : False := (List.nodup_append.1 h).2.2 x hx x hy rfl
theorem own_sl {w : World} {base e sz n c : Nat} {i : Cs} {A : Option Addr} {F : List Nat} (h : Own w base (.sl e sz n i .nil) [.slice A n c] F) (hn : n ≠ 0) : ∃ g, A = some ⟨g, 0, none⟩ := by
  obtain ⟨_, _, _, _, hr, _⟩ := Own.sl1.1 h
  rcases hr.2 with ⟨_, h0⟩ | ⟨g, _, _, hv, _⟩
  · exact absurd h0 hn
  · injection hv with h1
    exact ⟨g, h1⟩
theorem nodup3 {g : Nat} {G1 G2 G3 : List Nat} (h : (g :: (G1 ++ (G2 ++ G3))).Nodup) : (∀ b ∈ G1 ++ (G2 ++ G3), b ≠ g) ∧ G1.Nodup ∧ G2.Nodup ∧ (∀ b ∈ G1, b ∉ G2) ∧ (∀ b ∈ G1, b ∉ G3) ∧ (∀ b ∈ G2, b ∉ G3) := by
  obtain ⟨h0, h1⟩ := List.nodup_cons.1 h
  obtain ⟨a, b, c⟩ := List.nodup_append.1 h1
  obtain ⟨d, e, f⟩ := List.nodup_append.1 b
  exact ⟨fun b hb e => h0 (e ▸ hb), a, d, fun x hx hy => c x hx x (by simp [hy]) rfl, fun x hx hy => c x hx x (by simp [hy]) rfl, fun x hx hy => f x hx x hy rfl⟩
theorem nodup_l {a b : List Nat} (h : (a ++ b).Nodup) : a.Nodup := (List.nodup_append.1 h).1
theorem nodup_r {a b : List Nat} (h : (a ++ b).Nodup) : b.Nodup := (List.nodup_append.1 h).2.1




































































































































































































































































































































































































































































































































































































































































































































































































































end Go.Proofs.YtonaacdefidomaaGreat
namespace Go.Proofs.YtonaacdefidomaaGreat
open Go.RowKit

def cmdSame (x y : CmdD) : Bool := decide (x = y)


set_option maxRecDepth 100000 in
set_option maxHeartbeats 4000000 in
theorem iSameCmd_any (x y : CmdD) (cs cs' : List Value) (w : World) (hwt : x.c.wt ≤ 1048576) (hwt' : y.c.wt ≤ 1048576) (h : Rep anyB w x.c cs) (h' : Rep anyB w y.c cs') :
    Calls Tryz.prog 69 #[.agg cs.toArray, .agg cs'.toArray] w fun e w' => e = .returned (.bool (cmdSame x y)) ∧ Below w.heap.size w w' := by
  have hw1 : x.chunks.length ≤ 1048576 := by have h0 : x.c.wt = x.set.length + (x.name.length + (x.tag.length + (x.chunks.length + (cat strC x.chunks).wt + 0))) := rfl; omega
  have hw2 : y.chunks.length ≤ 1048576 := by have h0 : y.c.wt = y.set.length + (y.name.length + (y.tag.length + (y.chunks.length + (cat strC y.chunks).wt + 0))) := rfl; omega
  obtain ⟨A0, k0, rfl, s0⟩ := CmdD.open h
  obtain ⟨A1, k1, rfl, s1⟩ := CmdD.open h'
  obtain ⟨a0, a1, a2, a3, a4, a5, a6, xs⟩ := x
  obtain ⟨b0, b1, b2, b3, b4, b5, b6, ys⟩ := y
  simp only [] at s0 s1 hw1 hw2 ⊢
  have S0 := Lib.hid s0.strs
  have S1 := Lib.hid s1.strs
  clear s0 s1 h h' hwt hwt'
  by_cases h0 : a0 = b0
  · subst h0
    by_cases h1 : a1 = b1
    · subst h1
      by_cases h2 : a2 = b2
      · subst h2
        by_cases h3 : a3 = b3
        · subst h3
          by_cases h4 : a4 = b4
          · subst h4
            by_cases h5 : a5 = b5
            · subst h5
              by_cases h6 : a6 = b6
              · subst h6
                have HR := Lib.hid (show cmdSame (⟨a0, a1, a2, a3, a4, a5, a6, xs⟩ : CmdD) (⟨a0, a1, a2, a3, a4, a5, a6, ys⟩ : CmdD) = decide (xs = ys) by simp [cmdSame])
                go_enter Tryz.func69, Tryz.ntmps69
                go_wp2_with fail
                refine (EqualStr_any _ _ xs ys _ (by omega) (by omega) (S0.out.below (by repeat' (first | with_reducible exact Below.refl _ _ | with_reducible exact BW.out | with_reducible refine Below.setCell ?_ ?_ _ | with_reducible refine Below.alloc ?_ ?_ _ | with_reducible refine Below.drew ?_ | (simp; done) | (simp; omega) | omega))) (S1.out.below (by repeat' (first | with_reducible exact Below.refl _ _ | with_reducible exact BW.out | with_reducible refine Below.setCell ?_ ?_ _ | with_reducible refine Below.alloc ?_ ?_ _ | with_reducible refine Below.drew ?_ | (simp; done) | (simp; omega) | omega)))).mono ?_; rintro e v1 ⟨rfl, hb⟩
                have BW := Lib.hid (show Below w.heap.size w v1 from Below.trans (by repeat' (first | with_reducible exact Below.refl _ _ | with_reducible exact BW.out | with_reducible refine Below.setCell ?_ ?_ _ | with_reducible refine Below.alloc ?_ ?_ _ | with_reducible refine Below.drew ?_ | (simp; done) | (simp; omega) | omega)) (hb.mono (by first | (simp; done) | (simp; omega) | omega))); clear hb
                go_wp2
                go_ret
                exact ⟨ret_eq (by rw [HR.out]; rfl), BW.out⟩
              · have HR := Lib.hid (show cmdSame (⟨a0, a1, a2, a3, a4, a5, a6, xs⟩ : CmdD) (⟨a0, a1, a2, a3, a4, a5, b6, ys⟩ : CmdD) = false by simp [cmdSame, h6])
                have hb6 : (a6 == b6) = false := by simpa using h6
                clear h6
                go_enter Tryz.func69, Tryz.ntmps69
                go_wp2
                go_ret
                exact ⟨ret_eq (by rw [HR.out]; rfl), (by repeat' (first | with_reducible exact Below.refl _ _ | with_reducible exact BW.out | with_reducible refine Below.setCell ?_ ?_ _ | with_reducible refine Below.alloc ?_ ?_ _ | with_reducible refine Below.drew ?_ | (simp; done) | (simp; omega) | omega))⟩
            · have HR := Lib.hid (show cmdSame (⟨a0, a1, a2, a3, a4, a5, a6, xs⟩ : CmdD) (⟨a0, a1, a2, a3, a4, b5, b6, ys⟩ : CmdD) = false by simp [cmdSame, h5])
              have hb5 : (a5 == b5) = false := by simpa using h5
              clear h5
              go_enter Tryz.func69, Tryz.ntmps69
              go_wp2
              go_ret
              exact ⟨ret_eq (by rw [HR.out]; rfl), (by repeat' (first | with_reducible exact Below.refl _ _ | with_reducible exact BW.out | with_reducible refine Below.setCell ?_ ?_ _ | with_reducible refine Below.alloc ?_ ?_ _ | with_reducible refine Below.drew ?_ | (simp; done) | (simp; omega) | omega))⟩
          · have HR := Lib.hid (show cmdSame (⟨a0, a1, a2, a3, a4, a5, a6, xs⟩ : CmdD) (⟨a0, a1, a2, a3, b4, b5, b6, ys⟩ : CmdD) = false by simp [cmdSame, h4])
            have hb4 : (a4 == b4) = false := by simpa using h4
            clear h4
            go_enter Tryz.func69, Tryz.ntmps69
            go_wp2
            go_ret
            exact ⟨ret_eq (by rw [HR.out]; rfl), (by repeat' (first | with_reducible exact Below.refl _ _ | with_reducible exact BW.out | with_reducible refine Below.setCell ?_ ?_ _ | with_reducible refine Below.alloc ?_ ?_ _ | with_reducible refine Below.drew ?_ | (simp; done) | (simp; omega) | omega))⟩
        · have HR := Lib.hid (show cmdSame (⟨a0, a1, a2, a3, a4, a5, a6, xs⟩ : CmdD) (⟨a0, a1, a2, b3, b4, b5, b6, ys⟩ : CmdD) = false by simp [cmdSame, h3])
          have hb3 : (a3 == b3) = false := by simpa using h3
          clear h3
          go_enter Tryz.func69, Tryz.ntmps69
          go_wp2
          go_ret
          exact ⟨ret_eq (by rw [HR.out]; rfl), (by repeat' (first | with_reducible exact Below.refl _ _ | with_reducible exact BW.out | with_reducible refine Below.setCell ?_ ?_ _ | with_reducible refine Below.alloc ?_ ?_ _ | with_reducible refine Below.drew ?_ | (simp; done) | (simp; omega) | omega))⟩
      · have HR := Lib.hid (show cmdSame (⟨a0, a1, a2, a3, a4, a5, a6, xs⟩ : CmdD) (⟨a0, a1, b2, b3, b4, b5, b6, ys⟩ : CmdD) = false by simp [cmdSame, h2])
        have hb2 : (a2 == b2) = false := by simpa using h2
        clear h2
        go_enter Tryz.func69, Tryz.ntmps69
        go_wp2
        go_ret
        exact ⟨ret_eq (by rw [HR.out]; rfl), (by repeat' (first | with_reducible exact Below.refl _ _ | with_reducible exact BW.out | with_reducible refine Below.setCell ?_ ?_ _ | with_reducible refine Below.alloc ?_ ?_ _ | with_reducible refine Below.drew ?_ | (simp; done) | (simp; omega) | omega))⟩
    · have HR := Lib.hid (show cmdSame (⟨a0, a1, a2, a3, a4, a5, a6, xs⟩ : CmdD) (⟨a0, b1, b2, b3, b4, b5, b6, ys⟩ : CmdD) = false by simp [cmdSame, h1])
      have hb1 : (a1 == b1) = false := by simpa using h1
      clear h1
      go_enter Tryz.func69, Tryz.ntmps69
      go_wp2
      go_ret
      exact ⟨ret_eq (by rw [HR.out]; rfl), (by repeat' (first | with_reducible exact Below.refl _ _ | with_reducible exact BW.out | with_reducible refine Below.setCell ?_ ?_ _ | with_reducible refine Below.alloc ?_ ?_ _ | with_reducible refine Below.drew ?_ | (simp; done) | (simp; omega) | omega))⟩
  · have HR := Lib.hid (show cmdSame (⟨a0, a1, a2, a3, a4, a5, a6, xs⟩ : CmdD) (⟨b0, b1, b2, b3, b4, b5, b6, ys⟩ : CmdD) = false by simp [cmdSame, h0])
    have hb0 : (a0 == b0) = false := by simpa using h0
    clear h0
    go_enter Tryz.func69, Tryz.ntmps69
    go_wp2
    go_ret
    exact ⟨ret_eq (by rw [HR.out]; rfl), (by repeat' (first | with_reducible exact Below.refl _ _ | with_reducible exact BW.out | with_reducible refine Below.setCell ?_ ?_ _ | with_reducible refine Below.alloc ?_ ?_ _ | with_reducible refine Below.drew ?_ | (simp; done) | (simp; omega) | omega))⟩


set_option maxRecDepth 100000 in
set_option maxHeartbeats 4000000 in
theorem sSameCmd_any (x y : CmdD) (cs cs' : List Value) (w : World) (hwt : x.c.wt ≤ 1048576) (hwt' : y.c.wt ≤ 1048576) (h : Rep anyB w x.c cs) (h' : Rep anyB w y.c cs') :
    Calls Tryz.prog 44 #[.agg cs.toArray, .agg cs'.toArray] w fun e w' => e = .returned (.bool (cmdSame x y)) ∧ Below w.heap.size w w' := by
  have hw1 : x.chunks.length ≤ 1048576 := by have h0 : x.c.wt = x.set.length + (x.name.length + (x.tag.length + (x.chunks.length + (cat strC x.chunks).wt + 0))) := rfl; omega
  have hw2 : y.chunks.length ≤ 1048576 := by have h0 : y.c.wt = y.set.length + (y.name.length + (y.tag.length + (y.chunks.length + (cat strC y.chunks).wt + 0))) := rfl; omega
  obtain ⟨A0, k0, rfl, s0⟩ := CmdD.open h
  obtain ⟨A1, k1, rfl, s1⟩ := CmdD.open h'
  obtain ⟨a0, a1, a2, a3, a4, a5, a6, xs⟩ := x
  obtain ⟨b0, b1, b2, b3, b4, b5, b6, ys⟩ := y
  simp only [] at s0 s1 hw1 hw2 ⊢
  have S0 := Lib.hid s0.strs
  have S1 := Lib.hid s1.strs
  clear s0 s1 h h' hwt hwt'
  by_cases h0 : a0 = b0
  · subst h0
    by_cases h1 : a1 = b1
    · subst h1
      by_cases h2 : a2 = b2
      · subst h2
        by_cases h3 : a3 = b3
        · subst h3
          by_cases h4 : a4 = b4
          · subst h4
            by_cases h5 : a5 = b5
            · subst h5
              by_cases h6 : a6 = b6
              · subst h6
                have HR := Lib.hid (show cmdSame (⟨a0, a1, a2, a3, a4, a5, a6, xs⟩ : CmdD) (⟨a0, a1, a2, a3, a4, a5, a6, ys⟩ : CmdD) = decide (xs = ys) by simp [cmdSame])
                go_enter Tryz.func44, Tryz.ntmps44
                go_wp2_with fail
                refine (l4Texts_any _ _ xs ys _ (by omega) (by omega) (S0.out.below (by repeat' (first | with_reducible exact Below.refl _ _ | with_reducible exact BW.out | with_reducible refine Below.setCell ?_ ?_ _ | with_reducible refine Below.alloc ?_ ?_ _ | with_reducible refine Below.drew ?_ | (simp; done) | (simp; omega) | omega))) (S1.out.below (by repeat' (first | with_reducible exact Below.refl _ _ | with_reducible exact BW.out | with_reducible refine Below.setCell ?_ ?_ _ | with_reducible refine Below.alloc ?_ ?_ _ | with_reducible refine Below.drew ?_ | (simp; done) | (simp; omega) | omega)))).mono ?_; rintro e v1 ⟨rfl, hb⟩
                have BW := Lib.hid (show Below w.heap.size w v1 from Below.trans (by repeat' (first | with_reducible exact Below.refl _ _ | with_reducible exact BW.out | with_reducible refine Below.setCell ?_ ?_ _ | with_reducible refine Below.alloc ?_ ?_ _ | with_reducible refine Below.drew ?_ | (simp; done) | (simp; omega) | omega)) (hb.mono (by first | (simp; done) | (simp; omega) | omega))); clear hb
                go_wp2
                go_ret
                exact ⟨ret_eq (by rw [HR.out]; rfl), BW.out⟩
              · have HR := Lib.hid (show cmdSame (⟨a0, a1, a2, a3, a4, a5, a6, xs⟩ : CmdD) (⟨a0, a1, a2, a3, a4, a5, b6, ys⟩ : CmdD) = false by simp [cmdSame, h6])
                have hb6 : (a6 == b6) = false := by simpa using h6
                clear h6
                go_enter Tryz.func44, Tryz.ntmps44
                go_wp2
                go_ret
                exact ⟨ret_eq (by rw [HR.out]; rfl), (by repeat' (first | with_reducible exact Below.refl _ _ | with_reducible exact BW.out | with_reducible refine Below.setCell ?_ ?_ _ | with_reducible refine Below.alloc ?_ ?_ _ | with_reducible refine Below.drew ?_ | (simp; done) | (simp; omega) | omega))⟩
            · have HR := Lib.hid (show cmdSame (⟨a0, a1, a2, a3, a4, a5, a6, xs⟩ : CmdD) (⟨a0, a1, a2, a3, a4, b5, b6, ys⟩ : CmdD) = false by simp [cmdSame, h5])
              have hb5 : (a5 == b5) = false := by simpa using h5
              clear h5
              go_enter Tryz.func44, Tryz.ntmps44
              go_wp2
              go_ret
              exact ⟨ret_eq (by rw [HR.out]; rfl), (by repeat' (first | with_reducible exact Below.refl _ _ | with_reducible exact BW.out | with_reducible refine Below.setCell ?_ ?_ _ | with_reducible refine Below.alloc ?_ ?_ _ | with_reducible refine Below.drew ?_ | (simp; done) | (simp; omega) | omega))⟩
          · have HR := Lib.hid (show cmdSame (⟨a0, a1, a2, a3, a4, a5, a6, xs⟩ : CmdD) (⟨a0, a1, a2, a3, b4, b5, b6, ys⟩ : CmdD) = false by simp [cmdSame, h4])
            have hb4 : (a4 == b4) = false := by simpa using h4
            clear h4
            go_enter Tryz.func44, Tryz.ntmps44
            go_wp2
            go_ret
            exact ⟨ret_eq (by rw [HR.out]; rfl), (by repeat' (first | with_reducible exact Below.refl _ _ | with_reducible exact BW.out | with_reducible refine Below.setCell ?_ ?_ _ | with_reducible refine Below.alloc ?_ ?_ _ | with_reducible refine Below.drew ?_ | (simp; done) | (simp; omega) | omega))⟩
        · have HR := Lib.hid (show cmdSame (⟨a0, a1, a2, a3, a4, a5, a6, xs⟩ : CmdD) (⟨a0, a1, a2, b3, b4, b5, b6, ys⟩ : CmdD) = false by simp [cmdSame, h3])
          have hb3 : (a3 == b3) = false := by simpa using h3
          clear h3
          go_enter Tryz.func44, Tryz.ntmps44
          go_wp2
          go_ret
          exact ⟨ret_eq (by rw [HR.out]; rfl), (by repeat' (first | with_reducible exact Below.refl _ _ | with_reducible exact BW.out | with_reducible refine Below.setCell ?_ ?_ _ | with_reducible refine Below.alloc ?_ ?_ _ | with_reducible refine Below.drew ?_ | (simp; done) | (simp; omega) | omega))⟩
      · have HR := Lib.hid (show cmdSame (⟨a0, a1, a2, a3, a4, a5, a6, xs⟩ : CmdD) (⟨a0, a1, b2, b3, b4, b5, b6, ys⟩ : CmdD) = false by simp [cmdSame, h2])
        have hb2 : (a2 == b2) = false := by simpa using h2
        clear h2
        go_enter Tryz.func44, Tryz.ntmps44
        go_wp2
        go_ret
        exact ⟨ret_eq (by rw [HR.out]; rfl), (by repeat' (first | with_reducible exact Below.refl _ _ | with_reducible exact BW.out | with_reducible refine Below.setCell ?_ ?_ _ | with_reducible refine Below.alloc ?_ ?_ _ | with_reducible refine Below.drew ?_ | (simp; done) | (simp; omega) | omega))⟩
    · have HR := Lib.hid (show cmdSame (⟨a0, a1, a2, a3, a4, a5, a6, xs⟩ : CmdD) (⟨a0, b1, b2, b3, b4, b5, b6, ys⟩ : CmdD) = false by simp [cmdSame, h1])
      have hb1 : (a1 == b1) = false := by simpa using h1
      clear h1
      go_enter Tryz.func44, Tryz.ntmps44
      go_wp2
      go_ret
      exact ⟨ret_eq (by rw [HR.out]; rfl), (by repeat' (first | with_reducible exact Below.refl _ _ | with_reducible exact BW.out | with_reducible refine Below.setCell ?_ ?_ _ | with_reducible refine Below.alloc ?_ ?_ _ | with_reducible refine Below.drew ?_ | (simp; done) | (simp; omega) | omega))⟩
  · have HR := Lib.hid (show cmdSame (⟨a0, a1, a2, a3, a4, a5, a6, xs⟩ : CmdD) (⟨b0, b1, b2, b3, b4, b5, b6, ys⟩ : CmdD) = false by simp [cmdSame, h0])
    have hb0 : (a0 == b0) = false := by simpa using h0
    clear h0
    go_enter Tryz.func44, Tryz.ntmps44
    go_wp2
    go_ret
    exact ⟨ret_eq (by rw [HR.out]; rfl), (by repeat' (first | with_reducible exact Below.refl _ _ | with_reducible exact BW.out | with_reducible refine Below.setCell ?_ ?_ _ | with_reducible refine Below.alloc ?_ ?_ _ | with_reducible refine Below.drew ?_ | (simp; done) | (simp; omega) | omega))⟩


attribute [irreducible] cmdSame

end Go.Proofs.YtonaacdefidomaaGreat
namespace Go.Proofs.YtonaacdefidomaaGreat
open Go.RowKit
def lcB (b : UInt8) : Bool := decide (97 ≤ (b.toNat : Int) ∧ (b.toNat : Int) ≤ 122)
def wordB (l : List UInt8) : Bool := inB 1 8 (l.length : Int) && l.all lcB
def wordIfB (l : List UInt8) (b : Bool) : Bool := if b = true then wordB l else decide (l = [])
theorem all_take_succ {l : List UInt8} {j : Nat} (h : (l.take j).all lcB = true) (hj : j < l.length) (hb : lcB l[j] = true) : (l.take (j + 1)).all lcB = true := by
  rw [List.take_succ_eq_append_getElem hj, List.all_append, h, Bool.true_and]
  simpa using hb
theorem wordB_no {l : List UInt8} {j : Nat} (hj : j < l.length) (hb : lcB l[j] = false) : wordB l = false := by
  have : l.all lcB = false := by
    rw [List.all_eq_false]
    exact ⟨l[j], List.getElem_mem hj, by simpa using hb⟩
  rw [wordB, this, Bool.and_false]
theorem wordB_end {l : List UInt8} (h : (l.take l.length).all lcB = true) : wordB l = inB 1 8 (l.length : Int) := by
  rw [List.take_length] at h
  rw [wordB, h, Bool.and_true]
theorem lcB_lo {b : UInt8} (h : (b.toNat : Int) < 97) : lcB b = false := by simp only [lcB, decide_eq_false_iff_not]; omega
theorem lcB_hi {b : UInt8} (h : 122 < (b.toNat : Int)) : lcB b = false := by simp only [lcB, decide_eq_false_iff_not]; omega
theorem lcB_yes {b : UInt8} (h1 : ¬ (b.toNat : Int) < 97) (h2 : ¬ 122 < (b.toNat : Int)) : lcB b = true := by simp only [lcB, decide_eq_true_eq]; omega

set_option maxRecDepth 100000 in
set_option maxHeartbeats 1000000 in
theorem isWord_any (l : List UInt8) (w : World) (hl : l.length ≤ 4611686018427387904) :
    Calls Tryz.prog 95 #[.string (bs l)] w fun e w' => e = .returned (.bool (wordB l)) ∧ w = w' := by
  go_enter Tryz.func95, Tryz.ntmps95
  go_wp2
  go_loop [3] (fun ii => ∃ j : Nat, j ≤ l.length ∧ ii = .int .i64 (j : Int) ∧ (l.take j).all lcB = true) (fun ii => l.length - (intOf ii).toNat)
  case atStart => exact ⟨0, Nat.zero_le _, rfl, rfl⟩
  case round =>
    obtain ⟨j, hj, rfl, hall⟩ := hrel
    by_cases hlt : j < l.length
    · have hst := fun h => all_take_succ hall hlt h
      have hno := fun h => wordB_no (l := l) hlt h
      have HST := Lib.hid hst; clear hst
      have HNO := Lib.hid hno; clear hno hall
      by_cases h1 : ((l[j]'hlt).toNat : Int) < 97
      · have HR := Lib.hid (HNO.out (lcB_lo h1))
        go_wp2
        go_ret
        exact ⟨ret_eq (by rw [HR.out]; rfl), rfl⟩
      · by_cases h2 : 122 < ((l[j]'hlt).toNat : Int)
        · have HR := Lib.hid (HNO.out (lcB_hi h2))
          go_wp2
          go_ret
          exact ⟨ret_eq (by rw [HR.out]; rfl), rfl⟩
        · have HS := Lib.hid (HST.out (lcB_yes h1 h2))
          go_wp2
          exact ⟨⟨j + 1, by omega, by go_num, HS.out⟩, by simp only [intOf]; omega⟩
    · have hjn : j = l.length := by omega
      subst hjn
      have HR := Lib.hid (wordB_end hall)
      clear hall
      go_wp2_with fail
      refine (within_any _ _ _ _).mono ?_; rintro e w' ⟨rfl, rfl⟩
      go_wp2
      go_ret
      exact ⟨ret_eq (by rw [HR.out]; rfl), rfl⟩

set_option maxRecDepth 100000 in
set_option maxHeartbeats 1000000 in
theorem wordIf_any (l : List UInt8) (b : Bool) (w : World) (hl : l.length ≤ 4611686018427387904) :
    Calls Tryz.prog 70 #[.string (bs l), .bool b] w fun e w' => e = .returned (.bool (wordIfB l b)) ∧ w = w' := by
  cases b with
  | true =>
    have HR := Lib.hid (show wordIfB l true = wordB l from rfl)
    go_enter Tryz.func70, Tryz.ntmps70
    go_wp2_with fail
    refine (isWord_any l _ hl).mono ?_; rintro e w' ⟨rfl, rfl⟩
    go_wp2
    go_ret
    exact ⟨ret_eq (by rw [HR.out]; rfl), rfl⟩
  | false =>
    have HR := Lib.hid (show wordIfB l false = decide (l = []) from rfl)
    cases l with
    | nil =>
      go_enter Tryz.func70, Tryz.ntmps70
      go_wp2
      go_ret
      exact ⟨ret_eq (by rw [HR.out]; rfl), rfl⟩
    | cons c l =>
      go_enter Tryz.func70, Tryz.ntmps70
      go_wp2
      go_ret
      exact ⟨ret_eq (by rw [HR.out]; rfl), rfl⟩

set_option maxRecDepth 100000 in
set_option maxHeartbeats 1000000 in
theorem l4Word_any (l : List UInt8) (w : World) (hl : l.length ≤ 4611686018427387904) :
    Calls Tryz.prog 72 #[.string (bs l)] w fun e w' => e = .returned (.bool (wordB l)) ∧ w = w' := by
  by_cases h0 : 1 ≤ (l.length : Int) ∧ (l.length : Int) ≤ 8
  · have H0 := Lib.hid h0; clear h0
    go_enter Tryz.func72, Tryz.ntmps72
    go_wp2_with fail
    refine (l1In_yes _ _ _ _ H0.out).mono ?_; rintro e w' ⟨rfl, rfl⟩
    go_wp2
    go_loop [3] (fun ii => ∃ j : Nat, j ≤ l.length ∧ ii = .int .i64 (j : Int) ∧ (l.take j).all lcB = true) (fun ii => l.length - (intOf ii).toNat)
    case atStart => exact ⟨0, Nat.zero_le _, rfl, rfl⟩
    case round =>
      obtain ⟨j, hj, rfl, hall⟩ := hrel
      by_cases hlt : j < l.length
      · have hst := fun h => all_take_succ hall hlt h
        have hno := fun h => wordB_no (l := l) hlt h
        have HST := Lib.hid hst; clear hst
        have HNO := Lib.hid hno; clear hno hall
        by_cases h1 : ((l[j]'hlt).toNat : Int) < 97
        · have HR := Lib.hid (HNO.out (lcB_lo h1))
          go_wp2
          go_ret
          exact ⟨ret_eq (by rw [HR.out]; rfl), rfl⟩
        · by_cases h2 : 122 < ((l[j]'hlt).toNat : Int)
          · have HR := Lib.hid (HNO.out (lcB_hi h2))
            go_wp2
            go_ret
            exact ⟨ret_eq (by rw [HR.out]; rfl), rfl⟩
          · have HS := Lib.hid (HST.out (lcB_yes h1 h2))
            go_wp2
            exact ⟨⟨j + 1, by omega, by go_num, HS.out⟩, by simp only [intOf]; omega⟩
      · have hjn : j = l.length := by omega
        subst hjn
        have HR := Lib.hid (show wordB l = true by rw [wordB_end hall, inB_true H0.out.1 H0.out.2])
        clear hall
        go_wp2
        go_ret
        exact ⟨ret_eq (by rw [HR.out]; rfl), rfl⟩
  · have HR := Lib.hid (show wordB l = false by rw [wordB, inB_false h0, Bool.false_and])
    have H0 := Lib.hid h0; clear h0
    go_enter Tryz.func72, Tryz.ntmps72
    go_wp2_with fail
    refine (l1In_no _ _ _ _ H0.out).mono ?_; rintro e w' ⟨rfl, rfl⟩
    go_wp2
    go_ret
    exact ⟨ret_eq (by rw [HR.out]; rfl), rfl⟩

set_option maxRecDepth 100000 in
set_option maxHeartbeats 1000000 in
theorem l4May_any (l : List UInt8) (b : Bool) (w : World) (hl : l.length ≤ 4611686018427387904) :
    Calls Tryz.prog 55 #[.string (bs l), .bool b] w fun e w' => e = .returned (.bool (wordIfB l b)) ∧ w = w' := by
  cases b with
  | true =>
    have HR := Lib.hid (show wordIfB l true = wordB l from rfl)
    go_enter Tryz.func55, Tryz.ntmps55
    go_wp2_with fail
    refine (l4Word_any l _ hl).mono ?_; rintro e w' ⟨rfl, rfl⟩
    go_wp2
    go_ret
    exact ⟨ret_eq (by rw [HR.out]; rfl), rfl⟩
  | false =>
    have HR := Lib.hid (show wordIfB l false = decide (l = []) from rfl)
    cases l with
    | nil =>
      go_enter Tryz.func55, Tryz.ntmps55
      go_wp2
      go_ret
      exact ⟨ret_eq (by rw [HR.out]; rfl), rfl⟩
    | cons c l =>
      go_enter Tryz.func55, Tryz.ntmps55
      go_wp2
      go_ret
      exact ⟨ret_eq (by rw [HR.out]; rfl), rfl⟩

attribute [irreducible] wordIfB wordB
end Go.Proofs.YtonaacdefidomaaGreat
namespace Go.Proofs.YtonaacdefidomaaGreat
open Go.RowKit

def chunksB (xs : List (List UInt8)) : Bool := xs.all fun s => decide (s.length = 8)
def zeroCmd : CmdD := ⟨0, 0, 0, [], [], [], 0, []⟩
/-- a right command; its first test is on the kind alone -/
def cmdOkB (c : CmdD) : Bool :=
  if (c.kind == 0) = true then cmdSame c zeroCmd else
  inB 1 7 c.kind && (inB 1 9 c.client && (inB 1 1000 c.no && (wordIfB c.set (c.kind != 7) && (wordIfB c.name (c.kind == 3 || c.kind == 4) && (wordIfB c.tag (c.kind == 4) &&
    ((c.n == 0 || (c.kind == 5 && inB 0 9 c.n)) && (if (c.kind == 3) = true then inB 1 4 (c.chunks.length : Int) && chunksB c.chunks else ((c.chunks.length : Int) == 0))))))))
theorem in07 {k : Int} (h : (k == 0) = false) : inB 0 7 k = inB 1 7 k := by
  simp only [beq_eq_false_iff_ne] at h
  simp only [inB, decide_eq_decide]
  omega
theorem chunksB_step {xs : List (List UInt8)} {j : Nat} (h : chunksB (xs.take j) = true) (hj : j < xs.length) (hb : xs[j].length = 8) : chunksB (xs.take (j + 1)) = true := by
  unfold chunksB at *
  rw [List.take_succ_eq_append_getElem hj, List.all_append, h, Bool.true_and]
  simp [hb]
theorem chunksB_no {xs : List (List UInt8)} {j : Nat} (hj : j < xs.length) (hb : ¬ xs[j].length = 8) : chunksB xs = false := by
  unfold chunksB
  rw [List.all_eq_false]
  exact ⟨xs[j], List.getElem_mem hj, by simpa using hb⟩
theorem zero_rep (w : World) : Rep anyB w zeroCmd.c [.int .i64 0, .int .i64 0, .int .i64 0, .string (bs []), .string (bs []), .string (bs []), .int .i64 0, .slice none 0 0] := CmdD.shut (x := zeroCmd) Rep.sl_nil

set_option maxRecDepth 100000 in
set_option maxHeartbeats 1000000 in
theorem areChunks_any (xs : List (List UInt8)) (v : Value) (w : World) (hn : xs.length ≤ 1048576) (hr : SlR w 1 v xs.length (xs.map strv)) :
    Calls Tryz.prog 71 #[v] w fun e w' => e = .returned (.bool (chunksB xs)) ∧ w = w' := by
  obtain ⟨A, c, rfl, hR⟩ := hr
  obtain ⟨n, hnn⟩ : ∃ n, n = xs.length := ⟨_, rfl⟩
  rw [← hnn] at hn hR ⊢
  have HN := Lib.hid hnn; clear hnn
  have HR := Lib.hid hR; clear hR
  go_enter Tryz.func71, Tryz.ntmps71
  go_wp2
  go_loop [7] (fun ii => ∃ j : Nat, j ≤ n ∧ ii = .int .i64 (j : Int) ∧ chunksB (xs.take j) = true) (fun ii => n - (intOf ii).toNat)
  case atStart => exact ⟨0, Nat.zero_le _, rfl, rfl⟩
  case round =>
    obtain ⟨j, hj, rfl, hall⟩ := hrel
    have HA := Lib.hid hall; clear hall
    by_cases hlt : j < n
    · have hjx : j < xs.length := by have := HN.out; omega
      obtain ⟨ad, rfl, hcells⟩ := HR.out.2 (by omega)
      have hc := hcells j (strv xs[j]) (by rw [List.getElem?_map, List.getElem?_eq_getElem hjx]; rfl)
      have hc2 : w.cell? (ad.add j) = some (.string (bs xs[j])) := hc
      have hst := fun h => chunksB_step HA.out hjx h
      have hno := fun h => chunksB_no (xs := xs) hjx h
      clear hc hcells
      generalize xs[j] = x at *
      have HST := Lib.hid hst; clear hst
      have HNO := Lib.hid hno; clear hno
      by_cases h8 : x.length = 8
      · have HS := Lib.hid (HST.out h8)
        have hb : ((x.length : Int) == 8) = true := by simp only [beq_iff_eq]; omega
        clear h8
        go_wp2
        exact ⟨⟨j + 1, by omega, by go_num, HS.out⟩, by simp only [intOf]; omega⟩
      · have HS := Lib.hid (HNO.out h8)
        have hb : ((x.length : Int) == 8) = false := by simp only [beq_eq_false_iff_ne]; omega
        clear h8
        go_wp2
        go_ret
        exact ⟨ret_eq (by rw [HS.out]; rfl), rfl⟩
    · have hjn : j = n := by omega
      subst hjn
      have HS := Lib.hid (show chunksB xs = true by have := HA.out; rwa [List.take_of_length_le (by have := HN.out; omega)] at this)
      go_wp2
      go_ret
      exact ⟨ret_eq (by rw [HS.out]; rfl), rfl⟩


set_option maxRecDepth 100000 in
set_option maxHeartbeats 4000000 in
theorem iCmdOk_any (x : CmdD) (cs : List Value) (w : World) (hwt : x.c.wt ≤ 1048576) (h : Rep anyB w x.c cs) :
    Calls Tryz.prog 52 #[.agg cs.toArray] w fun e w' => e = .returned (.bool (cmdOkB x)) ∧ Below w.heap.size w w' := by
  have hw0 : x.c.wt = x.set.length + (x.name.length + (x.tag.length + (x.chunks.length + (cat strC x.chunks).wt + 0))) := rfl
  have HREP := Lib.hid h
  obtain ⟨A0, k0, rfl, s0⟩ := CmdD.open h
  obtain ⟨kind, client, no, set, name, tag, n, chunks⟩ := x
  simp only [] at s0 hw0 ⊢
  have e1 : set.length ≤ 1048576 := by omega
  have e2 : name.length ≤ 1048576 := by omega
  have e3 : tag.length ≤ 1048576 := by omega
  have e4 : chunks.length ≤ 1048576 := by omega
  have HWT := Lib.hid hwt
  clear hwt hw0 h
  have S0 := Lib.hid s0; clear s0
  obtain ⟨R, hR⟩ : ∃ R, R = cmdOkB ⟨kind, client, no, set, name, tag, n, chunks⟩ := ⟨_, rfl⟩
  rw [← hR]
  rw [cmdOkB] at hR
  simp only [] at hR
  have HR := Lib.hid hR; clear hR
  cases hk0 : kind == 0
  case true =>
    obtain rfl : kind = 0 := by simpa using hk0
    have HK := Lib.hid (show (0 : Int) ≤ 0 ∧ (0 : Int) ≤ 7 by omega)
    go_enter Tryz.func52, Tryz.ntmps52
    go_wp2_with fail
    refine (iSameCmd_any ⟨0, client, no, set, name, tag, n, chunks⟩ zeroCmd _ _ _ HWT.out (by decide) (HREP.out.below (by repeat' (first | with_reducible exact Below.refl _ _ | with_reducible exact BW.out | with_reducible refine Below.setCell ?_ ?_ _ | with_reducible refine Below.alloc ?_ ?_ _ | with_reducible refine Below.drew ?_ | (simp; done) | (simp; omega) | omega))) (zero_rep _)).mono ?_; rintro e w1 ⟨rfl, hb⟩
    have BW := Lib.hid (show Below w.heap.size w w1 from Below.trans (by repeat' (first | with_reducible exact Below.refl _ _ | with_reducible exact BW.out | with_reducible refine Below.setCell ?_ ?_ _ | with_reducible refine Below.alloc ?_ ?_ _ | with_reducible refine Below.drew ?_ | (simp; done) | (simp; omega) | omega)) (hb.mono (by first | (simp; done) | (simp; omega) | omega))); clear hb
    go_wp2
    go_ret
    exact ⟨ret_eq (by rw [HR.out]; rfl), BW.out⟩
  case false =>
    go_enter Tryz.func52, Tryz.ntmps52
    repeat' (go_wp2_with fail; any_goals (first | (refine (within_any _ _ _ _).mono ?_; rintro e w' ⟨rfl, rfl⟩; cases hb : inB _ _ _) | (refine (wordIf_any _ _ _ (by omega)).mono ?_; rintro e w' ⟨rfl, rfl⟩; cases hb : wordIfB _ _) | (refine (areChunks_any chunks _ _ (by omega) (S0.out.below (by repeat' (first | with_reducible exact Below.refl _ _ | with_reducible exact BW.out | with_reducible refine Below.setCell ?_ ?_ _ | with_reducible refine Below.alloc ?_ ?_ _ | with_reducible refine Below.drew ?_ | (simp; done) | (simp; omega) | omega))).strs).mono ?_; rintro e w' ⟨rfl, rfl⟩; cases hb : chunksB _)))
    all_goals (go_wp2; go_ret; refine ⟨ret_eq ?_, (by repeat' (first | with_reducible exact Below.refl _ _ | with_reducible exact BW.out | with_reducible refine Below.setCell ?_ ?_ _ | with_reducible refine Below.alloc ?_ ?_ _ | with_reducible refine Below.drew ?_ | (simp; done) | (simp; omega) | omega))⟩; rw [HR.out]; clear HR HREP HWT S0; first | (simp [*]; done) | (subst_vars; simp [*]; done) | (simp_all; done) | (rw [show wordIfB name (kind == 3 || kind == 4) = true from ‹_›]; simp [*]; done))


set_option maxRecDepth 100000 in
set_option maxHeartbeats 4000000 in
theorem sCmdOk_any (x : CmdD) (cs : List Value) (w : World) (hwt : x.c.wt ≤ 1048576) (h : Rep anyB w x.c cs) :
    Calls Tryz.prog 30 #[.agg cs.toArray] w fun e w' => e = .returned (.bool (cmdOkB x)) ∧ Below w.heap.size w w' := by
  have hw0 : x.c.wt = x.set.length + (x.name.length + (x.tag.length + (x.chunks.length + (cat strC x.chunks).wt + 0))) := rfl
  have HREP := Lib.hid h
  obtain ⟨A0, k0, rfl, s0⟩ := CmdD.open h
  obtain ⟨kind, client, no, set, name, tag, n, chunks⟩ := x
  simp only [] at s0 hw0 ⊢
  have e1 : set.length ≤ 1048576 := by omega
  have e2 : name.length ≤ 1048576 := by omega
  have e3 : tag.length ≤ 1048576 := by omega
  have e4 : chunks.length ≤ 1048576 := by omega
  have HWT := Lib.hid hwt
  clear hwt hw0 h
  have S0 := Lib.hid s0; clear s0
  obtain ⟨R, hR⟩ : ∃ R, R = cmdOkB ⟨kind, client, no, set, name, tag, n, chunks⟩ := ⟨_, rfl⟩
  rw [← hR]
  rw [cmdOkB] at hR
  simp only [] at hR
  have HR := Lib.hid hR; clear hR
  cases hk0 : kind == 0
  case true =>
    obtain rfl : kind = 0 := by simpa using hk0
    have HK := Lib.hid (show (0 : Int) ≤ 0 ∧ (0 : Int) ≤ 7 by omega)
    go_enter Tryz.func30, Tryz.ntmps30
    go_wp2_with fail
    refine (l1In_yes _ _ _ _ HK.out).mono ?_; rintro e w' ⟨rfl, rfl⟩
    go_wp2_with fail
    refine (sSameCmd_any ⟨0, client, no, set, name, tag, n, chunks⟩ zeroCmd _ _ _ HWT.out (by decide) (HREP.out.below (by repeat' (first | with_reducible exact Below.refl _ _ | with_reducible exact BW.out | with_reducible refine Below.setCell ?_ ?_ _ | with_reducible refine Below.alloc ?_ ?_ _ | with_reducible refine Below.drew ?_ | (simp; done) | (simp; omega) | omega))) (zero_rep _)).mono ?_; rintro e w1 ⟨rfl, hb⟩
    have BW := Lib.hid (show Below w.heap.size w w1 from Below.trans (by repeat' (first | with_reducible exact Below.refl _ _ | with_reducible exact BW.out | with_reducible refine Below.setCell ?_ ?_ _ | with_reducible refine Below.alloc ?_ ?_ _ | with_reducible refine Below.drew ?_ | (simp; done) | (simp; omega) | omega)) (hb.mono (by first | (simp; done) | (simp; omega) | omega))); clear hb
    go_wp2
    go_ret
    exact ⟨ret_eq (by rw [HR.out]; rfl), BW.out⟩
  case false =>
    have HI := Lib.hid (in07 hk0)
    go_enter Tryz.func30, Tryz.ntmps30
    repeat' (go_wp2_with fail; any_goals (first | (refine (l1In_any _ _ _ _).mono ?_; rintro e w' ⟨rfl, rfl⟩; (try rw [HI.out]); cases hb : inB _ _ _) | (refine (l4May_any _ _ _ (by omega)).mono ?_; rintro e w' ⟨rfl, rfl⟩; cases hb : wordIfB _ _)))
    all_goals try (go_wp2; go_ret; refine ⟨ret_eq ?_, (by repeat' (first | with_reducible exact Below.refl _ _ | with_reducible exact BW.out | with_reducible refine Below.setCell ?_ ?_ _ | with_reducible refine Below.alloc ?_ ?_ _ | with_reducible refine Below.drew ?_ | (simp; done) | (simp; omega) | omega))⟩; rw [HR.out]; clear HR HREP HWT S0; first | (simp [*]; done) | (subst_vars; simp [*]; done) | (simp_all; done) | (rw [show wordIfB name (kind == 3 || kind == 4) = true from ‹_›]; simp [*]; done))
    all_goals
      obtain rfl : kind = 3 := by assumption
      obtain rfl : n = 0 := by assumption
      have HRC := Lib.hid (show R = chunksB chunks by rw [HR.out]; simp_all)
      clear HR
      have SL := (S0.out.below (show Below w.heap.size w (w.alloc (.cells #[.int .i64 3, .int .i64 client, .int .i64 no, .string (bs set), .string (bs name), .string (bs tag), .int .i64 0, .slice A0 chunks.length k0] 29)) from (by repeat' (first | with_reducible exact Below.refl _ _ | with_reducible exact BW.out | with_reducible refine Below.setCell ?_ ?_ _ | with_reducible refine Below.alloc ?_ ?_ _ | with_reducible refine Below.drew ?_ | (simp; done) | (simp; omega) | omega)))).strs
      obtain ⟨A, c, he, hR⟩ := SL
      injection he with he1 _ he2
      subst he1 he2
      obtain ⟨m, hm⟩ : ∃ m, m = chunks.length := ⟨_, rfl⟩
      rw [← hm] at hR e4 ⊢
      have HM := Lib.hid hm; clear hm
      have HR := Lib.hid hR; clear hR
      go_wp2
      go_loop [4] (fun ii => ∃ j : Nat, j ≤ m ∧ ii = .int .i64 (j : Int) ∧ chunksB (chunks.take j) = true) (fun ii => m - (intOf ii).toNat)
      case atStart => exact ⟨0, Nat.zero_le _, rfl, rfl⟩
      case round =>
        obtain ⟨j, hj, rfl, hall⟩ := hrel
        have HA := Lib.hid hall; clear hall
        by_cases hlt : j < m
        · have hjx : j < chunks.length := by have := HM.out; omega
          obtain ⟨ad, rfl, hcells⟩ := HR.out.2 (by omega)
          have hc := hcells j (strv chunks[j]) (by rw [List.getElem?_map, List.getElem?_eq_getElem hjx]; rfl)
          have hst := fun h => chunksB_step HA.out hjx h
          have hno := fun h => chunksB_no (xs := chunks) hjx h
          clear hcells
          generalize chunks[j] = x at *
          have HST := Lib.hid hst; clear hst
          have HNO := Lib.hid hno; clear hno
          have hc2 : World.cell? _ (ad.add j) = some (.string (bs x)) := hc
          clear hc
          by_cases h8 : x.length = 8
          · have HS := Lib.hid (HST.out h8)
            have hb : ((x.length : Int) == 8) = true := by simp only [beq_iff_eq]; omega
            clear h8
            go_wp2
            exact ⟨⟨j + 1, by omega, by go_num, HS.out⟩, by simp only [intOf]; omega⟩
          · have HS := Lib.hid (HNO.out h8)
            have hb : ((x.length : Int) == 8) = false := by simp only [beq_eq_false_iff_ne]; omega
            clear h8
            go_wp2
            go_ret
            exact ⟨ret_eq (by rw [HRC.out, HS.out]; rfl), (by repeat' (first | with_reducible exact Below.refl _ _ | with_reducible exact BW.out | with_reducible refine Below.setCell ?_ ?_ _ | with_reducible refine Below.alloc ?_ ?_ _ | with_reducible refine Below.drew ?_ | (simp; done) | (simp; omega) | omega))⟩
        · have hjn : j = m := by omega
          subst hjn
          have HS := Lib.hid (show chunksB chunks = true by have := HA.out; rwa [List.take_of_length_le (by have := HM.out; omega)] at this)
          go_wp2
          go_ret
          exact ⟨ret_eq (by rw [HRC.out, HS.out]; rfl), (by repeat' (first | with_reducible exact Below.refl _ _ | with_reducible exact BW.out | with_reducible refine Below.setCell ?_ ?_ _ | with_reducible refine Below.alloc ?_ ?_ _ | with_reducible refine Below.drew ?_ | (simp; done) | (simp; omega) | omega))⟩

end Go.Proofs.YtonaacdefidomaaGreat
namespace Go.Proofs.YtonaacdefidomaaGreat
open Go.RowKit
def idOkB (x : IdD) : Bool := inB 0 2 x.rep && inB 1 6 x.slot
def idLt (a b : IdD) : Bool := decide (a.rep < b.rep ∨ a.rep = b.rep ∧ a.slot < b.slot)
def idCmp (a b : IdD) : Int := if idLt a b = true then -1 else if a = b then 0 else 1
def idsGood (xs : List IdD) (j : Nat) : Prop := ∀ i, i < j → ∃ x, xs[i]? = some x ∧ idOkB x = true ∧ ∀ y, i ≠ 0 → xs[i - 1]? = some y → idLt y x = true
open Classical in
noncomputable def idsOkB (xs : List IdD) : Bool := decide (idsGood xs xs.length)
theorem idsGood_zero (xs : List IdD) : idsGood xs 0 := fun i hi => absurd hi (Nat.not_lt_zero _)
theorem idsGood_succ {xs : List IdD} {j : Nat} (h : idsGood xs j) (hj : j < xs.length) (h1 : idOkB xs[j] = true) (h2 : ∀ y, j ≠ 0 → xs[j - 1]? = some y → idLt y xs[j] = true) : idsGood xs (j + 1) := fun i hi => by
  by_cases hij : i = j
  · subst hij
    exact ⟨xs[i], List.getElem?_eq_getElem hj, h1, h2⟩
  · exact h i (by omega)
theorem idsOkB_yes {xs : List IdD} (h : idsGood xs xs.length) : idsOkB xs = true := by simp [idsOkB, h]
theorem idsOkB_no1 {xs : List IdD} {j : Nat} (hj : j < xs.length) (h1 : idOkB xs[j] = false) : idsOkB xs = false := by
  simp only [idsOkB, decide_eq_false_iff_not]
  intro h
  obtain ⟨x, h2, h3, _⟩ := h j hj
  rw [List.getElem?_eq_getElem hj] at h2
  injection h2 with h2
  rw [h2, h3] at h1
  cases h1
theorem idsOkB_no2 {xs : List IdD} {j : Nat} (hj : j + 1 < xs.length) (h1 : idLt (xs[j]'(by omega)) xs[j + 1] = false) : idsOkB xs = false := by
  simp only [idsOkB, decide_eq_false_iff_not]
  intro h
  obtain ⟨x, h2, _, h3⟩ := h (j + 1) hj
  rw [List.getElem?_eq_getElem hj] at h2
  injection h2 with h2
  have := h3 (xs[j]'(by omega)) (by omega) (List.getElem?_eq_getElem (by omega))
  rw [← h2, h1] at this
  cases this
theorem idCmp_lt {a b : IdD} : idCmp a b < 0 ↔ idLt a b = true := by
  unfold idCmp
  by_cases h : idLt a b = true
  · simp [h]
  · have h' : idLt a b = false := by simpa using h
    simp only [h']
    constructor
    · intro h2; exfalso; revert h2; simp only [Bool.false_eq_true, if_false]; split <;> omega
    · intro h2; cases h2

set_option maxRecDepth 100000 in
set_option maxHeartbeats 1000000 in
theorem l8Id_any (x : IdD) (cs : List Value) (w : World) (h : Rep anyB w x.c cs) :
    Calls Tryz.prog 42 #[.agg cs.toArray] w fun e w' => e = .returned (.bool (idOkB x)) ∧ Below w.heap.size w w' := by
  obtain rfl := IdD.open h
  clear h
  by_cases h1 : 0 ≤ x.rep ∧ x.rep ≤ 2
  · have HR := Lib.hid (show idOkB x = inB 1 6 x.slot by rw [idOkB, inB_true h1.1 h1.2, Bool.true_and])
    have H1 := Lib.hid h1; clear h1
    go_enter Tryz.func42, Tryz.ntmps42
    go_wp2_with fail
    refine (l1In_yes _ _ _ _ H1.out).mono ?_; rintro e w' ⟨rfl, rfl⟩
    go_wp2_with fail
    refine (l1In_any _ _ _ _).mono ?_; rintro e w' ⟨rfl, rfl⟩
    go_wp2
    go_ret
    exact ⟨ret_eq (by rw [HR.out]; rfl), (by repeat' (first | with_reducible exact Below.refl _ _ | with_reducible exact BW.out | with_reducible refine Below.setCell ?_ ?_ _ | with_reducible refine Below.alloc ?_ ?_ _ | with_reducible refine Below.drew ?_ | (simp; done) | (simp; omega) | omega))⟩
  · have HR := Lib.hid (show idOkB x = false by rw [idOkB, inB_false h1, Bool.false_and])
    have H1 := Lib.hid h1; clear h1
    go_enter Tryz.func42, Tryz.ntmps42
    go_wp2_with fail
    refine (l1In_no _ _ _ _ H1.out).mono ?_; rintro e w' ⟨rfl, rfl⟩
    go_wp2
    go_ret
    exact ⟨ret_eq (by rw [HR.out]; rfl), (by repeat' (first | with_reducible exact Below.refl _ _ | with_reducible exact BW.out | with_reducible refine Below.setCell ?_ ?_ _ | with_reducible refine Below.alloc ?_ ?_ _ | with_reducible refine Below.drew ?_ | (simp; done) | (simp; omega) | omega))⟩

set_option maxRecDepth 100000 in
set_option maxHeartbeats 1000000 in
theorem idOk_any (x : IdD) (cs : List Value) (w : World) (h : Rep anyB w x.c cs) :
    Calls Tryz.prog 63 #[.agg cs.toArray] w fun e w' => e = .returned (.bool (idOkB x)) ∧ Below w.heap.size w w' := by
  obtain rfl := IdD.open h
  clear h
  by_cases h1 : 0 ≤ x.rep ∧ x.rep ≤ 2
  · have HR := Lib.hid (show idOkB x = inB 1 6 x.slot by rw [idOkB, inB_true h1.1 h1.2, Bool.true_and])
    have H1 := Lib.hid h1; clear h1
    go_enter Tryz.func63, Tryz.ntmps63
    go_wp2_with fail
    refine (within_yes _ _ _ _ H1.out).mono ?_; rintro e w' ⟨rfl, rfl⟩
    go_wp2_with fail
    refine (within_any _ _ _ _).mono ?_; rintro e w' ⟨rfl, rfl⟩
    go_wp2
    go_ret
    exact ⟨ret_eq (by rw [HR.out]; rfl), (by repeat' (first | with_reducible exact Below.refl _ _ | with_reducible exact BW.out | with_reducible refine Below.setCell ?_ ?_ _ | with_reducible refine Below.alloc ?_ ?_ _ | with_reducible refine Below.drew ?_ | (simp; done) | (simp; omega) | omega))⟩
  · have HR := Lib.hid (show idOkB x = false by rw [idOkB, inB_false h1, Bool.false_and])
    have H1 := Lib.hid h1; clear h1
    go_enter Tryz.func63, Tryz.ntmps63
    go_wp2_with fail
    refine (within_no _ _ _ _ H1.out).mono ?_; rintro e w' ⟨rfl, rfl⟩
    go_wp2
    go_ret
    exact ⟨ret_eq (by rw [HR.out]; rfl), (by repeat' (first | with_reducible exact Below.refl _ _ | with_reducible exact BW.out | with_reducible refine Below.setCell ?_ ?_ _ | with_reducible refine Below.alloc ?_ ?_ _ | with_reducible refine Below.drew ?_ | (simp; done) | (simp; omega) | omega))⟩

set_option maxRecDepth 100000 in
set_option maxHeartbeats 1000000 in
theorem l8Less_any (x y : IdD) (cs cs' : List Value) (w : World) (h : Rep anyB w x.c cs) (h' : Rep anyB w y.c cs') :
    Calls Tryz.prog 29 #[.agg cs.toArray, .agg cs'.toArray] w fun e w' => e = .returned (.bool (idLt x y)) ∧ Below w.heap.size w w' := by
  obtain rfl := IdD.open h
  obtain rfl := IdD.open h'
  clear h h'
  obtain ⟨xr, xs⟩ := x
  obtain ⟨yr, ys⟩ := y
  have hid : idLt ⟨xr, xs⟩ ⟨yr, ys⟩ = decide (xr < yr ∨ xr = yr ∧ xs < ys) := rfl
  have HI := Lib.hid hid; clear hid
  simp only []
  by_cases h1 : xr < yr
  · have HR := Lib.hid (show idLt ⟨xr, xs⟩ ⟨yr, ys⟩ = true by rw [HI.out]; simp [h1])
    go_enter Tryz.func29, Tryz.ntmps29
    go_wp2
    go_ret
    exact ⟨ret_eq (by rw [HR.out]; rfl), (by repeat' (first | with_reducible exact Below.refl _ _ | with_reducible exact BW.out | with_reducible refine Below.setCell ?_ ?_ _ | with_reducible refine Below.alloc ?_ ?_ _ | with_reducible refine Below.drew ?_ | (simp; done) | (simp; omega) | omega))⟩
  · by_cases h2 : xr = yr
    · subst h2
      have HR := Lib.hid (show idLt ⟨xr, xs⟩ ⟨xr, ys⟩ = decide (xs < ys) by rw [HI.out]; simp)
      clear h1
      go_enter Tryz.func29, Tryz.ntmps29
      go_wp2
      go_ret
      exact ⟨ret_eq (by rw [HR.out]; rfl), (by repeat' (first | with_reducible exact Below.refl _ _ | with_reducible exact BW.out | with_reducible refine Below.setCell ?_ ?_ _ | with_reducible refine Below.alloc ?_ ?_ _ | with_reducible refine Below.drew ?_ | (simp; done) | (simp; omega) | omega))⟩
    · have HR := Lib.hid (show idLt ⟨xr, xs⟩ ⟨yr, ys⟩ = false by rw [HI.out]; simp; omega)
      have h3 : (xr == yr) = false := by simpa using h2
      clear h2
      go_enter Tryz.func29, Tryz.ntmps29
      go_wp2
      go_ret
      exact ⟨ret_eq (by rw [HR.out]; rfl), (by repeat' (first | with_reducible exact Below.refl _ _ | with_reducible exact BW.out | with_reducible refine Below.setCell ?_ ?_ _ | with_reducible refine Below.alloc ?_ ?_ _ | with_reducible refine Below.drew ?_ | (simp; done) | (simp; omega) | omega))⟩

set_option maxRecDepth 100000 in
set_option maxHeartbeats 2000000 in
theorem sIdsOk_any (xs : List IdD) (A : Option Addr) (n c : Nat) (w : World) (hn : n = xs.length) (hwt : n + (cat IdD.c xs).wt ≤ 1048576) (h : Rep anyB w (.sl 26 2 n (cat IdD.c xs) .nil) [.slice A n c]) :
    Calls Tryz.prog 16 #[.slice A n c] w fun e w' => e = .returned (.bool (idsOkB xs)) ∧ Below w.heap.size w w' := by
  have hnb : n ≤ 1048576 := by omega
  have HN := Lib.hid hn; clear hn hwt
  have HR := Lib.hid h; clear h
  go_enter Tryz.func16, Tryz.ntmps16
  go_wp2
  go_loopw [3] (fun ii wr => ∃ j : Nat, j ≤ n ∧ ii = .int .i64 (j : Int) ∧ idsGood xs j ∧ Below w.heap.size w wr) (fun ii _ => n - (intOf ii).toNat)
  case atStart => exact ⟨0, Nat.zero_le _, rfl, idsGood_zero _, Below.refl _ _⟩
  case round =>
    obtain ⟨j, hj, rfl, hgood, hbel⟩ := hrel
    have HG := Lib.hid hgood; clear hgood
    have BW := Lib.hid hbel; clear hbel
    by_cases hlt : j < n
    · have hjx : j < xs.length := by have := HN.out; omega
      obtain ⟨ad, ci, rfl, _, _, hrc, hl, hc⟩ := (HR.out.below BW.out).elem IdD.width j hjx HN.out
      have hno1 := fun h => idsOkB_no1 hjx h
      have hsucc := fun h1 h2 => idsGood_succ HG.out hjx h1 h2
      have hno2 : ∀ m, (hm : j = m + 1) → idLt (xs[m]'(by omega)) xs[j] = false → idsOkB xs = false := fun m hm h => by subst hm; exact idsOkB_no2 hjx h
      have HNO1 := Lib.hid hno1; clear hno1
      have HSU := Lib.hid hsucc; clear hsucc
      have HNO2 := Lib.hid hno2; clear hno2
      have HX := Lib.hid (show xs[j]? = some xs[j] from List.getElem?_eq_getElem hjx)
      generalize xs[j] = x at *
      have HL := Lib.hid hl; clear hl
      have HC := Lib.hid hc; clear hc
      have HRC := Lib.hid hrc; clear hrc
      cases hok : idOkB x with
      | false =>
        have HF := Lib.hid (HNO1.out hok)
        have HOK := Lib.hid hok; clear hok
        go_wp2
        refine wp_region_x 23 [0, 1, 2, 3, 4, 5, 6, 7, 8, 9, 10, 11, 12, 13, 14, 15, 16, 17, 18, 19, 20, 21, 22] (by kernel_rfl) (by kernel_rfl) ?_
        iterate 3 (refine wpX_quiet rfl (by kernel_rfl) rfl ?_; go_wp2; refine ⟨rfl, ?_⟩)
        refine wpX_quiet rfl (by kernel_rfl) rfl ?_; go_wp2_with (first | (refine wpList_load_row _ (ad.add (j * 2)) rfl ci agg_Id HL.out HC.out ?_) | fail); refine ⟨rfl, ?_⟩
        refine wpX_actor rfl (by kernel_rfl) ?_; go_wp2_with fail
        refine (l8Id_any x ci _ HRC.out.drew).mono ?_; rintro e v1 ⟨rfl, hb⟩
        rw [HOK.out]
        have HB := Lib.hid hb; clear hb
        go_wp2
        refine ⟨Ext.of_below HB.out, ?_⟩
        iterate 2 (refine wpX_quiet rfl (by kernel_rfl) rfl ?_; go_wp2; refine ⟨rfl, ?_⟩)
        (iterate 6 (refine wpX_skip2 rfl rfl (by kernel_rfl) ?_)); simp only [List.setIfInBounds_toArray, List.set_cons_succ, List.set_cons_zero]; (iterate 6 (refine wpX_skip2 rfl rfl (by kernel_rfl) ?_)); simp only [List.setIfInBounds_toArray, List.set_cons_succ, List.set_cons_zero]; (iterate 3 (refine wpX_skip2 rfl rfl (by kernel_rfl) ?_)); simp only [List.setIfInBounds_toArray, List.set_cons_succ, List.set_cons_zero]
        iterate 1 (refine wpX_quiet rfl (by kernel_rfl) rfl ?_; go_wp2; refine ⟨rfl, ?_⟩)
        refine wpX_nil ?_; simp only [List.drop_succ_cons, List.drop_zero]
        go_wp2
        go_ret
        exact ⟨ret_eq (by rw [HF.out]; rfl), BW.out.trans ((below_drewL HB.out).mono BW.out.size)⟩
      | true =>
        have HOK := Lib.hid hok; clear hok
        cases j with
        | zero =>
          go_wp2
          refine wp_region_x 23 [0, 1, 2, 3, 4, 5, 6, 7, 8, 9, 10, 11, 12, 13, 14, 15, 16, 17, 18, 19, 20, 21, 22] (by kernel_rfl) (by kernel_rfl) ?_
          iterate 3 (refine wpX_quiet rfl (by kernel_rfl) rfl ?_; go_wp2; refine ⟨rfl, ?_⟩)
          refine wpX_quiet rfl (by kernel_rfl) rfl ?_; go_wp2_with (first | (refine wpList_load_row _ (ad.add (0 * 2)) rfl ci agg_Id HL.out HC.out ?_) | fail); refine ⟨rfl, ?_⟩
          refine wpX_actor rfl (by kernel_rfl) ?_; go_wp2_with fail
          refine (l8Id_any x ci _ HRC.out.drew).mono ?_; rintro e v1 ⟨rfl, hb⟩
          rw [HOK.out]
          have HB := Lib.hid hb; clear hb
          go_wp2
          refine ⟨Ext.of_below HB.out, ?_⟩
          iterate 5 (refine wpX_quiet rfl (by kernel_rfl) rfl ?_; go_wp2; refine ⟨rfl, ?_⟩)
          (iterate 6 (refine wpX_skip2 rfl rfl (by kernel_rfl) ?_)); simp only [List.setIfInBounds_toArray, List.set_cons_succ, List.set_cons_zero]; (iterate 5 (refine wpX_skip2 rfl rfl (by kernel_rfl) ?_)); simp only [List.setIfInBounds_toArray, List.set_cons_succ, List.set_cons_zero]
          iterate 2 (refine wpX_quiet rfl (by kernel_rfl) rfl ?_; go_wp2; refine ⟨rfl, ?_⟩)
          refine wpX_nil ?_; simp only [List.drop_succ_cons, List.drop_zero]
          go_wp2
          exact ⟨⟨1, by omega, by go_num, HSU.out HOK.out (fun _ h => absurd rfl h), BW.out.trans ((below_drewL HB.out).mono BW.out.size)⟩, by simp only [intOf]; omega⟩
        | succ m =>
          have hmx : m < xs.length := by omega
          obtain ⟨ad', cp, he, _, _, hrc, hl, hc⟩ := (HR.out.below BW.out).elem IdD.width m hmx HN.out
          injection he with he
          subst he
          have hno2 := HNO2.out m rfl
          have HY := Lib.hid (show xs[m]? = some xs[m] from List.getElem?_eq_getElem hmx)
          generalize xs[m] = y at *
          have HLP := Lib.hid hl; clear hl
          have HCP := Lib.hid hc; clear hc
          have HRP := Lib.hid hrc; clear hrc
          have HNO := Lib.hid hno2; clear hno2
          cases hlt2 : idLt y x with
          | false =>
            have HF := Lib.hid (HNO.out hlt2)
            have HLT := Lib.hid hlt2; clear hlt2
            go_wp2
            refine wp_region_x 23 [0, 1, 2, 3, 4, 5, 6, 7, 8, 9, 10, 11, 12, 13, 14, 15, 16, 17, 18, 19, 20, 21, 22] (by kernel_rfl) (by kernel_rfl) ?_
            iterate 3 (refine wpX_quiet rfl (by kernel_rfl) rfl ?_; go_wp2; refine ⟨rfl, ?_⟩)
            refine wpX_quiet rfl (by kernel_rfl) rfl ?_; go_wp2_with (first | (refine wpList_load_row _ (ad.add ((m + 1) * 2)) rfl ci agg_Id HL.out HC.out ?_) | fail); refine ⟨rfl, ?_⟩
            refine wpX_actor rfl (by kernel_rfl) ?_; go_wp2_with fail
            refine (l8Id_any x ci _ HRC.out.drew).mono ?_; rintro e v1 ⟨rfl, hb⟩
            rw [HOK.out]
            have HB := Lib.hid hb; clear hb
            have HC1 := Lib.hid (cells_below HC.out (below_drewL HB.out))
            have HC2 := Lib.hid (cells_below HCP.out (below_drewL HB.out))
            go_wp2
            refine ⟨Ext.of_below HB.out, ?_⟩
            iterate 9 (refine wpX_quiet rfl (by kernel_rfl) rfl ?_; go_wp2; refine ⟨rfl, ?_⟩)
            refine wpX_quiet rfl (by kernel_rfl) rfl ?_; go_wp2_with (first | (refine wpList_load_row_g _ rfl (ad.add (m * 2)) rfl cp agg_Id HLP.out HC2.out ?_) | fail); refine ⟨rfl, ?_⟩
            iterate 3 (refine wpX_quiet rfl (by kernel_rfl) rfl ?_; go_wp2; refine ⟨rfl, ?_⟩)
            refine wpX_quiet rfl (by kernel_rfl) rfl ?_; go_wp2_with (first | (refine wpList_load_row_g _ rfl (ad.add ((m + 1) * 2)) rfl ci agg_Id HL.out HC1.out ?_) | fail); refine ⟨rfl, ?_⟩
            refine wpX_actor rfl (by kernel_rfl) ?_; go_wp2_with fail
            refine (l8Less_any y x cp ci _ (HRP.out.below (below_drewL HB.out)) (HRC.out.below (below_drewL HB.out))).mono ?_; rintro e v2 ⟨rfl, hb⟩
            rw [HLT.out]
            have HB2 := Lib.hid hb; clear hb
            go_wp2
            refine ⟨Ext.of_below HB2.out, ?_⟩
            iterate 3 (refine wpX_quiet rfl (by kernel_rfl) rfl ?_; go_wp2; refine ⟨rfl, ?_⟩)
            refine wpX_nil ?_; simp only [List.drop_succ_cons, List.drop_zero]
            go_wp2
            go_ret
            exact ⟨ret_eq (by rw [HF.out]; rfl), (BW.out.trans ((below_drewL HB.out).mono BW.out.size)).trans (HB2.out.mono (Nat.le_trans BW.out.size HB.out.size))⟩
          | true =>
            have HLT := Lib.hid hlt2; clear hlt2
            go_wp2
            refine wp_region_x 23 [0, 1, 2, 3, 4, 5, 6, 7, 8, 9, 10, 11, 12, 13, 14, 15, 16, 17, 18, 19, 20, 21, 22] (by kernel_rfl) (by kernel_rfl) ?_
            iterate 3 (refine wpX_quiet rfl (by kernel_rfl) rfl ?_; go_wp2; refine ⟨rfl, ?_⟩)
            refine wpX_quiet rfl (by kernel_rfl) rfl ?_; go_wp2_with (first | (refine wpList_load_row _ (ad.add ((m + 1) * 2)) rfl ci agg_Id HL.out HC.out ?_) | fail); refine ⟨rfl, ?_⟩
            refine wpX_actor rfl (by kernel_rfl) ?_; go_wp2_with fail
            refine (l8Id_any x ci _ HRC.out.drew).mono ?_; rintro e v1 ⟨rfl, hb⟩
            rw [HOK.out]
            have HB := Lib.hid hb; clear hb
            have HC1 := Lib.hid (cells_below HC.out (below_drewL HB.out))
            have HC2 := Lib.hid (cells_below HCP.out (below_drewL HB.out))
            go_wp2
            refine ⟨Ext.of_below HB.out, ?_⟩
            iterate 9 (refine wpX_quiet rfl (by kernel_rfl) rfl ?_; go_wp2; refine ⟨rfl, ?_⟩)
            refine wpX_quiet rfl (by kernel_rfl) rfl ?_; go_wp2_with (first | (refine wpList_load_row_g _ rfl (ad.add (m * 2)) rfl cp agg_Id HLP.out HC2.out ?_) | fail); refine ⟨rfl, ?_⟩
            iterate 3 (refine wpX_quiet rfl (by kernel_rfl) rfl ?_; go_wp2; refine ⟨rfl, ?_⟩)
            refine wpX_quiet rfl (by kernel_rfl) rfl ?_; go_wp2_with (first | (refine wpList_load_row_g _ rfl (ad.add ((m + 1) * 2)) rfl ci agg_Id HL.out HC1.out ?_) | fail); refine ⟨rfl, ?_⟩
            refine wpX_actor rfl (by kernel_rfl) ?_; go_wp2_with fail
            refine (l8Less_any y x cp ci _ (HRP.out.below (below_drewL HB.out)) (HRC.out.below (below_drewL HB.out))).mono ?_; rintro e v2 ⟨rfl, hb⟩
            rw [HLT.out]
            have HB2 := Lib.hid hb; clear hb
            go_wp2
            refine ⟨Ext.of_below HB2.out, ?_⟩
            iterate 3 (refine wpX_quiet rfl (by kernel_rfl) rfl ?_; go_wp2; refine ⟨rfl, ?_⟩)
            refine wpX_nil ?_; simp only [List.drop_succ_cons, List.drop_zero]
            go_wp2
            exact ⟨⟨m + 1 + 1, by omega, by go_num, HSU.out HOK.out (fun z _ hz => by rw [Nat.add_sub_cancel, HY.out] at hz; injection hz with hz; subst hz; exact HLT.out), (BW.out.trans ((below_drewL HB.out).mono BW.out.size)).trans (HB2.out.mono (Nat.le_trans BW.out.size HB.out.size))⟩, by simp only [intOf]; omega⟩
    · have hjn : j = n := by omega
      subst hjn
      have HF := Lib.hid (idsOkB_yes (by have := HG.out; rw [HN.out] at this; exact this))
      go_wp2
      go_ret
      exact ⟨ret_eq (by rw [HF.out]; rfl), BW.out⟩


set_option maxRecDepth 100000 in
set_option maxHeartbeats 1000000 in
theorem compareIds_any (x y : IdD) (cs cs' : List Value) (w : World) (h : Rep anyB w x.c cs) (h' : Rep anyB w y.c cs') :
    Calls Tryz.prog 37 #[.agg cs.toArray, .agg cs'.toArray] w fun e w' => e = .returned (.int .i64 (idCmp x y)) ∧ Below w.heap.size w w' := by
  obtain rfl := IdD.open h
  obtain rfl := IdD.open h'
  clear h h'
  obtain ⟨xr, xs⟩ := x
  obtain ⟨yr, ys⟩ := y
  have hid : idLt ⟨xr, xs⟩ ⟨yr, ys⟩ = decide (xr < yr ∨ xr = yr ∧ xs < ys) := rfl
  have HI := Lib.hid hid; clear hid
  simp only []
  by_cases h1 : xr < yr
  · have HR := Lib.hid (show idCmp ⟨xr, xs⟩ ⟨yr, ys⟩ = -1 by rw [idCmp, if_pos (by rw [HI.out]; simp [h1])])
    go_enter Tryz.func37, Tryz.ntmps37
    go_wp2
    go_ret
    exact ⟨ret_eq (by rw [HR.out]; rfl), (by repeat' (first | with_reducible exact Below.refl _ _ | with_reducible exact BW.out | with_reducible refine Below.setCell ?_ ?_ _ | with_reducible refine Below.alloc ?_ ?_ _ | with_reducible refine Below.drew ?_ | (simp; done) | (simp; omega) | omega))⟩
  · by_cases h2 : xr = yr
    · subst h2
      clear h1
      by_cases h3 : xs < ys
      · have HR := Lib.hid (show idCmp ⟨xr, xs⟩ ⟨xr, ys⟩ = -1 by rw [idCmp, if_pos (by rw [HI.out]; simp [h3])])
        go_enter Tryz.func37, Tryz.ntmps37
        go_wp2
        go_ret
        exact ⟨ret_eq (by rw [HR.out]; rfl), (by repeat' (first | with_reducible exact Below.refl _ _ | with_reducible exact BW.out | with_reducible refine Below.setCell ?_ ?_ _ | with_reducible refine Below.alloc ?_ ?_ _ | with_reducible refine Below.drew ?_ | (simp; done) | (simp; omega) | omega))⟩
      · by_cases h4 : xs = ys
        · subst h4
          have HR := Lib.hid (show idCmp ⟨xr, xs⟩ ⟨xr, xs⟩ = 0 by rw [idCmp, if_neg (by rw [HI.out]; simp), if_pos rfl])
          clear h3
          go_enter Tryz.func37, Tryz.ntmps37
          go_wp2
          go_ret
          exact ⟨ret_eq (by rw [HR.out]; rfl), (by repeat' (first | with_reducible exact Below.refl _ _ | with_reducible exact BW.out | with_reducible refine Below.setCell ?_ ?_ _ | with_reducible refine Below.alloc ?_ ?_ _ | with_reducible refine Below.drew ?_ | (simp; done) | (simp; omega) | omega))⟩
        · have HR := Lib.hid (show idCmp ⟨xr, xs⟩ ⟨xr, ys⟩ = 1 by rw [idCmp, if_neg (by rw [HI.out]; simp; omega), if_neg (by simp [h4])])
          have h5 : (xs == ys) = false := by simpa using h4
          clear h4
          go_enter Tryz.func37, Tryz.ntmps37
          go_wp2
          go_ret
          exact ⟨ret_eq (by rw [HR.out]; rfl), (by repeat' (first | with_reducible exact Below.refl _ _ | with_reducible exact BW.out | with_reducible refine Below.setCell ?_ ?_ _ | with_reducible refine Below.alloc ?_ ?_ _ | with_reducible refine Below.drew ?_ | (simp; done) | (simp; omega) | omega))⟩
    · have HR := Lib.hid (show idCmp ⟨xr, xs⟩ ⟨yr, ys⟩ = 1 by rw [idCmp, if_neg (by rw [HI.out]; simp; omega), if_neg (by simp [h2])])
      have h3 : (xr == yr) = false := by simpa using h2
      clear h2
      go_enter Tryz.func37, Tryz.ntmps37
      go_wp2
      go_ret
      exact ⟨ret_eq (by rw [HR.out]; rfl), (by repeat' (first | with_reducible exact Below.refl _ _ | with_reducible exact BW.out | with_reducible refine Below.setCell ?_ ?_ _ | with_reducible refine Below.alloc ?_ ?_ _ | with_reducible refine Below.drew ?_ | (simp; done) | (simp; omega) | omega))⟩
theorem idCmp_yes {a b : IdD} (h : idLt a b = true) : idCmp a b = -1 := by rw [idCmp, if_pos h]
theorem idCmp_no {a b : IdD} (h : idLt a b = false) : 0 ≤ idCmp a b := by
  rw [idCmp, if_neg (by simp [h])]
  split <;> omega

set_option maxRecDepth 100000 in
set_option maxHeartbeats 4000000 in
theorem iIdsOk_any (xs : List IdD) (A : Option Addr) (n c : Nat) (w : World) (hn : n = xs.length) (hwt : n + (cat IdD.c xs).wt ≤ 1048576) (h : Rep anyB w (.sl 26 2 n (cat IdD.c xs) .nil) [.slice A n c]) :
    Calls Tryz.prog 39 #[.slice A n c] w fun e w' => e = .returned (.bool (idsOkB xs)) ∧ Below w.heap.size w w' := by
  have hnb : n ≤ 1048576 := by omega
  have HN := Lib.hid hn; clear hn hwt
  have HR := Lib.hid h; clear h
  go_enter Tryz.func39, Tryz.ntmps39
  go_wp2
  go_loopw [7] (fun ii wr => ∃ j : Nat, j ≤ n ∧ ii = .int .i64 (j : Int) ∧ idsGood xs j ∧ Below w.heap.size w wr) (fun ii _ => n - (intOf ii).toNat)
  case atStart => exact ⟨0, Nat.zero_le _, rfl, idsGood_zero _, Below.refl _ _⟩
  case round =>
    obtain ⟨j, hj, rfl, hgood, hbel⟩ := hrel
    have HG := Lib.hid hgood; clear hgood
    have BW := Lib.hid hbel; clear hbel
    by_cases hlt : j < n
    · have hjx : j < xs.length := by have := HN.out; omega
      obtain ⟨ad, ci, rfl, _, _, hrc, hl, hc⟩ := (HR.out.below BW.out).elem IdD.width j hjx HN.out
      have hno1 := fun h => idsOkB_no1 hjx h
      have hsucc := fun h1 h2 => idsGood_succ HG.out hjx h1 h2
      have hno2 : ∀ m, (hm : j = m + 1) → idLt (xs[m]'(by omega)) xs[j] = false → idsOkB xs = false := fun m hm h => by subst hm; exact idsOkB_no2 hjx h
      have HNO1 := Lib.hid hno1; clear hno1
      have HSU := Lib.hid hsucc; clear hsucc
      have HNO2 := Lib.hid hno2; clear hno2
      generalize xs[j] = x at *
      have HL := Lib.hid hl; clear hl
      have HC := Lib.hid hc; clear hc
      have HRC := Lib.hid hrc; clear hrc
      go_wp2_with (first | ((with_reducible show wpList _ _ _ ({ dst := _, op := Op.load 26 _, type := _, pos := _, after := _, guard := _ } :: _) _ _); refine wpList_load_row _ (ad.add (j * 2)) rfl ci agg_Id HL.out HC.out ?_) | ((with_reducible show wpList _ _ _ ({ dst := _, op := Op.store 26 _ _, type := _, pos := _, after := _, guard := _ } :: _) _ _); refine wpList_store_row _ (World.heap wr).size 26 0 ci [] [.int .i64 0, .int .i64 0] [] _ rfl rfl (HL.out ▸ agg_Id) (blk_new wr _ _) rfl rfl HL.out.symm HRC.out.one ?_; intro v0 hsb hsg) | fail)
      have hb : Below (World.heap wr).size wr v0 := Below.grown (Below.alloc (Below.refl _ _) (Nat.le_refl _) _) hsg (by simp) (fun k hk => by injection hk with hk; omega)
      have hsb2 : Blk v0 (World.heap wr).size 26 ci.toArray := by simpa using hsb
      have XB := Lib.hid hsb2; clear hsb hsb2 hsg
      have B0 := Lib.hid (BW.out.trans (hb.mono BW.out.size))
      have HRC0 := Lib.hid (HRC.out.below hb)
      have HB0 := Lib.hid hb; clear hb
      cases hok : idOkB x with
      | false =>
        have HF := Lib.hid (HNO1.out hok)
        have HOK := Lib.hid hok; clear hok
        refine wp_region_x 17 [0, 1, 2, 3, 4, 5, 6, 7, 8, 9, 10, 11, 12, 13, 14, 15, 16] (by kernel_rfl) (by kernel_rfl) ?_
        refine wpX_quiet rfl (by kernel_rfl) rfl ?_; go_wp2_with (first | (refine wpList_load_row _ ⟨wr.heap.size, 0, none⟩ rfl ci agg_Id HL.out (blk_cells XB.out.drew) ?_) | fail); refine ⟨rfl, ?_⟩
        refine wpX_actor rfl (by kernel_rfl) ?_; go_wp2_with fail
        refine (idOk_any x ci _ HRC0.out.drew).mono ?_; rintro e v1 ⟨rfl, hb⟩
        rw [HOK.out]
        have HB := Lib.hid hb; clear hb
        go_wp2
        refine ⟨Ext.of_below HB.out, ?_⟩
        iterate 2 (refine wpX_quiet rfl (by kernel_rfl) rfl ?_; go_wp2; refine ⟨rfl, ?_⟩)
        (iterate 6 (refine wpX_skip2 rfl rfl (by kernel_rfl) ?_)); simp only [List.setIfInBounds_toArray, List.set_cons_succ, List.set_cons_zero]; (iterate 6 (refine wpX_skip2 rfl rfl (by kernel_rfl) ?_)); simp only [List.setIfInBounds_toArray, List.set_cons_succ, List.set_cons_zero]
        iterate 1 (refine wpX_quiet rfl (by kernel_rfl) rfl ?_; go_wp2; refine ⟨rfl, ?_⟩)
        refine wpX_nil ?_; simp only [List.drop_succ_cons, List.drop_zero]
        go_wp2
        go_ret
        exact ⟨ret_eq (by rw [HF.out]; rfl), B0.out.trans ((below_drewL HB.out).mono B0.out.size)⟩
      | true =>
        have HOK := Lib.hid hok; clear hok
        cases j with
        | zero =>
          refine wp_region_x 17 [0, 1, 2, 3, 4, 5, 6, 7, 8, 9, 10, 11, 12, 13, 14, 15, 16] (by kernel_rfl) (by kernel_rfl) ?_
          refine wpX_quiet rfl (by kernel_rfl) rfl ?_; go_wp2_with (first | (refine wpList_load_row _ ⟨wr.heap.size, 0, none⟩ rfl ci agg_Id HL.out (blk_cells XB.out.drew) ?_) | fail); refine ⟨rfl, ?_⟩
          refine wpX_actor rfl (by kernel_rfl) ?_; go_wp2_with fail
          refine (idOk_any x ci _ HRC0.out.drew).mono ?_; rintro e v1 ⟨rfl, hb⟩
          rw [HOK.out]
          have HB := Lib.hid hb; clear hb
          go_wp2
          refine ⟨Ext.of_below HB.out, ?_⟩
          iterate 5 (refine wpX_quiet rfl (by kernel_rfl) rfl ?_; go_wp2; refine ⟨rfl, ?_⟩)
          (iterate 6 (refine wpX_skip2 rfl rfl (by kernel_rfl) ?_)); simp only [List.setIfInBounds_toArray, List.set_cons_succ, List.set_cons_zero]; (iterate 2 (refine wpX_skip2 rfl rfl (by kernel_rfl) ?_)); simp only [List.setIfInBounds_toArray, List.set_cons_succ, List.set_cons_zero]
          iterate 2 (refine wpX_quiet rfl (by kernel_rfl) rfl ?_; go_wp2; refine ⟨rfl, ?_⟩)
          refine wpX_nil ?_; simp only [List.drop_succ_cons, List.drop_zero]
          go_wp2
          exact ⟨⟨1, by omega, by go_num, HSU.out HOK.out (fun _ h => absurd rfl h), B0.out.trans ((below_drewL HB.out).mono B0.out.size)⟩, by simp only [intOf]; omega⟩
        | succ m =>
          have hmx : m < xs.length := by omega
          obtain ⟨ad', cp, he, _, _, hrc, hl, hc⟩ := (HR.out.below BW.out).elem IdD.width m hmx HN.out
          injection he with he
          subst he
          have hno2 := HNO2.out m rfl
          have HY := Lib.hid (show xs[m]? = some xs[m] from List.getElem?_eq_getElem hmx)
          generalize xs[m] = y at *
          have HLP := Lib.hid hl; clear hl
          have HCP := Lib.hid (cells_below hc HB0.out); clear hc
          have HRP := Lib.hid (hrc.below HB0.out); clear hrc
          have HNO := Lib.hid hno2; clear hno2
          cases hlt2 : idLt y x with
          | false =>
            have HF := Lib.hid (HNO.out hlt2)
            have hq := idCmp_no hlt2
            clear hlt2
            refine wp_region_x 17 [0, 1, 2, 3, 4, 5, 6, 7, 8, 9, 10, 11, 12, 13, 14, 15, 16] (by kernel_rfl) (by kernel_rfl) ?_
            refine wpX_quiet rfl (by kernel_rfl) rfl ?_; go_wp2_with (first | (refine wpList_load_row _ ⟨wr.heap.size, 0, none⟩ rfl ci agg_Id HL.out (blk_cells XB.out.drew) ?_) | fail); refine ⟨rfl, ?_⟩
            refine wpX_actor rfl (by kernel_rfl) ?_; go_wp2_with fail
            refine (idOk_any x ci _ HRC0.out.drew).mono ?_; rintro e v1 ⟨rfl, hb⟩
            rw [HOK.out]
            have HB := Lib.hid hb; clear hb
            have HC2 := Lib.hid (cells_below HCP.out (below_drewL HB.out))
            have XB1 := Lib.hid (XB.out.below (below_drewL HB.out))
            go_wp2
            refine ⟨Ext.of_below HB.out, ?_⟩
            iterate 9 (refine wpX_quiet rfl (by kernel_rfl) rfl ?_; go_wp2; refine ⟨rfl, ?_⟩)
            refine wpX_quiet rfl (by kernel_rfl) rfl ?_; go_wp2_with (first | (refine wpList_load_row_g _ rfl (ad.add (m * 2)) rfl cp agg_Id HLP.out HC2.out ?_) | fail); refine ⟨rfl, ?_⟩
            refine wpX_quiet rfl (by kernel_rfl) rfl ?_; go_wp2_with (first | (refine wpList_load_row_g _ rfl ⟨wr.heap.size, 0, none⟩ rfl ci agg_Id HL.out (blk_cells XB1.out) ?_) | fail); refine ⟨rfl, ?_⟩
            refine wpX_actor rfl (by kernel_rfl) ?_; go_wp2_with fail
            refine (compareIds_any y x cp ci _ (HRP.out.below (below_drewL HB.out)) (HRC0.out.below (below_drewL HB.out))).mono ?_; rintro e v2 ⟨rfl, hb⟩
            have HB2 := Lib.hid hb; clear hb
            generalize idCmp y x = q at *
            go_wp2
            refine ⟨Ext.of_below HB2.out, ?_⟩
            iterate 3 (refine wpX_quiet rfl (by kernel_rfl) rfl ?_; go_wp2; refine ⟨rfl, ?_⟩)
            refine wpX_nil ?_; simp only [List.drop_succ_cons, List.drop_zero]
            go_wp2
            go_ret
            exact ⟨ret_eq (by rw [HF.out]; rfl), (B0.out.trans ((below_drewL HB.out).mono B0.out.size)).trans (HB2.out.mono (Nat.le_trans B0.out.size HB.out.size))⟩
          | true =>
            have HLT := Lib.hid hlt2
            have HQ := Lib.hid (idCmp_yes hlt2); clear hlt2
            refine wp_region_x 17 [0, 1, 2, 3, 4, 5, 6, 7, 8, 9, 10, 11, 12, 13, 14, 15, 16] (by kernel_rfl) (by kernel_rfl) ?_
            refine wpX_quiet rfl (by kernel_rfl) rfl ?_; go_wp2_with (first | (refine wpList_load_row _ ⟨wr.heap.size, 0, none⟩ rfl ci agg_Id HL.out (blk_cells XB.out.drew) ?_) | fail); refine ⟨rfl, ?_⟩
            refine wpX_actor rfl (by kernel_rfl) ?_; go_wp2_with fail
            refine (idOk_any x ci _ HRC0.out.drew).mono ?_; rintro e v1 ⟨rfl, hb⟩
            rw [HOK.out]
            have HB := Lib.hid hb; clear hb
            have HC2 := Lib.hid (cells_below HCP.out (below_drewL HB.out))
            have XB1 := Lib.hid (XB.out.below (below_drewL HB.out))
            go_wp2
            refine ⟨Ext.of_below HB.out, ?_⟩
            iterate 9 (refine wpX_quiet rfl (by kernel_rfl) rfl ?_; go_wp2; refine ⟨rfl, ?_⟩)
            refine wpX_quiet rfl (by kernel_rfl) rfl ?_; go_wp2_with (first | (refine wpList_load_row_g _ rfl (ad.add (m * 2)) rfl cp agg_Id HLP.out HC2.out ?_) | fail); refine ⟨rfl, ?_⟩
            refine wpX_quiet rfl (by kernel_rfl) rfl ?_; go_wp2_with (first | (refine wpList_load_row_g _ rfl ⟨wr.heap.size, 0, none⟩ rfl ci agg_Id HL.out (blk_cells XB1.out) ?_) | fail); refine ⟨rfl, ?_⟩
            refine wpX_actor rfl (by kernel_rfl) ?_; go_wp2_with fail
            refine (compareIds_any y x cp ci _ (HRP.out.below (below_drewL HB.out)) (HRC0.out.below (below_drewL HB.out))).mono ?_; rintro e v2 ⟨rfl, hb⟩
            rw [HQ.out]
            have HB2 := Lib.hid hb; clear hb
            go_wp2
            refine ⟨Ext.of_below HB2.out, ?_⟩
            iterate 3 (refine wpX_quiet rfl (by kernel_rfl) rfl ?_; go_wp2; refine ⟨rfl, ?_⟩)
            refine wpX_nil ?_; simp only [List.drop_succ_cons, List.drop_zero]
            go_wp2
            exact ⟨⟨m + 1 + 1, by omega, by go_num, HSU.out HOK.out (fun z _ hz => by rw [Nat.add_sub_cancel, HY.out] at hz; injection hz with hz; subst hz; exact HLT.out), (B0.out.trans ((below_drewL HB.out).mono B0.out.size)).trans (HB2.out.mono (Nat.le_trans B0.out.size HB.out.size))⟩, by simp only [intOf]; omega⟩
    · have hjn : j = n := by omega
      subst hjn
      have HF := Lib.hid (idsOkB_yes (by have := HG.out; rw [HN.out] at this; exact this))
      go_wp2
      go_ret
      exact ⟨ret_eq (by rw [HF.out]; rfl), BW.out⟩

attribute [irreducible] idsOkB
end Go.Proofs.YtonaacdefidomaaGreat
namespace Go.Proofs.YtonaacdefidomaaGreat
open Go.RowKit

def hasB (xs : List IdD) (x : IdD) : Bool := xs.contains x
def idxB (xs : List IdD) (x : IdD) : Int := if hasB xs x = true then ((xs.findIdx (· == x) : Nat) : Int) else -1
theorem hasB_yes {xs : List IdD} {j : Nat} (hj : j < xs.length) : hasB xs xs[j] = true := by simp [hasB]
theorem hasB_no {xs : List IdD} {x : IdD} (h : ∀ i (hi : i < xs.length), ¬ xs[i] = x) : hasB xs x = false := by
  simp only [hasB, Bool.eq_false_iff, ne_eq, List.contains_iff_mem]
  intro hm
  obtain ⟨i, hi, rfl⟩ := List.getElem_of_mem hm
  exact h i hi rfl


set_option maxRecDepth 100000 in
set_option maxHeartbeats 2000000 in
theorem l8Has_any (xs : List IdD) (x : IdD) (A : Option Addr) (n c : Nat) (cs : List Value) (w : World) (hn : n = xs.length) (hwt : n ≤ 1048576) (h : Rep anyB w (.sl 26 2 n (cat IdD.c xs) .nil) [.slice A n c]) (h' : Rep anyB w x.c cs) :
    Calls Tryz.prog 54 #[.slice A n c, .agg cs.toArray] w fun e w' => (e = .returned (.bool (hasB xs x))) ∧ Below w.heap.size w w' := by
  have HN := Lib.hid hn; clear hn
  have HR := Lib.hid h; clear h
  obtain rfl := IdD.open h'
  clear h'
  obtain ⟨R, hR⟩ : ∃ R, R = hasB xs x := ⟨_, rfl⟩
  rw [← hR]
  have hno := @hasB_no xs x
  rw [← hR] at hno
  have HNO := Lib.hid hno; clear hno
  have hye : ∀ j (hj : j < xs.length), xs[j] = x → R = true := fun j hj h => by rw [hR, ← h]; exact hasB_yes hj
  have HYE := Lib.hid hye; clear hye hR
  obtain ⟨xr, xs'⟩ := x
  simp only [] at HNO HYE ⊢
  go_enter Tryz.func54, Tryz.ntmps54
  go_wp2
  have SB := Lib.hid (show Blk (w.alloc (.cells #[.int .i64 xr, .int .i64 xs'] 26)) w.heap.size 26 [.int .i64 xr, .int .i64 xs'].toArray from blk_new _ _ _)
  go_loopw [5] (fun ii wr => ∃ j : Nat, j ≤ n ∧ ii = .int .i64 (j : Int) ∧ (∀ i (hi : i < xs.length), i < j → ¬ xs[i] = ⟨xr, xs'⟩) ∧ Blk wr w.heap.size 26 [.int .i64 xr, .int .i64 xs'].toArray ∧ Below w.heap.size w wr) (fun ii _ => n - (intOf ii).toNat)
  case atStart => exact ⟨0, Nat.zero_le _, rfl, fun i hi h => absurd h (Nat.not_lt_zero _), SB.out, (by repeat' (first | with_reducible exact Below.refl _ _ | with_reducible exact BW.out | with_reducible refine Below.setCell ?_ ?_ _ | with_reducible refine Below.alloc ?_ ?_ _ | with_reducible refine Below.drew ?_ | (simp; done) | (simp; omega) | omega))⟩
  case round =>
    obtain ⟨j, hj, rfl, hall, hsb, hbel⟩ := hrel
    clear SB
    have SB := Lib.hid hsb; clear hsb
    have HA := Lib.hid hall; clear hall
    have BW := Lib.hid hbel; clear hbel
    by_cases hlt : j < n
    · have hjx : j < xs.length := by have := HN.out; omega
      obtain ⟨ad, ci, rfl, _, _, hrc, hl, hc⟩ := (HR.out.below BW.out).elem IdD.width j hjx HN.out
      obtain rfl := IdD.open hrc
      have hye := HYE.out j hjx
      have hst : ¬ xs[j] = ⟨xr, xs'⟩ → ∀ i (hi : i < xs.length), i < j + 1 → ¬ xs[i] = ⟨xr, xs'⟩ := fun hne i hi hij => by
        by_cases he : i = j
        · subst he; exact hne
        · exact HA.out i hi (by omega)
      have HST := Lib.hid hst
      have HY2 := Lib.hid hye
      clear hst hye hrc hl
      generalize xs[j] = y at *
      obtain ⟨yr, ys⟩ := y
      have HC := Lib.hid hc; clear hc
      by_cases heq : (⟨yr, ys⟩ : IdD) = ⟨xr, xs'⟩
      · have hRt := HY2.out heq
        injection heq with e1 e2
        subst e1 e2
        have HRT := Lib.hid hRt; clear hRt
        go_wp2
        refine wp_region_x 5 [0, 1, 2, 3, 4] (by kernel_rfl) (by kernel_rfl) ?_
        iterate 3 (refine wpX_quiet rfl (by kernel_rfl) rfl ?_; go_wp2; refine ⟨rfl, ?_⟩)
        refine wpX_quiet rfl (by kernel_rfl) rfl ?_; go_wp2_with (first | (refine wpList_load_row _ (ad.add (j * 2)) rfl [.int .i64 _, .int .i64 _] agg_Id rfl HC.out ?_) | fail); refine ⟨rfl, ?_⟩
        refine wpX_quiet rfl (by kernel_rfl) rfl ?_; go_wp2_with (first | (refine wpList_load_row _ ⟨w.heap.size, 0, none⟩ rfl [.int .i64 _, .int .i64 _] agg_Id rfl (blk_cells SB.out) ?_) | fail); refine ⟨rfl, ?_⟩

        refine wpX_nil ?_; simp only [List.drop_succ_cons, List.drop_zero]
        go_wp2
        go_ret
        exact ⟨ret_eq (by rw [HRT.out]; rfl), BW.out.drew⟩
      · have hS := HST.out heq
        have HS := Lib.hid hS; clear hS
        by_cases e1 : yr = xr
        · subst e1
          have e2 : (ys == xs') = false := by simp only [beq_eq_false_iff_ne]; intro h; exact heq (by rw [h])
          have e3 : (xs' == ys) = false := by simp only [beq_eq_false_iff_ne]; intro h; exact heq (by rw [h])
          clear heq
          go_wp2
          refine wp_region_x 5 [0, 1, 2, 3, 4] (by kernel_rfl) (by kernel_rfl) ?_
          iterate 3 (refine wpX_quiet rfl (by kernel_rfl) rfl ?_; go_wp2; refine ⟨rfl, ?_⟩)
          refine wpX_quiet rfl (by kernel_rfl) rfl ?_; go_wp2_with (first | (refine wpList_load_row _ (ad.add (j * 2)) rfl [.int .i64 _, .int .i64 _] agg_Id rfl HC.out ?_) | fail); refine ⟨rfl, ?_⟩
          refine wpX_quiet rfl (by kernel_rfl) rfl ?_; go_wp2_with (first | (refine wpList_load_row _ ⟨w.heap.size, 0, none⟩ rfl [.int .i64 _, .int .i64 _] agg_Id rfl (blk_cells SB.out) ?_) | fail); refine ⟨rfl, ?_⟩
          refine wpX_nil ?_; simp only [List.drop_succ_cons, List.drop_zero]
          go_wp2
          exact ⟨⟨j + 1, by omega, by go_num, HS.out, SB.out.drew, BW.out.drew⟩, by simp only [intOf]; omega⟩
        · have e2 : (yr == xr) = false := by simp only [beq_eq_false_iff_ne]; exact e1
          have e3 : (xr == yr) = false := by simp only [beq_eq_false_iff_ne]; exact fun h => e1 h.symm
          clear heq e1
          go_wp2
          refine wp_region_x 5 [0, 1, 2, 3, 4] (by kernel_rfl) (by kernel_rfl) ?_
          iterate 3 (refine wpX_quiet rfl (by kernel_rfl) rfl ?_; go_wp2; refine ⟨rfl, ?_⟩)
          refine wpX_quiet rfl (by kernel_rfl) rfl ?_; go_wp2_with (first | (refine wpList_load_row _ (ad.add (j * 2)) rfl [.int .i64 _, .int .i64 _] agg_Id rfl HC.out ?_) | fail); refine ⟨rfl, ?_⟩
          refine wpX_quiet rfl (by kernel_rfl) rfl ?_; go_wp2_with (first | (refine wpList_load_row _ ⟨w.heap.size, 0, none⟩ rfl [.int .i64 _, .int .i64 _] agg_Id rfl (blk_cells SB.out) ?_) | fail); refine ⟨rfl, ?_⟩
          refine wpX_nil ?_; simp only [List.drop_succ_cons, List.drop_zero]
          go_wp2
          exact ⟨⟨j + 1, by omega, by go_num, HS.out, SB.out.drew, BW.out.drew⟩, by simp only [intOf]; omega⟩
    · have hjn : j = n := by omega
      subst hjn
      have HF := Lib.hid (HNO.out (fun i hi => HA.out i hi (by have := HN.out; omega)))
      go_wp2
      go_ret
      exact ⟨ret_eq (by rw [HF.out]; rfl), BW.out⟩


set_option maxRecDepth 100000 in
set_option maxHeartbeats 2000000 in
theorem indexId_any (xs : List IdD) (x : IdD) (A : Option Addr) (n c : Nat) (cs : List Value) (w : World) (hn : n = xs.length) (hwt : n ≤ 1048576) (h : Rep anyB w (.sl 26 2 n (cat IdD.c xs) .nil) [.slice A n c]) (h' : Rep anyB w x.c cs) :
    Calls Tryz.prog 93 #[.slice A n c, .agg cs.toArray] w fun e w' => (∃ q : Int, e = .returned (.int .i64 q) ∧ decide (q ≥ 0) = hasB xs x ∧ (0 ≤ q ↔ hasB xs x = true)) ∧ Below w.heap.size w w' := by
  have HN := Lib.hid hn; clear hn
  have HR := Lib.hid h; clear h
  obtain rfl := IdD.open h'
  clear h'
  obtain ⟨R, hR⟩ : ∃ R, R = hasB xs x := ⟨_, rfl⟩
  rw [← hR]
  have hno := @hasB_no xs x
  rw [← hR] at hno
  have HNO := Lib.hid hno; clear hno
  have hye : ∀ j (hj : j < xs.length), xs[j] = x → R = true := fun j hj h => by rw [hR, ← h]; exact hasB_yes hj
  have HYE := Lib.hid hye; clear hye hR
  obtain ⟨xr, xs'⟩ := x
  simp only [] at HNO HYE ⊢
  go_enter Tryz.func93, Tryz.ntmps93
  go_wp2
  have SB := Lib.hid (show Blk (w.alloc (.cells #[.int .i64 xr, .int .i64 xs'] 26)) w.heap.size 26 [.int .i64 xr, .int .i64 xs'].toArray from blk_new _ _ _)
  go_loopw [8] (fun ii wr => ∃ j : Nat, j ≤ n ∧ ii = .int .i64 (j : Int) ∧ (∀ i (hi : i < xs.length), i < j → ¬ xs[i] = ⟨xr, xs'⟩) ∧ Blk wr w.heap.size 26 [.int .i64 xr, .int .i64 xs'].toArray ∧ Below w.heap.size w wr) (fun ii _ => n - (intOf ii).toNat)
  case atStart => exact ⟨0, Nat.zero_le _, rfl, fun i hi h => absurd h (Nat.not_lt_zero _), SB.out, (by repeat' (first | with_reducible exact Below.refl _ _ | with_reducible exact BW.out | with_reducible refine Below.setCell ?_ ?_ _ | with_reducible refine Below.alloc ?_ ?_ _ | with_reducible refine Below.drew ?_ | (simp; done) | (simp; omega) | omega))⟩
  case round =>
    obtain ⟨j, hj, rfl, hall, hsb, hbel⟩ := hrel
    clear SB
    have SB := Lib.hid hsb; clear hsb
    have HA := Lib.hid hall; clear hall
    have BW := Lib.hid hbel; clear hbel
    by_cases hlt : j < n
    · have hjx : j < xs.length := by have := HN.out; omega
      obtain ⟨ad, ci, rfl, _, _, hrc, hl, hc⟩ := (HR.out.below BW.out).elem IdD.width j hjx HN.out
      obtain rfl := IdD.open hrc
      have hye := HYE.out j hjx
      have hst : ¬ xs[j] = ⟨xr, xs'⟩ → ∀ i (hi : i < xs.length), i < j + 1 → ¬ xs[i] = ⟨xr, xs'⟩ := fun hne i hi hij => by
        by_cases he : i = j
        · subst he; exact hne
        · exact HA.out i hi (by omega)
      have HST := Lib.hid hst
      have HY2 := Lib.hid hye
      clear hst hye hrc hl
      generalize xs[j] = y at *
      obtain ⟨yr, ys⟩ := y
      have HC := Lib.hid hc; clear hc
      by_cases heq : (⟨yr, ys⟩ : IdD) = ⟨xr, xs'⟩
      · have hRt := HY2.out heq
        injection heq with e1 e2
        subst e1 e2
        have HRT := Lib.hid hRt; clear hRt
        go_wp2
        refine wp_region_x 5 [0, 1, 2, 3, 4] (by kernel_rfl) (by kernel_rfl) ?_
        refine wpX_quiet rfl (by kernel_rfl) rfl ?_; go_wp2_with (first | (refine wpList_load_row _ ⟨w.heap.size, 0, none⟩ rfl [.int .i64 _, .int .i64 _] agg_Id rfl (blk_cells SB.out) ?_) | fail); refine ⟨rfl, ?_⟩
        iterate 3 (refine wpX_quiet rfl (by kernel_rfl) rfl ?_; go_wp2; refine ⟨rfl, ?_⟩)
        refine wpX_quiet rfl (by kernel_rfl) rfl ?_; go_wp2_with (first | (refine wpList_load_row _ (ad.add (j * 2)) rfl [.int .i64 _, .int .i64 _] agg_Id rfl HC.out ?_) | fail); refine ⟨rfl, ?_⟩

        refine wpX_nil ?_; simp only [List.drop_succ_cons, List.drop_zero]
        go_wp2
        go_ret
        exact ⟨⟨_, rfl, by rw [HRT.out]; simp, by rw [HRT.out]; simp⟩, BW.out.drew⟩
      · have hS := HST.out heq
        have HS := Lib.hid hS; clear hS
        by_cases e1 : yr = xr
        · subst e1
          have e2 : (ys == xs') = false := by simp only [beq_eq_false_iff_ne]; intro h; exact heq (by rw [h])
          have e3 : (xs' == ys) = false := by simp only [beq_eq_false_iff_ne]; intro h; exact heq (by rw [h])
          clear heq
          go_wp2
          refine wp_region_x 5 [0, 1, 2, 3, 4] (by kernel_rfl) (by kernel_rfl) ?_
          refine wpX_quiet rfl (by kernel_rfl) rfl ?_; go_wp2_with (first | (refine wpList_load_row _ ⟨w.heap.size, 0, none⟩ rfl [.int .i64 _, .int .i64 _] agg_Id rfl (blk_cells SB.out) ?_) | fail); refine ⟨rfl, ?_⟩
          iterate 3 (refine wpX_quiet rfl (by kernel_rfl) rfl ?_; go_wp2; refine ⟨rfl, ?_⟩)
          refine wpX_quiet rfl (by kernel_rfl) rfl ?_; go_wp2_with (first | (refine wpList_load_row _ (ad.add (j * 2)) rfl [.int .i64 _, .int .i64 _] agg_Id rfl HC.out ?_) | fail); refine ⟨rfl, ?_⟩
          refine wpX_nil ?_; simp only [List.drop_succ_cons, List.drop_zero]
          go_wp2
          exact ⟨⟨j + 1, by omega, by go_num, HS.out, SB.out.drew, BW.out.drew⟩, by simp only [intOf]; omega⟩
        · have e2 : (yr == xr) = false := by simp only [beq_eq_false_iff_ne]; exact e1
          have e3 : (xr == yr) = false := by simp only [beq_eq_false_iff_ne]; exact fun h => e1 h.symm
          clear heq e1
          go_wp2
          refine wp_region_x 5 [0, 1, 2, 3, 4] (by kernel_rfl) (by kernel_rfl) ?_
          refine wpX_quiet rfl (by kernel_rfl) rfl ?_; go_wp2_with (first | (refine wpList_load_row _ ⟨w.heap.size, 0, none⟩ rfl [.int .i64 _, .int .i64 _] agg_Id rfl (blk_cells SB.out) ?_) | fail); refine ⟨rfl, ?_⟩
          iterate 3 (refine wpX_quiet rfl (by kernel_rfl) rfl ?_; go_wp2; refine ⟨rfl, ?_⟩)
          refine wpX_quiet rfl (by kernel_rfl) rfl ?_; go_wp2_with (first | (refine wpList_load_row _ (ad.add (j * 2)) rfl [.int .i64 _, .int .i64 _] agg_Id rfl HC.out ?_) | fail); refine ⟨rfl, ?_⟩
          refine wpX_nil ?_; simp only [List.drop_succ_cons, List.drop_zero]
          go_wp2
          exact ⟨⟨j + 1, by omega, by go_num, HS.out, SB.out.drew, BW.out.drew⟩, by simp only [intOf]; omega⟩
    · have hjn : j = n := by omega
      subst hjn
      have HF := Lib.hid (HNO.out (fun i hi => HA.out i hi (by have := HN.out; omega)))
      go_wp2
      go_ret
      exact ⟨⟨_, rfl, by rw [HF.out]; simp, by rw [HF.out]; simp⟩, BW.out⟩


set_option maxRecDepth 100000 in
set_option maxHeartbeats 1000000 in
theorem containsId_any (xs : List IdD) (x : IdD) (A : Option Addr) (n c : Nat) (cs : List Value) (w : World) (hn : n = xs.length) (hwt : n ≤ 1048576) (h : Rep anyB w (.sl 26 2 n (cat IdD.c xs) .nil) [.slice A n c]) (h' : Rep anyB w x.c cs) :
    Calls Tryz.prog 68 #[.slice A n c, .agg cs.toArray] w fun e w' => e = .returned (.bool (hasB xs x)) ∧ Below w.heap.size w w' := by
  have hr := h'
  obtain rfl := IdD.open h'
  have H := Lib.hid h; clear h
  have HR := Lib.hid hr; clear hr h'
  have HN := Lib.hid hn; clear hn
  go_enter Tryz.func68, Tryz.ntmps68
  go_wp2_with fail
  refine (indexId_any xs x A n c _ _ HN.out hwt (H.out.below (by repeat' (first | with_reducible exact Below.refl _ _ | with_reducible exact BW.out | with_reducible refine Below.setCell ?_ ?_ _ | with_reducible refine Below.alloc ?_ ?_ _ | with_reducible refine Below.drew ?_ | (simp; done) | (simp; omega) | omega))) (HR.out.below (by repeat' (first | with_reducible exact Below.refl _ _ | with_reducible exact BW.out | with_reducible refine Below.setCell ?_ ?_ _ | with_reducible refine Below.alloc ?_ ?_ _ | with_reducible refine Below.drew ?_ | (simp; done) | (simp; omega) | omega)))).mono ?_; rintro e w1 ⟨⟨q, rfl, hq, _⟩, hb⟩
  have HQ := Lib.hid hq; clear hq
  have BW := Lib.hid (show Below w.heap.size w w1 from Below.trans (by repeat' (first | with_reducible exact Below.refl _ _ | with_reducible exact BW.out | with_reducible refine Below.setCell ?_ ?_ _ | with_reducible refine Below.alloc ?_ ?_ _ | with_reducible refine Below.drew ?_ | (simp; done) | (simp; omega) | omega)) (hb.mono (by first | (simp; done) | (simp; omega) | omega))); clear hb
  go_wp2
  go_ret
  exact ⟨ret_eq (by rw [← HQ.out]; rfl), BW.out⟩


















































































































































































attribute [irreducible] hasB

end Go.Proofs.YtonaacdefidomaaGreat
namespace Go.Proofs.YtonaacdefidomaaGreat
open Go.RowKit
theorem bodyPost_cell2 {P : Program} {fn : Func} {R : Ending → World → Prop} {a : Act} {w : World} {s s2 : Tmp} {t n : Nat} (hres : fn.results = #[.cell s t, .tmp s2]) (p : Addr) (hp : a.tmps.getD s undef = .pointer (some p)) (cs : List Value) (u : Value) (hu : a.tmps.getD s2 undef = u) (h : Agg P t n) (hl : cs.length = n)
    (hc : ∀ j v, cs[j]? = some v → w.cell? (p.add j) = some v) (hd : a.defers = []) (hR : R (.returned (.tuple #[.agg cs.toArray, u])) w) : bodyPost P fn R .ret a w := by
  refine bodyPost_ret (v := .tuple #[.agg cs.toArray, u]) ?_ hd hR
  unfold results
  rw [hres]
  have hp2 : a.tmps[s]?.getD undef = .pointer (some p) := by simpa using hp
  have hu2 : a.tmps[s2]?.getD undef = u := by simpa using hu
  simp [hp2, hu2, asAddr, loadVar, (hl ▸ h : Agg P t cs.length).isAgg, (hl ▸ h : Agg P t cs.length).size, run_loadCells_list (P := P) (w := w) p cs hc, Result.andThen]
end Go.Proofs.YtonaacdefidomaaGreat
namespace Go.Proofs.YtonaacdefidomaaGreat
open Go.RowKit
theorem Own.sl_none {w : World} {base e sz : Nat} (i : Cs) (hi : i = .nil) : Own w base (.sl e sz 0 i .nil) [.slice none 0 0] [] := by
  subst hi
  exact Own.sl1.2 ⟨[], [], rfl, by simp [Cs.width], ⟨by simp, .inl ⟨rfl, rfl⟩⟩, Own.nil.2 ⟨rfl, rfl⟩⟩

















































































end Go.Proofs.YtonaacdefidomaaGreat
namespace Go.Proofs.YtonaacdefidomaaGreat
open Go.RowKit




noncomputable def instOkB (x : InstD) : Bool := idOkB x.id && (inB (-1) 600 x.bal && (inB (-1) x.bal x.vbal && (inB 0 3 x.status && (cmdOkB x.cmd && (inB 0 60 x.seq && (idsOkB x.deps && (!hasB x.deps x.id && (x.status != 0 || (x.vbal == -1 && (x.cmd.kind == 0 && (x.seq == 0 && ((x.deps.length : Int) == 0 && !x.same))))))))))))


































end Go.Proofs.YtonaacdefidomaaGreat
namespace Go.Proofs.YtonaacdefidomaaGreat
open Go.RowKit
def Cs.flat : Cs → Bool
  | .nil => true
  | .int _ r => r.flat
  | .bool _ r => r.flat
  | .str _ r => r.flat
  | .sl _ _ _ _ _ => false
theorem Cs.flat_app {b : Cs} : ∀ {a : Cs}, a.flat = true → b.flat = true → (a.app b).flat = true
  | .nil, _, h => h
  | .int _ r, h, k => Cs.flat_app (a := r) h k
  | .bool _ r, h, k => Cs.flat_app (a := r) h k
  | .str _ r, h, k => Cs.flat_app (a := r) h k
  | .sl _ _ _ _ _, h, _ => by cases h
theorem cat_flat {α : Type} {f : α → Cs} (h : ∀ x, (f x).flat = true) : ∀ xs : List α, (cat f xs).flat = true
  | [] => rfl
  | x :: xs => Cs.flat_app (h x) (cat_flat h xs)
theorem Rep.own {B : Nat → Prop} {w w' : World} {base : Nat} : ∀ {d : Cs} {cs : List Value}, d.flat = true → Rep B w d cs → Own w' base d cs []
  | .nil, _, _, h => by simp only [Rep] at h; subst h; exact Own.nil.2 ⟨rfl, rfl⟩
  | .int _ r, _, hf, h => by simp only [Rep] at h; obtain ⟨c', rfl, h⟩ := h; exact Own.int.2 ⟨c', rfl, Rep.own (d := r) hf h⟩
  | .bool _ r, _, hf, h => by simp only [Rep] at h; obtain ⟨c', rfl, h⟩ := h; exact Own.bool.2 ⟨c', rfl, Rep.own (d := r) hf h⟩
  | .str _ r, _, hf, h => by simp only [Rep] at h; obtain ⟨c', rfl, h⟩ := h; exact Own.str.2 ⟨c', rfl, Rep.own (d := r) hf h⟩
  | .sl _ _ _ _ _, _, hf, _ => by cases hf
theorem Rep.row {B : Nat → Prop} {w : World} {e sz n c : Nat} {i : Cs} {A : Option Addr} (h : Rep B w (.sl e sz n i .nil) [.slice A n c]) : ∃ cells, Reads w sz A n cells ∧ Rep B w i cells ∧ i.width = n * sz := by
  simp only [Rep] at h
  obtain ⟨A', c', cells, _, he, hw, hne, hL, _⟩ := h
  injection he with he _
  injection he with e1 e2 e3
  subst e1 e3
  refine ⟨cells, ⟨by rw [hL.length, hw], fun hn => ?_⟩, hL, hw⟩
  obtain ⟨ad, rfl, _, _, hc⟩ := hne (by omega)
  exact ⟨ad, rfl, hc⟩
/-- a row without slices, owned -/
theorem mine_row {w : World} {base e sz n m : Nat} {i : Cs} {v : Value} {cells : List Value} (hf : i.flat = true) {B : Nat → Prop} {w' : World} (hr : Rep B w' i cells) (hw : i.width = n * sz) (h : w.ownsRow base e sz v n cells) (hm : m = n) : Own w base (.sl e sz m i .nil) [v] v.ownBlock.toList := by
  subst hm
  exact Own.sl1.2 ⟨cells, [], (List.append_nil _).symm, hw, h, Rep.own hf hr⟩
theorem nodup_own (v : Value) : v.ownBlock.toList.Nodup := by cases v.ownBlock <;> simp
end Go.Proofs.YtonaacdefidomaaGreat
