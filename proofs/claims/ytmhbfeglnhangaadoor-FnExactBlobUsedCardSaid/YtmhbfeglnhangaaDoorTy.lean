/-
  The structs of the laws as data and as rows of cells; opened and shut. Conditions: none.
-/
import Derived.Test.YtmhbfeglnhangaaDoorRow
namespace Go.Proofs.YtmhbfeglnhangaaDoor
open Go.RowKit















































































































































































































structure BlobD where
  id : List UInt8
  data : List UInt8
  bad : Bool
  deriving DecidableEq
def BlobD.cs (x : BlobD) (r : Cs) : Cs := (.str x.id (.str x.data (.bool x.bad r)))
def BlobD.c (x : BlobD) : Cs := x.cs .nil
def BlobD.cnt (_ : BlobD) : Nat := 1 + 1 + 1
def BlobD.mkv (_ : BlobD) (k : Nat) : BlobD := ⟨markL (k), markL (k + 1), decide ((k + 1 + 1) % 3 = 0)⟩
def BlobD.cntT (_ : BlobD) : Nat := 0
def BlobD.mkT (x : BlobD) (_ : Nat) : BlobD := ⟨x.id, x.data, x.bad⟩
theorem BlobD.width (x : BlobD) : x.c.width = 3 := rfl


theorem E_Blob : Elem Tryd.prog 32 54 (.agg #[.string ⟨#[]⟩, .string ⟨#[]⟩, .bool false]) 3 40 := ⟨Tryd.underlying32, by kernel_rfl, rfl, by decide, by decide⟩


theorem agg_Blob : Agg Tryd.prog 54 3 := ⟨by kernel_rfl, by kernel_rfl⟩
theorem BlobD.open {B : Nat → Prop} {w : World} {x : BlobD} {cs : List Value} (h : Rep B w x.c cs) : cs = [.string (bs x.id), .string (bs x.data), .bool x.bad] := by
  have h0 : Rep B w x.c cs := h
  obtain ⟨c1, rfl, h1⟩ := Rep.str.1 h0
  obtain ⟨c2, rfl, h2⟩ := Rep.str.1 h1
  obtain ⟨c3, rfl, h3⟩ := Rep.bool.1 h2
  obtain rfl := Rep.nil.1 h3
  exact rfl
theorem BlobD.shut {B : Nat → Prop} {w : World} {x : BlobD} : Rep B w x.c [.string (bs x.id), .string (bs x.data), .bool x.bad] := by
  have z : Rep B w .nil [] := Rep.nil.2 rfl
  exact (Rep.str.2 ⟨_, rfl, (Rep.str.2 ⟨_, rfl, (Rep.bool.2 ⟨_, rfl, z⟩)⟩)⟩)
theorem BlobD.openO {w : World} {base : Nat} {x : BlobD} {cs : List Value} {F : List Nat} (h : Own w base x.c cs F) : cs = [.string (bs x.id), .string (bs x.data), .bool x.bad] ∧ F = [] := by
  have h0 : Own w base x.c cs F := h
  obtain ⟨c1, rfl, h1⟩ := Own.str.1 h0
  obtain ⟨c2, rfl, h2⟩ := Own.str.1 h1
  obtain ⟨c3, rfl, h3⟩ := Own.bool.1 h2
  obtain ⟨rfl, rfl⟩ := Own.nil.1 h3
  exact ⟨rfl, rfl⟩
theorem BlobD.shutO {w : World} {base : Nat} {x : BlobD} : Own w base x.c [.string (bs x.id), .string (bs x.data), .bool x.bad] ([]) := by
  have z : Own w base .nil [] [] := Own.nil.2 ⟨rfl, rfl⟩
  exact (Own.str.2 ⟨_, rfl, (Own.str.2 ⟨_, rfl, (Own.bool.2 ⟨_, rfl, z⟩)⟩)⟩)


theorem agg_lBlob : Agg Tryd.prog 68 3 := ⟨by kernel_rfl, by kernel_rfl⟩


structure BlobsD where
  quota : Int
  list : List BlobD
  deriving DecidableEq
def BlobsD.cs (x : BlobsD) (r : Cs) : Cs := (.int x.quota (.sl 54 3 x.list.length (cat BlobD.c x.list) r))
def BlobsD.c (x : BlobsD) : Cs := x.cs .nil
def BlobsD.cnt (x : BlobsD) : Nat := 1 + cts BlobD.cnt x.list
def BlobsD.mkv (x : BlobsD) (k : Nat) : BlobsD := ⟨((k : Nat) : Int), mks BlobD.mkv BlobD.cnt x.list (k + 1)⟩
def BlobsD.cntT (x : BlobsD) : Nat := cts BlobD.cnt x.list
def BlobsD.mkT (x : BlobsD) (k : Nat) : BlobsD := ⟨x.quota, mks BlobD.mkv BlobD.cnt x.list (k)⟩
theorem BlobsD.width (x : BlobsD) : x.c.width = 2 := rfl





theorem agg_Blobs : Agg Tryd.prog 34 2 := ⟨by kernel_rfl, by kernel_rfl⟩
theorem BlobsD.open {B : Nat → Prop} {w : World} {x : BlobsD} {cs : List Value} (h : Rep B w x.c cs) : ∃ A0 k0, cs = [.int .i64 x.quota, .slice A0 x.list.length k0] ∧ Rep B w (.sl 54 3 x.list.length (cat BlobD.c x.list) .nil) [.slice A0 x.list.length k0] := by
  have h0 : Rep B w x.c cs := h
  obtain ⟨c1, rfl, h1⟩ := Rep.int.1 h0
  obtain ⟨A0, k0, c2, rfl, s0, h2⟩ := Rep.sl.1 h1
  obtain rfl := Rep.nil.1 h2
  exact ⟨A0, k0, rfl, s0⟩
theorem BlobsD.shut {B : Nat → Prop} {w : World} {x : BlobsD} {v0 : Value} (s0 : Rep B w (.sl 54 3 x.list.length (cat BlobD.c x.list) .nil) [v0]) : Rep B w x.c [.int .i64 x.quota, v0] := by
  obtain ⟨A0, k0, q0, e0, s0, _⟩ := Rep.sl.1 s0
  injection e0 with e0 _
  subst e0
  have z : Rep B w .nil [] := Rep.nil.2 rfl
  exact (Rep.int.2 ⟨_, rfl, (Rep.sl.2 ⟨_, _, _, rfl, s0, z⟩)⟩)
theorem BlobsD.openO {w : World} {base : Nat} {x : BlobsD} {cs : List Value} {F : List Nat} (h : Own w base x.c cs F) : ∃ A0 k0 F0, cs = [.int .i64 x.quota, .slice A0 x.list.length k0] ∧ F = F0 ∧ Own w base (.sl 54 3 x.list.length (cat BlobD.c x.list) .nil) [.slice A0 x.list.length k0] F0 := by
  have h0 : Own w base x.c cs F := h
  obtain ⟨c1, rfl, h1⟩ := Own.int.1 h0
  obtain ⟨A0, k0, c2, F0, G0, rfl, rfl, s0, h2⟩ := Own.sl.1 h1
  obtain ⟨rfl, rfl⟩ := Own.nil.1 h2
  exact ⟨A0, k0, F0, rfl, by simp only [List.append_nil], s0⟩
theorem BlobsD.shutO {w : World} {base : Nat} {x : BlobsD} {v0 : Value} {F0 : List Nat} (s0 : Own w base (.sl 54 3 x.list.length (cat BlobD.c x.list) .nil) [v0] F0) : Own w base x.c [.int .i64 x.quota, v0] (F0) := by
  obtain ⟨A0, k0, q0, X0, Y0, e0, f0, s0, g0⟩ := Own.sl.1 s0
  injection e0 with e0 p0
  subst e0
  subst p0
  obtain ⟨_, rfl⟩ := Own.nil.1 g0
  rw [List.append_nil] at f0
  subst f0
  have z : Own w base .nil [] [] := Own.nil.2 ⟨rfl, rfl⟩
  have hh := (show Own w base x.c [.int .i64 x.quota, .slice A0 _ k0] (_) from (Own.int.2 ⟨_, rfl, (Own.sl.2 ⟨_, _, _, _, _, rfl, rfl, s0, z⟩)⟩))
  simp only [List.append_nil] at hh
  exact hh


theorem agg_lBlobs : Agg Tryd.prog 29 2 := ⟨by kernel_rfl, by kernel_rfl⟩



























































































































































































































































































































































































































end Go.Proofs.YtmhbfeglnhangaaDoor
