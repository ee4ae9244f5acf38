/-
  No cell of these rows narrows 'for every input' (looked for: loops, veiled, ifaces, maps, wideKeys, modest, calm, conditions, laid).
  DERIVED. THE GIVEN ROWS OF THIS SEAT. 12 by the template 'for every input the law returns true; each argument reads behind the call as it read before'; 0 by the template 'total and deterministic' (their statements: YtifdkjddiohahaaTotals.lean).
  GIVEN WITH THE SEED: the statements are not yours to turn. If you find one false, say at which input.
  Laid BY PROGRAM, IN A SANDBOX (cutbox-rows.mjs): the forced cells as the released guide's own fill.sh prints them over the translation 5d8eeb96ad641a89… (all of the seat's roots in one cut). By AI agents, Wed Nov 11 2026. No macro, syntax, notation, axiom, sorry.
-/
import Derived.Test.YtifdkjddiohahaaChecked
import GoSem.Claim
import GoSem.ClaimJoined
import GoSem.ClaimMapViews
import Derived.JoinedTies
import Derived.KernelRfl
namespace Go.Proofs.Ytifdkjddiohahaa
/- THE CELL 'sum', in the pinned program and in every row, IS THE sha256 OF THE DUMP (.gsa) THAT YtifdkjddiohahaaProg.lean LOADS. Nothing in Lean hashes anything: it is a label: what it is worth is what the hold of that sum in a sandbox is worth. -/
noncomputable def Try.pinned : Pinned := { name := "ytifdkjddiohahaa", sum := "5d8eeb96ad641a89df476940ee8337aee47fb076cb5d19d3d38a71a47a2aeb89", checked := Try.checked }
namespace Rows
def none {H : Type} : Left H := { results := [], args := [] }

/-- 'laws.FnExactSameCmd': WHATEVER THE INPUT: true; the input reads as it did. -/
def fnExactSameCmdSpec : ChangeSpec := { name := "fnExactSameCmd", fn := fun _ => fun
  | [d1, d2] => { results := [.lit (.bool true)], args := [d1, d2] }
  | _ => none }
def fnExactSameCmdRow : OpenClaim := { program := "ytifdkjddiohahaa", sum := "5d8eeb96ad641a89df476940ee8337aee47fb076cb5d19d3d38a71a47a2aeb89", func := "loop.example/g00954/laws.FnExactSameCmd", spec := "fnExactSameCmd", apart := false }
def FnExactSameCmdSaid : Prop := fnExactSameCmdRow.holds Try.pinned (OpenSpec.ofChange fnExactSameCmdSpec)

/-- ITS FALSE NEIGHBOUR: 'it returns false'. Refute it at one input. -/
def fnExactSameCmdWrong : ChangeSpec := { name := "fnExactSameCmd", fn := fun _ => fun
  | [d1, d2] => { results := [.lit (.bool false)], args := [d1, d2] }
  | _ => none }
def FnExactSameCmdWrongFalsely : Prop := fnExactSameCmdRow.holds Try.pinned (OpenSpec.ofChange fnExactSameCmdWrong)

/-- 'laws.FnExactCmdOk': WHATEVER THE INPUT: true; the input reads as it did. -/
def fnExactCmdOkSpec : ChangeSpec := { name := "fnExactCmdOk", fn := fun _ => fun
  | [d] => { results := [.lit (.bool true)], args := [d] }
  | _ => none }
def fnExactCmdOkRow : OpenClaim := { program := "ytifdkjddiohahaa", sum := "5d8eeb96ad641a89df476940ee8337aee47fb076cb5d19d3d38a71a47a2aeb89", func := "loop.example/g00954/laws.FnExactCmdOk", spec := "fnExactCmdOk", apart := false }
def FnExactCmdOkSaid : Prop := fnExactCmdOkRow.holds Try.pinned (OpenSpec.ofChange fnExactCmdOkSpec)

/-- ITS FALSE NEIGHBOUR: 'it returns false'. Refute it at one input. -/
def fnExactCmdOkWrong : ChangeSpec := { name := "fnExactCmdOk", fn := fun _ => fun
  | [d] => { results := [.lit (.bool false)], args := [d] }
  | _ => none }
def FnExactCmdOkWrongFalsely : Prop := fnExactCmdOkRow.holds Try.pinned (OpenSpec.ofChange fnExactCmdOkWrong)

/-- 'laws.FnExactClash': WHATEVER THE INPUT: true; the input reads as it did. -/
def fnExactClashSpec : ChangeSpec := { name := "fnExactClash", fn := fun _ => fun
  | [d1, d2] => { results := [.lit (.bool true)], args := [d1, d2] }
  | _ => none }
def fnExactClashRow : OpenClaim := { program := "ytifdkjddiohahaa", sum := "5d8eeb96ad641a89df476940ee8337aee47fb076cb5d19d3d38a71a47a2aeb89", func := "loop.example/g00954/laws.FnExactClash", spec := "fnExactClash", apart := false }
def FnExactClashSaid : Prop := fnExactClashRow.holds Try.pinned (OpenSpec.ofChange fnExactClashSpec)

/-- ITS FALSE NEIGHBOUR: 'it returns false'. Refute it at one input. -/
def fnExactClashWrong : ChangeSpec := { name := "fnExactClash", fn := fun _ => fun
  | [d1, d2] => { results := [.lit (.bool false)], args := [d1, d2] }
  | _ => none }
def FnExactClashWrongFalsely : Prop := fnExactClashRow.holds Try.pinned (OpenSpec.ofChange fnExactClashWrong)

/-- 'laws.FnExactShowCmd': WHATEVER THE INPUT: true; the input reads as it did. -/
def fnExactShowCmdSpec : ChangeSpec := { name := "fnExactShowCmd", fn := fun _ => fun
  | [d] => { results := [.lit (.bool true)], args := [d] }
  | _ => none }
def fnExactShowCmdRow : OpenClaim := { program := "ytifdkjddiohahaa", sum := "5d8eeb96ad641a89df476940ee8337aee47fb076cb5d19d3d38a71a47a2aeb89", func := "loop.example/g00954/laws.FnExactShowCmd", spec := "fnExactShowCmd", apart := false }
def FnExactShowCmdSaid : Prop := fnExactShowCmdRow.holds Try.pinned (OpenSpec.ofChange fnExactShowCmdSpec)

/-- ITS FALSE NEIGHBOUR: 'it returns false'. Refute it at one input. -/
def fnExactShowCmdWrong : ChangeSpec := { name := "fnExactShowCmd", fn := fun _ => fun
  | [d] => { results := [.lit (.bool false)], args := [d] }
  | _ => none }
def FnExactShowCmdWrongFalsely : Prop := fnExactShowCmdRow.holds Try.pinned (OpenSpec.ofChange fnExactShowCmdWrong)

/-- 'laws.FnExactReadCmd': WHATEVER THE INPUT: true; the input reads as it did. -/
def fnExactReadCmdSpec : ChangeSpec := { name := "fnExactReadCmd", fn := fun _ => fun
  | [d] => { results := [.lit (.bool true)], args := [d] }
  | _ => none }
def fnExactReadCmdRow : OpenClaim := { program := "ytifdkjddiohahaa", sum := "5d8eeb96ad641a89df476940ee8337aee47fb076cb5d19d3d38a71a47a2aeb89", func := "loop.example/g00954/laws.FnExactReadCmd", spec := "fnExactReadCmd", apart := false }
def FnExactReadCmdSaid : Prop := fnExactReadCmdRow.holds Try.pinned (OpenSpec.ofChange fnExactReadCmdSpec)

/-- ITS FALSE NEIGHBOUR: 'it returns false'. Refute it at one input. -/
def fnExactReadCmdWrong : ChangeSpec := { name := "fnExactReadCmd", fn := fun _ => fun
  | [d] => { results := [.lit (.bool false)], args := [d] }
  | _ => none }
def FnExactReadCmdWrongFalsely : Prop := fnExactReadCmdRow.holds Try.pinned (OpenSpec.ofChange fnExactReadCmdWrong)

/-- 'laws.FnExactIdsOk': WHATEVER THE INPUT: true; the input reads as it did. -/
def fnExactIdsOkSpec : ChangeSpec := { name := "fnExactIdsOk", fn := fun _ => fun
  | [d] => { results := [.lit (.bool true)], args := [d] }
  | _ => none }
def fnExactIdsOkRow : OpenClaim := { program := "ytifdkjddiohahaa", sum := "5d8eeb96ad641a89df476940ee8337aee47fb076cb5d19d3d38a71a47a2aeb89", func := "loop.example/g00954/laws.FnExactIdsOk", spec := "fnExactIdsOk", apart := false }
def FnExactIdsOkSaid : Prop := fnExactIdsOkRow.holds Try.pinned (OpenSpec.ofChange fnExactIdsOkSpec)

/-- ITS FALSE NEIGHBOUR: 'it returns false'. Refute it at one input. -/
def fnExactIdsOkWrong : ChangeSpec := { name := "fnExactIdsOk", fn := fun _ => fun
  | [d] => { results := [.lit (.bool false)], args := [d] }
  | _ => none }
def FnExactIdsOkWrongFalsely : Prop := fnExactIdsOkRow.holds Try.pinned (OpenSpec.ofChange fnExactIdsOkWrong)

/-- 'laws.FnExactLogNew': WHATEVER THE INPUT: true; the input reads as it did. -/
def fnExactLogNewSpec : ChangeSpec := { name := "fnExactLogNew", fn := fun _ => fun
  | [] => { results := [.lit (.bool true)], args := [] }
  | _ => none }
def fnExactLogNewRow : OpenClaim := { program := "ytifdkjddiohahaa", sum := "5d8eeb96ad641a89df476940ee8337aee47fb076cb5d19d3d38a71a47a2aeb89", func := "loop.example/g00954/laws.FnExactLogNew", spec := "fnExactLogNew", apart := false }
def FnExactLogNewSaid : Prop := fnExactLogNewRow.holds Try.pinned (OpenSpec.ofChange fnExactLogNewSpec)

/-- ITS FALSE NEIGHBOUR: 'it returns false'. Refute it at one input. -/
def fnExactLogNewWrong : ChangeSpec := { name := "fnExactLogNew", fn := fun _ => fun
  | [] => { results := [.lit (.bool false)], args := [] }
  | _ => none }
def FnExactLogNewWrongFalsely : Prop := fnExactLogNewRow.holds Try.pinned (OpenSpec.ofChange fnExactLogNewWrong)

/-- 'laws.FnExactLogOk': WHATEVER THE INPUT: true; the input reads as it did. -/
def fnExactLogOkSpec : ChangeSpec := { name := "fnExactLogOk", fn := fun _ => fun
  | [d] => { results := [.lit (.bool true)], args := [d] }
  | _ => none }
def fnExactLogOkRow : OpenClaim := { program := "ytifdkjddiohahaa", sum := "5d8eeb96ad641a89df476940ee8337aee47fb076cb5d19d3d38a71a47a2aeb89", func := "loop.example/g00954/laws.FnExactLogOk", spec := "fnExactLogOk", apart := false }
def FnExactLogOkSaid : Prop := fnExactLogOkRow.holds Try.pinned (OpenSpec.ofChange fnExactLogOkSpec)

/-- ITS FALSE NEIGHBOUR: 'it returns false'. Refute it at one input. -/
def fnExactLogOkWrong : ChangeSpec := { name := "fnExactLogOk", fn := fun _ => fun
  | [d] => { results := [.lit (.bool false)], args := [d] }
  | _ => none }
def FnExactLogOkWrongFalsely : Prop := fnExactLogOkRow.holds Try.pinned (OpenSpec.ofChange fnExactLogOkWrong)

/-- 'laws.FnExactLogRead': WHATEVER THE INPUT: true; the input reads as it did. -/
def fnExactLogReadSpec : ChangeSpec := { name := "fnExactLogRead", fn := fun _ => fun
  | [d] => { results := [.lit (.bool true)], args := [d] }
  | _ => none }
def fnExactLogReadRow : OpenClaim := { program := "ytifdkjddiohahaa", sum := "5d8eeb96ad641a89df476940ee8337aee47fb076cb5d19d3d38a71a47a2aeb89", func := "loop.example/g00954/laws.FnExactLogRead", spec := "fnExactLogRead", apart := false }
def FnExactLogReadSaid : Prop := fnExactLogReadRow.holds Try.pinned (OpenSpec.ofChange fnExactLogReadSpec)

/-- ITS FALSE NEIGHBOUR: 'it returns false'. Refute it at one input. -/
def fnExactLogReadWrong : ChangeSpec := { name := "fnExactLogRead", fn := fun _ => fun
  | [d] => { results := [.lit (.bool false)], args := [d] }
  | _ => none }
def FnExactLogReadWrongFalsely : Prop := fnExactLogReadRow.holds Try.pinned (OpenSpec.ofChange fnExactLogReadWrong)

/-- 'laws.FnExactLogMark': WHATEVER THE INPUT: true; the input reads as it did. -/
def fnExactLogMarkSpec : ChangeSpec := { name := "fnExactLogMark", fn := fun _ => fun
  | [d1, d2] => { results := [.lit (.bool true)], args := [d1, d2] }
  | _ => none }
def fnExactLogMarkRow : OpenClaim := { program := "ytifdkjddiohahaa", sum := "5d8eeb96ad641a89df476940ee8337aee47fb076cb5d19d3d38a71a47a2aeb89", func := "loop.example/g00954/laws.FnExactLogMark", spec := "fnExactLogMark", apart := false }
def FnExactLogMarkSaid : Prop := fnExactLogMarkRow.holds Try.pinned (OpenSpec.ofChange fnExactLogMarkSpec)

/-- ITS FALSE NEIGHBOUR: 'it returns false'. Refute it at one input. -/
def fnExactLogMarkWrong : ChangeSpec := { name := "fnExactLogMark", fn := fun _ => fun
  | [d1, d2] => { results := [.lit (.bool false)], args := [d1, d2] }
  | _ => none }
def FnExactLogMarkWrongFalsely : Prop := fnExactLogMarkRow.holds Try.pinned (OpenSpec.ofChange fnExactLogMarkWrong)

/-- 'laws.FnExactLogCut': WHATEVER THE INPUT: true; the input reads as it did. -/
def fnExactLogCutSpec : ChangeSpec := { name := "fnExactLogCut", fn := fun _ => fun
  | [d1, d2] => { results := [.lit (.bool true)], args := [d1, d2] }
  | _ => none }
def fnExactLogCutRow : OpenClaim := { program := "ytifdkjddiohahaa", sum := "5d8eeb96ad641a89df476940ee8337aee47fb076cb5d19d3d38a71a47a2aeb89", func := "loop.example/g00954/laws.FnExactLogCut", spec := "fnExactLogCut", apart := false }
def FnExactLogCutSaid : Prop := fnExactLogCutRow.holds Try.pinned (OpenSpec.ofChange fnExactLogCutSpec)

/-- ITS FALSE NEIGHBOUR: 'it returns false'. Refute it at one input. -/
def fnExactLogCutWrong : ChangeSpec := { name := "fnExactLogCut", fn := fun _ => fun
  | [d1, d2] => { results := [.lit (.bool false)], args := [d1, d2] }
  | _ => none }
def FnExactLogCutWrongFalsely : Prop := fnExactLogCutRow.holds Try.pinned (OpenSpec.ofChange fnExactLogCutWrong)

/-- 'laws.FnExactLogAdd': WHATEVER THE INPUT: true; the input reads as it did. -/
def fnExactLogAddSpec : ChangeSpec := { name := "fnExactLogAdd", fn := fun _ => fun
  | [d1, d2] => { results := [.lit (.bool true)], args := [d1, d2] }
  | _ => none }
def fnExactLogAddRow : OpenClaim := { program := "ytifdkjddiohahaa", sum := "5d8eeb96ad641a89df476940ee8337aee47fb076cb5d19d3d38a71a47a2aeb89", func := "loop.example/g00954/laws.FnExactLogAdd", spec := "fnExactLogAdd", apart := false }
def FnExactLogAddSaid : Prop := fnExactLogAddRow.holds Try.pinned (OpenSpec.ofChange fnExactLogAddSpec)

/-- ITS FALSE NEIGHBOUR: 'it returns false'. Refute it at one input. -/
def fnExactLogAddWrong : ChangeSpec := { name := "fnExactLogAdd", fn := fun _ => fun
  | [d1, d2] => { results := [.lit (.bool false)], args := [d1, d2] }
  | _ => none }
def FnExactLogAddWrongFalsely : Prop := fnExactLogAddRow.holds Try.pinned (OpenSpec.ofChange fnExactLogAddWrong)

/- THE SECOND FORM. 'bulk': how many values and letters a reading holds, each counted each time it is reached (what is shared counts as often as it is met; a slice's spare places count too). A statement '..UptoSaid' is the law's where the arguments, and the package variables that the reading takes, are together of bulk at most 1048576: NARROWER than '..Said'. Prove '..Said' where nothing that the law and all that it calls make is longer than what came in: it says more and counts as full. Else prove '..UptoSaid'. A law counts once. -/
mutual
def uptoBulk {H : Type} : DataW H → Nat
  | .lit (.string bytes) => bytes.length + 1
  | .lit _ => 1
  | .nil => 1
  | .ptr d => uptoBulk d + 1
  | .slice elems spare => uptoBulkAll elems + uptoBulkAll spare + 1
  | .agg parts => uptoBulkAll parts + 1
  | .iface _ d => uptoBulk d + 1
  | .map entries => uptoBulkEntries entries + 1
  | .held _ => 1
def uptoBulkAll {H : Type} : List (DataW H) → Nat
  | [] => 0
  | d :: r => uptoBulk d + uptoBulkAll r
def uptoBulkEntries {H : Type} : List (Lit × DataW H) → Nat
  | [] => 0
  | x :: r => uptoBulkEntry x + uptoBulkEntries r
def uptoBulkEntry {H : Type} : Lit × DataW H → Nat
  | (.string bytes, d) => bytes.length + uptoBulk d + 1
  | (_, d) => uptoBulk d + 1
 end
def uptoSmall : (H : Type) → List (DataW H) → Bool := fun _ ds => decide (uptoBulkAll ds ≤ 1048576)
def OpenSpec.upto (s : _root_.Go.ChangeSpec) : _root_.Go.OpenSpec := { _root_.Go.OpenSpec.ofChange s with cond := some uptoSmall }

/-- 'laws.FnExactSameCmd', WHERE WHAT IT READS IS OF BULK AT MOST 1048576: true; the input reads as it did. -/
def fnExactSameCmdUptoRow : OpenClaim := { program := "ytifdkjddiohahaa", sum := "5d8eeb96ad641a89df476940ee8337aee47fb076cb5d19d3d38a71a47a2aeb89", func := "loop.example/g00954/laws.FnExactSameCmd", spec := "fnExactSameCmd", apart := false, narrowed := true }
def FnExactSameCmdUptoSaid : Prop := fnExactSameCmdUptoRow.holds Try.pinned (OpenSpec.upto fnExactSameCmdSpec)

/-- 'laws.FnExactCmdOk', WHERE WHAT IT READS IS OF BULK AT MOST 1048576: true; the input reads as it did. -/
def fnExactCmdOkUptoRow : OpenClaim := { program := "ytifdkjddiohahaa", sum := "5d8eeb96ad641a89df476940ee8337aee47fb076cb5d19d3d38a71a47a2aeb89", func := "loop.example/g00954/laws.FnExactCmdOk", spec := "fnExactCmdOk", apart := false, narrowed := true }
def FnExactCmdOkUptoSaid : Prop := fnExactCmdOkUptoRow.holds Try.pinned (OpenSpec.upto fnExactCmdOkSpec)

/-- 'laws.FnExactClash', WHERE WHAT IT READS IS OF BULK AT MOST 1048576: true; the input reads as it did. -/
def fnExactClashUptoRow : OpenClaim := { program := "ytifdkjddiohahaa", sum := "5d8eeb96ad641a89df476940ee8337aee47fb076cb5d19d3d38a71a47a2aeb89", func := "loop.example/g00954/laws.FnExactClash", spec := "fnExactClash", apart := false, narrowed := true }
def FnExactClashUptoSaid : Prop := fnExactClashUptoRow.holds Try.pinned (OpenSpec.upto fnExactClashSpec)

/-- 'laws.FnExactShowCmd', WHERE WHAT IT READS IS OF BULK AT MOST 1048576: true; the input reads as it did. -/
def fnExactShowCmdUptoRow : OpenClaim := { program := "ytifdkjddiohahaa", sum := "5d8eeb96ad641a89df476940ee8337aee47fb076cb5d19d3d38a71a47a2aeb89", func := "loop.example/g00954/laws.FnExactShowCmd", spec := "fnExactShowCmd", apart := false, narrowed := true }
def FnExactShowCmdUptoSaid : Prop := fnExactShowCmdUptoRow.holds Try.pinned (OpenSpec.upto fnExactShowCmdSpec)

/-- 'laws.FnExactReadCmd', WHERE WHAT IT READS IS OF BULK AT MOST 1048576: true; the input reads as it did. -/
def fnExactReadCmdUptoRow : OpenClaim := { program := "ytifdkjddiohahaa", sum := "5d8eeb96ad641a89df476940ee8337aee47fb076cb5d19d3d38a71a47a2aeb89", func := "loop.example/g00954/laws.FnExactReadCmd", spec := "fnExactReadCmd", apart := false, narrowed := true }
def FnExactReadCmdUptoSaid : Prop := fnExactReadCmdUptoRow.holds Try.pinned (OpenSpec.upto fnExactReadCmdSpec)

/-- 'laws.FnExactIdsOk', WHERE WHAT IT READS IS OF BULK AT MOST 1048576: true; the input reads as it did. -/
def fnExactIdsOkUptoRow : OpenClaim := { program := "ytifdkjddiohahaa", sum := "5d8eeb96ad641a89df476940ee8337aee47fb076cb5d19d3d38a71a47a2aeb89", func := "loop.example/g00954/laws.FnExactIdsOk", spec := "fnExactIdsOk", apart := false, narrowed := true }
def FnExactIdsOkUptoSaid : Prop := fnExactIdsOkUptoRow.holds Try.pinned (OpenSpec.upto fnExactIdsOkSpec)

/-- 'laws.FnExactLogNew', WHERE WHAT IT READS IS OF BULK AT MOST 1048576: true; the input reads as it did. -/
def fnExactLogNewUptoRow : OpenClaim := { program := "ytifdkjddiohahaa", sum := "5d8eeb96ad641a89df476940ee8337aee47fb076cb5d19d3d38a71a47a2aeb89", func := "loop.example/g00954/laws.FnExactLogNew", spec := "fnExactLogNew", apart := false, narrowed := true }
def FnExactLogNewUptoSaid : Prop := fnExactLogNewUptoRow.holds Try.pinned (OpenSpec.upto fnExactLogNewSpec)

/-- 'laws.FnExactLogOk', WHERE WHAT IT READS IS OF BULK AT MOST 1048576: true; the input reads as it did. -/
def fnExactLogOkUptoRow : OpenClaim := { program := "ytifdkjddiohahaa", sum := "5d8eeb96ad641a89df476940ee8337aee47fb076cb5d19d3d38a71a47a2aeb89", func := "loop.example/g00954/laws.FnExactLogOk", spec := "fnExactLogOk", apart := false, narrowed := true }
def FnExactLogOkUptoSaid : Prop := fnExactLogOkUptoRow.holds Try.pinned (OpenSpec.upto fnExactLogOkSpec)

/-- 'laws.FnExactLogRead', WHERE WHAT IT READS IS OF BULK AT MOST 1048576: true; the input reads as it did. -/
def fnExactLogReadUptoRow : OpenClaim := { program := "ytifdkjddiohahaa", sum := "5d8eeb96ad641a89df476940ee8337aee47fb076cb5d19d3d38a71a47a2aeb89", func := "loop.example/g00954/laws.FnExactLogRead", spec := "fnExactLogRead", apart := false, narrowed := true }
def FnExactLogReadUptoSaid : Prop := fnExactLogReadUptoRow.holds Try.pinned (OpenSpec.upto fnExactLogReadSpec)

/-- 'laws.FnExactLogMark', WHERE WHAT IT READS IS OF BULK AT MOST 1048576: true; the input reads as it did. -/
def fnExactLogMarkUptoRow : OpenClaim := { program := "ytifdkjddiohahaa", sum := "5d8eeb96ad641a89df476940ee8337aee47fb076cb5d19d3d38a71a47a2aeb89", func := "loop.example/g00954/laws.FnExactLogMark", spec := "fnExactLogMark", apart := false, narrowed := true }
def FnExactLogMarkUptoSaid : Prop := fnExactLogMarkUptoRow.holds Try.pinned (OpenSpec.upto fnExactLogMarkSpec)

/-- 'laws.FnExactLogCut', WHERE WHAT IT READS IS OF BULK AT MOST 1048576: true; the input reads as it did. -/
def fnExactLogCutUptoRow : OpenClaim := { program := "ytifdkjddiohahaa", sum := "5d8eeb96ad641a89df476940ee8337aee47fb076cb5d19d3d38a71a47a2aeb89", func := "loop.example/g00954/laws.FnExactLogCut", spec := "fnExactLogCut", apart := false, narrowed := true }
def FnExactLogCutUptoSaid : Prop := fnExactLogCutUptoRow.holds Try.pinned (OpenSpec.upto fnExactLogCutSpec)

/-- 'laws.FnExactLogAdd', WHERE WHAT IT READS IS OF BULK AT MOST 1048576: true; the input reads as it did. -/
def fnExactLogAddUptoRow : OpenClaim := { program := "ytifdkjddiohahaa", sum := "5d8eeb96ad641a89df476940ee8337aee47fb076cb5d19d3d38a71a47a2aeb89", func := "loop.example/g00954/laws.FnExactLogAdd", spec := "fnExactLogAdd", apart := false, narrowed := true }
def FnExactLogAddUptoSaid : Prop := fnExactLogAddUptoRow.holds Try.pinned (OpenSpec.upto fnExactLogAddSpec)

end Rows
end Go.Proofs.Ytifdkjddiohahaa
