/-
  No cell of these rows narrows 'for every input' (looked for: loops, veiled, ifaces, maps, wideKeys, modest, calm, conditions, laid).
  DERIVED. THE GIVEN ROWS OF THIS SEAT. 12 by the template 'for every input the law returns true; each argument reads behind the call as it read before'; 0 by the template 'total and deterministic' (their statements: YtfimkceekebacaaTotals.lean).
  GIVEN WITH THE SEED: the statements are not yours to turn. If you find one false, say at which input.
  Laid BY PROGRAM, IN A SANDBOX (cutbox-rows.mjs): the forced cells as the released guide's own fill.sh prints them over the translation 7c988177d70a8b3e… (all of the seat's roots in one cut). By AI agents, Wed Nov 11 2026. No macro, syntax, notation, axiom, sorry.
-/
import Derived.Test.YtfimkceekebacaaChecked
import GoSem.Claim
import GoSem.ClaimJoined
import GoSem.ClaimMapViews
import Derived.JoinedTies
import Derived.KernelRfl
namespace Go.Proofs.Ytfimkceekebacaa
/- THE CELL 'sum', in the pinned program and in every row, IS THE sha256 OF THE DUMP (.gsa) THAT YtfimkceekebacaaProg.lean LOADS. Nothing in Lean hashes anything: it is a label: what it is worth is what the hold of that sum in a sandbox is worth. -/
noncomputable def Try.pinned : Pinned := { name := "ytfimkceekebacaa", sum := "7c988177d70a8b3e98a5c460305ffbf202146c40abd35ee1ee7068df67daf9bf", checked := Try.checked }
namespace Rows
def none {H : Type} : Left H := { results := [], args := [] }

/-- 'laws.FnExactConstants': WHATEVER THE INPUT: true; the input reads as it did. -/
def fnExactConstantsSpec : ChangeSpec := { name := "fnExactConstants", fn := fun _ => fun
  | [] => { results := [.lit (.bool true)], args := [] }
  | _ => none }
def fnExactConstantsRow : OpenClaim := { program := "ytfimkceekebacaa", sum := "7c988177d70a8b3e98a5c460305ffbf202146c40abd35ee1ee7068df67daf9bf", func := "loop.example/g00954/laws.FnExactConstants", spec := "fnExactConstants", apart := false }
def FnExactConstantsSaid : Prop := fnExactConstantsRow.holds Try.pinned (OpenSpec.ofChange fnExactConstantsSpec)

/-- ITS FALSE NEIGHBOUR: 'it returns false'. Refute it at one input. -/
def fnExactConstantsWrong : ChangeSpec := { name := "fnExactConstants", fn := fun _ => fun
  | [] => { results := [.lit (.bool false)], args := [] }
  | _ => none }
def FnExactConstantsWrongFalsely : Prop := fnExactConstantsRow.holds Try.pinned (OpenSpec.ofChange fnExactConstantsWrong)

/-- 'laws.FnExactHex': WHATEVER THE INPUT: true; the input reads as it did. -/
def fnExactHexSpec : ChangeSpec := { name := "fnExactHex", fn := fun _ => fun
  | [d] => { results := [.lit (.bool true)], args := [d] }
  | _ => none }
def fnExactHexRow : OpenClaim := { program := "ytfimkceekebacaa", sum := "7c988177d70a8b3e98a5c460305ffbf202146c40abd35ee1ee7068df67daf9bf", func := "loop.example/g00954/laws.FnExactHex", spec := "fnExactHex", apart := false }
def FnExactHexSaid : Prop := fnExactHexRow.holds Try.pinned (OpenSpec.ofChange fnExactHexSpec)

/-- ITS FALSE NEIGHBOUR: 'it returns false'. Refute it at one input. -/
def fnExactHexWrong : ChangeSpec := { name := "fnExactHex", fn := fun _ => fun
  | [d] => { results := [.lit (.bool false)], args := [d] }
  | _ => none }
def FnExactHexWrongFalsely : Prop := fnExactHexRow.holds Try.pinned (OpenSpec.ofChange fnExactHexWrong)

/-- 'laws.FnExactReadFixed': WHATEVER THE INPUT: true; the input reads as it did. -/
def fnExactReadFixedSpec : ChangeSpec := { name := "fnExactReadFixed", fn := fun _ => fun
  | [d1, d2] => { results := [.lit (.bool true)], args := [d1, d2] }
  | _ => none }
def fnExactReadFixedRow : OpenClaim := { program := "ytfimkceekebacaa", sum := "7c988177d70a8b3e98a5c460305ffbf202146c40abd35ee1ee7068df67daf9bf", func := "loop.example/g00954/laws.FnExactReadFixed", spec := "fnExactReadFixed", apart := false }
def FnExactReadFixedSaid : Prop := fnExactReadFixedRow.holds Try.pinned (OpenSpec.ofChange fnExactReadFixedSpec)

/-- ITS FALSE NEIGHBOUR: 'it returns false'. Refute it at one input. -/
def fnExactReadFixedWrong : ChangeSpec := { name := "fnExactReadFixed", fn := fun _ => fun
  | [d1, d2] => { results := [.lit (.bool false)], args := [d1, d2] }
  | _ => none }
def FnExactReadFixedWrongFalsely : Prop := fnExactReadFixedRow.holds Try.pinned (OpenSpec.ofChange fnExactReadFixedWrong)

/-- 'laws.FnExactVar': WHATEVER THE INPUT: true; the input reads as it did. -/
def fnExactVarSpec : ChangeSpec := { name := "fnExactVar", fn := fun _ => fun
  | [d] => { results := [.lit (.bool true)], args := [d] }
  | _ => none }
def fnExactVarRow : OpenClaim := { program := "ytfimkceekebacaa", sum := "7c988177d70a8b3e98a5c460305ffbf202146c40abd35ee1ee7068df67daf9bf", func := "loop.example/g00954/laws.FnExactVar", spec := "fnExactVar", apart := false }
def FnExactVarSaid : Prop := fnExactVarRow.holds Try.pinned (OpenSpec.ofChange fnExactVarSpec)

/-- ITS FALSE NEIGHBOUR: 'it returns false'. Refute it at one input. -/
def fnExactVarWrong : ChangeSpec := { name := "fnExactVar", fn := fun _ => fun
  | [d] => { results := [.lit (.bool false)], args := [d] }
  | _ => none }
def FnExactVarWrongFalsely : Prop := fnExactVarRow.holds Try.pinned (OpenSpec.ofChange fnExactVarWrong)

/-- 'laws.FnExactFixed': WHATEVER THE INPUT: true; the input reads as it did. -/
def fnExactFixedSpec : ChangeSpec := { name := "fnExactFixed", fn := fun _ => fun
  | [d1, d2] => { results := [.lit (.bool true)], args := [d1, d2] }
  | _ => none }
def fnExactFixedRow : OpenClaim := { program := "ytfimkceekebacaa", sum := "7c988177d70a8b3e98a5c460305ffbf202146c40abd35ee1ee7068df67daf9bf", func := "loop.example/g00954/laws.FnExactFixed", spec := "fnExactFixed", apart := false }
def FnExactFixedSaid : Prop := fnExactFixedRow.holds Try.pinned (OpenSpec.ofChange fnExactFixedSpec)

/-- ITS FALSE NEIGHBOUR: 'it returns false'. Refute it at one input. -/
def fnExactFixedWrong : ChangeSpec := { name := "fnExactFixed", fn := fun _ => fun
  | [d1, d2] => { results := [.lit (.bool false)], args := [d1, d2] }
  | _ => none }
def FnExactFixedWrongFalsely : Prop := fnExactFixedRow.holds Try.pinned (OpenSpec.ofChange fnExactFixedWrong)

/-- 'laws.FnExactCrc': WHATEVER THE INPUT: true; the input reads as it did. -/
def fnExactCrcSpec : ChangeSpec := { name := "fnExactCrc", fn := fun _ => fun
  | [d] => { results := [.lit (.bool true)], args := [d] }
  | _ => none }
def fnExactCrcRow : OpenClaim := { program := "ytfimkceekebacaa", sum := "7c988177d70a8b3e98a5c460305ffbf202146c40abd35ee1ee7068df67daf9bf", func := "loop.example/g00954/laws.FnExactCrc", spec := "fnExactCrc", apart := false }
def FnExactCrcSaid : Prop := fnExactCrcRow.holds Try.pinned (OpenSpec.ofChange fnExactCrcSpec)

/-- ITS FALSE NEIGHBOUR: 'it returns false'. Refute it at one input. -/
def fnExactCrcWrong : ChangeSpec := { name := "fnExactCrc", fn := fun _ => fun
  | [d] => { results := [.lit (.bool false)], args := [d] }
  | _ => none }
def FnExactCrcWrongFalsely : Prop := fnExactCrcRow.holds Try.pinned (OpenSpec.ofChange fnExactCrcWrong)

/-- 'laws.FnExactDec': WHATEVER THE INPUT: true; the input reads as it did. -/
def fnExactDecSpec : ChangeSpec := { name := "fnExactDec", fn := fun _ => fun
  | [d] => { results := [.lit (.bool true)], args := [d] }
  | _ => none }
def fnExactDecRow : OpenClaim := { program := "ytfimkceekebacaa", sum := "7c988177d70a8b3e98a5c460305ffbf202146c40abd35ee1ee7068df67daf9bf", func := "loop.example/g00954/laws.FnExactDec", spec := "fnExactDec", apart := false }
def FnExactDecSaid : Prop := fnExactDecRow.holds Try.pinned (OpenSpec.ofChange fnExactDecSpec)

/-- ITS FALSE NEIGHBOUR: 'it returns false'. Refute it at one input. -/
def fnExactDecWrong : ChangeSpec := { name := "fnExactDec", fn := fun _ => fun
  | [d] => { results := [.lit (.bool false)], args := [d] }
  | _ => none }
def FnExactDecWrongFalsely : Prop := fnExactDecRow.holds Try.pinned (OpenSpec.ofChange fnExactDecWrong)

/-- 'laws.FnExactUnhex': WHATEVER THE INPUT: true; the input reads as it did. -/
def fnExactUnhexSpec : ChangeSpec := { name := "fnExactUnhex", fn := fun _ => fun
  | [d] => { results := [.lit (.bool true)], args := [d] }
  | _ => none }
def fnExactUnhexRow : OpenClaim := { program := "ytfimkceekebacaa", sum := "7c988177d70a8b3e98a5c460305ffbf202146c40abd35ee1ee7068df67daf9bf", func := "loop.example/g00954/laws.FnExactUnhex", spec := "fnExactUnhex", apart := false }
def FnExactUnhexSaid : Prop := fnExactUnhexRow.holds Try.pinned (OpenSpec.ofChange fnExactUnhexSpec)

/-- ITS FALSE NEIGHBOUR: 'it returns false'. Refute it at one input. -/
def fnExactUnhexWrong : ChangeSpec := { name := "fnExactUnhex", fn := fun _ => fun
  | [d] => { results := [.lit (.bool false)], args := [d] }
  | _ => none }
def FnExactUnhexWrongFalsely : Prop := fnExactUnhexRow.holds Try.pinned (OpenSpec.ofChange fnExactUnhexWrong)

/-- 'laws.FnExactReadVar': WHATEVER THE INPUT: true; the input reads as it did. -/
def fnExactReadVarSpec : ChangeSpec := { name := "fnExactReadVar", fn := fun _ => fun
  | [d] => { results := [.lit (.bool true)], args := [d] }
  | _ => none }
def fnExactReadVarRow : OpenClaim := { program := "ytfimkceekebacaa", sum := "7c988177d70a8b3e98a5c460305ffbf202146c40abd35ee1ee7068df67daf9bf", func := "loop.example/g00954/laws.FnExactReadVar", spec := "fnExactReadVar", apart := false }
def FnExactReadVarSaid : Prop := fnExactReadVarRow.holds Try.pinned (OpenSpec.ofChange fnExactReadVarSpec)

/-- ITS FALSE NEIGHBOUR: 'it returns false'. Refute it at one input. -/
def fnExactReadVarWrong : ChangeSpec := { name := "fnExactReadVar", fn := fun _ => fun
  | [d] => { results := [.lit (.bool false)], args := [d] }
  | _ => none }
def FnExactReadVarWrongFalsely : Prop := fnExactReadVarRow.holds Try.pinned (OpenSpec.ofChange fnExactReadVarWrong)

/-- 'laws.FnExactReadDec': WHATEVER THE INPUT: true; the input reads as it did. -/
def fnExactReadDecSpec : ChangeSpec := { name := "fnExactReadDec", fn := fun _ => fun
  | [d] => { results := [.lit (.bool true)], args := [d] }
  | _ => none }
def fnExactReadDecRow : OpenClaim := { program := "ytfimkceekebacaa", sum := "7c988177d70a8b3e98a5c460305ffbf202146c40abd35ee1ee7068df67daf9bf", func := "loop.example/g00954/laws.FnExactReadDec", spec := "fnExactReadDec", apart := false }
def FnExactReadDecSaid : Prop := fnExactReadDecRow.holds Try.pinned (OpenSpec.ofChange fnExactReadDecSpec)

/-- ITS FALSE NEIGHBOUR: 'it returns false'. Refute it at one input. -/
def fnExactReadDecWrong : ChangeSpec := { name := "fnExactReadDec", fn := fun _ => fun
  | [d] => { results := [.lit (.bool false)], args := [d] }
  | _ => none }
def FnExactReadDecWrongFalsely : Prop := fnExactReadDecRow.holds Try.pinned (OpenSpec.ofChange fnExactReadDecWrong)

/-- 'laws.FnExactFrame': WHATEVER THE INPUT: true; the input reads as it did. -/
def fnExactFrameSpec : ChangeSpec := { name := "fnExactFrame", fn := fun _ => fun
  | [d] => { results := [.lit (.bool true)], args := [d] }
  | _ => none }
def fnExactFrameRow : OpenClaim := { program := "ytfimkceekebacaa", sum := "7c988177d70a8b3e98a5c460305ffbf202146c40abd35ee1ee7068df67daf9bf", func := "loop.example/g00954/laws.FnExactFrame", spec := "fnExactFrame", apart := false }
def FnExactFrameSaid : Prop := fnExactFrameRow.holds Try.pinned (OpenSpec.ofChange fnExactFrameSpec)

/-- ITS FALSE NEIGHBOUR: 'it returns false'. Refute it at one input. -/
def fnExactFrameWrong : ChangeSpec := { name := "fnExactFrame", fn := fun _ => fun
  | [d] => { results := [.lit (.bool false)], args := [d] }
  | _ => none }
def FnExactFrameWrongFalsely : Prop := fnExactFrameRow.holds Try.pinned (OpenSpec.ofChange fnExactFrameWrong)

/-- 'laws.FnExactUnframe': WHATEVER THE INPUT: true; the input reads as it did. -/
def fnExactUnframeSpec : ChangeSpec := { name := "fnExactUnframe", fn := fun _ => fun
  | [d] => { results := [.lit (.bool true)], args := [d] }
  | _ => none }
def fnExactUnframeRow : OpenClaim := { program := "ytfimkceekebacaa", sum := "7c988177d70a8b3e98a5c460305ffbf202146c40abd35ee1ee7068df67daf9bf", func := "loop.example/g00954/laws.FnExactUnframe", spec := "fnExactUnframe", apart := false }
def FnExactUnframeSaid : Prop := fnExactUnframeRow.holds Try.pinned (OpenSpec.ofChange fnExactUnframeSpec)

/-- ITS FALSE NEIGHBOUR: 'it returns false'. Refute it at one input. -/
def fnExactUnframeWrong : ChangeSpec := { name := "fnExactUnframe", fn := fun _ => fun
  | [d] => { results := [.lit (.bool false)], args := [d] }
  | _ => none }
def FnExactUnframeWrongFalsely : Prop := fnExactUnframeRow.holds Try.pinned (OpenSpec.ofChange fnExactUnframeWrong)

/- THE SECOND FORM. 'bulk': how many values and letters a reading holds, each counted each time it is reached (what is shared counts as often as it is met; a slice's spare places count too). A statement '..UptoSaid' is the law's where the arguments, and the package variables that the reading takes, are together of bulk at most 1048576: NARROWER than '..Said'. Prove '..Said' where nothing that the law and all that it calls make is longer than what came in: it says more and counts as full. Else prove '..UptoSaid'. A law counts once. -/
mutual
def uptoBulk {H : Type} : DataW H → Nat
  | .lit (.string bytes) => bytes.length + 1
  | .lit _ => 1
  | .nil => 1
  | .ptr d => uptoBulk d + 1
  | .slice elems spare => uptoBulkAll elems + uptoBulkAll spare + 1
  | .agg parts => uptoBulkAll parts + 1
  | .iface _ d => uptoBulk d + 1
  | .map entries => uptoBulkEntries entries + 1
  | .held _ => 1
def uptoBulkAll {H : Type} : List (DataW H) → Nat
  | [] => 0
  | d :: r => uptoBulk d + uptoBulkAll r
def uptoBulkEntries {H : Type} : List (Lit × DataW H) → Nat
  | [] => 0
  | x :: r => uptoBulkEntry x + uptoBulkEntries r
def uptoBulkEntry {H : Type} : Lit × DataW H → Nat
  | (.string bytes, d) => bytes.length + uptoBulk d + 1
  | (_, d) => uptoBulk d + 1
 end
def uptoSmall : (H : Type) → List (DataW H) → Bool := fun _ ds => decide (uptoBulkAll ds ≤ 1048576)
def OpenSpec.upto (s : _root_.Go.ChangeSpec) : _root_.Go.OpenSpec := { _root_.Go.OpenSpec.ofChange s with cond := some uptoSmall }

/-- 'laws.FnExactConstants', WHERE WHAT IT READS IS OF BULK AT MOST 1048576: true; the input reads as it did. -/
def fnExactConstantsUptoRow : OpenClaim := { program := "ytfimkceekebacaa", sum := "7c988177d70a8b3e98a5c460305ffbf202146c40abd35ee1ee7068df67daf9bf", func := "loop.example/g00954/laws.FnExactConstants", spec := "fnExactConstants", apart := false, narrowed := true }
def FnExactConstantsUptoSaid : Prop := fnExactConstantsUptoRow.holds Try.pinned (OpenSpec.upto fnExactConstantsSpec)

/-- 'laws.FnExactHex', WHERE WHAT IT READS IS OF BULK AT MOST 1048576: true; the input reads as it did. -/
def fnExactHexUptoRow : OpenClaim := { program := "ytfimkceekebacaa", sum := "7c988177d70a8b3e98a5c460305ffbf202146c40abd35ee1ee7068df67daf9bf", func := "loop.example/g00954/laws.FnExactHex", spec := "fnExactHex", apart := false, narrowed := true }
def FnExactHexUptoSaid : Prop := fnExactHexUptoRow.holds Try.pinned (OpenSpec.upto fnExactHexSpec)

/-- 'laws.FnExactReadFixed', WHERE WHAT IT READS IS OF BULK AT MOST 1048576: true; the input reads as it did. -/
def fnExactReadFixedUptoRow : OpenClaim := { program := "ytfimkceekebacaa", sum := "7c988177d70a8b3e98a5c460305ffbf202146c40abd35ee1ee7068df67daf9bf", func := "loop.example/g00954/laws.FnExactReadFixed", spec := "fnExactReadFixed", apart := false, narrowed := true }
def FnExactReadFixedUptoSaid : Prop := fnExactReadFixedUptoRow.holds Try.pinned (OpenSpec.upto fnExactReadFixedSpec)

/-- 'laws.FnExactVar', WHERE WHAT IT READS IS OF BULK AT MOST 1048576: true; the input reads as it did. -/
def fnExactVarUptoRow : OpenClaim := { program := "ytfimkceekebacaa", sum := "7c988177d70a8b3e98a5c460305ffbf202146c40abd35ee1ee7068df67daf9bf", func := "loop.example/g00954/laws.FnExactVar", spec := "fnExactVar", apart := false, narrowed := true }
def FnExactVarUptoSaid : Prop := fnExactVarUptoRow.holds Try.pinned (OpenSpec.upto fnExactVarSpec)

/-- 'laws.FnExactFixed', WHERE WHAT IT READS IS OF BULK AT MOST 1048576: true; the input reads as it did. -/
def fnExactFixedUptoRow : OpenClaim := { program := "ytfimkceekebacaa", sum := "7c988177d70a8b3e98a5c460305ffbf202146c40abd35ee1ee7068df67daf9bf", func := "loop.example/g00954/laws.FnExactFixed", spec := "fnExactFixed", apart := false, narrowed := true }
def FnExactFixedUptoSaid : Prop := fnExactFixedUptoRow.holds Try.pinned (OpenSpec.upto fnExactFixedSpec)

/-- 'laws.FnExactCrc', WHERE WHAT IT READS IS OF BULK AT MOST 1048576: true; the input reads as it did. -/
def fnExactCrcUptoRow : OpenClaim := { program := "ytfimkceekebacaa", sum := "7c988177d70a8b3e98a5c460305ffbf202146c40abd35ee1ee7068df67daf9bf", func := "loop.example/g00954/laws.FnExactCrc", spec := "fnExactCrc", apart := false, narrowed := true }
def FnExactCrcUptoSaid : Prop := fnExactCrcUptoRow.holds Try.pinned (OpenSpec.upto fnExactCrcSpec)

/-- 'laws.FnExactDec', WHERE WHAT IT READS IS OF BULK AT MOST 1048576: true; the input reads as it did. -/
def fnExactDecUptoRow : OpenClaim := { program := "ytfimkceekebacaa", sum := "7c988177d70a8b3e98a5c460305ffbf202146c40abd35ee1ee7068df67daf9bf", func := "loop.example/g00954/laws.FnExactDec", spec := "fnExactDec", apart := false, narrowed := true }
def FnExactDecUptoSaid : Prop := fnExactDecUptoRow.holds Try.pinned (OpenSpec.upto fnExactDecSpec)

/-- 'laws.FnExactUnhex', WHERE WHAT IT READS IS OF BULK AT MOST 1048576: true; the input reads as it did. -/
def fnExactUnhexUptoRow : OpenClaim := { program := "ytfimkceekebacaa", sum := "7c988177d70a8b3e98a5c460305ffbf202146c40abd35ee1ee7068df67daf9bf", func := "loop.example/g00954/laws.FnExactUnhex", spec := "fnExactUnhex", apart := false, narrowed := true }
def FnExactUnhexUptoSaid : Prop := fnExactUnhexUptoRow.holds Try.pinned (OpenSpec.upto fnExactUnhexSpec)

/-- 'laws.FnExactReadVar', WHERE WHAT IT READS IS OF BULK AT MOST 1048576: true; the input reads as it did. -/
def fnExactReadVarUptoRow : OpenClaim := { program := "ytfimkceekebacaa", sum := "7c988177d70a8b3e98a5c460305ffbf202146c40abd35ee1ee7068df67daf9bf", func := "loop.example/g00954/laws.FnExactReadVar", spec := "fnExactReadVar", apart := false, narrowed := true }
def FnExactReadVarUptoSaid : Prop := fnExactReadVarUptoRow.holds Try.pinned (OpenSpec.upto fnExactReadVarSpec)

/-- 'laws.FnExactReadDec', WHERE WHAT IT READS IS OF BULK AT MOST 1048576: true; the input reads as it did. -/
def fnExactReadDecUptoRow : OpenClaim := { program := "ytfimkceekebacaa", sum := "7c988177d70a8b3e98a5c460305ffbf202146c40abd35ee1ee7068df67daf9bf", func := "loop.example/g00954/laws.FnExactReadDec", spec := "fnExactReadDec", apart := false, narrowed := true }
def FnExactReadDecUptoSaid : Prop := fnExactReadDecUptoRow.holds Try.pinned (OpenSpec.upto fnExactReadDecSpec)

/-- 'laws.FnExactFrame', WHERE WHAT IT READS IS OF BULK AT MOST 1048576: true; the input reads as it did. -/
def fnExactFrameUptoRow : OpenClaim := { program := "ytfimkceekebacaa", sum := "7c988177d70a8b3e98a5c460305ffbf202146c40abd35ee1ee7068df67daf9bf", func := "loop.example/g00954/laws.FnExactFrame", spec := "fnExactFrame", apart := false, narrowed := true }
def FnExactFrameUptoSaid : Prop := fnExactFrameUptoRow.holds Try.pinned (OpenSpec.upto fnExactFrameSpec)

/-- 'laws.FnExactUnframe', WHERE WHAT IT READS IS OF BULK AT MOST 1048576: true; the input reads as it did. -/
def fnExactUnframeUptoRow : OpenClaim := { program := "ytfimkceekebacaa", sum := "7c988177d70a8b3e98a5c460305ffbf202146c40abd35ee1ee7068df67daf9bf", func := "loop.example/g00954/laws.FnExactUnframe", spec := "fnExactUnframe", apart := false, narrowed := true }
def FnExactUnframeUptoSaid : Prop := fnExactUnframeUptoRow.holds Try.pinned (OpenSpec.upto fnExactUnframeSpec)

end Rows
end Go.Proofs.Ytfimkceekebacaa
