/-
  DERIVED. GIVEN WITH THE SEED: THE CARDS: each row of YtmhbfeglnhangaaDoorRows.lean that lists a variable, with what it lists TIED to the program's text (the seventh form; the later family's looks); each row that meets fmt, with fmt's text TOLD by the authors' own Lean function (tested against real Go, not proved from fmt's source: count such statements apart). THE CARD IS WHAT COUNTS. Prove the row's statement (the work); the ties are given (YtmhbfeglnhangaaDoorTie.lean); close each card by the builder's one call (the guide's Derived/Test/ToyasCard.lean, 'card_holds'). Laid BY PROGRAM, IN A SANDBOX (cutbox-door.mjs). By AI agents, Wed Nov 11 2026. No macro, syntax, notation, axiom, sorry.
-/
import Derived.Test.YtmhbfeglnhangaaDoorRows
import GoSem.ClaimSeven
namespace Go.Proofs.YtmhbfeglnhangaaDoor
namespace Rows

/-- THE TIED CARD OF 'laws.FnExactSha'. -/
def fnExactShaCard : Claim7 := { stood := { row := fnExactShaRow, standIns := [], harness := (true, "8f377b4529ddb00f0062f6252c1f7b706c2a9f0cfc2d507aa24e580916bab316"), looks := false }, kinds := [], alts := [], laidByText := true, laidKinds := [.data], laidTests := true, laidLooks := .later }
def FnExactShaCardSaid : Prop := Claim7.holds Tryd.pinned (.plain (OpenSpec.ofChange fnExactShaSpec)) fnExactShaCard

/-- THE TIED CARD OF 'laws.FnExactShort'. -/
def fnExactShortCard : Claim7 := { stood := { row := fnExactShortRow, standIns := [], harness := (true, "8f377b4529ddb00f0062f6252c1f7b706c2a9f0cfc2d507aa24e580916bab316"), looks := false }, kinds := [], alts := [], laidByText := true, laidKinds := [.data], laidTests := true, laidLooks := .later }
def FnExactShortCardSaid : Prop := Claim7.holds Tryd.pinned (.plain (OpenSpec.ofChange fnExactShortSpec)) fnExactShortCard

/-- THE TIED CARD OF 'laws.FnSha'. -/
def fnShaCard : Claim7 := { stood := { row := fnShaRow, standIns := [], harness := (true, "8f377b4529ddb00f0062f6252c1f7b706c2a9f0cfc2d507aa24e580916bab316"), looks := false }, kinds := [], alts := [], laidByText := true, laidKinds := [.data], laidTests := true, laidLooks := .later }
def FnShaCardSaid : Prop := Claim7.holds Tryd.pinned (.plain (OpenSpec.ofChange fnShaSpec)) fnShaCard

/-- THE TIED CARD OF 'laws.FnExactBlobsOk'. -/
def fnExactBlobsOkCard : Claim7 := { stood := { row := fnExactBlobsOkRow, standIns := [], harness := (true, "8f377b4529ddb00f0062f6252c1f7b706c2a9f0cfc2d507aa24e580916bab316"), looks := false }, kinds := [], alts := [], laidByText := true, laidKinds := [.data], laidTests := true, laidLooks := .later }
def FnExactBlobsOkCardSaid : Prop := Claim7.holds Tryd.pinned (.plain (OpenSpec.ofChange fnExactBlobsOkSpec)) fnExactBlobsOkCard

/-- THE TIED CARD OF 'laws.FnExactBlobUsed'. -/
def fnExactBlobUsedCard : Claim7 := { stood := { row := fnExactBlobUsedRow, standIns := [], harness := (true, "8f377b4529ddb00f0062f6252c1f7b706c2a9f0cfc2d507aa24e580916bab316"), looks := false }, kinds := [], alts := [], laidByText := true, laidKinds := [.data], laidTests := true, laidLooks := .later }
def FnExactBlobUsedCardSaid : Prop := Claim7.holds Tryd.pinned (.plain (OpenSpec.ofChange fnExactBlobUsedSpec)) fnExactBlobUsedCard

/-- THE SECOND FORM's CARD OF 'laws.FnExactSha'. -/
def fnExactShaUptoCard : Claim7 := { stood := { row := fnExactShaUptoRow, standIns := [], harness := (true, "8f377b4529ddb00f0062f6252c1f7b706c2a9f0cfc2d507aa24e580916bab316"), looks := false }, kinds := [], alts := [], laidByText := true, laidKinds := [.data], laidTests := true, laidLooks := .later }
def FnExactShaUptoCardSaid : Prop := Claim7.holds Tryd.pinned (.plain (OpenSpec.upto fnExactShaSpec)) fnExactShaUptoCard

/-- THE SECOND FORM's CARD OF 'laws.FnExactShort'. -/
def fnExactShortUptoCard : Claim7 := { stood := { row := fnExactShortUptoRow, standIns := [], harness := (true, "8f377b4529ddb00f0062f6252c1f7b706c2a9f0cfc2d507aa24e580916bab316"), looks := false }, kinds := [], alts := [], laidByText := true, laidKinds := [.data], laidTests := true, laidLooks := .later }
def FnExactShortUptoCardSaid : Prop := Claim7.holds Tryd.pinned (.plain (OpenSpec.upto fnExactShortSpec)) fnExactShortUptoCard

/-- THE SECOND FORM's CARD OF 'laws.FnSha'. -/
def fnShaUptoCard : Claim7 := { stood := { row := fnShaUptoRow, standIns := [], harness := (true, "8f377b4529ddb00f0062f6252c1f7b706c2a9f0cfc2d507aa24e580916bab316"), looks := false }, kinds := [], alts := [], laidByText := true, laidKinds := [.data], laidTests := true, laidLooks := .later }
def FnShaUptoCardSaid : Prop := Claim7.holds Tryd.pinned (.plain (OpenSpec.upto fnShaSpec)) fnShaUptoCard

/-- THE SECOND FORM's CARD OF 'laws.FnExactBlobsOk'. -/
def fnExactBlobsOkUptoCard : Claim7 := { stood := { row := fnExactBlobsOkUptoRow, standIns := [], harness := (true, "8f377b4529ddb00f0062f6252c1f7b706c2a9f0cfc2d507aa24e580916bab316"), looks := false }, kinds := [], alts := [], laidByText := true, laidKinds := [.data], laidTests := true, laidLooks := .later }
def FnExactBlobsOkUptoCardSaid : Prop := Claim7.holds Tryd.pinned (.plain (OpenSpec.upto fnExactBlobsOkSpec)) fnExactBlobsOkUptoCard

/-- THE SECOND FORM's CARD OF 'laws.FnExactBlobUsed'. -/
def fnExactBlobUsedUptoCard : Claim7 := { stood := { row := fnExactBlobUsedUptoRow, standIns := [], harness := (true, "8f377b4529ddb00f0062f6252c1f7b706c2a9f0cfc2d507aa24e580916bab316"), looks := false }, kinds := [], alts := [], laidByText := true, laidKinds := [.data], laidTests := true, laidLooks := .later }
def FnExactBlobUsedUptoCardSaid : Prop := Claim7.holds Tryd.pinned (.plain (OpenSpec.upto fnExactBlobUsedSpec)) fnExactBlobUsedUptoCard
end Rows
end Go.Proofs.YtmhbfeglnhangaaDoor
