/-
  DERIVED. GIVEN WITH THE SEED: THE CARDS: each row of YtbjeemlbjkmhiaaDoorRows.lean that lists a variable, with what it lists TIED to the program's text (the seventh form; the later family's looks); each row that meets fmt, with fmt's text TOLD by the authors' own Lean function (tested against real Go, not proved from fmt's source: count such statements apart). THE CARD IS WHAT COUNTS. Prove the row's statement (the work); the ties are given (YtbjeemlbjkmhiaaDoorTie.lean); close each card by the builder's one call (the guide's Derived/Test/ToyasCard.lean, 'card_holds'). Laid BY PROGRAM, IN A SANDBOX (cutbox-door.mjs). By AI agents, Wed Nov 11 2026. No macro, syntax, notation, axiom, sorry.
-/
import Derived.Test.YtbjeemlbjkmhiaaDoorRows
import GoSem.ClaimSeven
namespace Go.Proofs.YtbjeemlbjkmhiaaDoor
namespace Rows

/-- THE TIED CARD OF 'attestorlaw11.GapBounds'. -/
def gapBoundsCard : Claim7 := { stood := { row := gapBoundsRow, standIns := [], harness := (true, "f4eb3d1f5781b66578e0ce9e38e7b2e3deace4c0177b391ae2c1f21b899f7dc7"), looks := false }, kinds := [], alts := [], laidByText := true, laidKinds := [.widerDeep], laidTests := true, laidLooks := .later }
def GapBoundsCardSaid : Prop := Claim7.holds Tryd.pinned (.plain (OpenSpec.ofChange gapBoundsSpec)) gapBoundsCard

/-- THE TIED CARD OF 'attestorlaw11.GapRoots'. -/
def gapRootsCard : Claim7 := { stood := { row := gapRootsRow, standIns := [], harness := (true, "f4eb3d1f5781b66578e0ce9e38e7b2e3deace4c0177b391ae2c1f21b899f7dc7"), looks := false }, kinds := [], alts := [], laidByText := true, laidKinds := [.widerDeep], laidTests := true, laidLooks := .later }
def GapRootsCardSaid : Prop := Claim7.holds Tryd.pinned (.plain (OpenSpec.ofChange gapRootsSpec)) gapRootsCard

/-- THE TIED CARD OF 'attestorlaw11.GapProducts'. -/
def gapProductsCard : Claim7 := { stood := { row := gapProductsRow, standIns := [], harness := (true, "f4eb3d1f5781b66578e0ce9e38e7b2e3deace4c0177b391ae2c1f21b899f7dc7"), looks := false }, kinds := [], alts := [], laidByText := true, laidKinds := [.widerDeep], laidTests := true, laidLooks := .later }
def GapProductsCardSaid : Prop := Claim7.holds Tryd.pinned (.plain (OpenSpec.ofChange gapProductsSpec)) gapProductsCard

/-- THE TIED CARD OF 'attestorlaw11.GapSums'. -/
def gapSumsCard : Claim7 := { stood := { row := gapSumsRow, standIns := [], harness := (true, "f4eb3d1f5781b66578e0ce9e38e7b2e3deace4c0177b391ae2c1f21b899f7dc7"), looks := false }, kinds := [], alts := [], laidByText := true, laidKinds := [.widerDeep], laidTests := true, laidLooks := .later }
def GapSumsCardSaid : Prop := Claim7.holds Tryd.pinned (.plain (OpenSpec.ofChange gapSumsSpec)) gapSumsCard

/-- THE TIED CARD OF 'attestorlaw11.GapArguments'. -/
def gapArgumentsCard : Claim7 := { stood := { row := gapArgumentsRow, standIns := [], harness := (true, "f4eb3d1f5781b66578e0ce9e38e7b2e3deace4c0177b391ae2c1f21b899f7dc7"), looks := false }, kinds := [], alts := [], laidByText := true, laidKinds := [.widerDeep], laidTests := true, laidLooks := .later }
def GapArgumentsCardSaid : Prop := Claim7.holds Tryd.pinned (.plain (OpenSpec.ofChange gapArgumentsSpec)) gapArgumentsCard

/-- THE TIED CARD OF 'attestorlaw11.GapTest'. -/
def gapTestCard : Claim7 := { stood := { row := gapTestRow, standIns := [], harness := (true, "f4eb3d1f5781b66578e0ce9e38e7b2e3deace4c0177b391ae2c1f21b899f7dc7"), looks := false }, kinds := [], alts := [], laidByText := true, laidKinds := [.widerDeep, .data, .data, .data], laidTests := true, laidLooks := .later }
def GapTestCardSaid : Prop := Claim7.holds Tryd.pinned (.plain (OpenSpec.ofChange gapTestSpec)) gapTestCard

/-- THE SECOND FORM's CARD OF 'attestorlaw11.GapBounds'. -/
def gapBoundsUptoCard : Claim7 := { stood := { row := gapBoundsUptoRow, standIns := [], harness := (true, "f4eb3d1f5781b66578e0ce9e38e7b2e3deace4c0177b391ae2c1f21b899f7dc7"), looks := false }, kinds := [], alts := [], laidByText := true, laidKinds := [.widerDeep], laidTests := true, laidLooks := .later }
def GapBoundsUptoCardSaid : Prop := Claim7.holds Tryd.pinned (.plain (OpenSpec.upto gapBoundsSpec)) gapBoundsUptoCard

/-- THE SECOND FORM's CARD OF 'attestorlaw11.GapRoots'. -/
def gapRootsUptoCard : Claim7 := { stood := { row := gapRootsUptoRow, standIns := [], harness := (true, "f4eb3d1f5781b66578e0ce9e38e7b2e3deace4c0177b391ae2c1f21b899f7dc7"), looks := false }, kinds := [], alts := [], laidByText := true, laidKinds := [.widerDeep], laidTests := true, laidLooks := .later }
def GapRootsUptoCardSaid : Prop := Claim7.holds Tryd.pinned (.plain (OpenSpec.upto gapRootsSpec)) gapRootsUptoCard

/-- THE SECOND FORM's CARD OF 'attestorlaw11.GapProducts'. -/
def gapProductsUptoCard : Claim7 := { stood := { row := gapProductsUptoRow, standIns := [], harness := (true, "f4eb3d1f5781b66578e0ce9e38e7b2e3deace4c0177b391ae2c1f21b899f7dc7"), looks := false }, kinds := [], alts := [], laidByText := true, laidKinds := [.widerDeep], laidTests := true, laidLooks := .later }
def GapProductsUptoCardSaid : Prop := Claim7.holds Tryd.pinned (.plain (OpenSpec.upto gapProductsSpec)) gapProductsUptoCard

/-- THE SECOND FORM's CARD OF 'attestorlaw11.GapSums'. -/
def gapSumsUptoCard : Claim7 := { stood := { row := gapSumsUptoRow, standIns := [], harness := (true, "f4eb3d1f5781b66578e0ce9e38e7b2e3deace4c0177b391ae2c1f21b899f7dc7"), looks := false }, kinds := [], alts := [], laidByText := true, laidKinds := [.widerDeep], laidTests := true, laidLooks := .later }
def GapSumsUptoCardSaid : Prop := Claim7.holds Tryd.pinned (.plain (OpenSpec.upto gapSumsSpec)) gapSumsUptoCard

/-- THE SECOND FORM's CARD OF 'attestorlaw11.GapArguments'. -/
def gapArgumentsUptoCard : Claim7 := { stood := { row := gapArgumentsUptoRow, standIns := [], harness := (true, "f4eb3d1f5781b66578e0ce9e38e7b2e3deace4c0177b391ae2c1f21b899f7dc7"), looks := false }, kinds := [], alts := [], laidByText := true, laidKinds := [.widerDeep], laidTests := true, laidLooks := .later }
def GapArgumentsUptoCardSaid : Prop := Claim7.holds Tryd.pinned (.plain (OpenSpec.upto gapArgumentsSpec)) gapArgumentsUptoCard

/-- THE SECOND FORM's CARD OF 'attestorlaw11.GapTest'. -/
def gapTestUptoCard : Claim7 := { stood := { row := gapTestUptoRow, standIns := [], harness := (true, "f4eb3d1f5781b66578e0ce9e38e7b2e3deace4c0177b391ae2c1f21b899f7dc7"), looks := false }, kinds := [], alts := [], laidByText := true, laidKinds := [.widerDeep, .data, .data, .data], laidTests := true, laidLooks := .later }
def GapTestUptoCardSaid : Prop := Claim7.holds Tryd.pinned (.plain (OpenSpec.upto gapTestSpec)) gapTestUptoCard
end Rows
end Go.Proofs.YtbjeemlbjkmhiaaDoor
