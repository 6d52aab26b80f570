/-
  DERIVED. GIVEN WITH THE SEED: THE CARDS: each row of YthinfmfjpaikiaaDoorRows.lean that lists a variable, with what it lists TIED to the program's text (the seventh form; the later family's looks); each row that meets fmt, with fmt's text TOLD by the authors' own Lean function (tested against real Go, not proved from fmt's source: count such statements apart). THE CARD IS WHAT COUNTS. Prove the row's statement (the work); the ties are given (YthinfmfjpaikiaaDoorTie.lean); close each card by the builder's one call (the guide's Derived/Test/ToyasCard.lean, 'card_holds'). Laid BY PROGRAM, IN A SANDBOX (cutbox-door.mjs). By AI agents, Wed Nov 11 2026. No macro, syntax, notation, axiom, sorry.
-/
import Derived.Test.YthinfmfjpaikiaaDoorRows
import GoSem.ClaimSeven
namespace Go.Proofs.YthinfmfjpaikiaaDoor
namespace Rows

/-- THE TIED CARD OF 'attestorlaw09.FoldPoints'. -/
def foldPointsCard : Claim7 := { stood := { row := foldPointsRow, standIns := [], harness := (true, "9fb408294167984cd6f8c2745e24e0d4fdb1acd3f047b175a91e62674666742f"), looks := false }, kinds := [], alts := [], laidByText := true, laidKinds := [.widerDeep, .data, .data], laidTests := true, laidLooks := .later }
def FoldPointsCardSaid : Prop := Claim7.holds Tryd.pinned (.plain (OpenSpec.ofChange foldPointsSpec)) foldPointsCard

/-- THE TIED CARD OF 'attestorlaw09.FoldLinear'. -/
def foldLinearCard : Claim7 := { stood := { row := foldLinearRow, standIns := [], harness := (true, "9fb408294167984cd6f8c2745e24e0d4fdb1acd3f047b175a91e62674666742f"), looks := false }, kinds := [], alts := [], laidByText := true, laidKinds := [.widerDeep, .data, .data], laidTests := true, laidLooks := .later }
def FoldLinearCardSaid : Prop := Claim7.holds Tryd.pinned (.plain (OpenSpec.ofChange foldLinearSpec)) foldLinearCard

/-- THE TIED CARD OF 'attestorlaw09.FoldApart'. -/
def foldApartCard : Claim7 := { stood := { row := foldApartRow, standIns := [], harness := (true, "9fb408294167984cd6f8c2745e24e0d4fdb1acd3f047b175a91e62674666742f"), looks := false }, kinds := [], alts := [], laidByText := true, laidKinds := [.widerDeep, .data, .data], laidTests := true, laidLooks := .later }
def FoldApartCardSaid : Prop := Claim7.holds Tryd.pinned (.plain (OpenSpec.ofChange foldApartSpec)) foldApartCard

/-- THE TIED CARD OF 'attestorlaw09.FoldWords'. -/
def foldWordsCard : Claim7 := { stood := { row := foldWordsRow, standIns := [], harness := (true, "9fb408294167984cd6f8c2745e24e0d4fdb1acd3f047b175a91e62674666742f"), looks := false }, kinds := [], alts := [], laidByText := true, laidKinds := [.widerDeep, .data, .data], laidTests := true, laidLooks := .later }
def FoldWordsCardSaid : Prop := Claim7.holds Tryd.pinned (.plain (OpenSpec.ofChange foldWordsSpec)) foldWordsCard

/-- THE TIED CARD OF 'attestorlaw09.FoldSteps'. -/
def foldStepsCard : Claim7 := { stood := { row := foldStepsRow, standIns := [], harness := (true, "9fb408294167984cd6f8c2745e24e0d4fdb1acd3f047b175a91e62674666742f"), looks := false }, kinds := [], alts := [], laidByText := true, laidKinds := [.widerDeep, .data, .data], laidTests := true, laidLooks := .later }
def FoldStepsCardSaid : Prop := Claim7.holds Tryd.pinned (.plain (OpenSpec.ofChange foldStepsSpec)) foldStepsCard

/-- THE TIED CARD OF 'attestorlaw09.FoldKnown'. -/
def foldKnownCard : Claim7 := { stood := { row := foldKnownRow, standIns := [], harness := (true, "9fb408294167984cd6f8c2745e24e0d4fdb1acd3f047b175a91e62674666742f"), looks := false }, kinds := [], alts := [], laidByText := true, laidKinds := [.widerDeep, .data, .data], laidTests := true, laidLooks := .later }
def FoldKnownCardSaid : Prop := Claim7.holds Tryd.pinned (.plain (OpenSpec.ofChange foldKnownSpec)) foldKnownCard

/-- THE TIED CARD OF 'attestorlaw09.FoldPolys'. -/
def foldPolysCard : Claim7 := { stood := { row := foldPolysRow, standIns := [], harness := (true, "9fb408294167984cd6f8c2745e24e0d4fdb1acd3f047b175a91e62674666742f"), looks := false }, kinds := [], alts := [], laidByText := true, laidKinds := [.widerDeep, .data, .data], laidTests := true, laidLooks := .later }
def FoldPolysCardSaid : Prop := Claim7.holds Tryd.pinned (.plain (OpenSpec.ofChange foldPolysSpec)) foldPolysCard

/-- THE SECOND FORM's CARD OF 'attestorlaw09.FoldPoints'. -/
def foldPointsUptoCard : Claim7 := { stood := { row := foldPointsUptoRow, standIns := [], harness := (true, "9fb408294167984cd6f8c2745e24e0d4fdb1acd3f047b175a91e62674666742f"), looks := false }, kinds := [], alts := [], laidByText := true, laidKinds := [.widerDeep, .data, .data], laidTests := true, laidLooks := .later }
def FoldPointsUptoCardSaid : Prop := Claim7.holds Tryd.pinned (.plain (OpenSpec.upto foldPointsSpec)) foldPointsUptoCard

/-- THE SECOND FORM's CARD OF 'attestorlaw09.FoldLinear'. -/
def foldLinearUptoCard : Claim7 := { stood := { row := foldLinearUptoRow, standIns := [], harness := (true, "9fb408294167984cd6f8c2745e24e0d4fdb1acd3f047b175a91e62674666742f"), looks := false }, kinds := [], alts := [], laidByText := true, laidKinds := [.widerDeep, .data, .data], laidTests := true, laidLooks := .later }
def FoldLinearUptoCardSaid : Prop := Claim7.holds Tryd.pinned (.plain (OpenSpec.upto foldLinearSpec)) foldLinearUptoCard

/-- THE SECOND FORM's CARD OF 'attestorlaw09.FoldApart'. -/
def foldApartUptoCard : Claim7 := { stood := { row := foldApartUptoRow, standIns := [], harness := (true, "9fb408294167984cd6f8c2745e24e0d4fdb1acd3f047b175a91e62674666742f"), looks := false }, kinds := [], alts := [], laidByText := true, laidKinds := [.widerDeep, .data, .data], laidTests := true, laidLooks := .later }
def FoldApartUptoCardSaid : Prop := Claim7.holds Tryd.pinned (.plain (OpenSpec.upto foldApartSpec)) foldApartUptoCard

/-- THE SECOND FORM's CARD OF 'attestorlaw09.FoldWords'. -/
def foldWordsUptoCard : Claim7 := { stood := { row := foldWordsUptoRow, standIns := [], harness := (true, "9fb408294167984cd6f8c2745e24e0d4fdb1acd3f047b175a91e62674666742f"), looks := false }, kinds := [], alts := [], laidByText := true, laidKinds := [.widerDeep, .data, .data], laidTests := true, laidLooks := .later }
def FoldWordsUptoCardSaid : Prop := Claim7.holds Tryd.pinned (.plain (OpenSpec.upto foldWordsSpec)) foldWordsUptoCard

/-- THE SECOND FORM's CARD OF 'attestorlaw09.FoldSteps'. -/
def foldStepsUptoCard : Claim7 := { stood := { row := foldStepsUptoRow, standIns := [], harness := (true, "9fb408294167984cd6f8c2745e24e0d4fdb1acd3f047b175a91e62674666742f"), looks := false }, kinds := [], alts := [], laidByText := true, laidKinds := [.widerDeep, .data, .data], laidTests := true, laidLooks := .later }
def FoldStepsUptoCardSaid : Prop := Claim7.holds Tryd.pinned (.plain (OpenSpec.upto foldStepsSpec)) foldStepsUptoCard

/-- THE SECOND FORM's CARD OF 'attestorlaw09.FoldKnown'. -/
def foldKnownUptoCard : Claim7 := { stood := { row := foldKnownUptoRow, standIns := [], harness := (true, "9fb408294167984cd6f8c2745e24e0d4fdb1acd3f047b175a91e62674666742f"), looks := false }, kinds := [], alts := [], laidByText := true, laidKinds := [.widerDeep, .data, .data], laidTests := true, laidLooks := .later }
def FoldKnownUptoCardSaid : Prop := Claim7.holds Tryd.pinned (.plain (OpenSpec.upto foldKnownSpec)) foldKnownUptoCard

/-- THE SECOND FORM's CARD OF 'attestorlaw09.FoldPolys'. -/
def foldPolysUptoCard : Claim7 := { stood := { row := foldPolysUptoRow, standIns := [], harness := (true, "9fb408294167984cd6f8c2745e24e0d4fdb1acd3f047b175a91e62674666742f"), looks := false }, kinds := [], alts := [], laidByText := true, laidKinds := [.widerDeep, .data, .data], laidTests := true, laidLooks := .later }
def FoldPolysUptoCardSaid : Prop := Claim7.holds Tryd.pinned (.plain (OpenSpec.upto foldPolysSpec)) foldPolysUptoCard
end Rows
end Go.Proofs.YthinfmfjpaikiaaDoor
