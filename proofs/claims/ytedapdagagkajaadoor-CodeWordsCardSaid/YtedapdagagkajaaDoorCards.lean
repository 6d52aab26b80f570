/-
  DERIVED. GIVEN WITH THE SEED: THE CARDS: each row of YtedapdagagkajaaDoorRows.lean that lists a variable, with what it lists TIED to the program's text (the seventh form; the later family's looks); each row that meets fmt, with fmt's text TOLD by the authors' own Lean function (tested against real Go, not proved from fmt's source: count such statements apart). THE CARD IS WHAT COUNTS. Prove the row's statement (the work); the ties are given (YtedapdagagkajaaDoorTie.lean); close each card by the builder's one call (the guide's Derived/Test/ToyasCard.lean, 'card_holds'). Laid BY PROGRAM, IN A SANDBOX (cutbox-door.mjs). By AI agents, Wed Nov 11 2026. No macro, syntax, notation, axiom, sorry.
-/
import Derived.Test.YtedapdagagkajaaDoorRows
import GoSem.ClaimSeven
namespace Go.Proofs.YtedapdagagkajaaDoor
namespace Rows

/-- THE TIED CARD OF 'attestorlaw05.CodeDomains'. -/
def codeDomainsCard : Claim7 := { stood := { row := codeDomainsRow, standIns := [], harness := (true, "07fcc6a9581047dff81f7557740b62748384a1a56cc72b5611a32f1bea9b7354"), looks := false }, kinds := [], alts := [], laidByText := true, laidKinds := [.widerDeep, .data, .data], laidTests := true, laidLooks := .later }
def CodeDomainsCardSaid : Prop := Claim7.holds Tryd.pinned (.plain (OpenSpec.ofChange codeDomainsSpec)) codeDomainsCard

/-- THE TIED CARD OF 'attestorlaw05.CodeExtends'. -/
def codeExtendsCard : Claim7 := { stood := { row := codeExtendsRow, standIns := [], harness := (true, "07fcc6a9581047dff81f7557740b62748384a1a56cc72b5611a32f1bea9b7354"), looks := false }, kinds := [], alts := [], laidByText := true, laidKinds := [.widerDeep, .data, .data], laidTests := true, laidLooks := .later }
def CodeExtendsCardSaid : Prop := Claim7.holds Tryd.pinned (.plain (OpenSpec.ofChange codeExtendsSpec)) codeExtendsCard

/-- THE TIED CARD OF 'attestorlaw05.CodeWords'. -/
def codeWordsCard : Claim7 := { stood := { row := codeWordsRow, standIns := [], harness := (true, "07fcc6a9581047dff81f7557740b62748384a1a56cc72b5611a32f1bea9b7354"), looks := false }, kinds := [], alts := [], laidByText := true, laidKinds := [.widerDeep, .data, .data], laidTests := true, laidLooks := .later }
def CodeWordsCardSaid : Prop := Claim7.holds Tryd.pinned (.plain (OpenSpec.ofChange codeWordsSpec)) codeWordsCard

/-- THE TIED CARD OF 'attestorlaw05.CodeDistance'. -/
def codeDistanceCard : Claim7 := { stood := { row := codeDistanceRow, standIns := [], harness := (true, "07fcc6a9581047dff81f7557740b62748384a1a56cc72b5611a32f1bea9b7354"), looks := false }, kinds := [], alts := [], laidByText := true, laidKinds := [.widerDeep, .data, .data], laidTests := true, laidLooks := .later }
def CodeDistanceCardSaid : Prop := Claim7.holds Tryd.pinned (.plain (OpenSpec.ofChange codeDistanceSpec)) codeDistanceCard

/-- THE TIED CARD OF 'attestorlaw05.CodeErasures'. -/
def codeErasuresCard : Claim7 := { stood := { row := codeErasuresRow, standIns := [], harness := (true, "07fcc6a9581047dff81f7557740b62748384a1a56cc72b5611a32f1bea9b7354"), looks := false }, kinds := [], alts := [], laidByText := true, laidKinds := [.widerDeep, .data, .data], laidTests := true, laidLooks := .later }
def CodeErasuresCardSaid : Prop := Claim7.holds Tryd.pinned (.plain (OpenSpec.ofChange codeErasuresSpec)) codeErasuresCard

/-- THE TIED CARD OF 'attestorlaw05.CodeLocals'. -/
def codeLocalsCard : Claim7 := { stood := { row := codeLocalsRow, standIns := [], harness := (true, "07fcc6a9581047dff81f7557740b62748384a1a56cc72b5611a32f1bea9b7354"), looks := false }, kinds := [], alts := [], laidByText := true, laidKinds := [.widerDeep, .data, .data, .data], laidTests := true, laidLooks := .later }
def CodeLocalsCardSaid : Prop := Claim7.holds Tryd.pinned (.plain (OpenSpec.ofChange codeLocalsSpec)) codeLocalsCard

/-- THE TIED CARD OF 'attestorlaw05.CodeKnown'. -/
def codeKnownCard : Claim7 := { stood := { row := codeKnownRow, standIns := [], harness := (true, "07fcc6a9581047dff81f7557740b62748384a1a56cc72b5611a32f1bea9b7354"), looks := false }, kinds := [], alts := [], laidByText := true, laidKinds := [.widerDeep, .data, .data, .data], laidTests := true, laidLooks := .later }
def CodeKnownCardSaid : Prop := Claim7.holds Tryd.pinned (.plain (OpenSpec.ofChange codeKnownSpec)) codeKnownCard

/-- THE TIED CARD OF 'attestorlaw05.CodeFibres'. -/
def codeFibresCard : Claim7 := { stood := { row := codeFibresRow, standIns := [], harness := (true, "07fcc6a9581047dff81f7557740b62748384a1a56cc72b5611a32f1bea9b7354"), looks := false }, kinds := [], alts := [], laidByText := true, laidKinds := [.widerDeep, .data, .data, .data], laidTests := true, laidLooks := .later }
def CodeFibresCardSaid : Prop := Claim7.holds Tryd.pinned (.plain (OpenSpec.ofChange codeFibresSpec)) codeFibresCard

/-- THE SECOND FORM's CARD OF 'attestorlaw05.CodeDomains'. -/
def codeDomainsUptoCard : Claim7 := { stood := { row := codeDomainsUptoRow, standIns := [], harness := (true, "07fcc6a9581047dff81f7557740b62748384a1a56cc72b5611a32f1bea9b7354"), looks := false }, kinds := [], alts := [], laidByText := true, laidKinds := [.widerDeep, .data, .data], laidTests := true, laidLooks := .later }
def CodeDomainsUptoCardSaid : Prop := Claim7.holds Tryd.pinned (.plain (OpenSpec.upto codeDomainsSpec)) codeDomainsUptoCard

/-- THE SECOND FORM's CARD OF 'attestorlaw05.CodeExtends'. -/
def codeExtendsUptoCard : Claim7 := { stood := { row := codeExtendsUptoRow, standIns := [], harness := (true, "07fcc6a9581047dff81f7557740b62748384a1a56cc72b5611a32f1bea9b7354"), looks := false }, kinds := [], alts := [], laidByText := true, laidKinds := [.widerDeep, .data, .data], laidTests := true, laidLooks := .later }
def CodeExtendsUptoCardSaid : Prop := Claim7.holds Tryd.pinned (.plain (OpenSpec.upto codeExtendsSpec)) codeExtendsUptoCard

/-- THE SECOND FORM's CARD OF 'attestorlaw05.CodeWords'. -/
def codeWordsUptoCard : Claim7 := { stood := { row := codeWordsUptoRow, standIns := [], harness := (true, "07fcc6a9581047dff81f7557740b62748384a1a56cc72b5611a32f1bea9b7354"), looks := false }, kinds := [], alts := [], laidByText := true, laidKinds := [.widerDeep, .data, .data], laidTests := true, laidLooks := .later }
def CodeWordsUptoCardSaid : Prop := Claim7.holds Tryd.pinned (.plain (OpenSpec.upto codeWordsSpec)) codeWordsUptoCard

/-- THE SECOND FORM's CARD OF 'attestorlaw05.CodeDistance'. -/
def codeDistanceUptoCard : Claim7 := { stood := { row := codeDistanceUptoRow, standIns := [], harness := (true, "07fcc6a9581047dff81f7557740b62748384a1a56cc72b5611a32f1bea9b7354"), looks := false }, kinds := [], alts := [], laidByText := true, laidKinds := [.widerDeep, .data, .data], laidTests := true, laidLooks := .later }
def CodeDistanceUptoCardSaid : Prop := Claim7.holds Tryd.pinned (.plain (OpenSpec.upto codeDistanceSpec)) codeDistanceUptoCard

/-- THE SECOND FORM's CARD OF 'attestorlaw05.CodeErasures'. -/
def codeErasuresUptoCard : Claim7 := { stood := { row := codeErasuresUptoRow, standIns := [], harness := (true, "07fcc6a9581047dff81f7557740b62748384a1a56cc72b5611a32f1bea9b7354"), looks := false }, kinds := [], alts := [], laidByText := true, laidKinds := [.widerDeep, .data, .data], laidTests := true, laidLooks := .later }
def CodeErasuresUptoCardSaid : Prop := Claim7.holds Tryd.pinned (.plain (OpenSpec.upto codeErasuresSpec)) codeErasuresUptoCard

/-- THE SECOND FORM's CARD OF 'attestorlaw05.CodeLocals'. -/
def codeLocalsUptoCard : Claim7 := { stood := { row := codeLocalsUptoRow, standIns := [], harness := (true, "07fcc6a9581047dff81f7557740b62748384a1a56cc72b5611a32f1bea9b7354"), looks := false }, kinds := [], alts := [], laidByText := true, laidKinds := [.widerDeep, .data, .data, .data], laidTests := true, laidLooks := .later }
def CodeLocalsUptoCardSaid : Prop := Claim7.holds Tryd.pinned (.plain (OpenSpec.upto codeLocalsSpec)) codeLocalsUptoCard

/-- THE SECOND FORM's CARD OF 'attestorlaw05.CodeKnown'. -/
def codeKnownUptoCard : Claim7 := { stood := { row := codeKnownUptoRow, standIns := [], harness := (true, "07fcc6a9581047dff81f7557740b62748384a1a56cc72b5611a32f1bea9b7354"), looks := false }, kinds := [], alts := [], laidByText := true, laidKinds := [.widerDeep, .data, .data, .data], laidTests := true, laidLooks := .later }
def CodeKnownUptoCardSaid : Prop := Claim7.holds Tryd.pinned (.plain (OpenSpec.upto codeKnownSpec)) codeKnownUptoCard

/-- THE SECOND FORM's CARD OF 'attestorlaw05.CodeFibres'. -/
def codeFibresUptoCard : Claim7 := { stood := { row := codeFibresUptoRow, standIns := [], harness := (true, "07fcc6a9581047dff81f7557740b62748384a1a56cc72b5611a32f1bea9b7354"), looks := false }, kinds := [], alts := [], laidByText := true, laidKinds := [.widerDeep, .data, .data, .data], laidTests := true, laidLooks := .later }
def CodeFibresUptoCardSaid : Prop := Claim7.holds Tryd.pinned (.plain (OpenSpec.upto codeFibresSpec)) codeFibresUptoCard
end Rows
end Go.Proofs.YtedapdagagkajaaDoor
