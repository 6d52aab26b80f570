/-
  NARROWER THAN 'FOR EVERY INPUT', by the rows' own cells (each row's printed sentence says how): RatioTexts: laid · RatioPrints: laid · RatioDivides: laid · RatioLowest: laid · RatioRing: laid · RatioFractions: laid · RatioNats: laid · RatioKnown: laid.
  DERIVED. THE GIVEN ROWS OF THIS SEAT. 8 by the template 'for every input the law returns true; each argument reads behind the call as it read before'; 0 by the template 'total and deterministic' (their statements: YtjjjoepnlhpjdaaDoorTotals.lean).
  GIVEN WITH THE SEED: the statements are not yours to turn. If you find one false, say at which input.
  Laid BY PROGRAM, IN A SANDBOX (cutbox-rows.mjs): the forced cells as the released guide's own fill.sh prints them over the translation 41497c86ac997eb8… (all of the seat's roots in one cut). By AI agents, Wed Nov 11 2026. No macro, syntax, notation, axiom, sorry.
-/
import Derived.Test.YtjjjoepnlhpjdaaDoorChecked
import GoSem.PinnedTables
import GoSem.Claim
import GoSem.ClaimJoined
import GoSem.ClaimMapViews
import Derived.JoinedTies
import Derived.KernelRfl
namespace Go.Proofs.YtjjjoepnlhpjdaaDoor
/- THE CELL 'sum', in the pinned program and in every row, IS THE sha256 OF THE DUMP (.gsa) THAT YtjjjoepnlhpjdaaDoorProg.lean LOADS. Nothing in Lean hashes anything: it is a label: what it is worth is what the hold of that sum in a sandbox is worth. -/
noncomputable def Tryd.pinned : Pinned := { name := "ytjjjoepnlhpjdaadoor", sum := "41497c86ac997eb8562b159db70f97e8550b7954368ce86645811011088f54cd", checked := Tryd.checked }
namespace Rows
def none {H : Type} : Left H := { results := [], args := [] }

/- WHAT THE LISTED PACKAGE-LEVEL VARIABLES READ AS WHEN THE CALL BEGINS. Each datum BY PROGRAM (the guide's laid-datum.mjs) off the statement by which the dump's own 'gosem.cut.vars' lays the variable. In a bare row this is a premise. The card (YtjjjoepnlhpjdaaDoorCards.lean) ties it to the program's text. -/
def laid_unicode_utf8_acceptRanges {H : Type} : DataW H := .agg [.agg [.lit (.int .u8 128), .lit (.int .u8 191)], .agg [.lit (.int .u8 160), .lit (.int .u8 191)], .agg [.lit (.int .u8 128), .lit (.int .u8 159)], .agg [.lit (.int .u8 144), .lit (.int .u8 191)], .agg [.lit (.int .u8 128), .lit (.int .u8 143)], .agg [.lit (.int .u8 0), .lit (.int .u8 0)], .agg [.lit (.int .u8 0), .lit (.int .u8 0)], .agg [.lit (.int .u8 0), .lit (.int .u8 0)], .agg [.lit (.int .u8 0), .lit (.int .u8 0)], .agg [.lit (.int .u8 0), .lit (.int .u8 0)], .agg [.lit (.int .u8 0), .lit (.int .u8 0)], .agg [.lit (.int .u8 0), .lit (.int .u8 0)], .agg [.lit (.int .u8 0), .lit (.int .u8 0)], .agg [.lit (.int .u8 0), .lit (.int .u8 0)], .agg [.lit (.int .u8 0), .lit (.int .u8 0)], .agg [.lit (.int .u8 0), .lit (.int .u8 0)]]
/-- One of Go's own tables, pinned by name: the form's constant. -/
def laid_unicode_utf8_first : DataW Unit := Go.Pinned.utf8First

/-- 'attestorlaw02.RatioTexts': WHATEVER THE INPUT: true; the input reads as it did. -/
def ratioTextsSpec : ChangeSpec := { name := "ratioTexts", fn := fun _ => fun
  | [d1, d2] => { results := [.lit (.bool true)], args := [d1, d2] }
  | _ => none }
def ratioTextsRow : OpenClaim := { program := "ytjjjoepnlhpjdaadoor", sum := "41497c86ac997eb8562b159db70f97e8550b7954368ce86645811011088f54cd", func := "attestor/attestorlaw02.RatioTexts", spec := "ratioTexts", inPlace := ["internal/bytealg.CountString", "internal/bytealg.IndexByteString", "internal/bytealg.IndexString"], unfollowed := true, recurses := true, named := ["unicode/utf8.first", "unicode/utf8.acceptRanges", "internal/bytealg.MaxLen"], apart := false, laid := [("unicode/utf8.acceptRanges", laid_unicode_utf8_acceptRanges), ("unicode/utf8.first", laid_unicode_utf8_first)] }
def RatioTextsSaid : Prop := ratioTextsRow.holds Tryd.pinned (OpenSpec.ofChange ratioTextsSpec)

/-- ITS FALSE NEIGHBOUR: 'it returns false'. Refute it at one input. -/
def ratioTextsWrong : ChangeSpec := { name := "ratioTexts", fn := fun _ => fun
  | [d1, d2] => { results := [.lit (.bool false)], args := [d1, d2] }
  | _ => none }
def RatioTextsWrongFalsely : Prop := ratioTextsRow.holds Tryd.pinned (OpenSpec.ofChange ratioTextsWrong)

/-- 'attestorlaw02.RatioPrints': WHATEVER THE INPUT: true; the input reads as it did. -/
def ratioPrintsSpec : ChangeSpec := { name := "ratioPrints", fn := fun _ => fun
  | [d1, d2, d3] => { results := [.lit (.bool true)], args := [d1, d2, d3] }
  | _ => none }
def ratioPrintsRow : OpenClaim := { program := "ytjjjoepnlhpjdaadoor", sum := "41497c86ac997eb8562b159db70f97e8550b7954368ce86645811011088f54cd", func := "attestor/attestorlaw02.RatioPrints", spec := "ratioPrints", inPlace := ["internal/bytealg.CountString", "internal/bytealg.IndexByteString", "internal/bytealg.IndexString"], unfollowed := true, recurses := true, named := ["unicode/utf8.first", "unicode/utf8.acceptRanges", "internal/bytealg.MaxLen"], apart := false, laid := [("unicode/utf8.acceptRanges", laid_unicode_utf8_acceptRanges), ("unicode/utf8.first", laid_unicode_utf8_first)] }
def RatioPrintsSaid : Prop := ratioPrintsRow.holds Tryd.pinned (OpenSpec.ofChange ratioPrintsSpec)

/-- ITS FALSE NEIGHBOUR: 'it returns false'. Refute it at one input. -/
def ratioPrintsWrong : ChangeSpec := { name := "ratioPrints", fn := fun _ => fun
  | [d1, d2, d3] => { results := [.lit (.bool false)], args := [d1, d2, d3] }
  | _ => none }
def RatioPrintsWrongFalsely : Prop := ratioPrintsRow.holds Tryd.pinned (OpenSpec.ofChange ratioPrintsWrong)

/-- 'attestorlaw02.RatioDivides': WHATEVER THE INPUT: true; the input reads as it did. -/
def ratioDividesSpec : ChangeSpec := { name := "ratioDivides", fn := fun _ => fun
  | [d1, d2] => { results := [.lit (.bool true)], args := [d1, d2] }
  | _ => none }
def ratioDividesRow : OpenClaim := { program := "ytjjjoepnlhpjdaadoor", sum := "41497c86ac997eb8562b159db70f97e8550b7954368ce86645811011088f54cd", func := "attestor/attestorlaw02.RatioDivides", spec := "ratioDivides", inPlace := ["internal/bytealg.CountString", "internal/bytealg.IndexByteString", "internal/bytealg.IndexString"], unfollowed := true, recurses := true, named := ["unicode/utf8.first", "unicode/utf8.acceptRanges", "internal/bytealg.MaxLen"], apart := false, laid := [("unicode/utf8.acceptRanges", laid_unicode_utf8_acceptRanges), ("unicode/utf8.first", laid_unicode_utf8_first)] }
def RatioDividesSaid : Prop := ratioDividesRow.holds Tryd.pinned (OpenSpec.ofChange ratioDividesSpec)

/-- ITS FALSE NEIGHBOUR: 'it returns false'. Refute it at one input. -/
def ratioDividesWrong : ChangeSpec := { name := "ratioDivides", fn := fun _ => fun
  | [d1, d2] => { results := [.lit (.bool false)], args := [d1, d2] }
  | _ => none }
def RatioDividesWrongFalsely : Prop := ratioDividesRow.holds Tryd.pinned (OpenSpec.ofChange ratioDividesWrong)

/-- 'attestorlaw02.RatioLowest': WHATEVER THE INPUT: true; the input reads as it did. -/
def ratioLowestSpec : ChangeSpec := { name := "ratioLowest", fn := fun _ => fun
  | [d1, d2, d3, d4] => { results := [.lit (.bool true)], args := [d1, d2, d3, d4] }
  | _ => none }
def ratioLowestRow : OpenClaim := { program := "ytjjjoepnlhpjdaadoor", sum := "41497c86ac997eb8562b159db70f97e8550b7954368ce86645811011088f54cd", func := "attestor/attestorlaw02.RatioLowest", spec := "ratioLowest", inPlace := ["internal/bytealg.CountString", "internal/bytealg.IndexByteString", "internal/bytealg.IndexString"], unfollowed := true, recurses := true, named := ["unicode/utf8.first", "unicode/utf8.acceptRanges", "internal/bytealg.MaxLen"], apart := false, laid := [("unicode/utf8.acceptRanges", laid_unicode_utf8_acceptRanges), ("unicode/utf8.first", laid_unicode_utf8_first)] }
def RatioLowestSaid : Prop := ratioLowestRow.holds Tryd.pinned (OpenSpec.ofChange ratioLowestSpec)

/-- ITS FALSE NEIGHBOUR: 'it returns false'. Refute it at one input. -/
def ratioLowestWrong : ChangeSpec := { name := "ratioLowest", fn := fun _ => fun
  | [d1, d2, d3, d4] => { results := [.lit (.bool false)], args := [d1, d2, d3, d4] }
  | _ => none }
def RatioLowestWrongFalsely : Prop := ratioLowestRow.holds Tryd.pinned (OpenSpec.ofChange ratioLowestWrong)

/-- 'attestorlaw02.RatioRing': WHATEVER THE INPUT: true; the input reads as it did. -/
def ratioRingSpec : ChangeSpec := { name := "ratioRing", fn := fun _ => fun
  | [d1, d2, d3] => { results := [.lit (.bool true)], args := [d1, d2, d3] }
  | _ => none }
def ratioRingRow : OpenClaim := { program := "ytjjjoepnlhpjdaadoor", sum := "41497c86ac997eb8562b159db70f97e8550b7954368ce86645811011088f54cd", func := "attestor/attestorlaw02.RatioRing", spec := "ratioRing", inPlace := ["internal/bytealg.CountString", "internal/bytealg.IndexByteString", "internal/bytealg.IndexString"], unfollowed := true, recurses := true, named := ["unicode/utf8.first", "unicode/utf8.acceptRanges", "internal/bytealg.MaxLen"], apart := false, laid := [("unicode/utf8.acceptRanges", laid_unicode_utf8_acceptRanges), ("unicode/utf8.first", laid_unicode_utf8_first)] }
def RatioRingSaid : Prop := ratioRingRow.holds Tryd.pinned (OpenSpec.ofChange ratioRingSpec)

/-- ITS FALSE NEIGHBOUR: 'it returns false'. Refute it at one input. -/
def ratioRingWrong : ChangeSpec := { name := "ratioRing", fn := fun _ => fun
  | [d1, d2, d3] => { results := [.lit (.bool false)], args := [d1, d2, d3] }
  | _ => none }
def RatioRingWrongFalsely : Prop := ratioRingRow.holds Tryd.pinned (OpenSpec.ofChange ratioRingWrong)

/-- 'attestorlaw02.RatioFractions': WHATEVER THE INPUT: true; the input reads as it did. -/
def ratioFractionsSpec : ChangeSpec := { name := "ratioFractions", fn := fun _ => fun
  | [d1, d2, d3] => { results := [.lit (.bool true)], args := [d1, d2, d3] }
  | _ => none }
def ratioFractionsRow : OpenClaim := { program := "ytjjjoepnlhpjdaadoor", sum := "41497c86ac997eb8562b159db70f97e8550b7954368ce86645811011088f54cd", func := "attestor/attestorlaw02.RatioFractions", spec := "ratioFractions", inPlace := ["internal/bytealg.CountString", "internal/bytealg.IndexByteString", "internal/bytealg.IndexString"], unfollowed := true, recurses := true, named := ["unicode/utf8.first", "unicode/utf8.acceptRanges", "internal/bytealg.MaxLen"], apart := false, laid := [("unicode/utf8.acceptRanges", laid_unicode_utf8_acceptRanges), ("unicode/utf8.first", laid_unicode_utf8_first)] }
def RatioFractionsSaid : Prop := ratioFractionsRow.holds Tryd.pinned (OpenSpec.ofChange ratioFractionsSpec)

/-- ITS FALSE NEIGHBOUR: 'it returns false'. Refute it at one input. -/
def ratioFractionsWrong : ChangeSpec := { name := "ratioFractions", fn := fun _ => fun
  | [d1, d2, d3] => { results := [.lit (.bool false)], args := [d1, d2, d3] }
  | _ => none }
def RatioFractionsWrongFalsely : Prop := ratioFractionsRow.holds Tryd.pinned (OpenSpec.ofChange ratioFractionsWrong)

/-- 'attestorlaw02.RatioNats': WHATEVER THE INPUT: true; the input reads as it did. -/
def ratioNatsSpec : ChangeSpec := { name := "ratioNats", fn := fun _ => fun
  | [d1, d2] => { results := [.lit (.bool true)], args := [d1, d2] }
  | _ => none }
def ratioNatsRow : OpenClaim := { program := "ytjjjoepnlhpjdaadoor", sum := "41497c86ac997eb8562b159db70f97e8550b7954368ce86645811011088f54cd", func := "attestor/attestorlaw02.RatioNats", spec := "ratioNats", inPlace := ["internal/bytealg.CountString", "internal/bytealg.IndexByteString", "internal/bytealg.IndexString"], unfollowed := true, recurses := true, named := ["unicode/utf8.first", "unicode/utf8.acceptRanges", "internal/bytealg.MaxLen"], apart := false, laid := [("unicode/utf8.acceptRanges", laid_unicode_utf8_acceptRanges), ("unicode/utf8.first", laid_unicode_utf8_first)] }
def RatioNatsSaid : Prop := ratioNatsRow.holds Tryd.pinned (OpenSpec.ofChange ratioNatsSpec)

/-- ITS FALSE NEIGHBOUR: 'it returns false'. Refute it at one input. -/
def ratioNatsWrong : ChangeSpec := { name := "ratioNats", fn := fun _ => fun
  | [d1, d2] => { results := [.lit (.bool false)], args := [d1, d2] }
  | _ => none }
def RatioNatsWrongFalsely : Prop := ratioNatsRow.holds Tryd.pinned (OpenSpec.ofChange ratioNatsWrong)

/-- 'attestorlaw02.RatioKnown': WHATEVER THE INPUT: true; the input reads as it did. -/
def ratioKnownSpec : ChangeSpec := { name := "ratioKnown", fn := fun _ => fun
  | [] => { results := [.lit (.bool true)], args := [] }
  | _ => none }
def ratioKnownRow : OpenClaim := { program := "ytjjjoepnlhpjdaadoor", sum := "41497c86ac997eb8562b159db70f97e8550b7954368ce86645811011088f54cd", func := "attestor/attestorlaw02.RatioKnown", spec := "ratioKnown", inPlace := ["internal/bytealg.CountString", "internal/bytealg.IndexByteString", "internal/bytealg.IndexString"], unfollowed := true, recurses := true, named := ["unicode/utf8.first", "unicode/utf8.acceptRanges", "internal/bytealg.MaxLen"], apart := false, laid := [("unicode/utf8.acceptRanges", laid_unicode_utf8_acceptRanges), ("unicode/utf8.first", laid_unicode_utf8_first)] }
def RatioKnownSaid : Prop := ratioKnownRow.holds Tryd.pinned (OpenSpec.ofChange ratioKnownSpec)

/-- ITS FALSE NEIGHBOUR: 'it returns false'. Refute it at one input. -/
def ratioKnownWrong : ChangeSpec := { name := "ratioKnown", fn := fun _ => fun
  | [] => { results := [.lit (.bool false)], args := [] }
  | _ => none }
def RatioKnownWrongFalsely : Prop := ratioKnownRow.holds Tryd.pinned (OpenSpec.ofChange ratioKnownWrong)

/- THE SECOND FORM. 'bulk': how many values and letters a reading holds, each counted each time it is reached (what is shared counts as often as it is met; a slice's spare places count too). A statement '..UptoSaid' is the law's where the arguments, and the package variables that the reading takes, are together of bulk at most 1048576: NARROWER than '..Said'. Prove '..Said' where nothing that the law and all that it calls make is longer than what came in: it says more and counts as full. Else prove '..UptoSaid'. A law counts once. -/
mutual
def uptoBulk {H : Type} : DataW H → Nat
  | .lit (.string bytes) => bytes.length + 1
  | .lit _ => 1
  | .nil => 1
  | .ptr d => uptoBulk d + 1
  | .slice elems spare => uptoBulkAll elems + uptoBulkAll spare + 1
  | .agg parts => uptoBulkAll parts + 1
  | .iface _ d => uptoBulk d + 1
  | .map entries => uptoBulkEntries entries + 1
  | .held _ => 1
def uptoBulkAll {H : Type} : List (DataW H) → Nat
  | [] => 0
  | d :: r => uptoBulk d + uptoBulkAll r
def uptoBulkEntries {H : Type} : List (Lit × DataW H) → Nat
  | [] => 0
  | x :: r => uptoBulkEntry x + uptoBulkEntries r
def uptoBulkEntry {H : Type} : Lit × DataW H → Nat
  | (.string bytes, d) => bytes.length + uptoBulk d + 1
  | (_, d) => uptoBulk d + 1
 end
def uptoSmall : (H : Type) → List (DataW H) → Bool := fun _ ds => decide (uptoBulkAll ds ≤ 1048576)
def OpenSpec.upto (s : _root_.Go.ChangeSpec) : _root_.Go.OpenSpec := { _root_.Go.OpenSpec.ofChange s with cond := some uptoSmall }

/-- 'attestorlaw02.RatioTexts', WHERE WHAT IT READS IS OF BULK AT MOST 1048576: true; the input reads as it did. -/
def ratioTextsUptoRow : OpenClaim := { program := "ytjjjoepnlhpjdaadoor", sum := "41497c86ac997eb8562b159db70f97e8550b7954368ce86645811011088f54cd", func := "attestor/attestorlaw02.RatioTexts", spec := "ratioTexts", inPlace := ["internal/bytealg.CountString", "internal/bytealg.IndexByteString", "internal/bytealg.IndexString"], unfollowed := true, recurses := true, named := ["unicode/utf8.first", "unicode/utf8.acceptRanges", "internal/bytealg.MaxLen"], apart := false, laid := [("unicode/utf8.acceptRanges", laid_unicode_utf8_acceptRanges), ("unicode/utf8.first", laid_unicode_utf8_first)], narrowed := true }
def RatioTextsUptoSaid : Prop := ratioTextsUptoRow.holds Tryd.pinned (OpenSpec.upto ratioTextsSpec)

/-- 'attestorlaw02.RatioPrints', WHERE WHAT IT READS IS OF BULK AT MOST 1048576: true; the input reads as it did. -/
def ratioPrintsUptoRow : OpenClaim := { program := "ytjjjoepnlhpjdaadoor", sum := "41497c86ac997eb8562b159db70f97e8550b7954368ce86645811011088f54cd", func := "attestor/attestorlaw02.RatioPrints", spec := "ratioPrints", inPlace := ["internal/bytealg.CountString", "internal/bytealg.IndexByteString", "internal/bytealg.IndexString"], unfollowed := true, recurses := true, named := ["unicode/utf8.first", "unicode/utf8.acceptRanges", "internal/bytealg.MaxLen"], apart := false, laid := [("unicode/utf8.acceptRanges", laid_unicode_utf8_acceptRanges), ("unicode/utf8.first", laid_unicode_utf8_first)], narrowed := true }
def RatioPrintsUptoSaid : Prop := ratioPrintsUptoRow.holds Tryd.pinned (OpenSpec.upto ratioPrintsSpec)

/-- 'attestorlaw02.RatioDivides', WHERE WHAT IT READS IS OF BULK AT MOST 1048576: true; the input reads as it did. -/
def ratioDividesUptoRow : OpenClaim := { program := "ytjjjoepnlhpjdaadoor", sum := "41497c86ac997eb8562b159db70f97e8550b7954368ce86645811011088f54cd", func := "attestor/attestorlaw02.RatioDivides", spec := "ratioDivides", inPlace := ["internal/bytealg.CountString", "internal/bytealg.IndexByteString", "internal/bytealg.IndexString"], unfollowed := true, recurses := true, named := ["unicode/utf8.first", "unicode/utf8.acceptRanges", "internal/bytealg.MaxLen"], apart := false, laid := [("unicode/utf8.acceptRanges", laid_unicode_utf8_acceptRanges), ("unicode/utf8.first", laid_unicode_utf8_first)], narrowed := true }
def RatioDividesUptoSaid : Prop := ratioDividesUptoRow.holds Tryd.pinned (OpenSpec.upto ratioDividesSpec)

/-- 'attestorlaw02.RatioLowest', WHERE WHAT IT READS IS OF BULK AT MOST 1048576: true; the input reads as it did. -/
def ratioLowestUptoRow : OpenClaim := { program := "ytjjjoepnlhpjdaadoor", sum := "41497c86ac997eb8562b159db70f97e8550b7954368ce86645811011088f54cd", func := "attestor/attestorlaw02.RatioLowest", spec := "ratioLowest", inPlace := ["internal/bytealg.CountString", "internal/bytealg.IndexByteString", "internal/bytealg.IndexString"], unfollowed := true, recurses := true, named := ["unicode/utf8.first", "unicode/utf8.acceptRanges", "internal/bytealg.MaxLen"], apart := false, laid := [("unicode/utf8.acceptRanges", laid_unicode_utf8_acceptRanges), ("unicode/utf8.first", laid_unicode_utf8_first)], narrowed := true }
def RatioLowestUptoSaid : Prop := ratioLowestUptoRow.holds Tryd.pinned (OpenSpec.upto ratioLowestSpec)

/-- 'attestorlaw02.RatioRing', WHERE WHAT IT READS IS OF BULK AT MOST 1048576: true; the input reads as it did. -/
def ratioRingUptoRow : OpenClaim := { program := "ytjjjoepnlhpjdaadoor", sum := "41497c86ac997eb8562b159db70f97e8550b7954368ce86645811011088f54cd", func := "attestor/attestorlaw02.RatioRing", spec := "ratioRing", inPlace := ["internal/bytealg.CountString", "internal/bytealg.IndexByteString", "internal/bytealg.IndexString"], unfollowed := true, recurses := true, named := ["unicode/utf8.first", "unicode/utf8.acceptRanges", "internal/bytealg.MaxLen"], apart := false, laid := [("unicode/utf8.acceptRanges", laid_unicode_utf8_acceptRanges), ("unicode/utf8.first", laid_unicode_utf8_first)], narrowed := true }
def RatioRingUptoSaid : Prop := ratioRingUptoRow.holds Tryd.pinned (OpenSpec.upto ratioRingSpec)

/-- 'attestorlaw02.RatioFractions', WHERE WHAT IT READS IS OF BULK AT MOST 1048576: true; the input reads as it did. -/
def ratioFractionsUptoRow : OpenClaim := { program := "ytjjjoepnlhpjdaadoor", sum := "41497c86ac997eb8562b159db70f97e8550b7954368ce86645811011088f54cd", func := "attestor/attestorlaw02.RatioFractions", spec := "ratioFractions", inPlace := ["internal/bytealg.CountString", "internal/bytealg.IndexByteString", "internal/bytealg.IndexString"], unfollowed := true, recurses := true, named := ["unicode/utf8.first", "unicode/utf8.acceptRanges", "internal/bytealg.MaxLen"], apart := false, laid := [("unicode/utf8.acceptRanges", laid_unicode_utf8_acceptRanges), ("unicode/utf8.first", laid_unicode_utf8_first)], narrowed := true }
def RatioFractionsUptoSaid : Prop := ratioFractionsUptoRow.holds Tryd.pinned (OpenSpec.upto ratioFractionsSpec)

/-- 'attestorlaw02.RatioNats', WHERE WHAT IT READS IS OF BULK AT MOST 1048576: true; the input reads as it did. -/
def ratioNatsUptoRow : OpenClaim := { program := "ytjjjoepnlhpjdaadoor", sum := "41497c86ac997eb8562b159db70f97e8550b7954368ce86645811011088f54cd", func := "attestor/attestorlaw02.RatioNats", spec := "ratioNats", inPlace := ["internal/bytealg.CountString", "internal/bytealg.IndexByteString", "internal/bytealg.IndexString"], unfollowed := true, recurses := true, named := ["unicode/utf8.first", "unicode/utf8.acceptRanges", "internal/bytealg.MaxLen"], apart := false, laid := [("unicode/utf8.acceptRanges", laid_unicode_utf8_acceptRanges), ("unicode/utf8.first", laid_unicode_utf8_first)], narrowed := true }
def RatioNatsUptoSaid : Prop := ratioNatsUptoRow.holds Tryd.pinned (OpenSpec.upto ratioNatsSpec)

/-- 'attestorlaw02.RatioKnown', WHERE WHAT IT READS IS OF BULK AT MOST 1048576: true; the input reads as it did. -/
def ratioKnownUptoRow : OpenClaim := { program := "ytjjjoepnlhpjdaadoor", sum := "41497c86ac997eb8562b159db70f97e8550b7954368ce86645811011088f54cd", func := "attestor/attestorlaw02.RatioKnown", spec := "ratioKnown", inPlace := ["internal/bytealg.CountString", "internal/bytealg.IndexByteString", "internal/bytealg.IndexString"], unfollowed := true, recurses := true, named := ["unicode/utf8.first", "unicode/utf8.acceptRanges", "internal/bytealg.MaxLen"], apart := false, laid := [("unicode/utf8.acceptRanges", laid_unicode_utf8_acceptRanges), ("unicode/utf8.first", laid_unicode_utf8_first)], narrowed := true }
def RatioKnownUptoSaid : Prop := ratioKnownUptoRow.holds Tryd.pinned (OpenSpec.upto ratioKnownSpec)

end Rows
end Go.Proofs.YtjjjoepnlhpjdaaDoor
