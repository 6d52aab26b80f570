/-
  NARROWER THAN 'FOR EVERY INPUT', by the rows' own cells (each row's printed sentence says how): PolyThroughs: laid · PolyDivides: laid · PolyOne: laid · PolyRoots: laid · PolyOps: laid · PolyParts: laid · PolyKnown: laid · PolyValues: laid.
  DERIVED. THE GIVEN ROWS OF THIS SEAT. 8 by the template 'for every input the law returns true; each argument reads behind the call as it read before'; 0 by the template 'total and deterministic' (their statements: YtmnahhacobfafaaDoorTotals.lean).
  GIVEN WITH THE SEED: the statements are not yours to turn. If you find one false, say at which input.
  Laid BY PROGRAM, IN A SANDBOX (cutbox-rows.mjs): the forced cells as the released guide's own fill.sh prints them over the translation a359006c26bf1c96… (all of the seat's roots in one cut). By AI agents, Wed Nov 11 2026. No macro, syntax, notation, axiom, sorry.
-/
import Derived.Test.YtmnahhacobfafaaDoorChecked
import GoSem.Claim
import GoSem.ClaimJoined
import GoSem.ClaimMapViews
import Derived.JoinedTies
import Derived.KernelRfl
namespace Go.Proofs.YtmnahhacobfafaaDoor
/- THE CELL 'sum', in the pinned program and in every row, IS THE sha256 OF THE DUMP (.gsa) THAT YtmnahhacobfafaaDoorProg.lean LOADS. Nothing in Lean hashes anything: it is a label: what it is worth is what the hold of that sum in a sandbox is worth. -/
noncomputable def Tryd.pinned : Pinned := { name := "ytmnahhacobfafaadoor", sum := "a359006c26bf1c969ddcee007a1395eea01552166c2d1a0314e2a9d9d95e6af2", checked := Tryd.checked }
namespace Rows
def none {H : Type} : Left H := { results := [], args := [] }

/- WHAT THE LISTED PACKAGE-LEVEL VARIABLES READ AS WHEN THE CALL BEGINS. Each datum BY PROGRAM (the guide's laid-datum.mjs) off the statement by which the dump's own 'gosem.cut.vars' lays the variable. In a bare row this is a premise. The card (YtmnahhacobfafaaDoorCards.lean) ties it to the program's text. -/
def laid_attestor_field_fields {H : Type} : DataW H := .agg [.agg [.lit (.int .u64 97), .lit (.int .u64 5), .lit (.int .i64 5), .lit (.int .i64 5), .slice [.lit (.int .u64 3)] []], .agg [.lit (.int .u64 257), .lit (.int .u64 3), .lit (.int .i64 8), .lit (.int .i64 3), .nil], .agg [.lit (.int .u64 12289), .lit (.int .u64 11), .lit (.int .i64 12), .lit (.int .i64 5), .slice [.lit (.int .u64 3)] []], .agg [.lit (.int .u64 998244353), .lit (.int .u64 3), .lit (.int .i64 23), .lit (.int .i64 3), .slice [.lit (.int .u64 7), .lit (.int .u64 17)] []]]

/-- 'attestorlaw03.PolyThroughs': WHATEVER THE INPUT: true; the input reads as it did. -/
def polyThroughsSpec : ChangeSpec := { name := "polyThroughs", fn := fun _ => fun
  | [d1, d2, d3] => { results := [.lit (.bool true)], args := [d1, d2, d3] }
  | _ => none }
def polyThroughsRow : OpenClaim := { program := "ytmnahhacobfafaadoor", sum := "a359006c26bf1c969ddcee007a1395eea01552166c2d1a0314e2a9d9d95e6af2", func := "attestor/attestorlaw03.PolyThroughs", spec := "polyThroughs", unfollowed := true, recurses := true, named := ["attestor/field.fields"], apart := false, laid := [("attestor/field.fields", laid_attestor_field_fields)] }
def PolyThroughsSaid : Prop := polyThroughsRow.holds Tryd.pinned (OpenSpec.ofChange polyThroughsSpec)

/-- ITS FALSE NEIGHBOUR: 'it returns false'. Refute it at one input. -/
def polyThroughsWrong : ChangeSpec := { name := "polyThroughs", fn := fun _ => fun
  | [d1, d2, d3] => { results := [.lit (.bool false)], args := [d1, d2, d3] }
  | _ => none }
def PolyThroughsWrongFalsely : Prop := polyThroughsRow.holds Tryd.pinned (OpenSpec.ofChange polyThroughsWrong)

/-- 'attestorlaw03.PolyDivides': WHATEVER THE INPUT: true; the input reads as it did. -/
def polyDividesSpec : ChangeSpec := { name := "polyDivides", fn := fun _ => fun
  | [d1, d2, d3] => { results := [.lit (.bool true)], args := [d1, d2, d3] }
  | _ => none }
def polyDividesRow : OpenClaim := { program := "ytmnahhacobfafaadoor", sum := "a359006c26bf1c969ddcee007a1395eea01552166c2d1a0314e2a9d9d95e6af2", func := "attestor/attestorlaw03.PolyDivides", spec := "polyDivides", unfollowed := true, recurses := true, named := ["attestor/field.fields"], apart := false, laid := [("attestor/field.fields", laid_attestor_field_fields)] }
def PolyDividesSaid : Prop := polyDividesRow.holds Tryd.pinned (OpenSpec.ofChange polyDividesSpec)

/-- ITS FALSE NEIGHBOUR: 'it returns false'. Refute it at one input. -/
def polyDividesWrong : ChangeSpec := { name := "polyDivides", fn := fun _ => fun
  | [d1, d2, d3] => { results := [.lit (.bool false)], args := [d1, d2, d3] }
  | _ => none }
def PolyDividesWrongFalsely : Prop := polyDividesRow.holds Tryd.pinned (OpenSpec.ofChange polyDividesWrong)

/-- 'attestorlaw03.PolyOne': WHATEVER THE INPUT: true; the input reads as it did. -/
def polyOneSpec : ChangeSpec := { name := "polyOne", fn := fun _ => fun
  | [d1, d2, d3] => { results := [.lit (.bool true)], args := [d1, d2, d3] }
  | _ => none }
def polyOneRow : OpenClaim := { program := "ytmnahhacobfafaadoor", sum := "a359006c26bf1c969ddcee007a1395eea01552166c2d1a0314e2a9d9d95e6af2", func := "attestor/attestorlaw03.PolyOne", spec := "polyOne", unfollowed := true, recurses := true, named := ["attestor/field.fields"], apart := false, laid := [("attestor/field.fields", laid_attestor_field_fields)] }
def PolyOneSaid : Prop := polyOneRow.holds Tryd.pinned (OpenSpec.ofChange polyOneSpec)

/-- ITS FALSE NEIGHBOUR: 'it returns false'. Refute it at one input. -/
def polyOneWrong : ChangeSpec := { name := "polyOne", fn := fun _ => fun
  | [d1, d2, d3] => { results := [.lit (.bool false)], args := [d1, d2, d3] }
  | _ => none }
def PolyOneWrongFalsely : Prop := polyOneRow.holds Tryd.pinned (OpenSpec.ofChange polyOneWrong)

/-- 'attestorlaw03.PolyRoots': WHATEVER THE INPUT: true; the input reads as it did. -/
def polyRootsSpec : ChangeSpec := { name := "polyRoots", fn := fun _ => fun
  | [d1, d2, d3] => { results := [.lit (.bool true)], args := [d1, d2, d3] }
  | _ => none }
def polyRootsRow : OpenClaim := { program := "ytmnahhacobfafaadoor", sum := "a359006c26bf1c969ddcee007a1395eea01552166c2d1a0314e2a9d9d95e6af2", func := "attestor/attestorlaw03.PolyRoots", spec := "polyRoots", unfollowed := true, recurses := true, named := ["attestor/field.fields"], apart := false, laid := [("attestor/field.fields", laid_attestor_field_fields)] }
def PolyRootsSaid : Prop := polyRootsRow.holds Tryd.pinned (OpenSpec.ofChange polyRootsSpec)

/-- ITS FALSE NEIGHBOUR: 'it returns false'. Refute it at one input. -/
def polyRootsWrong : ChangeSpec := { name := "polyRoots", fn := fun _ => fun
  | [d1, d2, d3] => { results := [.lit (.bool false)], args := [d1, d2, d3] }
  | _ => none }
def PolyRootsWrongFalsely : Prop := polyRootsRow.holds Tryd.pinned (OpenSpec.ofChange polyRootsWrong)

/-- 'attestorlaw03.PolyOps': WHATEVER THE INPUT: true; the input reads as it did. -/
def polyOpsSpec : ChangeSpec := { name := "polyOps", fn := fun _ => fun
  | [d] => { results := [.lit (.bool true)], args := [d] }
  | _ => none }
def polyOpsRow : OpenClaim := { program := "ytmnahhacobfafaadoor", sum := "a359006c26bf1c969ddcee007a1395eea01552166c2d1a0314e2a9d9d95e6af2", func := "attestor/attestorlaw03.PolyOps", spec := "polyOps", unfollowed := true, recurses := true, named := ["attestor/field.fields"], apart := false, laid := [("attestor/field.fields", laid_attestor_field_fields)] }
def PolyOpsSaid : Prop := polyOpsRow.holds Tryd.pinned (OpenSpec.ofChange polyOpsSpec)

/-- ITS FALSE NEIGHBOUR: 'it returns false'. Refute it at one input. -/
def polyOpsWrong : ChangeSpec := { name := "polyOps", fn := fun _ => fun
  | [d] => { results := [.lit (.bool false)], args := [d] }
  | _ => none }
def PolyOpsWrongFalsely : Prop := polyOpsRow.holds Tryd.pinned (OpenSpec.ofChange polyOpsWrong)

/-- 'attestorlaw03.PolyParts': WHATEVER THE INPUT: true; the input reads as it did. -/
def polyPartsSpec : ChangeSpec := { name := "polyParts", fn := fun _ => fun
  | [d1, d2, d3, d4] => { results := [.lit (.bool true)], args := [d1, d2, d3, d4] }
  | _ => none }
def polyPartsRow : OpenClaim := { program := "ytmnahhacobfafaadoor", sum := "a359006c26bf1c969ddcee007a1395eea01552166c2d1a0314e2a9d9d95e6af2", func := "attestor/attestorlaw03.PolyParts", spec := "polyParts", unfollowed := true, recurses := true, named := ["attestor/field.fields"], apart := false, laid := [("attestor/field.fields", laid_attestor_field_fields)] }
def PolyPartsSaid : Prop := polyPartsRow.holds Tryd.pinned (OpenSpec.ofChange polyPartsSpec)

/-- ITS FALSE NEIGHBOUR: 'it returns false'. Refute it at one input. -/
def polyPartsWrong : ChangeSpec := { name := "polyParts", fn := fun _ => fun
  | [d1, d2, d3, d4] => { results := [.lit (.bool false)], args := [d1, d2, d3, d4] }
  | _ => none }
def PolyPartsWrongFalsely : Prop := polyPartsRow.holds Tryd.pinned (OpenSpec.ofChange polyPartsWrong)

/-- 'attestorlaw03.PolyKnown': WHATEVER THE INPUT: true; the input reads as it did. -/
def polyKnownSpec : ChangeSpec := { name := "polyKnown", fn := fun _ => fun
  | [] => { results := [.lit (.bool true)], args := [] }
  | _ => none }
def polyKnownRow : OpenClaim := { program := "ytmnahhacobfafaadoor", sum := "a359006c26bf1c969ddcee007a1395eea01552166c2d1a0314e2a9d9d95e6af2", func := "attestor/attestorlaw03.PolyKnown", spec := "polyKnown", unfollowed := true, recurses := true, named := ["attestor/field.fields"], apart := false, laid := [("attestor/field.fields", laid_attestor_field_fields)] }
def PolyKnownSaid : Prop := polyKnownRow.holds Tryd.pinned (OpenSpec.ofChange polyKnownSpec)

/-- ITS FALSE NEIGHBOUR: 'it returns false'. Refute it at one input. -/
def polyKnownWrong : ChangeSpec := { name := "polyKnown", fn := fun _ => fun
  | [] => { results := [.lit (.bool false)], args := [] }
  | _ => none }
def PolyKnownWrongFalsely : Prop := polyKnownRow.holds Tryd.pinned (OpenSpec.ofChange polyKnownWrong)

/-- 'attestorlaw03.PolyValues': WHATEVER THE INPUT: true; the input reads as it did. -/
def polyValuesSpec : ChangeSpec := { name := "polyValues", fn := fun _ => fun
  | [d1, d2, d3, d4, d5, d6] => { results := [.lit (.bool true)], args := [d1, d2, d3, d4, d5, d6] }
  | _ => none }
def polyValuesRow : OpenClaim := { program := "ytmnahhacobfafaadoor", sum := "a359006c26bf1c969ddcee007a1395eea01552166c2d1a0314e2a9d9d95e6af2", func := "attestor/attestorlaw03.PolyValues", spec := "polyValues", unfollowed := true, recurses := true, named := ["attestor/field.fields"], apart := false, laid := [("attestor/field.fields", laid_attestor_field_fields)] }
def PolyValuesSaid : Prop := polyValuesRow.holds Tryd.pinned (OpenSpec.ofChange polyValuesSpec)

/-- ITS FALSE NEIGHBOUR: 'it returns false'. Refute it at one input. -/
def polyValuesWrong : ChangeSpec := { name := "polyValues", fn := fun _ => fun
  | [d1, d2, d3, d4, d5, d6] => { results := [.lit (.bool false)], args := [d1, d2, d3, d4, d5, d6] }
  | _ => none }
def PolyValuesWrongFalsely : Prop := polyValuesRow.holds Tryd.pinned (OpenSpec.ofChange polyValuesWrong)

/- THE SECOND FORM. 'bulk': how many values and letters a reading holds, each counted each time it is reached (what is shared counts as often as it is met; a slice's spare places count too). A statement '..UptoSaid' is the law's where the arguments, and the package variables that the reading takes, are together of bulk at most 1048576: NARROWER than '..Said'. Prove '..Said' where nothing that the law and all that it calls make is longer than what came in: it says more and counts as full. Else prove '..UptoSaid'. A law counts once. -/
mutual
def uptoBulk {H : Type} : DataW H → Nat
  | .lit (.string bytes) => bytes.length + 1
  | .lit _ => 1
  | .nil => 1
  | .ptr d => uptoBulk d + 1
  | .slice elems spare => uptoBulkAll elems + uptoBulkAll spare + 1
  | .agg parts => uptoBulkAll parts + 1
  | .iface _ d => uptoBulk d + 1
  | .map entries => uptoBulkEntries entries + 1
  | .held _ => 1
def uptoBulkAll {H : Type} : List (DataW H) → Nat
  | [] => 0
  | d :: r => uptoBulk d + uptoBulkAll r
def uptoBulkEntries {H : Type} : List (Lit × DataW H) → Nat
  | [] => 0
  | x :: r => uptoBulkEntry x + uptoBulkEntries r
def uptoBulkEntry {H : Type} : Lit × DataW H → Nat
  | (.string bytes, d) => bytes.length + uptoBulk d + 1
  | (_, d) => uptoBulk d + 1
 end
def uptoSmall : (H : Type) → List (DataW H) → Bool := fun _ ds => decide (uptoBulkAll ds ≤ 1048576)
def OpenSpec.upto (s : _root_.Go.ChangeSpec) : _root_.Go.OpenSpec := { _root_.Go.OpenSpec.ofChange s with cond := some uptoSmall }

/-- 'attestorlaw03.PolyThroughs', WHERE WHAT IT READS IS OF BULK AT MOST 1048576: true; the input reads as it did. -/
def polyThroughsUptoRow : OpenClaim := { program := "ytmnahhacobfafaadoor", sum := "a359006c26bf1c969ddcee007a1395eea01552166c2d1a0314e2a9d9d95e6af2", func := "attestor/attestorlaw03.PolyThroughs", spec := "polyThroughs", unfollowed := true, recurses := true, named := ["attestor/field.fields"], apart := false, laid := [("attestor/field.fields", laid_attestor_field_fields)], narrowed := true }
def PolyThroughsUptoSaid : Prop := polyThroughsUptoRow.holds Tryd.pinned (OpenSpec.upto polyThroughsSpec)

/-- 'attestorlaw03.PolyDivides', WHERE WHAT IT READS IS OF BULK AT MOST 1048576: true; the input reads as it did. -/
def polyDividesUptoRow : OpenClaim := { program := "ytmnahhacobfafaadoor", sum := "a359006c26bf1c969ddcee007a1395eea01552166c2d1a0314e2a9d9d95e6af2", func := "attestor/attestorlaw03.PolyDivides", spec := "polyDivides", unfollowed := true, recurses := true, named := ["attestor/field.fields"], apart := false, laid := [("attestor/field.fields", laid_attestor_field_fields)], narrowed := true }
def PolyDividesUptoSaid : Prop := polyDividesUptoRow.holds Tryd.pinned (OpenSpec.upto polyDividesSpec)

/-- 'attestorlaw03.PolyOne', WHERE WHAT IT READS IS OF BULK AT MOST 1048576: true; the input reads as it did. -/
def polyOneUptoRow : OpenClaim := { program := "ytmnahhacobfafaadoor", sum := "a359006c26bf1c969ddcee007a1395eea01552166c2d1a0314e2a9d9d95e6af2", func := "attestor/attestorlaw03.PolyOne", spec := "polyOne", unfollowed := true, recurses := true, named := ["attestor/field.fields"], apart := false, laid := [("attestor/field.fields", laid_attestor_field_fields)], narrowed := true }
def PolyOneUptoSaid : Prop := polyOneUptoRow.holds Tryd.pinned (OpenSpec.upto polyOneSpec)

/-- 'attestorlaw03.PolyRoots', WHERE WHAT IT READS IS OF BULK AT MOST 1048576: true; the input reads as it did. -/
def polyRootsUptoRow : OpenClaim := { program := "ytmnahhacobfafaadoor", sum := "a359006c26bf1c969ddcee007a1395eea01552166c2d1a0314e2a9d9d95e6af2", func := "attestor/attestorlaw03.PolyRoots", spec := "polyRoots", unfollowed := true, recurses := true, named := ["attestor/field.fields"], apart := false, laid := [("attestor/field.fields", laid_attestor_field_fields)], narrowed := true }
def PolyRootsUptoSaid : Prop := polyRootsUptoRow.holds Tryd.pinned (OpenSpec.upto polyRootsSpec)

/-- 'attestorlaw03.PolyOps', WHERE WHAT IT READS IS OF BULK AT MOST 1048576: true; the input reads as it did. -/
def polyOpsUptoRow : OpenClaim := { program := "ytmnahhacobfafaadoor", sum := "a359006c26bf1c969ddcee007a1395eea01552166c2d1a0314e2a9d9d95e6af2", func := "attestor/attestorlaw03.PolyOps", spec := "polyOps", unfollowed := true, recurses := true, named := ["attestor/field.fields"], apart := false, laid := [("attestor/field.fields", laid_attestor_field_fields)], narrowed := true }
def PolyOpsUptoSaid : Prop := polyOpsUptoRow.holds Tryd.pinned (OpenSpec.upto polyOpsSpec)

/-- 'attestorlaw03.PolyParts', WHERE WHAT IT READS IS OF BULK AT MOST 1048576: true; the input reads as it did. -/
def polyPartsUptoRow : OpenClaim := { program := "ytmnahhacobfafaadoor", sum := "a359006c26bf1c969ddcee007a1395eea01552166c2d1a0314e2a9d9d95e6af2", func := "attestor/attestorlaw03.PolyParts", spec := "polyParts", unfollowed := true, recurses := true, named := ["attestor/field.fields"], apart := false, laid := [("attestor/field.fields", laid_attestor_field_fields)], narrowed := true }
def PolyPartsUptoSaid : Prop := polyPartsUptoRow.holds Tryd.pinned (OpenSpec.upto polyPartsSpec)

/-- 'attestorlaw03.PolyKnown', WHERE WHAT IT READS IS OF BULK AT MOST 1048576: true; the input reads as it did. -/
def polyKnownUptoRow : OpenClaim := { program := "ytmnahhacobfafaadoor", sum := "a359006c26bf1c969ddcee007a1395eea01552166c2d1a0314e2a9d9d95e6af2", func := "attestor/attestorlaw03.PolyKnown", spec := "polyKnown", unfollowed := true, recurses := true, named := ["attestor/field.fields"], apart := false, laid := [("attestor/field.fields", laid_attestor_field_fields)], narrowed := true }
def PolyKnownUptoSaid : Prop := polyKnownUptoRow.holds Tryd.pinned (OpenSpec.upto polyKnownSpec)

/-- 'attestorlaw03.PolyValues', WHERE WHAT IT READS IS OF BULK AT MOST 1048576: true; the input reads as it did. -/
def polyValuesUptoRow : OpenClaim := { program := "ytmnahhacobfafaadoor", sum := "a359006c26bf1c969ddcee007a1395eea01552166c2d1a0314e2a9d9d95e6af2", func := "attestor/attestorlaw03.PolyValues", spec := "polyValues", unfollowed := true, recurses := true, named := ["attestor/field.fields"], apart := false, laid := [("attestor/field.fields", laid_attestor_field_fields)], narrowed := true }
def PolyValuesUptoSaid : Prop := polyValuesUptoRow.holds Tryd.pinned (OpenSpec.upto polyValuesSpec)

end Rows
end Go.Proofs.YtmnahhacobfafaaDoor
