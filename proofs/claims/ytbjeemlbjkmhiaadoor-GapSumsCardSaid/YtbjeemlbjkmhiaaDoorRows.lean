/-
  NARROWER THAN 'FOR EVERY INPUT', by the rows' own cells (each row's printed sentence says how): GapBounds: laid · GapRoots: laid · GapProducts: laid · GapSums: laid · GapArguments: laid · GapTest: laid.
  DERIVED. THE GIVEN ROWS OF THIS SEAT. 6 by the template 'for every input the law returns true; each argument reads behind the call as it read before'; 0 by the template 'total and deterministic' (their statements: YtbjeemlbjkmhiaaDoorTotals.lean).
  GIVEN WITH THE SEED: the statements are not yours to turn. If you find one false, say at which input.
  Laid BY PROGRAM, IN A SANDBOX (cutbox-rows.mjs): the forced cells as the released guide's own fill.sh prints them over the translation aa695a15e779fa7b… (all of the seat's roots in one cut). By AI agents, Wed Nov 11 2026. No macro, syntax, notation, axiom, sorry.
-/
import Derived.Test.YtbjeemlbjkmhiaaDoorChecked
import GoSem.Claim
import GoSem.ClaimJoined
import GoSem.ClaimMapViews
import Derived.JoinedTies
import Derived.KernelRfl
namespace Go.Proofs.YtbjeemlbjkmhiaaDoor
/- THE CELL 'sum', in the pinned program and in every row, IS THE sha256 OF THE DUMP (.gsa) THAT YtbjeemlbjkmhiaaDoorProg.lean LOADS. Nothing in Lean hashes anything: it is a label: what it is worth is what the hold of that sum in a sandbox is worth. -/
noncomputable def Tryd.pinned : Pinned := { name := "ytbjeemlbjkmhiaadoor", sum := "aa695a15e779fa7b0efc49883cba361cf9e1f904c2f1a466b75af395d28fd533", checked := Tryd.checked }
namespace Rows
def none {H : Type} : Left H := { results := [], args := [] }

/- WHAT THE LISTED PACKAGE-LEVEL VARIABLES READ AS WHEN THE CALL BEGINS. Each datum BY PROGRAM (the guide's laid-datum.mjs) off the statement by which the dump's own 'gosem.cut.vars' lays the variable. In a bare row this is a premise. The card (YtbjeemlbjkmhiaaDoorCards.lean) ties it to the program's text. -/
def laid_attestor_field_fields {H : Type} : DataW H := .agg [.agg [.lit (.int .u64 97), .lit (.int .u64 5), .lit (.int .i64 5), .lit (.int .i64 5), .slice [.lit (.int .u64 3)] []], .agg [.lit (.int .u64 257), .lit (.int .u64 3), .lit (.int .i64 8), .lit (.int .i64 3), .nil], .agg [.lit (.int .u64 12289), .lit (.int .u64 11), .lit (.int .i64 12), .lit (.int .i64 5), .slice [.lit (.int .u64 3)] []], .agg [.lit (.int .u64 998244353), .lit (.int .u64 3), .lit (.int .i64 23), .lit (.int .i64 3), .slice [.lit (.int .u64 7), .lit (.int .u64 17)] []]]
def laid_math_bits_deBruijn32tab {H : Type} : DataW H := .agg [.lit (.int .u8 0), .lit (.int .u8 1), .lit (.int .u8 28), .lit (.int .u8 2), .lit (.int .u8 29), .lit (.int .u8 14), .lit (.int .u8 24), .lit (.int .u8 3), .lit (.int .u8 30), .lit (.int .u8 22), .lit (.int .u8 20), .lit (.int .u8 15), .lit (.int .u8 25), .lit (.int .u8 17), .lit (.int .u8 4), .lit (.int .u8 8), .lit (.int .u8 31), .lit (.int .u8 27), .lit (.int .u8 13), .lit (.int .u8 23), .lit (.int .u8 21), .lit (.int .u8 19), .lit (.int .u8 16), .lit (.int .u8 7), .lit (.int .u8 26), .lit (.int .u8 12), .lit (.int .u8 18), .lit (.int .u8 6), .lit (.int .u8 11), .lit (.int .u8 5), .lit (.int .u8 10), .lit (.int .u8 9)]
def laid_math_bits_deBruijn64tab {H : Type} : DataW H := .agg [.lit (.int .u8 0), .lit (.int .u8 1), .lit (.int .u8 56), .lit (.int .u8 2), .lit (.int .u8 57), .lit (.int .u8 49), .lit (.int .u8 28), .lit (.int .u8 3), .lit (.int .u8 61), .lit (.int .u8 58), .lit (.int .u8 42), .lit (.int .u8 50), .lit (.int .u8 38), .lit (.int .u8 29), .lit (.int .u8 17), .lit (.int .u8 4), .lit (.int .u8 62), .lit (.int .u8 47), .lit (.int .u8 59), .lit (.int .u8 36), .lit (.int .u8 45), .lit (.int .u8 43), .lit (.int .u8 51), .lit (.int .u8 22), .lit (.int .u8 53), .lit (.int .u8 39), .lit (.int .u8 33), .lit (.int .u8 30), .lit (.int .u8 24), .lit (.int .u8 18), .lit (.int .u8 12), .lit (.int .u8 5), .lit (.int .u8 63), .lit (.int .u8 55), .lit (.int .u8 48), .lit (.int .u8 27), .lit (.int .u8 60), .lit (.int .u8 41), .lit (.int .u8 37), .lit (.int .u8 16), .lit (.int .u8 46), .lit (.int .u8 35), .lit (.int .u8 44), .lit (.int .u8 21), .lit (.int .u8 52), .lit (.int .u8 32), .lit (.int .u8 23), .lit (.int .u8 11), .lit (.int .u8 54), .lit (.int .u8 26), .lit (.int .u8 40), .lit (.int .u8 15), .lit (.int .u8 34), .lit (.int .u8 20), .lit (.int .u8 31), .lit (.int .u8 10), .lit (.int .u8 25), .lit (.int .u8 14), .lit (.int .u8 19), .lit (.int .u8 9), .lit (.int .u8 13), .lit (.int .u8 8), .lit (.int .u8 7), .lit (.int .u8 6)]
def laid_internal_strconv_uint64pow10 {H : Type} : DataW H := .agg [.lit (.int .u64 1), .lit (.int .u64 10), .lit (.int .u64 100), .lit (.int .u64 1000), .lit (.int .u64 10000), .lit (.int .u64 100000), .lit (.int .u64 1000000), .lit (.int .u64 10000000), .lit (.int .u64 100000000), .lit (.int .u64 1000000000), .lit (.int .u64 10000000000), .lit (.int .u64 100000000000), .lit (.int .u64 1000000000000), .lit (.int .u64 10000000000000), .lit (.int .u64 100000000000000), .lit (.int .u64 1000000000000000), .lit (.int .u64 10000000000000000), .lit (.int .u64 100000000000000000), .lit (.int .u64 1000000000000000000), .lit (.int .u64 10000000000000000000)]

/-- 'attestorlaw11.GapBounds': WHATEVER THE INPUT: true; the input reads as it did. -/
def gapBoundsSpec : ChangeSpec := { name := "gapBounds", fn := fun _ => fun
  | [d1, d2] => { results := [.lit (.bool true)], args := [d1, d2] }
  | _ => none }
def gapBoundsRow : OpenClaim := { program := "ytbjeemlbjkmhiaadoor", sum := "aa695a15e779fa7b0efc49883cba361cf9e1f904c2f1a466b75af395d28fd533", func := "attestor/attestorlaw11.GapBounds", spec := "gapBounds", unfollowed := true, recurses := true, named := ["attestor/field.fields"], apart := false, laid := [("attestor/field.fields", laid_attestor_field_fields)] }
def GapBoundsSaid : Prop := gapBoundsRow.holds Tryd.pinned (OpenSpec.ofChange gapBoundsSpec)

/-- ITS FALSE NEIGHBOUR: 'it returns false'. Refute it at one input. -/
def gapBoundsWrong : ChangeSpec := { name := "gapBounds", fn := fun _ => fun
  | [d1, d2] => { results := [.lit (.bool false)], args := [d1, d2] }
  | _ => none }
def GapBoundsWrongFalsely : Prop := gapBoundsRow.holds Tryd.pinned (OpenSpec.ofChange gapBoundsWrong)

/-- 'attestorlaw11.GapRoots': WHATEVER THE INPUT: true; the input reads as it did. -/
def gapRootsSpec : ChangeSpec := { name := "gapRoots", fn := fun _ => fun
  | [d1, d2, d3] => { results := [.lit (.bool true)], args := [d1, d2, d3] }
  | _ => none }
def gapRootsRow : OpenClaim := { program := "ytbjeemlbjkmhiaadoor", sum := "aa695a15e779fa7b0efc49883cba361cf9e1f904c2f1a466b75af395d28fd533", func := "attestor/attestorlaw11.GapRoots", spec := "gapRoots", unfollowed := true, recurses := true, named := ["attestor/field.fields"], apart := false, laid := [("attestor/field.fields", laid_attestor_field_fields)] }
def GapRootsSaid : Prop := gapRootsRow.holds Tryd.pinned (OpenSpec.ofChange gapRootsSpec)

/-- ITS FALSE NEIGHBOUR: 'it returns false'. Refute it at one input. -/
def gapRootsWrong : ChangeSpec := { name := "gapRoots", fn := fun _ => fun
  | [d1, d2, d3] => { results := [.lit (.bool false)], args := [d1, d2, d3] }
  | _ => none }
def GapRootsWrongFalsely : Prop := gapRootsRow.holds Tryd.pinned (OpenSpec.ofChange gapRootsWrong)

/-- 'attestorlaw11.GapProducts': WHATEVER THE INPUT: true; the input reads as it did. -/
def gapProductsSpec : ChangeSpec := { name := "gapProducts", fn := fun _ => fun
  | [d1, d2, d3, d4, d5] => { results := [.lit (.bool true)], args := [d1, d2, d3, d4, d5] }
  | _ => none }
def gapProductsRow : OpenClaim := { program := "ytbjeemlbjkmhiaadoor", sum := "aa695a15e779fa7b0efc49883cba361cf9e1f904c2f1a466b75af395d28fd533", func := "attestor/attestorlaw11.GapProducts", spec := "gapProducts", unfollowed := true, recurses := true, named := ["attestor/field.fields"], apart := false, laid := [("attestor/field.fields", laid_attestor_field_fields)] }
def GapProductsSaid : Prop := gapProductsRow.holds Tryd.pinned (OpenSpec.ofChange gapProductsSpec)

/-- ITS FALSE NEIGHBOUR: 'it returns false'. Refute it at one input. -/
def gapProductsWrong : ChangeSpec := { name := "gapProducts", fn := fun _ => fun
  | [d1, d2, d3, d4, d5] => { results := [.lit (.bool false)], args := [d1, d2, d3, d4, d5] }
  | _ => none }
def GapProductsWrongFalsely : Prop := gapProductsRow.holds Tryd.pinned (OpenSpec.ofChange gapProductsWrong)

/-- 'attestorlaw11.GapSums': WHATEVER THE INPUT: true; the input reads as it did. -/
def gapSumsSpec : ChangeSpec := { name := "gapSums", fn := fun _ => fun
  | [d1, d2, d3, d4, d5, d6, d7] => { results := [.lit (.bool true)], args := [d1, d2, d3, d4, d5, d6, d7] }
  | _ => none }
def gapSumsRow : OpenClaim := { program := "ytbjeemlbjkmhiaadoor", sum := "aa695a15e779fa7b0efc49883cba361cf9e1f904c2f1a466b75af395d28fd533", func := "attestor/attestorlaw11.GapSums", spec := "gapSums", unfollowed := true, recurses := true, named := ["attestor/field.fields"], apart := false, laid := [("attestor/field.fields", laid_attestor_field_fields)] }
def GapSumsSaid : Prop := gapSumsRow.holds Tryd.pinned (OpenSpec.ofChange gapSumsSpec)

/-- ITS FALSE NEIGHBOUR: 'it returns false'. Refute it at one input. -/
def gapSumsWrong : ChangeSpec := { name := "gapSums", fn := fun _ => fun
  | [d1, d2, d3, d4, d5, d6, d7] => { results := [.lit (.bool false)], args := [d1, d2, d3, d4, d5, d6, d7] }
  | _ => none }
def GapSumsWrongFalsely : Prop := gapSumsRow.holds Tryd.pinned (OpenSpec.ofChange gapSumsWrong)

/-- 'attestorlaw11.GapArguments': WHATEVER THE INPUT: true; the input reads as it did. -/
def gapArgumentsSpec : ChangeSpec := { name := "gapArguments", fn := fun _ => fun
  | [d1, d2, d3, d4, d5] => { results := [.lit (.bool true)], args := [d1, d2, d3, d4, d5] }
  | _ => none }
def gapArgumentsRow : OpenClaim := { program := "ytbjeemlbjkmhiaadoor", sum := "aa695a15e779fa7b0efc49883cba361cf9e1f904c2f1a466b75af395d28fd533", func := "attestor/attestorlaw11.GapArguments", spec := "gapArguments", unfollowed := true, recurses := true, named := ["attestor/field.fields"], apart := false, laid := [("attestor/field.fields", laid_attestor_field_fields)] }
def GapArgumentsSaid : Prop := gapArgumentsRow.holds Tryd.pinned (OpenSpec.ofChange gapArgumentsSpec)

/-- ITS FALSE NEIGHBOUR: 'it returns false'. Refute it at one input. -/
def gapArgumentsWrong : ChangeSpec := { name := "gapArguments", fn := fun _ => fun
  | [d1, d2, d3, d4, d5] => { results := [.lit (.bool false)], args := [d1, d2, d3, d4, d5] }
  | _ => none }
def GapArgumentsWrongFalsely : Prop := gapArgumentsRow.holds Tryd.pinned (OpenSpec.ofChange gapArgumentsWrong)

/-- 'attestorlaw11.GapTest': WHATEVER THE INPUT: true; the input reads as it did. -/
def gapTestSpec : ChangeSpec := { name := "gapTest", fn := fun _ => fun
  | [d1, d2, d3, d4, d5, d6] => { results := [.lit (.bool true)], args := [d1, d2, d3, d4, d5, d6] }
  | _ => none }
def gapTestRow : OpenClaim := { program := "ytbjeemlbjkmhiaadoor", sum := "aa695a15e779fa7b0efc49883cba361cf9e1f904c2f1a466b75af395d28fd533", func := "attestor/attestorlaw11.GapTest", spec := "gapTest", unfollowed := true, recurses := true, named := ["attestor/field.fields", "math/bits.deBruijn32tab", "math/bits.deBruijn64tab", "internal/strconv.uint64pow10"], apart := false, laid := [("attestor/field.fields", laid_attestor_field_fields), ("math/bits.deBruijn32tab", laid_math_bits_deBruijn32tab), ("math/bits.deBruijn64tab", laid_math_bits_deBruijn64tab), ("internal/strconv.uint64pow10", laid_internal_strconv_uint64pow10)] }
def GapTestSaid : Prop := gapTestRow.holds Tryd.pinned (OpenSpec.ofChange gapTestSpec)

/-- ITS FALSE NEIGHBOUR: 'it returns false'. Refute it at one input. -/
def gapTestWrong : ChangeSpec := { name := "gapTest", fn := fun _ => fun
  | [d1, d2, d3, d4, d5, d6] => { results := [.lit (.bool false)], args := [d1, d2, d3, d4, d5, d6] }
  | _ => none }
def GapTestWrongFalsely : Prop := gapTestRow.holds Tryd.pinned (OpenSpec.ofChange gapTestWrong)

/- THE SECOND FORM. 'bulk': how many values and letters a reading holds, each counted each time it is reached (what is shared counts as often as it is met; a slice's spare places count too). A statement '..UptoSaid' is the law's where the arguments, and the package variables that the reading takes, are together of bulk at most 1048576: NARROWER than '..Said'. Prove '..Said' where nothing that the law and all that it calls make is longer than what came in: it says more and counts as full. Else prove '..UptoSaid'. A law counts once. -/
mutual
def uptoBulk {H : Type} : DataW H → Nat
  | .lit (.string bytes) => bytes.length + 1
  | .lit _ => 1
  | .nil => 1
  | .ptr d => uptoBulk d + 1
  | .slice elems spare => uptoBulkAll elems + uptoBulkAll spare + 1
  | .agg parts => uptoBulkAll parts + 1
  | .iface _ d => uptoBulk d + 1
  | .map entries => uptoBulkEntries entries + 1
  | .held _ => 1
def uptoBulkAll {H : Type} : List (DataW H) → Nat
  | [] => 0
  | d :: r => uptoBulk d + uptoBulkAll r
def uptoBulkEntries {H : Type} : List (Lit × DataW H) → Nat
  | [] => 0
  | x :: r => uptoBulkEntry x + uptoBulkEntries r
def uptoBulkEntry {H : Type} : Lit × DataW H → Nat
  | (.string bytes, d) => bytes.length + uptoBulk d + 1
  | (_, d) => uptoBulk d + 1
 end
def uptoSmall : (H : Type) → List (DataW H) → Bool := fun _ ds => decide (uptoBulkAll ds ≤ 1048576)
def OpenSpec.upto (s : _root_.Go.ChangeSpec) : _root_.Go.OpenSpec := { _root_.Go.OpenSpec.ofChange s with cond := some uptoSmall }

/-- 'attestorlaw11.GapBounds', WHERE WHAT IT READS IS OF BULK AT MOST 1048576: true; the input reads as it did. -/
def gapBoundsUptoRow : OpenClaim := { program := "ytbjeemlbjkmhiaadoor", sum := "aa695a15e779fa7b0efc49883cba361cf9e1f904c2f1a466b75af395d28fd533", func := "attestor/attestorlaw11.GapBounds", spec := "gapBounds", unfollowed := true, recurses := true, named := ["attestor/field.fields"], apart := false, laid := [("attestor/field.fields", laid_attestor_field_fields)], narrowed := true }
def GapBoundsUptoSaid : Prop := gapBoundsUptoRow.holds Tryd.pinned (OpenSpec.upto gapBoundsSpec)

/-- 'attestorlaw11.GapRoots', WHERE WHAT IT READS IS OF BULK AT MOST 1048576: true; the input reads as it did. -/
def gapRootsUptoRow : OpenClaim := { program := "ytbjeemlbjkmhiaadoor", sum := "aa695a15e779fa7b0efc49883cba361cf9e1f904c2f1a466b75af395d28fd533", func := "attestor/attestorlaw11.GapRoots", spec := "gapRoots", unfollowed := true, recurses := true, named := ["attestor/field.fields"], apart := false, laid := [("attestor/field.fields", laid_attestor_field_fields)], narrowed := true }
def GapRootsUptoSaid : Prop := gapRootsUptoRow.holds Tryd.pinned (OpenSpec.upto gapRootsSpec)

/-- 'attestorlaw11.GapProducts', WHERE WHAT IT READS IS OF BULK AT MOST 1048576: true; the input reads as it did. -/
def gapProductsUptoRow : OpenClaim := { program := "ytbjeemlbjkmhiaadoor", sum := "aa695a15e779fa7b0efc49883cba361cf9e1f904c2f1a466b75af395d28fd533", func := "attestor/attestorlaw11.GapProducts", spec := "gapProducts", unfollowed := true, recurses := true, named := ["attestor/field.fields"], apart := false, laid := [("attestor/field.fields", laid_attestor_field_fields)], narrowed := true }
def GapProductsUptoSaid : Prop := gapProductsUptoRow.holds Tryd.pinned (OpenSpec.upto gapProductsSpec)

/-- 'attestorlaw11.GapSums', WHERE WHAT IT READS IS OF BULK AT MOST 1048576: true; the input reads as it did. -/
def gapSumsUptoRow : OpenClaim := { program := "ytbjeemlbjkmhiaadoor", sum := "aa695a15e779fa7b0efc49883cba361cf9e1f904c2f1a466b75af395d28fd533", func := "attestor/attestorlaw11.GapSums", spec := "gapSums", unfollowed := true, recurses := true, named := ["attestor/field.fields"], apart := false, laid := [("attestor/field.fields", laid_attestor_field_fields)], narrowed := true }
def GapSumsUptoSaid : Prop := gapSumsUptoRow.holds Tryd.pinned (OpenSpec.upto gapSumsSpec)

/-- 'attestorlaw11.GapArguments', WHERE WHAT IT READS IS OF BULK AT MOST 1048576: true; the input reads as it did. -/
def gapArgumentsUptoRow : OpenClaim := { program := "ytbjeemlbjkmhiaadoor", sum := "aa695a15e779fa7b0efc49883cba361cf9e1f904c2f1a466b75af395d28fd533", func := "attestor/attestorlaw11.GapArguments", spec := "gapArguments", unfollowed := true, recurses := true, named := ["attestor/field.fields"], apart := false, laid := [("attestor/field.fields", laid_attestor_field_fields)], narrowed := true }
def GapArgumentsUptoSaid : Prop := gapArgumentsUptoRow.holds Tryd.pinned (OpenSpec.upto gapArgumentsSpec)

/-- 'attestorlaw11.GapTest', WHERE WHAT IT READS IS OF BULK AT MOST 1048576: true; the input reads as it did. -/
def gapTestUptoRow : OpenClaim := { program := "ytbjeemlbjkmhiaadoor", sum := "aa695a15e779fa7b0efc49883cba361cf9e1f904c2f1a466b75af395d28fd533", func := "attestor/attestorlaw11.GapTest", spec := "gapTest", unfollowed := true, recurses := true, named := ["attestor/field.fields", "math/bits.deBruijn32tab", "math/bits.deBruijn64tab", "internal/strconv.uint64pow10"], apart := false, laid := [("attestor/field.fields", laid_attestor_field_fields), ("math/bits.deBruijn32tab", laid_math_bits_deBruijn32tab), ("math/bits.deBruijn64tab", laid_math_bits_deBruijn64tab), ("internal/strconv.uint64pow10", laid_internal_strconv_uint64pow10)], narrowed := true }
def GapTestUptoSaid : Prop := gapTestUptoRow.holds Tryd.pinned (OpenSpec.upto gapTestSpec)

end Rows
end Go.Proofs.YtbjeemlbjkmhiaaDoor
