/-
  NARROWER THAN 'FOR EVERY INPUT', by the rows' own cells (each row's printed sentence says how): TransformValues: laid · TransformBack: laid · TransformMultiplies: laid · TransformInverse: laid · TransformKnown: laid · TransformMeans: laid · TransformProducts: laid.
  DERIVED. THE GIVEN ROWS OF THIS SEAT. 7 by the template 'for every input the law returns true; each argument reads behind the call as it read before'; 0 by the template 'total and deterministic' (their statements: YtdjjdlkglinlgaaDoorTotals.lean).
  GIVEN WITH THE SEED: the statements are not yours to turn. If you find one false, say at which input.
  Laid BY PROGRAM, IN A SANDBOX (cutbox-rows.mjs): the forced cells as the released guide's own fill.sh prints them over the translation d1e007c37ee611cd… (all of the seat's roots in one cut). By AI agents, Wed Nov 11 2026. No macro, syntax, notation, axiom, sorry.
-/
import Derived.Test.YtdjjdlkglinlgaaDoorChecked
import GoSem.Claim
import GoSem.ClaimJoined
import GoSem.ClaimMapViews
import Derived.JoinedTies
import Derived.KernelRfl
namespace Go.Proofs.YtdjjdlkglinlgaaDoor
/- THE CELL 'sum', in the pinned program and in every row, IS THE sha256 OF THE DUMP (.gsa) THAT YtdjjdlkglinlgaaDoorProg.lean LOADS. Nothing in Lean hashes anything: it is a label: what it is worth is what the hold of that sum in a sandbox is worth. -/
noncomputable def Tryd.pinned : Pinned := { name := "ytdjjdlkglinlgaadoor", sum := "d1e007c37ee611cd53a4ef79ca4f2d6dbb64e42d2199f43ec9d22904f294c3ff", checked := Tryd.checked }
namespace Rows
def none {H : Type} : Left H := { results := [], args := [] }

/- WHAT THE LISTED PACKAGE-LEVEL VARIABLES READ AS WHEN THE CALL BEGINS. Each datum BY PROGRAM (the guide's laid-datum.mjs) off the statement by which the dump's own 'gosem.cut.vars' lays the variable. In a bare row this is a premise. The card (YtdjjdlkglinlgaaDoorCards.lean) ties it to the program's text. -/
def laid_attestor_field_fields {H : Type} : DataW H := .agg [.agg [.lit (.int .u64 97), .lit (.int .u64 5), .lit (.int .i64 5), .lit (.int .i64 5), .slice [.lit (.int .u64 3)] []], .agg [.lit (.int .u64 257), .lit (.int .u64 3), .lit (.int .i64 8), .lit (.int .i64 3), .nil], .agg [.lit (.int .u64 12289), .lit (.int .u64 11), .lit (.int .i64 12), .lit (.int .i64 5), .slice [.lit (.int .u64 3)] []], .agg [.lit (.int .u64 998244353), .lit (.int .u64 3), .lit (.int .i64 23), .lit (.int .i64 3), .slice [.lit (.int .u64 7), .lit (.int .u64 17)] []]]
def laid_math_bits_deBruijn32tab {H : Type} : DataW H := .agg [.lit (.int .u8 0), .lit (.int .u8 1), .lit (.int .u8 28), .lit (.int .u8 2), .lit (.int .u8 29), .lit (.int .u8 14), .lit (.int .u8 24), .lit (.int .u8 3), .lit (.int .u8 30), .lit (.int .u8 22), .lit (.int .u8 20), .lit (.int .u8 15), .lit (.int .u8 25), .lit (.int .u8 17), .lit (.int .u8 4), .lit (.int .u8 8), .lit (.int .u8 31), .lit (.int .u8 27), .lit (.int .u8 13), .lit (.int .u8 23), .lit (.int .u8 21), .lit (.int .u8 19), .lit (.int .u8 16), .lit (.int .u8 7), .lit (.int .u8 26), .lit (.int .u8 12), .lit (.int .u8 18), .lit (.int .u8 6), .lit (.int .u8 11), .lit (.int .u8 5), .lit (.int .u8 10), .lit (.int .u8 9)]
def laid_math_bits_deBruijn64tab {H : Type} : DataW H := .agg [.lit (.int .u8 0), .lit (.int .u8 1), .lit (.int .u8 56), .lit (.int .u8 2), .lit (.int .u8 57), .lit (.int .u8 49), .lit (.int .u8 28), .lit (.int .u8 3), .lit (.int .u8 61), .lit (.int .u8 58), .lit (.int .u8 42), .lit (.int .u8 50), .lit (.int .u8 38), .lit (.int .u8 29), .lit (.int .u8 17), .lit (.int .u8 4), .lit (.int .u8 62), .lit (.int .u8 47), .lit (.int .u8 59), .lit (.int .u8 36), .lit (.int .u8 45), .lit (.int .u8 43), .lit (.int .u8 51), .lit (.int .u8 22), .lit (.int .u8 53), .lit (.int .u8 39), .lit (.int .u8 33), .lit (.int .u8 30), .lit (.int .u8 24), .lit (.int .u8 18), .lit (.int .u8 12), .lit (.int .u8 5), .lit (.int .u8 63), .lit (.int .u8 55), .lit (.int .u8 48), .lit (.int .u8 27), .lit (.int .u8 60), .lit (.int .u8 41), .lit (.int .u8 37), .lit (.int .u8 16), .lit (.int .u8 46), .lit (.int .u8 35), .lit (.int .u8 44), .lit (.int .u8 21), .lit (.int .u8 52), .lit (.int .u8 32), .lit (.int .u8 23), .lit (.int .u8 11), .lit (.int .u8 54), .lit (.int .u8 26), .lit (.int .u8 40), .lit (.int .u8 15), .lit (.int .u8 34), .lit (.int .u8 20), .lit (.int .u8 31), .lit (.int .u8 10), .lit (.int .u8 25), .lit (.int .u8 14), .lit (.int .u8 19), .lit (.int .u8 9), .lit (.int .u8 13), .lit (.int .u8 8), .lit (.int .u8 7), .lit (.int .u8 6)]

/-- 'attestorlaw04.TransformValues': WHATEVER THE INPUT: true; the input reads as it did. -/
def transformValuesSpec : ChangeSpec := { name := "transformValues", fn := fun _ => fun
  | [d1, d2, d3, d4] => { results := [.lit (.bool true)], args := [d1, d2, d3, d4] }
  | _ => none }
def transformValuesRow : OpenClaim := { program := "ytdjjdlkglinlgaadoor", sum := "d1e007c37ee611cd53a4ef79ca4f2d6dbb64e42d2199f43ec9d22904f294c3ff", func := "attestor/attestorlaw04.TransformValues", spec := "transformValues", unfollowed := true, recurses := true, named := ["attestor/field.fields", "math/bits.deBruijn32tab", "math/bits.deBruijn64tab"], apart := false, laid := [("attestor/field.fields", laid_attestor_field_fields), ("math/bits.deBruijn32tab", laid_math_bits_deBruijn32tab), ("math/bits.deBruijn64tab", laid_math_bits_deBruijn64tab)] }
def TransformValuesSaid : Prop := transformValuesRow.holds Tryd.pinned (OpenSpec.ofChange transformValuesSpec)

/-- ITS FALSE NEIGHBOUR: 'it returns false'. Refute it at one input. -/
def transformValuesWrong : ChangeSpec := { name := "transformValues", fn := fun _ => fun
  | [d1, d2, d3, d4] => { results := [.lit (.bool false)], args := [d1, d2, d3, d4] }
  | _ => none }
def TransformValuesWrongFalsely : Prop := transformValuesRow.holds Tryd.pinned (OpenSpec.ofChange transformValuesWrong)

/-- 'attestorlaw04.TransformBack': WHATEVER THE INPUT: true; the input reads as it did. -/
def transformBackSpec : ChangeSpec := { name := "transformBack", fn := fun _ => fun
  | [d1, d2, d3, d4] => { results := [.lit (.bool true)], args := [d1, d2, d3, d4] }
  | _ => none }
def transformBackRow : OpenClaim := { program := "ytdjjdlkglinlgaadoor", sum := "d1e007c37ee611cd53a4ef79ca4f2d6dbb64e42d2199f43ec9d22904f294c3ff", func := "attestor/attestorlaw04.TransformBack", spec := "transformBack", unfollowed := true, recurses := true, named := ["attestor/field.fields", "math/bits.deBruijn32tab", "math/bits.deBruijn64tab"], apart := false, laid := [("attestor/field.fields", laid_attestor_field_fields), ("math/bits.deBruijn32tab", laid_math_bits_deBruijn32tab), ("math/bits.deBruijn64tab", laid_math_bits_deBruijn64tab)] }
def TransformBackSaid : Prop := transformBackRow.holds Tryd.pinned (OpenSpec.ofChange transformBackSpec)

/-- ITS FALSE NEIGHBOUR: 'it returns false'. Refute it at one input. -/
def transformBackWrong : ChangeSpec := { name := "transformBack", fn := fun _ => fun
  | [d1, d2, d3, d4] => { results := [.lit (.bool false)], args := [d1, d2, d3, d4] }
  | _ => none }
def TransformBackWrongFalsely : Prop := transformBackRow.holds Tryd.pinned (OpenSpec.ofChange transformBackWrong)

/-- 'attestorlaw04.TransformMultiplies': WHATEVER THE INPUT: true; the input reads as it did. -/
def transformMultipliesSpec : ChangeSpec := { name := "transformMultiplies", fn := fun _ => fun
  | [d1, d2, d3] => { results := [.lit (.bool true)], args := [d1, d2, d3] }
  | _ => none }
def transformMultipliesRow : OpenClaim := { program := "ytdjjdlkglinlgaadoor", sum := "d1e007c37ee611cd53a4ef79ca4f2d6dbb64e42d2199f43ec9d22904f294c3ff", func := "attestor/attestorlaw04.TransformMultiplies", spec := "transformMultiplies", unfollowed := true, recurses := true, named := ["attestor/field.fields", "math/bits.deBruijn32tab", "math/bits.deBruijn64tab"], apart := false, laid := [("attestor/field.fields", laid_attestor_field_fields), ("math/bits.deBruijn32tab", laid_math_bits_deBruijn32tab), ("math/bits.deBruijn64tab", laid_math_bits_deBruijn64tab)] }
def TransformMultipliesSaid : Prop := transformMultipliesRow.holds Tryd.pinned (OpenSpec.ofChange transformMultipliesSpec)

/-- ITS FALSE NEIGHBOUR: 'it returns false'. Refute it at one input. -/
def transformMultipliesWrong : ChangeSpec := { name := "transformMultiplies", fn := fun _ => fun
  | [d1, d2, d3] => { results := [.lit (.bool false)], args := [d1, d2, d3] }
  | _ => none }
def TransformMultipliesWrongFalsely : Prop := transformMultipliesRow.holds Tryd.pinned (OpenSpec.ofChange transformMultipliesWrong)

/-- 'attestorlaw04.TransformInverse': WHATEVER THE INPUT: true; the input reads as it did. -/
def transformInverseSpec : ChangeSpec := { name := "transformInverse", fn := fun _ => fun
  | [d1, d2, d3, d4] => { results := [.lit (.bool true)], args := [d1, d2, d3, d4] }
  | _ => none }
def transformInverseRow : OpenClaim := { program := "ytdjjdlkglinlgaadoor", sum := "d1e007c37ee611cd53a4ef79ca4f2d6dbb64e42d2199f43ec9d22904f294c3ff", func := "attestor/attestorlaw04.TransformInverse", spec := "transformInverse", unfollowed := true, recurses := true, named := ["attestor/field.fields", "math/bits.deBruijn32tab", "math/bits.deBruijn64tab"], apart := false, laid := [("attestor/field.fields", laid_attestor_field_fields), ("math/bits.deBruijn32tab", laid_math_bits_deBruijn32tab), ("math/bits.deBruijn64tab", laid_math_bits_deBruijn64tab)] }
def TransformInverseSaid : Prop := transformInverseRow.holds Tryd.pinned (OpenSpec.ofChange transformInverseSpec)

/-- ITS FALSE NEIGHBOUR: 'it returns false'. Refute it at one input. -/
def transformInverseWrong : ChangeSpec := { name := "transformInverse", fn := fun _ => fun
  | [d1, d2, d3, d4] => { results := [.lit (.bool false)], args := [d1, d2, d3, d4] }
  | _ => none }
def TransformInverseWrongFalsely : Prop := transformInverseRow.holds Tryd.pinned (OpenSpec.ofChange transformInverseWrong)

/-- 'attestorlaw04.TransformKnown': WHATEVER THE INPUT: true; the input reads as it did. -/
def transformKnownSpec : ChangeSpec := { name := "transformKnown", fn := fun _ => fun
  | [] => { results := [.lit (.bool true)], args := [] }
  | _ => none }
def transformKnownRow : OpenClaim := { program := "ytdjjdlkglinlgaadoor", sum := "d1e007c37ee611cd53a4ef79ca4f2d6dbb64e42d2199f43ec9d22904f294c3ff", func := "attestor/attestorlaw04.TransformKnown", spec := "transformKnown", unfollowed := true, recurses := true, named := ["attestor/field.fields", "math/bits.deBruijn32tab", "math/bits.deBruijn64tab"], apart := false, laid := [("attestor/field.fields", laid_attestor_field_fields), ("math/bits.deBruijn32tab", laid_math_bits_deBruijn32tab), ("math/bits.deBruijn64tab", laid_math_bits_deBruijn64tab)] }
def TransformKnownSaid : Prop := transformKnownRow.holds Tryd.pinned (OpenSpec.ofChange transformKnownSpec)

/-- ITS FALSE NEIGHBOUR: 'it returns false'. Refute it at one input. -/
def transformKnownWrong : ChangeSpec := { name := "transformKnown", fn := fun _ => fun
  | [] => { results := [.lit (.bool false)], args := [] }
  | _ => none }
def TransformKnownWrongFalsely : Prop := transformKnownRow.holds Tryd.pinned (OpenSpec.ofChange transformKnownWrong)

/-- 'attestorlaw04.TransformMeans': WHATEVER THE INPUT: true; the input reads as it did. -/
def transformMeansSpec : ChangeSpec := { name := "transformMeans", fn := fun _ => fun
  | [d1, d2, d3, d4, d5] => { results := [.lit (.bool true)], args := [d1, d2, d3, d4, d5] }
  | _ => none }
def transformMeansRow : OpenClaim := { program := "ytdjjdlkglinlgaadoor", sum := "d1e007c37ee611cd53a4ef79ca4f2d6dbb64e42d2199f43ec9d22904f294c3ff", func := "attestor/attestorlaw04.TransformMeans", spec := "transformMeans", unfollowed := true, recurses := true, named := ["attestor/field.fields", "math/bits.deBruijn32tab", "math/bits.deBruijn64tab"], apart := false, laid := [("attestor/field.fields", laid_attestor_field_fields), ("math/bits.deBruijn32tab", laid_math_bits_deBruijn32tab), ("math/bits.deBruijn64tab", laid_math_bits_deBruijn64tab)] }
def TransformMeansSaid : Prop := transformMeansRow.holds Tryd.pinned (OpenSpec.ofChange transformMeansSpec)

/-- ITS FALSE NEIGHBOUR: 'it returns false'. Refute it at one input. -/
def transformMeansWrong : ChangeSpec := { name := "transformMeans", fn := fun _ => fun
  | [d1, d2, d3, d4, d5] => { results := [.lit (.bool false)], args := [d1, d2, d3, d4, d5] }
  | _ => none }
def TransformMeansWrongFalsely : Prop := transformMeansRow.holds Tryd.pinned (OpenSpec.ofChange transformMeansWrong)

/-- 'attestorlaw04.TransformProducts': WHATEVER THE INPUT: true; the input reads as it did. -/
def transformProductsSpec : ChangeSpec := { name := "transformProducts", fn := fun _ => fun
  | [d1, d2, d3, d4, d5] => { results := [.lit (.bool true)], args := [d1, d2, d3, d4, d5] }
  | _ => none }
def transformProductsRow : OpenClaim := { program := "ytdjjdlkglinlgaadoor", sum := "d1e007c37ee611cd53a4ef79ca4f2d6dbb64e42d2199f43ec9d22904f294c3ff", func := "attestor/attestorlaw04.TransformProducts", spec := "transformProducts", unfollowed := true, recurses := true, named := ["attestor/field.fields", "math/bits.deBruijn32tab", "math/bits.deBruijn64tab"], apart := false, laid := [("attestor/field.fields", laid_attestor_field_fields), ("math/bits.deBruijn32tab", laid_math_bits_deBruijn32tab), ("math/bits.deBruijn64tab", laid_math_bits_deBruijn64tab)] }
def TransformProductsSaid : Prop := transformProductsRow.holds Tryd.pinned (OpenSpec.ofChange transformProductsSpec)

/-- ITS FALSE NEIGHBOUR: 'it returns false'. Refute it at one input. -/
def transformProductsWrong : ChangeSpec := { name := "transformProducts", fn := fun _ => fun
  | [d1, d2, d3, d4, d5] => { results := [.lit (.bool false)], args := [d1, d2, d3, d4, d5] }
  | _ => none }
def TransformProductsWrongFalsely : Prop := transformProductsRow.holds Tryd.pinned (OpenSpec.ofChange transformProductsWrong)

/- THE SECOND FORM. 'bulk': how many values and letters a reading holds, each counted each time it is reached (what is shared counts as often as it is met; a slice's spare places count too). A statement '..UptoSaid' is the law's where the arguments, and the package variables that the reading takes, are together of bulk at most 1048576: NARROWER than '..Said'. Prove '..Said' where nothing that the law and all that it calls make is longer than what came in: it says more and counts as full. Else prove '..UptoSaid'. A law counts once. -/
mutual
def uptoBulk {H : Type} : DataW H → Nat
  | .lit (.string bytes) => bytes.length + 1
  | .lit _ => 1
  | .nil => 1
  | .ptr d => uptoBulk d + 1
  | .slice elems spare => uptoBulkAll elems + uptoBulkAll spare + 1
  | .agg parts => uptoBulkAll parts + 1
  | .iface _ d => uptoBulk d + 1
  | .map entries => uptoBulkEntries entries + 1
  | .held _ => 1
def uptoBulkAll {H : Type} : List (DataW H) → Nat
  | [] => 0
  | d :: r => uptoBulk d + uptoBulkAll r
def uptoBulkEntries {H : Type} : List (Lit × DataW H) → Nat
  | [] => 0
  | x :: r => uptoBulkEntry x + uptoBulkEntries r
def uptoBulkEntry {H : Type} : Lit × DataW H → Nat
  | (.string bytes, d) => bytes.length + uptoBulk d + 1
  | (_, d) => uptoBulk d + 1
 end
def uptoSmall : (H : Type) → List (DataW H) → Bool := fun _ ds => decide (uptoBulkAll ds ≤ 1048576)
def OpenSpec.upto (s : _root_.Go.ChangeSpec) : _root_.Go.OpenSpec := { _root_.Go.OpenSpec.ofChange s with cond := some uptoSmall }

/-- 'attestorlaw04.TransformValues', WHERE WHAT IT READS IS OF BULK AT MOST 1048576: true; the input reads as it did. -/
def transformValuesUptoRow : OpenClaim := { program := "ytdjjdlkglinlgaadoor", sum := "d1e007c37ee611cd53a4ef79ca4f2d6dbb64e42d2199f43ec9d22904f294c3ff", func := "attestor/attestorlaw04.TransformValues", spec := "transformValues", unfollowed := true, recurses := true, named := ["attestor/field.fields", "math/bits.deBruijn32tab", "math/bits.deBruijn64tab"], apart := false, laid := [("attestor/field.fields", laid_attestor_field_fields), ("math/bits.deBruijn32tab", laid_math_bits_deBruijn32tab), ("math/bits.deBruijn64tab", laid_math_bits_deBruijn64tab)], narrowed := true }
def TransformValuesUptoSaid : Prop := transformValuesUptoRow.holds Tryd.pinned (OpenSpec.upto transformValuesSpec)

/-- 'attestorlaw04.TransformBack', WHERE WHAT IT READS IS OF BULK AT MOST 1048576: true; the input reads as it did. -/
def transformBackUptoRow : OpenClaim := { program := "ytdjjdlkglinlgaadoor", sum := "d1e007c37ee611cd53a4ef79ca4f2d6dbb64e42d2199f43ec9d22904f294c3ff", func := "attestor/attestorlaw04.TransformBack", spec := "transformBack", unfollowed := true, recurses := true, named := ["attestor/field.fields", "math/bits.deBruijn32tab", "math/bits.deBruijn64tab"], apart := false, laid := [("attestor/field.fields", laid_attestor_field_fields), ("math/bits.deBruijn32tab", laid_math_bits_deBruijn32tab), ("math/bits.deBruijn64tab", laid_math_bits_deBruijn64tab)], narrowed := true }
def TransformBackUptoSaid : Prop := transformBackUptoRow.holds Tryd.pinned (OpenSpec.upto transformBackSpec)

/-- 'attestorlaw04.TransformMultiplies', WHERE WHAT IT READS IS OF BULK AT MOST 1048576: true; the input reads as it did. -/
def transformMultipliesUptoRow : OpenClaim := { program := "ytdjjdlkglinlgaadoor", sum := "d1e007c37ee611cd53a4ef79ca4f2d6dbb64e42d2199f43ec9d22904f294c3ff", func := "attestor/attestorlaw04.TransformMultiplies", spec := "transformMultiplies", unfollowed := true, recurses := true, named := ["attestor/field.fields", "math/bits.deBruijn32tab", "math/bits.deBruijn64tab"], apart := false, laid := [("attestor/field.fields", laid_attestor_field_fields), ("math/bits.deBruijn32tab", laid_math_bits_deBruijn32tab), ("math/bits.deBruijn64tab", laid_math_bits_deBruijn64tab)], narrowed := true }
def TransformMultipliesUptoSaid : Prop := transformMultipliesUptoRow.holds Tryd.pinned (OpenSpec.upto transformMultipliesSpec)

/-- 'attestorlaw04.TransformInverse', WHERE WHAT IT READS IS OF BULK AT MOST 1048576: true; the input reads as it did. -/
def transformInverseUptoRow : OpenClaim := { program := "ytdjjdlkglinlgaadoor", sum := "d1e007c37ee611cd53a4ef79ca4f2d6dbb64e42d2199f43ec9d22904f294c3ff", func := "attestor/attestorlaw04.TransformInverse", spec := "transformInverse", unfollowed := true, recurses := true, named := ["attestor/field.fields", "math/bits.deBruijn32tab", "math/bits.deBruijn64tab"], apart := false, laid := [("attestor/field.fields", laid_attestor_field_fields), ("math/bits.deBruijn32tab", laid_math_bits_deBruijn32tab), ("math/bits.deBruijn64tab", laid_math_bits_deBruijn64tab)], narrowed := true }
def TransformInverseUptoSaid : Prop := transformInverseUptoRow.holds Tryd.pinned (OpenSpec.upto transformInverseSpec)

/-- 'attestorlaw04.TransformKnown', WHERE WHAT IT READS IS OF BULK AT MOST 1048576: true; the input reads as it did. -/
def transformKnownUptoRow : OpenClaim := { program := "ytdjjdlkglinlgaadoor", sum := "d1e007c37ee611cd53a4ef79ca4f2d6dbb64e42d2199f43ec9d22904f294c3ff", func := "attestor/attestorlaw04.TransformKnown", spec := "transformKnown", unfollowed := true, recurses := true, named := ["attestor/field.fields", "math/bits.deBruijn32tab", "math/bits.deBruijn64tab"], apart := false, laid := [("attestor/field.fields", laid_attestor_field_fields), ("math/bits.deBruijn32tab", laid_math_bits_deBruijn32tab), ("math/bits.deBruijn64tab", laid_math_bits_deBruijn64tab)], narrowed := true }
def TransformKnownUptoSaid : Prop := transformKnownUptoRow.holds Tryd.pinned (OpenSpec.upto transformKnownSpec)

/-- 'attestorlaw04.TransformMeans', WHERE WHAT IT READS IS OF BULK AT MOST 1048576: true; the input reads as it did. -/
def transformMeansUptoRow : OpenClaim := { program := "ytdjjdlkglinlgaadoor", sum := "d1e007c37ee611cd53a4ef79ca4f2d6dbb64e42d2199f43ec9d22904f294c3ff", func := "attestor/attestorlaw04.TransformMeans", spec := "transformMeans", unfollowed := true, recurses := true, named := ["attestor/field.fields", "math/bits.deBruijn32tab", "math/bits.deBruijn64tab"], apart := false, laid := [("attestor/field.fields", laid_attestor_field_fields), ("math/bits.deBruijn32tab", laid_math_bits_deBruijn32tab), ("math/bits.deBruijn64tab", laid_math_bits_deBruijn64tab)], narrowed := true }
def TransformMeansUptoSaid : Prop := transformMeansUptoRow.holds Tryd.pinned (OpenSpec.upto transformMeansSpec)

/-- 'attestorlaw04.TransformProducts', WHERE WHAT IT READS IS OF BULK AT MOST 1048576: true; the input reads as it did. -/
def transformProductsUptoRow : OpenClaim := { program := "ytdjjdlkglinlgaadoor", sum := "d1e007c37ee611cd53a4ef79ca4f2d6dbb64e42d2199f43ec9d22904f294c3ff", func := "attestor/attestorlaw04.TransformProducts", spec := "transformProducts", unfollowed := true, recurses := true, named := ["attestor/field.fields", "math/bits.deBruijn32tab", "math/bits.deBruijn64tab"], apart := false, laid := [("attestor/field.fields", laid_attestor_field_fields), ("math/bits.deBruijn32tab", laid_math_bits_deBruijn32tab), ("math/bits.deBruijn64tab", laid_math_bits_deBruijn64tab)], narrowed := true }
def TransformProductsUptoSaid : Prop := transformProductsUptoRow.holds Tryd.pinned (OpenSpec.upto transformProductsSpec)

end Rows
end Go.Proofs.YtdjjdlkglinlgaaDoor
