/-
  NARROWER THAN 'FOR EVERY INPUT', by the rows' own cells (each row's printed sentence says how): CodeDomains: laid · CodeExtends: laid · CodeWords: laid · CodeDistance: laid · CodeErasures: laid · CodeLocals: laid · CodeKnown: laid · CodeFibres: laid.
  DERIVED. THE GIVEN ROWS OF THIS SEAT. 8 by the template 'for every input the law returns true; each argument reads behind the call as it read before'; 0 by the template 'total and deterministic' (their statements: YtedapdagagkajaaDoorTotals.lean).
  GIVEN WITH THE SEED: the statements are not yours to turn. If you find one false, say at which input.
  Laid BY PROGRAM, IN A SANDBOX (cutbox-rows.mjs): the forced cells as the released guide's own fill.sh prints them over the translation 3dbc3876b6396ff2… (all of the seat's roots in one cut). By AI agents, Wed Nov 11 2026. No macro, syntax, notation, axiom, sorry.
-/
import Derived.Test.YtedapdagagkajaaDoorChecked
import GoSem.Claim
import GoSem.ClaimJoined
import GoSem.ClaimMapViews
import Derived.JoinedTies
import Derived.KernelRfl
namespace Go.Proofs.YtedapdagagkajaaDoor
/- THE CELL 'sum', in the pinned program and in every row, IS THE sha256 OF THE DUMP (.gsa) THAT YtedapdagagkajaaDoorProg.lean LOADS. Nothing in Lean hashes anything: it is a label: what it is worth is what the hold of that sum in a sandbox is worth. -/
noncomputable def Tryd.pinned : Pinned := { name := "ytedapdagagkajaadoor", sum := "3dbc3876b6396ff209f7aab69e07203ebbbda6ff1687ba3f6dd82bafd90200e4", checked := Tryd.checked }
namespace Rows
def none {H : Type} : Left H := { results := [], args := [] }

/- WHAT THE LISTED PACKAGE-LEVEL VARIABLES READ AS WHEN THE CALL BEGINS. Each datum BY PROGRAM (the guide's laid-datum.mjs) off the statement by which the dump's own 'gosem.cut.vars' lays the variable. In a bare row this is a premise. The card (YtedapdagagkajaaDoorCards.lean) ties it to the program's text. -/
def laid_attestor_field_fields {H : Type} : DataW H := .agg [.agg [.lit (.int .u64 97), .lit (.int .u64 5), .lit (.int .i64 5), .lit (.int .i64 5), .slice [.lit (.int .u64 3)] []], .agg [.lit (.int .u64 257), .lit (.int .u64 3), .lit (.int .i64 8), .lit (.int .i64 3), .nil], .agg [.lit (.int .u64 12289), .lit (.int .u64 11), .lit (.int .i64 12), .lit (.int .i64 5), .slice [.lit (.int .u64 3)] []], .agg [.lit (.int .u64 998244353), .lit (.int .u64 3), .lit (.int .i64 23), .lit (.int .i64 3), .slice [.lit (.int .u64 7), .lit (.int .u64 17)] []]]
def laid_math_bits_deBruijn32tab {H : Type} : DataW H := .agg [.lit (.int .u8 0), .lit (.int .u8 1), .lit (.int .u8 28), .lit (.int .u8 2), .lit (.int .u8 29), .lit (.int .u8 14), .lit (.int .u8 24), .lit (.int .u8 3), .lit (.int .u8 30), .lit (.int .u8 22), .lit (.int .u8 20), .lit (.int .u8 15), .lit (.int .u8 25), .lit (.int .u8 17), .lit (.int .u8 4), .lit (.int .u8 8), .lit (.int .u8 31), .lit (.int .u8 27), .lit (.int .u8 13), .lit (.int .u8 23), .lit (.int .u8 21), .lit (.int .u8 19), .lit (.int .u8 16), .lit (.int .u8 7), .lit (.int .u8 26), .lit (.int .u8 12), .lit (.int .u8 18), .lit (.int .u8 6), .lit (.int .u8 11), .lit (.int .u8 5), .lit (.int .u8 10), .lit (.int .u8 9)]
def laid_math_bits_deBruijn64tab {H : Type} : DataW H := .agg [.lit (.int .u8 0), .lit (.int .u8 1), .lit (.int .u8 56), .lit (.int .u8 2), .lit (.int .u8 57), .lit (.int .u8 49), .lit (.int .u8 28), .lit (.int .u8 3), .lit (.int .u8 61), .lit (.int .u8 58), .lit (.int .u8 42), .lit (.int .u8 50), .lit (.int .u8 38), .lit (.int .u8 29), .lit (.int .u8 17), .lit (.int .u8 4), .lit (.int .u8 62), .lit (.int .u8 47), .lit (.int .u8 59), .lit (.int .u8 36), .lit (.int .u8 45), .lit (.int .u8 43), .lit (.int .u8 51), .lit (.int .u8 22), .lit (.int .u8 53), .lit (.int .u8 39), .lit (.int .u8 33), .lit (.int .u8 30), .lit (.int .u8 24), .lit (.int .u8 18), .lit (.int .u8 12), .lit (.int .u8 5), .lit (.int .u8 63), .lit (.int .u8 55), .lit (.int .u8 48), .lit (.int .u8 27), .lit (.int .u8 60), .lit (.int .u8 41), .lit (.int .u8 37), .lit (.int .u8 16), .lit (.int .u8 46), .lit (.int .u8 35), .lit (.int .u8 44), .lit (.int .u8 21), .lit (.int .u8 52), .lit (.int .u8 32), .lit (.int .u8 23), .lit (.int .u8 11), .lit (.int .u8 54), .lit (.int .u8 26), .lit (.int .u8 40), .lit (.int .u8 15), .lit (.int .u8 34), .lit (.int .u8 20), .lit (.int .u8 31), .lit (.int .u8 10), .lit (.int .u8 25), .lit (.int .u8 14), .lit (.int .u8 19), .lit (.int .u8 9), .lit (.int .u8 13), .lit (.int .u8 8), .lit (.int .u8 7), .lit (.int .u8 6)]
def laid_internal_strconv_uint64pow10 {H : Type} : DataW H := .agg [.lit (.int .u64 1), .lit (.int .u64 10), .lit (.int .u64 100), .lit (.int .u64 1000), .lit (.int .u64 10000), .lit (.int .u64 100000), .lit (.int .u64 1000000), .lit (.int .u64 10000000), .lit (.int .u64 100000000), .lit (.int .u64 1000000000), .lit (.int .u64 10000000000), .lit (.int .u64 100000000000), .lit (.int .u64 1000000000000), .lit (.int .u64 10000000000000), .lit (.int .u64 100000000000000), .lit (.int .u64 1000000000000000), .lit (.int .u64 10000000000000000), .lit (.int .u64 100000000000000000), .lit (.int .u64 1000000000000000000), .lit (.int .u64 10000000000000000000)]

/-- 'attestorlaw05.CodeDomains': WHATEVER THE INPUT: true; the input reads as it did. -/
def codeDomainsSpec : ChangeSpec := { name := "codeDomains", fn := fun _ => fun
  | [d1, d2, d3, d4, d5] => { results := [.lit (.bool true)], args := [d1, d2, d3, d4, d5] }
  | _ => none }
def codeDomainsRow : OpenClaim := { program := "ytedapdagagkajaadoor", sum := "3dbc3876b6396ff209f7aab69e07203ebbbda6ff1687ba3f6dd82bafd90200e4", func := "attestor/attestorlaw05.CodeDomains", spec := "codeDomains", unfollowed := true, recurses := true, named := ["attestor/field.fields", "math/bits.deBruijn32tab", "math/bits.deBruijn64tab"], apart := false, laid := [("attestor/field.fields", laid_attestor_field_fields), ("math/bits.deBruijn32tab", laid_math_bits_deBruijn32tab), ("math/bits.deBruijn64tab", laid_math_bits_deBruijn64tab)] }
def CodeDomainsSaid : Prop := codeDomainsRow.holds Tryd.pinned (OpenSpec.ofChange codeDomainsSpec)

/-- ITS FALSE NEIGHBOUR: 'it returns false'. Refute it at one input. -/
def codeDomainsWrong : ChangeSpec := { name := "codeDomains", fn := fun _ => fun
  | [d1, d2, d3, d4, d5] => { results := [.lit (.bool false)], args := [d1, d2, d3, d4, d5] }
  | _ => none }
def CodeDomainsWrongFalsely : Prop := codeDomainsRow.holds Tryd.pinned (OpenSpec.ofChange codeDomainsWrong)

/-- 'attestorlaw05.CodeExtends': WHATEVER THE INPUT: true; the input reads as it did. -/
def codeExtendsSpec : ChangeSpec := { name := "codeExtends", fn := fun _ => fun
  | [d1, d2, d3] => { results := [.lit (.bool true)], args := [d1, d2, d3] }
  | _ => none }
def codeExtendsRow : OpenClaim := { program := "ytedapdagagkajaadoor", sum := "3dbc3876b6396ff209f7aab69e07203ebbbda6ff1687ba3f6dd82bafd90200e4", func := "attestor/attestorlaw05.CodeExtends", spec := "codeExtends", unfollowed := true, recurses := true, named := ["math/bits.deBruijn32tab", "math/bits.deBruijn64tab", "attestor/field.fields"], apart := false, laid := [("attestor/field.fields", laid_attestor_field_fields), ("math/bits.deBruijn32tab", laid_math_bits_deBruijn32tab), ("math/bits.deBruijn64tab", laid_math_bits_deBruijn64tab)] }
def CodeExtendsSaid : Prop := codeExtendsRow.holds Tryd.pinned (OpenSpec.ofChange codeExtendsSpec)

/-- ITS FALSE NEIGHBOUR: 'it returns false'. Refute it at one input. -/
def codeExtendsWrong : ChangeSpec := { name := "codeExtends", fn := fun _ => fun
  | [d1, d2, d3] => { results := [.lit (.bool false)], args := [d1, d2, d3] }
  | _ => none }
def CodeExtendsWrongFalsely : Prop := codeExtendsRow.holds Tryd.pinned (OpenSpec.ofChange codeExtendsWrong)

/-- 'attestorlaw05.CodeWords': WHATEVER THE INPUT: true; the input reads as it did. -/
def codeWordsSpec : ChangeSpec := { name := "codeWords", fn := fun _ => fun
  | [d1, d2, d3, d4] => { results := [.lit (.bool true)], args := [d1, d2, d3, d4] }
  | _ => none }
def codeWordsRow : OpenClaim := { program := "ytedapdagagkajaadoor", sum := "3dbc3876b6396ff209f7aab69e07203ebbbda6ff1687ba3f6dd82bafd90200e4", func := "attestor/attestorlaw05.CodeWords", spec := "codeWords", unfollowed := true, recurses := true, named := ["attestor/field.fields", "math/bits.deBruijn32tab", "math/bits.deBruijn64tab"], apart := false, laid := [("attestor/field.fields", laid_attestor_field_fields), ("math/bits.deBruijn32tab", laid_math_bits_deBruijn32tab), ("math/bits.deBruijn64tab", laid_math_bits_deBruijn64tab)] }
def CodeWordsSaid : Prop := codeWordsRow.holds Tryd.pinned (OpenSpec.ofChange codeWordsSpec)

/-- ITS FALSE NEIGHBOUR: 'it returns false'. Refute it at one input. -/
def codeWordsWrong : ChangeSpec := { name := "codeWords", fn := fun _ => fun
  | [d1, d2, d3, d4] => { results := [.lit (.bool false)], args := [d1, d2, d3, d4] }
  | _ => none }
def CodeWordsWrongFalsely : Prop := codeWordsRow.holds Tryd.pinned (OpenSpec.ofChange codeWordsWrong)

/-- 'attestorlaw05.CodeDistance': WHATEVER THE INPUT: true; the input reads as it did. -/
def codeDistanceSpec : ChangeSpec := { name := "codeDistance", fn := fun _ => fun
  | [d1, d2, d3, d4, d5] => { results := [.lit (.bool true)], args := [d1, d2, d3, d4, d5] }
  | _ => none }
def codeDistanceRow : OpenClaim := { program := "ytedapdagagkajaadoor", sum := "3dbc3876b6396ff209f7aab69e07203ebbbda6ff1687ba3f6dd82bafd90200e4", func := "attestor/attestorlaw05.CodeDistance", spec := "codeDistance", unfollowed := true, recurses := true, named := ["attestor/field.fields", "math/bits.deBruijn32tab", "math/bits.deBruijn64tab"], apart := false, laid := [("attestor/field.fields", laid_attestor_field_fields), ("math/bits.deBruijn32tab", laid_math_bits_deBruijn32tab), ("math/bits.deBruijn64tab", laid_math_bits_deBruijn64tab)] }
def CodeDistanceSaid : Prop := codeDistanceRow.holds Tryd.pinned (OpenSpec.ofChange codeDistanceSpec)

/-- ITS FALSE NEIGHBOUR: 'it returns false'. Refute it at one input. -/
def codeDistanceWrong : ChangeSpec := { name := "codeDistance", fn := fun _ => fun
  | [d1, d2, d3, d4, d5] => { results := [.lit (.bool false)], args := [d1, d2, d3, d4, d5] }
  | _ => none }
def CodeDistanceWrongFalsely : Prop := codeDistanceRow.holds Tryd.pinned (OpenSpec.ofChange codeDistanceWrong)

/-- 'attestorlaw05.CodeErasures': WHATEVER THE INPUT: true; the input reads as it did. -/
def codeErasuresSpec : ChangeSpec := { name := "codeErasures", fn := fun _ => fun
  | [d1, d2, d3, d4, d5] => { results := [.lit (.bool true)], args := [d1, d2, d3, d4, d5] }
  | _ => none }
def codeErasuresRow : OpenClaim := { program := "ytedapdagagkajaadoor", sum := "3dbc3876b6396ff209f7aab69e07203ebbbda6ff1687ba3f6dd82bafd90200e4", func := "attestor/attestorlaw05.CodeErasures", spec := "codeErasures", unfollowed := true, recurses := true, named := ["attestor/field.fields", "math/bits.deBruijn32tab", "math/bits.deBruijn64tab"], apart := false, laid := [("attestor/field.fields", laid_attestor_field_fields), ("math/bits.deBruijn32tab", laid_math_bits_deBruijn32tab), ("math/bits.deBruijn64tab", laid_math_bits_deBruijn64tab)] }
def CodeErasuresSaid : Prop := codeErasuresRow.holds Tryd.pinned (OpenSpec.ofChange codeErasuresSpec)

/-- ITS FALSE NEIGHBOUR: 'it returns false'. Refute it at one input. -/
def codeErasuresWrong : ChangeSpec := { name := "codeErasures", fn := fun _ => fun
  | [d1, d2, d3, d4, d5] => { results := [.lit (.bool false)], args := [d1, d2, d3, d4, d5] }
  | _ => none }
def CodeErasuresWrongFalsely : Prop := codeErasuresRow.holds Tryd.pinned (OpenSpec.ofChange codeErasuresWrong)

/-- 'attestorlaw05.CodeLocals': WHATEVER THE INPUT: true; the input reads as it did. -/
def codeLocalsSpec : ChangeSpec := { name := "codeLocals", fn := fun _ => fun
  | [d1, d2, d3, d4] => { results := [.lit (.bool true)], args := [d1, d2, d3, d4] }
  | _ => none }
def codeLocalsRow : OpenClaim := { program := "ytedapdagagkajaadoor", sum := "3dbc3876b6396ff209f7aab69e07203ebbbda6ff1687ba3f6dd82bafd90200e4", func := "attestor/attestorlaw05.CodeLocals", spec := "codeLocals", unfollowed := true, recurses := true, named := ["attestor/field.fields", "math/bits.deBruijn32tab", "math/bits.deBruijn64tab", "internal/strconv.uint64pow10"], apart := false, laid := [("attestor/field.fields", laid_attestor_field_fields), ("math/bits.deBruijn32tab", laid_math_bits_deBruijn32tab), ("math/bits.deBruijn64tab", laid_math_bits_deBruijn64tab), ("internal/strconv.uint64pow10", laid_internal_strconv_uint64pow10)] }
def CodeLocalsSaid : Prop := codeLocalsRow.holds Tryd.pinned (OpenSpec.ofChange codeLocalsSpec)

/-- ITS FALSE NEIGHBOUR: 'it returns false'. Refute it at one input. -/
def codeLocalsWrong : ChangeSpec := { name := "codeLocals", fn := fun _ => fun
  | [d1, d2, d3, d4] => { results := [.lit (.bool false)], args := [d1, d2, d3, d4] }
  | _ => none }
def CodeLocalsWrongFalsely : Prop := codeLocalsRow.holds Tryd.pinned (OpenSpec.ofChange codeLocalsWrong)

/-- 'attestorlaw05.CodeKnown': WHATEVER THE INPUT: true; the input reads as it did. -/
def codeKnownSpec : ChangeSpec := { name := "codeKnown", fn := fun _ => fun
  | [] => { results := [.lit (.bool true)], args := [] }
  | _ => none }
def codeKnownRow : OpenClaim := { program := "ytedapdagagkajaadoor", sum := "3dbc3876b6396ff209f7aab69e07203ebbbda6ff1687ba3f6dd82bafd90200e4", func := "attestor/attestorlaw05.CodeKnown", spec := "codeKnown", unfollowed := true, recurses := true, named := ["attestor/field.fields", "math/bits.deBruijn32tab", "math/bits.deBruijn64tab", "internal/strconv.uint64pow10"], apart := false, laid := [("attestor/field.fields", laid_attestor_field_fields), ("math/bits.deBruijn32tab", laid_math_bits_deBruijn32tab), ("math/bits.deBruijn64tab", laid_math_bits_deBruijn64tab), ("internal/strconv.uint64pow10", laid_internal_strconv_uint64pow10)] }
def CodeKnownSaid : Prop := codeKnownRow.holds Tryd.pinned (OpenSpec.ofChange codeKnownSpec)

/-- ITS FALSE NEIGHBOUR: 'it returns false'. Refute it at one input. -/
def codeKnownWrong : ChangeSpec := { name := "codeKnown", fn := fun _ => fun
  | [] => { results := [.lit (.bool false)], args := [] }
  | _ => none }
def CodeKnownWrongFalsely : Prop := codeKnownRow.holds Tryd.pinned (OpenSpec.ofChange codeKnownWrong)

/-- 'attestorlaw05.CodeFibres': WHATEVER THE INPUT: true; the input reads as it did. -/
def codeFibresSpec : ChangeSpec := { name := "codeFibres", fn := fun _ => fun
  | [d1, d2, d3, d4] => { results := [.lit (.bool true)], args := [d1, d2, d3, d4] }
  | _ => none }
def codeFibresRow : OpenClaim := { program := "ytedapdagagkajaadoor", sum := "3dbc3876b6396ff209f7aab69e07203ebbbda6ff1687ba3f6dd82bafd90200e4", func := "attestor/attestorlaw05.CodeFibres", spec := "codeFibres", unfollowed := true, recurses := true, named := ["attestor/field.fields", "math/bits.deBruijn32tab", "math/bits.deBruijn64tab", "internal/strconv.uint64pow10"], apart := false, laid := [("attestor/field.fields", laid_attestor_field_fields), ("math/bits.deBruijn32tab", laid_math_bits_deBruijn32tab), ("math/bits.deBruijn64tab", laid_math_bits_deBruijn64tab), ("internal/strconv.uint64pow10", laid_internal_strconv_uint64pow10)] }
def CodeFibresSaid : Prop := codeFibresRow.holds Tryd.pinned (OpenSpec.ofChange codeFibresSpec)

/-- ITS FALSE NEIGHBOUR: 'it returns false'. Refute it at one input. -/
def codeFibresWrong : ChangeSpec := { name := "codeFibres", fn := fun _ => fun
  | [d1, d2, d3, d4] => { results := [.lit (.bool false)], args := [d1, d2, d3, d4] }
  | _ => none }
def CodeFibresWrongFalsely : Prop := codeFibresRow.holds Tryd.pinned (OpenSpec.ofChange codeFibresWrong)

/- THE SECOND FORM. 'bulk': how many values and letters a reading holds, each counted each time it is reached (what is shared counts as often as it is met; a slice's spare places count too). A statement '..UptoSaid' is the law's where the arguments, and the package variables that the reading takes, are together of bulk at most 1048576: NARROWER than '..Said'. Prove '..Said' where nothing that the law and all that it calls make is longer than what came in: it says more and counts as full. Else prove '..UptoSaid'. A law counts once. -/
mutual
def uptoBulk {H : Type} : DataW H → Nat
  | .lit (.string bytes) => bytes.length + 1
  | .lit _ => 1
  | .nil => 1
  | .ptr d => uptoBulk d + 1
  | .slice elems spare => uptoBulkAll elems + uptoBulkAll spare + 1
  | .agg parts => uptoBulkAll parts + 1
  | .iface _ d => uptoBulk d + 1
  | .map entries => uptoBulkEntries entries + 1
  | .held _ => 1
def uptoBulkAll {H : Type} : List (DataW H) → Nat
  | [] => 0
  | d :: r => uptoBulk d + uptoBulkAll r
def uptoBulkEntries {H : Type} : List (Lit × DataW H) → Nat
  | [] => 0
  | x :: r => uptoBulkEntry x + uptoBulkEntries r
def uptoBulkEntry {H : Type} : Lit × DataW H → Nat
  | (.string bytes, d) => bytes.length + uptoBulk d + 1
  | (_, d) => uptoBulk d + 1
 end
def uptoSmall : (H : Type) → List (DataW H) → Bool := fun _ ds => decide (uptoBulkAll ds ≤ 1048576)
def OpenSpec.upto (s : _root_.Go.ChangeSpec) : _root_.Go.OpenSpec := { _root_.Go.OpenSpec.ofChange s with cond := some uptoSmall }

/-- 'attestorlaw05.CodeDomains', WHERE WHAT IT READS IS OF BULK AT MOST 1048576: true; the input reads as it did. -/
def codeDomainsUptoRow : OpenClaim := { program := "ytedapdagagkajaadoor", sum := "3dbc3876b6396ff209f7aab69e07203ebbbda6ff1687ba3f6dd82bafd90200e4", func := "attestor/attestorlaw05.CodeDomains", spec := "codeDomains", unfollowed := true, recurses := true, named := ["attestor/field.fields", "math/bits.deBruijn32tab", "math/bits.deBruijn64tab"], apart := false, laid := [("attestor/field.fields", laid_attestor_field_fields), ("math/bits.deBruijn32tab", laid_math_bits_deBruijn32tab), ("math/bits.deBruijn64tab", laid_math_bits_deBruijn64tab)], narrowed := true }
def CodeDomainsUptoSaid : Prop := codeDomainsUptoRow.holds Tryd.pinned (OpenSpec.upto codeDomainsSpec)

/-- 'attestorlaw05.CodeExtends', WHERE WHAT IT READS IS OF BULK AT MOST 1048576: true; the input reads as it did. -/
def codeExtendsUptoRow : OpenClaim := { program := "ytedapdagagkajaadoor", sum := "3dbc3876b6396ff209f7aab69e07203ebbbda6ff1687ba3f6dd82bafd90200e4", func := "attestor/attestorlaw05.CodeExtends", spec := "codeExtends", unfollowed := true, recurses := true, named := ["math/bits.deBruijn32tab", "math/bits.deBruijn64tab", "attestor/field.fields"], apart := false, laid := [("attestor/field.fields", laid_attestor_field_fields), ("math/bits.deBruijn32tab", laid_math_bits_deBruijn32tab), ("math/bits.deBruijn64tab", laid_math_bits_deBruijn64tab)], narrowed := true }
def CodeExtendsUptoSaid : Prop := codeExtendsUptoRow.holds Tryd.pinned (OpenSpec.upto codeExtendsSpec)

/-- 'attestorlaw05.CodeWords', WHERE WHAT IT READS IS OF BULK AT MOST 1048576: true; the input reads as it did. -/
def codeWordsUptoRow : OpenClaim := { program := "ytedapdagagkajaadoor", sum := "3dbc3876b6396ff209f7aab69e07203ebbbda6ff1687ba3f6dd82bafd90200e4", func := "attestor/attestorlaw05.CodeWords", spec := "codeWords", unfollowed := true, recurses := true, named := ["attestor/field.fields", "math/bits.deBruijn32tab", "math/bits.deBruijn64tab"], apart := false, laid := [("attestor/field.fields", laid_attestor_field_fields), ("math/bits.deBruijn32tab", laid_math_bits_deBruijn32tab), ("math/bits.deBruijn64tab", laid_math_bits_deBruijn64tab)], narrowed := true }
def CodeWordsUptoSaid : Prop := codeWordsUptoRow.holds Tryd.pinned (OpenSpec.upto codeWordsSpec)

/-- 'attestorlaw05.CodeDistance', WHERE WHAT IT READS IS OF BULK AT MOST 1048576: true; the input reads as it did. -/
def codeDistanceUptoRow : OpenClaim := { program := "ytedapdagagkajaadoor", sum := "3dbc3876b6396ff209f7aab69e07203ebbbda6ff1687ba3f6dd82bafd90200e4", func := "attestor/attestorlaw05.CodeDistance", spec := "codeDistance", unfollowed := true, recurses := true, named := ["attestor/field.fields", "math/bits.deBruijn32tab", "math/bits.deBruijn64tab"], apart := false, laid := [("attestor/field.fields", laid_attestor_field_fields), ("math/bits.deBruijn32tab", laid_math_bits_deBruijn32tab), ("math/bits.deBruijn64tab", laid_math_bits_deBruijn64tab)], narrowed := true }
def CodeDistanceUptoSaid : Prop := codeDistanceUptoRow.holds Tryd.pinned (OpenSpec.upto codeDistanceSpec)

/-- 'attestorlaw05.CodeErasures', WHERE WHAT IT READS IS OF BULK AT MOST 1048576: true; the input reads as it did. -/
def codeErasuresUptoRow : OpenClaim := { program := "ytedapdagagkajaadoor", sum := "3dbc3876b6396ff209f7aab69e07203ebbbda6ff1687ba3f6dd82bafd90200e4", func := "attestor/attestorlaw05.CodeErasures", spec := "codeErasures", unfollowed := true, recurses := true, named := ["attestor/field.fields", "math/bits.deBruijn32tab", "math/bits.deBruijn64tab"], apart := false, laid := [("attestor/field.fields", laid_attestor_field_fields), ("math/bits.deBruijn32tab", laid_math_bits_deBruijn32tab), ("math/bits.deBruijn64tab", laid_math_bits_deBruijn64tab)], narrowed := true }
def CodeErasuresUptoSaid : Prop := codeErasuresUptoRow.holds Tryd.pinned (OpenSpec.upto codeErasuresSpec)

/-- 'attestorlaw05.CodeLocals', WHERE WHAT IT READS IS OF BULK AT MOST 1048576: true; the input reads as it did. -/
def codeLocalsUptoRow : OpenClaim := { program := "ytedapdagagkajaadoor", sum := "3dbc3876b6396ff209f7aab69e07203ebbbda6ff1687ba3f6dd82bafd90200e4", func := "attestor/attestorlaw05.CodeLocals", spec := "codeLocals", unfollowed := true, recurses := true, named := ["attestor/field.fields", "math/bits.deBruijn32tab", "math/bits.deBruijn64tab", "internal/strconv.uint64pow10"], apart := false, laid := [("attestor/field.fields", laid_attestor_field_fields), ("math/bits.deBruijn32tab", laid_math_bits_deBruijn32tab), ("math/bits.deBruijn64tab", laid_math_bits_deBruijn64tab), ("internal/strconv.uint64pow10", laid_internal_strconv_uint64pow10)], narrowed := true }
def CodeLocalsUptoSaid : Prop := codeLocalsUptoRow.holds Tryd.pinned (OpenSpec.upto codeLocalsSpec)

/-- 'attestorlaw05.CodeKnown', WHERE WHAT IT READS IS OF BULK AT MOST 1048576: true; the input reads as it did. -/
def codeKnownUptoRow : OpenClaim := { program := "ytedapdagagkajaadoor", sum := "3dbc3876b6396ff209f7aab69e07203ebbbda6ff1687ba3f6dd82bafd90200e4", func := "attestor/attestorlaw05.CodeKnown", spec := "codeKnown", unfollowed := true, recurses := true, named := ["attestor/field.fields", "math/bits.deBruijn32tab", "math/bits.deBruijn64tab", "internal/strconv.uint64pow10"], apart := false, laid := [("attestor/field.fields", laid_attestor_field_fields), ("math/bits.deBruijn32tab", laid_math_bits_deBruijn32tab), ("math/bits.deBruijn64tab", laid_math_bits_deBruijn64tab), ("internal/strconv.uint64pow10", laid_internal_strconv_uint64pow10)], narrowed := true }
def CodeKnownUptoSaid : Prop := codeKnownUptoRow.holds Tryd.pinned (OpenSpec.upto codeKnownSpec)

/-- 'attestorlaw05.CodeFibres', WHERE WHAT IT READS IS OF BULK AT MOST 1048576: true; the input reads as it did. -/
def codeFibresUptoRow : OpenClaim := { program := "ytedapdagagkajaadoor", sum := "3dbc3876b6396ff209f7aab69e07203ebbbda6ff1687ba3f6dd82bafd90200e4", func := "attestor/attestorlaw05.CodeFibres", spec := "codeFibres", unfollowed := true, recurses := true, named := ["attestor/field.fields", "math/bits.deBruijn32tab", "math/bits.deBruijn64tab", "internal/strconv.uint64pow10"], apart := false, laid := [("attestor/field.fields", laid_attestor_field_fields), ("math/bits.deBruijn32tab", laid_math_bits_deBruijn32tab), ("math/bits.deBruijn64tab", laid_math_bits_deBruijn64tab), ("internal/strconv.uint64pow10", laid_internal_strconv_uint64pow10)], narrowed := true }
def CodeFibresUptoSaid : Prop := codeFibresUptoRow.holds Tryd.pinned (OpenSpec.upto codeFibresSpec)

end Rows
end Go.Proofs.YtedapdagagkajaaDoor
