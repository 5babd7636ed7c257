/-
  NARROWER THAN 'FOR EVERY INPUT', by the rows' own cells (each row's printed sentence says how): DecimalChecks: laid · DecimalReads: laid · DecimalDivides: laid · DecimalSums: laid · DecimalRing: laid · DecimalRest: laid · DecimalMoves: laid · OperandMakes: laid · OperandLost: laid · OperandParts: laid · OperandNoughts: laid · OperandSame: laid · OperandLists: laid · OperandWhole: laid.
  DERIVED. THE GIVEN ROWS OF THIS SEAT. 14 by the template 'for every input the law returns true; each argument reads behind the call as it read before'; 0 by the template 'total and deterministic' (their statements: YtihjcaglhjepdaaDoorTotals.lean).
  GIVEN WITH THE SEED: the statements are not yours to turn. If you find one false, say at which input.
  Laid BY PROGRAM, IN A SANDBOX (cutbox-rows.mjs): the forced cells as the released guide's own fill.sh prints them over the translation 52047b92a4d7b4b7… (all of the seat's roots in one cut). By AI agents, Wed Nov 11 2026. No macro, syntax, notation, axiom, sorry.
-/
import Derived.Test.YtihjcaglhjepdaaDoorChecked
import GoSem.PinnedTables
import GoSem.Claim
import GoSem.ClaimJoined
import GoSem.ClaimMapViews
import Derived.JoinedTies
import Derived.KernelRfl
namespace Go.Proofs.YtihjcaglhjepdaaDoor
/- THE CELL 'sum', in the pinned program and in every row, IS THE sha256 OF THE DUMP (.gsa) THAT YtihjcaglhjepdaaDoorProg.lean LOADS. Nothing in Lean hashes anything: it is a label: what it is worth is what the hold of that sum in a sandbox is worth. -/
noncomputable def Tryd.pinned : Pinned := { name := "ytihjcaglhjepdaadoor", sum := "52047b92a4d7b4b7db652e6376f662bf4e87c54fdab20955347e1b102f222c8c", checked := Tryd.checked }
namespace Rows
def none {H : Type} : Left H := { results := [], args := [] }

/- WHAT THE LISTED PACKAGE-LEVEL VARIABLES READ AS WHEN THE CALL BEGINS. Each datum BY PROGRAM (the guide's laid-datum.mjs) off the statement by which the dump's own 'gosem.cut.vars' lays the variable. In a bare row this is a premise. The card (YtihjcaglhjepdaaDoorCards.lean) ties it to the program's text. -/
def laid_unicode_utf8_acceptRanges {H : Type} : DataW H := .agg [.agg [.lit (.int .u8 128), .lit (.int .u8 191)], .agg [.lit (.int .u8 160), .lit (.int .u8 191)], .agg [.lit (.int .u8 128), .lit (.int .u8 159)], .agg [.lit (.int .u8 144), .lit (.int .u8 191)], .agg [.lit (.int .u8 128), .lit (.int .u8 143)], .agg [.lit (.int .u8 0), .lit (.int .u8 0)], .agg [.lit (.int .u8 0), .lit (.int .u8 0)], .agg [.lit (.int .u8 0), .lit (.int .u8 0)], .agg [.lit (.int .u8 0), .lit (.int .u8 0)], .agg [.lit (.int .u8 0), .lit (.int .u8 0)], .agg [.lit (.int .u8 0), .lit (.int .u8 0)], .agg [.lit (.int .u8 0), .lit (.int .u8 0)], .agg [.lit (.int .u8 0), .lit (.int .u8 0)], .agg [.lit (.int .u8 0), .lit (.int .u8 0)], .agg [.lit (.int .u8 0), .lit (.int .u8 0)], .agg [.lit (.int .u8 0), .lit (.int .u8 0)]]
/-- One of Go's own tables, pinned by name: the form's constant. -/
def laid_unicode_utf8_first : DataW Unit := Go.Pinned.utf8First
def laid_math_bits_deBruijn32tab {H : Type} : DataW H := .agg [.lit (.int .u8 0), .lit (.int .u8 1), .lit (.int .u8 28), .lit (.int .u8 2), .lit (.int .u8 29), .lit (.int .u8 14), .lit (.int .u8 24), .lit (.int .u8 3), .lit (.int .u8 30), .lit (.int .u8 22), .lit (.int .u8 20), .lit (.int .u8 15), .lit (.int .u8 25), .lit (.int .u8 17), .lit (.int .u8 4), .lit (.int .u8 8), .lit (.int .u8 31), .lit (.int .u8 27), .lit (.int .u8 13), .lit (.int .u8 23), .lit (.int .u8 21), .lit (.int .u8 19), .lit (.int .u8 16), .lit (.int .u8 7), .lit (.int .u8 26), .lit (.int .u8 12), .lit (.int .u8 18), .lit (.int .u8 6), .lit (.int .u8 11), .lit (.int .u8 5), .lit (.int .u8 10), .lit (.int .u8 9)]
def laid_math_bits_deBruijn64tab {H : Type} : DataW H := .agg [.lit (.int .u8 0), .lit (.int .u8 1), .lit (.int .u8 56), .lit (.int .u8 2), .lit (.int .u8 57), .lit (.int .u8 49), .lit (.int .u8 28), .lit (.int .u8 3), .lit (.int .u8 61), .lit (.int .u8 58), .lit (.int .u8 42), .lit (.int .u8 50), .lit (.int .u8 38), .lit (.int .u8 29), .lit (.int .u8 17), .lit (.int .u8 4), .lit (.int .u8 62), .lit (.int .u8 47), .lit (.int .u8 59), .lit (.int .u8 36), .lit (.int .u8 45), .lit (.int .u8 43), .lit (.int .u8 51), .lit (.int .u8 22), .lit (.int .u8 53), .lit (.int .u8 39), .lit (.int .u8 33), .lit (.int .u8 30), .lit (.int .u8 24), .lit (.int .u8 18), .lit (.int .u8 12), .lit (.int .u8 5), .lit (.int .u8 63), .lit (.int .u8 55), .lit (.int .u8 48), .lit (.int .u8 27), .lit (.int .u8 60), .lit (.int .u8 41), .lit (.int .u8 37), .lit (.int .u8 16), .lit (.int .u8 46), .lit (.int .u8 35), .lit (.int .u8 44), .lit (.int .u8 21), .lit (.int .u8 52), .lit (.int .u8 32), .lit (.int .u8 23), .lit (.int .u8 11), .lit (.int .u8 54), .lit (.int .u8 26), .lit (.int .u8 40), .lit (.int .u8 15), .lit (.int .u8 34), .lit (.int .u8 20), .lit (.int .u8 31), .lit (.int .u8 10), .lit (.int .u8 25), .lit (.int .u8 14), .lit (.int .u8 19), .lit (.int .u8 9), .lit (.int .u8 13), .lit (.int .u8 8), .lit (.int .u8 7), .lit (.int .u8 6)]
def laid_internal_strconv_uint64pow10 {H : Type} : DataW H := .agg [.lit (.int .u64 1), .lit (.int .u64 10), .lit (.int .u64 100), .lit (.int .u64 1000), .lit (.int .u64 10000), .lit (.int .u64 100000), .lit (.int .u64 1000000), .lit (.int .u64 10000000), .lit (.int .u64 100000000), .lit (.int .u64 1000000000), .lit (.int .u64 10000000000), .lit (.int .u64 100000000000), .lit (.int .u64 1000000000000), .lit (.int .u64 10000000000000), .lit (.int .u64 100000000000000), .lit (.int .u64 1000000000000000), .lit (.int .u64 10000000000000000), .lit (.int .u64 100000000000000000), .lit (.int .u64 1000000000000000000), .lit (.int .u64 10000000000000000000)]

/-- 'idiomlaw02.DecimalChecks': WHATEVER THE INPUT: true; the input reads as it did. -/
def decimalChecksSpec : ChangeSpec := { name := "decimalChecks", fn := fun _ => fun
  | [d] => { results := [.lit (.bool true)], args := [d] }
  | _ => none }
def decimalChecksRow : OpenClaim := { program := "ytihjcaglhjepdaadoor", sum := "52047b92a4d7b4b7db652e6376f662bf4e87c54fdab20955347e1b102f222c8c", func := "idiom/idiomlaw02.DecimalChecks", spec := "decimalChecks", inPlace := ["internal/bytealg.IndexByteString", "internal/bytealg.IndexString"], named := ["unicode/utf8.first", "unicode/utf8.acceptRanges", "internal/bytealg.MaxLen"], apart := false, laid := [("unicode/utf8.acceptRanges", laid_unicode_utf8_acceptRanges), ("unicode/utf8.first", laid_unicode_utf8_first)] }
def DecimalChecksSaid : Prop := decimalChecksRow.holds Tryd.pinned (OpenSpec.ofChange decimalChecksSpec)

/-- ITS FALSE NEIGHBOUR: 'it returns false'. Refute it at one input. -/
def decimalChecksWrong : ChangeSpec := { name := "decimalChecks", fn := fun _ => fun
  | [d] => { results := [.lit (.bool false)], args := [d] }
  | _ => none }
def DecimalChecksWrongFalsely : Prop := decimalChecksRow.holds Tryd.pinned (OpenSpec.ofChange decimalChecksWrong)

/-- 'idiomlaw02.DecimalReads': WHATEVER THE INPUT: true; the input reads as it did. -/
def decimalReadsSpec : ChangeSpec := { name := "decimalReads", fn := fun _ => fun
  | [d] => { results := [.lit (.bool true)], args := [d] }
  | _ => none }
def decimalReadsRow : OpenClaim := { program := "ytihjcaglhjepdaadoor", sum := "52047b92a4d7b4b7db652e6376f662bf4e87c54fdab20955347e1b102f222c8c", func := "idiom/idiomlaw02.DecimalReads", spec := "decimalReads", inPlace := ["internal/bytealg.IndexByteString", "internal/bytealg.IndexString"], named := ["internal/bytealg.MaxLen", "unicode/utf8.first", "unicode/utf8.acceptRanges"], apart := false, laid := [("unicode/utf8.acceptRanges", laid_unicode_utf8_acceptRanges), ("unicode/utf8.first", laid_unicode_utf8_first)] }
def DecimalReadsSaid : Prop := decimalReadsRow.holds Tryd.pinned (OpenSpec.ofChange decimalReadsSpec)

/-- ITS FALSE NEIGHBOUR: 'it returns false'. Refute it at one input. -/
def decimalReadsWrong : ChangeSpec := { name := "decimalReads", fn := fun _ => fun
  | [d] => { results := [.lit (.bool false)], args := [d] }
  | _ => none }
def DecimalReadsWrongFalsely : Prop := decimalReadsRow.holds Tryd.pinned (OpenSpec.ofChange decimalReadsWrong)

/-- 'idiomlaw02.DecimalDivides': WHATEVER THE INPUT: true; the input reads as it did. -/
def decimalDividesSpec : ChangeSpec := { name := "decimalDivides", fn := fun _ => fun
  | [d1, d2] => { results := [.lit (.bool true)], args := [d1, d2] }
  | _ => none }
def decimalDividesRow : OpenClaim := { program := "ytihjcaglhjepdaadoor", sum := "52047b92a4d7b4b7db652e6376f662bf4e87c54fdab20955347e1b102f222c8c", func := "idiom/idiomlaw02.DecimalDivides", spec := "decimalDivides", inPlace := ["internal/bytealg.IndexByteString", "internal/bytealg.IndexString"], named := ["unicode/utf8.first", "unicode/utf8.acceptRanges", "internal/bytealg.MaxLen"], apart := false, laid := [("unicode/utf8.acceptRanges", laid_unicode_utf8_acceptRanges), ("unicode/utf8.first", laid_unicode_utf8_first)] }
def DecimalDividesSaid : Prop := decimalDividesRow.holds Tryd.pinned (OpenSpec.ofChange decimalDividesSpec)

/-- ITS FALSE NEIGHBOUR: 'it returns false'. Refute it at one input. -/
def decimalDividesWrong : ChangeSpec := { name := "decimalDivides", fn := fun _ => fun
  | [d1, d2] => { results := [.lit (.bool false)], args := [d1, d2] }
  | _ => none }
def DecimalDividesWrongFalsely : Prop := decimalDividesRow.holds Tryd.pinned (OpenSpec.ofChange decimalDividesWrong)

/-- 'idiomlaw02.DecimalSums': WHATEVER THE INPUT: true; the input reads as it did. -/
def decimalSumsSpec : ChangeSpec := { name := "decimalSums", fn := fun _ => fun
  | [d1, d2] => { results := [.lit (.bool true)], args := [d1, d2] }
  | _ => none }
def decimalSumsRow : OpenClaim := { program := "ytihjcaglhjepdaadoor", sum := "52047b92a4d7b4b7db652e6376f662bf4e87c54fdab20955347e1b102f222c8c", func := "idiom/idiomlaw02.DecimalSums", spec := "decimalSums", inPlace := ["internal/bytealg.IndexByteString", "internal/bytealg.IndexString"], named := ["unicode/utf8.first", "unicode/utf8.acceptRanges", "internal/bytealg.MaxLen"], apart := false, laid := [("unicode/utf8.acceptRanges", laid_unicode_utf8_acceptRanges), ("unicode/utf8.first", laid_unicode_utf8_first)] }
def DecimalSumsSaid : Prop := decimalSumsRow.holds Tryd.pinned (OpenSpec.ofChange decimalSumsSpec)

/-- ITS FALSE NEIGHBOUR: 'it returns false'. Refute it at one input. -/
def decimalSumsWrong : ChangeSpec := { name := "decimalSums", fn := fun _ => fun
  | [d1, d2] => { results := [.lit (.bool false)], args := [d1, d2] }
  | _ => none }
def DecimalSumsWrongFalsely : Prop := decimalSumsRow.holds Tryd.pinned (OpenSpec.ofChange decimalSumsWrong)

/-- 'idiomlaw02.DecimalRing': WHATEVER THE INPUT: true; the input reads as it did. -/
def decimalRingSpec : ChangeSpec := { name := "decimalRing", fn := fun _ => fun
  | [d1, d2, d3] => { results := [.lit (.bool true)], args := [d1, d2, d3] }
  | _ => none }
def decimalRingRow : OpenClaim := { program := "ytihjcaglhjepdaadoor", sum := "52047b92a4d7b4b7db652e6376f662bf4e87c54fdab20955347e1b102f222c8c", func := "idiom/idiomlaw02.DecimalRing", spec := "decimalRing", inPlace := ["internal/bytealg.IndexByteString", "internal/bytealg.IndexString"], named := ["internal/bytealg.MaxLen", "unicode/utf8.first", "unicode/utf8.acceptRanges"], apart := false, laid := [("unicode/utf8.acceptRanges", laid_unicode_utf8_acceptRanges), ("unicode/utf8.first", laid_unicode_utf8_first)] }
def DecimalRingSaid : Prop := decimalRingRow.holds Tryd.pinned (OpenSpec.ofChange decimalRingSpec)

/-- ITS FALSE NEIGHBOUR: 'it returns false'. Refute it at one input. -/
def decimalRingWrong : ChangeSpec := { name := "decimalRing", fn := fun _ => fun
  | [d1, d2, d3] => { results := [.lit (.bool false)], args := [d1, d2, d3] }
  | _ => none }
def DecimalRingWrongFalsely : Prop := decimalRingRow.holds Tryd.pinned (OpenSpec.ofChange decimalRingWrong)

/-- 'idiomlaw02.DecimalRest': WHATEVER THE INPUT: true; the input reads as it did. -/
def decimalRestSpec : ChangeSpec := { name := "decimalRest", fn := fun _ => fun
  | [d1, d2, d3] => { results := [.lit (.bool true)], args := [d1, d2, d3] }
  | _ => none }
def decimalRestRow : OpenClaim := { program := "ytihjcaglhjepdaadoor", sum := "52047b92a4d7b4b7db652e6376f662bf4e87c54fdab20955347e1b102f222c8c", func := "idiom/idiomlaw02.DecimalRest", spec := "decimalRest", inPlace := ["internal/bytealg.IndexByteString", "internal/bytealg.IndexString"], named := ["internal/bytealg.MaxLen", "unicode/utf8.first", "unicode/utf8.acceptRanges"], apart := false, laid := [("unicode/utf8.acceptRanges", laid_unicode_utf8_acceptRanges), ("unicode/utf8.first", laid_unicode_utf8_first)] }
def DecimalRestSaid : Prop := decimalRestRow.holds Tryd.pinned (OpenSpec.ofChange decimalRestSpec)

/-- ITS FALSE NEIGHBOUR: 'it returns false'. Refute it at one input. -/
def decimalRestWrong : ChangeSpec := { name := "decimalRest", fn := fun _ => fun
  | [d1, d2, d3] => { results := [.lit (.bool false)], args := [d1, d2, d3] }
  | _ => none }
def DecimalRestWrongFalsely : Prop := decimalRestRow.holds Tryd.pinned (OpenSpec.ofChange decimalRestWrong)

/-- 'idiomlaw02.DecimalMoves': WHATEVER THE INPUT: true; the input reads as it did. -/
def decimalMovesSpec : ChangeSpec := { name := "decimalMoves", fn := fun _ => fun
  | [d1, d2] => { results := [.lit (.bool true)], args := [d1, d2] }
  | _ => none }
def decimalMovesRow : OpenClaim := { program := "ytihjcaglhjepdaadoor", sum := "52047b92a4d7b4b7db652e6376f662bf4e87c54fdab20955347e1b102f222c8c", func := "idiom/idiomlaw02.DecimalMoves", spec := "decimalMoves", inPlace := ["internal/bytealg.IndexByteString", "internal/bytealg.IndexString", "internal/abi.NoEscape", "internal/bytealg.MakeNoZero"], named := ["unicode/utf8.first", "unicode/utf8.acceptRanges", "internal/bytealg.MaxLen"], apart := false, laid := [("unicode/utf8.acceptRanges", laid_unicode_utf8_acceptRanges), ("unicode/utf8.first", laid_unicode_utf8_first)] }
def DecimalMovesSaid : Prop := decimalMovesRow.holds Tryd.pinned (OpenSpec.ofChange decimalMovesSpec)

/-- ITS FALSE NEIGHBOUR: 'it returns false'. Refute it at one input. -/
def decimalMovesWrong : ChangeSpec := { name := "decimalMoves", fn := fun _ => fun
  | [d1, d2] => { results := [.lit (.bool false)], args := [d1, d2] }
  | _ => none }
def DecimalMovesWrongFalsely : Prop := decimalMovesRow.holds Tryd.pinned (OpenSpec.ofChange decimalMovesWrong)

/-- 'idiomlaw04.OperandMakes': WHATEVER THE INPUT: true; the input reads as it did. -/
def operandMakesSpec : ChangeSpec := { name := "operandMakes", fn := fun _ => fun
  | [d1, d2, d3] => { results := [.lit (.bool true)], args := [d1, d2, d3] }
  | _ => none }
def operandMakesRow : OpenClaim := { program := "ytihjcaglhjepdaadoor", sum := "52047b92a4d7b4b7db652e6376f662bf4e87c54fdab20955347e1b102f222c8c", func := "idiom/idiomlaw04.OperandMakes", spec := "operandMakes", inPlace := ["internal/bytealg.IndexByteString", "internal/bytealg.IndexString", "internal/abi.NoEscape", "internal/bytealg.MakeNoZero"], named := ["unicode/utf8.first", "unicode/utf8.acceptRanges", "internal/strconv.uint64pow10", "math/bits.deBruijn32tab", "math/bits.deBruijn64tab", "internal/bytealg.MaxLen"], apart := false, laid := [("math/bits.deBruijn32tab", laid_math_bits_deBruijn32tab), ("math/bits.deBruijn64tab", laid_math_bits_deBruijn64tab), ("internal/strconv.uint64pow10", laid_internal_strconv_uint64pow10), ("unicode/utf8.acceptRanges", laid_unicode_utf8_acceptRanges), ("unicode/utf8.first", laid_unicode_utf8_first)] }
def OperandMakesSaid : Prop := operandMakesRow.holds Tryd.pinned (OpenSpec.ofChange operandMakesSpec)

/-- ITS FALSE NEIGHBOUR: 'it returns false'. Refute it at one input. -/
def operandMakesWrong : ChangeSpec := { name := "operandMakes", fn := fun _ => fun
  | [d1, d2, d3] => { results := [.lit (.bool false)], args := [d1, d2, d3] }
  | _ => none }
def OperandMakesWrongFalsely : Prop := operandMakesRow.holds Tryd.pinned (OpenSpec.ofChange operandMakesWrong)

/-- 'idiomlaw04.OperandLost': WHATEVER THE INPUT: true; the input reads as it did. -/
def operandLostSpec : ChangeSpec := { name := "operandLost", fn := fun _ => fun
  | [d1, d2, d3, d4] => { results := [.lit (.bool true)], args := [d1, d2, d3, d4] }
  | _ => none }
def operandLostRow : OpenClaim := { program := "ytihjcaglhjepdaadoor", sum := "52047b92a4d7b4b7db652e6376f662bf4e87c54fdab20955347e1b102f222c8c", func := "idiom/idiomlaw04.OperandLost", spec := "operandLost", inPlace := ["internal/bytealg.IndexByteString", "internal/bytealg.IndexString", "internal/abi.NoEscape", "internal/bytealg.MakeNoZero"], named := ["unicode/utf8.first", "unicode/utf8.acceptRanges", "internal/strconv.uint64pow10", "math/bits.deBruijn32tab", "math/bits.deBruijn64tab", "internal/bytealg.MaxLen"], apart := false, laid := [("math/bits.deBruijn32tab", laid_math_bits_deBruijn32tab), ("math/bits.deBruijn64tab", laid_math_bits_deBruijn64tab), ("internal/strconv.uint64pow10", laid_internal_strconv_uint64pow10), ("unicode/utf8.acceptRanges", laid_unicode_utf8_acceptRanges), ("unicode/utf8.first", laid_unicode_utf8_first)] }
def OperandLostSaid : Prop := operandLostRow.holds Tryd.pinned (OpenSpec.ofChange operandLostSpec)

/-- ITS FALSE NEIGHBOUR: 'it returns false'. Refute it at one input. -/
def operandLostWrong : ChangeSpec := { name := "operandLost", fn := fun _ => fun
  | [d1, d2, d3, d4] => { results := [.lit (.bool false)], args := [d1, d2, d3, d4] }
  | _ => none }
def OperandLostWrongFalsely : Prop := operandLostRow.holds Tryd.pinned (OpenSpec.ofChange operandLostWrong)

/-- 'idiomlaw04.OperandParts': WHATEVER THE INPUT: true; the input reads as it did. -/
def operandPartsSpec : ChangeSpec := { name := "operandParts", fn := fun _ => fun
  | [d1, d2] => { results := [.lit (.bool true)], args := [d1, d2] }
  | _ => none }
def operandPartsRow : OpenClaim := { program := "ytihjcaglhjepdaadoor", sum := "52047b92a4d7b4b7db652e6376f662bf4e87c54fdab20955347e1b102f222c8c", func := "idiom/idiomlaw04.OperandParts", spec := "operandParts", inPlace := ["internal/bytealg.IndexByteString", "internal/bytealg.IndexString", "internal/abi.NoEscape", "internal/bytealg.MakeNoZero"], named := ["unicode/utf8.first", "unicode/utf8.acceptRanges", "internal/strconv.uint64pow10", "math/bits.deBruijn32tab", "math/bits.deBruijn64tab", "internal/bytealg.MaxLen"], apart := false, laid := [("math/bits.deBruijn32tab", laid_math_bits_deBruijn32tab), ("math/bits.deBruijn64tab", laid_math_bits_deBruijn64tab), ("internal/strconv.uint64pow10", laid_internal_strconv_uint64pow10), ("unicode/utf8.acceptRanges", laid_unicode_utf8_acceptRanges), ("unicode/utf8.first", laid_unicode_utf8_first)] }
def OperandPartsSaid : Prop := operandPartsRow.holds Tryd.pinned (OpenSpec.ofChange operandPartsSpec)

/-- ITS FALSE NEIGHBOUR: 'it returns false'. Refute it at one input. -/
def operandPartsWrong : ChangeSpec := { name := "operandParts", fn := fun _ => fun
  | [d1, d2] => { results := [.lit (.bool false)], args := [d1, d2] }
  | _ => none }
def OperandPartsWrongFalsely : Prop := operandPartsRow.holds Tryd.pinned (OpenSpec.ofChange operandPartsWrong)

/-- 'idiomlaw04.OperandNoughts': WHATEVER THE INPUT: true; the input reads as it did. -/
def operandNoughtsSpec : ChangeSpec := { name := "operandNoughts", fn := fun _ => fun
  | [d1, d2] => { results := [.lit (.bool true)], args := [d1, d2] }
  | _ => none }
def operandNoughtsRow : OpenClaim := { program := "ytihjcaglhjepdaadoor", sum := "52047b92a4d7b4b7db652e6376f662bf4e87c54fdab20955347e1b102f222c8c", func := "idiom/idiomlaw04.OperandNoughts", spec := "operandNoughts", inPlace := ["internal/bytealg.IndexByteString", "internal/bytealg.IndexString", "internal/abi.NoEscape", "internal/bytealg.MakeNoZero"], named := ["unicode/utf8.first", "unicode/utf8.acceptRanges", "internal/strconv.uint64pow10", "math/bits.deBruijn32tab", "math/bits.deBruijn64tab", "internal/bytealg.MaxLen"], apart := false, laid := [("math/bits.deBruijn32tab", laid_math_bits_deBruijn32tab), ("math/bits.deBruijn64tab", laid_math_bits_deBruijn64tab), ("internal/strconv.uint64pow10", laid_internal_strconv_uint64pow10), ("unicode/utf8.acceptRanges", laid_unicode_utf8_acceptRanges), ("unicode/utf8.first", laid_unicode_utf8_first)] }
def OperandNoughtsSaid : Prop := operandNoughtsRow.holds Tryd.pinned (OpenSpec.ofChange operandNoughtsSpec)

/-- ITS FALSE NEIGHBOUR: 'it returns false'. Refute it at one input. -/
def operandNoughtsWrong : ChangeSpec := { name := "operandNoughts", fn := fun _ => fun
  | [d1, d2] => { results := [.lit (.bool false)], args := [d1, d2] }
  | _ => none }
def OperandNoughtsWrongFalsely : Prop := operandNoughtsRow.holds Tryd.pinned (OpenSpec.ofChange operandNoughtsWrong)

/-- 'idiomlaw04.OperandSame': WHATEVER THE INPUT: true; the input reads as it did. -/
def operandSameSpec : ChangeSpec := { name := "operandSame", fn := fun _ => fun
  | [d1, d2] => { results := [.lit (.bool true)], args := [d1, d2] }
  | _ => none }
def operandSameRow : OpenClaim := { program := "ytihjcaglhjepdaadoor", sum := "52047b92a4d7b4b7db652e6376f662bf4e87c54fdab20955347e1b102f222c8c", func := "idiom/idiomlaw04.OperandSame", spec := "operandSame", inPlace := ["internal/bytealg.IndexByteString", "internal/bytealg.IndexString", "internal/abi.NoEscape", "internal/bytealg.MakeNoZero"], named := ["unicode/utf8.first", "unicode/utf8.acceptRanges", "internal/strconv.uint64pow10", "math/bits.deBruijn32tab", "math/bits.deBruijn64tab", "internal/bytealg.MaxLen"], apart := false, laid := [("math/bits.deBruijn32tab", laid_math_bits_deBruijn32tab), ("math/bits.deBruijn64tab", laid_math_bits_deBruijn64tab), ("internal/strconv.uint64pow10", laid_internal_strconv_uint64pow10), ("unicode/utf8.acceptRanges", laid_unicode_utf8_acceptRanges), ("unicode/utf8.first", laid_unicode_utf8_first)] }
def OperandSameSaid : Prop := operandSameRow.holds Tryd.pinned (OpenSpec.ofChange operandSameSpec)

/-- ITS FALSE NEIGHBOUR: 'it returns false'. Refute it at one input. -/
def operandSameWrong : ChangeSpec := { name := "operandSame", fn := fun _ => fun
  | [d1, d2] => { results := [.lit (.bool false)], args := [d1, d2] }
  | _ => none }
def OperandSameWrongFalsely : Prop := operandSameRow.holds Tryd.pinned (OpenSpec.ofChange operandSameWrong)

/-- 'idiomlaw04.OperandLists': WHATEVER THE INPUT: true; the input reads as it did. -/
def operandListsSpec : ChangeSpec := { name := "operandLists", fn := fun _ => fun
  | [d1, d2] => { results := [.lit (.bool true)], args := [d1, d2] }
  | _ => none }
def operandListsRow : OpenClaim := { program := "ytihjcaglhjepdaadoor", sum := "52047b92a4d7b4b7db652e6376f662bf4e87c54fdab20955347e1b102f222c8c", func := "idiom/idiomlaw04.OperandLists", spec := "operandLists", inPlace := ["internal/bytealg.IndexByteString", "internal/bytealg.IndexString", "internal/abi.NoEscape", "internal/bytealg.MakeNoZero"], named := ["unicode/utf8.first", "unicode/utf8.acceptRanges", "internal/strconv.uint64pow10", "math/bits.deBruijn32tab", "math/bits.deBruijn64tab", "internal/bytealg.MaxLen"], apart := false, laid := [("math/bits.deBruijn32tab", laid_math_bits_deBruijn32tab), ("math/bits.deBruijn64tab", laid_math_bits_deBruijn64tab), ("internal/strconv.uint64pow10", laid_internal_strconv_uint64pow10), ("unicode/utf8.acceptRanges", laid_unicode_utf8_acceptRanges), ("unicode/utf8.first", laid_unicode_utf8_first)] }
def OperandListsSaid : Prop := operandListsRow.holds Tryd.pinned (OpenSpec.ofChange operandListsSpec)

/-- ITS FALSE NEIGHBOUR: 'it returns false'. Refute it at one input. -/
def operandListsWrong : ChangeSpec := { name := "operandLists", fn := fun _ => fun
  | [d1, d2] => { results := [.lit (.bool false)], args := [d1, d2] }
  | _ => none }
def OperandListsWrongFalsely : Prop := operandListsRow.holds Tryd.pinned (OpenSpec.ofChange operandListsWrong)

/-- 'idiomlaw04.OperandWhole': WHATEVER THE INPUT: true; the input reads as it did. -/
def operandWholeSpec : ChangeSpec := { name := "operandWhole", fn := fun _ => fun
  | [d] => { results := [.lit (.bool true)], args := [d] }
  | _ => none }
def operandWholeRow : OpenClaim := { program := "ytihjcaglhjepdaadoor", sum := "52047b92a4d7b4b7db652e6376f662bf4e87c54fdab20955347e1b102f222c8c", func := "idiom/idiomlaw04.OperandWhole", spec := "operandWhole", inPlace := ["internal/bytealg.IndexByteString", "internal/bytealg.IndexString", "internal/abi.NoEscape", "internal/bytealg.MakeNoZero"], named := ["unicode/utf8.first", "unicode/utf8.acceptRanges", "internal/strconv.uint64pow10", "math/bits.deBruijn32tab", "math/bits.deBruijn64tab", "internal/bytealg.MaxLen"], apart := false, laid := [("math/bits.deBruijn32tab", laid_math_bits_deBruijn32tab), ("math/bits.deBruijn64tab", laid_math_bits_deBruijn64tab), ("internal/strconv.uint64pow10", laid_internal_strconv_uint64pow10), ("unicode/utf8.acceptRanges", laid_unicode_utf8_acceptRanges), ("unicode/utf8.first", laid_unicode_utf8_first)] }
def OperandWholeSaid : Prop := operandWholeRow.holds Tryd.pinned (OpenSpec.ofChange operandWholeSpec)

/-- ITS FALSE NEIGHBOUR: 'it returns false'. Refute it at one input. -/
def operandWholeWrong : ChangeSpec := { name := "operandWhole", fn := fun _ => fun
  | [d] => { results := [.lit (.bool false)], args := [d] }
  | _ => none }
def OperandWholeWrongFalsely : Prop := operandWholeRow.holds Tryd.pinned (OpenSpec.ofChange operandWholeWrong)

/- THE SECOND FORM. 'bulk': how many values and letters a reading holds, each counted each time it is reached (what is shared counts as often as it is met; a slice's spare places count too). A statement '..UptoSaid' is the law's where the arguments, and the package variables that the reading takes, are together of bulk at most 1048576: NARROWER than '..Said'. Prove '..Said' where nothing that the law and all that it calls make is longer than what came in: it says more and counts as full. Else prove '..UptoSaid'. A law counts once. -/
mutual
def uptoBulk {H : Type} : DataW H → Nat
  | .lit (.string bytes) => bytes.length + 1
  | .lit _ => 1
  | .nil => 1
  | .ptr d => uptoBulk d + 1
  | .slice elems spare => uptoBulkAll elems + uptoBulkAll spare + 1
  | .agg parts => uptoBulkAll parts + 1
  | .iface _ d => uptoBulk d + 1
  | .map entries => uptoBulkEntries entries + 1
  | .held _ => 1
def uptoBulkAll {H : Type} : List (DataW H) → Nat
  | [] => 0
  | d :: r => uptoBulk d + uptoBulkAll r
def uptoBulkEntries {H : Type} : List (Lit × DataW H) → Nat
  | [] => 0
  | x :: r => uptoBulkEntry x + uptoBulkEntries r
def uptoBulkEntry {H : Type} : Lit × DataW H → Nat
  | (.string bytes, d) => bytes.length + uptoBulk d + 1
  | (_, d) => uptoBulk d + 1
 end
def uptoSmall : (H : Type) → List (DataW H) → Bool := fun _ ds => decide (uptoBulkAll ds ≤ 1048576)
def OpenSpec.upto (s : _root_.Go.ChangeSpec) : _root_.Go.OpenSpec := { _root_.Go.OpenSpec.ofChange s with cond := some uptoSmall }

/-- 'idiomlaw02.DecimalChecks', WHERE WHAT IT READS IS OF BULK AT MOST 1048576: true; the input reads as it did. -/
def decimalChecksUptoRow : OpenClaim := { program := "ytihjcaglhjepdaadoor", sum := "52047b92a4d7b4b7db652e6376f662bf4e87c54fdab20955347e1b102f222c8c", func := "idiom/idiomlaw02.DecimalChecks", spec := "decimalChecks", inPlace := ["internal/bytealg.IndexByteString", "internal/bytealg.IndexString"], named := ["unicode/utf8.first", "unicode/utf8.acceptRanges", "internal/bytealg.MaxLen"], apart := false, laid := [("unicode/utf8.acceptRanges", laid_unicode_utf8_acceptRanges), ("unicode/utf8.first", laid_unicode_utf8_first)], narrowed := true }
def DecimalChecksUptoSaid : Prop := decimalChecksUptoRow.holds Tryd.pinned (OpenSpec.upto decimalChecksSpec)

/-- 'idiomlaw02.DecimalReads', WHERE WHAT IT READS IS OF BULK AT MOST 1048576: true; the input reads as it did. -/
def decimalReadsUptoRow : OpenClaim := { program := "ytihjcaglhjepdaadoor", sum := "52047b92a4d7b4b7db652e6376f662bf4e87c54fdab20955347e1b102f222c8c", func := "idiom/idiomlaw02.DecimalReads", spec := "decimalReads", inPlace := ["internal/bytealg.IndexByteString", "internal/bytealg.IndexString"], named := ["internal/bytealg.MaxLen", "unicode/utf8.first", "unicode/utf8.acceptRanges"], apart := false, laid := [("unicode/utf8.acceptRanges", laid_unicode_utf8_acceptRanges), ("unicode/utf8.first", laid_unicode_utf8_first)], narrowed := true }
def DecimalReadsUptoSaid : Prop := decimalReadsUptoRow.holds Tryd.pinned (OpenSpec.upto decimalReadsSpec)

/-- 'idiomlaw02.DecimalDivides', WHERE WHAT IT READS IS OF BULK AT MOST 1048576: true; the input reads as it did. -/
def decimalDividesUptoRow : OpenClaim := { program := "ytihjcaglhjepdaadoor", sum := "52047b92a4d7b4b7db652e6376f662bf4e87c54fdab20955347e1b102f222c8c", func := "idiom/idiomlaw02.DecimalDivides", spec := "decimalDivides", inPlace := ["internal/bytealg.IndexByteString", "internal/bytealg.IndexString"], named := ["unicode/utf8.first", "unicode/utf8.acceptRanges", "internal/bytealg.MaxLen"], apart := false, laid := [("unicode/utf8.acceptRanges", laid_unicode_utf8_acceptRanges), ("unicode/utf8.first", laid_unicode_utf8_first)], narrowed := true }
def DecimalDividesUptoSaid : Prop := decimalDividesUptoRow.holds Tryd.pinned (OpenSpec.upto decimalDividesSpec)

/-- 'idiomlaw02.DecimalSums', WHERE WHAT IT READS IS OF BULK AT MOST 1048576: true; the input reads as it did. -/
def decimalSumsUptoRow : OpenClaim := { program := "ytihjcaglhjepdaadoor", sum := "52047b92a4d7b4b7db652e6376f662bf4e87c54fdab20955347e1b102f222c8c", func := "idiom/idiomlaw02.DecimalSums", spec := "decimalSums", inPlace := ["internal/bytealg.IndexByteString", "internal/bytealg.IndexString"], named := ["unicode/utf8.first", "unicode/utf8.acceptRanges", "internal/bytealg.MaxLen"], apart := false, laid := [("unicode/utf8.acceptRanges", laid_unicode_utf8_acceptRanges), ("unicode/utf8.first", laid_unicode_utf8_first)], narrowed := true }
def DecimalSumsUptoSaid : Prop := decimalSumsUptoRow.holds Tryd.pinned (OpenSpec.upto decimalSumsSpec)

/-- 'idiomlaw02.DecimalRing', WHERE WHAT IT READS IS OF BULK AT MOST 1048576: true; the input reads as it did. -/
def decimalRingUptoRow : OpenClaim := { program := "ytihjcaglhjepdaadoor", sum := "52047b92a4d7b4b7db652e6376f662bf4e87c54fdab20955347e1b102f222c8c", func := "idiom/idiomlaw02.DecimalRing", spec := "decimalRing", inPlace := ["internal/bytealg.IndexByteString", "internal/bytealg.IndexString"], named := ["internal/bytealg.MaxLen", "unicode/utf8.first", "unicode/utf8.acceptRanges"], apart := false, laid := [("unicode/utf8.acceptRanges", laid_unicode_utf8_acceptRanges), ("unicode/utf8.first", laid_unicode_utf8_first)], narrowed := true }
def DecimalRingUptoSaid : Prop := decimalRingUptoRow.holds Tryd.pinned (OpenSpec.upto decimalRingSpec)

/-- 'idiomlaw02.DecimalRest', WHERE WHAT IT READS IS OF BULK AT MOST 1048576: true; the input reads as it did. -/
def decimalRestUptoRow : OpenClaim := { program := "ytihjcaglhjepdaadoor", sum := "52047b92a4d7b4b7db652e6376f662bf4e87c54fdab20955347e1b102f222c8c", func := "idiom/idiomlaw02.DecimalRest", spec := "decimalRest", inPlace := ["internal/bytealg.IndexByteString", "internal/bytealg.IndexString"], named := ["internal/bytealg.MaxLen", "unicode/utf8.first", "unicode/utf8.acceptRanges"], apart := false, laid := [("unicode/utf8.acceptRanges", laid_unicode_utf8_acceptRanges), ("unicode/utf8.first", laid_unicode_utf8_first)], narrowed := true }
def DecimalRestUptoSaid : Prop := decimalRestUptoRow.holds Tryd.pinned (OpenSpec.upto decimalRestSpec)

/-- 'idiomlaw02.DecimalMoves', WHERE WHAT IT READS IS OF BULK AT MOST 1048576: true; the input reads as it did. -/
def decimalMovesUptoRow : OpenClaim := { program := "ytihjcaglhjepdaadoor", sum := "52047b92a4d7b4b7db652e6376f662bf4e87c54fdab20955347e1b102f222c8c", func := "idiom/idiomlaw02.DecimalMoves", spec := "decimalMoves", inPlace := ["internal/bytealg.IndexByteString", "internal/bytealg.IndexString", "internal/abi.NoEscape", "internal/bytealg.MakeNoZero"], named := ["unicode/utf8.first", "unicode/utf8.acceptRanges", "internal/bytealg.MaxLen"], apart := false, laid := [("unicode/utf8.acceptRanges", laid_unicode_utf8_acceptRanges), ("unicode/utf8.first", laid_unicode_utf8_first)], narrowed := true }
def DecimalMovesUptoSaid : Prop := decimalMovesUptoRow.holds Tryd.pinned (OpenSpec.upto decimalMovesSpec)

/-- 'idiomlaw04.OperandMakes', WHERE WHAT IT READS IS OF BULK AT MOST 1048576: true; the input reads as it did. -/
def operandMakesUptoRow : OpenClaim := { program := "ytihjcaglhjepdaadoor", sum := "52047b92a4d7b4b7db652e6376f662bf4e87c54fdab20955347e1b102f222c8c", func := "idiom/idiomlaw04.OperandMakes", spec := "operandMakes", inPlace := ["internal/bytealg.IndexByteString", "internal/bytealg.IndexString", "internal/abi.NoEscape", "internal/bytealg.MakeNoZero"], named := ["unicode/utf8.first", "unicode/utf8.acceptRanges", "internal/strconv.uint64pow10", "math/bits.deBruijn32tab", "math/bits.deBruijn64tab", "internal/bytealg.MaxLen"], apart := false, laid := [("math/bits.deBruijn32tab", laid_math_bits_deBruijn32tab), ("math/bits.deBruijn64tab", laid_math_bits_deBruijn64tab), ("internal/strconv.uint64pow10", laid_internal_strconv_uint64pow10), ("unicode/utf8.acceptRanges", laid_unicode_utf8_acceptRanges), ("unicode/utf8.first", laid_unicode_utf8_first)], narrowed := true }
def OperandMakesUptoSaid : Prop := operandMakesUptoRow.holds Tryd.pinned (OpenSpec.upto operandMakesSpec)

/-- 'idiomlaw04.OperandLost', WHERE WHAT IT READS IS OF BULK AT MOST 1048576: true; the input reads as it did. -/
def operandLostUptoRow : OpenClaim := { program := "ytihjcaglhjepdaadoor", sum := "52047b92a4d7b4b7db652e6376f662bf4e87c54fdab20955347e1b102f222c8c", func := "idiom/idiomlaw04.OperandLost", spec := "operandLost", inPlace := ["internal/bytealg.IndexByteString", "internal/bytealg.IndexString", "internal/abi.NoEscape", "internal/bytealg.MakeNoZero"], named := ["unicode/utf8.first", "unicode/utf8.acceptRanges", "internal/strconv.uint64pow10", "math/bits.deBruijn32tab", "math/bits.deBruijn64tab", "internal/bytealg.MaxLen"], apart := false, laid := [("math/bits.deBruijn32tab", laid_math_bits_deBruijn32tab), ("math/bits.deBruijn64tab", laid_math_bits_deBruijn64tab), ("internal/strconv.uint64pow10", laid_internal_strconv_uint64pow10), ("unicode/utf8.acceptRanges", laid_unicode_utf8_acceptRanges), ("unicode/utf8.first", laid_unicode_utf8_first)], narrowed := true }
def OperandLostUptoSaid : Prop := operandLostUptoRow.holds Tryd.pinned (OpenSpec.upto operandLostSpec)

/-- 'idiomlaw04.OperandParts', WHERE WHAT IT READS IS OF BULK AT MOST 1048576: true; the input reads as it did. -/
def operandPartsUptoRow : OpenClaim := { program := "ytihjcaglhjepdaadoor", sum := "52047b92a4d7b4b7db652e6376f662bf4e87c54fdab20955347e1b102f222c8c", func := "idiom/idiomlaw04.OperandParts", spec := "operandParts", inPlace := ["internal/bytealg.IndexByteString", "internal/bytealg.IndexString", "internal/abi.NoEscape", "internal/bytealg.MakeNoZero"], named := ["unicode/utf8.first", "unicode/utf8.acceptRanges", "internal/strconv.uint64pow10", "math/bits.deBruijn32tab", "math/bits.deBruijn64tab", "internal/bytealg.MaxLen"], apart := false, laid := [("math/bits.deBruijn32tab", laid_math_bits_deBruijn32tab), ("math/bits.deBruijn64tab", laid_math_bits_deBruijn64tab), ("internal/strconv.uint64pow10", laid_internal_strconv_uint64pow10), ("unicode/utf8.acceptRanges", laid_unicode_utf8_acceptRanges), ("unicode/utf8.first", laid_unicode_utf8_first)], narrowed := true }
def OperandPartsUptoSaid : Prop := operandPartsUptoRow.holds Tryd.pinned (OpenSpec.upto operandPartsSpec)

/-- 'idiomlaw04.OperandNoughts', WHERE WHAT IT READS IS OF BULK AT MOST 1048576: true; the input reads as it did. -/
def operandNoughtsUptoRow : OpenClaim := { program := "ytihjcaglhjepdaadoor", sum := "52047b92a4d7b4b7db652e6376f662bf4e87c54fdab20955347e1b102f222c8c", func := "idiom/idiomlaw04.OperandNoughts", spec := "operandNoughts", inPlace := ["internal/bytealg.IndexByteString", "internal/bytealg.IndexString", "internal/abi.NoEscape", "internal/bytealg.MakeNoZero"], named := ["unicode/utf8.first", "unicode/utf8.acceptRanges", "internal/strconv.uint64pow10", "math/bits.deBruijn32tab", "math/bits.deBruijn64tab", "internal/bytealg.MaxLen"], apart := false, laid := [("math/bits.deBruijn32tab", laid_math_bits_deBruijn32tab), ("math/bits.deBruijn64tab", laid_math_bits_deBruijn64tab), ("internal/strconv.uint64pow10", laid_internal_strconv_uint64pow10), ("unicode/utf8.acceptRanges", laid_unicode_utf8_acceptRanges), ("unicode/utf8.first", laid_unicode_utf8_first)], narrowed := true }
def OperandNoughtsUptoSaid : Prop := operandNoughtsUptoRow.holds Tryd.pinned (OpenSpec.upto operandNoughtsSpec)

/-- 'idiomlaw04.OperandSame', WHERE WHAT IT READS IS OF BULK AT MOST 1048576: true; the input reads as it did. -/
def operandSameUptoRow : OpenClaim := { program := "ytihjcaglhjepdaadoor", sum := "52047b92a4d7b4b7db652e6376f662bf4e87c54fdab20955347e1b102f222c8c", func := "idiom/idiomlaw04.OperandSame", spec := "operandSame", inPlace := ["internal/bytealg.IndexByteString", "internal/bytealg.IndexString", "internal/abi.NoEscape", "internal/bytealg.MakeNoZero"], named := ["unicode/utf8.first", "unicode/utf8.acceptRanges", "internal/strconv.uint64pow10", "math/bits.deBruijn32tab", "math/bits.deBruijn64tab", "internal/bytealg.MaxLen"], apart := false, laid := [("math/bits.deBruijn32tab", laid_math_bits_deBruijn32tab), ("math/bits.deBruijn64tab", laid_math_bits_deBruijn64tab), ("internal/strconv.uint64pow10", laid_internal_strconv_uint64pow10), ("unicode/utf8.acceptRanges", laid_unicode_utf8_acceptRanges), ("unicode/utf8.first", laid_unicode_utf8_first)], narrowed := true }
def OperandSameUptoSaid : Prop := operandSameUptoRow.holds Tryd.pinned (OpenSpec.upto operandSameSpec)

/-- 'idiomlaw04.OperandLists', WHERE WHAT IT READS IS OF BULK AT MOST 1048576: true; the input reads as it did. -/
def operandListsUptoRow : OpenClaim := { program := "ytihjcaglhjepdaadoor", sum := "52047b92a4d7b4b7db652e6376f662bf4e87c54fdab20955347e1b102f222c8c", func := "idiom/idiomlaw04.OperandLists", spec := "operandLists", inPlace := ["internal/bytealg.IndexByteString", "internal/bytealg.IndexString", "internal/abi.NoEscape", "internal/bytealg.MakeNoZero"], named := ["unicode/utf8.first", "unicode/utf8.acceptRanges", "internal/strconv.uint64pow10", "math/bits.deBruijn32tab", "math/bits.deBruijn64tab", "internal/bytealg.MaxLen"], apart := false, laid := [("math/bits.deBruijn32tab", laid_math_bits_deBruijn32tab), ("math/bits.deBruijn64tab", laid_math_bits_deBruijn64tab), ("internal/strconv.uint64pow10", laid_internal_strconv_uint64pow10), ("unicode/utf8.acceptRanges", laid_unicode_utf8_acceptRanges), ("unicode/utf8.first", laid_unicode_utf8_first)], narrowed := true }
def OperandListsUptoSaid : Prop := operandListsUptoRow.holds Tryd.pinned (OpenSpec.upto operandListsSpec)

/-- 'idiomlaw04.OperandWhole', WHERE WHAT IT READS IS OF BULK AT MOST 1048576: true; the input reads as it did. -/
def operandWholeUptoRow : OpenClaim := { program := "ytihjcaglhjepdaadoor", sum := "52047b92a4d7b4b7db652e6376f662bf4e87c54fdab20955347e1b102f222c8c", func := "idiom/idiomlaw04.OperandWhole", spec := "operandWhole", inPlace := ["internal/bytealg.IndexByteString", "internal/bytealg.IndexString", "internal/abi.NoEscape", "internal/bytealg.MakeNoZero"], named := ["unicode/utf8.first", "unicode/utf8.acceptRanges", "internal/strconv.uint64pow10", "math/bits.deBruijn32tab", "math/bits.deBruijn64tab", "internal/bytealg.MaxLen"], apart := false, laid := [("math/bits.deBruijn32tab", laid_math_bits_deBruijn32tab), ("math/bits.deBruijn64tab", laid_math_bits_deBruijn64tab), ("internal/strconv.uint64pow10", laid_internal_strconv_uint64pow10), ("unicode/utf8.acceptRanges", laid_unicode_utf8_acceptRanges), ("unicode/utf8.first", laid_unicode_utf8_first)], narrowed := true }
def OperandWholeUptoSaid : Prop := operandWholeUptoRow.holds Tryd.pinned (OpenSpec.upto operandWholeSpec)

end Rows
end Go.Proofs.YtihjcaglhjepdaaDoor
