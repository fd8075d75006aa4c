/-
  NARROWER THAN 'FOR EVERY INPUT', by the rows' own cells (each row's printed sentence says how): ColourCurves: laid · ColourMatrices: laid · ColourComposed: laid · ColourUnit: laid · ColourReached: laid · ColourShaded: laid · ColourLumas: laid · ColourFlashes: laid · ColourSounds: laid · ColourMeasured: laid · ColourLimits: laid · ColourApplied: laid · ColourInverse: laid · ColourWitness: laid · ColourTexts: laid · ColourBack: laid.
  DERIVED. THE GIVEN ROWS OF THIS SEAT. 16 by the template 'for every input the law returns true; each argument reads behind the call as it read before'; 0 by the template 'total and deterministic' (their statements: YtdbffbcobghbeaaGreatDoorTotals.lean).
  GIVEN WITH THE SEED: the statements are not yours to turn. If you find one false, say at which input.
  Laid BY PROGRAM, IN A SANDBOX (cutbox-rows.mjs): the forced cells as the released guide's own fill.sh prints them over the translation e191f56ab4d5f145… (all of the seat's roots in one cut). By AI agents, Wed Nov 11 2026. No macro, syntax, notation, axiom, sorry.
-/
import Derived.Test.YtdbffbcobghbeaaGreatDoorChecked
import GoSem.PinnedTables
import GoSem.Claim
import GoSem.ClaimJoined
import GoSem.ClaimMapViews
import Derived.JoinedTies
import Derived.KernelRfl
namespace Go.Proofs.YtdbffbcobghbeaaGreatDoor
/- THE CELL 'sum', in the pinned program and in every row, IS THE sha256 OF THE DUMP (.gsa) THAT YtdbffbcobghbeaaGreatDoorProg.lean LOADS. Nothing in Lean hashes anything: it is a label: what it is worth is what the hold of that sum in a sandbox is worth. -/
noncomputable def Tryz.pinned : Pinned := { name := "ytdbffbcobghbeaagreatdoor", sum := "e191f56ab4d5f1451ab4bc6d1149a8f2a30423d04b290a2f56fdff2cc978953f", checked := Tryz.checked }
namespace Rows
def none {H : Type} : Left H := { results := [], args := [] }

/- WHAT THE LISTED PACKAGE-LEVEL VARIABLES READ AS WHEN THE CALL BEGINS. Each datum BY PROGRAM (the guide's laid-datum.mjs) off the statement by which the dump's own 'gosem.cut.vars' lays the variable. In a bare row this is a premise. The card (YtdbffbcobghbeaaGreatDoorCards.lean) ties it to the program's text. -/
def laid_math_bits_deBruijn32tab {H : Type} : DataW H := .agg [.lit (.int .u8 0), .lit (.int .u8 1), .lit (.int .u8 28), .lit (.int .u8 2), .lit (.int .u8 29), .lit (.int .u8 14), .lit (.int .u8 24), .lit (.int .u8 3), .lit (.int .u8 30), .lit (.int .u8 22), .lit (.int .u8 20), .lit (.int .u8 15), .lit (.int .u8 25), .lit (.int .u8 17), .lit (.int .u8 4), .lit (.int .u8 8), .lit (.int .u8 31), .lit (.int .u8 27), .lit (.int .u8 13), .lit (.int .u8 23), .lit (.int .u8 21), .lit (.int .u8 19), .lit (.int .u8 16), .lit (.int .u8 7), .lit (.int .u8 26), .lit (.int .u8 12), .lit (.int .u8 18), .lit (.int .u8 6), .lit (.int .u8 11), .lit (.int .u8 5), .lit (.int .u8 10), .lit (.int .u8 9)]
def laid_math_bits_deBruijn64tab {H : Type} : DataW H := .agg [.lit (.int .u8 0), .lit (.int .u8 1), .lit (.int .u8 56), .lit (.int .u8 2), .lit (.int .u8 57), .lit (.int .u8 49), .lit (.int .u8 28), .lit (.int .u8 3), .lit (.int .u8 61), .lit (.int .u8 58), .lit (.int .u8 42), .lit (.int .u8 50), .lit (.int .u8 38), .lit (.int .u8 29), .lit (.int .u8 17), .lit (.int .u8 4), .lit (.int .u8 62), .lit (.int .u8 47), .lit (.int .u8 59), .lit (.int .u8 36), .lit (.int .u8 45), .lit (.int .u8 43), .lit (.int .u8 51), .lit (.int .u8 22), .lit (.int .u8 53), .lit (.int .u8 39), .lit (.int .u8 33), .lit (.int .u8 30), .lit (.int .u8 24), .lit (.int .u8 18), .lit (.int .u8 12), .lit (.int .u8 5), .lit (.int .u8 63), .lit (.int .u8 55), .lit (.int .u8 48), .lit (.int .u8 27), .lit (.int .u8 60), .lit (.int .u8 41), .lit (.int .u8 37), .lit (.int .u8 16), .lit (.int .u8 46), .lit (.int .u8 35), .lit (.int .u8 44), .lit (.int .u8 21), .lit (.int .u8 52), .lit (.int .u8 32), .lit (.int .u8 23), .lit (.int .u8 11), .lit (.int .u8 54), .lit (.int .u8 26), .lit (.int .u8 40), .lit (.int .u8 15), .lit (.int .u8 34), .lit (.int .u8 20), .lit (.int .u8 31), .lit (.int .u8 10), .lit (.int .u8 25), .lit (.int .u8 14), .lit (.int .u8 19), .lit (.int .u8 9), .lit (.int .u8 13), .lit (.int .u8 8), .lit (.int .u8 7), .lit (.int .u8 6)]
def laid_internal_strconv_uint64pow10 {H : Type} : DataW H := .agg [.lit (.int .u64 1), .lit (.int .u64 10), .lit (.int .u64 100), .lit (.int .u64 1000), .lit (.int .u64 10000), .lit (.int .u64 100000), .lit (.int .u64 1000000), .lit (.int .u64 10000000), .lit (.int .u64 100000000), .lit (.int .u64 1000000000), .lit (.int .u64 10000000000), .lit (.int .u64 100000000000), .lit (.int .u64 1000000000000), .lit (.int .u64 10000000000000), .lit (.int .u64 100000000000000), .lit (.int .u64 1000000000000000), .lit (.int .u64 10000000000000000), .lit (.int .u64 100000000000000000), .lit (.int .u64 1000000000000000000), .lit (.int .u64 10000000000000000000)]
def laid_genlock_colour_others {H : Type} : DataW H := .agg [.agg [.lit (.int .i64 1), .lit (.int .i64 2)], .agg [.lit (.int .i64 2), .lit (.int .i64 0)], .agg [.lit (.int .i64 0), .lit (.int .i64 1)]]
def laid_unicode_utf8_acceptRanges {H : Type} : DataW H := .agg [.agg [.lit (.int .u8 128), .lit (.int .u8 191)], .agg [.lit (.int .u8 160), .lit (.int .u8 191)], .agg [.lit (.int .u8 128), .lit (.int .u8 159)], .agg [.lit (.int .u8 144), .lit (.int .u8 191)], .agg [.lit (.int .u8 128), .lit (.int .u8 143)], .agg [.lit (.int .u8 0), .lit (.int .u8 0)], .agg [.lit (.int .u8 0), .lit (.int .u8 0)], .agg [.lit (.int .u8 0), .lit (.int .u8 0)], .agg [.lit (.int .u8 0), .lit (.int .u8 0)], .agg [.lit (.int .u8 0), .lit (.int .u8 0)], .agg [.lit (.int .u8 0), .lit (.int .u8 0)], .agg [.lit (.int .u8 0), .lit (.int .u8 0)], .agg [.lit (.int .u8 0), .lit (.int .u8 0)], .agg [.lit (.int .u8 0), .lit (.int .u8 0)], .agg [.lit (.int .u8 0), .lit (.int .u8 0)], .agg [.lit (.int .u8 0), .lit (.int .u8 0)]]
/-- One of Go's own tables, pinned by name: the form's constant. -/
def laid_unicode_utf8_first : DataW Unit := Go.Pinned.utf8First

/-- 'genlocklaw02.ColourCurves': WHATEVER THE INPUT: true; the input reads as it did. -/
def colourCurvesSpec : ChangeSpec := { name := "colourCurves", fn := fun _ => fun
  | [d1, d2, d3] => { results := [.lit (.bool true)], args := [d1, d2, d3] }
  | _ => none }
def colourCurvesRow : OpenClaim := { program := "ytdbffbcobghbeaagreatdoor", sum := "e191f56ab4d5f1451ab4bc6d1149a8f2a30423d04b290a2f56fdff2cc978953f", func := "genlock/genlocklaw02.ColourCurves", spec := "colourCurves", inPlace := ["internal/abi.NoEscape", "internal/bytealg.MakeNoZero"], unfollowed := true, recurses := true, named := ["genlock/colour.others", "internal/strconv.uint64pow10", "math/bits.deBruijn32tab", "math/bits.deBruijn64tab"], plainKeys := false, apart := false, laid := [("math/bits.deBruijn32tab", laid_math_bits_deBruijn32tab), ("math/bits.deBruijn64tab", laid_math_bits_deBruijn64tab), ("internal/strconv.uint64pow10", laid_internal_strconv_uint64pow10), ("genlock/colour.others", laid_genlock_colour_others)] }
def ColourCurvesSaid : Prop := colourCurvesRow.holds Tryz.pinned (OpenSpec.ofChange colourCurvesSpec)

/-- ITS FALSE NEIGHBOUR: 'it returns false'. Refute it at one input. -/
def colourCurvesWrong : ChangeSpec := { name := "colourCurves", fn := fun _ => fun
  | [d1, d2, d3] => { results := [.lit (.bool false)], args := [d1, d2, d3] }
  | _ => none }
def ColourCurvesWrongFalsely : Prop := colourCurvesRow.holds Tryz.pinned (OpenSpec.ofChange colourCurvesWrong)

/-- 'genlocklaw02.ColourMatrices': WHATEVER THE INPUT: true; the input reads as it did. -/
def colourMatricesSpec : ChangeSpec := { name := "colourMatrices", fn := fun _ => fun
  | [d1, d2] => { results := [.lit (.bool true)], args := [d1, d2] }
  | _ => none }
def colourMatricesRow : OpenClaim := { program := "ytdbffbcobghbeaagreatdoor", sum := "e191f56ab4d5f1451ab4bc6d1149a8f2a30423d04b290a2f56fdff2cc978953f", func := "genlock/genlocklaw02.ColourMatrices", spec := "colourMatrices", inPlace := ["internal/abi.NoEscape", "internal/bytealg.MakeNoZero"], unfollowed := true, recurses := true, named := ["genlock/colour.others", "internal/strconv.uint64pow10", "math/bits.deBruijn32tab", "math/bits.deBruijn64tab"], plainKeys := false, apart := false, laid := [("math/bits.deBruijn32tab", laid_math_bits_deBruijn32tab), ("math/bits.deBruijn64tab", laid_math_bits_deBruijn64tab), ("internal/strconv.uint64pow10", laid_internal_strconv_uint64pow10), ("genlock/colour.others", laid_genlock_colour_others)] }
def ColourMatricesSaid : Prop := colourMatricesRow.holds Tryz.pinned (OpenSpec.ofChange colourMatricesSpec)

/-- ITS FALSE NEIGHBOUR: 'it returns false'. Refute it at one input. -/
def colourMatricesWrong : ChangeSpec := { name := "colourMatrices", fn := fun _ => fun
  | [d1, d2] => { results := [.lit (.bool false)], args := [d1, d2] }
  | _ => none }
def ColourMatricesWrongFalsely : Prop := colourMatricesRow.holds Tryz.pinned (OpenSpec.ofChange colourMatricesWrong)

/-- 'genlocklaw02.ColourComposed': WHATEVER THE INPUT: true; the input reads as it did. -/
def colourComposedSpec : ChangeSpec := { name := "colourComposed", fn := fun _ => fun
  | [d1, d2, d3] => { results := [.lit (.bool true)], args := [d1, d2, d3] }
  | _ => none }
def colourComposedRow : OpenClaim := { program := "ytdbffbcobghbeaagreatdoor", sum := "e191f56ab4d5f1451ab4bc6d1149a8f2a30423d04b290a2f56fdff2cc978953f", func := "genlock/genlocklaw02.ColourComposed", spec := "colourComposed", inPlace := ["internal/abi.NoEscape", "internal/bytealg.MakeNoZero"], unfollowed := true, recurses := true, named := ["genlock/colour.others", "internal/strconv.uint64pow10", "math/bits.deBruijn32tab", "math/bits.deBruijn64tab"], plainKeys := false, apart := false, laid := [("math/bits.deBruijn32tab", laid_math_bits_deBruijn32tab), ("math/bits.deBruijn64tab", laid_math_bits_deBruijn64tab), ("internal/strconv.uint64pow10", laid_internal_strconv_uint64pow10), ("genlock/colour.others", laid_genlock_colour_others)] }
def ColourComposedSaid : Prop := colourComposedRow.holds Tryz.pinned (OpenSpec.ofChange colourComposedSpec)

/-- ITS FALSE NEIGHBOUR: 'it returns false'. Refute it at one input. -/
def colourComposedWrong : ChangeSpec := { name := "colourComposed", fn := fun _ => fun
  | [d1, d2, d3] => { results := [.lit (.bool false)], args := [d1, d2, d3] }
  | _ => none }
def ColourComposedWrongFalsely : Prop := colourComposedRow.holds Tryz.pinned (OpenSpec.ofChange colourComposedWrong)

/-- 'genlocklaw02.ColourUnit': WHATEVER THE INPUT: true; the input reads as it did. -/
def colourUnitSpec : ChangeSpec := { name := "colourUnit", fn := fun _ => fun
  | [d1, d2, d3] => { results := [.lit (.bool true)], args := [d1, d2, d3] }
  | _ => none }
def colourUnitRow : OpenClaim := { program := "ytdbffbcobghbeaagreatdoor", sum := "e191f56ab4d5f1451ab4bc6d1149a8f2a30423d04b290a2f56fdff2cc978953f", func := "genlock/genlocklaw02.ColourUnit", spec := "colourUnit", inPlace := ["internal/abi.NoEscape", "internal/bytealg.MakeNoZero"], unfollowed := true, recurses := true, named := ["genlock/colour.others", "internal/strconv.uint64pow10", "math/bits.deBruijn32tab", "math/bits.deBruijn64tab"], plainKeys := false, apart := false, laid := [("math/bits.deBruijn32tab", laid_math_bits_deBruijn32tab), ("math/bits.deBruijn64tab", laid_math_bits_deBruijn64tab), ("internal/strconv.uint64pow10", laid_internal_strconv_uint64pow10), ("genlock/colour.others", laid_genlock_colour_others)] }
def ColourUnitSaid : Prop := colourUnitRow.holds Tryz.pinned (OpenSpec.ofChange colourUnitSpec)

/-- ITS FALSE NEIGHBOUR: 'it returns false'. Refute it at one input. -/
def colourUnitWrong : ChangeSpec := { name := "colourUnit", fn := fun _ => fun
  | [d1, d2, d3] => { results := [.lit (.bool false)], args := [d1, d2, d3] }
  | _ => none }
def ColourUnitWrongFalsely : Prop := colourUnitRow.holds Tryz.pinned (OpenSpec.ofChange colourUnitWrong)

/-- 'genlocklaw02.ColourReached': WHATEVER THE INPUT: true; the input reads as it did. -/
def colourReachedSpec : ChangeSpec := { name := "colourReached", fn := fun _ => fun
  | [d1, d2, d3] => { results := [.lit (.bool true)], args := [d1, d2, d3] }
  | _ => none }
def colourReachedRow : OpenClaim := { program := "ytdbffbcobghbeaagreatdoor", sum := "e191f56ab4d5f1451ab4bc6d1149a8f2a30423d04b290a2f56fdff2cc978953f", func := "genlock/genlocklaw02.ColourReached", spec := "colourReached", inPlace := ["internal/abi.NoEscape", "internal/bytealg.MakeNoZero"], unfollowed := true, recurses := true, named := ["genlock/colour.others", "internal/strconv.uint64pow10", "math/bits.deBruijn32tab", "math/bits.deBruijn64tab"], plainKeys := false, apart := false, laid := [("math/bits.deBruijn32tab", laid_math_bits_deBruijn32tab), ("math/bits.deBruijn64tab", laid_math_bits_deBruijn64tab), ("internal/strconv.uint64pow10", laid_internal_strconv_uint64pow10), ("genlock/colour.others", laid_genlock_colour_others)] }
def ColourReachedSaid : Prop := colourReachedRow.holds Tryz.pinned (OpenSpec.ofChange colourReachedSpec)

/-- ITS FALSE NEIGHBOUR: 'it returns false'. Refute it at one input. -/
def colourReachedWrong : ChangeSpec := { name := "colourReached", fn := fun _ => fun
  | [d1, d2, d3] => { results := [.lit (.bool false)], args := [d1, d2, d3] }
  | _ => none }
def ColourReachedWrongFalsely : Prop := colourReachedRow.holds Tryz.pinned (OpenSpec.ofChange colourReachedWrong)

/-- 'genlocklaw02.ColourShaded': WHATEVER THE INPUT: true; the input reads as it did. -/
def colourShadedSpec : ChangeSpec := { name := "colourShaded", fn := fun _ => fun
  | [d1, d2, d3] => { results := [.lit (.bool true)], args := [d1, d2, d3] }
  | _ => none }
def colourShadedRow : OpenClaim := { program := "ytdbffbcobghbeaagreatdoor", sum := "e191f56ab4d5f1451ab4bc6d1149a8f2a30423d04b290a2f56fdff2cc978953f", func := "genlock/genlocklaw02.ColourShaded", spec := "colourShaded", inPlace := ["internal/abi.NoEscape", "internal/bytealg.MakeNoZero", "math.Float64bits", "math.Float64frombits", "math.archFloor", "math.archTrunc"], unfollowed := true, recurses := true, named := ["genlock/colour.others", "internal/strconv.uint64pow10", "math/bits.deBruijn32tab", "math/bits.deBruijn64tab"], plainKeys := false, apart := false, laid := [("math/bits.deBruijn32tab", laid_math_bits_deBruijn32tab), ("math/bits.deBruijn64tab", laid_math_bits_deBruijn64tab), ("internal/strconv.uint64pow10", laid_internal_strconv_uint64pow10), ("genlock/colour.others", laid_genlock_colour_others)] }
def ColourShadedSaid : Prop := colourShadedRow.holds Tryz.pinned (OpenSpec.ofChange colourShadedSpec)

/-- ITS FALSE NEIGHBOUR: 'it returns false'. Refute it at one input. -/
def colourShadedWrong : ChangeSpec := { name := "colourShaded", fn := fun _ => fun
  | [d1, d2, d3] => { results := [.lit (.bool false)], args := [d1, d2, d3] }
  | _ => none }
def ColourShadedWrongFalsely : Prop := colourShadedRow.holds Tryz.pinned (OpenSpec.ofChange colourShadedWrong)

/-- 'genlocklaw02.ColourLumas': WHATEVER THE INPUT: true; the input reads as it did. -/
def colourLumasSpec : ChangeSpec := { name := "colourLumas", fn := fun _ => fun
  | [d1, d2] => { results := [.lit (.bool true)], args := [d1, d2] }
  | _ => none }
def colourLumasRow : OpenClaim := { program := "ytdbffbcobghbeaagreatdoor", sum := "e191f56ab4d5f1451ab4bc6d1149a8f2a30423d04b290a2f56fdff2cc978953f", func := "genlock/genlocklaw02.ColourLumas", spec := "colourLumas", inPlace := ["internal/abi.NoEscape", "internal/bytealg.MakeNoZero", "math.Float64bits", "math.Float64frombits", "math.archFloor", "math.archTrunc"], unfollowed := true, recurses := true, named := ["genlock/colour.others", "internal/strconv.uint64pow10", "math/bits.deBruijn32tab", "math/bits.deBruijn64tab"], plainKeys := false, apart := false, laid := [("math/bits.deBruijn32tab", laid_math_bits_deBruijn32tab), ("math/bits.deBruijn64tab", laid_math_bits_deBruijn64tab), ("internal/strconv.uint64pow10", laid_internal_strconv_uint64pow10), ("genlock/colour.others", laid_genlock_colour_others)] }
def ColourLumasSaid : Prop := colourLumasRow.holds Tryz.pinned (OpenSpec.ofChange colourLumasSpec)

/-- ITS FALSE NEIGHBOUR: 'it returns false'. Refute it at one input. -/
def colourLumasWrong : ChangeSpec := { name := "colourLumas", fn := fun _ => fun
  | [d1, d2] => { results := [.lit (.bool false)], args := [d1, d2] }
  | _ => none }
def ColourLumasWrongFalsely : Prop := colourLumasRow.holds Tryz.pinned (OpenSpec.ofChange colourLumasWrong)

/-- 'genlocklaw02.ColourFlashes': WHATEVER THE INPUT: true; the input reads as it did. -/
def colourFlashesSpec : ChangeSpec := { name := "colourFlashes", fn := fun _ => fun
  | [d1, d2, d3] => { results := [.lit (.bool true)], args := [d1, d2, d3] }
  | _ => none }
def colourFlashesRow : OpenClaim := { program := "ytdbffbcobghbeaagreatdoor", sum := "e191f56ab4d5f1451ab4bc6d1149a8f2a30423d04b290a2f56fdff2cc978953f", func := "genlock/genlocklaw02.ColourFlashes", spec := "colourFlashes", inPlace := ["internal/abi.NoEscape", "internal/bytealg.MakeNoZero", "math.Float64bits", "math.Float64frombits", "math.archFloor", "math.archTrunc"], unfollowed := true, recurses := true, named := ["genlock/colour.others", "internal/strconv.uint64pow10", "math/bits.deBruijn32tab", "math/bits.deBruijn64tab"], plainKeys := false, apart := false, laid := [("math/bits.deBruijn32tab", laid_math_bits_deBruijn32tab), ("math/bits.deBruijn64tab", laid_math_bits_deBruijn64tab), ("internal/strconv.uint64pow10", laid_internal_strconv_uint64pow10), ("genlock/colour.others", laid_genlock_colour_others)] }
def ColourFlashesSaid : Prop := colourFlashesRow.holds Tryz.pinned (OpenSpec.ofChange colourFlashesSpec)

/-- ITS FALSE NEIGHBOUR: 'it returns false'. Refute it at one input. -/
def colourFlashesWrong : ChangeSpec := { name := "colourFlashes", fn := fun _ => fun
  | [d1, d2, d3] => { results := [.lit (.bool false)], args := [d1, d2, d3] }
  | _ => none }
def ColourFlashesWrongFalsely : Prop := colourFlashesRow.holds Tryz.pinned (OpenSpec.ofChange colourFlashesWrong)

/-- 'genlocklaw02.ColourSounds': WHATEVER THE INPUT: true; the input reads as it did. -/
def colourSoundsSpec : ChangeSpec := { name := "colourSounds", fn := fun _ => fun
  | [d1, d2, d3] => { results := [.lit (.bool true)], args := [d1, d2, d3] }
  | _ => none }
def colourSoundsRow : OpenClaim := { program := "ytdbffbcobghbeaagreatdoor", sum := "e191f56ab4d5f1451ab4bc6d1149a8f2a30423d04b290a2f56fdff2cc978953f", func := "genlock/genlocklaw02.ColourSounds", spec := "colourSounds", inPlace := ["internal/abi.NoEscape", "internal/bytealg.MakeNoZero", "math.Float64bits", "math.Float64frombits", "math.archFloor", "math.archTrunc"], unfollowed := true, recurses := true, named := ["genlock/colour.others", "internal/strconv.uint64pow10", "math/bits.deBruijn32tab", "math/bits.deBruijn64tab"], plainKeys := false, apart := false, laid := [("math/bits.deBruijn32tab", laid_math_bits_deBruijn32tab), ("math/bits.deBruijn64tab", laid_math_bits_deBruijn64tab), ("internal/strconv.uint64pow10", laid_internal_strconv_uint64pow10), ("genlock/colour.others", laid_genlock_colour_others)] }
def ColourSoundsSaid : Prop := colourSoundsRow.holds Tryz.pinned (OpenSpec.ofChange colourSoundsSpec)

/-- ITS FALSE NEIGHBOUR: 'it returns false'. Refute it at one input. -/
def colourSoundsWrong : ChangeSpec := { name := "colourSounds", fn := fun _ => fun
  | [d1, d2, d3] => { results := [.lit (.bool false)], args := [d1, d2, d3] }
  | _ => none }
def ColourSoundsWrongFalsely : Prop := colourSoundsRow.holds Tryz.pinned (OpenSpec.ofChange colourSoundsWrong)

/-- 'genlocklaw02.ColourMeasured': WHATEVER THE INPUT: true; the input reads as it did. -/
def colourMeasuredSpec : ChangeSpec := { name := "colourMeasured", fn := fun _ => fun
  | [d1, d2, d3] => { results := [.lit (.bool true)], args := [d1, d2, d3] }
  | _ => none }
def colourMeasuredRow : OpenClaim := { program := "ytdbffbcobghbeaagreatdoor", sum := "e191f56ab4d5f1451ab4bc6d1149a8f2a30423d04b290a2f56fdff2cc978953f", func := "genlock/genlocklaw02.ColourMeasured", spec := "colourMeasured", inPlace := ["math.Float64bits", "math.Float64frombits", "math.archFloor", "math.archTrunc", "internal/abi.NoEscape", "internal/bytealg.MakeNoZero"], unfollowed := true, recurses := true, named := ["genlock/colour.others", "internal/strconv.uint64pow10", "math/bits.deBruijn32tab", "math/bits.deBruijn64tab"], plainKeys := false, apart := false, laid := [("math/bits.deBruijn32tab", laid_math_bits_deBruijn32tab), ("math/bits.deBruijn64tab", laid_math_bits_deBruijn64tab), ("internal/strconv.uint64pow10", laid_internal_strconv_uint64pow10), ("genlock/colour.others", laid_genlock_colour_others)] }
def ColourMeasuredSaid : Prop := colourMeasuredRow.holds Tryz.pinned (OpenSpec.ofChange colourMeasuredSpec)

/-- ITS FALSE NEIGHBOUR: 'it returns false'. Refute it at one input. -/
def colourMeasuredWrong : ChangeSpec := { name := "colourMeasured", fn := fun _ => fun
  | [d1, d2, d3] => { results := [.lit (.bool false)], args := [d1, d2, d3] }
  | _ => none }
def ColourMeasuredWrongFalsely : Prop := colourMeasuredRow.holds Tryz.pinned (OpenSpec.ofChange colourMeasuredWrong)

/-- 'genlocklaw02.ColourLimits': WHATEVER THE INPUT: true; the input reads as it did. -/
def colourLimitsSpec : ChangeSpec := { name := "colourLimits", fn := fun _ => fun
  | [d1, d2, d3] => { results := [.lit (.bool true)], args := [d1, d2, d3] }
  | _ => none }
def colourLimitsRow : OpenClaim := { program := "ytdbffbcobghbeaagreatdoor", sum := "e191f56ab4d5f1451ab4bc6d1149a8f2a30423d04b290a2f56fdff2cc978953f", func := "genlock/genlocklaw02.ColourLimits", spec := "colourLimits", inPlace := ["internal/abi.NoEscape", "internal/bytealg.MakeNoZero", "math.Float64bits", "math.Float64frombits", "math.archFloor", "math.archTrunc"], unfollowed := true, recurses := true, named := ["genlock/colour.others", "internal/strconv.uint64pow10", "math/bits.deBruijn32tab", "math/bits.deBruijn64tab"], plainKeys := false, apart := false, laid := [("math/bits.deBruijn32tab", laid_math_bits_deBruijn32tab), ("math/bits.deBruijn64tab", laid_math_bits_deBruijn64tab), ("internal/strconv.uint64pow10", laid_internal_strconv_uint64pow10), ("genlock/colour.others", laid_genlock_colour_others)] }
def ColourLimitsSaid : Prop := colourLimitsRow.holds Tryz.pinned (OpenSpec.ofChange colourLimitsSpec)

/-- ITS FALSE NEIGHBOUR: 'it returns false'. Refute it at one input. -/
def colourLimitsWrong : ChangeSpec := { name := "colourLimits", fn := fun _ => fun
  | [d1, d2, d3] => { results := [.lit (.bool false)], args := [d1, d2, d3] }
  | _ => none }
def ColourLimitsWrongFalsely : Prop := colourLimitsRow.holds Tryz.pinned (OpenSpec.ofChange colourLimitsWrong)

/-- 'genlocklaw02.ColourApplied': WHATEVER THE INPUT: true; the input reads as it did. -/
def colourAppliedSpec : ChangeSpec := { name := "colourApplied", fn := fun _ => fun
  | [d1, d2, d3] => { results := [.lit (.bool true)], args := [d1, d2, d3] }
  | _ => none }
def colourAppliedRow : OpenClaim := { program := "ytdbffbcobghbeaagreatdoor", sum := "e191f56ab4d5f1451ab4bc6d1149a8f2a30423d04b290a2f56fdff2cc978953f", func := "genlock/genlocklaw02.ColourApplied", spec := "colourApplied", inPlace := ["internal/abi.NoEscape", "internal/bytealg.MakeNoZero", "math.Float64bits", "math.Float64frombits", "math.archFloor", "math.archTrunc"], unfollowed := true, recurses := true, named := ["genlock/colour.others", "internal/strconv.uint64pow10", "math/bits.deBruijn32tab", "math/bits.deBruijn64tab"], plainKeys := false, apart := false, laid := [("math/bits.deBruijn32tab", laid_math_bits_deBruijn32tab), ("math/bits.deBruijn64tab", laid_math_bits_deBruijn64tab), ("internal/strconv.uint64pow10", laid_internal_strconv_uint64pow10), ("genlock/colour.others", laid_genlock_colour_others)] }
def ColourAppliedSaid : Prop := colourAppliedRow.holds Tryz.pinned (OpenSpec.ofChange colourAppliedSpec)

/-- ITS FALSE NEIGHBOUR: 'it returns false'. Refute it at one input. -/
def colourAppliedWrong : ChangeSpec := { name := "colourApplied", fn := fun _ => fun
  | [d1, d2, d3] => { results := [.lit (.bool false)], args := [d1, d2, d3] }
  | _ => none }
def ColourAppliedWrongFalsely : Prop := colourAppliedRow.holds Tryz.pinned (OpenSpec.ofChange colourAppliedWrong)

/-- 'genlocklaw02.ColourInverse': WHATEVER THE INPUT: true; the input reads as it did. -/
def colourInverseSpec : ChangeSpec := { name := "colourInverse", fn := fun _ => fun
  | [d1, d2, d3] => { results := [.lit (.bool true)], args := [d1, d2, d3] }
  | _ => none }
def colourInverseRow : OpenClaim := { program := "ytdbffbcobghbeaagreatdoor", sum := "e191f56ab4d5f1451ab4bc6d1149a8f2a30423d04b290a2f56fdff2cc978953f", func := "genlock/genlocklaw02.ColourInverse", spec := "colourInverse", inPlace := ["math.Float64bits", "math.Float64frombits", "math.archFloor", "math.archTrunc", "internal/abi.NoEscape", "internal/bytealg.MakeNoZero"], unfollowed := true, recurses := true, named := ["genlock/colour.others", "internal/strconv.uint64pow10", "math/bits.deBruijn32tab", "math/bits.deBruijn64tab"], plainKeys := false, apart := false, laid := [("math/bits.deBruijn32tab", laid_math_bits_deBruijn32tab), ("math/bits.deBruijn64tab", laid_math_bits_deBruijn64tab), ("internal/strconv.uint64pow10", laid_internal_strconv_uint64pow10), ("genlock/colour.others", laid_genlock_colour_others)] }
def ColourInverseSaid : Prop := colourInverseRow.holds Tryz.pinned (OpenSpec.ofChange colourInverseSpec)

/-- ITS FALSE NEIGHBOUR: 'it returns false'. Refute it at one input. -/
def colourInverseWrong : ChangeSpec := { name := "colourInverse", fn := fun _ => fun
  | [d1, d2, d3] => { results := [.lit (.bool false)], args := [d1, d2, d3] }
  | _ => none }
def ColourInverseWrongFalsely : Prop := colourInverseRow.holds Tryz.pinned (OpenSpec.ofChange colourInverseWrong)

/-- 'genlocklaw02.ColourWitness': WHATEVER THE INPUT: true; the input reads as it did. -/
def colourWitnessSpec : ChangeSpec := { name := "colourWitness", fn := fun _ => fun
  | [d1, d2, d3] => { results := [.lit (.bool true)], args := [d1, d2, d3] }
  | _ => none }
def colourWitnessRow : OpenClaim := { program := "ytdbffbcobghbeaagreatdoor", sum := "e191f56ab4d5f1451ab4bc6d1149a8f2a30423d04b290a2f56fdff2cc978953f", func := "genlock/genlocklaw02.ColourWitness", spec := "colourWitness", inPlace := ["math.Float64bits", "math.Float64frombits", "math.archFloor", "math.archTrunc", "internal/abi.NoEscape", "internal/bytealg.MakeNoZero"], unfollowed := true, recurses := true, named := ["genlock/colour.others", "internal/strconv.uint64pow10", "math/bits.deBruijn32tab", "math/bits.deBruijn64tab"], plainKeys := false, apart := false, laid := [("math/bits.deBruijn32tab", laid_math_bits_deBruijn32tab), ("math/bits.deBruijn64tab", laid_math_bits_deBruijn64tab), ("internal/strconv.uint64pow10", laid_internal_strconv_uint64pow10), ("genlock/colour.others", laid_genlock_colour_others)] }
def ColourWitnessSaid : Prop := colourWitnessRow.holds Tryz.pinned (OpenSpec.ofChange colourWitnessSpec)

/-- ITS FALSE NEIGHBOUR: 'it returns false'. Refute it at one input. -/
def colourWitnessWrong : ChangeSpec := { name := "colourWitness", fn := fun _ => fun
  | [d1, d2, d3] => { results := [.lit (.bool false)], args := [d1, d2, d3] }
  | _ => none }
def ColourWitnessWrongFalsely : Prop := colourWitnessRow.holds Tryz.pinned (OpenSpec.ofChange colourWitnessWrong)

/-- 'genlocklaw02.ColourTexts': WHATEVER THE INPUT: true; the input reads as it did. -/
def colourTextsSpec : ChangeSpec := { name := "colourTexts", fn := fun _ => fun
  | [d1, d2] => { results := [.lit (.bool true)], args := [d1, d2] }
  | _ => none }
def colourTextsRow : OpenClaim := { program := "ytdbffbcobghbeaagreatdoor", sum := "e191f56ab4d5f1451ab4bc6d1149a8f2a30423d04b290a2f56fdff2cc978953f", func := "genlock/genlocklaw02.ColourTexts", spec := "colourTexts", inPlace := ["internal/abi.NoEscape", "internal/bytealg.MakeNoZero", "internal/bytealg.IndexByteString", "internal/bytealg.CountString", "internal/bytealg.IndexString"], unfollowed := true, recurses := true, named := ["genlock/colour.others", "internal/strconv.uint64pow10", "math/bits.deBruijn32tab", "math/bits.deBruijn64tab", "unicode/utf8.first", "unicode/utf8.acceptRanges", "internal/bytealg.MaxLen"], plainKeys := false, apart := false, laid := [("math/bits.deBruijn32tab", laid_math_bits_deBruijn32tab), ("math/bits.deBruijn64tab", laid_math_bits_deBruijn64tab), ("internal/strconv.uint64pow10", laid_internal_strconv_uint64pow10), ("unicode/utf8.acceptRanges", laid_unicode_utf8_acceptRanges), ("genlock/colour.others", laid_genlock_colour_others), ("unicode/utf8.first", laid_unicode_utf8_first)] }
def ColourTextsSaid : Prop := colourTextsRow.holds Tryz.pinned (OpenSpec.ofChange colourTextsSpec)

/-- ITS FALSE NEIGHBOUR: 'it returns false'. Refute it at one input. -/
def colourTextsWrong : ChangeSpec := { name := "colourTexts", fn := fun _ => fun
  | [d1, d2] => { results := [.lit (.bool false)], args := [d1, d2] }
  | _ => none }
def ColourTextsWrongFalsely : Prop := colourTextsRow.holds Tryz.pinned (OpenSpec.ofChange colourTextsWrong)

/-- 'genlocklaw02.ColourBack': WHATEVER THE INPUT: true; the input reads as it did. -/
def colourBackSpec : ChangeSpec := { name := "colourBack", fn := fun _ => fun
  | [d1, d2] => { results := [.lit (.bool true)], args := [d1, d2] }
  | _ => none }
def colourBackRow : OpenClaim := { program := "ytdbffbcobghbeaagreatdoor", sum := "e191f56ab4d5f1451ab4bc6d1149a8f2a30423d04b290a2f56fdff2cc978953f", func := "genlock/genlocklaw02.ColourBack", spec := "colourBack", inPlace := ["internal/abi.NoEscape", "internal/bytealg.MakeNoZero", "internal/bytealg.IndexByteString", "internal/bytealg.CountString", "internal/bytealg.IndexString"], unfollowed := true, recurses := true, named := ["genlock/colour.others", "internal/strconv.uint64pow10", "math/bits.deBruijn32tab", "math/bits.deBruijn64tab", "unicode/utf8.first", "unicode/utf8.acceptRanges", "internal/bytealg.MaxLen"], plainKeys := false, apart := false, laid := [("math/bits.deBruijn32tab", laid_math_bits_deBruijn32tab), ("math/bits.deBruijn64tab", laid_math_bits_deBruijn64tab), ("internal/strconv.uint64pow10", laid_internal_strconv_uint64pow10), ("unicode/utf8.acceptRanges", laid_unicode_utf8_acceptRanges), ("genlock/colour.others", laid_genlock_colour_others), ("unicode/utf8.first", laid_unicode_utf8_first)] }
def ColourBackSaid : Prop := colourBackRow.holds Tryz.pinned (OpenSpec.ofChange colourBackSpec)

/-- ITS FALSE NEIGHBOUR: 'it returns false'. Refute it at one input. -/
def colourBackWrong : ChangeSpec := { name := "colourBack", fn := fun _ => fun
  | [d1, d2] => { results := [.lit (.bool false)], args := [d1, d2] }
  | _ => none }
def ColourBackWrongFalsely : Prop := colourBackRow.holds Tryz.pinned (OpenSpec.ofChange colourBackWrong)

/- THE SECOND FORM. 'bulk': how many values and letters a reading holds, each counted each time it is reached (what is shared counts as often as it is met; a slice's spare places count too). A statement '..UptoSaid' is the law's where the arguments, and the package variables that the reading takes, are together of bulk at most 1048576: NARROWER than '..Said'. Prove '..Said' where nothing that the law and all that it calls make is longer than what came in: it says more and counts as full. Else prove '..UptoSaid'. A law counts once. -/
mutual
def uptoBulk {H : Type} : DataW H → Nat
  | .lit (.string bytes) => bytes.length + 1
  | .lit _ => 1
  | .nil => 1
  | .ptr d => uptoBulk d + 1
  | .slice elems spare => uptoBulkAll elems + uptoBulkAll spare + 1
  | .agg parts => uptoBulkAll parts + 1
  | .iface _ d => uptoBulk d + 1
  | .map entries => uptoBulkEntries entries + 1
  | .held _ => 1
def uptoBulkAll {H : Type} : List (DataW H) → Nat
  | [] => 0
  | d :: r => uptoBulk d + uptoBulkAll r
def uptoBulkEntries {H : Type} : List (Lit × DataW H) → Nat
  | [] => 0
  | x :: r => uptoBulkEntry x + uptoBulkEntries r
def uptoBulkEntry {H : Type} : Lit × DataW H → Nat
  | (.string bytes, d) => bytes.length + uptoBulk d + 1
  | (_, d) => uptoBulk d + 1
 end
def uptoSmall : (H : Type) → List (DataW H) → Bool := fun _ ds => decide (uptoBulkAll ds ≤ 1048576)
def OpenSpec.upto (s : _root_.Go.ChangeSpec) : _root_.Go.OpenSpec := { _root_.Go.OpenSpec.ofChange s with cond := some uptoSmall }

/-- 'genlocklaw02.ColourCurves', WHERE WHAT IT READS IS OF BULK AT MOST 1048576: true; the input reads as it did. -/
def colourCurvesUptoRow : OpenClaim := { program := "ytdbffbcobghbeaagreatdoor", sum := "e191f56ab4d5f1451ab4bc6d1149a8f2a30423d04b290a2f56fdff2cc978953f", func := "genlock/genlocklaw02.ColourCurves", spec := "colourCurves", inPlace := ["internal/abi.NoEscape", "internal/bytealg.MakeNoZero"], unfollowed := true, recurses := true, named := ["genlock/colour.others", "internal/strconv.uint64pow10", "math/bits.deBruijn32tab", "math/bits.deBruijn64tab"], plainKeys := false, apart := false, laid := [("math/bits.deBruijn32tab", laid_math_bits_deBruijn32tab), ("math/bits.deBruijn64tab", laid_math_bits_deBruijn64tab), ("internal/strconv.uint64pow10", laid_internal_strconv_uint64pow10), ("genlock/colour.others", laid_genlock_colour_others)], narrowed := true }
def ColourCurvesUptoSaid : Prop := colourCurvesUptoRow.holds Tryz.pinned (OpenSpec.upto colourCurvesSpec)

/-- 'genlocklaw02.ColourMatrices', WHERE WHAT IT READS IS OF BULK AT MOST 1048576: true; the input reads as it did. -/
def colourMatricesUptoRow : OpenClaim := { program := "ytdbffbcobghbeaagreatdoor", sum := "e191f56ab4d5f1451ab4bc6d1149a8f2a30423d04b290a2f56fdff2cc978953f", func := "genlock/genlocklaw02.ColourMatrices", spec := "colourMatrices", inPlace := ["internal/abi.NoEscape", "internal/bytealg.MakeNoZero"], unfollowed := true, recurses := true, named := ["genlock/colour.others", "internal/strconv.uint64pow10", "math/bits.deBruijn32tab", "math/bits.deBruijn64tab"], plainKeys := false, apart := false, laid := [("math/bits.deBruijn32tab", laid_math_bits_deBruijn32tab), ("math/bits.deBruijn64tab", laid_math_bits_deBruijn64tab), ("internal/strconv.uint64pow10", laid_internal_strconv_uint64pow10), ("genlock/colour.others", laid_genlock_colour_others)], narrowed := true }
def ColourMatricesUptoSaid : Prop := colourMatricesUptoRow.holds Tryz.pinned (OpenSpec.upto colourMatricesSpec)

/-- 'genlocklaw02.ColourComposed', WHERE WHAT IT READS IS OF BULK AT MOST 1048576: true; the input reads as it did. -/
def colourComposedUptoRow : OpenClaim := { program := "ytdbffbcobghbeaagreatdoor", sum := "e191f56ab4d5f1451ab4bc6d1149a8f2a30423d04b290a2f56fdff2cc978953f", func := "genlock/genlocklaw02.ColourComposed", spec := "colourComposed", inPlace := ["internal/abi.NoEscape", "internal/bytealg.MakeNoZero"], unfollowed := true, recurses := true, named := ["genlock/colour.others", "internal/strconv.uint64pow10", "math/bits.deBruijn32tab", "math/bits.deBruijn64tab"], plainKeys := false, apart := false, laid := [("math/bits.deBruijn32tab", laid_math_bits_deBruijn32tab), ("math/bits.deBruijn64tab", laid_math_bits_deBruijn64tab), ("internal/strconv.uint64pow10", laid_internal_strconv_uint64pow10), ("genlock/colour.others", laid_genlock_colour_others)], narrowed := true }
def ColourComposedUptoSaid : Prop := colourComposedUptoRow.holds Tryz.pinned (OpenSpec.upto colourComposedSpec)

/-- 'genlocklaw02.ColourUnit', WHERE WHAT IT READS IS OF BULK AT MOST 1048576: true; the input reads as it did. -/
def colourUnitUptoRow : OpenClaim := { program := "ytdbffbcobghbeaagreatdoor", sum := "e191f56ab4d5f1451ab4bc6d1149a8f2a30423d04b290a2f56fdff2cc978953f", func := "genlock/genlocklaw02.ColourUnit", spec := "colourUnit", inPlace := ["internal/abi.NoEscape", "internal/bytealg.MakeNoZero"], unfollowed := true, recurses := true, named := ["genlock/colour.others", "internal/strconv.uint64pow10", "math/bits.deBruijn32tab", "math/bits.deBruijn64tab"], plainKeys := false, apart := false, laid := [("math/bits.deBruijn32tab", laid_math_bits_deBruijn32tab), ("math/bits.deBruijn64tab", laid_math_bits_deBruijn64tab), ("internal/strconv.uint64pow10", laid_internal_strconv_uint64pow10), ("genlock/colour.others", laid_genlock_colour_others)], narrowed := true }
def ColourUnitUptoSaid : Prop := colourUnitUptoRow.holds Tryz.pinned (OpenSpec.upto colourUnitSpec)

/-- 'genlocklaw02.ColourReached', WHERE WHAT IT READS IS OF BULK AT MOST 1048576: true; the input reads as it did. -/
def colourReachedUptoRow : OpenClaim := { program := "ytdbffbcobghbeaagreatdoor", sum := "e191f56ab4d5f1451ab4bc6d1149a8f2a30423d04b290a2f56fdff2cc978953f", func := "genlock/genlocklaw02.ColourReached", spec := "colourReached", inPlace := ["internal/abi.NoEscape", "internal/bytealg.MakeNoZero"], unfollowed := true, recurses := true, named := ["genlock/colour.others", "internal/strconv.uint64pow10", "math/bits.deBruijn32tab", "math/bits.deBruijn64tab"], plainKeys := false, apart := false, laid := [("math/bits.deBruijn32tab", laid_math_bits_deBruijn32tab), ("math/bits.deBruijn64tab", laid_math_bits_deBruijn64tab), ("internal/strconv.uint64pow10", laid_internal_strconv_uint64pow10), ("genlock/colour.others", laid_genlock_colour_others)], narrowed := true }
def ColourReachedUptoSaid : Prop := colourReachedUptoRow.holds Tryz.pinned (OpenSpec.upto colourReachedSpec)

/-- 'genlocklaw02.ColourShaded', WHERE WHAT IT READS IS OF BULK AT MOST 1048576: true; the input reads as it did. -/
def colourShadedUptoRow : OpenClaim := { program := "ytdbffbcobghbeaagreatdoor", sum := "e191f56ab4d5f1451ab4bc6d1149a8f2a30423d04b290a2f56fdff2cc978953f", func := "genlock/genlocklaw02.ColourShaded", spec := "colourShaded", inPlace := ["internal/abi.NoEscape", "internal/bytealg.MakeNoZero", "math.Float64bits", "math.Float64frombits", "math.archFloor", "math.archTrunc"], unfollowed := true, recurses := true, named := ["genlock/colour.others", "internal/strconv.uint64pow10", "math/bits.deBruijn32tab", "math/bits.deBruijn64tab"], plainKeys := false, apart := false, laid := [("math/bits.deBruijn32tab", laid_math_bits_deBruijn32tab), ("math/bits.deBruijn64tab", laid_math_bits_deBruijn64tab), ("internal/strconv.uint64pow10", laid_internal_strconv_uint64pow10), ("genlock/colour.others", laid_genlock_colour_others)], narrowed := true }
def ColourShadedUptoSaid : Prop := colourShadedUptoRow.holds Tryz.pinned (OpenSpec.upto colourShadedSpec)

/-- 'genlocklaw02.ColourLumas', WHERE WHAT IT READS IS OF BULK AT MOST 1048576: true; the input reads as it did. -/
def colourLumasUptoRow : OpenClaim := { program := "ytdbffbcobghbeaagreatdoor", sum := "e191f56ab4d5f1451ab4bc6d1149a8f2a30423d04b290a2f56fdff2cc978953f", func := "genlock/genlocklaw02.ColourLumas", spec := "colourLumas", inPlace := ["internal/abi.NoEscape", "internal/bytealg.MakeNoZero", "math.Float64bits", "math.Float64frombits", "math.archFloor", "math.archTrunc"], unfollowed := true, recurses := true, named := ["genlock/colour.others", "internal/strconv.uint64pow10", "math/bits.deBruijn32tab", "math/bits.deBruijn64tab"], plainKeys := false, apart := false, laid := [("math/bits.deBruijn32tab", laid_math_bits_deBruijn32tab), ("math/bits.deBruijn64tab", laid_math_bits_deBruijn64tab), ("internal/strconv.uint64pow10", laid_internal_strconv_uint64pow10), ("genlock/colour.others", laid_genlock_colour_others)], narrowed := true }
def ColourLumasUptoSaid : Prop := colourLumasUptoRow.holds Tryz.pinned (OpenSpec.upto colourLumasSpec)

/-- 'genlocklaw02.ColourFlashes', WHERE WHAT IT READS IS OF BULK AT MOST 1048576: true; the input reads as it did. -/
def colourFlashesUptoRow : OpenClaim := { program := "ytdbffbcobghbeaagreatdoor", sum := "e191f56ab4d5f1451ab4bc6d1149a8f2a30423d04b290a2f56fdff2cc978953f", func := "genlock/genlocklaw02.ColourFlashes", spec := "colourFlashes", inPlace := ["internal/abi.NoEscape", "internal/bytealg.MakeNoZero", "math.Float64bits", "math.Float64frombits", "math.archFloor", "math.archTrunc"], unfollowed := true, recurses := true, named := ["genlock/colour.others", "internal/strconv.uint64pow10", "math/bits.deBruijn32tab", "math/bits.deBruijn64tab"], plainKeys := false, apart := false, laid := [("math/bits.deBruijn32tab", laid_math_bits_deBruijn32tab), ("math/bits.deBruijn64tab", laid_math_bits_deBruijn64tab), ("internal/strconv.uint64pow10", laid_internal_strconv_uint64pow10), ("genlock/colour.others", laid_genlock_colour_others)], narrowed := true }
def ColourFlashesUptoSaid : Prop := colourFlashesUptoRow.holds Tryz.pinned (OpenSpec.upto colourFlashesSpec)

/-- 'genlocklaw02.ColourSounds', WHERE WHAT IT READS IS OF BULK AT MOST 1048576: true; the input reads as it did. -/
def colourSoundsUptoRow : OpenClaim := { program := "ytdbffbcobghbeaagreatdoor", sum := "e191f56ab4d5f1451ab4bc6d1149a8f2a30423d04b290a2f56fdff2cc978953f", func := "genlock/genlocklaw02.ColourSounds", spec := "colourSounds", inPlace := ["internal/abi.NoEscape", "internal/bytealg.MakeNoZero", "math.Float64bits", "math.Float64frombits", "math.archFloor", "math.archTrunc"], unfollowed := true, recurses := true, named := ["genlock/colour.others", "internal/strconv.uint64pow10", "math/bits.deBruijn32tab", "math/bits.deBruijn64tab"], plainKeys := false, apart := false, laid := [("math/bits.deBruijn32tab", laid_math_bits_deBruijn32tab), ("math/bits.deBruijn64tab", laid_math_bits_deBruijn64tab), ("internal/strconv.uint64pow10", laid_internal_strconv_uint64pow10), ("genlock/colour.others", laid_genlock_colour_others)], narrowed := true }
def ColourSoundsUptoSaid : Prop := colourSoundsUptoRow.holds Tryz.pinned (OpenSpec.upto colourSoundsSpec)

/-- 'genlocklaw02.ColourMeasured', WHERE WHAT IT READS IS OF BULK AT MOST 1048576: true; the input reads as it did. -/
def colourMeasuredUptoRow : OpenClaim := { program := "ytdbffbcobghbeaagreatdoor", sum := "e191f56ab4d5f1451ab4bc6d1149a8f2a30423d04b290a2f56fdff2cc978953f", func := "genlock/genlocklaw02.ColourMeasured", spec := "colourMeasured", inPlace := ["math.Float64bits", "math.Float64frombits", "math.archFloor", "math.archTrunc", "internal/abi.NoEscape", "internal/bytealg.MakeNoZero"], unfollowed := true, recurses := true, named := ["genlock/colour.others", "internal/strconv.uint64pow10", "math/bits.deBruijn32tab", "math/bits.deBruijn64tab"], plainKeys := false, apart := false, laid := [("math/bits.deBruijn32tab", laid_math_bits_deBruijn32tab), ("math/bits.deBruijn64tab", laid_math_bits_deBruijn64tab), ("internal/strconv.uint64pow10", laid_internal_strconv_uint64pow10), ("genlock/colour.others", laid_genlock_colour_others)], narrowed := true }
def ColourMeasuredUptoSaid : Prop := colourMeasuredUptoRow.holds Tryz.pinned (OpenSpec.upto colourMeasuredSpec)

/-- 'genlocklaw02.ColourLimits', WHERE WHAT IT READS IS OF BULK AT MOST 1048576: true; the input reads as it did. -/
def colourLimitsUptoRow : OpenClaim := { program := "ytdbffbcobghbeaagreatdoor", sum := "e191f56ab4d5f1451ab4bc6d1149a8f2a30423d04b290a2f56fdff2cc978953f", func := "genlock/genlocklaw02.ColourLimits", spec := "colourLimits", inPlace := ["internal/abi.NoEscape", "internal/bytealg.MakeNoZero", "math.Float64bits", "math.Float64frombits", "math.archFloor", "math.archTrunc"], unfollowed := true, recurses := true, named := ["genlock/colour.others", "internal/strconv.uint64pow10", "math/bits.deBruijn32tab", "math/bits.deBruijn64tab"], plainKeys := false, apart := false, laid := [("math/bits.deBruijn32tab", laid_math_bits_deBruijn32tab), ("math/bits.deBruijn64tab", laid_math_bits_deBruijn64tab), ("internal/strconv.uint64pow10", laid_internal_strconv_uint64pow10), ("genlock/colour.others", laid_genlock_colour_others)], narrowed := true }
def ColourLimitsUptoSaid : Prop := colourLimitsUptoRow.holds Tryz.pinned (OpenSpec.upto colourLimitsSpec)

/-- 'genlocklaw02.ColourApplied', WHERE WHAT IT READS IS OF BULK AT MOST 1048576: true; the input reads as it did. -/
def colourAppliedUptoRow : OpenClaim := { program := "ytdbffbcobghbeaagreatdoor", sum := "e191f56ab4d5f1451ab4bc6d1149a8f2a30423d04b290a2f56fdff2cc978953f", func := "genlock/genlocklaw02.ColourApplied", spec := "colourApplied", inPlace := ["internal/abi.NoEscape", "internal/bytealg.MakeNoZero", "math.Float64bits", "math.Float64frombits", "math.archFloor", "math.archTrunc"], unfollowed := true, recurses := true, named := ["genlock/colour.others", "internal/strconv.uint64pow10", "math/bits.deBruijn32tab", "math/bits.deBruijn64tab"], plainKeys := false, apart := false, laid := [("math/bits.deBruijn32tab", laid_math_bits_deBruijn32tab), ("math/bits.deBruijn64tab", laid_math_bits_deBruijn64tab), ("internal/strconv.uint64pow10", laid_internal_strconv_uint64pow10), ("genlock/colour.others", laid_genlock_colour_others)], narrowed := true }
def ColourAppliedUptoSaid : Prop := colourAppliedUptoRow.holds Tryz.pinned (OpenSpec.upto colourAppliedSpec)

/-- 'genlocklaw02.ColourInverse', WHERE WHAT IT READS IS OF BULK AT MOST 1048576: true; the input reads as it did. -/
def colourInverseUptoRow : OpenClaim := { program := "ytdbffbcobghbeaagreatdoor", sum := "e191f56ab4d5f1451ab4bc6d1149a8f2a30423d04b290a2f56fdff2cc978953f", func := "genlock/genlocklaw02.ColourInverse", spec := "colourInverse", inPlace := ["math.Float64bits", "math.Float64frombits", "math.archFloor", "math.archTrunc", "internal/abi.NoEscape", "internal/bytealg.MakeNoZero"], unfollowed := true, recurses := true, named := ["genlock/colour.others", "internal/strconv.uint64pow10", "math/bits.deBruijn32tab", "math/bits.deBruijn64tab"], plainKeys := false, apart := false, laid := [("math/bits.deBruijn32tab", laid_math_bits_deBruijn32tab), ("math/bits.deBruijn64tab", laid_math_bits_deBruijn64tab), ("internal/strconv.uint64pow10", laid_internal_strconv_uint64pow10), ("genlock/colour.others", laid_genlock_colour_others)], narrowed := true }
def ColourInverseUptoSaid : Prop := colourInverseUptoRow.holds Tryz.pinned (OpenSpec.upto colourInverseSpec)

/-- 'genlocklaw02.ColourWitness', WHERE WHAT IT READS IS OF BULK AT MOST 1048576: true; the input reads as it did. -/
def colourWitnessUptoRow : OpenClaim := { program := "ytdbffbcobghbeaagreatdoor", sum := "e191f56ab4d5f1451ab4bc6d1149a8f2a30423d04b290a2f56fdff2cc978953f", func := "genlock/genlocklaw02.ColourWitness", spec := "colourWitness", inPlace := ["math.Float64bits", "math.Float64frombits", "math.archFloor", "math.archTrunc", "internal/abi.NoEscape", "internal/bytealg.MakeNoZero"], unfollowed := true, recurses := true, named := ["genlock/colour.others", "internal/strconv.uint64pow10", "math/bits.deBruijn32tab", "math/bits.deBruijn64tab"], plainKeys := false, apart := false, laid := [("math/bits.deBruijn32tab", laid_math_bits_deBruijn32tab), ("math/bits.deBruijn64tab", laid_math_bits_deBruijn64tab), ("internal/strconv.uint64pow10", laid_internal_strconv_uint64pow10), ("genlock/colour.others", laid_genlock_colour_others)], narrowed := true }
def ColourWitnessUptoSaid : Prop := colourWitnessUptoRow.holds Tryz.pinned (OpenSpec.upto colourWitnessSpec)

/-- 'genlocklaw02.ColourTexts', WHERE WHAT IT READS IS OF BULK AT MOST 1048576: true; the input reads as it did. -/
def colourTextsUptoRow : OpenClaim := { program := "ytdbffbcobghbeaagreatdoor", sum := "e191f56ab4d5f1451ab4bc6d1149a8f2a30423d04b290a2f56fdff2cc978953f", func := "genlock/genlocklaw02.ColourTexts", spec := "colourTexts", inPlace := ["internal/abi.NoEscape", "internal/bytealg.MakeNoZero", "internal/bytealg.IndexByteString", "internal/bytealg.CountString", "internal/bytealg.IndexString"], unfollowed := true, recurses := true, named := ["genlock/colour.others", "internal/strconv.uint64pow10", "math/bits.deBruijn32tab", "math/bits.deBruijn64tab", "unicode/utf8.first", "unicode/utf8.acceptRanges", "internal/bytealg.MaxLen"], plainKeys := false, apart := false, laid := [("math/bits.deBruijn32tab", laid_math_bits_deBruijn32tab), ("math/bits.deBruijn64tab", laid_math_bits_deBruijn64tab), ("internal/strconv.uint64pow10", laid_internal_strconv_uint64pow10), ("unicode/utf8.acceptRanges", laid_unicode_utf8_acceptRanges), ("genlock/colour.others", laid_genlock_colour_others), ("unicode/utf8.first", laid_unicode_utf8_first)], narrowed := true }
def ColourTextsUptoSaid : Prop := colourTextsUptoRow.holds Tryz.pinned (OpenSpec.upto colourTextsSpec)

/-- 'genlocklaw02.ColourBack', WHERE WHAT IT READS IS OF BULK AT MOST 1048576: true; the input reads as it did. -/
def colourBackUptoRow : OpenClaim := { program := "ytdbffbcobghbeaagreatdoor", sum := "e191f56ab4d5f1451ab4bc6d1149a8f2a30423d04b290a2f56fdff2cc978953f", func := "genlock/genlocklaw02.ColourBack", spec := "colourBack", inPlace := ["internal/abi.NoEscape", "internal/bytealg.MakeNoZero", "internal/bytealg.IndexByteString", "internal/bytealg.CountString", "internal/bytealg.IndexString"], unfollowed := true, recurses := true, named := ["genlock/colour.others", "internal/strconv.uint64pow10", "math/bits.deBruijn32tab", "math/bits.deBruijn64tab", "unicode/utf8.first", "unicode/utf8.acceptRanges", "internal/bytealg.MaxLen"], plainKeys := false, apart := false, laid := [("math/bits.deBruijn32tab", laid_math_bits_deBruijn32tab), ("math/bits.deBruijn64tab", laid_math_bits_deBruijn64tab), ("internal/strconv.uint64pow10", laid_internal_strconv_uint64pow10), ("unicode/utf8.acceptRanges", laid_unicode_utf8_acceptRanges), ("genlock/colour.others", laid_genlock_colour_others), ("unicode/utf8.first", laid_unicode_utf8_first)], narrowed := true }
def ColourBackUptoSaid : Prop := colourBackUptoRow.holds Tryz.pinned (OpenSpec.upto colourBackSpec)

end Rows
end Go.Proofs.YtdbffbcobghbeaaGreatDoor
