/-
  NARROWER THAN 'FOR EVERY INPUT', by the rows' own cells (each row's printed sentence says how): MixerWipes: laid · MixerBanks: laid · MixerOpens: laid · MixerTrees: laid · MixerChroma: laid · MixerPictures: laid · MixerCuts: laid · MixerMixes: laid · MixerTiles: laid · MixerKeys: laid · MixerBetween: laid · MixerTexts: laid · MixerBack: laid.
  DERIVED. THE GIVEN ROWS OF THIS SEAT. 13 by the template 'for every input the law returns true; each argument reads behind the call as it read before'; 0 by the template 'total and deterministic' (their statements: YtjkgklhjbopoaaaGreatDoorTotals.lean).
  GIVEN WITH THE SEED: the statements are not yours to turn. If you find one false, say at which input.
  Laid BY PROGRAM, IN A SANDBOX (cutbox-rows.mjs): the forced cells as the released guide's own fill.sh prints them over the translation ba7d8d98c478ebad… (all of the seat's roots in one cut). By AI agents, Wed Nov 11 2026. No macro, syntax, notation, axiom, sorry.
-/
import Derived.Test.YtjkgklhjbopoaaaGreatDoorChecked
import GoSem.PinnedTables
import GoSem.Claim
import GoSem.ClaimJoined
import GoSem.ClaimMapViews
import Derived.JoinedTies
import Derived.KernelRfl
namespace Go.Proofs.YtjkgklhjbopoaaaGreatDoor
/- THE CELL 'sum', in the pinned program and in every row, IS THE sha256 OF THE DUMP (.gsa) THAT YtjkgklhjbopoaaaGreatDoorProg.lean LOADS. Nothing in Lean hashes anything: it is a label: what it is worth is what the hold of that sum in a sandbox is worth. -/
noncomputable def Tryz.pinned : Pinned := { name := "ytjkgklhjbopoaaagreatdoor", sum := "ba7d8d98c478ebad9feea9c941031be6e74c30a678a8a4679c869daab8e6fa99", checked := Tryz.checked }
namespace Rows
def none {H : Type} : Left H := { results := [], args := [] }

/- WHAT THE LISTED PACKAGE-LEVEL VARIABLES READ AS WHEN THE CALL BEGINS. Each datum BY PROGRAM (the guide's laid-datum.mjs) off the statement by which the dump's own 'gosem.cut.vars' lays the variable. In a bare row this is a premise. The card (YtjkgklhjbopoaaaGreatDoorCards.lean) ties it to the program's text. -/
def laid_math_bits_deBruijn32tab {H : Type} : DataW H := .agg [.lit (.int .u8 0), .lit (.int .u8 1), .lit (.int .u8 28), .lit (.int .u8 2), .lit (.int .u8 29), .lit (.int .u8 14), .lit (.int .u8 24), .lit (.int .u8 3), .lit (.int .u8 30), .lit (.int .u8 22), .lit (.int .u8 20), .lit (.int .u8 15), .lit (.int .u8 25), .lit (.int .u8 17), .lit (.int .u8 4), .lit (.int .u8 8), .lit (.int .u8 31), .lit (.int .u8 27), .lit (.int .u8 13), .lit (.int .u8 23), .lit (.int .u8 21), .lit (.int .u8 19), .lit (.int .u8 16), .lit (.int .u8 7), .lit (.int .u8 26), .lit (.int .u8 12), .lit (.int .u8 18), .lit (.int .u8 6), .lit (.int .u8 11), .lit (.int .u8 5), .lit (.int .u8 10), .lit (.int .u8 9)]
def laid_math_bits_deBruijn64tab {H : Type} : DataW H := .agg [.lit (.int .u8 0), .lit (.int .u8 1), .lit (.int .u8 56), .lit (.int .u8 2), .lit (.int .u8 57), .lit (.int .u8 49), .lit (.int .u8 28), .lit (.int .u8 3), .lit (.int .u8 61), .lit (.int .u8 58), .lit (.int .u8 42), .lit (.int .u8 50), .lit (.int .u8 38), .lit (.int .u8 29), .lit (.int .u8 17), .lit (.int .u8 4), .lit (.int .u8 62), .lit (.int .u8 47), .lit (.int .u8 59), .lit (.int .u8 36), .lit (.int .u8 45), .lit (.int .u8 43), .lit (.int .u8 51), .lit (.int .u8 22), .lit (.int .u8 53), .lit (.int .u8 39), .lit (.int .u8 33), .lit (.int .u8 30), .lit (.int .u8 24), .lit (.int .u8 18), .lit (.int .u8 12), .lit (.int .u8 5), .lit (.int .u8 63), .lit (.int .u8 55), .lit (.int .u8 48), .lit (.int .u8 27), .lit (.int .u8 60), .lit (.int .u8 41), .lit (.int .u8 37), .lit (.int .u8 16), .lit (.int .u8 46), .lit (.int .u8 35), .lit (.int .u8 44), .lit (.int .u8 21), .lit (.int .u8 52), .lit (.int .u8 32), .lit (.int .u8 23), .lit (.int .u8 11), .lit (.int .u8 54), .lit (.int .u8 26), .lit (.int .u8 40), .lit (.int .u8 15), .lit (.int .u8 34), .lit (.int .u8 20), .lit (.int .u8 31), .lit (.int .u8 10), .lit (.int .u8 25), .lit (.int .u8 14), .lit (.int .u8 19), .lit (.int .u8 9), .lit (.int .u8 13), .lit (.int .u8 8), .lit (.int .u8 7), .lit (.int .u8 6)]
def laid_internal_strconv_uint64pow10 {H : Type} : DataW H := .agg [.lit (.int .u64 1), .lit (.int .u64 10), .lit (.int .u64 100), .lit (.int .u64 1000), .lit (.int .u64 10000), .lit (.int .u64 100000), .lit (.int .u64 1000000), .lit (.int .u64 10000000), .lit (.int .u64 100000000), .lit (.int .u64 1000000000), .lit (.int .u64 10000000000), .lit (.int .u64 100000000000), .lit (.int .u64 1000000000000), .lit (.int .u64 10000000000000), .lit (.int .u64 100000000000000), .lit (.int .u64 1000000000000000), .lit (.int .u64 10000000000000000), .lit (.int .u64 100000000000000000), .lit (.int .u64 1000000000000000000), .lit (.int .u64 10000000000000000000)]
def laid_strconv_ErrRange {H : Type} : DataW H := .iface "*errors.errorString" (.ptr (.agg [.lit (.string [118, 97, 108, 117, 101, 32, 111, 117, 116, 32, 111, 102, 32, 114, 97, 110, 103, 101])]))
def laid_strconv_ErrSyntax {H : Type} : DataW H := .iface "*errors.errorString" (.ptr (.agg [.lit (.string [105, 110, 118, 97, 108, 105, 100, 32, 115, 121, 110, 116, 97, 120])]))
def laid_genlock_mixer_shapes {H : Type} : DataW H := .agg [.lit (.string [104, 97, 108, 102]), .lit (.string [98, 111, 120]), .lit (.string [100, 105, 97, 109, 111, 110, 100])]
def laid_unicode_utf8_acceptRanges {H : Type} : DataW H := .agg [.agg [.lit (.int .u8 128), .lit (.int .u8 191)], .agg [.lit (.int .u8 160), .lit (.int .u8 191)], .agg [.lit (.int .u8 128), .lit (.int .u8 159)], .agg [.lit (.int .u8 144), .lit (.int .u8 191)], .agg [.lit (.int .u8 128), .lit (.int .u8 143)], .agg [.lit (.int .u8 0), .lit (.int .u8 0)], .agg [.lit (.int .u8 0), .lit (.int .u8 0)], .agg [.lit (.int .u8 0), .lit (.int .u8 0)], .agg [.lit (.int .u8 0), .lit (.int .u8 0)], .agg [.lit (.int .u8 0), .lit (.int .u8 0)], .agg [.lit (.int .u8 0), .lit (.int .u8 0)], .agg [.lit (.int .u8 0), .lit (.int .u8 0)], .agg [.lit (.int .u8 0), .lit (.int .u8 0)], .agg [.lit (.int .u8 0), .lit (.int .u8 0)], .agg [.lit (.int .u8 0), .lit (.int .u8 0)], .agg [.lit (.int .u8 0), .lit (.int .u8 0)]]
/-- One of Go's own tables, pinned by name: the form's constant. -/
def laid_unicode_utf8_first : DataW Unit := Go.Pinned.utf8First

/-- 'genlocklaw06.MixerWipes': WHATEVER THE INPUT: true; the input reads as it did. -/
def mixerWipesSpec : ChangeSpec := { name := "mixerWipes", fn := fun _ => fun
  | [d1, d2, d3] => { results := [.lit (.bool true)], args := [d1, d2, d3] }
  | _ => none }
def mixerWipesRow : OpenClaim := { program := "ytjkgklhjbopoaaagreatdoor", sum := "ba7d8d98c478ebad9feea9c941031be6e74c30a678a8a4679c869daab8e6fa99", func := "genlock/genlocklaw06.MixerWipes", spec := "mixerWipes", inPlace := ["internal/abi.NoEscape", "internal/bytealg.MakeNoZero"], unfollowed := true, recurses := true, named := ["genlock/mixer.shapes", "strconv.ErrSyntax", "strconv.ErrRange", "internal/strconv.uint64pow10", "math/bits.deBruijn32tab", "math/bits.deBruijn64tab"], apart := false, laid := [("math/bits.deBruijn32tab", laid_math_bits_deBruijn32tab), ("math/bits.deBruijn64tab", laid_math_bits_deBruijn64tab), ("internal/strconv.uint64pow10", laid_internal_strconv_uint64pow10), ("strconv.ErrRange", laid_strconv_ErrRange), ("strconv.ErrSyntax", laid_strconv_ErrSyntax), ("genlock/mixer.shapes", laid_genlock_mixer_shapes)] }
def MixerWipesSaid : Prop := mixerWipesRow.holds Tryz.pinned (OpenSpec.ofChange mixerWipesSpec)

/-- ITS FALSE NEIGHBOUR: 'it returns false'. Refute it at one input. -/
def mixerWipesWrong : ChangeSpec := { name := "mixerWipes", fn := fun _ => fun
  | [d1, d2, d3] => { results := [.lit (.bool false)], args := [d1, d2, d3] }
  | _ => none }
def MixerWipesWrongFalsely : Prop := mixerWipesRow.holds Tryz.pinned (OpenSpec.ofChange mixerWipesWrong)

/-- 'genlocklaw06.MixerBanks': WHATEVER THE INPUT: true; the input reads as it did. -/
def mixerBanksSpec : ChangeSpec := { name := "mixerBanks", fn := fun _ => fun
  | [d1, d2, d3] => { results := [.lit (.bool true)], args := [d1, d2, d3] }
  | _ => none }
def mixerBanksRow : OpenClaim := { program := "ytjkgklhjbopoaaagreatdoor", sum := "ba7d8d98c478ebad9feea9c941031be6e74c30a678a8a4679c869daab8e6fa99", func := "genlock/genlocklaw06.MixerBanks", spec := "mixerBanks", inPlace := ["internal/abi.NoEscape", "internal/bytealg.MakeNoZero"], unfollowed := true, recurses := true, named := ["genlock/mixer.shapes", "strconv.ErrSyntax", "strconv.ErrRange", "internal/strconv.uint64pow10", "math/bits.deBruijn32tab", "math/bits.deBruijn64tab"], apart := false, laid := [("math/bits.deBruijn32tab", laid_math_bits_deBruijn32tab), ("math/bits.deBruijn64tab", laid_math_bits_deBruijn64tab), ("internal/strconv.uint64pow10", laid_internal_strconv_uint64pow10), ("strconv.ErrRange", laid_strconv_ErrRange), ("strconv.ErrSyntax", laid_strconv_ErrSyntax), ("genlock/mixer.shapes", laid_genlock_mixer_shapes)] }
def MixerBanksSaid : Prop := mixerBanksRow.holds Tryz.pinned (OpenSpec.ofChange mixerBanksSpec)

/-- ITS FALSE NEIGHBOUR: 'it returns false'. Refute it at one input. -/
def mixerBanksWrong : ChangeSpec := { name := "mixerBanks", fn := fun _ => fun
  | [d1, d2, d3] => { results := [.lit (.bool false)], args := [d1, d2, d3] }
  | _ => none }
def MixerBanksWrongFalsely : Prop := mixerBanksRow.holds Tryz.pinned (OpenSpec.ofChange mixerBanksWrong)

/-- 'genlocklaw06.MixerOpens': WHATEVER THE INPUT: true; the input reads as it did. -/
def mixerOpensSpec : ChangeSpec := { name := "mixerOpens", fn := fun _ => fun
  | [d1, d2, d3] => { results := [.lit (.bool true)], args := [d1, d2, d3] }
  | _ => none }
def mixerOpensRow : OpenClaim := { program := "ytjkgklhjbopoaaagreatdoor", sum := "ba7d8d98c478ebad9feea9c941031be6e74c30a678a8a4679c869daab8e6fa99", func := "genlock/genlocklaw06.MixerOpens", spec := "mixerOpens", inPlace := ["internal/abi.NoEscape", "internal/bytealg.MakeNoZero"], unfollowed := true, recurses := true, named := ["genlock/mixer.shapes", "strconv.ErrSyntax", "strconv.ErrRange", "internal/strconv.uint64pow10", "math/bits.deBruijn32tab", "math/bits.deBruijn64tab"], apart := false, laid := [("math/bits.deBruijn32tab", laid_math_bits_deBruijn32tab), ("math/bits.deBruijn64tab", laid_math_bits_deBruijn64tab), ("internal/strconv.uint64pow10", laid_internal_strconv_uint64pow10), ("strconv.ErrRange", laid_strconv_ErrRange), ("strconv.ErrSyntax", laid_strconv_ErrSyntax), ("genlock/mixer.shapes", laid_genlock_mixer_shapes)] }
def MixerOpensSaid : Prop := mixerOpensRow.holds Tryz.pinned (OpenSpec.ofChange mixerOpensSpec)

/-- ITS FALSE NEIGHBOUR: 'it returns false'. Refute it at one input. -/
def mixerOpensWrong : ChangeSpec := { name := "mixerOpens", fn := fun _ => fun
  | [d1, d2, d3] => { results := [.lit (.bool false)], args := [d1, d2, d3] }
  | _ => none }
def MixerOpensWrongFalsely : Prop := mixerOpensRow.holds Tryz.pinned (OpenSpec.ofChange mixerOpensWrong)

/-- 'genlocklaw06.MixerTrees': WHATEVER THE INPUT: true; the input reads as it did. -/
def mixerTreesSpec : ChangeSpec := { name := "mixerTrees", fn := fun _ => fun
  | [d1, d2] => { results := [.lit (.bool true)], args := [d1, d2] }
  | _ => none }
def mixerTreesRow : OpenClaim := { program := "ytjkgklhjbopoaaagreatdoor", sum := "ba7d8d98c478ebad9feea9c941031be6e74c30a678a8a4679c869daab8e6fa99", func := "genlock/genlocklaw06.MixerTrees", spec := "mixerTrees", inPlace := ["internal/abi.NoEscape", "internal/bytealg.MakeNoZero"], unfollowed := true, recurses := true, named := ["genlock/mixer.shapes", "strconv.ErrSyntax", "strconv.ErrRange", "internal/strconv.uint64pow10", "math/bits.deBruijn32tab", "math/bits.deBruijn64tab"], apart := false, laid := [("math/bits.deBruijn32tab", laid_math_bits_deBruijn32tab), ("math/bits.deBruijn64tab", laid_math_bits_deBruijn64tab), ("internal/strconv.uint64pow10", laid_internal_strconv_uint64pow10), ("strconv.ErrRange", laid_strconv_ErrRange), ("strconv.ErrSyntax", laid_strconv_ErrSyntax), ("genlock/mixer.shapes", laid_genlock_mixer_shapes)] }
def MixerTreesSaid : Prop := mixerTreesRow.holds Tryz.pinned (OpenSpec.ofChange mixerTreesSpec)

/-- ITS FALSE NEIGHBOUR: 'it returns false'. Refute it at one input. -/
def mixerTreesWrong : ChangeSpec := { name := "mixerTrees", fn := fun _ => fun
  | [d1, d2] => { results := [.lit (.bool false)], args := [d1, d2] }
  | _ => none }
def MixerTreesWrongFalsely : Prop := mixerTreesRow.holds Tryz.pinned (OpenSpec.ofChange mixerTreesWrong)

/-- 'genlocklaw06.MixerChroma': WHATEVER THE INPUT: true; the input reads as it did. -/
def mixerChromaSpec : ChangeSpec := { name := "mixerChroma", fn := fun _ => fun
  | [d1, d2, d3] => { results := [.lit (.bool true)], args := [d1, d2, d3] }
  | _ => none }
def mixerChromaRow : OpenClaim := { program := "ytjkgklhjbopoaaagreatdoor", sum := "ba7d8d98c478ebad9feea9c941031be6e74c30a678a8a4679c869daab8e6fa99", func := "genlock/genlocklaw06.MixerChroma", spec := "mixerChroma", inPlace := ["internal/abi.NoEscape", "internal/bytealg.MakeNoZero", "math.Float64bits", "math.Float64frombits", "math.archFloor", "math.archTrunc"], unfollowed := true, recurses := true, named := ["genlock/mixer.shapes", "strconv.ErrSyntax", "strconv.ErrRange", "internal/strconv.uint64pow10", "math/bits.deBruijn32tab", "math/bits.deBruijn64tab"], apart := false, laid := [("math/bits.deBruijn32tab", laid_math_bits_deBruijn32tab), ("math/bits.deBruijn64tab", laid_math_bits_deBruijn64tab), ("internal/strconv.uint64pow10", laid_internal_strconv_uint64pow10), ("strconv.ErrRange", laid_strconv_ErrRange), ("strconv.ErrSyntax", laid_strconv_ErrSyntax), ("genlock/mixer.shapes", laid_genlock_mixer_shapes)] }
def MixerChromaSaid : Prop := mixerChromaRow.holds Tryz.pinned (OpenSpec.ofChange mixerChromaSpec)

/-- ITS FALSE NEIGHBOUR: 'it returns false'. Refute it at one input. -/
def mixerChromaWrong : ChangeSpec := { name := "mixerChroma", fn := fun _ => fun
  | [d1, d2, d3] => { results := [.lit (.bool false)], args := [d1, d2, d3] }
  | _ => none }
def MixerChromaWrongFalsely : Prop := mixerChromaRow.holds Tryz.pinned (OpenSpec.ofChange mixerChromaWrong)

/-- 'genlocklaw06.MixerPictures': WHATEVER THE INPUT: true; the input reads as it did. -/
def mixerPicturesSpec : ChangeSpec := { name := "mixerPictures", fn := fun _ => fun
  | [d1, d2, d3] => { results := [.lit (.bool true)], args := [d1, d2, d3] }
  | _ => none }
def mixerPicturesRow : OpenClaim := { program := "ytjkgklhjbopoaaagreatdoor", sum := "ba7d8d98c478ebad9feea9c941031be6e74c30a678a8a4679c869daab8e6fa99", func := "genlock/genlocklaw06.MixerPictures", spec := "mixerPictures", inPlace := ["internal/abi.NoEscape", "internal/bytealg.MakeNoZero", "math.Float64bits", "math.Float64frombits", "math.archFloor", "math.archTrunc"], unfollowed := true, recurses := true, named := ["genlock/mixer.shapes", "strconv.ErrSyntax", "strconv.ErrRange", "internal/strconv.uint64pow10", "math/bits.deBruijn32tab", "math/bits.deBruijn64tab"], apart := false, laid := [("math/bits.deBruijn32tab", laid_math_bits_deBruijn32tab), ("math/bits.deBruijn64tab", laid_math_bits_deBruijn64tab), ("internal/strconv.uint64pow10", laid_internal_strconv_uint64pow10), ("strconv.ErrRange", laid_strconv_ErrRange), ("strconv.ErrSyntax", laid_strconv_ErrSyntax), ("genlock/mixer.shapes", laid_genlock_mixer_shapes)] }
def MixerPicturesSaid : Prop := mixerPicturesRow.holds Tryz.pinned (OpenSpec.ofChange mixerPicturesSpec)

/-- ITS FALSE NEIGHBOUR: 'it returns false'. Refute it at one input. -/
def mixerPicturesWrong : ChangeSpec := { name := "mixerPictures", fn := fun _ => fun
  | [d1, d2, d3] => { results := [.lit (.bool false)], args := [d1, d2, d3] }
  | _ => none }
def MixerPicturesWrongFalsely : Prop := mixerPicturesRow.holds Tryz.pinned (OpenSpec.ofChange mixerPicturesWrong)

/-- 'genlocklaw06.MixerCuts': WHATEVER THE INPUT: true; the input reads as it did. -/
def mixerCutsSpec : ChangeSpec := { name := "mixerCuts", fn := fun _ => fun
  | [d1, d2, d3] => { results := [.lit (.bool true)], args := [d1, d2, d3] }
  | _ => none }
def mixerCutsRow : OpenClaim := { program := "ytjkgklhjbopoaaagreatdoor", sum := "ba7d8d98c478ebad9feea9c941031be6e74c30a678a8a4679c869daab8e6fa99", func := "genlock/genlocklaw06.MixerCuts", spec := "mixerCuts", inPlace := ["math.Float64bits", "math.Float64frombits", "math.archFloor", "math.archTrunc", "internal/abi.NoEscape", "internal/bytealg.MakeNoZero"], unfollowed := true, recurses := true, named := ["genlock/mixer.shapes", "strconv.ErrSyntax", "strconv.ErrRange", "internal/strconv.uint64pow10", "math/bits.deBruijn32tab", "math/bits.deBruijn64tab"], apart := false, laid := [("math/bits.deBruijn32tab", laid_math_bits_deBruijn32tab), ("math/bits.deBruijn64tab", laid_math_bits_deBruijn64tab), ("internal/strconv.uint64pow10", laid_internal_strconv_uint64pow10), ("strconv.ErrRange", laid_strconv_ErrRange), ("strconv.ErrSyntax", laid_strconv_ErrSyntax), ("genlock/mixer.shapes", laid_genlock_mixer_shapes)] }
def MixerCutsSaid : Prop := mixerCutsRow.holds Tryz.pinned (OpenSpec.ofChange mixerCutsSpec)

/-- ITS FALSE NEIGHBOUR: 'it returns false'. Refute it at one input. -/
def mixerCutsWrong : ChangeSpec := { name := "mixerCuts", fn := fun _ => fun
  | [d1, d2, d3] => { results := [.lit (.bool false)], args := [d1, d2, d3] }
  | _ => none }
def MixerCutsWrongFalsely : Prop := mixerCutsRow.holds Tryz.pinned (OpenSpec.ofChange mixerCutsWrong)

/-- 'genlocklaw06.MixerMixes': WHATEVER THE INPUT: true; the input reads as it did. -/
def mixerMixesSpec : ChangeSpec := { name := "mixerMixes", fn := fun _ => fun
  | [d1, d2] => { results := [.lit (.bool true)], args := [d1, d2] }
  | _ => none }
def mixerMixesRow : OpenClaim := { program := "ytjkgklhjbopoaaagreatdoor", sum := "ba7d8d98c478ebad9feea9c941031be6e74c30a678a8a4679c869daab8e6fa99", func := "genlock/genlocklaw06.MixerMixes", spec := "mixerMixes", inPlace := ["internal/abi.NoEscape", "internal/bytealg.MakeNoZero", "math.Float64bits", "math.Float64frombits", "math.archFloor", "math.archTrunc"], unfollowed := true, recurses := true, named := ["genlock/mixer.shapes", "strconv.ErrSyntax", "strconv.ErrRange", "internal/strconv.uint64pow10", "math/bits.deBruijn32tab", "math/bits.deBruijn64tab"], apart := false, laid := [("math/bits.deBruijn32tab", laid_math_bits_deBruijn32tab), ("math/bits.deBruijn64tab", laid_math_bits_deBruijn64tab), ("internal/strconv.uint64pow10", laid_internal_strconv_uint64pow10), ("strconv.ErrRange", laid_strconv_ErrRange), ("strconv.ErrSyntax", laid_strconv_ErrSyntax), ("genlock/mixer.shapes", laid_genlock_mixer_shapes)] }
def MixerMixesSaid : Prop := mixerMixesRow.holds Tryz.pinned (OpenSpec.ofChange mixerMixesSpec)

/-- ITS FALSE NEIGHBOUR: 'it returns false'. Refute it at one input. -/
def mixerMixesWrong : ChangeSpec := { name := "mixerMixes", fn := fun _ => fun
  | [d1, d2] => { results := [.lit (.bool false)], args := [d1, d2] }
  | _ => none }
def MixerMixesWrongFalsely : Prop := mixerMixesRow.holds Tryz.pinned (OpenSpec.ofChange mixerMixesWrong)

/-- 'genlocklaw06.MixerTiles': WHATEVER THE INPUT: true; the input reads as it did. -/
def mixerTilesSpec : ChangeSpec := { name := "mixerTiles", fn := fun _ => fun
  | [d1, d2, d3] => { results := [.lit (.bool true)], args := [d1, d2, d3] }
  | _ => none }
def mixerTilesRow : OpenClaim := { program := "ytjkgklhjbopoaaagreatdoor", sum := "ba7d8d98c478ebad9feea9c941031be6e74c30a678a8a4679c869daab8e6fa99", func := "genlock/genlocklaw06.MixerTiles", spec := "mixerTiles", inPlace := ["math.Float64bits", "math.Float64frombits", "math.archFloor", "math.archTrunc", "internal/abi.NoEscape", "internal/bytealg.MakeNoZero"], unfollowed := true, recurses := true, named := ["genlock/mixer.shapes", "strconv.ErrSyntax", "strconv.ErrRange", "internal/strconv.uint64pow10", "math/bits.deBruijn32tab", "math/bits.deBruijn64tab"], apart := false, laid := [("math/bits.deBruijn32tab", laid_math_bits_deBruijn32tab), ("math/bits.deBruijn64tab", laid_math_bits_deBruijn64tab), ("internal/strconv.uint64pow10", laid_internal_strconv_uint64pow10), ("strconv.ErrRange", laid_strconv_ErrRange), ("strconv.ErrSyntax", laid_strconv_ErrSyntax), ("genlock/mixer.shapes", laid_genlock_mixer_shapes)] }
def MixerTilesSaid : Prop := mixerTilesRow.holds Tryz.pinned (OpenSpec.ofChange mixerTilesSpec)

/-- ITS FALSE NEIGHBOUR: 'it returns false'. Refute it at one input. -/
def mixerTilesWrong : ChangeSpec := { name := "mixerTiles", fn := fun _ => fun
  | [d1, d2, d3] => { results := [.lit (.bool false)], args := [d1, d2, d3] }
  | _ => none }
def MixerTilesWrongFalsely : Prop := mixerTilesRow.holds Tryz.pinned (OpenSpec.ofChange mixerTilesWrong)

/-- 'genlocklaw06.MixerKeys': WHATEVER THE INPUT: true; the input reads as it did. -/
def mixerKeysSpec : ChangeSpec := { name := "mixerKeys", fn := fun _ => fun
  | [d1, d2, d3] => { results := [.lit (.bool true)], args := [d1, d2, d3] }
  | _ => none }
def mixerKeysRow : OpenClaim := { program := "ytjkgklhjbopoaaagreatdoor", sum := "ba7d8d98c478ebad9feea9c941031be6e74c30a678a8a4679c869daab8e6fa99", func := "genlock/genlocklaw06.MixerKeys", spec := "mixerKeys", inPlace := ["internal/abi.NoEscape", "internal/bytealg.MakeNoZero", "math.Float64bits", "math.Float64frombits", "math.archFloor", "math.archTrunc"], unfollowed := true, recurses := true, named := ["genlock/mixer.shapes", "strconv.ErrSyntax", "strconv.ErrRange", "internal/strconv.uint64pow10", "math/bits.deBruijn32tab", "math/bits.deBruijn64tab"], apart := false, laid := [("math/bits.deBruijn32tab", laid_math_bits_deBruijn32tab), ("math/bits.deBruijn64tab", laid_math_bits_deBruijn64tab), ("internal/strconv.uint64pow10", laid_internal_strconv_uint64pow10), ("strconv.ErrRange", laid_strconv_ErrRange), ("strconv.ErrSyntax", laid_strconv_ErrSyntax), ("genlock/mixer.shapes", laid_genlock_mixer_shapes)] }
def MixerKeysSaid : Prop := mixerKeysRow.holds Tryz.pinned (OpenSpec.ofChange mixerKeysSpec)

/-- ITS FALSE NEIGHBOUR: 'it returns false'. Refute it at one input. -/
def mixerKeysWrong : ChangeSpec := { name := "mixerKeys", fn := fun _ => fun
  | [d1, d2, d3] => { results := [.lit (.bool false)], args := [d1, d2, d3] }
  | _ => none }
def MixerKeysWrongFalsely : Prop := mixerKeysRow.holds Tryz.pinned (OpenSpec.ofChange mixerKeysWrong)

/-- 'genlocklaw06.MixerBetween': WHATEVER THE INPUT: true; the input reads as it did. -/
def mixerBetweenSpec : ChangeSpec := { name := "mixerBetween", fn := fun _ => fun
  | [d1, d2] => { results := [.lit (.bool true)], args := [d1, d2] }
  | _ => none }
def mixerBetweenRow : OpenClaim := { program := "ytjkgklhjbopoaaagreatdoor", sum := "ba7d8d98c478ebad9feea9c941031be6e74c30a678a8a4679c869daab8e6fa99", func := "genlock/genlocklaw06.MixerBetween", spec := "mixerBetween", inPlace := ["math.Float64bits", "math.Float64frombits", "math.archFloor", "math.archTrunc", "internal/abi.NoEscape", "internal/bytealg.MakeNoZero"], unfollowed := true, recurses := true, named := ["genlock/mixer.shapes", "strconv.ErrSyntax", "strconv.ErrRange", "internal/strconv.uint64pow10", "math/bits.deBruijn32tab", "math/bits.deBruijn64tab"], apart := false, laid := [("math/bits.deBruijn32tab", laid_math_bits_deBruijn32tab), ("math/bits.deBruijn64tab", laid_math_bits_deBruijn64tab), ("internal/strconv.uint64pow10", laid_internal_strconv_uint64pow10), ("strconv.ErrRange", laid_strconv_ErrRange), ("strconv.ErrSyntax", laid_strconv_ErrSyntax), ("genlock/mixer.shapes", laid_genlock_mixer_shapes)] }
def MixerBetweenSaid : Prop := mixerBetweenRow.holds Tryz.pinned (OpenSpec.ofChange mixerBetweenSpec)

/-- ITS FALSE NEIGHBOUR: 'it returns false'. Refute it at one input. -/
def mixerBetweenWrong : ChangeSpec := { name := "mixerBetween", fn := fun _ => fun
  | [d1, d2] => { results := [.lit (.bool false)], args := [d1, d2] }
  | _ => none }
def MixerBetweenWrongFalsely : Prop := mixerBetweenRow.holds Tryz.pinned (OpenSpec.ofChange mixerBetweenWrong)

/-- 'genlocklaw06.MixerTexts': WHATEVER THE INPUT: true; the input reads as it did. -/
def mixerTextsSpec : ChangeSpec := { name := "mixerTexts", fn := fun _ => fun
  | [d1, d2] => { results := [.lit (.bool true)], args := [d1, d2] }
  | _ => none }
def mixerTextsRow : OpenClaim := { program := "ytjkgklhjbopoaaagreatdoor", sum := "ba7d8d98c478ebad9feea9c941031be6e74c30a678a8a4679c869daab8e6fa99", func := "genlock/genlocklaw06.MixerTexts", spec := "mixerTexts", inPlace := ["internal/abi.NoEscape", "internal/bytealg.MakeNoZero", "internal/bytealg.IndexByteString", "internal/bytealg.CountString", "internal/bytealg.IndexString"], unfollowed := true, recurses := true, named := ["genlock/mixer.shapes", "strconv.ErrSyntax", "strconv.ErrRange", "internal/strconv.uint64pow10", "math/bits.deBruijn32tab", "math/bits.deBruijn64tab", "unicode/utf8.first", "unicode/utf8.acceptRanges", "internal/bytealg.MaxLen"], apart := false, laid := [("math/bits.deBruijn32tab", laid_math_bits_deBruijn32tab), ("math/bits.deBruijn64tab", laid_math_bits_deBruijn64tab), ("internal/strconv.uint64pow10", laid_internal_strconv_uint64pow10), ("unicode/utf8.acceptRanges", laid_unicode_utf8_acceptRanges), ("strconv.ErrRange", laid_strconv_ErrRange), ("strconv.ErrSyntax", laid_strconv_ErrSyntax), ("genlock/mixer.shapes", laid_genlock_mixer_shapes), ("unicode/utf8.first", laid_unicode_utf8_first)] }
def MixerTextsSaid : Prop := mixerTextsRow.holds Tryz.pinned (OpenSpec.ofChange mixerTextsSpec)

/-- ITS FALSE NEIGHBOUR: 'it returns false'. Refute it at one input. -/
def mixerTextsWrong : ChangeSpec := { name := "mixerTexts", fn := fun _ => fun
  | [d1, d2] => { results := [.lit (.bool false)], args := [d1, d2] }
  | _ => none }
def MixerTextsWrongFalsely : Prop := mixerTextsRow.holds Tryz.pinned (OpenSpec.ofChange mixerTextsWrong)

/-- 'genlocklaw06.MixerBack': WHATEVER THE INPUT: true; the input reads as it did. -/
def mixerBackSpec : ChangeSpec := { name := "mixerBack", fn := fun _ => fun
  | [d1, d2] => { results := [.lit (.bool true)], args := [d1, d2] }
  | _ => none }
def mixerBackRow : OpenClaim := { program := "ytjkgklhjbopoaaagreatdoor", sum := "ba7d8d98c478ebad9feea9c941031be6e74c30a678a8a4679c869daab8e6fa99", func := "genlock/genlocklaw06.MixerBack", spec := "mixerBack", inPlace := ["internal/abi.NoEscape", "internal/bytealg.MakeNoZero", "internal/bytealg.IndexByteString", "internal/bytealg.CountString", "internal/bytealg.IndexString"], unfollowed := true, recurses := true, named := ["genlock/mixer.shapes", "strconv.ErrSyntax", "strconv.ErrRange", "internal/strconv.uint64pow10", "math/bits.deBruijn32tab", "math/bits.deBruijn64tab", "unicode/utf8.first", "unicode/utf8.acceptRanges", "internal/bytealg.MaxLen"], apart := false, laid := [("math/bits.deBruijn32tab", laid_math_bits_deBruijn32tab), ("math/bits.deBruijn64tab", laid_math_bits_deBruijn64tab), ("internal/strconv.uint64pow10", laid_internal_strconv_uint64pow10), ("unicode/utf8.acceptRanges", laid_unicode_utf8_acceptRanges), ("strconv.ErrRange", laid_strconv_ErrRange), ("strconv.ErrSyntax", laid_strconv_ErrSyntax), ("genlock/mixer.shapes", laid_genlock_mixer_shapes), ("unicode/utf8.first", laid_unicode_utf8_first)] }
def MixerBackSaid : Prop := mixerBackRow.holds Tryz.pinned (OpenSpec.ofChange mixerBackSpec)

/-- ITS FALSE NEIGHBOUR: 'it returns false'. Refute it at one input. -/
def mixerBackWrong : ChangeSpec := { name := "mixerBack", fn := fun _ => fun
  | [d1, d2] => { results := [.lit (.bool false)], args := [d1, d2] }
  | _ => none }
def MixerBackWrongFalsely : Prop := mixerBackRow.holds Tryz.pinned (OpenSpec.ofChange mixerBackWrong)

/- THE SECOND FORM. 'bulk': how many values and letters a reading holds, each counted each time it is reached (what is shared counts as often as it is met; a slice's spare places count too). A statement '..UptoSaid' is the law's where the arguments, and the package variables that the reading takes, are together of bulk at most 1048576: NARROWER than '..Said'. Prove '..Said' where nothing that the law and all that it calls make is longer than what came in: it says more and counts as full. Else prove '..UptoSaid'. A law counts once. -/
mutual
def uptoBulk {H : Type} : DataW H → Nat
  | .lit (.string bytes) => bytes.length + 1
  | .lit _ => 1
  | .nil => 1
  | .ptr d => uptoBulk d + 1
  | .slice elems spare => uptoBulkAll elems + uptoBulkAll spare + 1
  | .agg parts => uptoBulkAll parts + 1
  | .iface _ d => uptoBulk d + 1
  | .map entries => uptoBulkEntries entries + 1
  | .held _ => 1
def uptoBulkAll {H : Type} : List (DataW H) → Nat
  | [] => 0
  | d :: r => uptoBulk d + uptoBulkAll r
def uptoBulkEntries {H : Type} : List (Lit × DataW H) → Nat
  | [] => 0
  | x :: r => uptoBulkEntry x + uptoBulkEntries r
def uptoBulkEntry {H : Type} : Lit × DataW H → Nat
  | (.string bytes, d) => bytes.length + uptoBulk d + 1
  | (_, d) => uptoBulk d + 1
 end
def uptoSmall : (H : Type) → List (DataW H) → Bool := fun _ ds => decide (uptoBulkAll ds ≤ 1048576)
def OpenSpec.upto (s : _root_.Go.ChangeSpec) : _root_.Go.OpenSpec := { _root_.Go.OpenSpec.ofChange s with cond := some uptoSmall }

/-- 'genlocklaw06.MixerWipes', WHERE WHAT IT READS IS OF BULK AT MOST 1048576: true; the input reads as it did. -/
def mixerWipesUptoRow : OpenClaim := { program := "ytjkgklhjbopoaaagreatdoor", sum := "ba7d8d98c478ebad9feea9c941031be6e74c30a678a8a4679c869daab8e6fa99", func := "genlock/genlocklaw06.MixerWipes", spec := "mixerWipes", inPlace := ["internal/abi.NoEscape", "internal/bytealg.MakeNoZero"], unfollowed := true, recurses := true, named := ["genlock/mixer.shapes", "strconv.ErrSyntax", "strconv.ErrRange", "internal/strconv.uint64pow10", "math/bits.deBruijn32tab", "math/bits.deBruijn64tab"], apart := false, laid := [("math/bits.deBruijn32tab", laid_math_bits_deBruijn32tab), ("math/bits.deBruijn64tab", laid_math_bits_deBruijn64tab), ("internal/strconv.uint64pow10", laid_internal_strconv_uint64pow10), ("strconv.ErrRange", laid_strconv_ErrRange), ("strconv.ErrSyntax", laid_strconv_ErrSyntax), ("genlock/mixer.shapes", laid_genlock_mixer_shapes)], narrowed := true }
def MixerWipesUptoSaid : Prop := mixerWipesUptoRow.holds Tryz.pinned (OpenSpec.upto mixerWipesSpec)

/-- 'genlocklaw06.MixerBanks', WHERE WHAT IT READS IS OF BULK AT MOST 1048576: true; the input reads as it did. -/
def mixerBanksUptoRow : OpenClaim := { program := "ytjkgklhjbopoaaagreatdoor", sum := "ba7d8d98c478ebad9feea9c941031be6e74c30a678a8a4679c869daab8e6fa99", func := "genlock/genlocklaw06.MixerBanks", spec := "mixerBanks", inPlace := ["internal/abi.NoEscape", "internal/bytealg.MakeNoZero"], unfollowed := true, recurses := true, named := ["genlock/mixer.shapes", "strconv.ErrSyntax", "strconv.ErrRange", "internal/strconv.uint64pow10", "math/bits.deBruijn32tab", "math/bits.deBruijn64tab"], apart := false, laid := [("math/bits.deBruijn32tab", laid_math_bits_deBruijn32tab), ("math/bits.deBruijn64tab", laid_math_bits_deBruijn64tab), ("internal/strconv.uint64pow10", laid_internal_strconv_uint64pow10), ("strconv.ErrRange", laid_strconv_ErrRange), ("strconv.ErrSyntax", laid_strconv_ErrSyntax), ("genlock/mixer.shapes", laid_genlock_mixer_shapes)], narrowed := true }
def MixerBanksUptoSaid : Prop := mixerBanksUptoRow.holds Tryz.pinned (OpenSpec.upto mixerBanksSpec)

/-- 'genlocklaw06.MixerOpens', WHERE WHAT IT READS IS OF BULK AT MOST 1048576: true; the input reads as it did. -/
def mixerOpensUptoRow : OpenClaim := { program := "ytjkgklhjbopoaaagreatdoor", sum := "ba7d8d98c478ebad9feea9c941031be6e74c30a678a8a4679c869daab8e6fa99", func := "genlock/genlocklaw06.MixerOpens", spec := "mixerOpens", inPlace := ["internal/abi.NoEscape", "internal/bytealg.MakeNoZero"], unfollowed := true, recurses := true, named := ["genlock/mixer.shapes", "strconv.ErrSyntax", "strconv.ErrRange", "internal/strconv.uint64pow10", "math/bits.deBruijn32tab", "math/bits.deBruijn64tab"], apart := false, laid := [("math/bits.deBruijn32tab", laid_math_bits_deBruijn32tab), ("math/bits.deBruijn64tab", laid_math_bits_deBruijn64tab), ("internal/strconv.uint64pow10", laid_internal_strconv_uint64pow10), ("strconv.ErrRange", laid_strconv_ErrRange), ("strconv.ErrSyntax", laid_strconv_ErrSyntax), ("genlock/mixer.shapes", laid_genlock_mixer_shapes)], narrowed := true }
def MixerOpensUptoSaid : Prop := mixerOpensUptoRow.holds Tryz.pinned (OpenSpec.upto mixerOpensSpec)

/-- 'genlocklaw06.MixerTrees', WHERE WHAT IT READS IS OF BULK AT MOST 1048576: true; the input reads as it did. -/
def mixerTreesUptoRow : OpenClaim := { program := "ytjkgklhjbopoaaagreatdoor", sum := "ba7d8d98c478ebad9feea9c941031be6e74c30a678a8a4679c869daab8e6fa99", func := "genlock/genlocklaw06.MixerTrees", spec := "mixerTrees", inPlace := ["internal/abi.NoEscape", "internal/bytealg.MakeNoZero"], unfollowed := true, recurses := true, named := ["genlock/mixer.shapes", "strconv.ErrSyntax", "strconv.ErrRange", "internal/strconv.uint64pow10", "math/bits.deBruijn32tab", "math/bits.deBruijn64tab"], apart := false, laid := [("math/bits.deBruijn32tab", laid_math_bits_deBruijn32tab), ("math/bits.deBruijn64tab", laid_math_bits_deBruijn64tab), ("internal/strconv.uint64pow10", laid_internal_strconv_uint64pow10), ("strconv.ErrRange", laid_strconv_ErrRange), ("strconv.ErrSyntax", laid_strconv_ErrSyntax), ("genlock/mixer.shapes", laid_genlock_mixer_shapes)], narrowed := true }
def MixerTreesUptoSaid : Prop := mixerTreesUptoRow.holds Tryz.pinned (OpenSpec.upto mixerTreesSpec)

/-- 'genlocklaw06.MixerChroma', WHERE WHAT IT READS IS OF BULK AT MOST 1048576: true; the input reads as it did. -/
def mixerChromaUptoRow : OpenClaim := { program := "ytjkgklhjbopoaaagreatdoor", sum := "ba7d8d98c478ebad9feea9c941031be6e74c30a678a8a4679c869daab8e6fa99", func := "genlock/genlocklaw06.MixerChroma", spec := "mixerChroma", inPlace := ["internal/abi.NoEscape", "internal/bytealg.MakeNoZero", "math.Float64bits", "math.Float64frombits", "math.archFloor", "math.archTrunc"], unfollowed := true, recurses := true, named := ["genlock/mixer.shapes", "strconv.ErrSyntax", "strconv.ErrRange", "internal/strconv.uint64pow10", "math/bits.deBruijn32tab", "math/bits.deBruijn64tab"], apart := false, laid := [("math/bits.deBruijn32tab", laid_math_bits_deBruijn32tab), ("math/bits.deBruijn64tab", laid_math_bits_deBruijn64tab), ("internal/strconv.uint64pow10", laid_internal_strconv_uint64pow10), ("strconv.ErrRange", laid_strconv_ErrRange), ("strconv.ErrSyntax", laid_strconv_ErrSyntax), ("genlock/mixer.shapes", laid_genlock_mixer_shapes)], narrowed := true }
def MixerChromaUptoSaid : Prop := mixerChromaUptoRow.holds Tryz.pinned (OpenSpec.upto mixerChromaSpec)

/-- 'genlocklaw06.MixerPictures', WHERE WHAT IT READS IS OF BULK AT MOST 1048576: true; the input reads as it did. -/
def mixerPicturesUptoRow : OpenClaim := { program := "ytjkgklhjbopoaaagreatdoor", sum := "ba7d8d98c478ebad9feea9c941031be6e74c30a678a8a4679c869daab8e6fa99", func := "genlock/genlocklaw06.MixerPictures", spec := "mixerPictures", inPlace := ["internal/abi.NoEscape", "internal/bytealg.MakeNoZero", "math.Float64bits", "math.Float64frombits", "math.archFloor", "math.archTrunc"], unfollowed := true, recurses := true, named := ["genlock/mixer.shapes", "strconv.ErrSyntax", "strconv.ErrRange", "internal/strconv.uint64pow10", "math/bits.deBruijn32tab", "math/bits.deBruijn64tab"], apart := false, laid := [("math/bits.deBruijn32tab", laid_math_bits_deBruijn32tab), ("math/bits.deBruijn64tab", laid_math_bits_deBruijn64tab), ("internal/strconv.uint64pow10", laid_internal_strconv_uint64pow10), ("strconv.ErrRange", laid_strconv_ErrRange), ("strconv.ErrSyntax", laid_strconv_ErrSyntax), ("genlock/mixer.shapes", laid_genlock_mixer_shapes)], narrowed := true }
def MixerPicturesUptoSaid : Prop := mixerPicturesUptoRow.holds Tryz.pinned (OpenSpec.upto mixerPicturesSpec)

/-- 'genlocklaw06.MixerCuts', WHERE WHAT IT READS IS OF BULK AT MOST 1048576: true; the input reads as it did. -/
def mixerCutsUptoRow : OpenClaim := { program := "ytjkgklhjbopoaaagreatdoor", sum := "ba7d8d98c478ebad9feea9c941031be6e74c30a678a8a4679c869daab8e6fa99", func := "genlock/genlocklaw06.MixerCuts", spec := "mixerCuts", inPlace := ["math.Float64bits", "math.Float64frombits", "math.archFloor", "math.archTrunc", "internal/abi.NoEscape", "internal/bytealg.MakeNoZero"], unfollowed := true, recurses := true, named := ["genlock/mixer.shapes", "strconv.ErrSyntax", "strconv.ErrRange", "internal/strconv.uint64pow10", "math/bits.deBruijn32tab", "math/bits.deBruijn64tab"], apart := false, laid := [("math/bits.deBruijn32tab", laid_math_bits_deBruijn32tab), ("math/bits.deBruijn64tab", laid_math_bits_deBruijn64tab), ("internal/strconv.uint64pow10", laid_internal_strconv_uint64pow10), ("strconv.ErrRange", laid_strconv_ErrRange), ("strconv.ErrSyntax", laid_strconv_ErrSyntax), ("genlock/mixer.shapes", laid_genlock_mixer_shapes)], narrowed := true }
def MixerCutsUptoSaid : Prop := mixerCutsUptoRow.holds Tryz.pinned (OpenSpec.upto mixerCutsSpec)

/-- 'genlocklaw06.MixerMixes', WHERE WHAT IT READS IS OF BULK AT MOST 1048576: true; the input reads as it did. -/
def mixerMixesUptoRow : OpenClaim := { program := "ytjkgklhjbopoaaagreatdoor", sum := "ba7d8d98c478ebad9feea9c941031be6e74c30a678a8a4679c869daab8e6fa99", func := "genlock/genlocklaw06.MixerMixes", spec := "mixerMixes", inPlace := ["internal/abi.NoEscape", "internal/bytealg.MakeNoZero", "math.Float64bits", "math.Float64frombits", "math.archFloor", "math.archTrunc"], unfollowed := true, recurses := true, named := ["genlock/mixer.shapes", "strconv.ErrSyntax", "strconv.ErrRange", "internal/strconv.uint64pow10", "math/bits.deBruijn32tab", "math/bits.deBruijn64tab"], apart := false, laid := [("math/bits.deBruijn32tab", laid_math_bits_deBruijn32tab), ("math/bits.deBruijn64tab", laid_math_bits_deBruijn64tab), ("internal/strconv.uint64pow10", laid_internal_strconv_uint64pow10), ("strconv.ErrRange", laid_strconv_ErrRange), ("strconv.ErrSyntax", laid_strconv_ErrSyntax), ("genlock/mixer.shapes", laid_genlock_mixer_shapes)], narrowed := true }
def MixerMixesUptoSaid : Prop := mixerMixesUptoRow.holds Tryz.pinned (OpenSpec.upto mixerMixesSpec)

/-- 'genlocklaw06.MixerTiles', WHERE WHAT IT READS IS OF BULK AT MOST 1048576: true; the input reads as it did. -/
def mixerTilesUptoRow : OpenClaim := { program := "ytjkgklhjbopoaaagreatdoor", sum := "ba7d8d98c478ebad9feea9c941031be6e74c30a678a8a4679c869daab8e6fa99", func := "genlock/genlocklaw06.MixerTiles", spec := "mixerTiles", inPlace := ["math.Float64bits", "math.Float64frombits", "math.archFloor", "math.archTrunc", "internal/abi.NoEscape", "internal/bytealg.MakeNoZero"], unfollowed := true, recurses := true, named := ["genlock/mixer.shapes", "strconv.ErrSyntax", "strconv.ErrRange", "internal/strconv.uint64pow10", "math/bits.deBruijn32tab", "math/bits.deBruijn64tab"], apart := false, laid := [("math/bits.deBruijn32tab", laid_math_bits_deBruijn32tab), ("math/bits.deBruijn64tab", laid_math_bits_deBruijn64tab), ("internal/strconv.uint64pow10", laid_internal_strconv_uint64pow10), ("strconv.ErrRange", laid_strconv_ErrRange), ("strconv.ErrSyntax", laid_strconv_ErrSyntax), ("genlock/mixer.shapes", laid_genlock_mixer_shapes)], narrowed := true }
def MixerTilesUptoSaid : Prop := mixerTilesUptoRow.holds Tryz.pinned (OpenSpec.upto mixerTilesSpec)

/-- 'genlocklaw06.MixerKeys', WHERE WHAT IT READS IS OF BULK AT MOST 1048576: true; the input reads as it did. -/
def mixerKeysUptoRow : OpenClaim := { program := "ytjkgklhjbopoaaagreatdoor", sum := "ba7d8d98c478ebad9feea9c941031be6e74c30a678a8a4679c869daab8e6fa99", func := "genlock/genlocklaw06.MixerKeys", spec := "mixerKeys", inPlace := ["internal/abi.NoEscape", "internal/bytealg.MakeNoZero", "math.Float64bits", "math.Float64frombits", "math.archFloor", "math.archTrunc"], unfollowed := true, recurses := true, named := ["genlock/mixer.shapes", "strconv.ErrSyntax", "strconv.ErrRange", "internal/strconv.uint64pow10", "math/bits.deBruijn32tab", "math/bits.deBruijn64tab"], apart := false, laid := [("math/bits.deBruijn32tab", laid_math_bits_deBruijn32tab), ("math/bits.deBruijn64tab", laid_math_bits_deBruijn64tab), ("internal/strconv.uint64pow10", laid_internal_strconv_uint64pow10), ("strconv.ErrRange", laid_strconv_ErrRange), ("strconv.ErrSyntax", laid_strconv_ErrSyntax), ("genlock/mixer.shapes", laid_genlock_mixer_shapes)], narrowed := true }
def MixerKeysUptoSaid : Prop := mixerKeysUptoRow.holds Tryz.pinned (OpenSpec.upto mixerKeysSpec)

/-- 'genlocklaw06.MixerBetween', WHERE WHAT IT READS IS OF BULK AT MOST 1048576: true; the input reads as it did. -/
def mixerBetweenUptoRow : OpenClaim := { program := "ytjkgklhjbopoaaagreatdoor", sum := "ba7d8d98c478ebad9feea9c941031be6e74c30a678a8a4679c869daab8e6fa99", func := "genlock/genlocklaw06.MixerBetween", spec := "mixerBetween", inPlace := ["math.Float64bits", "math.Float64frombits", "math.archFloor", "math.archTrunc", "internal/abi.NoEscape", "internal/bytealg.MakeNoZero"], unfollowed := true, recurses := true, named := ["genlock/mixer.shapes", "strconv.ErrSyntax", "strconv.ErrRange", "internal/strconv.uint64pow10", "math/bits.deBruijn32tab", "math/bits.deBruijn64tab"], apart := false, laid := [("math/bits.deBruijn32tab", laid_math_bits_deBruijn32tab), ("math/bits.deBruijn64tab", laid_math_bits_deBruijn64tab), ("internal/strconv.uint64pow10", laid_internal_strconv_uint64pow10), ("strconv.ErrRange", laid_strconv_ErrRange), ("strconv.ErrSyntax", laid_strconv_ErrSyntax), ("genlock/mixer.shapes", laid_genlock_mixer_shapes)], narrowed := true }
def MixerBetweenUptoSaid : Prop := mixerBetweenUptoRow.holds Tryz.pinned (OpenSpec.upto mixerBetweenSpec)

/-- 'genlocklaw06.MixerTexts', WHERE WHAT IT READS IS OF BULK AT MOST 1048576: true; the input reads as it did. -/
def mixerTextsUptoRow : OpenClaim := { program := "ytjkgklhjbopoaaagreatdoor", sum := "ba7d8d98c478ebad9feea9c941031be6e74c30a678a8a4679c869daab8e6fa99", func := "genlock/genlocklaw06.MixerTexts", spec := "mixerTexts", inPlace := ["internal/abi.NoEscape", "internal/bytealg.MakeNoZero", "internal/bytealg.IndexByteString", "internal/bytealg.CountString", "internal/bytealg.IndexString"], unfollowed := true, recurses := true, named := ["genlock/mixer.shapes", "strconv.ErrSyntax", "strconv.ErrRange", "internal/strconv.uint64pow10", "math/bits.deBruijn32tab", "math/bits.deBruijn64tab", "unicode/utf8.first", "unicode/utf8.acceptRanges", "internal/bytealg.MaxLen"], apart := false, laid := [("math/bits.deBruijn32tab", laid_math_bits_deBruijn32tab), ("math/bits.deBruijn64tab", laid_math_bits_deBruijn64tab), ("internal/strconv.uint64pow10", laid_internal_strconv_uint64pow10), ("unicode/utf8.acceptRanges", laid_unicode_utf8_acceptRanges), ("strconv.ErrRange", laid_strconv_ErrRange), ("strconv.ErrSyntax", laid_strconv_ErrSyntax), ("genlock/mixer.shapes", laid_genlock_mixer_shapes), ("unicode/utf8.first", laid_unicode_utf8_first)], narrowed := true }
def MixerTextsUptoSaid : Prop := mixerTextsUptoRow.holds Tryz.pinned (OpenSpec.upto mixerTextsSpec)

/-- 'genlocklaw06.MixerBack', WHERE WHAT IT READS IS OF BULK AT MOST 1048576: true; the input reads as it did. -/
def mixerBackUptoRow : OpenClaim := { program := "ytjkgklhjbopoaaagreatdoor", sum := "ba7d8d98c478ebad9feea9c941031be6e74c30a678a8a4679c869daab8e6fa99", func := "genlock/genlocklaw06.MixerBack", spec := "mixerBack", inPlace := ["internal/abi.NoEscape", "internal/bytealg.MakeNoZero", "internal/bytealg.IndexByteString", "internal/bytealg.CountString", "internal/bytealg.IndexString"], unfollowed := true, recurses := true, named := ["genlock/mixer.shapes", "strconv.ErrSyntax", "strconv.ErrRange", "internal/strconv.uint64pow10", "math/bits.deBruijn32tab", "math/bits.deBruijn64tab", "unicode/utf8.first", "unicode/utf8.acceptRanges", "internal/bytealg.MaxLen"], apart := false, laid := [("math/bits.deBruijn32tab", laid_math_bits_deBruijn32tab), ("math/bits.deBruijn64tab", laid_math_bits_deBruijn64tab), ("internal/strconv.uint64pow10", laid_internal_strconv_uint64pow10), ("unicode/utf8.acceptRanges", laid_unicode_utf8_acceptRanges), ("strconv.ErrRange", laid_strconv_ErrRange), ("strconv.ErrSyntax", laid_strconv_ErrSyntax), ("genlock/mixer.shapes", laid_genlock_mixer_shapes), ("unicode/utf8.first", laid_unicode_utf8_first)], narrowed := true }
def MixerBackUptoSaid : Prop := mixerBackUptoRow.holds Tryz.pinned (OpenSpec.upto mixerBackSpec)

end Rows
end Go.Proofs.YtjkgklhjbopoaaaGreatDoor
