/-
  NARROWER THAN 'FOR EVERY INPUT', by the rows' own cells (each row's printed sentence says how): TimingCounters: laid · TimingSignals: laid · TimingClocks: laid · TimingPositions: laid · TimingSteps: laid · TimingPlans: laid · TimingWider: laid · TimingFeasible: laid · TimingLoops: laid · TimingTexts: laid · TimingBack: laid.
  DERIVED. THE GIVEN ROWS OF THIS SEAT. 11 by the template 'for every input the law returns true; each argument reads behind the call as it read before'; 0 by the template 'total and deterministic' (their statements: YtmfophoejjcnlaaGreatDoorTotals.lean).
  GIVEN WITH THE SEED: the statements are not yours to turn. If you find one false, say at which input.
  Laid BY PROGRAM, IN A SANDBOX (cutbox-rows.mjs): the forced cells as the released guide's own fill.sh prints them over the translation a9d3201a46ca124a… (all of the seat's roots in one cut). By AI agents, Wed Nov 11 2026. No macro, syntax, notation, axiom, sorry.
-/
import Derived.Test.YtmfophoejjcnlaaGreatDoorChecked
import GoSem.PinnedTables
import GoSem.Claim
import GoSem.ClaimJoined
import GoSem.ClaimMapViews
import Derived.JoinedTies
import Derived.KernelRfl
namespace Go.Proofs.YtmfophoejjcnlaaGreatDoor
/- THE CELL 'sum', in the pinned program and in every row, IS THE sha256 OF THE DUMP (.gsa) THAT YtmfophoejjcnlaaGreatDoorProg.lean LOADS. Nothing in Lean hashes anything: it is a label: what it is worth is what the hold of that sum in a sandbox is worth. -/
noncomputable def Tryz.pinned : Pinned := { name := "ytmfophoejjcnlaagreatdoor", sum := "a9d3201a46ca124af70282017dbc97311257ee1bb2ada23b80a59d647f2ba93e", checked := Tryz.checked }
namespace Rows
def none {H : Type} : Left H := { results := [], args := [] }

/- WHAT THE LISTED PACKAGE-LEVEL VARIABLES READ AS WHEN THE CALL BEGINS. Each datum BY PROGRAM (the guide's laid-datum.mjs) off the statement by which the dump's own 'gosem.cut.vars' lays the variable. In a bare row this is a premise. The card (YtmfophoejjcnlaaGreatDoorCards.lean) ties it to the program's text. -/
def laid_math_bits_deBruijn32tab {H : Type} : DataW H := .agg [.lit (.int .u8 0), .lit (.int .u8 1), .lit (.int .u8 28), .lit (.int .u8 2), .lit (.int .u8 29), .lit (.int .u8 14), .lit (.int .u8 24), .lit (.int .u8 3), .lit (.int .u8 30), .lit (.int .u8 22), .lit (.int .u8 20), .lit (.int .u8 15), .lit (.int .u8 25), .lit (.int .u8 17), .lit (.int .u8 4), .lit (.int .u8 8), .lit (.int .u8 31), .lit (.int .u8 27), .lit (.int .u8 13), .lit (.int .u8 23), .lit (.int .u8 21), .lit (.int .u8 19), .lit (.int .u8 16), .lit (.int .u8 7), .lit (.int .u8 26), .lit (.int .u8 12), .lit (.int .u8 18), .lit (.int .u8 6), .lit (.int .u8 11), .lit (.int .u8 5), .lit (.int .u8 10), .lit (.int .u8 9)]
def laid_math_bits_deBruijn64tab {H : Type} : DataW H := .agg [.lit (.int .u8 0), .lit (.int .u8 1), .lit (.int .u8 56), .lit (.int .u8 2), .lit (.int .u8 57), .lit (.int .u8 49), .lit (.int .u8 28), .lit (.int .u8 3), .lit (.int .u8 61), .lit (.int .u8 58), .lit (.int .u8 42), .lit (.int .u8 50), .lit (.int .u8 38), .lit (.int .u8 29), .lit (.int .u8 17), .lit (.int .u8 4), .lit (.int .u8 62), .lit (.int .u8 47), .lit (.int .u8 59), .lit (.int .u8 36), .lit (.int .u8 45), .lit (.int .u8 43), .lit (.int .u8 51), .lit (.int .u8 22), .lit (.int .u8 53), .lit (.int .u8 39), .lit (.int .u8 33), .lit (.int .u8 30), .lit (.int .u8 24), .lit (.int .u8 18), .lit (.int .u8 12), .lit (.int .u8 5), .lit (.int .u8 63), .lit (.int .u8 55), .lit (.int .u8 48), .lit (.int .u8 27), .lit (.int .u8 60), .lit (.int .u8 41), .lit (.int .u8 37), .lit (.int .u8 16), .lit (.int .u8 46), .lit (.int .u8 35), .lit (.int .u8 44), .lit (.int .u8 21), .lit (.int .u8 52), .lit (.int .u8 32), .lit (.int .u8 23), .lit (.int .u8 11), .lit (.int .u8 54), .lit (.int .u8 26), .lit (.int .u8 40), .lit (.int .u8 15), .lit (.int .u8 34), .lit (.int .u8 20), .lit (.int .u8 31), .lit (.int .u8 10), .lit (.int .u8 25), .lit (.int .u8 14), .lit (.int .u8 19), .lit (.int .u8 9), .lit (.int .u8 13), .lit (.int .u8 8), .lit (.int .u8 7), .lit (.int .u8 6)]
def laid_internal_strconv_uint64pow10 {H : Type} : DataW H := .agg [.lit (.int .u64 1), .lit (.int .u64 10), .lit (.int .u64 100), .lit (.int .u64 1000), .lit (.int .u64 10000), .lit (.int .u64 100000), .lit (.int .u64 1000000), .lit (.int .u64 10000000), .lit (.int .u64 100000000), .lit (.int .u64 1000000000), .lit (.int .u64 10000000000), .lit (.int .u64 100000000000), .lit (.int .u64 1000000000000), .lit (.int .u64 10000000000000), .lit (.int .u64 100000000000000), .lit (.int .u64 1000000000000000), .lit (.int .u64 10000000000000000), .lit (.int .u64 100000000000000000), .lit (.int .u64 1000000000000000000), .lit (.int .u64 10000000000000000000)]
def laid_genlock_timing_extra {H : Type} : DataW H := .agg [.lit (.int .i64 1), .lit (.int .i64 0)]
def laid_unicode_utf8_acceptRanges {H : Type} : DataW H := .agg [.agg [.lit (.int .u8 128), .lit (.int .u8 191)], .agg [.lit (.int .u8 160), .lit (.int .u8 191)], .agg [.lit (.int .u8 128), .lit (.int .u8 159)], .agg [.lit (.int .u8 144), .lit (.int .u8 191)], .agg [.lit (.int .u8 128), .lit (.int .u8 143)], .agg [.lit (.int .u8 0), .lit (.int .u8 0)], .agg [.lit (.int .u8 0), .lit (.int .u8 0)], .agg [.lit (.int .u8 0), .lit (.int .u8 0)], .agg [.lit (.int .u8 0), .lit (.int .u8 0)], .agg [.lit (.int .u8 0), .lit (.int .u8 0)], .agg [.lit (.int .u8 0), .lit (.int .u8 0)], .agg [.lit (.int .u8 0), .lit (.int .u8 0)], .agg [.lit (.int .u8 0), .lit (.int .u8 0)], .agg [.lit (.int .u8 0), .lit (.int .u8 0)], .agg [.lit (.int .u8 0), .lit (.int .u8 0)], .agg [.lit (.int .u8 0), .lit (.int .u8 0)]]
/-- One of Go's own tables, pinned by name: the form's constant. -/
def laid_unicode_utf8_first : DataW Unit := Go.Pinned.utf8First

/-- 'genlocklaw04.TimingCounters': WHATEVER THE INPUT: true; the input reads as it did. -/
def timingCountersSpec : ChangeSpec := { name := "timingCounters", fn := fun _ => fun
  | [d1, d2, d3] => { results := [.lit (.bool true)], args := [d1, d2, d3] }
  | _ => none }
def timingCountersRow : OpenClaim := { program := "ytmfophoejjcnlaagreatdoor", sum := "a9d3201a46ca124af70282017dbc97311257ee1bb2ada23b80a59d647f2ba93e", func := "genlock/genlocklaw04.TimingCounters", spec := "timingCounters", inPlace := ["internal/abi.NoEscape", "internal/bytealg.MakeNoZero"], unfollowed := true, recurses := true, named := ["genlock/timing.extra", "internal/strconv.uint64pow10", "math/bits.deBruijn32tab", "math/bits.deBruijn64tab"], apart := false, laid := [("math/bits.deBruijn32tab", laid_math_bits_deBruijn32tab), ("math/bits.deBruijn64tab", laid_math_bits_deBruijn64tab), ("internal/strconv.uint64pow10", laid_internal_strconv_uint64pow10), ("genlock/timing.extra", laid_genlock_timing_extra)] }
def TimingCountersSaid : Prop := timingCountersRow.holds Tryz.pinned (OpenSpec.ofChange timingCountersSpec)

/-- ITS FALSE NEIGHBOUR: 'it returns false'. Refute it at one input. -/
def timingCountersWrong : ChangeSpec := { name := "timingCounters", fn := fun _ => fun
  | [d1, d2, d3] => { results := [.lit (.bool false)], args := [d1, d2, d3] }
  | _ => none }
def TimingCountersWrongFalsely : Prop := timingCountersRow.holds Tryz.pinned (OpenSpec.ofChange timingCountersWrong)

/-- 'genlocklaw04.TimingSignals': WHATEVER THE INPUT: true; the input reads as it did. -/
def timingSignalsSpec : ChangeSpec := { name := "timingSignals", fn := fun _ => fun
  | [d1, d2, d3] => { results := [.lit (.bool true)], args := [d1, d2, d3] }
  | _ => none }
def timingSignalsRow : OpenClaim := { program := "ytmfophoejjcnlaagreatdoor", sum := "a9d3201a46ca124af70282017dbc97311257ee1bb2ada23b80a59d647f2ba93e", func := "genlock/genlocklaw04.TimingSignals", spec := "timingSignals", inPlace := ["internal/abi.NoEscape", "internal/bytealg.MakeNoZero"], unfollowed := true, recurses := true, named := ["genlock/timing.extra", "internal/strconv.uint64pow10", "math/bits.deBruijn32tab", "math/bits.deBruijn64tab"], apart := false, laid := [("math/bits.deBruijn32tab", laid_math_bits_deBruijn32tab), ("math/bits.deBruijn64tab", laid_math_bits_deBruijn64tab), ("internal/strconv.uint64pow10", laid_internal_strconv_uint64pow10), ("genlock/timing.extra", laid_genlock_timing_extra)] }
def TimingSignalsSaid : Prop := timingSignalsRow.holds Tryz.pinned (OpenSpec.ofChange timingSignalsSpec)

/-- ITS FALSE NEIGHBOUR: 'it returns false'. Refute it at one input. -/
def timingSignalsWrong : ChangeSpec := { name := "timingSignals", fn := fun _ => fun
  | [d1, d2, d3] => { results := [.lit (.bool false)], args := [d1, d2, d3] }
  | _ => none }
def TimingSignalsWrongFalsely : Prop := timingSignalsRow.holds Tryz.pinned (OpenSpec.ofChange timingSignalsWrong)

/-- 'genlocklaw04.TimingClocks': WHATEVER THE INPUT: true; the input reads as it did. -/
def timingClocksSpec : ChangeSpec := { name := "timingClocks", fn := fun _ => fun
  | [d1, d2, d3] => { results := [.lit (.bool true)], args := [d1, d2, d3] }
  | _ => none }
def timingClocksRow : OpenClaim := { program := "ytmfophoejjcnlaagreatdoor", sum := "a9d3201a46ca124af70282017dbc97311257ee1bb2ada23b80a59d647f2ba93e", func := "genlock/genlocklaw04.TimingClocks", spec := "timingClocks", inPlace := ["internal/abi.NoEscape", "internal/bytealg.MakeNoZero"], unfollowed := true, recurses := true, named := ["genlock/timing.extra", "internal/strconv.uint64pow10", "math/bits.deBruijn32tab", "math/bits.deBruijn64tab"], apart := false, laid := [("math/bits.deBruijn32tab", laid_math_bits_deBruijn32tab), ("math/bits.deBruijn64tab", laid_math_bits_deBruijn64tab), ("internal/strconv.uint64pow10", laid_internal_strconv_uint64pow10), ("genlock/timing.extra", laid_genlock_timing_extra)] }
def TimingClocksSaid : Prop := timingClocksRow.holds Tryz.pinned (OpenSpec.ofChange timingClocksSpec)

/-- ITS FALSE NEIGHBOUR: 'it returns false'. Refute it at one input. -/
def timingClocksWrong : ChangeSpec := { name := "timingClocks", fn := fun _ => fun
  | [d1, d2, d3] => { results := [.lit (.bool false)], args := [d1, d2, d3] }
  | _ => none }
def TimingClocksWrongFalsely : Prop := timingClocksRow.holds Tryz.pinned (OpenSpec.ofChange timingClocksWrong)

/-- 'genlocklaw04.TimingPositions': WHATEVER THE INPUT: true; the input reads as it did. -/
def timingPositionsSpec : ChangeSpec := { name := "timingPositions", fn := fun _ => fun
  | [d1, d2] => { results := [.lit (.bool true)], args := [d1, d2] }
  | _ => none }
def timingPositionsRow : OpenClaim := { program := "ytmfophoejjcnlaagreatdoor", sum := "a9d3201a46ca124af70282017dbc97311257ee1bb2ada23b80a59d647f2ba93e", func := "genlock/genlocklaw04.TimingPositions", spec := "timingPositions", inPlace := ["internal/abi.NoEscape", "internal/bytealg.MakeNoZero"], unfollowed := true, recurses := true, named := ["genlock/timing.extra", "internal/strconv.uint64pow10", "math/bits.deBruijn32tab", "math/bits.deBruijn64tab"], apart := false, laid := [("math/bits.deBruijn32tab", laid_math_bits_deBruijn32tab), ("math/bits.deBruijn64tab", laid_math_bits_deBruijn64tab), ("internal/strconv.uint64pow10", laid_internal_strconv_uint64pow10), ("genlock/timing.extra", laid_genlock_timing_extra)] }
def TimingPositionsSaid : Prop := timingPositionsRow.holds Tryz.pinned (OpenSpec.ofChange timingPositionsSpec)

/-- ITS FALSE NEIGHBOUR: 'it returns false'. Refute it at one input. -/
def timingPositionsWrong : ChangeSpec := { name := "timingPositions", fn := fun _ => fun
  | [d1, d2] => { results := [.lit (.bool false)], args := [d1, d2] }
  | _ => none }
def TimingPositionsWrongFalsely : Prop := timingPositionsRow.holds Tryz.pinned (OpenSpec.ofChange timingPositionsWrong)

/-- 'genlocklaw04.TimingSteps': WHATEVER THE INPUT: true; the input reads as it did. -/
def timingStepsSpec : ChangeSpec := { name := "timingSteps", fn := fun _ => fun
  | [d1, d2, d3] => { results := [.lit (.bool true)], args := [d1, d2, d3] }
  | _ => none }
def timingStepsRow : OpenClaim := { program := "ytmfophoejjcnlaagreatdoor", sum := "a9d3201a46ca124af70282017dbc97311257ee1bb2ada23b80a59d647f2ba93e", func := "genlock/genlocklaw04.TimingSteps", spec := "timingSteps", inPlace := ["internal/abi.NoEscape", "internal/bytealg.MakeNoZero"], unfollowed := true, recurses := true, named := ["genlock/timing.extra", "internal/strconv.uint64pow10", "math/bits.deBruijn32tab", "math/bits.deBruijn64tab"], apart := false, laid := [("math/bits.deBruijn32tab", laid_math_bits_deBruijn32tab), ("math/bits.deBruijn64tab", laid_math_bits_deBruijn64tab), ("internal/strconv.uint64pow10", laid_internal_strconv_uint64pow10), ("genlock/timing.extra", laid_genlock_timing_extra)] }
def TimingStepsSaid : Prop := timingStepsRow.holds Tryz.pinned (OpenSpec.ofChange timingStepsSpec)

/-- ITS FALSE NEIGHBOUR: 'it returns false'. Refute it at one input. -/
def timingStepsWrong : ChangeSpec := { name := "timingSteps", fn := fun _ => fun
  | [d1, d2, d3] => { results := [.lit (.bool false)], args := [d1, d2, d3] }
  | _ => none }
def TimingStepsWrongFalsely : Prop := timingStepsRow.holds Tryz.pinned (OpenSpec.ofChange timingStepsWrong)

/-- 'genlocklaw04.TimingPlans': WHATEVER THE INPUT: true; the input reads as it did. -/
def timingPlansSpec : ChangeSpec := { name := "timingPlans", fn := fun _ => fun
  | [d1, d2, d3] => { results := [.lit (.bool true)], args := [d1, d2, d3] }
  | _ => none }
def timingPlansRow : OpenClaim := { program := "ytmfophoejjcnlaagreatdoor", sum := "a9d3201a46ca124af70282017dbc97311257ee1bb2ada23b80a59d647f2ba93e", func := "genlock/genlocklaw04.TimingPlans", spec := "timingPlans", inPlace := ["internal/abi.NoEscape", "internal/bytealg.MakeNoZero"], unfollowed := true, recurses := true, named := ["genlock/timing.extra", "internal/strconv.uint64pow10", "math/bits.deBruijn32tab", "math/bits.deBruijn64tab"], apart := false, laid := [("math/bits.deBruijn32tab", laid_math_bits_deBruijn32tab), ("math/bits.deBruijn64tab", laid_math_bits_deBruijn64tab), ("internal/strconv.uint64pow10", laid_internal_strconv_uint64pow10), ("genlock/timing.extra", laid_genlock_timing_extra)] }
def TimingPlansSaid : Prop := timingPlansRow.holds Tryz.pinned (OpenSpec.ofChange timingPlansSpec)

/-- ITS FALSE NEIGHBOUR: 'it returns false'. Refute it at one input. -/
def timingPlansWrong : ChangeSpec := { name := "timingPlans", fn := fun _ => fun
  | [d1, d2, d3] => { results := [.lit (.bool false)], args := [d1, d2, d3] }
  | _ => none }
def TimingPlansWrongFalsely : Prop := timingPlansRow.holds Tryz.pinned (OpenSpec.ofChange timingPlansWrong)

/-- 'genlocklaw04.TimingWider': WHATEVER THE INPUT: true; the input reads as it did. -/
def timingWiderSpec : ChangeSpec := { name := "timingWider", fn := fun _ => fun
  | [d1, d2, d3] => { results := [.lit (.bool true)], args := [d1, d2, d3] }
  | _ => none }
def timingWiderRow : OpenClaim := { program := "ytmfophoejjcnlaagreatdoor", sum := "a9d3201a46ca124af70282017dbc97311257ee1bb2ada23b80a59d647f2ba93e", func := "genlock/genlocklaw04.TimingWider", spec := "timingWider", inPlace := ["internal/abi.NoEscape", "internal/bytealg.MakeNoZero"], unfollowed := true, recurses := true, named := ["genlock/timing.extra", "internal/strconv.uint64pow10", "math/bits.deBruijn32tab", "math/bits.deBruijn64tab"], apart := false, laid := [("math/bits.deBruijn32tab", laid_math_bits_deBruijn32tab), ("math/bits.deBruijn64tab", laid_math_bits_deBruijn64tab), ("internal/strconv.uint64pow10", laid_internal_strconv_uint64pow10), ("genlock/timing.extra", laid_genlock_timing_extra)] }
def TimingWiderSaid : Prop := timingWiderRow.holds Tryz.pinned (OpenSpec.ofChange timingWiderSpec)

/-- ITS FALSE NEIGHBOUR: 'it returns false'. Refute it at one input. -/
def timingWiderWrong : ChangeSpec := { name := "timingWider", fn := fun _ => fun
  | [d1, d2, d3] => { results := [.lit (.bool false)], args := [d1, d2, d3] }
  | _ => none }
def TimingWiderWrongFalsely : Prop := timingWiderRow.holds Tryz.pinned (OpenSpec.ofChange timingWiderWrong)

/-- 'genlocklaw04.TimingFeasible': WHATEVER THE INPUT: true; the input reads as it did. -/
def timingFeasibleSpec : ChangeSpec := { name := "timingFeasible", fn := fun _ => fun
  | [d1, d2, d3] => { results := [.lit (.bool true)], args := [d1, d2, d3] }
  | _ => none }
def timingFeasibleRow : OpenClaim := { program := "ytmfophoejjcnlaagreatdoor", sum := "a9d3201a46ca124af70282017dbc97311257ee1bb2ada23b80a59d647f2ba93e", func := "genlock/genlocklaw04.TimingFeasible", spec := "timingFeasible", inPlace := ["internal/abi.NoEscape", "internal/bytealg.MakeNoZero"], unfollowed := true, recurses := true, named := ["genlock/timing.extra", "internal/strconv.uint64pow10", "math/bits.deBruijn32tab", "math/bits.deBruijn64tab"], apart := false, laid := [("math/bits.deBruijn32tab", laid_math_bits_deBruijn32tab), ("math/bits.deBruijn64tab", laid_math_bits_deBruijn64tab), ("internal/strconv.uint64pow10", laid_internal_strconv_uint64pow10), ("genlock/timing.extra", laid_genlock_timing_extra)] }
def TimingFeasibleSaid : Prop := timingFeasibleRow.holds Tryz.pinned (OpenSpec.ofChange timingFeasibleSpec)

/-- ITS FALSE NEIGHBOUR: 'it returns false'. Refute it at one input. -/
def timingFeasibleWrong : ChangeSpec := { name := "timingFeasible", fn := fun _ => fun
  | [d1, d2, d3] => { results := [.lit (.bool false)], args := [d1, d2, d3] }
  | _ => none }
def TimingFeasibleWrongFalsely : Prop := timingFeasibleRow.holds Tryz.pinned (OpenSpec.ofChange timingFeasibleWrong)

/-- 'genlocklaw04.TimingLoops': WHATEVER THE INPUT: true; the input reads as it did. -/
def timingLoopsSpec : ChangeSpec := { name := "timingLoops", fn := fun _ => fun
  | [d1, d2] => { results := [.lit (.bool true)], args := [d1, d2] }
  | _ => none }
def timingLoopsRow : OpenClaim := { program := "ytmfophoejjcnlaagreatdoor", sum := "a9d3201a46ca124af70282017dbc97311257ee1bb2ada23b80a59d647f2ba93e", func := "genlock/genlocklaw04.TimingLoops", spec := "timingLoops", inPlace := ["internal/abi.NoEscape", "internal/bytealg.MakeNoZero"], unfollowed := true, recurses := true, named := ["genlock/timing.extra", "internal/strconv.uint64pow10", "math/bits.deBruijn32tab", "math/bits.deBruijn64tab"], apart := false, laid := [("math/bits.deBruijn32tab", laid_math_bits_deBruijn32tab), ("math/bits.deBruijn64tab", laid_math_bits_deBruijn64tab), ("internal/strconv.uint64pow10", laid_internal_strconv_uint64pow10), ("genlock/timing.extra", laid_genlock_timing_extra)] }
def TimingLoopsSaid : Prop := timingLoopsRow.holds Tryz.pinned (OpenSpec.ofChange timingLoopsSpec)

/-- ITS FALSE NEIGHBOUR: 'it returns false'. Refute it at one input. -/
def timingLoopsWrong : ChangeSpec := { name := "timingLoops", fn := fun _ => fun
  | [d1, d2] => { results := [.lit (.bool false)], args := [d1, d2] }
  | _ => none }
def TimingLoopsWrongFalsely : Prop := timingLoopsRow.holds Tryz.pinned (OpenSpec.ofChange timingLoopsWrong)

/-- 'genlocklaw04.TimingTexts': WHATEVER THE INPUT: true; the input reads as it did. -/
def timingTextsSpec : ChangeSpec := { name := "timingTexts", fn := fun _ => fun
  | [d1, d2] => { results := [.lit (.bool true)], args := [d1, d2] }
  | _ => none }
def timingTextsRow : OpenClaim := { program := "ytmfophoejjcnlaagreatdoor", sum := "a9d3201a46ca124af70282017dbc97311257ee1bb2ada23b80a59d647f2ba93e", func := "genlock/genlocklaw04.TimingTexts", spec := "timingTexts", inPlace := ["internal/abi.NoEscape", "internal/bytealg.MakeNoZero", "internal/bytealg.IndexByteString", "internal/bytealg.CountString", "internal/bytealg.IndexString"], unfollowed := true, recurses := true, named := ["genlock/timing.extra", "internal/strconv.uint64pow10", "math/bits.deBruijn32tab", "math/bits.deBruijn64tab", "unicode/utf8.first", "unicode/utf8.acceptRanges", "internal/bytealg.MaxLen"], apart := false, laid := [("math/bits.deBruijn32tab", laid_math_bits_deBruijn32tab), ("math/bits.deBruijn64tab", laid_math_bits_deBruijn64tab), ("internal/strconv.uint64pow10", laid_internal_strconv_uint64pow10), ("unicode/utf8.acceptRanges", laid_unicode_utf8_acceptRanges), ("genlock/timing.extra", laid_genlock_timing_extra), ("unicode/utf8.first", laid_unicode_utf8_first)] }
def TimingTextsSaid : Prop := timingTextsRow.holds Tryz.pinned (OpenSpec.ofChange timingTextsSpec)

/-- ITS FALSE NEIGHBOUR: 'it returns false'. Refute it at one input. -/
def timingTextsWrong : ChangeSpec := { name := "timingTexts", fn := fun _ => fun
  | [d1, d2] => { results := [.lit (.bool false)], args := [d1, d2] }
  | _ => none }
def TimingTextsWrongFalsely : Prop := timingTextsRow.holds Tryz.pinned (OpenSpec.ofChange timingTextsWrong)

/-- 'genlocklaw04.TimingBack': WHATEVER THE INPUT: true; the input reads as it did. -/
def timingBackSpec : ChangeSpec := { name := "timingBack", fn := fun _ => fun
  | [d1, d2] => { results := [.lit (.bool true)], args := [d1, d2] }
  | _ => none }
def timingBackRow : OpenClaim := { program := "ytmfophoejjcnlaagreatdoor", sum := "a9d3201a46ca124af70282017dbc97311257ee1bb2ada23b80a59d647f2ba93e", func := "genlock/genlocklaw04.TimingBack", spec := "timingBack", inPlace := ["internal/abi.NoEscape", "internal/bytealg.MakeNoZero", "internal/bytealg.IndexByteString", "internal/bytealg.CountString", "internal/bytealg.IndexString"], unfollowed := true, recurses := true, named := ["genlock/timing.extra", "internal/strconv.uint64pow10", "math/bits.deBruijn32tab", "math/bits.deBruijn64tab", "unicode/utf8.first", "unicode/utf8.acceptRanges", "internal/bytealg.MaxLen"], apart := false, laid := [("math/bits.deBruijn32tab", laid_math_bits_deBruijn32tab), ("math/bits.deBruijn64tab", laid_math_bits_deBruijn64tab), ("internal/strconv.uint64pow10", laid_internal_strconv_uint64pow10), ("unicode/utf8.acceptRanges", laid_unicode_utf8_acceptRanges), ("genlock/timing.extra", laid_genlock_timing_extra), ("unicode/utf8.first", laid_unicode_utf8_first)] }
def TimingBackSaid : Prop := timingBackRow.holds Tryz.pinned (OpenSpec.ofChange timingBackSpec)

/-- ITS FALSE NEIGHBOUR: 'it returns false'. Refute it at one input. -/
def timingBackWrong : ChangeSpec := { name := "timingBack", fn := fun _ => fun
  | [d1, d2] => { results := [.lit (.bool false)], args := [d1, d2] }
  | _ => none }
def TimingBackWrongFalsely : Prop := timingBackRow.holds Tryz.pinned (OpenSpec.ofChange timingBackWrong)

/- THE SECOND FORM. 'bulk': how many values and letters a reading holds, each counted each time it is reached (what is shared counts as often as it is met; a slice's spare places count too). A statement '..UptoSaid' is the law's where the arguments, and the package variables that the reading takes, are together of bulk at most 1048576: NARROWER than '..Said'. Prove '..Said' where nothing that the law and all that it calls make is longer than what came in: it says more and counts as full. Else prove '..UptoSaid'. A law counts once. -/
mutual
def uptoBulk {H : Type} : DataW H → Nat
  | .lit (.string bytes) => bytes.length + 1
  | .lit _ => 1
  | .nil => 1
  | .ptr d => uptoBulk d + 1
  | .slice elems spare => uptoBulkAll elems + uptoBulkAll spare + 1
  | .agg parts => uptoBulkAll parts + 1
  | .iface _ d => uptoBulk d + 1
  | .map entries => uptoBulkEntries entries + 1
  | .held _ => 1
def uptoBulkAll {H : Type} : List (DataW H) → Nat
  | [] => 0
  | d :: r => uptoBulk d + uptoBulkAll r
def uptoBulkEntries {H : Type} : List (Lit × DataW H) → Nat
  | [] => 0
  | x :: r => uptoBulkEntry x + uptoBulkEntries r
def uptoBulkEntry {H : Type} : Lit × DataW H → Nat
  | (.string bytes, d) => bytes.length + uptoBulk d + 1
  | (_, d) => uptoBulk d + 1
 end
def uptoSmall : (H : Type) → List (DataW H) → Bool := fun _ ds => decide (uptoBulkAll ds ≤ 1048576)
def OpenSpec.upto (s : _root_.Go.ChangeSpec) : _root_.Go.OpenSpec := { _root_.Go.OpenSpec.ofChange s with cond := some uptoSmall }

/-- 'genlocklaw04.TimingCounters', WHERE WHAT IT READS IS OF BULK AT MOST 1048576: true; the input reads as it did. -/
def timingCountersUptoRow : OpenClaim := { program := "ytmfophoejjcnlaagreatdoor", sum := "a9d3201a46ca124af70282017dbc97311257ee1bb2ada23b80a59d647f2ba93e", func := "genlock/genlocklaw04.TimingCounters", spec := "timingCounters", inPlace := ["internal/abi.NoEscape", "internal/bytealg.MakeNoZero"], unfollowed := true, recurses := true, named := ["genlock/timing.extra", "internal/strconv.uint64pow10", "math/bits.deBruijn32tab", "math/bits.deBruijn64tab"], apart := false, laid := [("math/bits.deBruijn32tab", laid_math_bits_deBruijn32tab), ("math/bits.deBruijn64tab", laid_math_bits_deBruijn64tab), ("internal/strconv.uint64pow10", laid_internal_strconv_uint64pow10), ("genlock/timing.extra", laid_genlock_timing_extra)], narrowed := true }
def TimingCountersUptoSaid : Prop := timingCountersUptoRow.holds Tryz.pinned (OpenSpec.upto timingCountersSpec)

/-- 'genlocklaw04.TimingSignals', WHERE WHAT IT READS IS OF BULK AT MOST 1048576: true; the input reads as it did. -/
def timingSignalsUptoRow : OpenClaim := { program := "ytmfophoejjcnlaagreatdoor", sum := "a9d3201a46ca124af70282017dbc97311257ee1bb2ada23b80a59d647f2ba93e", func := "genlock/genlocklaw04.TimingSignals", spec := "timingSignals", inPlace := ["internal/abi.NoEscape", "internal/bytealg.MakeNoZero"], unfollowed := true, recurses := true, named := ["genlock/timing.extra", "internal/strconv.uint64pow10", "math/bits.deBruijn32tab", "math/bits.deBruijn64tab"], apart := false, laid := [("math/bits.deBruijn32tab", laid_math_bits_deBruijn32tab), ("math/bits.deBruijn64tab", laid_math_bits_deBruijn64tab), ("internal/strconv.uint64pow10", laid_internal_strconv_uint64pow10), ("genlock/timing.extra", laid_genlock_timing_extra)], narrowed := true }
def TimingSignalsUptoSaid : Prop := timingSignalsUptoRow.holds Tryz.pinned (OpenSpec.upto timingSignalsSpec)

/-- 'genlocklaw04.TimingClocks', WHERE WHAT IT READS IS OF BULK AT MOST 1048576: true; the input reads as it did. -/
def timingClocksUptoRow : OpenClaim := { program := "ytmfophoejjcnlaagreatdoor", sum := "a9d3201a46ca124af70282017dbc97311257ee1bb2ada23b80a59d647f2ba93e", func := "genlock/genlocklaw04.TimingClocks", spec := "timingClocks", inPlace := ["internal/abi.NoEscape", "internal/bytealg.MakeNoZero"], unfollowed := true, recurses := true, named := ["genlock/timing.extra", "internal/strconv.uint64pow10", "math/bits.deBruijn32tab", "math/bits.deBruijn64tab"], apart := false, laid := [("math/bits.deBruijn32tab", laid_math_bits_deBruijn32tab), ("math/bits.deBruijn64tab", laid_math_bits_deBruijn64tab), ("internal/strconv.uint64pow10", laid_internal_strconv_uint64pow10), ("genlock/timing.extra", laid_genlock_timing_extra)], narrowed := true }
def TimingClocksUptoSaid : Prop := timingClocksUptoRow.holds Tryz.pinned (OpenSpec.upto timingClocksSpec)

/-- 'genlocklaw04.TimingPositions', WHERE WHAT IT READS IS OF BULK AT MOST 1048576: true; the input reads as it did. -/
def timingPositionsUptoRow : OpenClaim := { program := "ytmfophoejjcnlaagreatdoor", sum := "a9d3201a46ca124af70282017dbc97311257ee1bb2ada23b80a59d647f2ba93e", func := "genlock/genlocklaw04.TimingPositions", spec := "timingPositions", inPlace := ["internal/abi.NoEscape", "internal/bytealg.MakeNoZero"], unfollowed := true, recurses := true, named := ["genlock/timing.extra", "internal/strconv.uint64pow10", "math/bits.deBruijn32tab", "math/bits.deBruijn64tab"], apart := false, laid := [("math/bits.deBruijn32tab", laid_math_bits_deBruijn32tab), ("math/bits.deBruijn64tab", laid_math_bits_deBruijn64tab), ("internal/strconv.uint64pow10", laid_internal_strconv_uint64pow10), ("genlock/timing.extra", laid_genlock_timing_extra)], narrowed := true }
def TimingPositionsUptoSaid : Prop := timingPositionsUptoRow.holds Tryz.pinned (OpenSpec.upto timingPositionsSpec)

/-- 'genlocklaw04.TimingSteps', WHERE WHAT IT READS IS OF BULK AT MOST 1048576: true; the input reads as it did. -/
def timingStepsUptoRow : OpenClaim := { program := "ytmfophoejjcnlaagreatdoor", sum := "a9d3201a46ca124af70282017dbc97311257ee1bb2ada23b80a59d647f2ba93e", func := "genlock/genlocklaw04.TimingSteps", spec := "timingSteps", inPlace := ["internal/abi.NoEscape", "internal/bytealg.MakeNoZero"], unfollowed := true, recurses := true, named := ["genlock/timing.extra", "internal/strconv.uint64pow10", "math/bits.deBruijn32tab", "math/bits.deBruijn64tab"], apart := false, laid := [("math/bits.deBruijn32tab", laid_math_bits_deBruijn32tab), ("math/bits.deBruijn64tab", laid_math_bits_deBruijn64tab), ("internal/strconv.uint64pow10", laid_internal_strconv_uint64pow10), ("genlock/timing.extra", laid_genlock_timing_extra)], narrowed := true }
def TimingStepsUptoSaid : Prop := timingStepsUptoRow.holds Tryz.pinned (OpenSpec.upto timingStepsSpec)

/-- 'genlocklaw04.TimingPlans', WHERE WHAT IT READS IS OF BULK AT MOST 1048576: true; the input reads as it did. -/
def timingPlansUptoRow : OpenClaim := { program := "ytmfophoejjcnlaagreatdoor", sum := "a9d3201a46ca124af70282017dbc97311257ee1bb2ada23b80a59d647f2ba93e", func := "genlock/genlocklaw04.TimingPlans", spec := "timingPlans", inPlace := ["internal/abi.NoEscape", "internal/bytealg.MakeNoZero"], unfollowed := true, recurses := true, named := ["genlock/timing.extra", "internal/strconv.uint64pow10", "math/bits.deBruijn32tab", "math/bits.deBruijn64tab"], apart := false, laid := [("math/bits.deBruijn32tab", laid_math_bits_deBruijn32tab), ("math/bits.deBruijn64tab", laid_math_bits_deBruijn64tab), ("internal/strconv.uint64pow10", laid_internal_strconv_uint64pow10), ("genlock/timing.extra", laid_genlock_timing_extra)], narrowed := true }
def TimingPlansUptoSaid : Prop := timingPlansUptoRow.holds Tryz.pinned (OpenSpec.upto timingPlansSpec)

/-- 'genlocklaw04.TimingWider', WHERE WHAT IT READS IS OF BULK AT MOST 1048576: true; the input reads as it did. -/
def timingWiderUptoRow : OpenClaim := { program := "ytmfophoejjcnlaagreatdoor", sum := "a9d3201a46ca124af70282017dbc97311257ee1bb2ada23b80a59d647f2ba93e", func := "genlock/genlocklaw04.TimingWider", spec := "timingWider", inPlace := ["internal/abi.NoEscape", "internal/bytealg.MakeNoZero"], unfollowed := true, recurses := true, named := ["genlock/timing.extra", "internal/strconv.uint64pow10", "math/bits.deBruijn32tab", "math/bits.deBruijn64tab"], apart := false, laid := [("math/bits.deBruijn32tab", laid_math_bits_deBruijn32tab), ("math/bits.deBruijn64tab", laid_math_bits_deBruijn64tab), ("internal/strconv.uint64pow10", laid_internal_strconv_uint64pow10), ("genlock/timing.extra", laid_genlock_timing_extra)], narrowed := true }
def TimingWiderUptoSaid : Prop := timingWiderUptoRow.holds Tryz.pinned (OpenSpec.upto timingWiderSpec)

/-- 'genlocklaw04.TimingFeasible', WHERE WHAT IT READS IS OF BULK AT MOST 1048576: true; the input reads as it did. -/
def timingFeasibleUptoRow : OpenClaim := { program := "ytmfophoejjcnlaagreatdoor", sum := "a9d3201a46ca124af70282017dbc97311257ee1bb2ada23b80a59d647f2ba93e", func := "genlock/genlocklaw04.TimingFeasible", spec := "timingFeasible", inPlace := ["internal/abi.NoEscape", "internal/bytealg.MakeNoZero"], unfollowed := true, recurses := true, named := ["genlock/timing.extra", "internal/strconv.uint64pow10", "math/bits.deBruijn32tab", "math/bits.deBruijn64tab"], apart := false, laid := [("math/bits.deBruijn32tab", laid_math_bits_deBruijn32tab), ("math/bits.deBruijn64tab", laid_math_bits_deBruijn64tab), ("internal/strconv.uint64pow10", laid_internal_strconv_uint64pow10), ("genlock/timing.extra", laid_genlock_timing_extra)], narrowed := true }
def TimingFeasibleUptoSaid : Prop := timingFeasibleUptoRow.holds Tryz.pinned (OpenSpec.upto timingFeasibleSpec)

/-- 'genlocklaw04.TimingLoops', WHERE WHAT IT READS IS OF BULK AT MOST 1048576: true; the input reads as it did. -/
def timingLoopsUptoRow : OpenClaim := { program := "ytmfophoejjcnlaagreatdoor", sum := "a9d3201a46ca124af70282017dbc97311257ee1bb2ada23b80a59d647f2ba93e", func := "genlock/genlocklaw04.TimingLoops", spec := "timingLoops", inPlace := ["internal/abi.NoEscape", "internal/bytealg.MakeNoZero"], unfollowed := true, recurses := true, named := ["genlock/timing.extra", "internal/strconv.uint64pow10", "math/bits.deBruijn32tab", "math/bits.deBruijn64tab"], apart := false, laid := [("math/bits.deBruijn32tab", laid_math_bits_deBruijn32tab), ("math/bits.deBruijn64tab", laid_math_bits_deBruijn64tab), ("internal/strconv.uint64pow10", laid_internal_strconv_uint64pow10), ("genlock/timing.extra", laid_genlock_timing_extra)], narrowed := true }
def TimingLoopsUptoSaid : Prop := timingLoopsUptoRow.holds Tryz.pinned (OpenSpec.upto timingLoopsSpec)

/-- 'genlocklaw04.TimingTexts', WHERE WHAT IT READS IS OF BULK AT MOST 1048576: true; the input reads as it did. -/
def timingTextsUptoRow : OpenClaim := { program := "ytmfophoejjcnlaagreatdoor", sum := "a9d3201a46ca124af70282017dbc97311257ee1bb2ada23b80a59d647f2ba93e", func := "genlock/genlocklaw04.TimingTexts", spec := "timingTexts", inPlace := ["internal/abi.NoEscape", "internal/bytealg.MakeNoZero", "internal/bytealg.IndexByteString", "internal/bytealg.CountString", "internal/bytealg.IndexString"], unfollowed := true, recurses := true, named := ["genlock/timing.extra", "internal/strconv.uint64pow10", "math/bits.deBruijn32tab", "math/bits.deBruijn64tab", "unicode/utf8.first", "unicode/utf8.acceptRanges", "internal/bytealg.MaxLen"], apart := false, laid := [("math/bits.deBruijn32tab", laid_math_bits_deBruijn32tab), ("math/bits.deBruijn64tab", laid_math_bits_deBruijn64tab), ("internal/strconv.uint64pow10", laid_internal_strconv_uint64pow10), ("unicode/utf8.acceptRanges", laid_unicode_utf8_acceptRanges), ("genlock/timing.extra", laid_genlock_timing_extra), ("unicode/utf8.first", laid_unicode_utf8_first)], narrowed := true }
def TimingTextsUptoSaid : Prop := timingTextsUptoRow.holds Tryz.pinned (OpenSpec.upto timingTextsSpec)

/-- 'genlocklaw04.TimingBack', WHERE WHAT IT READS IS OF BULK AT MOST 1048576: true; the input reads as it did. -/
def timingBackUptoRow : OpenClaim := { program := "ytmfophoejjcnlaagreatdoor", sum := "a9d3201a46ca124af70282017dbc97311257ee1bb2ada23b80a59d647f2ba93e", func := "genlock/genlocklaw04.TimingBack", spec := "timingBack", inPlace := ["internal/abi.NoEscape", "internal/bytealg.MakeNoZero", "internal/bytealg.IndexByteString", "internal/bytealg.CountString", "internal/bytealg.IndexString"], unfollowed := true, recurses := true, named := ["genlock/timing.extra", "internal/strconv.uint64pow10", "math/bits.deBruijn32tab", "math/bits.deBruijn64tab", "unicode/utf8.first", "unicode/utf8.acceptRanges", "internal/bytealg.MaxLen"], apart := false, laid := [("math/bits.deBruijn32tab", laid_math_bits_deBruijn32tab), ("math/bits.deBruijn64tab", laid_math_bits_deBruijn64tab), ("internal/strconv.uint64pow10", laid_internal_strconv_uint64pow10), ("unicode/utf8.acceptRanges", laid_unicode_utf8_acceptRanges), ("genlock/timing.extra", laid_genlock_timing_extra), ("unicode/utf8.first", laid_unicode_utf8_first)], narrowed := true }
def TimingBackUptoSaid : Prop := timingBackUptoRow.holds Tryz.pinned (OpenSpec.upto timingBackSpec)

end Rows
end Go.Proofs.YtmfophoejjcnlaaGreatDoor
