/-
  No cell of these rows narrows 'for every input' (looked for: loops, veiled, ifaces, maps, wideKeys, modest, calm, conditions, laid).
  DERIVED. THE GIVEN ROWS OF THIS SEAT. 2 by the template 'for every input the law returns true; each argument reads behind the call as it read before'; 0 by the template 'total and deterministic' (their statements: YtedlaominconaaaTotals.lean).
  GIVEN WITH THE SEED: the statements are not yours to turn. If you find one false, say at which input.
  Laid BY PROGRAM, IN A SANDBOX (cutbox-rows.mjs): the forced cells as the released guide's own fill.sh prints them over the translation dc3439c01b4b7788… (all of the seat's roots in one cut). By AI agents, Wed Nov 11 2026. No macro, syntax, notation, axiom, sorry.
-/
import Derived.Test.YtedlaominconaaaChecked
import GoSem.Claim
import GoSem.ClaimJoined
import GoSem.ClaimMapViews
import Derived.JoinedTies
import Derived.KernelRfl
namespace Go.Proofs.Ytedlaominconaaa
/- THE CELL 'sum', in the pinned program and in every row, IS THE sha256 OF THE DUMP (.gsa) THAT YtedlaominconaaaProg.lean LOADS. Nothing in Lean hashes anything: it is a label: what it is worth is what the hold of that sum in a sandbox is worth. -/
noncomputable def Try.pinned : Pinned := { name := "ytedlaominconaaa", sum := "dc3439c01b4b77884008dbd0467d6747efea7d07d7764996e72e69aa2f657cd7", checked := Try.checked }
namespace Rows
def none {H : Type} : Left H := { results := [], args := [] }

/-- 'genlocktop.TopDollyLegal': WHATEVER THE INPUT: true; the input reads as it did. -/
def topDollyLegalSpec : ChangeSpec := { name := "topDollyLegal", fn := fun _ => fun
  | [d1, d2] => { results := [.lit (.bool true)], args := [d1, d2] }
  | _ => none }
def topDollyLegalRow : OpenClaim := { program := "ytedlaominconaaa", sum := "dc3439c01b4b77884008dbd0467d6747efea7d07d7764996e72e69aa2f657cd7", func := "genlock/genlocktop.TopDollyLegal", spec := "topDollyLegal", unfollowed := true, recurses := true, apart := false }
def TopDollyLegalSaid : Prop := topDollyLegalRow.holds Try.pinned (OpenSpec.ofChange topDollyLegalSpec)

/-- ITS FALSE NEIGHBOUR: 'it returns false'. Refute it at one input. -/
def topDollyLegalWrong : ChangeSpec := { name := "topDollyLegal", fn := fun _ => fun
  | [d1, d2] => { results := [.lit (.bool false)], args := [d1, d2] }
  | _ => none }
def TopDollyLegalWrongFalsely : Prop := topDollyLegalRow.holds Try.pinned (OpenSpec.ofChange topDollyLegalWrong)

/-- 'genlocktop.TopBoomCurves': WHATEVER THE INPUT: true; the input reads as it did. -/
def topBoomCurvesSpec : ChangeSpec := { name := "topBoomCurves", fn := fun _ => fun
  | [d1, d2, d3] => { results := [.lit (.bool true)], args := [d1, d2, d3] }
  | _ => none }
def topBoomCurvesRow : OpenClaim := { program := "ytedlaominconaaa", sum := "dc3439c01b4b77884008dbd0467d6747efea7d07d7764996e72e69aa2f657cd7", func := "genlock/genlocktop.TopBoomCurves", spec := "topBoomCurves", inPlace := ["math.Float64bits", "math.Float64frombits", "math.archFloor", "math.archTrunc", "math.Float32bits"], unfollowed := true, recurses := true, apart := false }
def TopBoomCurvesSaid : Prop := topBoomCurvesRow.holds Try.pinned (OpenSpec.ofChange topBoomCurvesSpec)

/-- ITS FALSE NEIGHBOUR: 'it returns false'. Refute it at one input. -/
def topBoomCurvesWrong : ChangeSpec := { name := "topBoomCurves", fn := fun _ => fun
  | [d1, d2, d3] => { results := [.lit (.bool false)], args := [d1, d2, d3] }
  | _ => none }
def TopBoomCurvesWrongFalsely : Prop := topBoomCurvesRow.holds Try.pinned (OpenSpec.ofChange topBoomCurvesWrong)

/- THE SECOND FORM. 'bulk': how many values and letters a reading holds, each counted each time it is reached (what is shared counts as often as it is met; a slice's spare places count too). A statement '..UptoSaid' is the law's where the arguments, and the package variables that the reading takes, are together of bulk at most 1048576: NARROWER than '..Said'. Prove '..Said' where nothing that the law and all that it calls make is longer than what came in: it says more and counts as full. Else prove '..UptoSaid'. A law counts once. -/
mutual
def uptoBulk {H : Type} : DataW H → Nat
  | .lit (.string bytes) => bytes.length + 1
  | .lit _ => 1
  | .nil => 1
  | .ptr d => uptoBulk d + 1
  | .slice elems spare => uptoBulkAll elems + uptoBulkAll spare + 1
  | .agg parts => uptoBulkAll parts + 1
  | .iface _ d => uptoBulk d + 1
  | .map entries => uptoBulkEntries entries + 1
  | .held _ => 1
def uptoBulkAll {H : Type} : List (DataW H) → Nat
  | [] => 0
  | d :: r => uptoBulk d + uptoBulkAll r
def uptoBulkEntries {H : Type} : List (Lit × DataW H) → Nat
  | [] => 0
  | x :: r => uptoBulkEntry x + uptoBulkEntries r
def uptoBulkEntry {H : Type} : Lit × DataW H → Nat
  | (.string bytes, d) => bytes.length + uptoBulk d + 1
  | (_, d) => uptoBulk d + 1
 end
def uptoSmall : (H : Type) → List (DataW H) → Bool := fun _ ds => decide (uptoBulkAll ds ≤ 1048576)
def OpenSpec.upto (s : _root_.Go.ChangeSpec) : _root_.Go.OpenSpec := { _root_.Go.OpenSpec.ofChange s with cond := some uptoSmall }

/-- 'genlocktop.TopDollyLegal', WHERE WHAT IT READS IS OF BULK AT MOST 1048576: true; the input reads as it did. -/
def topDollyLegalUptoRow : OpenClaim := { program := "ytedlaominconaaa", sum := "dc3439c01b4b77884008dbd0467d6747efea7d07d7764996e72e69aa2f657cd7", func := "genlock/genlocktop.TopDollyLegal", spec := "topDollyLegal", unfollowed := true, recurses := true, apart := false, narrowed := true }
def TopDollyLegalUptoSaid : Prop := topDollyLegalUptoRow.holds Try.pinned (OpenSpec.upto topDollyLegalSpec)

/-- 'genlocktop.TopBoomCurves', WHERE WHAT IT READS IS OF BULK AT MOST 1048576: true; the input reads as it did. -/
def topBoomCurvesUptoRow : OpenClaim := { program := "ytedlaominconaaa", sum := "dc3439c01b4b77884008dbd0467d6747efea7d07d7764996e72e69aa2f657cd7", func := "genlock/genlocktop.TopBoomCurves", spec := "topBoomCurves", inPlace := ["math.Float64bits", "math.Float64frombits", "math.archFloor", "math.archTrunc", "math.Float32bits"], unfollowed := true, recurses := true, apart := false, narrowed := true }
def TopBoomCurvesUptoSaid : Prop := topBoomCurvesUptoRow.holds Try.pinned (OpenSpec.upto topBoomCurvesSpec)

end Rows
end Go.Proofs.Ytedlaominconaaa
