/- Numerals, and strings joined: the contracts of the shelf, as the walks take them. -/
import Derived.Test.YtmfophoejjcnlaaGreatDoorTiming31
import Derived.Test.YtmfophoejjcnlaaGreatDoorRows
import Derived.Test.YtmfophoejjcnlaaGreatDoorShelf
import Derived.Lib.AppendIntMem
namespace Go.Proofs.YtmfophoejjcnlaaGreatDoor
open Go.E Go.RowKit
attribute [local irreducible] G C S D Calls
set_option maxRecDepth 100000
set_option linter.unusedSimpArgs false
set_option linter.unusedVariables false

/-- The table of powers, as it was laid. -/
def Pw (w : World) : Prop := Lib.TabIs Tryz.prog w powName .u64 Lib.pow10Tab
def itB (n : Int) : ByteArray := ⟨(Lib.itoa n).toArray⟩
def joinB (xs : List ByteArray) (sep : ByteArray) : ByteArray := ⟨(Lib.join (xs.map (·.data.toList)) sep.data.toList).toArray⟩
theorem itoa_c (n : Int) (h0 : -9223372036854775808 ≤ n) (h1 : n ≤ 9223372036854775807) (w : World) (hp : Pw w) : Calls Tryz.prog 129 #[.int .i64 n] w fun r w' => r = .returned (.string (itB n)) ∧ Below w.heap.size w w' :=
  (Tryz.strconv_Itoa n h0 h1 w hp).mono fun e w' ⟨he, k, os, hw⟩ => ⟨he, hw ▸ Lib.below_grow _ _ (Nat.le_refl _) _ _⟩
theorem join_c (ad : Addr) (c : Nat) (xs : List ByteArray) (sep : ByteArray) (w : World) (hs : ad.spot = none) (h0 : 0 < xs.length) (hr : Rd w (some ad) (xs.map .string)) (hN : xs.length ≤ 1000000) (hc : xs.length ≤ c) (hl : (joinB xs sep).size ≤ 140737488355328) :
    Calls Tryz.prog 128 #[.slice (some ad) xs.length c, .string sep] w fun r w' => r = .returned (.string (joinB xs sep)) ∧ Below w.heap.size w w' := by
  obtain ⟨bk, o, s⟩ := ad
  simp only at hs
  subst hs
  rcases hr with hr | ⟨ad', e, h⟩
  · have : xs.length = 0 := by simpa using congrArg List.length hr
    omega
  · cases e
    have hcell : ∀ (j : Nat) (x : ByteArray), xs[j]? = some x → w.cell? ⟨bk, o + j, none⟩ = some (.string x) := fun j x hx => by
      have := h j (.string x) (by simp [hx])
      rwa [Addr.add_mid] at this
    have hx0 : xs[0]? = some xs[0] := List.getElem?_eq_getElem h0
    exact Tryz.strings_Join bk o c xs sep w hcell (cell_lt (hcell 0 _ hx0)) (by omega) hc (by simpa [joinB, ByteArray.size] using hl)

end Go.Proofs.YtmfophoejjcnlaaGreatDoor
