/- What an argument of the mixer's laws reads as, opened: wipes, nodes, pairs of pictures and of keys; the table of shapes. -/
import Derived.Test.YtjkgklhjbopoaaaGreatDoorPartA
import Derived.Test.YtjkgklhjbopoaaaGreatDoorPartH
namespace Go.Proofs.YtjkgklhjbopoaaaGreatDoor
set_option linter.all false
open Go.ChangeShapes Go.WideShapes Go.ChangeAt Go.RowKit Go.Deep Go.Joins Go.E Go.Fl
set_option maxHeartbeats 8000000
section
variable {H : Type} {enc : TypeId × Value → H} {P : Program} {w : World} {base : Nat} {spare : Nat → Bool} {held : Bool}
end
section
variable {H : Type} {enc : TypeId × Value → H} {P : Program} {w : World} {base : Nat} {spare : Nat → Bool} {held : Bool}
theorem cells_wip {t : TypeId} {f0 f1 f2 f3 f4 : Field} {fuel : Nat} {l : List Value} {x : DataW H × List MemPlace} (hs : P.underlying t = some (.struct #[f0, f1, f2, f3, f4])) (ho : f0.offset = 0 ∧ f1.offset = 1 ∧ f2.offset = 2 ∧ f3.offset = 3 ∧ f4.offset = 4) (hk : P.cellsOf f0.type = 1 ∧ P.cellsOf f1.type = 1 ∧ P.cellsOf f2.type = 1 ∧ P.cellsOf f3.type = 1 ∧ P.cellsOf f4.type = 1) (hC : P.cellsOf t = 5)
    (u0 : P.underlying f0.type = some .string) (u1 : P.underlying f1.type = some (.int .i64)) (u2 : P.underlying f2.type = some (.int .i64)) (u3 : P.underlying f3.type = some (.int .i64)) (u4 : P.underlying f4.type = some (.int .i64))
    (hf : DataW.trod enc P w base spare held fuel t l = some x) : ∃ q : Wip, l = [.string q.sh, .int .i64 q.a, .int .i64 q.b, .int .i64 q.at_, .int .i64 q.soft] ∧ q.sh.size ≤ maxLen := by
  obtain ⟨xs, n, _, hx, hl0, hlen, hg⟩ := DataW.trod_struct hs hf
  rw [hC] at hl0
  have g0 := hg 0 f0 rfl
  rw [ho.1, hk.1] at g0
  have g1 := hg 1 f1 rfl
  rw [ho.2.1, hk.2.1] at g1
  have g2 := hg 2 f2 rfl
  rw [ho.2.2.1, hk.2.2.1] at g2
  have g3 := hg 3 f3 rfl
  rw [ho.2.2.2.1, hk.2.2.2.1] at g3
  have g4 := hg 4 f4 rfl
  rw [ho.2.2.2.2, hk.2.2.2.2] at g4
  match l, hl0, xs, hlen with
  | [c0, c1, c2, c3, c4], _, [x0, x1, x2, x3, x4], _ =>
    obtain ⟨v0, e0, _, z0⟩ := DataW.trod_string u0 (show DataW.trod enc P w base spare held n f0.type [c0] = some x0 from g0)
    obtain ⟨v1, e1, _, _⟩ := DataW.trod_int u1 (show DataW.trod enc P w base spare held n f1.type [c1] = some x1 from g1)
    obtain ⟨v2, e2, _, _⟩ := DataW.trod_int u2 (show DataW.trod enc P w base spare held n f2.type [c2] = some x2 from g2)
    obtain ⟨v3, e3, _, _⟩ := DataW.trod_int u3 (show DataW.trod enc P w base spare held n f3.type [c3] = some x3 from g3)
    obtain ⟨v4, e4, _, _⟩ := DataW.trod_int u4 (show DataW.trod enc P w base spare held n f4.type [c4] = some x4 from g4)
    cases e0
    cases e1
    cases e2
    cases e3
    cases e4
    exact ⟨⟨v0, v1, v2, v3, v4⟩, rfl, z0⟩
theorem open_wip {r : Reach} {b0 : Nat} {t : TypeId} {fs : Array Field} {v : Value} {d : DataW H} {pl : List MemPlace} (hs : P.underlying t = some (.struct fs)) (hc : ∀ (fuel : Nat) (l : List Value) (x : DataW H × List MemPlace), DataW.trod enc P w base spare held fuel t l = some x → ∃ q : Wip, l = [.string q.sh, .int .i64 q.a, .int .i64 q.b, .int .i64 q.at_, .int .i64 q.soft] ∧ q.sh.size ≤ maxLen)
    (hv : Value.okWide P w r b0 t v) (h : DataW.Trod enc P w base spare held t v d pl) : ∃ q : Wip, v = .agg #[.string q.sh, .int .i64 q.a, .int .i64 q.b, .int .i64 q.at_, .int .i64 q.soft] ∧ q.sh.size ≤ maxLen := by
  obtain ⟨⟨l⟩, rfl, _⟩ := okWide_struct hs hv
  obtain ⟨fuel, hf⟩ := h
  obtain ⟨q, e1, h1⟩ := hc fuel l (d, pl) hf
  subst e1
  exact ⟨q, rfl, h1⟩
end
theorem shLaid_of {W : World} {name : String} {rest : List (String × DataW Unit)} {t : TypeId} (hg : Tryz.prog.globalNamed name = some 0) (hty : (Tryz.prog.globals[0]?).map (·.type) = some t) (ht : Tryz.prog.underlying t = some (.array 3 9)) (hct : Tryz.prog.cellsOf t = 3) (hce : Tryz.prog.cellsOf 9 = 1)
    (h : laidMet Tryz.prog ((name, .agg [.lit (.string bHalf.data.toList), .lit (.string bBox.data.toList), .lit (.string bDia.data.toList)]) :: rest) W) : Sh W := by
  obtain ⟨ps, ⟨g', t', cs, fuel, p, q, hg', ht', hvar, hd, _, _⟩, _⟩ := h
  obtain rfl := Option.some.inj (hg.symm.trans hg')
  obtain rfl := Option.some.inj (hty.symm.trans ht')
  obtain ⟨xs, m, _, hx, hl, hlen, hel⟩ := DataW.trod_array ht hd
  rw [hce] at hel
  have hx1 : xs.map (·.1) = [.lit (.string bHalf.data.toList), .lit (.string bBox.data.toList), .lit (.string bDia.data.toList)] := by
    have := congrArg Prod.fst hx
    simp only [DataW.agg.injEq] at this
    exact this.symm
  obtain ⟨l⟩ := cs
  rw [hct] at hl
  have g0 := hel 0 (by omega)
  have g1 := hel 1 (by omega)
  have g2 := hel 2 (by omega)
  have hl' : l.length = 3 := hl
  match l, hl', xs, hlen, hx1, g0, g1, g2 with
  | [a, b, c], _, [x0, x1, x2], _, hx1, g0, g1, g2 =>
    simp only [List.map_cons, List.map_nil, List.cons.injEq, and_true] at hx1
    obtain ⟨e0, e1, e2⟩ := hx1
    obtain ⟨s0, q0, y0, _⟩ := DataW.trod_string Tryz.underlying9 (show DataW.trod _ Tryz.prog _ _ _ _ m 9 [a] = some x0 from g0)
    obtain ⟨s1, q1, y1, _⟩ := DataW.trod_string Tryz.underlying9 (show DataW.trod _ Tryz.prog _ _ _ _ m 9 [b] = some x1 from g1)
    obtain ⟨s2, q2, y2, _⟩ := DataW.trod_string Tryz.underlying9 (show DataW.trod _ Tryz.prog _ _ _ _ m 9 [c] = some x2 from g2)
    subst y0 y1 y2
    injection e0 with e0
    injection e0 with e0
    injection e1 with e1
    injection e1 with e1
    injection e2 with e2
    injection e2 with e2
    have f0 : s0 = bHalf := ByteArray.ext (Array.ext' e0)
    have f1 : s1 = bBox := ByteArray.ext (Array.ext' e1)
    have f2 : s2 = bDia := ByteArray.ext (Array.ext' e2)
    subst f0 f1 f2
    cases q0
    cases q1
    cases q2
    refine .inr ⟨_, rfl, fun j u hu => ?_⟩
    rw [Addr.add_mid, Nat.zero_add]
    have := World.var?_cell hg hvar j
    rw [this]
    rcases j with _ | _ | _ | j <;> simp_all
end Go.Proofs.YtjkgklhjbopoaaaGreatDoor
