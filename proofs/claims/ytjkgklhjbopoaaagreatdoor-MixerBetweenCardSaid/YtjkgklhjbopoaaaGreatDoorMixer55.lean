/- What an argument of the mixer's laws reads as, opened: wipes, nodes, pairs of pictures and of keys; the table of shapes. -/
import Derived.Test.YtjkgklhjbopoaaaGreatDoorPartA
import Derived.Test.YtjkgklhjbopoaaaGreatDoorPartH
namespace Go.Proofs.YtjkgklhjbopoaaaGreatDoor
set_option linter.all false
open Go.ChangeShapes Go.WideShapes Go.ChangeAt Go.RowKit Go.Deep Go.Joins Go.E Go.Fl
set_option maxHeartbeats 8000000
section
variable {H : Type} {enc : TypeId × Value → H} {P : Program} {w : World} {base : Nat} {spare : Nat → Bool} {held : Bool}
theorem trod_float {t : TypeId} {k : FloatKind} {fuel : Nat} {cs : List Value} {x : DataW H × List MemPlace} (ht : P.underlying t = some (.float k)) (h : DataW.trod enc P w base spare held fuel t cs = some x) : ∃ b, cs = [.float k b] := by
  cases fuel with
  | zero => simp [DataW.trod] at h
  | succ n =>
    unfold DataW.trod at h
    rw [ht] at h
    split at h <;> simp_all
theorem open_fls {t e : TypeId} {fuel : Nat} {cs : List Value} {x : DataW H × List MemPlace} (ht : P.underlying t = some (.slice e)) (he : P.underlying e = some (.float .f32)) (hc : P.cellsOf e = 1) (h : DataW.trod enc P w base spare held fuel t cs = some x) :
    ∃ A c, ∃ l : List Nat, cs = [.slice A l.length c] ∧ Rd w A (l.map (.float .f32)) ∧ l.length ≤ c ∧ c ≤ maxLen ∧ (A = none → l.length = 0 ∧ c = 0) := by
  rcases open_slice ht h with ⟨rfl, _⟩ | ⟨a, len, cap, m, n, D, Pl, rfl, _, h1, h2, h3, _, hx⟩
  · exact ⟨none, 0, [], rfl, .inl rfl, Nat.le_refl _, Nat.zero_le _, fun _ => ⟨rfl, rfl⟩⟩
  · have hm : len ≤ m := by rw [h3]; split <;> omega
    rw [hc] at hx
    have each : ∀ i, i < len → ∃ b : Nat, w.cell? (a.add i) = some (.float .f32 b) := fun i hi => by
      obtain ⟨cs', g1, g2⟩ := hx i (by omega)
      obtain ⟨b, rfl⟩ := trod_float he g2
      obtain ⟨_, g4, g5⟩ := World.cells?_some g1
      refine ⟨b, ?_⟩
      have := g5 0 (by omega)
      rw [add_of_add] at this
      simpa using this
    obtain ⟨E, hE⟩ := choose_lt each
    have hl : ((List.range len).map E).length = len := by simp
    refine ⟨some a, cap, (List.range len).map E, by rw [hl], .inr ⟨a, rfl, fun j u hu => ?_⟩, by rw [hl]; exact h1, h2, (fun h => by cases h)⟩
    rcases Nat.lt_or_ge j len with hj | hj
    · rw [hE j hj, ← hu]
      simp [hj]
    · rw [List.getElem?_eq_none (by simpa using hj)] at hu
      cases hu
theorem open_nums {t e : TypeId} {fuel : Nat} {cs : List Value} {x : DataW H × List MemPlace} (ht : P.underlying t = some (.slice e)) (he : P.underlying e = some (.int .i64)) (hc : P.cellsOf e = 1) (h : DataW.trod enc P w base spare held fuel t cs = some x) :
    ∃ A c, ∃ l : List Int, cs = [.slice A l.length c] ∧ Rd w A (l.map (.int .i64)) ∧ l.length ≤ c ∧ c ≤ maxLen ∧ (A = none → l.length = 0 ∧ c = 0) := by
  rcases open_ints ht he hc h with ⟨rfl, _⟩ | ⟨a, len, cap, zs, rfl, _, h1, h2, h3, _, h4, _⟩
  · exact ⟨none, 0, [], rfl, .inl rfl, Nat.le_refl _, Nat.zero_le _, fun _ => ⟨rfl, rfl⟩⟩
  · have hm : len ≤ zs.length := by rw [h3]; split <;> omega
    have hl : (zs.take len).length = len := by rw [List.length_take]; omega
    refine ⟨some a, cap, zs.take len, by rw [hl], .inr ⟨a, rfl, fun j u hu => ?_⟩, by rw [hl]; exact h1, h2, (fun h => by cases h)⟩
    rcases Nat.lt_or_ge j len with hj | hj
    · have h5 := h4 j (by omega)
      rw [h5]
      have e : zs.getD j 0 = zs[j]'(by omega) := by simp [show j < zs.length by omega]
      rw [e]
      simpa [hj, show j < zs.length by omega] using hu
    · rw [List.getElem?_eq_none (by rw [List.length_map, hl]; exact hj)] at hu
      cases hu
def PicIn (w : World) (p : Pic) (A : Option Addr) (c : Nat) : Prop := p.nm.size ≤ maxLen ∧ Rd w A (p.s.map (.float .f32)) ∧ p.s.length ≤ c ∧ c ≤ maxLen ∧ (A = none → p.s.length = 0 ∧ c = 0)
theorem cells_pic {t e : TypeId} {f0 f1 f2 f3 : Field} {fuel : Nat} {l : List Value} {x : DataW H × List MemPlace} (hs : P.underlying t = some (.struct #[f0, f1, f2, f3])) (ho : f0.offset = 0 ∧ f1.offset = 1 ∧ f2.offset = 2 ∧ f3.offset = 3) (hk : P.cellsOf f0.type = 1 ∧ P.cellsOf f1.type = 1 ∧ P.cellsOf f2.type = 1 ∧ P.cellsOf f3.type = 1) (hC : P.cellsOf t = 4)
    (u0 : P.underlying f0.type = some .string) (u1 : P.underlying f1.type = some (.int .i64)) (u2 : P.underlying f2.type = some (.int .i64)) (u3 : P.underlying f3.type = some (.slice e)) (ue : P.underlying e = some (.float .f32)) (hce : P.cellsOf e = 1)
    (hf : DataW.trod enc P w base spare held fuel t l = some x) : ∃ p A c, l = [.string p.nm, .int .i64 p.w, .int .i64 p.h, .slice A p.s.length c] ∧ PicIn w p A c := by
  obtain ⟨xs, n, _, hx, hl0, hlen, hg⟩ := DataW.trod_struct hs hf
  rw [hC] at hl0
  have g0 := hg 0 f0 rfl
  have g1 := hg 1 f1 rfl
  have g2 := hg 2 f2 rfl
  have g3 := hg 3 f3 rfl
  rw [ho.1, hk.1] at g0
  rw [ho.2.1, hk.2.1] at g1
  rw [ho.2.2.1, hk.2.2.1] at g2
  rw [ho.2.2.2, hk.2.2.2] at g3
  match l, hl0, xs, hlen with
  | [c0, c1, c2, c3], _, [x0, x1, x2, x3], _ =>
    obtain ⟨nm, e0, _, z0⟩ := DataW.trod_string u0 (show DataW.trod enc P w base spare held n f0.type [c0] = some x0 from g0)
    obtain ⟨a, e1, _, _⟩ := DataW.trod_int u1 (show DataW.trod enc P w base spare held n f1.type [c1] = some x1 from g1)
    obtain ⟨b, e2, _, _⟩ := DataW.trod_int u2 (show DataW.trod enc P w base spare held n f2.type [c2] = some x2 from g2)
    obtain ⟨A, c, s, e3, h3⟩ := open_fls u3 ue hce (show DataW.trod enc P w base spare held n f3.type [c3] = some x3 from g3)
    cases e0
    cases e1
    cases e2
    cases e3
    exact ⟨⟨nm, a, b, s⟩, A, c, rfl, z0, h3⟩
end
section
variable {H : Type} {enc : TypeId × Value → H} {P : Program} {w : World} {base : Nat} {spare : Nat → Bool} {held : Bool}
def KeyIn (w : World) (l : List Int) (A : Option Addr) (c : Nat) : Prop := Rd w A (l.map (.int .i64)) ∧ l.length ≤ c ∧ c ≤ maxLen ∧ (A = none → l.length = 0 ∧ c = 0)
theorem open_keys {r : Reach} {b0 : Nat} {ta t e : TypeId} {v : Value} {d : DataW H} {pl : List MemPlace} (ha : P.underlying ta = some (.array 2 t)) (hCa : P.cellsOf ta = 2) (ht : P.underlying t = some (.slice e)) (hC : P.cellsOf t = 1) (he : P.underlying e = some (.int .i64)) (hce : P.cellsOf e = 1) (hv : Value.okWide P w r b0 ta v)
    (h : DataW.Trod enc P w base spare held ta v d pl) : ∃ x Ax cx y Ay cy, v = .agg #[.slice Ax x.length cx, .slice Ay y.length cy] ∧ KeyIn w x Ax cx ∧ KeyIn w y Ay cy := by
  obtain ⟨⟨l⟩, rfl, hsz⟩ : ∃ cs, v = .agg cs ∧ cs.size = P.cellsOf ta := by
    simp only [Value.okWide, ha] at hv
    obtain ⟨cs, h1, h2, _⟩ := hv
    exact ⟨cs, h1, h2⟩
  have hl : l.length = 2 := by rw [← hCa]; exact hsz
  obtain ⟨fuel, hf⟩ := h
  obtain ⟨xs, n, _, hx, _, hlen, hel⟩ := DataW.trod_array ha hf
  rw [hC] at hel
  have g0 := hel 0 (by omega)
  have g1 := hel 1 (by omega)
  match l, hl, xs, hlen with
  | [a0, b0], _, [x0, x1], _ =>
    obtain ⟨Ax, cx, x, e0, h0⟩ := open_nums ht he hce (show DataW.trod enc P w base spare held n t [a0] = some x0 from g0)
    obtain ⟨Ay, cy, y, e1, h1⟩ := open_nums ht he hce (show DataW.trod enc P w base spare held n t [b0] = some x1 from g1)
    cases e0
    cases e1
    exact ⟨x, Ax, cx, y, Ay, cy, rfl, h0, h1⟩
theorem open_pic2 {r : Reach} {b0 : Nat} {ta t e : TypeId} {f0 f1 f2 f3 : Field} {v : Value} {d : DataW H} {pl : List MemPlace} (ha : P.underlying ta = some (.array 2 t)) (hCa : P.cellsOf ta = 8) (hs : P.underlying t = some (.struct #[f0, f1, f2, f3])) (ho : f0.offset = 0 ∧ f1.offset = 1 ∧ f2.offset = 2 ∧ f3.offset = 3) (hk : P.cellsOf f0.type = 1 ∧ P.cellsOf f1.type = 1 ∧ P.cellsOf f2.type = 1 ∧ P.cellsOf f3.type = 1) (hC : P.cellsOf t = 4)
    (u0 : P.underlying f0.type = some .string) (u1 : P.underlying f1.type = some (.int .i64)) (u2 : P.underlying f2.type = some (.int .i64)) (u3 : P.underlying f3.type = some (.slice e)) (ue : P.underlying e = some (.float .f32)) (hce : P.cellsOf e = 1) (hv : Value.okWide P w r b0 ta v)
    (h : DataW.Trod enc P w base spare held ta v d pl) : ∃ x Ax cx y Ay cy, v = .agg #[.string x.nm, .int .i64 x.w, .int .i64 x.h, .slice Ax x.s.length cx, .string y.nm, .int .i64 y.w, .int .i64 y.h, .slice Ay y.s.length cy] ∧ PicIn w x Ax cx ∧ PicIn w y Ay cy := by
  obtain ⟨⟨l⟩, rfl, hsz⟩ : ∃ cs, v = .agg cs ∧ cs.size = P.cellsOf ta := by
    simp only [Value.okWide, ha] at hv
    obtain ⟨cs, h1, h2, _⟩ := hv
    exact ⟨cs, h1, h2⟩
  have hl : l.length = 8 := by rw [← hCa]; exact hsz
  obtain ⟨fuel, hf⟩ := h
  obtain ⟨xs, n, _, hx, _, hlen, hel⟩ := DataW.trod_array ha hf
  rw [hC] at hel
  have g0 := hel 0 (by omega)
  have g1 := hel 1 (by omega)
  match l, hl, xs, hlen with
  | [a0, a1, a2, a3, b0, b1, b2, b3], _, [x0, x1], _ =>
    obtain ⟨x, Ax, cx, e0, h0⟩ := cells_pic hs ho hk hC u0 u1 u2 u3 ue hce (show DataW.trod enc P w base spare held n t [a0, a1, a2, a3] = some x0 from g0)
    obtain ⟨y, Ay, cy, e1, h1⟩ := cells_pic hs ho hk hC u0 u1 u2 u3 ue hce (show DataW.trod enc P w base spare held n t [b0, b1, b2, b3] = some x1 from g1)
    cases e0
    cases e1
    exact ⟨x, Ax, cx, y, Ay, cy, rfl, h0, h1⟩
end
theorem shLaid_of {W : World} {name : String} {rest : List (String × DataW Unit)} {t : TypeId} (hg : Tryz.prog.globalNamed name = some 0) (hty : (Tryz.prog.globals[0]?).map (·.type) = some t) (ht : Tryz.prog.underlying t = some (.array 3 9)) (hct : Tryz.prog.cellsOf t = 3) (hce : Tryz.prog.cellsOf 9 = 1)
    (h : laidMet Tryz.prog ((name, .agg [.lit (.string bHalf.data.toList), .lit (.string bBox.data.toList), .lit (.string bDia.data.toList)]) :: rest) W) : Sh W := by
  obtain ⟨ps, ⟨g', t', cs, fuel, p, q, hg', ht', hvar, hd, _, _⟩, _⟩ := h
  obtain rfl := Option.some.inj (hg.symm.trans hg')
  obtain rfl := Option.some.inj (hty.symm.trans ht')
  obtain ⟨xs, m, _, hx, hl, hlen, hel⟩ := DataW.trod_array ht hd
  rw [hce] at hel
  have hx1 : xs.map (·.1) = [.lit (.string bHalf.data.toList), .lit (.string bBox.data.toList), .lit (.string bDia.data.toList)] := by
    have := congrArg Prod.fst hx
    simp only [DataW.agg.injEq] at this
    exact this.symm
  obtain ⟨l⟩ := cs
  rw [hct] at hl
  have g0 := hel 0 (by omega)
  have g1 := hel 1 (by omega)
  have g2 := hel 2 (by omega)
  have hl' : l.length = 3 := hl
  match l, hl', xs, hlen, hx1, g0, g1, g2 with
  | [a, b, c], _, [x0, x1, x2], _, hx1, g0, g1, g2 =>
    simp only [List.map_cons, List.map_nil, List.cons.injEq, and_true] at hx1
    obtain ⟨e0, e1, e2⟩ := hx1
    obtain ⟨s0, q0, y0, _⟩ := DataW.trod_string Tryz.underlying9 (show DataW.trod _ Tryz.prog _ _ _ _ m 9 [a] = some x0 from g0)
    obtain ⟨s1, q1, y1, _⟩ := DataW.trod_string Tryz.underlying9 (show DataW.trod _ Tryz.prog _ _ _ _ m 9 [b] = some x1 from g1)
    obtain ⟨s2, q2, y2, _⟩ := DataW.trod_string Tryz.underlying9 (show DataW.trod _ Tryz.prog _ _ _ _ m 9 [c] = some x2 from g2)
    subst y0 y1 y2
    injection e0 with e0
    injection e0 with e0
    injection e1 with e1
    injection e1 with e1
    injection e2 with e2
    injection e2 with e2
    have f0 : s0 = bHalf := ByteArray.ext (Array.ext' e0)
    have f1 : s1 = bBox := ByteArray.ext (Array.ext' e1)
    have f2 : s2 = bDia := ByteArray.ext (Array.ext' e2)
    subst f0 f1 f2
    cases q0
    cases q1
    cases q2
    refine .inr ⟨_, rfl, fun j u hu => ?_⟩
    rw [Addr.add_mid, Nat.zero_add]
    have := World.var?_cell hg hvar j
    rw [this]
    rcases j with _ | _ | _ | j <;> simp_all
end Go.Proofs.YtjkgklhjbopoaaaGreatDoor
