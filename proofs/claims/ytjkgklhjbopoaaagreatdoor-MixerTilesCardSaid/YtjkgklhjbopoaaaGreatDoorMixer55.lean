/- What an argument of the mixer's laws reads as, opened: wipes, nodes, pairs of pictures and of keys; the table of shapes. -/
import Derived.Test.YtjkgklhjbopoaaaGreatDoorPartA
import Derived.Test.YtjkgklhjbopoaaaGreatDoorPartH
namespace Go.Proofs.YtjkgklhjbopoaaaGreatDoor
set_option linter.all false
open Go.ChangeShapes Go.WideShapes Go.ChangeAt Go.RowKit Go.Deep Go.Joins Go.E Go.Fl
set_option maxHeartbeats 8000000
section
variable {H : Type} {enc : TypeId × Value → H} {P : Program} {w : World} {base : Nat} {spare : Nat → Bool} {held : Bool}
theorem aD2 {t : TypeId} {k : FloatKind} {fuel : Nat} {cs : List Value} {x : DataW H × List MemPlace} (ht : P.underlying t = some (.float k)) (h : DataW.trod enc P w base spare held fuel t cs = some x) : ∃ b, cs = [.float k b] := by
  cases fuel with
  | zero => simp [DataW.trod] at h
  | succ n =>
    unfold DataW.trod at h
    rw [ht] at h
    split at h <;> simp_all
theorem aV7 {t e : TypeId} {fuel : Nat} {cs : List Value} {x : DataW H × List MemPlace} (ht : P.underlying t = some (.slice e)) (he : P.underlying e = some (.float .f32)) (hc : P.cellsOf e = 1) (h : DataW.trod enc P w base spare held fuel t cs = some x) :
    ∃ A c, ∃ l : List Nat, cs = [.slice A l.length c] ∧ Rd w A (l.map (.float .f32)) ∧ l.length ≤ c ∧ c ≤ maxLen ∧ (A = none → l.length = 0 ∧ c = 0) := by
  rcases open_slice ht h with ⟨rfl, _⟩ | ⟨a, len, cap, m, n, D, Pl, rfl, _, h1, h2, h3, _, hx⟩
  · exact ⟨none, 0, [], rfl, .inl rfl, Nat.le_refl _, Nat.zero_le _, fun _ => ⟨rfl, rfl⟩⟩
  · have hm : len ≤ m := by rw [h3]; split <;> omega
    rw [hc] at hx
    have each : ∀ i, i < len → ∃ b : Nat, w.cell? (a.add i) = some (.float .f32 b) := fun i hi => by
      obtain ⟨cs', g1, g2⟩ := hx i (by omega)
      obtain ⟨b, rfl⟩ := aD2 he g2
      obtain ⟨_, g4, g5⟩ := World.cells?_some g1
      refine ⟨b, ?_⟩
      have := g5 0 (by omega)
      rw [n3] at this
      simpa using this
    obtain ⟨E, hE⟩ := choose_lt each
    have hl : ((List.range len).map E).length = len := by simp
    refine ⟨some a, cap, (List.range len).map E, by rw [hl], .inr ⟨a, rfl, fun j u hu => ?_⟩, by rw [hl]; exact h1, h2, (fun h => by cases h)⟩
    rcases Nat.lt_or_ge j len with hj | hj
    · rw [hE j hj, ← hu]
      simp [hj]
    · rw [List.getElem?_eq_none (by simpa using hj)] at hu
      cases hu
def PicIn (w : World) (p : Pic) (A : Option Addr) (c : Nat) : Prop := p.nm.size ≤ maxLen ∧ Rd w A (p.s.map (.float .f32)) ∧ p.s.length ≤ c ∧ c ≤ maxLen ∧ (A = none → p.s.length = 0 ∧ c = 0)
theorem aI8 {t e : TypeId} {f0 f1 f2 f3 : Field} {fuel : Nat} {l : List Value} {x : DataW H × List MemPlace} (hs : P.underlying t = some (.struct #[f0, f1, f2, f3])) (ho : f0.offset = 0 ∧ f1.offset = 1 ∧ f2.offset = 2 ∧ f3.offset = 3) (hk : P.cellsOf f0.type = 1 ∧ P.cellsOf f1.type = 1 ∧ P.cellsOf f2.type = 1 ∧ P.cellsOf f3.type = 1) (hC : P.cellsOf t = 4)
    (u0 : P.underlying f0.type = some .string) (u1 : P.underlying f1.type = some (.int .i64)) (u2 : P.underlying f2.type = some (.int .i64)) (u3 : P.underlying f3.type = some (.slice e)) (ue : P.underlying e = some (.float .f32)) (hce : P.cellsOf e = 1)
    (hf : DataW.trod enc P w base spare held fuel t l = some x) : ∃ p A c, l = [.string p.nm, .int .i64 p.w, .int .i64 p.h, .slice A p.s.length c] ∧ PicIn w p A c := by
  obtain ⟨xs, n, _, hx, hl0, hlen, hg⟩ := DataW.trod_struct hs hf
  rw [hC] at hl0
  have g0 := hg 0 f0 rfl
  have g1 := hg 1 f1 rfl
  have g2 := hg 2 f2 rfl
  have g3 := hg 3 f3 rfl
  rw [ho.1, hk.1] at g0
  rw [ho.2.1, hk.2.1] at g1
  rw [ho.2.2.1, hk.2.2.1] at g2
  rw [ho.2.2.2, hk.2.2.2] at g3
  match l, hl0, xs, hlen with
  | [c0, c1, c2, c3], _, [x0, x1, x2, x3], _ =>
    obtain ⟨nm, e0, _, z0⟩ := DataW.trod_string u0 (show DataW.trod enc P w base spare held n f0.type [c0] = some x0 from g0)
    obtain ⟨a, e1, _, _⟩ := DataW.trod_int u1 (show DataW.trod enc P w base spare held n f1.type [c1] = some x1 from g1)
    obtain ⟨b, e2, _, _⟩ := DataW.trod_int u2 (show DataW.trod enc P w base spare held n f2.type [c2] = some x2 from g2)
    obtain ⟨A, c, s, e3, h3⟩ := aV7 u3 ue hce (show DataW.trod enc P w base spare held n f3.type [c3] = some x3 from g3)
    cases e0
    cases e1
    cases e2
    cases e3
    exact ⟨⟨nm, a, b, s⟩, A, c, rfl, z0, h3⟩
end
section
variable {H : Type} {enc : TypeId × Value → H} {P : Program} {w : World} {base : Nat} {spare : Nat → Bool} {held : Bool}
theorem aK9 {t : TypeId} {f0 f1 f2 f3 f4 : Field} {fuel : Nat} {l : List Value} {x : DataW H × List MemPlace} (hs : P.underlying t = some (.struct #[f0, f1, f2, f3, f4])) (ho : f0.offset = 0 ∧ f1.offset = 1 ∧ f2.offset = 2 ∧ f3.offset = 3 ∧ f4.offset = 4) (hk : P.cellsOf f0.type = 1 ∧ P.cellsOf f1.type = 1 ∧ P.cellsOf f2.type = 1 ∧ P.cellsOf f3.type = 1 ∧ P.cellsOf f4.type = 1) (hC : P.cellsOf t = 5)
    (u0 : P.underlying f0.type = some .string) (u1 : P.underlying f1.type = some (.int .i64)) (u2 : P.underlying f2.type = some (.int .i64)) (u3 : P.underlying f3.type = some (.int .i64)) (u4 : P.underlying f4.type = some (.int .i64))
    (hf : DataW.trod enc P w base spare held fuel t l = some x) : ∃ q : Wip, l = [.string q.sh, .int .i64 q.a, .int .i64 q.b, .int .i64 q.at_, .int .i64 q.soft] ∧ q.sh.size ≤ maxLen := by
  obtain ⟨xs, n, _, hx, hl0, hlen, hg⟩ := DataW.trod_struct hs hf
  rw [hC] at hl0
  have g0 := hg 0 f0 rfl
  rw [ho.1, hk.1] at g0
  have g1 := hg 1 f1 rfl
  rw [ho.2.1, hk.2.1] at g1
  have g2 := hg 2 f2 rfl
  rw [ho.2.2.1, hk.2.2.1] at g2
  have g3 := hg 3 f3 rfl
  rw [ho.2.2.2.1, hk.2.2.2.1] at g3
  have g4 := hg 4 f4 rfl
  rw [ho.2.2.2.2, hk.2.2.2.2] at g4
  match l, hl0, xs, hlen with
  | [c0, c1, c2, c3, c4], _, [x0, x1, x2, x3, x4], _ =>
    obtain ⟨v0, e0, _, z0⟩ := DataW.trod_string u0 (show DataW.trod enc P w base spare held n f0.type [c0] = some x0 from g0)
    obtain ⟨v1, e1, _, _⟩ := DataW.trod_int u1 (show DataW.trod enc P w base spare held n f1.type [c1] = some x1 from g1)
    obtain ⟨v2, e2, _, _⟩ := DataW.trod_int u2 (show DataW.trod enc P w base spare held n f2.type [c2] = some x2 from g2)
    obtain ⟨v3, e3, _, _⟩ := DataW.trod_int u3 (show DataW.trod enc P w base spare held n f3.type [c3] = some x3 from g3)
    obtain ⟨v4, e4, _, _⟩ := DataW.trod_int u4 (show DataW.trod enc P w base spare held n f4.type [c4] = some x4 from g4)
    cases e0
    cases e1
    cases e2
    cases e3
    cases e4
    exact ⟨⟨v0, v1, v2, v3, v4⟩, rfl, z0⟩
theorem au2 {t : TypeId} {f0 f1 : Field} {fuel : Nat} {l : List Value} {x : DataW H × List MemPlace} (hs : P.underlying t = some (.struct #[f0, f1])) (ho : f0.offset = 0 ∧ f1.offset = 1) (hk : P.cellsOf f0.type = 1 ∧ P.cellsOf f1.type = 1) (hC : P.cellsOf t = 2)
 (u0 : P.underlying f0.type = some (.int .i64)) (u1 : P.underlying f1.type = some (.int .i64))
    (hf : DataW.trod enc P w base spare held fuel t l = some x) : ∃ a b : Int, l = [.int .i64 a, .int .i64 b] := by
  obtain ⟨xs, n, _, hx, hl0, hlen, hg⟩ := DataW.trod_struct hs hf
  rw [hC] at hl0
  have g0 := hg 0 f0 rfl
  rw [ho.1, hk.1] at g0
  have g1 := hg 1 f1 rfl
  rw [ho.2, hk.2] at g1
  match l, hl0, xs, hlen with
  | [c0, c1], _, [x0, x1], _ =>
    obtain ⟨v0, e0, _, _⟩ := DataW.trod_int u0 (show DataW.trod enc P w base spare held n f0.type [c0] = some x0 from g0)
    obtain ⟨v1, e1, _, _⟩ := DataW.trod_int u1 (show DataW.trod enc P w base spare held n f1.type [c1] = some x1 from g1)
    cases e0
    cases e1
    exact ⟨v0, v1, rfl⟩
theorem aI1 {t : TypeId} {f0 f1 f2 f3 f4 f5 f6 : Field} {fuel : Nat} {l : List Value} {x : DataW H × List MemPlace} (hs : P.underlying t = some (.struct #[f0, f1, f2, f3, f4, f5, f6])) (ho : f0.offset = 0 ∧ f1.offset = 1 ∧ f2.offset = 2 ∧ f3.offset = 3 ∧ f4.offset = 4 ∧ f5.offset = 5 ∧ f6.offset = 7) (hk : P.cellsOf f0.type = 1 ∧ P.cellsOf f1.type = 1 ∧ P.cellsOf f2.type = 1 ∧ P.cellsOf f3.type = 1 ∧ P.cellsOf f4.type = 1 ∧ P.cellsOf f5.type = 2 ∧ P.cellsOf f6.type = 5) (hC : P.cellsOf t = 12)
    (u0 : P.underlying f0.type = some .string) (u1 : P.underlying f1.type = some (.int .i64)) (u2 : P.underlying f2.type = some (.int .i64)) (u3 : P.underlying f3.type = some (.int .i64)) (u4 : P.underlying f4.type = some (.int .i64)) (u5 : ∀ (fuel : Nat) (l : List Value) (x : DataW H × List MemPlace), DataW.trod enc P w base spare held fuel f5.type l = some x → ∃ a b : Int, l = [.int .i64 a, .int .i64 b]) (u6 : ∀ (fuel : Nat) (l : List Value) (x : DataW H × List MemPlace), DataW.trod enc P w base spare held fuel f6.type l = some x → ∃ q : Wip, l = [.string q.sh, .int .i64 q.a, .int .i64 q.b, .int .i64 q.at_, .int .i64 q.soft] ∧ q.sh.size ≤ maxLen)
    (hf : DataW.trod enc P w base spare held fuel t l = some x) : ∃ q : Nod, l = ndC q ∧ q.kd.size ≤ maxLen ∧ q.w.sh.size ≤ maxLen := by
  obtain ⟨xs, n, _, hx, hl0, hlen, hg⟩ := DataW.trod_struct hs hf
  rw [hC] at hl0
  have g0 := hg 0 f0 rfl
  rw [ho.1, hk.1] at g0
  have g1 := hg 1 f1 rfl
  rw [ho.2.1, hk.2.1] at g1
  have g2 := hg 2 f2 rfl
  rw [ho.2.2.1, hk.2.2.1] at g2
  have g3 := hg 3 f3 rfl
  rw [ho.2.2.2.1, hk.2.2.2.1] at g3
  have g4 := hg 4 f4 rfl
  rw [ho.2.2.2.2.1, hk.2.2.2.2.1] at g4
  have g5 := hg 5 f5 rfl
  rw [ho.2.2.2.2.2.1, hk.2.2.2.2.2.1] at g5
  have g6 := hg 6 f6 rfl
  rw [ho.2.2.2.2.2.2, hk.2.2.2.2.2.2] at g6
  match l, hl0, xs, hlen with
  | [c0, c1, c2, c3, c4, c5, c6, c7, c8, c9, c10, c11], _, [x0, x1, x2, x3, x4, x5, x6], _ =>
    obtain ⟨v0, e0, _, z0⟩ := DataW.trod_string u0 (show DataW.trod enc P w base spare held n f0.type [c0] = some x0 from g0)
    obtain ⟨v1, e1, _, _⟩ := DataW.trod_int u1 (show DataW.trod enc P w base spare held n f1.type [c1] = some x1 from g1)
    obtain ⟨v2, e2, _, _⟩ := DataW.trod_int u2 (show DataW.trod enc P w base spare held n f2.type [c2] = some x2 from g2)
    obtain ⟨v3, e3, _, _⟩ := DataW.trod_int u3 (show DataW.trod enc P w base spare held n f3.type [c3] = some x3 from g3)
    obtain ⟨v4, e4, _, _⟩ := DataW.trod_int u4 (show DataW.trod enc P w base spare held n f4.type [c4] = some x4 from g4)
    obtain ⟨v5, v5b, e5⟩ := u5 n _ _ (show DataW.trod enc P w base spare held n f5.type [c5, c6] = some x5 from g5)
    obtain ⟨v6, e6, z6⟩ := u6 n _ _ (show DataW.trod enc P w base spare held n f6.type [c7, c8, c9, c10, c11] = some x6 from g6)
    cases e0
    cases e1
    cases e2
    cases e3
    cases e4
    cases e5
    cases e6
    exact ⟨⟨v0, v1, v2, v3, v4, v5, v5b, v6⟩, rfl, z0, z6⟩
theorem aN0 {r : Reach} {b0 : Nat} {ta t : TypeId} {v : Value} {d : DataW H} {pl : List MemPlace} (ha : P.underlying ta = some (.slice t)) (hC : P.cellsOf t = 12) (hc : ∀ (fuel : Nat) (l : List Value) (x : DataW H × List MemPlace), DataW.trod enc P w base spare held fuel t l = some x → ∃ q : Nod, l = ndC q ∧ q.kd.size ≤ maxLen ∧ q.w.sh.size ≤ maxLen) (hv : Value.okWide P w r b0 ta v)
    (h : DataW.Trod enc P w base spare held ta v d pl) : ∃ A c, ∃ l : List Nod, v = .slice A l.length c ∧ Rd w A (l.flatMap ndC) ∧ (∀ x ∈ l, x.kd.size ≤ maxLen ∧ x.w.sh.size ≤ maxLen) ∧ l.length ≤ c ∧ c ≤ maxLen ∧ (A = none → l.length = 0 ∧ c = 0) := by
  obtain ⟨a, n', c, rfl⟩ := okWide_slice ha hv
  obtain ⟨fuel, hf⟩ := h
  rcases open_slice ha (show DataW.trod enc P w base spare held fuel ta [.slice a n' c] = some (d, pl) from hf) with ⟨e1, _⟩ | ⟨a', len, cap, m, q, D, Pl, e1, _, h1, h2, h3, _, hx⟩
  · cases e1
    exact ⟨none, 0, [], rfl, .inl rfl, (fun x hx => by cases hx), Nat.le_refl _, Nat.zero_le _, fun _ => ⟨rfl, rfl⟩⟩
  · cases e1
    have hm : n' ≤ m := by rw [h3]; split <;> omega
    rw [hC] at hx
    have each : ∀ i, i < n' → ∃ x : Nod, (∀ r, r < 12 → w.cell? (a'.add (i * 12 + r)) = (ndC x)[r]?) ∧ x.kd.size ≤ maxLen ∧ x.w.sh.size ≤ maxLen := fun i hi => by
      obtain ⟨cs', g1, g2⟩ := hx i (by omega)
      obtain ⟨_, g4, g5⟩ := World.cells?_some g1
      obtain ⟨p, rfl, hp⟩ := hc _ _ _ g2
      exact ⟨p, (fun r hr => by rw [← n3, g5 r hr]), hp⟩
    haveI : Inhabited Nod := ⟨zN⟩
    obtain ⟨E, hE⟩ := choose_lt each
    have hl : ((List.range n').map E).length = n' := by simp
    refine ⟨some a', c, (List.range n').map E, by rw [hl], .inr ⟨a', rfl, fun j u hu => ?_⟩, (fun x hx => ?_), by rw [hl]; exact h1, h2, (fun h => by cases h)⟩
    · have hfl := C7 (f := ndC) (s := 12) ((List.range n').map E) (fun _ _ => rfl)
      rcases Nat.lt_or_ge j (n' * 12) with hj | hj
      · have hk' : j / 12 < ((List.range n').map E).length := by rw [hl]; omega
        have hat := X1 (f := ndC) (s := 12) ((List.range n').map E) (fun _ _ => rfl) (j / 12) hk' (j % 12) (by omega)
        rw [show j / 12 * 12 + j % 12 = j by omega] at hat
        rw [hat] at hu
        have := (hE (j / 12) (by rw [hl] at hk'; exact hk')).1 (j % 12) (by omega)
        rw [show j / 12 * 12 + j % 12 = j by omega] at this
        rw [this, ← hu]
        simp
      · rw [List.getElem?_eq_none (by rw [hfl, hl]; exact hj)] at hu
        cases hu
    · obtain ⟨i, hi, rfl⟩ := List.mem_map.1 hx
      exact (hE i (List.mem_range.1 hi)).2
end
theorem aM8 {W : World} {name : String} {rest : List (String × DataW Unit)} {t : TypeId} (hg : Tryz.prog.globalNamed name = some 0) (hty : (Tryz.prog.globals[0]?).map (·.type) = some t) (ht : Tryz.prog.underlying t = some (.array 3 9)) (hct : Tryz.prog.cellsOf t = 3) (hce : Tryz.prog.cellsOf 9 = 1)
    (h : laidMet Tryz.prog ((name, .agg [.lit (.string bHalf.data.toList), .lit (.string bBox.data.toList), .lit (.string bDia.data.toList)]) :: rest) W) : Sh W := by
  obtain ⟨ps, ⟨g', t', cs, fuel, p, q, hg', ht', hvar, hd, _, _⟩, _⟩ := h
  obtain rfl := Option.some.inj (hg.symm.trans hg')
  obtain rfl := Option.some.inj (hty.symm.trans ht')
  obtain ⟨xs, m, _, hx, hl, hlen, hel⟩ := DataW.trod_array ht hd
  rw [hce] at hel
  have hx1 : xs.map (·.1) = [.lit (.string bHalf.data.toList), .lit (.string bBox.data.toList), .lit (.string bDia.data.toList)] := by
    have := congrArg Prod.fst hx
    simp only [DataW.agg.injEq] at this
    exact this.symm
  obtain ⟨l⟩ := cs
  rw [hct] at hl
  have g0 := hel 0 (by omega)
  have g1 := hel 1 (by omega)
  have g2 := hel 2 (by omega)
  have hl' : l.length = 3 := hl
  match l, hl', xs, hlen, hx1, g0, g1, g2 with
  | [a, b, c], _, [x0, x1, x2], _, hx1, g0, g1, g2 =>
    simp only [List.map_cons, List.map_nil, List.cons.injEq, and_true] at hx1
    obtain ⟨e0, e1, e2⟩ := hx1
    obtain ⟨s0, q0, y0, _⟩ := DataW.trod_string Tryz.underlying9 (show DataW.trod _ Tryz.prog _ _ _ _ m 9 [a] = some x0 from g0)
    obtain ⟨s1, q1, y1, _⟩ := DataW.trod_string Tryz.underlying9 (show DataW.trod _ Tryz.prog _ _ _ _ m 9 [b] = some x1 from g1)
    obtain ⟨s2, q2, y2, _⟩ := DataW.trod_string Tryz.underlying9 (show DataW.trod _ Tryz.prog _ _ _ _ m 9 [c] = some x2 from g2)
    subst y0 y1 y2
    injection e0 with e0
    injection e0 with e0
    injection e1 with e1
    injection e1 with e1
    injection e2 with e2
    injection e2 with e2
    have f0 : s0 = bHalf := ByteArray.ext (Array.ext' e0)
    have f1 : s1 = bBox := ByteArray.ext (Array.ext' e1)
    have f2 : s2 = bDia := ByteArray.ext (Array.ext' e2)
    subst f0 f1 f2
    cases q0
    cases q1
    cases q2
    refine .inr ⟨_, rfl, fun j u hu => ?_⟩
    rw [Addr.add_mid, Nat.zero_add]
    have := World.var?_cell hg hvar j
    rw [this]
    rcases j with _ | _ | _ | j <;> simp_all
end Go.Proofs.YtjkgklhjbopoaaaGreatDoor
