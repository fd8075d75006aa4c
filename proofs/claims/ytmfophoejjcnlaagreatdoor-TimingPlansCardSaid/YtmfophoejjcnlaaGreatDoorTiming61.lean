/- Plain laws: the greatest sums of bounds. -/
import Derived.Test.YtmfophoejjcnlaaGreatDoorTiming24
import Derived.Test.YtmfophoejjcnlaaGreatDoorTiming60
namespace Go.Proofs.YtmfophoejjcnlaaGreatDoor
open Go.E Go.RowKit
attribute [local irreducible] G C S D Calls
set_option maxRecDepth 100000
set_option linter.unusedSimpArgs false
set_option linter.unusedVariables false

/-- An arc of the net from u to v. -/
def Ar (es : List Edg) (nn : Nat) (u v : Nat) (b : Int) : Prop := ∃ a ∈ leavingF es nn (u : Int), (endsF es a).2 = (v : Int) ∧ boundF es a = b
theorem gS_set {o : List Seen} {k j : Nat} {x : Seen} : gS (o.set k x) j = if j = k ∧ k < o.length then x else gS o j := by
  unfold gS
  rw [List.getD_eq_getElem?_getD, List.getD_eq_getElem?_getD, List.getElem?_set]
  by_cases h : k = j
  · subst h
    by_cases h2 : k < o.length
    · simp [h2]
    · simp [h2]
  · rw [if_neg h, if_neg (by omega)]
theorem preJ_len (es : List Edg) (i : Int) : ∀ k, (preJ es i k 0).length ≤ 2 * k
  | 0 => by simp [preJ]
  | k + 1 => by
    rw [← preJ_two, preJ_succ es i k (show 1 < 2 by omega), preJ_succ es i k (show 0 < 2 by omega), List.length_append, List.length_append]
    have := preJ_len es i k
    have h1 : ∀ (c : Bool) (x : Arc), (if c then [x] else []).length ≤ 1 := fun c x => by cases c <;> simp
    have := h1 (lvc es i (arcK k 0)) (arcK k 0)
    have := h1 (lvc es i (arcK k 1)) (arcK k 1)
    omega
theorem leavingF_len (es : List Edg) (nn : Nat) (i : Int) : (leavingF es nn i).length ≤ 2 * es.length + nn := by
  unfold leavingF
  rw [List.length_append]
  have := preJ_len es i es.length
  split <;> simp <;> omega
theorem boundF_bd {es : List Edg} {nn : Nat} (hE : ∀ e ∈ es, EdOk nn e) {a : Arc} (ha : arO es.length nn a) : -100000 ≤ boundF es a ∧ boundF es a ≤ 100000 := by
  unfold boundF
  split
  · omega
  · rename_i h
    have hk : a.E.toNat < es.length := by have := ha.1; unfold arOk at this; omega
    have := hE _ (List.getElem_mem hk)
    rw [gE_at hk]
    have h1 := this.L
    have h2 := this.H
    split <;> omega
section
variable {es : List Edg} {nn : Nat}
theorem Ar_bd (hE : ∀ e ∈ es, EdOk nn e) (hn : 0 < nn) {u v : Nat} {b : Int} (h : Ar es nn u v b) : v < nn ∧ (-100000 ≤ b ∧ b ≤ 100000) := by
  obtain ⟨a, ha, h1, rfl⟩ := h
  have hok := leavingF_ok es nn u a ha
  have := endsF_bd hE hok hn
  exact ⟨by omega, boundF_bd hE hok⟩
theorem wk_bd (hE : ∀ e ∈ es, EdOk nn e) (hn : 0 < nn) {f : Nat} : ∀ {k v : Nat} {s : Int}, Wk (Ar es nn) f k v s → -100000 * (k : Int) ≤ s ∧ s ≤ 100000 * k := by
  intro k
  induction k with
  | zero => intro v s h; have := (wk_zero h).2; omega
  | succ k ih =>
    intro v s h
    obtain ⟨u, b, s', h1, h2, rfl⟩ := wk_pred h
    have := ih h1
    have := (Ar_bd hE hn h2).2
    omega
/-- What was reached was reached by walks of at most c steps. -/
def LInv (es : List Edg) (nn f c : Nat) (o : List Seen) : Prop := o.length = nn ∧ ∀ v, v < nn → (gS o v).R = true → ∃ k, k ≤ c ∧ Wk (Ar es nn) f k v (gS o v).S
def Mono (o o' : List Seen) : Prop := ∀ v, (gS o v).R = true → (gS o' v).R = true ∧ (gS o v).S ≤ (gS o' v).S
/-- From one state to a later one. -/
def Ev (nn : Nat) (st st' : LSt) : Prop := Mono st.1 st'.1 ∧ (st' = st ∨ (0 ≤ st'.2 ∧ ∃ z, z < nn ∧ (gS st'.1 z).R = true ∧ ((gS st.1 z).R = true → (gS st.1 z).S < (gS st'.1 z).S)))
theorem Mono.trans {a b c : List Seen} (h1 : Mono a b) (h2 : Mono b c) : Mono a c := fun v hv => by
  have a1 := h1 v hv
  have a2 := h2 v a1.1
  exact ⟨a2.1, by omega⟩
theorem Ev.refl (st : LSt) : Ev nn st st := ⟨fun v hv => ⟨hv, Int.le_refl _⟩, .inl rfl⟩
theorem Ev.trans {a b c : LSt} (h1 : Ev nn a b) (h2 : Ev nn b c) : Ev nn a c := by
  refine ⟨h1.1.trans h2.1, ?_⟩
  rcases h2.2 with rfl | ⟨h3, z, hz, h4, h5⟩
  · exact h1.2
  · refine .inr ⟨h3, z, hz, h4, fun hr => ?_⟩
    have a1 := h1.1 z hr
    have := h5 a1.1
    omega
theorem LInv.le {f c d : Nat} {o : List Seen} (h : LInv es nn f c o) (hd : c ≤ d) : LInv es nn f d o := ⟨h.1, fun v hv hr => let ⟨k, hk, hw⟩ := h.2 v hv hr; ⟨k, by omega, hw⟩⟩
theorem relax_ok (hE : ∀ e ∈ es, EdOk nn e) (hn : 0 < nn) {f c i : Nat} (hi : i < nn) (hc : c ≤ 1000000) {st : LSt} (hI : LInv es nn f c st.1) (hr : (gS st.1 i).R = true) {a : Arc} (ha : a ∈ leavingF es nn (i : Int)) :
    LInv es nn f (c + 1) (relaxW es i st a).1 ∧ Ev nn st (relaxW es i st a) ∧ ((gS (relaxW es i st a).1 (endsF es a).2.toNat).R = true ∧ (gS st.1 i).S + boundF es a ≤ (gS (relaxW es i st a).1 (endsF es a).2.toNat).S) := by
  have hok := leavingF_ok es nn i a ha
  have hends := (endsF_bd hE hok hn).2
  have hbd := boundF_bd hE hok
  obtain ⟨k, hk, hw⟩ := hI.2 i hi hr
  have hs := wk_bd hE hn hw
  have hwr : IntKind.i64.wrap ((gS st.1 i).S + boundF es a) = (gS st.1 i).S + boundF es a := inR_wrap (by simp only [inR]; omega)
  obtain ⟨z, hz⟩ := toNat_eq hends.1
  have hzn : z < nn := by omega
  have hzt : (endsF es a).2.toNat = z := by omega
  unfold relaxW
  rw [hwr, hzt]
  have hzl : z < st.1.length := by rw [hI.1]; exact hzn
  have hw' : Wk (Ar es nn) f (k + 1) z ((gS st.1 i).S + boundF es a) := wk_snoc hw ⟨a, ha, hz, rfl⟩
  split
  · rename_i hcond
    simp only [Bool.or_eq_true, Bool.not_eq_true', decide_eq_true_eq] at hcond
    refine ⟨⟨by simp [hI.1], fun v hv hv2 => ?_⟩, ⟨fun v hv => ?_, .inr ⟨hends.1, z, hzn, ?_, fun h1 => ?_⟩⟩, ?_⟩
    · dsimp only at hv2 ⊢
      rw [gS_set] at hv2 ⊢
      by_cases hvz : v = z ∧ z < st.1.length
      · rw [if_pos hvz]
        rw [hvz.1]
        exact ⟨k + 1, by omega, hw'⟩
      · rw [if_neg hvz] at hv2 ⊢
        obtain ⟨k', hk', hw2⟩ := hI.2 v hv hv2
        exact ⟨k', by omega, hw2⟩
    · dsimp only
      rw [gS_set]
      by_cases hvz : v = z ∧ z < st.1.length
      · rw [if_pos hvz]
        obtain ⟨rfl, _⟩ := hvz
        dsimp only
        rcases hcond with h1 | h1
        · rw [hv] at h1; cases h1
        · exact ⟨rfl, by omega⟩
      · rw [if_neg hvz]
        exact ⟨hv, Int.le_refl _⟩
    · dsimp only
      rw [gS_set, if_pos ⟨rfl, hzl⟩]
    · dsimp only
      rw [gS_set, if_pos ⟨rfl, hzl⟩]
      dsimp only
      rcases hcond with h2 | h2
      · rw [h1] at h2; cases h2
      · exact h2
    · dsimp only
      rw [gS_set, if_pos ⟨rfl, hzl⟩]
      exact ⟨rfl, Int.le_refl _⟩
  · rename_i hcond
    simp only [Bool.or_eq_true, Bool.not_eq_true', decide_eq_true_eq, not_or, Bool.not_eq_false] at hcond
    exact ⟨hI.le (by omega), Ev.refl _, hcond.1, by omega⟩
theorem arcs_ok (hE : ∀ e ∈ es, EdOk nn e) (hn : 0 < nn) {f i : Nat} (hi : i < nn) : ∀ (l : List Arc), (∀ a ∈ l, a ∈ leavingF es nn (i : Int)) → ∀ {c : Nat} {st : LSt}, c + l.length ≤ 1000000 → LInv es nn f c st.1 → (gS st.1 i).R = true →
    LInv es nn f (c + l.length) (l.foldl (relaxW es i) st).1 ∧ Ev nn st (l.foldl (relaxW es i) st) ∧ ∀ a ∈ l, (gS (l.foldl (relaxW es i) st).1 (endsF es a).2.toNat).R = true ∧ (gS st.1 i).S + boundF es a ≤ (gS (l.foldl (relaxW es i) st).1 (endsF es a).2.toNat).S
  | [], _, c, st, hc, hI, hr => ⟨hI, Ev.refl _, fun a h => by cases h⟩
  | a :: l, hl, c, st, hc, hI, hr => by
    rw [List.length_cons] at hc
    obtain ⟨h1, h2, h3⟩ := relax_ok hE hn hi (by omega) hI hr (hl a (by simp))
    have hr1 := h2.1 i hr
    obtain ⟨g1, g2, g3⟩ := arcs_ok hE hn hi l (fun x hx => hl x (by simp [hx])) (c := c + 1) (by omega) h1 hr1.1
    rw [List.foldl_cons, List.length_cons]
    refine ⟨g1.le (by omega), h2.trans g2, fun x hx => ?_⟩
    rcases List.mem_cons.1 hx with rfl | hx
    · have := g2.1 _ h3.1
      exact ⟨this.1, by omega⟩
    · have := g3 x hx
      exact ⟨this.1, by omega⟩
theorem step_okW (hE : ∀ e ∈ es, EdOk nn e) (hn : 0 < nn) (hn12 : nn ≤ 12) (hm : es.length ≤ 24) {f i : Nat} (hi : i < nn) {c : Nat} {st : LSt} (hc : c ≤ 900000) (hI : LInv es nn f c st.1) :
    LInv es nn f (c + 60) (stepW es nn st i).1 ∧ Ev nn st (stepW es nn st i) ∧ ((gS st.1 i).R = true → ∀ v b, Ar es nn i v b → (gS (stepW es nn st i).1 v).R = true ∧ (gS st.1 i).S + b ≤ (gS (stepW es nn st i).1 v).S) := by
  have hll := leavingF_len es nn i
  unfold stepW
  split
  · rename_i hr
    obtain ⟨h1, h2, h3⟩ := arcs_ok hE hn hi (leavingF es nn i) (fun a h => h) (c := c) (by omega) hI hr
    refine ⟨h1.le (by omega), h2, fun _ v b ⟨a, ha, e1, e2⟩ => ?_⟩
    have := h3 a ha
    rw [e1, e2, Int.toNat_natCast] at this
    exact this
  · rename_i hr
    exact ⟨hI.le (by omega), Ev.refl _, fun h => absurd h hr⟩
theorem inn_ok (hE : ∀ e ∈ es, EdOk nn e) (hn : 0 < nn) (hn12 : nn ≤ 12) (hm : es.length ≤ 24) {f c : Nat} {o : List Seen} (hc : c ≤ 800000) (hI : LInv es nn f c o) : ∀ i, i ≤ nn →
    LInv es nn f (c + 60 * i) (innW es nn o i).1 ∧ Ev nn (o, -1) (innW es nn o i) ∧ ∀ u, u < i → (gS o u).R = true → ∀ v b, Ar es nn u v b → (gS (innW es nn o i).1 v).R = true ∧ (gS o u).S + b ≤ (gS (innW es nn o i).1 v).S
  | 0, _ => ⟨hI, Ev.refl _, fun u h => absurd h (Nat.not_lt_zero _)⟩
  | i + 1, hi => by
    obtain ⟨h1, h2, h3⟩ := inn_ok hE hn hn12 hm hc hI i (by omega)
    obtain ⟨g1, g2, g3⟩ := step_okW hE hn hn12 hm (i := i) (by omega) (by omega) h1
    rw [innW_succ]
    refine ⟨g1.le (by omega), h2.trans g2, fun u hu hr v b hA => ?_⟩
    by_cases hui : u < i
    · have a1 := h3 u hui hr v b hA
      have a2 := g2.1 v a1.1
      exact ⟨a2.1, by omega⟩
    · obtain rfl : u = i := by omega
      have a1 := h2.1 u hr
      have a2 := g3 a1.1 v b hA
      exact ⟨a2.1, by have := a1.2; dsimp only at this; omega⟩
theorem rounds_ok (hE : ∀ e ∈ es, EdOk nn e) (hn : 0 < nn) (hn12 : nn ≤ 12) (hm : es.length ≤ 24) {f : Nat} (hf : f < nn) : ∀ r, r ≤ 100 →
    LInv es nn f (60 * nn * r) (roundsW es nn f r).1 ∧ ∀ k v s, k ≤ r → Wk (Ar es nn) f k v s → (gS (roundsW es nn f r).1 v).R = true ∧ s ≤ (gS (roundsW es nn f r).1 v).S
  | 0, _ => by
    have e0 : (roundsW es nn f 0).1 = initW nn f := rfl
    have hl : f < (List.replicate nn seZ).length := by simpa using hf
    have hz : ∀ v, gS (List.replicate nn seZ) v = seZ := fun v => by
      unfold gS
      rcases Nat.lt_or_ge v nn with h | h <;> simp [h]
    rw [e0]
    unfold initW
    refine ⟨⟨by simp, fun v hv hr => ?_⟩, fun k v s hk hw => ?_⟩
    · rw [gS_set] at hr ⊢
      by_cases hvf : v = f ∧ f < (List.replicate nn seZ).length
      · rw [if_pos hvf, hvf.1]
        exact ⟨0, by omega, wk_nil _ _⟩
      · rw [if_neg hvf, hz] at hr
        cases hr
    · obtain rfl : k = 0 := by omega
      obtain ⟨rfl, rfl⟩ := wk_zero hw
      rw [gS_set, if_pos ⟨rfl, hl⟩]
      exact ⟨rfl, Int.le_refl _⟩
  | r + 1, hr => by
    obtain ⟨h1, h2⟩ := rounds_ok hE hn hn12 hm hf r (by omega)
    have hb : 60 * nn * r ≤ 60 * 12 * 100 := Nat.mul_le_mul (by omega) (by omega)
    obtain ⟨g1, g2, g3⟩ := inn_ok hE hn hn12 hm (by omega) h1 nn (Nat.le_refl _)
    rw [roundsW_succ]
    refine ⟨g1.le (by rw [Nat.mul_add]; omega), fun k v s hk hw => ?_⟩
    cases k with
    | zero =>
      have a1 := h2 0 v s (Nat.zero_le _) hw
      have a2 := g2.1 v a1.1
      exact ⟨a2.1, by have := a2.2; dsimp only at this; omega⟩
    | succ k =>
      obtain ⟨u, b, s', w1, w2, rfl⟩ := wk_pred hw
      have a1 := h2 k u s' (by omega) w1
      have hu : u < nn := wk_lt (fun u v b h => (Ar_bd hE hn h).1) hf w1
      have a2 := g3 u hu a1.1 v b w2
      exact ⟨a2.1, by omega⟩
/-- A potential: times that no arc refuses. -/
def Pot (es : List Edg) (nn : Nat) (p : Nat → Int) : Prop := ∀ u v b, Ar es nn u v b → p u + b ≤ p v
/-- What the greatest sums are, where there is a potential. -/
theorem long_pot (hE : ∀ e ∈ es, EdOk nn e) (hn : 0 < nn) (hn12 : nn ≤ 12) (hm : es.length ≤ 24) {f : Nat} (hf : f < nn) {p : Nat → Int} (hp : Pot es nn p) : ¬ 0 ≤ (longW es nn f).2 ∧
    (∀ v, v < nn → (gS (longW es nn f).1 v).R = true → ∃ k, Wk (Ar es nn) f k v (gS (longW es nn f).1 v).S) ∧ ∀ k v s, Wk (Ar es nn) f k v s → (gS (longW es nn f).1 v).R = true ∧ s ≤ (gS (longW es nn f).1 v).S := by
  obtain ⟨h1, h2⟩ := rounds_ok hE hn hn12 hm hf (nn + 1) (by omega)
  obtain ⟨h3, h4⟩ := rounds_ok hE hn hn12 hm hf nn (by omega)
  have hb : 60 * nn * nn ≤ 60 * 12 * 12 := Nat.mul_le_mul (by omega) (by omega)
  obtain ⟨g1, g2, g3⟩ := inn_ok hE hn hn12 hm (by omega) h3 nn (Nat.le_refl _)
  have hlt : ∀ u v b, Ar es nn u v b → v < nn := fun u v b h => (Ar_bd hE hn h).1
  refine ⟨fun h0 => ?_, fun v hv hr => ?_, fun k v s hw => ?_⟩
  · unfold longW at h0
    rw [roundsW_succ] at h0
    rcases g2.2 with e | ⟨_, z, hz, a1, a2⟩
    · rw [e] at h0
      exact absurd h0 (by show ¬ (0 : Int) ≤ -1; omega)
    · obtain ⟨k, _, hw⟩ := g1.2 z hz a1
      obtain ⟨k', s', hk', hs', hw'⟩ := wk_short hp hlt hf k k (Nat.le_refl _) hw
      have a3 := h4 k' z s' (by omega) hw'
      have := a2 a3.1
      dsimp only at this
      omega
  · obtain ⟨k, _, hw⟩ := h1.2 v hv hr
    exact ⟨k, hw⟩
  · obtain ⟨k', s', hk', hs', hw'⟩ := wk_short hp hlt hf k k (Nat.le_refl _) hw
    have := h2 k' v s' (by omega) hw'
    exact ⟨this.1, by have := this.2; unfold longW; omega⟩
/-- Where the sums stop growing, they are closed. -/
theorem long_end (hE : ∀ e ∈ es, EdOk nn e) (hn : 0 < nn) (hn12 : nn ≤ 12) (hm : es.length ≤ 24) {f : Nat} (hf : f < nn) (h0 : ¬ 0 ≤ (longW es nn f).2) :
    (gS (longW es nn f).1 f).R = true ∧ ∀ u v b, u < nn → (gS (longW es nn f).1 u).R = true → Ar es nn u v b → (gS (longW es nn f).1 v).R = true ∧ (gS (longW es nn f).1 u).S + b ≤ (gS (longW es nn f).1 v).S := by
  obtain ⟨h3, h4⟩ := rounds_ok hE hn hn12 hm hf nn (by omega)
  obtain ⟨_, h6⟩ := rounds_ok hE hn hn12 hm hf (nn + 1) (by omega)
  have hb : 60 * nn * nn ≤ 60 * 12 * 12 := Nat.mul_le_mul (by omega) (by omega)
  obtain ⟨g1, g2, g3⟩ := inn_ok hE hn hn12 hm (by omega) h3 nn (Nat.le_refl _)
  have eL : longW es nn f = innW es nn (roundsW es nn f nn).1 nn := by unfold longW; rw [roundsW_succ]
  refine ⟨(h6 0 f 0 (Nat.zero_le _) (wk_nil _ _)).1, fun u v b hu hr hA => ?_⟩
  rcases g2.2 with e | ⟨a0, _⟩
  · have e1 : (longW es nn f).1 = (roundsW es nn f nn).1 := by rw [eL, e]
    have := g3 u hu (by rw [← e1]; exact hr) v b hA
    rw [← eL] at this
    rw [e1] at hr ⊢
    rw [e1] at this
    exact this
  · rw [eL] at h0
    exact absurd a0 h0
end

end Go.Proofs.YtmfophoejjcnlaaGreatDoor
