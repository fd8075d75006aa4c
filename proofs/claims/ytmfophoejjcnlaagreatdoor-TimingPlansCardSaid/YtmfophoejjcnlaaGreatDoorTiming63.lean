/- Plain laws: windows are the same by both roads. -/
import Derived.Test.YtmfophoejjcnlaaGreatDoorTiming62
import Derived.Test.YtmfophoejjcnlaaGreatDoorTiming59
namespace Go.Proofs.YtmfophoejjcnlaaGreatDoor
open Go.E Go.RowKit
attribute [local irreducible] G C S D Calls
set_option maxRecDepth 100000
set_option linter.unusedSimpArgs false
set_option linter.unusedVariables false

section
variable {es : List Edg} {nn : Nat}
/-- Most times, by walks to the reference. -/
def MInv (es : List Edg) (nn : Nat) (st : WSt) : Prop := st.1.length = nn ∧ st.2.length = nn ∧ (gB st.2 0 = true ∧ gT st.1 0 ≤ 0) ∧ ∀ v, v < nn → gB st.2 v = true → ∃ k, Wk (Ar es nn) v k 0 (0 - gT st.1 v)
def MLe (a b : WSt) : Prop := ∀ v, gB a.2 v = true → gB b.2 v = true ∧ gT b.1 v ≤ gT a.1 v
theorem MLe.trans {a b c : WSt} (h1 : MLe a b) (h2 : MLe b c) : MLe a c := fun v hv => by
  have a1 := h1 v hv
  have a2 := h2 v a1.1
  exact ⟨a2.1, by omega⟩
theorem m_set {st : WSt} {x y : Nat} {b m : Int} (hxn : x < nn) (hyn : y < nn) (h : MInv es nn st) (hA : Ar es nn y x b) (hm : m = gT st.1 x - b) (hk : gB st.2 x = true) (hc : gB st.2 y = true → m < gT st.1 y) :
    MInv es nn (st.1.set y m, st.2.set y true) ∧ MLe st (st.1.set y m, st.2.set y true) ∧ gB (st.2.set y true) y = true ∧ gT (st.1.set y m) y = m := by
  obtain ⟨h1, h2, ⟨h3, h4⟩, h5⟩ := h
  have g1 : ∀ v, gT (st.1.set y m) v = if v = y then m else gT st.1 v := fun v => by
    rw [gT_set]
    by_cases hv : v = y
    · rw [if_pos ⟨hv, by rw [h1]; exact hyn⟩, if_pos hv]
    · rw [if_neg (fun h => hv h.1), if_neg hv]
  have g2 : ∀ v, gB (st.2.set y true) v = if v = y then true else gB st.2 v := fun v => by
    rw [gB_set]
    by_cases hv : v = y
    · rw [if_pos ⟨hv, by rw [h2]; exact hyn⟩, if_pos hv]
    · rw [if_neg (fun h => hv h.1), if_neg hv]
  refine ⟨⟨by simp [h1], by simp [h2], ⟨?_, ?_⟩, fun v hv hb => ?_⟩, fun v hv => ⟨?_, ?_⟩, ?_, ?_⟩
  · dsimp only; rw [g2]; split
    · rfl
    · exact h3
  · dsimp only; rw [g1]; split
    · rename_i h0
      subst h0
      have := hc h3
      omega
    · exact h4
  · dsimp only at hb ⊢
    rw [g2] at hb
    rw [g1]
    split
    · rename_i hvy
      subst hvy
      obtain ⟨k, hk'⟩ := h5 x hxn hk
      have := wk_cons hA hk'
      rw [show b + (0 - gT st.1 x) = 0 - m by omega] at this
      exact ⟨k + 1, this⟩
    · rename_i hvy
      rw [if_neg hvy] at hb
      exact h5 v hv hb
  · dsimp only; rw [g2]; split
    · rfl
    · exact hv
  · dsimp only; rw [g1]; split
    · rename_i hvy
      subst hvy
      have := hc hv
      omega
    · exact Int.le_refl _
  · rw [g2, if_pos rfl]
  · rw [g1, if_pos rfl]
theorem wx1_m (hE : ∀ e ∈ es, EdOk nn e) {e : Edg} (he : e ∈ es) {st : WSt} (h : MInv es nn st) : MInv es nn (wx1 st e) ∧ MLe st (wx1 st e) ∧ (gB st.2 e.F.toNat = true → gB (wx1 st e).2 e.T.toNat = true ∧ gT (wx1 st e).1 e.T.toNat ≤ gT st.1 e.F.toNat + e.H) := by
  have ok := hE e he
  obtain ⟨x, hx⟩ := toNat_eq ok.F.1
  obtain ⟨y, hy⟩ := toNat_eq ok.T.1
  have hA := (Ar_iff hE).2 (.inr (.inl ⟨e, he, hy, hx, rfl⟩) : _ ∨ (∃ e' ∈ es, e'.T = y ∧ e'.F = x ∧ 0 - e.H = 0 - e'.H) ∨ _)
  have hxn : x < nn := by have := ok.F; omega
  have hyn : y < nn := by have := ok.T; omega
  unfold wx1
  rw [hx, hy, Int.toNat_natCast, Int.toNat_natCast]
  split
  · rename_i hc
    unfold wc1 at hc
    rw [hx, hy, Int.toNat_natCast, Int.toNat_natCast] at hc
    simp only [Bool.and_eq_true, Bool.or_eq_true, Bool.not_eq_true', decide_eq_true_eq] at hc
    obtain ⟨g1, g2, g3, g4⟩ := m_set (m := gT st.1 x + e.H) hxn hyn h hA (by omega) hc.1 (fun hb => by
      rcases hc.2 with h' | h'
      · rw [hb] at h'; cases h'
      · exact h')
    exact ⟨g1, g2, fun _ => ⟨g3, by rw [g4]; exact Int.le_refl _⟩⟩
  · rename_i hc
    refine ⟨h, fun v hv => ⟨hv, Int.le_refl _⟩, fun hb => ?_⟩
    unfold wc1 at hc
    rw [hx, hy, Int.toNat_natCast, Int.toNat_natCast] at hc
    simp only [hb, Bool.true_and, Bool.or_eq_true, Bool.not_eq_true', decide_eq_true_eq, not_or, Bool.not_eq_false] at hc
    exact ⟨hc.1, by omega⟩
theorem wx2_m (hE : ∀ e ∈ es, EdOk nn e) {e : Edg} (he : e ∈ es) {st : WSt} (h : MInv es nn st) : MInv es nn (wx2 st e) ∧ MLe st (wx2 st e) ∧ (gB st.2 e.T.toNat = true → gB (wx2 st e).2 e.F.toNat = true ∧ gT (wx2 st e).1 e.F.toNat ≤ gT st.1 e.T.toNat - e.L) := by
  have ok := hE e he
  obtain ⟨x, hx⟩ := toNat_eq ok.F.1
  obtain ⟨y, hy⟩ := toNat_eq ok.T.1
  have hA := (Ar_iff hE).2 (.inl ⟨e, he, hx, hy, rfl⟩ : (∃ e' ∈ es, e'.F = x ∧ e'.T = y ∧ e.L = e'.L) ∨ _)
  have hxn : x < nn := by have := ok.F; omega
  have hyn : y < nn := by have := ok.T; omega
  unfold wx2
  rw [hx, hy, Int.toNat_natCast, Int.toNat_natCast]
  split
  · rename_i hc
    unfold wc2 at hc
    rw [hx, hy, Int.toNat_natCast, Int.toNat_natCast] at hc
    simp only [Bool.and_eq_true, Bool.or_eq_true, Bool.not_eq_true', decide_eq_true_eq] at hc
    obtain ⟨g1, g2, g3, g4⟩ := m_set (m := gT st.1 y - e.L) hyn hxn h hA (by omega) hc.1 (fun hb => by
      rcases hc.2 with h' | h'
      · rw [hb] at h'; cases h'
      · exact h')
    exact ⟨g1, g2, fun _ => ⟨g3, by rw [g4]; exact Int.le_refl _⟩⟩
  · rename_i hc
    refine ⟨h, fun v hv => ⟨hv, Int.le_refl _⟩, fun hb => ?_⟩
    unfold wc2 at hc
    rw [hx, hy, Int.toNat_natCast, Int.toNat_natCast] at hc
    simp only [hb, Bool.true_and, Bool.or_eq_true, Bool.not_eq_true', decide_eq_true_eq, not_or, Bool.not_eq_false] at hc
    exact ⟨hc.1, by omega⟩
theorem wxE_m (hE : ∀ e ∈ es, EdOk nn e) {e : Edg} (he : e ∈ es) {st : WSt} (h : MInv es nn st) : MInv es nn (wxE st e) ∧ MLe st (wxE st e) ∧ (gB st.2 e.F.toNat = true → gB (wxE st e).2 e.T.toNat = true ∧ gT (wxE st e).1 e.T.toNat ≤ gT st.1 e.F.toNat + e.H) ∧ (gB st.2 e.T.toNat = true → gB (wxE st e).2 e.F.toNat = true ∧ gT (wxE st e).1 e.F.toNat ≤ gT st.1 e.T.toNat - e.L) := by
  obtain ⟨a1, a2, a3⟩ := wx1_m hE he h
  obtain ⟨b1, b2, b3⟩ := wx2_m hE he a1
  refine ⟨b1, a2.trans b2, fun hb => ?_, fun hb => ?_⟩
  · have c1 := a3 hb
    have c2 := b2 _ c1.1
    exact ⟨c2.1, by unfold wxE; omega⟩
  · have c1 := a2 _ hb
    have c2 := b3 c1.1
    exact ⟨c2.1, by unfold wxE; omega⟩
theorem foldW_m (hE : ∀ e ∈ es, EdOk nn e) : ∀ (l : List Edg), (∀ e ∈ l, e ∈ es) → ∀ {st : WSt}, MInv es nn st → MInv es nn (l.foldl wxE st) ∧ MLe st (l.foldl wxE st) ∧ ∀ e ∈ l, (gB st.2 e.F.toNat = true → gB (l.foldl wxE st).2 e.T.toNat = true ∧ gT (l.foldl wxE st).1 e.T.toNat ≤ gT st.1 e.F.toNat + e.H) ∧ (gB st.2 e.T.toNat = true → gB (l.foldl wxE st).2 e.F.toNat = true ∧ gT (l.foldl wxE st).1 e.F.toNat ≤ gT st.1 e.T.toNat - e.L)
  | [], _, st, h => ⟨h, fun v hv => ⟨hv, Int.le_refl _⟩, fun e h => by cases h⟩
  | e :: l, hl, st, h => by
    obtain ⟨a1, a2, a3, a4⟩ := wxE_m hE (hl e (by simp)) h
    obtain ⟨b1, b2, b3⟩ := foldW_m hE l (fun x hx => hl x (by simp [hx])) a1
    rw [List.foldl_cons]
    refine ⟨b1, a2.trans b2, fun x hx => ?_⟩
    rcases List.mem_cons.1 hx with rfl | hx
    · refine ⟨fun hb => ?_, fun hb => ?_⟩
      · have c1 := a3 hb
        have c2 := b2 _ c1.1
        exact ⟨c2.1, by omega⟩
      · have c1 := a4 hb
        have c2 := b2 _ c1.1
        exact ⟨c2.1, by omega⟩
    · have d := b3 x hx
      refine ⟨fun hb => ?_, fun hb => ?_⟩
      · have c1 := a2 _ hb
        have c2 := d.1 c1.1
        exact ⟨c2.1, by omega⟩
      · have c1 := a2 _ hb
        have c2 := d.2 c1.1
        exact ⟨c2.1, by omega⟩
theorem wxR_s (es : List Edg) (nn r : Nat) : wxR es nn (r + 1) = es.foldl wxE (wxR es nn r) := by
  rw [wxR_succ]
  unfold wxI
  rw [List.take_length]
theorem wx_ok (hE : ∀ e ∈ es, EdOk nn e) (hn : 0 < nn) {p : Nat → Int} (hp : Pot es nn p) : ∀ r : Nat, MInv es nn (wxR es nn r) ∧ ∀ k v s, k ≤ r → Wk (Ar es nn) v k 0 s → gB (wxR es nn r).2 v = true ∧ gT (wxR es nn r).1 v ≤ 0 - s
  | 0 => by
    have hz : ∀ v, gT (wxR es nn 0).1 v = 0 := fun v => by
      unfold gT wxR wx0
      rcases Nat.lt_or_ge v nn with h | h <;> simp [h]
    have hb : ∀ v, gB (wxR es nn 0).2 v = if v = 0 then true else false := fun v => by
      show gB ((List.replicate nn false).set 0 true) v = _
      rw [gB_set]
      by_cases h : v = 0
      · rw [if_pos ⟨h, by simpa using hn⟩, if_pos h]
      · rw [if_neg (fun h' => h h'.1), if_neg h]
        unfold gB
        rcases Nat.lt_or_ge v nn with h | h <;> simp [h]
    refine ⟨⟨by simp [wxR, wx0], by simp [wxR, wx0], ⟨by rw [hb, if_pos rfl], by rw [hz]; omega⟩, fun v hv h => ?_⟩, fun k v s hk hw => ?_⟩
    · rw [hb] at h
      split at h
      · rename_i h0
        subst h0
        rw [hz]
        exact ⟨0, wk_nil _ _⟩
      · cases h
    · obtain rfl : k = 0 := by omega
      obtain ⟨h1, rfl⟩ := wk_zero hw
      subst h1
      rw [hb, hz, if_pos rfl]
      exact ⟨rfl, by omega⟩
  | r + 1 => by
    obtain ⟨h1, h2⟩ := wx_ok hE hn hp r
    obtain ⟨g1, g2, g3⟩ := foldW_m hE es (fun e h => h) h1
    rw [wxR_s]
    refine ⟨g1, fun k v s hk hw => ?_⟩
    cases k with
    | zero =>
      have a1 := h2 0 v s (Nat.zero_le _) hw
      have a2 := g2 v a1.1
      exact ⟨a2.1, by omega⟩
    | succ k =>
      obtain ⟨u, b, s', w1, w2, rfl⟩ := wk_first hw
      have a1 := h2 k u s' (by omega) w2
      rcases (Ar_iff hE).1 w1 with ⟨e, he, c1, c2, rfl⟩ | ⟨e, he, c1, c2, rfl⟩ | ⟨rfl, c2, rfl⟩
      · have := (g3 e he).2
        rw [c1, c2, Int.toNat_natCast, Int.toNat_natCast] at this
        have := this a1.1
        exact ⟨this.1, by omega⟩
      · have := (g3 e he).1
        rw [c1, c2, Int.toNat_natCast, Int.toNat_natCast] at this
        have := this a1.1
        exact ⟨this.1, by omega⟩
      · have := wk_pot hp hw
        exact ⟨g1.2.2.1.1, by have := g1.2.2.1.2; omega⟩
theorem win_eq {names : List ByteArray} {i : Int} (hW : windowE names es i = 0) : windowR names es i = rwinR es names.length i.toNat := by
  obtain ⟨hN, hi0, hi1⟩ := windowE_ok hW
  have ok := netF_ok hN
  have hpl := plan_eq hN
  obtain ⟨f, rfl⟩ := toNat_eq hi0
  have hf : f < names.length := by omega
  unfold windowR rwinR
  rw [if_neg (by simp [hW]), Int.toNat_natCast]
  by_cases h0 : 0 ≤ (longW es names.length 0).2
  · rw [if_pos h0]
    have : isPlanB es (rlxR es names.length (names.length + 1)) = false := by
      cases hP : isPlanB es (rlxR es names.length (names.length + 1))
      · rfl
      · exfalso
        have hb := rlxR_bd ok.e ok.m (names.length + 1)
        have := ((isPlan_iff ok.e ok.n0 fun k => (hb k).1).1 hP).1
        exact (long_pot ok.e ok.n0 ok.n ok.m ok.n0 this).1 h0
    rw [this]
    rfl
  · have hp := pot_of_end ok.e ok.n0 ok.n ok.m h0
    obtain ⟨h1, h2⟩ := plan_pot ok.e ok.n0 ok.n ok.m hp
    obtain ⟨_, l2, l3⟩ := long_pot ok.e ok.n0 ok.n ok.m hf hp
    obtain ⟨m1, m2⟩ := wx_ok ok.e ok.n0 hp (names.length + 1)
    have hlt : ∀ u v b, Ar es names.length u v b → v < names.length := fun u v b h => (Ar_bd ok.e ok.n0 h).1
    have all : ∀ k s, Wk (Ar es names.length) f k 0 s → gB (wxR es names.length (names.length + 1)).2 f = true ∧ gT (wxR es names.length (names.length + 1)).1 f ≤ 0 - s := fun k s hw => by
      obtain ⟨k', s', hk', hs', hw'⟩ := wk_short hp hlt hf k k (Nat.le_refl _) hw
      have := m2 k' f s' (by omega) hw'
      exact ⟨this.1, by omega⟩
    rw [if_neg h0, h1]
    cases hk : gB (wxR es names.length (names.length + 1)).2 f
    · have hR : (gS (longW es names.length f).1 0).R = false := by
        cases hr : (gS (longW es names.length f).1 0).R
        · rfl
        · exfalso
          obtain ⟨k, hw⟩ := l2 0 ok.n0 hr
          rw [(all k _ hw).1] at hk
          cases hk
      rw [if_pos hR]
      rfl
    · obtain ⟨k, hw⟩ := m1.2.2.2 f hf hk
      have a1 := l3 k 0 _ hw
      obtain ⟨k', hw'⟩ := l2 0 ok.n0 a1.1
      have a2 := (all k' _ hw').2
      have hb := (wxR_ok ok.e ok.m (names.length + 1)).2.2 f
      have hn12 := ok.n
      have e : 0 - (gS (longW es names.length f).1 0).S = gT (wxR es names.length (names.length + 1)).1 f := by omega
      have hw64 : IntKind.i64.wrap (gT (wxR es names.length (names.length + 1)).1 f) = gT (wxR es names.length (names.length + 1)).1 f := inR_wrap (by simp only [inR]; omega)
      rw [if_neg (by rw [a1.1]; simp), e, hw64]
      have hfl : f < (longW es names.length 0).1.length := by rw [longW_len]; exact hf
      have hg : gT (rlxR es names.length (names.length + 1)) f = (gS (longW es names.length 0).1 f).S := by
        rw [h2, gT_at (by rw [List.length_map]; exact hfl), List.getElem_map, ← gS_at hfl]
      rw [hg]
      rfl
end

end Go.Proofs.YtmfophoejjcnlaaGreatDoor
