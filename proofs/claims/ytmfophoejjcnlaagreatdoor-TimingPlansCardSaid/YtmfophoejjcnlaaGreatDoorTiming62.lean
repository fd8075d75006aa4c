/- Plain laws: the least plan is the same by both roads. -/
import Derived.Test.YtmfophoejjcnlaaGreatDoorTiming61
import Derived.Test.YtmfophoejjcnlaaGreatDoorTiming58
import Derived.Test.YtmfophoejjcnlaaGreatDoorTiming25
namespace Go.Proofs.YtmfophoejjcnlaaGreatDoor
open Go.E Go.RowKit
attribute [local irreducible] G C S D Calls
set_option maxRecDepth 100000
set_option linter.unusedSimpArgs false
set_option linter.unusedVariables false

section
variable {es : List Edg} {nn : Nat}
theorem Ar_iff (hE : ∀ e ∈ es, EdOk nn e) {u v : Nat} {b : Int} : Ar es nn u v b ↔ (∃ e ∈ es, e.F = u ∧ e.T = v ∧ b = e.L) ∨ (∃ e ∈ es, e.T = u ∧ e.F = v ∧ b = 0 - e.H) ∨ (u = 0 ∧ v < nn ∧ b = 0) := by
  have f0 : ∀ k : Nat, endsF es ⟨k, false, 0⟩ = ((gE es k).F, (gE es k).T) ∧ boundF es ⟨k, false, 0⟩ = (gE es k).L := fun k => by
    unfold endsF boundF
    simp only [if_neg (show ¬ ((k : Int) < 0) by omega), Int.toNat_natCast]
    simp
  have f1 : ∀ k : Nat, endsF es ⟨k, true, 0⟩ = ((gE es k).T, (gE es k).F) ∧ boundF es ⟨k, true, 0⟩ = 0 - (gE es k).H := fun k => by
    unfold endsF boundF
    simp only [if_neg (show ¬ ((k : Int) < 0) by omega), Int.toNat_natCast]
    simp
  have f2 : ∀ j : Nat, endsF es ⟨-1, false, j⟩ = (0, (j : Int)) ∧ boundF es ⟨-1, false, j⟩ = 0 := fun j => by
    unfold endsF boundF
    simp
  constructor
  · rintro ⟨a, ha, h1, h2⟩
    unfold leavingF preJ at ha
    simp only [List.mem_append, List.mem_flatMap, List.mem_range, List.mem_filter, List.take_zero, List.filter_nil, List.not_mem_nil, or_false] at ha
    rcases ha with ⟨k, hk, h, hl⟩ | ha
    · simp only [List.mem_cons, List.mem_nil_iff, or_false] at h
      have hg := gE_at hk
      have hm := List.getElem_mem hk
      unfold lvc at hl
      rw [beq_iff_eq] at hl
      rcases h with rfl | rfl
      · have e : arcK k 0 = ⟨k, false, 0⟩ := rfl
        rw [e, (f0 k).1] at h1 hl
        rw [e, (f0 k).2] at h2
        rw [hg] at h1 h2 hl
        exact .inl ⟨_, hm, hl, h1, h2.symm⟩
      · have e : arcK k 1 = ⟨k, true, 0⟩ := rfl
        rw [e, (f1 k).1] at h1 hl
        rw [e, (f1 k).2] at h2
        rw [hg] at h1 h2 hl
        exact .inr (.inl ⟨_, hm, hl, h1, h2.symm⟩)
    · split at ha
      · rename_i h0
        obtain ⟨j, hj, rfl⟩ := List.mem_map.1 ha
        rw [(f2 j).1] at h1
        rw [(f2 j).2] at h2
        have hj' := List.mem_range.1 hj
        dsimp only at h1
        exact .inr (.inr ⟨by omega, by omega, h2.symm⟩)
      · cases ha
  · have hmem : ∀ (k : Nat) (a : Arc), k < es.length → a ∈ [arcK k 0, arcK k 1] → (endsF es a).1 = (u : Int) → a ∈ leavingF es nn u := fun k a hk ha hl => by
      unfold leavingF preJ
      simp only [List.mem_append, List.mem_flatMap, List.mem_range, List.mem_filter, List.take_zero, List.filter_nil, List.not_mem_nil, or_false]
      exact .inl ⟨k, hk, ha, by unfold lvc; rw [beq_iff_eq]; exact hl⟩
    rintro (⟨e, he, h1, h2, h3⟩ | ⟨e, he, h1, h2, h3⟩ | ⟨h1, h2, h3⟩)
    · obtain ⟨k, hk, rfl⟩ := List.getElem_of_mem he
      have hg := gE_at hk
      refine ⟨arcK k 0, hmem k _ hk (by simp) ?_, ?_, ?_⟩
      · show (endsF es ⟨k, false, 0⟩).1 = _
        rw [(f0 k).1, hg]; exact h1
      · show (endsF es ⟨k, false, 0⟩).2 = _
        rw [(f0 k).1, hg]; exact h2
      · show boundF es ⟨k, false, 0⟩ = _
        rw [(f0 k).2, hg, h3]
    · obtain ⟨k, hk, rfl⟩ := List.getElem_of_mem he
      have hg := gE_at hk
      refine ⟨arcK k 1, hmem k _ hk (by simp) ?_, ?_, ?_⟩
      · show (endsF es ⟨k, true, 0⟩).1 = _
        rw [(f1 k).1, hg]; exact h1
      · show (endsF es ⟨k, true, 0⟩).2 = _
        rw [(f1 k).1, hg]; exact h2
      · show boundF es ⟨k, true, 0⟩ = _
        rw [(f1 k).2, hg, h3]
    · subst h1; subst h3
      refine ⟨⟨-1, false, v⟩, ?_, by rw [(f2 v).1], (f2 v).2⟩
      unfold leavingF
      rw [List.mem_append]
      refine .inr ?_
      rw [if_pos (show ((0 : Nat) : Int) = 0 from rfl)]
      exact List.mem_map.2 ⟨v, List.mem_range.2 h2, rfl⟩
theorem Ar_u (hE : ∀ e ∈ es, EdOk nn e) (hn : 0 < nn) {u v : Nat} {b : Int} (h : Ar es nn u v b) : u < nn := by
  rcases (Ar_iff hE).1 h with ⟨e, he, h1, _⟩ | ⟨e, he, h1, _⟩ | ⟨h1, _⟩
  · have := (hE e he).F; omega
  · have := (hE e he).T; omega
  · omega
theorem isPlan_iff (hE : ∀ e ∈ es, EdOk nn e) (hn : 0 < nn) {ts : List Int} (h0 : ∀ k, 0 ≤ gT ts k) : isPlanB es ts = true ↔ Pot es nn (gT ts) ∧ gT ts 0 = 0 := by
  have e : isPlanB es ts = true ↔ (∀ e ∈ es, e.L ≤ setF ts e ∧ setF ts e ≤ e.H) ∧ gT ts 0 = 0 := by
    unfold isPlanB
    rw [Bool.not_eq_true', Bool.or_eq_false_iff, List.any_eq_false, bne_eq_false_iff_eq]
    constructor
    · rintro ⟨h1, h2⟩
      refine ⟨fun e he => ?_, h2⟩
      have := h1 e he
      unfold offF at this
      rw [bne_iff_ne, ne_eq, Classical.not_not, wi_eq] at this
      exact this
    · rintro ⟨h1, h2⟩
      refine ⟨fun e he => ?_, h2⟩
      unfold offF
      rw [bne_iff_ne, ne_eq, Classical.not_not, wi_eq]
      exact h1 e he
  rw [e]
  unfold setF
  constructor
  · rintro ⟨h1, h2⟩
    refine ⟨fun u v b hA => ?_, h2⟩
    rcases (Ar_iff hE).1 hA with ⟨e, he, a1, a2, rfl⟩ | ⟨e, he, a1, a2, rfl⟩ | ⟨rfl, a2, rfl⟩
    · have := h1 e he
      rw [a1, a2, Int.toNat_natCast, Int.toNat_natCast] at this
      omega
    · have := h1 e he
      rw [a1, a2, Int.toNat_natCast, Int.toNat_natCast] at this
      omega
    · have := h0 v
      omega
  · rintro ⟨h1, h2⟩
    refine ⟨fun e he => ?_, h2⟩
    have ok := hE e he
    obtain ⟨x, hx⟩ := toNat_eq ok.F.1
    obtain ⟨y, hy⟩ := toNat_eq ok.T.1
    have a1 := h1 x y e.L ((Ar_iff hE).2 (.inl ⟨e, he, hx, hy, rfl⟩))
    have a2 := h1 y x (0 - e.H) ((Ar_iff hE).2 (.inr (.inl ⟨e, he, hy, hx, rfl⟩)))
    rw [hx, hy, Int.toNat_natCast, Int.toNat_natCast]
    omega
/-- Times that walks from the reference give. -/
def TInv (es : List Edg) (nn : Nat) (ts : List Int) : Prop := ts.length = nn ∧ (∀ k, 0 ≤ gT ts k) ∧ ∀ v, v < nn → ∃ k, Wk (Ar es nn) 0 k v (gT ts v)
def TLe (a b : List Int) : Prop := ∀ v, gT a v ≤ gT b v
theorem rlxE_ok (hE : ∀ e ∈ es, EdOk nn e) {e : Edg} (he : e ∈ es) {ts : List Int} (h : TInv es nn ts) : TInv es nn (rlxE ts e) ∧ TLe ts (rlxE ts e) ∧ gT ts e.F.toNat + e.L ≤ gT (rlxE ts e) e.T.toNat ∧ gT ts e.T.toNat - e.H ≤ gT (rlxE ts e) e.F.toNat := by
  have ok := hE e he
  obtain ⟨x, hx⟩ := toNat_eq ok.F.1
  obtain ⟨y, hy⟩ := toNat_eq ok.T.1
  have hxn : x < nn := by have := ok.F; omega
  have hyn : y < nn := by have := ok.T; omega
  have hxy : x ≠ y := fun e' => ok.FT (by omega)
  have hA1 := (Ar_iff hE).2 (.inl ⟨e, he, hx, hy, rfl⟩ : (∃ e' ∈ es, e'.F = x ∧ e'.T = y ∧ e.L = e'.L) ∨ _)
  have hA2 := (Ar_iff hE).2 (.inr (.inl ⟨e, he, hy, hx, rfl⟩) : _ ∨ (∃ e' ∈ es, e'.T = y ∧ e'.F = x ∧ 0 - e.H = 0 - e'.H) ∨ _)
  have e1 : rlx1 ts e = ts.set y (max (gT ts y) (gT ts x + e.L)) := by unfold rlx1; rw [hx, hy, Int.toNat_natCast, Int.toNat_natCast]
  have g1 : ∀ v, gT (rlx1 ts e) v = if v = y then max (gT ts y) (gT ts x + e.L) else gT ts v := fun v => by
    rw [e1, gT_set]
    by_cases hv : v = y
    · rw [if_pos ⟨hv, by rw [h.1]; exact hyn⟩, if_pos hv]
    · rw [if_neg (fun h => hv h.1), if_neg hv]
  have e2 : rlxE ts e = (rlx1 ts e).set x (max (gT (rlx1 ts e) x) (gT (rlx1 ts e) y - e.H)) := by unfold rlxE rlx2; rw [hx, hy, Int.toNat_natCast, Int.toNat_natCast]
  have g2 : ∀ v, gT (rlxE ts e) v = if v = x then max (gT ts x) (max (gT ts y) (gT ts x + e.L) - e.H) else gT (rlx1 ts e) v := fun v => by
    rw [e2, gT_set, g1 x, g1 y, if_neg hxy, if_pos rfl]
    by_cases hv : v = x
    · rw [if_pos ⟨hv, by rw [rlx1_len, h.1]; exact hxn⟩, if_pos hv]
    · rw [if_neg (fun h => hv h.1), if_neg hv]
  have w1 : ∃ k, Wk (Ar es nn) 0 k y (max (gT ts y) (gT ts x + e.L)) := by
    rcases Int.le_total (gT ts x + e.L) (gT ts y) with hle | hle
    · rw [Int.max_eq_left hle]; exact h.2.2 y hyn
    · rw [Int.max_eq_right hle]
      obtain ⟨k, hk⟩ := h.2.2 x hxn
      exact ⟨k + 1, wk_snoc hk hA1⟩
  refine ⟨⟨by rw [rlxE_len, h.1], fun k => ?_, fun v hv => ?_⟩, fun v => ?_, ?_, ?_⟩
  · have := h.2.1 k
    have := h.2.1 x
    have := h.2.1 y
    rw [g2]
    split
    · omega
    · rw [g1]; split <;> omega
  · rw [g2]
    split
    · rename_i hvx
      rw [hvx]
      rcases Int.le_total (max (gT ts y) (gT ts x + e.L) - e.H) (gT ts x) with hle | hle
      · rw [Int.max_eq_left hle]; exact h.2.2 x hxn
      · rw [Int.max_eq_right hle]
        obtain ⟨k, hk⟩ := w1
        have := wk_snoc hk hA2
        rw [show max (gT ts y) (gT ts x + e.L) + (0 - e.H) = max (gT ts y) (gT ts x + e.L) - e.H by omega] at this
        exact ⟨k + 1, this⟩
    · rw [g1]
      split
      · rename_i hvy; rw [hvy]; exact w1
      · exact h.2.2 v hv
  · rw [g2]
    split
    · rename_i hvx; rw [hvx]; omega
    · rw [g1]
      split
      · rename_i hvy; rw [hvy]; omega
      · exact Int.le_refl _
  · rw [hx, hy, Int.toNat_natCast, Int.toNat_natCast, g2, if_neg (Ne.symm hxy), g1, if_pos rfl]
    omega
  · rw [hx, hy, Int.toNat_natCast, Int.toNat_natCast, g2, if_pos rfl]
    omega
theorem foldE_ok (hE : ∀ e ∈ es, EdOk nn e) : ∀ (l : List Edg), (∀ e ∈ l, e ∈ es) → ∀ {ts : List Int}, TInv es nn ts → TInv es nn (l.foldl rlxE ts) ∧ TLe ts (l.foldl rlxE ts) ∧ ∀ e ∈ l, gT ts e.F.toNat + e.L ≤ gT (l.foldl rlxE ts) e.T.toNat ∧ gT ts e.T.toNat - e.H ≤ gT (l.foldl rlxE ts) e.F.toNat
  | [], _, ts, h => ⟨h, fun v => Int.le_refl _, fun e h => by cases h⟩
  | e :: l, hl, ts, h => by
    obtain ⟨a1, a2, a3, a4⟩ := rlxE_ok hE (hl e (by simp)) h
    obtain ⟨b1, b2, b3⟩ := foldE_ok hE l (fun x hx => hl x (by simp [hx])) a1
    rw [List.foldl_cons]
    refine ⟨b1, fun v => Int.le_trans (a2 v) (b2 v), fun x hx => ?_⟩
    rcases List.mem_cons.1 hx with rfl | hx
    · have := b2 x.T.toNat
      have := b2 x.F.toNat
      omega
    · have := b3 x hx
      have := a2 x.T.toNat
      have := a2 x.F.toNat
      omega
theorem rlxR_s (es : List Edg) (nn r : Nat) : rlxR es nn (r + 1) = es.foldl rlxE (rlxR es nn r) := by
  rw [rlxR_succ]
  unfold rlxI
  rw [List.take_length]
theorem rlx_ok (hE : ∀ e ∈ es, EdOk nn e) (hn : 0 < nn) {p : Nat → Int} (hp : Pot es nn p) : ∀ r : Nat, TInv es nn (rlxR es nn r) ∧ ∀ k v s, k ≤ r → Wk (Ar es nn) 0 k v s → s ≤ gT (rlxR es nn r) v
  | 0 => by
    have hz : ∀ v, gT (rlxR es nn 0) v = 0 := fun v => by
      unfold gT rlxR
      rcases Nat.lt_or_ge v nn with h | h <;> simp [h]
    refine ⟨⟨by simp [rlxR], fun k => by rw [hz]; omega, fun v hv => ⟨1, ?_⟩⟩, fun k v s hk hw => ?_⟩
    · rw [hz]
      have := wk_snoc (wk_nil (Ar es nn) 0) ((Ar_iff hE).2 (.inr (.inr ⟨rfl, hv, rfl⟩)))
      simpa using this
    · obtain rfl : k = 0 := by omega
      obtain ⟨rfl, rfl⟩ := wk_zero hw
      rw [hz]
      exact Int.le_refl _
  | r + 1 => by
    obtain ⟨h1, h2⟩ := rlx_ok hE hn hp r
    obtain ⟨g1, g2, g3⟩ := foldE_ok hE es (fun e h => h) h1
    rw [rlxR_s]
    refine ⟨g1, fun k v s hk hw => ?_⟩
    cases k with
    | zero =>
      have := h2 0 v s (Nat.zero_le _) hw
      have := g2 v
      omega
    | succ k =>
      obtain ⟨u, b, s', w1, w2, rfl⟩ := wk_pred hw
      have a1 := h2 k u s' (by omega) w1
      rcases (Ar_iff hE).1 w2 with ⟨e, he, c1, c2, rfl⟩ | ⟨e, he, c1, c2, rfl⟩ | ⟨rfl, c2, rfl⟩
      · have := (g3 e he).1
        rw [c1, c2, Int.toNat_natCast, Int.toNat_natCast] at this
        omega
      · have := (g3 e he).2
        rw [c1, c2, Int.toNat_natCast, Int.toNat_natCast] at this
        omega
      · have := wk_pot hp w1
        have := g1.2.1 v
        omega
theorem plan_pot (hE : ∀ e ∈ es, EdOk nn e) (hn : 0 < nn) (hn12 : nn ≤ 12) (hm : es.length ≤ 24) {p : Nat → Int} (hp : Pot es nn p) :
    isPlanB es (rlxR es nn (nn + 1)) = true ∧ rlxR es nn (nn + 1) = (longW es nn 0).1.map (·.S) := by
  obtain ⟨h1, h2⟩ := rlx_ok hE hn hp (nn + 1)
  obtain ⟨l1, l2, l3⟩ := long_pot hE hn hn12 hm hn hp
  have hlt : ∀ u v b, Ar es nn u v b → v < nn := fun u v b h => (Ar_bd hE hn h).1
  have all : ∀ k v s, Wk (Ar es nn) 0 k v s → s ≤ gT (rlxR es nn (nn + 1)) v := fun k v s hw => by
    obtain ⟨k', s', hk', hs', hw'⟩ := wk_short hp hlt hn k k (Nat.le_refl _) hw
    have := h2 k' v s' (by omega) hw'
    omega
  refine ⟨(isPlan_iff hE hn h1.2.1).2 ⟨fun u v b hA => ?_, ?_⟩, ?_⟩
  · obtain ⟨k, hk⟩ := h1.2.2 u (Ar_u hE hn hA)
    exact all _ _ _ (wk_snoc hk hA)
  · obtain ⟨k, hk⟩ := h1.2.2 0 hn
    have := wk_pot hp hk
    have := h1.2.1 0
    omega
  · apply List.ext_getElem
    · rw [h1.1, List.length_map, longW_len]
    · intro i hi1 hi2
      have hin : i < nn := by rw [h1.1] at hi1; exact hi1
      have hil : i < (longW es nn 0).1.length := by rw [longW_len]; exact hin
      rw [List.getElem_map, ← gS_at hil, ← gT_at hi1]
      obtain ⟨k, hk⟩ := h1.2.2 i hin
      have a1 := l3 k i _ hk
      obtain ⟨k', hk'⟩ := l2 i hin a1.1
      have a2 := all k' i _ hk'
      omega
/-- Where the sums end, they are a potential. -/
theorem pot_of_end (hE : ∀ e ∈ es, EdOk nn e) (hn : 0 < nn) (hn12 : nn ≤ 12) (hm : es.length ≤ 24) (h0 : ¬ 0 ≤ (longW es nn 0).2) : Pot es nn fun v => (gS (longW es nn 0).1 v).S := by
  obtain ⟨h1, h2⟩ := long_end hE hn hn12 hm hn h0
  have hr : ∀ v, v < nn → (gS (longW es nn 0).1 v).R = true := fun v hv => (h2 0 v 0 hn h1 ((Ar_iff hE).2 (.inr (.inr ⟨rfl, hv, rfl⟩)))).1
  intro u v b hA
  have hu := Ar_u hE hn hA
  exact (h2 u v b hu (hr u hu) hA).2
theorem plan_eq {names : List ByteArray} (hN : netF names es = 0) : planR names es = rplanR es names.length := by
  have ok := netF_ok hN
  unfold planR rplanR
  rw [if_neg (by simp [hN])]
  by_cases h0 : 0 ≤ (longW es names.length 0).2
  · rw [if_pos h0]
    have : isPlanB es (rlxR es names.length (names.length + 1)) = false := by
      cases hP : isPlanB es (rlxR es names.length (names.length + 1))
      · rfl
      · exfalso
        have hb := rlxR_bd ok.e ok.m (names.length + 1)
        have := ((isPlan_iff ok.e ok.n0 fun k => (hb k).1).1 hP).1
        exact (long_pot ok.e ok.n0 ok.n ok.m ok.n0 this).1 h0
    rw [this]
    rfl
  · rw [if_neg h0]
    obtain ⟨h1, h2⟩ := plan_pot ok.e ok.n0 ok.n ok.m (pot_of_end ok.e ok.n0 ok.n ok.m h0)
    rw [h1, h2]
    rfl
end

end Go.Proofs.YtmfophoejjcnlaaGreatDoor
