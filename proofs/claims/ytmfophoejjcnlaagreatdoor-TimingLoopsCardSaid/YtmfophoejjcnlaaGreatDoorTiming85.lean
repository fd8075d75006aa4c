/- The loop that proves that there is no plan: plain laws and walk. -/
import Derived.Test.YtmfophoejjcnlaaGreatDoorTiming86
import Derived.Test.YtmfophoejjcnlaaGreatDoorTiming29
import Derived.Test.YtmfophoejjcnlaaGreatDoorTiming91
import Derived.Test.YtmfophoejjcnlaaGreatDoorEngAB
import Derived.Test.YtmfophoejjcnlaaGreatDoorEngZ
import Derived.Test.YtmfophoejjcnlaaGreatDoorTiming17
import Derived.Test.YtmfophoejjcnlaaGreatDoorEngY
import Derived.Test.YtmfophoejjcnlaaGreatDoorEng3
namespace Go.Proofs.YtmfophoejjcnlaaGreatDoor
open Go.E Go.RowKit
attribute [local irreducible] G C S D Calls
set_option maxRecDepth 100000
set_option linter.unusedSimpArgs false
set_option linter.unusedVariables false

/-- The arc of a node, the node it comes from, its bound. -/
def aS (o : List Seen) (v : Nat) : Arc := ⟨(gS o v).E, (gS o v).B, (gS o v).N⟩
def prv (es : List Edg) (o : List Seen) (v : Nat) : Nat := (endsF es (aS o v)).1.toNat
def bdv (es : List Edg) (o : List Seen) (v : Nat) : Int := boundF es (aS o v)
/-- So many arcs back, and the sum of their bounds. -/
def itv (es : List Edg) (o : List Seen) : Nat → Nat → Nat
  | 0, v => v
  | k + 1, v => itv es o k (prv es o v)
def smv (es : List Edg) (o : List Seen) : Nat → Nat → Int
  | 0, _ => 0
  | k + 1, v => bdv es o v + smv es o k (prv es o v)
section
variable {es : List Edg} {nn : Nat} {o o' : List Seen}
theorem itv_add : ∀ (a b x : Nat), itv es o (a + b) x = itv es o b (itv es o a x)
  | 0, b, x => by rw [Nat.zero_add]; rfl
  | a + 1, b, x => by rw [show a + 1 + b = (a + b) + 1 by omega]; exact itv_add a b (prv es o x)
theorem smv_add : ∀ (a b x : Nat), smv es o (a + b) x = smv es o a x + smv es o b (itv es o a x)
  | 0, b, x => by rw [Nat.zero_add]; show _ = 0 + _; rw [Int.zero_add]; rfl
  | a + 1, b, x => by
    rw [show a + 1 + b = (a + b) + 1 by omega]
    show bdv es o x + smv es o (a + b) (prv es o x) = bdv es o x + smv es o a (prv es o x) + smv es o b (itv es o a (prv es o x))
    rw [smv_add a b (prv es o x)]
    omega
theorem itv_succ (k x : Nat) : itv es o (k + 1) x = prv es o (itv es o k x) := by rw [itv_add]; rfl
theorem smv_succ (k x : Nat) : smv es o (k + 1) x = smv es o k x + bdv es o (itv es o k x) := by
  rw [smv_add]
  show smv es o k x + (bdv es o (itv es o k x) + 0) = _
  omega
theorem itv_congr {z : Nat} (h : ∀ v, v ≠ z → prv es o' v = prv es o v ∧ bdv es o' v = bdv es o v) : ∀ (k x : Nat), (∀ j, j < k → itv es o' j x ≠ z) → itv es o' k x = itv es o k x ∧ smv es o' k x = smv es o k x
  | 0, x, _ => ⟨rfl, rfl⟩
  | k + 1, x, hz => by
    obtain ⟨h1, h2⟩ := h x (hz 0 (by omega))
    obtain ⟨h3, h4⟩ := itv_congr h k (prv es o' x) (fun j hj => hz (j + 1) (by omega))
    constructor
    · show itv es o' k (prv es o' x) = itv es o k (prv es o x)
      rw [h3, h1]
    · show bdv es o' x + smv es o' k (prv es o' x) = bdv es o x + smv es o k (prv es o x)
      rw [h4, h2, h1]
theorem first_back (x : Nat) : ∀ (m k : Nat), k ≤ m → 0 < k → itv es o k x = x → ∃ j, 0 < j ∧ j ≤ k ∧ itv es o j x = x ∧ ∀ i, 0 < i → i < j → itv es o i x ≠ x
  | 0, k, hm, h0, _ => by omega
  | m + 1, k, hm, h0, hk => by
    by_cases h : ∃ i, 0 < i ∧ i < k ∧ itv es o i x = x
    · obtain ⟨i, h1, h2, h3⟩ := h
      obtain ⟨j, h4, h5, h6⟩ := first_back x m i (by omega) h1 h3
      exact ⟨j, h4, by omega, h6⟩
    · exact ⟨k, h0, Nat.le_refl _, hk, fun i h1 h2 h3 => h ⟨i, h1, h2, h3⟩⟩
/-- Nothing that leaves the node raises anything. -/
def Clo (es : List Edg) (nn : Nat) (o : List Seen) (u : Nat) : Prop := ∀ v b, Ar es nn u v b → (gS o v).R = true ∧ (gS o u).S + b ≤ (gS o v).S
/-- The round in which each node was raised last. -/
structure PI (es : List Edg) (nn : Nat) (r : Int) (i : Nat) (st : LSt) (lr : Nat → Int) : Prop where
  d : ∀ v, lr v ≤ r
  a : ∀ v, 0 ≤ lr v → v < nn ∧ prv es st.1 v < nn ∧ aS st.1 v ∈ leavingF es nn (prv es st.1 v : Int) ∧ (endsF es (aS st.1 v)).2 = (v : Int) ∧ (gS st.1 v).R = true ∧ (gS st.1 (prv es st.1 v)).R = true ∧ (gS st.1 v).S ≤ (gS st.1 (prv es st.1 v)).S + bdv es st.1 v ∧ lr v - 1 ≤ lr (prv es st.1 v)
  c : ∀ u, u < nn → (gS st.1 u).R = true → Clo es nn st.1 u ∨ (if u < i then r else r - 1) ≤ lr u
  j : ∀ x k, 0 < k → (∀ m, 0 ≤ lr (itv es st.1 m x)) → itv es st.1 k x = x → 0 < smv es st.1 k x
  g : 0 ≤ st.2 → ∃ z : Nat, st.2 = z ∧ z < nn ∧ r ≤ lr z
theorem PI.chain {r : Int} {i : Nat} {st : LSt} {lr : Nat → Int} (h : PI es nn r i st lr) : ∀ (k x : Nat), (gS st.1 x).R = true → (∀ m, m < k → 0 ≤ lr (itv es st.1 m x)) → (gS st.1 (itv es st.1 k x)).R = true ∧ (gS st.1 x).S ≤ (gS st.1 (itv es st.1 k x)).S + smv es st.1 k x
  | 0, x, hr, _ => ⟨hr, by show (gS st.1 x).S ≤ (gS st.1 x).S + 0; omega⟩
  | k + 1, x, hr, hm => by
    obtain ⟨_, _, _, _, _, h1, h2, _⟩ := h.a x (hm 0 (by omega))
    obtain ⟨h3, h4⟩ := h.chain k (prv es st.1 x) h1 (fun m hmk => hm (m + 1) (by omega))
    refine ⟨h3, ?_⟩
    show (gS st.1 x).S ≤ (gS st.1 (itv es st.1 k (prv es st.1 x))).S + (bdv es st.1 x + smv es st.1 k (prv es st.1 x))
    omega
theorem leav_fst {u : Int} {a : Arc} (ha : a ∈ leavingF es nn u) : (endsF es a).1 = u := by
  unfold leavingF preJ at ha
  simp only [List.mem_append, List.mem_flatMap, List.mem_range, List.mem_filter, List.take_zero, List.filter_nil, List.not_mem_nil, or_false] at ha
  rcases ha with ⟨k, hk, h, hl⟩ | ha
  · unfold lvc at hl
    rw [beq_iff_eq] at hl
    exact hl
  · split at ha
    · rename_i h0
      obtain ⟨j, hj, rfl⟩ := List.mem_map.1 ha
      unfold endsF
      simp [h0]
    · cases ha
theorem leav_arcF {u : Int} {a : Arc} (ha : a ∈ leavingF es nn u) : arcF nn es.length a = 0 := by
  unfold leavingF preJ at ha
  simp only [List.mem_append, List.mem_flatMap, List.mem_range, List.mem_filter, List.take_zero, List.filter_nil, List.not_mem_nil, or_false] at ha
  have key : ∀ a : Arc, (decide (a.E < -1) || decide ((es.length : Int) ≤ a.E) || (a.E == -1 && (decide (a.N < 0) || decide ((nn : Int) ≤ a.N)))) = false → ((decide (0 ≤ a.E) && (a.N != 0)) || (decide (a.E < 0) && a.B)) = false → arcF nn es.length a = 0 := fun a h1 h2 => by
    unfold arcF arcL
    rw [h1, h2]
    rfl
  rcases ha with ⟨k, hk, h, hl⟩ | ha
  · simp only [List.mem_cons, List.mem_nil_iff, or_false] at h
    rcases h with rfl | rfl
    · exact key ⟨k, false, 0⟩ (by simp; omega) (by simp)
    · exact key ⟨k, true, 0⟩ (by simp; omega) (by simp)
  · split at ha
    · obtain ⟨j, hj, rfl⟩ := List.mem_map.1 ha
      have hj' := List.mem_range.1 hj
      exact key ⟨-1, false, j⟩ (by simp; omega) (by simp)
    · cases ha
theorem pi_raise {r : Int} (hr0 : 0 ≤ r) {i : Nat} (hi : i < nn) {st : LSt} {lr : Nat → Int} (h : PI es nn r i st lr) (hR : (gS st.1 i).R = true) {a : Arc} (ha : a ∈ leavingF es nn (i : Int)) {z : Nat} (hz : (endsF es a).2 = (z : Int)) (hzn : z < nn) (hzl : z < st.1.length)
    (hc : (gS st.1 z).R = true → (gS st.1 z).S < (gS st.1 i).S + boundF es a) : PI es nn r i (st.1.set z ⟨a.E, a.B, a.N, (gS st.1 i).S + boundF es a, true⟩, (z : Int)) (fun v => if v = z then r else lr v) := by
  have gz : gS (st.1.set z ⟨a.E, a.B, a.N, (gS st.1 i).S + boundF es a, true⟩) z = ⟨a.E, a.B, a.N, (gS st.1 i).S + boundF es a, true⟩ := by rw [gS_set, if_pos ⟨rfl, hzl⟩]
  have gv : ∀ v, v ≠ z → gS (st.1.set z ⟨a.E, a.B, a.N, (gS st.1 i).S + boundF es a, true⟩) v = gS st.1 v := fun v hv => by rw [gS_set, if_neg (fun h => hv h.1)]
  generalize hN : st.1.set z ⟨a.E, a.B, a.N, (gS st.1 i).S + boundF es a, true⟩ = o' at gz gv ⊢
  have az : aS o' z = a := by unfold aS; rw [gz]
  have av : ∀ v, v ≠ z → aS o' v = aS st.1 v := fun v hv => by unfold aS; rw [gv v hv]
  have pz : prv es o' z = i := by unfold prv; rw [az, leav_fst ha, Int.toNat_natCast]
  have bz : bdv es o' z = boundF es a := by unfold bdv; rw [az]
  have pv : ∀ v, v ≠ z → prv es o' v = prv es st.1 v ∧ bdv es o' v = bdv es st.1 v := fun v hv => by unfold prv bdv; rw [av v hv]; exact ⟨rfl, rfl⟩
  have hmono : ∀ v, (gS st.1 v).R = true → (gS o' v).R = true ∧ (gS st.1 v).S ≤ (gS o' v).S := fun v hv => by
    by_cases hvz : v = z
    · subst hvz
      rw [gz]
      exact ⟨rfl, by have := hc hv; dsimp only; omega⟩
    · rw [gv v hvz]
      exact ⟨hv, Int.le_refl _⟩
  have hnc : r - 1 ≤ lr i := by
    rcases h.c i hi hR with h1 | h1
    · obtain ⟨h2, h3⟩ := h1 z (boundF es a) ⟨a, ha, hz, rfl⟩
      have := hc h2
      omega
    · rw [if_neg (by omega)] at h1
      exact h1
  have hd : ∀ v, (if v = z then r else lr v) ≤ r := fun v => by
    have := h.d v
    split <;> omega
  have hle : ∀ v, lr v ≤ if v = z then r else lr v := fun v => by
    have := h.d v
    split <;> omega
  -- ways back to the raised node
  have hback : ∀ k, 0 < k → (∀ m, 0 ≤ (if itv es o' m z = z then r else lr (itv es o' m z))) → itv es o' k z = z → (∀ m, 0 < m → m < k → itv es o' m z ≠ z) → 0 < smv es o' k z := by
    intro k hk hl hkz hne
    obtain ⟨k, rfl⟩ : ∃ k', k = k' + 1 := ⟨k - 1, by omega⟩
    have e1 : itv es o' (k + 1) z = itv es o' k i := by show itv es o' k (prv es o' z) = _; rw [pz]
    have e2 : smv es o' (k + 1) z = boundF es a + smv es o' k i := by show bdv es o' z + smv es o' k (prv es o' z) = _; rw [pz, bz]
    have e3 : ∀ m, itv es o' (m + 1) z = itv es o' m i := fun m => by show itv es o' m (prv es o' z) = _; rw [pz]
    have hne' : ∀ m, m < k → itv es o' m i ≠ z := fun m hm => by rw [← e3]; exact hne (m + 1) (by omega) (by omega)
    obtain ⟨c1, c2⟩ := itv_congr pv k i hne'
    have hlo : ∀ m, m < k → 0 ≤ lr (itv es st.1 m i) := fun m hm => by
      have c3 := (itv_congr pv m i (fun j hj => hne' j (by omega))).1
      have := hl (m + 1)
      rw [e3, if_neg (hne' m hm), c3] at this
      exact this
    obtain ⟨c4, c5⟩ := h.chain k i hR hlo
    rw [e1, c1] at hkz
    rw [hkz] at c4 c5
    have := hc c4
    rw [e2, c2]
    omega
  have hcyc : ∀ n k, k ≤ n → 0 < k → (∀ m, 0 ≤ (if itv es o' m z = z then r else lr (itv es o' m z))) → itv es o' k z = z → 0 < smv es o' k z := by
    intro n
    induction n with
    | zero => intro k h1 h2; omega
    | succ n ih =>
      intro k h1 h2 hl hkz
      obtain ⟨j, j1, j2, j3, j4⟩ := first_back z k k (Nat.le_refl _) h2 hkz
      have hj := hback j j1 hl j3 j4
      by_cases hjk : j = k
      · rw [← hjk]; exact hj
      · have e1 : k = j + (k - j) := by omega
        rw [e1, itv_add, j3] at hkz
        have := ih (k - j) (by omega) (by omega) hl hkz
        rw [e1, smv_add, j3]
        omega
  refine ⟨hd, fun v hv => ?_, fun u hu hRu => ?_, fun x k hk hl hkx => ?_, fun _ => ⟨z, rfl, hzn, by simp⟩⟩
  · by_cases hvz : v = z
    · subst hvz
      rw [pz, az, bz, gz]
      refine ⟨hzn, hi, ha, hz, rfl, (hmono i hR).1, ?_, ?_⟩
      · have := (hmono i hR).2
        dsimp only
        omega
      · have := hle i
        simp only [if_true]
        omega
    · dsimp only at hv ⊢
      rw [if_neg hvz] at hv ⊢
      obtain ⟨a1, a2, a3, a4, a5, a6, a7, a8⟩ := h.a v hv
      rw [(pv v hvz).1, (pv v hvz).2, av v hvz, gv v hvz]
      refine ⟨a1, a2, a3, a4, a5, (hmono _ a6).1, ?_, ?_⟩
      · have := (hmono _ a6).2
        omega
      · have := hle (prv es st.1 v)
        omega
  · by_cases huz : u = z
    · subst huz
      refine .inr ?_
      simp only [if_true]
      split <;> omega
    · dsimp only at hRu ⊢
      rw [gv u huz] at hRu
      rcases h.c u hu hRu with h1 | h1
      · refine .inl fun v b hA => ?_
        obtain ⟨h2, h3⟩ := h1 v b hA
        have := hmono v h2
        rw [gv u huz]
        exact ⟨this.1, by omega⟩
      · refine .inr ?_
        rw [if_neg huz]
        exact h1
  · dsimp only at hl hkx ⊢
    by_cases hex : ∃ j, itv es o' j x = z
    · obtain ⟨j, hj⟩ := hex
      have e1 : itv es o' k z = z := by rw [← hj, ← itv_add, Nat.add_comm, itv_add, hkx]
      have e2 : smv es o' k z = smv es o' k x := by
        have a1 := smv_add (es := es) (o := o') j k x
        have a2 := smv_add (es := es) (o := o') k j x
        rw [hj] at a1
        rw [hkx, Nat.add_comm] at a2
        omega
      rw [← e2]
      exact hcyc k k (Nat.le_refl _) hk (fun m => by have := hl (j + m); rw [itv_add, hj] at this; exact this) e1
    · have hne : ∀ j, itv es o' j x ≠ z := fun j hj => hex ⟨j, hj⟩
      have hcg := fun m => itv_congr pv m x (fun j _ => hne j)
      rw [(hcg k).2]
      refine h.j x k hk (fun m => ?_) (by rw [← (hcg k).1]; exact hkx)
      have := hl m
      rw [if_neg (hne m), (hcg m).1] at this
      exact this
theorem pi_relax (hE : ∀ e ∈ es, EdOk nn e) (hn : 0 < nn) {f c i : Nat} (hi : i < nn) (hc : c ≤ 1000000) {st : LSt} (hI : LInv es nn f c st.1) (hR : (gS st.1 i).R = true) {a : Arc} (ha : a ∈ leavingF es nn (i : Int)) {r : Int} (hr0 : 0 ≤ r) {lr : Nat → Int} (h : PI es nn r i st lr) :
    ∃ lr', PI es nn r i (relaxW es i st a) lr' ∧ (∀ v, lr v ≤ lr' v) ∧ ((gS (relaxW es i st a).1 i).S = (gS st.1 i).S ∨ r ≤ lr' i) := by
  have hok := leavingF_ok es nn i a ha
  have hends := (endsF_bd hE hok hn).2
  have hbd := boundF_bd hE hok
  obtain ⟨k, hk, hw⟩ := hI.2 i hi hR
  have hs := wk_bd hE hn hw
  have hwr : IntKind.i64.wrap ((gS st.1 i).S + boundF es a) = (gS st.1 i).S + boundF es a := inR_wrap (by simp only [inR]; omega)
  obtain ⟨z, hz⟩ := toNat_eq hends.1
  have hzn : z < nn := by omega
  have hzt : (endsF es a).2.toNat = z := by omega
  have hzl : z < st.1.length := by rw [hI.1]; exact hzn
  unfold relaxW
  rw [hwr, hzt, hz]
  split
  · rename_i hcond
    simp only [Bool.or_eq_true, Bool.not_eq_true', decide_eq_true_eq] at hcond
    refine ⟨_, pi_raise hr0 hi h hR ha hz hzn hzl (fun h1 => ?_), fun v => ?_, ?_⟩
    · rcases hcond with h2 | h2
      · rw [h1] at h2; cases h2
      · exact h2
    · have := h.d v
      split <;> omega
    · by_cases hiz : i = z
      · exact .inr (by simp [hiz])
      · refine .inl ?_
        dsimp only
        rw [gS_set, if_neg (fun h => hiz h.1)]
  · exact ⟨lr, h, fun v => Int.le_refl _, .inl rfl⟩
theorem pi_arcs (hE : ∀ e ∈ es, EdOk nn e) (hn : 0 < nn) {f i : Nat} (hi : i < nn) {r : Int} (hr0 : 0 ≤ r) : ∀ (l : List Arc), (∀ a ∈ l, a ∈ leavingF es nn (i : Int)) → ∀ {c : Nat} {st : LSt}, c + l.length ≤ 1000000 → LInv es nn f c st.1 → (gS st.1 i).R = true → ∀ {lr : Nat → Int}, PI es nn r i st lr →
    ∃ lr', PI es nn r i (l.foldl (relaxW es i) st) lr' ∧ (∀ v, lr v ≤ lr' v) ∧ ((gS (l.foldl (relaxW es i) st).1 i).S = (gS st.1 i).S ∨ r ≤ lr' i)
  | [], _, c, st, hc, hI, hR, lr, h => ⟨lr, h, fun v => Int.le_refl _, .inl rfl⟩
  | a :: l, hl, c, st, hc, hI, hR, lr, h => by
    rw [List.length_cons] at hc
    obtain ⟨h1, h2, h3⟩ := relax_ok hE hn hi (by omega) hI hR (hl a (by simp))
    obtain ⟨lr1, p1, p2, p3⟩ := pi_relax hE hn hi (by omega) hI hR (hl a (by simp)) hr0 h
    obtain ⟨lr2, q1, q2, q3⟩ := pi_arcs hE hn hi hr0 l (fun x hx => hl x (by simp [hx])) (c := c + 1) (by omega) h1 (h2.1 i hR).1 p1
    rw [List.foldl_cons]
    refine ⟨lr2, q1, fun v => Int.le_trans (p2 v) (q2 v), ?_⟩
    have := q2 i
    rcases q3 with q3 | q3
    · rcases p3 with p3 | p3
      · exact .inl (by rw [q3, p3])
      · exact .inr (by omega)
    · exact .inr q3
theorem pi_step (hE : ∀ e ∈ es, EdOk nn e) (hn : 0 < nn) (hn12 : nn ≤ 12) (hm : es.length ≤ 24) {f i : Nat} (hi : i < nn) {c : Nat} {st : LSt} (hc : c ≤ 900000) (hI : LInv es nn f c st.1) {r : Int} (hr0 : 0 ≤ r) {lr : Nat → Int} (h : PI es nn r i st lr) :
    ∃ lr', PI es nn r (i + 1) (stepW es nn st i) lr' := by
  have hll := leavingF_len es nn i
  have up : ∀ {st' : LSt} {lr' : Nat → Int}, PI es nn r i st' lr' → ((gS st'.1 i).R = true → Clo es nn st'.1 i ∨ r ≤ lr' i) → PI es nn r (i + 1) st' lr' := fun p hp => ⟨p.d, p.a, fun u hu hRu => by
    by_cases hui : u = i
    · subst hui
      rw [if_pos (by omega)]
      exact hp hRu
    · have := p.c u hu hRu
      by_cases hlt : u < i
      · rw [if_pos hlt] at this
        rw [if_pos (by omega)]
        exact this
      · rw [if_neg hlt] at this
        rw [if_neg (by omega)]
        exact this, p.j, p.g⟩
  unfold stepW
  split
  · rename_i hR
    obtain ⟨lr1, p1, p2, p3⟩ := pi_arcs hE hn hi hr0 (leavingF es nn i) (fun a h => h) (c := c) (by omega) hI hR h
    obtain ⟨h1, h2, h3⟩ := arcs_ok hE hn hi (leavingF es nn i) (fun a h => h) (c := c) (by omega) hI hR
    refine ⟨lr1, up p1 fun _ => ?_⟩
    rcases p3 with p3 | p3
    · refine .inl fun v b ⟨a, ha, e1, e2⟩ => ?_
      have := h3 a ha
      rw [e1, e2, Int.toNat_natCast] at this
      rw [p3]
      exact this
    · exact .inr p3
  · rename_i hR
    exact ⟨lr, up h fun hR' => absurd hR' hR⟩
theorem pi_inn (hE : ∀ e ∈ es, EdOk nn e) (hn : 0 < nn) (hn12 : nn ≤ 12) (hm : es.length ≤ 24) {f c : Nat} {o : List Seen} (hc : c ≤ 800000) (hI : LInv es nn f c o) {r : Int} (hr0 : 0 ≤ r) {lr : Nat → Int} (h : PI es nn r 0 (o, -1) lr) : ∀ i, i ≤ nn → ∃ lr', PI es nn r i (innW es nn o i) lr'
  | 0, _ => ⟨lr, h⟩
  | i + 1, hi => by
    obtain ⟨h1, _, _⟩ := inn_ok hE hn hn12 hm hc hI i (by omega)
    obtain ⟨lr1, p1⟩ := pi_inn hE hn hn12 hm hc hI hr0 h i (by omega)
    rw [innW_succ]
    exact pi_step hE hn hn12 hm (by omega) (by omega) h1 hr0 p1
theorem pi_rounds (hE : ∀ e ∈ es, EdOk nn e) (hn : 0 < nn) (hn12 : nn ≤ 12) (hm : es.length ≤ 24) {f : Nat} (hf : f < nn) : ∀ r : Nat, r ≤ 100 → ∃ lr, PI es nn (r : Int) 0 ((roundsW es nn f r).1, -1) lr
  | 0, _ => by
    refine ⟨fun _ => -1, fun v => by omega, fun v hv => by omega, fun u _ _ => .inr (by rw [if_neg (by omega)]; omega), fun x k _ hl _ => ?_, fun h => by (try dsimp only at h); omega⟩
    have := hl 0
    omega
  | r + 1, hr => by
    obtain ⟨h1, _⟩ := rounds_ok hE hn hn12 hm hf r (by omega)
    have hb : 60 * nn * r ≤ 60 * 12 * 100 := Nat.mul_le_mul (by omega) (by omega)
    obtain ⟨lr, p⟩ := pi_rounds hE hn hn12 hm hf r (by omega)
    obtain ⟨lr1, q⟩ := pi_inn hE hn hn12 hm (by omega) h1 (by omega) p nn (Nat.le_refl _)
    rw [roundsW_succ]
    refine ⟨lr1, fun v => by have := q.d v; omega, q.a, fun u hu hRu => ?_, q.j, fun h => by (try dsimp only at h); omega⟩
    have := q.c u hu hRu
    rw [if_pos hu] at this
    rw [if_neg (by omega)]
    rcases this with h | h
    · exact .inl h
    · exact .inr (by omega)
/-- Where the sums grow without an end: the arcs back from the node that grew last. -/
theorem loop_back (hE : ∀ e ∈ es, EdOk nn e) (hn : 0 < nn) (hn12 : nn ≤ 12) (hm : es.length ≤ 24) {f : Nat} (hf : f < nn) (h0 : 0 ≤ (longW es nn f).2) :
    ∃ z : Nat, (longW es nn f).2 = z ∧ z < nn ∧ (∀ k, itv es (longW es nn f).1 k z < nn ∧ aS (longW es nn f).1 (itv es (longW es nn f).1 k z) ∈ leavingF es nn (prv es (longW es nn f).1 (itv es (longW es nn f).1 k z) : Int) ∧ (endsF es (aS (longW es nn f).1 (itv es (longW es nn f).1 k z))).2 = (itv es (longW es nn f).1 k z : Int)) ∧
      (∃ d, 0 < d ∧ d ≤ nn ∧ itv es (longW es nn f).1 d (itv es (longW es nn f).1 nn z) = itv es (longW es nn f).1 nn z) ∧ ∀ m k, 0 < k → itv es (longW es nn f).1 k (itv es (longW es nn f).1 m z) = itv es (longW es nn f).1 m z → 0 < smv es (longW es nn f).1 k (itv es (longW es nn f).1 m z) := by
  obtain ⟨h1, _⟩ := rounds_ok hE hn hn12 hm hf nn (by omega)
  have hb : 60 * nn * nn ≤ 60 * 12 * 12 := Nat.mul_le_mul (by omega) (by omega)
  obtain ⟨lr, p⟩ := pi_rounds hE hn hn12 hm hf nn (by omega)
  obtain ⟨lr1, q⟩ := pi_inn hE hn hn12 hm (by omega) h1 (by omega) p nn (Nat.le_refl _)
  have eL : innW es nn (roundsW es nn f nn).1 nn = longW es nn f := by unfold longW; rw [roundsW_succ]
  rw [eL] at q
  generalize longW es nn f = st at q h0 ⊢
  obtain ⟨z, hz, hzn, hzr⟩ := q.g h0
  have hlo : ∀ k : Nat, k ≤ nn → (nn : Int) - k ≤ lr1 (itv es st.1 k z) := by
    intro k
    induction k with
    | zero => intro _; show (nn : Int) - 0 ≤ lr1 z; omega
    | succ k ih =>
      intro hk
      have := ih (by omega)
      have := (q.a (itv es st.1 k z) (by omega)).2.2.2.2.2.2.2
      rw [itv_succ]
      omega
  obtain ⟨i, j, hij, hjn, he⟩ := pig nn (fun k => itv es st.1 k z) nn (fun k hk => (q.a _ (by have := hlo k hk; omega)).1) (Nat.le_refl _)
  have hper : ∀ m, i ≤ m → itv es st.1 (m + (j - i)) z = itv es st.1 m z := fun m hm => by
    rw [show m + (j - i) = j + (m - i) by omega, itv_add, ← he, ← itv_add, show i + (m - i) = m by omega]
  have hall : ∀ n k, k ≤ n → 0 ≤ lr1 (itv es st.1 k z) := by
    intro n
    induction n with
    | zero =>
      intro k hk
      have := hlo k (by omega)
      omega
    | succ n ih =>
      intro k hk
      by_cases hkn : k ≤ nn
      · have := hlo k hkn
        omega
      · have := hper (k - (j - i)) (by omega)
        rw [show k - (j - i) + (j - i) = k by omega] at this
        rw [this]
        exact ih _ (by omega)
  refine ⟨z, hz, hzn, fun k => ?_, ⟨j - i, by omega, by omega, ?_⟩, fun m k hk hkm => ?_⟩
  · obtain ⟨a1, _, a3, a4, _⟩ := q.a _ (hall k k (Nat.le_refl _))
    exact ⟨a1, a3, a4⟩
  · rw [← itv_add]
    exact hper nn (by omega)
  · exact q.j _ k hk (fun d => by rw [← itv_add]; exact hall _ _ (Nat.le_refl _)) hkm
end

end Go.Proofs.YtmfophoejjcnlaaGreatDoor
namespace Go.Proofs.YtmfophoejjcnlaaGreatDoor
open Go.E Go.RowKit
attribute [local irreducible] G C S D Calls
set_option maxRecDepth 100000
set_option linter.unusedSimpArgs false
set_option linter.unusedVariables false

/-- The first return. -/
def bk (es : List Edg) (o : List Seen) (b : Nat) : Nat → Nat → Nat
  | 0, k => k
  | m + 1, k => if itv es o k b = b then k else bk es o b m (k + 1)
theorem bk_ok {es : List Edg} {o : List Seen} {b d : Nat} (hd : itv es o d b = b) : ∀ m k, k ≤ d → d ≤ k + m → k ≤ bk es o b m k ∧ bk es o b m k ≤ d ∧ itv es o (bk es o b m k) b = b ∧ ∀ j, k ≤ j → j < bk es o b m k → itv es o j b ≠ b
  | 0, k, h1, h2 => by
    obtain rfl : d = k := by omega
    exact ⟨Nat.le_refl _, Nat.le_refl _, hd, fun j h3 h4 => by unfold bk at h4; omega⟩
  | m + 1, k, h1, h2 => by
    unfold bk
    split
    · rename_i h
      exact ⟨Nat.le_refl _, h1, h, fun j h3 h4 => by omega⟩
    · rename_i h
      have hkd : k ≠ d := fun e => h (by rw [e]; exact hd)
      obtain ⟨a1, a2, a3, a4⟩ := bk_ok hd m (k + 1) (by omega) (by omega)
      refine ⟨by omega, a2, a3, fun j h3 h4 => ?_⟩
      by_cases hj : j = k
      · rw [hj]; exact h
      · exact a4 j (by omega) h4
def lpB (es : List Edg) (nn : Nat) : Nat := itv es (longW es nn 0).1 nn (longW es nn 0).2.toNat
def lpK (es : List Edg) (nn : Nat) : Nat := bk es (longW es nn 0).1 (lpB es nn) nn 1
/-- The first j arcs back. -/
def lpA (es : List Edg) (nn j : Nat) : List Arc := (List.range j).map fun i => aS (longW es nn 0).1 (itv es (longW es nn 0).1 i (lpB es nn))
/-- The loop that is found, and the error. -/
def loopR (names : List ByteArray) (es : List Edg) : List Arc × Int :=
  if netF names es ≠ 0 then ([], netF names es) else if 0 ≤ (longW es names.length 0).2 then ((lpA es names.length (lpK es names.length)).reverse, 0) else ([], 7)
theorem lpA_succ (es : List Edg) (nn j : Nat) : lpA es nn (j + 1) = lpA es nn j ++ [aS (longW es nn 0).1 (itv es (longW es nn 0).1 j (lpB es nn))] := by
  unfold lpA
  rw [List.range_succ, List.map_append]
  rfl
theorem lpA_len (es : List Edg) (nn j : Nat) : (lpA es nn j).length = j := by simp [lpA]
/-- What is known of the arcs back. -/
structure LpOk (es : List Edg) (nn : Nat) : Prop where
  z : (longW es nn 0).2 = ((longW es nn 0).2.toNat : Int) ∧ (longW es nn 0).2.toNat < nn
  v : ∀ k, itv es (longW es nn 0).1 k (longW es nn 0).2.toNat < nn
  a : ∀ k, aS (longW es nn 0).1 (itv es (longW es nn 0).1 k (longW es nn 0).2.toNat) ∈ leavingF es nn (prv es (longW es nn 0).1 (itv es (longW es nn 0).1 k (longW es nn 0).2.toNat) : Int)
  t : ∀ k, (endsF es (aS (longW es nn 0).1 (itv es (longW es nn 0).1 k (longW es nn 0).2.toNat))).2 = (itv es (longW es nn 0).1 k (longW es nn 0).2.toNat : Int)
  k : 1 ≤ lpK es nn ∧ lpK es nn ≤ nn ∧ itv es (longW es nn 0).1 (lpK es nn) (lpB es nn) = lpB es nn ∧ ∀ j, 1 ≤ j → j < lpK es nn → itv es (longW es nn 0).1 j (lpB es nn) ≠ lpB es nn
  s : 0 < smv es (longW es nn 0).1 (lpK es nn) (lpB es nn)
theorem lp_ok {es : List Edg} {nn : Nat} (hE : ∀ e ∈ es, EdOk nn e) (hn : 0 < nn) (hn12 : nn ≤ 12) (hm : es.length ≤ 24) (h0 : 0 ≤ (longW es nn 0).2) : LpOk es nn := by
  obtain ⟨z, hz, hzn, h1, ⟨d, d1, d2, d3⟩, h3⟩ := loop_back hE hn hn12 hm hn h0
  have hzt : (longW es nn 0).2.toNat = z := by omega
  have hB : lpB es nn = itv es (longW es nn 0).1 nn z := by unfold lpB; rw [hzt]
  rw [← hB] at d3
  have hk := bk_ok (b := lpB es nn) d3 nn 1 (by omega) (by omega)
  refine ⟨⟨by omega, by omega⟩, fun k => by rw [hzt]; exact (h1 k).1, fun k => by rw [hzt]; exact (h1 k).2.1, fun k => by rw [hzt]; exact (h1 k).2.2, ⟨hk.1, by unfold lpK; omega, hk.2.2⟩, ?_⟩
  rw [hB]
  refine h3 nn _ (by have := hk.1; unfold lpK; omega) ?_
  rw [← hB]
  exact hk.2.2.1
section
variable {es : List Edg} {nn : Nat}
theorem LpOk.at (h : LpOk es nn) (k : Nat) : itv es (longW es nn 0).1 k (lpB es nn) < nn ∧ aS (longW es nn 0).1 (itv es (longW es nn 0).1 k (lpB es nn)) ∈ leavingF es nn (itv es (longW es nn 0).1 (k + 1) (lpB es nn) : Int) ∧ (endsF es (aS (longW es nn 0).1 (itv es (longW es nn 0).1 k (lpB es nn)))).2 = (itv es (longW es nn 0).1 k (lpB es nn) : Int) ∧ (endsF es (aS (longW es nn 0).1 (itv es (longW es nn 0).1 k (lpB es nn)))).1 = (itv es (longW es nn 0).1 (k + 1) (lpB es nn) : Int) := by
  have h1 := h.v (nn + k)
  have h2 := h.a (nn + k)
  have h3 := h.t (nn + k)
  rw [itv_add] at h1 h2 h3
  rw [itv_succ]
  exact ⟨h1, h2, h3, leav_fst h2⟩
theorem walk_back (hE : ∀ e ∈ es, EdOk nn e) (h : LpOk es nn) : ∀ (j : Nat), j ≤ 100 → ∀ s : Int, -100000 * (100 - j : Int) ≤ s → s ≤ 100000 * (100 - j : Int) → walkW es (lpA es nn j).reverse s (itv es (longW es nn 0).1 j (lpB es nn) : Int) = wh (decide (s + smv es (longW es nn 0).1 j (lpB es nn) ≤ 0)) 19
  | 0, _, s, _, _ => by
    show wh (decide (s ≤ 0)) 19 = wh (decide (s + 0 ≤ 0)) 19
    rw [Int.add_zero]
  | j + 1, hj, s, h1, h2 => by
    obtain ⟨a1, a2, a3, a4⟩ := h.at j
    have hb := boundF_bd hE (leavingF_ok es nn _ _ a2)
    rw [lpA_succ, List.reverse_append]
    show (if _ ≠ _ then (11 : Int) else walkW es (lpA es nn j).reverse _ _) = _
    have hw : IntKind.i64.wrap (s + boundF es (aS (longW es nn 0).1 (itv es (longW es nn 0).1 j (lpB es nn)))) = s + boundF es (aS (longW es nn 0).1 (itv es (longW es nn 0).1 j (lpB es nn))) := inR_wrap (by simp only [inR]; omega)
    have ih := walk_back hE h j (by omega) (s + boundF es (aS (longW es nn 0).1 (itv es (longW es nn 0).1 j (lpB es nn)))) (by omega) (by omega)
    rw [if_neg (by rw [a4]; simp), a3, hw, ih, smv_succ]
    unfold bdv
    congr 1
    exact decide_eq_decide.2 (by omega)
theorem lpA_mem (h : LpOk es nn) {j : Nat} : ∀ a ∈ lpA es nn j, arcF nn es.length a = 0 := by
  intro a ha
  unfold lpA at ha
  obtain ⟨i, _, rfl⟩ := List.mem_map.1 ha
  exact leav_arcF (h.at i).2.1
end
theorem loopR_ok {names : List ByteArray} {es : List Edg} (hN : netF names es = 0) (h0 : 0 ≤ (longW es names.length 0).2) : loopE names es (lpA es names.length (lpK es names.length)).reverse = 0 := by
  have ok := netF_ok hN
  have h := lp_ok ok.e ok.n0 ok.n ok.m h0
  have hk := h.k
  have hn12 := ok.n
  have hl : (lpA es names.length (lpK es names.length)).reverse.length = lpK es names.length := by rw [List.length_reverse, lpA_len]
  have e1 : loopE1 names es (lpA es names.length (lpK es names.length)).reverse = 0 := by
    unfold loopE1
    rw [hl, hN]
    have a1 : ((lpK es names.length : Int) == 0) = false := by rw [beq_eq_false_iff_ne]; omega
    have a2 : decide (64 < (lpK es names.length : Int)) = false := decide_eq_false (by omega)
    rw [a1, a2]
    rfl
  have e2 : loopE2 names.length es.length (lpA es names.length (lpK es names.length)).reverse = 0 := by
    unfold loopE2
    rw [firstL_zero]
    intro x hx
    obtain ⟨a, ha, rfl⟩ := List.mem_map.1 hx
    exact lpA_mem h a (List.mem_reverse.1 ha)
  have e3 : (endsF es (lastA (lpA es names.length (lpK es names.length)).reverse)).2 = (itv es (longW es names.length 0).1 (lpK es names.length) (lpB es names.length) : Int) := by
    have : lastA (lpA es names.length (lpK es names.length)).reverse = aS (longW es names.length 0).1 (itv es (longW es names.length 0).1 0 (lpB es names.length)) := by
      unfold lastA
      rw [hl]
      have hlt : lpK es names.length - 1 < (lpA es names.length (lpK es names.length)).reverse.length := by omega
      rw [List.getD_eq_getElem?_getD, List.getElem?_eq_getElem hlt, List.getElem_reverse]
      simp [lpA]
    rw [this, (h.at 0).2.2.1, hk.2.2.1]
    rfl
  unfold loopE
  rw [if_neg (by simp [e1]), if_neg (by simp [e2]), e3, walk_back ok.e h _ (by omega) 0 (by omega) (by omega), Int.zero_add, decide_eq_false (by have := h.s; omega)]
  rfl
theorem loopR_len (names : List ByteArray) (es : List Edg) : (loopR names es).1.length ≤ 1000000 := by
  unfold loopR
  split
  · exact Nat.zero_le _
  · split
    · rename_i h1 h2
      have h1' : netF names es = 0 := by simpa using h1
      have ok := netF_ok h1'
      have h := lp_ok ok.e ok.n0 ok.n ok.m h2
      have := h.k
      have := ok.n
      rw [List.length_reverse, lpA_len]
      omega
    · exact Nat.zero_le _

end Go.Proofs.YtmfophoejjcnlaaGreatDoor
namespace Go.Proofs.YtmfophoejjcnlaaGreatDoor
open Go.E Go.RowKit
attribute [local irreducible] G C S D DY DS V VT Yl QV QT Calls
set_option maxRecDepth 100000
set_option linter.unusedSimpArgs false
set_option linter.unusedVariables false

/-- Turned round, as far as i elements from both ends. -/
def revI (l : List Arc) (i : Nat) : List Arc := (List.range l.length).map fun j => if j < i ∨ l.length - 1 - i < j then l.getD (l.length - 1 - j) ⟨0, false, 0⟩ else l.getD j ⟨0, false, 0⟩
theorem revI_len (l : List Arc) (i : Nat) : (revI l i).length = l.length := by simp [revI]
theorem revI_at (l : List Arc) (i : Nat) {j : Nat} (h : j < (revI l i).length) : (revI l i)[j] = if j < i ∨ l.length - 1 - i < j then l.getD (l.length - 1 - j) ⟨0, false, 0⟩ else l.getD j ⟨0, false, 0⟩ := by simp [revI]
theorem revI_0 (l : List Arc) : revI l 0 = l := by
  apply List.ext_getElem
  · rw [revI_len]
  · intro j h1 h2
    rw [revI_at, if_neg (by omega)]
    simp [h2]
theorem revI_end {l : List Arc} {i : Nat} (h : l.length - 1 - i ≤ i) : revI l i = l.reverse := by
  apply List.ext_getElem
  · rw [revI_len, List.length_reverse]
  · intro j h1 h2
    have hj : j < l.length := by rw [revI_len] at h1; exact h1
    rw [revI_at, List.getElem_reverse]
    split
    · rw [List.getD_eq_getElem?_getD, List.getElem?_eq_getElem (by omega)]
      rfl
    · have e : j = l.length - 1 - j := by omega
      rw [List.getD_eq_getElem?_getD, List.getElem?_eq_getElem hj, Option.getD_some]
      congr 1
theorem revI_step {l : List Arc} {i k : Nat} (hk : k = l.length - 1 - i) (h : i < k) (hil : i < (revI l i).length) (hkl : k < (revI l i).length) : ((revI l i).set i (revI l i)[k]).set k (revI l i)[i] = revI l (i + 1) := by
  have hn := revI_len l i
  apply List.ext_getElem
  · simp [revI_len]
  · intro j h1 h2
    have hj : j < l.length := by rw [revI_len] at h2; exact h2
    rw [List.getElem_set, List.getElem_set, revI_at l (i + 1)]
    by_cases a : k = j
    · subst a
      rw [if_pos rfl, if_pos (.inr (by omega)), revI_at, if_neg (by omega)]
      congr 1
      omega
    · rw [if_neg a]
      by_cases b : i = j
      · subst b
        rw [if_pos rfl, if_pos (.inl (by omega)), revI_at, if_neg (by omega)]
        congr 1
      · rw [if_neg b, revI_at]
        by_cases c : j < i ∨ l.length - 1 - i < j
        · rw [if_pos c, if_pos (by omega)]
        · rw [if_neg c, if_neg (by omega)]

theorem lenA (l : List Arc) : (l.flatMap arC).length = l.length * 3 := flat_len (f := arC) (s := 3) l (fun _ _ => rfl)
theorem flat_putA {l : List Arc} {k : Nat} (h : k < l.length) {x : Arc} : (l.flatMap arC).take (k * 3) ++ (arC x ++ (l.flatMap arC).drop (k * 3 + 3)) = (l.set k x).flatMap arC :=
  flat_put (f := arC) (s := 3) (fun _ => rfl) h (o := 0) (vs := arC x) (by simp [arC]) (x := x) (by simp [arC])

set_option maxHeartbeats 1000000 in
/-- slices.Reverse[[]genlock/timing.Arc,genlock/timing.Arc] -/
theorem reverseA_c (g n cap : Nat) (l : List Arc) (hl : l.length = n) (hn0 : 0 < n) (hn : n ≤ 1000000) (w : World) (hown : w.ownsRow 0 171 3 (.slice (some ⟨g, 0, none⟩) n cap) n (l.flatMap arC)) : Calls Tryz.prog 120 #[.slice (some ⟨g, 0, none⟩) n cap] w fun e w' => ∃ v, e = .returned v ∧ w.grownBy w' (some g) ∧ w'.ownsRow 0 171 3 (.slice (some ⟨g, 0, none⟩) n cap) n (l.reverse.flatMap arC) := by
  refine calls_ofRow (args := [.slice (some ⟨g, 0, none⟩) n cap]) T_ok Tryz.func120 rfl Tryz.ntmps120 (Nat.le_of_ble_eq_true rfl) rfl (r := ⟨171, 3, n, l.flatMap arC, .slice (some ⟨g, 0, none⟩) n cap⟩) hown ?_
  repeat' (first
 | (refine C_id ?_; first
 | refine C_seq ?_
 | refine C_region rfl ?_
 | refine C_block ?_
 | refine C_skip ?_
 | refine C_exit ?_
 | refine C_ret0 ?_
 | refine C_drawT (id := 3) 13 rfl mixed (by kernel_rfl) rfl rfl ?_
 | refine C_condT rfl obQ ?_
 | refine C_condF rfl obQ ?_
 | (refine C_cond rfl obQ (fun h => ?_) (fun h => ?_) <;> (try simp only [Bool.or_eq_true, Bool.and_eq_true, Bool.or_eq_false_iff, Bool.and_eq_false_iff, decide_eq_true_eq, decide_eq_false_iff_not, beq_iff_eq, bne_iff_ne, beq_eq_false_iff_ne, bne_eq_false_iff_eq, ne_eq, Decidable.not_not, List.cons.injEq, and_true, Bool.not_eq_true', Bool.not_eq_false', Int.not_lt, Int.not_le] at h))
      )
 | (refine S_id ?_; first
 | refine S_valD 3 (v := .int .i64 ((n : Int) - 1)) (v' := .int .i64 ((n : Int) - 1 - ((0 : Nat) : Int))) rfl (by simp) ?_
 | refine S_nil ?_
 | refine S_run rfl rfl obQ obQ ?_
      )
 | (refine D_id ?_; first
 | refine D_nil ?_
 | refine D_tail ?_
 | refine D_run rfl rfl obQ obQ ?_
      )
 | (refine G_id ?_; first
 | refine G_then ?_
 | refine G_block ?_
 | refine G_blockX ?_
 | refine G_blockN rfl ?_
 | refine G_blockR ?_
 | refine G_thenR ?_
 | refine G_thenX ?_
 | refine G_ret rfl obQ (fun w hw => ⟨?_, hw.below⟩)
      )
    )
  refine C_loopS (fun i : Nat => ⟨[(2, .s (.v (.int .i64 i))), (3, .s (.v (.int .i64 ((n : Int) - 1 - i)))), (0, .s (.v (.slice (some ⟨g, 0, none⟩) n cap)))], [], [⟨171, 3, n, (revI l i).flatMap arC, .slice (some ⟨g, 0, none⟩) n cap⟩]⟩) (fun i => 2 * i ≤ n) (fun i => n - i) 0 (by omega) ?_ (fun i hi => ?_)
  · exact ⟨⟨_, rfl, obQ⟩, ⟨_, rfl⟩, (by dsimp only; rw [revI_0]), pstQ⟩
  dsimp only
  by_cases hlt : (i : Int) < (n : Int) - 1 - i
  · obtain ⟨k, hk⟩ := toNat_eq (show 0 ≤ (n : Int) - 1 - i by omega)
    have hrl := revI_len l i
    have hil : i < (revI l i).length := by omega
    have hkl : k < (revI l i).length := by omega
    have hil2 : i < ((revI l i).set i (revI l i)[k]).length := by rw [List.length_set]; exact hil
    have hkl2 : k < ((revI l i).set i (revI l i)[k]).length := by rw [List.length_set]; exact hkl
    have hst := revI_step (l := l) (i := i) (k := k) (by omega) (by omega) hil hkl
    rw [hk]
    repeat' (first
 | (refine C_id ?_; first
 | refine C_seq ?_
 | refine C_region rfl ?_
 | refine C_block ?_
 | refine C_skip ?_
 | refine C_exit ?_
 | refine C_ret0 ?_
 | refine C_drawTr0 (id := 3) 14 (.q 0 (.q 1 (.q 2 (.q 3 (.q 4 (.q 5 (.q 6 (.q 8 (.q 9 (.q 10 (.two 7 11 (.n 11 (.q 12 (.n 13 .nil))) (.n 7 (.q 12 (.n 13 .nil)))))))))))))) rfl mixed (by kernel_rfl) rfl ?_
 | refine C_condT rfl obQ ?_
 | refine C_condF rfl obQ ?_
 | (refine C_cond rfl obQ (fun h => ?_) (fun h => ?_) <;> (try simp only [Bool.or_eq_true, Bool.and_eq_true, Bool.or_eq_false_iff, Bool.and_eq_false_iff, decide_eq_true_eq, decide_eq_false_iff_not, beq_iff_eq, bne_iff_ne, beq_eq_false_iff_ne, bne_eq_false_iff_eq, ne_eq, Decidable.not_not, List.cons.injEq, and_true, Bool.not_eq_true', Bool.not_eq_false', Int.not_lt, Int.not_le] at h) <;> (try (exfalso; omega)))
          )
 | (refine S_id ?_; first
 | refine S_valD 3 (v := .int .i64 ((n : Int) - 1 - i)) (v' := .int .i64 (k : Int)) rfl (by rw [hk]) ?_
 | refine S_valD 3 (v := .int .i64 ((k : Int) - 1)) (v' := .int .i64 ((n : Int) - 1 - ((i + 1 : Nat) : Int))) rfl (by congr 1; omega) ?_
 | refine S_load rfl obQ rfl [.int .i64 ((revI l i)[k]).E, .bool ((revI l i)[k]).B, .int .i64 ((revI l i)[k]).N] (.row 0 _ rfl g n cap (((k : Nat) : Int).toNat * 3) rfl rfl (idxS (f := arC) (fun _ => rfl) hkl)) rfl (.inl ⟨rfl, rfl⟩) ?_
 | refine S_load rfl obQ rfl [.int .i64 ((revI l i)[i]).E, .bool ((revI l i)[i]).B, .int .i64 ((revI l i)[i]).N] (.row 0 _ rfl g n cap (((i : Nat) : Int).toNat * 3) rfl rfl (idxS (f := arC) (fun _ => rfl) hil)) rfl (.inl ⟨rfl, rfl⟩) ?_
 | refine S_storeRow rfl obQ rfl rfl rfl 0 rfl rfl (((i : Nat) : Int).toNat * 3) rfl (by simp only [lenA, List.length_set, hrl]; omega) (xs' := ((revI l i).set i (revI l i)[k]).flatMap arC) (by exact (flat_putA hil).symm) rfl ?_
 | refine S_storeRow rfl obQ rfl rfl rfl 0 rfl rfl (((k : Nat) : Int).toNat * 3) rfl (by simp only [lenA, List.length_set, hrl]; omega) (xs' := (((revI l i).set i (revI l i)[k]).set k (revI l i)[i]).flatMap arC) (by exact (flat_putA hkl2).symm) rfl ?_
 | refine S_nil ?_
 | refine S_run rfl rfl obQ obQ ?_
          )
 | (refine D_id ?_; first
 | refine D_nil ?_
 | refine D_tail ?_
 | refine D_run rfl rfl obQ obQ ?_
          )
 | (refine VT_id ?_; first
 | refine VT_nil ?_
 | refine VT_q rfl (Yl_load rfl obQ rfl [.int .i64 ((revI l i)[k]).E, .bool ((revI l i)[k]).B, .int .i64 ((revI l i)[k]).N] (.row 0 _ rfl g n cap (((k : Nat) : Int).toNat * 3) rfl rfl (idxS (f := arC) (fun _ => rfl) hkl)) rfl (.inl ⟨rfl, rfl⟩)) ?_
 | refine VT_q rfl (Yl_load rfl obQ rfl [.int .i64 ((revI l i)[i]).E, .bool ((revI l i)[i]).B, .int .i64 ((revI l i)[i]).N] (.row 0 _ rfl g n cap (((i : Nat) : Int).toNat * 3) rfl rfl (idxS (f := arC) (fun _ => rfl) hil)) rfl (.inl ⟨rfl, rfl⟩)) ?_
 | refine VT_q rfl (Yl_step rfl obQ) ?_
 | refine VT_n rfl ?_
 | refine VT_two rfl rfl ?_ ?_
          )
 | (refine G_id ?_; first
 | refine G_VT2 ⟨_, rfl⟩ ⟨_, rfl⟩ pstQ rfl ?_
 | refine G_loop (i + 1) (by show 2 * (i + 1) ≤ n; omega) (by show n - (i + 1) < n - i; omega) ⟨⟨_, rfl, obQ⟩, ⟨_, rfl⟩, (by dsimp only; rw [← hst]; rfl), pstQ⟩
 | refine G_then ?_
 | refine G_block ?_
 | refine G_blockX ?_
 | refine G_blockN rfl ?_
 | refine G_blockR ?_
 | refine G_thenR ?_
 | refine G_thenX ?_
 | refine G_ret rfl obQ (fun w hw => ⟨?_, hw.below⟩)
          )
        )
  · have he := revI_end (l := l) (i := i) (by omega)
    repeat' (first
 | (refine C_id ?_; first
 | refine C_seq ?_
 | refine C_region rfl ?_
 | refine C_block ?_
 | refine C_skip ?_
 | refine C_exit ?_
 | refine C_ret0 ?_
 | refine C_drawT (id := 3) 13 rfl mixed (by kernel_rfl) rfl rfl ?_
 | refine C_condT rfl obQ ?_
 | refine C_condF rfl obQ ?_
 | (refine C_cond rfl obQ (fun h => ?_) (fun h => ?_) <;> (try simp only [Bool.or_eq_true, Bool.and_eq_true, Bool.or_eq_false_iff, Bool.and_eq_false_iff, decide_eq_true_eq, decide_eq_false_iff_not, beq_iff_eq, bne_iff_ne, beq_eq_false_iff_ne, bne_eq_false_iff_eq, ne_eq, Decidable.not_not, List.cons.injEq, and_true, Bool.not_eq_true', Bool.not_eq_false', Int.not_lt, Int.not_le] at h) <;> (try (exfalso; omega)))
          )
 | (refine S_id ?_; first
 | refine S_nil ?_
 | refine S_run rfl rfl obQ obQ ?_
          )
 | (refine D_id ?_; first
 | refine D_nil ?_
 | refine D_tail ?_
 | refine D_run rfl rfl obQ obQ ?_
          )
 | (refine G_id ?_; first
 | refine G_end rfl obQ (fun w2 hw => ⟨_, rfl, by have := HW.turned (r := ⟨171, 3, n, l.flatMap arC, .slice (some ⟨g, 0, none⟩) n cap⟩) hw (by first | exact List.Mem.head _ | apply List.Mem.tail) ⟨rfl, rfl, rfl, rfl, rfl⟩ rfl; rw [he] at this; exact this⟩)
 | refine G_then ?_
 | refine G_block ?_
 | refine G_blockX ?_
 | refine G_blockN rfl ?_
 | refine G_blockR ?_
 | refine G_thenR ?_
 | refine G_thenX ?_
          )
        )

end Go.Proofs.YtmfophoejjcnlaaGreatDoor
namespace Go.Proofs.YtmfophoejjcnlaaGreatDoor
open Go.E Go.RowKit
attribute [local irreducible] G C S D Calls
set_option maxRecDepth 100000
set_option linter.unusedSimpArgs false
set_option linter.unusedVariables false

theorem row_arc {o : List Seen} {v : Nat} (h : v < o.length) : ∀ (j : Nat) (u : Value), ([.int .i64 (aS o v).E, .bool (aS o v).B, .int .i64 (aS o v).N] : List Value)[j]? = some u → (o.flatMap seC)[(((v : Nat) : Int).toNat * 5 + 0) + j]? = some u := by
  intro j u hu
  rw [Nat.add_zero]
  refine idxS (f := seC) (fun _ => rfl) h j u ?_
  have e : gS o v = o[v] := gS_at h
  unfold aS at hu
  rw [e] at hu
  match j, hu with
  | 0, hu => exact hu
  | 1, hu => exact hu
  | 2, hu => exact hu
  | j + 3, hu => simp at hu
theorem row_seen {o : List Seen} {v : Nat} (h : v < o.length) : ∀ (j : Nat) (u : Value), ([.int .i64 (aS o v).E, .bool (aS o v).B, .int .i64 (aS o v).N, .int .i64 (gS o v).S, .bool (gS o v).R] : List Value)[j]? = some u → (o.flatMap seC)[(((v : Nat) : Int).toNat * 5) + j]? = some u := by
  intro j u hu
  refine idxS (f := seC) (fun _ => rfl) h j u ?_
  have e : gS o v = o[v] := gS_at h
  unfold aS at hu
  rw [e] at hu
  exact hu

set_option maxHeartbeats 2000000 in
/-- timing.Loop -/
theorem loop_c (A A2 : Option Addr) (c c2 : Nat) (names : List ByteArray) (es : List Edg) (hn : names.length ≤ 1000000) (hm : es.length ≤ 1000000) (hs : ∀ s ∈ names, s.size ≤ maxLen) (w : World) (hr : Rd w A (names.map .string)) (hr2 : Rd w A2 (es.flatMap edC)) : Calls Tryz.prog 68 #[.agg #[.slice A names.length c, .slice A2 es.length c2]] w fun r w' => ∃ v, r = .returned v ∧ Below w.heap.size w w' ∧ Sl2 w w' v (loopR names es).1.length ((loopR names es).1.flatMap arC) (.int .i64 (loopR names es).2) := by
  refine calls_of (args := [.agg #[.slice A names.length c, .slice A2 es.length c2]]) T_ok Tryz.func68 rfl Tryz.ntmps68 (Nat.le_of_ble_eq_true rfl) rfl ?_
  by_cases h0 : netF names es = 0
  · have ok := netF_ok h0
    have hL := longW_len es names.length 0
    by_cases h1 : 0 ≤ (longW es names.length 0).2
    · have hR : loopR names es = ((lpA es names.length (lpK es names.length)).reverse, 0) := by unfold loopR; rw [if_neg (by simp [h0]), if_pos h1]
      have lk := lp_ok ok.e ok.n0 ok.n ok.m h1
      have hn12 := ok.n
      have hm24 := ok.m
      repeat' (first
 | (refine C_id ?_; first
 | refine C_scope ?_
 | refine C_label ?_
 | refine C_seq ?_
 | refine C_region rfl ?_
 | refine C_block ?_
 | refine C_skip ?_
 | refine C_exit ?_
 | refine C_ret0 ?_
 | refine C_draw (id := 9) rfl mixed (by kernel_rfl) ?_
 | refine C_condT rfl obQ ?_
 | refine C_condF rfl obQ ?_
 | (refine C_cond rfl obQ (fun h => ?_) (fun h => ?_) <;> (try simp only [Bool.or_eq_true, Bool.and_eq_true, Bool.or_eq_false_iff, Bool.and_eq_false_iff, decide_eq_true_eq, decide_eq_false_iff_not, beq_iff_eq, bne_iff_ne, beq_eq_false_iff_ne, bne_eq_false_iff_eq, ne_eq, Decidable.not_not, List.cons.injEq, and_true, Bool.not_eq_true', Bool.not_eq_false', Int.not_lt, Int.not_le] at h) <;> (try (exfalso; omega)))
            )
 | (refine S_id ?_; first
 | (refine S_callM rfl obQ (by kernel_rfl) (fun w hw => longest_c A A2 c c2 names.length es 0 ok.n0 (by have := ok.n; omega) (by have := ok.m; omega) ok.e w (hw.rdm (Rd.toS hr2) memQ)) (fun w1L w2L vL hw1L hbL hRL => ?_); obtain ⟨AL, cL, rfl, hSL⟩ := hRL; obtain ⟨adL, rfl⟩ := hSL.rd.some (by rw [flat_len (f := seC) (s := 5) _ (fun _ _ => rfl), longW_len]; have := ok.n0; omega))
 | refine S_valD 6 (v := .int .i64 (longW es names.length 0).2) (v' := .int .i64 (((longW es names.length 0).2.toNat : Nat) : Int)) rfl (by rw [← lk.z.1]) ?_
 | refine S_nil ?_
 | refine S_run rfl rfl obQ obQ ?_
 | refine S_box (fun b => ⟨_, _, rfl, obQ, ?_⟩)
 | refine S_slice (fun b => ⟨_, _, rfl, obQ, ?_⟩)
 | refine S_call (f := 61) rfl obQ (by kernel_rfl) (fun w hw => checkNet_c A A2 c c2 names es hn hm hs w (hw.rdm (Rd.toS hr) memQ) (hw.rdm (Rd.toS hr2) memQ)) ?_
            )
 | (refine D_id ?_; first
 | refine D_nil ?_
 | refine D_tail ?_
 | refine D_run rfl rfl obQ obQ ?_
 | refine D_call (f := 61) rfl obQ (by kernel_rfl) (fun w hw => checkNet_c A A2 c c2 names es hn hm hs w (hw.rdm (Rd.toS hr) memQ) (hw.rdm (Rd.toS hr2) memQ)) ?_
            )
 | (refine G_id ?_; first
 | refine G_scope ?_
 | refine G_scopeR ?_
 | refine G_scopeX ?_
 | refine G_then ?_
 | refine G_block ?_
 | refine G_blockX ?_
 | refine G_blockN rfl ?_
 | refine G_blockR ?_
 | refine G_thenR ?_
 | refine G_thenX ?_
 | refine G_ret rfl obQ (fun w hw => ⟨?_, hw.below⟩)
            )
          )
      refine C_loopS (fun k : Nat => ⟨[(27, .s (.v (.int .i64 k))), (26, .s (.v (.int .i64 names.length))), (6, .s (.v (.int .i64 ((itv es (longW es names.length 0).1 k (longW es names.length 0).2.toNat : Nat) : Int)))), (5, .s (.v (.slice (some adL) names.length cL))), (1, .s (.p b 0 0))], [⟨b, 89, [.v (.slice A names.length c), .v (.slice A2 es.length c2)]⟩], []⟩) (fun k => k ≤ names.length) (fun k => names.length - k) 0 (Nat.zero_le _) ?_ (fun k hk => ?_)
      · exact ⟨⟨_, rfl, obQ⟩, ⟨_, rfl⟩, rfl, pstQ⟩
      by_cases hlt : k < names.length
      · have hv := lk.v k
        have hvl : itv es (longW es names.length 0).1 k (longW es names.length 0).2.toNat < (longW es names.length 0).1.length := by rw [hL]; exact hv
        have hok := (leavingF_ok es _ _ _ (lk.a k)).1
        have hft := leav_fst (lk.a k)
        repeat' (first
 | (refine C_id ?_; first
 | refine C_scope ?_
 | refine C_label ?_
 | refine C_seq ?_
 | refine C_region rfl ?_
 | refine C_block ?_
 | refine C_skip ?_
 | refine C_exit ?_
 | refine C_ret0 ?_
 | refine C_draw (id := 9) rfl mixed (by kernel_rfl) ?_
 | refine C_condT rfl obQ ?_
 | refine C_condF rfl obQ ?_
 | (refine C_cond rfl obQ (fun h => ?_) (fun h => ?_) <;> (try simp only [Bool.or_eq_true, Bool.and_eq_true, Bool.or_eq_false_iff, Bool.and_eq_false_iff, decide_eq_true_eq, decide_eq_false_iff_not, beq_iff_eq, bne_iff_ne, beq_eq_false_iff_ne, bne_eq_false_iff_eq, ne_eq, Decidable.not_not, List.cons.injEq, and_true, Bool.not_eq_true', Bool.not_eq_false', Int.not_lt, Int.not_le] at h) <;> (try (exfalso; omega)))
              )
 | (refine S_id ?_; first
 | refine S_load rfl obQ rfl [.int .i64 (aS (longW es names.length 0).1 (itv es (longW es names.length 0).1 k (longW es names.length 0).2.toNat)).E, .bool (aS (longW es names.length 0).1 (itv es (longW es names.length 0).1 k (longW es names.length 0).2.toNat)).B, .int .i64 (aS (longW es names.length 0).1 (itv es (longW es names.length 0).1 k (longW es names.length 0).2.toNat)).N] (.past (w2L, fun b => w1L.heap.size ≤ b ∧ b < w2L.heap.size) memQ _ _ hSL ((((itv es (longW es names.length 0).1 k (longW es names.length 0).2.toNat : Nat) : Int).toNat * 5) + 0) _ rfl (add_of_add _ _ _) (row_arc hvl)) rfl (.inl ⟨rfl, rfl⟩) ?_
 | refine S_valD 6 (v := .int .i64 (endsF es (aS (longW es names.length 0).1 (itv es (longW es names.length 0).1 k (longW es names.length 0).2.toNat))).1) (v' := .int .i64 ((itv es (longW es names.length 0).1 (k + 1) (longW es names.length 0).2.toNat : Nat) : Int)) rfl (by rw [hft, itv_succ]) ?_
 | refine S_nil ?_
 | refine S_run rfl rfl obQ obQ ?_
 | refine S_box (fun b => ⟨_, _, rfl, obQ, ?_⟩)
 | refine S_slice (fun b => ⟨_, _, rfl, obQ, ?_⟩)
 | refine S_call (f := 119) rfl obQ (by kernel_rfl) (fun w hw => ends_c A A2 c c2 names.length es (aS (longW es names.length 0).1 (itv es (longW es names.length 0).1 k (longW es names.length 0).2.toNat)) (by omega) hok w (hw.rdm (Rd.toS hr2) memQ)) ?_
              )
 | (refine D_id ?_; first
 | refine D_load rfl obQ rfl [.int .i64 (aS (longW es names.length 0).1 (itv es (longW es names.length 0).1 k (longW es names.length 0).2.toNat)).E, .bool (aS (longW es names.length 0).1 (itv es (longW es names.length 0).1 k (longW es names.length 0).2.toNat)).B, .int .i64 (aS (longW es names.length 0).1 (itv es (longW es names.length 0).1 k (longW es names.length 0).2.toNat)).N] (.past (w2L, fun b => w1L.heap.size ≤ b ∧ b < w2L.heap.size) memQ _ _ hSL ((((itv es (longW es names.length 0).1 k (longW es names.length 0).2.toNat : Nat) : Int).toNat * 5) + 0) _ rfl (add_of_add _ _ _) (row_arc hvl)) rfl (.inl ⟨rfl, rfl⟩) ?_
 | refine D_nil ?_
 | refine D_tail ?_
 | refine D_run rfl rfl obQ obQ ?_
 | refine D_call (f := 119) rfl obQ (by kernel_rfl) (fun w hw => ends_c A A2 c c2 names.length es (aS (longW es names.length 0).1 (itv es (longW es names.length 0).1 k (longW es names.length 0).2.toNat)) (by omega) hok w (hw.rdm (Rd.toS hr2) memQ)) ?_
              )
 | (refine G_id ?_; first
 | refine G_scope ?_
 | refine G_scopeR ?_
 | refine G_scopeX ?_
 | refine G_loop (k + 1) (by show k + 1 ≤ _; omega) (by show names.length - (k + 1) < names.length - k; omega) ⟨⟨_, rfl, obQ⟩, ⟨_, rfl⟩, rfl, pstQ⟩
 | refine G_then ?_
 | refine G_block ?_
 | refine G_blockX ?_
 | refine G_blockN rfl ?_
 | refine G_blockR ?_
 | refine G_thenR ?_
 | refine G_thenX ?_
 | refine G_ret rfl obQ (fun w hw => ⟨?_, hw.below⟩)
              )
            )
      · obtain rfl : k = names.length := by omega
        repeat' (first
 | (refine C_id ?_; first
 | refine C_scope ?_
 | refine C_label ?_
 | refine C_seq ?_
 | refine C_region rfl ?_
 | refine C_block ?_
 | refine C_skip ?_
 | refine C_exit ?_
 | refine C_ret0 ?_
 | refine C_draw (id := 9) rfl mixed (by kernel_rfl) ?_
 | refine C_condT rfl obQ ?_
 | refine C_condF rfl obQ ?_
 | (refine C_cond rfl obQ (fun h => ?_) (fun h => ?_) <;> (try simp only [Bool.or_eq_true, Bool.and_eq_true, Bool.or_eq_false_iff, Bool.and_eq_false_iff, decide_eq_true_eq, decide_eq_false_iff_not, beq_iff_eq, bne_iff_ne, beq_eq_false_iff_ne, bne_eq_false_iff_eq, ne_eq, Decidable.not_not, List.cons.injEq, and_true, Bool.not_eq_true', Bool.not_eq_false', Int.not_lt, Int.not_le] at h) <;> (try (exfalso; omega)))
              )
 | (refine S_id ?_; first
 | refine S_nil ?_
 | refine S_run rfl rfl obQ obQ ?_
 | refine S_box (fun b => ⟨_, _, rfl, obQ, ?_⟩)
 | refine S_slice (fun b => ⟨_, _, rfl, obQ, ?_⟩)
              )
 | (refine D_id ?_; first
 | refine D_nil ?_
 | refine D_tail ?_
 | refine D_run rfl rfl obQ obQ ?_
              )
 | (refine G_id ?_; first
 | refine G_scope ?_
 | refine G_scopeR ?_
 | refine G_scopeX ?_
 | refine G_then ?_
 | refine G_block ?_
 | refine G_blockX ?_
 | refine G_blockN rfl ?_
 | refine G_blockR ?_
 | refine G_thenR ?_
 | refine G_thenX ?_
 | refine G_ret rfl obQ (fun w hw => ⟨?_, hw.below⟩)
              )
            )
        refine C_row0 8 171 3 rfl ?_
        refine C_loopS (fun i : Nat × Option Addr × Nat => ⟨[(8, .s (.r i.2.1 i.1 i.2.2 0)), (6, .s (.v (.int .i64 ((itv es (longW es names.length 0).1 i.1 (lpB es names.length) : Nat) : Int)))), (9, .s (.v (.int .i64 ((lpB es names.length : Nat) : Int)))), (5, .s (.v (.slice (some adL) names.length cL))), (1, .s (.p b 0 0))], [⟨b, 89, [.v (.slice A names.length c), .v (.slice A2 es.length c2)]⟩], [⟨171, 3, i.1, (lpA es names.length i.1).flatMap arC, .slice i.2.1 i.1 i.2.2⟩]⟩) (fun i => i.1 < lpK es names.length) (fun i => lpK es names.length - i.1) (0, none, 0) (by have := lk.k; show 0 < _; omega) ?_ (fun i hi => ?_)
        · exact ⟨⟨_, rfl, obQ⟩, ⟨_, rfl⟩, rfl, pstQ⟩
        obtain ⟨j, A', c'⟩ := i
        have hj : j < lpK es names.length := hi
        have hkk := lk.k
        dsimp only
        obtain ⟨a1, a2, _, a4⟩ := lk.at j
        have hvl : itv es (longW es names.length 0).1 j (lpB es names.length) < (longW es names.length 0).1.length := by rw [hL]; exact a1
        have hok := (leavingF_ok es _ _ _ a2).1
        have hmt : (lpA es names.length (j + 1)).flatMap arC = (lpA es names.length j).flatMap arC ++ arC (aS (longW es names.length 0).1 (itv es (longW es names.length 0).1 j (lpB es names.length))) := by rw [lpA_succ, List.flatMap_append]; simp
        have hJ : ((itv es (longW es names.length 0).1 (j + 1) (lpB es names.length) : Nat) : Int) = ((lpB es names.length : Nat) : Int) → j + 1 = lpK es names.length := fun h => by
          rcases Nat.lt_or_ge (j + 1) (lpK es names.length) with h2 | h2
          · exact absurd (Int.ofNat.inj h) (hkk.2.2.2 (j + 1) (by omega) h2)
          · omega
        have hJ2 : ¬ ((itv es (longW es names.length 0).1 (j + 1) (lpB es names.length) : Nat) : Int) = ((lpB es names.length : Nat) : Int) → j + 1 < lpK es names.length := fun h => by
          rcases Nat.lt_or_ge (j + 1) (lpK es names.length) with h2 | h2
          · exact h2
          · obtain h3 : j + 1 = lpK es names.length := by omega
            rw [h3, hkk.2.2.1] at h
            exact absurd rfl h
        repeat' (first
 | (refine C_id ?_; first
 | refine C_scope ?_
 | refine C_label ?_
 | refine C_seq ?_
 | refine C_region rfl ?_
 | refine C_block ?_
 | refine C_skip ?_
 | refine C_exit ?_
 | refine C_ret0 ?_
 | refine C_draw (id := 9) rfl mixed (by kernel_rfl) ?_
 | refine C_condT rfl obQ ?_
 | refine C_condF rfl obQ ?_
 | (refine C_cond rfl obQ (fun h => ?_) (fun h => ?_) <;> (try simp only [Bool.or_eq_true, Bool.and_eq_true, Bool.or_eq_false_iff, Bool.and_eq_false_iff, decide_eq_true_eq, decide_eq_false_iff_not, beq_iff_eq, bne_iff_ne, beq_eq_false_iff_ne, bne_eq_false_iff_eq, ne_eq, Decidable.not_not, List.cons.injEq, and_true, Bool.not_eq_true', Bool.not_eq_false', Int.not_lt, Int.not_le] at h) <;> (try (exfalso; omega)))
              )
 | (refine S_id ?_; first
 | refine S_load rfl obQ rfl [.int .i64 (aS (longW es names.length 0).1 (itv es (longW es names.length 0).1 j (lpB es names.length))).E, .bool (aS (longW es names.length 0).1 (itv es (longW es names.length 0).1 j (lpB es names.length))).B, .int .i64 (aS (longW es names.length 0).1 (itv es (longW es names.length 0).1 j (lpB es names.length))).N, .int .i64 (gS (longW es names.length 0).1 (itv es (longW es names.length 0).1 j (lpB es names.length))).S, .bool (gS (longW es names.length 0).1 (itv es (longW es names.length 0).1 j (lpB es names.length))).R] (.past (w2L, fun b => w1L.heap.size ≤ b ∧ b < w2L.heap.size) memQ _ _ hSL (((itv es (longW es names.length 0).1 j (lpB es names.length) : Nat) : Int).toNat * 5) _ rfl rfl (row_seen hvl)) rfl (.inl ⟨rfl, rfl⟩) ?_
 | refine S_append rfl obQ rfl rfl rfl ⟨by decide, rfl⟩ rfl ⟨rfl, rfl, rfl, rfl⟩ [.int .i64 (aS (longW es names.length 0).1 (itv es (longW es names.length 0).1 j (lpB es names.length))).E, .bool (aS (longW es names.length 0).1 (itv es (longW es names.length 0).1 j (lpB es names.length))).B, .int .i64 (aS (longW es names.length 0).1 (itv es (longW es names.length 0).1 j (lpB es names.length))).N] ⟨by decide, rfl⟩ (by simp [Value.oneCell']) (fun w hw => by first | exact hw.src (i := 0) rfl rfl | exact hw.src (i := 1) rfl rfl | exact hw.src (i := 2) rfl rfl | exact hw.src (i := 3) rfl rfl | exact hw.src (i := 4) rfl rfl | exact hw.src (i := 5) rfl rfl) (by unfold maxLen; dsimp only; omega) (fun gb cap' => ⟨_, rfl, ?_⟩)
 | refine S_valD 6 (v := .int .i64 (endsF es (aS (longW es names.length 0).1 (itv es (longW es names.length 0).1 j (lpB es names.length)))).1) (v' := .int .i64 ((itv es (longW es names.length 0).1 (j + 1) (lpB es names.length) : Nat) : Int)) rfl (by rw [a4]) ?_
 | refine S_callMut (f := 120) 0 rfl ((lpA es names.length (j + 1)).reverse.flatMap arC) rfl obQ (by kernel_rfl) (fun w hw ho => reverseA_c _ (j + 1) _ (lpA es names.length (j + 1)) (lpA_len _ _ _) (by omega) (by omega) w (by rw [hmt]; exact ho)) (fun v => ?_)
 | refine S_nil ?_
 | refine S_run rfl rfl obQ obQ ?_
 | refine S_box (fun b9 => ⟨_, _, rfl, obQ, ?_⟩)
 | refine S_slice (fun b => ⟨_, _, rfl, obQ, ?_⟩)
 | refine S_call (f := 119) rfl obQ (by kernel_rfl) (fun w hw => ends_c A A2 c c2 names.length es (aS (longW es names.length 0).1 (itv es (longW es names.length 0).1 j (lpB es names.length))) (by omega) hok w (hw.rdm (Rd.toS hr2) memQ)) ?_
              )
 | (refine D_id ?_; first
 | refine D_nil ?_
 | refine D_tail ?_
 | refine D_run rfl rfl obQ obQ ?_
 | refine D_call (f := 119) rfl obQ (by kernel_rfl) (fun w hw => ends_c A A2 c c2 names.length es (aS (longW es names.length 0).1 (itv es (longW es names.length 0).1 j (lpB es names.length))) (by omega) hok w (hw.rdm (Rd.toS hr2) memQ)) ?_
              )
 | (refine G_id ?_; first
 | refine G_scope ?_
 | refine G_scopeR ?_
 | refine G_scopeX ?_
 | refine G_loop (j + 1, some ⟨gb, 0, none⟩, cap') (hJ2 h) (by show lpK es names.length - (j + 1) < lpK es names.length - j; omega) ⟨⟨_, rfl, obQ⟩, ⟨_, rfl⟩, (by dsimp only; rw [hmt]; rfl), pstQ⟩
 | refine G_then ?_
 | refine G_block ?_
 | refine G_blockX ?_
 | refine G_blockN rfl ?_
 | refine G_blockR ?_
 | refine G_thenR ?_
 | refine G_thenX ?_
 | refine G_ret rfl obQ (fun w2 hw => ⟨_, rfl, hw.below, Sl.two (v := .slice (some ⟨gb, 0, none⟩) (j + 1) cap') (by rw [hR, ← hJ h]; exact HW.rowSl (i := 0) hw rfl rfl (by rw [List.length_reverse, lpA_len]) rfl) (by rw [hR])⟩)
              )
            )
    · have hR : loopR names es = ([], 7) := by unfold loopR; rw [if_neg (by simp [h0]), if_neg h1]
      repeat' (first
 | (refine C_id ?_; first
 | refine C_scope ?_
 | refine C_label ?_
 | refine C_seq ?_
 | refine C_region rfl ?_
 | refine C_block ?_
 | refine C_skip ?_
 | refine C_exit ?_
 | refine C_ret0 ?_
 | refine C_draw (id := 9) rfl mixed (by kernel_rfl) ?_
 | refine C_condT rfl obQ ?_
 | refine C_condF rfl obQ ?_
 | (refine C_cond rfl obQ (fun h => ?_) (fun h => ?_) <;> (try simp only [Bool.or_eq_true, Bool.and_eq_true, Bool.or_eq_false_iff, Bool.and_eq_false_iff, decide_eq_true_eq, decide_eq_false_iff_not, beq_iff_eq, bne_iff_ne, beq_eq_false_iff_ne, bne_eq_false_iff_eq, ne_eq, Decidable.not_not, List.cons.injEq, and_true, Bool.not_eq_true', Bool.not_eq_false', Int.not_lt, Int.not_le] at h) <;> (try (exfalso; omega)))
            )
 | (refine S_id ?_; first
 | (refine S_callM rfl obQ (by kernel_rfl) (fun w hw => longest_c A A2 c c2 names.length es 0 ok.n0 (by have := ok.n; omega) (by have := ok.m; omega) ok.e w (hw.rdm (Rd.toS hr2) memQ)) (fun w1L w2L vL hw1L hbL hRL => ?_); obtain ⟨AL, cL, rfl, hSL⟩ := hRL; obtain ⟨adL, rfl⟩ := hSL.rd.some (by rw [flat_len (f := seC) (s := 5) _ (fun _ _ => rfl), longW_len]; have := ok.n0; omega))
 | refine S_nil ?_
 | refine S_run rfl rfl obQ obQ ?_
 | refine S_box (fun b => ⟨_, _, rfl, obQ, ?_⟩)
 | refine S_slice (fun b => ⟨_, _, rfl, obQ, ?_⟩)
 | refine S_call (f := 61) rfl obQ (by kernel_rfl) (fun w hw => checkNet_c A A2 c c2 names es hn hm hs w (hw.rdm (Rd.toS hr) memQ) (hw.rdm (Rd.toS hr2) memQ)) ?_
            )
 | (refine D_id ?_; first
 | refine D_nil ?_
 | refine D_tail ?_
 | refine D_run rfl rfl obQ obQ ?_
 | refine D_call (f := 61) rfl obQ (by kernel_rfl) (fun w hw => checkNet_c A A2 c c2 names es hn hm hs w (hw.rdm (Rd.toS hr) memQ) (hw.rdm (Rd.toS hr2) memQ)) ?_
            )
 | (refine G_id ?_; first
 | refine G_scope ?_
 | refine G_scopeR ?_
 | refine G_scopeX ?_
 | refine G_then ?_
 | refine G_block ?_
 | refine G_blockX ?_
 | refine G_blockN rfl ?_
 | refine G_blockR ?_
 | refine G_thenR ?_
 | refine G_thenX ?_
 | refine G_ret rfl obQ (fun w2 hw => ⟨_, rfl, hw.below, Sl.two (v := .slice none 0 0) (by rw [hR]; exact Sl.nil_ _ _) (by rw [hR])⟩)
            )
          )
  · have hR : loopR names es = ([], netF names es) := by unfold loopR; rw [if_pos h0]
    repeat' (first
 | (refine C_id ?_; first
 | refine C_scope ?_
 | refine C_label ?_
 | refine C_seq ?_
 | refine C_region rfl ?_
 | refine C_block ?_
 | refine C_skip ?_
 | refine C_exit ?_
 | refine C_ret0 ?_
 | refine C_draw (id := 9) rfl mixed (by kernel_rfl) ?_
 | refine C_condT rfl obQ ?_
 | refine C_condF rfl obQ ?_
 | (refine C_cond rfl obQ (fun h => ?_) (fun h => ?_) <;> (try simp only [Bool.or_eq_true, Bool.and_eq_true, Bool.or_eq_false_iff, Bool.and_eq_false_iff, decide_eq_true_eq, decide_eq_false_iff_not, beq_iff_eq, bne_iff_ne, beq_eq_false_iff_ne, bne_eq_false_iff_eq, ne_eq, Decidable.not_not, List.cons.injEq, and_true, Bool.not_eq_true', Bool.not_eq_false', Int.not_lt, Int.not_le] at h) <;> (try (exfalso; omega)))
          )
 | (refine S_id ?_; first
 | refine S_nil ?_
 | refine S_run rfl rfl obQ obQ ?_
 | refine S_box (fun b => ⟨_, _, rfl, obQ, ?_⟩)
 | refine S_slice (fun b => ⟨_, _, rfl, obQ, ?_⟩)
 | refine S_call (f := 61) rfl obQ (by kernel_rfl) (fun w hw => checkNet_c A A2 c c2 names es hn hm hs w (hw.rdm (Rd.toS hr) memQ) (hw.rdm (Rd.toS hr2) memQ)) ?_
          )
 | (refine D_id ?_; first
 | refine D_nil ?_
 | refine D_tail ?_
 | refine D_run rfl rfl obQ obQ ?_
 | refine D_call (f := 61) rfl obQ (by kernel_rfl) (fun w hw => checkNet_c A A2 c c2 names es hn hm hs w (hw.rdm (Rd.toS hr) memQ) (hw.rdm (Rd.toS hr2) memQ)) ?_
          )
 | (refine G_id ?_; first
 | refine G_scope ?_
 | refine G_scopeR ?_
 | refine G_scopeX ?_
 | refine G_then ?_
 | refine G_block ?_
 | refine G_blockX ?_
 | refine G_blockN rfl ?_
 | refine G_blockR ?_
 | refine G_thenR ?_
 | refine G_thenX ?_
 | refine G_ret rfl obQ (fun w2 hw => ⟨_, rfl, hw.below, Sl.two (v := .slice none 0 0) (by rw [hR]; exact Sl.nil_ _ _) (by rw [hR])⟩)
          )
        )

end Go.Proofs.YtmfophoejjcnlaaGreatDoor
namespace Go.Proofs.YtmfophoejjcnlaaGreatDoor
open Go.E Go.RowKit
attribute [local irreducible] G C S D Calls
set_option maxRecDepth 100000
set_option linter.unusedSimpArgs false
set_option linter.unusedVariables false

/-- Where a walk over arcs ends. -/
def endL (es : List Edg) : List Arc → Int → Int
  | [], t => t
  | a :: r, _ => endL es r (endsF es a).2
theorem endL_last (es : List Edg) : ∀ (l : List Arc) (t : Int), 0 < l.length → endL es l t = (endsF es (lastA l)).2
  | [], t, h => by simp at h
  | [a], t, _ => rfl
  | a :: b :: r, t, _ => by
    have h1 := endL_last es (b :: r) (endsF es a).2 (by simp)
    show endL es (b :: r) (endsF es a).2 = _
    rw [h1]
    congr 2
theorem arc_leav {es : List Edg} {nn : Nat} {a : Arc} (h : arcF nn es.length a = 0) : a ∈ leavingF es nn (endsF es a).1 := by
  obtain ⟨E, B, N⟩ := a
  unfold arcF arcL at h
  rw [firstL_zero] at h
  simp only [List.mem_cons, List.mem_nil_iff, or_false, forall_eq_or_imp, forall_eq, wh_zero (show (10 : Int) ≠ 0 by omega), wh_zero (show (1 : Int) ≠ 0 by omega), Bool.or_eq_false_iff, Bool.and_eq_false_iff, decide_eq_false_iff_not, beq_eq_false_iff_ne, ne_eq, bne_eq_false_iff_eq] at h
  obtain ⟨⟨⟨h1, h2⟩, h3⟩, h4, h5⟩ := h
  unfold leavingF
  rw [List.mem_append]
  by_cases h0 : 0 ≤ E
  · left
    obtain ⟨k, rfl⟩ := toNat_eq h0
    have hN : N = 0 := by rcases h4 with h4 | h4 <;> omega
    subst hN
    unfold preJ
    simp only [List.mem_append, List.mem_flatMap, List.mem_range, List.mem_filter, List.take_zero, List.filter_nil, List.not_mem_nil, or_false]
    refine ⟨k, by omega, ?_, by unfold lvc; rw [beq_iff_eq]⟩
    cases B
    · exact List.mem_cons_self ..
    · exact List.mem_cons_of_mem _ (List.mem_cons_self ..)
  · right
    have hE : E = -1 := by omega
    subst hE
    have hB : B = false := by
      rcases h5 with h5 | h5
      · omega
      · exact h5
    subst hB
    have hN : 0 ≤ N ∧ N < nn := by
      rcases h3 with h3 | h3
      · exact absurd rfl h3
      · omega
    obtain ⟨k, rfl⟩ := toNat_eq hN.1
    rw [if_pos (show (endsF es ⟨-1, false, (k : Int)⟩).1 = 0 by unfold endsF; simp)]
    exact List.mem_map.2 ⟨k, List.mem_range.2 (by omega), rfl⟩
theorem walk_pot {es : List Edg} {nn : Nat} (hE : ∀ e ∈ es, EdOk nn e) (hn : 0 < nn) : ∀ (l : List Arc) (s t : Int), (∀ a ∈ l, arcF nn es.length a = 0) → l.length ≤ 1000 → -100000 * (10000 - l.length : Int) ≤ s → s ≤ 100000 * (10000 - l.length : Int) → walkW es l s t = 0 →
    ∃ m : Int, 0 < s + m ∧ ∀ p, Pot es nn p → p t.toNat + m ≤ p (endL es l t).toNat
  | [], s, t, _, _, _, _, h => by
    refine ⟨0, ?_, fun p _ => ?_⟩
    · unfold walkW at h
      rw [wh_zero (by omega), decide_eq_false_iff_not] at h
      omega
    · show p t.toNat + 0 ≤ p t.toNat
      omega
  | a :: r, s, t, ha, hl, h1, h2, h => by
    have haF := ha a (by simp)
    have hlv := arc_leav haF
    have hao := leavingF_ok es nn _ a hlv
    have hb := boundF_bd hE hao
    have hbd := endsF_bd hE hao hn
    rw [List.length_cons] at hl h1 h2
    unfold walkW at h
    split at h
    · cases h
    · rename_i ht
      have ht' : (endsF es a).1 = t := Classical.not_not.1 ht
      have hw : IntKind.i64.wrap (s + boundF es a) = s + boundF es a := inR_wrap (by simp only [inR]; omega)
      rw [hw] at h
      obtain ⟨m, m1, m2⟩ := walk_pot hE hn r (s + boundF es a) (endsF es a).2 (fun x hx => ha x (by simp [hx])) (by omega) (by omega) (by omega) h
      refine ⟨boundF es a + m, by omega, fun p hp => ?_⟩
      have h3 := m2 p hp
      obtain ⟨x, hx⟩ := toNat_eq hbd.1.1
      obtain ⟨y, hy⟩ := toNat_eq hbd.2.1
      have h4 := hp x y (boundF es a) ⟨a, by rw [← hx]; exact hlv, hy, rfl⟩
      show p t.toNat + (boundF es a + m) ≤ p (endL es r (endsF es a).2).toNat
      rw [hy, Int.toNat_natCast] at h3
      rw [hy]
      rw [← ht', hx, Int.toNat_natCast]
      omega
section
variable {names : List ByteArray} {es : List Edg} {l : List Int}
theorem fea_loop (hN : netF names es = 0) (h0 : Fea es names.length) (l : List Arc) : loopE names es l ≠ 0 := by
  have ok := netF_ok hN
  have fo := fea_ok ok.e ok.n0 ok.n ok.m h0
  intro h
  have h1 : loopE1 names es l = 0 := by
    unfold loopE at h
    split at h
    · exact h
    · rename_i h1
      exact Classical.not_not.1 h1
  obtain ⟨_, hl0, hl64⟩ := loopE1_ok h1
  have h2 : loopE2 names.length es.length l = 0 := by
    unfold loopE at h
    rw [if_neg (by simp [h1])] at h
    split at h
    · exact h
    · rename_i h2
      exact Classical.not_not.1 h2
  have h3 : walkW es l 0 (endsF es (lastA l)).2 = 0 := by
    unfold loopE at h
    rw [if_neg (by simp [h1]), if_neg (by simp [h2])] at h
    exact h
  have ha : ∀ a ∈ l, arcF names.length es.length a = 0 := by
    unfold loopE2 at h2
    rw [firstL_zero] at h2
    exact fun a ha => h2 _ (List.mem_map.2 ⟨a, ha, rfl⟩)
  obtain ⟨m, m1, m2⟩ := walk_pot ok.e ok.n0 l 0 _ ha (by omega) (by omega) (by omega) h3
  have := m2 _ fo.pot
  rw [endL_last es l _ hl0] at this
  omega
theorem loop_none (hN : netF names es = 0) (h0 : Fea es names.length) : loopR names es = ([], 7) := by
  unfold loopR
  rw [if_neg (by simp [hN]), if_neg h0]
theorem loop_yes (hN : netF names es = 0) (h0 : ¬ Fea es names.length) : ∃ l, loopR names es = (l, 0) ∧ loopE names es l = 0 ∧ l.length ≤ 1000000 := by
  have h1 := Classical.not_not.1 h0
  have h2 : loopR names es = ((lpA es names.length (lpK es names.length)).reverse, 0) := by unfold loopR; rw [if_neg (by simp [hN]), if_pos h1]
  have h3 := loopR_len names es
  rw [h2] at h3
  exact ⟨_, h2, loopR_ok hN h1, h3⟩
theorem fea_times (hN : netF names es = 0) (h0 : ¬ Fea es names.length) (ts : List Int) : timesE names es ts ≠ 0 := fun h => by
  have ok := netF_ok hN
  exact h0 (long_pot ok.e ok.n0 ok.n ok.m ok.n0 (times_pot h).1).1
/-- The least plan, as a list. -/
structure Least (names : List ByteArray) (es : List Edg) (l : List Int) : Prop where
  len : l.length = names.length
  v : ∀ v, v < names.length → gT l v = pS es names.length v
theorem Least.pot (h : Least names es l) (hN : netF names es = 0) (h0 : Fea es names.length) : Pot es names.length (gT l) := fun u v b hA => by
  have ok := netF_ok hN
  have fo := fea_ok ok.e ok.n0 ok.n ok.m h0
  rw [h.v u (Ar_u ok.e ok.n0 hA), h.v v (Ar_bd ok.e ok.n0 hA).1]
  exact fo.pot u v b hA
theorem Least.range (h : Least names es l) (hN : netF names es = 0) (h0 : Fea es names.length) : ∀ v, v < names.length → 0 ≤ gT l v ∧ gT l v ≤ 1200000 := fun v hv => by
  have ok := netF_ok hN
  have fo := fea_ok ok.e ok.n0 ok.n ok.m h0
  have := fo.b v hv
  have := ok.n
  rw [h.v v hv]
  omega
theorem Least.zero (h : Least names es l) (hN : netF names es = 0) (h0 : Fea es names.length) : gT l 0 = 0 := by
  have ok := netF_ok hN
  rw [h.v 0 ok.n0]
  exact (fea_ok ok.e ok.n0 ok.n ok.m h0).z
theorem mem_gT {l : List Int} {P : Int → Prop} (h : ∀ v, v < l.length → P (gT l v)) : ∀ t ∈ l, P t := fun t ht => by
  obtain ⟨k, hk, rfl⟩ := List.getElem_of_mem ht
  rw [← gT_at hk]
  exact h k hk
theorem Least.times (h : Least names es l) (hN : netF names es = 0) (h0 : Fea es names.length) : timesE names es l = 0 := by
  have ok := netF_ok hN
  have hr : ∀ t ∈ l, 0 ≤ t ∧ t ≤ 10000000 := mem_gT fun v hv => by
    have := h.range hN h0 v (by rw [← h.len]; exact hv)
    omega
  rw [times_eq hN h.len hr, wh_zero (by omega), Bool.not_eq_false']
  exact (isPlan_iff ok.e ok.n0 fun k => (bdT_of (B := 10000000) (by omega) hr k).1).2 ⟨h.pot hN h0, h.zero hN h0⟩
theorem Least.sets (h : Least names es l) (hN : netF names es = 0) (h0 : Fea es names.length) : settingsR names es l = (es.map (setF l), 0) ∧ ∀ e ∈ es, e.L ≤ setF l e ∧ setF l e ≤ e.H := by
  have ok := netF_ok hN
  refine ⟨by unfold settingsR; rw [if_neg (by simp [h.times hN h0])], fun e he => ?_⟩
  have hp := h.pot hN h0
  have hk := ok.e e he
  obtain ⟨x, hx⟩ := toNat_eq hk.F.1
  obtain ⟨y, hy⟩ := toNat_eq hk.T.1
  have a1 := hp x y e.L ((Ar_iff ok.e).2 (.inl ⟨e, he, hx, hy, rfl⟩))
  have a2 := hp y x (0 - e.H) ((Ar_iff ok.e).2 (.inr (.inl ⟨e, he, hy, hx, rfl⟩)))
  unfold setF
  rw [hx, hy, Int.toNat_natCast, Int.toNat_natCast]
  omega
theorem Least.le (h : Least names es l) (hN : netF names es = 0) (h0 : Fea es names.length) {ts : List Int} (ht : timesE names es ts = 0) {f : Nat} (hf : f < names.length) : gT l f ≤ gT ts f := by
  have ok := netF_ok hN
  have hp := times_pot ht
  have := (fea_ok ok.e ok.n0 ok.n ok.m h0).least hp.1 hf
  rw [h.v f hf]
  omega
theorem Least.less (h : Least names es l) (hN : netF names es = 0) (h0 : Fea es names.length) {f : Nat} (hf : f < names.length) (hpos : 0 < gT l f) : timesE names es (l.set f (gT l f - 1)) = 24 := by
  have ok := netF_ok hN
  have hg : ∀ v, gT (l.set f (gT l f - 1)) v = if v = f then gT l f - 1 else gT l v := fun v => by
    rw [gT_set]
    by_cases hv : v = f
    · rw [if_pos ⟨hv, by rw [h.len]; exact hf⟩, if_pos hv]
    · rw [if_neg (fun h => hv h.1), if_neg hv]
  have hlen : (l.set f (gT l f - 1)).length = names.length := by rw [List.length_set, h.len]
  have hr : ∀ t ∈ l.set f (gT l f - 1), 0 ≤ t ∧ t ≤ 10000000 := mem_gT fun v hv => by
    have h1 := h.range hN h0 v (by rw [← hlen]; exact hv)
    have h2 := h.range hN h0 f hf
    rw [hg]
    split <;> omega
  rw [times_eq hN hlen hr]
  cases hP : isPlanB es (l.set f (gT l f - 1))
  · rfl
  · exfalso
    have ht : timesE names es (l.set f (gT l f - 1)) = 0 := by rw [times_eq hN hlen hr, hP]; rfl
    have := h.le hN h0 ht hf
    rw [hg, if_pos rfl] at this
    omega
theorem Least.win (h : Least names es l) (hN : netF names es = 0) (h0 : Fea es names.length) {f : Nat} (hf : f < names.length) : ∃ a b z, windowR names es f = (a, b, z) ∧ (z = 0 ∨ z = 32) ∧ (z = 0 → a = gT l f ∧ gT l f ≤ b ∧ ∀ ts, timesE names es ts = 0 → gT ts f ≤ b) := by
  obtain ⟨a, b, z, h1, h2, h3⟩ := win_zero hN h0 hf
  refine ⟨a, b, z, h1, h2, fun hz => ?_⟩
  obtain ⟨g1, g2, g3⟩ := h3 hz
  rw [h.v f hf]
  exact ⟨g1, g2, fun ts ht => g3 _ (times_pot ht).1 (times_pot ht).2⟩
end

end Go.Proofs.YtmfophoejjcnlaaGreatDoor
namespace Go.Proofs.YtmfophoejjcnlaaGreatDoor
open Go.E Go.RowKit
attribute [local irreducible] G C S D DY DS V Yl QV Calls
set_option maxRecDepth 100000
set_option linter.unusedSimpArgs false
set_option linter.unusedVariables false

def rarcL (nn m : Nat) (a : Arc) : List Int := [wh (decide (a.E < -1) || decide ((m : Int) ≤ a.E) || (a.E == -1 && (decide (a.N < 0) || decide ((nn : Int) ≤ a.N)))) 10, wh ((decide (0 ≤ a.E) && (a.N != 0)) || (a.E == -1 && a.B)) 1]
theorem rarcL_eq (nn m : Nat) (a : Arc) : firstL (rarcL nn m a) = arcF nn m a := by
  unfold rarcL arcF arcL
  by_cases h : a.E < -1
  · simp [firstL, wh, h]
  · have e : (a.E == -1 && a.B) = (decide (a.E < 0) && a.B) := by
      congr 1
      rw [Bool.eq_iff_iff, beq_iff_eq, decide_eq_true_iff]
      omega
    rw [e]
theorem arcs_drop {nn m : Nat} {l : List Arc} {k : Nat} (h : k < l.length) : firstL ((l.drop k).map (arcF nn m)) = if arcF nn m l[k] = 0 then firstL ((l.drop (k + 1)).map (arcF nn m)) else arcF nn m l[k] := by
  rw [List.drop_eq_getElem_cons h, List.map_cons]
  rfl
def arcsE (nn m : Nat) (l : List Arc) : Int := firstL [firstL [wh ((l.length : Int) == 0) 12, wh (decide (64 < (l.length : Int))) 5], firstL (l.map (arcF nn m))]

theorem rFirstA_c (A : Option Addr) (c nn m : Nat) (a : Arc) (w : World) (hr : Rd w A ((rarcL nn m a).map (.int .i64))) : Calls Tryz.prog 84 #[.slice A 2 c] w fun r w' => r = .returned (.int .i64 (firstL (rarcL nn m a))) ∧ Below w.heap.size w w' := rFirst_c A c (rarcL nn m a) (by simp [rarcL]) w hr

set_option maxHeartbeats 1000000 in
/-- genlockref04.CheckArcs -/
theorem rCheckArcs_c (A A2 B : Option Addr) (c c2 c3 nn m : Nat) (l : List Arc) (hl : l.length ≤ 1000000) (hnn : nn ≤ 1000000) (hm : m ≤ 1000000) (w : World) (hr3 : Rd w B (l.flatMap arC)) : Calls Tryz.prog 124 #[.agg #[.slice A nn c, .slice A2 m c2], .slice B l.length c3] w fun r w' => r = .returned (.int .i64 (arcsE nn m l)) ∧ Below w.heap.size w w' := by
  refine calls_of (args := [.agg #[.slice A nn c, .slice A2 m c2], .slice B l.length c3]) T_ok Tryz.func124 rfl Tryz.ntmps124 (Nat.le_of_ble_eq_true rfl) rfl ?_
  repeat' (first
 | (refine C_id ?_; first
 | refine C_seq ?_
 | refine C_region rfl ?_
 | refine C_block ?_
 | refine C_skip ?_
 | refine C_exit ?_
 | refine C_ret0 ?_
 | refine C_condT rfl obQ ?_
 | refine C_condF rfl obQ ?_
 | (refine C_cond rfl obQ (fun h => ?_) (fun h => ?_) <;> (try simp only [Bool.or_eq_true, Bool.and_eq_true, Bool.or_eq_false_iff, Bool.and_eq_false_iff, decide_eq_true_eq, decide_eq_false_iff_not, beq_iff_eq, bne_iff_ne, beq_eq_false_iff_ne, bne_eq_false_iff_eq, ne_eq, Decidable.not_not, List.cons.injEq, and_true, Bool.not_eq_true', Bool.not_eq_false', Int.not_lt, Int.not_le] at h))
      )
 | (refine S_id ?_; first
 | refine S_nil ?_
 | refine S_run rfl rfl obQ obQ ?_
 | refine S_box (fun b => ⟨_, _, rfl, obQ, ?_⟩)
 | refine S_slice (fun b => ⟨_, _, rfl, obQ, ?_⟩)
 | refine S_call (f := 56) rfl obQ (by kernel_rfl) (fun w hw => rWhen_c _ _ w) ?_
 | refine S_call (f := 84) rfl obQ (by kernel_rfl) (fun w hw => rFirst_c _ _ [wh ((l.length : Int) == 0) 12, wh (decide (64 < (l.length : Int))) 5] (by simp) w (.inr ⟨_, rfl, hw.src (i := 1) rfl rfl⟩)) ?_
      )
 | (refine G_id ?_; first
 | refine G_then ?_
 | refine G_block ?_
 | refine G_blockX ?_
 | refine G_blockN rfl ?_
 | refine G_blockR ?_
 | refine G_thenR ?_
 | refine G_thenX ?_
 | refine G_ret rfl obQ (fun w hw => ⟨?_, hw.below⟩)
      )
    )
  · have e : arcsE nn m l = firstL [wh ((l.length : Int) == 0) 12, wh (decide (64 < (l.length : Int))) 5] := by
      unfold arcsE
      generalize firstL [wh ((l.length : Int) == 0) 12, wh (decide (64 < (l.length : Int))) 5] = x at h ⊢
      simp [firstL, h]
    rw [e]
  rename_i b0
  have h0 : firstL [wh ((l.length : Int) == 0) 12, wh (decide (64 < (l.length : Int))) 5] = 0 := h
  refine C_loopS (fun k : Nat => ⟨[(6, .s (.v (.int .i64 k))), (2, .s (.p b0 0 0)), (1, .s (.v (.slice B l.length c3)))], [⟨b0, 84, [.v (.slice A nn c), .v (.slice A2 m c2)]⟩], []⟩) (fun k => k ≤ l.length ∧ firstL (l.map (arcF nn m)) = firstL ((l.drop k).map (arcF nn m))) (fun k => l.length - k) 0 ⟨Nat.zero_le _, rfl⟩ ?_ (fun k hk => ?_)
  · exact ⟨⟨_, rfl, obQ⟩, ⟨_, rfl⟩, rfl, pstQ⟩
  dsimp only
  by_cases hlt : k < l.length
  · obtain ⟨ad, rfl⟩ := hr3.some (by rw [flat_len (f := arC) (s := 3) l (fun _ _ => rfl)]; omega)
    have hd := arcs_drop (nn := nn) (m := m) hlt
    have hq := rarcL_eq nn m l[k]
    repeat' (first
 | (refine C_id ?_; first
 | refine C_seq ?_
 | refine C_region rfl ?_
 | refine C_block ?_
 | refine C_skip ?_
 | refine C_exit ?_
 | refine C_ret0 ?_
 | refine C_condT rfl obQ ?_
 | refine C_condF rfl obQ ?_
 | (refine C_cond rfl obQ (fun h => ?_) (fun h => ?_) <;> (try simp only [Bool.or_eq_true, Bool.and_eq_true, Bool.or_eq_false_iff, Bool.and_eq_false_iff, decide_eq_true_eq, decide_eq_false_iff_not, beq_iff_eq, bne_iff_ne, beq_eq_false_iff_ne, bne_eq_false_iff_eq, ne_eq, Decidable.not_not, List.cons.injEq, and_true, Bool.not_eq_true', Bool.not_eq_false', Int.not_lt, Int.not_le] at h) <;> (try (exfalso; omega)))
          )
 | (refine S_id ?_; first
 | refine S_load rfl obQ rfl [.int .i64 l[k].E, .bool l[k].B, .int .i64 l[k].N] (.past (w, fun b => b < w.heap.size) memQ _ _ hr3.toS _ _ rfl rfl (idxS (f := arC) (fun _ => rfl) hlt)) rfl (.inl ⟨rfl, rfl⟩) ?_
 | refine S_nil ?_
 | refine S_run rfl rfl obQ obQ ?_
 | refine S_box (fun b9 => ⟨_, _, rfl, obQ, ?_⟩)
 | refine S_slice (fun b => ⟨_, _, rfl, obQ, ?_⟩)
 | refine S_call (f := 56) rfl obQ (by kernel_rfl) (fun w hw => rWhen_c _ _ w) ?_
 | refine S_call (f := 84) rfl obQ (by kernel_rfl) (fun w hw => rFirstA_c _ _ nn m (l[k]'hlt) w (.inr ⟨_, rfl, hw.src (i := 2) rfl rfl⟩)) ?_
          )
 | (refine G_id ?_; first
 | refine G_loop (k + 1) ?_ (by show l.length - (k + 1) < l.length - k; omega) ⟨⟨_, rfl, obQ⟩, ⟨_, rfl⟩, rfl, pstQ⟩
 | refine G_then ?_
 | refine G_block ?_
 | refine G_blockX ?_
 | refine G_blockN rfl ?_
 | refine G_blockR ?_
 | refine G_thenR ?_
 | refine G_thenX ?_
 | refine G_ret rfl obQ (fun w hw => ⟨?_, hw.below⟩)
          )
        )
    · rw [hq] at h
      unfold arcsE
      have h1 : firstL (l.map (arcF nn m)) = arcF nn m l[k] := by rw [hk.2, hd, if_neg h]
      rw [h0, h1]
      simp [firstL, h, hq]
    · rw [hq] at h
      exact ⟨by omega, by rw [hk.2, hd, if_pos h]⟩
  · have h1 : firstL (l.map (arcF nn m)) = 0 := by rw [hk.2, List.drop_of_length_le (by omega)]; rfl
    have hE : arcsE nn m l = 0 := by unfold arcsE; rw [h0, h1]; rfl
    rw [hE]
    repeat' (first
 | (refine C_id ?_; first
 | refine C_seq ?_
 | refine C_region rfl ?_
 | refine C_block ?_
 | refine C_skip ?_
 | refine C_exit ?_
 | refine C_ret0 ?_
 | refine C_condT rfl obQ ?_
 | refine C_condF rfl obQ ?_
 | (refine C_cond rfl obQ (fun h => ?_) (fun h => ?_) <;> (try simp only [Bool.or_eq_true, Bool.and_eq_true, Bool.or_eq_false_iff, Bool.and_eq_false_iff, decide_eq_true_eq, decide_eq_false_iff_not, beq_iff_eq, bne_iff_ne, beq_eq_false_iff_ne, bne_eq_false_iff_eq, ne_eq, Decidable.not_not, List.cons.injEq, and_true, Bool.not_eq_true', Bool.not_eq_false', Int.not_lt, Int.not_le] at h) <;> (try (exfalso; omega)))
          )
 | (refine S_id ?_; first
 | refine S_nil ?_
 | refine S_run rfl rfl obQ obQ ?_
 | refine S_box (fun b => ⟨_, _, rfl, obQ, ?_⟩)
 | refine S_slice (fun b => ⟨_, _, rfl, obQ, ?_⟩)
          )
 | (refine G_id ?_; first
 | refine G_then ?_
 | refine G_block ?_
 | refine G_blockX ?_
 | refine G_blockN rfl ?_
 | refine G_blockR ?_
 | refine G_thenR ?_
 | refine G_thenX ?_
 | refine G_ret rfl obQ (fun w hw => ⟨?_, hw.below⟩)
          )
        )
    all_goals rfl

set_option maxHeartbeats 400000 in
/-- genlockref04.Ends -/
theorem rEnds_c (A A2 : Option Addr) (c c2 nn : Nat) (es : List Edg) (a : Arc) (hm : es.length ≤ 1000000) (hok : a.E = -1 ∨ (0 ≤ a.E ∧ a.E < es.length)) (hb : ∀ e ∈ es, -9223372036854775807 ≤ e.H ∧ e.H ≤ 9223372036854775807) (w : World) (hr2 : Rd w A2 (es.flatMap edC)) : Calls Tryz.prog 125 #[.agg #[.slice A nn c, .slice A2 es.length c2], .agg #[.int .i64 a.E, .bool a.B, .int .i64 a.N]] w fun r w' => r = .returned (.tuple #[.int .i64 (endsF es a).1, .int .i64 (endsF es a).2, .int .i64 (boundF es a)]) ∧ Below w.heap.size w w' := by
  refine calls_of (args := [.agg #[.slice A nn c, .slice A2 es.length c2], .agg #[.int .i64 a.E, .bool a.B, .int .i64 a.N]]) T_ok Tryz.func125 rfl Tryz.ntmps125 (Nat.le_of_ble_eq_true rfl) rfl ?_
  obtain ⟨E, B, N⟩ := a
  dsimp only at hok ⊢
  by_cases h1 : E = -1
  · subst h1
    have e1 : endsF es ⟨-1, B, N⟩ = (0, N) ∧ boundF es ⟨-1, B, N⟩ = 0 := by unfold endsF boundF; simp
    rw [e1.1, e1.2]
    repeat' (first
 | (refine C_id ?_; first
 | refine C_seq ?_
 | refine C_region rfl ?_
 | refine C_block ?_
 | refine C_skip ?_
 | refine C_exit ?_
 | refine C_ret0 ?_
 | refine C_draw (id := 2) rfl mixed (by kernel_rfl) ?_
 | refine C_draw (id := 5) rfl mixed (by kernel_rfl) ?_
 | refine C_draw (id := 6) rfl mixed (by kernel_rfl) ?_
 | refine C_condT rfl obQ ?_
 | refine C_condF rfl obQ ?_
 | (refine C_cond rfl obQ (fun h => ?_) (fun h => ?_) <;> (try simp only [Bool.or_eq_true, Bool.and_eq_true, Bool.or_eq_false_iff, Bool.and_eq_false_iff, decide_eq_true_eq, decide_eq_false_iff_not, beq_iff_eq, bne_iff_ne, beq_eq_false_iff_ne, bne_eq_false_iff_eq, ne_eq, Decidable.not_not, List.cons.injEq, and_true, Bool.not_eq_true', Bool.not_eq_false', Int.not_lt, Int.not_le] at h) <;> (try (exfalso; omega)))
          )
 | (refine S_id ?_; first
 | refine S_nil ?_
 | refine S_run rfl rfl obQ obQ ?_
 | refine S_box (fun b => ⟨_, _, rfl, obQ, ?_⟩)
          )
 | (refine D_id ?_; first
 | refine D_nil ?_
 | refine D_tail ?_
 | refine D_run rfl rfl obQ obQ ?_
          )
 | (refine G_id ?_; first
 | refine G_then ?_
 | refine G_block ?_
 | refine G_blockX ?_
 | refine G_blockN rfl ?_
 | refine G_blockR ?_
 | refine G_thenR ?_
 | refine G_thenX ?_
 | refine G_ret rfl obQ (fun w hw => ⟨?_, hw.below⟩)
          )
        )
    all_goals rfl
  · obtain ⟨k, rfl⟩ := toNat_eq (show 0 ≤ E by omega)
    have hkl : k < es.length := by omega
    have hg := gE_at hkl
    have hbk := hb _ (List.getElem_mem hkl)
    obtain ⟨ad, rfl⟩ := hr2.some (by rw [flat_len (f := edC) (s := 4) es (fun _ _ => rfl)]; omega)
    cases B
    · have e1 : endsF es ⟨k, false, N⟩ = (es[k].F, es[k].T) ∧ boundF es ⟨k, false, N⟩ = es[k].L := by
        unfold endsF boundF
        simp only [if_neg (show ¬ ((k : Int) < 0) by omega), Int.toNat_natCast, hg]
        simp
      rw [e1.1, e1.2]
      repeat' (first
 | (refine C_id ?_; first
 | refine C_seq ?_
 | refine C_region rfl ?_
 | refine C_block ?_
 | refine C_skip ?_
 | refine C_exit ?_
 | refine C_ret0 ?_
 | refine C_draw (id := 2) rfl mixed (by kernel_rfl) ?_
 | refine C_draw (id := 5) rfl mixed (by kernel_rfl) ?_
 | refine C_draw (id := 6) rfl mixed (by kernel_rfl) ?_
 | refine C_condT rfl obQ ?_
 | refine C_condF rfl obQ ?_
 | (refine C_cond rfl obQ (fun h => ?_) (fun h => ?_) <;> (try simp only [Bool.or_eq_true, Bool.and_eq_true, Bool.or_eq_false_iff, Bool.and_eq_false_iff, decide_eq_true_eq, decide_eq_false_iff_not, beq_iff_eq, bne_iff_ne, beq_eq_false_iff_ne, bne_eq_false_iff_eq, ne_eq, Decidable.not_not, List.cons.injEq, and_true, Bool.not_eq_true', Bool.not_eq_false', Int.not_lt, Int.not_le] at h) <;> (try (exfalso; omega)))
            )
 | (refine S_id ?_; first
 | refine S_load rfl obQ rfl [.int .i64 es[k].F, .int .i64 es[k].T, .int .i64 es[k].L, .int .i64 es[k].H] (.past (w, fun b => b < w.heap.size) memQ _ _ hr2.toS _ _ rfl rfl (idxS (f := edC) (fun _ => rfl) hkl)) rfl (.inl ⟨rfl, rfl⟩) ?_
 | refine S_nil ?_
 | refine S_run rfl rfl obQ obQ ?_
 | refine S_box (fun b9 => ⟨_, _, rfl, obQ, ?_⟩)
            )
 | (refine D_id ?_; first
 | refine D_nil ?_
 | refine D_tail ?_
 | refine D_run rfl rfl obQ obQ ?_
            )
 | (refine G_id ?_; first
 | refine G_then ?_
 | refine G_block ?_
 | refine G_blockX ?_
 | refine G_blockN rfl ?_
 | refine G_blockR ?_
 | refine G_thenR ?_
 | refine G_thenX ?_
 | refine G_ret rfl obQ (fun w hw => ⟨?_, hw.below⟩)
            )
          )
      all_goals rfl
    · have e1 : endsF es ⟨k, true, N⟩ = (es[k].T, es[k].F) ∧ boundF es ⟨k, true, N⟩ = 0 - es[k].H := by
        unfold endsF boundF
        simp only [if_neg (show ¬ ((k : Int) < 0) by omega), Int.toNat_natCast, hg]
        simp
      rw [e1.1, e1.2]
      repeat' (first
 | (refine C_id ?_; first
 | refine C_seq ?_
 | refine C_region rfl ?_
 | refine C_block ?_
 | refine C_skip ?_
 | refine C_exit ?_
 | refine C_ret0 ?_
 | refine C_draw (id := 2) rfl mixed (by kernel_rfl) ?_
 | refine C_draw (id := 5) rfl mixed (by kernel_rfl) ?_
 | refine C_draw (id := 6) rfl mixed (by kernel_rfl) ?_
 | refine C_condT rfl obQ ?_
 | refine C_condF rfl obQ ?_
 | (refine C_cond rfl obQ (fun h => ?_) (fun h => ?_) <;> (try simp only [Bool.or_eq_true, Bool.and_eq_true, Bool.or_eq_false_iff, Bool.and_eq_false_iff, decide_eq_true_eq, decide_eq_false_iff_not, beq_iff_eq, bne_iff_ne, beq_eq_false_iff_ne, bne_eq_false_iff_eq, ne_eq, Decidable.not_not, List.cons.injEq, and_true, Bool.not_eq_true', Bool.not_eq_false', Int.not_lt, Int.not_le] at h) <;> (try (exfalso; omega)))
            )
 | (refine S_id ?_; first
 | refine S_load rfl obQ rfl [.int .i64 es[k].F, .int .i64 es[k].T, .int .i64 es[k].L, .int .i64 es[k].H] (.past (w, fun b => b < w.heap.size) memQ _ _ hr2.toS _ _ rfl rfl (idxS (f := edC) (fun _ => rfl) hkl)) rfl (.inl ⟨rfl, rfl⟩) ?_
 | refine S_nil ?_
 | refine S_run rfl rfl obQ obQ ?_
 | refine S_box (fun b9 => ⟨_, _, rfl, obQ, ?_⟩)
            )
 | (refine D_id ?_; first
 | refine D_nil ?_
 | refine D_tail ?_
 | refine D_run rfl rfl obQ obQ ?_
            )
 | (refine G_id ?_; first
 | refine G_then ?_
 | refine G_block ?_
 | refine G_blockX ?_
 | refine G_blockN rfl ?_
 | refine G_blockR ?_
 | refine G_thenR ?_
 | refine G_thenX ?_
 | refine G_ret rfl obQ (fun w hw => ⟨?_, hw.below⟩)
            )
          )
      all_goals rfl

theorem arcF_ok2 {nn m : Nat} {a : Arc} (h : arcF nn m a = 0) : a.E = -1 ∨ (0 ≤ a.E ∧ a.E < m) := by
  obtain ⟨⟨h1, h2⟩, h3⟩ := arcF_ok h
  unfold arOk at h1
  omega
theorem loopE_arcs {names : List ByteArray} {es : List Edg} {l : List Arc} (hN : netF names es = 0) : (arcsE names.length es.length l ≠ 0 → loopE names es l = arcsE names.length es.length l) ∧ (arcsE names.length es.length l = 0 → 0 < l.length ∧ l.length ≤ 64 ∧ (∀ a ∈ l, arcF names.length es.length a = 0) ∧ loopE names es l = walkW es l 0 (endsF es (lastA l)).2) := by
  have e1 : loopE1 names es l = firstL [wh ((l.length : Int) == 0) 12, wh (decide (64 < (l.length : Int))) 5] := by unfold loopE1; rw [hN]; rfl
  have e2 : arcsE names.length es.length l = if loopE1 names es l = 0 then loopE2 names.length es.length l else loopE1 names es l := by
    unfold arcsE
    rw [← e1]
    unfold loopE2
    generalize loopE1 names es l = x
    generalize firstL (l.map (arcF names.length es.length)) = y
    simp only [firstL]
    split
    · split
      · rename_i h; exact h.symm
      · rfl
    · rfl
  constructor
  · intro h
    rw [e2] at h ⊢
    unfold loopE
    split at h
    · rename_i h1
      rw [if_neg (by simp [h1]), if_pos h, if_pos h1]
    · rename_i h1
      rw [if_pos h1, if_neg h1]
  · intro h
    rw [e2] at h
    split at h
    · rename_i h1
      obtain ⟨_, h3, h4⟩ := loopE1_ok h1
      refine ⟨h3, h4, ?_, by unfold loopE; rw [if_neg (by simp [h1]), if_neg (by simp [h])]⟩
      unfold loopE2 at h
      rw [firstL_zero] at h
      exact fun a ha => h _ (List.mem_map.2 ⟨a, ha, rfl⟩)
    · rename_i h1
      exact absurd h h1

set_option maxHeartbeats 1000000 in
/-- genlockref04.CheckLoop -/
theorem rCheckLoop_c (A A2 B : Option Addr) (c c2 c3 : Nat) (names : List ByteArray) (es : List Edg) (l : List Arc) (hN : netF names es = 0) (hl : l.length ≤ 1000000) (w : World) (hr2 : Rd w A2 (es.flatMap edC)) (hr3 : Rd w B (l.flatMap arC)) : Calls Tryz.prog 71 #[.agg #[.slice A names.length c, .slice A2 es.length c2], .slice B l.length c3] w fun r w' => r = .returned (.int .i64 (loopE names es l)) ∧ Below w.heap.size w w' := by
  refine calls_of (args := [.agg #[.slice A names.length c, .slice A2 es.length c2], .slice B l.length c3]) T_ok Tryz.func71 rfl Tryz.ntmps71 (Nat.le_of_ble_eq_true rfl) rfl ?_
  have ok := netF_ok hN
  have hn12 := ok.n
  have hm24 := ok.m
  obtain ⟨hz1, hz2⟩ := loopE_arcs (l := l) hN
  by_cases h1 : arcsE names.length es.length l = 0
  · obtain ⟨hl0, hl64, hao, hR⟩ := hz2 h1
    have hEb : ∀ e ∈ es, -9223372036854775807 ≤ e.H ∧ e.H ≤ 9223372036854775807 := fun e he => by have := (ok.e e he).H; omega
    rw [hR]
    obtain ⟨ad, rfl⟩ := hr3.some (by rw [flat_len (f := arC) (s := 3) l (fun _ _ => rfl)]; omega)
    repeat' (first
 | (refine C_id ?_; first
 | refine C_seq ?_
 | refine C_region rfl ?_
 | refine C_block ?_
 | refine C_skip ?_
 | refine C_exit ?_
 | refine C_ret0 ?_
 | refine C_draw (id := 4) rfl mixed (by kernel_rfl) ?_
 | refine C_draw (id := 9) rfl mixed (by kernel_rfl) ?_
 | refine C_condT rfl obQ ?_
 | refine C_condF rfl obQ ?_
 | (refine C_cond rfl obQ (fun h => ?_) (fun h => ?_) <;> (try simp only [Bool.or_eq_true, Bool.and_eq_true, Bool.or_eq_false_iff, Bool.and_eq_false_iff, decide_eq_true_eq, decide_eq_false_iff_not, beq_iff_eq, bne_iff_ne, beq_eq_false_iff_ne, bne_eq_false_iff_eq, ne_eq, Decidable.not_not, List.cons.injEq, and_true, Bool.not_eq_true', Bool.not_eq_false', Int.not_lt, Int.not_le] at h) <;> (try (exfalso; omega)) <;> (try (exfalso; simp at h; done)) <;> (try (exfalso; simp only [not_true_eq_false, false_or, or_false] at h; omega)) <;> (try contradiction))
          )
 | (refine S_id ?_; first
 | refine S_nil ?_
 | refine S_run rfl rfl obQ obQ ?_
 | refine S_box (fun b0 => ⟨_, _, rfl, obQ, ?_⟩)
 | refine S_call (f := 124) rfl obQ (by kernel_rfl) (fun w hw => rCheckArcs_c A A2 _ c c2 c3 names.length es.length l hl (by omega) (by omega) w (hw.rdm (Rd.toS hr3) memQ)) ?_
 | refine S_call (f := 125) rfl obQ (by kernel_rfl) (fun w hw => rEnds_c A A2 c c2 names.length es (lastA l) (by omega) (arcF_ok2 (hao _ (lastA_mem hl0))) hEb w (hw.rdm (Rd.toS hr2) memQ)) ?_
          )
 | (refine D_id ?_; first
 | refine D_load rfl obQ rfl [.int .i64 (lastA l).E, .bool (lastA l).B, .int .i64 (lastA l).N] (.past (w, fun b => b < w.heap.size) memQ _ _ hr3.toS _ _ rfl rfl (last_at hl0)) rfl (.inl ⟨rfl, rfl⟩) ?_
 | refine D_nil ?_
 | refine D_tail ?_
 | refine D_run rfl rfl obQ obQ ?_
 | refine D_call (f := 124) rfl obQ (by kernel_rfl) (fun w hw => rCheckArcs_c A A2 _ c c2 c3 names.length es.length l hl (by omega) (by omega) w (hw.rdm (Rd.toS hr3) memQ)) ?_
 | refine D_call (f := 125) rfl obQ (by kernel_rfl) (fun w hw => rEnds_c A A2 c c2 names.length es (lastA l) (by omega) (arcF_ok2 (hao _ (lastA_mem hl0))) hEb w (hw.rdm (Rd.toS hr2) memQ)) ?_
          )
 | (refine G_id ?_; first
 | refine G_then ?_
 | refine G_block ?_
 | refine G_blockX ?_
 | refine G_blockN rfl ?_
 | refine G_blockR ?_
 | refine G_thenR ?_
 | refine G_thenX ?_
 | refine G_ret rfl obQ (fun w hw => ⟨?_, hw.below⟩)
          )
        )
    refine C_loopS (fun i : Nat × Int × Int => ⟨[(10, .s (.v (.int .i64 i.1))), (9, .s (.v (.int .i64 i.2.1))), (7, .s (.v (.int .i64 i.2.2))), (2, .s (.p b0 0 0)), (1, .s (.v (.slice (some ad) l.length c3)))], [⟨b0, 84, [.v (.slice A names.length c), .v (.slice A2 es.length c2)]⟩], []⟩) (fun i => i.1 ≤ l.length ∧ walkW es l 0 (endsF es (lastA l)).2 = walkW es (l.drop i.1) i.2.1 i.2.2) (fun i => l.length - i.1) (0, 0, (endsF es (lastA l)).2) ⟨Nat.zero_le _, rfl⟩ ?_ (fun i hi => ?_)
    · exact ⟨⟨_, rfl, obQ⟩, ⟨_, rfl⟩, rfl, pstQ⟩
    obtain ⟨k, s, t⟩ := i
    obtain ⟨hk, hI⟩ := hi
    dsimp only at hk hI ⊢
    by_cases hlt : k < l.length
    · have hwd := walkW_drop (es := es) hlt s t
      have hok := arcF_ok2 (hao _ (List.getElem_mem hlt))
      repeat' (first
 | (refine C_id ?_; first
 | refine C_seq ?_
 | refine C_region rfl ?_
 | refine C_block ?_
 | refine C_skip ?_
 | refine C_exit ?_
 | refine C_ret0 ?_
 | refine C_draw (id := 4) rfl mixed (by kernel_rfl) ?_
 | refine C_draw (id := 9) rfl mixed (by kernel_rfl) ?_
 | refine C_condT rfl obQ ?_
 | refine C_condF rfl obQ ?_
 | (refine C_cond rfl obQ (fun h => ?_) (fun h => ?_) <;> (try simp only [Bool.or_eq_true, Bool.and_eq_true, Bool.or_eq_false_iff, Bool.and_eq_false_iff, decide_eq_true_eq, decide_eq_false_iff_not, beq_iff_eq, bne_iff_ne, beq_eq_false_iff_ne, bne_eq_false_iff_eq, ne_eq, Decidable.not_not, List.cons.injEq, and_true, Bool.not_eq_true', Bool.not_eq_false', Int.not_lt, Int.not_le] at h) <;> (try (exfalso; omega)))
            )
 | (refine S_id ?_; first
 | refine S_pure (binX_pure rfl obQ (fun w => wrap_add _ _ _ _ _ _ w)) ?_
 | refine S_nil ?_
 | refine S_run rfl rfl obQ obQ ?_
 | refine S_box (fun b => ⟨_, _, rfl, obQ, ?_⟩)
 | refine S_one rfl obQ ?_
 | refine S_call (f := 125) rfl obQ (by kernel_rfl) (fun w hw => rEnds_c A A2 c c2 names.length es (l[k]'hlt) (by omega) hok hEb w (hw.rdm (Rd.toS hr2) memQ)) ?_
            )
 | (refine D_id ?_; first
 | refine D_load rfl obQ rfl [.int .i64 l[k].E, .bool l[k].B, .int .i64 l[k].N] (.past (w, fun b => b < w.heap.size) memQ _ _ hr3.toS _ _ rfl rfl (idxS (f := arC) (fun _ => rfl) hlt)) rfl (.inl ⟨rfl, rfl⟩) ?_
 | refine D_pure (binX_pure rfl obQ (fun w => wrap_add _ _ _ _ _ _ w)) ?_
 | refine D_nil ?_
 | refine D_tail ?_
 | refine D_run rfl rfl obQ obQ ?_
 | refine D_one rfl obQ ?_
 | refine D_call (f := 125) rfl obQ (by kernel_rfl) (fun w hw => rEnds_c A A2 c c2 names.length es (l[k]'hlt) (by omega) hok hEb w (hw.rdm (Rd.toS hr2) memQ)) ?_
            )
 | (refine G_id ?_; first
 | refine G_loop (k + 1, IntKind.i64.wrap (s + boundF es l[k]), (endsF es l[k]).2) ?_ (by show l.length - (k + 1) < l.length - k; omega) ⟨⟨_, rfl, obQ⟩, ⟨_, rfl⟩, rfl, pstQ⟩
 | refine G_then ?_
 | refine G_block ?_
 | refine G_blockX ?_
 | refine G_blockN rfl ?_
 | refine G_blockR ?_
 | refine G_thenR ?_
 | refine G_thenX ?_
 | refine G_ret rfl obQ (fun w hw => ⟨?_, hw.below⟩)
            )
          )
      · rw [hI, hwd, if_pos h]
      · exact ⟨by show k + 1 ≤ l.length; omega, by rw [hI, hwd, if_neg (by simpa using h)]⟩
    · obtain rfl : k = l.length := by omega
      repeat' (first
 | (refine C_id ?_; first
 | refine C_seq ?_
 | refine C_region rfl ?_
 | refine C_block ?_
 | refine C_skip ?_
 | refine C_exit ?_
 | refine C_ret0 ?_
 | refine C_draw (id := 4) rfl mixed (by kernel_rfl) ?_
 | refine C_draw (id := 9) rfl mixed (by kernel_rfl) ?_
 | refine C_condT rfl obQ ?_
 | refine C_condF rfl obQ ?_
 | (refine C_cond rfl obQ (fun h => ?_) (fun h => ?_) <;> (try simp only [Bool.or_eq_true, Bool.and_eq_true, Bool.or_eq_false_iff, Bool.and_eq_false_iff, decide_eq_true_eq, decide_eq_false_iff_not, beq_iff_eq, bne_iff_ne, beq_eq_false_iff_ne, bne_eq_false_iff_eq, ne_eq, Decidable.not_not, List.cons.injEq, and_true, Bool.not_eq_true', Bool.not_eq_false', Int.not_lt, Int.not_le] at h) <;> (try (exfalso; omega)))
            )
 | (refine S_id ?_; first
 | refine S_nil ?_
 | refine S_run rfl rfl obQ obQ ?_
 | refine S_box (fun b => ⟨_, _, rfl, obQ, ?_⟩)
 | refine S_call (f := 56) rfl obQ (by kernel_rfl) (fun w hw => rWhen_c _ _ w) ?_
            )
 | (refine D_id ?_; first
 | refine D_nil ?_
 | refine D_tail ?_
 | refine D_run rfl rfl obQ obQ ?_
 | refine D_call (f := 56) rfl obQ (by kernel_rfl) (fun w hw => rWhen_c _ _ w) ?_
            )
 | (refine G_id ?_; first
 | refine G_then ?_
 | refine G_block ?_
 | refine G_blockX ?_
 | refine G_blockN rfl ?_
 | refine G_blockR ?_
 | refine G_thenR ?_
 | refine G_thenX ?_
 | refine G_ret rfl obQ (fun w hw => ⟨?_, hw.below⟩)
            )
          )
      rw [hI, List.drop_of_length_le (Nat.le_refl _)]
      rfl
  · rw [hz1 h1]
    repeat' (first
 | (refine C_id ?_; first
 | refine C_seq ?_
 | refine C_region rfl ?_
 | refine C_block ?_
 | refine C_skip ?_
 | refine C_exit ?_
 | refine C_ret0 ?_
 | refine C_draw (id := 4) rfl mixed (by kernel_rfl) ?_
 | refine C_draw (id := 9) rfl mixed (by kernel_rfl) ?_
 | refine C_condT rfl obQ ?_
 | refine C_condF rfl obQ ?_
 | (refine C_cond rfl obQ (fun h => ?_) (fun h => ?_) <;> (try simp only [Bool.or_eq_true, Bool.and_eq_true, Bool.or_eq_false_iff, Bool.and_eq_false_iff, decide_eq_true_eq, decide_eq_false_iff_not, beq_iff_eq, bne_iff_ne, beq_eq_false_iff_ne, bne_eq_false_iff_eq, ne_eq, Decidable.not_not, List.cons.injEq, and_true, Bool.not_eq_true', Bool.not_eq_false', Int.not_lt, Int.not_le] at h) <;> (try (exfalso; omega)) <;> (try (exfalso; simp at h; done)) <;> (try (exfalso; simp only [not_true_eq_false, false_or, or_false] at h; omega)) <;> (try contradiction))
          )
 | (refine S_id ?_; first
 | refine S_nil ?_
 | refine S_run rfl rfl obQ obQ ?_
 | refine S_box (fun b0 => ⟨_, _, rfl, obQ, ?_⟩)
 | refine S_call (f := 124) rfl obQ (by kernel_rfl) (fun w hw => rCheckArcs_c A A2 _ c c2 c3 names.length es.length l hl (by omega) (by omega) w (hw.rdm (Rd.toS hr3) memQ)) ?_
          )
 | (refine D_id ?_; first
 | refine D_nil ?_
 | refine D_tail ?_
 | refine D_run rfl rfl obQ obQ ?_
 | refine D_call (f := 124) rfl obQ (by kernel_rfl) (fun w hw => rCheckArcs_c A A2 _ c c2 c3 names.length es.length l hl (by omega) (by omega) w (hw.rdm (Rd.toS hr3) memQ)) ?_
          )
 | (refine G_id ?_; first
 | refine G_then ?_
 | refine G_block ?_
 | refine G_blockX ?_
 | refine G_blockN rfl ?_
 | refine G_blockR ?_
 | refine G_thenR ?_
 | refine G_thenX ?_
 | refine G_ret rfl obQ (fun w hw => ⟨?_, hw.below⟩)
          )
        )
    all_goals rfl

end Go.Proofs.YtmfophoejjcnlaaGreatDoor
