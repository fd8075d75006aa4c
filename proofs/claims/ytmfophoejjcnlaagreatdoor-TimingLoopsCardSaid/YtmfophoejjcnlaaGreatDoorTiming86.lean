/- Plain laws of nets: walks, greatest sums, plans by both roads, nets that ask for less. -/
import Derived.Test.YtmfophoejjcnlaaGreatDoorEng3
import Derived.Test.YtmfophoejjcnlaaGreatDoorTiming24
import Derived.Test.YtmfophoejjcnlaaGreatDoorTiming58
import Derived.Test.YtmfophoejjcnlaaGreatDoorTiming25
namespace Go.Proofs.YtmfophoejjcnlaaGreatDoor
open Go.E Go.RowKit
attribute [local irreducible] G C S D Calls
set_option maxRecDepth 100000
set_option linter.unusedSimpArgs false
set_option linter.unusedVariables false

theorem pig : ∀ (n : Nat) (g : Nat → Nat) (k : Nat), (∀ i, i ≤ k → g i < n) → n ≤ k → ∃ i j, i < j ∧ j ≤ k ∧ g i = g j
  | 0, g, k, h, _ => absurd (h 0 (Nat.zero_le _)) (Nat.not_lt_zero _)
  | n + 1, g, k, h, hk => by
    by_cases ha : ∃ a, a ≤ k ∧ g a = n
    · obtain ⟨a, hak, ha⟩ := ha
      by_cases hb : ∃ b, b ≤ k ∧ b ≠ a ∧ g b = n
      · obtain ⟨b, hbk, hba, hb⟩ := hb
        rcases Nat.lt_or_gt_of_ne hba with h1 | h1
        · exact ⟨b, a, h1, hak, by rw [ha, hb]⟩
        · exact ⟨a, b, h1, hbk, by rw [ha, hb]⟩
      · have hne : ∀ b, b ≤ k → b ≠ a → g b < n := fun b hbk hba => by
          have h1 := h b hbk
          have h2 : g b ≠ n := fun e => hb ⟨b, hbk, hba, e⟩
          omega
        obtain ⟨i, j, hij, hj, he⟩ := pig n (fun x => if x < a then g x else g (x + 1)) (k - 1) (fun x hx => by
          split
          · exact hne _ (by omega) (by omega)
          · exact hne _ (by omega) (by omega)) (by omega)
        refine ⟨if i < a then i else i + 1, if j < a then j else j + 1, ?_, ?_, ?_⟩
        · split <;> split <;> omega
        · split <;> omega
        · by_cases c1 : i < a <;> by_cases c2 : j < a <;> simp only [c1, c2, if_true, if_false] at he ⊢ <;> exact he
    · obtain ⟨i, j, h1, h2, h3⟩ := pig n g k (fun i hi => by
        have h1 := h i hi
        have h2 : g i ≠ n := fun e => ha ⟨i, hi, e⟩
        omega) (by omega)
      exact ⟨i, j, h1, h2, h3⟩

/-- A walk of k steps from f to v, the sum of whose bounds is s. -/
def Wk (R : Nat → Nat → Int → Prop) (f k v : Nat) (s : Int) : Prop := ∃ (g : Nat → Nat) (h : Nat → Int), g 0 = f ∧ g k = v ∧ h 0 = 0 ∧ h k = s ∧ ∀ i, i < k → R (g i) (g (i + 1)) (h (i + 1) - h i)
section
variable {R : Nat → Nat → Int → Prop} {f k v u nn : Nat} {s b : Int}
theorem wk_nil (R : Nat → Nat → Int → Prop) (f : Nat) : Wk R f 0 f 0 := ⟨fun _ => f, fun _ => 0, rfl, rfl, rfl, rfl, fun i h => absurd h (Nat.not_lt_zero _)⟩
theorem wk_zero (h : Wk R f 0 v s) : v = f ∧ s = 0 := by
  obtain ⟨g, h, h1, h2, h3, h4, _⟩ := h
  exact ⟨by rw [← h1, ← h2], by rw [← h3, ← h4]⟩
theorem wk_snoc (hw : Wk R f k u s) (hr : R u v b) : Wk R f (k + 1) v (s + b) := by
  obtain ⟨g, h, h1, h2, h3, h4, h5⟩ := hw
  refine ⟨fun i => if i ≤ k then g i else v, fun i => if i ≤ k then h i else s + b, by simpa using h1, (by show (if k + 1 ≤ k then g (k + 1) else v) = v; rw [if_neg (by omega)]), by simpa using h3, (by show (if k + 1 ≤ k then h (k + 1) else s + b) = s + b; rw [if_neg (by omega)]), fun i hi => ?_⟩
  by_cases hik : i < k
  · simp only [if_pos (show i ≤ k by omega), if_pos (show i + 1 ≤ k by omega)]
    exact h5 i hik
  · obtain rfl : i = k := by omega
    simp only [if_pos (Nat.le_refl i), if_neg (show ¬ i + 1 ≤ i by omega), h2, h4]
    rw [show s + b - s = b by omega]
    exact hr
theorem wk_pred (hw : Wk R f (k + 1) v s) : ∃ u b s', Wk R f k u s' ∧ R u v b ∧ s = s' + b := by
  obtain ⟨g, h, h1, h2, h3, h4, h5⟩ := hw
  refine ⟨g k, h (k + 1) - h k, h k, ⟨g, h, h1, rfl, h3, rfl, fun i hi => h5 i (by omega)⟩, ?_, by omega⟩
  have := h5 k (by omega)
  rw [h2] at this
  exact this
theorem wk_first (hw : Wk R f (k + 1) v s) : ∃ u b s', R f u b ∧ Wk R u k v s' ∧ s = b + s' := by
  obtain ⟨g, h, h1, h2, h3, h4, h5⟩ := hw
  refine ⟨g 1, h 1, s - h 1, ?_, ⟨fun i => g (i + 1), fun i => h (i + 1) - h 1, rfl, h2, (by show h 1 - h 1 = 0; omega), (by show h (k + 1) - h 1 = s - h 1; omega), fun i hi => ?_⟩, by omega⟩
  · have := h5 0 (by omega)
    rw [h1, h3] at this
    simpa using this
  · have := h5 (i + 1) (by omega)
    dsimp only
    rw [show h (i + 1 + 1) - h 1 - (h (i + 1) - h 1) = h (i + 1 + 1) - h (i + 1) by omega]
    exact this
theorem wk_cons (hr : R f u b) (hw : Wk R u k v s) : Wk R f (k + 1) v (b + s) := by
  obtain ⟨g, h, h1, h2, h3, h4, h5⟩ := hw
  refine ⟨fun i => if i = 0 then f else g (i - 1), fun i => if i = 0 then 0 else b + h (i - 1), rfl, by simpa using h2, rfl, by simp [h4], fun i hi => ?_⟩
  by_cases hi0 : i = 0
  · subst hi0
    show R f (g 0) (b + h 0 - 0)
    rw [h1, h3, show b + 0 - 0 = b by omega]
    exact hr
  · simp only [if_neg hi0, if_neg (show ¬ i + 1 = 0 by omega)]
    have := h5 (i - 1) (by omega)
    rw [show i - 1 + 1 = i by omega] at this
    rw [show i + 1 - 1 = i by omega, show b + h i - (b + h (i - 1)) = h i - h (i - 1) by omega]
    exact this
theorem wk_pot {p : Nat → Int} (hp : ∀ u v b, R u v b → p u + b ≤ p v) : ∀ {k v : Nat} {s : Int}, Wk R f k v s → p f + s ≤ p v := by
  intro k
  induction k with
  | zero => intro v s h; obtain ⟨rfl, rfl⟩ := wk_zero h; omega
  | succ k ih =>
    intro v s h
    obtain ⟨u, b, s', h1, h2, rfl⟩ := wk_pred h
    have := ih h1
    have := hp _ _ _ h2
    omega
theorem wk_lt (hR : ∀ u v b, R u v b → v < nn) (hf : f < nn) : ∀ {k v : Nat} {s : Int}, Wk R f k v s → v < nn := by
  intro k
  cases k with
  | zero => intro v s h; rw [(wk_zero h).1]; exact hf
  | succ k => intro v s h; obtain ⟨u, b, s', _, h2, _⟩ := wk_pred h; exact hR _ _ _ h2
/-- Where there is a potential, the walks need less steps than there are nodes. -/
theorem wk_short {p : Nat → Int} (hp : ∀ u v b, R u v b → p u + b ≤ p v) (hR : ∀ u v b, R u v b → v < nn) (hf : f < nn) :
    ∀ (m k : Nat), k ≤ m → ∀ {v : Nat} {s : Int}, Wk R f k v s → ∃ k' s', k' < nn ∧ s ≤ s' ∧ Wk R f k' v s' := by
  intro m
  induction m with
  | zero => intro k hk v s h; exact ⟨k, s, by omega, by omega, h⟩
  | succ m ih =>
    intro k hk v s hw
    by_cases hkn : k < nn
    · exact ⟨k, s, hkn, by omega, hw⟩
    · obtain ⟨g, h, h1, h2, h3, h4, h5⟩ := hw
      have hlt : ∀ i, i ≤ k → g i < nn := fun i hi => by
        cases i with
        | zero => rw [h1]; exact hf
        | succ i => exact hR _ _ _ (h5 i (by omega))
      obtain ⟨i, j, hij, hjk, he⟩ := pig nn g k hlt (by omega)
      have seg : ∀ d, i + d ≤ k → p (g i) + (h (i + d) - h i) ≤ p (g (i + d)) := by
        intro d
        induction d with
        | zero => intro _; rw [Nat.add_zero]; omega
        | succ d ihd =>
          intro hd
          have a1 := ihd (by omega)
          have a2 := hp _ _ _ (h5 (i + d) (by omega))
          rw [show i + (d + 1) = i + d + 1 by omega]
          omega
      have hs := seg (j - i) (by omega)
      rw [show i + (j - i) = j by omega, ← he] at hs
      refine (ih (k - (j - i)) (by omega) (v := v) (s := s - (h j - h i)) ⟨fun x => if x ≤ i then g x else g (x + (j - i)), fun x => if x ≤ i then h x else h (x + (j - i)) - (h j - h i), by simpa using h1, ?_, by simpa using h3, ?_, fun x hx => ?_⟩).imp fun k' ⟨s', h6, h7, h8⟩ => ⟨s', h6, by omega, h8⟩
      · dsimp only
        split
        · have : j = k := by omega
          rw [show k - (j - i) = i by omega, he, this, h2]
        · rw [show k - (j - i) + (j - i) = k by omega, h2]
      · dsimp only
        split
        · have : j = k := by omega
          rw [show k - (j - i) = i by omega]
          rw [this, h4]
          omega
        · rw [show k - (j - i) + (j - i) = k by omega, h4]
      · dsimp only
        by_cases hxi : x < i
        · rw [if_pos (show x ≤ i by omega), if_pos (show x + 1 ≤ i by omega), if_pos (show x ≤ i by omega), if_pos (show x + 1 ≤ i by omega)]
          exact h5 x (by omega)
        · by_cases hxe : x = i
          · subst hxe
            rw [if_pos (Nat.le_refl x), if_neg (show ¬ x + 1 ≤ x by omega), if_pos (Nat.le_refl x), if_neg (show ¬ x + 1 ≤ x by omega), he]
            have := h5 j (by omega)
            rw [show x + 1 + (j - x) = j + 1 by omega, show h (j + 1) - (h j - h x) - h x = h (j + 1) - h j by omega]
            exact this
          · rw [if_neg (show ¬ x ≤ i by omega), if_neg (show ¬ x + 1 ≤ i by omega), if_neg (show ¬ x ≤ i by omega), if_neg (show ¬ x + 1 ≤ i by omega)]
            have := h5 (x + (j - i)) (by omega)
            rw [show x + 1 + (j - i) = x + (j - i) + 1 by omega, show h (x + (j - i) + 1) - (h j - h i) - (h (x + (j - i)) - (h j - h i)) = h (x + (j - i) + 1) - h (x + (j - i)) by omega]
            exact this
end

end Go.Proofs.YtmfophoejjcnlaaGreatDoor
namespace Go.Proofs.YtmfophoejjcnlaaGreatDoor
open Go.E Go.RowKit
attribute [local irreducible] G C S D Calls
set_option maxRecDepth 100000
set_option linter.unusedSimpArgs false
set_option linter.unusedVariables false

/-- An arc of the net from u to v. -/
def Ar (es : List Edg) (nn : Nat) (u v : Nat) (b : Int) : Prop := ∃ a ∈ leavingF es nn (u : Int), (endsF es a).2 = (v : Int) ∧ boundF es a = b
theorem gS_set {o : List Seen} {k j : Nat} {x : Seen} : gS (o.set k x) j = if j = k ∧ k < o.length then x else gS o j := by
  unfold gS
  rw [List.getD_eq_getElem?_getD, List.getD_eq_getElem?_getD, List.getElem?_set]
  by_cases h : k = j
  · subst h
    by_cases h2 : k < o.length
    · simp [h2]
    · simp [h2]
  · rw [if_neg h, if_neg (by omega)]
theorem preJ_len (es : List Edg) (i : Int) : ∀ k, (preJ es i k 0).length ≤ 2 * k
  | 0 => by simp [preJ]
  | k + 1 => by
    rw [← preJ_two, preJ_succ es i k (show 1 < 2 by omega), preJ_succ es i k (show 0 < 2 by omega), List.length_append, List.length_append]
    have := preJ_len es i k
    have h1 : ∀ (c : Bool) (x : Arc), (if c then [x] else []).length ≤ 1 := fun c x => by cases c <;> simp
    have := h1 (lvc es i (arcK k 0)) (arcK k 0)
    have := h1 (lvc es i (arcK k 1)) (arcK k 1)
    omega
theorem leavingF_len (es : List Edg) (nn : Nat) (i : Int) : (leavingF es nn i).length ≤ 2 * es.length + nn := by
  unfold leavingF
  rw [List.length_append]
  have := preJ_len es i es.length
  split <;> simp <;> omega
theorem boundF_bd {es : List Edg} {nn : Nat} (hE : ∀ e ∈ es, EdOk nn e) {a : Arc} (ha : arO es.length nn a) : -100000 ≤ boundF es a ∧ boundF es a ≤ 100000 := by
  unfold boundF
  split
  · omega
  · rename_i h
    have hk : a.E.toNat < es.length := by have := ha.1; unfold arOk at this; omega
    have := hE _ (List.getElem_mem hk)
    rw [gE_at hk]
    have h1 := this.L
    have h2 := this.H
    split <;> omega
section
variable {es : List Edg} {nn : Nat}
theorem Ar_bd (hE : ∀ e ∈ es, EdOk nn e) (hn : 0 < nn) {u v : Nat} {b : Int} (h : Ar es nn u v b) : v < nn ∧ (-100000 ≤ b ∧ b ≤ 100000) := by
  obtain ⟨a, ha, h1, rfl⟩ := h
  have hok := leavingF_ok es nn u a ha
  have := endsF_bd hE hok hn
  exact ⟨by omega, boundF_bd hE hok⟩
theorem wk_bd (hE : ∀ e ∈ es, EdOk nn e) (hn : 0 < nn) {f : Nat} : ∀ {k v : Nat} {s : Int}, Wk (Ar es nn) f k v s → -100000 * (k : Int) ≤ s ∧ s ≤ 100000 * k := by
  intro k
  induction k with
  | zero => intro v s h; have := (wk_zero h).2; omega
  | succ k ih =>
    intro v s h
    obtain ⟨u, b, s', h1, h2, rfl⟩ := wk_pred h
    have := ih h1
    have := (Ar_bd hE hn h2).2
    omega
/-- What was reached was reached by walks of at most c steps. -/
def LInv (es : List Edg) (nn f c : Nat) (o : List Seen) : Prop := o.length = nn ∧ ∀ v, v < nn → (gS o v).R = true → ∃ k, k ≤ c ∧ Wk (Ar es nn) f k v (gS o v).S
def Mono (o o' : List Seen) : Prop := ∀ v, (gS o v).R = true → (gS o' v).R = true ∧ (gS o v).S ≤ (gS o' v).S
/-- From one state to a later one. -/
def Ev (nn : Nat) (st st' : LSt) : Prop := Mono st.1 st'.1 ∧ (st' = st ∨ (0 ≤ st'.2 ∧ ∃ z, z < nn ∧ (gS st'.1 z).R = true ∧ ((gS st.1 z).R = true → (gS st.1 z).S < (gS st'.1 z).S)))
theorem Mono.trans {a b c : List Seen} (h1 : Mono a b) (h2 : Mono b c) : Mono a c := fun v hv => by
  have a1 := h1 v hv
  have a2 := h2 v a1.1
  exact ⟨a2.1, by omega⟩
theorem Ev.refl (st : LSt) : Ev nn st st := ⟨fun v hv => ⟨hv, Int.le_refl _⟩, .inl rfl⟩
theorem Ev.trans {a b c : LSt} (h1 : Ev nn a b) (h2 : Ev nn b c) : Ev nn a c := by
  refine ⟨h1.1.trans h2.1, ?_⟩
  rcases h2.2 with rfl | ⟨h3, z, hz, h4, h5⟩
  · exact h1.2
  · refine .inr ⟨h3, z, hz, h4, fun hr => ?_⟩
    have a1 := h1.1 z hr
    have := h5 a1.1
    omega
theorem LInv.le {f c d : Nat} {o : List Seen} (h : LInv es nn f c o) (hd : c ≤ d) : LInv es nn f d o := ⟨h.1, fun v hv hr => let ⟨k, hk, hw⟩ := h.2 v hv hr; ⟨k, by omega, hw⟩⟩
theorem relax_ok (hE : ∀ e ∈ es, EdOk nn e) (hn : 0 < nn) {f c i : Nat} (hi : i < nn) (hc : c ≤ 1000000) {st : LSt} (hI : LInv es nn f c st.1) (hr : (gS st.1 i).R = true) {a : Arc} (ha : a ∈ leavingF es nn (i : Int)) :
    LInv es nn f (c + 1) (relaxW es i st a).1 ∧ Ev nn st (relaxW es i st a) ∧ ((gS (relaxW es i st a).1 (endsF es a).2.toNat).R = true ∧ (gS st.1 i).S + boundF es a ≤ (gS (relaxW es i st a).1 (endsF es a).2.toNat).S) := by
  have hok := leavingF_ok es nn i a ha
  have hends := (endsF_bd hE hok hn).2
  have hbd := boundF_bd hE hok
  obtain ⟨k, hk, hw⟩ := hI.2 i hi hr
  have hs := wk_bd hE hn hw
  have hwr : IntKind.i64.wrap ((gS st.1 i).S + boundF es a) = (gS st.1 i).S + boundF es a := inR_wrap (by simp only [inR]; omega)
  obtain ⟨z, hz⟩ := toNat_eq hends.1
  have hzn : z < nn := by omega
  have hzt : (endsF es a).2.toNat = z := by omega
  unfold relaxW
  rw [hwr, hzt]
  have hzl : z < st.1.length := by rw [hI.1]; exact hzn
  have hw' : Wk (Ar es nn) f (k + 1) z ((gS st.1 i).S + boundF es a) := wk_snoc hw ⟨a, ha, hz, rfl⟩
  split
  · rename_i hcond
    simp only [Bool.or_eq_true, Bool.not_eq_true', decide_eq_true_eq] at hcond
    refine ⟨⟨by simp [hI.1], fun v hv hv2 => ?_⟩, ⟨fun v hv => ?_, .inr ⟨hends.1, z, hzn, ?_, fun h1 => ?_⟩⟩, ?_⟩
    · dsimp only at hv2 ⊢
      rw [gS_set] at hv2 ⊢
      by_cases hvz : v = z ∧ z < st.1.length
      · rw [if_pos hvz]
        rw [hvz.1]
        exact ⟨k + 1, by omega, hw'⟩
      · rw [if_neg hvz] at hv2 ⊢
        obtain ⟨k', hk', hw2⟩ := hI.2 v hv hv2
        exact ⟨k', by omega, hw2⟩
    · dsimp only
      rw [gS_set]
      by_cases hvz : v = z ∧ z < st.1.length
      · rw [if_pos hvz]
        obtain ⟨rfl, _⟩ := hvz
        dsimp only
        rcases hcond with h1 | h1
        · rw [hv] at h1; cases h1
        · exact ⟨rfl, by omega⟩
      · rw [if_neg hvz]
        exact ⟨hv, Int.le_refl _⟩
    · dsimp only
      rw [gS_set, if_pos ⟨rfl, hzl⟩]
    · dsimp only
      rw [gS_set, if_pos ⟨rfl, hzl⟩]
      dsimp only
      rcases hcond with h2 | h2
      · rw [h1] at h2; cases h2
      · exact h2
    · dsimp only
      rw [gS_set, if_pos ⟨rfl, hzl⟩]
      exact ⟨rfl, Int.le_refl _⟩
  · rename_i hcond
    simp only [Bool.or_eq_true, Bool.not_eq_true', decide_eq_true_eq, not_or, Bool.not_eq_false] at hcond
    exact ⟨hI.le (by omega), Ev.refl _, hcond.1, by omega⟩
theorem arcs_ok (hE : ∀ e ∈ es, EdOk nn e) (hn : 0 < nn) {f i : Nat} (hi : i < nn) : ∀ (l : List Arc), (∀ a ∈ l, a ∈ leavingF es nn (i : Int)) → ∀ {c : Nat} {st : LSt}, c + l.length ≤ 1000000 → LInv es nn f c st.1 → (gS st.1 i).R = true →
    LInv es nn f (c + l.length) (l.foldl (relaxW es i) st).1 ∧ Ev nn st (l.foldl (relaxW es i) st) ∧ ∀ a ∈ l, (gS (l.foldl (relaxW es i) st).1 (endsF es a).2.toNat).R = true ∧ (gS st.1 i).S + boundF es a ≤ (gS (l.foldl (relaxW es i) st).1 (endsF es a).2.toNat).S
  | [], _, c, st, hc, hI, hr => ⟨hI, Ev.refl _, fun a h => by cases h⟩
  | a :: l, hl, c, st, hc, hI, hr => by
    rw [List.length_cons] at hc
    obtain ⟨h1, h2, h3⟩ := relax_ok hE hn hi (by omega) hI hr (hl a (by simp))
    have hr1 := h2.1 i hr
    obtain ⟨g1, g2, g3⟩ := arcs_ok hE hn hi l (fun x hx => hl x (by simp [hx])) (c := c + 1) (by omega) h1 hr1.1
    rw [List.foldl_cons, List.length_cons]
    refine ⟨g1.le (by omega), h2.trans g2, fun x hx => ?_⟩
    rcases List.mem_cons.1 hx with rfl | hx
    · have := g2.1 _ h3.1
      exact ⟨this.1, by omega⟩
    · have := g3 x hx
      exact ⟨this.1, by omega⟩
theorem step_okW (hE : ∀ e ∈ es, EdOk nn e) (hn : 0 < nn) (hn12 : nn ≤ 12) (hm : es.length ≤ 24) {f i : Nat} (hi : i < nn) {c : Nat} {st : LSt} (hc : c ≤ 900000) (hI : LInv es nn f c st.1) :
    LInv es nn f (c + 60) (stepW es nn st i).1 ∧ Ev nn st (stepW es nn st i) ∧ ((gS st.1 i).R = true → ∀ v b, Ar es nn i v b → (gS (stepW es nn st i).1 v).R = true ∧ (gS st.1 i).S + b ≤ (gS (stepW es nn st i).1 v).S) := by
  have hll := leavingF_len es nn i
  unfold stepW
  split
  · rename_i hr
    obtain ⟨h1, h2, h3⟩ := arcs_ok hE hn hi (leavingF es nn i) (fun a h => h) (c := c) (by omega) hI hr
    refine ⟨h1.le (by omega), h2, fun _ v b ⟨a, ha, e1, e2⟩ => ?_⟩
    have := h3 a ha
    rw [e1, e2, Int.toNat_natCast] at this
    exact this
  · rename_i hr
    exact ⟨hI.le (by omega), Ev.refl _, fun h => absurd h hr⟩
theorem inn_ok (hE : ∀ e ∈ es, EdOk nn e) (hn : 0 < nn) (hn12 : nn ≤ 12) (hm : es.length ≤ 24) {f c : Nat} {o : List Seen} (hc : c ≤ 800000) (hI : LInv es nn f c o) : ∀ i, i ≤ nn →
    LInv es nn f (c + 60 * i) (innW es nn o i).1 ∧ Ev nn (o, -1) (innW es nn o i) ∧ ∀ u, u < i → (gS o u).R = true → ∀ v b, Ar es nn u v b → (gS (innW es nn o i).1 v).R = true ∧ (gS o u).S + b ≤ (gS (innW es nn o i).1 v).S
  | 0, _ => ⟨hI, Ev.refl _, fun u h => absurd h (Nat.not_lt_zero _)⟩
  | i + 1, hi => by
    obtain ⟨h1, h2, h3⟩ := inn_ok hE hn hn12 hm hc hI i (by omega)
    obtain ⟨g1, g2, g3⟩ := step_okW hE hn hn12 hm (i := i) (by omega) (by omega) h1
    rw [innW_succ]
    refine ⟨g1.le (by omega), h2.trans g2, fun u hu hr v b hA => ?_⟩
    by_cases hui : u < i
    · have a1 := h3 u hui hr v b hA
      have a2 := g2.1 v a1.1
      exact ⟨a2.1, by omega⟩
    · obtain rfl : u = i := by omega
      have a1 := h2.1 u hr
      have a2 := g3 a1.1 v b hA
      exact ⟨a2.1, by have := a1.2; dsimp only at this; omega⟩
theorem rounds_ok (hE : ∀ e ∈ es, EdOk nn e) (hn : 0 < nn) (hn12 : nn ≤ 12) (hm : es.length ≤ 24) {f : Nat} (hf : f < nn) : ∀ r, r ≤ 100 →
    LInv es nn f (60 * nn * r) (roundsW es nn f r).1 ∧ ∀ k v s, k ≤ r → Wk (Ar es nn) f k v s → (gS (roundsW es nn f r).1 v).R = true ∧ s ≤ (gS (roundsW es nn f r).1 v).S
  | 0, _ => by
    have e0 : (roundsW es nn f 0).1 = initW nn f := rfl
    have hl : f < (List.replicate nn seZ).length := by simpa using hf
    have hz : ∀ v, gS (List.replicate nn seZ) v = seZ := fun v => by
      unfold gS
      rcases Nat.lt_or_ge v nn with h | h <;> simp [h]
    rw [e0]
    unfold initW
    refine ⟨⟨by simp, fun v hv hr => ?_⟩, fun k v s hk hw => ?_⟩
    · rw [gS_set] at hr ⊢
      by_cases hvf : v = f ∧ f < (List.replicate nn seZ).length
      · rw [if_pos hvf, hvf.1]
        exact ⟨0, by omega, wk_nil _ _⟩
      · rw [if_neg hvf, hz] at hr
        cases hr
    · obtain rfl : k = 0 := by omega
      obtain ⟨rfl, rfl⟩ := wk_zero hw
      rw [gS_set, if_pos ⟨rfl, hl⟩]
      exact ⟨rfl, Int.le_refl _⟩
  | r + 1, hr => by
    obtain ⟨h1, h2⟩ := rounds_ok hE hn hn12 hm hf r (by omega)
    have hb : 60 * nn * r ≤ 60 * 12 * 100 := Nat.mul_le_mul (by omega) (by omega)
    obtain ⟨g1, g2, g3⟩ := inn_ok hE hn hn12 hm (by omega) h1 nn (Nat.le_refl _)
    rw [roundsW_succ]
    refine ⟨g1.le (by rw [Nat.mul_add]; omega), fun k v s hk hw => ?_⟩
    cases k with
    | zero =>
      have a1 := h2 0 v s (Nat.zero_le _) hw
      have a2 := g2.1 v a1.1
      exact ⟨a2.1, by have := a2.2; dsimp only at this; omega⟩
    | succ k =>
      obtain ⟨u, b, s', w1, w2, rfl⟩ := wk_pred hw
      have a1 := h2 k u s' (by omega) w1
      have hu : u < nn := wk_lt (fun u v b h => (Ar_bd hE hn h).1) hf w1
      have a2 := g3 u hu a1.1 v b w2
      exact ⟨a2.1, by omega⟩
/-- A potential: times that no arc refuses. -/
def Pot (es : List Edg) (nn : Nat) (p : Nat → Int) : Prop := ∀ u v b, Ar es nn u v b → p u + b ≤ p v
/-- What the greatest sums are, where there is a potential. -/
theorem long_pot (hE : ∀ e ∈ es, EdOk nn e) (hn : 0 < nn) (hn12 : nn ≤ 12) (hm : es.length ≤ 24) {f : Nat} (hf : f < nn) {p : Nat → Int} (hp : Pot es nn p) : ¬ 0 ≤ (longW es nn f).2 ∧
    (∀ v, v < nn → (gS (longW es nn f).1 v).R = true → ∃ k, Wk (Ar es nn) f k v (gS (longW es nn f).1 v).S) ∧ ∀ k v s, Wk (Ar es nn) f k v s → (gS (longW es nn f).1 v).R = true ∧ s ≤ (gS (longW es nn f).1 v).S := by
  obtain ⟨h1, h2⟩ := rounds_ok hE hn hn12 hm hf (nn + 1) (by omega)
  obtain ⟨h3, h4⟩ := rounds_ok hE hn hn12 hm hf nn (by omega)
  have hb : 60 * nn * nn ≤ 60 * 12 * 12 := Nat.mul_le_mul (by omega) (by omega)
  obtain ⟨g1, g2, g3⟩ := inn_ok hE hn hn12 hm (by omega) h3 nn (Nat.le_refl _)
  have hlt : ∀ u v b, Ar es nn u v b → v < nn := fun u v b h => (Ar_bd hE hn h).1
  refine ⟨fun h0 => ?_, fun v hv hr => ?_, fun k v s hw => ?_⟩
  · unfold longW at h0
    rw [roundsW_succ] at h0
    rcases g2.2 with e | ⟨_, z, hz, a1, a2⟩
    · rw [e] at h0
      exact absurd h0 (by show ¬ (0 : Int) ≤ -1; omega)
    · obtain ⟨k, _, hw⟩ := g1.2 z hz a1
      obtain ⟨k', s', hk', hs', hw'⟩ := wk_short hp hlt hf k k (Nat.le_refl _) hw
      have a3 := h4 k' z s' (by omega) hw'
      have := a2 a3.1
      dsimp only at this
      omega
  · obtain ⟨k, _, hw⟩ := h1.2 v hv hr
    exact ⟨k, hw⟩
  · obtain ⟨k', s', hk', hs', hw'⟩ := wk_short hp hlt hf k k (Nat.le_refl _) hw
    have := h2 k' v s' (by omega) hw'
    exact ⟨this.1, by have := this.2; unfold longW; omega⟩
/-- Where the sums stop growing, they are closed. -/
theorem long_end (hE : ∀ e ∈ es, EdOk nn e) (hn : 0 < nn) (hn12 : nn ≤ 12) (hm : es.length ≤ 24) {f : Nat} (hf : f < nn) (h0 : ¬ 0 ≤ (longW es nn f).2) :
    (gS (longW es nn f).1 f).R = true ∧ ∀ u v b, u < nn → (gS (longW es nn f).1 u).R = true → Ar es nn u v b → (gS (longW es nn f).1 v).R = true ∧ (gS (longW es nn f).1 u).S + b ≤ (gS (longW es nn f).1 v).S := by
  obtain ⟨h3, h4⟩ := rounds_ok hE hn hn12 hm hf nn (by omega)
  obtain ⟨_, h6⟩ := rounds_ok hE hn hn12 hm hf (nn + 1) (by omega)
  have hb : 60 * nn * nn ≤ 60 * 12 * 12 := Nat.mul_le_mul (by omega) (by omega)
  obtain ⟨g1, g2, g3⟩ := inn_ok hE hn hn12 hm (by omega) h3 nn (Nat.le_refl _)
  have eL : longW es nn f = innW es nn (roundsW es nn f nn).1 nn := by unfold longW; rw [roundsW_succ]
  refine ⟨(h6 0 f 0 (Nat.zero_le _) (wk_nil _ _)).1, fun u v b hu hr hA => ?_⟩
  rcases g2.2 with e | ⟨a0, _⟩
  · have e1 : (longW es nn f).1 = (roundsW es nn f nn).1 := by rw [eL, e]
    have := g3 u hu (by rw [← e1]; exact hr) v b hA
    rw [← eL] at this
    rw [e1] at hr ⊢
    rw [e1] at this
    exact this
  · rw [eL] at h0
    exact absurd a0 h0
end

end Go.Proofs.YtmfophoejjcnlaaGreatDoor
namespace Go.Proofs.YtmfophoejjcnlaaGreatDoor
open Go.E Go.RowKit
attribute [local irreducible] G C S D Calls
set_option maxRecDepth 100000
set_option linter.unusedSimpArgs false
set_option linter.unusedVariables false

section
variable {es : List Edg} {nn : Nat}
theorem Ar_iff (hE : ∀ e ∈ es, EdOk nn e) {u v : Nat} {b : Int} : Ar es nn u v b ↔ (∃ e ∈ es, e.F = u ∧ e.T = v ∧ b = e.L) ∨ (∃ e ∈ es, e.T = u ∧ e.F = v ∧ b = 0 - e.H) ∨ (u = 0 ∧ v < nn ∧ b = 0) := by
  have f0 : ∀ k : Nat, endsF es ⟨k, false, 0⟩ = ((gE es k).F, (gE es k).T) ∧ boundF es ⟨k, false, 0⟩ = (gE es k).L := fun k => by
    unfold endsF boundF
    simp only [if_neg (show ¬ ((k : Int) < 0) by omega), Int.toNat_natCast]
    simp
  have f1 : ∀ k : Nat, endsF es ⟨k, true, 0⟩ = ((gE es k).T, (gE es k).F) ∧ boundF es ⟨k, true, 0⟩ = 0 - (gE es k).H := fun k => by
    unfold endsF boundF
    simp only [if_neg (show ¬ ((k : Int) < 0) by omega), Int.toNat_natCast]
    simp
  have f2 : ∀ j : Nat, endsF es ⟨-1, false, j⟩ = (0, (j : Int)) ∧ boundF es ⟨-1, false, j⟩ = 0 := fun j => by
    unfold endsF boundF
    simp
  constructor
  · rintro ⟨a, ha, h1, h2⟩
    unfold leavingF preJ at ha
    simp only [List.mem_append, List.mem_flatMap, List.mem_range, List.mem_filter, List.take_zero, List.filter_nil, List.not_mem_nil, or_false] at ha
    rcases ha with ⟨k, hk, h, hl⟩ | ha
    · simp only [List.mem_cons, List.mem_nil_iff, or_false] at h
      have hg := gE_at hk
      have hm := List.getElem_mem hk
      unfold lvc at hl
      rw [beq_iff_eq] at hl
      rcases h with rfl | rfl
      · have e : arcK k 0 = ⟨k, false, 0⟩ := rfl
        rw [e, (f0 k).1] at h1 hl
        rw [e, (f0 k).2] at h2
        rw [hg] at h1 h2 hl
        exact .inl ⟨_, hm, hl, h1, h2.symm⟩
      · have e : arcK k 1 = ⟨k, true, 0⟩ := rfl
        rw [e, (f1 k).1] at h1 hl
        rw [e, (f1 k).2] at h2
        rw [hg] at h1 h2 hl
        exact .inr (.inl ⟨_, hm, hl, h1, h2.symm⟩)
    · split at ha
      · rename_i h0
        obtain ⟨j, hj, rfl⟩ := List.mem_map.1 ha
        rw [(f2 j).1] at h1
        rw [(f2 j).2] at h2
        have hj' := List.mem_range.1 hj
        dsimp only at h1
        exact .inr (.inr ⟨by omega, by omega, h2.symm⟩)
      · cases ha
  · have hmem : ∀ (k : Nat) (a : Arc), k < es.length → a ∈ [arcK k 0, arcK k 1] → (endsF es a).1 = (u : Int) → a ∈ leavingF es nn u := fun k a hk ha hl => by
      unfold leavingF preJ
      simp only [List.mem_append, List.mem_flatMap, List.mem_range, List.mem_filter, List.take_zero, List.filter_nil, List.not_mem_nil, or_false]
      exact .inl ⟨k, hk, ha, by unfold lvc; rw [beq_iff_eq]; exact hl⟩
    rintro (⟨e, he, h1, h2, h3⟩ | ⟨e, he, h1, h2, h3⟩ | ⟨h1, h2, h3⟩)
    · obtain ⟨k, hk, rfl⟩ := List.getElem_of_mem he
      have hg := gE_at hk
      refine ⟨arcK k 0, hmem k _ hk (by simp) ?_, ?_, ?_⟩
      · show (endsF es ⟨k, false, 0⟩).1 = _
        rw [(f0 k).1, hg]; exact h1
      · show (endsF es ⟨k, false, 0⟩).2 = _
        rw [(f0 k).1, hg]; exact h2
      · show boundF es ⟨k, false, 0⟩ = _
        rw [(f0 k).2, hg, h3]
    · obtain ⟨k, hk, rfl⟩ := List.getElem_of_mem he
      have hg := gE_at hk
      refine ⟨arcK k 1, hmem k _ hk (by simp) ?_, ?_, ?_⟩
      · show (endsF es ⟨k, true, 0⟩).1 = _
        rw [(f1 k).1, hg]; exact h1
      · show (endsF es ⟨k, true, 0⟩).2 = _
        rw [(f1 k).1, hg]; exact h2
      · show boundF es ⟨k, true, 0⟩ = _
        rw [(f1 k).2, hg, h3]
    · subst h1; subst h3
      refine ⟨⟨-1, false, v⟩, ?_, by rw [(f2 v).1], (f2 v).2⟩
      unfold leavingF
      rw [List.mem_append]
      refine .inr ?_
      rw [if_pos (show ((0 : Nat) : Int) = 0 from rfl)]
      exact List.mem_map.2 ⟨v, List.mem_range.2 h2, rfl⟩
theorem Ar_u (hE : ∀ e ∈ es, EdOk nn e) (hn : 0 < nn) {u v : Nat} {b : Int} (h : Ar es nn u v b) : u < nn := by
  rcases (Ar_iff hE).1 h with ⟨e, he, h1, _⟩ | ⟨e, he, h1, _⟩ | ⟨h1, _⟩
  · have := (hE e he).F; omega
  · have := (hE e he).T; omega
  · omega
theorem isPlan_iff (hE : ∀ e ∈ es, EdOk nn e) (hn : 0 < nn) {ts : List Int} (h0 : ∀ k, 0 ≤ gT ts k) : isPlanB es ts = true ↔ Pot es nn (gT ts) ∧ gT ts 0 = 0 := by
  have e : isPlanB es ts = true ↔ (∀ e ∈ es, e.L ≤ setF ts e ∧ setF ts e ≤ e.H) ∧ gT ts 0 = 0 := by
    unfold isPlanB
    rw [Bool.not_eq_true', Bool.or_eq_false_iff, List.any_eq_false, bne_eq_false_iff_eq]
    constructor
    · rintro ⟨h1, h2⟩
      refine ⟨fun e he => ?_, h2⟩
      have := h1 e he
      unfold offF at this
      rw [bne_iff_ne, ne_eq, Classical.not_not, wi_eq] at this
      exact this
    · rintro ⟨h1, h2⟩
      refine ⟨fun e he => ?_, h2⟩
      unfold offF
      rw [bne_iff_ne, ne_eq, Classical.not_not, wi_eq]
      exact h1 e he
  rw [e]
  unfold setF
  constructor
  · rintro ⟨h1, h2⟩
    refine ⟨fun u v b hA => ?_, h2⟩
    rcases (Ar_iff hE).1 hA with ⟨e, he, a1, a2, rfl⟩ | ⟨e, he, a1, a2, rfl⟩ | ⟨rfl, a2, rfl⟩
    · have := h1 e he
      rw [a1, a2, Int.toNat_natCast, Int.toNat_natCast] at this
      omega
    · have := h1 e he
      rw [a1, a2, Int.toNat_natCast, Int.toNat_natCast] at this
      omega
    · have := h0 v
      omega
  · rintro ⟨h1, h2⟩
    refine ⟨fun e he => ?_, h2⟩
    have ok := hE e he
    obtain ⟨x, hx⟩ := toNat_eq ok.F.1
    obtain ⟨y, hy⟩ := toNat_eq ok.T.1
    have a1 := h1 x y e.L ((Ar_iff hE).2 (.inl ⟨e, he, hx, hy, rfl⟩))
    have a2 := h1 y x (0 - e.H) ((Ar_iff hE).2 (.inr (.inl ⟨e, he, hy, hx, rfl⟩)))
    rw [hx, hy, Int.toNat_natCast, Int.toNat_natCast]
    omega
/-- Times that walks from the reference give. -/
def TInv (es : List Edg) (nn : Nat) (ts : List Int) : Prop := ts.length = nn ∧ (∀ k, 0 ≤ gT ts k) ∧ ∀ v, v < nn → ∃ k, Wk (Ar es nn) 0 k v (gT ts v)
def TLe (a b : List Int) : Prop := ∀ v, gT a v ≤ gT b v
theorem rlxE_ok (hE : ∀ e ∈ es, EdOk nn e) {e : Edg} (he : e ∈ es) {ts : List Int} (h : TInv es nn ts) : TInv es nn (rlxE ts e) ∧ TLe ts (rlxE ts e) ∧ gT ts e.F.toNat + e.L ≤ gT (rlxE ts e) e.T.toNat ∧ gT ts e.T.toNat - e.H ≤ gT (rlxE ts e) e.F.toNat := by
  have ok := hE e he
  obtain ⟨x, hx⟩ := toNat_eq ok.F.1
  obtain ⟨y, hy⟩ := toNat_eq ok.T.1
  have hxn : x < nn := by have := ok.F; omega
  have hyn : y < nn := by have := ok.T; omega
  have hxy : x ≠ y := fun e' => ok.FT (by omega)
  have hA1 := (Ar_iff hE).2 (.inl ⟨e, he, hx, hy, rfl⟩ : (∃ e' ∈ es, e'.F = x ∧ e'.T = y ∧ e.L = e'.L) ∨ _)
  have hA2 := (Ar_iff hE).2 (.inr (.inl ⟨e, he, hy, hx, rfl⟩) : _ ∨ (∃ e' ∈ es, e'.T = y ∧ e'.F = x ∧ 0 - e.H = 0 - e'.H) ∨ _)
  have e1 : rlx1 ts e = ts.set y (max (gT ts y) (gT ts x + e.L)) := by unfold rlx1; rw [hx, hy, Int.toNat_natCast, Int.toNat_natCast]
  have g1 : ∀ v, gT (rlx1 ts e) v = if v = y then max (gT ts y) (gT ts x + e.L) else gT ts v := fun v => by
    rw [e1, gT_set]
    by_cases hv : v = y
    · rw [if_pos ⟨hv, by rw [h.1]; exact hyn⟩, if_pos hv]
    · rw [if_neg (fun h => hv h.1), if_neg hv]
  have e2 : rlxE ts e = (rlx1 ts e).set x (max (gT (rlx1 ts e) x) (gT (rlx1 ts e) y - e.H)) := by unfold rlxE rlx2; rw [hx, hy, Int.toNat_natCast, Int.toNat_natCast]
  have g2 : ∀ v, gT (rlxE ts e) v = if v = x then max (gT ts x) (max (gT ts y) (gT ts x + e.L) - e.H) else gT (rlx1 ts e) v := fun v => by
    rw [e2, gT_set, g1 x, g1 y, if_neg hxy, if_pos rfl]
    by_cases hv : v = x
    · rw [if_pos ⟨hv, by rw [rlx1_len, h.1]; exact hxn⟩, if_pos hv]
    · rw [if_neg (fun h => hv h.1), if_neg hv]
  have w1 : ∃ k, Wk (Ar es nn) 0 k y (max (gT ts y) (gT ts x + e.L)) := by
    rcases Int.le_total (gT ts x + e.L) (gT ts y) with hle | hle
    · rw [Int.max_eq_left hle]; exact h.2.2 y hyn
    · rw [Int.max_eq_right hle]
      obtain ⟨k, hk⟩ := h.2.2 x hxn
      exact ⟨k + 1, wk_snoc hk hA1⟩
  refine ⟨⟨by rw [rlxE_len, h.1], fun k => ?_, fun v hv => ?_⟩, fun v => ?_, ?_, ?_⟩
  · have := h.2.1 k
    have := h.2.1 x
    have := h.2.1 y
    rw [g2]
    split
    · omega
    · rw [g1]; split <;> omega
  · rw [g2]
    split
    · rename_i hvx
      rw [hvx]
      rcases Int.le_total (max (gT ts y) (gT ts x + e.L) - e.H) (gT ts x) with hle | hle
      · rw [Int.max_eq_left hle]; exact h.2.2 x hxn
      · rw [Int.max_eq_right hle]
        obtain ⟨k, hk⟩ := w1
        have := wk_snoc hk hA2
        rw [show max (gT ts y) (gT ts x + e.L) + (0 - e.H) = max (gT ts y) (gT ts x + e.L) - e.H by omega] at this
        exact ⟨k + 1, this⟩
    · rw [g1]
      split
      · rename_i hvy; rw [hvy]; exact w1
      · exact h.2.2 v hv
  · rw [g2]
    split
    · rename_i hvx; rw [hvx]; omega
    · rw [g1]
      split
      · rename_i hvy; rw [hvy]; omega
      · exact Int.le_refl _
  · rw [hx, hy, Int.toNat_natCast, Int.toNat_natCast, g2, if_neg (Ne.symm hxy), g1, if_pos rfl]
    omega
  · rw [hx, hy, Int.toNat_natCast, Int.toNat_natCast, g2, if_pos rfl]
    omega
theorem foldE_ok (hE : ∀ e ∈ es, EdOk nn e) : ∀ (l : List Edg), (∀ e ∈ l, e ∈ es) → ∀ {ts : List Int}, TInv es nn ts → TInv es nn (l.foldl rlxE ts) ∧ TLe ts (l.foldl rlxE ts) ∧ ∀ e ∈ l, gT ts e.F.toNat + e.L ≤ gT (l.foldl rlxE ts) e.T.toNat ∧ gT ts e.T.toNat - e.H ≤ gT (l.foldl rlxE ts) e.F.toNat
  | [], _, ts, h => ⟨h, fun v => Int.le_refl _, fun e h => by cases h⟩
  | e :: l, hl, ts, h => by
    obtain ⟨a1, a2, a3, a4⟩ := rlxE_ok hE (hl e (by simp)) h
    obtain ⟨b1, b2, b3⟩ := foldE_ok hE l (fun x hx => hl x (by simp [hx])) a1
    rw [List.foldl_cons]
    refine ⟨b1, fun v => Int.le_trans (a2 v) (b2 v), fun x hx => ?_⟩
    rcases List.mem_cons.1 hx with rfl | hx
    · have := b2 x.T.toNat
      have := b2 x.F.toNat
      omega
    · have := b3 x hx
      have := a2 x.T.toNat
      have := a2 x.F.toNat
      omega
theorem rlxR_s (es : List Edg) (nn r : Nat) : rlxR es nn (r + 1) = es.foldl rlxE (rlxR es nn r) := by
  rw [rlxR_succ]
  unfold rlxI
  rw [List.take_length]
theorem rlx_ok (hE : ∀ e ∈ es, EdOk nn e) (hn : 0 < nn) {p : Nat → Int} (hp : Pot es nn p) : ∀ r : Nat, TInv es nn (rlxR es nn r) ∧ ∀ k v s, k ≤ r → Wk (Ar es nn) 0 k v s → s ≤ gT (rlxR es nn r) v
  | 0 => by
    have hz : ∀ v, gT (rlxR es nn 0) v = 0 := fun v => by
      unfold gT rlxR
      rcases Nat.lt_or_ge v nn with h | h <;> simp [h]
    refine ⟨⟨by simp [rlxR], fun k => by rw [hz]; omega, fun v hv => ⟨1, ?_⟩⟩, fun k v s hk hw => ?_⟩
    · rw [hz]
      have := wk_snoc (wk_nil (Ar es nn) 0) ((Ar_iff hE).2 (.inr (.inr ⟨rfl, hv, rfl⟩)))
      simpa using this
    · obtain rfl : k = 0 := by omega
      obtain ⟨rfl, rfl⟩ := wk_zero hw
      rw [hz]
      exact Int.le_refl _
  | r + 1 => by
    obtain ⟨h1, h2⟩ := rlx_ok hE hn hp r
    obtain ⟨g1, g2, g3⟩ := foldE_ok hE es (fun e h => h) h1
    rw [rlxR_s]
    refine ⟨g1, fun k v s hk hw => ?_⟩
    cases k with
    | zero =>
      have := h2 0 v s (Nat.zero_le _) hw
      have := g2 v
      omega
    | succ k =>
      obtain ⟨u, b, s', w1, w2, rfl⟩ := wk_pred hw
      have a1 := h2 k u s' (by omega) w1
      rcases (Ar_iff hE).1 w2 with ⟨e, he, c1, c2, rfl⟩ | ⟨e, he, c1, c2, rfl⟩ | ⟨rfl, c2, rfl⟩
      · have := (g3 e he).1
        rw [c1, c2, Int.toNat_natCast, Int.toNat_natCast] at this
        omega
      · have := (g3 e he).2
        rw [c1, c2, Int.toNat_natCast, Int.toNat_natCast] at this
        omega
      · have := wk_pot hp w1
        have := g1.2.1 v
        omega
theorem plan_pot (hE : ∀ e ∈ es, EdOk nn e) (hn : 0 < nn) (hn12 : nn ≤ 12) (hm : es.length ≤ 24) {p : Nat → Int} (hp : Pot es nn p) :
    isPlanB es (rlxR es nn (nn + 1)) = true ∧ rlxR es nn (nn + 1) = (longW es nn 0).1.map (·.S) := by
  obtain ⟨h1, h2⟩ := rlx_ok hE hn hp (nn + 1)
  obtain ⟨l1, l2, l3⟩ := long_pot hE hn hn12 hm hn hp
  have hlt : ∀ u v b, Ar es nn u v b → v < nn := fun u v b h => (Ar_bd hE hn h).1
  have all : ∀ k v s, Wk (Ar es nn) 0 k v s → s ≤ gT (rlxR es nn (nn + 1)) v := fun k v s hw => by
    obtain ⟨k', s', hk', hs', hw'⟩ := wk_short hp hlt hn k k (Nat.le_refl _) hw
    have := h2 k' v s' (by omega) hw'
    omega
  refine ⟨(isPlan_iff hE hn h1.2.1).2 ⟨fun u v b hA => ?_, ?_⟩, ?_⟩
  · obtain ⟨k, hk⟩ := h1.2.2 u (Ar_u hE hn hA)
    exact all _ _ _ (wk_snoc hk hA)
  · obtain ⟨k, hk⟩ := h1.2.2 0 hn
    have := wk_pot hp hk
    have := h1.2.1 0
    omega
  · apply List.ext_getElem
    · rw [h1.1, List.length_map, longW_len]
    · intro i hi1 hi2
      have hin : i < nn := by rw [h1.1] at hi1; exact hi1
      have hil : i < (longW es nn 0).1.length := by rw [longW_len]; exact hin
      rw [List.getElem_map, ← gS_at hil, ← gT_at hi1]
      obtain ⟨k, hk⟩ := h1.2.2 i hin
      have a1 := l3 k i _ hk
      obtain ⟨k', hk'⟩ := l2 i hin a1.1
      have a2 := all k' i _ hk'
      omega
/-- Where the sums end, they are a potential. -/
theorem pot_of_end (hE : ∀ e ∈ es, EdOk nn e) (hn : 0 < nn) (hn12 : nn ≤ 12) (hm : es.length ≤ 24) (h0 : ¬ 0 ≤ (longW es nn 0).2) : Pot es nn fun v => (gS (longW es nn 0).1 v).S := by
  obtain ⟨h1, h2⟩ := long_end hE hn hn12 hm hn h0
  have hr : ∀ v, v < nn → (gS (longW es nn 0).1 v).R = true := fun v hv => (h2 0 v 0 hn h1 ((Ar_iff hE).2 (.inr (.inr ⟨rfl, hv, rfl⟩)))).1
  intro u v b hA
  have hu := Ar_u hE hn hA
  exact (h2 u v b hu (hr u hu) hA).2
theorem plan_eq {names : List ByteArray} (hN : netF names es = 0) : planR names es = rplanR es names.length := by
  have ok := netF_ok hN
  unfold planR rplanR
  rw [if_neg (by simp [hN])]
  by_cases h0 : 0 ≤ (longW es names.length 0).2
  · rw [if_pos h0]
    have : isPlanB es (rlxR es names.length (names.length + 1)) = false := by
      cases hP : isPlanB es (rlxR es names.length (names.length + 1))
      · rfl
      · exfalso
        have hb := rlxR_bd ok.e ok.m (names.length + 1)
        have := ((isPlan_iff ok.e ok.n0 fun k => (hb k).1).1 hP).1
        exact (long_pot ok.e ok.n0 ok.n ok.m ok.n0 this).1 h0
    rw [this]
    rfl
  · rw [if_neg h0]
    obtain ⟨h1, h2⟩ := plan_pot ok.e ok.n0 ok.n ok.m (pot_of_end ok.e ok.n0 ok.n ok.m h0)
    rw [h1, h2]
    rfl
end

end Go.Proofs.YtmfophoejjcnlaaGreatDoor
namespace Go.Proofs.YtmfophoejjcnlaaGreatDoor
open Go.E Go.RowKit
attribute [local irreducible] G C S D Calls
set_option maxRecDepth 100000
set_option linter.unusedSimpArgs false
set_option linter.unusedVariables false

section
variable {es es' : List Edg} {nn : Nat}
/-- The times of the least plan. -/
def pS (es : List Edg) (nn v : Nat) : Int := (gS (longW es nn 0).1 v).S
/-- Is there a plan? -/
def Fea (es : List Edg) (nn : Nat) : Prop := ¬ 0 ≤ (longW es nn 0).2
structure FeaOk (es : List Edg) (nn : Nat) : Prop where
  pot : Pot es nn (pS es nn)
  z : pS es nn 0 = 0
  b : ∀ v, v < nn → 0 ≤ pS es nn v ∧ pS es nn v ≤ 100000 * nn
  w : ∀ v, v < nn → ∃ k, Wk (Ar es nn) 0 k v (pS es nn v)
theorem fea_ok (hE : ∀ e ∈ es, EdOk nn e) (hn : 0 < nn) (hn12 : nn ≤ 12) (hm : es.length ≤ 24) (h0 : Fea es nn) : FeaOk es nn := by
  have hp := pot_of_end hE hn hn12 hm h0
  obtain ⟨l1, l2⟩ := long_end hE hn hn12 hm hn h0
  obtain ⟨m1, m2, m3⟩ := long_pot hE hn hn12 hm hn hp
  have hr : ∀ v, v < nn → (gS (longW es nn 0).1 v).R = true := fun v hv => (l2 0 v 0 hn l1 ((Ar_iff hE).2 (.inr (.inr ⟨rfl, hv, rfl⟩)))).1
  have hlt : ∀ u v b, Ar es nn u v b → v < nn := fun u v b h => (Ar_bd hE hn h).1
  have hz : pS es nn 0 = 0 := by
    obtain ⟨k, hk⟩ := m2 0 hn (hr 0 hn)
    have a1 := wk_pot hp hk
    have a2 := (m3 0 0 0 (wk_nil _ _)).2
    unfold pS
    omega
  refine ⟨hp, hz, fun v hv => ?_, fun v hv => m2 v hv (hr v hv)⟩
  have a1 := hp 0 v 0 ((Ar_iff hE).2 (.inr (.inr ⟨rfl, hv, rfl⟩)))
  obtain ⟨k, hk⟩ := m2 v hv (hr v hv)
  obtain ⟨k', s', h1, h2, h3⟩ := wk_short hp hlt hn k k (Nat.le_refl _) hk
  have a2 := wk_bd hE hn h3
  unfold pS at hz ⊢
  dsimp only at a1
  omega
theorem FeaOk.least (h : FeaOk es nn) {p : Nat → Int} (hp : Pot es nn p) {v : Nat} (hv : v < nn) : p 0 + pS es nn v ≤ p v := by
  obtain ⟨k, hk⟩ := h.w v hv
  exact wk_pot hp hk
/-- The first net asks for nothing that the second one does not ask for. -/
def Sub (es' es : List Edg) (nn : Nat) : Prop := ∀ u v b, Ar es' nn u v b → ∃ b', b ≤ b' ∧ Ar es nn u v b'
theorem Sub.pot (h : Sub es' es nn) {p : Nat → Int} (hp : Pot es nn p) : Pot es' nn p := fun u v b hA => by
  obtain ⟨b', h1, h2⟩ := h u v b hA
  have := hp u v b' h2
  omega
theorem Sub.wk (h : Sub es' es nn) {f : Nat} : ∀ {k v : Nat} {s : Int}, Wk (Ar es' nn) f k v s → ∃ s', s ≤ s' ∧ Wk (Ar es nn) f k v s' := by
  intro k
  induction k with
  | zero =>
    intro v s hw
    obtain ⟨rfl, rfl⟩ := wk_zero hw
    exact ⟨0, Int.le_refl _, wk_nil _ _⟩
  | succ k ih =>
    intro v s hw
    obtain ⟨u, b, s', w1, w2, rfl⟩ := wk_pred hw
    obtain ⟨s1, h1, h2⟩ := ih w1
    obtain ⟨b1, h3, h4⟩ := h _ _ _ w2
    exact ⟨s1 + b1, by omega, wk_snoc h2 h4⟩
theorem sub_mem (hE : ∀ e ∈ es, EdOk nn e) (hE' : ∀ e ∈ es', EdOk nn e) (h : ∀ e ∈ es', ∃ e2 ∈ es, e2.F = e.F ∧ e2.T = e.T ∧ e.L ≤ e2.L ∧ e2.H ≤ e.H) : Sub es' es nn := fun u v b hA => by
  rcases (Ar_iff hE').1 hA with ⟨e, he, a1, a2, rfl⟩ | ⟨e, he, a1, a2, rfl⟩ | ⟨a1, a2, rfl⟩
  · obtain ⟨e2, h1, h2, h3, h4, h5⟩ := h e he
    exact ⟨e2.L, h4, (Ar_iff hE).2 (.inl ⟨e2, h1, by omega, by omega, rfl⟩)⟩
  · obtain ⟨e2, h1, h2, h3, h4, h5⟩ := h e he
    exact ⟨0 - e2.H, by omega, (Ar_iff hE).2 (.inr (.inl ⟨e2, h1, by omega, by omega, rfl⟩))⟩
  · exact ⟨0, Int.le_refl _, (Ar_iff hE).2 (.inr (.inr ⟨a1, a2, rfl⟩))⟩
theorem sub_fea (hE : ∀ e ∈ es, EdOk nn e) (hE' : ∀ e ∈ es', EdOk nn e) (hn : 0 < nn) (hn12 : nn ≤ 12) (hm : es.length ≤ 24) (hm' : es'.length ≤ 24) (hS : Sub es' es nn) (h0 : Fea es nn) : Fea es' nn ∧ ∀ v, v < nn → pS es' nn v ≤ pS es nn v := by
  have ok := fea_ok hE hn hn12 hm h0
  have hp := hS.pot ok.pot
  have h1 : Fea es' nn := (long_pot hE' hn hn12 hm' hn hp).1
  refine ⟨h1, fun v hv => ?_⟩
  have := (fea_ok hE' hn hn12 hm' h1).least hp hv
  have := ok.z
  omega
end
section
variable {names : List ByteArray} {es es' : List Edg}
theorem plan_yes (hN : netF names es = 0) (h0 : Fea es names.length) : ∃ l, planR names es = (l, 0) ∧ l.length = names.length ∧ ∀ v, v < names.length → gT l v = pS es names.length v := by
  refine ⟨(longW es names.length 0).1.map (·.S), ?_, by rw [List.length_map, longW_len], fun v hv => ?_⟩
  · unfold planR
    rw [if_neg (by simp [hN]), if_neg h0]
  · have hl : v < (longW es names.length 0).1.length := by rw [longW_len]; exact hv
    rw [gT_at (by rw [List.length_map]; exact hl), List.getElem_map, ← gS_at hl]
    rfl
theorem plan_none (hN : netF names es = 0) (h0 : ¬ Fea es names.length) : planR names es = ([], 18) := by
  unfold planR
  rw [if_neg (by simp [hN]), if_pos (Classical.not_not.1 h0)]
theorem times_eq (hN : netF names es = 0) {ts : List Int} (hl : ts.length = names.length) (h : ∀ t ∈ ts, 0 ≤ t ∧ t ≤ 10000000) : timesE names es ts = wh (!isPlanB es ts) 24 := by
  have h2 : timesE2 ts = 0 := by
    unfold timesE2
    rw [firstL_zero]
    intro x hx
    obtain ⟨t, ht, rfl⟩ := List.mem_map.1 hx
    rw [wi_eq]
    exact h t ht
  rw [timesE_3 (rt_2 hN hl) h2, ← isPlanB_3]
theorem times_pot {ts : List Int} (h : timesE names es ts = 0) : Pot es names.length (gT ts) ∧ gT ts 0 = 0 := by
  obtain ⟨hN, hl, h2⟩ := timesE_ok h
  have ok := netF_ok hN
  rw [times_eq hN hl h2, wh_zero (by omega), Bool.not_eq_false'] at h
  exact (isPlan_iff ok.e ok.n0 fun k => (bdT_of (B := 10000000) (by omega) h2 k).1).1 h
/-- What a window tells. -/
theorem win_facts (hN : netF names es = 0) (h0 : Fea es names.length) {f : Nat} (hf : f < names.length) :
    (∃ k s, Wk (Ar es names.length) f k 0 s ∧ (∀ k' s', Wk (Ar es names.length) f k' 0 s' → s' ≤ s) ∧ windowR names es f = (pS es names.length f, 0 - s, 0)) ∨ ((∀ k s, ¬ Wk (Ar es names.length) f k 0 s) ∧ windowR names es f = (0, 0, 32)) := by
  have ok := netF_ok hN
  have fo := fea_ok ok.e ok.n0 ok.n ok.m h0
  obtain ⟨_, l2, l3⟩ := long_pot ok.e ok.n0 ok.n ok.m hf fo.pot
  have hW : windowE names es f = 0 := by
    unfold windowE
    rw [hN]
    have a1 : decide ((f : Int) < 0) = false := decide_eq_false (by omega)
    have a2 : decide ((names.length : Int) ≤ f) = false := decide_eq_false (by omega)
    rw [a1, a2]
    rfl
  unfold windowR
  rw [if_neg (by simp [hW]), if_neg h0, Int.toNat_natCast]
  cases hr : (gS (longW es names.length f).1 0).R
  · refine .inr ⟨fun k s hw => ?_, rfl⟩
    have := (l3 k 0 s hw).1
    rw [hr] at this
    cases this
  · obtain ⟨k, hk⟩ := l2 0 ok.n0 hr
    refine .inl ⟨k, _, hk, fun k' s' hw => (l3 k' 0 s' hw).2, ?_⟩
    have hlt : ∀ u v b, Ar es names.length u v b → v < names.length := fun u v b h => (Ar_bd ok.e ok.n0 h).1
    obtain ⟨k', s', h1, h2, h3⟩ := wk_short fo.pot hlt hf k k (Nat.le_refl _) hk
    have a1 := wk_bd ok.e ok.n0 h3
    have a2 := (l3 k' 0 s' h3).2
    have hn12 := ok.n
    have hw64 : IntKind.i64.wrap (0 - (gS (longW es names.length f).1 0).S) = 0 - (gS (longW es names.length f).1 0).S := inR_wrap (by simp only [inR]; omega)
    rw [if_neg (by simp), hw64]
    rfl
theorem win_zero (hN : netF names es = 0) (h0 : Fea es names.length) {f : Nat} (hf : f < names.length) : ∃ a b z, windowR names es f = (a, b, z) ∧ (z = 0 ∨ z = 32) ∧ (z = 0 → a = pS es names.length f ∧ pS es names.length f ≤ b ∧ ∀ p, Pot es names.length p → p 0 = 0 → p f ≤ b) := by
  have ok := netF_ok hN
  have fo := fea_ok ok.e ok.n0 ok.n ok.m h0
  rcases win_facts hN h0 hf with ⟨k, s, h1, h2, h3⟩ | ⟨h1, h2⟩
  · have key : ∀ p, Pot es names.length p → p 0 = 0 → p f ≤ 0 - s := fun p hp hp0 => by
      have := wk_pot hp h1
      omega
    exact ⟨_, _, _, h3, .inl rfl, fun _ => ⟨rfl, key _ fo.pot fo.z, key⟩⟩
  · exact ⟨_, _, _, h2, .inr rfl, fun h => by cases h⟩
theorem win_sub (hN : netF names es = 0) (hN' : netF names es' = 0) (hS : Sub es' es names.length) (h0 : Fea es names.length) {f : Nat} (hf : f < names.length) {a b : Int} (h : windowR names es' f = (a, b, 0)) : ∃ a' b', windowR names es f = (a', b', 0) ∧ a ≤ a' ∧ b' ≤ b := by
  have ok := netF_ok hN
  have ok' := netF_ok hN'
  obtain ⟨h0', hle⟩ := sub_fea ok.e ok'.e ok.n0 ok.n ok.m ok'.m hS h0
  rcases win_facts hN' h0' hf with ⟨k, s, h1, h2, h3⟩ | ⟨h1, h2⟩
  · rw [h3] at h
    simp only [Prod.mk.injEq] at h
    obtain ⟨rfl, rfl, _⟩ := h
    obtain ⟨s', hs', hw⟩ := hS.wk h1
    rcases win_facts hN h0 hf with ⟨k2, s2, g1, g2, g3⟩ | ⟨g1, g2⟩
    · have := g2 _ _ hw
      exact ⟨_, _, g3, hle f hf, by omega⟩
    · exact absurd hw (g1 _ _)
  · rw [h2] at h
    simp at h
/-- Nets on the same nodes. -/
theorem netF_same (hN : netF names es = 0) (hm : es'.length ≤ 24) (hE : ∀ e ∈ es', edgeF names.length e = 0) : netF names es' = 0 := by
  unfold netF at hN ⊢
  rw [firstL_zero] at hN ⊢
  simp only [List.mem_cons, List.mem_nil_iff, or_false, forall_eq_or_imp, forall_eq] at hN ⊢
  refine ⟨hN.1, hN.2.1, ?_, ?_⟩
  · rw [wh_zero (by omega), decide_eq_false_iff_not]
    omega
  · rw [firstL_zero]
    intro x hx
    obtain ⟨e, he, rfl⟩ := List.mem_map.1 hx
    exact hE e he
theorem netF_edge (hN : netF names es = 0) : ∀ e ∈ es, edgeF names.length e = 0 := by
  unfold netF at hN
  rw [firstL_zero] at hN
  simp only [List.mem_cons, List.mem_nil_iff, or_false, forall_eq_or_imp, forall_eq] at hN
  obtain ⟨_, _, _, h4⟩ := hN
  rw [firstL_zero] at h4
  exact fun e he => h4 _ (List.mem_map.2 ⟨e, he, rfl⟩)
end

end Go.Proofs.YtmfophoejjcnlaaGreatDoor
