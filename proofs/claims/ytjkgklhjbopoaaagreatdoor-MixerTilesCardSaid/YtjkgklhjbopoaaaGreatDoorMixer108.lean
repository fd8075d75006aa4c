/- What the law of the tiles calls: contracts as they are used, plain laws. -/
import Derived.Test.YtjkgklhjbopoaaaGreatDoorMixer107
namespace Go.Proofs.YtjkgklhjbopoaaaGreatDoor
open Go.E Go.RowKit Go.Fl
attribute [local irreducible] G C S D Calls
set_option maxRecDepth 100000
set_option linter.all false
set_option maxHeartbeats 8000000
section
variable {A B : Option Addr} {c c2 n : Nat} {w : World} {t x : List Nod} {l : List (Int × Int)} {k : List Int} {e : Int} {v' : List (Int × Int)} {p : Pic}
theorem ac1 (h : soR t = (k, e)) (hl : t.length ≤ 1000000) (hr : Rd w A (t.flatMap ndC)) (hsh : Sh w) : Calls Tryz.prog 43 #[.slice A t.length c] w fun r w' => ∃ v, r = .returned v ∧ Below w.heap.size w w' ∧ Sl2 w w' v k.length (k.map (.int .i64)) (.int .i64 e) := by
  have := aC1 A c t hl w hr hsh
  rw [h] at this
  exact this
theorem ah5 (h : pruR t = (x, e)) (hl : t.length ≤ 1000000) (hr : Rd w A (t.flatMap ndC)) (hsh : Sh w) : Calls Tryz.prog 44 #[.slice A t.length c] w fun r w' => ∃ v, r = .returned v ∧ Below w.heap.size w w' ∧ Sl2 w w' v x.length (x.flatMap ndC) (.int .i64 e) := by
  have := aI6 A c t hl w hr hsh
  rw [h] at this
  exact this
theorem az6 (h : rgR t l = (v', e)) (hn : l.length = n) (hl : t.length ≤ 1000000) (hl2 : n ≤ 1000000) (hr : Rd w A (t.flatMap ndC)) (hr2 : Rd w B (l.flatMap ivC)) (hsh : Sh w) : Calls Tryz.prog 45 #[.slice A t.length c, .slice B n c2] w fun r w' => ∃ v, r = .returned v ∧ Below w.heap.size w w' ∧ Sl2 w w' v v'.length (v'.flatMap ivC) (.int .i64 e) := by
  subst hn
  have := al5 A c t hl B c2 l hl2 w hr hr2 hsh
  rw [h] at this
  exact this
theorem aO7 (hl : t.length ≤ 1000000) (hr : Rd w A (t.flatMap ndC)) (hr2 : Rd w B (t.flatMap ndC)) : Calls Tryz.prog 36 #[.slice A t.length c, .slice B t.length c2] w fun r w' => r = .returned (.bool true) ∧ Below w.heap.size w w' := by
  have := be1 A c t hl B c2 t hl w hr hr2
  rw [decide_eq_true rfl] at this
  exact this
theorem ag4 (hs : p.s.length ≤ 1000000) (hp : PicOk p) (hr : Rd w A (p.s.map (.float .f32))) : Calls Tryz.prog 85 #[.agg #[.string p.nm, .int .i64 p.w, .int .i64 p.h, .slice A p.s.length c]] w fun r w' => ∃ v, r = .returned v ∧ Below w.heap.size w w' ∧ Sl w w' v p.s.length ((lvs p).map (.int .i64)) := by
  refine (aI5 p A c hs hp.s w hr).mono ?_
  rintro r w' ⟨v, h1, h2, h3⟩
  rw [bm0] at h3
  exact ⟨v, h1, h2, ae7 h3⟩
end
section
variable {t : List Nod} {l : List PV'} {W H xa xb ya yb : Nat}
def HfD (a b W : Nat) : Prop := (a = 0 ∧ b < W) ∨ (a < W ∧ b = W)
structure Kp (P : Prop) : Prop where
  h : P
theorem av4 {p : Pic} (hp : PicOk p) : ∀ x ∈ p.s, Fin32 x := fun x hx => (hp.s x hx).fin
theorem bk3 {l : List (Int × Int)} {k : Nat} {z : Int} (e : z = k) (h : k < l.length) (o : Nat) {v : Value} (hv : (ivC (gR l k))[o]? = some v) : ∀ (j : Nat) (u : Value), ([v] : List Value)[j]? = some u → (l.flatMap ivC)[(z.toNat * 2 + o) + j]? = some u := by
  subst e
  have e : gR l (k : Int) = l[k] := by unfold gR; simp [h]
  rw [e] at hv
  have ho : o < 2 := by have := (List.getElem?_eq_some_iff.1 hv).1; simpa [ivC] using this
  have e2 : (l.flatMap ivC)[k * 2 + o]? = some v := by
    have e3 : l.flatMap ivC = (l.take k).flatMap ivC ++ (ivC l[k] ++ (l.drop (k + 1)).flatMap ivC) := by
      conv => lhs; rw [← List.take_append_drop k l, List.drop_eq_getElem_cons h]
      rw [List.flatMap_append, List.flatMap_cons]
    have e4 : ((l.take k).flatMap ivC).length = k * 2 := by rw [K9, List.length_take, Nat.min_eq_left (by omega)]
    rw [e3, List.getElem?_append_right (by omega), e4, Nat.add_sub_cancel_left, List.getElem?_append_left (by simpa [ivC] using ho)]
    exact hv
  intro j u hu
  match j with
  | 0 =>
    simp only [List.getElem?_cons_zero, Option.some.injEq] at hu
    subst hu
    rw [Int.toNat_natCast, Nat.add_zero]
    exact e2
  | j + 1 => simp at hu
theorem bk1 {a b W : Nat} (h : HfD a b W) (h0 : b = 0) : spE a b W = 14 := by
  unfold spE HfD at *
  have : decide ((b : Int) ≤ (a : Int)) = true := decide_eq_true (by omega)
  rw [this, Bool.or_true, Bool.true_or]
  rfl
theorem T5 {a b W : Nat} (h : HfD a b W) (h0 : 0 < b) : spE a b W = 0 ∧ a < b ∧ b ≤ W := by
  unfold HfD at h
  refine ⟨?_, by omega, by omega⟩
  unfold spE
  rw [decide_eq_false (show ¬ (a : Int) < 0 by omega), decide_eq_false (show ¬ (b : Int) ≤ (a : Int) by omega), decide_eq_false (show ¬ (W : Int) < (b : Int) by omega)]
  rfl
theorem bu4 (ht : TrOk t) (hp : PcOk t l) (hW : (gQ l 0).p.w = (W : Int)) (hH : (gQ l 0).p.h = (H : Int)) (hx : HfD xa xb W) (hy : HfD ya yb H) (h0 : xb = 0 ∨ yb = 0) : tlR t l xa xb ya yb = (zP, 14) := by
  have hE : tlE l xa xb ya yb = 14 := by
    unfold tlE
    rw [hW, hH]
    by_cases h1 : xb = 0
    · rw [bk1 hx h1]
      rfl
    · rw [(T5 hx (by omega)).1, bk1 hy (by omega)]
      rfl
  unfold tlR
  rw [if_pos (G2.2 ht), if_pos (ab6.2 hp), hE]
  rfl
theorem aW1 (ht : TrOk t) (hp : PcOk t l) (hW : (gQ l 0).p.w = (W : Int)) (hH : (gQ l 0).p.h = (H : Int)) (h1 : xa < xb) (h2 : xb ≤ W) (h3 : ya < yb) (h4 : yb ≤ H) : PicOk (tiP t l W xa xb ya yb) := by
  have h0 := hp.s _ (B3 (show 0 < l.length by have := hp.n; omega))
  have hw := h0.w
  have hh := h0.h
  refine ⟨h0.nm, by show 1 ≤ (xb : Int) - (xa : Int) ∧ (xb : Int) - (xa : Int) ≤ 64; omega, by show 1 ≤ (yb : Int) - (ya : Int) ∧ (yb : Int) - (ya : Int) ≤ 64; omega, ?_, ?_⟩
  · have e1 : (tiP t l W xa xb ya yb).s.length = (yb - ya) * (xb - xa) := by unfold tiP; rw [bq8, aV3]
    show ((tiP t l W xa xb ya yb).s.length : Int) = ((xb : Int) - (xa : Int)) * ((yb : Int) - (ya : Int))
    rw [e1, Int.natCast_mul, Int.mul_comm, Int.ofNat_sub (by omega), Int.ofNat_sub (by omega)]
  · intro b hb
    obtain ⟨n, hn, rfl⟩ := List.mem_map.1 hb
    exact ba8 (an2.1 (aU8 ht hp hW hH h2 h4) n hn)
theorem bc7 (h1 : xa < xb) (h2 : xb ≤ W) (h4 : yb ≤ H) : crL ((tlL t l W 0 W 0 H).map smp) W xa ya (xb - xa) (yb - ya) = (tlL t l W xa xb ya yb).map smp := by
  obtain ⟨cw, hcw⟩ : ∃ c, xb - xa = c := ⟨_, rfl⟩
  obtain ⟨ch, hch⟩ : ∃ c, yb - ya = c := ⟨_, rfl⟩
  have e1 : (tlL t l W xa xb ya yb).map smp = (List.range (cw * ch)).map fun j => smp (plF t l W (xa + j % cw) (ya + j / cw)) := by
    unfold tlL
    rw [hcw, hch, aN9, as5 _ (by omega)]
  rw [e1, hcw, hch]
  unfold crL
  refine List.map_congr_left fun j hj => ?_
  have hj := List.mem_range.1 hj
  have hm : j % cw < cw := Nat.mod_lt _ (by omega)
  have hd : j / cw < ch := by rw [Nat.div_lt_iff_lt_mul (by omega), Nat.mul_comm]; exact hj
  have h := bz4 (t := t) (l := l) (W := W) (H := H) (x := xa + j % cw) (y := ya + j / cw) (by omega) (by clear hm e1; generalize j / cw = J at hd ⊢; omega)
  unfold crF' gB
  rw [List.getD_eq_getElem?_getD, List.getElem?_map, h]
  rfl
theorem bs8 (ht : TrOk t) (hp : PcOk t l) (hW : (gQ l 0).p.w = (W : Int)) (hH : (gQ l 0).p.h = (H : Int)) (hx : HfD xa xb W) (hy : HfD ya yb H) (h1 : 0 < xb) (h2 : 0 < yb) {s1 : List Nat} (hs1 : (tlL t l W 0 W 0 H).map smp = s1) : ∃ s, crL s1 W xa ya (xb - xa) (yb - ya) = s ∧ tlR t l xa xb ya yb = (⟨(gQ l 0).p.nm, ((xb - xa : Nat) : Int), ((yb - ya : Nat) : Int), s⟩, 0) ∧ PicOk ⟨(gQ l 0).p.nm, ((xb - xa : Nat) : Int), ((yb - ya : Nat) : Int), s⟩ := by
  obtain ⟨e1, g1, g2⟩ := T5 hx h1
  obtain ⟨e2, g3, g4⟩ := T5 hy h2
  refine ⟨_, rfl, ?_⟩
  rw [← hs1, bc7 g1 g2 g4]
  have hE : tlE l xa xb ya yb = 0 := by
    unfold tlE
    rw [hW, hH, e1, e2]
    rfl
  have e3 : tiP t l W xa xb ya yb = ⟨(gQ l 0).p.nm, ((xb - xa : Nat) : Int), ((yb - ya : Nat) : Int), (tlL t l W xa xb ya yb).map smp⟩ := by
    unfold tiP tiH wiP
    dsimp only
    rw [Int.ofNat_sub (by omega), Int.ofNat_sub (by omega)]
  refine ⟨?_, by rw [← e3]; exact aW1 ht hp hW hH g1 g2 g3 g4⟩
  unfold tlR
  rw [if_pos (G2.2 ht), if_pos (ab6.2 hp), if_pos hE, hW, ← e3]
  rfl
theorem bz3 {n : Nat} (hn : W * H = n) (hx : HfD xa xb W) (hy : HfD ya yb H) (h1 : 0 < xb) (h2 : 0 < yb) {x y : Nat} (h3 : x < xb - xa) (h4 : y < yb - ya) : (ya + y) * W + (xa + x) < n := by
  obtain ⟨_, g1, g2⟩ := T5 hx h1
  obtain ⟨_, g3, g4⟩ := T5 hy h2
  exact aX3 hn.symm (by omega) (by omega)
theorem br8 (hp : PcOk t l) : PcOk (prF t) l := ⟨hp.n, hp.s, hp.sz, fun k hk => by
  refine hp.src k ?_
  unfold scL at hk ⊢
  rw [List.mem_filter] at hk ⊢
  exact ⟨hk.1, aX9 hk.2⟩⟩
theorem bo9 (t : List Nod) : (prF t).length ≤ t.length := by
  rw [O0]
  exact aq7 _
theorem bp3 (ht : TrOk t) (hp : PcOk t l) (hW : (gQ l 0).p.w = (W : Int)) (hH : (gQ l 0).p.h = (H : Int)) : cmR' t l = (⟨(gQ l 0).p.nm, (W : Int), (H : Int), (tlL t l W 0 W 0 H).map smp⟩, 0) ∧ cmR' (prF t) l = (⟨(gQ l 0).p.nm, (W : Int), (H : Int), (tlL t l W 0 W 0 H).map smp⟩, 0) := by
  have e : ∀ t, tiP t l W 0 W 0 H = ⟨(gQ l 0).p.nm, (W : Int), (H : Int), (tlL t l W 0 W 0 H).map smp⟩ := fun t => by
    unfold tiP tiH wiP
    dsimp only
    rw [show (W : Int) - ((0 : Nat) : Int) = W by omega, show (H : Int) - ((0 : Nat) : Int) = H by omega]
  constructor
  · unfold cmR'
    rw [if_pos (G2.2 ht), if_pos (ab6.2 hp), hW, hH]
    exact congrArg (·, 0) (e t)
  · unfold cmR'
    rw [if_pos (G2.2 (ak7 ht)), if_pos (ab6.2 (br8 hp)), hW, hH, ← bz5 ht]
    exact congrArg (·, 0) (e (prF t))
theorem bq1 (ht : TrOk t) : (scI (prF t)).length ≤ (scI t).length := by
  unfold scI
  rw [List.length_map, List.length_map]
  exact aO6
def loL (l : List Int) : Int := l.foldl min 16384
def hiL (l : List Int) : Int := l.foldl max (-16384)
theorem az5 : ∀ (l : List Int) (a : Int), l.foldl min a ≤ a ∧ ∀ x ∈ l, l.foldl min a ≤ x
  | [], a => ⟨Int.le_refl _, fun x hx => by cases hx⟩
  | y :: l, a => by
    obtain ⟨h1, h2⟩ := az5 l (min a y)
    refine ⟨by simp only [List.foldl_cons]; omega, fun x hx => ?_⟩
    rcases List.mem_cons.1 hx with rfl | hx
    · simp only [List.foldl_cons]; omega
    · exact h2 x hx
theorem aA2 : ∀ (l : List Int) (a : Int), a ≤ l.foldl max a ∧ ∀ x ∈ l, x ≤ l.foldl max a
  | [], a => ⟨Int.le_refl _, fun x hx => by cases hx⟩
  | y :: l, a => by
    obtain ⟨h1, h2⟩ := aA2 l (max a y)
    refine ⟨by simp only [List.foldl_cons]; omega, fun x hx => ?_⟩
    rcases List.mem_cons.1 hx with rfl | hx
    · simp only [List.foldl_cons]; omega
    · exact h2 x hx
theorem aX7 {b : Int} : ∀ (l : List Int) (a : Int), b ≤ a → (∀ x ∈ l, b ≤ x) → b ≤ l.foldl min a
  | [], a, h, _ => h
  | y :: l, a, h, hl => aX7 l (min a y) (by have := hl y (List.mem_cons_self ..); omega) fun x hx => hl x (List.mem_cons_of_mem _ hx)
theorem aN6 {b : Int} : ∀ (l : List Int) (a : Int), a ≤ b → (∀ x ∈ l, x ≤ b) → l.foldl max a ≤ b
  | [], a, h, _ => h
  | y :: l, a, h, hl => aN6 l (max a y) (by have := hl y (List.mem_cons_self ..); omega) fun x hx => hl x (List.mem_cons_of_mem _ hx)
theorem ak8 (f : Int → Int → Int) (a : Int) {l : List Int} {k : Nat} (h : k < l.length) : (l.take (k + 1)).foldl f a = f ((l.take k).foldl f a) (gI l k) := by
  rw [List.take_succ_eq_append_getElem h, List.foldl_append, F5 h]
  rfl
def rnP (p : Pic) : Int × Int := (loL (lvs p), hiL (lvs p))
def rnL (l : List PV') : List (Int × Int) := l.map fun k => rnP k.p
theorem Y5 : (rnL l).length = l.length := List.length_map _
theorem aY6 {p : Pic} {j : Nat} (hj : j < p.s.length) : (rnP p).1 ≤ lvl (gB p.s j) ∧ lvl (gB p.s j) ≤ (rnP p).2 := by
  have hm : gI (lvs p) j ∈ lvs p := by
    rw [F5 (by rw [w6]; exact hj)]
    exact List.getElem_mem _
  rw [aQ9 hj] at hm
  exact ⟨(az5 _ _).2 _ hm, (aA2 _ _).2 _ hm⟩
theorem bn2 {p : Pic} (hp : PicOk p) : ivE (rnP p) = 0 := by
  have h0 := (F8 hp).2
  have hb := aq9 hp
  have h1 := aY6 h0
  have a1 : -16384 ≤ (rnP p).1 := aX7 _ _ (by omega) fun x hx => (hb x hx).1
  have a2 : (rnP p).1 ≤ 16384 := (az5 _ _).1
  have a3 : -16384 ≤ (rnP p).2 := (aA2 _ _).1
  have a4 : (rnP p).2 ≤ 16384 := aN6 _ _ (by omega) fun x hx => (hb x hx).2
  unfold ivE lvE
  rw [(D1 _ _ _).2 ⟨a1, a2⟩, (D1 _ _ _).2 ⟨a3, a4⟩, decide_eq_false (show ¬ (rnP p).2 < (rnP p).1 by omega)]
  rfl
theorem bx6 (ht : TrOk t) (hp : PcOk t l) : rgR t (rnL l) = (rgN t (gR (rnL l)) t.length, 0) := by
  have h1 : rgE1 t (rnL l) = 0 := by
    unfold rgE1
    rw [G2.2 ht, Y5, decide_eq_false (show ¬ (8 : Int) < l.length by have := hp.n; omega)]
    rfl
  have h2 : firstL ((rnL l).map ivE) = 0 := by
    rw [p9]
    intro x hx
    obtain ⟨y, hy, rfl⟩ := List.mem_map.1 hx
    obtain ⟨k, hk, rfl⟩ := List.mem_map.1 hy
    exact bn2 (hp.s k hk)
  have h3 : (scI t).any (gtB (rnL l).length) = false := by
    rw [aB1, List.any_eq_false]
    intro k hk
    have := hp.src k hk
    rw [Y5]
    simp
    omega
  unfold rgR
  rw [if_pos h1, if_pos h2, h3]
  rfl
theorem bv7 (n : Int) : gR (rnL l) n = rnP (gQ l n.toNat).p ∨ (gR (rnL l) n = (0, 0) ∧ gQ l n.toNat = ⟨zP, none, 0⟩) := by
  unfold gR rnL gQ
  rw [List.getD_eq_getElem?_getD, List.getD_eq_getElem?_getD, List.getElem?_map]
  cases h : l[n.toNat]? with
  | none => exact .inr ⟨rfl, rfl⟩
  | some k => exact .inl rfl
theorem bw4 (ht : TrOk t) (hp : PcOk t l) (hW : (gQ l 0).p.w = (W : Int)) (hH : (gQ l 0).p.h = (H : Int)) : ∀ z ∈ tlL t l W 0 W 0 H, (gR (rgN t (gR (rnL l)) t.length) ((t.length - 1 : Nat) : Int)).1 ≤ z ∧ z ≤ (gR (rgN t (gR (rnL l)) t.length) ((t.length - 1 : Nat) : Int)).2 := by
  refine aT8 (p := fun z => (gR (rgN t (gR (rnL l)) t.length) ((t.length - 1 : Nat) : Int)).1 ≤ z ∧ z ≤ (gR (rgN t (gR (rnL l)) t.length) ((t.length - 1 : Nat) : Int)).2) fun x y hx hy => ?_
  unfold plF
  have h0 := ht.n.1
  refine aU6 ht (fun n => ?_) (Nat.le_refl _) _ ⟨by omega, by omega⟩
  rcases bv7 (l := l) n with h | ⟨h, h2⟩
  · rw [h]
    unfold srF
    by_cases hn : n.toNat < l.length
    · have hk := B3 hn
      have hpo := hp.s _ hk
      have hsz := hp.sz _ hk
      refine aY6 ?_
      have hl := hpo.n
      rw [hsz.1, hsz.2, hW, hH, ← Int.natCast_mul] at hl
      exact aX3 (Int.ofNat.inj hl) (by omega) (by omega)
    · have : gQ l n.toNat = ⟨zP, none, 0⟩ := by
        unfold gQ
        rw [List.getD_eq_getElem?_getD, List.getElem?_eq_none (by omega)]
        rfl
      rw [this]
      have e : lvl (gB (zP).s ((0 + y) * W + (0 + x))) = 0 := by
        show lvl (gB [] _) = 0
        unfold gB
        simp
        decide +kernel
      show (rnP zP).1 ≤ lvl (gB (zP).s _) ∧ lvl (gB (zP).s _) ≤ (rnP zP).2
      rw [e]
      have hz : gR (rnL l) n = (0, 0) := by
        unfold gR rnL
        rw [List.getD_eq_getElem?_getD, List.getElem?_map, List.getElem?_eq_none (by omega)]
        rfl
      rw [this] at h
      rw [← h, hz]
      exact ⟨Int.le_refl _, Int.le_refl _⟩
  · rw [h]
    unfold srF
    rw [h2]
    have e : lvl (gB (zP).s ((0 + y) * W + (0 + x))) = 0 := by
      show lvl (gB [] _) = 0
      unfold gB
      simp
      decide +kernel
    show 0 ≤ lvl (gB (zP).s _) ∧ lvl (gB (zP).s _) ≤ 0
    rw [e]
    exact ⟨Int.le_refl _, Int.le_refl _⟩
end
end Go.Proofs.YtjkgklhjbopoaaaGreatDoor
