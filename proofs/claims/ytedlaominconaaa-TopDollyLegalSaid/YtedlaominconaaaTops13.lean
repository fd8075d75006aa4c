/- A line of colours: its signal, its violations, in the words of the law. -/
import Derived.Test.YtedlaominconaaaTops12
import Derived.Test.YtedlaominconaaaTops11
namespace Go.Proofs.Ytedlaominconaaa
open Go.E Go.RowKit Go.Fl
attribute [local irreducible] G C S D Calls
set_option maxRecDepth 100000
set_option linter.unusedSimpArgs false
set_option linter.unusedVariables false

/-- Colours that are small. -/
def CsOk (cs : List Col) : Prop := ∀ x ∈ cs, (-500 ≤ x.1 ∧ x.1 ≤ 500) ∧ (-500 ≤ x.2.1 ∧ x.2.1 ≤ 500) ∧ (-500 ≤ x.2.2 ∧ x.2.2 ≤ 500)
theorem CsOk.y {cs : List Col} (h : CsOk cs) : ∀ x ∈ lmL cs, -500 ≤ x ∧ x ≤ 500 := fun x hx => by
  obtain ⟨c, hc, hx⟩ := List.mem_flatMap.1 hx
  have := (h c hc).1
  simp only [List.mem_cons, List.mem_nil_iff, or_false] at hx
  rcases hx with rfl | rfl | rfl | rfl <;> exact this
theorem CsOk.u {cs : List Col} (h : CsOk cs) : ∀ x ∈ uL cs, -500 ≤ x ∧ x ≤ 500 := fun x hx => by
  obtain ⟨c, hc, rfl⟩ := List.mem_map.1 hx
  exact (h c hc).2.1
theorem CsOk.v {cs : List Col} (h : CsOk cs) : ∀ x ∈ vL cs, -500 ≤ x ∧ x ≤ 500 := fun x hx => by
  obtain ⟨c, hc, rfl⟩ := List.mem_map.1 hx
  exact (h c hc).2.2
theorem wide {l : List Int} (h : ∀ x ∈ l, -500 ≤ x ∧ x ≤ 500) : ∀ x ∈ l, -16384 ≤ x ∧ x ≤ 16384 := fun x hx => by have := h x hx; omega
theorem CsOk.pt {cs : List Col} (h : CsOk cs) (hl : cs.length ≤ 64) : PtOk ((lmL cs).map smp) ((uL cs).map smp) ((vL cs).map smp) :=
  ⟨by simp [lmL_len, uL], by simp [uL, vL], by simpa [uL] using hl, smp_all (wide h.y), smp_all (wide h.u), smp_all (wide h.v)⟩
/-- The levels of a line. -/
def lnI (s : Int) (cs : List Col) : List Int := enI s (lmL cs) (uL cs) (vL cs)
theorem lnI_bd {s : Int} (hs : s = 1 ∨ s = -1) {cs : List Col} (h : CsOk cs) : ∀ x ∈ lnI s cs, -1000 ≤ x ∧ x ≤ 1000 := fun x hx => by
  obtain ⟨k, hk, rfl⟩ := List.mem_map.1 hx
  have hk := List.mem_range.1 hk
  have h1 := h.y _ (gI_mem hk)
  have h2 := car_bd (B := 500) hs (by simp [uL, vL]) h.u h.v _ (gI_mem (l := carL s (uL cs) (vL cs) (uL cs).length) (k := k) (by rw [carL_len]; rw [lmL_len] at hk; simpa [uL] using hk))
  omega
theorem sgL_12 {z s : Int} (hs : sgL z = s) (hz : z = 0 ∨ z = 1) : s = 1 ∨ s = -1 := by
  rw [← hs]
  rcases hz with rfl | rfl
  · exact .inl rfl
  · exact .inr rfl
theorem lnI_len (s : Int) (cs : List Col) : (lnI s cs).length = 4 * cs.length := by unfold lnI; rw [enI_len, lmL_len]
theorem dEnc_as {A B C : Option Addr} {c c2 c3 n m : Nat} {cs : List Col} {s z : Int} (hn : cs.length = n) (hm : 4 * n = m) (hl : n ≤ 64) (hc : CsOk cs) (hs : sgL z = s) (hz : z = 0 ∨ z = 1) (w : World) (hr : Rd w A (flV (lmL cs))) (hr2 : Rd w B (flV (uL cs))) (hr3 : Rd w C (flV (vL cs))) :
    Calls Try.prog 6 #[.agg #[.slice A m c, .slice B n c2, .slice C n c3], .int .i64 z] w fun r w' => ∃ v, r = .returned v ∧ Below w.heap.size w w' ∧ Sl2 w w' v m (flV (lnI s cs)) (.int .i64 0) := by
  subst hn hm hs
  have hb : ∀ x ∈ enI (sgL z) (((lmL cs).map smp).map lvl) (((uL cs).map smp).map lvl) (((vL cs).map smp).map lvl), -16384 ≤ x ∧ x ≤ 16384 := by
    rw [lvl_smp (wide hc.y), lvl_smp (wide hc.u), lvl_smp (wide hc.v)]
    intro x hx
    have := lnI_bd (sgL_12 rfl hz) hc x hx
    omega
  have h := dEncoded_c A B C c c2 c3 _ _ _ (hc.pt hl) z hz hb w hr hr2 hr3
  rw [lvl_smp (wide hc.y), lvl_smp (wide hc.u), lvl_smp (wide hc.v)] at h
  simp only [List.length_map, lmL_len, uL, vL] at h
  exact h
/-! ### Violations -/
abbrev rowP (nm : ByteArray) (l : List Int) : Pic := ⟨nm, l.length, 1, l.map smp⟩
def yL (l : List Col) : List Int := l.map (·.1)
theorem CsOk.yy {cs : List Col} (h : CsOk cs) : ∀ x ∈ yL cs, -500 ≤ x ∧ x ≤ 500 := fun x hx => by
  obtain ⟨c, hc, rfl⟩ := List.mem_map.1 hx
  exact (h c hc).1
theorem row_ok {nm : ByteArray} {l : List Int} (hn : isName nm = true) (h0 : 0 < l.length) (h6 : l.length ≤ 64) (hb : ∀ x ∈ l, -500 ≤ x ∧ x ≤ 500) : PicOk (rowP nm l) :=
  ⟨hn, by show 1 ≤ (l.length : Int) ∧ (l.length : Int) ≤ 64; omega, by show (1:Int) ≤ 1 ∧ (1:Int) ≤ 64; omega, by simp, smp_all (wide hb)⟩
theorem dpl_ok {lo hi : Int} (hl : -1000 ≤ lo ∧ lo ≤ 1000) (hh : -1000 ≤ hi ∧ hi ≤ 1000) : gmE (dpl lo hi) = 0 := by
  rw [gmE_ok]
  refine ⟨by simp [dpl], fun p hp => ?_⟩
  simp only [dpl, List.mem_cons, List.mem_nil_iff, or_false] at hp
  rcases hp with rfl | rfl | rfl | rfl | rfl | rfl | rfl | rfl <;> exact ⟨by dsimp only; omega, by dsimp only; omega, by dsimp only; omega, by dsimp only; omega⟩
/-- The violations of a line. -/
def viC (lo hi : Int) (cs : List Col) (n : Nat) : List Pt := ((List.range n).filter fun i => decide (fbF (dpl lo hi) (gC cs i) ≠ -1)).map fun (i : Nat) => ((i : Int), fbF (dpl lo hi) (gC cs i))
theorem viF_C {lo hi : Int} {a b c : ByteArray} {cs : List Col} (h : CsOk cs) : viF (dpl lo hi) (rowP a (yL cs)) (rowP b (uL cs)) (rowP c (vL cs)) cs.length = viC lo hi cs cs.length := by
  have e : ∀ i ∈ List.range cs.length, plA (rowP a (yL cs)) (rowP b (uL cs)) (rowP c (vL cs)) i = gC cs i := fun i hi => by
    have hi := List.mem_range.1 hi
    have key : ∀ (f : Col → Int), (∀ x ∈ cs, -500 ≤ f x ∧ f x ≤ 500) → lvl (gB ((cs.map f).map smp) i) = f (gC cs i) := fun f hf => by
      rw [gB_at (by simpa using hi), gC_at hi]
      simp only [List.getElem_map]
      have := hf _ (List.getElem_mem hi)
      exact smp_lvl (by omega)
    show (lvl (gB ((cs.map (·.1)).map smp) i), lvl (gB ((cs.map (·.2.1)).map smp) i), lvl (gB ((cs.map (·.2.2)).map smp) i)) = gC cs i
    rw [key (·.1) (fun x hx => (h x hx).1), key (·.2.1) (fun x hx => (h x hx).2.1), key (·.2.2) (fun x hx => (h x hx).2.2)]
  unfold viF viC
  rw [List.filter_congr (q := fun i => decide (fbF (dpl lo hi) (gC cs i) ≠ -1)) (fun i hi => by rw [e i hi])]
  refine List.map_congr_left fun i hi => ?_
  rw [e i (List.mem_filter.1 hi).1]
theorem dViol_as {A : Option Addr} {c cx cy cz n k : Nat} {ax ay az : Addr} {cs : List Col} {lo hi : Int} {a b d : ByteArray} {vs : List Pt} (ha : isName a = true) (hb : isName b = true) (hd : isName d = true) (hn : cs.length = n) (h0 : 0 < n) (h6 : n ≤ 64) (hc : CsOk cs) (hl : -1000 ≤ lo ∧ lo ≤ 1000) (hh : -1000 ≤ hi ∧ hi ≤ 1000) (hv : viC lo hi cs n = vs) (hk : vs.length = k) (w : World) (hr : Rd w A ((dpl lo hi).flatMap plC)) (hrx : Rd w (some ax) (flV (yL cs))) (hry : Rd w (some ay) (flV (uL cs))) (hrz : Rd w (some az) (flV (vL cs))) :
    Calls Try.prog 8 #[.slice A 8 c, .agg #[.string a, .int .i64 n, .int .i64 1, .slice (some ax) n cx, .string b, .int .i64 n, .int .i64 1, .slice (some ay) n cy, .string d, .int .i64 n, .int .i64 1, .slice (some az) n cz]] w fun r w' => ∃ v, r = .returned v ∧ Below w.heap.size w w' ∧ Sl2 w w' v k (vs.flatMap ptC) (.int .i64 0) := by
  subst hn hk hv
  have hyl : (yL cs).length = cs.length := by simp [yL]
  have hul : (uL cs).length = cs.length := by simp [uL]
  have hvl : (vL cs).length = cs.length := by simp [vL]
  have hth : ThOk (rowP a (yL cs)) (rowP b (uL cs)) (rowP d (vL cs)) := ⟨row_ok ha (by omega) (by omega) hc.yy, row_ok hb (by omega) (by omega) hc.u, row_ok hd (by omega) (by omega) hc.v, by simp [rowP, hyl, hul, hvl], by simp [rowP]⟩
  have hE : viE (dpl lo hi) (rowP a (yL cs)) (rowP b (uL cs)) (rowP d (vL cs)) = 0 := by
    unfold viE
    rw [firstL_zero]
    intro x hx
    simp only [List.mem_cons, List.mem_nil_iff, or_false] at hx
    rcases hx with rfl | rfl
    · exact dpl_ok hl hh
    · exact th_ok.2 hth
  have hz : ∀ l : List Int, l.length = cs.length → (l.map smp).length ≤ 1000000 := fun l h => by rw [List.length_map]; omega
  have h := Violations_c A c (dpl lo hi) (by simp [dpl]) (rowP a (yL cs)) (rowP b (uL cs)) (rowP d (vL cs)) ax ay az cx cy cz (hz _ hyl) (hz _ hul) (hz _ hvl) hE w hr hrx hry hrz
  have e8 : (dpl lo hi).length = 8 := rfl
  simp only [rowP, List.length_map, hyl, hul, hvl, e8] at h
  have e := viF_C (lo := lo) (hi := hi) (a := a) (b := b) (c := d) hc
  simp only [rowP, hyl, hul, hvl] at e
  rw [e] at h
  exact h

end Go.Proofs.Ytedlaominconaaa
