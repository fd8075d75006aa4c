/- A loop over an iterator whose rounds turn an object of the call's own. -/
import Derived.Test.YtedlaominconaaaEngAD
namespace Go.E
set_option linter.unusedSimpArgs false
set_option linter.unusedVariables false
open Go.RowKit

section
variable {P : Program} {B : Nat} {w0 : World} {Ps : Past} {σ σ' : St}
/-- The blocks that are none of the state's own, nor the object's. -/
def Sk (W : World) (σ : St) (k : Nat) (b : Nat) : Prop := Sb W σ b ∧ b ≠ k

theorem HW.sk {W W0 : World} {k : Nat} (hw : HW B w0 (Po W0 k :: Ps) σ W) : HW B w0 (Po W k :: (W, Sk W σ k) :: Ps) σ W := by
  have hn := hw.now
  refine ⟨hw.below, hw.bsize, hw.nodup, hw.box, fun p hp b hb => ?_, fun r hr => ?_, hw.apart, fun p hp => ?_⟩
  · rw [List.mem_cons, List.mem_cons] at hp
    rcases hp with rfl | rfl | hp
    · exact hn.past (Po W k) (List.mem_cons_self ..) b hb
    · exact ⟨⟨hb.1.1, rfl⟩, hb.1.2.1⟩
    · exact hw.past p (List.mem_cons_of_mem _ hp) b hb
  · obtain ⟨h1, h2⟩ := hn.row r hr
    refine ⟨h1, fun g hg => ⟨(h2 g hg).1, fun p hp => ?_⟩⟩
    rw [List.mem_cons, List.mem_cons] at hp
    rcases hp with rfl | rfl | hp
    · exact (h2 g hg).2 (Po W k) (List.mem_cons_self ..)
    · exact fun hb => hb.1.2.2 r hr hg
    · exact (h2 g hg).2 p (List.mem_cons_of_mem _ hp)
  · rw [List.mem_cons, List.mem_cons] at hp
    rcases hp with rfl | rfl | hp
    · exact Nat.le_refl _
    · exact Nat.le_refl _
    · exact hw.old p (List.mem_cons_of_mem _ hp)

/-- The second past is left out. -/
theorem HW.skip {p q : World × (Nat → Prop)} {W : World} (hw : HW B w0 (p :: q :: Ps) σ W) : HW B w0 (p :: Ps) σ W := by
  have hm : ∀ {r}, r ∈ p :: Ps → r ∈ p :: q :: Ps := fun {r} h => by rcases List.mem_cons.1 h with rfl | h <;> simp [*]
  exact ⟨hw.below, hw.bsize, hw.nodup, hw.box, fun r hr => hw.past r (hm hr), fun r hr => ⟨(hw.row r hr).1, fun g hg => ⟨((hw.row r hr).2 g hg).1, fun q hq => ((hw.row r hr).2 g hg).2 q (hm hq)⟩⟩, hw.apart, fun q hq => hw.old q (hm hq)⟩

theorem HW.keepsO {W W' Wk Wj : World} {k L : Nat} (hkL : k < L) (h0 : HW B w0 (Po Wj k :: Ps) σ W) (hw : HW B w0 (Po Wk k :: (W, Sk W σ k) :: Ps) σ' W') : KeepsFrom L W W' ∧ KpS (fun b => ∃ p ∈ Ps, p.2 b) W W' := by
  have hsz : W.heap.size ≤ W'.heap.size := hw.old (W, Sk W σ k) (by simp)
  refine ⟨⟨hsz, fun n o hL hk ho => ?_⟩, hsz, fun b ⟨p, hp, hb⟩ _ => ?_⟩
  · have hs : Sk W σ k n := by
      refine ⟨⟨(Array.getElem?_eq_some_iff.1 hk).1, fun x hx e => ?_, fun r hr e => ?_⟩, by omega⟩
      · have := (h0.box x hx).2
        rw [e, hk] at this
        cases this
        cases ho
      · rcases (h0.row r hr).1.2 with ⟨hn, _⟩ | ⟨g', cap, cur, hv, _, hh, _⟩
        · rw [hn] at e
          simp [Value.ownBlock] at e
        · rw [hv] at e
          have hgg : g' = n := by simpa [Value.ownBlock] using e
          subst hgg
          rw [hk] at hh
          cases hh
          cases ho
    exact (hw.past (W, Sk W σ k) (by simp) n hs).1.2.trans hk
  · exact ((hw.past p (by simp [hp]) b hb).1.2).trans ((h0.past p (by simp [hp]) b hb).1.2.symm)
end

section loop
variable {X : Cx} {Ps : Past} {σ : St} {Q : Exit → Act → World → Prop} {α : Type}

/-- How a round's body may be left. -/
def postEO (X : Cx) (Ps : Past) (k : Nat) (Φ : List α → World → Prop) (I : List α → St) (L : Nat) (xs : List α) (W : World) : Exit → Act → World → Prop
  | .normal, _, W' => (KeepsFrom L W W' ∧ KpS (fun b => ∃ p ∈ Ps, p.2 b) W W') ∧ HW X.B X.w0 (Po W' k :: Ps) (I xs) W' ∧ Φ xs W'
  | _, _, _ => False

/-- Behind the assignment to the loop's variables. -/
def postAO (X : Cx) (Ps : Past) (k : Nat) (Φ : List α → World → Prop) (I : List α → St) (L : Nat) (l : Nat) (body : Code) (pre : List α) (x : α) (W : World) (a' : Act) (W' : World) : Prop :=
  (KeepsFrom L W W' ∧ KpS (fun b => ∃ p ∈ Ps, p.2 b) W W') ∧ ∃ σ', HA X.N [] σ' a' ∧ HW X.B X.w0 (Po W' k :: Ps) σ' W' ∧ Φ pre W' ∧ ∀ W'', HW X.B X.w0 (Po W'' k :: Ps) σ' W'' → Φ pre W'' → C (Xr X l) (Po W'' k :: (W'', Sk W'' σ' k) :: Ps) (postEO X Ps k Φ I L (pre ++ [x]) W'') body σ'

theorem G_assignO {k : Nat} {Φ : List α → World → Prop} (hΦ : ∀ xs, OnBlock k (Φ xs)) {I : List α → St} {L l : Nat} (hkL : k < L) {body : Code} {pre : List α} {x : α} {W Wk : World} {σ0 σ' : St} (h0 : HW X.B X.w0 (Po W k :: Ps) σ0 W) (hat : Φ pre Wk) {Z : Exit → Act → World → Prop}
    (h : ∀ W'', HW X.B X.w0 (Po W'' k :: Ps) σ' W'' → Φ pre W'' → C (Xr X l) (Po W'' k :: (W'', Sk W'' σ' k) :: Ps) (postEO X Ps k Φ I L (pre ++ [x]) W'') body σ') : G (Xr X l) (Po Wk k :: (W, Sk W σ0 k) :: Ps) (Exit.then (postAO X Ps k Φ I L l body pre x W) Z) .normal σ' :=
  fun _ w ha hw => ⟨h0.keepsO hkL hw, σ', ha, hw.now.skip, hΦ pre Wk w (hw.past (Po Wk k) (List.mem_cons_self ..) k rfl).1.2 hat, h⟩

/-- A round's end. -/
theorem G_roundO {k : Nat} {Φ : List α → World → Prop} (hΦ : ∀ xs, OnBlock k (Φ xs)) {I : List α → St} {L l : Nat} (hkL : k < L) {xs : List α} {W Wk : World} {σ0 σ' : St} (hat : Φ xs Wk) (hs : Serves Ps σ' Ps ⟨[], (I xs).bx, (I xs).rw⟩)
    (h0 : HW X.B X.w0 (Po W k :: Ps) σ0 W) : G (Xr X l) (Po Wk k :: (W, Sk W σ0 k) :: Ps) (postEO X Ps k Φ I L xs W) .normal σ' := by
  intro _ w _ hw
  have hs2 : Serves (Po w k :: Ps) σ' (Po w k :: Ps) ⟨[], (I xs).bx, (I xs).rw⟩ := ⟨hs.sl, hs.bx, hs.rw, fun p hp => hp⟩
  exact ⟨h0.keepsO hkL hw, HW.same (hs2.hw hw.now.skip) rfl rfl, hΦ xs Wk w (hw.past (Po Wk k) (List.mem_cons_self ..) k rfl).1.2 hat⟩

/-- **A loop over an iterator whose rounds turn an object of the call's own (a map).** -/
theorem C_rangeFuncO {k : Nat} {W0 : World} {Φ : List α → World → Prop} (hΦ : ∀ xs, OnBlock k (Φ xs)) (hat0 : Φ [] W0)
    {g : Operand} {ps : Array Tmp} {assign body : Code} (hro : X.ro = none) {gf : Nat} {lb : Array Value} {ob : List Prop} (he : evp σ [] g [] = some (.v (.func (.func gf) #[] lb), ob)) (hob : AllP ob) (hen : entB X.P gf = true)
    {encs : α → Array Value} (xs : List α) (hps : ∀ x, (encs x).size = ps.size) (hpN : ∀ t ∈ ps, t < X.N) (asg : α → List (Nat × Value)) (hasg : ∀ x, (ps.zip (encs x)).toList = asg x)
    (hseq : ∀ w, HW X.B X.w0 Ps σ w → Seq X.P gf lb encs xs (fun b => ∃ p ∈ Ps, p.2 b) w)
    (I : List α → St) (hI0 : ∀ w, HW X.B X.w0 (Po W0 k :: Ps) σ w → HW X.B X.w0 (Po W0 k :: Ps) (I []) w)
    (hround : ∀ (l L : Nat) (W : World) (pre : List α) (x : α), pre.length < xs.length → k < L → HW X.B X.w0 (Po W k :: Ps) (I pre) W → Φ pre W →
      C (Xr X l) (Po W k :: (W, Sk W (I pre) k) :: Ps) (Exit.then (postAO X Ps k Φ I L l body pre x W) (fun _ _ _ => False)) assign ⟨asgL σ.sl (asg x), (I pre).bx, (I pre).rw⟩)
    (hdone : ∀ D WD, X.B ≤ D → WD.heap[D]? = some (.deferred (some [])) → (∀ p ∈ Ps, ¬ p.2 D) → D ≠ k → Φ xs WD → G (Xd X D) ((WD, fun b => b = D) :: Po WD k :: Ps) Q .normal ⟨σ.sl, (I xs).bx, (I xs).rw⟩) :
    C X (Po W0 k :: Ps) Q (.rangeFunc g ps assign body) σ := by
  intro a w ha hw
  have hg := (evp_c ha rfl he hob).1
  have hP' : ∀ p ∈ Po W0 k :: Ps, ∀ b, p.2 b → b < w.heap.size := fun p hp b hb => (hw.past p hp b hb).1.1
  have hP : ∀ p ∈ Ps, ∀ b, p.2 b → b < w.heap.size := fun p hp => hP' p (List.mem_cons_of_mem _ hp)
  have hkw : k < w.heap.size := hP' (Po W0 k) (List.mem_cons_self ..) k rfl
  have hk0 : w.heap[k]? = W0.heap[k]? := (hw.past (Po W0 k) (List.mem_cons_self ..) k rfl).1.2
  have hPk : ∀ A : World, ∀ p ∈ Po A k :: Ps, ∀ b, p.2 b → b < w.heap.size := fun A p hp b hb => by
    rcases List.mem_cons.1 hp with rfl | hp
    · have hb' : b = k := hb
      omega
    · exact hP p hp b hb
  have hBw := hw.bsize
  rw [hro]
  refine wpIn_rangeFunc ?_
  intro fn hfn
  obtain ⟨rec, hrec⟩ : ∃ rec : LoopState → Option Code → Loop, rec = fun st pe => { state := st, pending := pe, fn, tmps := a.tmps, params := ps, assign, body, defers := w.heap.size } := ⟨_, rfl⟩
  obtain ⟨W1, hW1⟩ : ∃ W1, (w.alloc (.deferred (some []))).alloc (.loop (rec .ready none)) = W1 := ⟨_, rfl⟩
  have hL1 : W1.heap[w.heap.size + 1]? = some (.loop (rec .ready none)) := by
    rw [← hW1]; have := World.alloc_heap_new (w.alloc (.deferred (some []))) (.loop (rec .ready none)); rwa [World.size_alloc] at this
  have hK1 : W1.heap[w.heap.size]? = some (.deferred (some [])) := by
    rw [← hW1]; exact (Below.heap_alloc _ _ _ (by simp)).trans (World.alloc_heap_new w _)
  have hb1 : Below w.heap.size w W1 := by
    rw [← hW1]; exact ((Below.refl _ w).alloc (Nat.le_refl _) _).alloc (by simp) _
  have hI1 : HW X.B X.w0 (Po W1 k :: Ps) (I []) W1 := ((hI0 w hw).ext hb1).now
  have hF1 : Φ [] W1 := hΦ [] W0 W1 ((hb1.block k hkw).trans hk0) hat0
  have hW1s : W1.heap.size = w.heap.size + 2 := by rw [← hW1]; simp
  refine ⟨w.heap.size + 1, [{ target := .collected w.heap.size, args := #[] }], W1, { target := .fn (.func gf) lb, args := #[.func (.yield (w.heap.size + 1)) #[] #[]] }, W1, gf,
    #[.func (.yield (w.heap.size + 1)) #[] #[]] ++ lb, W1, ?_, ?_, fun _ _ => trivial, ?_, fun h => (by cases h), ?_⟩
  · rw [← hW1, hrec]; exact run_enterLoop_outer _ _ _ _ _
  · have hcc : (PV.v (Value.func (.func gf) #[] lb)).c = .func (.func gf) #[] lb := rfl
    rw [hcc] at hg
    simp only [resolve, hg]
    simp [go_sem]
  · have := run_callFunc hen (#[.func (.yield (w.heap.size + 1)) #[] #[]] ++ lb) W1
    simpa [invoke] using this
  · have turn : ∀ {τ : St} {A : World} {l : Nat} {o o' : Obj}, HW X.B X.w0 (Po A k :: Ps) τ A → A.heap[l]? = some o → o.isCells = false → w.heap.size ≤ l → HW X.B X.w0 (Po (A.putObj l o') k :: Ps) τ (A.putObj l o') :=
      fun {τ A l o o'} h hl ho hle => (h.grown (L := w.heap.size) (grownBy_putObj' A l o') (fun r e => by cases e; exact ⟨hle, o, hl, ho⟩) (hPk A) hBw).now
    have tphi : ∀ {xs : List α} {A : World} {l : Nat} {o' : Obj}, Φ xs A → w.heap.size ≤ l → Φ xs (A.putObj l o') := fun {xs A l o'} h hle => hΦ xs A _ (World.putObj_heap_other (by omega)) h
    have hnw : ∀ {A : World} {row : Option Nat}, (∀ r, row = some r → W1.heap.size ≤ r ∧ ∃ o : Obj, A.heap[r]? = some o ∧ o.isWalk = true) → (∀ r, row = some r → w.heap.size ≤ r ∧ ∃ o : Obj, A.heap[r]? = some o ∧ o.isCells = false) :=
      fun hr r e => by obtain ⟨h1, o, ho, hw'⟩ := hr r e; exact ⟨by omega, o, ho, Obj.not_cells_of_walk hw'⟩
    refine (hseq w hw.tail (w.heap.size + 1)
      (fun pre W => (HW X.B X.w0 (Po W k :: Ps) (I pre) W ∧ Φ pre W) ∧ W.heap[w.heap.size + 1]? = some (.loop (rec .ready none)) ∧ W.heap[w.heap.size]? = some (.deferred (some [])))
      (fun _ _ => False)
      W1 hb1
      (fun s A B row hs hg' hr => ⟨⟨(hs.1.1.grown hg' (hnw hr) (hPk A) hBw).now, hΦ s A B (hg'.block k (by have := (hs.1.1.past (Po A k) (List.mem_cons_self ..) k rfl).1.1; exact this) (fun e => by have := (hr k e.symm).1; omega)) hs.1.2⟩, (grownBy_keeps hg' (fun r e => (hr r e).2) hs.2.1 rfl).trans hs.2.1, (grownBy_keeps hg' (fun r e => (hr r e).2) hs.2.2 rfl).trans hs.2.2⟩)
      (fun s A B row hs hg' hr => hs)
      ?_ ⟨⟨hI1, hF1⟩, hL1, hK1⟩).mono ?_
    · rintro pre x W ⟨⟨hi, hf⟩, hl, hk⟩ hlen
      have hlt : w.heap.size + 1 < W.heap.size := (Array.getElem?_eq_some_iff.1 hl).1
      have hy := run_yield (P := X.P) (args := encs x) hl (by rw [hrec]; exact hps x)
      rw [hrec] at hy
      refine ⟨fn, _, assign, body, hy, roundIn_of_wpIn hfn ?_⟩
      have ha0 : HA X.N [] ⟨asgL σ.sl (asg x), (I pre).bx, (I pre).rw⟩ { tmps := (ps.zip (encs x)).foldl (fun t (p, v) => t.setIfInBounds p v) a.tmps, defers := [] } := by
        have h1 : HA X.N [] ⟨σ.sl, (I pre).bx, (I pre).rw⟩ { tmps := a.tmps, defers := [] } := ⟨ha.size, rfl, ha.at_⟩
        have h2 := HA.asg (ps.zip (encs x)).toList h1 (fun y hy => hpN y.1 (by
          rw [Array.mem_toList_iff] at hy
          obtain ⟨i, hi, rfl⟩ := Array.mem_iff_getElem.1 hy
          rw [Array.getElem_zip]
          exact Array.getElem_mem _))
        rw [← Array.foldl_toList, ← hasg x]
        exact h2
      refine wpIn_mono (wpR_n (hround (w.heap.size + 1) w.heap.size W pre x hlen hkw hi hf _ W ha0 (HW.same hi.sk rfl rfl))) ?_
      intro e a' Wa hp
      cases e with
      | normal =>
        obtain ⟨⟨hkfa, hkpa⟩, σ', ha', hwa, hfa, hbody⟩ := hp
        have hla := hkfa.same _ _ (by omega) hl rfl
        have hka := hkfa.same _ _ (Nat.le_refl _) hk rfl
        have hlta : w.heap.size + 1 < Wa.heap.size := (Array.getElem?_eq_some_iff.1 hla).1
        refine ⟨_, run_beginRound hla (by rw [hrec]), ?_⟩
        obtain ⟨W2, hW2⟩ : ∃ W2, Wa.putObj (w.heap.size + 1) (.loop { rec .ready none with state := .busy }) = W2 := ⟨_, rfl⟩
        have hl2 : W2.heap[w.heap.size + 1]? = some (.loop { rec .ready none with state := .busy }) := by rw [← hW2]; exact World.putObj_heap_same hlta
        have hk2 : W2.heap[w.heap.size]? = some (.deferred (some [])) := by rw [← hW2]; exact (World.putObj_heap_other (by omega)).trans hka
        have hw2 : HW X.B X.w0 (Po W2 k :: Ps) σ' W2 := by rw [← hW2]; exact turn hwa hla rfl (by omega)
        have hf2 : Φ pre W2 := by rw [← hW2]; exact tphi hfa (by omega)
        have hkp2 : KpS (fun b => ∃ p ∈ Ps, p.2 b) Wa W2 := by
          rw [← hW2]
          exact ⟨by simp, fun b ⟨p, hp, hb⟩ _ => World.putObj_heap_other (fun e => by have := hP p hp b hb; omega)⟩
        rw [hW2]
        refine wpIn_mono (wpR_n (hbody W2 hw2 hf2 a' W2 ha' hw2.sk)) ?_
        have fin : ∀ (jump : Option Code) (W3 : World), KeepsFrom w.heap.size W2 W3 →
            (Instr.endRound (w.heap.size + 1) jump).run X.P W3 = .ok (.bool jump.isNone) (W3.putObj (w.heap.size + 1) (.loop (rec (if jump.isNone then .ready else .done) jump))) ∧
            W3.heap[w.heap.size + 1]? = some (.loop { rec .ready none with state := .busy }) ∧
            (W3.putObj (w.heap.size + 1) (.loop (rec (if jump.isNone then .ready else .done) jump))).heap[w.heap.size + 1]? = some (.loop (rec (if jump.isNone then .ready else .done) jump)) ∧
            (W3.putObj (w.heap.size + 1) (.loop (rec (if jump.isNone then .ready else .done) jump))).heap[w.heap.size]? = some (.deferred (some [])) := fun jump W3 hk3 => by
          have hl3 := hk3.same _ _ (by omega) hl2 rfl
          have := run_endRound (P := X.P) jump hl3
          rw [hrec] at this ⊢
          exact ⟨this, by rw [hrec] at hl3; exact hl3, World.putObj_heap_same (Array.getElem?_eq_some_iff.1 hl3).1, (World.putObj_heap_other (by omega)).trans (hk3.same _ _ (Nat.le_refl _) hk2 rfl)⟩
        have kp3 : ∀ {A : World} {o : Obj}, KpS (fun b => ∃ p ∈ Ps, p.2 b) A (A.putObj (w.heap.size + 1) o) := fun {A o} =>
          ⟨by simp, fun b ⟨p, hp, hb⟩ _ => World.putObj_heap_other (fun e => by have := hP p hp b hb; omega)⟩
        rintro e a3 W3 hp
        cases e with
        | normal =>
          obtain ⟨⟨hk3, hkp3⟩, hi3, hf3⟩ := hp
          obtain ⟨hr, hl3, hl4, hk4⟩ := fin none W3 hk3
          exact ⟨_, _, hr, .inl ⟨rfl, ⟨⟨turn hi3 hl3 rfl (by omega), tphi hf3 (by omega)⟩, hl4, hk4⟩, hkpa.trans (hkp2.trans (hkp3.trans kp3))⟩⟩
        | ret => exact hp.elim
        | exit id => exact hp.elim
        | goto t => exact hp.elim
        | panic ch => exact hp.elim
        | outgrown => exact hp.elim
      | ret => exact hp.elim
      | exit id => exact hp.elim
      | goto t => exact hp.elim
      | panic ch => exact hp.elim
      | outgrown => exact hp.elim
    · have had : HA X.N (w.heap.size :: X.ds) ⟨σ.sl, [], []⟩ { a with defers := [{ target := .collected w.heap.size, args := #[] }] ++ a.defers } := ⟨ha.size, by show _ = marks (w.heap.size :: X.ds); rw [ha.defers]; rfl, ha.at_⟩
      have fin : ∀ {τ : St} {A : World}, HW X.B X.w0 (Po A k :: Ps) τ A → A.heap[w.heap.size]? = some (.deferred (some [])) → HW X.B X.w0 ((A, fun b => b = w.heap.size) :: Po A k :: Ps) τ A := fun {τ A} h hd => by
        refine ⟨h.below, h.bsize, h.nodup, h.box, fun p hp b hb => ?_, fun r hr => ?_, h.apart, fun p hp => ?_⟩
        · rw [List.mem_cons] at hp
          rcases hp with rfl | hp
          · subst hb
            refine ⟨⟨(Array.getElem?_eq_some_iff.1 hd).1, rfl⟩, fun x hx e => ?_⟩
            have := (h.box x hx).2
            rw [e, hd] at this
            cases this
          · exact h.past p hp b hb
        · obtain ⟨g1, g2⟩ := h.row r hr
          refine ⟨g1, fun g hg => ⟨(g2 g hg).1, fun p hp => ?_⟩⟩
          rw [List.mem_cons] at hp
          rcases hp with rfl | hp
          · intro hgD
            subst hgD
            rcases g1.2 with ⟨hn, _⟩ | ⟨g', cap, cur, hv, _, hh, _⟩
            · rw [hn] at hg
              simp [Value.ownBlock] at hg
            · rw [hv] at hg
              have hgg : g' = w.heap.size := by simpa [Value.ownBlock] using hg
              subst hgg
              rw [hd] at hh
              cases hh
          · exact (g2 g hg).2 p hp
        · rw [List.mem_cons] at hp
          rcases hp with rfl | hp
          · exact Nat.le_refl _
          · exact h.old p hp
      have hnD : ∀ p ∈ Ps, ¬ p.2 w.heap.size := fun p hp hb => by have := hP p hp _ hb; omega
      rintro e W2 ⟨⟨v, rfl⟩, (⟨ys, rfl, ⟨hi, hf⟩, hl, hk⟩ | ⟨pre, hpre, hno⟩)⟩
      · have h1 := turn (o' := .loop { rec .ready none with state := .exhausted }) hi hl rfl (by omega)
        have h2 : (W2.putObj (w.heap.size + 1) (.loop { rec .ready none with state := .exhausted })).heap[w.heap.size]? = some (.deferred (some [])) := (World.putObj_heap_other (by omega)).trans hk
        have h3 := hdone w.heap.size (W2.putObj (w.heap.size + 1) (.loop { rec .ready none with state := .exhausted })) hBw h2 hnD (by omega) (tphi hf (by omega)) _ _ (had.same rfl) (HW.same (fin h1 h2) rfl rfl)
        exact ⟨none, _, by have := run_endLoop (P := X.P) hl (by rw [hrec]; simp); rw [hrec] at this; exact this, by rw [hrec] at h3; exact h3⟩
      · exact hno.elim
end loop
end Go.E
