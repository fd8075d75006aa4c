/- A loop over an iterator: the iterator by its contract, the rounds by the executor. -/
import Derived.Test.YtmfophoejjcnlaaDoorEngM
namespace Go.E
set_option linter.unusedSimpArgs false
set_option linter.unusedVariables false
open Go.RowKit

/-- What a round keeps for the iterator: the blocks that it reads. -/
def KpS (S : Nat → Prop) (W W' : World) : Prop := W.heap.size ≤ W'.heap.size ∧ ∀ b, S b → b < W.heap.size → W'.heap[b]? = W.heap[b]?

theorem KpS.trans {S : Nat → Prop} {A B C : World} (h : KpS S A B) (k : KpS S B C) : KpS S A C :=
  ⟨Nat.le_trans h.1 k.1, fun b hb hl => (k.2 b hb (Nat.lt_of_lt_of_le hl h.1)).trans (h.2 b hb hl)⟩

/-- An iterator that hands over these elements, in this order, as long as it is not told to stop. -/
def Seq {α : Type} (P : Program) (gf : Nat) (lb : Array Value) (encs : α → Array Value) (xs : List α) (S : Nat → Prop) (w : World) : Prop :=
  SeqStopsK (FR none) 8 P gf lb encs (KpS S) (fun ys => ys = xs) (fun pre => pre <+: xs) xs.length w

section
variable {P : Program} {B : Nat} {w0 : World} {Ps : Past} {σ : St}

/-- What a state says abides new blocks, and a turn of a block that is none of its own. -/
theorem HW.grown {L : Nat} {W W' : World} (hw : HW B w0 Ps σ W) {row : Option Nat} (hg : W.grownBy W' row) (hr : ∀ r, row = some r → L ≤ r ∧ ∃ o : Obj, W.heap[r]? = some o ∧ o.isCells = false) (hP : ∀ p ∈ Ps, ∀ b, p.2 b → b < L) (hB : B ≤ L) : HW B w0 Ps σ W' := by
  have keep : ∀ k, k < W.heap.size → (∀ r, row = some r → r ≠ k) → W'.heap[k]? = W.heap[k]? := fun k hk hne => hg.block k hk fun e => hne k e.symm rfl
  have hcell : ∀ (k : Nat) (o : Obj), W.heap[k]? = some o → o.isCells = true → W'.heap[k]? = W.heap[k]? := fun k o hk hc => keep k (Array.getElem?_eq_some_iff.1 hk).1 fun r e he => by
    obtain ⟨_, o', ho', hc'⟩ := hr r e
    rw [he, hk] at ho'
    cases ho'
    rw [hc] at hc'
    cases hc'
  have hs := hg.size
  refine ⟨⟨hg.os.trans hw.below.os, hg.tape.trans hw.below.tape, hg.output.trans hw.below.output, by have := hw.below.size; omega, fun k hk => ?_⟩, by have := hw.bsize; omega, hw.nodup, fun x hx => ?_, fun p hp b hb => ?_, fun r hr' => ?_, hw.apart, fun p hp => by have := hw.old p hp; omega⟩
  · have hbs := hw.bsize
    rw [keep k (by omega) fun r e he => by have := (hr r e).1; omega]
    exact hw.below.block k hk
  · obtain ⟨h1, h2⟩ := hw.box x hx
    exact ⟨h1, (hcell _ _ h2 rfl).trans h2⟩
  · obtain ⟨⟨h1, h2⟩, h3⟩ := hw.past p hp b hb
    exact ⟨⟨by omega, (keep b h1 fun r e he => by have := (hr r e).1; have := hP p hp b hb; omega).trans h2⟩, h3⟩
  · obtain ⟨h1, h2⟩ := hw.row r hr'
    refine ⟨ownsRow_of h1 fun g hgb => ?_, h2⟩
    rcases h1.2 with ⟨hn, _⟩ | ⟨g', cap, cur, hv, _, hh, _⟩
    · rw [hn] at hgb
      simp [Value.ownBlock] at hgb
    · rw [hv] at hgb
      have hgg : g' = g := by simpa [Value.ownBlock] using hgb
      subst hgg
      exact hcell _ _ hh rfl

/-- The blocks that are none of the state's own. -/
def Sb (W : World) (σ : St) (b : Nat) : Prop := b < W.heap.size ∧ (∀ x ∈ σ.bx, x.b ≠ b) ∧ ∀ r ∈ σ.rw, r.val.ownBlock ≠ some b

theorem HW.sb {W : World} (hw : HW B w0 Ps σ W) : HW B w0 ((W, Sb W σ) :: Ps) σ W := by
  refine ⟨hw.below, hw.bsize, hw.nodup, hw.box, fun p hp b hb => ?_, fun r hr => ?_, hw.apart, fun p hp => ?_⟩
  · rw [List.mem_cons] at hp
    rcases hp with rfl | hp
    · exact ⟨⟨hb.1, rfl⟩, hb.2.1⟩
    · exact hw.past p hp b hb
  · obtain ⟨h1, h2⟩ := hw.row r hr
    refine ⟨h1, fun g hg => ⟨(h2 g hg).1, fun p hp => ?_⟩⟩
    rw [List.mem_cons] at hp
    rcases hp with rfl | hp
    · exact fun hb => hb.2.2 r hr hg
    · exact (h2 g hg).2 p hp
  · rw [List.mem_cons] at hp
    rcases hp with rfl | hp
    · exact Nat.le_refl _
    · exact hw.old p hp

theorem HW.tail {p : World × (Nat → Prop)} {W : World} (hw : HW B w0 (p :: Ps) σ W) : HW B w0 Ps σ W :=
  ⟨hw.below, hw.bsize, hw.nodup, hw.box, fun q hq => hw.past q (List.mem_cons_of_mem _ hq), fun r hr => ⟨(hw.row r hr).1, fun g hg => ⟨((hw.row r hr).2 g hg).1, fun q hq => ((hw.row r hr).2 g hg).2 q (List.mem_cons_of_mem _ hq)⟩⟩, hw.apart, fun q hq => hw.old q (List.mem_cons_of_mem _ hq)⟩

/-- What is not the state's own lies as it lay. -/
theorem HW.keeps {W W' : World} {σ' : St} (h0 : HW B w0 Ps σ W) (hw : HW B w0 ((W, Sb W σ) :: Ps) σ' W') (L : Nat) : KeepsFrom L W W' ∧ KpS (fun b => ∃ p ∈ Ps, p.2 b) W W' := by
  have hsz : W.heap.size ≤ W'.heap.size := hw.old (W, Sb W σ) (by simp)
  refine ⟨⟨hsz, fun k o _ hk ho => ?_⟩, hsz, fun b ⟨p, hp, hb⟩ _ => ?_⟩
  · have hs : Sb W σ k := by
      refine ⟨(Array.getElem?_eq_some_iff.1 hk).1, fun x hx e => ?_, fun r hr e => ?_⟩
      · have := (h0.box x hx).2
        rw [e, hk] at this
        cases this
        cases ho
      · rcases (h0.row r hr).1.2 with ⟨hn, _⟩ | ⟨g', cap, cur, hv, _, hh, _⟩
        · rw [hn] at e
          simp [Value.ownBlock] at e
        · rw [hv] at e
          have hgg : g' = k := by simpa [Value.ownBlock] using e
          subst hgg
          rw [hk] at hh
          cases hh
          cases ho
    exact (hw.past (W, Sb W σ) (by simp) k hs).1.2.trans hk
  · exact ((hw.past p (by simp [hp]) b hb).1.2).trans ((h0.past p hp b hb).1.2.symm)
end

/-! ### The loop -/

/-- The temporaries at a round's begin: the saved ones, with what yield hands over. -/
def asgL (sl : List (Nat × AV)) : List (Nat × Value) → List (Nat × AV)
  | [] => sl
  | (t, v) :: r => asgL ((t, .s (.v v)) :: sl) r

theorem HA.asg {N : Nat} {ds : List Nat} {bx : List Bx} {rw : List Rw} : ∀ (l : List (Nat × Value)) {sl : List (Nat × AV)} {a : Act}, HA N ds ⟨sl, bx, rw⟩ a → (∀ x ∈ l, x.1 < N) →
    HA N ds ⟨asgL sl l, bx, rw⟩ { a with tmps := l.foldl (fun t x => t.setIfInBounds x.1 x.2) a.tmps }
  | [], sl, a, ha, _ => ha
  | (t, v) :: l, sl, a, ha, hl => by
    have h1 := HA.put ha (hl (t, v) (by simp)) (.s (.v v)) (σ' := ⟨(t, .s (.v v)) :: sl, bx, rw⟩) rfl
    exact HA.asg l h1 fun x hx => hl x (by simp [hx])

section loop
variable {X : Cx} {Ps : Past} {σ : St} {Q : Exit → Act → World → Prop} {α : Type}

abbrev Xr (X : Cx) (l : Nat) : Cx := { X with ds := [], ro := some l }
abbrev Xd (X : Cx) (D : Nat) : Cx := { X with ds := D :: X.ds }

/-- How a round's body may be left: W'': the world at its begin; σ': the state there. -/
def postE (X : Cx) (Ps : Past) (I : List α → St) (J : Code → List α → St → Prop) (L : Nat) (xs : List α) (W : World) : Exit → Act → World → Prop
  | .normal, _, W' => (KeepsFrom L W W' ∧ KpS (fun b => ∃ p ∈ Ps, p.2 b) W W') ∧ HW X.B X.w0 Ps (I xs) W'
  | .ret, _, W' => KeepsFrom L W W' ∧ ∃ σ, J .ret xs σ ∧ HW X.B X.w0 Ps σ W'
  | .exit id, _, W' => KeepsFrom L W W' ∧ ∃ σ, J (.exit id) xs σ ∧ HW X.B X.w0 Ps σ W'
  | .goto t, _, W' => KeepsFrom L W W' ∧ ∃ σ, J (.goto t) xs σ ∧ HW X.B X.w0 Ps σ W'
  | .panic _, _, _ => False
  | .outgrown, _, _ => False

/-- Behind the assignment to the loop's variables. -/
def postA (X : Cx) (Ps : Past) (I : List α → St) (J : Code → List α → St → Prop) (L : Nat) (l : Nat) (body : Code) (xs : List α) (W : World) (a' : Act) (W' : World) : Prop :=
  (KeepsFrom L W W' ∧ KpS (fun b => ∃ p ∈ Ps, p.2 b) W W') ∧ ∃ σ', HA X.N [] σ' a' ∧ HW X.B X.w0 Ps σ' W' ∧ ∀ W'', HW X.B X.w0 Ps σ' W'' → C (Xr X l) ((W'', Sb W'' σ') :: Ps) (postE X Ps I J L xs W'') body σ'

theorem G_assign {I : List α → St} {J : Code → List α → St → Prop} {L l : Nat} {body : Code} {xs : List α} {W : World} {σ0 σ' : St} (h0 : HW X.B X.w0 Ps σ0 W) {Z : Exit → Act → World → Prop}
    (h : ∀ W'', HW X.B X.w0 Ps σ' W'' → C (Xr X l) ((W'', Sb W'' σ') :: Ps) (postE X Ps I J L xs W'') body σ') : G (Xr X l) ((W, Sb W σ0) :: Ps) (Exit.then (postA X Ps I J L l body xs W) Z) .normal σ' :=
  fun _ _ ha hw => ⟨h0.keeps hw L, σ', ha, hw.tail, h⟩

/-- A round's end. -/
theorem G_round {I : List α → St} {J : Code → List α → St → Prop} {L l : Nat} {xs : List α} {W : World} {σ0 σ' : St} (hs : Serves ((W, Sb W σ0) :: Ps) σ' Ps ⟨[], (I xs).bx, (I xs).rw⟩)
    (h0 : HW X.B X.w0 Ps σ0 W) : G (Xr X l) ((W, Sb W σ0) :: Ps) (postE X Ps I J L xs W) .normal σ' :=
  fun _ _ _ hw => ⟨h0.keeps hw L, HW.same (hs.hw hw) rfl rfl⟩
theorem G_roundR {I : List α → St} {J : Code → List α → St → Prop} {L l : Nat} {xs : List α} {W : World} {σ0 σ' : St} (h0 : HW X.B X.w0 Ps σ0 W) (hj : J .ret xs σ') : G (Xr X l) ((W, Sb W σ0) :: Ps) (postE X Ps I J L xs W) .ret σ' :=
  fun _ _ _ hw => ⟨(h0.keeps hw L).1, σ', hj, hw.tail⟩
theorem G_roundX {I : List α → St} {J : Code → List α → St → Prop} {L l id : Nat} {xs : List α} {W : World} {σ0 σ' : St} (h0 : HW X.B X.w0 Ps σ0 W) (hj : J (.exit id) xs σ') : G (Xr X l) ((W, Sb W σ0) :: Ps) (postE X Ps I J L xs W) (.exit id) σ' :=
  fun _ _ _ hw => ⟨(h0.keeps hw L).1, σ', hj, hw.tail⟩

theorem ownFrom_HW {β : Type} {L : Nat} (f : β → St) (hP : ∀ p ∈ Ps, ∀ b, p.2 b → b < L) (hB : X.B ≤ L) : OwnFrom L (fun s W => HW X.B X.w0 Ps (f s) W) := fun _ _ _ _ hs hg hr => hs.grown hg hr hP hB

/-- **A loop over an iterator.** 'I': the state between two rounds; 'J': how it may be left. -/
theorem C_rangeFunc {g : Operand} {ps : Array Tmp} {assign body : Code} (hro : X.ro = none) {gf : Nat} {lb : Array Value} {ob : List Prop} (he : evp σ [] g [] = some (.v (.func (.func gf) #[] lb), ob)) (hob : AllP ob) (hen : entB X.P gf = true)
    {encs : α → Array Value} (xs : List α) (hps : ∀ x, (encs x).size = ps.size) (hpN : ∀ t ∈ ps, t < X.N) (asg : α → List (Nat × Value)) (hasg : ∀ x, (ps.zip (encs x)).toList = asg x)
    (hseq : ∀ w, HW X.B X.w0 Ps σ w → Seq X.P gf lb encs xs (fun b => ∃ p ∈ Ps, p.2 b) w)
    (I : List α → St) (J : Code → List α → St → Prop) (hI0 : ∀ w, HW X.B X.w0 Ps σ w → HW X.B X.w0 Ps (I []) w)
    (hround : ∀ (l L : Nat) (W : World) (pre : List α) (x : α), pre.length < xs.length → HW X.B X.w0 Ps (I pre) W →
      C (Xr X l) ((W, Sb W (I pre)) :: Ps) (Exit.then (postA X Ps I J L l body (pre ++ [x]) W) (fun _ _ _ => False)) assign ⟨asgL σ.sl (asg x), (I pre).bx, (I pre).rw⟩)
    (hdone : ∀ D WD, X.B ≤ D → WD.heap[D]? = some (.deferred (some [])) → (∀ p ∈ Ps, ¬ p.2 D) → G (Xd X D) ((WD, fun b => b = D) :: Ps) Q .normal ⟨σ.sl, (I xs).bx, (I xs).rw⟩)
    (hstop : ∀ D WD c pre σx, X.B ≤ D → WD.heap[D]? = some (.deferred (some [])) → (∀ p ∈ Ps, ¬ p.2 D) → pre <+: xs → J c pre σx → C (Xd X D) ((WD, fun b => b = D) :: Ps) Q c ⟨σ.sl, σx.bx, σx.rw⟩) :
    C X Ps Q (.rangeFunc g ps assign body) σ := by
  intro a w ha hw
  have hg := (evp_c ha rfl he hob).1
  have hP : ∀ p ∈ Ps, ∀ b, p.2 b → b < w.heap.size := fun p hp b hb => (hw.past p hp b hb).1.1
  have hBw := hw.bsize
  rw [hro]
  refine wpIn_rangeFunc ?_
  intro fn hfn
  obtain ⟨rec, hrec⟩ : ∃ rec : LoopState → Option Code → Loop, rec = fun st pe => { state := st, pending := pe, fn, tmps := a.tmps, params := ps, assign, body, defers := w.heap.size } := ⟨_, rfl⟩
  obtain ⟨W1, hW1⟩ : ∃ W1, (w.alloc (.deferred (some []))).alloc (.loop (rec .ready none)) = W1 := ⟨_, rfl⟩
  have hL1 : W1.heap[w.heap.size + 1]? = some (.loop (rec .ready none)) := by
    rw [← hW1]; have := World.alloc_heap_new (w.alloc (.deferred (some []))) (.loop (rec .ready none)); rwa [World.size_alloc] at this
  have hK1 : W1.heap[w.heap.size]? = some (.deferred (some [])) := by
    rw [← hW1]; exact (Below.heap_alloc _ _ _ (by simp)).trans (World.alloc_heap_new w _)
  have hb1 : Below w.heap.size w W1 := by
    rw [← hW1]; exact ((Below.refl _ w).alloc (Nat.le_refl _) _).alloc (by simp) _
  have hI1 : HW X.B X.w0 Ps (I []) W1 := (hI0 w hw).ext hb1
  have hW1s : W1.heap.size = w.heap.size + 2 := by rw [← hW1]; simp
  refine ⟨w.heap.size + 1, [{ target := .collected w.heap.size, args := #[] }], W1, { target := .fn (.func gf) lb, args := #[.func (.yield (w.heap.size + 1)) #[] #[]] }, W1, gf,
    #[.func (.yield (w.heap.size + 1)) #[] #[]] ++ lb, W1, ?_, ?_, fun _ _ => trivial, ?_, fun h => (by cases h), ?_⟩
  · rw [← hW1, hrec]; exact run_enterLoop_outer _ _ _ _ _
  · have hcc : (PV.v (Value.func (.func gf) #[] lb)).c = .func (.func gf) #[] lb := rfl
    rw [hcc] at hg
    simp only [resolve, hg]
    simp [go_sem]
  · have := run_callFunc hen (#[.func (.yield (w.heap.size + 1)) #[] #[]] ++ lb) W1
    simpa [invoke] using this
  · have turn : ∀ {β : Type} (f : β → St) {s : β} {A : World} {l : Nat} {o o' : Obj}, HW X.B X.w0 Ps (f s) A → A.heap[l]? = some o → o.isCells = false → w.heap.size ≤ l → HW X.B X.w0 Ps (f s) (A.putObj l o') :=
      fun f s A l o o' h hl ho hle => h.grown (L := w.heap.size) (grownBy_putObj' A l o') (fun r e => by cases e; exact ⟨hle, o, hl, ho⟩) hP hBw
    have hnw : ∀ {A : World} {row : Option Nat}, (∀ r, row = some r → W1.heap.size ≤ r ∧ ∃ o : Obj, A.heap[r]? = some o ∧ o.isWalk = true) → (∀ r, row = some r → w.heap.size ≤ r ∧ ∃ o : Obj, A.heap[r]? = some o ∧ o.isCells = false) :=
      fun hr r e => by obtain ⟨h1, o, ho, hw'⟩ := hr r e; exact ⟨by omega, o, ho, Obj.not_cells_of_walk hw'⟩
    refine (hseq w hw (w.heap.size + 1)
      (fun pre W => HW X.B X.w0 Ps (I pre) W ∧ W.heap[w.heap.size + 1]? = some (.loop (rec .ready none)) ∧ W.heap[w.heap.size]? = some (.deferred (some [])))
      (fun pre W => ∃ c σx, J c pre σx ∧ HW X.B X.w0 Ps σx W ∧ W.heap[w.heap.size + 1]? = some (.loop (rec .done (some c))) ∧ W.heap[w.heap.size]? = some (.deferred (some [])))
      W1 hb1
      (fun s A B row hs hg' hr => ⟨hs.1.grown hg' (hnw hr) hP hBw, (grownBy_keeps hg' (fun r e => (hr r e).2) hs.2.1 rfl).trans hs.2.1, (grownBy_keeps hg' (fun r e => (hr r e).2) hs.2.2 rfl).trans hs.2.2⟩)
      (fun s A B row hs hg' hr => by
        obtain ⟨c, σx, hc, hx, hl, hk⟩ := hs
        exact ⟨c, σx, hc, hx.grown hg' (hnw hr) hP hBw, (grownBy_keeps hg' (fun r e => (hr r e).2) hl rfl).trans hl, (grownBy_keeps hg' (fun r e => (hr r e).2) hk rfl).trans hk⟩)
      ?_ ⟨hI1, hL1, hK1⟩).mono ?_
    · rintro pre x W ⟨hi, hl, hk⟩ hlen
      have hlt : w.heap.size + 1 < W.heap.size := (Array.getElem?_eq_some_iff.1 hl).1
      have hy := run_yield (P := X.P) (args := encs x) hl (by rw [hrec]; exact hps x)
      rw [hrec] at hy
      refine ⟨fn, _, assign, body, hy, roundIn_of_wpIn hfn ?_⟩
      have ha0 : HA X.N [] ⟨asgL σ.sl (asg x), (I pre).bx, (I pre).rw⟩ { tmps := (ps.zip (encs x)).foldl (fun t (p, v) => t.setIfInBounds p v) a.tmps, defers := [] } := by
        have h1 : HA X.N [] ⟨σ.sl, (I pre).bx, (I pre).rw⟩ { tmps := a.tmps, defers := [] } := ⟨ha.size, rfl, ha.at_⟩
        have h2 := HA.asg (ps.zip (encs x)).toList h1 (fun y hy => hpN y.1 (by
          rw [Array.mem_toList_iff] at hy
          obtain ⟨i, hi, rfl⟩ := Array.mem_iff_getElem.1 hy
          rw [Array.getElem_zip]
          exact Array.getElem_mem _))
        rw [← Array.foldl_toList, ← hasg x]
        exact h2
      refine wpIn_mono (wpR_n (hround (w.heap.size + 1) w.heap.size W pre x hlen hi _ W ha0 (HW.same hi.sb rfl rfl))) ?_
      intro e a' Wa hp
      cases e with
      | normal =>
        obtain ⟨⟨hkfa, hkpa⟩, σ', ha', hwa, hbody⟩ := hp
        have hla := hkfa.same _ _ (by omega) hl rfl
        have hka := hkfa.same _ _ (Nat.le_refl _) hk rfl
        have hlta : w.heap.size + 1 < Wa.heap.size := (Array.getElem?_eq_some_iff.1 hla).1
        refine ⟨_, run_beginRound hla (by rw [hrec]), ?_⟩
        obtain ⟨W2, hW2⟩ : ∃ W2, Wa.putObj (w.heap.size + 1) (.loop { rec .ready none with state := .busy }) = W2 := ⟨_, rfl⟩
        have hl2 : W2.heap[w.heap.size + 1]? = some (.loop { rec .ready none with state := .busy }) := by rw [← hW2]; exact World.putObj_heap_same hlta
        have hk2 : W2.heap[w.heap.size]? = some (.deferred (some [])) := by rw [← hW2]; exact (World.putObj_heap_other (by omega)).trans hka
        have hw2 : HW X.B X.w0 Ps σ' W2 := by rw [← hW2]; exact turn (fun _ : Unit => σ') (s := ()) hwa hla rfl (by omega)
        have hkp2 : KpS (fun b => ∃ p ∈ Ps, p.2 b) Wa W2 := by
          rw [← hW2]
          exact ⟨by simp, fun b ⟨p, hp, hb⟩ _ => World.putObj_heap_other (fun e => by have := hP p hp b hb; omega)⟩
        rw [hW2]
        refine wpIn_mono (wpR_n (hbody W2 hw2 a' W2 ha' hw2.sb)) ?_
        have fin : ∀ (jump : Option Code) (W3 : World), KeepsFrom w.heap.size W2 W3 →
            (Instr.endRound (w.heap.size + 1) jump).run X.P W3 = .ok (.bool jump.isNone) (W3.putObj (w.heap.size + 1) (.loop (rec (if jump.isNone then .ready else .done) jump))) ∧
            W3.heap[w.heap.size + 1]? = some (.loop { rec .ready none with state := .busy }) ∧
            (W3.putObj (w.heap.size + 1) (.loop (rec (if jump.isNone then .ready else .done) jump))).heap[w.heap.size + 1]? = some (.loop (rec (if jump.isNone then .ready else .done) jump)) ∧
            (W3.putObj (w.heap.size + 1) (.loop (rec (if jump.isNone then .ready else .done) jump))).heap[w.heap.size]? = some (.deferred (some [])) := fun jump W3 hk3 => by
          have hl3 := hk3.same _ _ (by omega) hl2 rfl
          have := run_endRound (P := X.P) jump hl3
          rw [hrec] at this ⊢
          exact ⟨this, by rw [hrec] at hl3; exact hl3, World.putObj_heap_same (Array.getElem?_eq_some_iff.1 hl3).1, (World.putObj_heap_other (by omega)).trans (hk3.same _ _ (Nat.le_refl _) hk2 rfl)⟩
        have kp3 : ∀ {A : World} {o : Obj}, KpS (fun b => ∃ p ∈ Ps, p.2 b) A (A.putObj (w.heap.size + 1) o) := fun {A o} =>
          ⟨by simp, fun b ⟨p, hp, hb⟩ _ => World.putObj_heap_other (fun e => by have := hP p hp b hb; omega)⟩
        rintro e a3 W3 hp
        cases e with
        | normal =>
          obtain ⟨⟨hk3, hkp3⟩, hi3⟩ := hp
          obtain ⟨hr, hl3, hl4, hk4⟩ := fin none W3 hk3
          exact ⟨_, _, hr, .inl ⟨rfl, ⟨turn I hi3 hl3 rfl (by omega), hl4, hk4⟩, hkpa.trans (hkp2.trans (hkp3.trans kp3))⟩⟩
        | ret =>
          obtain ⟨hk3, σx, hj, hi3⟩ := hp
          obtain ⟨hr, hl3, hl4, hk4⟩ := fin (some .ret) W3 hk3
          exact ⟨_, _, hr, .inr ⟨rfl, .ret, σx, hj, turn (fun _ : Unit => σx) (s := ()) hi3 hl3 rfl (by omega), hl4, hk4⟩⟩
        | exit id =>
          obtain ⟨hk3, σx, hj, hi3⟩ := hp
          obtain ⟨hr, hl3, hl4, hk4⟩ := fin (some (.exit id)) W3 hk3
          exact ⟨_, _, hr, .inr ⟨rfl, .exit id, σx, hj, turn (fun _ : Unit => σx) (s := ()) hi3 hl3 rfl (by omega), hl4, hk4⟩⟩
        | goto t =>
          obtain ⟨hk3, σx, hj, hi3⟩ := hp
          obtain ⟨hr, hl3, hl4, hk4⟩ := fin (some (.goto t)) W3 hk3
          exact ⟨_, _, hr, .inr ⟨rfl, .goto t, σx, hj, turn (fun _ : Unit => σx) (s := ()) hi3 hl3 rfl (by omega), hl4, hk4⟩⟩
        | panic ch => exact hp.elim
        | outgrown => exact hp.elim
      | ret => exact hp.elim
      | exit id => exact hp.elim
      | goto t => exact hp.elim
      | panic ch => exact hp.elim
      | outgrown => exact hp.elim
    · have had : HA X.N (w.heap.size :: X.ds) ⟨σ.sl, [], []⟩ { a with defers := [{ target := .collected w.heap.size, args := #[] }] ++ a.defers } := ⟨ha.size, by show _ = marks (w.heap.size :: X.ds); rw [ha.defers]; rfl, ha.at_⟩
      have fin : ∀ {τ : St} {A : World}, HW X.B X.w0 Ps τ A → A.heap[w.heap.size]? = some (.deferred (some [])) → HW X.B X.w0 ((A, fun b => b = w.heap.size) :: Ps) τ A := fun {τ A} h hd => by
        refine ⟨h.below, h.bsize, h.nodup, h.box, fun p hp b hb => ?_, fun r hr => ?_, h.apart, fun p hp => ?_⟩
        · rw [List.mem_cons] at hp
          rcases hp with rfl | hp
          · subst hb
            refine ⟨⟨(Array.getElem?_eq_some_iff.1 hd).1, rfl⟩, fun x hx e => ?_⟩
            have := (h.box x hx).2
            rw [e, hd] at this
            cases this
          · exact h.past p hp b hb
        · obtain ⟨g1, g2⟩ := h.row r hr
          refine ⟨g1, fun g hg => ⟨(g2 g hg).1, fun p hp => ?_⟩⟩
          rw [List.mem_cons] at hp
          rcases hp with rfl | hp
          · intro hgD
            subst hgD
            rcases g1.2 with ⟨hn, _⟩ | ⟨g', cap, cur, hv, _, hh, _⟩
            · rw [hn] at hg
              simp [Value.ownBlock] at hg
            · rw [hv] at hg
              have hgg : g' = w.heap.size := by simpa [Value.ownBlock] using hg
              subst hgg
              rw [hd] at hh
              cases hh
          · exact (g2 g hg).2 p hp
        · rw [List.mem_cons] at hp
          rcases hp with rfl | hp
          · exact Nat.le_refl _
          · exact h.old p hp
      have hnD : ∀ p ∈ Ps, ¬ p.2 w.heap.size := fun p hp hb => by have := hP p hp _ hb; omega
      rintro e W2 ⟨⟨v, rfl⟩, (⟨ys, rfl, hi, hl, hk⟩ | ⟨pre, hpre, c, σx, hj, hi, hl, hk⟩)⟩
      · have h1 := turn I (o' := .loop { rec .ready none with state := .exhausted }) hi hl rfl (by omega)
        have h2 : (W2.putObj (w.heap.size + 1) (.loop { rec .ready none with state := .exhausted })).heap[w.heap.size]? = some (.deferred (some [])) := (World.putObj_heap_other (by omega)).trans hk
        have h3 := hdone w.heap.size (W2.putObj (w.heap.size + 1) (.loop { rec .ready none with state := .exhausted })) hBw h2 hnD _ _ (had.same rfl) (HW.same (fin h1 h2) rfl rfl)
        exact ⟨none, _, by have := run_endLoop (P := X.P) hl (by rw [hrec]; simp); rw [hrec] at this; exact this, by rw [hrec] at h3; exact h3⟩
      · have h1 := turn (fun _ : Unit => σx) (s := ()) (o' := .loop { rec .done (some c) with state := .exhausted }) hi hl rfl (by omega)
        have h2 : (W2.putObj (w.heap.size + 1) (.loop { rec .done (some c) with state := .exhausted })).heap[w.heap.size]? = some (.deferred (some [])) := (World.putObj_heap_other (by omega)).trans hk
        have h3 := hstop w.heap.size (W2.putObj (w.heap.size + 1) (.loop { rec .done (some c) with state := .exhausted })) c pre σx hBw h2 hnD hpre hj _ _ (had.same rfl) (HW.same (fin h1 h2) rfl rfl)
        exact ⟨some c, _, by have := run_endLoop (P := X.P) hl (by rw [hrec]; simp); rw [hrec] at this; exact this, by rw [hrec] at h3; rw [hro] at h3; exact h3⟩
end loop

end Go.E
