/- Sequences of pictures: films, the reference, and the walk of the law of flashes. -/
import Derived.Test.YtdbffbcobghbeaaGreatDoorColour53
import Derived.Test.YtdbffbcobghbeaaGreatDoorColour26
import Derived.Test.YtdbffbcobghbeaaGreatDoorEngAL
import Derived.Test.YtdbffbcobghbeaaGreatDoorColour28
import Derived.Test.YtdbffbcobghbeaaGreatDoorEngZ
namespace Go.Proofs.YtdbffbcobghbeaaGreatDoor
open Go.E Go.RowKit Go.Fl
attribute [local irreducible] G C S D Calls
set_option maxRecDepth 100000
set_option linter.unusedSimpArgs false
set_option linter.unusedVariables false

theorem gQ_p {l l' : List PV'} (h : l'.map (·.p) = l.map (·.p)) (k : Nat) : (gQ l' k).p = (gQ l k).p := by
  have e : ∀ l : List PV', (gQ l k).p = (l.map (·.p)).getD k zP := fun l => by
    unfold gQ
    rw [List.getD_eq_getElem?_getD, List.getD_eq_getElem?_getD, List.getElem?_map]
    cases l[k]? <;> rfl
  rw [e, e, h]
theorem len_p {l l' : List PV'} (h : l'.map (·.p) = l.map (·.p)) : l'.length = l.length := by
  have := congrArg List.length h
  simpa using this
theorem sqE_p {l l' : List PV'} (h : l'.map (·.p) = l.map (·.p)) : sqE l' = sqE l := by
  unfold sqE
  rw [len_p h]
  have : (fun k => firstL (sqL l' k)) = fun k => firstL (sqL l k) := funext fun k => by unfold sqL; rw [gQ_p h, gQ_p h]
  rw [this]
theorem flB_p {l l' : List PV'} (h : l'.map (·.p) = l.map (·.p)) (st : Nat) : flB l' st = flB l st := funext fun k => by
  unfold flB chF
  rw [gQ_p h, gQ_p h]
theorem flF_p {l l' : List PV'} (h : l'.map (·.p) = l.map (·.p)) (st : Nat) : flF l' st = flF l st := by
  unfold flF
  rw [len_p h, flB_p h]
theorem fsR_p {l l' : List PV'} (h : l'.map (·.p) = l.map (·.p)) (st : Nat) : fsR l' st = fsR l st := by
  unfold fsR fsE
  rw [sqE_p h, flF_p h]
theorem brR_p {l l' : List PV'} (h : l'.map (·.p) = l.map (·.p)) (st : Nat) (most win : Int) : brR l' st most win = brR l st most win := by
  unfold brR brE brF
  rw [sqE_p h, flF_p h, len_p h]
theorem HW.pastF {B : Nat} {w0 w : World} {Ps : Past} {σ : St} (hw : HW B w0 Ps σ w) : HW B w0 ((w, fun _ => False) :: Ps) σ w := by
  refine { below := hw.below, bsize := hw.bsize, nodup := hw.nodup, box := hw.box, past := fun p hp b hb => ?_, row := fun r hr => ?_, apart := hw.apart, old := fun p hp => ?_ }
  · rcases List.mem_cons.1 hp with rfl | hp
    · exact hb.elim
    · exact hw.past p hp b hb
  · obtain ⟨h1, h2⟩ := hw.row r hr
    refine ⟨h1, fun g hg => ⟨(h2 g hg).1, fun p hp => ?_⟩⟩
    rcases List.mem_cons.1 hp with rfl | hp
    · exact fun h => h
    · exact (h2 g hg).2 p hp
  · rcases List.mem_cons.1 hp with rfl | hp
    · exact Nat.le_refl _
    · exact hw.old p hp
theorem rdS_turn {B : Nat} {w0 w W : World} {Ps : Past} {σ : St} {S S' : Nat → Prop} {A : Option Addr} {xs : List Value} (hw : HW B w0 Ps σ w) (h : RdS S W A xs) (hp : (W, S) ∈ Ps) (hs : ∀ b, S b → b < w.heap.size → S' b) : RdS S' w A xs := by
  have hr := hw.rdm h hp
  rcases h with h | ⟨ad, e1, h2, h3⟩
  · exact .inl h
  · refine .inr ⟨ad, e1, hs _ h2 (hw.past _ hp _ h2).1.1, ?_⟩
    rcases hr with hr | ⟨ad', e2, h4⟩
    · rw [hr]; intro j u hu; simp at hu
    · rw [e1] at e2; cases e2; exact h4
/-- A list of pictures that a call has made. -/
def FilmR (w w' : World) (v : Value) (l : List PV') : Prop := ∃ (A : Option Addr) (c : Nat) (l' : List PV'), v = .slice A l.length c ∧ l'.map (·.p) = l.map (·.p) ∧ RdS (fun b => w.heap.size ≤ b ∧ b < w'.heap.size) w' A (l'.flatMap pvC) ∧ ∀ x ∈ l', RdS (fun b => w.heap.size ≤ b ∧ b < w'.heap.size) w' x.A (x.p.s.map (.float .f32))
theorem film_snoc {l l' : List PV'} {k : Nat} (hk : k < l.length) (h : l'.map (·.p) = (l.take k).map (·.p)) (A : Option Addr) (c : Nat) : (l' ++ [(⟨(gQ l k).p, A, c⟩ : PV')]).map (·.p) = (l.take (k + 1)).map (·.p) := by
  rw [List.map_append, h, List.take_succ_eq_append_getElem hk, List.map_append, gQ_at hk]
  rfl
theorem snoc_all {α : Type} {P : α → Prop} {l : List α} {a : α} (h : ∀ x ∈ l, P x) (ha : P a) : ∀ x ∈ l ++ [a], P x := by
  intro x hx
  rcases List.mem_append.1 hx with hx | hx
  · exact h x hx
  · obtain rfl : x = a := by simpa using hx
    exact ha
theorem take_p {l l' : List PV'} (h : l'.map (·.p) = (l.take l.length).map (·.p)) : l'.map (·.p) = l.map (·.p) := by rwa [List.take_length] at h


theorem sl_rd1 {w w' : World} {A : Option Addr} {n c : Nat} {xs : List Value} (h : Sl w w' (.slice A n c) n xs) : RdS (fun b => w.heap.size ≤ b ∧ b < w'.heap.size) w' A xs := by
  obtain ⟨A', c', e, h⟩ := h
  cases e
  exact h

set_option maxHeartbeats 1000000 in
/-- genlocklaw02.film -/
theorem lfilm_c (A : Option Addr) (c : Nat) (l : List PV') (hl : l.length ≤ 1000000) (hs : ∀ x ∈ l, x.p.s.length ≤ 1000000) (hAs : ∀ x ∈ l, x.A = none → x.p.s.length = 0 ∧ x.c = 0) (w : World) (hr : Rd w A (l.flatMap pvC)) (hrs : ∀ x ∈ l, Rd w x.A (x.p.s.map (.float .f32))) : Calls Tryz.prog 68 #[.slice A l.length c] w fun r w' => ∃ v, r = .returned v ∧ Below w.heap.size w w' ∧ FilmR w w' v l := by
  refine calls_of (args := [.slice A l.length c]) T_ok Tryz.func68 rfl Tryz.ntmps68 (Nat.le_of_ble_eq_true rfl) rfl ?_
  repeat' (first
 | (refine C_id ?_; first
 | refine C_seq ?_
 | refine C_region rfl ?_
 | refine C_block ?_
   )
 | (refine S_id ?_; first
 | refine S_nil ?_
 | refine S_run rfl rfl obQ obQ ?_
   )
 | (refine G_id ?_; first
 | refine G_then ?_
   )
   )
  refine C_row0 3 96 4 rfl ?_
  refine C_loopF (fun i : Nat × World × (Nat → Prop) × List PV' × Option Addr × Nat => ([(i.2.1, i.2.2.1), (w, fun b => b < w.heap.size)], (⟨[(3, .s (.r i.2.2.2.2.1 i.1 i.2.2.2.2.2 0)), (6, .s (.v (.slice A l.length c))), (7, .s (.v (.int .i64 l.length))), (8, .s (.v (.int .i64 i.1)))], [], [⟨96, 4, i.1, i.2.2.2.1.flatMap pvC, .slice i.2.2.2.2.1 i.1 i.2.2.2.2.2⟩]⟩ : St))) (fun i => i.1 ≤ l.length ∧ i.2.2.2.1.map (·.p) = (l.take i.1).map (·.p) ∧ (∀ x ∈ i.2.2.2.1, RdS i.2.2.1 i.2.1 x.A (x.p.s.map (.float .f32))) ∧ ∀ b, i.2.2.1 b → w.heap.size ≤ b) (fun i => l.length - i.1) (fun w1 => (0, w1, (fun _ => False), [], none, 0)) (fun w1 hw1 => ⟨⟨Nat.zero_le _, rfl, (fun x hx => by cases hx), (fun b hb => hb.elim)⟩, by exact ⟨_, rfl, obQ⟩, by exact HW.pastF (HW.same hw1 rfl rfl)⟩) (fun i hi => ?_)
  obtain ⟨k, W, S, l', A', c'⟩ := i
  obtain ⟨hk, hmp, hS, hB⟩ := hi
  dsimp only at hk hmp hS hB ⊢
  by_cases hlt : k < l.length
  · obtain ⟨ad, rfl⟩ := hr.some (by rw [pv_len]; omega)
    repeat' (first
 | (refine C_id ?_; first
 | refine C_seq ?_
 | refine C_region rfl ?_
 | refine C_block ?_
 | refine C_skip ?_
 | (refine C_cond rfl obQ (fun h => ?_) (fun h => ?_) <;> (try simp only [Bool.or_eq_true, Bool.and_eq_true, Bool.or_eq_false_iff, Bool.and_eq_false_iff, decide_eq_true_eq, decide_eq_false_iff_not, beq_iff_eq, bne_iff_ne, beq_eq_false_iff_ne, bne_eq_false_iff_eq, ne_eq, Decidable.not_not, List.cons.injEq, and_true, Bool.not_eq_true', Bool.not_eq_false', Int.not_lt, Int.not_le] at h) <;> (try (exfalso; omega)) <;> (try (exfalso; simp at h; done)) <;> (try (exfalso; simp only [not_true_eq_false, false_or, or_false] at h; omega)) <;> (try (exfalso; omega)))
     )
 | (refine S_id ?_; first
 | refine S_load rfl obQ rfl [.string (gQ l k).p.nm, .int .i64 (gQ l k).p.w, .int .i64 (gQ l k).p.h, .slice (gQ l k).A (gQ l k).p.s.length (gQ l k).c] (.past (w, fun b => b < w.heap.size) memQ _ _ hr.toS _ _ rfl rfl (gQ_idx hlt)) rfl (.inl ⟨rfl, rfl⟩) ?_
 | (refine S_callM (f := 56) rfl obQ (by kernel_rfl) (fun w hw => lown_c (gQ l k).p (gQ l k).A (gQ l k).c (hs _ (gQ_mem hlt)) (hAs _ (gQ_mem hlt)) w (hw.rdm (hrs _ (gQ_mem hlt)).toS memQ)) (fun w1O w2O vO hw1O hbO hRO => ?_); obtain ⟨AO, cO, rfl, hSO⟩ := hRO)
 | refine S_append rfl obQ rfl rfl rfl ⟨by decide, rfl⟩ rfl ⟨rfl, rfl, rfl, rfl⟩ [.string (gQ l k).p.nm, .int .i64 (gQ l k).p.w, .int .i64 (gQ l k).p.h, .slice AO (gQ l k).p.s.length cO] ⟨by decide, rfl⟩ (by simp [Value.oneCell']) (fun w hw => by first | exact hw.src (i := 0) rfl rfl | exact hw.src (i := 1) rfl rfl | exact hw.src (i := 2) rfl rfl | exact hw.src (i := 3) rfl rfl | exact hw.src (i := 4) rfl rfl | exact hw.src (i := 5) rfl rfl | exact hw.src (i := 6) rfl rfl | exact hw.src (i := 7) rfl rfl | exact hw.src (i := 8) rfl rfl) (by unfold maxLen; dsimp only; omega) (fun gb cap' => ⟨_, rfl, ?_⟩)
 | refine S_nil ?_
 | refine S_run rfl rfl obQ obQ ?_
 | refine S_box (fun b0 => ⟨_, _, rfl, obQ, ?_⟩)
 | refine S_slice (fun b => ⟨_, _, rfl, obQ, ?_⟩)
     )
 | (refine G_id ?_; first
 | refine G_loopF (fun w3 => (k + 1, w3, fun b => (w1O.heap.size ≤ b ∧ b < w2O.heap.size) ∨ S b, l' ++ [⟨(gQ l k).p, AO, cO⟩], some ⟨gb, 0, none⟩, cap')) (fun w3 hw3 => ⟨⟨hlt, film_snoc hlt hmp AO cO, snoc_all (fun x hx => rdS_turn hw3 (hS x hx) memQ (fun b hb _ => .inr hb)) (rdS_turn hw3 hSO memQ (fun b hb _ => .inl hb)), (fun b hb => hb.elim (fun h => Nat.le_trans (show w.heap.size ≤ w1O.heap.size from hw1O.bsize) h.1) (hB b))⟩, (by show l.length - (k + 1) < l.length - k; omega), (by exact ⟨_, rfl, obQ⟩), (by exact HW.join (W1 := w2O) (S1 := (fun b => w1O.heap.size ≤ b ∧ b < w2O.heap.size)) (W2 := W) (S2 := S) (Serves.hw (Ps' := (w2O, (fun b => w1O.heap.size ≤ b ∧ b < w2O.heap.size)) :: (W, S) :: [(w, fun b => b < w.heap.size)]) ⟨⟨_, rfl, obQ⟩, ⟨_, rfl⟩, (by dsimp only; rw [List.flatMap_append]; rfl), psQ⟩ hw3))⟩)
 | refine G_then ?_
 | refine G_block ?_
     )
     )
  · obtain rfl : k = l.length := by omega
    repeat' (first
 | (refine C_id ?_; first
 | refine C_seq ?_
 | refine C_region rfl ?_
 | refine C_exit ?_
 | refine C_ret0 ?_
 | (refine C_cond rfl obQ (fun h => ?_) (fun h => ?_) <;> (try simp only [Bool.or_eq_true, Bool.and_eq_true, Bool.or_eq_false_iff, Bool.and_eq_false_iff, decide_eq_true_eq, decide_eq_false_iff_not, beq_iff_eq, bne_iff_ne, beq_eq_false_iff_ne, bne_eq_false_iff_eq, ne_eq, Decidable.not_not, List.cons.injEq, and_true, Bool.not_eq_true', Bool.not_eq_false', Int.not_lt, Int.not_le] at h) <;> (try (exfalso; omega)) <;> (try (exfalso; simp at h; done)) <;> (try (exfalso; simp only [not_true_eq_false, false_or, or_false] at h; omega)) <;> (try (exfalso; omega)))
     )
 | (refine S_id ?_; first
 | refine S_nil ?_
 | refine S_run rfl rfl obQ obQ ?_
     )
 | (refine G_id ?_; first
 | refine G_then ?_
 | refine G_blockX ?_
 | refine G_thenX ?_
 | refine G_ret rfl obQ (fun w2 hw => ⟨_, rfl, hw.below, A', c', l', rfl, take_p hmp, sl_rd1 (HW.rowSl (i := 0) hw rfl rfl rfl rfl), fun x hx => rdS_turn hw (hS x hx) memQ (fun b hb h2 => ⟨hB b hb, h2⟩)⟩)
     )
     )

/-- A short sequence. -/
def shortQ (l : List PV') : Bool := (l.all fun x => shortB x.p) && (decide ((l.length : Int) ≤ 12) || ((l.length : Int) == 257))
theorem shortQ_ok {l : List PV'} (h : shortQ l = true) : l.length ≤ 257 ∧ ∀ x ∈ l, x.p.nm.size ≤ 40 ∧ x.p.s.length ≤ 160 := by
  simp only [shortQ, Bool.and_eq_true, List.all_eq_true, Bool.or_eq_true, decide_eq_true_eq, beq_iff_eq] at h
  exact ⟨by omega, fun x hx => shortB_ok (h.1 x hx)⟩
theorem shortQ_no {l : List PV'} {k : Nat} (hk : k < l.length) (h : shortB (gQ l k).p = false) : shortQ l = false := by
  have : (l.all fun x => shortB x.p) = false := by
    rw [List.all_eq_false]
    exact ⟨gQ l k, gQ_mem hk, by simp [h]⟩
  unfold shortQ
  rw [this, Bool.false_and]
theorem shortQ_yes {l : List PV'} (h : ∀ k, k < l.length → shortB (gQ l k).p = true) : shortQ l = (decide ((l.length : Int) ≤ 12) || ((l.length : Int) == 257)) := by
  have : (l.all fun x => shortB x.p) = true := by
    rw [List.all_eq_true]
    intro x hx
    obtain ⟨k, hk, rfl⟩ := List.getElem_of_mem hx
    have := h k hk
    rwa [gQ_at hk] at this
  unfold shortQ
  rw [this, Bool.true_and]

set_option maxHeartbeats 1000000 in
/-- genlockref02.ShortSequence -/
theorem rShortQ_c (A : Option Addr) (c : Nat) (l : List PV') (hl : l.length ≤ maxLen) (v : Bool) (hv : shortQ l = v) (w : World) (hr : Rd w A (l.flatMap pvC)) : Calls Tryz.prog 66 #[.slice A l.length c] w fun r w' => r = .returned (.bool v) ∧ Below w.heap.size w w' := by
  refine calls_of (args := [.slice A l.length c]) T_ok Tryz.func66 rfl Tryz.ntmps66 (Nat.le_of_ble_eq_true rfl) rfl ?_
  subst hv
  unfold maxLen at hl
  repeat' (first
 | (refine C_id ?_; first
 | refine C_seq ?_
 | refine C_region rfl ?_
 | refine C_block ?_
 | refine C_skip ?_
 | refine C_ret0 ?_
 | (refine C_cond rfl obQ (fun h => ?_) (fun h => ?_) <;> (try simp only [Bool.or_eq_true, Bool.and_eq_true, Bool.or_eq_false_iff, Bool.and_eq_false_iff, decide_eq_true_eq, decide_eq_false_iff_not, beq_iff_eq, bne_iff_ne, beq_eq_false_iff_ne, bne_eq_false_iff_eq, ne_eq, Decidable.not_not, List.cons.injEq, and_true, Bool.not_eq_true', Bool.not_eq_false', Int.not_lt, Int.not_le] at h))
   )
 | (refine S_id ?_; first
 | refine S_nil ?_
 | refine S_run rfl rfl obQ obQ ?_
   )
 | (refine G_id ?_; first
 | refine G_then ?_
 | refine G_thenR ?_
 | refine G_ret rfl obQ (fun w hw => ⟨?_, hw.below⟩)
   )
   )
  refine C_loopS (fun k : Nat => ⟨[(3, .s (.v (.int .i64 k))), (0, .s (.v (.slice A l.length c)))], [], []⟩) (fun k => k ≤ l.length ∧ ∀ j, j < k → shortB (gQ l j).p = true) (fun k => l.length - k) 0 ⟨Nat.zero_le _, fun j hj => absurd hj (Nat.not_lt_zero j)⟩ ?_ (fun k hk => ?_)
  · exact ⟨⟨_, rfl, obQ⟩, ⟨_, rfl⟩, rfl, pstQ⟩
  by_cases hlt : k < l.length
  · obtain ⟨ad, rfl⟩ := hr.some (by rw [pv_len]; omega)
    cases hsb : shortB (gQ l k).p
    · rw [shortQ_no hlt hsb]
      repeat' (first
 | (refine C_id ?_; first
 | refine C_seq ?_
 | refine C_region rfl ?_
 | refine C_block ?_
 | refine C_skip ?_
 | refine C_ret0 ?_
 | refine C_condT rfl obQ ?_
 | (refine C_cond rfl obQ (fun h => ?_) (fun h => ?_) <;> (try simp only [Bool.or_eq_true, Bool.and_eq_true, Bool.or_eq_false_iff, Bool.and_eq_false_iff, decide_eq_true_eq, decide_eq_false_iff_not, beq_iff_eq, bne_iff_ne, beq_eq_false_iff_ne, bne_eq_false_iff_eq, ne_eq, Decidable.not_not, List.cons.injEq, and_true, Bool.not_eq_true', Bool.not_eq_false', Int.not_lt, Int.not_le] at h) <;> (try (exfalso; omega)) <;> (try (exfalso; simp at h; done)) <;> (try (exfalso; simp only [not_true_eq_false, false_or, or_false] at h; omega)) <;> (try (exfalso; first | omega | (simp at h; done))))
       )
 | (refine S_id ?_; first
 | refine S_load rfl obQ rfl [.string (gQ l k).p.nm, .int .i64 (gQ l k).p.w, .int .i64 (gQ l k).p.h, .slice (gQ l k).A (gQ l k).p.s.length (gQ l k).c] (.past (w, fun b => b < w.heap.size) memQ _ _ hr.toS _ _ rfl rfl (gQ_idx hlt)) rfl (.inl ⟨rfl, rfl⟩) ?_
 | refine S_nil ?_
 | refine S_run rfl rfl obQ obQ ?_
 | refine S_call (f := 54) rfl obQ (by kernel_rfl) (fun w hw => rShortPicture_c (gQ l k).p _ _ _ hsb w) ?_
       )
 | (refine G_id ?_; first
 | refine G_then ?_
 | refine G_blockR ?_
 | refine G_thenR ?_
 | refine G_ret rfl obQ (fun w hw => ⟨?_, hw.below⟩)
       )
       )
      all_goals rfl
    · repeat' (first
 | (refine C_id ?_; first
 | refine C_seq ?_
 | refine C_region rfl ?_
 | refine C_block ?_
 | refine C_skip ?_
 | refine C_condF rfl obQ ?_
 | (refine C_cond rfl obQ (fun h => ?_) (fun h => ?_) <;> (try simp only [Bool.or_eq_true, Bool.and_eq_true, Bool.or_eq_false_iff, Bool.and_eq_false_iff, decide_eq_true_eq, decide_eq_false_iff_not, beq_iff_eq, bne_iff_ne, beq_eq_false_iff_ne, bne_eq_false_iff_eq, ne_eq, Decidable.not_not, List.cons.injEq, and_true, Bool.not_eq_true', Bool.not_eq_false', Int.not_lt, Int.not_le] at h) <;> (try (exfalso; omega)) <;> (try (exfalso; simp at h; done)) <;> (try (exfalso; simp only [not_true_eq_false, false_or, or_false] at h; omega)) <;> (try (exfalso; first | omega | (simp at h; done))))
       )
 | (refine S_id ?_; first
 | refine S_load rfl obQ rfl [.string (gQ l k).p.nm, .int .i64 (gQ l k).p.w, .int .i64 (gQ l k).p.h, .slice (gQ l k).A (gQ l k).p.s.length (gQ l k).c] (.past (w, fun b => b < w.heap.size) memQ _ _ hr.toS _ _ rfl rfl (gQ_idx hlt)) rfl (.inl ⟨rfl, rfl⟩) ?_
 | refine S_nil ?_
 | refine S_run rfl rfl obQ obQ ?_
 | refine S_call (f := 54) rfl obQ (by kernel_rfl) (fun w hw => rShortPicture_c (gQ l k).p _ _ _ hsb w) ?_
       )
 | (refine G_id ?_; first
 | refine G_loop (k + 1) ⟨hlt, fun j hj => (Nat.lt_or_ge j k).elim (hk.2 j) (fun h1 => by have e : j = k := (by omega); rw [e]; exact hsb)⟩ (by omega) ⟨⟨_, rfl, obQ⟩, ⟨_, rfl⟩, rfl, pstQ⟩
 | refine G_then ?_
 | refine G_block ?_
       )
       )
  · rw [shortQ_yes (fun j hj => hk.2 j (by omega))]
    obtain rfl : k = l.length := by omega
    repeat' (first
 | (refine C_id ?_; first
 | refine C_seq ?_
 | refine C_region rfl ?_
 | refine C_exit ?_
 | refine C_ret0 ?_
 | (refine C_cond rfl obQ (fun h => ?_) (fun h => ?_) <;> (try simp only [Bool.or_eq_true, Bool.and_eq_true, Bool.or_eq_false_iff, Bool.and_eq_false_iff, decide_eq_true_eq, decide_eq_false_iff_not, beq_iff_eq, bne_iff_ne, beq_eq_false_iff_ne, bne_eq_false_iff_eq, ne_eq, Decidable.not_not, List.cons.injEq, and_true, Bool.not_eq_true', Bool.not_eq_false', Int.not_lt, Int.not_le] at h) <;> (try (exfalso; omega)) <;> (try (exfalso; simp at h; done)) <;> (try (exfalso; simp only [not_true_eq_false, false_or, or_false] at h; omega)) <;> (try (exfalso; omega)))
     )
 | (refine S_id ?_; first
 | refine S_nil ?_
 | refine S_run rfl rfl obQ obQ ?_
     )
 | (refine G_id ?_; first
 | refine G_then ?_
 | refine G_blockX ?_
 | refine G_thenX ?_
 | refine G_ret rfl obQ (fun w hw => ⟨?_, hw.below⟩)
     )
     )
    all_goals rfl

theorem sq_1 {l : List PV'} {k : Nat} (h : ¬ picE (gQ l k).p = 0) : firstL (sqL l k) = picE (gQ l k).p := by unfold sqL; rw [firstL, if_neg h]
theorem sq_2 {l : List PV'} {k : Nat} (h0 : picE (gQ l k).p = 0) (h : ¬ (gQ l k).p.w = (gQ l 0).p.w ∨ ¬ (gQ l k).p.h = (gQ l 0).p.h) : firstL (sqL l k) = 2 := by
  have e : ((gQ l k).p.w != (gQ l 0).p.w || (gQ l k).p.h != (gQ l 0).p.h) = true := by
    simp only [Bool.or_eq_true, bne_iff_ne]
    exact h
  unfold sqL
  rw [firstL, if_pos h0, e]
  rfl
theorem sq_3 {l : List PV'} {k : Nat} (h0 : picE (gQ l k).p = 0) (h : (gQ l k).p.w = (gQ l 0).p.w ∧ (gQ l k).p.h = (gQ l 0).p.h) : firstL (sqL l k) = 0 := by
  have e : ((gQ l k).p.w != (gQ l 0).p.w || (gQ l k).p.h != (gQ l 0).p.h) = false := by
    simp only [Bool.or_eq_false_iff, bne_eq_false_iff_eq]
    exact h
  unfold sqL
  rw [firstL, if_pos h0, e]
  rfl

set_option maxHeartbeats 1000000 in
/-- genlockref02.CheckSequence -/
theorem rCheckSeq_c (A : Option Addr) (c : Nat) (l : List PV') (hl : l.length ≤ 1000000) (hs : ∀ x ∈ l, x.p.s.length ≤ 1000000) (hnm : ∀ x ∈ l, x.p.nm.size ≤ maxLen) (w : World) (hr : Rd w A (l.flatMap pvC)) (hrs : ∀ x ∈ l, Rd w x.A (x.p.s.map (.float .f32))) : Calls Tryz.prog 70 #[.slice A l.length c] w fun r w' => r = .returned (.int .i64 (sqE l)) ∧ Below w.heap.size w w' := by
  refine calls_of (args := [.slice A l.length c]) T_ok Tryz.func70 rfl Tryz.ntmps70 (Nat.le_of_ble_eq_true rfl) rfl ?_
  repeat' (first
 | (refine C_id ?_; first
 | refine C_seq ?_
 | refine C_region rfl ?_
 | refine C_block ?_
 | refine C_skip ?_
 | refine C_ret0 ?_
 | (refine C_cond rfl obQ (fun h => ?_) (fun h => ?_) <;> (try simp only [Bool.or_eq_true, Bool.and_eq_true, Bool.or_eq_false_iff, Bool.and_eq_false_iff, decide_eq_true_eq, decide_eq_false_iff_not, beq_iff_eq, bne_iff_ne, beq_eq_false_iff_ne, bne_eq_false_iff_eq, ne_eq, Decidable.not_not, List.cons.injEq, and_true, Bool.not_eq_true', Bool.not_eq_false', Int.not_lt, Int.not_le] at h))
 )
 | (refine S_id ?_; first
 | refine S_nil ?_
 | refine S_run rfl rfl obQ obQ ?_
 )
 | (refine G_id ?_; first
 | refine G_then ?_
 | refine G_thenR ?_
 | refine G_ret rfl obQ (fun w hw => ⟨?_, hw.below⟩)
 )
 )
  · exact rI (sqE_1 (by omega)).symm
  have hP := sqE_2 (l := l) (by omega)
  refine C_loopS (fun k : Nat => ⟨[(3, .s (.v (.int .i64 k))), (0, .s (.v (.slice A l.length c)))], [], []⟩) (fun k => k ≤ l.length ∧ sqE l = firstL (((List.range l.length).map fun k => firstL (sqL l k)).drop k)) (fun k => l.length - k) 0 ⟨Nat.zero_le _, hP⟩ ?_ (fun k hk => ?_)
  · exact ⟨⟨_, rfl, obQ⟩, ⟨_, rfl⟩, rfl, pstQ⟩
  by_cases hlt : k < l.length
  · obtain ⟨ad, rfl⟩ := hr.some (by rw [pv_len]; omega)
    have hfd := range_drop (f := fun k => firstL (sqL l k)) hlt
    (try dsimp only at hfd)
    repeat' (first
 | (refine C_id ?_; first
 | refine C_seq ?_
 | refine C_region rfl ?_
 | refine C_block ?_
 | refine C_skip ?_
 | refine C_ret0 ?_
 | refine C_draw (id := 9) rfl mixed (by kernel_rfl) ?_
 | (refine C_cond rfl obQ (fun h => ?_) (fun h => ?_) <;> (try simp only [Bool.or_eq_true, Bool.and_eq_true, Bool.or_eq_false_iff, Bool.and_eq_false_iff, decide_eq_true_eq, decide_eq_false_iff_not, beq_iff_eq, bne_iff_ne, beq_eq_false_iff_ne, bne_eq_false_iff_eq, ne_eq, Decidable.not_not, List.cons.injEq, and_true, Bool.not_eq_true', Bool.not_eq_false', Int.not_lt, Int.not_le] at h) <;> (try (exfalso; omega)))
     )
 | (refine S_id ?_; first
 | refine S_load rfl obQ rfl [.string (gQ l k).p.nm, .int .i64 (gQ l k).p.w, .int .i64 (gQ l k).p.h, .slice (gQ l k).A (gQ l k).p.s.length (gQ l k).c] (.past (w, fun b => b < w.heap.size) memQ _ _ hr.toS _ _ rfl rfl (gQ_idx hlt)) rfl (.inl ⟨rfl, rfl⟩) ?_
 | refine S_nil ?_
 | refine S_run rfl rfl obQ obQ ?_
 | refine S_call (f := 57) rfl obQ (by kernel_rfl) (fun w hw => rCheckPicture_c (gQ l k).p (gQ l k).A (gQ l k).c (hs _ (gQ_mem hlt)) (hnm _ (gQ_mem hlt)) w (hw.rdm (hrs _ (gQ_mem hlt)).toS memQ)) ?_
     )
 | (refine D_id ?_; first
 | refine D_load rfl obQ rfl [.int .i64 (gQ l k).p.w] (.past _ memQ _ _ hr.toS _ _ rfl (add_of_add _ _ _) (gQ_f (z := (k : Int)) (k := k) (by omega) (by omega) 1 rfl)) rfl (.inr ⟨rfl, rfl⟩) ?_
 | refine D_load rfl obQ rfl [.int .i64 (gQ l 0).p.w] (.past _ memQ _ _ hr.toS _ _ rfl (add_of_add _ _ _) (gQ_f (z := 0) (k := 0) (by omega) (by omega) 1 rfl)) rfl (.inr ⟨rfl, rfl⟩) ?_
 | refine D_loadG rfl rfl (fun hg => obQ) rfl [.int .i64 (gQ l k).p.h] (fun hg => .past _ memQ _ _ hr.toS _ _ rfl (add_of_add _ _ _) (gQ_f (z := (k : Int)) (k := k) (by omega) (by omega) 2 rfl)) rfl (.inr ⟨rfl, rfl⟩) ?_
 | refine D_loadG rfl rfl (fun hg => obQ) rfl [.int .i64 (gQ l 0).p.h] (fun hg => .past _ memQ _ _ hr.toS _ _ rfl (add_of_add _ _ _) (gQ_f (z := 0) (k := 0) (by omega) (by omega) 2 rfl)) rfl (.inr ⟨rfl, rfl⟩) ?_
 | refine D_nil ?_
 | refine D_run rfl rfl obQ obQ ?_
     )
 | (refine G_id ?_; first
 | refine G_loop (k + 1) ?_ (by omega) ⟨⟨_, rfl, obQ⟩, ⟨_, rfl⟩, rfl, pstQ⟩
 | refine G_then ?_
 | refine G_block ?_
 | refine G_blockR ?_
 | refine G_thenR ?_
 | refine G_ret rfl obQ (fun w hw => ⟨?_, hw.below⟩)
     )
     )
    · have e := sq_1 (by assumption)
      exact rI (by rw [hk.2, hfd, if_neg (by rw [e]; assumption), e])
    · have e := sq_2 (by assumption) (by assumption)
      exact rI (by rw [hk.2, hfd, if_neg (by rw [e]; omega), e])
    · have e := sq_3 (by assumption) (by assumption)
      exact ⟨by omega, by rw [hk.2, hfd, if_pos e]⟩
  · obtain rfl : k = l.length := by omega
    repeat' (first
 | (refine C_id ?_; first
 | refine C_seq ?_
 | refine C_region rfl ?_
 | refine C_exit ?_
 | refine C_ret0 ?_
 | (refine C_cond rfl obQ (fun h => ?_) (fun h => ?_) <;> (try simp only [Bool.or_eq_true, Bool.and_eq_true, Bool.or_eq_false_iff, Bool.and_eq_false_iff, decide_eq_true_eq, decide_eq_false_iff_not, beq_iff_eq, bne_iff_ne, beq_eq_false_iff_ne, bne_eq_false_iff_eq, ne_eq, Decidable.not_not, List.cons.injEq, and_true, Bool.not_eq_true', Bool.not_eq_false', Int.not_lt, Int.not_le] at h) <;> (try (exfalso; omega)))
     )
 | (refine S_id ?_; first
 | refine S_nil ?_
 | refine S_run rfl rfl obQ obQ ?_
     )
 | (refine G_id ?_; first
 | refine G_then ?_
 | refine G_blockX ?_
 | refine G_thenX ?_
 | refine G_ret rfl obQ (fun w hw => ⟨?_, hw.below⟩)
     )
     )
    exact rI (by rw [hk.2, range_end])

set_option maxHeartbeats 400000 in
/-- genlockref02.CheckStep -/
theorem rCheckStep_c (st : Nat) (w : World) : Calls Tryz.prog 71 #[.float .f32 st] w fun r w' => r = .returned (.int .i64 (stE st)) ∧ Below w.heap.size w w' := by
  refine calls_of (args := [.float .f32 st]) T_ok Tryz.func71 rfl Tryz.ntmps71 (Nat.le_of_ble_eq_true rfl) rfl ?_
  repeat' (first
 | (refine C_id ?_; first
 | refine C_seq ?_
 | refine C_region rfl ?_
 | refine C_ret0 ?_
 )
 | (refine S_id ?_; first
 | refine S_pure (binX_pure rfl obQ (fun w => fl_lt .f32 _ _ _ _ _ w)) ?_
 | refine S_nil ?_
 | refine S_run rfl rfl obQ obQ ?_
 | refine S_slice (fun b => ⟨_, _, rfl, obQ, ?_⟩)
 | refine S_call (f := 101) rfl obQ (by kernel_rfl) (fun w hw => rCheckSample_c st w) ?_
 | refine S_call (f := 119) rfl obQ (by kernel_rfl) (fun w hw => rWhen_c _ _ w) ?_
 | refine S_call (f := 117) rfl obQ (by kernel_rfl) (fun w hw => rFirst_c _ _ [smpE st, wh (FloatKind.f32.format.order st 0 == some .lt) 3] (by simp) w (.inr ⟨_, rfl, hw.src (i := 0) rfl rfl⟩)) ?_
 )
 | (refine G_id ?_; first
 | refine G_then ?_
 | refine G_ret rfl obQ (fun w hw => ⟨?_, hw.below⟩)
 )
 )
  rfl

set_option maxHeartbeats 400000 in
/-- genlockref02.total -/
theorem rTotal_c (p : Pic) (A : Option Addr) (c : Nat) (hs : p.s.length ≤ 1000000) (hp : ∀ b ∈ p.s, Smp b) (w : World) (hr : Rd w A (p.s.map (.float .f32))) : Calls Tryz.prog 152 #[.agg #[.string p.nm, .int .i64 p.w, .int .i64 p.h, .slice A p.s.length c]] w fun r w' => r = .returned (.int .i64 (totF p.s)) ∧ Below w.heap.size w w' := by
  refine calls_of (args := [.agg #[.string p.nm, .int .i64 p.w, .int .i64 p.h, .slice A p.s.length c]]) T_ok Tryz.func152 rfl Tryz.ntmps152 (Nat.le_of_ble_eq_true rfl) rfl ?_
  repeat' (first
 | (refine C_id ?_; first
 | refine C_seq ?_
 | refine C_region rfl ?_
 | refine C_block ?_
 | refine C_ret0 ?_
 )
 | (refine S_id ?_; first
 | refine S_nil ?_
 | refine S_run rfl rfl obQ obQ ?_
 | refine S_box (fun b => ⟨_, _, rfl, obQ, ?_⟩)
 )
 | (refine G_id ?_; first
 | refine G_then ?_
 | refine G_ret rfl obQ (fun w hw => ⟨?_, hw.below⟩)
 )
 )
  obtain ⟨b1, rfl⟩ : ∃ z, z = b := ⟨b, rfl⟩
  refine C_loopS (fun k : Nat => ⟨[(4, .s (.v (.int .i64 k))), (1, .s (.p b1 0 0)), (3, .s (.v (.int .i64 (totF (p.s.take k)))))], [⟨b1, 93, [.v (.string p.nm), .v (.int .i64 p.w), .v (.int .i64 p.h), .v (.slice A p.s.length c)]⟩], []⟩) (fun k => k ≤ p.s.length) (fun k => p.s.length - k) 0 (Nat.zero_le _) ?_ (fun k hk => ?_)
  · exact ⟨⟨_, rfl, obQ⟩, ⟨_, rfl⟩, rfl, pstQ⟩
  have hk' : k ≤ p.s.length := hk
  by_cases hlt : k < p.s.length
  · obtain ⟨ad, rfl⟩ := hr.some (by simp; omega)
    have hsm := hp _ (gB_mem hlt)
    have hlv := hsm.lv
    have ht := tot_take hlt
    have hb := tot_bd (s := p.s.take k) fun b hb => hp b (List.mem_of_mem_take hb)
    have htl : (p.s.take k).length = k := by simp; omega
    rw [htl] at hb
    repeat' (first
 | (refine C_id ?_; first
 | refine C_seq ?_
 | refine C_region rfl ?_
 | refine C_block ?_
 | refine C_skip ?_
 | (refine C_cond rfl obQ (fun h => ?_) (fun h => ?_) <;> (try simp only [Bool.or_eq_true, Bool.and_eq_true, Bool.or_eq_false_iff, Bool.and_eq_false_iff, decide_eq_true_eq, decide_eq_false_iff_not, beq_iff_eq, bne_iff_ne, beq_eq_false_iff_ne, bne_eq_false_iff_eq, ne_eq, Decidable.not_not, List.cons.injEq, and_true, Bool.not_eq_true', Bool.not_eq_false', Int.not_lt, Int.not_le] at h) <;> (try (exfalso; omega)))
     )
 | (refine S_id ?_; first
 | refine S_load rfl obQ rfl [.float .f32 (gB p.s k)] (.past _ memQ _ _ hr.toS _ _ rfl rfl (gB_idx hlt)) rfl (.inr ⟨rfl, rfl⟩) ?_
 | refine S_nil ?_
 | refine S_run rfl rfl obQ obQ ?_
 | refine S_call (f := 98) rfl obQ (by kernel_rfl) (fun w hw => sixteenths_c (gB p.s k) hsm.fin hsm.bd w) ?_
     )
 | (refine G_id ?_; first
 | refine G_loop (k + 1) (show k + 1 ≤ p.s.length by omega) (by show p.s.length - (k + 1) < p.s.length - k; omega) (by rw [ht]; exact ⟨⟨_, rfl, obQ⟩, ⟨_, rfl⟩, rfl, pstQ⟩)
 | refine G_then ?_
 | refine G_block ?_
     )
     )
  · obtain rfl : k = p.s.length := by omega
    repeat' (first
 | (refine C_id ?_; first
 | refine C_seq ?_
 | refine C_region rfl ?_
 | refine C_exit ?_
 | refine C_ret0 ?_
 | (refine C_cond rfl obQ (fun h => ?_) (fun h => ?_) <;> (try simp only [Bool.or_eq_true, Bool.and_eq_true, Bool.or_eq_false_iff, Bool.and_eq_false_iff, decide_eq_true_eq, decide_eq_false_iff_not, beq_iff_eq, bne_iff_ne, beq_eq_false_iff_ne, bne_eq_false_iff_eq, ne_eq, Decidable.not_not, List.cons.injEq, and_true, Bool.not_eq_true', Bool.not_eq_false', Int.not_lt, Int.not_le] at h) <;> (try (exfalso; omega)))
     )
 | (refine S_id ?_; first
 | refine S_nil ?_
 | refine S_run rfl rfl obQ obQ ?_
     )
 | (refine G_id ?_; first
 | refine G_then ?_
 | refine G_blockX ?_
 | refine G_thenX ?_
 | refine G_ret rfl obQ (fun w hw => ⟨?_, hw.below⟩)
     )
     )
    exact rI (by rw [List.take_length])

theorem gQ_idxZ {l : List PV'} {k : Nat} {z : Int} (e : z = k) (h : k < l.length) : ∀ (j : Nat) (u : Value), (pvC (gQ l k))[j]? = some u → (l.flatMap pvC)[(z.toNat * 4 + j)]? = some u := by
  subst e
  exact gQ_idx h

set_option maxHeartbeats 1000000 in
/-- genlockref02.Flashes -/
theorem rFlashes_c (A : Option Addr) (c : Nat) (l : List PV') (hs : ∀ x ∈ l, x.p.s.length ≤ 1000000) (st : Nat) (hq : sqE l = 0) (hst : stE st = 0) (w : World) (hr : Rd w A (l.flatMap pvC)) (hrs : ∀ x ∈ l, Rd w x.A (x.p.s.map (.float .f32))) : Calls Tryz.prog 72 #[.slice A l.length c, .float .f32 st] w fun r w' => ∃ v, r = .returned v ∧ Below w.heap.size w w' ∧ Sl w w' v (flF l st).length (natC (flF l st)) := by
  refine calls_of (args := [.slice A l.length c, .float .f32 st]) T_ok Tryz.func72 rfl Tryz.ntmps72 (Nat.le_of_ble_eq_true rfl) rfl ?_
  have hl := (sqE_ok hq).1
  obtain ⟨hss, hs0⟩ := stE_ok hst
  have hsl := hss.lv
  repeat' (first
 | (refine C_id ?_; first
 | refine C_seq ?_
 | refine C_region rfl ?_
 | refine C_block ?_
   )
 | (refine S_id ?_; first
 | refine S_nil ?_
 | refine S_run rfl rfl obQ obQ ?_
   )
 | (refine G_id ?_; first
 | refine G_then ?_
   )
   )
  refine C_row0 5 3 1 rfl ?_
  by_cases hl0 : l.length = 0
  · have e0 : flF l st = [] := by unfold flF; rw [hl0]; rfl
    rw [e0]
    refine C_loopS (fun k : Nat => ⟨[(5, .s (.r none 0 0 0)), (6, .s (.v (.int .i64 1))), (0, .s (.v (.slice A l.length c)))], [], [⟨3, 1, 0, [], .slice none 0 0⟩]⟩) (fun k => k = 0) (fun k => k) 0 rfl ?_ (fun k hk => ?_)
    · exact ⟨⟨_, rfl, obQ⟩, ⟨_, rfl⟩, rfl, pstQ⟩
    repeat' (first
 | (refine C_id ?_; first
 | refine C_seq ?_
 | refine C_region rfl ?_
 | refine C_exit ?_
 | refine C_ret0 ?_
 | (refine C_cond rfl obQ (fun h => ?_) (fun h => ?_) <;> (try simp only [Bool.or_eq_true, Bool.and_eq_true, Bool.or_eq_false_iff, Bool.and_eq_false_iff, decide_eq_true_eq, decide_eq_false_iff_not, beq_iff_eq, bne_iff_ne, beq_eq_false_iff_ne, bne_eq_false_iff_eq, ne_eq, Decidable.not_not, List.cons.injEq, and_true, Bool.not_eq_true', Bool.not_eq_false', Int.not_lt, Int.not_le] at h) <;> (try (exfalso; omega)) <;> (try (exfalso; simp at h; done)) <;> (try (exfalso; simp only [not_true_eq_false, false_or, or_false] at h; omega)) <;> (try (exfalso; omega)))
     )
 | (refine S_id ?_; first
 | refine S_nil ?_
 | refine S_run rfl rfl obQ obQ ?_
     )
 | (refine G_id ?_; first
 | refine G_then ?_
 | refine G_blockX ?_
 | refine G_thenX ?_
 | refine G_ret rfl obQ (fun w2 hw => ⟨_, rfl, hw.below, HW.rowSl (i := 0) hw rfl rfl rfl rfl⟩)
     )
     )
  refine C_loopS (fun i : Nat × Option Addr × Nat => ⟨[(5, .s (.r i.2.1 (fsL l st i.1).length i.2.2 0)), (6, .s (.v (.int .i64 i.1))), (0, .s (.v (.slice A l.length c))), (1, .s (.v (.float .f32 st)))], [], [⟨3, 1, (fsL l st i.1).length, natC (fsL l st i.1), .slice i.2.1 (fsL l st i.1).length i.2.2⟩]⟩) (fun i => 1 ≤ i.1 ∧ i.1 ≤ l.length) (fun i => l.length - i.1) (1, none, 0) ⟨Nat.le_refl _, by show 1 ≤ l.length; omega⟩ ?_ (fun i hi => ?_)
  · dsimp only
    rw [show fsL l st 1 = [] by rw [show (1 : Nat) = 0 + 1 from rfl, fsL_f (flB_0 l st)]; rfl]
    exact ⟨⟨_, rfl, obQ⟩, ⟨_, rfl⟩, rfl, pstQ⟩
  obtain ⟨k, A', c'⟩ := i
  have hi1 : 1 ≤ k := hi.1
  have hi' : k ≤ l.length := hi.2
  dsimp only
  have hfl : (fsL l st k).length ≤ k := filter_len (flB l st) k
  by_cases hlt : k < l.length
  · obtain ⟨ad, rfl⟩ := hr.some (by rw [pv_len]; omega)
    have hp := gQ_F hq hlt
    have hp1 := gQ_F hq (k := k - 1) (by omega)
    have hb := tot_bd hp.s
    have hb1 := tot_bd hp1.s
    have hn := pic_len hp
    have hn1 := pic_len hp1
    have hm := mul_ab (a := lvl st) (x := ((gQ l k).p.s.length : Int)) (A := 16384) (X := 4096) hsl (by omega)
    by_cases hc : lvl st * (gQ l k).p.s.length < max (chF l k) (0 - chF l k)
    · have hsn := fsL_t (flB_t (by omega) hc)
      unfold chF at hc
      repeat' (first
 | (refine C_id ?_; first
 | refine C_seq ?_
 | refine C_region rfl ?_
 | refine C_block ?_
 | refine C_skip ?_
 | refine C_draw (id := 5) rfl mixed (by kernel_rfl) ?_
 | refine C_draw (id := 6) rfl mixed (by kernel_rfl) ?_
 | (refine C_cond rfl obQ (fun h => ?_) (fun h => ?_) <;> (try simp only [Bool.or_eq_true, Bool.and_eq_true, Bool.or_eq_false_iff, Bool.and_eq_false_iff, decide_eq_true_eq, decide_eq_false_iff_not, beq_iff_eq, bne_iff_ne, beq_eq_false_iff_ne, bne_eq_false_iff_eq, ne_eq, Decidable.not_not, List.cons.injEq, and_true, Bool.not_eq_true', Bool.not_eq_false', Int.not_lt, Int.not_le] at h) <;> (try (exfalso; omega)) <;> (try (exfalso; simp at h; done)) <;> (try (exfalso; simp only [not_true_eq_false, false_or, or_false] at h; omega)) <;> (try (exfalso; omega)))
       )
 | (refine S_id ?_; first
 | refine S_append rfl obQ rfl rfl rfl ⟨by decide, rfl⟩ rfl ⟨rfl, rfl, rfl, rfl⟩ [.int .i64 (k : Int)] ⟨by decide, rfl⟩ (by simp [Value.oneCell']) (fun w hw => by first | exact hw.src (i := 0) rfl rfl | exact hw.src (i := 1) rfl rfl | exact hw.src (i := 2) rfl rfl | exact hw.src (i := 3) rfl rfl | exact hw.src (i := 4) rfl rfl | exact hw.src (i := 5) rfl rfl | exact hw.src (i := 6) rfl rfl | exact hw.src (i := 7) rfl rfl | exact hw.src (i := 8) rfl rfl) (by unfold maxLen; dsimp only; omega) (fun gb cap' => ⟨_, rfl, ?_⟩)
 | refine S_nil ?_
 | refine S_run rfl rfl obQ obQ ?_
 | refine S_slice (fun b => ⟨_, _, rfl, obQ, ?_⟩)
       )
 | (refine D_id ?_; first
 | refine D_load rfl obQ rfl [.string (gQ l (k)).p.nm, .int .i64 (gQ l (k)).p.w, .int .i64 (gQ l (k)).p.h, .slice (gQ l (k)).A (gQ l (k)).p.s.length (gQ l (k)).c] (.past _ memQ _ _ hr.toS _ _ rfl rfl (gQ_idxZ (k := k) (by omega) (by omega))) rfl (.inl ⟨rfl, rfl⟩) ?_
 | refine D_load rfl obQ rfl [.string (gQ l (k - 1)).p.nm, .int .i64 (gQ l (k - 1)).p.w, .int .i64 (gQ l (k - 1)).p.h, .slice (gQ l (k - 1)).A (gQ l (k - 1)).p.s.length (gQ l (k - 1)).c] (.past _ memQ _ _ hr.toS _ _ rfl rfl (gQ_idxZ (k := k - 1) (by omega) (by omega))) rfl (.inl ⟨rfl, rfl⟩) ?_
 | refine D_load rfl obQ rfl [.slice (gQ l k).A (gQ l k).p.s.length (gQ l k).c] (.past (w, fun b => b < w.heap.size) memQ _ _ hr.toS _ _ rfl (add_of_add _ _ _) (gQ_f (z := (k : Int)) (k := k) rfl hlt 3 rfl)) rfl (.inr ⟨rfl, rfl⟩) ?_
 | refine D_nil ?_
 | refine D_run rfl rfl obQ obQ ?_
 | refine D_call (f := 152) rfl obQ (by kernel_rfl) (fun w hw => rTotal_c (gQ l k).p (gQ l k).A (gQ l k).c (hs _ (gQ_mem hlt)) hp.s w (hw.rdm (hrs _ (gQ_mem hlt)).toS memQ)) ?_
 | refine D_call (f := 152) rfl obQ (by kernel_rfl) (fun w hw => rTotal_c (gQ l (k - 1)).p (gQ l (k - 1)).A (gQ l (k - 1)).c (hs _ (gQ_mem (k := k - 1) (by omega))) hp1.s w (hw.rdm (hrs _ (gQ_mem (k := k - 1) (by omega))).toS memQ)) ?_
 | refine D_call (f := 98) rfl obQ (by kernel_rfl) (fun w hw => sixteenths_c st hss.fin hss.bd w) ?_
       )
 | (refine G_id ?_; first
 | refine G_loop (k + 1, some ⟨gb, 0, none⟩, cap') (show 1 ≤ k + 1 ∧ k + 1 ≤ l.length by omega) (by show l.length - (k + 1) < l.length - k; omega) (by dsimp only; rw [hsn, natC_snoc, List.length_append]; exact ⟨⟨_, rfl, obQ⟩, ⟨_, rfl⟩, rfl, pstQ⟩)
 | refine G_then ?_
 | refine G_block ?_
       )
       )
    · have hsn := fsL_f (flB_f hc)
      unfold chF at hc
      repeat' (first
 | (refine C_id ?_; first
 | refine C_seq ?_
 | refine C_region rfl ?_
 | refine C_block ?_
 | refine C_skip ?_
 | refine C_draw (id := 5) rfl mixed (by kernel_rfl) ?_
 | refine C_draw (id := 6) rfl mixed (by kernel_rfl) ?_
 | (refine C_cond rfl obQ (fun h => ?_) (fun h => ?_) <;> (try simp only [Bool.or_eq_true, Bool.and_eq_true, Bool.or_eq_false_iff, Bool.and_eq_false_iff, decide_eq_true_eq, decide_eq_false_iff_not, beq_iff_eq, bne_iff_ne, beq_eq_false_iff_ne, bne_eq_false_iff_eq, ne_eq, Decidable.not_not, List.cons.injEq, and_true, Bool.not_eq_true', Bool.not_eq_false', Int.not_lt, Int.not_le] at h) <;> (try (exfalso; omega)) <;> (try (exfalso; simp at h; done)) <;> (try (exfalso; simp only [not_true_eq_false, false_or, or_false] at h; omega)) <;> (try (exfalso; omega)))
       )
 | (refine S_id ?_; first
 | refine S_nil ?_
 | refine S_run rfl rfl obQ obQ ?_
       )
 | (refine D_id ?_; first
 | refine D_load rfl obQ rfl [.string (gQ l (k)).p.nm, .int .i64 (gQ l (k)).p.w, .int .i64 (gQ l (k)).p.h, .slice (gQ l (k)).A (gQ l (k)).p.s.length (gQ l (k)).c] (.past _ memQ _ _ hr.toS _ _ rfl rfl (gQ_idxZ (k := k) (by omega) (by omega))) rfl (.inl ⟨rfl, rfl⟩) ?_
 | refine D_load rfl obQ rfl [.string (gQ l (k - 1)).p.nm, .int .i64 (gQ l (k - 1)).p.w, .int .i64 (gQ l (k - 1)).p.h, .slice (gQ l (k - 1)).A (gQ l (k - 1)).p.s.length (gQ l (k - 1)).c] (.past _ memQ _ _ hr.toS _ _ rfl rfl (gQ_idxZ (k := k - 1) (by omega) (by omega))) rfl (.inl ⟨rfl, rfl⟩) ?_
 | refine D_load rfl obQ rfl [.slice (gQ l k).A (gQ l k).p.s.length (gQ l k).c] (.past (w, fun b => b < w.heap.size) memQ _ _ hr.toS _ _ rfl (add_of_add _ _ _) (gQ_f (z := (k : Int)) (k := k) rfl hlt 3 rfl)) rfl (.inr ⟨rfl, rfl⟩) ?_
 | refine D_nil ?_
 | refine D_run rfl rfl obQ obQ ?_
 | refine D_call (f := 152) rfl obQ (by kernel_rfl) (fun w hw => rTotal_c (gQ l k).p (gQ l k).A (gQ l k).c (hs _ (gQ_mem hlt)) hp.s w (hw.rdm (hrs _ (gQ_mem hlt)).toS memQ)) ?_
 | refine D_call (f := 152) rfl obQ (by kernel_rfl) (fun w hw => rTotal_c (gQ l (k - 1)).p (gQ l (k - 1)).A (gQ l (k - 1)).c (hs _ (gQ_mem (k := k - 1) (by omega))) hp1.s w (hw.rdm (hrs _ (gQ_mem (k := k - 1) (by omega))).toS memQ)) ?_
 | refine D_call (f := 98) rfl obQ (by kernel_rfl) (fun w hw => sixteenths_c st hss.fin hss.bd w) ?_
       )
 | (refine G_id ?_; first
 | refine G_loop (k + 1, A', c') (show 1 ≤ k + 1 ∧ k + 1 ≤ l.length by omega) (by show l.length - (k + 1) < l.length - k; omega) (by dsimp only; rw [hsn]; exact ⟨⟨_, rfl, obQ⟩, ⟨_, rfl⟩, rfl, pstQ⟩)
 | refine G_then ?_
 | refine G_block ?_
       )
       )
  · obtain rfl : k = l.length := by omega
    repeat' (first
 | (refine C_id ?_; first
 | refine C_seq ?_
 | refine C_region rfl ?_
 | refine C_exit ?_
 | refine C_ret0 ?_
 | (refine C_cond rfl obQ (fun h => ?_) (fun h => ?_) <;> (try simp only [Bool.or_eq_true, Bool.and_eq_true, Bool.or_eq_false_iff, Bool.and_eq_false_iff, decide_eq_true_eq, decide_eq_false_iff_not, beq_iff_eq, bne_iff_ne, beq_eq_false_iff_ne, bne_eq_false_iff_eq, ne_eq, Decidable.not_not, List.cons.injEq, and_true, Bool.not_eq_true', Bool.not_eq_false', Int.not_lt, Int.not_le] at h) <;> (try (exfalso; omega)))
     )
 | (refine S_id ?_; first
 | refine S_nil ?_
 | refine S_run rfl rfl obQ obQ ?_
     )
 | (refine G_id ?_; first
 | refine G_then ?_
 | refine G_blockX ?_
 | refine G_thenX ?_
 | refine G_ret rfl obQ (fun w2 hw => ⟨_, rfl, hw.below, HW.rowSl (i := 0) hw rfl rfl rfl rfl⟩)
     )
     )

end Go.Proofs.YtdbffbcobghbeaaGreatDoor
namespace Go.Proofs.YtdbffbcobghbeaaGreatDoor
open Go.E Go.RowKit Go.Fl
attribute [local irreducible] G C S D DY DS V VT Yl QV QT Calls
set_option maxRecDepth 100000
set_option linter.unusedSimpArgs false
set_option linter.unusedVariables false

set_option maxHeartbeats 2000000 in
/-- genlockref02.Broken -/
theorem rBroken_c (A : Option Addr) (c : Nat) (l : List PV') (hs : ∀ x ∈ l, x.p.s.length ≤ 1000000) (st : Nat) (most win : Int) (h1 : sqE l = 0) (h2 : stE st = 0) (h3 : 0 ≤ most ∧ most ≤ 256) (h4 : 1 ≤ win ∧ win ≤ 256) (w : World) (hr : Rd w A (l.flatMap pvC)) (hrs : ∀ x ∈ l, Rd w x.A (x.p.s.map (.float .f32))) : Calls Tryz.prog 73 #[.slice A l.length c, .float .f32 st, .int .i64 most, .int .i64 win] w fun r w' => ∃ v, r = .returned v ∧ Below w.heap.size w w' ∧ Sl w w' v (brF l st most win).length (natC (brF l st most win)) := by
  refine calls_of (args := [.slice A l.length c, .float .f32 st, .int .i64 most, .int .i64 win]) T_ok Tryz.func73 rfl Tryz.ntmps73 (Nat.le_of_ble_eq_true rfl) rfl ?_
  have hl2 := (sqE_ok h1).1
  unfold brF
  repeat' (first
 | (refine C_id ?_; first
 | refine C_seq ?_
 | refine C_regionNe 3 rfl rfl ?_
   )
 | (refine S_id ?_; first
 | refine S_nil ?_
 | refine S_run rfl rfl obQ obQ ?_
 | (refine S_callM (f := 72) rfl obQ (by kernel_rfl) (fun w hw => rFlashes_c A c l hs st h1 h2 w (hw.rdm hr.toS memQ) (fun x hx => hw.rdm (hrs x hx).toS memQ)) (fun w1F w2F vF hw1F hbF hRF => ?_); obtain ⟨AF, cF, rfl, hSF⟩ := hRF)
   )
 | (refine G_id ?_; first
 | refine G_then ?_
   )
   )
  have hFm := flF_mem (l := l) (st := st)
  have hFl := flF_len l st
  generalize flF l st = F at *
  refine C_row0 10 3 1 rfl ?_
  repeat' (first
 | (refine C_id ?_; first
 | refine C_seq ?_
 | refine C_region rfl ?_
 | refine C_block ?_
   )
 | (refine S_id ?_; first
 | refine S_nil ?_
 | refine S_run rfl rfl obQ obQ ?_
   )
 | (refine G_id ?_; first
 | refine G_then ?_
   )
   )
  refine C_loopS (fun i : Nat × Option Addr × Nat => ⟨[(10, .s (.r i.2.1 (brL F most win i.1).length i.2.2 0)), (11, .s (.v (.int .i64 i.1))), (0, .s (.v (.slice A l.length c))), (2, .s (.v (.int .i64 most))), (3, .s (.v (.int .i64 win))), (9, .s (.v (.slice AF F.length cF)))], [], [⟨3, 1, (brL F most win i.1).length, natC (brL F most win i.1), .slice i.2.1 (brL F most win i.1).length i.2.2⟩]⟩) (fun i => i.1 ≤ l.length) (fun i => l.length - i.1) (0, none, 0) (Nat.zero_le _) ?_ (fun i hi => ?_)
  · exact ⟨⟨_, rfl, obQ⟩, ⟨_, rfl⟩, rfl, pstQ⟩
  obtain ⟨k, A', c'⟩ := i
  have hi' : k ≤ l.length := hi
  dsimp only
  have hbl := brL_len F most win k
  by_cases hlt : k < l.length
  · repeat' (first
 | (refine C_id ?_; first
 | refine C_seq ?_
 | refine C_region rfl ?_
 | refine C_block ?_
 | refine C_skip ?_
 | (refine C_cond rfl obQ (fun h => ?_) (fun h => ?_) <;> (try simp only [Bool.or_eq_true, Bool.and_eq_true, Bool.or_eq_false_iff, Bool.and_eq_false_iff, decide_eq_true_eq, decide_eq_false_iff_not, beq_iff_eq, bne_iff_ne, beq_eq_false_iff_ne, bne_eq_false_iff_eq, ne_eq, Decidable.not_not, List.cons.injEq, and_true, Bool.not_eq_true', Bool.not_eq_false', Int.not_lt, Int.not_le] at h) <;> (try (exfalso; omega)))
     )
 | (refine S_id ?_; first
 | refine S_nil ?_
 | refine S_run rfl rfl obQ obQ ?_
     )
 | (refine G_id ?_; first
 | refine G_then ?_
     )
     )
    refine C_loopS (fun m : Nat => ⟨[(10, .s (.r A' (brL F most win k).length c' 0)), (11, .s (.v (.int .i64 k))), (0, .s (.v (.slice A l.length c))), (2, .s (.v (.int .i64 most))), (3, .s (.v (.int .i64 win))), (9, .s (.v (.slice AF F.length cF))), (12, .s (.v (.int .i64 (cntF (F.take m) k win)))), (13, .s (.v (.int .i64 m)))], [], [⟨3, 1, (brL F most win k).length, natC (brL F most win k), .slice A' (brL F most win k).length c'⟩]⟩) (fun m => m ≤ F.length) (fun m => F.length - m) 0 (Nat.zero_le _) ?_ (fun m hm' => ?_)
    · exact ⟨⟨_, rfl, obQ⟩, ⟨_, rfl⟩, rfl, pstQ⟩
    have hm2 : m ≤ F.length := hm'
    have hcl := cnt_len (F.take m) k win
    have htl : (F.take m).length = m := by simp; omega
    by_cases hm : m < F.length
    · obtain ⟨af, rfl⟩ : ∃ af, AF = some af := by
        rcases hSF with h | ⟨ad, h, _⟩
        · have hz := congrArg List.length h
          simp only [natC, List.length_map, List.length_nil] at hz
          omega
        · exact ⟨ad, h⟩
      have hct := cnt_take (n := k) (win := win) hm
      have hfm := hFm _ (List.getElem_mem hm)
      cases hin : inB k win F[m]
      · rw [hin, if_neg (by simp), Nat.add_zero] at hct
        have hin' : ¬ (((F[m] : Nat) : Int) ≤ k ∧ (k : Int) - win < ((F[m] : Nat) : Int)) := by
          intro ⟨g1, g2⟩
          simp [inB, g1, g2] at hin
        repeat' (first
 | (refine C_id ?_; first
 | refine C_seq ?_
 | refine C_region rfl ?_
 | refine C_block ?_
 | refine C_skip ?_
 | (refine C_cond rfl obQ (fun h => ?_) (fun h => ?_) <;> (try simp only [Bool.or_eq_true, Bool.and_eq_true, Bool.or_eq_false_iff, Bool.and_eq_false_iff, decide_eq_true_eq, decide_eq_false_iff_not, beq_iff_eq, bne_iff_ne, beq_eq_false_iff_ne, bne_eq_false_iff_eq, ne_eq, Decidable.not_not, List.cons.injEq, and_true, Bool.not_eq_true', Bool.not_eq_false', Int.not_lt, Int.not_le] at h) <;> (try (exfalso; omega)) <;> (try (exfalso; simp at h; done)) <;> (try (exfalso; simp only [not_true_eq_false, false_or, or_false] at h; omega)) <;> (try (exfalso; omega)))
         )
 | (refine S_id ?_; first
 | refine S_load rfl obQ rfl [.int .i64 ((F[m] : Nat) : Int)] (.past (w2F, fun b => w1F.heap.size ≤ b ∧ b < w2F.heap.size) memQ _ _ hSF _ _ rfl rfl (natC_idx hm)) rfl (.inr ⟨rfl, rfl⟩) ?_
 | refine S_loadG rfl rfl (fun hg => obQ) rfl [.int .i64 ((F[m] : Nat) : Int)] (fun hg => (.past (w2F, fun b => w1F.heap.size ≤ b ∧ b < w2F.heap.size) memQ _ _ hSF _ _ rfl rfl (natC_idx hm))) rfl (.inr ⟨rfl, rfl⟩) ?_
 | refine S_nil ?_
 | refine S_run rfl rfl obQ obQ ?_
         )
 | (refine G_id ?_; first
 | refine G_loop (m + 1) (show m + 1 ≤ F.length by omega) (by show F.length - (m + 1) < F.length - m; omega) (by rw [hct]; exact ⟨⟨_, rfl, obQ⟩, ⟨_, rfl⟩, rfl, pstQ⟩)
 | refine G_then ?_
 | refine G_block ?_
         )
         )
      · rw [hin, if_pos rfl] at hct
        simp only [inB, Bool.and_eq_true, decide_eq_true_eq] at hin
        repeat' (first
 | (refine C_id ?_; first
 | refine C_seq ?_
 | refine C_region rfl ?_
 | refine C_block ?_
 | refine C_skip ?_
 | (refine C_cond rfl obQ (fun h => ?_) (fun h => ?_) <;> (try simp only [Bool.or_eq_true, Bool.and_eq_true, Bool.or_eq_false_iff, Bool.and_eq_false_iff, decide_eq_true_eq, decide_eq_false_iff_not, beq_iff_eq, bne_iff_ne, beq_eq_false_iff_ne, bne_eq_false_iff_eq, ne_eq, Decidable.not_not, List.cons.injEq, and_true, Bool.not_eq_true', Bool.not_eq_false', Int.not_lt, Int.not_le] at h) <;> (try (exfalso; omega)) <;> (try (exfalso; simp at h; done)) <;> (try (exfalso; simp only [not_true_eq_false, false_or, or_false] at h; omega)) <;> (try (exfalso; omega)))
         )
 | (refine S_id ?_; first
 | refine S_load rfl obQ rfl [.int .i64 ((F[m] : Nat) : Int)] (.past (w2F, fun b => w1F.heap.size ≤ b ∧ b < w2F.heap.size) memQ _ _ hSF _ _ rfl rfl (natC_idx hm)) rfl (.inr ⟨rfl, rfl⟩) ?_
 | refine S_loadG rfl rfl (fun hg => obQ) rfl [.int .i64 ((F[m] : Nat) : Int)] (fun hg => (.past (w2F, fun b => w1F.heap.size ≤ b ∧ b < w2F.heap.size) memQ _ _ hSF _ _ rfl rfl (natC_idx hm))) rfl (.inr ⟨rfl, rfl⟩) ?_
 | refine S_nil ?_
 | refine S_run rfl rfl obQ obQ ?_
         )
 | (refine G_id ?_; first
 | refine G_loop (m + 1) (show m + 1 ≤ F.length by omega) (by show F.length - (m + 1) < F.length - m; omega) (by rw [hct]; exact ⟨⟨_, rfl, obQ⟩, ⟨_, rfl⟩, rfl, pstQ⟩)
 | refine G_then ?_
 | refine G_block ?_
         )
         )
    · obtain rfl : m = F.length := by omega
      rw [List.take_length] at hcl
      cases hbr : brB F most win k
      · have hsn := brL_f hbr
        have hbr' : ¬ most < cntF F k win := of_decide_eq_false hbr
        repeat' (first
 | (refine C_id ?_; first
 | refine C_seq ?_
 | refine C_region rfl ?_
 | refine C_skip ?_
 | refine C_exit ?_
 | (refine C_cond rfl obQ (fun h => ?_) (fun h => ?_) <;> (try simp only [Bool.or_eq_true, Bool.and_eq_true, Bool.or_eq_false_iff, Bool.and_eq_false_iff, decide_eq_true_eq, decide_eq_false_iff_not, beq_iff_eq, bne_iff_ne, beq_eq_false_iff_ne, bne_eq_false_iff_eq, ne_eq, Decidable.not_not, List.cons.injEq, and_true, Bool.not_eq_true', Bool.not_eq_false', Int.not_lt, Int.not_le] at h) <;> (try (exfalso; omega)) <;> (try (exfalso; simp at h; done)) <;> (try (exfalso; simp only [not_true_eq_false, false_or, or_false] at h; omega)) <;> (try (exfalso; rw [List.take_length] at h; omega)))
         )
 | (refine S_id ?_; first
 | refine S_nil ?_
 | refine S_run rfl rfl obQ obQ ?_
         )
 | (refine G_id ?_; first
 | refine G_loop (k + 1, A', c') (show k + 1 ≤ l.length by omega) (by show l.length - (k + 1) < l.length - k; omega) (by dsimp only; rw [hsn]; exact ⟨⟨_, rfl, obQ⟩, ⟨_, rfl⟩, rfl, pstQ⟩)
 | refine G_then ?_
 | refine G_block ?_
 | refine G_blockX ?_
 | refine G_thenX ?_
         )
         )
      · have hsn := brL_t hbr
        have hbr' : most < cntF F k win := of_decide_eq_true hbr
        repeat' (first
 | (refine C_id ?_; first
 | refine C_seq ?_
 | refine C_region rfl ?_
 | refine C_exit ?_
 | (refine C_cond rfl obQ (fun h => ?_) (fun h => ?_) <;> (try simp only [Bool.or_eq_true, Bool.and_eq_true, Bool.or_eq_false_iff, Bool.and_eq_false_iff, decide_eq_true_eq, decide_eq_false_iff_not, beq_iff_eq, bne_iff_ne, beq_eq_false_iff_ne, bne_eq_false_iff_eq, ne_eq, Decidable.not_not, List.cons.injEq, and_true, Bool.not_eq_true', Bool.not_eq_false', Int.not_lt, Int.not_le] at h) <;> (try (exfalso; omega)) <;> (try (exfalso; simp at h; done)) <;> (try (exfalso; simp only [not_true_eq_false, false_or, or_false] at h; omega)) <;> (try (exfalso; rw [List.take_length] at h; omega)))
         )
 | (refine S_id ?_; first
 | refine S_append rfl obQ rfl rfl rfl ⟨by decide, rfl⟩ rfl ⟨rfl, rfl, rfl, rfl⟩ [.int .i64 (k : Int)] ⟨by decide, rfl⟩ (by simp [Value.oneCell']) (fun w hw => by first | exact hw.src (i := 0) rfl rfl | exact hw.src (i := 1) rfl rfl | exact hw.src (i := 2) rfl rfl | exact hw.src (i := 3) rfl rfl | exact hw.src (i := 4) rfl rfl | exact hw.src (i := 5) rfl rfl | exact hw.src (i := 6) rfl rfl | exact hw.src (i := 7) rfl rfl | exact hw.src (i := 8) rfl rfl) (by unfold maxLen; dsimp only; omega) (fun gb cap' => ⟨_, rfl, ?_⟩)
 | refine S_nil ?_
 | refine S_run rfl rfl obQ obQ ?_
 | refine S_slice (fun b => ⟨_, _, rfl, obQ, ?_⟩)
         )
 | (refine G_id ?_; first
 | refine G_loop (k + 1, some ⟨gb, 0, none⟩, cap') (show k + 1 ≤ l.length by omega) (by show l.length - (k + 1) < l.length - k; omega) (by dsimp only; rw [hsn, natC_snoc, List.length_append]; exact ⟨⟨_, rfl, obQ⟩, ⟨_, rfl⟩, rfl, pstQ⟩)
 | refine G_then ?_
 | refine G_block ?_
 | refine G_blockX ?_
 | refine G_thenX ?_
         )
         )
  · obtain rfl : k = l.length := by omega
    repeat' (first
 | (refine C_id ?_; first
 | refine C_seq ?_
 | refine C_region rfl ?_
 | refine C_exit ?_
 | refine C_ret0 ?_
 | (refine C_cond rfl obQ (fun h => ?_) (fun h => ?_) <;> (try simp only [Bool.or_eq_true, Bool.and_eq_true, Bool.or_eq_false_iff, Bool.and_eq_false_iff, decide_eq_true_eq, decide_eq_false_iff_not, beq_iff_eq, bne_iff_ne, beq_eq_false_iff_ne, bne_eq_false_iff_eq, ne_eq, Decidable.not_not, List.cons.injEq, and_true, Bool.not_eq_true', Bool.not_eq_false', Int.not_lt, Int.not_le] at h) <;> (try (exfalso; omega)))
     )
 | (refine S_id ?_; first
 | refine S_nil ?_
 | refine S_run rfl rfl obQ obQ ?_
     )
 | (refine G_id ?_; first
 | refine G_then ?_
 | refine G_blockX ?_
 | refine G_thenX ?_
 | refine G_ret rfl obQ (fun w2 hw => ⟨_, rfl, hw.below, HW.rowSl (i := 0) hw rfl rfl rfl rfl⟩)
     )
     )

theorem natC_map (l : List Nat) : natC l = (l.map fun (k : Nat) => (k : Int)).map (Value.int .i64) := by unfold natC; rw [List.map_map]; rfl
theorem sameI_c (A B : Option Addr) (c c2 : Nat) (xs : List Nat) (n : Nat) (hn : xs.length = n) (hl : n ≤ 1000000) (w : World) (hr : Rd w A (natC xs)) (hr2 : Rd w B (natC xs)) : Calls Tryz.prog 84 #[.slice A n c, .slice B n c2] w fun r w' => r = .returned (.bool true) ∧ Below w.heap.size w w' := by
  subst hn
  rw [natC_map] at hr hr2
  have h := rSameInts_c A B c c2 (xs.map fun (k : Nat) => (k : Int)) (xs.map fun (k : Nat) => (k : Int)) (by simpa using hl) (by simpa using hl) w hr hr2
  rw [decide_eq_true (show (xs.map fun (k : Nat) => (k : Int)) = (xs.map fun (k : Nat) => (k : Int)) from rfl), List.length_map] at h
  exact h

set_option maxHeartbeats 400000 in
/-- genlocklaw02.listed -/
theorem llistedN_c (A B : Option Addr) (c c2 : Nat) (xs : List Nat) (n : Nat) (hn : xs.length = n) (hl : n ≤ 1000000) (w : World) (hr : Rd w A (natC xs)) (hr2 : Rd w B (natC xs)) : Calls Tryz.prog 74 #[.slice A n c, .int .i64 0, .int .i64 0, .slice B n c2] w fun r w' => r = .returned (.bool true) ∧ Below w.heap.size w w' := by
  refine calls_of (args := [.slice A n c, .int .i64 0, .int .i64 0, .slice B n c2]) T_ok Tryz.func74 rfl Tryz.ntmps74 (Nat.le_of_ble_eq_true rfl) rfl ?_
  repeat' (first
 | (refine C_id ?_; first
 | refine C_seq ?_
 | refine C_region rfl ?_
 | refine C_skip ?_
 | refine C_ret0 ?_
 | refine C_condF rfl obQ ?_
 )
 | (refine S_id ?_; first
 | ((with_reducible refine S_trueA ?_ ?_ ?_); (· rfl); (· first | rfl | (first | exact beq_self_eq_true _ | rfl)))
 | refine S_unG rfl rfl rfl rfl ?_
 | refine S_nil ?_
 | refine S_runN rfl rfl obQ obQ ?_
 | refine S_call (f := 84) rfl obQ (by kernel_rfl) (fun w hw => sameI_c A B c c2 xs n hn hl w (hw.rdm hr.toS memQ) (hw.rdm hr2.toS memQ)) ?_
 )
 | (refine G_id ?_; first
 | refine G_then ?_
 | refine G_ret rfl obQ (fun w hw => ⟨?_, hw.below⟩)
 )
 )
  rfl

set_option maxHeartbeats 400000 in
/-- genlocklaw02.listed -/
theorem llistedE_c (e : Int) (he : ¬ e = 0) (A B : Option Addr) (c c2 n : Nat) (w : World) : Calls Tryz.prog 74 #[.slice A 0 c, .int .i64 e, .int .i64 e, .slice B n c2] w fun r w' => r = .returned (.bool true) ∧ Below w.heap.size w w' := by
  refine calls_of (args := [.slice A 0 c, .int .i64 e, .int .i64 e, .slice B n c2]) T_ok Tryz.func74 rfl Tryz.ntmps74 (Nat.le_of_ble_eq_true rfl) rfl ?_
  repeat' (first
 | (refine C_id ?_; first
 | refine C_seq ?_
 | refine C_region rfl ?_
 | refine C_ret0 ?_
 | (refine C_cond rfl obQ (fun h => ?_) (fun h => ?_) <;> (try simp only [Bool.or_eq_true, Bool.and_eq_true, Bool.or_eq_false_iff, Bool.and_eq_false_iff, decide_eq_true_eq, decide_eq_false_iff_not, beq_iff_eq, bne_iff_ne, beq_eq_false_iff_ne, bne_eq_false_iff_eq, ne_eq, Decidable.not_not, List.cons.injEq, and_true, Bool.not_eq_true', Bool.not_eq_false', Int.not_lt, Int.not_le] at h) <;> (try (exfalso; omega)) <;> (try (exfalso; simp at h; done)) <;> (try (exfalso; simp only [not_true_eq_false, false_or, or_false] at h; omega)) <;> (try contradiction))
 )
 | (refine S_id ?_; first
 | ((with_reducible refine S_trueA ?_ ?_ ?_); (· rfl); (· first | rfl | (first | exact beq_self_eq_true _ | rfl)))
 | refine S_unG rfl rfl rfl rfl ?_
 | refine S_nil ?_
 | refine S_runN rfl rfl obQ obQ ?_
 | refine S_call (f := 84) rfl obQ (by kernel_rfl) (fun w hw => sameI_c A none c 0 [] 0 rfl (Nat.zero_le _) w (.inl rfl) (.inl rfl)) ?_
 )
 | (refine G_id ?_; first
 | refine G_then ?_
 | refine G_ret rfl obQ (fun w hw => ⟨?_, hw.below⟩)
 )
 )
  rfl

theorem film_all {l l' : List PV'} {P : Pic → Prop} (h : l'.map (·.p) = l.map (·.p)) (hl : ∀ x ∈ l, P x.p) : ∀ x ∈ l', P x.p := by
  intro x hx
  have h1 : x.p ∈ l'.map (·.p) := List.mem_map.2 ⟨x, hx, rfl⟩
  rw [h] at h1
  obtain ⟨y, hy, e⟩ := List.mem_map.1 h1
  rw [← e]
  exact hl y hy
theorem br_fs (l : List PV') (st : Nat) (a b : Int) : brE l st a b = if fsE l st = 0 then firstL [wi a 0 256, wi b 1 256] else fsE l st := firstL_append [sqE l, stE st] [wi a 0 256, wi b 1 256]
section
variable {l l' : List PV'} {w : World}
theorem lfirstE_c {A : Option Addr} {n : Nat} {l : List Int} {e : Int} (he : firstL l = e) (h6 : l.length ≤ 1000000) (hl : l.length = n) (c : Nat) (w : World) (hr : Rd w A (l.map (.int .i64))) : Calls Tryz.prog 27 #[.slice A n c] w fun r w' => r = .returned (.int .i64 e) ∧ Below w.heap.size w w' := by
  subst hl he
  exact lfirst_c A c l h6 w hr
theorem flashes_as {st : Nat} {xs : List Nat} {e : Int} {n : Nat} {A : Option Addr} {c : Nat} (h : fsR l st = (xs, e)) (hn : xs.length = n) (hp : l'.map (·.p) = l.map (·.p)) (hl : l.length ≤ 1000000) (hs : ∀ x ∈ l, x.p.s.length ≤ 1000000) (hr : Rd w A (l'.flatMap pvC)) (hrs : ∀ x ∈ l', Rd w x.A (x.p.s.map (.float .f32))) :
    Calls Tryz.prog 67 #[.slice A l.length c, .float .f32 st] w fun r w' => ∃ v, r = .returned v ∧ Below w.heap.size w w' ∧ Sl2 w w' v n (natC xs) (.int .i64 e) := by
  subst hn
  have := Flashes_c A c l' (film_all (P := fun p => p.s.length ≤ 1000000) hp hs) (by rw [len_p hp]; exact hl) st w hr hrs
  rw [len_p hp, fsR_p hp, h] at this
  exact this
theorem broken_as {st : Nat} {a b : Int} {xs : List Nat} {e : Int} {n : Nat} {A : Option Addr} {c : Nat} (h : brR l st a b = (xs, e)) (hn : xs.length = n) (hp : l'.map (·.p) = l.map (·.p)) (hl : l.length ≤ 1000000) (hs : ∀ x ∈ l, x.p.s.length ≤ 1000000) (hr : Rd w A (l'.flatMap pvC)) (hrs : ∀ x ∈ l', Rd w x.A (x.p.s.map (.float .f32))) :
    Calls Tryz.prog 69 #[.slice A l.length c, .float .f32 st, .int .i64 a, .int .i64 b] w fun r w' => ∃ v, r = .returned v ∧ Below w.heap.size w w' ∧ Sl2 w w' v n (natC xs) (.int .i64 e) := by
  subst hn
  have := Broken_c A c l' (film_all (P := fun p => p.s.length ≤ 1000000) hp hs) (by rw [len_p hp]; exact hl) st a b w hr hrs
  rw [len_p hp, brR_p hp, h] at this
  exact this
end

set_option maxHeartbeats 8000000 in
/-- genlocklaw02.ColourFlashes -/
theorem lFlashes_c (A : Option Addr) (c : Nat) (l : List PV') (hmax : l.length ≤ maxLen) (hAs : ∀ x ∈ l, x.A = none → x.p.s.length = 0 ∧ x.c = 0) (st : Nat) (k0 k1 : Int) (w : World) (hr : Rd w A (l.flatMap pvC)) (hrs : ∀ x ∈ l, Rd w x.A (x.p.s.map (.float .f32))) (hO : Ot w) (hP : Pw w) : Calls Tryz.prog 10 #[.slice A l.length c, .float .f32 st, .agg #[.int .i64 k0, .int .i64 k1]] w fun r w' => r = .returned (.bool true) ∧ Below w.heap.size w w' := by
  refine calls_of (args := [.slice A l.length c, .float .f32 st, .agg #[.int .i64 k0, .int .i64 k1]]) T_ok Tryz.func10 rfl Tryz.ntmps10 (Nat.le_of_ble_eq_true rfl) rfl ?_
  cases hSq : shortQ l
  · repeat' (first
 | (refine C_id ?_; first
 | refine C_seq ?_
 | refine C_region rfl ?_
 | refine C_ret0 ?_
 | refine C_condT rfl obQ ?_
     )
 | (refine S_id ?_; first
 | refine S_nil ?_
 | refine S_runN rfl rfl obQ obQ ?_
 | refine S_box (fun bb => ⟨_, _, rfl, obQ, ?_⟩)
 | refine S_call (f := 20) rfl obQ (by kernel_rfl) (fun w hw => awake_c w (hw.rdm hO.toS memQ) (Pw_at hP hw memQ)) ?_
 | refine S_call (f := 66) rfl obQ (by kernel_rfl) (fun w hw => rShortQ_c _ _ l hmax _ hSq w (hw.rdm hr.toS memQ)) ?_
     )
 | (refine G_id ?_; first
 | refine G_then ?_
 | refine G_thenR ?_
 | refine G_ret rfl obQ (fun w hw => ⟨?_, hw.below⟩)
     )
     )
    all_goals rfl
  obtain ⟨h257, hall⟩ := shortQ_ok hSq
  have hl : l.length ≤ 1000000 := by omega
  have hs : ∀ x ∈ l, x.p.s.length ≤ 1000000 := fun x hx => by have := (hall x hx).2; omega
  have hnm : ∀ x ∈ l, x.p.nm.size ≤ maxLen := fun x hx => by have := (hall x hx).1; unfold maxLen; omega
  have hfl0 := flF_len l st
  have hfl : (flF l st).length ≤ 1000000 := by omega
  have hbf := br_fs l st k0 k1
  by_cases hf : fsE l st = 0
  · obtain ⟨h1, h2⟩ := fsE_ok hf
    rw [if_pos hf] at hbf
    have hT : firstL [sqE l, stE st] = 0 := hf
    have hV : fsR l st = (flF l st, 0) := if_pos hf
    have hVn : (flF l st).length = (flF l st).length := rfl
    by_cases hbr : brE l st k0 k1 = 0
    · obtain ⟨_, _, h3, h4⟩ := brE_ok hbr
      have hU : firstL [0, wi k0 0 256, wi k1 1 256] = 0 := by rw [firstL, if_pos rfl, ← hbf]; exact hbr
      have hX : brR l st k0 k1 = (brF l st k0 k1, 0) := if_pos hbr
      have hXn : (brF l st k0 k1).length = (brF l st k0 k1).length := rfl
      have hbl : (brF l st k0 k1).length ≤ 1000000 := by have := brL_len (flF l st) k0 k1 l.length; unfold brF; omega
      repeat' (first
 | (refine C_id ?_; first
 | refine C_seq ?_
 | refine C_region rfl ?_
 | refine C_skip ?_
 | refine C_ret0 ?_
 | refine C_drawV (id := 4) 12 [(0, true), (2, true), (3, true), (4, true), (5, true), (6, true), (1, false), (7, false), (8, true), (9, true), (10, true), (11, true)] rfl mixed (by kernel_rfl) rfl ?_
 | refine C_drawV (id := 6) 7 [(0, true), (1, true), (2, true), (4, true), (5, true), (3, false), (6, false)] rfl mixed (by kernel_rfl) rfl ?_
 | refine C_condT rfl obQ ?_
 | refine C_condF rfl obQ ?_
       )
 | (refine S_id ?_; first
 | ((with_reducible (first | refine S_trueE ?_ ?_ | refine S_trueB ?_ ?_ | refine S_trueL ?_ ?_ | refine S_trueD ?_ ?_ | refine S_trueN ?_ ?_)); · (first | exact beq_self_eq_true _ | rfl | omega))
 | ((with_reducible refine S_trueA ?_ ?_ ?_); (· rfl); (· first | rfl | (first | exact beq_self_eq_true _ | rfl | omega)))
 | refine S_unG rfl rfl rfl rfl ?_
 | (refine S_callM (f := 68) rfl obQ (by kernel_rfl) (fun w hw => lfilm_c A c l hl hs hAs w (hw.rdm hr.toS memQ) (fun x hx => hw.rdm (hrs x hx).toS memQ)) (fun w1F w2F vF hw1F hbF hRF => ?_); obtain ⟨AF, cF, lF, rfl, hpF, hSF, hxF⟩ := hRF)
 | (refine S_callM (f := 67) rfl obQ (by kernel_rfl) (fun w hw => flashes_as hV hVn hpF hl hs (hw.rdm hSF memQ) (fun x hx => hw.rdm (hxF x hx) memQ)) (fun w1X w2X vX hw1X hbX hRX => ?_); obtain ⟨AX, cX, rfl, hSX⟩ := hRX)
 | (refine S_callM (f := 69) rfl obQ (by kernel_rfl) (fun w hw => broken_as hX hXn hpF hl hs (hw.rdm hSF memQ) (fun x hx => hw.rdm (hxF x hx) memQ)) (fun w1Y w2Y vY hw1Y hbY hRY => ?_); obtain ⟨AY, cY, rfl, hSY⟩ := hRY)
 | (refine S_callM (f := 72) rfl obQ (by kernel_rfl) (fun w hw => rFlashes_c A c l hs st h1 h2 w (hw.rdm hr.toS memQ) (fun x hx => hw.rdm (hrs x hx).toS memQ)) (fun w1M w2M vM hw1M hbM hRM => ?_); obtain ⟨AM, cM, rfl, hSM⟩ := hRM)
 | (refine S_callM (f := 73) rfl obQ (by kernel_rfl) (fun w hw => rBroken_c A c l hs st k0 k1 h1 h2 h3 h4 w (hw.rdm hr.toS memQ) (fun x hx => hw.rdm (hrs x hx).toS memQ)) (fun w1N w2N vN hw1N hbN hRN => ?_); obtain ⟨AN, cN, rfl, hSN⟩ := hRN)
 | refine S_nil ?_
 | refine S_runN rfl rfl obQ obQ ?_
 | refine S_box (fun bb => ⟨_, _, rfl, obQ, ?_⟩)
 | refine S_slice (fun b => ⟨_, _, rfl, obQ, ?_⟩)
 | refine S_call (f := 20) rfl obQ (by kernel_rfl) (fun w hw => awake_c w (hw.rdm hO.toS memQ) (Pw_at hP hw memQ)) ?_
 | refine S_call (f := 66) rfl obQ (by kernel_rfl) (fun w hw => rShortQ_c _ _ l hmax _ hSq w (hw.rdm hr.toS memQ)) ?_
 | refine S_call (f := 70) rfl obQ (by kernel_rfl) (fun w hw => rCheckSeq_c A c l hl hs hnm w (hw.rdm hr.toS memQ) (fun x hx => hw.rdm (hrs x hx).toS memQ)) ?_
 | refine S_call (f := 71) rfl obQ (by kernel_rfl) (fun w hw => rCheckStep_c st w) ?_
 | refine S_call (f := 29) rfl obQ (by kernel_rfl) (fun w hw => rRange_c _ _ _ w) ?_
 | refine S_call (f := 27) rfl obQ (by kernel_rfl) (fun w hw => lfirstE_c (l := [sqE l, stE st]) hT (by simp) rfl _ w (.inr ⟨_, rfl, hw.src (i := 1) rfl rfl⟩)) ?_
 | refine S_call (f := 27) rfl obQ (by kernel_rfl) (fun w hw => lfirstE_c (l := [_, wi k0 0 256, wi k1 1 256]) hU (by simp) rfl _ w (.inr ⟨_, rfl, hw.src (i := 2) rfl rfl⟩)) ?_
 | refine S_call (f := 74) rfl obQ (by kernel_rfl) (fun w hw => llistedN_c _ _ _ _ (flF l st) _ rfl hfl w (hw.rdm hSX memQ) (hw.rdm hSM memQ)) ?_
 | refine S_call (f := 74) rfl obQ (by kernel_rfl) (fun w hw => llistedN_c _ _ _ _ (brF l st k0 k1) _ rfl hbl w (hw.rdm hSY memQ) (hw.rdm hSN memQ)) ?_
       )
 | (refine V_id ?_; first
 | refine V_nil ?_
 | refine V_q rfl (Yl_step rfl obQ) ?_
 | refine V_n rfl ?_
       )
 | (refine G_id ?_; first
 | refine G_V ⟨⟨_, rfl, trivial⟩, ⟨_, rfl⟩, rfl, pstQ⟩ rfl ?_
 | refine G_then ?_
 | refine G_ret rfl obQ (fun w hw => ⟨?_, hw.below⟩)
       )
       )
      all_goals rfl
    · have hU : firstL [0, wi k0 0 256, wi k1 1 256] = brE l st k0 k1 := by rw [firstL, if_pos rfl, ← hbf]
      have hX : brR l st k0 k1 = ([], brE l st k0 k1) := if_neg hbr
      have hXn : ([] : List Nat).length = 0 := rfl
      repeat' (first
 | (refine C_id ?_; first
 | refine C_seq ?_
 | refine C_region rfl ?_
 | refine C_skip ?_
 | refine C_ret0 ?_
 | refine C_drawV (id := 4) 12 [(0, true), (2, true), (3, true), (4, true), (5, true), (6, true), (1, false), (7, false), (8, true), (9, true), (10, true), (11, true)] rfl mixed (by kernel_rfl) rfl ?_
 | refine C_drawV (id := 6) 7 [(0, true), (1, true), (2, true), (4, true), (5, true), (3, false), (6, false)] rfl mixed (by kernel_rfl) rfl ?_
 | refine C_condT rfl obQ ?_
 | refine C_condF rfl obQ ?_
 | (refine C_cond rfl obQ (fun h => ?_) (fun h => ?_) <;> (try simp only [Bool.or_eq_true, Bool.and_eq_true, Bool.or_eq_false_iff, Bool.and_eq_false_iff, decide_eq_true_eq, decide_eq_false_iff_not, beq_iff_eq, bne_iff_ne, beq_eq_false_iff_ne, bne_eq_false_iff_eq, ne_eq, Decidable.not_not, List.cons.injEq, and_true, Bool.not_eq_true', Bool.not_eq_false', Int.not_lt, Int.not_le] at h) <;> (try (exfalso; omega)) <;> (try (exfalso; simp at h; done)) <;> (try (exfalso; simp only [not_true_eq_false, false_or, or_false] at h; omega)) <;> (try contradiction))
       )
 | (refine S_id ?_; first
 | ((with_reducible (first | refine S_trueE ?_ ?_ | refine S_trueB ?_ ?_ | refine S_trueL ?_ ?_ | refine S_trueD ?_ ?_ | refine S_trueN ?_ ?_)); · (first | exact beq_self_eq_true _ | rfl | omega))
 | ((with_reducible refine S_trueA ?_ ?_ ?_); (· rfl); (· first | rfl | (first | exact beq_self_eq_true _ | rfl | omega)))
 | refine S_unG rfl rfl rfl rfl ?_
 | (refine S_callM (f := 68) rfl obQ (by kernel_rfl) (fun w hw => lfilm_c A c l hl hs hAs w (hw.rdm hr.toS memQ) (fun x hx => hw.rdm (hrs x hx).toS memQ)) (fun w1F w2F vF hw1F hbF hRF => ?_); obtain ⟨AF, cF, lF, rfl, hpF, hSF, hxF⟩ := hRF)
 | (refine S_callM (f := 67) rfl obQ (by kernel_rfl) (fun w hw => flashes_as hV hVn hpF hl hs (hw.rdm hSF memQ) (fun x hx => hw.rdm (hxF x hx) memQ)) (fun w1X w2X vX hw1X hbX hRX => ?_); obtain ⟨AX, cX, rfl, hSX⟩ := hRX)
 | (refine S_callM (f := 69) rfl obQ (by kernel_rfl) (fun w hw => broken_as hX hXn hpF hl hs (hw.rdm hSF memQ) (fun x hx => hw.rdm (hxF x hx) memQ)) (fun w1Y w2Y vY hw1Y hbY hRY => ?_); obtain ⟨AY, cY, rfl, hSY⟩ := hRY)
 | (refine S_callM (f := 72) rfl obQ (by kernel_rfl) (fun w hw => rFlashes_c A c l hs st h1 h2 w (hw.rdm hr.toS memQ) (fun x hx => hw.rdm (hrs x hx).toS memQ)) (fun w1M w2M vM hw1M hbM hRM => ?_); obtain ⟨AM, cM, rfl, hSM⟩ := hRM)
 | refine S_nil ?_
 | refine S_runN rfl rfl obQ obQ ?_
 | refine S_box (fun bb => ⟨_, _, rfl, obQ, ?_⟩)
 | refine S_slice (fun b => ⟨_, _, rfl, obQ, ?_⟩)
 | refine S_call (f := 20) rfl obQ (by kernel_rfl) (fun w hw => awake_c w (hw.rdm hO.toS memQ) (Pw_at hP hw memQ)) ?_
 | refine S_call (f := 66) rfl obQ (by kernel_rfl) (fun w hw => rShortQ_c _ _ l hmax _ hSq w (hw.rdm hr.toS memQ)) ?_
 | refine S_call (f := 70) rfl obQ (by kernel_rfl) (fun w hw => rCheckSeq_c A c l hl hs hnm w (hw.rdm hr.toS memQ) (fun x hx => hw.rdm (hrs x hx).toS memQ)) ?_
 | refine S_call (f := 71) rfl obQ (by kernel_rfl) (fun w hw => rCheckStep_c st w) ?_
 | refine S_call (f := 29) rfl obQ (by kernel_rfl) (fun w hw => rRange_c _ _ _ w) ?_
 | refine S_call (f := 27) rfl obQ (by kernel_rfl) (fun w hw => lfirstE_c (l := [sqE l, stE st]) hT (by simp) rfl _ w (.inr ⟨_, rfl, hw.src (i := 1) rfl rfl⟩)) ?_
 | refine S_call (f := 27) rfl obQ (by kernel_rfl) (fun w hw => lfirstE_c (l := [_, wi k0 0 256, wi k1 1 256]) hU (by simp) rfl _ w (.inr ⟨_, rfl, hw.src (i := 2) rfl rfl⟩)) ?_
 | refine S_call (f := 74) rfl obQ (by kernel_rfl) (fun w hw => llistedN_c _ _ _ _ (flF l st) _ rfl hfl w (hw.rdm hSX memQ) (hw.rdm hSM memQ)) ?_
 | refine S_call (f := 74) rfl obQ (by kernel_rfl) (fun w hw => llistedE_c _ hbr _ _ _ _ _ w) ?_
       )
 | (refine V_id ?_; first
 | refine V_nil ?_
 | refine V_q rfl (Yl_step rfl obQ) ?_
 | refine V_n rfl ?_
       )
 | (refine G_id ?_; first
 | refine G_V ⟨⟨_, rfl, trivial⟩, ⟨_, rfl⟩, rfl, pstQ⟩ rfl ?_
 | refine G_then ?_
 | refine G_ret rfl obQ (fun w hw => ⟨?_, hw.below⟩)
       )
       )
      all_goals rfl
  · rw [if_neg hf] at hbf
    have hbr : ¬ brE l st k0 k1 = 0 := by rw [hbf]; exact hf
    have hT : firstL [sqE l, stE st] = fsE l st := rfl
    have hU : firstL [fsE l st, wi k0 0 256, wi k1 1 256] = brE l st k0 k1 := by rw [firstL, if_neg hf, hbf]
    have hV : fsR l st = ([], fsE l st) := if_neg hf
    have hVn : ([] : List Nat).length = 0 := rfl
    have hX : brR l st k0 k1 = ([], brE l st k0 k1) := if_neg hbr
    have hXn : ([] : List Nat).length = 0 := rfl
    repeat' (first
 | (refine C_id ?_; first
 | refine C_seq ?_
 | refine C_region rfl ?_
 | refine C_skip ?_
 | refine C_ret0 ?_
 | refine C_drawV (id := 4) 12 [(0, true), (2, true), (3, true), (4, true), (5, true), (6, true), (1, false), (7, false), (8, true), (9, true), (10, true), (11, true)] rfl mixed (by kernel_rfl) rfl ?_
 | refine C_drawV (id := 6) 7 [(0, true), (1, true), (2, true), (4, true), (5, true), (3, false), (6, false)] rfl mixed (by kernel_rfl) rfl ?_
 | refine C_condF rfl obQ ?_
 | (refine C_cond rfl obQ (fun h => ?_) (fun h => ?_) <;> (try simp only [Bool.or_eq_true, Bool.and_eq_true, Bool.or_eq_false_iff, Bool.and_eq_false_iff, decide_eq_true_eq, decide_eq_false_iff_not, beq_iff_eq, bne_iff_ne, beq_eq_false_iff_ne, bne_eq_false_iff_eq, ne_eq, Decidable.not_not, List.cons.injEq, and_true, Bool.not_eq_true', Bool.not_eq_false', Int.not_lt, Int.not_le] at h) <;> (try (exfalso; omega)) <;> (try (exfalso; simp at h; done)) <;> (try (exfalso; simp only [not_true_eq_false, false_or, or_false] at h; omega)) <;> (try contradiction))
     )
 | (refine S_id ?_; first
 | ((with_reducible refine S_trueA ?_ ?_ ?_); (· rfl); (· first | rfl | (first | exact beq_self_eq_true _ | rfl | omega)))
 | refine S_unG rfl rfl rfl rfl ?_
 | (refine S_callM (f := 68) rfl obQ (by kernel_rfl) (fun w hw => lfilm_c A c l hl hs hAs w (hw.rdm hr.toS memQ) (fun x hx => hw.rdm (hrs x hx).toS memQ)) (fun w1F w2F vF hw1F hbF hRF => ?_); obtain ⟨AF, cF, lF, rfl, hpF, hSF, hxF⟩ := hRF)
 | (refine S_callM (f := 67) rfl obQ (by kernel_rfl) (fun w hw => flashes_as hV hVn hpF hl hs (hw.rdm hSF memQ) (fun x hx => hw.rdm (hxF x hx) memQ)) (fun w1X w2X vX hw1X hbX hRX => ?_); obtain ⟨AX, cX, rfl, hSX⟩ := hRX)
 | (refine S_callM (f := 69) rfl obQ (by kernel_rfl) (fun w hw => broken_as hX hXn hpF hl hs (hw.rdm hSF memQ) (fun x hx => hw.rdm (hxF x hx) memQ)) (fun w1Y w2Y vY hw1Y hbY hRY => ?_); obtain ⟨AY, cY, rfl, hSY⟩ := hRY)
 | refine S_nil ?_
 | refine S_runN rfl rfl obQ obQ ?_
 | refine S_box (fun bb => ⟨_, _, rfl, obQ, ?_⟩)
 | refine S_slice (fun b => ⟨_, _, rfl, obQ, ?_⟩)
 | refine S_call (f := 20) rfl obQ (by kernel_rfl) (fun w hw => awake_c w (hw.rdm hO.toS memQ) (Pw_at hP hw memQ)) ?_
 | refine S_call (f := 66) rfl obQ (by kernel_rfl) (fun w hw => rShortQ_c _ _ l hmax _ hSq w (hw.rdm hr.toS memQ)) ?_
 | refine S_call (f := 70) rfl obQ (by kernel_rfl) (fun w hw => rCheckSeq_c A c l hl hs hnm w (hw.rdm hr.toS memQ) (fun x hx => hw.rdm (hrs x hx).toS memQ)) ?_
 | refine S_call (f := 71) rfl obQ (by kernel_rfl) (fun w hw => rCheckStep_c st w) ?_
 | refine S_call (f := 29) rfl obQ (by kernel_rfl) (fun w hw => rRange_c _ _ _ w) ?_
 | refine S_call (f := 27) rfl obQ (by kernel_rfl) (fun w hw => lfirstE_c (l := [sqE l, stE st]) hT (by simp) rfl _ w (.inr ⟨_, rfl, hw.src (i := 1) rfl rfl⟩)) ?_
 | refine S_call (f := 27) rfl obQ (by kernel_rfl) (fun w hw => lfirstE_c (l := [_, wi k0 0 256, wi k1 1 256]) hU (by simp) rfl _ w (.inr ⟨_, rfl, hw.src (i := 2) rfl rfl⟩)) ?_
 | refine S_call (f := 74) rfl obQ (by kernel_rfl) (fun w hw => llistedE_c _ hf _ _ _ _ _ w) ?_
 | refine S_call (f := 74) rfl obQ (by kernel_rfl) (fun w hw => llistedE_c _ hbr _ _ _ _ _ w) ?_
     )
 | (refine V_id ?_; first
 | refine V_nil ?_
 | refine V_q rfl (Yl_step rfl obQ) ?_
 | refine V_n rfl ?_
     )
 | (refine G_id ?_; first
 | refine G_V ⟨⟨_, rfl, trivial⟩, ⟨_, rfl⟩, rfl, pstQ⟩ rfl ?_
 | refine G_then ?_
 | refine G_ret rfl obQ (fun w hw => ⟨?_, hw.below⟩)
     )
     )
    all_goals rfl

end Go.Proofs.YtdbffbcobghbeaaGreatDoor
