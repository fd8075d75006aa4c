/- Measured pictures and sounds: films, plain laws and the walk of the law. -/
import Derived.Test.YtdbffbcobghbeaaGreatDoorColour53
import Derived.Test.YtdbffbcobghbeaaGreatDoorColour26
import Derived.Test.YtdbffbcobghbeaaGreatDoorEngAL
import Derived.Test.YtdbffbcobghbeaaGreatDoorColour64
import Derived.Test.YtdbffbcobghbeaaGreatDoorColour28
import Derived.Test.YtdbffbcobghbeaaGreatDoorEngZ
import Derived.Test.YtdbffbcobghbeaaGreatDoorEngAD
import Derived.Test.YtdbffbcobghbeaaGreatDoorEngAB
namespace Go.Proofs.YtdbffbcobghbeaaGreatDoor
open Go.E Go.RowKit Go.Fl
attribute [local irreducible] G C S D Calls
set_option maxRecDepth 100000
set_option linter.unusedSimpArgs false
set_option linter.unusedVariables false

theorem gQ_p {l l' : List PV'} (h : l'.map (·.p) = l.map (·.p)) (k : Nat) : (gQ l' k).p = (gQ l k).p := by
  have e : ∀ l : List PV', (gQ l k).p = (l.map (·.p)).getD k zP := fun l => by
    unfold gQ
    rw [List.getD_eq_getElem?_getD, List.getD_eq_getElem?_getD, List.getElem?_map]
    cases l[k]? <;> rfl
  rw [e, e, h]
theorem len_p {l l' : List PV'} (h : l'.map (·.p) = l.map (·.p)) : l'.length = l.length := by
  have := congrArg List.length h
  simpa using this
theorem sqE_p {l l' : List PV'} (h : l'.map (·.p) = l.map (·.p)) : sqE l' = sqE l := by
  unfold sqE
  rw [len_p h]
  have : (fun k => firstL (sqL l' k)) = fun k => firstL (sqL l k) := funext fun k => by unfold sqL; rw [gQ_p h, gQ_p h]
  rw [this]
theorem flB_p {l l' : List PV'} (h : l'.map (·.p) = l.map (·.p)) (st : Nat) : flB l' st = flB l st := funext fun k => by
  unfold flB chF
  rw [gQ_p h, gQ_p h]
theorem flF_p {l l' : List PV'} (h : l'.map (·.p) = l.map (·.p)) (st : Nat) : flF l' st = flF l st := by
  unfold flF
  rw [len_p h, flB_p h]
theorem fsR_p {l l' : List PV'} (h : l'.map (·.p) = l.map (·.p)) (st : Nat) : fsR l' st = fsR l st := by
  unfold fsR fsE
  rw [sqE_p h, flF_p h]
theorem brR_p {l l' : List PV'} (h : l'.map (·.p) = l.map (·.p)) (st : Nat) (most win : Int) : brR l' st most win = brR l st most win := by
  unfold brR brE brF
  rw [sqE_p h, flF_p h, len_p h]
theorem HW.pastF {B : Nat} {w0 w : World} {Ps : Past} {σ : St} (hw : HW B w0 Ps σ w) : HW B w0 ((w, fun _ => False) :: Ps) σ w := by
  refine { below := hw.below, bsize := hw.bsize, nodup := hw.nodup, box := hw.box, past := fun p hp b hb => ?_, row := fun r hr => ?_, apart := hw.apart, old := fun p hp => ?_ }
  · rcases List.mem_cons.1 hp with rfl | hp
    · exact hb.elim
    · exact hw.past p hp b hb
  · obtain ⟨h1, h2⟩ := hw.row r hr
    refine ⟨h1, fun g hg => ⟨(h2 g hg).1, fun p hp => ?_⟩⟩
    rcases List.mem_cons.1 hp with rfl | hp
    · exact fun h => h
    · exact (h2 g hg).2 p hp
  · rcases List.mem_cons.1 hp with rfl | hp
    · exact Nat.le_refl _
    · exact hw.old p hp
theorem rdS_turn {B : Nat} {w0 w W : World} {Ps : Past} {σ : St} {S S' : Nat → Prop} {A : Option Addr} {xs : List Value} (hw : HW B w0 Ps σ w) (h : RdS S W A xs) (hp : (W, S) ∈ Ps) (hs : ∀ b, S b → b < w.heap.size → S' b) : RdS S' w A xs := by
  have hr := hw.rdm h hp
  rcases h with h | ⟨ad, e1, h2, h3⟩
  · exact .inl h
  · refine .inr ⟨ad, e1, hs _ h2 (hw.past _ hp _ h2).1.1, ?_⟩
    rcases hr with hr | ⟨ad', e2, h4⟩
    · rw [hr]; intro j u hu; simp at hu
    · rw [e1] at e2; cases e2; exact h4
/-- A list of pictures that a call has made. -/
def FilmR (w w' : World) (v : Value) (l : List PV') : Prop := ∃ (A : Option Addr) (c : Nat) (l' : List PV'), v = .slice A l.length c ∧ l'.map (·.p) = l.map (·.p) ∧ RdS (fun b => w.heap.size ≤ b ∧ b < w'.heap.size) w' A (l'.flatMap pvC) ∧ ∀ x ∈ l', RdS (fun b => w.heap.size ≤ b ∧ b < w'.heap.size) w' x.A (x.p.s.map (.float .f32))
theorem film_snoc {l l' : List PV'} {k : Nat} (hk : k < l.length) (h : l'.map (·.p) = (l.take k).map (·.p)) (A : Option Addr) (c : Nat) : (l' ++ [(⟨(gQ l k).p, A, c⟩ : PV')]).map (·.p) = (l.take (k + 1)).map (·.p) := by
  rw [List.map_append, h, List.take_succ_eq_append_getElem hk, List.map_append, gQ_at hk]
  rfl
theorem snoc_all {α : Type} {P : α → Prop} {l : List α} {a : α} (h : ∀ x ∈ l, P x) (ha : P a) : ∀ x ∈ l ++ [a], P x := by
  intro x hx
  rcases List.mem_append.1 hx with hx | hx
  · exact h x hx
  · obtain rfl : x = a := by simpa using hx
    exact ha
theorem take_p {l l' : List PV'} (h : l'.map (·.p) = (l.take l.length).map (·.p)) : l'.map (·.p) = l.map (·.p) := by rwa [List.take_length] at h


theorem sl_rd1 {w w' : World} {A : Option Addr} {n c : Nat} {xs : List Value} (h : Sl w w' (.slice A n c) n xs) : RdS (fun b => w.heap.size ≤ b ∧ b < w'.heap.size) w' A xs := by
  obtain ⟨A', c', e, h⟩ := h
  cases e
  exact h

set_option maxHeartbeats 1000000 in
/-- genlocklaw02.film -/
theorem lfilm_c (A : Option Addr) (c : Nat) (l : List PV') (hl : l.length ≤ 1000000) (hs : ∀ x ∈ l, x.p.s.length ≤ 1000000) (hAs : ∀ x ∈ l, x.A = none → x.p.s.length = 0 ∧ x.c = 0) (w : World) (hr : Rd w A (l.flatMap pvC)) (hrs : ∀ x ∈ l, Rd w x.A (x.p.s.map (.float .f32))) : Calls Tryz.prog 68 #[.slice A l.length c] w fun r w' => ∃ v, r = .returned v ∧ Below w.heap.size w w' ∧ FilmR w w' v l := by
  refine calls_of (args := [.slice A l.length c]) T_ok Tryz.func68 rfl Tryz.ntmps68 (Nat.le_of_ble_eq_true rfl) rfl ?_
  repeat' (first
 | (refine C_id ?_; first
 | refine C_seq ?_
 | refine C_region rfl ?_
 | refine C_block ?_
   )
 | (refine S_id ?_; first
 | refine S_nil ?_
 | refine S_run rfl rfl obQ obQ ?_
   )
 | (refine G_id ?_; first
 | refine G_then ?_
   )
   )
  refine C_row0 3 96 4 rfl ?_
  refine C_loopF (fun i : Nat × World × (Nat → Prop) × List PV' × Option Addr × Nat => ([(i.2.1, i.2.2.1), (w, fun b => b < w.heap.size)], (⟨[(3, .s (.r i.2.2.2.2.1 i.1 i.2.2.2.2.2 0)), (6, .s (.v (.slice A l.length c))), (7, .s (.v (.int .i64 l.length))), (8, .s (.v (.int .i64 i.1)))], [], [⟨96, 4, i.1, i.2.2.2.1.flatMap pvC, .slice i.2.2.2.2.1 i.1 i.2.2.2.2.2⟩]⟩ : St))) (fun i => i.1 ≤ l.length ∧ i.2.2.2.1.map (·.p) = (l.take i.1).map (·.p) ∧ (∀ x ∈ i.2.2.2.1, RdS i.2.2.1 i.2.1 x.A (x.p.s.map (.float .f32))) ∧ ∀ b, i.2.2.1 b → w.heap.size ≤ b) (fun i => l.length - i.1) (fun w1 => (0, w1, (fun _ => False), [], none, 0)) (fun w1 hw1 => ⟨⟨Nat.zero_le _, rfl, (fun x hx => by cases hx), (fun b hb => hb.elim)⟩, by exact ⟨_, rfl, obQ⟩, by exact HW.pastF (HW.same hw1 rfl rfl)⟩) (fun i hi => ?_)
  obtain ⟨k, W, S, l', A', c'⟩ := i
  obtain ⟨hk, hmp, hS, hB⟩ := hi
  dsimp only at hk hmp hS hB ⊢
  by_cases hlt : k < l.length
  · obtain ⟨ad, rfl⟩ := hr.some (by rw [pv_len]; omega)
    repeat' (first
 | (refine C_id ?_; first
 | refine C_seq ?_
 | refine C_region rfl ?_
 | refine C_block ?_
 | refine C_skip ?_
 | (refine C_cond rfl obQ (fun h => ?_) (fun h => ?_) <;> (try simp only [Bool.or_eq_true, Bool.and_eq_true, Bool.or_eq_false_iff, Bool.and_eq_false_iff, decide_eq_true_eq, decide_eq_false_iff_not, beq_iff_eq, bne_iff_ne, beq_eq_false_iff_ne, bne_eq_false_iff_eq, ne_eq, Decidable.not_not, List.cons.injEq, and_true, Bool.not_eq_true', Bool.not_eq_false', Int.not_lt, Int.not_le] at h) <;> (try (exfalso; omega)) <;> (try (exfalso; simp at h; done)) <;> (try (exfalso; simp only [not_true_eq_false, false_or, or_false] at h; omega)) <;> (try (exfalso; omega)))
     )
 | (refine S_id ?_; first
 | refine S_load rfl obQ rfl [.string (gQ l k).p.nm, .int .i64 (gQ l k).p.w, .int .i64 (gQ l k).p.h, .slice (gQ l k).A (gQ l k).p.s.length (gQ l k).c] (.past (w, fun b => b < w.heap.size) memQ _ _ hr.toS _ _ rfl rfl (gQ_idx hlt)) rfl (.inl ⟨rfl, rfl⟩) ?_
 | (refine S_callM (f := 56) rfl obQ (by kernel_rfl) (fun w hw => lown_c (gQ l k).p (gQ l k).A (gQ l k).c (hs _ (gQ_mem hlt)) (hAs _ (gQ_mem hlt)) w (hw.rdm (hrs _ (gQ_mem hlt)).toS memQ)) (fun w1O w2O vO hw1O hbO hRO => ?_); obtain ⟨AO, cO, rfl, hSO⟩ := hRO)
 | refine S_append rfl obQ rfl rfl rfl ⟨by decide, rfl⟩ rfl ⟨rfl, rfl, rfl, rfl⟩ [.string (gQ l k).p.nm, .int .i64 (gQ l k).p.w, .int .i64 (gQ l k).p.h, .slice AO (gQ l k).p.s.length cO] ⟨by decide, rfl⟩ (by simp [Value.oneCell']) (fun w hw => by first | exact hw.src (i := 0) rfl rfl | exact hw.src (i := 1) rfl rfl | exact hw.src (i := 2) rfl rfl | exact hw.src (i := 3) rfl rfl | exact hw.src (i := 4) rfl rfl | exact hw.src (i := 5) rfl rfl | exact hw.src (i := 6) rfl rfl | exact hw.src (i := 7) rfl rfl | exact hw.src (i := 8) rfl rfl) (by unfold maxLen; dsimp only; omega) (fun gb cap' => ⟨_, rfl, ?_⟩)
 | refine S_nil ?_
 | refine S_run rfl rfl obQ obQ ?_
 | refine S_box (fun b0 => ⟨_, _, rfl, obQ, ?_⟩)
 | refine S_slice (fun b => ⟨_, _, rfl, obQ, ?_⟩)
     )
 | (refine G_id ?_; first
 | refine G_loopF (fun w3 => (k + 1, w3, fun b => (w1O.heap.size ≤ b ∧ b < w2O.heap.size) ∨ S b, l' ++ [⟨(gQ l k).p, AO, cO⟩], some ⟨gb, 0, none⟩, cap')) (fun w3 hw3 => ⟨⟨hlt, film_snoc hlt hmp AO cO, snoc_all (fun x hx => rdS_turn hw3 (hS x hx) memQ (fun b hb _ => .inr hb)) (rdS_turn hw3 hSO memQ (fun b hb _ => .inl hb)), (fun b hb => hb.elim (fun h => Nat.le_trans (show w.heap.size ≤ w1O.heap.size from hw1O.bsize) h.1) (hB b))⟩, (by show l.length - (k + 1) < l.length - k; omega), (by exact ⟨_, rfl, obQ⟩), (by exact HW.join (W1 := w2O) (S1 := (fun b => w1O.heap.size ≤ b ∧ b < w2O.heap.size)) (W2 := W) (S2 := S) (Serves.hw (Ps' := (w2O, (fun b => w1O.heap.size ≤ b ∧ b < w2O.heap.size)) :: (W, S) :: [(w, fun b => b < w.heap.size)]) ⟨⟨_, rfl, obQ⟩, ⟨_, rfl⟩, (by dsimp only; rw [List.flatMap_append]; rfl), psQ⟩ hw3))⟩)
 | refine G_then ?_
 | refine G_block ?_
     )
     )
  · obtain rfl : k = l.length := by omega
    repeat' (first
 | (refine C_id ?_; first
 | refine C_seq ?_
 | refine C_region rfl ?_
 | refine C_exit ?_
 | refine C_ret0 ?_
 | (refine C_cond rfl obQ (fun h => ?_) (fun h => ?_) <;> (try simp only [Bool.or_eq_true, Bool.and_eq_true, Bool.or_eq_false_iff, Bool.and_eq_false_iff, decide_eq_true_eq, decide_eq_false_iff_not, beq_iff_eq, bne_iff_ne, beq_eq_false_iff_ne, bne_eq_false_iff_eq, ne_eq, Decidable.not_not, List.cons.injEq, and_true, Bool.not_eq_true', Bool.not_eq_false', Int.not_lt, Int.not_le] at h) <;> (try (exfalso; omega)) <;> (try (exfalso; simp at h; done)) <;> (try (exfalso; simp only [not_true_eq_false, false_or, or_false] at h; omega)) <;> (try (exfalso; omega)))
     )
 | (refine S_id ?_; first
 | refine S_nil ?_
 | refine S_run rfl rfl obQ obQ ?_
     )
 | (refine G_id ?_; first
 | refine G_then ?_
 | refine G_blockX ?_
 | refine G_thenX ?_
 | refine G_ret rfl obQ (fun w2 hw => ⟨_, rfl, hw.below, A', c', l', rfl, take_p hmp, sl_rd1 (HW.rowSl (i := 0) hw rfl rfl rfl rfl), fun x hx => rdS_turn hw (hS x hx) memQ (fun b hb h2 => ⟨hB b hb, h2⟩)⟩)
     )
     )

/-- A short sequence. -/
def shortQ (l : List PV') : Bool := (l.all fun x => shortB x.p) && (decide ((l.length : Int) ≤ 12) || ((l.length : Int) == 257))
theorem shortQ_ok {l : List PV'} (h : shortQ l = true) : l.length ≤ 257 ∧ ∀ x ∈ l, x.p.nm.size ≤ 40 ∧ x.p.s.length ≤ 160 := by
  simp only [shortQ, Bool.and_eq_true, List.all_eq_true, Bool.or_eq_true, decide_eq_true_eq, beq_iff_eq] at h
  exact ⟨by omega, fun x hx => shortB_ok (h.1 x hx)⟩
theorem shortQ_no {l : List PV'} {k : Nat} (hk : k < l.length) (h : shortB (gQ l k).p = false) : shortQ l = false := by
  have : (l.all fun x => shortB x.p) = false := by
    rw [List.all_eq_false]
    exact ⟨gQ l k, gQ_mem hk, by simp [h]⟩
  unfold shortQ
  rw [this, Bool.false_and]
theorem shortQ_yes {l : List PV'} (h : ∀ k, k < l.length → shortB (gQ l k).p = true) : shortQ l = (decide ((l.length : Int) ≤ 12) || ((l.length : Int) == 257)) := by
  have : (l.all fun x => shortB x.p) = true := by
    rw [List.all_eq_true]
    intro x hx
    obtain ⟨k, hk, rfl⟩ := List.getElem_of_mem hx
    have := h k hk
    rwa [gQ_at hk] at this
  unfold shortQ
  rw [this, Bool.true_and]

set_option maxHeartbeats 1000000 in
/-- genlockref02.ShortSequence -/
theorem rShortQ_c (A : Option Addr) (c : Nat) (l : List PV') (hl : l.length ≤ maxLen) (v : Bool) (hv : shortQ l = v) (w : World) (hr : Rd w A (l.flatMap pvC)) : Calls Tryz.prog 66 #[.slice A l.length c] w fun r w' => r = .returned (.bool v) ∧ Below w.heap.size w w' := by
  refine calls_of (args := [.slice A l.length c]) T_ok Tryz.func66 rfl Tryz.ntmps66 (Nat.le_of_ble_eq_true rfl) rfl ?_
  subst hv
  unfold maxLen at hl
  repeat' (first
 | (refine C_id ?_; first
 | refine C_seq ?_
 | refine C_region rfl ?_
 | refine C_block ?_
 | refine C_skip ?_
 | refine C_ret0 ?_
 | (refine C_cond rfl obQ (fun h => ?_) (fun h => ?_) <;> (try simp only [Bool.or_eq_true, Bool.and_eq_true, Bool.or_eq_false_iff, Bool.and_eq_false_iff, decide_eq_true_eq, decide_eq_false_iff_not, beq_iff_eq, bne_iff_ne, beq_eq_false_iff_ne, bne_eq_false_iff_eq, ne_eq, Decidable.not_not, List.cons.injEq, and_true, Bool.not_eq_true', Bool.not_eq_false', Int.not_lt, Int.not_le] at h))
   )
 | (refine S_id ?_; first
 | refine S_nil ?_
 | refine S_run rfl rfl obQ obQ ?_
   )
 | (refine G_id ?_; first
 | refine G_then ?_
 | refine G_thenR ?_
 | refine G_ret rfl obQ (fun w hw => ⟨?_, hw.below⟩)
   )
   )
  refine C_loopS (fun k : Nat => ⟨[(3, .s (.v (.int .i64 k))), (0, .s (.v (.slice A l.length c)))], [], []⟩) (fun k => k ≤ l.length ∧ ∀ j, j < k → shortB (gQ l j).p = true) (fun k => l.length - k) 0 ⟨Nat.zero_le _, fun j hj => absurd hj (Nat.not_lt_zero j)⟩ ?_ (fun k hk => ?_)
  · exact ⟨⟨_, rfl, obQ⟩, ⟨_, rfl⟩, rfl, pstQ⟩
  by_cases hlt : k < l.length
  · obtain ⟨ad, rfl⟩ := hr.some (by rw [pv_len]; omega)
    cases hsb : shortB (gQ l k).p
    · rw [shortQ_no hlt hsb]
      repeat' (first
 | (refine C_id ?_; first
 | refine C_seq ?_
 | refine C_region rfl ?_
 | refine C_block ?_
 | refine C_skip ?_
 | refine C_ret0 ?_
 | refine C_condT rfl obQ ?_
 | (refine C_cond rfl obQ (fun h => ?_) (fun h => ?_) <;> (try simp only [Bool.or_eq_true, Bool.and_eq_true, Bool.or_eq_false_iff, Bool.and_eq_false_iff, decide_eq_true_eq, decide_eq_false_iff_not, beq_iff_eq, bne_iff_ne, beq_eq_false_iff_ne, bne_eq_false_iff_eq, ne_eq, Decidable.not_not, List.cons.injEq, and_true, Bool.not_eq_true', Bool.not_eq_false', Int.not_lt, Int.not_le] at h) <;> (try (exfalso; omega)) <;> (try (exfalso; simp at h; done)) <;> (try (exfalso; simp only [not_true_eq_false, false_or, or_false] at h; omega)) <;> (try (exfalso; first | omega | (simp at h; done))))
       )
 | (refine S_id ?_; first
 | refine S_load rfl obQ rfl [.string (gQ l k).p.nm, .int .i64 (gQ l k).p.w, .int .i64 (gQ l k).p.h, .slice (gQ l k).A (gQ l k).p.s.length (gQ l k).c] (.past (w, fun b => b < w.heap.size) memQ _ _ hr.toS _ _ rfl rfl (gQ_idx hlt)) rfl (.inl ⟨rfl, rfl⟩) ?_
 | refine S_nil ?_
 | refine S_run rfl rfl obQ obQ ?_
 | refine S_call (f := 54) rfl obQ (by kernel_rfl) (fun w hw => rShortPicture_c (gQ l k).p _ _ _ hsb w) ?_
       )
 | (refine G_id ?_; first
 | refine G_then ?_
 | refine G_blockR ?_
 | refine G_thenR ?_
 | refine G_ret rfl obQ (fun w hw => ⟨?_, hw.below⟩)
       )
       )
      all_goals rfl
    · repeat' (first
 | (refine C_id ?_; first
 | refine C_seq ?_
 | refine C_region rfl ?_
 | refine C_block ?_
 | refine C_skip ?_
 | refine C_condF rfl obQ ?_
 | (refine C_cond rfl obQ (fun h => ?_) (fun h => ?_) <;> (try simp only [Bool.or_eq_true, Bool.and_eq_true, Bool.or_eq_false_iff, Bool.and_eq_false_iff, decide_eq_true_eq, decide_eq_false_iff_not, beq_iff_eq, bne_iff_ne, beq_eq_false_iff_ne, bne_eq_false_iff_eq, ne_eq, Decidable.not_not, List.cons.injEq, and_true, Bool.not_eq_true', Bool.not_eq_false', Int.not_lt, Int.not_le] at h) <;> (try (exfalso; omega)) <;> (try (exfalso; simp at h; done)) <;> (try (exfalso; simp only [not_true_eq_false, false_or, or_false] at h; omega)) <;> (try (exfalso; first | omega | (simp at h; done))))
       )
 | (refine S_id ?_; first
 | refine S_load rfl obQ rfl [.string (gQ l k).p.nm, .int .i64 (gQ l k).p.w, .int .i64 (gQ l k).p.h, .slice (gQ l k).A (gQ l k).p.s.length (gQ l k).c] (.past (w, fun b => b < w.heap.size) memQ _ _ hr.toS _ _ rfl rfl (gQ_idx hlt)) rfl (.inl ⟨rfl, rfl⟩) ?_
 | refine S_nil ?_
 | refine S_run rfl rfl obQ obQ ?_
 | refine S_call (f := 54) rfl obQ (by kernel_rfl) (fun w hw => rShortPicture_c (gQ l k).p _ _ _ hsb w) ?_
       )
 | (refine G_id ?_; first
 | refine G_loop (k + 1) ⟨hlt, fun j hj => (Nat.lt_or_ge j k).elim (hk.2 j) (fun h1 => by have e : j = k := (by omega); rw [e]; exact hsb)⟩ (by omega) ⟨⟨_, rfl, obQ⟩, ⟨_, rfl⟩, rfl, pstQ⟩
 | refine G_then ?_
 | refine G_block ?_
       )
       )
  · rw [shortQ_yes (fun j hj => hk.2 j (by omega))]
    obtain rfl : k = l.length := by omega
    repeat' (first
 | (refine C_id ?_; first
 | refine C_seq ?_
 | refine C_region rfl ?_
 | refine C_exit ?_
 | refine C_ret0 ?_
 | (refine C_cond rfl obQ (fun h => ?_) (fun h => ?_) <;> (try simp only [Bool.or_eq_true, Bool.and_eq_true, Bool.or_eq_false_iff, Bool.and_eq_false_iff, decide_eq_true_eq, decide_eq_false_iff_not, beq_iff_eq, bne_iff_ne, beq_eq_false_iff_ne, bne_eq_false_iff_eq, ne_eq, Decidable.not_not, List.cons.injEq, and_true, Bool.not_eq_true', Bool.not_eq_false', Int.not_lt, Int.not_le] at h) <;> (try (exfalso; omega)) <;> (try (exfalso; simp at h; done)) <;> (try (exfalso; simp only [not_true_eq_false, false_or, or_false] at h; omega)) <;> (try (exfalso; omega)))
     )
 | (refine S_id ?_; first
 | refine S_nil ?_
 | refine S_run rfl rfl obQ obQ ?_
     )
 | (refine G_id ?_; first
 | refine G_then ?_
 | refine G_blockX ?_
 | refine G_thenX ?_
 | refine G_ret rfl obQ (fun w hw => ⟨?_, hw.below⟩)
     )
     )
    all_goals rfl

theorem sq_1 {l : List PV'} {k : Nat} (h : ¬ picE (gQ l k).p = 0) : firstL (sqL l k) = picE (gQ l k).p := by unfold sqL; rw [firstL, if_neg h]
theorem sq_2 {l : List PV'} {k : Nat} (h0 : picE (gQ l k).p = 0) (h : ¬ (gQ l k).p.w = (gQ l 0).p.w ∨ ¬ (gQ l k).p.h = (gQ l 0).p.h) : firstL (sqL l k) = 2 := by
  have e : ((gQ l k).p.w != (gQ l 0).p.w || (gQ l k).p.h != (gQ l 0).p.h) = true := by
    simp only [Bool.or_eq_true, bne_iff_ne]
    exact h
  unfold sqL
  rw [firstL, if_pos h0, e]
  rfl
theorem sq_3 {l : List PV'} {k : Nat} (h0 : picE (gQ l k).p = 0) (h : (gQ l k).p.w = (gQ l 0).p.w ∧ (gQ l k).p.h = (gQ l 0).p.h) : firstL (sqL l k) = 0 := by
  have e : ((gQ l k).p.w != (gQ l 0).p.w || (gQ l k).p.h != (gQ l 0).p.h) = false := by
    simp only [Bool.or_eq_false_iff, bne_eq_false_iff_eq]
    exact h
  unfold sqL
  rw [firstL, if_pos h0, e]
  rfl

set_option maxHeartbeats 1000000 in
/-- genlockref02.CheckSequence -/
theorem rCheckSeq_c (A : Option Addr) (c : Nat) (l : List PV') (hl : l.length ≤ 1000000) (hs : ∀ x ∈ l, x.p.s.length ≤ 1000000) (hnm : ∀ x ∈ l, x.p.nm.size ≤ maxLen) (w : World) (hr : Rd w A (l.flatMap pvC)) (hrs : ∀ x ∈ l, Rd w x.A (x.p.s.map (.float .f32))) : Calls Tryz.prog 70 #[.slice A l.length c] w fun r w' => r = .returned (.int .i64 (sqE l)) ∧ Below w.heap.size w w' := by
  refine calls_of (args := [.slice A l.length c]) T_ok Tryz.func70 rfl Tryz.ntmps70 (Nat.le_of_ble_eq_true rfl) rfl ?_
  repeat' (first
 | (refine C_id ?_; first
 | refine C_seq ?_
 | refine C_region rfl ?_
 | refine C_block ?_
 | refine C_skip ?_
 | refine C_ret0 ?_
 | (refine C_cond rfl obQ (fun h => ?_) (fun h => ?_) <;> (try simp only [Bool.or_eq_true, Bool.and_eq_true, Bool.or_eq_false_iff, Bool.and_eq_false_iff, decide_eq_true_eq, decide_eq_false_iff_not, beq_iff_eq, bne_iff_ne, beq_eq_false_iff_ne, bne_eq_false_iff_eq, ne_eq, Decidable.not_not, List.cons.injEq, and_true, Bool.not_eq_true', Bool.not_eq_false', Int.not_lt, Int.not_le] at h))
 )
 | (refine S_id ?_; first
 | refine S_nil ?_
 | refine S_run rfl rfl obQ obQ ?_
 )
 | (refine G_id ?_; first
 | refine G_then ?_
 | refine G_thenR ?_
 | refine G_ret rfl obQ (fun w hw => ⟨?_, hw.below⟩)
 )
 )
  · exact rI (sqE_1 (by omega)).symm
  have hP := sqE_2 (l := l) (by omega)
  refine C_loopS (fun k : Nat => ⟨[(3, .s (.v (.int .i64 k))), (0, .s (.v (.slice A l.length c)))], [], []⟩) (fun k => k ≤ l.length ∧ sqE l = firstL (((List.range l.length).map fun k => firstL (sqL l k)).drop k)) (fun k => l.length - k) 0 ⟨Nat.zero_le _, hP⟩ ?_ (fun k hk => ?_)
  · exact ⟨⟨_, rfl, obQ⟩, ⟨_, rfl⟩, rfl, pstQ⟩
  by_cases hlt : k < l.length
  · obtain ⟨ad, rfl⟩ := hr.some (by rw [pv_len]; omega)
    have hfd := range_drop (f := fun k => firstL (sqL l k)) hlt
    (try dsimp only at hfd)
    repeat' (first
 | (refine C_id ?_; first
 | refine C_seq ?_
 | refine C_region rfl ?_
 | refine C_block ?_
 | refine C_skip ?_
 | refine C_ret0 ?_
 | refine C_draw (id := 9) rfl mixed (by kernel_rfl) ?_
 | (refine C_cond rfl obQ (fun h => ?_) (fun h => ?_) <;> (try simp only [Bool.or_eq_true, Bool.and_eq_true, Bool.or_eq_false_iff, Bool.and_eq_false_iff, decide_eq_true_eq, decide_eq_false_iff_not, beq_iff_eq, bne_iff_ne, beq_eq_false_iff_ne, bne_eq_false_iff_eq, ne_eq, Decidable.not_not, List.cons.injEq, and_true, Bool.not_eq_true', Bool.not_eq_false', Int.not_lt, Int.not_le] at h) <;> (try (exfalso; omega)))
     )
 | (refine S_id ?_; first
 | refine S_load rfl obQ rfl [.string (gQ l k).p.nm, .int .i64 (gQ l k).p.w, .int .i64 (gQ l k).p.h, .slice (gQ l k).A (gQ l k).p.s.length (gQ l k).c] (.past (w, fun b => b < w.heap.size) memQ _ _ hr.toS _ _ rfl rfl (gQ_idx hlt)) rfl (.inl ⟨rfl, rfl⟩) ?_
 | refine S_nil ?_
 | refine S_run rfl rfl obQ obQ ?_
 | refine S_call (f := 57) rfl obQ (by kernel_rfl) (fun w hw => rCheckPicture_c (gQ l k).p (gQ l k).A (gQ l k).c (hs _ (gQ_mem hlt)) (hnm _ (gQ_mem hlt)) w (hw.rdm (hrs _ (gQ_mem hlt)).toS memQ)) ?_
     )
 | (refine D_id ?_; first
 | refine D_load rfl obQ rfl [.int .i64 (gQ l k).p.w] (.past _ memQ _ _ hr.toS _ _ rfl (add_of_add _ _ _) (gQ_f (z := (k : Int)) (k := k) (by omega) (by omega) 1 rfl)) rfl (.inr ⟨rfl, rfl⟩) ?_
 | refine D_load rfl obQ rfl [.int .i64 (gQ l 0).p.w] (.past _ memQ _ _ hr.toS _ _ rfl (add_of_add _ _ _) (gQ_f (z := 0) (k := 0) (by omega) (by omega) 1 rfl)) rfl (.inr ⟨rfl, rfl⟩) ?_
 | refine D_loadG rfl rfl (fun hg => obQ) rfl [.int .i64 (gQ l k).p.h] (fun hg => .past _ memQ _ _ hr.toS _ _ rfl (add_of_add _ _ _) (gQ_f (z := (k : Int)) (k := k) (by omega) (by omega) 2 rfl)) rfl (.inr ⟨rfl, rfl⟩) ?_
 | refine D_loadG rfl rfl (fun hg => obQ) rfl [.int .i64 (gQ l 0).p.h] (fun hg => .past _ memQ _ _ hr.toS _ _ rfl (add_of_add _ _ _) (gQ_f (z := 0) (k := 0) (by omega) (by omega) 2 rfl)) rfl (.inr ⟨rfl, rfl⟩) ?_
 | refine D_nil ?_
 | refine D_run rfl rfl obQ obQ ?_
     )
 | (refine G_id ?_; first
 | refine G_loop (k + 1) ?_ (by omega) ⟨⟨_, rfl, obQ⟩, ⟨_, rfl⟩, rfl, pstQ⟩
 | refine G_then ?_
 | refine G_block ?_
 | refine G_blockR ?_
 | refine G_thenR ?_
 | refine G_ret rfl obQ (fun w hw => ⟨?_, hw.below⟩)
     )
     )
    · have e := sq_1 (by assumption)
      exact rI (by rw [hk.2, hfd, if_neg (by rw [e]; assumption), e])
    · have e := sq_2 (by assumption) (by assumption)
      exact rI (by rw [hk.2, hfd, if_neg (by rw [e]; omega), e])
    · have e := sq_3 (by assumption) (by assumption)
      exact ⟨by omega, by rw [hk.2, hfd, if_pos e]⟩
  · obtain rfl : k = l.length := by omega
    repeat' (first
 | (refine C_id ?_; first
 | refine C_seq ?_
 | refine C_region rfl ?_
 | refine C_exit ?_
 | refine C_ret0 ?_
 | (refine C_cond rfl obQ (fun h => ?_) (fun h => ?_) <;> (try simp only [Bool.or_eq_true, Bool.and_eq_true, Bool.or_eq_false_iff, Bool.and_eq_false_iff, decide_eq_true_eq, decide_eq_false_iff_not, beq_iff_eq, bne_iff_ne, beq_eq_false_iff_ne, bne_eq_false_iff_eq, ne_eq, Decidable.not_not, List.cons.injEq, and_true, Bool.not_eq_true', Bool.not_eq_false', Int.not_lt, Int.not_le] at h) <;> (try (exfalso; omega)))
     )
 | (refine S_id ?_; first
 | refine S_nil ?_
 | refine S_run rfl rfl obQ obQ ?_
     )
 | (refine G_id ?_; first
 | refine G_then ?_
 | refine G_blockX ?_
 | refine G_thenX ?_
 | refine G_ret rfl obQ (fun w hw => ⟨?_, hw.below⟩)
     )
     )
    exact rI (by rw [hk.2, range_end])

end Go.Proofs.YtdbffbcobghbeaaGreatDoor
namespace Go.Proofs.YtdbffbcobghbeaaGreatDoor
open Go.E Go.RowKit Go.Fl
attribute [local irreducible] G C S D Calls
set_option maxRecDepth 100000
set_option linter.unusedSimpArgs false
set_option linter.unusedVariables false

/-! ### The sign and the double of a sample -/
def bneg (b : Nat) : Nat := b ^^^ 2 ^ 31
theorem neg_word (b : Nat) : bneg b % 2 ^ 31 = b % 2 ^ 31 ∧ (bneg b / 2 ^ 31 % 2 == 1) = !(b / 2 ^ 31 % 2 == 1) := by
  constructor
  · refine Nat.eq_of_testBit_eq fun i => ?_
    unfold bneg
    rw [Nat.testBit_mod_two_pow, Nat.testBit_mod_two_pow, Nat.testBit_xor, Nat.testBit_two_pow]
    by_cases h : i < 31
    · rw [decide_eq_false (show ¬ 31 = i by omega), Bool.xor_false]
    · simp [h]
  · have h1 : (bneg b).testBit 31 = !(b.testBit 31) := by
      unfold bneg
      rw [Nat.testBit_xor, Nat.testBit_two_pow]
      simp
    rw [Nat.testBit_eq_decide_div_mod_eq, Nat.testBit_eq_decide_div_mod_eq] at h1
    have e : ∀ x : Nat, (x == 1) = decide (x = 1) := fun x => by by_cases h : x = 1 <;> simp [h]
    rw [e, e]
    exact h1
theorem neg_read {b : Nat} {s : Bool} {m : Nat} {e : Int} (h : Ieee.single.read b = .number s m e) : Ieee.single.read (bneg b) = .number (!s) m e := by
  obtain ⟨h1, h2⟩ := neg_word b
  unfold Ieee.Format.read at h ⊢
  rw [show Ieee.single.signWeight = 2 ^ 31 from rfl] at h ⊢
  dsimp only at h ⊢
  rw [h1, h2]
  split at h
  · rename_i g
    rw [if_pos g]
    cases h
    rfl
  · rename_i g
    rw [if_neg g]
    split at h
    · rename_i g2
      rw [if_pos g2]
      cases h
      rfl
    · split at h <;> cases h
theorem neg_fin {b : Nat} (h : Fin32 b) : Fin32 (bneg b) ∧ B32 (bneg b) = -B32 b := by
  obtain ⟨s, m, e, h⟩ := h
  have h2 := neg_read h
  refine ⟨⟨_, _, _, h2⟩, ?_⟩
  unfold B32 Un
  rw [h, h2]
  dsimp only
  rw [signed_eq, signed_eq]
  cases s <;> simp
theorem neg_smp {b : Nat} (h : Smp b) : Smp (bneg b) ∧ lvl (bneg b) = -lvl b := by
  obtain ⟨h1, h2⟩ := neg_fin h.fin
  have e : lvl (bneg b) = -lvl b := by
    unfold lvl
    rw [h2, Int.neg_tdiv]
  refine ⟨⟨h1, ?_, ?_⟩, e⟩
  · have := h.bd
    rw [h2]
    omega
  · rw [e, h2, Int.neg_mul, h.eq]
theorem c2 : Ieee.single.read 1073741824 = .number false (2 ^ 23) ((1 : Nat) - (23 : Nat)) := by decide +kernel
theorem mul2 {x : Nat} (hx : Fin32 x) (h : -2 ^ 159 ≤ B32 x ∧ B32 x ≤ 2 ^ 159) : ∃ r, Ieee.single.mul 1073741824 x = some r ∧ Fin32 r ∧ B32 r = B32 x * 2 := by
  obtain ⟨s, m, e, hx⟩ := hx
  have := small_place hx h
  exact mul_pow single_fm c2 hx (by omega)
def dbl (b : Nat) : Nat := (Ieee.single.mul 1073741824 b).getD 0
theorem dbl_mul {b : Nat} (h : Smp b) : Ieee.single.mul 1073741824 b = some (dbl b) := by
  obtain ⟨r, h1, _⟩ := mul2 h.fin h.bd
  unfold dbl
  rw [h1]
  rfl
theorem dbl_smp {b : Nat} (h : Smp b) (hb : -2 ^ 158 ≤ B32 b ∧ B32 b ≤ 2 ^ 158) : Smp (dbl b) ∧ lvl (dbl b) = 2 * lvl b := by
  obtain ⟨r, h1, h2, h3⟩ := mul2 h.fin h.bd
  have e0 : dbl b = r := by unfold dbl; rw [h1]; rfl
  rw [e0]
  have p : (2 : Int) ^ 145 ≠ 0 := by decide +kernel
  have e : lvl r = 2 * lvl b := by
    unfold lvl
    rw [h3, ← h.eq, Int.mul_tdiv_cancel _ p, show lvl b * 2 ^ 145 * 2 = 2 * lvl b * 2 ^ 145 by rw [Int.mul_comm, ← Int.mul_assoc], Int.mul_tdiv_cancel _ p]
  refine ⟨⟨h2, ?_, ?_⟩, e⟩
  · rw [h3]
    have : (2 : Int) ^ 159 = 2 ^ 158 * 2 := by decide +kernel
    omega
  · rw [e, h3, ← h.eq, Int.mul_assoc, Int.mul_comm]
theorem f512 : Fin32 1140850688 ∧ B32 1140850688 = 2 ^ 158 := ⟨⟨_, _, _, rfl⟩, by decide +kernel⟩
theorem fm512 : Fin32 3288334336 ∧ B32 3288334336 = -2 ^ 158 := ⟨⟨_, _, _, rfl⟩, by decide +kernel⟩
theorem gt512 {b : Nat} (h : Smp b) : (FloatKind.f32.format.order b 1140850688 == some .gt) = decide (2 ^ 158 < B32 b) := by
  rw [show FloatKind.f32.format = Ieee.single from rfl, order32 h.fin f512.1, cmp_gt, f512.2]
theorem lt512 {b : Nat} (h : Smp b) : (FloatKind.f32.format.order b 3288334336 == some .lt) = decide (B32 b < -2 ^ 158) := by
  rw [show FloatKind.f32.format = Ieee.single from rfl, order32 h.fin fm512.1, cmp_lt, fm512.2]
/-- A step out of a byte. -/
theorem st_ok {n : Int} (h : 0 ≤ n ∧ n ≤ 255) : stE (smp n) = 0 := by
  have hs : Smp (smp n) := smp_Smp (by omega)
  unfold stE
  rw [firstL_zero]
  simp only [List.mem_cons, List.mem_nil_iff, or_false, forall_eq_or_imp, forall_eq, smp_iff, wh_zero (show (3 : Int) ≠ 0 by omega)]
  refine ⟨hs, ?_⟩
  have hb : B32 (smp n) = n * 2 ^ 145 := (smp_ok (by omega)).2.2
  rw [show FloatKind.f32.format = Ieee.single from rfl, order32 hs.fin f0.1, cmp_lt, f0.2, hb, decide_eq_false_iff_not]
  have hp : (0 : Int) < 2 ^ 145 := by decide +kernel
  have := Int.mul_nonneg h.1 (Int.le_of_lt hp)
  omega
/-! ### A sequence backwards -/
theorem gQ_rev {l : List PV'} {k : Nat} (h : k < l.length) : gQ l.reverse k = gQ l (l.length - 1 - k) := by
  rw [gQ_at (by simpa using h), gQ_at (by omega), List.getElem_reverse]
theorem sqE_mk {l : List PV'} (h1 : l.length ≤ 256) (h2 : ∀ k, k < l.length → PicOk (gQ l k).p ∧ (gQ l k).p.w = (gQ l 0).p.w ∧ (gQ l k).p.h = (gQ l 0).p.h) : sqE l = 0 := by
  rw [sqE_2 (by omega), firstL_zero]
  intro x hx
  obtain ⟨k, hk, rfl⟩ := List.mem_map.1 hx
  obtain ⟨g1, g2, g3⟩ := h2 k (List.mem_range.1 hk)
  unfold sqL
  rw [firstL_zero]
  simp only [List.mem_cons, List.mem_nil_iff, or_false, forall_eq_or_imp, forall_eq, pic_ok, wh_zero (show (2 : Int) ≠ 0 by omega), Bool.or_eq_false_iff, bne_eq_false_iff_eq]
  exact ⟨g1, g2, g3⟩
theorem sqE_rev {l : List PV'} (h : sqE l = 0) : sqE l.reverse = 0 := by
  obtain ⟨h1, h2⟩ := sqE_ok h
  refine sqE_mk (by simpa using h1) fun k hk => ?_
  rw [List.length_reverse] at hk
  rw [gQ_rev hk, gQ_rev (show 0 < l.length by omega)]
  obtain ⟨a1, a2, a3⟩ := h2 (l.length - 1 - k) (by omega)
  obtain ⟨b1, b2, b3⟩ := h2 (l.length - 1 - 0) (by omega)
  exact ⟨a1, by rw [a2, b2], by rw [a3, b3]⟩
theorem pic_size {l : List PV'} (h : sqE l = 0) {k : Nat} (hk : k < l.length) : (gQ l k).p.s.length = (gQ l 0).p.s.length := by
  obtain ⟨_, h2⟩ := sqE_ok h
  obtain ⟨a1, a2, a3⟩ := h2 k hk
  obtain ⟨b1, _, _⟩ := h2 0 (by omega)
  have e1 := a1.n
  have e2 := b1.n
  rw [a2, a3] at e1
  omega
theorem flB_rev {l : List PV'} (h : sqE l = 0) (st : Nat) {k : Nat} (h0 : 0 < k) (hk : k < l.length) : flB l.reverse st (l.length - k) = flB l st k := by
  have e1 : chF l.reverse (l.length - k) = 0 - chF l k := by
    unfold chF
    rw [gQ_rev (by omega), gQ_rev (by omega), show l.length - 1 - (l.length - k) = k - 1 by omega, show l.length - 1 - (l.length - k - 1) = k by omega]
    omega
  unfold flB
  rw [e1, gQ_rev (by omega), show l.length - 1 - (l.length - k) = k - 1 by omega, pic_size h (show k - 1 < l.length by omega), pic_size h hk, decide_eq_true h0, decide_eq_true (show 0 < l.length - k by omega)]
  congr 2
  rw [show max (0 - chF l k) (0 - (0 - chF l k)) = max (chF l k) (0 - chF l k) by omega]
theorem range_rev (m : Nat) : (List.range m).reverse = (List.range m).map fun j => m - 1 - j := by
  refine List.ext_getElem (by simp) fun i h1 h2 => ?_
  simp [List.getElem_reverse]
theorem filt_rev {m : Nat} {p q : Nat → Bool} (h : ∀ j, j < m → q (m - 1 - j) = p j) : (List.range m).filter q = (((List.range m).filter p).map fun j => m - 1 - j).reverse := by
  have e : List.range m = ((List.range m).map fun j => m - 1 - j).reverse := by
    rw [← range_rev, List.reverse_reverse]
  conv => lhs; rw [e]
  rw [List.filter_reverse, List.filter_map]
  congr 2
  exact List.filter_congr fun j hj => h j (List.mem_range.1 hj)
/-- The flashes of a sequence backwards. -/
theorem flF_rev {l : List PV'} (h : sqE l = 0) (st : Nat) : flF l.reverse st = ((flF l st).map fun k => l.length - k).reverse := by
  unfold flF
  rw [List.length_reverse]
  rcases Nat.eq_zero_or_pos l.length with h0 | h0
  · rw [h0]; rfl
  obtain ⟨m, hm⟩ : ∃ m, l.length = m + 1 := ⟨l.length - 1, by omega⟩
  have f0 : ∀ (l : List PV'), flB l st 0 = false := fun l => rfl
  rw [hm, List.range_succ_eq_map, List.filter_cons, f0, if_neg (by simp), List.filter_cons, f0, if_neg (by simp), List.filter_map, List.filter_map]
  rw [filt_rev (p := flB l st ∘ Nat.succ) (q := flB l.reverse st ∘ Nat.succ)]
  · rw [List.map_reverse, List.map_map, List.map_map]
    congr 1
    refine List.map_congr_left fun j hj => ?_
    have := List.mem_range.1 (List.mem_filter.1 hj).1
    show m - 1 - j + 1 = m + 1 - (j + 1)
    omega
  · intro j hj
    have := flB_rev h st (k := j + 1) (by omega) (by omega)
    show flB l.reverse st (m - 1 - j + 1) = flB l st (j + 1)
    rw [← this, hm]
    congr 1
    omega
theorem fl_bd {l : List PV'} {st : Nat} {k : Nat} (h : k ∈ flF l st) : 1 ≤ k ∧ k < l.length := by
  unfold flF at h
  rw [List.mem_filter, List.mem_range] at h
  obtain ⟨h1, h2⟩ := h
  unfold flB at h2
  rw [Bool.and_eq_true, decide_eq_true_eq] at h2
  exact ⟨h2.1, h1⟩
/-- The n-th flash from the end. -/
theorem fl_at {l : List PV'} {st : Nat} (h : sqE l = 0) {i : Nat} (hi : i < (flF l st).length) (hj : (flF l st).length - 1 - i < (flF l.reverse st).length) : (flF l.reverse st)[(flF l st).length - 1 - i] = l.length - (flF l st)[i] := by
  have e := flF_rev h st
  have : (flF l.reverse st)[(flF l st).length - 1 - i] = (((flF l st).map fun k => l.length - k).reverse)[(flF l st).length - 1 - i]'(by rw [← e]; exact hj) := by congr 1
  rw [this, List.getElem_reverse, List.getElem_map]
  congr 2
  simp
  omega
theorem fl_rlen {l : List PV'} {st : Nat} (h : sqE l = 0) : (flF l.reverse st).length = (flF l st).length := by
  rw [flF_rev h]
  simp
/-! ### Limits of flashes -/
theorem br_mem {F : List Nat} {most win : Int} {n k : Nat} : k ∈ brL F most win n ↔ k < n ∧ most < cntF F k win := by
  unfold brL brB
  rw [List.mem_filter, List.mem_range, decide_eq_true_eq]
theorem cnt_win {F : List Nat} {n : Nat} {win : Int} : cntF F n win ≤ cntF F n (win + 1) := by
  unfold cntF
  refine (List.Sublist.length_le ?_)
  have : F.filter (inB n win) = (F.filter (inB n (win + 1))).filter (inB n win) := by
    rw [List.filter_filter]
    refine List.filter_congr fun k _ => ?_
    unfold inB
    by_cases h1 : (k : Int) ≤ n <;> by_cases h2 : (n : Int) - win < k
    · simp [h1, h2, show (n : Int) - (win + 1) < k by omega]
    · simp [h2]
    · simp [h1]
    · simp [h1]
  rw [this]
  exact List.filter_sublist
theorem br_less {F : List Nat} {most win : Int} {n k : Nat} (h : k ∈ brL F most win n) : k ∈ brL F (most - 1) win n := by
  rw [br_mem] at h ⊢
  exact ⟨h.1, by omega⟩
theorem br_long {F : List Nat} {most win : Int} {n k : Nat} (h : k ∈ brL F most win n) : k ∈ brL F most (win + 1) n := by
  rw [br_mem] at h ⊢
  have := cnt_win (F := F) (n := k) (win := win)
  exact ⟨h.1, by omega⟩
theorem br_none (F : List Nat) (win : Int) (n : Nat) : brL F (F.length : Int) win n = [] := by
  refine List.eq_nil_iff_forall_not_mem.2 fun k hk => ?_
  have h := (br_mem.1 hk).2
  have := cnt_len F k win
  omega
/-! ### Loudness -/
theorem cv_map {s : List Nat} {f : Nat → Nat} {c : Int} {t : List Int} (h : ∀ b ∈ s, lvl (f b) = c * lvl b) {k : Nat} (hk : k < s.length) : ∀ j, cv (s.map f) t k j = c * cv s t k j
  | 0 => by simp [cv]
  | j + 1 => by
    have ih := cv_map h hk (t := t) j
    by_cases hj : j ≤ k
    · rw [cv_1 hj, cv_1 hj, ih]
      have e : gB (s.map f) (k - j) = f (gB s (k - j)) := by
        rw [gB_at (by simp; omega), gB_at (by omega), List.getElem_map]
      rw [e, h _ (gB_mem (by omega)), Int.mul_add, ← Int.mul_assoc, Int.mul_comm (gI t j) c, Int.mul_assoc]
    · rw [cv_2 hj, cv_2 hj, ih]
theorem sqI_map {s : List Nat} {f : Nat → Nat} {c : Int} {t : List Int} (h : ∀ b ∈ s, lvl (f b) = c * lvl b) : sqI (s.map f) t = (sqI s t).map fun x => c * c * x := by
  unfold sqI
  rw [List.map_map, List.length_map]
  refine List.map_congr_left fun k hk => ?_
  have := cv_map h (List.mem_range.1 hk) (t := t) t.length
  show sqN (s.map f) t k = c * c * sqN s t k
  unfold sqN
  rw [this]
  grind
theorem sum_map (c : Int) : ∀ l : List Int, (l.map fun x => c * x).sum = c * l.sum
  | [] => by simp
  | x :: l => by rw [List.map_cons, List.sum_cons, List.sum_cons, sum_map c l, Int.mul_add]
theorem pS_map (c : Int) (L : List Int) (p n : Nat) : pS (L.map fun x => c * x) p n = c * pS L p n := by
  unfold pS
  rw [← List.map_drop, ← List.map_take, sum_map]
theorem ls_map {s : List Nat} {f : Nat → Nat} {c : Int} {t : List Int} (h : ∀ b ∈ s, lvl (f b) = c * lvl b) {blk : Nat} (hb : 0 < blk) : lsR (s.map f) t blk = (lsR s t blk).map fun x => c * c * x := by
  rw [lsR_eq _ _ hb, lsR_eq _ _ hb, List.length_map]
  unfold lsK
  rw [List.map_map, sqI_map h]
  refine List.map_congr_left fun m _ => ?_
  exact pS_map _ _ _ _
theorem ls_len (s : List Nat) (t : List Int) {blk : Nat} (hb : 0 < blk) : (lsR s t blk).length = s.length / blk := by rw [lsR_eq _ _ hb, lsK_len]
theorem ls_at (s : List Nat) (t : List Int) {blk : Nat} (hb : 0 < blk) {i : Nat} (hi : i < s.length / blk) : gI (lsR s t blk) i = pS (sqI s t) (i * blk) blk := by
  rw [lsR_eq _ _ hb, gI_at (by rw [lsK_len]; exact hi)]
  simp [lsK]
theorem pS_add (L : List Int) (p n m : Nat) : pS L p (n + m) = pS L p n + pS L (p + n) m := by
  unfold pS
  rw [← List.drop_drop, List.take_add, List.sum_append]
/-- A block of double length. -/
theorem ls_two (s : List Nat) (t : List Int) {blk : Nat} (hb : 0 < blk) {i : Nat} (hi : i < s.length / blk) (hodd : i % 2 = 1) : i / 2 < s.length / (2 * blk) ∧ gI (lsR s t (2 * blk)) (i / 2) = gI (lsR s t blk) (i - 1) + gI (lsR s t blk) i := by
  obtain ⟨j, hj⟩ : ∃ j, i = 2 * j + 1 := ⟨i / 2, by omega⟩
  subst hj
  have h1 : (2 * j + 1) / 2 = j := by omega
  have h2 := (whole_lt (N := s.length) (m := 2 * j + 1) hb).1 hi
  have e1 : (2 * j + 1) * blk = 2 * j * blk + blk := by rw [Nat.add_mul, Nat.one_mul]
  have e2 : j * (2 * blk) = 2 * j * blk := by rw [← Nat.mul_assoc, Nat.mul_comm j 2]
  rw [h1]
  have h3 : j < s.length / (2 * blk) := (whole_lt (by omega)).2 (by omega)
  refine ⟨h3, ?_⟩
  rw [ls_at s t (by omega) h3, show 2 * j + 1 - 1 = 2 * j by omega, ls_at s t hb (by omega), ls_at s t hb hi, show 2 * blk = blk + blk by omega, pS_add, show j * (blk + blk) = 2 * j * blk by rw [← e2]; congr 1; omega, e1]
theorem ls_bd {s : List Nat} {t : List Int} {b : Nat} (h : SdOk s t (b : Int)) (hs : s.length ≤ 40) : ∀ i, i < (lsR s t b).length → 0 ≤ gI (lsR s t b) i ∧ gI (lsR s t b) i ≤ 6871947673600000 := by
  intro i hi
  have hb : 0 < b := by have := h.b; omega
  rw [ls_len s t hb] at hi
  rw [ls_at s t hb hi]
  have h2 := (whole_lt (N := s.length) (m := i) hb).1 hi
  have := pS_bd (L := sqI s t) (sq_bd h) (p := i * b) (n := b) (by rw [sq_len]; omega)
  have h3 : b ≤ 40 := by
    have := Nat.le_mul_of_pos_left b (show 0 < i + 1 by omega)
    omega
  omega
theorem ld_mem {L : List Int} {k : Nat} : k ∈ ldF L 0 L.length ↔ k < L.length ∧ 0 < gI L k := by
  unfold ldF ldB
  rw [List.mem_filter, List.mem_range, decide_eq_true_eq]

end Go.Proofs.YtdbffbcobghbeaaGreatDoor
namespace Go.Proofs.YtdbffbcobghbeaaGreatDoor
open Go.E Go.RowKit Go.Fl
attribute [local irreducible] G C S D DY DS V VT Yl QV QT Calls
set_option maxRecDepth 100000
set_option linter.unusedSimpArgs false
set_option linter.unusedVariables false

def gN (l : List Nat) (k : Nat) : Nat := l.getD k 0
theorem gN_at {l : List Nat} {k : Nat} (h : k < l.length) : gN l k = l[k] := by simp [gN, h]
theorem gN_mem {l : List Nat} {k : Nat} (h : k < l.length) : gN l k ∈ l := by rw [gN_at h]; exact List.getElem_mem h
theorem gN_idx {l : List Nat} {k : Nat} {z : Int} (hz : z = (k : Int)) (h : k < l.length) : ∀ (j : Nat) (u : Value), ([.int .i64 ((gN l k : Nat) : Int)] : List Value)[j]? = some u → (natC l)[(z.toNat * 1 + j)]? = some u := by
  subst hz
  rw [gN_at h]
  exact natC_idx h
theorem has_step {l : List Nat} {k n : Nat} (h : k < l.length) : ((l.take (k + 1)).contains n) = ((l.take k).contains n || decide (gN l k = n)) := by
  rw [List.take_succ_eq_append_getElem h, gN_at h, Bool.eq_iff_iff, Bool.or_eq_true, decide_eq_true_eq, List.contains_iff_mem, List.contains_iff_mem, List.mem_append, List.mem_singleton]
  exact or_congr Iff.rfl ⟨fun e => e.symm, fun e => e.symm⟩
theorem natC_len (l : List Nat) : (natC l).length = l.length := by simp [natC]

set_option maxHeartbeats 400000 in
/-- genlockref01.HasInt -/
theorem rHasInt_c (A : Option Addr) (c : Nat) (l : List Nat) (hl : l.length ≤ 1000000) (n : Nat) (w : World) (hr : Rd w A (natC l)) : Calls Tryz.prog 83 #[.slice A l.length c, .int .i64 (n : Int)] w fun r w' => r = .returned (.bool (l.contains n)) ∧ Below w.heap.size w w' := by
  refine calls_of (args := [.slice A l.length c, .int .i64 (n : Int)]) T_ok Tryz.func83 rfl Tryz.ntmps83 (Nat.le_of_ble_eq_true rfl) rfl ?_
  repeat' (first
 | (refine C_id ?_; first
 | refine C_seq ?_
 | refine C_region rfl ?_
 | refine C_block ?_
 | refine C_skip ?_
 | refine C_ret0 ?_
 | (refine C_cond rfl obQ (fun h => ?_) (fun h => ?_) <;> (try simp only [Bool.or_eq_true, Bool.and_eq_true, Bool.or_eq_false_iff, Bool.and_eq_false_iff, decide_eq_true_eq, decide_eq_false_iff_not, beq_iff_eq, bne_iff_ne, beq_eq_false_iff_ne, bne_eq_false_iff_eq, ne_eq, Decidable.not_not, List.cons.injEq, and_true, Bool.not_eq_true', Bool.not_eq_false', Int.not_lt, Int.not_le] at h))
 )
 | (refine S_id ?_; first
 | refine S_nil ?_
 | refine S_run rfl rfl obQ obQ ?_
 )
 | (refine G_id ?_; first
 | refine G_then ?_
 | refine G_thenR ?_
 | refine G_ret rfl obQ (fun w hw => ⟨?_, hw.below⟩)
 )
 )
  refine C_loopS (fun k : Nat => ⟨[(0, .s (.v (.slice A l.length c))), (1, .s (.v (.int .i64 (n : Int)))), (5, .s (.v (.int .i64 k)))], [], []⟩) (fun k => k ≤ l.length ∧ (l.take k).contains n = false) (fun k => l.length - k) 0 ⟨Nat.zero_le _, by simp⟩ ?_ (fun k hk => ?_)
  · exact ⟨⟨_, rfl, obQ⟩, ⟨_, rfl⟩, rfl, pstQ⟩
  obtain ⟨hk1, hk2⟩ := hk
  by_cases hlt : k < l.length
  · obtain ⟨ad, rfl⟩ := hr.some (by rw [natC_len]; omega)
    have hst := has_step (n := n) hlt
    rw [hk2, Bool.false_or] at hst
    by_cases he : gN l k = n
    · have hc : l.contains n = true := List.elem_eq_true_of_mem (by rw [← he]; exact gN_mem hlt)
      rw [hc]
      repeat' (first
 | (refine C_id ?_; first
 | refine C_seq ?_
 | refine C_region rfl ?_
 | refine C_block ?_
 | refine C_skip ?_
 | refine C_ret0 ?_
 | refine C_condT rfl obQ ?_
 | (refine C_cond rfl obQ (fun h => ?_) (fun h => ?_) <;> (try simp only [Bool.or_eq_true, Bool.and_eq_true, Bool.or_eq_false_iff, Bool.and_eq_false_iff, decide_eq_true_eq, decide_eq_false_iff_not, beq_iff_eq, bne_iff_ne, beq_eq_false_iff_ne, bne_eq_false_iff_eq, ne_eq, Decidable.not_not, List.cons.injEq, and_true, Bool.not_eq_true', Bool.not_eq_false', Int.not_lt, Int.not_le] at h) <;> (try (exfalso; omega)) <;> (try (exfalso; simp at h; done)) <;> (try (exfalso; simp only [not_true_eq_false, false_or, or_false] at h; omega)) <;> (try contradiction))
       )
 | (refine S_id ?_; first
 | ((with_reducible (first | refine S_trueE ?_ ?_ | refine S_trueB ?_ ?_ | refine S_trueL ?_ ?_ | refine S_trueD ?_ ?_ | refine S_trueN ?_ ?_)); · (first | rfl | (rw [beq_iff_eq]; omega)))
 | refine S_load rfl obQ rfl [.int .i64 ((gN l k : Nat) : Int)] (.past _ memQ _ _ hr.toS _ _ rfl rfl (gN_idx rfl hlt)) rfl (.inr ⟨rfl, rfl⟩) ?_
 | refine S_nil ?_
 | refine S_run rfl rfl obQ obQ ?_
       )
 | (refine G_id ?_; first
 | refine G_then ?_
 | refine G_blockR ?_
 | refine G_thenR ?_
 | refine G_ret rfl obQ (fun w hw => ⟨?_, hw.below⟩)
       )
       )
      all_goals rfl
    · rw [decide_eq_false he] at hst
      repeat' (first
 | (refine C_id ?_; first
 | refine C_seq ?_
 | refine C_region rfl ?_
 | refine C_block ?_
 | refine C_skip ?_
 | refine C_condF rfl obQ ?_
 | (refine C_cond rfl obQ (fun h => ?_) (fun h => ?_) <;> (try simp only [Bool.or_eq_true, Bool.and_eq_true, Bool.or_eq_false_iff, Bool.and_eq_false_iff, decide_eq_true_eq, decide_eq_false_iff_not, beq_iff_eq, bne_iff_ne, beq_eq_false_iff_ne, bne_eq_false_iff_eq, ne_eq, Decidable.not_not, List.cons.injEq, and_true, Bool.not_eq_true', Bool.not_eq_false', Int.not_lt, Int.not_le] at h) <;> (try (exfalso; omega)) <;> (try (exfalso; simp at h; done)) <;> (try (exfalso; simp only [not_true_eq_false, false_or, or_false] at h; omega)) <;> (try contradiction))
       )
 | (refine S_id ?_; first
 | ((with_reducible (first | refine S_falseN ?_ ?_ | refine S_falseB ?_ ?_ | refine S_falseL ?_ ?_ | refine S_falseD ?_ ?_ | refine S_falseE ?_ ?_)); · (first | rfl | (rw [beq_eq_false_iff_ne]; omega)))
 | refine S_load rfl obQ rfl [.int .i64 ((gN l k : Nat) : Int)] (.past _ memQ _ _ hr.toS _ _ rfl rfl (gN_idx rfl hlt)) rfl (.inr ⟨rfl, rfl⟩) ?_
 | refine S_nil ?_
 | refine S_run rfl rfl obQ obQ ?_
       )
 | (refine G_id ?_; first
 | refine G_loop (k + 1) ⟨by omega, hst⟩ (by show l.length - (k + 1) < l.length - k; omega) ⟨⟨_, rfl, obQ⟩, ⟨_, rfl⟩, rfl, pstQ⟩
 | refine G_then ?_
 | refine G_block ?_
       )
       )
  · have hke : k = l.length := by omega
    rw [hke, List.take_length] at hk2
    rw [hk2]
    repeat' (first
 | (refine C_id ?_; first
 | refine C_seq ?_
 | refine C_region rfl ?_
 | refine C_exit ?_
 | refine C_ret0 ?_
 | (refine C_cond rfl obQ (fun h => ?_) (fun h => ?_) <;> (try simp only [Bool.or_eq_true, Bool.and_eq_true, Bool.or_eq_false_iff, Bool.and_eq_false_iff, decide_eq_true_eq, decide_eq_false_iff_not, beq_iff_eq, bne_iff_ne, beq_eq_false_iff_ne, bne_eq_false_iff_eq, ne_eq, Decidable.not_not, List.cons.injEq, and_true, Bool.not_eq_true', Bool.not_eq_false', Int.not_lt, Int.not_le] at h) <;> (try (exfalso; omega)) <;> (try (exfalso; simp at h; done)) <;> (try (exfalso; simp only [not_true_eq_false, false_or, or_false] at h; omega)) <;> (try contradiction))
     )
 | (refine S_id ?_; first
 | refine S_nil ?_
 | refine S_run rfl rfl obQ obQ ?_
     )
 | (refine G_id ?_; first
 | refine G_then ?_
 | refine G_blockX ?_
 | refine G_thenX ?_
 | refine G_ret rfl obQ (fun w hw => ⟨?_, hw.below⟩)
     )
     )
    all_goals rfl

theorem cv_flt8 (n : Int) (w : World) : (convert 5 114 (.int .u8 n)).run Tryz.prog w = .ok (.float .f32 (floatOfInt .f32 n)) w := by
  simp [convert, run_underlying Tryz.underlying5, run_underlying Tryz.underlying114, Conv.intToFloat, floatOfInt]
theorem rem_m (t : TypeId) (x y : Operand) {P : Program} {a b : Int} (hb : 1 ≤ b ∧ b ≤ 1000) (w : World) : (do eqGuard .rem t x y (.int .i64 a) (.int .i64 b); binOp .rem t (.int .i64 a) (.int .i64 b) : Sem Value).run P w = .ok (.int .i64 (a.tmod b)) w := by
  have h1 := Int.tmod_lt_of_pos a (show 0 < b by omega)
  have h2 := Int.lt_tmod_of_pos a (show 0 < b by omega)
  have hr : inR .i64 (a.tmod b) := by simp only [inR]; omega
  simp [eqGuard_int, binOp, Op.intDiv, inR_wrap hr, show b ≠ 0 by omega]
theorem un_neg (b : Nat) (P : Program) (w : World) : (Op.unary .neg (.float .f32 b)).run P w = .ok (.float .f32 (bneg b)) w := rfl
/-- The taps of a byte. -/
def tpL (x : Int) : List Int := [1 + x % 5, (0 - x).tmod 7, x % 3]
theorem tp_ok {x : Int} (h : 0 ≤ x ∧ x ≤ 255) : ∀ t ∈ tpL x, -100 ≤ t ∧ t ≤ 100 := by
  have h1 := Int.tmod_lt_of_pos (0 - x) (show 0 < 7 by omega)
  have h2 := Int.lt_tmod_of_pos (0 - x) (show 0 < 7 by omega)
  intro t ht
  simp only [tpL, List.mem_cons, List.mem_nil_iff, or_false] at ht
  rcases ht with rfl | rfl | rfl <;> omega
theorem sdk_of {s : List Nat} {x : Int} {b : Nat} (hs : ∀ y ∈ s, Smp y) (hl : s.length ≤ 40) (hx : 0 ≤ x ∧ x ≤ 255) (hb : 1 ≤ b ∧ b ≤ 4096) : SdOk s (tpL x) (b : Int) := ⟨by omega, hs, ⟨by simp [tpL], by simp [tpL]⟩, tp_ok hx, by omega⟩
theorem gQ_idxY {l : List PV'} {k : Nat} {z : Int} (hz : z = (k : Int)) (h : k < l.length) : ∀ (j : Nat) (u : Value), (pvC (gQ l k))[j]? = some u → (l.flatMap pvC)[(z.toNat * 4 + j)]? = some u := by
  subst hz
  exact gQ_idx h
theorem rev_take {l : List PV'} {k : Nat} (h : k < l.length) : (l.reverse.take (k + 1)).flatMap pvC = (l.reverse.take k).flatMap pvC ++ pvC (gQ l (l.length - 1 - k)) := by
  rw [List.take_succ_eq_append_getElem (by simpa using h), List.flatMap_append, ← gQ_rev h, gQ_at (by simpa using h)]
  simp
theorem rdM_some {S : Nat → Prop} {W : World} {A : Option Addr} {xs : List Value} (h : RdS S W A xs) (h0 : 0 < xs.length) : ∃ a, A = some a := by
  rcases h with h | ⟨ad, h, _⟩
  · rw [h] at h0; simp at h0
  · exact ⟨ad, h⟩
theorem film_all {l l' : List PV'} {P : Pic → Prop} (h : l'.map (·.p) = l.map (·.p)) (hl : ∀ x ∈ l, P x.p) : ∀ x ∈ l', P x.p := by
  intro x hx
  have h1 : x.p ∈ l'.map (·.p) := List.mem_map.2 ⟨x, hx, rfl⟩
  rw [h] at h1
  obtain ⟨y, hy, e⟩ := List.mem_map.1 h1
  rw [← e]
  exact hl y hy
section
variable {l l' : List PV'} {w : World} {s : List Nat} {t : List Int}
theorem mflashes_as {st : Nat} {xs : List Nat} {e : Int} {n m : Nat} {A : Option Addr} {c : Nat} (h : fsR l st = (xs, e)) (hn : xs.length = n) (hm : m = l.length) (hp : l'.map (·.p) = l.map (·.p)) (hl : l.length ≤ 1000000) (hs : ∀ x ∈ l, x.p.s.length ≤ 1000000) (hr : Rd w A (l'.flatMap pvC)) (hrs : ∀ x ∈ l', Rd w x.A (x.p.s.map (.float .f32))) :
    Calls Tryz.prog 67 #[.slice A m c, .float .f32 st] w fun r w' => ∃ v, r = .returned v ∧ Below w.heap.size w w' ∧ Sl2 w w' v n (natC xs) (.int .i64 e) := by
  subst hn hm
  have := Flashes_c A c l' (film_all (P := fun p => p.s.length ≤ 1000000) hp hs) (by rw [len_p hp]; exact hl) st w hr hrs
  rw [len_p hp, fsR_p hp, h] at this
  exact this
theorem mbroken_as {st : Nat} {a b : Int} {xs : List Nat} {e : Int} {n : Nat} {A : Option Addr} {c : Nat} (h : brR l st a b = (xs, e)) (hn : xs.length = n) (hp : l'.map (·.p) = l.map (·.p)) (hl : l.length ≤ 1000000) (hs : ∀ x ∈ l, x.p.s.length ≤ 1000000) (hr : Rd w A (l'.flatMap pvC)) (hrs : ∀ x ∈ l', Rd w x.A (x.p.s.map (.float .f32))) :
    Calls Tryz.prog 69 #[.slice A l.length c, .float .f32 st, .int .i64 a, .int .i64 b] w fun r w' => ∃ v, r = .returned v ∧ Below w.heap.size w w' ∧ Sl2 w w' v n (natC xs) (.int .i64 e) := by
  subst hn
  have := Broken_c A c l' (film_all (P := fun p => p.s.length ≤ 1000000) hp hs) (by rw [len_p hp]; exact hl) st a b w hr hrs
  rw [len_p hp, brR_p hp, h] at this
  exact this
theorem mloud_as {xs : List Int} {e blk : Int} {n n1 n2 : Nat} (h : loR s t blk = (xs, e)) (hn : xs.length = n) {A B : Option Addr} {c c2 : Nat} (hs : s.length ≤ 1000000) (ht : t.length ≤ 1000000) (e1 : n1 = s.length) (e2 : n2 = t.length) (hr : Rd w A (s.map (.float .f32))) (hr2 : Rd w B (t.map (.int .i64))) :
    Calls Tryz.prog 77 #[.slice A n1 c, .slice B n2 c2, .int .i64 blk] w fun r w' => ∃ v, r = .returned v ∧ Below w.heap.size w w' ∧ Sl2 w w' v n (xs.map (.int .i64)) (.int .i64 e) := by
  subst hn e1 e2
  have := Loudness_c A c s hs B c2 t ht blk w hr hr2
  rw [h] at this
  exact this
theorem mloudB_as {xs : List Nat} {e blk lim : Int} {n n1 n2 : Nat} (h : ldR s t blk lim = (xs, e)) (hn : xs.length = n) {A B : Option Addr} {c c2 : Nat} (hs : s.length ≤ 1000000) (ht : t.length ≤ 1000000) (e1 : n1 = s.length) (e2 : n2 = t.length) (hr : Rd w A (s.map (.float .f32))) (hr2 : Rd w B (t.map (.int .i64))) :
    Calls Tryz.prog 78 #[.slice A n1 c, .slice B n2 c2, .int .i64 blk, .int .i64 lim] w fun r w' => ∃ v, r = .returned v ∧ Below w.heap.size w w' ∧ Sl2 w w' v n (natC xs) (.int .i64 e) := by
  subst hn e1 e2
  have := Loud_c A c s hs B c2 t ht blk lim w hr hr2
  rw [h] at this
  exact this
theorem mhas_as {A : Option Addr} {c n : Nat} {xs : List Nat} {b : Bool} {k : Nat} (hb : xs.contains k = b) (hn : xs.length = n) (hl : n ≤ 1000000) (hr : Rd w A (natC xs)) : Calls Tryz.prog 83 #[.slice A n c, .int .i64 (k : Int)] w fun r w' => r = .returned (.bool b) ∧ Below w.heap.size w w' := by
  subst hb hn
  exact rHasInt_c A c xs hl k w hr
end

theorem neqM {P : Program} {t : TypeId} {a b : Bool} (ht : P.underlying t = some .bool) (x y : Operand) (w : World) : (do eqGuard .neq t x y (.bool a) (.bool b); binOp .neq t (.bool a) (.bool b) : Sem Value).run P w = .ok (.bool (a != b)) w := by
  have hg : (eqGuard .neq t x y (.bool a) (.bool b)).run P w = .ok () w := by unfold eqGuard; simp
  simp only [Sem.run_bind, hg, Result.andThen_ok]
  have he : (Op.equalIn Op.maxDepth t (.bool a) (.bool b)).run P w = .ok (a == b) w := Go.run_equalIn_bool' (w := w) (P := P) 9999 t a b ht
  simp only [binOp, Op.equal]
  simp [Sem.run_bind, he, bne]

theorem fs_zero {l : List PV'} {st : Nat} (h1 : sqE l = 0) (h2 : stE st = 0) : fsE l st = 0 := by
  unfold fsE
  rw [firstL_zero]
  simp only [List.mem_cons, List.mem_nil_iff, or_false, forall_eq_or_imp, forall_eq]
  exact ⟨h1, h2⟩
theorem br_zero {l : List PV'} {st : Nat} {a b : Int} (h1 : sqE l = 0) (h2 : stE st = 0) (h3 : 0 ≤ a ∧ a ≤ 256) (h4 : 1 ≤ b ∧ b ≤ 256) : brE l st a b = 0 := by
  unfold brE
  rw [firstL_zero]
  simp only [List.mem_cons, List.mem_nil_iff, or_false, forall_eq_or_imp, forall_eq, wi_eq]
  exact ⟨h1, h2, h3, h4⟩
theorem lfilmR_as {l : List PV'} {A : Option Addr} {c n : Nat} {w : World} (hn : l.length = n) (hl : l.length ≤ 1000000) (hs : ∀ x ∈ l, x.p.s.length ≤ 1000000) (hAs : ∀ x ∈ l, x.A = none → x.p.s.length = 0 ∧ x.c = 0) (hr : Rd w A (l.flatMap pvC)) (hrs : ∀ x ∈ l, Rd w x.A (x.p.s.map (.float .f32))) : Calls Tryz.prog 68 #[.slice A n c] w fun r w' => ∃ v, r = .returned v ∧ Below w.heap.size w w' ∧ ∃ (A' : Option Addr) (c' : Nat) (l' : List PV'), v = .slice A' n c' ∧ l'.map (·.p) = l.map (·.p) ∧ RdS (fun b => w.heap.size ≤ b ∧ b < w'.heap.size) w' A' (l'.flatMap pvC) ∧ ∀ x ∈ l', RdS (fun b => w.heap.size ≤ b ∧ b < w'.heap.size) w' x.A (x.p.s.map (.float .f32)) := by
  subst hn
  exact lfilm_c A c l hl hs hAs w hr hrs

theorem fgt_as {a b : Nat} {g : Bool} (h : (FloatKind.f32.format.order a b == some .gt) = g) (t : TypeId) (x y : Operand) (P : Program) (w : World) : (do eqGuard .gtr t x y (.float .f32 a) (.float .f32 b); binOp .gtr t (.float .f32 a) (.float .f32 b) : Sem Value).run P w = .ok (.bool g) w := by
  subst h
  exact fl_gt (X := ⟨P, [], rfl, 0, 0, w, [], none⟩) .f32 a b t x y w
theorem flt_as {a b : Nat} {g : Bool} (h : (FloatKind.f32.format.order a b == some .lt) = g) (t : TypeId) (x y : Operand) (P : Program) (w : World) : (do eqGuard .lss t x y (.float .f32 a) (.float .f32 b); binOp .lss t (.float .f32 a) (.float .f32 b) : Sem Value).run P w = .ok (.bool g) w := by
  subst h
  exact fl_lt (X := ⟨P, [], rfl, 0, 0, w, [], none⟩) .f32 a b t x y w
theorem map_take1 {s : List Nat} {k : Nat} (f : Nat → Nat) (h : k < s.length) : ((s.take (k + 1)).map f).map (Value.float .f32) = ((s.take k).map f).map (Value.float .f32) ++ [Value.float .f32 (f (gB s k))] := by
  rw [List.take_succ_eq_append_getElem h, gB_at h, List.map_append, List.map_append]
  rfl
theorem four_idx {L : List Int} {k : Nat} (h : k < L.length) : ∀ (j : Nat) (u : Value), ([.int .i64 (4 * gI L k)] : List Value)[j]? = some u → ((L.map fun x => 2 * 2 * x).map (Value.int .i64))[((k : Int).toNat * 1 + j)]? = some u := by
  have h' : k < (L.map fun x => 2 * 2 * x).length := by simpa using h
  have e : gI (L.map fun x => 2 * 2 * x) k = 4 * gI L k := by
    rw [gI_at h', gI_at h, List.getElem_map]
    omega
  rw [← e]
  exact gI_idxZ rfl h'
theorem loR_ok {s : List Nat} {t : List Int} {b : Nat} {z : Int} (hz : (b : Int) = z) (h : SdOk s t (b : Int)) : loR s t z = (lsR s t b, 0) := by
  subst hz
  have e : loR s t (b : Int) = (lsR s t ((b : Int).toNat), 0) := if_pos (sd_ok.2 h)
  rw [e, Int.toNat_natCast]
theorem ldR_ok {s : List Nat} {t : List Int} {b : Nat} {z : Int} (hz : (b : Int) = z) (h : SdOk s t (b : Int)) : ldR s t z 0 = (ldF (lsR s t b) 0 (lsR s t b).length, 0) := by
  subst hz
  have h0 : ldE s t (b : Int) 0 = 0 := by
    unfold ldE
    rw [firstL_zero]
    simp only [List.mem_cons, List.mem_nil_iff, or_false, forall_eq_or_imp, forall_eq, wi_eq]
    exact ⟨sd_ok.2 h, by omega⟩
  have e : ldR s t (b : Int) 0 = (ldF (lsR s t ((b : Int).toNat)) 0 (lsR s t ((b : Int).toNat)).length, 0) := if_pos h0
  rw [e, Int.toNat_natCast]
theorem ss_smp {s : List Nat} (h : ssE s = 0) : s.length ≤ 4096 ∧ ∀ b ∈ s, Smp b := by
  unfold ssE at h
  split at h
  · cases h
  · refine ⟨by omega, fun b hb => ?_⟩
    rw [firstL_zero] at h
    exact smp_iff.1 (h _ (List.mem_map.2 ⟨b, hb, rfl⟩))

set_option maxHeartbeats 8000000 in
/-- genlocklaw02.ColourMeasured -/
theorem lMeasured_c (A : Option Addr) (c : Nat) (l : List PV') (hmax : l.length ≤ maxLen) (hAs : ∀ x ∈ l, x.A = none → x.p.s.length = 0 ∧ x.c = 0) (A2 : Option Addr) (c2 : Nat) (s : List Nat) (hsm : s.length ≤ maxLen) (hA2 : A2 = none → s.length = 0 ∧ c2 = 0) (x0 x1 x2 x3 : Int) (hx0 : 0 ≤ x0 ∧ x0 ≤ 255) (hx1 : 0 ≤ x1 ∧ x1 ≤ 255) (hx2 : 0 ≤ x2 ∧ x2 ≤ 255) (hx3 : 0 ≤ x3 ∧ x3 ≤ 255) (w : World) (hr : Rd w A (l.flatMap pvC)) (hrs : ∀ x ∈ l, Rd w x.A (x.p.s.map (.float .f32))) (hr2 : Rd w A2 (s.map (.float .f32))) (hO : Ot w) (hP : Pw w) : Calls Tryz.prog 12 #[.slice A l.length c, .slice A2 s.length c2, .agg #[.int .u8 x0, .int .u8 x1, .int .u8 x2, .int .u8 x3]] w fun r w' => r = .returned (.bool true) ∧ Below w.heap.size w w' := by
  refine calls_of (args := [.slice A l.length c, .slice A2 s.length c2, .agg #[.int .u8 x0, .int .u8 x1, .int .u8 x2, .int .u8 x3]]) T_ok Tryz.func12 rfl Tryz.ntmps12 (Nat.le_of_ble_eq_true rfl) rfl ?_
  cases hSq : shortQ l
  · repeat' (first
 | (refine C_id ?_; first
 | refine C_seq ?_
 | refine C_region rfl ?_
 | refine C_ret0 ?_
 | refine C_condT rfl obQ ?_
     )
 | (refine S_id ?_; first
 | ((with_reducible refine S_falseO ?_ ?_ ?_); (· rfl); (· first | rfl | (first | rfl | exact bne_self_eq_false _ | assumption | omega | exact decide_eq_false (by omega) | (simp only [bne_eq_false_iff_eq]; first | assumption | omega) | (rw [beq_eq_false_iff_ne]; first | assumption | omega))))
 | refine S_unG rfl rfl rfl rfl ?_
 | ((with_reducible refine S_trueO ?_ ?_); · (first | rfl | exact bne_iff_ne.2 (by assumption) | exact decide_eq_true (by omega)))
 | ((with_reducible refine S_notV (q := false) ?_ ?_); · (first | rfl | assumption))
 | refine S_offG (.v (.bool false)) rfl rfl rfl rfl rfl ?_
 | refine S_nil ?_
 | refine S_runN rfl rfl obQ obQ ?_
 | refine S_box (fun b => ⟨_, _, rfl, obQ, ?_⟩)
 | refine S_call (f := 20) rfl obQ (by kernel_rfl) (fun w hw => awake_c w (hw.rdm hO.toS memQ) (Pw_at hP hw memQ)) ?_
 | refine S_call (f := 66) rfl obQ (by kernel_rfl) (fun w hw => rShortQ_c _ _ l hmax _ hSq w (hw.rdm hr.toS memQ)) ?_
 | refine S_call (f := 70) rfl obQ (by kernel_rfl) (fun w hw => rCheckSeq_c A c l hl hs hnm w (hw.rdm hr.toS memQ) (fun x hx => hw.rdm (hrs x hx).toS memQ)) ?_
 | refine S_call (f := 75) rfl obQ (by kernel_rfl) (fun w hw => rShortSound_c _ _ _ _ hSs w) ?_
 | refine S_call (f := 79) rfl obQ (by kernel_rfl) (fun w hw => rCheckSound_c A2 c2 s hsl w (hw.rdm hr2.toS memQ)) ?_
     )
 | (refine G_id ?_; first
 | refine G_then ?_
 | refine G_thenR ?_
 | refine G_ret rfl obQ (fun w hw => ⟨?_, hw.below⟩)
     )
     )
    all_goals rfl
  obtain ⟨h257, hall⟩ := shortQ_ok hSq
  have hl : l.length ≤ 1000000 := by omega
  have hs : ∀ x ∈ l, x.p.s.length ≤ 1000000 := fun x hx => by have := (hall x hx).2; omega
  have hnm : ∀ x ∈ l, x.p.nm.size ≤ maxLen := fun x hx => by have := (hall x hx).1; unfold maxLen; omega
  by_cases hsq : sqE l = 0
  rotate_left
  · repeat' (first
 | (refine C_id ?_; first
 | refine C_seq ?_
 | refine C_region rfl ?_
 | refine C_ret0 ?_
 | refine C_condT rfl obQ ?_
     )
 | (refine S_id ?_; first
 | ((with_reducible refine S_falseO ?_ ?_ ?_); (· rfl); (· first | rfl | (first | rfl | exact bne_self_eq_false _ | assumption | omega | exact decide_eq_false (by omega) | (simp only [bne_eq_false_iff_eq]; first | assumption | omega) | (rw [beq_eq_false_iff_ne]; first | assumption | omega))))
 | refine S_unG rfl rfl rfl rfl ?_
 | ((with_reducible refine S_trueO ?_ ?_); · (first | rfl | exact bne_iff_ne.2 (by assumption) | exact decide_eq_true (by omega)))
 | ((with_reducible refine S_notV (q := false) ?_ ?_); · (first | rfl | assumption))
 | refine S_offG (.v (.bool false)) rfl rfl rfl rfl rfl ?_
 | refine S_nil ?_
 | refine S_runN rfl rfl obQ obQ ?_
 | refine S_box (fun b => ⟨_, _, rfl, obQ, ?_⟩)
 | refine S_call (f := 20) rfl obQ (by kernel_rfl) (fun w hw => awake_c w (hw.rdm hO.toS memQ) (Pw_at hP hw memQ)) ?_
 | refine S_call (f := 66) rfl obQ (by kernel_rfl) (fun w hw => rShortQ_c _ _ l hmax _ hSq w (hw.rdm hr.toS memQ)) ?_
 | refine S_call (f := 70) rfl obQ (by kernel_rfl) (fun w hw => rCheckSeq_c A c l hl hs hnm w (hw.rdm hr.toS memQ) (fun x hx => hw.rdm (hrs x hx).toS memQ)) ?_
 | refine S_call (f := 75) rfl obQ (by kernel_rfl) (fun w hw => rShortSound_c _ _ _ _ hSs w) ?_
 | refine S_call (f := 79) rfl obQ (by kernel_rfl) (fun w hw => rCheckSound_c A2 c2 s hsl w (hw.rdm hr2.toS memQ)) ?_
     )
 | (refine G_id ?_; first
 | refine G_then ?_
 | refine G_thenR ?_
 | refine G_ret rfl obQ (fun w hw => ⟨?_, hw.below⟩)
     )
     )
    all_goals rfl
  by_cases h12 : 12 < l.length
  · repeat' (first
 | (refine C_id ?_; first
 | refine C_seq ?_
 | refine C_region rfl ?_
 | refine C_ret0 ?_
 | refine C_condT rfl obQ ?_
     )
 | (refine S_id ?_; first
 | ((with_reducible refine S_falseO ?_ ?_ ?_); (· rfl); (· first | rfl | (first | rfl | exact bne_self_eq_false _ | assumption | omega | exact decide_eq_false (by omega) | (simp only [bne_eq_false_iff_eq]; first | assumption | omega) | (rw [beq_eq_false_iff_ne]; first | assumption | omega))))
 | refine S_unG rfl rfl rfl rfl ?_
 | ((with_reducible refine S_trueO ?_ ?_); · (first | rfl | exact bne_iff_ne.2 (by assumption) | exact decide_eq_true (by omega)))
 | ((with_reducible refine S_notV (q := false) ?_ ?_); · (first | rfl | assumption))
 | refine S_offG (.v (.bool false)) rfl rfl rfl rfl rfl ?_
 | refine S_nil ?_
 | refine S_runN rfl rfl obQ obQ ?_
 | refine S_box (fun b => ⟨_, _, rfl, obQ, ?_⟩)
 | refine S_call (f := 20) rfl obQ (by kernel_rfl) (fun w hw => awake_c w (hw.rdm hO.toS memQ) (Pw_at hP hw memQ)) ?_
 | refine S_call (f := 66) rfl obQ (by kernel_rfl) (fun w hw => rShortQ_c _ _ l hmax _ hSq w (hw.rdm hr.toS memQ)) ?_
 | refine S_call (f := 70) rfl obQ (by kernel_rfl) (fun w hw => rCheckSeq_c A c l hl hs hnm w (hw.rdm hr.toS memQ) (fun x hx => hw.rdm (hrs x hx).toS memQ)) ?_
 | refine S_call (f := 75) rfl obQ (by kernel_rfl) (fun w hw => rShortSound_c _ _ _ _ hSs w) ?_
 | refine S_call (f := 79) rfl obQ (by kernel_rfl) (fun w hw => rCheckSound_c A2 c2 s hsl w (hw.rdm hr2.toS memQ)) ?_
     )
 | (refine G_id ?_; first
 | refine G_then ?_
 | refine G_thenR ?_
 | refine G_ret rfl obQ (fun w hw => ⟨?_, hw.below⟩)
     )
     )
    all_goals rfl
  cases hSs : (decide ((s.length : Int) ≤ 40) || ((s.length : Int) == 4097))
  · repeat' (first
 | (refine C_id ?_; first
 | refine C_seq ?_
 | refine C_region rfl ?_
 | refine C_ret0 ?_
 | refine C_condT rfl obQ ?_
     )
 | (refine S_id ?_; first
 | ((with_reducible refine S_falseO ?_ ?_ ?_); (· rfl); (· first | rfl | (first | rfl | exact bne_self_eq_false _ | assumption | omega | exact decide_eq_false (by omega) | (simp only [bne_eq_false_iff_eq]; first | assumption | omega) | (rw [beq_eq_false_iff_ne]; first | assumption | omega))))
 | refine S_unG rfl rfl rfl rfl ?_
 | ((with_reducible refine S_trueO ?_ ?_); · (first | rfl | exact bne_iff_ne.2 (by assumption) | exact decide_eq_true (by omega)))
 | ((with_reducible refine S_notV (q := false) ?_ ?_); · (first | rfl | assumption))
 | refine S_offG (.v (.bool false)) rfl rfl rfl rfl rfl ?_
 | refine S_nil ?_
 | refine S_runN rfl rfl obQ obQ ?_
 | refine S_box (fun b => ⟨_, _, rfl, obQ, ?_⟩)
 | refine S_call (f := 20) rfl obQ (by kernel_rfl) (fun w hw => awake_c w (hw.rdm hO.toS memQ) (Pw_at hP hw memQ)) ?_
 | refine S_call (f := 66) rfl obQ (by kernel_rfl) (fun w hw => rShortQ_c _ _ l hmax _ hSq w (hw.rdm hr.toS memQ)) ?_
 | refine S_call (f := 70) rfl obQ (by kernel_rfl) (fun w hw => rCheckSeq_c A c l hl hs hnm w (hw.rdm hr.toS memQ) (fun x hx => hw.rdm (hrs x hx).toS memQ)) ?_
 | refine S_call (f := 75) rfl obQ (by kernel_rfl) (fun w hw => rShortSound_c _ _ _ _ hSs w) ?_
 | refine S_call (f := 79) rfl obQ (by kernel_rfl) (fun w hw => rCheckSound_c A2 c2 s hsl w (hw.rdm hr2.toS memQ)) ?_
     )
 | (refine G_id ?_; first
 | refine G_then ?_
 | refine G_thenR ?_
 | refine G_ret rfl obQ (fun w hw => ⟨?_, hw.below⟩)
     )
     )
    all_goals rfl
  have hsl : s.length ≤ 1000000 := by
    simp only [Bool.or_eq_true, decide_eq_true_eq, beq_iff_eq] at hSs
    omega
  by_cases hss : ssE s = 0
  rotate_left
  · repeat' (first
 | (refine C_id ?_; first
 | refine C_seq ?_
 | refine C_region rfl ?_
 | refine C_ret0 ?_
 | refine C_condT rfl obQ ?_
     )
 | (refine S_id ?_; first
 | ((with_reducible refine S_falseO ?_ ?_ ?_); (· rfl); (· first | rfl | (first | rfl | exact bne_self_eq_false _ | assumption | omega | exact decide_eq_false (by omega) | (simp only [bne_eq_false_iff_eq]; first | assumption | omega) | (rw [beq_eq_false_iff_ne]; first | assumption | omega))))
 | refine S_unG rfl rfl rfl rfl ?_
 | ((with_reducible refine S_trueO ?_ ?_); · (first | rfl | exact bne_iff_ne.2 (by assumption) | exact decide_eq_true (by omega)))
 | ((with_reducible refine S_notV (q := false) ?_ ?_); · (first | rfl | assumption))
 | refine S_offG (.v (.bool false)) rfl rfl rfl rfl rfl ?_
 | refine S_nil ?_
 | refine S_runN rfl rfl obQ obQ ?_
 | refine S_box (fun b => ⟨_, _, rfl, obQ, ?_⟩)
 | refine S_call (f := 20) rfl obQ (by kernel_rfl) (fun w hw => awake_c w (hw.rdm hO.toS memQ) (Pw_at hP hw memQ)) ?_
 | refine S_call (f := 66) rfl obQ (by kernel_rfl) (fun w hw => rShortQ_c _ _ l hmax _ hSq w (hw.rdm hr.toS memQ)) ?_
 | refine S_call (f := 70) rfl obQ (by kernel_rfl) (fun w hw => rCheckSeq_c A c l hl hs hnm w (hw.rdm hr.toS memQ) (fun x hx => hw.rdm (hrs x hx).toS memQ)) ?_
 | refine S_call (f := 75) rfl obQ (by kernel_rfl) (fun w hw => rShortSound_c _ _ _ _ hSs w) ?_
 | refine S_call (f := 79) rfl obQ (by kernel_rfl) (fun w hw => rCheckSound_c A2 c2 s hsl w (hw.rdm hr2.toS memQ)) ?_
     )
 | (refine G_id ?_; first
 | refine G_then ?_
 | refine G_thenR ?_
 | refine G_ret rfl obQ (fun w hw => ⟨?_, hw.below⟩)
     )
     )
    all_goals rfl
  have hst := (smp_ok (n := x0) (by omega)).1
  have hte := st_ok hx0
  have hfl0 := flF_len l (smp x0)
  have hV : fsR l (smp x0) = ((flF l (smp x0)), 0) := if_pos (fs_zero hsq hte)
  have hlr : l.reverse.length = l.length := by simp
  have hlR : l.reverse.length ≤ 1000000 := by rw [hlr]; exact hl
  have hsR : ∀ x ∈ l.reverse, x.p.s.length ≤ 1000000 := fun x hx => hs x (List.mem_reverse.1 hx)
  have hAsR : ∀ x ∈ l.reverse, x.A = none → x.p.s.length = 0 ∧ x.c = 0 := fun x hx => hAs x (List.mem_reverse.1 hx)
  have hVR : fsR l.reverse (smp x0) = ((flF l.reverse (smp x0)), 0) := if_pos (fs_zero (sqE_rev hsq) hte)
  have hfrl := fl_rlen (st := smp x0) hsq
  repeat' (first
 | (refine C_id ?_; first
 | refine C_seq ?_
 | refine C_regionNe 6 rfl rfl ?_
 | refine C_skip ?_
 | refine C_condF rfl obQ ?_
 )
 | (refine S_id ?_; first
 | ((with_reducible refine S_falseO ?_ ?_ ?_); (· rfl); (· first | rfl | (first | rfl | exact bne_self_eq_false _ | assumption | omega | exact decide_eq_false (by omega) | (simp only [bne_eq_false_iff_eq]; first | assumption | omega) | (rw [beq_eq_false_iff_ne]; first | assumption | omega))))
 | refine S_unG rfl rfl rfl rfl ?_
 | ((with_reducible refine S_notV (q := false) ?_ ?_); · (first | rfl | assumption))
 | refine S_pure (convX_pure rfl obQ (fun w => cv_flt8 x0 w)) ?_
 | refine S_pure (binX_pure rfl obQ (fun w => fl_arith (op := .quo) (k := .f32) hst _ _ _ w)) ?_
 | (refine S_callM (f := 68) rfl obQ (by kernel_rfl) (fun w hw => lfilm_c A c l hl hs hAs w (hw.rdm hr.toS memQ) (fun x hx => hw.rdm (hrs x hx).toS memQ)) (fun w1F w2F vF hw1F hbF hRF => ?_); obtain ⟨AF, cF, lF, rfl, hpF, hSF, hxF⟩ := hRF)
 | (refine S_callM (f := 67) rfl obQ (by kernel_rfl) (fun w hw => mflashes_as hV rfl rfl hpF hl hs (hw.rdm hSF memQ) (fun x hx => hw.rdm (hxF x hx) memQ)) (fun w1X w2X vX hw1X hbX hRX => ?_); obtain ⟨AX, cX, rfl, hSX⟩ := hRX)
 | refine S_nil ?_
 | refine S_runN rfl rfl obQ obQ ?_
 | refine S_box (fun b => ⟨_, _, rfl, obQ, ?_⟩)
 | refine S_call (f := 66) rfl obQ (by kernel_rfl) (fun w hw => rShortQ_c _ _ l hmax _ hSq w (hw.rdm hr.toS memQ)) ?_
 | refine S_call (f := 70) rfl obQ (by kernel_rfl) (fun w hw => rCheckSeq_c A c l hl hs hnm w (hw.rdm hr.toS memQ) (fun x hx => hw.rdm (hrs x hx).toS memQ)) ?_
 | refine S_call (f := 75) rfl obQ (by kernel_rfl) (fun w hw => rShortSound_c _ _ _ _ hSs w) ?_
 | refine S_call (f := 79) rfl obQ (by kernel_rfl) (fun w hw => rCheckSound_c A2 c2 s hsl w (hw.rdm hr2.toS memQ)) ?_
 )
 | (refine G_id ?_; first
 | refine G_then ?_
 )
 )
  obtain ⟨b5, rfl⟩ : ∃ z, z = b := ⟨b, rfl⟩
  refine C_row0 10 93 4 rfl ?_
  repeat' (first
 | (refine C_id ?_; first
 | refine C_region rfl ?_
 | refine C_block ?_
 )
 | (refine S_id ?_; first
 | refine S_nil ?_
 | refine S_runN rfl rfl obQ obQ ?_
 )
 | (refine G_id ?_; first
 | refine G_then ?_
 )
 )
  refine C_loopS (fun i : Nat × Option Addr × Nat => ⟨[(0, .s (.v (.slice A l.length c))), (1, .s (.v (.slice A2 s.length c2))), (5, .s (.p b5 0 0)), (7, .s (.v (.float .f32 (smp x0)))), (8, .s (.v (.slice AX (flF l (smp x0)).length cX))), (9, .s (.v (.int .i64 0))), (10, .s (.r i.2.1 i.1 i.2.2 0)), (83, .s (.v (.int .i64 ((l.length : Nat) : Int)))), (84, .s (.v (.int .i64 i.1)))], [⟨b5, 136, [.v (.int .u8 x0), .v (.int .u8 x1), .v (.int .u8 x2), .v (.int .u8 x3)]⟩], [⟨93, 4, i.1, (l.reverse.take i.1).flatMap pvC, .slice i.2.1 i.1 i.2.2⟩]⟩) (fun i => i.1 ≤ l.length) (fun i => l.length - i.1) (0, none, 0) (Nat.zero_le _) ?_ (fun i hi => ?_)
  · exact ⟨⟨_, rfl, obQ⟩, ⟨_, rfl⟩, rfl, pstQ⟩
  obtain ⟨k, A', c'⟩ := i
  have hi' : k ≤ l.length := hi
  dsimp only
  by_cases hlt : k < l.length
  · obtain ⟨ad, rfl⟩ := hr.some (by rw [pv_len]; omega)
    have hrt := rev_take hlt
    repeat' (first
 | (refine C_id ?_; first
 | refine C_seq ?_
 | refine C_region rfl ?_
 | refine C_block ?_
 | refine C_skip ?_
 | refine C_condT rfl obQ ?_
     )
 | (refine S_id ?_; first
 | ((with_reducible (first | refine S_trueE ?_ ?_ | refine S_trueB ?_ ?_ | refine S_trueL ?_ ?_ | refine S_trueD ?_ ?_ | refine S_trueN ?_ ?_)); · (first | exact beq_self_eq_true _ | rfl | omega | exact decide_eq_true (by omega) | (simp only [bne_iff_ne, ne_eq]; first | assumption | omega) | (rw [beq_iff_eq]; first | assumption | omega)))
 | refine S_load rfl obQ rfl [.string (gQ l (l.length - 1 - k)).p.nm, .int .i64 (gQ l (l.length - 1 - k)).p.w, .int .i64 (gQ l (l.length - 1 - k)).p.h, .slice (gQ l (l.length - 1 - k)).A (gQ l (l.length - 1 - k)).p.s.length (gQ l (l.length - 1 - k)).c] (.past (w, fun b => b < w.heap.size) memQ _ _ hr.toS _ _ rfl rfl (gQ_idxY (k := l.length - 1 - k) (by omega) (by omega))) rfl (.inl ⟨rfl, rfl⟩) ?_
 | refine S_append rfl obQ rfl rfl rfl ⟨by decide, rfl⟩ rfl ⟨rfl, rfl, rfl, rfl⟩ [.string (gQ l (l.length - 1 - k)).p.nm, .int .i64 (gQ l (l.length - 1 - k)).p.w, .int .i64 (gQ l (l.length - 1 - k)).p.h, .slice (gQ l (l.length - 1 - k)).A (gQ l (l.length - 1 - k)).p.s.length (gQ l (l.length - 1 - k)).c] ⟨by decide, rfl⟩ (by simp [Value.oneCell']) (fun w hw => by first | exact hw.src (i := 0) rfl rfl | exact hw.src (i := 1) rfl rfl | exact hw.src (i := 2) rfl rfl | exact hw.src (i := 3) rfl rfl | exact hw.src (i := 4) rfl rfl | exact hw.src (i := 5) rfl rfl | exact hw.src (i := 6) rfl rfl | exact hw.src (i := 7) rfl rfl | exact hw.src (i := 8) rfl rfl) (by unfold maxLen; dsimp only; omega) (fun gb cap' => ⟨_, rfl, ?_⟩)
 | refine S_nil ?_
 | refine S_runN rfl rfl obQ obQ ?_
 | refine S_slice (fun b => ⟨_, _, rfl, obQ, ?_⟩)
     )
 | (refine G_id ?_; first
 | refine G_loop (k + 1, some ⟨gb, 0, none⟩, cap') (show k + 1 ≤ l.length by omega) (by show l.length - (k + 1) < l.length - k; omega) ⟨⟨_, rfl, obQ⟩, ⟨_, rfl⟩, (by dsimp only; rw [hrt]; rfl), pstQ⟩
 | refine G_then ?_
 | refine G_block ?_
     )
     )
  have hke : k = l.length := by omega
  rw [show l.reverse.take k = l.reverse from List.take_of_length_le (by rw [hlr]; omega)]
  subst hke
  repeat' (first
 | (refine C_id ?_; first
 | refine C_seq ?_
 | refine C_region rfl ?_
 | refine C_block ?_
 | refine C_skip ?_
 | refine C_exit ?_
 | refine C_condF rfl obQ ?_
 )
 | (refine S_id ?_; first
 | ((with_reducible (first | refine S_falseN ?_ ?_ | refine S_falseB ?_ ?_ | refine S_falseL ?_ ?_ | refine S_falseD ?_ ?_ | refine S_falseE ?_ ?_)); · (first | rfl | exact bne_self_eq_false _ | assumption | omega | exact decide_eq_false (by omega) | (simp only [bne_eq_false_iff_eq]; first | assumption | omega) | (rw [beq_eq_false_iff_ne]; first | assumption | omega)))
 | ((with_reducible refine S_falseO ?_ ?_ ?_); (· rfl); (· first | rfl | (first | rfl | exact bne_self_eq_false _ | assumption | omega | exact decide_eq_false (by omega) | (simp only [bne_eq_false_iff_eq]; first | assumption | omega) | (rw [beq_eq_false_iff_ne]; first | assumption | omega))))
 | refine S_unG rfl rfl rfl rfl ?_
 | (refine S_callM (f := 68) rfl obQ (by kernel_rfl) (fun w hw => lfilmR_as hlr hlR hsR hAsR (hw.rdRow (i := 0) rfl rfl) (fun x hx => hw.rdm (hrs x (List.mem_reverse.1 hx)).toS memQ)) (fun w1F w2F vF hw1F hbF hRF => ?_); obtain ⟨AF, cF, lF, rfl, hpF, hSF, hxF⟩ := hRF)
 | (refine S_callM (f := 67) rfl obQ (by kernel_rfl) (fun w hw => mflashes_as hVR rfl (by simp) hpF hlR hsR (hw.rdm hSF memQ) (fun x hx => hw.rdm (hxF x hx) memQ)) (fun w1Y w2Y vY hw1Y hbY hRY => ?_); obtain ⟨AY, cY, rfl, hSY⟩ := hRY)
 | refine S_nil ?_
 | refine S_runN rfl rfl obQ obQ ?_
 )
 | (refine G_id ?_; first
 | refine G_then ?_
 | refine G_blockX ?_
 | refine G_thenX ?_
 )
 )
  refine C_norow ?_
  refine C_loopS (fun i : Nat => ⟨[(0, .s (.v (.slice A l.length c))), (1, .s (.v (.slice A2 s.length c2))), (5, .s (.p b5 0 0)), (7, .s (.v (.float .f32 (smp x0)))), (8, .s (.v (.slice AX (flF l (smp x0)).length cX))), (12, .s (.v (.slice AY (flF l.reverse (smp x0)).length cY))), (117, .s (.v (.slice AX (flF l (smp x0)).length cX))), (118, .s (.v (.int .i64 (((flF l (smp x0)).length : Nat) : Int)))), (119, .s (.v (.int .i64 i)))], [⟨b5, 136, [.v (.int .u8 x0), .v (.int .u8 x1), .v (.int .u8 x2), .v (.int .u8 x3)]⟩], []⟩) (fun i => i ≤ (flF l (smp x0)).length) (fun i => (flF l (smp x0)).length - i) 0 (Nat.zero_le _) ?_ (fun i hi => ?_)
  · exact ⟨⟨_, rfl, obQ⟩, ⟨_, rfl⟩, rfl, psQ⟩
  have hi1 : i ≤ (flF l (smp x0)).length := hi
  by_cases hlt2 : i < (flF l (smp x0)).length
  · obtain ⟨aX, rfl⟩ := rdM_some hSX (by rw [natC_len]; omega)
    obtain ⟨aY, rfl⟩ := rdM_some hSY (by rw [natC_len]; omega)
    have hfb := fl_bd (gN_mem hlt2)
    have hfa : gN (flF l.reverse (smp x0)) ((flF l (smp x0)).length - 1 - i) = l.length - gN (flF l (smp x0)) i := by
      have hj : (flF l (smp x0)).length - 1 - i < (flF l.reverse (smp x0)).length := by rw [hfrl]; omega
      rw [gN_at hj, gN_at hlt2, fl_at hsq hlt2 hj]
    repeat' (first
 | (refine C_id ?_; first
 | refine C_seq ?_
 | refine C_region rfl ?_
 | refine C_block ?_
 | refine C_skip ?_
 | refine C_condT rfl obQ ?_
 | refine C_condF rfl obQ ?_
     )
 | (refine S_id ?_; first
 | ((with_reducible (first | refine S_falseN ?_ ?_ | refine S_falseB ?_ ?_ | refine S_falseL ?_ ?_ | refine S_falseD ?_ ?_ | refine S_falseE ?_ ?_)); · (first | rfl | exact bne_self_eq_false _ | assumption | omega | exact decide_eq_false (by omega) | (simp only [bne_eq_false_iff_eq]; first | assumption | omega) | (rw [beq_eq_false_iff_ne]; first | assumption | omega)))
 | ((with_reducible refine S_falseO ?_ ?_ ?_); (· rfl); (· first | rfl | (first | rfl | exact bne_self_eq_false _ | assumption | omega | exact decide_eq_false (by omega) | (simp only [bne_eq_false_iff_eq]; first | assumption | omega) | (rw [beq_eq_false_iff_ne]; first | assumption | omega))))
 | ((with_reducible (first | refine S_trueE ?_ ?_ | refine S_trueB ?_ ?_ | refine S_trueL ?_ ?_ | refine S_trueD ?_ ?_ | refine S_trueN ?_ ?_)); · (first | exact beq_self_eq_true _ | rfl | omega | exact decide_eq_true (by omega) | (simp only [bne_iff_ne, ne_eq]; first | assumption | omega) | (rw [beq_iff_eq]; first | assumption | omega)))
 | refine S_unG rfl rfl rfl rfl ?_
 | refine S_load rfl obQ rfl [.int .i64 ((gN (flF l (smp x0)) (i) : Nat) : Int)] (.past (w2X, fun b => w1X.heap.size ≤ b ∧ b < w2X.heap.size) memQ _ _ hSX _ _ rfl rfl (gN_idx (k := i) rfl (by omega))) rfl (.inr ⟨rfl, rfl⟩) ?_
 | refine S_load rfl obQ rfl [.int .i64 ((gN (flF l.reverse (smp x0)) ((flF l (smp x0)).length - 1 - i) : Nat) : Int)] (.past (w2Y, fun b => w1Y.heap.size ≤ b ∧ b < w2Y.heap.size) memQ _ _ hSY _ _ rfl rfl (gN_idx (k := (flF l (smp x0)).length - 1 - i) (by omega) (by omega))) rfl (.inr ⟨rfl, rfl⟩) ?_
 | refine S_nil ?_
 | refine S_runN rfl rfl obQ obQ ?_
     )
 | (refine G_id ?_; first
 | refine G_loop (i + 1) (show i + 1 ≤ (flF l (smp x0)).length by omega) (by show (flF l (smp x0)).length - (i + 1) < (flF l (smp x0)).length - i; omega) ⟨⟨_, rfl, obQ⟩, ⟨_, rfl⟩, rfl, pstQ⟩
 | refine G_then ?_
 | refine G_block ?_
     )
     )
  repeat' (first
 | (refine C_id ?_; first
 | refine C_seq ?_
 | refine C_region rfl ?_
 | refine C_exit ?_
 | refine C_condF rfl obQ ?_
 )
 | (refine S_id ?_; first
 | ((with_reducible (first | refine S_falseN ?_ ?_ | refine S_falseB ?_ ?_ | refine S_falseL ?_ ?_ | refine S_falseD ?_ ?_ | refine S_falseE ?_ ?_)); · (first | rfl | exact bne_self_eq_false _ | assumption | omega | exact decide_eq_false (by omega) | (simp only [bne_eq_false_iff_eq]; first | assumption | omega) | (rw [beq_eq_false_iff_ne]; first | assumption | omega)))
 | refine S_nil ?_
 | refine S_runN rfl rfl obQ obQ ?_
 )
 | (refine G_id ?_; first
 | refine G_then ?_
 | refine G_blockX ?_
 | refine G_thenX ?_
 )
 )
  refine C_weak (Ps' := [(w, fun b => b < w.heap.size)]) (σ' := ⟨[(0, .s (.v (.slice A l.length c))), (1, .s (.v (.slice A2 s.length c2))), (5, .s (.p b5 0 0)), (7, .s (.v (.float .f32 (smp x0)))), (8, .s (.v (.slice AX (flF l (smp x0)).length cX)))], [⟨b5, 136, [.v (.int .u8 x0), .v (.int .u8 x1), .v (.int .u8 x2), .v (.int .u8 x3)]⟩], []⟩) ⟨⟨_, rfl, obQ⟩, ⟨_, rfl⟩, rfl, psQ⟩ ?_
  have hbz : ∀ a b : Int, 0 ≤ a ∧ a ≤ 256 → 1 ≤ b ∧ b ≤ 256 → brR l (smp x0) a b = (brF l (smp x0) a b, 0) := fun a b ha hb => if_pos (br_zero hsq hte ha hb)
  have hBa : brR l (smp x0) (1 + x1 % 6) (1 + x2 % 12) = ((brF l (smp x0) (1 + x1 % 6) (1 + x2 % 12)), 0) := hbz _ _ (by omega) (by omega)
  have hBb : brR l (smp x0) (1 + x1 % 6 - 1) (1 + x2 % 12) = ((brF l (smp x0) (1 + x1 % 6 - 1) (1 + x2 % 12)), 0) := hbz _ _ (by omega) (by omega)
  have hBc : brR l (smp x0) (1 + x1 % 6) (1 + x2 % 12 + 1) = ((brF l (smp x0) (1 + x1 % 6) (1 + x2 % 12 + 1)), 0) := hbz _ _ (by omega) (by omega)
  have hBd : brR l (smp x0) (((flF l (smp x0)).length : Nat) : Int) 256 = ([], 0) := by
    rw [hbz _ _ (by omega) (by omega)]
    show (brL _ _ _ _, _) = _
    rw [br_none]
  have hla : (brF l (smp x0) (1 + x1 % 6) (1 + x2 % 12)).length ≤ 1000000 := by have := brL_len (flF l (smp x0)) (1 + x1 % 6) (1 + x2 % 12) l.length; unfold brF; omega
  have hlb : (brF l (smp x0) (1 + x1 % 6 - 1) (1 + x2 % 12)).length ≤ 1000000 := by have := brL_len (flF l (smp x0)) (1 + x1 % 6 - 1) (1 + x2 % 12) l.length; unfold brF; omega
  have hlc : (brF l (smp x0) (1 + x1 % 6) (1 + x2 % 12 + 1)).length ≤ 1000000 := by have := brL_len (flF l (smp x0)) (1 + x1 % 6) (1 + x2 % 12 + 1) l.length; unfold brF; omega
  repeat' (first
 | (refine C_id ?_; first
 | refine C_seq ?_
 | refine C_region rfl ?_
 | refine C_block ?_
 | refine C_skip ?_
 | refine C_draw (id := 20) rfl mixed (by kernel_rfl) ?_
 | refine C_condF rfl obQ ?_
 )
 | (refine S_id ?_; first
 | ((with_reducible (first | refine S_falseN ?_ ?_ | refine S_falseB ?_ ?_ | refine S_falseL ?_ ?_ | refine S_falseD ?_ ?_ | refine S_falseE ?_ ?_)); · (first | rfl | exact bne_self_eq_false _ | assumption | omega | exact decide_eq_false (by omega) | (simp only [bne_eq_false_iff_eq]; first | assumption | omega) | (rw [beq_eq_false_iff_ne]; first | assumption | omega)))
 | ((with_reducible refine S_falseO ?_ ?_ ?_); (· rfl); (· first | rfl | (first | rfl | exact bne_self_eq_false _ | assumption | omega | exact decide_eq_false (by omega) | (simp only [bne_eq_false_iff_eq]; first | assumption | omega) | (rw [beq_eq_false_iff_ne]; first | assumption | omega))))
 | refine S_unG rfl rfl rfl rfl ?_
 | (refine S_callM (f := 68) rfl obQ (by kernel_rfl) (fun w hw => lfilm_c A c l hl hs hAs w (hw.rdm hr.toS memQ) (fun x hx => hw.rdm (hrs x hx).toS memQ)) (fun w1F w2F vF hw1F hbF hRF => ?_); obtain ⟨AF, cF, lF, rfl, hpF, hSF, hxF⟩ := hRF)
 | (refine S_callM (f := 69) rfl obQ (by kernel_rfl) (fun w hw => mbroken_as hBa rfl hpF hl hs (hw.rdm hSF memQ) (fun x hx => hw.rdm (hxF x hx) memQ)) (fun w1P w2P vP hw1P hbP hRP => ?_); obtain ⟨AP, cP, rfl, hSP⟩ := hRP)
 | (refine S_callM (f := 69) rfl obQ (by kernel_rfl) (fun w hw => mbroken_as hBb rfl hpF hl hs (hw.rdm hSF memQ) (fun x hx => hw.rdm (hxF x hx) memQ)) (fun w1Q w2Q vQ hw1Q hbQ hRQ => ?_); obtain ⟨AQ, cQ, rfl, hSQ⟩ := hRQ)
 | (refine S_callM (f := 69) rfl obQ (by kernel_rfl) (fun w hw => mbroken_as hBc rfl hpF hl hs (hw.rdm hSF memQ) (fun x hx => hw.rdm (hxF x hx) memQ)) (fun w1R w2R vR hw1R hbR hRR => ?_); obtain ⟨AR, cR, rfl, hSR⟩ := hRR)
 | (refine S_callM (f := 69) rfl obQ (by kernel_rfl) (fun w hw => mbroken_as hBd rfl hpF hl hs (hw.rdm hSF memQ) (fun x hx => hw.rdm (hxF x hx) memQ)) (fun w1Z w2Z vZ hw1Z hbZ hRZ => ?_); obtain ⟨AZ, cZ, rfl, hSZ⟩ := hRZ)
 | refine S_nil ?_
 | refine S_runN rfl rfl obQ obQ ?_
 )
 | (refine D_id ?_; first
 | refine D_nil ?_
 | refine D_run rfl rfl obQ obQ ?_
 )
 | (refine G_id ?_; first
 | refine G_then ?_
 )
 )
  refine C_loopS (fun i : Nat => ⟨[(1, .s (.v (.slice A2 s.length c2))), (5, .s (.p b5 0 0)), (20, .s (.v (.slice AQ (brF l (smp x0) (1 + x1 % 6 - 1) (1 + x2 % 12)).length cQ))), (22, .s (.v (.slice AR (brF l (smp x0) (1 + x1 % 6) (1 + x2 % 12 + 1)).length cR))), (209, .s (.v (.slice AP (brF l (smp x0) (1 + x1 % 6) (1 + x2 % 12)).length cP))), (210, .s (.v (.int .i64 (((brF l (smp x0) (1 + x1 % 6) (1 + x2 % 12)).length : Nat) : Int)))), (211, .s (.v (.int .i64 i)))], [⟨b5, 136, [.v (.int .u8 x0), .v (.int .u8 x1), .v (.int .u8 x2), .v (.int .u8 x3)]⟩], []⟩) (fun i => i ≤ (brF l (smp x0) (1 + x1 % 6) (1 + x2 % 12)).length) (fun i => (brF l (smp x0) (1 + x1 % 6) (1 + x2 % 12)).length - i) 0 (Nat.zero_le _) ?_ (fun i hi => ?_)
  · exact ⟨⟨_, rfl, obQ⟩, ⟨_, rfl⟩, rfl, psQ⟩
  have hi1 : i ≤ (brF l (smp x0) (1 + x1 % 6) (1 + x2 % 12)).length := hi
  by_cases hlt3 : i < (brF l (smp x0) (1 + x1 % 6) (1 + x2 % 12)).length
  · obtain ⟨aP, rfl⟩ := rdM_some hSP (by rw [natC_len]; omega)
    have hib : (brF l (smp x0) (1 + x1 % 6 - 1) (1 + x2 % 12)).contains (gN (brF l (smp x0) (1 + x1 % 6) (1 + x2 % 12)) i) = true := List.elem_eq_true_of_mem (br_less (gN_mem hlt3))
    have hic : (brF l (smp x0) (1 + x1 % 6) (1 + x2 % 12 + 1)).contains (gN (brF l (smp x0) (1 + x1 % 6) (1 + x2 % 12)) i) = true := List.elem_eq_true_of_mem (br_long (gN_mem hlt3))
    repeat' (first
 | (refine C_id ?_; first
 | refine C_seq ?_
 | refine C_region rfl ?_
 | refine C_block ?_
 | refine C_skip ?_
 | refine C_condT rfl obQ ?_
 | refine C_condF rfl obQ ?_
     )
 | (refine S_id ?_; first
 | ((with_reducible refine S_falseO ?_ ?_ ?_); (· rfl); (· first | rfl | (first | rfl | exact bne_self_eq_false _ | assumption | omega | exact decide_eq_false (by omega) | (simp only [bne_eq_false_iff_eq]; first | assumption | omega) | (rw [beq_eq_false_iff_ne]; first | assumption | omega))))
 | ((with_reducible (first | refine S_trueE ?_ ?_ | refine S_trueB ?_ ?_ | refine S_trueL ?_ ?_ | refine S_trueD ?_ ?_ | refine S_trueN ?_ ?_)); · (first | exact beq_self_eq_true _ | rfl | omega | exact decide_eq_true (by omega) | (simp only [bne_iff_ne, ne_eq]; first | assumption | omega) | (rw [beq_iff_eq]; first | assumption | omega)))
 | refine S_unG rfl rfl rfl rfl ?_
 | ((with_reducible refine S_notV (q := false) ?_ ?_); · (first | rfl | assumption))
 | refine S_load rfl obQ rfl [.int .i64 ((gN (brF l (smp x0) (1 + x1 % 6) (1 + x2 % 12)) (i) : Nat) : Int)] (.past (w2P, fun b => w1P.heap.size ≤ b ∧ b < w2P.heap.size) memQ _ _ hSP _ _ rfl rfl (gN_idx (k := i) rfl (by omega))) rfl (.inr ⟨rfl, rfl⟩) ?_
 | refine S_nil ?_
 | refine S_runN rfl rfl obQ obQ ?_
 | refine S_call (f := 83) rfl obQ (by kernel_rfl) (fun w hw => mhas_as hib rfl hlb (hw.rdm hSQ memQ)) ?_
 | refine S_call (f := 83) rfl obQ (by kernel_rfl) (fun w hw => mhas_as hic rfl hlc (hw.rdm hSR memQ)) ?_
     )
 | (refine G_id ?_; first
 | refine G_loop (i + 1) (show i + 1 ≤ (brF l (smp x0) (1 + x1 % 6) (1 + x2 % 12)).length by omega) (by show (brF l (smp x0) (1 + x1 % 6) (1 + x2 % 12)).length - (i + 1) < (brF l (smp x0) (1 + x1 % 6) (1 + x2 % 12)).length - i; omega) ⟨⟨_, rfl, obQ⟩, ⟨_, rfl⟩, rfl, pstQ⟩
 | refine G_then ?_
 | refine G_block ?_
     )
     )
  repeat' (first
 | (refine C_id ?_; first
 | refine C_seq ?_
 | refine C_region rfl ?_
 | refine C_exit ?_
 | refine C_condF rfl obQ ?_
 )
 | (refine S_id ?_; first
 | ((with_reducible (first | refine S_falseN ?_ ?_ | refine S_falseB ?_ ?_ | refine S_falseL ?_ ?_ | refine S_falseD ?_ ?_ | refine S_falseE ?_ ?_)); · (first | rfl | exact bne_self_eq_false _ | assumption | omega | exact decide_eq_false (by omega) | (simp only [bne_eq_false_iff_eq]; first | assumption | omega) | (rw [beq_eq_false_iff_ne]; first | assumption | omega)))
 | refine S_nil ?_
 | refine S_runN rfl rfl obQ obQ ?_
 )
 | (refine G_id ?_; first
 | refine G_then ?_
 | refine G_blockX ?_
 | refine G_thenX ?_
 )
 )
  refine C_weak (Ps' := [(w, fun b => b < w.heap.size)]) (σ' := ⟨[(1, .s (.v (.slice A2 s.length c2))), (5, .s (.p b5 0 0))], [⟨b5, 136, [.v (.int .u8 x0), .v (.int .u8 x1), .v (.int .u8 x2), .v (.int .u8 x3)]⟩], []⟩) ⟨⟨_, rfl, obQ⟩, ⟨_, rfl⟩, rfl, psQ⟩ ?_
  obtain ⟨h4096, hsp⟩ := ss_smp hss
  have h40 : s.length ≤ 40 := by
    simp only [Bool.or_eq_true, decide_eq_true_eq, beq_iff_eq] at hSs
    omega
  obtain ⟨nb, hnb⟩ : ∃ nb : Nat, (nb : Int) = 1 + x2 % 9 := ⟨(1 + x2 % 9).toNat, by omega⟩
  have hn0 : 0 < nb := by omega
  have ht8 : (tpL x3).length ≤ 1000000 := by simp [tpL]
  repeat' (first
 | (refine C_id ?_; first
 | refine C_seq ?_
 | refine C_regionNe 35 rfl rfl ?_
 | refine C_drawV (id := 33) 21 [(0, true), (1, true), (2, true), (3, true), (4, true), (5, true), (6, true), (7, true), (8, true), (9, true), (10, true), (11, true), (12, true), (13, true), (15, true), (16, true), (17, true), (18, true), (19, true), (14, false), (20, true)] rfl mixed (by kernel_rfl) rfl ?_
 )
 | (refine S_id ?_; first
 | refine S_nil ?_
 | refine S_runN rfl rfl obQ obQ ?_
 | refine S_slice (fun b => ⟨_, _, rfl, obQ, ?_⟩)
 )
 | (refine V_id ?_; first
 | refine V_nil ?_
 | refine V_q rfl (Yl_pure (binX_pure rfl obQ (fun w => rem_m (a := 0 - x3) _ _ _ (by omega) w))) ?_
 | refine V_q rfl (Yl_step rfl obQ) ?_
 | refine V_n rfl ?_
 )
 | (refine G_id ?_; first
 | refine G_V ⟨⟨_, rfl, trivial⟩, ⟨_, rfl⟩, rfl, pstQ⟩ rfl ?_
 | refine G_then ?_
 )
 )
  obtain ⟨b28, rfl⟩ : ∃ z, z = b := ⟨b, rfl⟩
  refine C_row0 30 114 1 rfl ?_
  refine C_row0 31 114 1 rfl ?_
  repeat' (first
 | (refine C_id ?_; first
 | refine C_region rfl ?_
 | refine C_block ?_
 )
 | (refine S_id ?_; first
 | refine S_nil ?_
 | refine S_runN rfl rfl obQ obQ ?_
 )
 | (refine G_id ?_; first
 | refine G_then ?_
 )
 )
  refine C_loopS (fun i : Nat × (Option Addr × Nat) × (Option Addr × Nat) => ⟨[(1, .s (.v (.slice A2 s.length c2))), (5, .s (.p b5 0 0)), (28, .s (.v (.slice (some ⟨b28, 0, none⟩) 3 3))), (29, .s (.v (.int .i64 (1 + x2 % 9)))), (30, .s (.r i.2.1.1 i.1 i.2.1.2 0)), (31, .s (.r i.2.2.1 i.1 i.2.2.2 1)), (246, .s (.v (.slice A2 s.length c2))), (247, .s (.v (.int .i64 ((s.length : Nat) : Int)))), (248, .s (.v (.int .i64 i.1)))], [⟨b5, 136, [.v (.int .u8 x0), .v (.int .u8 x1), .v (.int .u8 x2), .v (.int .u8 x3)]⟩, ⟨b28, 3, [.v (.int .i64 (1 + x3 % 5)), .v (.int .i64 ((0 - x3).tmod 7)), .v (.int .i64 (x3 % 3))]⟩], [⟨114, 1, i.1, ((s.take i.1).map bneg).map (.float .f32), .slice i.2.1.1 i.1 i.2.1.2⟩, ⟨114, 1, i.1, ((s.take i.1).map dbl).map (.float .f32), .slice i.2.2.1 i.1 i.2.2.2⟩]⟩) (fun i => i.1 ≤ s.length ∧ ∀ j, j < i.1 → -2 ^ 158 ≤ B32 (gB s j) ∧ B32 (gB s j) ≤ 2 ^ 158) (fun i => s.length - i.1) (0, (none, 0), (none, 0)) ⟨Nat.zero_le _, fun j hj => absurd hj (Nat.not_lt_zero j)⟩ ?_ (fun i hi => ?_)
  · exact ⟨⟨_, rfl, obQ⟩, ⟨_, rfl⟩, rfl, pstQ⟩
  obtain ⟨k, ⟨Aa, ca⟩, ⟨Ab, cb⟩⟩ := i
  obtain ⟨hk, hbd⟩ := hi
  dsimp only at hk hbd ⊢
  by_cases hlt : k < s.length
  · obtain ⟨a2, rfl⟩ := hr2.some (by simp; omega)
    have hsm1 := hsp _ (gB_mem hlt)
    have hgt0 := gt512 hsm1
    have hlt0 := lt512 hsm1
    by_cases c1 : 2 ^ 158 < B32 (gB s k)
    · have hgt : (FloatKind.f32.format.order (gB s k) 1140850688 == some .gt) = true := hgt0.trans (decide_eq_true c1)
      have hlt9 : (FloatKind.f32.format.order (gB s k) 3288334336 == some .lt) = (FloatKind.f32.format.order (gB s k) 3288334336 == some .lt) := rfl
      repeat' (first
 | (refine C_id ?_; first
 | refine C_seq ?_
 | refine C_region rfl ?_
 | refine C_block ?_
 | refine C_skip ?_
 | refine C_ret0 ?_
 | refine C_condT rfl obQ ?_
       )
 | (refine S_id ?_; first
 | ((with_reducible (first | refine S_trueE ?_ ?_ | refine S_trueB ?_ ?_ | refine S_trueL ?_ ?_ | refine S_trueD ?_ ?_ | refine S_trueN ?_ ?_)); · (first | exact beq_self_eq_true _ | rfl | omega | exact decide_eq_true (by omega) | (simp only [bne_iff_ne, ne_eq]; first | assumption | omega) | (rw [beq_iff_eq]; first | assumption | omega)))
 | refine S_unG rfl rfl rfl rfl ?_
 | refine S_pure (binX_pure rfl obQ (fun w => fgt_as hgt _ _ _ _ w)) ?_
 | refine S_pure (binX_pure rfl obQ (fun w => flt_as hlt9 _ _ _ _ w)) ?_
 | ((with_reducible refine S_trueO ?_ ?_); · (first | rfl | exact bne_iff_ne.2 (by assumption) | exact decide_eq_true (by omega)))
 | refine S_offG (.v (.bool false)) rfl rfl rfl rfl rfl ?_
 | refine S_load rfl obQ rfl [.float .f32 (gB s k)] (.past (w, fun b => b < w.heap.size) memQ _ _ hr2.toS _ _ rfl rfl (gB_idxZ (k := k) rfl hlt)) rfl (.inr ⟨rfl, rfl⟩) ?_
 | refine S_nil ?_
 | refine S_runN rfl rfl obQ obQ ?_
 | refine S_call (f := 20) rfl obQ (by kernel_rfl) (fun w hw => awake_c w (hw.rdm hO.toS memQ) (Pw_at hP hw memQ)) ?_
       )
 | (refine G_id ?_; first
 | refine G_then ?_
 | refine G_blockR ?_
 | refine G_thenR ?_
 | refine G_ret rfl obQ (fun w hw => ⟨?_, hw.below⟩)
       )
       )
      all_goals rfl
    have hgt : (FloatKind.f32.format.order (gB s k) 1140850688 == some .gt) = false := hgt0.trans (decide_eq_false c1)
    by_cases c2 : B32 (gB s k) < -2 ^ 158
    · have hlt9 : (FloatKind.f32.format.order (gB s k) 3288334336 == some .lt) = true := hlt0.trans (decide_eq_true c2)
      repeat' (first
 | (refine C_id ?_; first
 | refine C_seq ?_
 | refine C_region rfl ?_
 | refine C_block ?_
 | refine C_skip ?_
 | refine C_ret0 ?_
 | refine C_condT rfl obQ ?_
       )
 | (refine S_id ?_; first
 | ((with_reducible (first | refine S_trueE ?_ ?_ | refine S_trueB ?_ ?_ | refine S_trueL ?_ ?_ | refine S_trueD ?_ ?_ | refine S_trueN ?_ ?_)); · (first | exact beq_self_eq_true _ | rfl | omega | exact decide_eq_true (by omega) | (simp only [bne_iff_ne, ne_eq]; first | assumption | omega) | (rw [beq_iff_eq]; first | assumption | omega)))
 | refine S_unG rfl rfl rfl rfl ?_
 | refine S_pure (binX_pure rfl obQ (fun w => fgt_as hgt _ _ _ _ w)) ?_
 | refine S_pure (binX_pure rfl obQ (fun w => flt_as hlt9 _ _ _ _ w)) ?_
 | ((with_reducible refine S_trueO ?_ ?_); · (first | rfl | exact bne_iff_ne.2 (by assumption) | exact decide_eq_true (by omega)))
 | refine S_offG (.v (.bool false)) rfl rfl rfl rfl rfl ?_
 | refine S_load rfl obQ rfl [.float .f32 (gB s k)] (.past (w, fun b => b < w.heap.size) memQ _ _ hr2.toS _ _ rfl rfl (gB_idxZ (k := k) rfl hlt)) rfl (.inr ⟨rfl, rfl⟩) ?_
 | refine S_nil ?_
 | refine S_runN rfl rfl obQ obQ ?_
 | refine S_call (f := 20) rfl obQ (by kernel_rfl) (fun w hw => awake_c w (hw.rdm hO.toS memQ) (Pw_at hP hw memQ)) ?_
       )
 | (refine G_id ?_; first
 | refine G_then ?_
 | refine G_blockR ?_
 | refine G_thenR ?_
 | refine G_ret rfl obQ (fun w hw => ⟨?_, hw.below⟩)
       )
       )
      all_goals rfl
    have hlt9 : (FloatKind.f32.format.order (gB s k) 3288334336 == some .lt) = false := hlt0.trans (decide_eq_false c2)
    have hbn : ∀ j, j < k + 1 → -2 ^ 158 ≤ B32 (gB s j) ∧ B32 (gB s j) ≤ 2 ^ 158 := fun j hj => by
      by_cases hjk : j < k
      · exact hbd j hjk
      · have : j = k := by omega
        subst this
        exact ⟨Int.not_lt.1 c2, Int.not_lt.1 c1⟩
    repeat' (first
 | (refine C_id ?_; first
 | refine C_seq ?_
 | refine C_region rfl ?_
 | refine C_block ?_
 | refine C_skip ?_
 | refine C_condT rfl obQ ?_
 | refine C_condF rfl obQ ?_
     )
 | (refine S_id ?_; first
 | ((with_reducible refine S_falseO ?_ ?_ ?_); (· rfl); (· first | rfl | (first | rfl | exact bne_self_eq_false _ | assumption | omega | exact decide_eq_false (by omega) | (simp only [bne_eq_false_iff_eq]; first | assumption | omega) | (rw [beq_eq_false_iff_ne]; first | assumption | omega))))
 | ((with_reducible (first | refine S_trueE ?_ ?_ | refine S_trueB ?_ ?_ | refine S_trueL ?_ ?_ | refine S_trueD ?_ ?_ | refine S_trueN ?_ ?_)); · (first | exact beq_self_eq_true _ | rfl | omega | exact decide_eq_true (by omega) | (simp only [bne_iff_ne, ne_eq]; first | assumption | omega) | (rw [beq_iff_eq]; first | assumption | omega)))
 | refine S_unG rfl rfl rfl rfl ?_
 | refine S_pure (binX_pure rfl obQ (fun w => fgt_as hgt _ _ _ _ w)) ?_
 | refine S_pure (binX_pure rfl obQ (fun w => flt_as hlt9 _ _ _ _ w)) ?_
 | refine S_load rfl obQ rfl [.float .f32 (gB s k)] (.past (w, fun b => b < w.heap.size) memQ _ _ hr2.toS _ _ rfl rfl (gB_idxZ (k := k) rfl hlt)) rfl (.inr ⟨rfl, rfl⟩) ?_
 | refine S_pure (unX_pure rfl obQ (fun w => un_neg _ _ w)) ?_
 | refine S_pure (binX_pure rfl obQ (fun w => fl_arith (op := .mul) (k := .f32) (dbl_mul hsm1) _ _ _ w)) ?_
 | refine S_append rfl obQ rfl rfl rfl ⟨by decide, rfl⟩ rfl ⟨rfl, rfl, rfl, rfl⟩ [.float .f32 (bneg (gB s k))] ⟨by decide, rfl⟩ (by simp [Value.oneCell']) (fun w hw => by first | exact hw.src (i := 0) rfl rfl | exact hw.src (i := 1) rfl rfl | exact hw.src (i := 2) rfl rfl | exact hw.src (i := 3) rfl rfl | exact hw.src (i := 4) rfl rfl | exact hw.src (i := 5) rfl rfl | exact hw.src (i := 6) rfl rfl | exact hw.src (i := 7) rfl rfl | exact hw.src (i := 8) rfl rfl) (by unfold maxLen; dsimp only; omega) (fun gb cap' => ⟨_, rfl, ?_⟩)
 | refine S_append rfl obQ rfl rfl rfl ⟨by decide, rfl⟩ rfl ⟨rfl, rfl, rfl, rfl⟩ [.float .f32 (dbl (gB s k))] ⟨by decide, rfl⟩ (by simp [Value.oneCell']) (fun w hw => by first | exact hw.src (i := 0) rfl rfl | exact hw.src (i := 1) rfl rfl | exact hw.src (i := 2) rfl rfl | exact hw.src (i := 3) rfl rfl | exact hw.src (i := 4) rfl rfl | exact hw.src (i := 5) rfl rfl | exact hw.src (i := 6) rfl rfl | exact hw.src (i := 7) rfl rfl | exact hw.src (i := 8) rfl rfl) (by unfold maxLen; dsimp only; omega) (fun gc cap2 => ⟨_, rfl, ?_⟩)
 | refine S_nil ?_
 | refine S_runN rfl rfl obQ obQ ?_
 | refine S_slice (fun b => ⟨_, _, rfl, obQ, ?_⟩)
     )
 | (refine G_id ?_; first
 | refine G_loop (k + 1, (some ⟨gb, 0, none⟩, cap'), (some ⟨gc, 0, none⟩, cap2)) ⟨by show k + 1 ≤ s.length; omega, hbn⟩ (by show s.length - (k + 1) < s.length - k; omega) ⟨⟨_, rfl, obQ⟩, ⟨_, rfl⟩, (by dsimp only; rw [map_take1 bneg hlt, map_take1 dbl hlt]), pstQ⟩
 | refine G_then ?_
 | refine G_block ?_
     )
     )
  have hke : k = s.length := by omega
  subst hke
  rw [List.take_length]
  have hbs : ∀ b ∈ s, -2 ^ 158 ≤ B32 b ∧ B32 b ≤ 2 ^ 158 := fun b hb => by
    obtain ⟨j, hj, rfl⟩ := List.getElem_of_mem hb
    have := hbd j hj
    rwa [gB_at hj] at this
  have hSD := sdk_of (b := nb) hsp h40 hx3 (by omega)
  have hng : ∀ b ∈ s, lvl (bneg b) = -1 * lvl b := fun b hb => by rw [(neg_smp (hsp b hb)).2]; omega
  have hdg : ∀ b ∈ s, lvl (dbl b) = 2 * lvl b := fun b hb => (dbl_smp (hsp b hb) (hbs b hb)).2
  have hVa : loR s (tpL x3) (1 + x2 % 9) = ((lsR s (tpL x3) nb), 0) := loR_ok hnb hSD
  have hVb : loR (s.map bneg) (tpL x3) (1 + x2 % 9) = ((lsR s (tpL x3) nb), 0) := by
    rw [loR_ok hnb (sdk_of (fun y hy => by obtain ⟨b, hb, rfl⟩ := List.mem_map.1 hy; exact (neg_smp (hsp b hb)).1) (by simpa using h40) hx3 (by omega)), ls_map hng hn0]
    congr 1
    conv => rhs; rw [← List.map_id (lsR s (tpL x3) nb)]
    exact List.map_congr_left fun x _ => by show -1 * -1 * x = x; omega
  have hVc : loR (s.map dbl) (tpL x3) (1 + x2 % 9) = ((lsR s (tpL x3) nb).map (fun x => 2 * 2 * x), 0) := by
    rw [loR_ok hnb (sdk_of (fun y hy => by obtain ⟨b, hb, rfl⟩ := List.mem_map.1 hy; exact (dbl_smp (hsp b hb) (hbs b hb)).1) (by simpa using h40) hx3 (by omega)), ls_map hdg hn0]
  have hVd : loR s (tpL x3) (2 * (1 + x2 % 9)) = ((lsR s (tpL x3) (2 * nb)), 0) := loR_ok (b := 2 * nb) (by omega) (sdk_of hsp h40 hx3 (by omega))
  have hVe : ldR s (tpL x3) (1 + x2 % 9) 0 = ((ldF (lsR s (tpL x3) nb) 0 (lsR s (tpL x3) nb).length), 0) := ldR_ok hnb hSD
  have hl1 := ls_len s (tpL x3) hn0
  have hl2 := ls_len s (tpL x3) (show 0 < 2 * nb by omega)
  have hdv : s.length / nb ≤ s.length := Nat.div_le_self _ _
  have hll : (lsR s (tpL x3) nb).length ≤ 1000000 := by omega
  have hq1 : (((lsR s (tpL x3) nb).length : Nat) : Int) = (s.length : Int) / (1 + x2 % 9) := by rw [hl1, ← hnb, Int.natCast_ediv]
  have hq3 : (((lsR s (tpL x3) (2 * nb)).length : Nat) : Int) = (((lsR s (tpL x3) nb).length : Nat) : Int) / 2 := by
    rw [hl1, hl2, Nat.mul_comm 2 nb, ← Nat.div_div_eq_div_mul]
    omega
  have hdl := ldF_len (lsR s (tpL x3) nb) 0 (lsR s (tpL x3) nb).length
  have hlu : (ldF (lsR s (tpL x3) nb) 0 (lsR s (tpL x3) nb).length).length ≤ 1000000 := by omega
  repeat' (first
 | (refine C_id ?_; first
 | refine C_seq ?_
 | refine C_region rfl ?_
 | refine C_block ?_
 | refine C_skip ?_
 | refine C_exit ?_
 | refine C_condF rfl obQ ?_
 )
 | (refine S_id ?_; first
 | ((with_reducible (first | refine S_falseN ?_ ?_ | refine S_falseB ?_ ?_ | refine S_falseL ?_ ?_ | refine S_falseD ?_ ?_ | refine S_falseE ?_ ?_)); · (first | rfl | exact bne_self_eq_false _ | assumption | omega | exact decide_eq_false (by omega) | (simp only [bne_eq_false_iff_eq]; first | assumption | omega) | (rw [beq_eq_false_iff_ne]; first | assumption | omega)))
 | ((with_reducible refine S_falseO ?_ ?_ ?_); (· rfl); (· first | rfl | (first | rfl | exact bne_self_eq_false _ | assumption | omega | exact decide_eq_false (by omega) | (simp only [bne_eq_false_iff_eq]; first | assumption | omega) | (rw [beq_eq_false_iff_ne]; first | assumption | omega))))
 | refine S_unG rfl rfl rfl rfl ?_
 | refine S_row00 rfl rfl rfl (fun g => ?_)
 | refine S_appendS rfl obQ rfl rfl rfl ⟨by decide, rfl⟩ rfl ⟨rfl, rfl, rfl, rfl⟩ (s.map (.float .f32)) (by simp) hA2 (one_fl _) (srcS hr2 memQ) (by unfold maxLen; dsimp only; omega) (fun A' cap' => ⟨_, rfl, ?_⟩)
 | (refine S_callM (f := 77) rfl obQ (by kernel_rfl) (fun w hw => mloud_as hVa rfl hsl ht8 (by simp) rfl (hw.rdRow (i := 2) rfl rfl) (.inr ⟨_, rfl, hw.src (i := 1) rfl rfl⟩)) (fun w1L w2L vL hw1L hbL hRL => ?_); obtain ⟨AL, cL, rfl, hSL⟩ := hRL)
 | (refine S_callM (f := 77) rfl obQ (by kernel_rfl) (fun w hw => mloud_as (s := s.map bneg) hVb rfl (by simpa using hsl) ht8 (by simp) rfl (hw.rdRow (i := 0) rfl rfl) (.inr ⟨_, rfl, hw.src (i := 1) rfl rfl⟩)) (fun w1M w2M vM hw1M hbM hRM => ?_); obtain ⟨AM, cM, rfl, hSM⟩ := hRM)
 | (refine S_callM (f := 77) rfl obQ (by kernel_rfl) (fun w hw => mloud_as (s := s.map dbl) (n := (lsR s (tpL x3) nb).length) hVc (by simp) (by simpa using hsl) ht8 (by simp) rfl (hw.rdRow (i := 1) rfl rfl) (.inr ⟨_, rfl, hw.src (i := 1) rfl rfl⟩)) (fun w1N w2N vN hw1N hbN hRN => ?_); obtain ⟨AN, cN, rfl, hSN⟩ := hRN)
 | (refine S_callM (f := 77) rfl obQ (by kernel_rfl) (fun w hw => mloud_as hVd rfl hsl ht8 (by simp) rfl (hw.rdRow (i := 3) rfl rfl) (.inr ⟨_, rfl, hw.src (i := 1) rfl rfl⟩)) (fun w1O w2O vO hw1O hbO hRO => ?_); obtain ⟨AO, cO, rfl, hSO⟩ := hRO)
 | (refine S_callM (f := 78) rfl obQ (by kernel_rfl) (fun w hw => mloudB_as hVe rfl hsl ht8 (by simp) rfl (hw.rdRow (i := 4) rfl rfl) (.inr ⟨_, rfl, hw.src (i := 1) rfl rfl⟩)) (fun w1U w2U vU hw1U hbU hRU => ?_); obtain ⟨AU, cU, rfl, hSU⟩ := hRU)
 | refine S_nil ?_
 | refine S_runN rfl rfl obQ obQ ?_
 | refine S_call (f := 84) rfl obQ (by kernel_rfl) (fun w hw => sameI_c _ _ _ _ (lsR s (tpL x3) nb) _ rfl hll w (hw.rdm hSL memQ) (hw.rdm hSM memQ)) ?_
 )
 | (refine G_id ?_; first
 | refine G_then ?_
 | refine G_blockX ?_
 | refine G_thenX ?_
 )
 )
  refine C_norow ?_
  refine C_loopS (fun i : Nat × Nat => ⟨[(34, .s (.v (.slice AL (lsR s (tpL x3) nb).length cL))), (38, .s (.v (.slice AN (lsR s (tpL x3) nb).length cN))), (40, .s (.v (.slice AO (lsR s (tpL x3) (2 * nb)).length cO))), (42, .s (.v (.slice AU (ldF (lsR s (tpL x3) nb) 0 (lsR s (tpL x3) nb).length).length cU))), (44, .s (.v (.int .i64 ((i.2 : Nat) : Int)))), (352, .s (.v (.slice AL (lsR s (tpL x3) nb).length cL))), (353, .s (.v (.int .i64 (((lsR s (tpL x3) nb).length : Nat) : Int)))), (354, .s (.v (.int .i64 i.1)))], [], []⟩) (fun i => i.1 ≤ (lsR s (tpL x3) nb).length ∧ i.2 = (ldF (lsR s (tpL x3) nb) 0 i.1).length) (fun i => (lsR s (tpL x3) nb).length - i.1) (0, 0) ⟨Nat.zero_le _, rfl⟩ ?_ (fun i hi5 => ?_)
  · exact ⟨⟨_, rfl, obQ⟩, ⟨_, rfl⟩, rfl, psQ⟩
  obtain ⟨k, n5⟩ := i
  obtain ⟨hk, hn5⟩ := hi5
  dsimp only at hk hn5 ⊢
  have hk1 : k ≤ (lsR s (tpL x3) nb).length := hk
  have hcl := ldF_len (lsR s (tpL x3) nb) 0 k
  by_cases hlt : k < (lsR s (tpL x3) nb).length
  · obtain ⟨aL, rfl⟩ := rdM_some hSL (by rw [List.length_map]; omega)
    obtain ⟨aN, rfl⟩ := rdM_some hSN (by rw [List.length_map, List.length_map]; omega)
    have hgb := ls_bd hSD h40 k hlt
    have hgb1 := ls_bd hSD h40 (k - 1) (by omega)
    have hod : k % 2 = 1 → ∃ a, AO = some a := fun ho => rdM_some hSO (by
      have := (ls_two s (tpL x3) hn0 (i := k) (by omega) ho).1
      rw [List.length_map]
      omega)
    have hev : k % 2 = 1 → k / 2 < (lsR s (tpL x3) (2 * nb)).length ∧ gI (lsR s (tpL x3) (2 * nb)) (k / 2) = gI (lsR s (tpL x3) nb) (k - 1) + gI (lsR s (tpL x3) nb) k := fun ho => by
      have := ls_two s (tpL x3) hn0 (i := k) (by omega) ho
      exact ⟨by omega, this.2⟩
    by_cases ho : k % 2 = 1
    · obtain ⟨aO, rfl⟩ := hod ho
      have hev := hev ho
      by_cases hp : 0 < gI (lsR s (tpL x3) nb) k
      · have hct : (ldF (lsR s (tpL x3) nb) 0 (k + 1)).length = (ldF (lsR s (tpL x3) nb) 0 k).length + 1 := by rw [ldF_t hp]; simp
        have hu : (ldF (lsR s (tpL x3) nb) 0 (lsR s (tpL x3) nb).length).contains k = true := List.elem_eq_true_of_mem (ld_mem.2 ⟨hlt, hp⟩)
        repeat' (first
 | (refine C_id ?_; first
 | refine C_seq ?_
 | refine C_region rfl ?_
 | refine C_block ?_
 | refine C_skip ?_
 | refine C_draw (id := 57) rfl mixed (by kernel_rfl) ?_
 | refine C_condT rfl obQ ?_
 | refine C_condF rfl obQ ?_
 | (refine C_cond rfl obQ (fun h => ?_) (fun h => ?_) <;> (try simp only [Bool.or_eq_true, Bool.and_eq_true, Bool.or_eq_false_iff, Bool.and_eq_false_iff, decide_eq_true_eq, decide_eq_false_iff_not, beq_iff_eq, bne_iff_ne, beq_eq_false_iff_ne, bne_eq_false_iff_eq, ne_eq, Decidable.not_not, List.cons.injEq, and_true, Bool.not_eq_true', Bool.not_eq_false', Int.not_lt, Int.not_le] at h) <;> (try (exfalso; omega)) <;> (try (exfalso; simp at h; done)) <;> (try (exfalso; simp only [not_true_eq_false, false_or, or_false] at h; omega)) <;> (try contradiction) <;> (try (exfalso; omega)))
         )
 | (refine S_id ?_; first
 | ((with_reducible (first | refine S_falseN ?_ ?_ | refine S_falseB ?_ ?_ | refine S_falseL ?_ ?_ | refine S_falseD ?_ ?_ | refine S_falseE ?_ ?_)); · (first | rfl | exact bne_self_eq_false _ | assumption | omega | exact decide_eq_false (by omega) | (simp only [bne_eq_false_iff_eq]; first | assumption | omega) | (rw [beq_eq_false_iff_ne]; first | assumption | omega)))
 | ((with_reducible refine S_falseO ?_ ?_ ?_); (· rfl); (· first | rfl | (first | rfl | exact bne_self_eq_false _ | assumption | omega | exact decide_eq_false (by omega) | (simp only [bne_eq_false_iff_eq]; first | assumption | omega) | (rw [beq_eq_false_iff_ne]; first | assumption | omega))))
 | ((with_reducible (first | refine S_trueE ?_ ?_ | refine S_trueB ?_ ?_ | refine S_trueL ?_ ?_ | refine S_trueD ?_ ?_ | refine S_trueN ?_ ?_)); · (first | exact beq_self_eq_true _ | rfl | omega | exact decide_eq_true (by omega) | (simp only [bne_iff_ne, ne_eq]; first | assumption | omega) | (rw [beq_iff_eq]; first | assumption | omega)))
 | refine S_unG rfl rfl rfl rfl ?_
 | refine S_pure (binX_pure rfl obQ (fun w => neqM (by kernel_rfl) _ _ w)) ?_
 | refine S_load rfl obQ rfl [.int .i64 (gI (lsR s (tpL x3) nb) (k))] (.past (w2L, fun b => w1L.heap.size ≤ b ∧ b < w2L.heap.size) memQ _ _ hSL _ _ rfl rfl (gI_idxZ (k := k) rfl hlt)) rfl (.inr ⟨rfl, rfl⟩) ?_
 | refine S_load rfl obQ rfl [.int .i64 (4 * gI (lsR s (tpL x3) nb) k)] (.past (w2N, fun b => w1N.heap.size ≤ b ∧ b < w2N.heap.size) memQ _ _ hSN _ _ rfl rfl (four_idx hlt)) rfl (.inr ⟨rfl, rfl⟩) ?_
 | refine S_nil ?_
 | refine S_runN rfl rfl obQ obQ ?_
 | refine S_call (f := 83) rfl obQ (by kernel_rfl) (fun w hw => mhas_as hu rfl hlu (hw.rdm hSU memQ)) ?_
         )
 | (refine D_id ?_; first
 | refine D_loadG rfl rfl (fun hg => obQ) rfl [.int .i64 (gI (lsR s (tpL x3) (2 * nb)) (k / 2))] (fun hg => .past (w2O, fun b => w1O.heap.size ≤ b ∧ b < w2O.heap.size) memQ _ _ hSO _ _ rfl rfl (gI_idxZ (k := k / 2) (by simp [gOk] at hg; omega) (by simp [gOk] at hg; omega))) rfl (.inr ⟨rfl, rfl⟩) ?_
 | refine D_loadG rfl rfl (fun hg => obQ) rfl [.int .i64 (gI (lsR s (tpL x3) nb) (k - 1))] (fun hg => .past (w2L, fun b => w1L.heap.size ≤ b ∧ b < w2L.heap.size) memQ _ _ hSL _ _ rfl rfl (gI_idxZ (k := k - 1) (by simp [gOk] at hg; omega) (by simp [gOk] at hg; omega))) rfl (.inr ⟨rfl, rfl⟩) ?_
 | refine D_nil ?_
 | refine D_run rfl rfl obQ obQ ?_
         )
 | (refine G_id ?_; first
 | refine G_loop (k + 1, n5 + 1) (by dsimp only; exact ⟨by omega, by omega⟩) (by show (lsR s (tpL x3) nb).length - (k + 1) < (lsR s (tpL x3) nb).length - k; omega) ⟨⟨_, rfl, obQ⟩, ⟨_, rfl⟩, rfl, psQ⟩
 | refine G_then ?_
 | refine G_block ?_
         )
         )
      · have hct : (ldF (lsR s (tpL x3) nb) 0 (k + 1)).length = (ldF (lsR s (tpL x3) nb) 0 k).length := by rw [ldF_f hp]
        have hu : (ldF (lsR s (tpL x3) nb) 0 (lsR s (tpL x3) nb).length).contains k = false := by
          cases h : (ldF (lsR s (tpL x3) nb) 0 (lsR s (tpL x3) nb).length).contains k
          · rfl
          · exact absurd (ld_mem.1 (List.contains_iff_mem.1 h)).2 hp
        repeat' (first
 | (refine C_id ?_; first
 | refine C_seq ?_
 | refine C_region rfl ?_
 | refine C_block ?_
 | refine C_skip ?_
 | refine C_draw (id := 57) rfl mixed (by kernel_rfl) ?_
 | refine C_condT rfl obQ ?_
 | refine C_condF rfl obQ ?_
 | (refine C_cond rfl obQ (fun h => ?_) (fun h => ?_) <;> (try simp only [Bool.or_eq_true, Bool.and_eq_true, Bool.or_eq_false_iff, Bool.and_eq_false_iff, decide_eq_true_eq, decide_eq_false_iff_not, beq_iff_eq, bne_iff_ne, beq_eq_false_iff_ne, bne_eq_false_iff_eq, ne_eq, Decidable.not_not, List.cons.injEq, and_true, Bool.not_eq_true', Bool.not_eq_false', Int.not_lt, Int.not_le] at h) <;> (try (exfalso; omega)) <;> (try (exfalso; simp at h; done)) <;> (try (exfalso; simp only [not_true_eq_false, false_or, or_false] at h; omega)) <;> (try contradiction) <;> (try (exfalso; omega)))
         )
 | (refine S_id ?_; first
 | ((with_reducible (first | refine S_falseN ?_ ?_ | refine S_falseB ?_ ?_ | refine S_falseL ?_ ?_ | refine S_falseD ?_ ?_ | refine S_falseE ?_ ?_)); · (first | rfl | exact bne_self_eq_false _ | assumption | omega | exact decide_eq_false (by omega) | (simp only [bne_eq_false_iff_eq]; first | assumption | omega) | (rw [beq_eq_false_iff_ne]; first | assumption | omega)))
 | ((with_reducible refine S_falseO ?_ ?_ ?_); (· rfl); (· first | rfl | (first | rfl | exact bne_self_eq_false _ | assumption | omega | exact decide_eq_false (by omega) | (simp only [bne_eq_false_iff_eq]; first | assumption | omega) | (rw [beq_eq_false_iff_ne]; first | assumption | omega))))
 | ((with_reducible (first | refine S_trueE ?_ ?_ | refine S_trueB ?_ ?_ | refine S_trueL ?_ ?_ | refine S_trueD ?_ ?_ | refine S_trueN ?_ ?_)); · (first | exact beq_self_eq_true _ | rfl | omega | exact decide_eq_true (by omega) | (simp only [bne_iff_ne, ne_eq]; first | assumption | omega) | (rw [beq_iff_eq]; first | assumption | omega)))
 | refine S_unG rfl rfl rfl rfl ?_
 | refine S_pure (binX_pure rfl obQ (fun w => neqM (by kernel_rfl) _ _ w)) ?_
 | refine S_load rfl obQ rfl [.int .i64 (gI (lsR s (tpL x3) nb) (k))] (.past (w2L, fun b => w1L.heap.size ≤ b ∧ b < w2L.heap.size) memQ _ _ hSL _ _ rfl rfl (gI_idxZ (k := k) rfl hlt)) rfl (.inr ⟨rfl, rfl⟩) ?_
 | refine S_load rfl obQ rfl [.int .i64 (4 * gI (lsR s (tpL x3) nb) k)] (.past (w2N, fun b => w1N.heap.size ≤ b ∧ b < w2N.heap.size) memQ _ _ hSN _ _ rfl rfl (four_idx hlt)) rfl (.inr ⟨rfl, rfl⟩) ?_
 | refine S_nil ?_
 | refine S_runN rfl rfl obQ obQ ?_
 | refine S_call (f := 83) rfl obQ (by kernel_rfl) (fun w hw => mhas_as hu rfl hlu (hw.rdm hSU memQ)) ?_
         )
 | (refine D_id ?_; first
 | refine D_loadG rfl rfl (fun hg => obQ) rfl [.int .i64 (gI (lsR s (tpL x3) (2 * nb)) (k / 2))] (fun hg => .past (w2O, fun b => w1O.heap.size ≤ b ∧ b < w2O.heap.size) memQ _ _ hSO _ _ rfl rfl (gI_idxZ (k := k / 2) (by simp [gOk] at hg; omega) (by simp [gOk] at hg; omega))) rfl (.inr ⟨rfl, rfl⟩) ?_
 | refine D_loadG rfl rfl (fun hg => obQ) rfl [.int .i64 (gI (lsR s (tpL x3) nb) (k - 1))] (fun hg => .past (w2L, fun b => w1L.heap.size ≤ b ∧ b < w2L.heap.size) memQ _ _ hSL _ _ rfl rfl (gI_idxZ (k := k - 1) (by simp [gOk] at hg; omega) (by simp [gOk] at hg; omega))) rfl (.inr ⟨rfl, rfl⟩) ?_
 | refine D_nil ?_
 | refine D_run rfl rfl obQ obQ ?_
         )
 | (refine G_id ?_; first
 | refine G_loop (k + 1, n5) (by dsimp only; exact ⟨by omega, by omega⟩) (by show (lsR s (tpL x3) nb).length - (k + 1) < (lsR s (tpL x3) nb).length - k; omega) ⟨⟨_, rfl, obQ⟩, ⟨_, rfl⟩, rfl, psQ⟩
 | refine G_then ?_
 | refine G_block ?_
         )
         )
    · have hgf : gOk [(((k : Int) % 2 == 1), true)] = false := by
        have : ((k : Int) % 2 == 1) = false := by rw [beq_eq_false_iff_ne]; omega
        rw [this]
        rfl
      by_cases hp : 0 < gI (lsR s (tpL x3) nb) k
      · have hct : (ldF (lsR s (tpL x3) nb) 0 (k + 1)).length = (ldF (lsR s (tpL x3) nb) 0 k).length + 1 := by rw [ldF_t hp]; simp
        have hu : (ldF (lsR s (tpL x3) nb) 0 (lsR s (tpL x3) nb).length).contains k = true := List.elem_eq_true_of_mem (ld_mem.2 ⟨hlt, hp⟩)
        repeat' (first
 | (refine C_id ?_; first
 | refine C_seq ?_
 | refine C_region rfl ?_
 | refine C_block ?_
 | refine C_skip ?_
 | refine C_draw (id := 57) rfl mixed (by kernel_rfl) ?_
 | refine C_condT rfl obQ ?_
 | refine C_condF rfl obQ ?_
 | (refine C_cond rfl obQ (fun h => ?_) (fun h => ?_) <;> (try simp only [Bool.or_eq_true, Bool.and_eq_true, Bool.or_eq_false_iff, Bool.and_eq_false_iff, decide_eq_true_eq, decide_eq_false_iff_not, beq_iff_eq, bne_iff_ne, beq_eq_false_iff_ne, bne_eq_false_iff_eq, ne_eq, Decidable.not_not, List.cons.injEq, and_true, Bool.not_eq_true', Bool.not_eq_false', Int.not_lt, Int.not_le] at h) <;> (try (exfalso; omega)) <;> (try (exfalso; simp at h; done)) <;> (try (exfalso; simp only [not_true_eq_false, false_or, or_false] at h; omega)) <;> (try contradiction) <;> (try (exfalso; omega)))
         )
 | (refine S_id ?_; first
 | ((with_reducible (first | refine S_falseN ?_ ?_ | refine S_falseB ?_ ?_ | refine S_falseL ?_ ?_ | refine S_falseD ?_ ?_ | refine S_falseE ?_ ?_)); · (first | rfl | exact bne_self_eq_false _ | assumption | omega | exact decide_eq_false (by omega) | (simp only [bne_eq_false_iff_eq]; first | assumption | omega) | (rw [beq_eq_false_iff_ne]; first | assumption | omega)))
 | ((with_reducible refine S_falseO ?_ ?_ ?_); (· rfl); (· first | rfl | (first | rfl | exact bne_self_eq_false _ | assumption | omega | exact decide_eq_false (by omega) | (simp only [bne_eq_false_iff_eq]; first | assumption | omega) | (rw [beq_eq_false_iff_ne]; first | assumption | omega))))
 | ((with_reducible (first | refine S_trueE ?_ ?_ | refine S_trueB ?_ ?_ | refine S_trueL ?_ ?_ | refine S_trueD ?_ ?_ | refine S_trueN ?_ ?_)); · (first | exact beq_self_eq_true _ | rfl | omega | exact decide_eq_true (by omega) | (simp only [bne_iff_ne, ne_eq]; first | assumption | omega) | (rw [beq_iff_eq]; first | assumption | omega)))
 | refine S_unG rfl rfl rfl rfl ?_
 | refine S_pure (binX_pure rfl obQ (fun w => neqM (by kernel_rfl) _ _ w)) ?_
 | refine S_load rfl obQ rfl [.int .i64 (gI (lsR s (tpL x3) nb) (k))] (.past (w2L, fun b => w1L.heap.size ≤ b ∧ b < w2L.heap.size) memQ _ _ hSL _ _ rfl rfl (gI_idxZ (k := k) rfl hlt)) rfl (.inr ⟨rfl, rfl⟩) ?_
 | refine S_load rfl obQ rfl [.int .i64 (4 * gI (lsR s (tpL x3) nb) k)] (.past (w2N, fun b => w1N.heap.size ≤ b ∧ b < w2N.heap.size) memQ _ _ hSN _ _ rfl rfl (four_idx hlt)) rfl (.inr ⟨rfl, rfl⟩) ?_
 | refine S_nil ?_
 | refine S_runN rfl rfl obQ obQ ?_
 | refine S_call (f := 83) rfl obQ (by kernel_rfl) (fun w hw => mhas_as hu rfl hlu (hw.rdm hSU memQ)) ?_
         )
 | (refine D_id ?_; first
 | refine D_offG (.v (.bool false)) rfl rfl rfl rfl hgf ?_
 | refine D_nil ?_
 | refine D_run rfl rfl obQ obQ ?_
 | refine D_one rfl obQ ?_
         )
 | (refine G_id ?_; first
 | refine G_loop (k + 1, n5 + 1) (by dsimp only; exact ⟨by omega, by omega⟩) (by show (lsR s (tpL x3) nb).length - (k + 1) < (lsR s (tpL x3) nb).length - k; omega) ⟨⟨_, rfl, obQ⟩, ⟨_, rfl⟩, rfl, psQ⟩
 | refine G_then ?_
 | refine G_block ?_
         )
         )
      · have hct : (ldF (lsR s (tpL x3) nb) 0 (k + 1)).length = (ldF (lsR s (tpL x3) nb) 0 k).length := by rw [ldF_f hp]
        have hu : (ldF (lsR s (tpL x3) nb) 0 (lsR s (tpL x3) nb).length).contains k = false := by
          cases h : (ldF (lsR s (tpL x3) nb) 0 (lsR s (tpL x3) nb).length).contains k
          · rfl
          · exact absurd (ld_mem.1 (List.contains_iff_mem.1 h)).2 hp
        repeat' (first
 | (refine C_id ?_; first
 | refine C_seq ?_
 | refine C_region rfl ?_
 | refine C_block ?_
 | refine C_skip ?_
 | refine C_draw (id := 57) rfl mixed (by kernel_rfl) ?_
 | refine C_condT rfl obQ ?_
 | refine C_condF rfl obQ ?_
 | (refine C_cond rfl obQ (fun h => ?_) (fun h => ?_) <;> (try simp only [Bool.or_eq_true, Bool.and_eq_true, Bool.or_eq_false_iff, Bool.and_eq_false_iff, decide_eq_true_eq, decide_eq_false_iff_not, beq_iff_eq, bne_iff_ne, beq_eq_false_iff_ne, bne_eq_false_iff_eq, ne_eq, Decidable.not_not, List.cons.injEq, and_true, Bool.not_eq_true', Bool.not_eq_false', Int.not_lt, Int.not_le] at h) <;> (try (exfalso; omega)) <;> (try (exfalso; simp at h; done)) <;> (try (exfalso; simp only [not_true_eq_false, false_or, or_false] at h; omega)) <;> (try contradiction) <;> (try (exfalso; omega)))
         )
 | (refine S_id ?_; first
 | ((with_reducible (first | refine S_falseN ?_ ?_ | refine S_falseB ?_ ?_ | refine S_falseL ?_ ?_ | refine S_falseD ?_ ?_ | refine S_falseE ?_ ?_)); · (first | rfl | exact bne_self_eq_false _ | assumption | omega | exact decide_eq_false (by omega) | (simp only [bne_eq_false_iff_eq]; first | assumption | omega) | (rw [beq_eq_false_iff_ne]; first | assumption | omega)))
 | ((with_reducible refine S_falseO ?_ ?_ ?_); (· rfl); (· first | rfl | (first | rfl | exact bne_self_eq_false _ | assumption | omega | exact decide_eq_false (by omega) | (simp only [bne_eq_false_iff_eq]; first | assumption | omega) | (rw [beq_eq_false_iff_ne]; first | assumption | omega))))
 | ((with_reducible (first | refine S_trueE ?_ ?_ | refine S_trueB ?_ ?_ | refine S_trueL ?_ ?_ | refine S_trueD ?_ ?_ | refine S_trueN ?_ ?_)); · (first | exact beq_self_eq_true _ | rfl | omega | exact decide_eq_true (by omega) | (simp only [bne_iff_ne, ne_eq]; first | assumption | omega) | (rw [beq_iff_eq]; first | assumption | omega)))
 | refine S_unG rfl rfl rfl rfl ?_
 | refine S_pure (binX_pure rfl obQ (fun w => neqM (by kernel_rfl) _ _ w)) ?_
 | refine S_load rfl obQ rfl [.int .i64 (gI (lsR s (tpL x3) nb) (k))] (.past (w2L, fun b => w1L.heap.size ≤ b ∧ b < w2L.heap.size) memQ _ _ hSL _ _ rfl rfl (gI_idxZ (k := k) rfl hlt)) rfl (.inr ⟨rfl, rfl⟩) ?_
 | refine S_load rfl obQ rfl [.int .i64 (4 * gI (lsR s (tpL x3) nb) k)] (.past (w2N, fun b => w1N.heap.size ≤ b ∧ b < w2N.heap.size) memQ _ _ hSN _ _ rfl rfl (four_idx hlt)) rfl (.inr ⟨rfl, rfl⟩) ?_
 | refine S_nil ?_
 | refine S_runN rfl rfl obQ obQ ?_
 | refine S_call (f := 83) rfl obQ (by kernel_rfl) (fun w hw => mhas_as hu rfl hlu (hw.rdm hSU memQ)) ?_
         )
 | (refine D_id ?_; first
 | refine D_offG (.v (.bool false)) rfl rfl rfl rfl hgf ?_
 | refine D_nil ?_
 | refine D_run rfl rfl obQ obQ ?_
 | refine D_one rfl obQ ?_
         )
 | (refine G_id ?_; first
 | refine G_loop (k + 1, n5) (by dsimp only; exact ⟨by omega, by omega⟩) (by show (lsR s (tpL x3) nb).length - (k + 1) < (lsR s (tpL x3) nb).length - k; omega) ⟨⟨_, rfl, obQ⟩, ⟨_, rfl⟩, rfl, psQ⟩
 | refine G_then ?_
 | refine G_block ?_
         )
         )
  have hke2 : k = (lsR s (tpL x3) nb).length := by omega
  subst hke2
  subst hn5
  repeat' (first
 | (refine C_id ?_; first
 | refine C_seq ?_
 | refine C_region rfl ?_
 | refine C_exit ?_
 | refine C_ret0 ?_
 | refine C_condF rfl obQ ?_
 )
 | (refine S_id ?_; first
 | ((with_reducible (first | refine S_falseN ?_ ?_ | refine S_falseB ?_ ?_ | refine S_falseL ?_ ?_ | refine S_falseD ?_ ?_ | refine S_falseE ?_ ?_)); · (first | rfl | exact bne_self_eq_false _ | assumption | omega | exact decide_eq_false (by omega) | (simp only [bne_eq_false_iff_eq]; first | assumption | omega) | (rw [beq_eq_false_iff_ne]; first | assumption | omega)))
 | ((with_reducible (first | refine S_trueE ?_ ?_ | refine S_trueB ?_ ?_ | refine S_trueL ?_ ?_ | refine S_trueD ?_ ?_ | refine S_trueN ?_ ?_)); · (first | exact beq_self_eq_true _ | rfl | omega | exact decide_eq_true (by omega) | (simp only [bne_iff_ne, ne_eq]; first | assumption | omega) | (rw [beq_iff_eq]; first | assumption | omega)))
 | ((with_reducible refine S_trueA ?_ ?_ ?_); (· rfl); (· first | rfl | (first | exact beq_self_eq_true _ | rfl | omega | exact decide_eq_true (by omega) | (simp only [bne_iff_ne, ne_eq]; first | assumption | omega) | (rw [beq_iff_eq]; first | assumption | omega))))
 | refine S_unG rfl rfl rfl rfl ?_
 | refine S_nil ?_
 | refine S_runN rfl rfl obQ obQ ?_
 | refine S_call (f := 20) rfl obQ (by kernel_rfl) (fun w hw => awake_c w (hw.rdm hO.toS memQ) (Pw_at hP hw memQ)) ?_
 )
 | (refine G_id ?_; first
 | refine G_then ?_
 | refine G_blockX ?_
 | refine G_thenX ?_
 | refine G_ret rfl obQ (fun w hw => ⟨?_, hw.below⟩)
 )
 )
  all_goals rfl

end Go.Proofs.YtdbffbcobghbeaaGreatDoor
