/- Violations of a gamut: the program, the reference and the walk of the law. -/
import Derived.Test.YtdbffbcobghbeaaGreatDoorColour58
import Derived.Test.YtdbffbcobghbeaaGreatDoorColour28
import Derived.Test.YtdbffbcobghbeaaGreatDoorEngAL
import Derived.Test.YtdbffbcobghbeaaGreatDoorEngZ
namespace Go.Proofs.YtdbffbcobghbeaaGreatDoor
open Go.E Go.RowKit Go.Fl
attribute [local irreducible] G C S D Calls
set_option maxRecDepth 100000
set_option linter.unusedSimpArgs false
set_option linter.unusedVariables false

theorem pl_1 {p : Pla} (h : ¬ wi p.a (-4096) 4096 = 0) : plE p = wi p.a (-4096) 4096 := by
  have e : rowE p.a p.b p.c = wi p.a (-4096) 4096 := if_neg h
  unfold plE
  rw [e]
  exact if_neg h
theorem pl_2 {p : Pla} (h0 : wi p.a (-4096) 4096 = 0) (h : ¬ wi p.b (-4096) 4096 = 0) : plE p = wi p.b (-4096) 4096 := by
  have e : rowE p.a p.b p.c = wi p.b (-4096) 4096 := by
    show (if wi p.a (-4096) 4096 = 0 then _ else _) = _
    rw [if_pos h0]
    exact if_neg h
  unfold plE
  rw [e]
  exact if_neg h
theorem pl_3 {p : Pla} (h0 : wi p.a (-4096) 4096 = 0) (h1 : wi p.b (-4096) 4096 = 0) (h : ¬ wi p.c (-4096) 4096 = 0) : plE p = wi p.c (-4096) 4096 := by
  have e : rowE p.a p.b p.c = wi p.c (-4096) 4096 := by
    show (if wi p.a (-4096) 4096 = 0 then (if wi p.b (-4096) 4096 = 0 then _ else _) else _) = _
    rw [if_pos h0, if_pos h1]
    exact if_neg h
  unfold plE
  rw [e]
  exact if_neg h
theorem pl_4 {p : Pla} (h0 : wi p.a (-4096) 4096 = 0) (h1 : wi p.b (-4096) 4096 = 0) (h2 : wi p.c (-4096) 4096 = 0) : plE p = wi p.m (-1099511627776) 1099511627776 := by
  have e : rowE p.a p.b p.c = 0 := by
    show (if wi p.a (-4096) 4096 = 0 then (if wi p.b (-4096) 4096 = 0 then (if wi p.c (-4096) 4096 = 0 then _ else _) else _) else _) = _
    rw [if_pos h0, if_pos h1, if_pos h2]
    rfl
  unfold plE
  rw [e]
  show (if (0 : Int) = 0 then (if wi p.m (-1099511627776) 1099511627776 = 0 then firstL [] else _) else _) = _
  rw [if_pos rfl]
  split
  · rename_i h; rw [h]; rfl
  · rfl
theorem pl_drop {g : List Pla} {k : Nat} (h : k < g.length) : firstL ((g.map plE).drop k) = if plE (gPl g k) = 0 then firstL ((g.map plE).drop (k + 1)) else plE (gPl g k) := by
  rw [firstL_drop (by simpa using h), List.getElem_map, gPl_at h]
theorem idxN {α : Type} {f : α → List Value} {s : Nat} {l : List α} (hf : ∀ x, (f x).length = s) {k : Nat} (h : k < l.length) {vs : List Value} (o : Nat) (hv : ∀ j u, vs[j]? = some u → (f l[k])[o + j]? = some u) : ∀ (j : Nat) (u : Value), vs[j]? = some u → (l.flatMap f)[((k : Int).toNat * s + o) + j]? = some u := by
  intro j u hu
  have h1 := hv j u hu
  have := idxS (f := f) hf h (o + j) u h1
  rw [← this]
  congr 1
  omega
theorem pl_nm {g : List Pla} {k : Nat} (h : k < g.length) : ∀ (j : Nat) (u : Value), ([.int .i64 (gPl g k).a, .int .i64 (gPl g k).b, .int .i64 (gPl g k).c] : List Value)[j]? = some u → (g.flatMap plC)[((k : Int).toNat * 4 + 0) + j]? = some u := by
  rw [gPl_at h]
  exact idxN (f := plC) (fun _ => rfl) h 0 (fun j u hu => by rcases j with _ | _ | _ | j <;> simp [plC] at hu ⊢ <;> exact hu)
theorem pl_at {g : List Pla} {k : Nat} (h : k < g.length) (o : Nat) {v : Value} (hv : (plC (gPl g k))[o]? = some v) : ∀ (j : Nat) (u : Value), ([v] : List Value)[j]? = some u → (g.flatMap plC)[((k : Int).toNat * 4 + o) + j]? = some u := by
  rw [gPl_at h] at hv
  exact idxN (f := plC) (fun _ => rfl) h o (fun j u hu => by
    rcases j with _ | j
    · simp at hu
      subst hu
      exact hv
    · simp at hu)
/-- The violations among the first places. -/
def viF (g : List Pla) (x y z : Pic) (k : Nat) : List Pt := ((List.range k).filter fun i => decide (fbF g (plA x y z i) ≠ -1)).map fun (i : Nat) => ((i : Int), fbF g (plA x y z i))
theorem viF_t {g : List Pla} {x y z : Pic} {k : Nat} (h : ¬ fbF g (plA x y z k) = -1) : viF g x y z (k + 1) = viF g x y z k ++ [((k : Int), fbF g (plA x y z k))] := by
  unfold viF
  rw [List.range_succ, List.filter_append, List.map_append]
  simp [h]
theorem viF_f {g : List Pla} {x y z : Pic} {k : Nat} (h : fbF g (plA x y z k) = -1) : viF g x y z (k + 1) = viF g x y z k := by
  unfold viF
  rw [List.range_succ, List.filter_append, List.map_append]
  simp [h]
theorem viF_len (g : List Pla) (x y z : Pic) (k : Nat) : (viF g x y z k).length ≤ k := by
  unfold viF
  rw [List.length_map]
  have := List.length_filter_le (fun i => decide (fbF g (plA x y z i) ≠ -1)) (List.range k)
  simpa using this
def viO (g : List Pla) (pre : List OPl) : List Pt := (pre.filter fun q => decide (fbF g q.c ≠ -1)).map fun q => ((q.i : Int), fbF g q.c)
theorem viO_t {g : List Pla} {pre : List OPl} {q : OPl} (h : ¬ fbF g q.c = -1) : viO g (pre ++ [q]) = viO g pre ++ [((q.i : Int), fbF g q.c)] := by
  unfold viO
  rw [List.filter_append, List.map_append]
  simp [h]
theorem viO_f {g : List Pla} {pre : List OPl} {q : OPl} (h : fbF g q.c = -1) : viO g (pre ++ [q]) = viO g pre := by
  unfold viO
  rw [List.filter_append, List.map_append]
  simp [h]
theorem viO_len (g : List Pla) (pre : List OPl) : (viO g pre).length ≤ pre.length := by
  unfold viO
  rw [List.length_map]
  exact List.length_filter_le _ _
theorem viO_eq {g : List Pla} {x y z : Pic} (ht : ThOk x y z) : viO g (plL x y z) = viF g x y z x.s.length := by
  unfold viO viF plL
  rw [List.filter_map, List.map_map]
  have e : ∀ k ∈ List.range x.s.length, (toP x y z k).c = plA x y z k ∧ (toP x y z k).i = k := fun k hk => toP_c (plA_ok ht (List.mem_range.1 hk)).1
  rw [List.filter_congr (q := fun i => decide (fbF g (plA x y z i) ≠ -1)) (fun k hk => by simp only [Function.comp]; rw [(e k hk).1])]
  refine List.map_congr_left fun k hk => ?_
  have := e k (List.mem_filter.1 hk).1
  simp only [Function.comp]
  rw [this.1, this.2]
def viE (g : List Pla) (x y z : Pic) : Int := firstL [gmE g, thE x y z]
theorem viE_ok {g : List Pla} {x y z : Pic} (h : viE g x y z = 0) : gmE g = 0 ∧ ThOk x y z := by
  unfold viE at h
  rw [firstL_zero] at h
  simp only [List.mem_cons, List.mem_nil_iff, or_false, forall_eq_or_imp, forall_eq, th_ok] at h
  exact h
theorem ptC_snoc (l : List Pt) (a b : Int) : (l ++ [(a, b)]).flatMap ptC = l.flatMap ptC ++ [.int .i64 a, .int .i64 b] := by rw [List.flatMap_append]; rfl

set_option maxHeartbeats 1000000 in
/-- genlockref02.CheckGamut -/
theorem rCheckGamut_c (A : Option Addr) (c : Nat) (g : List Pla) (hg : g.length ≤ 1000000) (w : World) (hr : Rd w A (g.flatMap plC)) : Calls Tryz.prog 89 #[.slice A g.length c] w fun r w' => r = .returned (.int .i64 (gmE g)) ∧ Below w.heap.size w w' := by
  refine calls_of (args := [.slice A g.length c]) T_ok Tryz.func89 rfl Tryz.ntmps89 (Nat.le_of_ble_eq_true rfl) rfl ?_
  repeat' (first
 | (refine C_id ?_; first
 | refine C_seq ?_
 | refine C_region rfl ?_
 | refine C_block ?_
 | refine C_skip ?_
 | refine C_ret0 ?_
 | (refine C_cond rfl obQ (fun h => ?_) (fun h => ?_) <;> (try simp only [Bool.or_eq_true, Bool.and_eq_true, Bool.or_eq_false_iff, Bool.and_eq_false_iff, decide_eq_true_eq, decide_eq_false_iff_not, beq_iff_eq, bne_iff_ne, beq_eq_false_iff_ne, bne_eq_false_iff_eq, ne_eq, Decidable.not_not, List.cons.injEq, and_true, Bool.not_eq_true', Bool.not_eq_false', Int.not_lt, Int.not_le] at h))
 )
 | (refine S_id ?_; first
 | refine S_nil ?_
 | refine S_run rfl rfl obQ obQ ?_
 )
 | (refine G_id ?_; first
 | refine G_then ?_
 | refine G_thenR ?_
 | refine G_ret rfl obQ (fun w hw => ⟨?_, hw.below⟩)
 )
 )
  · exact rI (gmE_1 (by omega)).symm
  have hP := gmE_2 (g := g) (by omega)
  refine C_loopS (fun k : Nat => ⟨[(3, .s (.v (.int .i64 k))), (0, .s (.v (.slice A g.length c)))], [], []⟩) (fun k => k ≤ g.length ∧ gmE g = firstL ((g.map plE).drop k)) (fun k => g.length - k) 0 ⟨Nat.zero_le _, hP⟩ ?_ (fun k hk => ?_)
  · exact ⟨⟨_, rfl, obQ⟩, ⟨_, rfl⟩, rfl, pstQ⟩
  by_cases hlt : k < g.length
  · obtain ⟨ad, rfl⟩ := hr.some (by rw [pl_len]; omega)
    have hfd := pl_drop hlt
    repeat' (first
 | (refine C_id ?_; first
 | refine C_rounds 3 ?_
 | refine C_seq ?_
 | refine C_region rfl ?_
 | refine C_block ?_
 | refine C_skip ?_
 | refine C_exit ?_
 | refine C_ret0 ?_
 | refine C_condT rfl obQ ?_
 | refine C_condF rfl obQ ?_
 | (refine C_cond rfl obQ (fun h => ?_) (fun h => ?_) <;> (try simp only [Bool.or_eq_true, Bool.and_eq_true, Bool.or_eq_false_iff, Bool.and_eq_false_iff, decide_eq_true_eq, decide_eq_false_iff_not, beq_iff_eq, bne_iff_ne, beq_eq_false_iff_ne, bne_eq_false_iff_eq, ne_eq, Decidable.not_not, List.cons.injEq, and_true, Bool.not_eq_true', Bool.not_eq_false', Int.not_lt, Int.not_le] at h) <;> (try (exfalso; omega)))
     )
 | (refine S_id ?_; first
 | refine S_load rfl obQ rfl [.int .i64 (gPl g k).a] (.past _ memQ _ _ hr.toS ((k : Int).toNat * 4 + 0) _ rfl (by first | (simp only [add_of_add]; done) | (simp only [add_of_add]; rfl)) (pl_at hlt 0 rfl)) rfl (.inr ⟨rfl, rfl⟩) ?_
 | refine S_load rfl obQ rfl [.int .i64 (gPl g k).b] (.past _ memQ _ _ hr.toS ((k : Int).toNat * 4 + 1) _ rfl (by first | (simp only [add_of_add]; done) | (simp only [add_of_add]; rfl)) (pl_at hlt 1 rfl)) rfl (.inr ⟨rfl, rfl⟩) ?_
 | refine S_load rfl obQ rfl [.int .i64 (gPl g k).c] (.past _ memQ _ _ hr.toS ((k : Int).toNat * 4 + 2) _ rfl (by first | (simp only [add_of_add]; done) | (simp only [add_of_add]; rfl)) (pl_at hlt 2 rfl)) rfl (.inr ⟨rfl, rfl⟩) ?_
 | refine S_load rfl obQ rfl [.int .i64 (gPl g k).m] (.past _ memQ _ _ hr.toS ((k : Int).toNat * 4 + 3) _ rfl (by first | (simp only [add_of_add]; done) | (simp only [add_of_add]; rfl)) (pl_at hlt 3 rfl)) rfl (.inr ⟨rfl, rfl⟩) ?_
 | refine S_nil ?_
 | refine S_run rfl rfl obQ obQ ?_
 | refine S_call (f := 29) rfl obQ (by kernel_rfl) (fun w hw => rRange_c _ _ _ w) ?_
     )
 | (refine G_id ?_; first
 | refine G_rounds (C_trim [0, 3, 4] 0 rfl rfl ?_)
 | refine G_loop (k + 1) ?_ (by omega) ⟨⟨_, rfl, obQ⟩, ⟨_, rfl⟩, rfl, pstQ⟩
 | refine G_then ?_
 | refine G_block ?_
 | refine G_blockX ?_
 | refine G_blockR ?_
 | refine G_thenR ?_
 | refine G_thenX ?_
 | refine G_ret rfl obQ (fun w hw => ⟨?_, hw.below⟩)
     )
     )
    · have e := pl_1 (by assumption)
      exact rI (by rw [hk.2, hfd, if_neg (by rw [e]; assumption), e])
    · have e := pl_2 (by assumption) (by assumption)
      exact rI (by rw [hk.2, hfd, if_neg (by rw [e]; assumption), e])
    · have e := pl_3 (by assumption) (by assumption) (by assumption)
      exact rI (by rw [hk.2, hfd, if_neg (by rw [e]; assumption), e])
    · have e := pl_4 (by assumption) (by assumption) (by assumption)
      exact rI (by rw [hk.2, hfd, if_neg (by rw [e]; assumption), e])
    · have e := pl_4 (by assumption) (by assumption) (by assumption)
      exact ⟨by omega, by rw [hk.2, hfd, if_pos (by rw [e]; assumption)]⟩
  · obtain rfl : k = g.length := by omega
    repeat' (first
 | (refine C_id ?_; first
 | refine C_seq ?_
 | refine C_region rfl ?_
 | refine C_exit ?_
 | refine C_ret0 ?_
 | (refine C_cond rfl obQ (fun h => ?_) (fun h => ?_) <;> (try simp only [Bool.or_eq_true, Bool.and_eq_true, Bool.or_eq_false_iff, Bool.and_eq_false_iff, decide_eq_true_eq, decide_eq_false_iff_not, beq_iff_eq, bne_iff_ne, beq_eq_false_iff_ne, bne_eq_false_iff_eq, ne_eq, Decidable.not_not, List.cons.injEq, and_true, Bool.not_eq_true', Bool.not_eq_false', Int.not_lt, Int.not_le] at h) <;> (try (exfalso; omega)))
     )
 | (refine S_id ?_; first
 | refine S_nil ?_
 | refine S_run rfl rfl obQ obQ ?_
     )
 | (refine G_id ?_; first
 | refine G_then ?_
 | refine G_blockX ?_
 | refine G_thenX ?_
 | refine G_ret rfl obQ (fun w hw => ⟨?_, hw.below⟩)
     )
     )
    exact rI (by rw [hk.2, List.drop_of_length_le (by simp)]; rfl)

set_option maxHeartbeats 1000000 in
/-- genlockref02.Forbidden -/
theorem rForbidden_c (A : Option Addr) (c : Nat) (g : List Pla) (x : Col) (hg : gmE g = 0) (hx : ColOk x) (w : World) (hr : Rd w A (g.flatMap plC)) : Calls Tryz.prog 90 #[.slice A g.length c, .agg #[.int .i64 x.1, .int .i64 x.2.1, .int .i64 x.2.2]] w fun r w' => r = .returned (.int .i64 (fbF g x)) ∧ Below w.heap.size w w' := by
  refine calls_of (args := [.slice A g.length c, .agg #[.int .i64 x.1, .int .i64 x.2.1, .int .i64 x.2.2]]) T_ok Tryz.func90 rfl Tryz.ntmps90 (Nat.le_of_ble_eq_true rfl) rfl ?_
  obtain ⟨hg1, hg2⟩ := gmE_ok.1 hg
  obtain ⟨hx1, hx2, hx3⟩ := hx
  repeat' (first
 | (refine C_id ?_; first
 | refine C_seq ?_
 | refine C_region rfl ?_
 | refine C_block ?_
   )
 | (refine S_id ?_; first
 | refine S_nil ?_
 | refine S_run rfl rfl obQ obQ ?_
 | refine S_box (fun b => ⟨_, _, rfl, obQ, ?_⟩)
   )
 | (refine G_id ?_; first
 | refine G_then ?_
   )
   )
  obtain ⟨b3, rfl⟩ : ∃ z, z = b := ⟨b, rfl⟩
  refine C_loopS (fun k : Nat => ⟨[(5, .s (.v (.int .i64 k))), (0, .s (.v (.slice A g.length c))), (3, .s (.p b3 0 0))], [⟨b3, 50, [.v (.int .i64 x.1), .v (.int .i64 x.2.1), .v (.int .i64 x.2.2)]⟩], []⟩) (fun k => k ≤ g.length ∧ ∀ j, j < k → offB (gPl g j) x = false) (fun k => g.length - k) 0 ⟨Nat.zero_le _, fun j hj => absurd hj (Nat.not_lt_zero j)⟩ ?_ (fun k hk => ?_)
  · exact ⟨⟨_, rfl, obQ⟩, ⟨_, rfl⟩, rfl, pstQ⟩
  by_cases hlt : k < g.length
  · obtain ⟨ad, rfl⟩ := hr.some (by rw [pl_len]; omega)
    have hp := hg2 _ (gPl_mem hlt)
    have ha := hp.a
    have hb := hp.b
    have hc := hp.c
    have m1 := mul_ab ha hx1
    have m2 := mul_ab hb hx2
    have m3 := mul_ab hc hx3
    cases ho : offB (gPl g k) x
    · have ho' : ¬ (gPl g k).m < dotF (gPl g k).a (gPl g k).b (gPl g k).c x.1 x.2.1 x.2.2 := of_decide_eq_false ho
      unfold dotF at ho'
      repeat' (first
 | (refine C_id ?_; first
 | refine C_seq ?_
 | refine C_region rfl ?_
 | refine C_block ?_
 | refine C_skip ?_
 | refine C_draw (id := 5) rfl mixed (by kernel_rfl) ?_
 | (refine C_cond rfl obQ (fun h => ?_) (fun h => ?_) <;> (try simp only [Bool.or_eq_true, Bool.and_eq_true, Bool.or_eq_false_iff, Bool.and_eq_false_iff, decide_eq_true_eq, decide_eq_false_iff_not, beq_iff_eq, bne_iff_ne, beq_eq_false_iff_ne, bne_eq_false_iff_eq, ne_eq, Decidable.not_not, List.cons.injEq, and_true, Bool.not_eq_true', Bool.not_eq_false', Int.not_lt, Int.not_le] at h) <;> (try (exfalso; omega)) <;> (try (exfalso; simp at h; done)) <;> (try (exfalso; simp only [not_true_eq_false, false_or, or_false] at h; omega)) <;> (try (exfalso; omega)))
       )
 | (refine S_id ?_; first
 | refine S_load rfl obQ rfl [.int .i64 (gPl g k).a, .int .i64 (gPl g k).b, .int .i64 (gPl g k).c] (.past _ memQ _ _ hr.toS ((k : Int).toNat * 4 + 0) _ rfl (by first | (simp only [add_of_add]; done) | (simp only [add_of_add]; rfl)) (pl_nm hlt)) rfl (.inl ⟨rfl, rfl⟩) ?_
 | refine S_nil ?_
 | refine S_run rfl rfl obQ obQ ?_
 | refine S_box (fun b0 => ⟨_, _, rfl, obQ, ?_⟩)
       )
 | (refine D_id ?_; first
 | refine D_load rfl obQ rfl [.int .i64 (gPl g k).m] (.past _ memQ _ _ hr.toS ((k : Int).toNat * 4 + 3) _ rfl (by first | (simp only [add_of_add]; done) | (simp only [add_of_add]; rfl)) (pl_at hlt 3 rfl)) rfl (.inr ⟨rfl, rfl⟩) ?_
 | refine D_nil ?_
 | refine D_run rfl rfl obQ obQ ?_
       )
 | (refine G_id ?_; first
 | refine G_loop (k + 1) ⟨by omega, fun j hj => (Nat.lt_or_ge j k).elim (hk.2 j) (fun h1 => by have e : j = k := (by omega); rw [e]; exact ho)⟩ (by omega) ⟨⟨_, rfl, obQ⟩, ⟨_, rfl⟩, rfl, pstQ⟩
 | refine G_then ?_
 | refine G_block ?_
       )
       )
    · have ho' : (gPl g k).m < dotF (gPl g k).a (gPl g k).b (gPl g k).c x.1 x.2.1 x.2.2 := of_decide_eq_true ho
      rw [fb_at hlt hk.2 ho]
      unfold dotF at ho'
      repeat' (first
 | (refine C_id ?_; first
 | refine C_seq ?_
 | refine C_region rfl ?_
 | refine C_block ?_
 | refine C_skip ?_
 | refine C_ret0 ?_
 | refine C_draw (id := 5) rfl mixed (by kernel_rfl) ?_
 | (refine C_cond rfl obQ (fun h => ?_) (fun h => ?_) <;> (try simp only [Bool.or_eq_true, Bool.and_eq_true, Bool.or_eq_false_iff, Bool.and_eq_false_iff, decide_eq_true_eq, decide_eq_false_iff_not, beq_iff_eq, bne_iff_ne, beq_eq_false_iff_ne, bne_eq_false_iff_eq, ne_eq, Decidable.not_not, List.cons.injEq, and_true, Bool.not_eq_true', Bool.not_eq_false', Int.not_lt, Int.not_le] at h) <;> (try (exfalso; omega)) <;> (try (exfalso; simp at h; done)) <;> (try (exfalso; simp only [not_true_eq_false, false_or, or_false] at h; omega)) <;> (try (exfalso; omega)))
       )
 | (refine S_id ?_; first
 | refine S_load rfl obQ rfl [.int .i64 (gPl g k).a, .int .i64 (gPl g k).b, .int .i64 (gPl g k).c] (.past _ memQ _ _ hr.toS ((k : Int).toNat * 4 + 0) _ rfl (by first | (simp only [add_of_add]; done) | (simp only [add_of_add]; rfl)) (pl_nm hlt)) rfl (.inl ⟨rfl, rfl⟩) ?_
 | refine S_nil ?_
 | refine S_run rfl rfl obQ obQ ?_
 | refine S_box (fun b0 => ⟨_, _, rfl, obQ, ?_⟩)
       )
 | (refine D_id ?_; first
 | refine D_load rfl obQ rfl [.int .i64 (gPl g k).m] (.past _ memQ _ _ hr.toS ((k : Int).toNat * 4 + 3) _ rfl (by first | (simp only [add_of_add]; done) | (simp only [add_of_add]; rfl)) (pl_at hlt 3 rfl)) rfl (.inr ⟨rfl, rfl⟩) ?_
 | refine D_nil ?_
 | refine D_run rfl rfl obQ obQ ?_
       )
 | (refine G_id ?_; first
 | refine G_then ?_
 | refine G_blockR ?_
 | refine G_thenR ?_
 | refine G_ret rfl obQ (fun w hw => ⟨?_, hw.below⟩)
       )
       )
      all_goals rfl
  · obtain rfl : k = g.length := by omega
    rw [fb_none hk.2]
    repeat' (first
 | (refine C_id ?_; first
 | refine C_seq ?_
 | refine C_region rfl ?_
 | refine C_exit ?_
 | refine C_ret0 ?_
 | (refine C_cond rfl obQ (fun h => ?_) (fun h => ?_) <;> (try simp only [Bool.or_eq_true, Bool.and_eq_true, Bool.or_eq_false_iff, Bool.and_eq_false_iff, decide_eq_true_eq, decide_eq_false_iff_not, beq_iff_eq, bne_iff_ne, beq_eq_false_iff_ne, bne_eq_false_iff_eq, ne_eq, Decidable.not_not, List.cons.injEq, and_true, Bool.not_eq_true', Bool.not_eq_false', Int.not_lt, Int.not_le] at h) <;> (try (exfalso; omega)))
     )
 | (refine S_id ?_; first
 | refine S_nil ?_
 | refine S_run rfl rfl obQ obQ ?_
     )
 | (refine G_id ?_; first
 | refine G_then ?_
 | refine G_blockX ?_
 | refine G_thenX ?_
 | refine G_ret rfl obQ (fun w hw => ⟨?_, hw.below⟩)
     )
     )
    all_goals rfl

set_option maxHeartbeats 1000000 in
/-- genlockref02.Violations -/
theorem rViolations_c (A : Option Addr) (c : Nat) (g : List Pla) (hg : gmE g = 0) (x y z : Pic) (ax ay az : Addr) (cx cy cz : Nat) (ht : ThOk x y z) (w : World) (hr : Rd w A (g.flatMap plC)) (hrx : Rd w (some ax) (x.s.map (.float .f32))) (hry : Rd w (some ay) (y.s.map (.float .f32))) (hrz : Rd w (some az) (z.s.map (.float .f32))) : Calls Tryz.prog 91 #[.slice A g.length c, .agg #[.string x.nm, .int .i64 x.w, .int .i64 x.h, .slice (some ax) x.s.length cx, .string y.nm, .int .i64 y.w, .int .i64 y.h, .slice (some ay) y.s.length cy, .string z.nm, .int .i64 z.w, .int .i64 z.h, .slice (some az) z.s.length cz]] w fun r w' => ∃ v, r = .returned v ∧ Below w.heap.size w w' ∧ Sl w w' v (viF g x y z x.s.length).length ((viF g x y z x.s.length).flatMap ptC) := by
  refine calls_of (args := [.slice A g.length c, .agg #[.string x.nm, .int .i64 x.w, .int .i64 x.h, .slice (some ax) x.s.length cx, .string y.nm, .int .i64 y.w, .int .i64 y.h, .slice (some ay) y.s.length cy, .string z.nm, .int .i64 z.w, .int .i64 z.h, .slice (some az) z.s.length cz]]) T_ok Tryz.func91 rfl Tryz.ntmps91 (Nat.le_of_ble_eq_true rfl) rfl ?_
  obtain ⟨h4, h0⟩ := pic_len ht.px
  have hsx : x.s.length ≤ 1000000 := by omega
  repeat' (first
 | (refine C_id ?_; first
 | refine C_seq ?_
 | refine C_regionNe 2 rfl rfl ?_
   )
 | (refine S_id ?_; first
 | refine S_nil ?_
 | refine S_run rfl rfl obQ obQ ?_
 | refine S_box (fun b => ⟨_, _, rfl, obQ, ?_⟩)
   )
 | (refine G_id ?_; first
 | refine G_then ?_
   )
   )
  obtain ⟨b3, rfl⟩ : ∃ z, z = b := ⟨b, rfl⟩
  refine C_row0 5 154 2 rfl ?_
  repeat' (first
 | (refine C_id ?_; first
 | refine C_seq ?_
 | refine C_region rfl ?_
 | refine C_block ?_
   )
 | (refine S_id ?_; first
 | refine S_nil ?_
 | refine S_run rfl rfl obQ obQ ?_
   )
 | (refine G_id ?_; first
 | refine G_then ?_
   )
   )
  refine C_loopS (fun i : Nat × Option Addr × Nat => ⟨[(5, .s (.r i.2.1 (viF g x y z i.1).length i.2.2 0)), (6, .s (.v (.int .i64 i.1))), (0, .s (.v (.slice A g.length c))), (3, .s (.p b3 0 0))], [⟨b3, 106, [.v (.string x.nm), .v (.int .i64 x.w), .v (.int .i64 x.h), .v (.slice (some ax) x.s.length cx), .v (.string y.nm), .v (.int .i64 y.w), .v (.int .i64 y.h), .v (.slice (some ay) y.s.length cy), .v (.string z.nm), .v (.int .i64 z.w), .v (.int .i64 z.h), .v (.slice (some az) z.s.length cz)]⟩], [⟨154, 2, (viF g x y z i.1).length, (viF g x y z i.1).flatMap ptC, .slice i.2.1 (viF g x y z i.1).length i.2.2⟩]⟩) (fun i => i.1 ≤ x.s.length) (fun i => x.s.length - i.1) (0, none, 0) (Nat.zero_le _) ?_ (fun i hi => ?_)
  · exact ⟨⟨_, rfl, obQ⟩, ⟨_, rfl⟩, rfl, pstQ⟩
  obtain ⟨k, A', c'⟩ := i
  have hk : k ≤ x.s.length := hi
  dsimp only
  have hvl := viF_len g x y z k
  by_cases hlt : k < x.s.length
  · obtain ⟨hok, _⟩ := plA_ok ht hlt
    by_cases hfb : fbF g (plA x y z k) = -1
    · have hsn := viF_f hfb
      repeat' (first
 | (refine C_id ?_; first
 | refine C_seq ?_
 | refine C_region rfl ?_
 | refine C_block ?_
 | refine C_skip ?_
 | (refine C_cond rfl obQ (fun h => ?_) (fun h => ?_) <;> (try simp only [Bool.or_eq_true, Bool.and_eq_true, Bool.or_eq_false_iff, Bool.and_eq_false_iff, decide_eq_true_eq, decide_eq_false_iff_not, beq_iff_eq, bne_iff_ne, beq_eq_false_iff_ne, bne_eq_false_iff_eq, ne_eq, Decidable.not_not, List.cons.injEq, and_true, Bool.not_eq_true', Bool.not_eq_false', Int.not_lt, Int.not_le] at h) <;> (try (exfalso; omega)) <;> (try (exfalso; simp at h; done)) <;> (try (exfalso; simp only [not_true_eq_false, false_or, or_false] at h; omega)) <;> (try (exfalso; omega)))
       )
 | (refine S_id ?_; first
 | refine S_nil ?_
 | refine S_run rfl rfl obQ obQ ?_
 | refine S_call (f := 100) rfl obQ (by kernel_rfl) (fun w hw => rColour_c x y z ax ay az cx cy cz ht k hlt hsx w (hw.rdm hrx.toS memQ) (hw.rdm hry.toS memQ) (hw.rdm hrz.toS memQ)) ?_
 | refine S_call (f := 90) rfl obQ (by kernel_rfl) (fun w hw => rForbidden_c A c g (plA x y z k) hg hok w (hw.rdm hr.toS memQ)) ?_
       )
 | (refine G_id ?_; first
 | refine G_loop (k + 1, A', c') (show k + 1 ≤ x.s.length by omega) (by show x.s.length - (k + 1) < x.s.length - k; omega) (by dsimp only; rw [hsn]; exact ⟨⟨_, rfl, obQ⟩, ⟨_, rfl⟩, rfl, pstQ⟩)
 | refine G_then ?_
 | refine G_block ?_
       )
       )
    · have hsn := viF_t hfb
      have hge : 0 ≤ fbF g (plA x y z k) := by
        unfold fbF at hfb ⊢
        split at hfb
        · omega
        · exact absurd rfl hfb
      repeat' (first
 | (refine C_id ?_; first
 | refine C_seq ?_
 | refine C_region rfl ?_
 | refine C_block ?_
 | refine C_skip ?_
 | (refine C_cond rfl obQ (fun h => ?_) (fun h => ?_) <;> (try simp only [Bool.or_eq_true, Bool.and_eq_true, Bool.or_eq_false_iff, Bool.and_eq_false_iff, decide_eq_true_eq, decide_eq_false_iff_not, beq_iff_eq, bne_iff_ne, beq_eq_false_iff_ne, bne_eq_false_iff_eq, ne_eq, Decidable.not_not, List.cons.injEq, and_true, Bool.not_eq_true', Bool.not_eq_false', Int.not_lt, Int.not_le] at h) <;> (try (exfalso; omega)) <;> (try (exfalso; simp at h; done)) <;> (try (exfalso; simp only [not_true_eq_false, false_or, or_false] at h; omega)) <;> (try (exfalso; omega)))
       )
 | (refine S_id ?_; first
 | refine S_append rfl obQ rfl rfl rfl ⟨by decide, rfl⟩ rfl ⟨rfl, rfl, rfl, rfl⟩ [.int .i64 (k : Int), .int .i64 (fbF g (plA x y z k))] ⟨by decide, rfl⟩ (by simp [Value.oneCell']) (fun w hw => by first | exact hw.src (i := 0) rfl rfl | exact hw.src (i := 1) rfl rfl | exact hw.src (i := 2) rfl rfl | exact hw.src (i := 3) rfl rfl | exact hw.src (i := 4) rfl rfl | exact hw.src (i := 5) rfl rfl | exact hw.src (i := 6) rfl rfl | exact hw.src (i := 7) rfl rfl | exact hw.src (i := 8) rfl rfl) (by unfold maxLen; dsimp only; omega) (fun gb cap' => ⟨_, rfl, ?_⟩)
 | refine S_nil ?_
 | refine S_run rfl rfl obQ obQ ?_
 | refine S_slice (fun b => ⟨_, _, rfl, obQ, ?_⟩)
 | refine S_call (f := 100) rfl obQ (by kernel_rfl) (fun w hw => rColour_c x y z ax ay az cx cy cz ht k hlt hsx w (hw.rdm hrx.toS memQ) (hw.rdm hry.toS memQ) (hw.rdm hrz.toS memQ)) ?_
 | refine S_call (f := 90) rfl obQ (by kernel_rfl) (fun w hw => rForbidden_c A c g (plA x y z k) hg hok w (hw.rdm hr.toS memQ)) ?_
       )
 | (refine G_id ?_; first
 | refine G_loop (k + 1, some ⟨gb, 0, none⟩, cap') (show k + 1 ≤ x.s.length by omega) (by show x.s.length - (k + 1) < x.s.length - k; omega) (by dsimp only; rw [hsn, List.length_append, ptC_snoc]; exact ⟨⟨_, rfl, obQ⟩, ⟨_, rfl⟩, rfl, pstQ⟩)
 | refine G_then ?_
 | refine G_block ?_
       )
       )
  · obtain rfl : k = x.s.length := by omega
    repeat' (first
 | (refine C_id ?_; first
 | refine C_seq ?_
 | refine C_region rfl ?_
 | refine C_exit ?_
 | refine C_ret0 ?_
 | (refine C_cond rfl obQ (fun h => ?_) (fun h => ?_) <;> (try simp only [Bool.or_eq_true, Bool.and_eq_true, Bool.or_eq_false_iff, Bool.and_eq_false_iff, decide_eq_true_eq, decide_eq_false_iff_not, beq_iff_eq, bne_iff_ne, beq_eq_false_iff_ne, bne_eq_false_iff_eq, ne_eq, Decidable.not_not, List.cons.injEq, and_true, Bool.not_eq_true', Bool.not_eq_false', Int.not_lt, Int.not_le] at h) <;> (try (exfalso; omega)) <;> (try (exfalso; simp at h; done)) <;> (try (exfalso; simp only [not_true_eq_false, false_or, or_false] at h; omega)) <;> (try (exfalso; omega)))
     )
 | (refine S_id ?_; first
 | refine S_nil ?_
 | refine S_run rfl rfl obQ obQ ?_
     )
 | (refine G_id ?_; first
 | refine G_then ?_
 | refine G_blockX ?_
 | refine G_thenX ?_
 | refine G_ret rfl obQ (fun w2 hw => ⟨_, rfl, hw.below, HW.rowSl (i := 0) hw rfl rfl rfl rfl⟩)
     )
     )

set_option maxHeartbeats 1000000 in
/-- colour.Violations -/
theorem ViolationsE_c (A : Option Addr) (c : Nat) (g : List Pla) (hg6 : g.length ≤ 1000000) (x y z : Pic) (Ax Ay Az : Option Addr) (cx cy cz : Nat) (hsx : x.s.length ≤ 1000000) (hsy : y.s.length ≤ 1000000) (hsz : z.s.length ≤ 1000000) (hne : ¬ viE g x y z = 0) (w : World) (hr : Rd w A (g.flatMap plC)) (hrx : Rd w Ax (x.s.map (.float .f32))) (hry : Rd w Ay (y.s.map (.float .f32))) (hrz : Rd w Az (z.s.map (.float .f32))) : Calls Tryz.prog 88 #[.slice A g.length c, .agg #[.string x.nm, .int .i64 x.w, .int .i64 x.h, .slice Ax x.s.length cx, .string y.nm, .int .i64 y.w, .int .i64 y.h, .slice Ay y.s.length cy, .string z.nm, .int .i64 z.w, .int .i64 z.h, .slice Az z.s.length cz]] w fun r w' => ∃ v, r = .returned v ∧ Below w.heap.size w w' ∧ Sl2 w w' v 0 [] (.int .i64 (viE g x y z)) := by
  refine calls_ofM (args := [.slice A g.length c, .agg #[.string x.nm, .int .i64 x.w, .int .i64 x.h, .slice Ax x.s.length cx, .string y.nm, .int .i64 y.w, .int .i64 y.h, .slice Ay y.s.length cy, .string z.nm, .int .i64 z.w, .int .i64 z.h, .slice Az z.s.length cz]]) T_ok Tryz.func88 rfl Tryz.ntmps88 (Nat.le_of_ble_eq_true rfl) rfl ?_
  have hne' : ¬ firstL [gmE g, thE x y z] = 0 := hne
  repeat' (first
 | (refine C_id ?_; first
 | refine C_seq ?_
 | refine C_region rfl ?_
 | refine C_ret0 ?_
 | refine C_drawV (id := 1) 3 [(0, true), (2, true), (1, false)] rfl mixed (by kernel_rfl) rfl ?_
 | (refine C_cond rfl obQ (fun h => ?_) (fun h => ?_) <;> (try simp only [Bool.or_eq_true, Bool.and_eq_true, Bool.or_eq_false_iff, Bool.and_eq_false_iff, decide_eq_true_eq, decide_eq_false_iff_not, beq_iff_eq, bne_iff_ne, beq_eq_false_iff_ne, bne_eq_false_iff_eq, ne_eq, Decidable.not_not, List.cons.injEq, and_true, Bool.not_eq_true', Bool.not_eq_false', Int.not_lt, Int.not_le] at h) <;> (try (exfalso; omega)) <;> (try (exfalso; simp at h; done)) <;> (try (exfalso; simp only [not_true_eq_false, false_or, or_false] at h; omega)) <;> (try contradiction))
 )
 | (refine S_id ?_; first
 | refine S_nil ?_
 | refine S_run rfl rfl obQ obQ ?_
 | refine S_box (fun b => ⟨_, _, rfl, obQ, ?_⟩)
 | refine S_slice (fun b => ⟨_, _, rfl, obQ, ?_⟩)
 | refine S_call (f := 156) rfl obQ (by kernel_rfl) (fun w hw => checkGamut_c A c g hg6 w (hw.rdm hr.toS memQ)) ?_
 | refine S_call (f := 146) rfl obQ (by kernel_rfl) (fun w hw => checkThree_c x y z _ _ _ cx cy cz hsx hsy hsz w (hw.rdm hrx.toS memQ) (hw.rdm hry.toS memQ) (hw.rdm hrz.toS memQ)) ?_
 | refine S_call (f := 111) rfl obQ (by kernel_rfl) (fun w hw => cfirst_c _ _ [gmE g, thE x y z] (by simp) w (.inr ⟨_, rfl, hw.src (i := 2) rfl rfl⟩)) ?_
 )
 | (refine V_id ?_; first
 | refine V_nil ?_
 | refine V_q rfl (Yl_step rfl obQ) ?_
 | refine V_n rfl ?_
 )
 | (refine G_id ?_; first
 | refine G_V ⟨⟨_, rfl, trivial⟩, ⟨_, rfl⟩, rfl, pstQ⟩ rfl ?_
 | refine G_then ?_
 | refine G_thenR ?_
 | refine G_retD rfl obQ (DsP.nil _ _) (fun w2 hw => ⟨_, rfl, hw.below, Sl.two (v := .slice none 0 0) (Sl.nil_ _ _) rfl⟩)
 )
 )

set_option maxHeartbeats 4000000 in
/-- colour.Violations -/
theorem Violations_c (A : Option Addr) (c : Nat) (g : List Pla) (hg6 : g.length ≤ 1000000) (x y z : Pic) (ax ay az : Addr) (cx cy cz : Nat) (hsx : x.s.length ≤ 1000000) (hsy : y.s.length ≤ 1000000) (hsz : z.s.length ≤ 1000000) (hE : viE g x y z = 0) (w : World) (hr : Rd w A (g.flatMap plC)) (hrx : Rd w (some ax) (x.s.map (.float .f32))) (hry : Rd w (some ay) (y.s.map (.float .f32))) (hrz : Rd w (some az) (z.s.map (.float .f32))) : Calls Tryz.prog 88 #[.slice A g.length c, .agg #[.string x.nm, .int .i64 x.w, .int .i64 x.h, .slice (some ax) x.s.length cx, .string y.nm, .int .i64 y.w, .int .i64 y.h, .slice (some ay) y.s.length cy, .string z.nm, .int .i64 z.w, .int .i64 z.h, .slice (some az) z.s.length cz]] w fun r w' => ∃ v, r = .returned v ∧ Below w.heap.size w w' ∧ Sl2 w w' v (viF g x y z x.s.length).length ((viF g x y z x.s.length).flatMap ptC) (.int .i64 0) := by
  refine calls_ofM (args := [.slice A g.length c, .agg #[.string x.nm, .int .i64 x.w, .int .i64 x.h, .slice (some ax) x.s.length cx, .string y.nm, .int .i64 y.w, .int .i64 y.h, .slice (some ay) y.s.length cy, .string z.nm, .int .i64 z.w, .int .i64 z.h, .slice (some az) z.s.length cz]]) T_ok Tryz.func88 rfl Tryz.ntmps88 (Nat.le_of_ble_eq_true rfl) rfl ?_
  obtain ⟨hg, ht⟩ := viE_ok hE
  have hE' : firstL [gmE g, thE x y z] = 0 := hE
  obtain ⟨h4, hx0⟩ := pic_len ht.px
  have hln := ht.len
  have hbx := block_rd hrx (by simp; omega)
  have hby := block_rd hry (by simp; omega)
  have hbz := block_rd hrz (by simp; omega)
  rw [← viO_eq ht]
  repeat' (first
 | (refine C_id ?_; first
 | refine C_seq ?_
 | refine C_region rfl ?_
 | refine C_block ?_
 | refine C_skip ?_
 | refine C_drawV (id := 1) 3 [(0, true), (2, true), (1, false)] rfl mixed (by kernel_rfl) rfl ?_
 | (refine C_cond rfl obQ (fun h => ?_) (fun h => ?_) <;> (try simp only [Bool.or_eq_true, Bool.and_eq_true, Bool.or_eq_false_iff, Bool.and_eq_false_iff, decide_eq_true_eq, decide_eq_false_iff_not, beq_iff_eq, bne_iff_ne, beq_eq_false_iff_ne, bne_eq_false_iff_eq, ne_eq, Decidable.not_not, List.cons.injEq, and_true, Bool.not_eq_true', Bool.not_eq_false', Int.not_lt, Int.not_le] at h) <;> (try (exfalso; omega)) <;> (try (exfalso; simp at h; done)) <;> (try (exfalso; simp only [not_true_eq_false, false_or, or_false] at h; omega)) <;> (try contradiction))
   )
 | (refine S_id ?_; first
 | (refine S_callM (f := 148) rfl obQ (by kernel_rfl) (fun w hw => places_c x y z ax ay az cx cy cz w) (fun w1C w2C vC hw1C hbC hRC => ?_); obtain ⟨bC, rfl, hbC, hMC⟩ := hRC)
 | refine S_nil ?_
 | refine S_run rfl rfl obQ obQ ?_
 | refine S_box (fun b => ⟨_, _, rfl, obQ, ?_⟩)
 | refine S_slice (fun b => ⟨_, _, rfl, obQ, ?_⟩)
 | refine S_call (f := 156) rfl obQ (by kernel_rfl) (fun w hw => checkGamut_c A c g hg6 w (hw.rdm hr.toS memQ)) ?_
 | refine S_call (f := 146) rfl obQ (by kernel_rfl) (fun w hw => checkThree_c x y z _ _ _ cx cy cz hsx hsy hsz w (hw.rdm hrx.toS memQ) (hw.rdm hry.toS memQ) (hw.rdm hrz.toS memQ)) ?_
 | refine S_call (f := 111) rfl obQ (by kernel_rfl) (fun w hw => cfirst_c _ _ [gmE g, thE x y z] (by simp) w (.inr ⟨_, rfl, hw.src (i := 2) rfl rfl⟩)) ?_
   )
 | (refine V_id ?_; first
 | refine V_nil ?_
 | refine V_q rfl (Yl_step rfl obQ) ?_
 | refine V_n rfl ?_
   )
 | (refine G_id ?_; first
 | refine G_V ⟨⟨_, rfl, trivial⟩, ⟨_, rfl⟩, rfl, pstQ⟩ rfl ?_
 | refine G_then ?_
   )
   )
  rename_i b2 b3 bs hbC0
  obtain ⟨b7, rfl⟩ : ∃ z, z = b := ⟨b, rfl⟩
  refine C_rowB 153 2 [⟨b2, 143, [.v (.slice A g.length c)]⟩, ⟨b3, 108, [.v (.string x.nm), .v (.int .i64 x.w), .v (.int .i64 x.h), .v (.slice (some ax) x.s.length cx), .v (.string y.nm), .v (.int .i64 y.w), .v (.int .i64 y.h), .v (.slice (some ay) y.s.length cy), .v (.string z.nm), .v (.int .i64 z.w), .v (.int .i64 z.h), .v (.slice (some az) z.s.length cz)]⟩, ⟨bs, 26, [.v (.int .i64 (gmE g)), .v (.int .i64 (thE x y z))]⟩, ⟨b7, 145, [.r none 0 0 0]⟩] rfl ?_
  refine C_rangeFuncE rfl rfl obQ (by kernel_rfl) (encs := encP) (plL x y z) (fun _ => rfl) (by intro t ht; simp at ht; rcases ht with rfl | rfl <;> exact Nat.le_of_ble_eq_true rfl) (fun q => [(22, .int .i64 q.i), (23, triV q.c)]) (fun q => by simp [encP]) (fun w3 hw3 => ?_) (fun (pre : List OPl) (i : Option Addr × Nat) => ⟨[], [⟨b2, 143, [.v (.slice A g.length c)]⟩, ⟨b3, 108, [.v (.string x.nm), .v (.int .i64 x.w), .v (.int .i64 x.h), .v (.slice (some ax) x.s.length cx), .v (.string y.nm), .v (.int .i64 y.w), .v (.int .i64 y.h), .v (.slice (some ay) y.s.length cy), .v (.string z.nm), .v (.int .i64 z.w), .v (.int .i64 z.h), .v (.slice (some az) z.s.length cz)]⟩, ⟨bs, 26, [.v (.int .i64 (gmE g)), .v (.int .i64 (thE x y z))]⟩, ⟨b7, 145, [.r i.1 (viO g pre).length i.2 0]⟩], [⟨153, 2, (viO g pre).length, (viO g pre).flatMap ptC, .slice i.1 (viO g pre).length i.2⟩]⟩) (none, 0) (fun w3 hw3 => HW.same hw3 rfl rfl) (fun l L W3 pre q i hpre hwp => ?_) (fun D WD i hBD hWD hnD => ?_)
  · exact places_seq bC x y z ax ay az cx cy cz ht hsx _ ⟨(w2C, fun b => w1C.heap.size ≤ b ∧ b < w2C.heap.size), by simp, hbC⟩ ⟨(w, fun b => b < w.heap.size), by simp, hbx⟩ ⟨(w, fun b => b < w.heap.size), by simp, hby⟩ ⟨(w, fun b => b < w.heap.size), by simp, hbz⟩ w3 ⟨((hw3.past (w2C, fun b => w1C.heap.size ≤ b ∧ b < w2C.heap.size) (by simp) bC hbC).1.2).trans hMC, hw3.rdm hrx.toS memQ, hw3.rdm hry.toS memQ, hw3.rdm hrz.toS memQ⟩
  · try dsimp only
    have hpl : pre.length ≤ 1000000 := by simp [plL] at hpre; omega
    have hvl := viO_len g pre
    by_cases hfb : fbF g q.c = -1
    · have hsn := viO_f (pre := pre) hfb
      repeat' (first
 | (refine C_id ?_; first
 | refine C_seq ?_
 | refine C_region rfl ?_
 | refine C_block ?_
 | refine C_skip ?_
 | (refine C_cond rfl obQ (fun h => ?_) (fun h => ?_) <;> (try simp only [Bool.or_eq_true, Bool.and_eq_true, Bool.or_eq_false_iff, Bool.and_eq_false_iff, decide_eq_true_eq, decide_eq_false_iff_not, beq_iff_eq, bne_iff_ne, beq_eq_false_iff_ne, bne_eq_false_iff_eq, ne_eq, Decidable.not_not, List.cons.injEq, and_true, Bool.not_eq_true', Bool.not_eq_false', Int.not_lt, Int.not_le] at h) <;> (try (exfalso; omega)) <;> (try (exfalso; simp at h; done)) <;> (try (exfalso; simp only [not_true_eq_false, false_or, or_false] at h; omega)) <;> (try (exfalso; simp at h; omega)))
       )
 | (refine S_id ?_; first
 | refine S_pure (binX_pure rfl obQ (fun w => ne_flat (k := .i64) (n := 2) (xs := [(q.i : Int), fbF g q.c]) (ys := [(q.i : Int), -1]) (by kernel_rfl) rfl rfl _ _ w)) ?_
 | refine S_nil ?_
 | refine S_run rfl rfl obQ obQ ?_
 | refine S_box (fun b0 => ⟨_, _, rfl, obQ, ?_⟩)
 | refine S_call (f := 157) rfl obQ (by kernel_rfl) (fun w hw => forbids_c A c g q.c hg q.ok w (hw.rdm hr.toS memQ)) ?_
       )
 | (refine G_id ?_; first
 | refine G_assignE hwp (fun W4 hw4 => ?_)
 | refine G_roundE i (by dsimp only; rw [hsn]; exact ⟨⟨_, rfl, obQ⟩, ⟨_, rfl⟩, rfl, pstQ⟩) hw4
 | refine G_then ?_
 | refine G_block ?_
       )
       )
    · have hsn := viO_t (pre := pre) hfb
      repeat' (first
 | (refine C_id ?_; first
 | refine C_seq ?_
 | refine C_region rfl ?_
 | refine C_block ?_
 | (refine C_cond rfl obQ (fun h => ?_) (fun h => ?_) <;> (try simp only [Bool.or_eq_true, Bool.and_eq_true, Bool.or_eq_false_iff, Bool.and_eq_false_iff, decide_eq_true_eq, decide_eq_false_iff_not, beq_iff_eq, bne_iff_ne, beq_eq_false_iff_ne, bne_eq_false_iff_eq, ne_eq, Decidable.not_not, List.cons.injEq, and_true, Bool.not_eq_true', Bool.not_eq_false', Int.not_lt, Int.not_le] at h) <;> (try (exfalso; omega)) <;> (try (exfalso; simp at h; done)) <;> (try (exfalso; simp only [not_true_eq_false, false_or, or_false] at h; omega)) <;> (try (exfalso; simp at h; omega)))
       )
 | (refine S_id ?_; first
 | refine S_pure (binX_pure rfl obQ (fun w => ne_flat (k := .i64) (n := 2) (xs := [(q.i : Int), fbF g q.c]) (ys := [(q.i : Int), -1]) (by kernel_rfl) rfl rfl _ _ w)) ?_
 | refine S_append rfl obQ rfl rfl rfl ⟨by decide, rfl⟩ rfl ⟨rfl, rfl, rfl, rfl⟩ [.int .i64 (q.i : Int), .int .i64 (fbF g q.c)] ⟨by decide, rfl⟩ (by simp [Value.oneCell']) (fun w hw => by first | exact hw.src (i := 0) rfl rfl | exact hw.src (i := 1) rfl rfl | exact hw.src (i := 2) rfl rfl | exact hw.src (i := 3) rfl rfl | exact hw.src (i := 4) rfl rfl | exact hw.src (i := 5) rfl rfl | exact hw.src (i := 6) rfl rfl | exact hw.src (i := 7) rfl rfl | exact hw.src (i := 8) rfl rfl) (by unfold maxLen; dsimp only; omega) (fun gb cap' => ⟨_, rfl, ?_⟩)
 | refine S_nil ?_
 | refine S_run rfl rfl obQ obQ ?_
 | refine S_box (fun b0 => ⟨_, _, rfl, obQ, ?_⟩)
 | refine S_slice (fun b => ⟨_, _, rfl, obQ, ?_⟩)
 | refine S_call (f := 157) rfl obQ (by kernel_rfl) (fun w hw => forbids_c A c g q.c hg q.ok w (hw.rdm hr.toS memQ)) ?_
       )
 | (refine G_id ?_; first
 | refine G_assignE hwp (fun W4 hw4 => ?_)
 | refine G_roundE (some ⟨gb, 0, none⟩, cap') (by dsimp only; rw [hsn, List.length_append, ptC_snoc]; exact ⟨⟨_, rfl, obQ⟩, ⟨_, rfl⟩, rfl, pstQ⟩) hw4
 | refine G_then ?_
 | refine G_block ?_
       )
       )
  · repeat' (first
 | (refine C_id ?_; first
 | refine C_seq ?_
 | refine C_region rfl ?_
 | refine C_ret0 ?_
     )
 | (refine S_id ?_; first
 | refine S_nil ?_
 | refine S_run rfl rfl obQ obQ ?_
     )
 | (refine G_id ?_; first
 | refine G_then ?_
 | refine G_block ?_
 | refine G_retD rfl obQ ((DsP.nil _ _).cons hBD hWD hnD) (fun w2 hw => ⟨_, rfl, hw.below, Sl.two (HW.rowSl (w0 := w) (i := 0) hw rfl rfl rfl rfl) rfl⟩)
     )
     )

set_option maxHeartbeats 400000 in
/-- genlockref02.SameViolations -/
theorem rSameV_c (A B : Option Addr) (c c2 : Nat) (l : List Pt) (hl : l.length ≤ 1000000) (w : World) (hra : Rd w A (l.flatMap ptC)) (hrb : Rd w B (l.flatMap ptC)) : Calls Tryz.prog 92 #[.slice A l.length c, .slice B l.length c2] w fun r w' => r = .returned (.bool true) ∧ Below w.heap.size w w' := by
  refine calls_of (args := [.slice A l.length c, .slice B l.length c2]) T_ok Tryz.func92 rfl Tryz.ntmps92 (Nat.le_of_ble_eq_true rfl) rfl ?_
  repeat' (first
 | (refine C_id ?_; first
 | refine C_seq ?_
 | refine C_region rfl ?_
 | refine C_block ?_
 | refine C_skip ?_
 | (refine C_cond rfl obQ (fun h => ?_) (fun h => ?_) <;> (try simp only [Bool.or_eq_true, Bool.and_eq_true, Bool.or_eq_false_iff, Bool.and_eq_false_iff, decide_eq_true_eq, decide_eq_false_iff_not, beq_iff_eq, bne_iff_ne, beq_eq_false_iff_ne, bne_eq_false_iff_eq, ne_eq, Decidable.not_not, List.cons.injEq, and_true, Bool.not_eq_true', Bool.not_eq_false', Int.not_lt, Int.not_le] at h) <;> (try (exfalso; omega)) <;> (try (exfalso; simp at h; done)) <;> (try (exfalso; simp only [not_true_eq_false, false_or, or_false] at h; omega)) <;> (try (exfalso; simp at h; done)))
 )
 | (refine S_id ?_; first
 | refine S_nil ?_
 | refine S_run rfl rfl obQ obQ ?_
 )
 | (refine G_id ?_; first
 | refine G_then ?_
 )
 )
  refine C_loopS (fun k : Nat => ⟨[(5, .s (.v (.int .i64 k))), (0, .s (.v (.slice A l.length c))), (1, .s (.v (.slice B l.length c2)))], [], []⟩) (fun k => k ≤ l.length) (fun k => l.length - k) 0 (Nat.zero_le _) ?_ (fun k hk0 => ?_)
  · exact ⟨⟨_, rfl, obQ⟩, ⟨_, rfl⟩, rfl, pstQ⟩
  have hk : k ≤ l.length := hk0
  by_cases hlt : k < l.length
  · obtain ⟨ad, rfl⟩ := hra.some (by rw [pt_len]; omega)
    obtain ⟨bd, rfl⟩ := hrb.some (by rw [pt_len]; omega)
    repeat' (first
 | (refine C_id ?_; first
 | refine C_seq ?_
 | refine C_region rfl ?_
 | refine C_block ?_
 | refine C_skip ?_
 | refine C_draw (id := 6) rfl mixed (by kernel_rfl) ?_
 | (refine C_cond rfl obQ (fun h => ?_) (fun h => ?_) <;> (try simp only [Bool.or_eq_true, Bool.and_eq_true, Bool.or_eq_false_iff, Bool.and_eq_false_iff, decide_eq_true_eq, decide_eq_false_iff_not, beq_iff_eq, bne_iff_ne, beq_eq_false_iff_ne, bne_eq_false_iff_eq, ne_eq, Decidable.not_not, List.cons.injEq, and_true, Bool.not_eq_true', Bool.not_eq_false', Int.not_lt, Int.not_le] at h) <;> (try (exfalso; omega)) <;> (try (exfalso; simp at h; done)) <;> (try (exfalso; simp only [not_true_eq_false, false_or, or_false] at h; omega)) <;> (try (exfalso; simp at h; done)))
     )
 | (refine S_id ?_; first
 | refine S_nil ?_
 | refine S_run rfl rfl obQ obQ ?_
     )
 | (refine D_id ?_; first
 | refine D_pure (binX_pure rfl obQ (fun w => ne_flat (k := .i64) (n := 2) (xs := [(gP l k).1, (gP l k).2]) (ys := [(gP l k).1, (gP l k).2]) (by kernel_rfl) rfl rfl _ _ w)) ?_
 | refine D_load rfl obQ rfl [.int .i64 (gP l k).1, .int .i64 (gP l k).2] (.past _ memQ _ _ hra.toS _ _ rfl rfl (gP_idx (l := l) hlt)) rfl (.inl ⟨rfl, rfl⟩) ?_
 | refine D_load rfl obQ rfl [.int .i64 (gP l k).1, .int .i64 (gP l k).2] (.past _ memQ _ _ hrb.toS _ _ rfl rfl (gP_idx (l := l) hlt)) rfl (.inl ⟨rfl, rfl⟩) ?_
 | refine D_nil ?_
 | refine D_run rfl rfl obQ obQ ?_
     )
 | (refine G_id ?_; first
 | refine G_loop (k + 1) (show k + 1 ≤ l.length by omega) (by show l.length - (k + 1) < l.length - k; omega) ⟨⟨_, rfl, obQ⟩, ⟨_, rfl⟩, rfl, pstQ⟩
 | refine G_then ?_
 | refine G_block ?_
     )
     )
  · obtain rfl : k = l.length := by omega
    repeat' (first
 | (refine C_id ?_; first
 | refine C_seq ?_
 | refine C_region rfl ?_
 | refine C_exit ?_
 | refine C_ret0 ?_
 | (refine C_cond rfl obQ (fun h => ?_) (fun h => ?_) <;> (try simp only [Bool.or_eq_true, Bool.and_eq_true, Bool.or_eq_false_iff, Bool.and_eq_false_iff, decide_eq_true_eq, decide_eq_false_iff_not, beq_iff_eq, bne_iff_ne, beq_eq_false_iff_ne, bne_eq_false_iff_eq, ne_eq, Decidable.not_not, List.cons.injEq, and_true, Bool.not_eq_true', Bool.not_eq_false', Int.not_lt, Int.not_le] at h) <;> (try (exfalso; omega)))
     )
 | (refine S_id ?_; first
 | refine S_nil ?_
 | refine S_run rfl rfl obQ obQ ?_
     )
 | (refine G_id ?_; first
 | refine G_then ?_
 | refine G_blockX ?_
 | refine G_thenX ?_
 | refine G_ret rfl obQ (fun w hw => ⟨?_, hw.below⟩)
     )
     )
    all_goals rfl

set_option maxHeartbeats 400000 in
/-- genlocklaw02.planes -/
theorem lplanes_c (A : Option Addr) (c : Nat) (l : List Pla) (hl : l.length ≤ 1000000) (w : World) (hr : Rd w A (l.flatMap plC)) : Calls Tryz.prog 87 #[.slice A l.length c] w fun r w' => ∃ v, r = .returned v ∧ Below w.heap.size w w' ∧ Sl w w' v l.length (l.flatMap plC) := by
  refine calls_of (args := [.slice A l.length c]) T_ok Tryz.func87 rfl Tryz.ntmps87 (Nat.le_of_ble_eq_true rfl) rfl ?_
  repeat' (first
 | (refine C_id ?_; first
 | refine C_seq ?_
 | refine C_region rfl ?_
 | refine C_block ?_
 )
 | (refine S_id ?_; first
 | refine S_nil ?_
 | refine S_run rfl rfl obQ obQ ?_
 )
 | (refine G_id ?_; first
 | refine G_then ?_
 )
 )
  refine C_row0 3 186 4 rfl ?_
  refine C_loopS (fun i : Nat × Option Addr × Nat => ⟨[(3, .s (.r i.2.1 i.1 i.2.2 0)), (6, .s (.v (.slice A l.length c))), (7, .s (.v (.int .i64 l.length))), (8, .s (.v (.int .i64 i.1)))], [], [⟨186, 4, i.1, (l.take i.1).flatMap plC, .slice i.2.1 i.1 i.2.2⟩]⟩) (fun i => i.1 ≤ l.length) (fun i => l.length - i.1) (0, none, 0) (Nat.zero_le _) ?_ (fun i hi => ?_)
  · exact ⟨⟨_, rfl, obQ⟩, ⟨_, rfl⟩, rfl, pstQ⟩
  obtain ⟨k, A', c'⟩ := i
  have hi' : k ≤ l.length := hi
  dsimp only
  by_cases hlt : k < l.length
  · obtain ⟨ad, rfl⟩ := hr.some (by rw [pl_len]; omega)
    have hmt := flatMap_take_succ (f := plC) hlt
    repeat' (first
 | (refine C_id ?_; first
 | refine C_seq ?_
 | refine C_region rfl ?_
 | refine C_block ?_
 | refine C_skip ?_
 | (refine C_cond rfl obQ (fun h => ?_) (fun h => ?_) <;> (try simp only [Bool.or_eq_true, Bool.and_eq_true, Bool.or_eq_false_iff, Bool.and_eq_false_iff, decide_eq_true_eq, decide_eq_false_iff_not, beq_iff_eq, bne_iff_ne, beq_eq_false_iff_ne, bne_eq_false_iff_eq, ne_eq, Decidable.not_not, List.cons.injEq, and_true, Bool.not_eq_true', Bool.not_eq_false', Int.not_lt, Int.not_le] at h) <;> (try (exfalso; omega)))
     )
 | (refine S_id ?_; first
 | refine S_load rfl obQ rfl [.int .i64 l[k].a, .int .i64 l[k].b, .int .i64 l[k].c, .int .i64 l[k].m] (.past _ memQ _ _ hr.toS _ _ rfl rfl (idxS (f := plC) (fun _ => rfl) hlt)) rfl (.inl ⟨rfl, rfl⟩) ?_
 | refine S_append rfl obQ rfl rfl rfl ⟨by decide, rfl⟩ rfl ⟨rfl, rfl, rfl, rfl⟩ [.int .i64 l[k].a, .int .i64 l[k].b, .int .i64 l[k].c, .int .i64 l[k].m] ⟨by decide, rfl⟩ (by simp [Value.oneCell']) (fun w hw => by first | exact hw.src (i := 0) rfl rfl | exact hw.src (i := 1) rfl rfl | exact hw.src (i := 2) rfl rfl | exact hw.src (i := 3) rfl rfl | exact hw.src (i := 4) rfl rfl | exact hw.src (i := 5) rfl rfl | exact hw.src (i := 6) rfl rfl | exact hw.src (i := 7) rfl rfl | exact hw.src (i := 8) rfl rfl) (by unfold maxLen; dsimp only; omega) (fun gb cap' => ⟨_, rfl, ?_⟩)
 | refine S_nil ?_
 | refine S_run rfl rfl obQ obQ ?_
 | refine S_box (fun b => ⟨_, _, rfl, obQ, ?_⟩)
 | refine S_slice (fun b => ⟨_, _, rfl, obQ, ?_⟩)
     )
 | (refine G_id ?_; first
 | refine G_loop (k + 1, some ⟨gb, 0, none⟩, cap') (by show k + 1 ≤ _; omega) (by show l.length - (k + 1) < l.length - k; omega) ⟨⟨_, rfl, obQ⟩, ⟨_, rfl⟩, (by dsimp only; rw [hmt]; rfl), pstQ⟩
 | refine G_then ?_
 | refine G_block ?_
     )
     )
  · obtain rfl : k = l.length := by omega
    repeat' (first
 | (refine C_id ?_; first
 | refine C_seq ?_
 | refine C_region rfl ?_
 | refine C_exit ?_
 | refine C_ret0 ?_
 | (refine C_cond rfl obQ (fun h => ?_) (fun h => ?_) <;> (try simp only [Bool.or_eq_true, Bool.and_eq_true, Bool.or_eq_false_iff, Bool.and_eq_false_iff, decide_eq_true_eq, decide_eq_false_iff_not, beq_iff_eq, bne_iff_ne, beq_eq_false_iff_ne, bne_eq_false_iff_eq, ne_eq, Decidable.not_not, List.cons.injEq, and_true, Bool.not_eq_true', Bool.not_eq_false', Int.not_lt, Int.not_le] at h) <;> (try (exfalso; omega)))
     )
 | (refine S_id ?_; first
 | refine S_nil ?_
 | refine S_run rfl rfl obQ obQ ?_
     )
 | (refine G_id ?_; first
 | refine G_then ?_
 | refine G_blockX ?_
 | refine G_thenX ?_
 | refine G_ret rfl obQ (fun w2 hw => ⟨_, rfl, hw.below, HW.rowSl (i := 0) hw rfl rfl rfl (by rw [List.take_length])⟩)
     )
     )

end Go.Proofs.YtdbffbcobghbeaaGreatDoor
namespace Go.Proofs.YtdbffbcobghbeaaGreatDoor
open Go.E Go.RowKit Go.Fl
attribute [local irreducible] G C S D DY DS V VT Yl QV QT Calls
set_option maxRecDepth 100000
set_option linter.unusedSimpArgs false
set_option linter.unusedVariables false

set_option maxHeartbeats 400000 in
/-- genlockref02.CheckColour -/
theorem rCheckCol_c (c : Col) (w : World) : Calls Tryz.prog 42 #[.agg #[.int .i64 c.1, .int .i64 c.2.1, .int .i64 c.2.2]] w fun r w' => r = .returned (.int .i64 (colE c)) ∧ Below w.heap.size w w' := by
  refine calls_of (args := [.agg #[.int .i64 c.1, .int .i64 c.2.1, .int .i64 c.2.2]]) T_ok Tryz.func42 rfl Tryz.ntmps42 (Nat.le_of_ble_eq_true rfl) rfl ?_
  repeat' (first
 | (refine C_id ?_; first
 | refine C_seq ?_
 | refine C_region rfl ?_
 | refine C_ret0 ?_
 | refine C_drawV (id := 1) 8 [(0, true), (1, true), (3, true), (4, true), (6, true), (7, true), (2, false), (5, false)] rfl mixed (by kernel_rfl) rfl ?_
 )
 | (refine S_id ?_; first
 | refine S_nil ?_
 | refine S_run rfl rfl obQ obQ ?_
 | refine S_box (fun b => ⟨_, _, rfl, obQ, ?_⟩)
 | refine S_slice (fun b => ⟨_, _, rfl, obQ, ?_⟩)
 | refine S_call (f := 118) rfl obQ (by kernel_rfl) (fun w hw => rlevel_c _ w) ?_
 | refine S_call (f := 117) rfl obQ (by kernel_rfl) (fun w hw => rFirst_c _ _ [lvE c.1, lvE c.2.1, lvE c.2.2] (by simp) w (.inr ⟨_, rfl, hw.src (i := 1) rfl rfl⟩)) ?_
 )
 | (refine V_id ?_; first
 | refine V_nil ?_
 | refine V_q rfl (Yl_step rfl obQ) ?_
 | refine V_n rfl ?_
 )
 | (refine G_id ?_; first
 | refine G_V ⟨⟨_, rfl, trivial⟩, ⟨_, rfl⟩, rfl, pstQ⟩ rfl ?_
 | refine G_then ?_
 | refine G_ret rfl obQ (fun w hw => ⟨?_, hw.below⟩)
 )
 )
  rfl

set_option maxHeartbeats 400000 in
/-- genlockref02.ShortGamut -/
theorem rShortGamut_c (A : Option Addr) (n c : Nat) (v : Bool) (hv : decide ((n : Int) ≤ 17) = v) (w : World) : Calls Tryz.prog 85 #[.slice A n c] w fun r w' => r = .returned (.bool v) ∧ Below w.heap.size w w' := by
  refine calls_of (args := [.slice A n c]) T_ok Tryz.func85 rfl Tryz.ntmps85 (Nat.le_of_ble_eq_true rfl) rfl ?_
  repeat' (first
 | (refine C_id ?_; first
 | refine C_seq ?_
 | refine C_region rfl ?_
 | refine C_block ?_
 | refine C_skip ?_
 | refine C_ret0 ?_
 | (refine C_cond rfl obQ (fun h => ?_) (fun h => ?_) <;> (try simp only [Bool.or_eq_true, Bool.and_eq_true, Bool.or_eq_false_iff, Bool.and_eq_false_iff, decide_eq_true_eq, decide_eq_false_iff_not, beq_iff_eq, bne_iff_ne, beq_eq_false_iff_ne, bne_eq_false_iff_eq, ne_eq, Decidable.not_not, List.cons.injEq, and_true, Bool.not_eq_true', Bool.not_eq_false', Int.not_lt, Int.not_le] at h))
 )
 | (refine S_id ?_; first
 | refine S_nil ?_
 | refine S_run rfl rfl obQ obQ ?_
 )
 | (refine G_id ?_; first
 | refine G_then ?_
 | refine G_thenR ?_
 | refine G_ret rfl obQ (fun w hw => ⟨?_, hw.below⟩)
 )
 )
  subst hv; rfl

theorem pls_of {ls : List (List Int)} (h : ∀ z ∈ ls, z.length = 4) : (ls.flatMap fun z => z.map (Value.int .i64)) = (ls.map fun z => (⟨z.getD 0 0, z.getD 1 0, z.getD 2 0, z.getD 3 0⟩ : Pla)).flatMap plC := by
  induction ls with
  | nil => rfl
  | cons z ls ih =>
    rw [List.flatMap_cons, List.map_cons, List.flatMap_cons, ih fun y hy => h y (by simp [hy])]
    congr 1
    match z, h z (by simp) with
    | [a, b, c, d], _ => rfl
theorem eqbV {P : Program} {t : TypeId} {a b : Bool} (ht : P.underlying t = some .bool) (x y : Operand) (w : World) : (do eqGuard .eql t x y (.bool a) (.bool b); binOp .eql t (.bool a) (.bool b) : Sem Value).run P w = .ok (.bool (a == b)) w := by
  have hg : (eqGuard .eql t x y (.bool a) (.bool b)).run P w = .ok () w := by unfold eqGuard; simp
  simp only [Sem.run_bind, hg, Result.andThen_ok]
  have he : (Op.equalIn Op.maxDepth t (.bool a) (.bool b)).run P w = .ok (a == b) w := Go.run_equalIn_bool' (w := w) (P := P) 9999 t a b ht
  simp only [binOp, Op.equal]
  simp [Sem.run_bind, he]
section
variable {g : List Pla} {cc : Col} {w : World}
theorem lfirstE_c {A : Option Addr} {n : Nat} {l : List Int} {e : Int} (he : firstL l = e) (h6 : l.length ≤ 1000000) (hl : l.length = n) (c : Nat) (w : World) (hr : Rd w A (l.map (.int .i64))) : Calls Tryz.prog 27 #[.slice A n c] w fun r w' => r = .returned (.int .i64 e) ∧ Below w.heap.size w w' := by
  subst hl he
  exact lfirst_c A c l h6 w hr
theorem rdS_some {S : Nat → Prop} {W : World} {A : Option Addr} {xs : List Value} (h : RdS S W A xs) (h0 : 0 < xs.length) : ∃ a, A = some a := by
  rcases h with h | ⟨ad, h, _⟩
  · rw [h] at h0; simp at h0
  · exact ⟨ad, h⟩
theorem legal_as {A : Option Addr} {c : Nat} {b : Bool} {e : Int} (h : lgR g cc = (b, e)) (hg : g.length ≤ 1000000) (hr : Rd w A (g.flatMap plC)) : Calls Tryz.prog 86 #[.slice A g.length c, .agg #[.int .i64 cc.1, .int .i64 cc.2.1, .int .i64 cc.2.2]] w fun r w' => r = .returned (.tuple #[.bool b, .int .i64 e]) ∧ Below w.heap.size w w' := by
  have := Legal_c A c g hg cc w hr
  rw [h] at this
  exact this
end

set_option maxHeartbeats 8000000 in
/-- genlocklaw02.ColourLimits -/
theorem lLimits_c (A : Option Addr) (c : Nat) (g : List Pla) (hgm : g.length ≤ maxLen) (cc : Col) (x y z : Pic) (Ax Ay Az : Option Addr) (cx cy cz : Nat) (hnx : x.nm.size ≤ maxLen) (hny : y.nm.size ≤ maxLen) (hnz : z.nm.size ≤ maxLen) (hax : Ax = none → x.s.length = 0 ∧ cx = 0) (hay : Ay = none → y.s.length = 0 ∧ cy = 0) (haz : Az = none → z.s.length = 0 ∧ cz = 0) (w : World) (hr : Rd w A (g.flatMap plC)) (hrx : Rd w Ax (x.s.map (.float .f32))) (hry : Rd w Ay (y.s.map (.float .f32))) (hrz : Rd w Az (z.s.map (.float .f32))) (hO : Ot w) (hP : Pw w) : Calls Tryz.prog 13 #[.slice A g.length c, .agg #[.int .i64 cc.1, .int .i64 cc.2.1, .int .i64 cc.2.2], .agg #[.string x.nm, .int .i64 x.w, .int .i64 x.h, .slice Ax x.s.length cx, .string y.nm, .int .i64 y.w, .int .i64 y.h, .slice Ay y.s.length cy, .string z.nm, .int .i64 z.w, .int .i64 z.h, .slice Az z.s.length cz]] w fun r w' => r = .returned (.bool true) ∧ Below w.heap.size w w' := by
  refine calls_of (args := [.slice A g.length c, .agg #[.int .i64 cc.1, .int .i64 cc.2.1, .int .i64 cc.2.2], .agg #[.string x.nm, .int .i64 x.w, .int .i64 x.h, .slice Ax x.s.length cx, .string y.nm, .int .i64 y.w, .int .i64 y.h, .slice Ay y.s.length cy, .string z.nm, .int .i64 z.w, .int .i64 z.h, .slice Az z.s.length cz]]) T_ok Tryz.func13 rfl Tryz.ntmps13 (Nat.le_of_ble_eq_true rfl) rfl ?_
  cases hSg : decide ((g.length : Int) ≤ 17)
  · repeat' (first
 | (refine C_id ?_; first
 | refine C_seq ?_
 | refine C_region rfl ?_
 | refine C_ret0 ?_
 | refine C_condT rfl obQ ?_
     )
 | (refine S_id ?_; first
 | ((with_reducible refine S_falseO ?_ ?_ ?_); (· rfl); (· first | rfl | (first | rfl | (rw [beq_eq_false_iff_ne]; assumption) | omega)))
 | refine S_unG rfl rfl rfl rfl ?_
 | refine S_offG (.v (.bool false)) rfl rfl rfl rfl rfl ?_
 | refine S_nil ?_
 | refine S_runN rfl rfl obQ obQ ?_
 | refine S_box (fun bb => ⟨_, _, rfl, obQ, ?_⟩)
 | refine S_call (f := 20) rfl obQ (by kernel_rfl) (fun w hw => awake_c w (hw.rdm hO.toS memQ) (Pw_at hP hw memQ)) ?_
 | refine S_call (f := 85) rfl obQ (by kernel_rfl) (fun w hw => rShortGamut_c _ _ _ _ hSg w) ?_
 | refine S_call (f := 54) rfl obQ (by kernel_rfl) (fun w hw => rShortPicture_c x _ _ _ hSx w) ?_
 | refine S_call (f := 54) rfl obQ (by kernel_rfl) (fun w hw => rShortPicture_c y _ _ _ hSy w) ?_
 | refine S_call (f := 54) rfl obQ (by kernel_rfl) (fun w hw => rShortPicture_c z _ _ _ hSz w) ?_
     )
 | (refine G_id ?_; first
 | refine G_then ?_
 | refine G_thenR ?_
 | refine G_ret rfl obQ (fun w hw => ⟨?_, hw.below⟩)
     )
     )
    all_goals rfl
  cases hSx : shortB x
  · repeat' (first
 | (refine C_id ?_; first
 | refine C_seq ?_
 | refine C_region rfl ?_
 | refine C_ret0 ?_
 | refine C_condT rfl obQ ?_
     )
 | (refine S_id ?_; first
 | ((with_reducible refine S_falseO ?_ ?_ ?_); (· rfl); (· first | rfl | (first | rfl | (rw [beq_eq_false_iff_ne]; assumption) | omega)))
 | refine S_unG rfl rfl rfl rfl ?_
 | refine S_offG (.v (.bool false)) rfl rfl rfl rfl rfl ?_
 | refine S_nil ?_
 | refine S_runN rfl rfl obQ obQ ?_
 | refine S_box (fun bb => ⟨_, _, rfl, obQ, ?_⟩)
 | refine S_call (f := 20) rfl obQ (by kernel_rfl) (fun w hw => awake_c w (hw.rdm hO.toS memQ) (Pw_at hP hw memQ)) ?_
 | refine S_call (f := 85) rfl obQ (by kernel_rfl) (fun w hw => rShortGamut_c _ _ _ _ hSg w) ?_
 | refine S_call (f := 54) rfl obQ (by kernel_rfl) (fun w hw => rShortPicture_c x _ _ _ hSx w) ?_
 | refine S_call (f := 54) rfl obQ (by kernel_rfl) (fun w hw => rShortPicture_c y _ _ _ hSy w) ?_
 | refine S_call (f := 54) rfl obQ (by kernel_rfl) (fun w hw => rShortPicture_c z _ _ _ hSz w) ?_
     )
 | (refine G_id ?_; first
 | refine G_then ?_
 | refine G_thenR ?_
 | refine G_ret rfl obQ (fun w hw => ⟨?_, hw.below⟩)
     )
     )
    all_goals rfl
  cases hSy : shortB y
  · repeat' (first
 | (refine C_id ?_; first
 | refine C_seq ?_
 | refine C_region rfl ?_
 | refine C_ret0 ?_
 | refine C_condT rfl obQ ?_
     )
 | (refine S_id ?_; first
 | ((with_reducible refine S_falseO ?_ ?_ ?_); (· rfl); (· first | rfl | (first | rfl | (rw [beq_eq_false_iff_ne]; assumption) | omega)))
 | refine S_unG rfl rfl rfl rfl ?_
 | refine S_offG (.v (.bool false)) rfl rfl rfl rfl rfl ?_
 | refine S_nil ?_
 | refine S_runN rfl rfl obQ obQ ?_
 | refine S_box (fun bb => ⟨_, _, rfl, obQ, ?_⟩)
 | refine S_call (f := 20) rfl obQ (by kernel_rfl) (fun w hw => awake_c w (hw.rdm hO.toS memQ) (Pw_at hP hw memQ)) ?_
 | refine S_call (f := 85) rfl obQ (by kernel_rfl) (fun w hw => rShortGamut_c _ _ _ _ hSg w) ?_
 | refine S_call (f := 54) rfl obQ (by kernel_rfl) (fun w hw => rShortPicture_c x _ _ _ hSx w) ?_
 | refine S_call (f := 54) rfl obQ (by kernel_rfl) (fun w hw => rShortPicture_c y _ _ _ hSy w) ?_
 | refine S_call (f := 54) rfl obQ (by kernel_rfl) (fun w hw => rShortPicture_c z _ _ _ hSz w) ?_
     )
 | (refine G_id ?_; first
 | refine G_then ?_
 | refine G_thenR ?_
 | refine G_ret rfl obQ (fun w hw => ⟨?_, hw.below⟩)
     )
     )
    all_goals rfl
  cases hSz : shortB z
  · repeat' (first
 | (refine C_id ?_; first
 | refine C_seq ?_
 | refine C_region rfl ?_
 | refine C_ret0 ?_
 | refine C_condT rfl obQ ?_
     )
 | (refine S_id ?_; first
 | ((with_reducible refine S_falseO ?_ ?_ ?_); (· rfl); (· first | rfl | (first | rfl | (rw [beq_eq_false_iff_ne]; assumption) | omega)))
 | refine S_unG rfl rfl rfl rfl ?_
 | refine S_offG (.v (.bool false)) rfl rfl rfl rfl rfl ?_
 | refine S_nil ?_
 | refine S_runN rfl rfl obQ obQ ?_
 | refine S_box (fun bb => ⟨_, _, rfl, obQ, ?_⟩)
 | refine S_call (f := 20) rfl obQ (by kernel_rfl) (fun w hw => awake_c w (hw.rdm hO.toS memQ) (Pw_at hP hw memQ)) ?_
 | refine S_call (f := 85) rfl obQ (by kernel_rfl) (fun w hw => rShortGamut_c _ _ _ _ hSg w) ?_
 | refine S_call (f := 54) rfl obQ (by kernel_rfl) (fun w hw => rShortPicture_c x _ _ _ hSx w) ?_
 | refine S_call (f := 54) rfl obQ (by kernel_rfl) (fun w hw => rShortPicture_c y _ _ _ hSy w) ?_
 | refine S_call (f := 54) rfl obQ (by kernel_rfl) (fun w hw => rShortPicture_c z _ _ _ hSz w) ?_
     )
 | (refine G_id ?_; first
 | refine G_then ?_
 | refine G_thenR ?_
 | refine G_ret rfl obQ (fun w hw => ⟨?_, hw.below⟩)
     )
     )
    all_goals rfl
  have hg6 : g.length ≤ 1000000 := by have := of_decide_eq_true hSg; omega
  obtain ⟨hx40, hx160⟩ := shortB_ok hSx
  obtain ⟨hy40, hy160⟩ := shortB_ok hSy
  obtain ⟨hz40, hz160⟩ := shortB_ok hSz
  have hsx : x.s.length ≤ 1000000 := by omega
  have hsy : y.s.length ≤ 1000000 := by omega
  have hsz : z.s.length ≤ 1000000 := by omega
  by_cases hvi : viE g x y z = 0
  · obtain ⟨hgk, ht⟩ := viE_ok hvi
    have hU : firstL [gmE g, thE x y z] = 0 := hvi
    obtain ⟨_, h0⟩ := pic_len ht.px
    have hln := ht.len
    have hVl : (viF g x y z x.s.length).length ≤ 1000000 := by have := viF_len g x y z x.s.length; omega
    obtain ⟨ax, rfl⟩ := hrx.some (by simp; omega)
    obtain ⟨ay, rfl⟩ := hry.some (by simp; omega)
    obtain ⟨az, rfl⟩ := hrz.some (by simp; omega)
    by_cases hlg : lgE g cc = 0
    · obtain ⟨_, hcol⟩ := lgE_ok hlg
      have hT : firstL [gmE g, colE cc] = 0 := hlg
      have hLG : lgR g cc = (decide (fbF g cc < 0), 0) := if_pos hlg
      repeat' (first
 | (refine C_id ?_; first
 | refine C_seq ?_
 | refine C_regionNe 11 rfl rfl ?_
 | refine C_skip ?_
 | refine C_drawV (id := 3) 8 [(0, true), (2, true), (1, false), (3, false), (4, true), (5, true), (6, true), (7, true)] rfl mixed (by kernel_rfl) rfl ?_
 | refine C_drawV (id := 4) 9 [(0, true), (2, true), (1, false), (3, false), (4, false), (5, true), (6, true), (7, true), (8, true)] rfl mixed (by kernel_rfl) rfl ?_
 | refine C_drawV (id := 6) 8 [(0, true), (1, true), (5, true), (6, true), (2, false), (3, false), (4, false), (7, false)] rfl mixed (by kernel_rfl) rfl ?_
 | refine C_condT rfl obQ ?_
 | refine C_condF rfl obQ ?_
       )
 | (refine S_id ?_; first
 | ((with_reducible refine S_falseO ?_ ?_ ?_); (· rfl); (· first | rfl | (first | rfl | (rw [beq_eq_false_iff_ne]; assumption) | omega)))
 | ((with_reducible (first | refine S_trueE ?_ ?_ | refine S_trueB ?_ ?_ | refine S_trueL ?_ ?_ | refine S_trueD ?_ ?_ | refine S_trueN ?_ ?_)); · (first | exact beq_self_eq_true _ | rfl | omega))
 | refine S_unG rfl rfl rfl rfl ?_
 | (refine S_callM (f := 87) rfl obQ (by kernel_rfl) (fun w hw => lplanes_c A c g hg6 w (hw.rdm hr.toS memQ)) (fun w1G w2G vG hw1G hbG hRG => ?_); obtain ⟨AG, cG, rfl, hSG⟩ := hRG)
 | (refine S_callM (f := 62) rfl obQ (by kernel_rfl) (fun w hw => lthree_c x y z _ _ _ _ _ _ hsx hsy hsz hax hay haz w (hw.rdm hrx.toS memQ) (hw.rdm hry.toS memQ) (hw.rdm hrz.toS memQ)) (fun w1T w2T vT hw1T hbT hRT => ?_); obtain ⟨TX, eX, TY, eY, TZ, eZ, rfl, hSTX, hSTY, hSTZ⟩ := hRT; obtain ⟨tX, rfl⟩ := rdS_some hSTX (by simp; omega); obtain ⟨tY, rfl⟩ := rdS_some hSTY (by simp; omega); obtain ⟨tZ, rfl⟩ := rdS_some hSTZ (by simp; omega))
 | (refine S_callM (f := 88) rfl obQ (by kernel_rfl) (fun w hw => Violations_c _ _ g hg6 x y z _ _ _ _ _ _ hsx hsy hsz hvi w (hw.rdm hSG memQ) (hw.rdm hSTX memQ) (hw.rdm hSTY memQ) (hw.rdm hSTZ memQ)) (fun w1L w2L vL hw1L hbL hRL => ?_); obtain ⟨AL, cL, rfl, hSL⟩ := hRL)
 | (refine S_callM (f := 91) rfl obQ (by kernel_rfl) (fun w hw => rViolations_c A c g hgk x y z _ _ _ _ _ _ ht w (hw.rdm hr.toS memQ) (hw.rdm hrx.toS memQ) (hw.rdm hry.toS memQ) (hw.rdm hrz.toS memQ)) (fun w1M w2M vM hw1M hbM hRM => ?_); obtain ⟨AM, cM, rfl, hSM⟩ := hRM)
 | refine S_nil ?_
 | refine S_runN rfl rfl obQ obQ ?_
 | refine S_box (fun bb => ⟨_, _, rfl, obQ, ?_⟩)
 | refine S_slice (fun b => ⟨_, _, rfl, obQ, ?_⟩)
 | refine S_call (f := 85) rfl obQ (by kernel_rfl) (fun w hw => rShortGamut_c _ _ _ _ hSg w) ?_
 | refine S_call (f := 54) rfl obQ (by kernel_rfl) (fun w hw => rShortPicture_c x _ _ _ hSx w) ?_
 | refine S_call (f := 54) rfl obQ (by kernel_rfl) (fun w hw => rShortPicture_c y _ _ _ hSy w) ?_
 | refine S_call (f := 54) rfl obQ (by kernel_rfl) (fun w hw => rShortPicture_c z _ _ _ hSz w) ?_
 | refine S_call (f := 86) rfl obQ (by kernel_rfl) (fun w hw => legal_as hLG hg6 (hw.rdm hSG memQ)) ?_
 | refine S_call (f := 89) rfl obQ (by kernel_rfl) (fun w hw => rCheckGamut_c A c g hg6 w (hw.rdm hr.toS memQ)) ?_
 | refine S_call (f := 42) rfl obQ (by kernel_rfl) (fun w hw => rCheckCol_c cc w) ?_
 | refine S_call (f := 63) rfl obQ (by kernel_rfl) (fun w hw => rCheckThree_c x y z _ _ _ _ _ _ hsx hsy hsz hnx hny hnz w (hw.rdm hrx.toS memQ) (hw.rdm hry.toS memQ) (hw.rdm hrz.toS memQ)) ?_
 | refine S_call (f := 27) rfl obQ (by kernel_rfl) (fun w hw => lfirstE_c (l := [gmE g, colE cc]) hT (by simp) rfl _ w (.inr ⟨_, rfl, hw.src (i := 2) rfl rfl⟩)) ?_
 | refine S_call (f := 27) rfl obQ (by kernel_rfl) (fun w hw => lfirstE_c (l := [gmE g, thE x y z]) hU (by simp) rfl _ w (.inr ⟨_, rfl, hw.src (i := 3) rfl rfl⟩)) ?_
 | refine S_call (f := 90) rfl obQ (by kernel_rfl) (fun w hw => rForbidden_c A c g cc hgk hcol w (hw.rdm hr.toS memQ)) ?_
       )
 | (refine V_id ?_; first
 | refine V_nil ?_
 | refine V_q rfl (Yl_step rfl obQ) ?_
 | refine V_n rfl ?_
       )
 | (refine G_id ?_; first
 | refine G_V ⟨⟨_, rfl, trivial⟩, ⟨_, rfl⟩, rfl, pstQ⟩ rfl ?_
 | refine G_then ?_
       )
       )
      refine C_row0 16 154 2 rfl ?_
      repeat' (first
 | (refine C_id ?_; first
 | refine C_regionNe 12 rfl rfl ?_
 | refine C_block ?_
       )
 | (refine S_id ?_; first
 | refine S_nil ?_
 | refine S_runN rfl rfl obQ obQ ?_
       )
 | (refine G_id ?_; first
 | refine G_then ?_
       )
       )
      refine C_loopS (fun i : Nat × Option Addr × Nat => ⟨[(16, .s (.r i.2.1 i.1 i.2.2 0)), (83, .s (.v (.int .i64 i.1))), (7, .s (.v (.bool (decide (fbF g cc < 0))))), (8, .s (.v (.int .i64 (0)))), (14, .s (.v (.bool (decide (fbF g cc < 0))))), (12, .s (.v (.int .i64 (0)))), (15, .s (.v (.slice AM (viF g x y z x.s.length).length cM))), (10, .s (.v (.int .i64 (0)))), (13, .s (.v (.int .i64 (0)))), (81, .s (.v (.slice AL (viF g x y z x.s.length).length cL))), (82, .s (.v (.int .i64 (((viF g x y z x.s.length).length : Nat) : Int))))], [], [⟨154, 2, i.1, (List.take i.1 (viF g x y z x.s.length)).flatMap ptC, .slice i.2.1 i.1 i.2.2⟩]⟩) (fun i => i.1 ≤ (viF g x y z x.s.length).length) (fun i => (viF g x y z x.s.length).length - i.1) (0, none, 0) (Nat.zero_le _) ?_ (fun i hi => ?_)
      · exact ⟨⟨_, rfl, obQ⟩, ⟨_, rfl⟩, rfl, pstQ⟩
      obtain ⟨k, A', c'⟩ := i
      have hk : k ≤ (viF g x y z x.s.length).length := hi
      dsimp only
      by_cases hlt : k < (viF g x y z x.s.length).length
      · obtain ⟨aL, hAL⟩ := rdS_some hSL (by rw [pt_len]; omega)
        subst hAL
        have hmt := flatMap_take_succ (f := ptC) hlt
        rw [← gP_at hlt] at hmt
        repeat' (first
 | (refine C_id ?_; first
 | refine C_seq ?_
 | refine C_region rfl ?_
 | refine C_block ?_
 | refine C_skip ?_
 | (refine C_cond rfl obQ (fun h => ?_) (fun h => ?_) <;> (try simp only [Bool.or_eq_true, Bool.and_eq_true, Bool.or_eq_false_iff, Bool.and_eq_false_iff, decide_eq_true_eq, decide_eq_false_iff_not, beq_iff_eq, bne_iff_ne, beq_eq_false_iff_ne, bne_eq_false_iff_eq, ne_eq, Decidable.not_not, List.cons.injEq, and_true, Bool.not_eq_true', Bool.not_eq_false', Int.not_lt, Int.not_le] at h) <;> (try (exfalso; omega)) <;> (try (exfalso; simp at h; done)) <;> (try (exfalso; simp only [not_true_eq_false, false_or, or_false] at h; omega)) <;> (try (exfalso; omega)))
         )
 | (refine S_id ?_; first
 | refine S_load rfl obQ rfl [.int .i64 (gP (viF g x y z x.s.length) k).1, .int .i64 (gP (viF g x y z x.s.length) k).2] (.past (w2L, fun b => w1L.heap.size ≤ b ∧ b < w2L.heap.size) memQ _ _ hSL _ _ rfl rfl (gP_idx (l := (viF g x y z x.s.length)) hlt)) rfl (.inl ⟨rfl, rfl⟩) ?_
 | refine S_append rfl obQ rfl rfl rfl ⟨by decide, rfl⟩ rfl ⟨rfl, rfl, rfl, rfl⟩ [.int .i64 (gP (viF g x y z x.s.length) k).1, .int .i64 (gP (viF g x y z x.s.length) k).2] ⟨by decide, rfl⟩ (by simp [Value.oneCell']) (fun w hw => by first | exact hw.src (i := 0) rfl rfl | exact hw.src (i := 1) rfl rfl | exact hw.src (i := 2) rfl rfl | exact hw.src (i := 3) rfl rfl | exact hw.src (i := 4) rfl rfl | exact hw.src (i := 5) rfl rfl | exact hw.src (i := 6) rfl rfl | exact hw.src (i := 7) rfl rfl | exact hw.src (i := 8) rfl rfl) (by unfold maxLen; dsimp only; omega) (fun gb cap' => ⟨_, rfl, ?_⟩)
 | refine S_nil ?_
 | refine S_run rfl rfl obQ obQ ?_
 | refine S_box (fun b0 => ⟨_, _, rfl, obQ, ?_⟩)
 | refine S_slice (fun b => ⟨_, _, rfl, obQ, ?_⟩)
         )
 | (refine G_id ?_; first
 | refine G_loop (k + 1, some ⟨gb, 0, none⟩, cap') (show k + 1 ≤ _ by omega) (by show _ - (k + 1) < _ - k; omega) ⟨⟨_, rfl, obQ⟩, ⟨_, rfl⟩, (by dsimp only; rw [hmt]; rfl), pstQ⟩
 | refine G_then ?_
 | refine G_block ?_
         )
         )
      · have hke : k = (viF g x y z x.s.length).length := by omega
        rw [hke, List.take_length]
        repeat' (first
 | (refine C_id ?_; first
 | refine C_seq ?_
 | refine C_region rfl ?_
 | refine C_exit ?_
 | refine C_ret0 ?_
 | refine C_condF rfl obQ ?_
         )
 | (refine S_id ?_; first
 | ((with_reducible (first | refine S_falseN ?_ ?_ | refine S_falseB ?_ ?_ | refine S_falseL ?_ ?_ | refine S_falseD ?_ ?_ | refine S_falseE ?_ ?_)); · (first | rfl | (rw [beq_eq_false_iff_ne]; assumption) | omega))
 | ((with_reducible (first | refine S_trueE ?_ ?_ | refine S_trueB ?_ ?_ | refine S_trueL ?_ ?_ | refine S_trueD ?_ ?_ | refine S_trueN ?_ ?_)); · (first | exact beq_self_eq_true _ | rfl | omega))
 | ((with_reducible refine S_trueA ?_ ?_ ?_); (· rfl); (· first | rfl | (first | exact beq_self_eq_true _ | rfl | omega)))
 | refine S_unG rfl rfl rfl rfl ?_
 | refine S_pure (binX_pure rfl obQ (fun w => eqbV (by kernel_rfl) _ _ w)) ?_
 | refine S_nil ?_
 | refine S_runN rfl rfl obQ obQ ?_
 | refine S_call (f := 20) rfl obQ (by kernel_rfl) (fun w hw => awake_c w (hw.rdm hO.toS memQ) (Pw_at hP hw memQ)) ?_
 | refine S_call (f := 92) rfl obQ (by kernel_rfl) (fun w hw => rSameV_c _ _ _ _ (viF g x y z x.s.length) hVl w (hw.rdRow (i := 0) rfl rfl) (hw.rdm hSM memQ)) ?_
         )
 | (refine G_id ?_; first
 | refine G_then ?_
 | refine G_blockX ?_
 | refine G_thenX ?_
 | refine G_ret rfl obQ (fun w hw => ⟨?_, hw.below⟩)
         )
         )
        all_goals rfl
      
    · have hT : firstL [gmE g, colE cc] = lgE g cc := rfl
      have hLG : lgR g cc = (false, lgE g cc) := if_neg hlg
      repeat' (first
 | (refine C_id ?_; first
 | refine C_seq ?_
 | refine C_regionNe 11 rfl rfl ?_
 | refine C_skip ?_
 | refine C_drawV (id := 3) 8 [(0, true), (2, true), (1, false), (3, false), (4, true), (5, true), (6, true), (7, true)] rfl mixed (by kernel_rfl) rfl ?_
 | refine C_drawV (id := 4) 9 [(0, true), (2, true), (1, false), (3, false), (4, false), (5, true), (6, true), (7, true), (8, true)] rfl mixed (by kernel_rfl) rfl ?_
 | refine C_drawV (id := 6) 8 [(0, true), (1, true), (5, true), (6, true), (2, false), (3, false), (4, false), (7, false)] rfl mixed (by kernel_rfl) rfl ?_
 | refine C_condT rfl obQ ?_
 | refine C_condF rfl obQ ?_
       )
 | (refine S_id ?_; first
 | ((with_reducible (first | refine S_falseN ?_ ?_ | refine S_falseB ?_ ?_ | refine S_falseL ?_ ?_ | refine S_falseD ?_ ?_ | refine S_falseE ?_ ?_)); · (first | rfl | (rw [beq_eq_false_iff_ne]; assumption) | omega))
 | ((with_reducible refine S_falseO ?_ ?_ ?_); (· rfl); (· first | rfl | (first | rfl | (rw [beq_eq_false_iff_ne]; assumption) | omega)))
 | ((with_reducible (first | refine S_trueE ?_ ?_ | refine S_trueB ?_ ?_ | refine S_trueL ?_ ?_ | refine S_trueD ?_ ?_ | refine S_trueN ?_ ?_)); · (first | exact beq_self_eq_true _ | rfl | omega))
 | refine S_unG rfl rfl rfl rfl ?_
 | refine S_offG (.v (.bool false)) rfl rfl rfl rfl rfl ?_
 | (refine S_callM (f := 87) rfl obQ (by kernel_rfl) (fun w hw => lplanes_c A c g hg6 w (hw.rdm hr.toS memQ)) (fun w1G w2G vG hw1G hbG hRG => ?_); obtain ⟨AG, cG, rfl, hSG⟩ := hRG)
 | (refine S_callM (f := 62) rfl obQ (by kernel_rfl) (fun w hw => lthree_c x y z _ _ _ _ _ _ hsx hsy hsz hax hay haz w (hw.rdm hrx.toS memQ) (hw.rdm hry.toS memQ) (hw.rdm hrz.toS memQ)) (fun w1T w2T vT hw1T hbT hRT => ?_); obtain ⟨TX, eX, TY, eY, TZ, eZ, rfl, hSTX, hSTY, hSTZ⟩ := hRT; obtain ⟨tX, rfl⟩ := rdS_some hSTX (by simp; omega); obtain ⟨tY, rfl⟩ := rdS_some hSTY (by simp; omega); obtain ⟨tZ, rfl⟩ := rdS_some hSTZ (by simp; omega))
 | (refine S_callM (f := 88) rfl obQ (by kernel_rfl) (fun w hw => Violations_c _ _ g hg6 x y z _ _ _ _ _ _ hsx hsy hsz hvi w (hw.rdm hSG memQ) (hw.rdm hSTX memQ) (hw.rdm hSTY memQ) (hw.rdm hSTZ memQ)) (fun w1L w2L vL hw1L hbL hRL => ?_); obtain ⟨AL, cL, rfl, hSL⟩ := hRL)
 | (refine S_callM (f := 91) rfl obQ (by kernel_rfl) (fun w hw => rViolations_c A c g hgk x y z _ _ _ _ _ _ ht w (hw.rdm hr.toS memQ) (hw.rdm hrx.toS memQ) (hw.rdm hry.toS memQ) (hw.rdm hrz.toS memQ)) (fun w1M w2M vM hw1M hbM hRM => ?_); obtain ⟨AM, cM, rfl, hSM⟩ := hRM)
 | refine S_nil ?_
 | refine S_runN rfl rfl obQ obQ ?_
 | refine S_box (fun bb => ⟨_, _, rfl, obQ, ?_⟩)
 | refine S_slice (fun b => ⟨_, _, rfl, obQ, ?_⟩)
 | refine S_call (f := 85) rfl obQ (by kernel_rfl) (fun w hw => rShortGamut_c _ _ _ _ hSg w) ?_
 | refine S_call (f := 54) rfl obQ (by kernel_rfl) (fun w hw => rShortPicture_c x _ _ _ hSx w) ?_
 | refine S_call (f := 54) rfl obQ (by kernel_rfl) (fun w hw => rShortPicture_c y _ _ _ hSy w) ?_
 | refine S_call (f := 54) rfl obQ (by kernel_rfl) (fun w hw => rShortPicture_c z _ _ _ hSz w) ?_
 | refine S_call (f := 86) rfl obQ (by kernel_rfl) (fun w hw => legal_as hLG hg6 (hw.rdm hSG memQ)) ?_
 | refine S_call (f := 89) rfl obQ (by kernel_rfl) (fun w hw => rCheckGamut_c A c g hg6 w (hw.rdm hr.toS memQ)) ?_
 | refine S_call (f := 42) rfl obQ (by kernel_rfl) (fun w hw => rCheckCol_c cc w) ?_
 | refine S_call (f := 63) rfl obQ (by kernel_rfl) (fun w hw => rCheckThree_c x y z _ _ _ _ _ _ hsx hsy hsz hnx hny hnz w (hw.rdm hrx.toS memQ) (hw.rdm hry.toS memQ) (hw.rdm hrz.toS memQ)) ?_
 | refine S_call (f := 27) rfl obQ (by kernel_rfl) (fun w hw => lfirstE_c (l := [gmE g, colE cc]) hT (by simp) rfl _ w (.inr ⟨_, rfl, hw.src (i := 2) rfl rfl⟩)) ?_
 | refine S_call (f := 27) rfl obQ (by kernel_rfl) (fun w hw => lfirstE_c (l := [gmE g, thE x y z]) hU (by simp) rfl _ w (.inr ⟨_, rfl, hw.src (i := 3) rfl rfl⟩)) ?_
       )
 | (refine V_id ?_; first
 | refine V_nil ?_
 | refine V_q rfl (Yl_step rfl obQ) ?_
 | refine V_n rfl ?_
       )
 | (refine G_id ?_; first
 | refine G_V ⟨⟨_, rfl, trivial⟩, ⟨_, rfl⟩, rfl, pstQ⟩ rfl ?_
 | refine G_then ?_
       )
       )
      refine C_row0 16 154 2 rfl ?_
      repeat' (first
 | (refine C_id ?_; first
 | refine C_regionNe 12 rfl rfl ?_
 | refine C_block ?_
       )
 | (refine S_id ?_; first
 | refine S_nil ?_
 | refine S_runN rfl rfl obQ obQ ?_
       )
 | (refine G_id ?_; first
 | refine G_then ?_
       )
       )
      refine C_loopS (fun i : Nat × Option Addr × Nat => ⟨[(16, .s (.r i.2.1 i.1 i.2.2 0)), (83, .s (.v (.int .i64 i.1))), (7, .s (.v (.bool false))), (8, .s (.v (.int .i64 (lgE g cc)))), (14, .s (.v (.bool false))), (12, .s (.v (.int .i64 (lgE g cc)))), (15, .s (.v (.slice AM (viF g x y z x.s.length).length cM))), (10, .s (.v (.int .i64 (0)))), (13, .s (.v (.int .i64 (0)))), (81, .s (.v (.slice AL (viF g x y z x.s.length).length cL))), (82, .s (.v (.int .i64 (((viF g x y z x.s.length).length : Nat) : Int))))], [], [⟨154, 2, i.1, (List.take i.1 (viF g x y z x.s.length)).flatMap ptC, .slice i.2.1 i.1 i.2.2⟩]⟩) (fun i => i.1 ≤ (viF g x y z x.s.length).length) (fun i => (viF g x y z x.s.length).length - i.1) (0, none, 0) (Nat.zero_le _) ?_ (fun i hi => ?_)
      · exact ⟨⟨_, rfl, obQ⟩, ⟨_, rfl⟩, rfl, pstQ⟩
      obtain ⟨k, A', c'⟩ := i
      have hk : k ≤ (viF g x y z x.s.length).length := hi
      dsimp only
      by_cases hlt : k < (viF g x y z x.s.length).length
      · obtain ⟨aL, hAL⟩ := rdS_some hSL (by rw [pt_len]; omega)
        subst hAL
        have hmt := flatMap_take_succ (f := ptC) hlt
        rw [← gP_at hlt] at hmt
        repeat' (first
 | (refine C_id ?_; first
 | refine C_seq ?_
 | refine C_region rfl ?_
 | refine C_block ?_
 | refine C_skip ?_
 | (refine C_cond rfl obQ (fun h => ?_) (fun h => ?_) <;> (try simp only [Bool.or_eq_true, Bool.and_eq_true, Bool.or_eq_false_iff, Bool.and_eq_false_iff, decide_eq_true_eq, decide_eq_false_iff_not, beq_iff_eq, bne_iff_ne, beq_eq_false_iff_ne, bne_eq_false_iff_eq, ne_eq, Decidable.not_not, List.cons.injEq, and_true, Bool.not_eq_true', Bool.not_eq_false', Int.not_lt, Int.not_le] at h) <;> (try (exfalso; omega)) <;> (try (exfalso; simp at h; done)) <;> (try (exfalso; simp only [not_true_eq_false, false_or, or_false] at h; omega)) <;> (try (exfalso; omega)))
         )
 | (refine S_id ?_; first
 | refine S_load rfl obQ rfl [.int .i64 (gP (viF g x y z x.s.length) k).1, .int .i64 (gP (viF g x y z x.s.length) k).2] (.past (w2L, fun b => w1L.heap.size ≤ b ∧ b < w2L.heap.size) memQ _ _ hSL _ _ rfl rfl (gP_idx (l := (viF g x y z x.s.length)) hlt)) rfl (.inl ⟨rfl, rfl⟩) ?_
 | refine S_append rfl obQ rfl rfl rfl ⟨by decide, rfl⟩ rfl ⟨rfl, rfl, rfl, rfl⟩ [.int .i64 (gP (viF g x y z x.s.length) k).1, .int .i64 (gP (viF g x y z x.s.length) k).2] ⟨by decide, rfl⟩ (by simp [Value.oneCell']) (fun w hw => by first | exact hw.src (i := 0) rfl rfl | exact hw.src (i := 1) rfl rfl | exact hw.src (i := 2) rfl rfl | exact hw.src (i := 3) rfl rfl | exact hw.src (i := 4) rfl rfl | exact hw.src (i := 5) rfl rfl | exact hw.src (i := 6) rfl rfl | exact hw.src (i := 7) rfl rfl | exact hw.src (i := 8) rfl rfl) (by unfold maxLen; dsimp only; omega) (fun gb cap' => ⟨_, rfl, ?_⟩)
 | refine S_nil ?_
 | refine S_run rfl rfl obQ obQ ?_
 | refine S_box (fun b0 => ⟨_, _, rfl, obQ, ?_⟩)
 | refine S_slice (fun b => ⟨_, _, rfl, obQ, ?_⟩)
         )
 | (refine G_id ?_; first
 | refine G_loop (k + 1, some ⟨gb, 0, none⟩, cap') (show k + 1 ≤ _ by omega) (by show _ - (k + 1) < _ - k; omega) ⟨⟨_, rfl, obQ⟩, ⟨_, rfl⟩, (by dsimp only; rw [hmt]; rfl), pstQ⟩
 | refine G_then ?_
 | refine G_block ?_
         )
         )
      · have hke : k = (viF g x y z x.s.length).length := by omega
        rw [hke, List.take_length]
        repeat' (first
 | (refine C_id ?_; first
 | refine C_seq ?_
 | refine C_region rfl ?_
 | refine C_exit ?_
 | refine C_ret0 ?_
 | refine C_condF rfl obQ ?_
         )
 | (refine S_id ?_; first
 | ((with_reducible (first | refine S_falseN ?_ ?_ | refine S_falseB ?_ ?_ | refine S_falseL ?_ ?_ | refine S_falseD ?_ ?_ | refine S_falseE ?_ ?_)); · (first | rfl | (rw [beq_eq_false_iff_ne]; assumption) | omega))
 | ((with_reducible (first | refine S_trueE ?_ ?_ | refine S_trueB ?_ ?_ | refine S_trueL ?_ ?_ | refine S_trueD ?_ ?_ | refine S_trueN ?_ ?_)); · (first | exact beq_self_eq_true _ | rfl | omega))
 | ((with_reducible refine S_trueA ?_ ?_ ?_); (· rfl); (· first | rfl | (first | exact beq_self_eq_true _ | rfl | omega)))
 | refine S_unG rfl rfl rfl rfl ?_
 | refine S_pure (binX_pure rfl obQ (fun w => eqbV (by kernel_rfl) _ _ w)) ?_
 | refine S_nil ?_
 | refine S_runN rfl rfl obQ obQ ?_
 | refine S_call (f := 20) rfl obQ (by kernel_rfl) (fun w hw => awake_c w (hw.rdm hO.toS memQ) (Pw_at hP hw memQ)) ?_
 | refine S_call (f := 92) rfl obQ (by kernel_rfl) (fun w hw => rSameV_c _ _ _ _ (viF g x y z x.s.length) hVl w (hw.rdRow (i := 0) rfl rfl) (hw.rdm hSM memQ)) ?_
         )
 | (refine G_id ?_; first
 | refine G_then ?_
 | refine G_blockX ?_
 | refine G_thenX ?_
 | refine G_ret rfl obQ (fun w hw => ⟨?_, hw.below⟩)
         )
         )
        all_goals rfl
      
  · have hU : firstL [gmE g, thE x y z] = viE g x y z := rfl
    have hVl : ([] : List Pt).length ≤ 1000000 := Nat.zero_le _
    by_cases hlg : lgE g cc = 0
    · obtain ⟨hgk, hcol⟩ := lgE_ok hlg
      have hT : firstL [gmE g, colE cc] = 0 := hlg
      have hLG : lgR g cc = (decide (fbF g cc < 0), 0) := if_pos hlg
      repeat' (first
 | (refine C_id ?_; first
 | refine C_seq ?_
 | refine C_regionNe 11 rfl rfl ?_
 | refine C_skip ?_
 | refine C_drawV (id := 3) 8 [(0, true), (2, true), (1, false), (3, false), (4, true), (5, true), (6, true), (7, true)] rfl mixed (by kernel_rfl) rfl ?_
 | refine C_drawV (id := 4) 9 [(0, true), (2, true), (1, false), (3, false), (4, false), (5, true), (6, true), (7, true), (8, true)] rfl mixed (by kernel_rfl) rfl ?_
 | refine C_drawV (id := 6) 8 [(0, true), (1, true), (5, true), (6, true), (2, false), (3, false), (4, false), (7, false)] rfl mixed (by kernel_rfl) rfl ?_
 | refine C_condF rfl obQ ?_
       )
 | (refine S_id ?_; first
 | ((with_reducible (first | refine S_falseN ?_ ?_ | refine S_falseB ?_ ?_ | refine S_falseL ?_ ?_ | refine S_falseD ?_ ?_ | refine S_falseE ?_ ?_)); · (first | rfl | (rw [beq_eq_false_iff_ne]; assumption) | omega))
 | ((with_reducible refine S_falseO ?_ ?_ ?_); (· rfl); (· first | rfl | (first | rfl | (rw [beq_eq_false_iff_ne]; assumption) | omega)))
 | ((with_reducible (first | refine S_trueE ?_ ?_ | refine S_trueB ?_ ?_ | refine S_trueL ?_ ?_ | refine S_trueD ?_ ?_ | refine S_trueN ?_ ?_)); · (first | exact beq_self_eq_true _ | rfl | omega))
 | refine S_unG rfl rfl rfl rfl ?_
 | (refine S_callM (f := 87) rfl obQ (by kernel_rfl) (fun w hw => lplanes_c A c g hg6 w (hw.rdm hr.toS memQ)) (fun w1G w2G vG hw1G hbG hRG => ?_); obtain ⟨AG, cG, rfl, hSG⟩ := hRG)
 | (refine S_callM (f := 62) rfl obQ (by kernel_rfl) (fun w hw => lthree_c x y z _ _ _ _ _ _ hsx hsy hsz hax hay haz w (hw.rdm hrx.toS memQ) (hw.rdm hry.toS memQ) (hw.rdm hrz.toS memQ)) (fun w1T w2T vT hw1T hbT hRT => ?_); obtain ⟨TX, eX, TY, eY, TZ, eZ, rfl, hSTX, hSTY, hSTZ⟩ := hRT)
 | (refine S_callM (f := 88) rfl obQ (by kernel_rfl) (fun w hw => ViolationsE_c _ _ g hg6 x y z _ _ _ _ _ _ hsx hsy hsz hvi w (hw.rdm hSG memQ) (hw.rdm hSTX memQ) (hw.rdm hSTY memQ) (hw.rdm hSTZ memQ)) (fun w1L w2L vL hw1L hbL hRL => ?_); obtain ⟨AL, cL, rfl, hSL⟩ := hRL)
 | refine S_nil ?_
 | refine S_runN rfl rfl obQ obQ ?_
 | refine S_box (fun bb => ⟨_, _, rfl, obQ, ?_⟩)
 | refine S_slice (fun b => ⟨_, _, rfl, obQ, ?_⟩)
 | refine S_call (f := 85) rfl obQ (by kernel_rfl) (fun w hw => rShortGamut_c _ _ _ _ hSg w) ?_
 | refine S_call (f := 54) rfl obQ (by kernel_rfl) (fun w hw => rShortPicture_c x _ _ _ hSx w) ?_
 | refine S_call (f := 54) rfl obQ (by kernel_rfl) (fun w hw => rShortPicture_c y _ _ _ hSy w) ?_
 | refine S_call (f := 54) rfl obQ (by kernel_rfl) (fun w hw => rShortPicture_c z _ _ _ hSz w) ?_
 | refine S_call (f := 86) rfl obQ (by kernel_rfl) (fun w hw => legal_as hLG hg6 (hw.rdm hSG memQ)) ?_
 | refine S_call (f := 89) rfl obQ (by kernel_rfl) (fun w hw => rCheckGamut_c A c g hg6 w (hw.rdm hr.toS memQ)) ?_
 | refine S_call (f := 42) rfl obQ (by kernel_rfl) (fun w hw => rCheckCol_c cc w) ?_
 | refine S_call (f := 63) rfl obQ (by kernel_rfl) (fun w hw => rCheckThree_c x y z _ _ _ _ _ _ hsx hsy hsz hnx hny hnz w (hw.rdm hrx.toS memQ) (hw.rdm hry.toS memQ) (hw.rdm hrz.toS memQ)) ?_
 | refine S_call (f := 27) rfl obQ (by kernel_rfl) (fun w hw => lfirstE_c (l := [gmE g, colE cc]) hT (by simp) rfl _ w (.inr ⟨_, rfl, hw.src (i := 2) rfl rfl⟩)) ?_
 | refine S_call (f := 27) rfl obQ (by kernel_rfl) (fun w hw => lfirstE_c (l := [gmE g, thE x y z]) hU (by simp) rfl _ w (.inr ⟨_, rfl, hw.src (i := 3) rfl rfl⟩)) ?_
 | refine S_call (f := 90) rfl obQ (by kernel_rfl) (fun w hw => rForbidden_c A c g cc hgk hcol w (hw.rdm hr.toS memQ)) ?_
       )
 | (refine V_id ?_; first
 | refine V_nil ?_
 | refine V_q rfl (Yl_step rfl obQ) ?_
 | refine V_n rfl ?_
       )
 | (refine G_id ?_; first
 | refine G_V ⟨⟨_, rfl, trivial⟩, ⟨_, rfl⟩, rfl, pstQ⟩ rfl ?_
 | refine G_then ?_
       )
       )
      refine C_row0 16 154 2 rfl ?_
      repeat' (first
 | (refine C_id ?_; first
 | refine C_regionNe 12 rfl rfl ?_
 | refine C_block ?_
       )
 | (refine S_id ?_; first
 | refine S_nil ?_
 | refine S_runN rfl rfl obQ obQ ?_
       )
 | (refine G_id ?_; first
 | refine G_then ?_
       )
       )
      refine C_loopS (fun i : Nat × Option Addr × Nat => ⟨[(16, .s (.r i.2.1 i.1 i.2.2 0)), (83, .s (.v (.int .i64 i.1))), (7, .s (.v (.bool (decide (fbF g cc < 0))))), (8, .s (.v (.int .i64 (0)))), (14, .s (.v (.bool (decide (fbF g cc < 0))))), (12, .s (.v (.int .i64 (0)))), (15, .s (.v (.slice none 0 0))), (10, .s (.v (.int .i64 (viE g x y z)))), (13, .s (.v (.int .i64 (viE g x y z)))), (81, .s (.v (.slice AL ([] : List Pt).length cL))), (82, .s (.v (.int .i64 ((([] : List Pt).length : Nat) : Int))))], [], [⟨154, 2, i.1, (List.take i.1 ([] : List Pt)).flatMap ptC, .slice i.2.1 i.1 i.2.2⟩]⟩) (fun i => i.1 ≤ ([] : List Pt).length) (fun i => ([] : List Pt).length - i.1) (0, none, 0) (Nat.zero_le _) ?_ (fun i hi => ?_)
      · exact ⟨⟨_, rfl, obQ⟩, ⟨_, rfl⟩, rfl, pstQ⟩
      obtain ⟨k, A', c'⟩ := i
      have hk : k ≤ ([] : List Pt).length := hi
      dsimp only
      by_cases hlt : k < ([] : List Pt).length
      · exact absurd hlt (by simp)
      · have hke : k = ([] : List Pt).length := by omega
        rw [hke, List.take_length]
        repeat' (first
 | (refine C_id ?_; first
 | refine C_seq ?_
 | refine C_region rfl ?_
 | refine C_exit ?_
 | refine C_ret0 ?_
 | refine C_condF rfl obQ ?_
         )
 | (refine S_id ?_; first
 | ((with_reducible (first | refine S_falseN ?_ ?_ | refine S_falseB ?_ ?_ | refine S_falseL ?_ ?_ | refine S_falseD ?_ ?_ | refine S_falseE ?_ ?_)); · (first | rfl | (rw [beq_eq_false_iff_ne]; assumption) | omega))
 | ((with_reducible (first | refine S_trueE ?_ ?_ | refine S_trueB ?_ ?_ | refine S_trueL ?_ ?_ | refine S_trueD ?_ ?_ | refine S_trueN ?_ ?_)); · (first | exact beq_self_eq_true _ | rfl | omega))
 | ((with_reducible refine S_trueA ?_ ?_ ?_); (· rfl); (· first | rfl | (first | exact beq_self_eq_true _ | rfl | omega)))
 | refine S_unG rfl rfl rfl rfl ?_
 | refine S_pure (binX_pure rfl obQ (fun w => eqbV (by kernel_rfl) _ _ w)) ?_
 | refine S_nil ?_
 | refine S_runN rfl rfl obQ obQ ?_
 | refine S_call (f := 20) rfl obQ (by kernel_rfl) (fun w hw => awake_c w (hw.rdm hO.toS memQ) (Pw_at hP hw memQ)) ?_
 | refine S_call (f := 92) rfl obQ (by kernel_rfl) (fun w hw => rSameV_c _ _ _ _ ([] : List Pt) hVl w (hw.rdRow (i := 0) rfl rfl) (.inl rfl)) ?_
         )
 | (refine G_id ?_; first
 | refine G_then ?_
 | refine G_blockX ?_
 | refine G_thenX ?_
 | refine G_ret rfl obQ (fun w hw => ⟨?_, hw.below⟩)
         )
         )
        all_goals rfl
      
    · have hT : firstL [gmE g, colE cc] = lgE g cc := rfl
      have hLG : lgR g cc = (false, lgE g cc) := if_neg hlg
      repeat' (first
 | (refine C_id ?_; first
 | refine C_seq ?_
 | refine C_regionNe 11 rfl rfl ?_
 | refine C_skip ?_
 | refine C_drawV (id := 3) 8 [(0, true), (2, true), (1, false), (3, false), (4, true), (5, true), (6, true), (7, true)] rfl mixed (by kernel_rfl) rfl ?_
 | refine C_drawV (id := 4) 9 [(0, true), (2, true), (1, false), (3, false), (4, false), (5, true), (6, true), (7, true), (8, true)] rfl mixed (by kernel_rfl) rfl ?_
 | refine C_drawV (id := 6) 8 [(0, true), (1, true), (5, true), (6, true), (2, false), (3, false), (4, false), (7, false)] rfl mixed (by kernel_rfl) rfl ?_
 | refine C_condF rfl obQ ?_
       )
 | (refine S_id ?_; first
 | ((with_reducible (first | refine S_falseN ?_ ?_ | refine S_falseB ?_ ?_ | refine S_falseL ?_ ?_ | refine S_falseD ?_ ?_ | refine S_falseE ?_ ?_)); · (first | rfl | (rw [beq_eq_false_iff_ne]; assumption) | omega))
 | ((with_reducible refine S_falseO ?_ ?_ ?_); (· rfl); (· first | rfl | (first | rfl | (rw [beq_eq_false_iff_ne]; assumption) | omega)))
 | refine S_unG rfl rfl rfl rfl ?_
 | refine S_offG (.v (.bool false)) rfl rfl rfl rfl rfl ?_
 | (refine S_callM (f := 87) rfl obQ (by kernel_rfl) (fun w hw => lplanes_c A c g hg6 w (hw.rdm hr.toS memQ)) (fun w1G w2G vG hw1G hbG hRG => ?_); obtain ⟨AG, cG, rfl, hSG⟩ := hRG)
 | (refine S_callM (f := 62) rfl obQ (by kernel_rfl) (fun w hw => lthree_c x y z _ _ _ _ _ _ hsx hsy hsz hax hay haz w (hw.rdm hrx.toS memQ) (hw.rdm hry.toS memQ) (hw.rdm hrz.toS memQ)) (fun w1T w2T vT hw1T hbT hRT => ?_); obtain ⟨TX, eX, TY, eY, TZ, eZ, rfl, hSTX, hSTY, hSTZ⟩ := hRT)
 | (refine S_callM (f := 88) rfl obQ (by kernel_rfl) (fun w hw => ViolationsE_c _ _ g hg6 x y z _ _ _ _ _ _ hsx hsy hsz hvi w (hw.rdm hSG memQ) (hw.rdm hSTX memQ) (hw.rdm hSTY memQ) (hw.rdm hSTZ memQ)) (fun w1L w2L vL hw1L hbL hRL => ?_); obtain ⟨AL, cL, rfl, hSL⟩ := hRL)
 | refine S_nil ?_
 | refine S_runN rfl rfl obQ obQ ?_
 | refine S_box (fun bb => ⟨_, _, rfl, obQ, ?_⟩)
 | refine S_slice (fun b => ⟨_, _, rfl, obQ, ?_⟩)
 | refine S_call (f := 85) rfl obQ (by kernel_rfl) (fun w hw => rShortGamut_c _ _ _ _ hSg w) ?_
 | refine S_call (f := 54) rfl obQ (by kernel_rfl) (fun w hw => rShortPicture_c x _ _ _ hSx w) ?_
 | refine S_call (f := 54) rfl obQ (by kernel_rfl) (fun w hw => rShortPicture_c y _ _ _ hSy w) ?_
 | refine S_call (f := 54) rfl obQ (by kernel_rfl) (fun w hw => rShortPicture_c z _ _ _ hSz w) ?_
 | refine S_call (f := 86) rfl obQ (by kernel_rfl) (fun w hw => legal_as hLG hg6 (hw.rdm hSG memQ)) ?_
 | refine S_call (f := 89) rfl obQ (by kernel_rfl) (fun w hw => rCheckGamut_c A c g hg6 w (hw.rdm hr.toS memQ)) ?_
 | refine S_call (f := 42) rfl obQ (by kernel_rfl) (fun w hw => rCheckCol_c cc w) ?_
 | refine S_call (f := 63) rfl obQ (by kernel_rfl) (fun w hw => rCheckThree_c x y z _ _ _ _ _ _ hsx hsy hsz hnx hny hnz w (hw.rdm hrx.toS memQ) (hw.rdm hry.toS memQ) (hw.rdm hrz.toS memQ)) ?_
 | refine S_call (f := 27) rfl obQ (by kernel_rfl) (fun w hw => lfirstE_c (l := [gmE g, colE cc]) hT (by simp) rfl _ w (.inr ⟨_, rfl, hw.src (i := 2) rfl rfl⟩)) ?_
 | refine S_call (f := 27) rfl obQ (by kernel_rfl) (fun w hw => lfirstE_c (l := [gmE g, thE x y z]) hU (by simp) rfl _ w (.inr ⟨_, rfl, hw.src (i := 3) rfl rfl⟩)) ?_
       )
 | (refine V_id ?_; first
 | refine V_nil ?_
 | refine V_q rfl (Yl_step rfl obQ) ?_
 | refine V_n rfl ?_
       )
 | (refine G_id ?_; first
 | refine G_V ⟨⟨_, rfl, trivial⟩, ⟨_, rfl⟩, rfl, pstQ⟩ rfl ?_
 | refine G_then ?_
       )
       )
      refine C_row0 16 154 2 rfl ?_
      repeat' (first
 | (refine C_id ?_; first
 | refine C_regionNe 12 rfl rfl ?_
 | refine C_block ?_
       )
 | (refine S_id ?_; first
 | refine S_nil ?_
 | refine S_runN rfl rfl obQ obQ ?_
       )
 | (refine G_id ?_; first
 | refine G_then ?_
       )
       )
      refine C_loopS (fun i : Nat × Option Addr × Nat => ⟨[(16, .s (.r i.2.1 i.1 i.2.2 0)), (83, .s (.v (.int .i64 i.1))), (7, .s (.v (.bool false))), (8, .s (.v (.int .i64 (lgE g cc)))), (14, .s (.v (.bool false))), (12, .s (.v (.int .i64 (lgE g cc)))), (15, .s (.v (.slice none 0 0))), (10, .s (.v (.int .i64 (viE g x y z)))), (13, .s (.v (.int .i64 (viE g x y z)))), (81, .s (.v (.slice AL ([] : List Pt).length cL))), (82, .s (.v (.int .i64 ((([] : List Pt).length : Nat) : Int))))], [], [⟨154, 2, i.1, (List.take i.1 ([] : List Pt)).flatMap ptC, .slice i.2.1 i.1 i.2.2⟩]⟩) (fun i => i.1 ≤ ([] : List Pt).length) (fun i => ([] : List Pt).length - i.1) (0, none, 0) (Nat.zero_le _) ?_ (fun i hi => ?_)
      · exact ⟨⟨_, rfl, obQ⟩, ⟨_, rfl⟩, rfl, pstQ⟩
      obtain ⟨k, A', c'⟩ := i
      have hk : k ≤ ([] : List Pt).length := hi
      dsimp only
      by_cases hlt : k < ([] : List Pt).length
      · exact absurd hlt (by simp)
      · have hke : k = ([] : List Pt).length := by omega
        rw [hke, List.take_length]
        repeat' (first
 | (refine C_id ?_; first
 | refine C_seq ?_
 | refine C_region rfl ?_
 | refine C_exit ?_
 | refine C_ret0 ?_
 | refine C_condF rfl obQ ?_
         )
 | (refine S_id ?_; first
 | ((with_reducible (first | refine S_falseN ?_ ?_ | refine S_falseB ?_ ?_ | refine S_falseL ?_ ?_ | refine S_falseD ?_ ?_ | refine S_falseE ?_ ?_)); · (first | rfl | (rw [beq_eq_false_iff_ne]; assumption) | omega))
 | ((with_reducible (first | refine S_trueE ?_ ?_ | refine S_trueB ?_ ?_ | refine S_trueL ?_ ?_ | refine S_trueD ?_ ?_ | refine S_trueN ?_ ?_)); · (first | exact beq_self_eq_true _ | rfl | omega))
 | ((with_reducible refine S_trueA ?_ ?_ ?_); (· rfl); (· first | rfl | (first | exact beq_self_eq_true _ | rfl | omega)))
 | refine S_unG rfl rfl rfl rfl ?_
 | refine S_pure (binX_pure rfl obQ (fun w => eqbV (by kernel_rfl) _ _ w)) ?_
 | refine S_nil ?_
 | refine S_runN rfl rfl obQ obQ ?_
 | refine S_call (f := 20) rfl obQ (by kernel_rfl) (fun w hw => awake_c w (hw.rdm hO.toS memQ) (Pw_at hP hw memQ)) ?_
 | refine S_call (f := 92) rfl obQ (by kernel_rfl) (fun w hw => rSameV_c _ _ _ _ ([] : List Pt) hVl w (hw.rdRow (i := 0) rfl rfl) (.inl rfl)) ?_
         )
 | (refine G_id ?_; first
 | refine G_then ?_
 | refine G_blockX ?_
 | refine G_thenX ?_
 | refine G_ret rfl obQ (fun w hw => ⟨?_, hw.below⟩)
         )
         )
        all_goals rfl
      

end Go.Proofs.YtdbffbcobghbeaaGreatDoor
