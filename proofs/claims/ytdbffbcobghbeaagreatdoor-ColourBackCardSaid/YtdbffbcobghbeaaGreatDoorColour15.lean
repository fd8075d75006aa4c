/- Shading: the program. -/
import Derived.Test.YtdbffbcobghbeaaGreatDoorColour14
import Derived.Test.YtdbffbcobghbeaaGreatDoorColour10
namespace Go.Proofs.YtdbffbcobghbeaaGreatDoor
open Go.E Go.RowKit Go.Fl
attribute [local irreducible] G C S D Calls
set_option maxRecDepth 100000
set_option linter.unusedSimpArgs false
set_option linter.unusedVariables false

set_option maxHeartbeats 400000 in
/-- colour.checkGains$1 -/
theorem gain1_c (n : Int) (w : World) : Calls Tryz.prog 180 #[.int .i64 n] w fun r w' => r = .returned (.int .i64 (wi n 0 512)) ∧ Below w.heap.size w w' := by
  refine calls_of (args := [.int .i64 n]) T_ok Tryz.func180 rfl Tryz.ntmps180 (Nat.le_of_ble_eq_true rfl) rfl ?_
  repeat' (first
 | (refine C_id ?_; first
 | refine C_seq ?_
 | refine C_region rfl ?_
 | refine C_ret0 ?_
 )
 | (refine S_id ?_; first
 | refine S_nil ?_
 | refine S_run rfl rfl obQ obQ ?_
 | refine S_call (f := 116) rfl obQ (by kernel_rfl) (fun w hw => cwithin_c _ _ _ w) ?_
 )
 | (refine G_id ?_; first
 | refine G_then ?_
 | refine G_ret rfl obQ (fun w hw => ⟨?_, hw.below⟩)
 )
 )
  rfl

def gnE (l : List Int) (n : Int) : Int := if (l.length : Int) = n then firstL (l.map fun g => wi g 0 512) else 2
theorem gnE_ok {l : List Int} {n : Int} (h : gnE l n = 0) : (l.length : Int) = n ∧ ∀ g ∈ l, 0 ≤ g ∧ g ≤ 512 := by
  unfold gnE at h
  split at h
  · rename_i h1
    rw [firstL_zero] at h
    exact ⟨h1, fun g hg => (wi_eq _ _ _).1 (h _ (List.mem_map.2 ⟨g, hg, rfl⟩))⟩
  · cases h
theorem gnE_1 {l : List Int} {n : Int} (h : (l.length : Int) = n) : gnE l n = firstL (l.map fun g => wi g 0 512) := if_pos h
theorem gnE_2 {l : List Int} {n : Int} (h : ¬ (l.length : Int) = n) : gnE l n = 2 := if_neg h
def gI (l : List Int) (k : Nat) : Int := l.getD k 0
theorem gI_at {l : List Int} {k : Nat} (h : k < l.length) : gI l k = l[k] := by simp [gI, h]
theorem gI_mem {l : List Int} {k : Nat} (h : k < l.length) : gI l k ∈ l := by rw [gI_at h]; exact List.getElem_mem h
theorem gI_idxZ {l : List Int} {k : Nat} {z : Int} (e : z = k) (h : k < l.length) : ∀ (j : Nat) (u : Value), ([.int .i64 (gI l k)] : List Value)[j]? = some u → (l.map (Value.int .i64))[(z.toNat * 1 + j)]? = some u := by
  subst e
  rw [gI_at h]
  exact idx1 h
/-- A picture that a call has made, and an error. -/
def PicR (w w' : World) (v : Value) (q : Pic) (e : Int) : Prop := ∃ A c, v = .tuple #[.agg #[.string q.nm, .int .i64 q.w, .int .i64 q.h, .slice A q.s.length c], .int .i64 e] ∧ RdS (fun b => w.heap.size ≤ b ∧ b < w'.heap.size) w' A (q.s.map (.float .f32))
def zP : Pic := ⟨ByteArray.empty, 0, 0, []⟩
theorem PicR.zero (w w' : World) (e : Int) : PicR w w' (.tuple #[.agg #[.string ByteArray.empty, .int .i64 0, .int .i64 0, .slice none 0 0], .int .i64 e]) zP e := ⟨none, 0, rfl, .inl rfl⟩
theorem PicR.of {w w' : World} {s : List Nat} {v : Value} {n : Nat} (h : Sl w w' v n (s.map (.float .f32))) (hn : n = s.length) {nm : ByteArray} {a b e : Int} {u : Value} (hu : u = .tuple #[.agg #[.string nm, .int .i64 a, .int .i64 b, v], .int .i64 e]) : PicR w w' u ⟨nm, a, b, s⟩ e := by
  obtain ⟨A, c, rfl, hr⟩ := h
  subst hn
  exact ⟨A, c, hu, hr⟩
/-- The integer of a shaded sample. -/
def shN (p : Pic) (cs rs : List Int) (k : Nat) : Int := rnd (lvl (gB p.s k) * gI cs ((k : Int) % p.w).toNat * gI rs ((k : Int) / p.w).toNat) 65536
def shE (p : Pic) (cs rs : List Int) : Int := firstL [gnE cs p.w, gnE rs p.h]
def shOk (p : Pic) (cs rs : List Int) : Bool := (List.range p.s.length).all fun k => decide (lvE (shN p cs rs k) = 0)
def shP (p : Pic) (cs rs : List Int) : Pic := ⟨p.nm, p.w, p.h, (List.range p.s.length).map fun k => smp (shN p cs rs k)⟩
/-- The shaded picture, and the error. -/
def shR (p : Pic) (cs rs : List Int) : Pic × Int := if picE p = 0 then (if shE p cs rs = 0 then (if shOk p cs rs = true then (shP p cs rs, 0) else (zP, 4)) else (zP, shE p cs rs)) else (zP, picE p)
theorem shE_ok {p : Pic} {cs rs : List Int} (h : shE p cs rs = 0) : gnE cs p.w = 0 ∧ gnE rs p.h = 0 := by
  unfold shE at h
  rw [firstL_zero] at h
  simpa using h
theorem shR_1 {p : Pic} {cs rs : List Int} (h : ¬ picE p = 0) : shR p cs rs = (zP, picE p) := if_neg h
theorem shR_2 {p : Pic} {cs rs : List Int} (h : picE p = 0) (h2 : ¬ shE p cs rs = 0) : shR p cs rs = (zP, shE p cs rs) := by rw [shR, if_pos h, if_neg h2]
theorem shR_3 {p : Pic} {cs rs : List Int} (h : picE p = 0) (h2 : shE p cs rs = 0) {k : Nat} (hk : k < p.s.length) (h3 : ¬ lvE (shN p cs rs k) = 0) : shR p cs rs = (zP, 4) := by
  have : shOk p cs rs = false := by
    unfold shOk
    rw [List.all_eq_false]
    exact ⟨k, List.mem_range.2 hk, by simp [h3]⟩
  rw [shR, if_pos h, if_pos h2, this, if_neg (by simp)]
theorem shR_4 {p : Pic} {cs rs : List Int} (h : picE p = 0) (h2 : shE p cs rs = 0) (h3 : ∀ k, k < p.s.length → lvE (shN p cs rs k) = 0) : shR p cs rs = (shP p cs rs, 0) := by
  have : shOk p cs rs = true := by
    unfold shOk
    rw [List.all_eq_true]
    exact fun k hk => by simp [h3 k (List.mem_range.1 hk)]
  rw [shR, if_pos h, if_pos h2, this, if_pos rfl]
theorem lvE_ok {n : Int} (h : lvE n = 0) : -16384 ≤ n ∧ n ≤ 16384 := (wi_eq _ _ _).1 h
theorem range_map_succ {α : Type} (f : Nat → α) (k : Nat) : (List.range (k + 1)).map f = (List.range k).map f ++ [f k] := by rw [List.range_succ, List.map_append]; rfl
theorem sh_bd {p : Pic} {cs rs : List Int} (hp : PicOk p) (hc : gnE cs p.w = 0) (hr : gnE rs p.h = 0) {k : Nat} (hk : k < p.s.length) :
    (0 ≤ (k : Int) % p.w ∧ (k : Int) % p.w < cs.length) ∧ (0 ≤ (k : Int) / p.w ∧ (k : Int) / p.w < rs.length) ∧
    (-8388608 ≤ lvl (gB p.s k) * gI cs ((k : Int) % p.w).toNat ∧ lvl (gB p.s k) * gI cs ((k : Int) % p.w).toNat ≤ 8388608) ∧
    (-4294967296 ≤ lvl (gB p.s k) * gI cs ((k : Int) % p.w).toNat * gI rs ((k : Int) / p.w).toNat ∧ lvl (gB p.s k) * gI cs ((k : Int) % p.w).toNat * gI rs ((k : Int) / p.w).toNat ≤ 4294967296) := by
  obtain ⟨c1, c2⟩ := gnE_ok hc
  obtain ⟨r1, r2⟩ := gnE_ok hr
  have hw := hp.w
  have hn := hp.n
  have g1 := Int.emod_nonneg (k : Int) (show p.w ≠ 0 by omega)
  have g2 := Int.emod_lt_of_pos (k : Int) (show 0 < p.w by omega)
  have g3 := Int.ediv_nonneg (show 0 ≤ (k : Int) by omega) (show 0 ≤ p.w by omega)
  have g4 : (k : Int) / p.w < p.h := Int.ediv_lt_of_lt_mul (by omega) (by rw [Int.mul_comm]; omega)
  have hl := (hp.s _ (gB_mem hk)).lv
  have hc1 := c2 _ (gI_mem (l := cs) (k := ((k : Int) % p.w).toNat) (by omega))
  have hr1 := r2 _ (gI_mem (l := rs) (k := ((k : Int) / p.w).toNat) (by omega))
  have m1 := mul_ab (A := 16384) (X := 512) hl (show -512 ≤ gI cs ((k : Int) % p.w).toNat ∧ gI cs ((k : Int) % p.w).toNat ≤ 512 by omega)
  have m2 := mul_ab (A := 8388608) (X := 512) (a := lvl (gB p.s k) * gI cs ((k : Int) % p.w).toNat) (by omega) (show -512 ≤ gI rs ((k : Int) / p.w).toNat ∧ gI rs ((k : Int) / p.w).toNat ≤ 512 by omega)
  exact ⟨⟨g1, by omega⟩, ⟨g3, by omega⟩, by omega, by omega⟩

set_option maxHeartbeats 400000 in
/-- colour.checkGains -/
theorem checkGains_c (A : Option Addr) (c : Nat) (l : List Int) (hl : l.length ≤ 1000000) (n : Int) (w : World) (hr : Rd w A (l.map (.int .i64))) : Calls Tryz.prog 138 #[.slice A l.length c, .int .i64 n] w fun r w' => r = .returned (.int .i64 (gnE l n)) ∧ Below w.heap.size w w' := by
  refine calls_of (args := [.slice A l.length c, .int .i64 n]) T_ok Tryz.func138 rfl Tryz.ntmps138 (Nat.le_of_ble_eq_true rfl) rfl ?_
  repeat' (first
 | (refine C_id ?_; first
 | refine C_seq ?_
 | refine C_region rfl ?_
 | refine C_skip ?_
 | refine C_ret0 ?_
 | (refine C_cond rfl obQ (fun h => ?_) (fun h => ?_) <;> (try simp only [Bool.or_eq_true, Bool.and_eq_true, Bool.or_eq_false_iff, Bool.and_eq_false_iff, decide_eq_true_eq, decide_eq_false_iff_not, beq_iff_eq, bne_iff_ne, beq_eq_false_iff_ne, bne_eq_false_iff_eq, ne_eq, Decidable.not_not, List.cons.injEq, and_true, Bool.not_eq_true', Bool.not_eq_false', Int.not_lt, Int.not_le] at h))
 )
 | (refine S_id ?_; first
 | refine S_nil ?_
 | refine S_run rfl rfl obQ obQ ?_
 | refine S_call (f := 111) rfl obQ (by kernel_rfl) (fun w hw => cfirstM_c _ _ (fun g => wi g 0 512) l hl w (hw.rdm hSM memQ)) ?_
 | (refine S_callM (f := 129) rfl obQ (by kernel_rfl) (fun w hw => mappedIE_c 180 (g := fun g => wi g 0 512) A c l hl (by kernel_rfl) w (hw.rdm hr.toS memQ) (fun x _ W _ => gain1_c x W)) (fun w1M w2M vM hw1M hbM hRM => ?_); obtain ⟨AM, cM, rfl, hSM⟩ := hRM)
 )
 | (refine G_id ?_; first
 | refine G_then ?_
 | refine G_thenR ?_
 | refine G_ret rfl obQ (fun w hw => ⟨?_, hw.below⟩)
 )
 )
  · exact rI (gnE_2 h).symm
  · exact rI (gnE_1 h).symm

set_option maxHeartbeats 2000000 in
/-- colour.Shaded -/
theorem Shaded_c (p : Pic) (A B C : Option Addr) (c c2 c3 : Nat) (cs rs : List Int) (hs : p.s.length ≤ 1000000) (hcs : cs.length ≤ 1000000) (hrs : rs.length ≤ 1000000) (w : World) (hr : Rd w A (p.s.map (.float .f32))) (hr2 : Rd w B (cs.map (.int .i64))) (hr3 : Rd w C (rs.map (.int .i64))) : Calls Tryz.prog 55 #[.agg #[.string p.nm, .int .i64 p.w, .int .i64 p.h, .slice A p.s.length c], .slice B cs.length c2, .slice C rs.length c3] w fun r w' => ∃ v, r = .returned v ∧ Below w.heap.size w w' ∧ PicR w w' v (shR p cs rs).1 (shR p cs rs).2 := by
  refine calls_of (args := [.agg #[.string p.nm, .int .i64 p.w, .int .i64 p.h, .slice A p.s.length c], .slice B cs.length c2, .slice C rs.length c3]) T_ok Tryz.func55 rfl Tryz.ntmps55 (Nat.le_of_ble_eq_true rfl) rfl ?_
  by_cases hE : picE p = 0
  · have hp := pic_ok.1 hE
    by_cases hG : shE p cs rs = 0
    · obtain ⟨hg1, hg2⟩ := shE_ok hG
      have hpw := hp.w
      repeat' (first
 | (refine C_id ?_; first
 | refine C_seq ?_
 | refine C_region rfl ?_
 | refine C_block ?_
 | refine C_skip ?_
 | refine C_drawT (id := 4) 8 rfl mixed (by kernel_rfl) rfl rfl ?_
 | (refine C_cond rfl obQ (fun h => ?_) (fun h => ?_) <;> (try simp only [Bool.or_eq_true, Bool.and_eq_true, Bool.or_eq_false_iff, Bool.and_eq_false_iff, decide_eq_true_eq, decide_eq_false_iff_not, beq_iff_eq, bne_iff_ne, beq_eq_false_iff_ne, bne_eq_false_iff_eq, ne_eq, Decidable.not_not, List.cons.injEq, and_true, Bool.not_eq_true', Bool.not_eq_false', Int.not_lt, Int.not_le] at h) <;> (try (exfalso; omega)) <;> (try (exfalso; simp at h; done)) <;> (try (exfalso; simp only [not_true_eq_false, false_or, or_false] at h; omega)) <;> (try contradiction))
       )
 | (refine S_id ?_; first
 | refine S_nil ?_
 | refine S_run rfl rfl obQ obQ ?_
 | refine S_box (fun b => ⟨_, _, rfl, obQ, ?_⟩)
 | refine S_slice (fun b => ⟨_, _, rfl, obQ, ?_⟩)
 | refine S_call (f := 137) rfl obQ (by kernel_rfl) (fun w hw => checkPicture_c p A c hs w (hw.rdm hr.toS memQ)) ?_
 | refine S_call (f := 111) rfl obQ (by kernel_rfl) (fun w hw => cfirst_c _ _ [gnE cs p.w, gnE rs p.h] (by simp) w (.inr ⟨_, rfl, hw.src (i := 2) rfl rfl⟩)) ?_
       )
 | (refine D_id ?_; first
 | refine D_tail ?_
 | refine D_run rfl rfl obQ obQ ?_
 | refine D_call (f := 138) rfl obQ (by kernel_rfl) (fun w hw => checkGains_c B c2 cs hcs p.w w (hw.rdm hr2.toS memQ)) ?_
 | refine D_call (f := 138) rfl obQ (by kernel_rfl) (fun w hw => checkGains_c C c3 rs hrs p.h w (hw.rdm hr3.toS memQ)) ?_
       )
 | (refine G_id ?_; first
 | refine G_then ?_
       )
       )
      rename_i b3 b6 hz bs
      obtain ⟨b10, rfl⟩ : ∃ z, z = b := ⟨b, rfl⟩
      refine C_rowB 114 1 [⟨b3, 96, [.v (.string p.nm), .v (.int .i64 p.w), .v (.int .i64 p.h), .v (.slice A p.s.length c)]⟩, ⟨b6, 96, [.v (.string ByteArray.empty), .v (.int .i64 0), .v (.int .i64 0), .v (.slice none 0 0)]⟩, ⟨bs, 26, [.v (.int .i64 (gnE cs p.w)), .v (.int .i64 (gnE rs p.h))]⟩, ⟨b10, 96, [.v (.string p.nm), .v (.int .i64 p.w), .v (.int .i64 p.h), .r none 0 0 0]⟩] rfl ?_
      refine C_loopS (fun i : Nat × Option Addr × Nat => ⟨[(39, .s (.v (.int .i64 i.1))), (38, .s (.v (.int .i64 p.s.length))), (37, .s (.v (.slice A p.s.length c))), (1, .s (.v (.slice B cs.length c2))), (2, .s (.v (.slice C rs.length c3))), (3, .s (.p b3 0 0)), (6, .s (.p b6 1 0)), (7, .s (.v (.int .i64 0))), (10, .s (.p b10 3 0))], [⟨b3, 96, [.v (.string p.nm), .v (.int .i64 p.w), .v (.int .i64 p.h), .v (.slice A p.s.length c)]⟩, ⟨b6, 96, [.v (.string ByteArray.empty), .v (.int .i64 0), .v (.int .i64 0), .v (.slice none 0 0)]⟩, ⟨bs, 26, [.v (.int .i64 (gnE cs p.w)), .v (.int .i64 (gnE rs p.h))]⟩, ⟨b10, 96, [.v (.string p.nm), .v (.int .i64 p.w), .v (.int .i64 p.h), .r i.2.1 i.1 i.2.2 0]⟩], [⟨114, 1, i.1, (List.range i.1).map (fun j => Value.float .f32 (smp (shN p cs rs j))), .slice i.2.1 i.1 i.2.2⟩]⟩) (fun i => i.1 ≤ p.s.length ∧ ∀ j, j < i.1 → lvE (shN p cs rs j) = 0) (fun i => p.s.length - i.1) (0, none, 0) ⟨Nat.zero_le _, fun j hj => absurd hj (Nat.not_lt_zero j)⟩ ?_ (fun i hi => ?_)
      · exact ⟨⟨_, rfl, obQ⟩, ⟨_, rfl⟩, rfl, pstQ⟩
      obtain ⟨k, A', c'⟩ := i
      obtain ⟨hk, hi⟩ := hi
      dsimp only at hk hi ⊢
      by_cases hlt : k < p.s.length
      · obtain ⟨ad, rfl⟩ := hr.some (by simp; omega)
        obtain ⟨q1, q2, q3, q4⟩ := sh_bd hp hg1 hg2 hlt
        obtain ⟨bd, rfl⟩ := hr2.some (by simp; omega)
        obtain ⟨cd, rfl⟩ := hr3.some (by simp; omega)
        have hsm := hp.s _ (gB_mem hlt)
        have hmt := range_map_succ (fun j => Value.float .f32 (smp (shN p cs rs j))) k
        by_cases hL : lvE (shN p cs rs k) = 0
        · repeat' (first
 | (refine C_id ?_; first
 | refine C_seq ?_
 | refine C_region rfl ?_
 | refine C_block ?_
 | refine C_skip ?_
 | refine C_draw (id := 12) rfl mixed (by kernel_rfl) ?_
 | refine C_drawV (id := 15) 5 [(0, true), (1, true), (2, true), (3, false), (4, false)] rfl mixed (by kernel_rfl) rfl ?_
 | (refine C_cond rfl obQ (fun h => ?_) (fun h => ?_) <;> (try simp only [Bool.or_eq_true, Bool.and_eq_true, Bool.or_eq_false_iff, Bool.and_eq_false_iff, decide_eq_true_eq, decide_eq_false_iff_not, beq_iff_eq, bne_iff_ne, beq_eq_false_iff_ne, bne_eq_false_iff_eq, ne_eq, Decidable.not_not, List.cons.injEq, and_true, Bool.not_eq_true', Bool.not_eq_false', Int.not_lt, Int.not_le] at h) <;> (try (exfalso; omega)) <;> (try (exfalso; simp at h; done)) <;> (try (exfalso; simp only [not_true_eq_false, false_or, or_false] at h; omega)) <;> (try contradiction))
           )
 | (refine S_id ?_; first
 | refine S_load rfl obQ rfl [.float .f32 (gB p.s k)] (.past _ memQ _ _ hr.toS _ _ rfl rfl (gB_idx hlt)) rfl (.inr ⟨rfl, rfl⟩) ?_
 | refine S_append rfl obQ rfl rfl rfl ⟨by decide, rfl⟩ rfl ⟨rfl, rfl, rfl, rfl⟩ [.float .f32 (smp (shN p cs rs k))] ⟨by decide, rfl⟩ (by simp [Value.oneCell']) (fun w hw => by first | exact hw.src (i := 0) rfl rfl | exact hw.src (i := 1) rfl rfl | exact hw.src (i := 2) rfl rfl | exact hw.src (i := 3) rfl rfl | exact hw.src (i := 4) rfl rfl | exact hw.src (i := 5) rfl rfl | exact hw.src (i := 6) rfl rfl | exact hw.src (i := 7) rfl rfl | exact hw.src (i := 8) rfl rfl) (by unfold maxLen; dsimp only; omega) (fun gb cap' => ⟨_, rfl, ?_⟩)
 | refine S_nil ?_
 | refine S_run rfl rfl obQ obQ ?_
 | refine S_slice (fun b => ⟨_, _, rfl, obQ, ?_⟩)
 | refine S_call (f := 112) rfl obQ (by kernel_rfl) (fun w hw => ccheckLevel_c _ w) ?_
 | refine S_call (f := 141) rfl obQ (by kernel_rfl) (fun w hw => sample_c (shN p cs rs k) (lvE_ok h) w) ?_
           )
 | (refine D_id ?_; first
 | refine D_load rfl obQ rfl [.int .i64 (gI cs ((k : Int) % p.w).toNat)] (.past _ memQ _ _ hr2.toS _ _ rfl rfl (gI_idxZ (k := ((k : Int) % p.w).toNat) (by omega) (by omega))) rfl (.inr ⟨rfl, rfl⟩) ?_
 | refine D_load rfl obQ rfl [.int .i64 (gI rs ((k : Int) / p.w).toNat)] (.past _ memQ _ _ hr3.toS _ _ rfl rfl (gI_idxZ (k := ((k : Int) / p.w).toNat) (by omega) (by omega))) rfl (.inr ⟨rfl, rfl⟩) ?_
 | refine D_nil ?_
 | refine D_run rfl rfl obQ obQ ?_
 | refine D_call (f := 140) rfl obQ (by kernel_rfl) (fun w hw => level_c (gB p.s k) hsm.fin hsm.bd w) ?_
 | refine D_call (f := 139) rfl obQ (by kernel_rfl) (fun w hw => rounded_c _ _ (by omega) (by omega) w) ?_
           )
 | (refine V_id ?_; first
 | refine V_nil ?_
 | refine V_q rfl (Yl_step rfl obQ) ?_
 | refine V_n rfl ?_
           )
 | (refine G_id ?_; first
 | refine G_V ⟨⟨_, rfl, trivial⟩, ⟨_, rfl⟩, rfl, pstQ⟩ rfl ?_
 | refine G_loop (k + 1, some ⟨gb, 0, none⟩, cap') ⟨by show k + 1 ≤ _; omega, fun j hj => (Nat.lt_or_ge j k).elim (hi j) (fun h1 => by have e : j = k := (by have : j < k + 1 := hj; omega); rw [e]; exact hL)⟩ (by show p.s.length - (k + 1) < p.s.length - k; omega) ⟨⟨_, rfl, obQ⟩, ⟨_, rfl⟩, (by dsimp only; rw [hmt]), pstQ⟩
 | refine G_then ?_
 | refine G_block ?_
           )
           )
        · rw [shR_3 hE hG hlt hL]
          repeat' (first
 | (refine C_id ?_; first
 | refine C_seq ?_
 | refine C_region rfl ?_
 | refine C_block ?_
 | refine C_skip ?_
 | refine C_ret0 ?_
 | refine C_draw (id := 12) rfl mixed (by kernel_rfl) ?_
 | (refine C_cond rfl obQ (fun h => ?_) (fun h => ?_) <;> (try simp only [Bool.or_eq_true, Bool.and_eq_true, Bool.or_eq_false_iff, Bool.and_eq_false_iff, decide_eq_true_eq, decide_eq_false_iff_not, beq_iff_eq, bne_iff_ne, beq_eq_false_iff_ne, bne_eq_false_iff_eq, ne_eq, Decidable.not_not, List.cons.injEq, and_true, Bool.not_eq_true', Bool.not_eq_false', Int.not_lt, Int.not_le] at h) <;> (try (exfalso; omega)) <;> (try (exfalso; simp at h; done)) <;> (try (exfalso; simp only [not_true_eq_false, false_or, or_false] at h; omega)) <;> (try contradiction))
           )
 | (refine S_id ?_; first
 | refine S_load rfl obQ rfl [.float .f32 (gB p.s k)] (.past _ memQ _ _ hr.toS _ _ rfl rfl (gB_idx hlt)) rfl (.inr ⟨rfl, rfl⟩) ?_
 | refine S_nil ?_
 | refine S_run rfl rfl obQ obQ ?_
 | refine S_call (f := 112) rfl obQ (by kernel_rfl) (fun w hw => ccheckLevel_c _ w) ?_
           )
 | (refine D_id ?_; first
 | refine D_load rfl obQ rfl [.int .i64 (gI cs ((k : Int) % p.w).toNat)] (.past _ memQ _ _ hr2.toS _ _ rfl rfl (gI_idxZ (k := ((k : Int) % p.w).toNat) (by omega) (by omega))) rfl (.inr ⟨rfl, rfl⟩) ?_
 | refine D_load rfl obQ rfl [.int .i64 (gI rs ((k : Int) / p.w).toNat)] (.past _ memQ _ _ hr3.toS _ _ rfl rfl (gI_idxZ (k := ((k : Int) / p.w).toNat) (by omega) (by omega))) rfl (.inr ⟨rfl, rfl⟩) ?_
 | refine D_nil ?_
 | refine D_run rfl rfl obQ obQ ?_
 | refine D_call (f := 140) rfl obQ (by kernel_rfl) (fun w hw => level_c (gB p.s k) hsm.fin hsm.bd w) ?_
 | refine D_call (f := 139) rfl obQ (by kernel_rfl) (fun w hw => rounded_c _ _ (by omega) (by omega) w) ?_
           )
 | (refine G_id ?_; first
 | refine G_then ?_
 | refine G_blockR ?_
 | refine G_thenR ?_
 | refine G_ret rfl obQ (fun w2 hw => ⟨_, rfl, hw.below, PicR.zero _ _ _⟩)
           )
           )
      · obtain rfl : k = p.s.length := by omega
        rw [shR_4 hE hG hi]
        repeat' (first
 | (refine C_id ?_; first
 | refine C_seq ?_
 | refine C_region rfl ?_
 | refine C_exit ?_
 | refine C_ret0 ?_
 | (refine C_cond rfl obQ (fun h => ?_) (fun h => ?_) <;> (try simp only [Bool.or_eq_true, Bool.and_eq_true, Bool.or_eq_false_iff, Bool.and_eq_false_iff, decide_eq_true_eq, decide_eq_false_iff_not, beq_iff_eq, bne_iff_ne, beq_eq_false_iff_ne, bne_eq_false_iff_eq, ne_eq, Decidable.not_not, List.cons.injEq, and_true, Bool.not_eq_true', Bool.not_eq_false', Int.not_lt, Int.not_le] at h) <;> (try (exfalso; omega)))
         )
 | (refine S_id ?_; first
 | refine S_nil ?_
 | refine S_run rfl rfl obQ obQ ?_
         )
 | (refine G_id ?_; first
 | refine G_then ?_
 | refine G_blockX ?_
 | refine G_thenX ?_
 | refine G_ret rfl obQ (fun w2 hw => ⟨_, rfl, hw.below, PicR.of (s := (shP p cs rs).s) (HW.rowSl (i := 0) hw rfl rfl rfl (by dsimp only [shP]; rw [List.map_map]; rfl)) (by simp [shP]) rfl⟩)
         )
         )
    · rw [shR_2 hE hG]
      repeat' (first
 | (refine C_id ?_; first
 | refine C_seq ?_
 | refine C_region rfl ?_
 | refine C_skip ?_
 | refine C_ret0 ?_
 | refine C_drawT (id := 4) 8 rfl mixed (by kernel_rfl) rfl rfl ?_
 | (refine C_cond rfl obQ (fun h => ?_) (fun h => ?_) <;> (try simp only [Bool.or_eq_true, Bool.and_eq_true, Bool.or_eq_false_iff, Bool.and_eq_false_iff, decide_eq_true_eq, decide_eq_false_iff_not, beq_iff_eq, bne_iff_ne, beq_eq_false_iff_ne, bne_eq_false_iff_eq, ne_eq, Decidable.not_not, List.cons.injEq, and_true, Bool.not_eq_true', Bool.not_eq_false', Int.not_lt, Int.not_le] at h) <;> (try (exfalso; omega)) <;> (try (exfalso; simp at h; done)) <;> (try (exfalso; simp only [not_true_eq_false, false_or, or_false] at h; omega)) <;> (try contradiction))
       )
 | (refine S_id ?_; first
 | refine S_nil ?_
 | refine S_run rfl rfl obQ obQ ?_
 | refine S_box (fun b => ⟨_, _, rfl, obQ, ?_⟩)
 | refine S_slice (fun b => ⟨_, _, rfl, obQ, ?_⟩)
 | refine S_call (f := 137) rfl obQ (by kernel_rfl) (fun w hw => checkPicture_c p A c hs w (hw.rdm hr.toS memQ)) ?_
 | refine S_call (f := 111) rfl obQ (by kernel_rfl) (fun w hw => cfirst_c _ _ [gnE cs p.w, gnE rs p.h] (by simp) w (.inr ⟨_, rfl, hw.src (i := 2) rfl rfl⟩)) ?_
       )
 | (refine D_id ?_; first
 | refine D_tail ?_
 | refine D_run rfl rfl obQ obQ ?_
 | refine D_call (f := 138) rfl obQ (by kernel_rfl) (fun w hw => checkGains_c B c2 cs hcs p.w w (hw.rdm hr2.toS memQ)) ?_
 | refine D_call (f := 138) rfl obQ (by kernel_rfl) (fun w hw => checkGains_c C c3 rs hrs p.h w (hw.rdm hr3.toS memQ)) ?_
       )
 | (refine G_id ?_; first
 | refine G_then ?_
 | refine G_thenR ?_
 | refine G_ret rfl obQ (fun w2 hw => ⟨_, rfl, hw.below, PicR.zero _ _ _⟩)
       )
       )
  · rw [shR_1 hE]
    repeat' (first
 | (refine C_id ?_; first
 | refine C_seq ?_
 | refine C_region rfl ?_
 | refine C_skip ?_
 | refine C_ret0 ?_
 | refine C_drawT (id := 4) 8 rfl mixed (by kernel_rfl) rfl rfl ?_
 | (refine C_cond rfl obQ (fun h => ?_) (fun h => ?_) <;> (try simp only [Bool.or_eq_true, Bool.and_eq_true, Bool.or_eq_false_iff, Bool.and_eq_false_iff, decide_eq_true_eq, decide_eq_false_iff_not, beq_iff_eq, bne_iff_ne, beq_eq_false_iff_ne, bne_eq_false_iff_eq, ne_eq, Decidable.not_not, List.cons.injEq, and_true, Bool.not_eq_true', Bool.not_eq_false', Int.not_lt, Int.not_le] at h) <;> (try (exfalso; omega)) <;> (try (exfalso; simp at h; done)) <;> (try (exfalso; simp only [not_true_eq_false, false_or, or_false] at h; omega)) <;> (try contradiction))
     )
 | (refine S_id ?_; first
 | refine S_nil ?_
 | refine S_run rfl rfl obQ obQ ?_
 | refine S_box (fun b => ⟨_, _, rfl, obQ, ?_⟩)
 | refine S_slice (fun b => ⟨_, _, rfl, obQ, ?_⟩)
 | refine S_call (f := 137) rfl obQ (by kernel_rfl) (fun w hw => checkPicture_c p A c hs w (hw.rdm hr.toS memQ)) ?_
 | refine S_call (f := 111) rfl obQ (by kernel_rfl) (fun w hw => cfirst_c _ _ [gnE cs p.w, gnE rs p.h] (by simp) w (.inr ⟨_, rfl, hw.src (i := 2) rfl rfl⟩)) ?_
     )
 | (refine D_id ?_; first
 | refine D_tail ?_
 | refine D_run rfl rfl obQ obQ ?_
 | refine D_call (f := 138) rfl obQ (by kernel_rfl) (fun w hw => checkGains_c B c2 cs hcs p.w w (hw.rdm hr2.toS memQ)) ?_
 | refine D_call (f := 138) rfl obQ (by kernel_rfl) (fun w hw => checkGains_c C c3 rs hrs p.h w (hw.rdm hr3.toS memQ)) ?_
     )
 | (refine G_id ?_; first
 | refine G_then ?_
 | refine G_thenR ?_
 | refine G_ret rfl obQ (fun w2 hw => ⟨_, rfl, hw.below, PicR.zero _ _ _⟩)
     )
     )

end Go.Proofs.YtdbffbcobghbeaaGreatDoor
