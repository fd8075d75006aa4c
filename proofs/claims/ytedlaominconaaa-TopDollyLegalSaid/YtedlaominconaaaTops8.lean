/- Composite signals: a line decoded by itself. -/
import Derived.Test.YtedlaominconaaaTops7
namespace Go.Proofs.Ytedlaominconaaa
open Go.E Go.RowKit Go.Fl
attribute [local irreducible] G C S D Calls
set_option maxRecDepth 100000
set_option linter.unusedSimpArgs false
set_option linter.unusedVariables false

theorem sl_rd1 {w w' : World} {A : Option Addr} {n c : Nat} {xs : List Value} (h : Sl w w' (.slice A n c) n xs) : RdS (fun b => w.heap.size ≤ b ∧ b < w'.heap.size) w' A xs := by
  obtain ⟨A2, c2, e, h2⟩ := h
  injection e with e1 e2 e3
  subst e1
  exact h2
/-- Three slices, as a struct. -/
def SlT (w w' : World) (v : Value) (m n : Nat) (xs ys zs : List Value) : Prop := ∃ A c B c2 C c3, v = .agg #[.slice A m c, .slice B n c2, .slice C n c3] ∧ RdS (fun b => w.heap.size ≤ b ∧ b < w'.heap.size) w' A xs ∧ RdS (fun b => w.heap.size ≤ b ∧ b < w'.heap.size) w' B ys ∧ RdS (fun b => w.heap.size ≤ b ∧ b < w'.heap.size) w' C zs
/-- The same, and an error. -/
def SlTE (w w' : World) (v : Value) (m n : Nat) (xs ys zs : List Value) (e : Value) : Prop := ∃ A c B c2 C c3, v = .tuple #[.agg #[.slice A m c, .slice B n c2, .slice C n c3], e] ∧ RdS (fun b => w.heap.size ≤ b ∧ b < w'.heap.size) w' A xs ∧ RdS (fun b => w.heap.size ≤ b ∧ b < w'.heap.size) w' B ys ∧ RdS (fun b => w.heap.size ≤ b ∧ b < w'.heap.size) w' C zs
/-- The luma that is left. -/
def lmI (s : Int) (l us vs : List Int) : List Int := (List.range l.length).map fun k => gI l k - gI (carL s us vs us.length) k
theorem lmI_len (s : Int) (l us vs : List Int) : (lmI s l us vs).length = l.length := by simp [lmI]
theorem ddiff_as {ad : Addr} {c n m : Nat} {l us vs : List Int} {z s den : Int} (hl : l.length = 4 * n) (hm : 4 * n = m) (hn0 : 0 < n) (hn : n ≤ 1000) (hc : 4 * n ≤ c) (hb : ∀ x ∈ l, -100000 ≤ x ∧ x ≤ 100000) (hs : sgL z = s) (hz : z = 0 ∨ z = 1) (hd : 1 ≤ den ∧ den ≤ 100) (hu : (cyL l n).map (dU s den) = us) (hv : (cyL l n).map (dV s den) = vs) (w : World) (hr : Rd w (some ad) (l.map (.int .i64))) :
    Calls Try.prog 108 #[.slice (some ad) m c, .int .i64 z, .int .i64 den] w fun r w' => ∃ v, r = .returned v ∧ Below w.heap.size w w' ∧ Sl22 w w' v n (us.map (.int .i64)) (vs.map (.int .i64)) := by
  subst hm hu hv
  exact ddiff_c ad c l n hl hn0 hn hc hb z s den hs hz hd w hr

theorem car_bd {s : Int} {us vs : List Int} {B : Int} (hs : s = 1 ∨ s = -1) (hl : us.length ≤ vs.length) (hu : ∀ x ∈ us, -B ≤ x ∧ x ≤ B) (hv : ∀ x ∈ vs, -B ≤ x ∧ x ≤ B) : ∀ x ∈ carL s us vs us.length, -B ≤ x ∧ x ≤ B := fun x hx => by
  obtain ⟨k, hk, hx⟩ := List.mem_flatMap.1 hx
  have hk := List.mem_range.1 hk
  have h1 := hu _ (gI_mem hk)
  have h2 := hv _ (gI_mem (l := vs) (k := k) (by omega))
  simp only [carE, List.mem_cons, List.mem_nil_iff, or_false] at hx
  rcases hs with rfl | rfl <;> rcases hx with rfl | rfl | rfl | rfl <;> omega

set_option maxHeartbeats 1000000 in
/-- composite.apart -/
theorem dapart_c (ad : Addr) (c n : Nat) (l us vs : List Int) (hl : l.length = 4 * n) (hn0 : 0 < n) (hn : n ≤ 64) (hc : 4 * n ≤ c) (hb : ∀ x ∈ l, -16384 ≤ x ∧ x ≤ 16384) (z s : Int) (hs : sgL z = s) (hz : z = 0 ∨ z = 1) (hu : (cyL l n).map (dU s 2) = us) (hv : (cyL l n).map (dV s 2) = vs) (hub : ∀ x ∈ us, -16384 ≤ x ∧ x ≤ 16384) (hvb : ∀ x ∈ vs, -16384 ≤ x ∧ x ≤ 16384) (w : World) (hr : Rd w (some ad) (l.map (.int .i64))) : Calls Try.prog 81 #[.slice (some ad) (4 * n) c, .slice (some ad) (4 * n) c, .int .i64 z, .int .i64 2] w fun r w' => ∃ v, r = .returned v ∧ Below w.heap.size w w' ∧ SlT w w' v (4 * n) n ((lmI s l us vs).map (.int .i64)) (us.map (.int .i64)) (vs.map (.int .i64)) := by
  have hul : us.length = n := by rw [← hu, List.length_map, cyL_len]
  have hvl : vs.length = n := by rw [← hv, List.length_map, cyL_len]
  have hcl : (carL s us vs us.length).length = 4 * n := by rw [carL_len, hul]
  have hb5 : ∀ x ∈ l, -100000 ≤ x ∧ x ≤ 100000 := fun x hx => by have := hb x hx; omega
  have hub5 : ∀ x ∈ us, -100000 ≤ x ∧ x ≤ 100000 := fun x hx => by have := hub x hx; omega
  have hvb5 : ∀ x ∈ vs, -100000 ≤ x ∧ x ≤ 100000 := fun x hx => by have := hvb x hx; omega
  have hcb : ∀ x ∈ carL s us vs us.length, -100000 ≤ x ∧ x ≤ 100000 := car_bd (by rw [← hs]; rcases hz with rfl | rfl; exact .inl rfl; exact .inr rfl) (by omega) hub5 hvb5
  have hpl : ∀ k, k < 4 * n → -1000000 ≤ gI l k ∧ gI l k ≤ 1000000 ∧ -1000000 ≤ gI (carL s us vs us.length) k ∧ gI (carL s us vs us.length) k ≤ 1000000 := fun k hk => by
    have h1 := hb _ (gI_mem (l := l) (k := k) (by omega))
    have h2 := hcb _ (gI_mem (l := carL s us vs us.length) (k := k) (by omega))
    omega
  refine calls_of (args := [.slice (some ad) (4 * n) c, .slice (some ad) (4 * n) c, .int .i64 z, .int .i64 2]) T_ok Try.func81 rfl Try.ntmps81 (Nat.le_of_ble_eq_true rfl) rfl ?_
  repeat' (first
 | (refine C_id ?_; first
 | refine C_seq ?_
 | refine C_region rfl ?_
 | refine C_ret0 ?_
 )
 | (refine S_id ?_; first
 | (refine S_callM (f := 108) rfl obQ (by kernel_rfl) (fun w hw => ddiff_as hl rfl hn0 (by omega) hc hb5 hs hz (by omega) hu hv w (hw.rdm hr.toS memQ)) (fun w1D w2D vD hw1D hbD hRD => ?_); obtain ⟨AU, cU, AV, cV, rfl, hSU, hSV⟩ := hRD)
 | (refine S_callM (f := 71) rfl obQ (by kernel_rfl) (fun w hw => dcar_as (us := us) (vs := vs) hul hvl rfl (by omega) hs hz hub5 hvb5 w (hw.rdm hSU memQ) (hw.rdm hSV memQ)) (fun w1C w2C vC hw1C hbC hRC => ?_); obtain ⟨AC, cC, rfl, hSC⟩ := hRC)
 | (refine S_callM (f := 70) rfl obQ (by kernel_rfl) (fun w hw => dcomb_as (q := 109) (g := fun x y => x - y) (a := l) (b := carL s us vs us.length) hl hcl (by omega) (by kernel_rfl) w (hw.rdm hr.toS memQ) (hw.rdm hSC memQ) (fun k hk W _ => dminus_c _ _ (hpl k hk) W)) (fun w1L w2L vL hw1L hbL hRL => ?_); obtain ⟨AL, cL, rfl, hSL⟩ := hRL)
 | refine S_nil ?_
 | refine S_run rfl rfl obQ obQ ?_
 | refine S_box (fun b => ⟨_, _, rfl, obQ, ?_⟩)
 )
 | (refine G_id ?_; first
 | refine G_then ?_
 | refine G_ret rfl obQ (fun w2 hw => ⟨_, rfl, hw.below, _, _, _, _, _, _, rfl, sl_rd1 (HW.callSl (n := 0) (c := 0) hw hSL memQ hw1L.below.size), sl_rd1 (HW.callSl (n := 0) (c := 0) hw hSU memQ hw1D.below.size), sl_rd1 (HW.callSl (n := 0) (c := 0) hw hSV memQ hw1D.below.size)⟩)
 )
 )

set_option maxHeartbeats 1000000 in
/-- composite.band -/
theorem dband_c (ad : Addr) (c n : Nat) (l us vs : List Int) (hl : l.length = 4 * n) (hn0 : 0 < n) (hn : n ≤ 64) (hc : 4 * n ≤ c) (hb : ∀ x ∈ l, -16384 ≤ x ∧ x ≤ 16384) (z s : Int) (hs : sgL z = s) (hz : z = 0 ∨ z = 1) (hu : (cyL l n).map (dU s 2) = us) (hv : (cyL l n).map (dV s 2) = vs) (hub : ∀ x ∈ us, -16384 ≤ x ∧ x ≤ 16384) (hvb : ∀ x ∈ vs, -16384 ≤ x ∧ x ≤ 16384) (w : World) (hr : Rd w (some ad) (l.map (.int .i64))) : Calls Try.prog 37 #[.slice (some ad) (4 * n) c, .int .i64 z] w fun r w' => ∃ v, r = .returned v ∧ Below w.heap.size w w' ∧ SlT w w' v (4 * n) n ((lmI s l us vs).map (.int .i64)) (us.map (.int .i64)) (vs.map (.int .i64)) := by
  refine calls_of (args := [.slice (some ad) (4 * n) c, .int .i64 z]) T_ok Try.func37 rfl Try.ntmps37 (Nat.le_of_ble_eq_true rfl) rfl ?_
  repeat' (first
 | (refine C_id ?_; first
 | refine C_seq ?_
 | refine C_region rfl ?_
 | refine C_ret0 ?_
 )
 | (refine S_id ?_; first
 | (refine S_callM (f := 81) rfl obQ (by kernel_rfl) (fun w hw => dapart_c ad c n l us vs hl hn0 hn hc hb z s hs hz hu hv hub hvb w (hw.rdm hr.toS memQ)) (fun w1D w2D vD hw1D hbD hRD => ?_); obtain ⟨AL, cL, AU, cU, AV, cV, rfl, hSL, hSU, hSV⟩ := hRD)
 | refine S_nil ?_
 | refine S_run rfl rfl obQ obQ ?_
 | refine S_box (fun b => ⟨_, _, rfl, obQ, ?_⟩)
 )
 | (refine G_id ?_; first
 | refine G_then ?_
 | refine G_ret rfl obQ (fun w2 hw => ⟨_, rfl, hw.below, _, _, _, _, _, _, rfl, sl_rd1 (HW.callSl (n := 0) (c := 0) hw hSL memQ hw1D.below.size), sl_rd1 (HW.callSl (n := 0) (c := 0) hw hSU memQ hw1D.below.size), sl_rd1 (HW.callSl (n := 0) (c := 0) hw hSV memQ hw1D.below.size)⟩)
 )
 )

set_option maxHeartbeats 1000000 in
/-- composite.integral).parts -/
theorem dparts_c (A B C : Option Addr) (c c2 c3 m n : Nat) (a us vs : List Int) (ha : a.length = m) (hul : us.length = n) (hvl : vs.length = n) (hm : m ≤ 1000) (hn : n ≤ 1000) (hab : ∀ x ∈ a, -16384 ≤ x ∧ x ≤ 16384) (hub : ∀ x ∈ us, -16384 ≤ x ∧ x ≤ 16384) (hvb : ∀ x ∈ vs, -16384 ≤ x ∧ x ≤ 16384) (w : World) (hr : Rd w A (a.map (.int .i64))) (hr2 : Rd w B (us.map (.int .i64))) (hr3 : Rd w C (vs.map (.int .i64))) : Calls Try.prog 39 #[.agg #[.slice A m c, .slice B n c2, .slice C n c3]] w fun r w' => ∃ v, r = .returned v ∧ Below w.heap.size w w' ∧ SlTE w w' v m n ((a.map smp).map (.float .f32)) ((us.map smp).map (.float .f32)) ((vs.map smp).map (.float .f32)) (.int .i64 0) := by
  refine calls_of (args := [.agg #[.slice A m c, .slice B n c2, .slice C n c3]]) T_ok Try.func39 rfl Try.ntmps39 (Nat.le_of_ble_eq_true rfl) rfl ?_
  repeat' (first
 | (refine C_id ?_; first
 | refine C_seq ?_
 | refine C_region rfl ?_
 | refine C_skip ?_
 | refine C_ret0 ?_
 | refine C_condF rfl obQ ?_
 )
 | (refine S_id ?_; first
 | (refine S_callM (f := 69) rfl obQ (by kernel_rfl) (fun w hw => dsmp_as (l := a) ha (by omega) hab w (hw.rdm hr.toS memQ)) (fun w1X w2X vX hw1X hbX hRX => ?_); obtain ⟨AX, cX, rfl, hSX⟩ := hRX)
 | (refine S_callM (f := 69) rfl obQ (by kernel_rfl) (fun w hw => dsmp_as (l := us) hul (by omega) hub w (hw.rdm hr2.toS memQ)) (fun w1Y w2Y vY hw1Y hbY hRY => ?_); obtain ⟨AY, cY, rfl, hSY⟩ := hRY)
 | (refine S_callM (f := 69) rfl obQ (by kernel_rfl) (fun w hw => dsmp_as (l := vs) hvl (by omega) hvb w (hw.rdm hr3.toS memQ)) (fun w1Z w2Z vZ hw1Z hbZ hRZ => ?_); obtain ⟨AZ, cZ, rfl, hSZ⟩ := hRZ)
 | refine S_nil ?_
 | refine S_run rfl rfl obQ obQ ?_
 | refine S_box (fun b => ⟨_, _, rfl, obQ, ?_⟩)
 | refine S_slice (fun b => ⟨_, _, rfl, obQ, ?_⟩)
 | refine S_call (f := 27) rfl obQ (by kernel_rfl) (fun w hw => dfirstE_c (l := [0, 0, 0]) (e := 0) rfl (by simp) rfl w (.inr ⟨_, rfl, hw.src (i := 2) rfl rfl⟩)) ?_
 )
 | (refine G_id ?_; first
 | refine G_then ?_
 | refine G_ret rfl obQ (fun w2 hw => ⟨_, rfl, hw.below, _, _, _, _, _, _, rfl, sl_rd1 (HW.callSl (n := 0) (c := 0) hw hSX memQ hw1X.below.size), sl_rd1 (HW.callSl (n := 0) (c := 0) hw hSY memQ hw1Y.below.size), sl_rd1 (HW.callSl (n := 0) (c := 0) hw hSZ memQ hw1Z.below.size)⟩)
 )
 )

theorem lvl_smp {l : List Int} (h : ∀ x ∈ l, -16384 ≤ x ∧ x ≤ 16384) : (l.map smp).map lvl = l := by
  rw [List.map_map]
  conv => rhs; rw [← List.map_id l]
  refine List.map_congr_left fun x hx => ?_
  have := h x hx
  exact smp_lvl (by omega)

set_option maxHeartbeats 400000 in
/-- composite.mapped[float32,int] -/
theorem dmappedFIO_c (q : FuncId) {g : Nat → Int} (A : Option Addr) (c : Nat) (l : List (Nat)) (hl : l.length ≤ 1000000) (he : entB Try.prog q = true) (w : World) (hr : Rd w A (l.map fun x => Value.float .f32 x)) (hg : ∀ x ∈ l, ∀ W, Below w.heap.size w W → Calls Try.prog q #[Value.float .f32 x] W fun e w' => e = .returned (Value.int .i64 (g x)) ∧ Below W.heap.size W w') : Calls Try.prog 82 #[.slice A l.length c, .func (.func q) #[] #[]] w fun r w' => ∃ v, r = .returned v ∧ Below w.heap.size w w' ∧ w'.ownsRow w.heap.size 3 1 v l.length (l.map fun x => Value.int .i64 (g x)) := by
  refine calls_of (args := [.slice A l.length c, .func (.func q) #[] #[]]) T_ok Try.func82 rfl Try.ntmps82 (Nat.le_of_ble_eq_true rfl) rfl ?_
  repeat' (first
 | (refine C_id ?_; first
 | refine C_seq ?_
 | refine C_region rfl ?_
 | refine C_block ?_
 )
 | (refine S_id ?_; first
 | refine S_nil ?_
 | refine S_run rfl rfl obQ obQ ?_
 )
 | (refine G_id ?_; first
 | refine G_then ?_
 )
 )
  refine C_row0 5 3 1 rfl ?_
  refine C_loopS (fun i : Nat × Option Addr × Nat => ⟨[(5, .s (.r i.2.1 i.1 i.2.2 0)), (8, .s (.v (.slice A l.length c))), (9, .s (.v (.int .i64 l.length))), (10, .s (.v (.int .i64 i.1))), (1, .s (.v (.func (.func q) #[] #[])))], [], [⟨3, 1, i.1, (l.take i.1).map fun x => Value.int .i64 (g x), .slice i.2.1 i.1 i.2.2⟩]⟩) (fun i => i.1 ≤ l.length) (fun i => l.length - i.1) (0, none, 0) (Nat.zero_le _) ?_ (fun i hi => ?_)
  · exact ⟨⟨_, rfl, obQ⟩, ⟨_, rfl⟩, rfl, pstQ⟩
  obtain ⟨k, A', c'⟩ := i
  have hi' : k ≤ l.length := hi
  dsimp only
  by_cases hlt : k < l.length
  · obtain ⟨ad, rfl⟩ := hr.some (by simp; omega)
    have hmt := map_take_succ (f := fun x => Value.int .i64 (g x)) hlt
    repeat' (first
     | (refine C_id ?_; first
     | refine C_seq ?_
     | refine C_region rfl ?_
     | refine C_block ?_
     | refine C_skip ?_
     | (refine C_cond rfl obQ (fun h => ?_) (fun h => ?_) <;> (try simp only [Bool.or_eq_true, Bool.and_eq_true, Bool.or_eq_false_iff, Bool.and_eq_false_iff, decide_eq_true_eq, decide_eq_false_iff_not, beq_iff_eq, bne_iff_ne, beq_eq_false_iff_ne, bne_eq_false_iff_eq, ne_eq, Decidable.not_not, List.cons.injEq, and_true, Bool.not_eq_true', Bool.not_eq_false', Int.not_lt, Int.not_le] at h) <;> (try (exfalso; omega)))
     )
     | (refine S_id ?_; first
     | refine S_load rfl obQ rfl [Value.float .f32 l[k]] (.past _ memQ _ _ hr.toS _ _ rfl rfl (idx1 (f := fun x => Value.float .f32 x) hlt)) rfl (.inr ⟨rfl, rfl⟩) ?_
     | refine S_call rfl obQ he (fun W hW => hg l[k] (List.getElem_mem hlt) W hW.below) ?_
     | refine S_append rfl obQ rfl rfl rfl ⟨by decide, rfl⟩ rfl ⟨rfl, rfl, rfl, rfl⟩ [Value.int .i64 (g l[k])] ⟨by decide, rfl⟩ (by simp [Value.oneCell']) (fun w hw => by first | exact hw.src (i := 0) rfl rfl | exact hw.src (i := 1) rfl rfl | exact hw.src (i := 2) rfl rfl | exact hw.src (i := 3) rfl rfl | exact hw.src (i := 4) rfl rfl | exact hw.src (i := 5) rfl rfl | exact hw.src (i := 6) rfl rfl | exact hw.src (i := 7) rfl rfl | exact hw.src (i := 8) rfl rfl) (by unfold maxLen; dsimp only; omega) (fun gb cap' => ⟨_, rfl, ?_⟩)
     | refine S_nil ?_
     | refine S_run rfl rfl obQ obQ ?_
     | refine S_slice (fun b => ⟨_, _, rfl, obQ, ?_⟩)
     )
     | (refine G_id ?_; first
     | refine G_loop (k + 1, some ⟨gb, 0, none⟩, cap') (by show k + 1 ≤ _; omega) (by show l.length - (k + 1) < l.length - k; omega) ⟨⟨_, rfl, obQ⟩, ⟨_, rfl⟩, (by dsimp only; rw [hmt]), pstQ⟩
     | refine G_then ?_
     | refine G_block ?_
     )
     )
  · obtain rfl : k = l.length := by omega
    repeat' (first
     | (refine C_id ?_; first
     | refine C_seq ?_
     | refine C_region rfl ?_
     | refine C_exit ?_
     | refine C_ret0 ?_
     | (refine C_cond rfl obQ (fun h => ?_) (fun h => ?_) <;> (try simp only [Bool.or_eq_true, Bool.and_eq_true, Bool.or_eq_false_iff, Bool.and_eq_false_iff, decide_eq_true_eq, decide_eq_false_iff_not, beq_iff_eq, bne_iff_ne, beq_eq_false_iff_ne, bne_eq_false_iff_eq, ne_eq, Decidable.not_not, List.cons.injEq, and_true, Bool.not_eq_true', Bool.not_eq_false', Int.not_lt, Int.not_le] at h) <;> (try (exfalso; omega)))
     )
     | (refine S_id ?_; first
     | refine S_nil ?_
     | refine S_run rfl rfl obQ obQ ?_
     )
     | (refine G_id ?_; first
     | refine G_then ?_
     | refine G_blockX ?_
     | refine G_thenX ?_
     | refine G_ret rfl obQ (fun w2 hw => ⟨_, rfl, hw.below, HW.ownRow (i := 0) hw rfl rfl rfl (by rw [List.take_length])⟩)
     )
     )

set_option maxHeartbeats 400000 in
/-- composite.integers -/
theorem dintegersC_c (A : Option Addr) (c : Nat) (l : List Nat) (hl : l.length ≤ 1000000) (hs : ∀ b ∈ l, Smp b) (w : World) (hr : Rd w A (l.map (.float .f32))) : Calls Try.prog 38 #[.slice A l.length c] w fun r w' => ∃ v, r = .returned v ∧ Below w.heap.size w w' ∧ SlC w w' v l.length (l.map fun x => .int .i64 (lvl x)) := by
  refine calls_of (args := [.slice A l.length c]) T_ok Try.func38 rfl Try.ntmps38 (Nat.le_of_ble_eq_true rfl) rfl ?_
  repeat' (first
 | (refine C_id ?_; first
 | refine C_seq ?_
 | refine C_region rfl ?_
 | refine C_ret0 ?_
 )
 | (refine S_id ?_; first
 | refine S_callRow 3 1 l.length (l.map fun x => .int .i64 (lvl x)) rfl obQ (by kernel_rfl) (fun w hw => dmappedFIO_c 83 (g := lvl) A c l hl (by kernel_rfl) w (hw.rdm hr.toS memQ) (fun x hx W _ => dinteger_c x (hs x hx).fin (hs x hx).bd W)) (fun AR cR => ?_)
 | refine S_nil ?_
 | refine S_run rfl rfl obQ obQ ?_
 )
 | (refine G_id ?_; first
 | refine G_then ?_
 | refine G_ret rfl obQ (fun w2 hw => ⟨_, rfl, hw.below, HW.rowSlC (i := 0) hw rfl rfl rfl rfl⟩)
 )
 )

theorem dintsC_as {A : Option Addr} {c n m : Nat} {l : List Nat} {is : List Int} (hi : l.map lvl = is) (hn : l.length = n) (hm : is.length = m) (hl : n ≤ 1000000) (hs : ∀ b ∈ l, Smp b) (w : World) (hr : Rd w A (l.map (.float .f32))) : Calls Try.prog 38 #[.slice A n c] w fun r w' => ∃ v, r = .returned v ∧ Below w.heap.size w w' ∧ SlC w w' v m (is.map (.int .i64)) := by
  subst hi hn hm
  have h := dintegersC_c A c l hl hs w hr
  rw [List.length_map, List.map_map]
  exact h
theorem slc_some {A : Option Addr} {m c : Nat} (h : A = none → m = 0 ∧ c = 0) (hm : 0 < m) : ∃ a, A = some a := by
  cases A with
  | none => have := (h rfl).1; omega
  | some a => exact ⟨a, rfl⟩

set_option maxHeartbeats 1000000 in
/-- composite.Band -/
theorem dBand_c (ad : Addr) (c n : Nat) (l us vs : List Int) (hl : l.length = 4 * n) (hn0 : 0 < n) (hn : n ≤ 64) (hc : 4 * n ≤ c) (hb : ∀ x ∈ l, -16384 ≤ x ∧ x ≤ 16384) (z s : Int) (hs : sgL z = s) (hz : z = 0 ∨ z = 1) (hu : (cyL l n).map (dU s 2) = us) (hv : (cyL l n).map (dV s 2) = vs) (hub : ∀ x ∈ us, -16384 ≤ x ∧ x ≤ 16384) (hvb : ∀ x ∈ vs, -16384 ≤ x ∧ x ≤ 16384) (hlb : ∀ x ∈ lmI s l us vs, -16384 ≤ x ∧ x ≤ 16384) (w : World) (hr : Rd w (some ad) ((l.map smp).map (.float .f32))) : Calls Try.prog 11 #[.slice (some ad) (4 * n) c, .int .i64 z] w fun r w' => ∃ v, r = .returned v ∧ Below w.heap.size w w' ∧ SlTE w w' v (4 * n) n (((lmI s l us vs).map smp).map (.float .f32)) ((us.map smp).map (.float .f32)) ((vs.map smp).map (.float .f32)) (.int .i64 0) := by
  have hul : us.length = n := by rw [← hu, List.length_map, cyL_len]
  have hvl : vs.length = n := by rw [← hv, List.length_map, cyL_len]
  have hwi : wi z 0 10000000 = 0 := by rw [wi_eq]; rcases hz with rfl | rfl <;> omega
  have hE : firstL [0, wi z 0 10000000] = 0 := by rw [hwi]; rfl
  refine calls_of (args := [.slice (some ad) (4 * n) c, .int .i64 z]) T_ok Try.func11 rfl Try.ntmps11 (Nat.le_of_ble_eq_true rfl) rfl ?_
  repeat' (first
 | (refine C_id ?_; first
 | refine C_seq ?_
 | refine C_region rfl ?_
 | refine C_skip ?_
 | refine C_ret0 ?_
 | refine C_condF rfl obQ ?_
 )
 | (refine S_id ?_; first
 | (refine S_callM (f := 38) rfl obQ (by kernel_rfl) (fun w hw => dintsC_as (l := l.map smp) (lvl_smp hb) ((List.length_map ..).trans hl) hl (by omega) (smp_all hb) w (hw.rdm hr.toS memQ)) (fun w1I w2I vI hw1I hbI hRI => ?_); obtain ⟨AI, cI, rfl, hSI, hcI, _, hnI⟩ := hRI; obtain ⟨aI, rfl⟩ := slc_some hnI (by omega))
 | (refine S_callM (f := 37) rfl obQ (by kernel_rfl) (fun w hw => dband_c aI cI n l us vs hl hn0 hn hcI hb z s hs hz hu hv hub hvb w (hw.rdm hSI memQ)) (fun w1D w2D vD hw1D hbD hRD => ?_); obtain ⟨AL, cL, AU, cU, AV, cV, rfl, hSL, hSU, hSV⟩ := hRD)
 | (refine S_callM (f := 39) rfl obQ (by kernel_rfl) (fun w hw => dparts_c AL AU AV cL cU cV (4 * n) n (lmI s l us vs) us vs ((lmI_len ..).trans hl) hul hvl (by omega) (by omega) hlb hub hvb w (hw.rdm hSL memQ) (hw.rdm hSU memQ) (hw.rdm hSV memQ)) (fun w1P w2P vP hw1P hbP hRP => ?_); obtain ⟨AX, cX, AY, cY, AZ, cZ, rfl, hSX, hSY, hSZ⟩ := hRP)
 | refine S_nil ?_
 | refine S_run rfl rfl obQ obQ ?_
 | refine S_box (fun b => ⟨_, _, rfl, obQ, ?_⟩)
 | refine S_slice (fun b => ⟨_, _, rfl, obQ, ?_⟩)
 | refine S_call (f := 36) rfl obQ (by kernel_rfl) (fun w hw => (by have h := dcheckSignal_c (some ad) c (l.map smp) (by rw [List.length_map]; omega) (by rw [List.length_map]; omega) (smp_all hb) w (hw.rdm hr.toS memQ); rw [List.length_map, hl] at h; exact h)) ?_
 | refine S_call (f := 29) rfl obQ (by kernel_rfl) (fun w hw => dwithin_c _ _ _ w) ?_
 | refine S_call (f := 27) rfl obQ (by kernel_rfl) (fun w hw => dfirstE_c (l := [0, wi z 0 10000000]) hE (by simp) rfl w (.inr ⟨_, rfl, hw.src (i := 1) rfl rfl⟩)) ?_
 )
 | (refine G_id ?_; first
 | refine G_then ?_
 | refine G_ret rfl obQ (fun w2 hw => ⟨_, rfl, hw.below, _, _, _, _, _, _, rfl, sl_rd1 (HW.callSl (n := 0) (c := 0) hw hSX memQ hw1P.below.size), sl_rd1 (HW.callSl (n := 0) (c := 0) hw hSY memQ hw1P.below.size), sl_rd1 (HW.callSl (n := 0) (c := 0) hw hSZ memQ hw1P.below.size)⟩)
 )
 )

end Go.Proofs.Ytedlaominconaaa
