/- Texts: the program reads a text. -/
import Derived.Test.YtdbffbcobghbeaaGreatDoorColour121
import Derived.Test.YtdbffbcobghbeaaGreatDoorEng4
import Derived.Test.YtdbffbcobghbeaaGreatDoorEng3
namespace Go.Proofs.YtdbffbcobghbeaaGreatDoor
open Go.E Go.RowKit Go.Fl
attribute [local irreducible] G C S D DY DS V Yl QV Calls
set_option maxRecDepth 100000
set_option linter.unusedSimpArgs false
set_option linter.unusedVariables false

theorem cfE_c {A : Option Addr} {n : Nat} {l : List Int} {e : Int} (he : firstL l = e) (h6 : l.length ≤ 1000000) (hl : l.length = n) (c : Nat) (w : World) (hr : Rd w A (l.map (.int .i64))) : Calls Tryz.prog 111 #[.slice A n c] w fun r w' => r = .returned (.int .i64 e) ∧ Below w.heap.size w w' := by
  subst hl he
  exact cfirst_c A c l h6 w hr
def stI (r2 r3 r4 b1 bn : Nat) (pre : List LnT) (i : Option Addr × Nat) : St :=
  if okP pre = true then ⟨[], [⟨r2, 30, [.v (.slice none 0 0)]⟩, ⟨r3, 3, [.v (.int .i64 0)]⟩, ⟨r4, 26, [.v (.int .i64 0)]⟩, xtB b1 (stP pre).1 i.1 (stP pre).2.length i.2, ⟨bn, 3, [.v (.int .i64 (pre.length : Int))]⟩], [⟨189, 2, (stP pre).2.length, (stP pre).2.flatMap ptC, .slice i.1 (stP pre).2.length i.2⟩]⟩ else badSt
def stR (r2 r3 r4 : Nat) (pre : List LnT) (_ : Unit) : St :=
  if badP pre = true then ⟨[], [⟨r2, 30, [.v (.slice none 0 0)]⟩, ⟨r3, 3, [.v (.int .i64 ((pre.length - 1 : Nat) : Int))]⟩, ⟨r4, 26, [.v (.int .i64 25)]⟩], []⟩ else badSt
theorem stI_ok {r2 r3 r4 b1 bn : Nat} {pre : List LnT} {i : Option Addr × Nat} (h : okP pre = true) : stI r2 r3 r4 b1 bn pre i = ⟨[], [⟨r2, 30, [.v (.slice none 0 0)]⟩, ⟨r3, 3, [.v (.int .i64 0)]⟩, ⟨r4, 26, [.v (.int .i64 0)]⟩, xtB b1 (stP pre).1 i.1 (stP pre).2.length i.2, ⟨bn, 3, [.v (.int .i64 (pre.length : Int))]⟩], [⟨189, 2, (stP pre).2.length, (stP pre).2.flatMap ptC, .slice i.1 (stP pre).2.length i.2⟩]⟩ := if_pos h
theorem stI_bad {r2 r3 r4 b1 bn : Nat} {pre : List LnT} {i : Option Addr × Nat} (h : okP pre = false) : stI r2 r3 r4 b1 bn pre i = badSt := if_neg (by rw [h]; decide)
theorem stR_ok {r2 r3 r4 : Nat} {pre : List LnT} {u : Unit} (h : badP pre = true) : stR r2 r3 r4 pre u = ⟨[], [⟨r2, 30, [.v (.slice none 0 0)]⟩, ⟨r3, 3, [.v (.int .i64 ((pre.length - 1 : Nat) : Int))]⟩, ⟨r4, 26, [.v (.int .i64 25)]⟩], []⟩ := if_pos h
theorem stR_bad {r2 r3 r4 : Nat} {pre : List LnT} {u : Unit} (h : badP pre = false) : stR r2 r3 r4 pre u = badSt := if_neg (by rw [h]; decide)
theorem cutE_size (s : ByteArray) : (cutE s).1.size ≤ s.size := by
  unfold cutE
  split
  · dsimp only
    rw [ByteArray.size_extract]
    omega
  · exact Nat.le_refl _
theorem lnB_size {n : Nat} : ∀ ls : List ByteArray, (∀ x ∈ ls, x.size ≤ n) → ∀ x ∈ lnB ls, x.size ≤ n + 1
  | [], _, x, h => by simp [lnB] at h
  | [a], h, x, hx => by
    rw [lnB] at hx
    split at hx
    · simp at hx
    · rw [List.mem_singleton] at hx
      have := h a (List.mem_cons_self ..)
      rw [hx]
      omega
  | a :: b :: r, h, x, hx => by
    rw [lnB, List.mem_cons] at hx
    rcases hx with rfl | hx
    · have := h a (List.mem_cons_self ..)
      rw [ByteArray.size_append]
      have : (⟨#[10]⟩ : ByteArray).size = 1 := rfl
      omega
    · exact lnB_size (b :: r) (fun y hy => h y (List.mem_cons_of_mem _ hy)) x hx
theorem ln_vals : ∀ l : List ByteArray, (∀ x ∈ l, x.size ≤ 1000000) → ∃ xs : List LnT, vals xs = l
  | [], _ => ⟨[], rfl⟩
  | a :: r, h => by
    obtain ⟨xs, hx⟩ := ln_vals r (fun x hx => h x (List.mem_cons_of_mem _ hx))
    exact ⟨⟨a, h a (List.mem_cons_self ..)⟩ :: xs, congrArg (a :: ·) hx⟩
/-- What the map of forms has. -/
def FmHas (hd : ByteArray) (rv : Value) (kn : Bool) : Prop := (lkE fmE hd = some (.agg #[rv]) ∧ kn = true) ∨ (lkE fmE hd = none ∧ (.agg #[rv] : Value) = .agg #[.nilFunc] ∧ kn = false)
theorem fm_has (hd : ByteArray) : (hd = sCurve ∧ FmHas hd (.func (.func 207) #[] #[]) true) ∨ (hd = sPoint ∧ hd ≠ sCurve ∧ FmHas hd (.func (.func 208) #[] #[]) true) ∨ (hd ≠ sCurve ∧ hd ≠ sPoint ∧ FmHas hd .nilFunc false) := by
  by_cases h1 : hd = sCurve
  · exact .inl ⟨h1, .inl ⟨by rw [h1]; exact lk_curve, rfl⟩⟩
  · by_cases h2 : hd = sPoint
    · exact .inr (.inl ⟨h2, h1, .inl ⟨by rw [h2]; exact lk_point, rfl⟩⟩)
    · exact .inr (.inr ⟨h1, h2, .inr ⟨lk_none h1 h2, rfl, rfl⟩⟩)

theorem zero243 (w : World) : (zeroValue 243).run Tryz.prog w = .ok (.agg #[.nilFunc]) w := by rfl

set_option maxHeartbeats 4000000 in
/-- colour.Parse -/
theorem Parse_c (s : ByteArray) (hs : s.size ≤ 1000000) (w : World) (hM : Mx w) : Calls Tryz.prog 103 #[.string s] w fun r w' => ∃ v, r = .returned v ∧ Below w.heap.size w w' ∧ Sl3 w w' v (rpR s).1.length ((rpR s).1.flatMap ptC) (.int .i64 ((rpR s).2.1 : Int)) (.int .i64 (rpR s).2.2) := by
  refine calls_ofM (args := [.string s]) T_ok Tryz.func103 rfl Tryz.ntmps103 (Nat.le_of_ble_eq_true rfl) rfl ?_
  by_cases hbig : 4096 < s.size
  · have hR : rpR s = ([], 0, 26) := if_pos hbig
    have hE : firstL [wh (decide ((4096 : Int) < (s.size : Int))) 26, wh (s.toList == (⟨#[]⟩ : ByteArray).toList) 25] = 26 := by rw [decide_eq_true (show (4096 : Int) < (s.size : Int) by omega)]; rfl
    rw [hR]
    repeat' (first
 | (refine C_id ?_; first
 | refine C_seq ?_
 | refine C_region rfl ?_
 | refine C_ret0 ?_
 | refine C_condT rfl obQ ?_
     )
 | (refine S_id ?_; first
 | (refine S_box (fun r2 => ⟨_, _, rfl, obQ, ?_⟩); refine S_box (fun r3 => ⟨_, _, rfl, obQ, ?_⟩); refine S_box (fun r4 => ⟨_, _, rfl, obQ, ?_⟩))
 | refine S_nil ?_
 | refine S_runN rfl rfl obQ obQ ?_
 | refine S_slice (fun b => ⟨_, _, rfl, obQ, ?_⟩)
 | refine S_call (f := 121) rfl obQ (by kernel_rfl) (fun w hw => cwhen_c _ _ w) ?_
 | refine S_call (f := 111) rfl obQ (by kernel_rfl) (fun w hw => cfE_c (l := [wh (decide ((4096 : Int) < (s.size : Int))) 26, wh (s.toList == (⟨#[]⟩ : ByteArray).toList) 25]) hE (by simp) rfl _ w (.inr ⟨_, rfl, hw.src (i := 3) rfl rfl⟩)) ?_
     )
 | (refine G_id ?_; first
 | refine G_then ?_
 | refine G_thenR ?_
 | refine G_retD rfl obQ (DsP.nil _ _) (fun w2 hw => ⟨_, rfl, hw.below, none, 0, rfl, .inl rfl⟩)
     )
     )
  have hd0 : decide ((4096 : Int) < (s.size : Int)) = false := decide_eq_false (by omega)
  by_cases h0 : s.size = 0
  · have hq1 := size0_of h0
    have hR : rpR s = ([], 0, 25) := by
      have hsp : splR s 10 = [ByteArray.empty] := by rw [hq1]; rfl
      unfold rpR
      rw [if_neg hbig, hsp]
      rfl
    have hE : firstL [wh (decide ((4096 : Int) < (s.size : Int))) 26, wh (s.toList == (⟨#[]⟩ : ByteArray).toList) 25] = 25 := by rw [hd0, toE_eq hq1]; rfl
    rw [hR]
    repeat' (first
 | (refine C_id ?_; first
 | refine C_seq ?_
 | refine C_region rfl ?_
 | refine C_ret0 ?_
 | refine C_condT rfl obQ ?_
     )
 | (refine S_id ?_; first
 | (refine S_box (fun r2 => ⟨_, _, rfl, obQ, ?_⟩); refine S_box (fun r3 => ⟨_, _, rfl, obQ, ?_⟩); refine S_box (fun r4 => ⟨_, _, rfl, obQ, ?_⟩))
 | refine S_nil ?_
 | refine S_runN rfl rfl obQ obQ ?_
 | refine S_slice (fun b => ⟨_, _, rfl, obQ, ?_⟩)
 | refine S_call (f := 121) rfl obQ (by kernel_rfl) (fun w hw => cwhen_c _ _ w) ?_
 | refine S_call (f := 111) rfl obQ (by kernel_rfl) (fun w hw => cfE_c (l := [wh (decide ((4096 : Int) < (s.size : Int))) 26, wh (s.toList == (⟨#[]⟩ : ByteArray).toList) 25]) hE (by simp) rfl _ w (.inr ⟨_, rfl, hw.src (i := 3) rfl rfl⟩)) ?_
     )
 | (refine G_id ?_; first
 | refine G_then ?_
 | refine G_thenR ?_
 | refine G_retD rfl obQ (DsP.nil _ _) (fun w2 hw => ⟨_, rfl, hw.below, none, 0, rfl, .inl rfl⟩)
     )
     )
  have hq2 : s ≠ ⟨#[]⟩ := fun e => h0 (by rw [e]; rfl)
  have hE : firstL [wh (decide ((4096 : Int) < (s.size : Int))) 26, wh (s.toList == (⟨#[]⟩ : ByteArray).toList) 25] = 0 := by rw [hd0, toE_ne hq2]; rfl
  repeat' (first
 | (refine C_id ?_; first
 | refine C_seq ?_
 | refine C_regionNe 4 rfl rfl ?_
 | refine C_skip ?_
 | refine C_condF rfl obQ ?_
   )
 | (refine S_id ?_; first
 | (refine S_box (fun r2 => ⟨_, _, rfl, obQ, ?_⟩); refine S_box (fun r3 => ⟨_, _, rfl, obQ, ?_⟩); refine S_box (fun r4 => ⟨_, _, rfl, obQ, ?_⟩))
 | refine S_nil ?_
 | refine S_runN rfl rfl obQ obQ ?_
 | refine S_slice (fun b => ⟨_, _, rfl, obQ, ?_⟩)
 | refine S_call (f := 121) rfl obQ (by kernel_rfl) (fun w hw => cwhen_c _ _ w) ?_
 | refine S_call (f := 111) rfl obQ (by kernel_rfl) (fun w hw => cfE_c (l := [wh (decide ((4096 : Int) < (s.size : Int))) 26, wh (s.toList == (⟨#[]⟩ : ByteArray).toList) 25]) hE (by simp) rfl _ w (.inr ⟨_, rfl, hw.src (i := 3) rfl rfl⟩)) ?_
   )
 | (refine G_id ?_; first
 | refine G_then ?_
   )
   )
  refine C_weak (Ps' := [(w, fun b => b < w.heap.size)]) (σ' := ⟨[(0, .s (.v (.string s))), (2, .s (.p r2 0 0)), (3, .s (.p r3 1 0)), (4, .s (.p r4 2 0))], [⟨r2, 30, [.v (.slice none 0 0)]⟩, ⟨r3, 3, [.v (.int .i64 0)]⟩, ⟨r4, 26, [.v (.int .i64 0)]⟩], []⟩) ⟨⟨_, rfl, obQ⟩, ⟨_, rfl⟩, rfl, psQ⟩ ?_
  clear hE
  repeat' (first
 | (refine C_id ?_; first
 | refine C_seq ?_
 | refine C_regionNe 5 rfl rfl ?_
   )
 | (refine S_id ?_; first
 | refine S_nil ?_
 | refine S_box (fun b1 => ⟨_, _, rfl, obQ, ?_⟩)
   )
 | (refine G_id ?_; first
 | refine G_then ?_
   )
   )
  repeat' (first
 | (refine C_id ?_; first
 | refine C_seq ?_
 | refine C_regionNe 6 rfl rfl ?_
   )
 | (refine S_id ?_; first
 | refine S_nil ?_
 | refine S_runN rfl rfl obQ obQ ?_
 | refine S_box (fun bn => ⟨_, _, rfl, obQ, ?_⟩)
   )
 | (refine G_id ?_; first
 | refine G_then ?_
   )
   )
  repeat' (first
 | (refine C_id ?_; first
 | refine C_region rfl ?_
 | refine C_block ?_
   )
 | (refine S_id ?_; first
 | (refine S_callM (f := 165) rfl obQ (by kernel_rfl) (fun w hw => lines_c s w) (fun w1L w2L vL hw1L hbL hRL => ?_); obtain ⟨kL, rfl, hkL, hbxL⟩ := hRL)
 | refine S_nil ?_
 | refine S_runN rfl rfl obQ obQ ?_
   )
 | (refine G_id ?_; first
 | refine G_then ?_
   )
   )
  have hBL : w.heap.size ≤ kL := Nat.le_trans hw1L.bsize hkL.1
  refine C_past1 (fun b => b = kL) (W := w2L) memQ (fun b hb => by subst hb; exact hkL) ?_
  refine C_weak (Ps' := [Po w2L kL, (w, fun b => b < w.heap.size)]) (σ' := ⟨[(30, .s (.v (.func (.func 203) #[] #[.pointer (some ⟨kL, 0, none⟩)]))), (2, .s (.p r2 0 0)), (3, .s (.p r3 1 0)), (4, .s (.p r4 2 0)), (6, .s (.p b1 3 0)), (7, .s (.p bn 4 0))], [⟨r2, 30, [.v (.slice none 0 0)]⟩, ⟨r3, 3, [.v (.int .i64 0)]⟩, ⟨r4, 26, [.v (.int .i64 0)]⟩, ⟨b1, 234, [.v (.int .i64 0), .v (.slice none 0 0)]⟩, ⟨bn, 3, [.v (.int .i64 0)]⟩], []⟩) ⟨⟨_, rfl, obQ⟩, ⟨_, rfl⟩, rfl, psQ⟩ ?_
  refine C_rowB 189 2 [⟨r2, 30, [.v (.slice none 0 0)]⟩, ⟨r3, 3, [.v (.int .i64 0)]⟩, ⟨r4, 26, [.v (.int .i64 0)]⟩, xtB b1 0 none 0 0, ⟨bn, 3, [.v (.int .i64 0)]⟩] rfl ?_
  have hj : jnB 10 (splR s 10) = s := (splR_jn s 10).1
  have hsp := splR_size s 10
  have hln := splR_len s 10
  obtain ⟨xs, hxs⟩ := ln_vals (lnB (splR s 10)) (fun x hx => by have := lnB_size (n := s.size) _ hsp x hx; omega)
  have hne : splR s 10 ≠ [] := by obtain ⟨a, r, e⟩ := splR_cons s 10; rw [e]; exact List.cons_ne_nil _ _
  have hxl : xs.length ≤ 5000 := by
    have h1 : xs.length = (lnB (splR s 10)).length := by rw [← hxs]; simp
    obtain ⟨a, r, e⟩ := splR_cons s 10
    have h2 := lnB_len r a
    rw [e] at h1 hln
    simp only [List.length_cons] at hln
    omega
  have hPsk : ∀ p ∈ [(w, fun b => b < w.heap.size)], ¬ p.2 kL := by
    intro p hp
    rw [List.mem_singleton] at hp
    subst hp
    exact Nat.not_lt.2 hBL
  refine C_rangeFuncM (k := kL) (W0 := w2L) hBL hPsk rfl rfl obQ (by kernel_rfl) (encs := encL) xs (fun _ => rfl) (by intro t ht; simp at ht; subst ht; exact Nat.le_of_ble_eq_true rfl) (fun x => [(31, .string x.1)]) (fun m => by simp [encL]) (fun w3 hw3 => ?_) (stI r2 r3 r4 b1 bn) (stR r2 r3 r4) (none, 0) (fun w3 hw3 => HW.same hw3 rfl rfl) (fun l L W3 pre x i hpre hwp => ?_) (fun D WD i hBD hWD hnD => ?_) (fun D WD pre i hpre hBD hWD hnD => ?_)
  · exact lines_seq kL (splR s 10) hne (free_of rfl) (by rw [hj]; omega) xs hxs _ (.inl rfl) w3 (by rw [hj]; exact (hw3.past _ (List.mem_cons_self ..) kL rfl).1.2.trans hbxL)
  · have hpl : pre.length ≤ 5000 := by omega
    cases hok : okP pre
    · rw [stI_bad hok] at hwp
      exact hwp.bad.elim
    rw [stI_ok hok] at hwp ⊢
    have hpt := stP_len pre
    obtain ⟨A', c'⟩ := i
    rcases hst : stP pre with ⟨many, pts⟩
    rw [hst] at hwp hpt
    dsimp only at hwp hpt ⊢
    repeat' (first
 | (refine C_id ?_; first
 | refine C_seq ?_
 | refine C_region rfl ?_
 | refine C_block ?_
     )
 | (refine S_id ?_; first
 | refine S_nil ?_
 | refine S_runN rfl rfl obQ obQ ?_
     )
 | (refine G_id ?_; first
 | refine G_assignM hwp (fun W4 hw4 => ?_)
     )
     )
    have hlx : ((pre ++ [x]).length : Int) = (pre.length : Int) + 1 := by simp
    have hxsz := x.2
    rcases hcut : cutE x.1 with ⟨body, whole⟩
    have hbs : body.size ≤ 1000000 := by
      have := cutE_size x.1
      rw [hcut] at this
      dsimp only at this
      omega
    obtain ⟨hd, tl, hE2⟩ := splR_cons body 32
    have hszw : ∀ y ∈ hd :: tl, y.size ≤ 1000000 := fun y hy => by
      have := splR_size body 32 y (by rw [hE2]; exact hy)
      omega
    have hszt : ∀ y ∈ tl, y.size ≤ 1000000 := fun y hy => hszw y (List.mem_cons_of_mem _ hy)
    have hlw : tl.length ≤ 1000000 := by
      have := splR_len body 32
      rw [hE2, List.length_cons] at this
      omega
    repeat' (first
 | (refine C_id ?_; first
 | refine C_seq ?_
 | refine C_region rfl ?_
     )
 | (refine S_id ?_; first
 | (refine S_callM (f := 167) rfl obQ (by kernel_rfl) (fun w hw => split_as hE2 hbs w (Mx_at hM hw memQ)) (fun w1T w2T vT hw1T hbT hRT => ?_); obtain ⟨aT, rfl, hST⟩ := hRT)
 | refine S_nil ?_
 | refine S_runN rfl rfl obQ obQ ?_
 | refine S_call (f := 166) rfl obQ (by kernel_rfl) (fun w hw => cutE_as hcut hxsz w) ?_
     )
 | (refine G_id ?_; first
 | refine G_then ?_
     )
     )
    have hRT := rdS_tl (ws := hd :: tl) (c := tl.length + 1) hST (Nat.le_refl _)
    have hfm0 : (∃ q, FmHas hd (.func (.func q) #[] #[]) true ∧ ((hd = sCurve ∧ q = 207) ∨ (hd = sPoint ∧ hd ≠ sCurve ∧ q = 208))) ∨ (FmHas hd .nilFunc false ∧ hd ≠ sCurve ∧ hd ≠ sPoint) := by
      rcases fm_has hd with ⟨h1, h2⟩ | ⟨h1, h2, h3⟩ | ⟨h1, h2, h3⟩
      · exact .inl ⟨_, h2, .inl ⟨h1, rfl⟩⟩
      · exact .inl ⟨_, h3, .inr ⟨h1, h2, rfl⟩⟩
      · exact .inr ⟨h3, h1, h2⟩
    rcases hfm0 with ⟨q, hlk, hq⟩ | ⟨hlk, hq2, hpw⟩
    · refine C_cutS (fun fb : Nat => ⟨[(10, .s (.v (.bool whole))), (11, .s (.v (.slice (some aT) (tl.length + 1) (tl.length + 1)))), (13, .s (.v (.bool true))), (12, .s (.p fb 5 0)), (2, .s (.p r2 0 0)), (3, .s (.p r3 1 0)), (4, .s (.p r4 2 0)), (6, .s (.p b1 3 0)), (7, .s (.p bn 4 0))], [⟨r2, 30, [.v (.slice none 0 0)]⟩, ⟨r3, 3, [.v (.int .i64 0)]⟩, ⟨r4, 26, [.v (.int .i64 0)]⟩, xtB b1 many A' pts.length c', ⟨bn, 3, [.v (.int .i64 (pre.length : Int))]⟩, ⟨fb, 243, [.v (.func (.func q) #[] #[])]⟩], [⟨189, 2, pts.length, pts.flatMap ptC, .slice A' pts.length c'⟩]⟩) ?_ (fun fb => ?_)
      · repeat' (first
 | (refine C_id ?_; first
 | refine C_drawTr0 (id := 10) 10 (.q 1 (.q 2 (.q 3 (.two 0 8 (.two 4 8 (.q 5 (.q 6 (.q 7 (.n 8 (.n 9 .nil))))) (.n 4 (.q 5 (.q 6 (.q 7 (.n 9 .nil)))))) (.n 0 (.n 4 (.q 5 (.q 6 (.q 7 (.n 9 .nil)))))))))) rfl mixed (by kernel_rfl) rfl ?_
         )
 | (refine S_id ?_; first
 | (refine S_callM (f := 168) rfl obQ (by kernel_rfl) (fun w hw => forms_c w) (fun w1F w2F vF hw1F hbF hRF => ?_); obtain ⟨kF, rfl, hkF, hMF⟩ := hRF)
 | refine S_pure (lok_pure (W := w2F) (S := fun b => w1F.heap.size ≤ b ∧ b < w2F.heap.size) (es := fmE) (z := .agg #[.nilFunc]) (r := .agg #[(.func (.func q) #[] #[])]) (c := true) rfl obQ Tryz.underlying245 Tryz.underlying9 zero243 memQ ⟨hkF, mapE_lt hMF⟩ hMF hlk) ?_
 | refine S_nil ?_
 | refine S_runN rfl rfl obQ obQ ?_
 | refine S_box (fun fb => ⟨_, _, rfl, obQ, ?_⟩)
         )
 | (refine VT_id ?_; first
 | refine VT_nil ?_
 | refine VT_q rfl (Yl_load rfl obQ rfl [.string hd] (.past (w2T, fun b => w1T.heap.size ≤ b ∧ b < w2T.heap.size) memQ _ _ hST _ _ rfl rfl (sN_ld (l := hd :: tl) (k := 0) rfl (by simp))) rfl (.inr ⟨rfl, rfl⟩)) ?_
 | refine VT_q rfl (Yl_step rfl obQ) ?_
 | refine VT_n rfl ?_
 | refine VT_two rfl rfl ?_ ?_
         )
 | (refine G_id ?_; first
 | refine G_VT2 ⟨_, rfl⟩ ⟨_, rfl⟩ pstQ rfl ?_
 | refine G_cut fb ⟨⟨_, rfl, obQ⟩, ⟨_, rfl⟩, rfl, psQ⟩
         )
         )
      · cases whole
        · have hbP := badP_snoc hok (x := x) (by rw [hcut]; rfl)
          repeat' (first
 | (refine C_id ?_; first
 | (refine C_valD 61 (v' := .bool true) rfl (congrArg Value.bool (by rfl)) ?_; refine C_condT rfl obQ ?_)
 | refine C_drawTr00 (id := 12) 2 (.two 0 1 (.n 1 .nil) (.n 0 .nil)) rfl mixed (by kernel_rfl) rfl ?_
 | refine C_seq ?_
 | refine C_ret0 ?_
 | refine C_draw (id := 11) rfl mixed (by kernel_rfl) ?_
           )
 | (refine S_id ?_; first
 | refine S_nil ?_
 | refine S_runN rfl rfl obQ obQ ?_
           )
 | (refine D_id ?_; first
 | refine D_offG (.v (.bool false)) rfl rfl rfl rfl rfl ?_
 | refine D_unG rfl rfl rfl rfl ?_
 | refine D_nil ?_
 | refine D_one rfl obQ ?_
           )
 | (refine VT_id ?_; first
 | refine VT_nil ?_
 | refine VT_n rfl ?_
 | refine VT_two rfl rfl ?_ ?_
           )
 | (refine G_id ?_; first
 | refine G_VT2 ⟨_, rfl⟩ ⟨_, rfl⟩ pstQ rfl ?_
 | (refine G_rows (rw' := []) ⟨_, rfl⟩ ?_; refine G_tailP (G_roundMR () (by rw [stR_ok hbP.1, hbP.2]; exact ⟨⟨_, rfl, obQ⟩, ⟨_, rfl⟩, rfl, pstQ⟩) hw4))
 | refine G_then ?_
 | refine G_blockR ?_
 | refine G_thenR ?_
           )
           )
        rcases hq with ⟨hq1, rfl⟩ | ⟨hpw, hq2, rfl⟩
        · by_cases hk0 : pre.length = 0
          · rcases cv_read hE2 hq1 with ⟨⟨hwr, hn0⟩, hp2, hv⟩ | ⟨hno, hp2⟩
            · have hok2 : okP (pre ++ [x]) = true := by rw [okP_snoc, hok, hcut]; dsimp only; rw [hk0, hp2]; rfl
              have hst2 : stP (pre ++ [x]) = (nxZ tl, pts) := by rw [stP_snoc, if_pos hk0, hst, hcut]; dsimp only; rw [hk0, hv]
              repeat' (first
 | (refine C_id ?_; first
 | (refine C_valD 61 (v' := .bool false) rfl (congrArg Value.bool (by show ((!true || !true) || ((hd.toList == sCurve.toList) != ((pre.length : Int) == 0))) = false; rw [toE_eq hq1, beq_iff_eq.2 (show (pre.length : Int) = 0 by omega)]; rfl)) ?_; refine C_condF rfl obQ ?_)
 | refine C_seq ?_
 | refine C_region rfl ?_
 | refine C_skip ?_
 | refine C_draw (id := 11) rfl mixed (by kernel_rfl) ?_
 | refine C_condF rfl obQ ?_
               )
 | (refine S_id ?_; first
 | ((with_reducible refine S_falseO ?_ ?_ ?_); (· rfl); (· first | rfl | (first | rfl | omega | exact decide_eq_false (by omega) | (rw [beq_eq_false_iff_ne]; omega) | (rw [bne_eq_false_iff_eq]; first | assumption | omega))))
 | refine S_unG rfl rfl rfl rfl ?_
 | refine S_pure (sliceX_pure (lo := some _) (hi := none) rfl obQ (fun w' => sl_loT (X := ⟨Tryz.prog, T, T_ok, 106, w.heap.size, w, [], some l⟩) (t := 178) rfl rfl (some aT) (tl.length + 1) (tl.length + 1) _ _ 1 rfl (by omega) w')) ?_
 | (refine S_callSt2 [⟨r2, 30, [.v (.slice none 0 0)]⟩, ⟨r3, 3, [.v (.int .i64 0)]⟩, ⟨r4, 26, [.v (.int .i64 0)]⟩] (mid := [⟨bn, 3, [.v (.int .i64 (pre.length : Int))]⟩, ⟨fb, 243, [.v (.func (.func 207) #[] #[])]⟩]) rfl (R := fun v x' t' rw' => ∃ A1 c1, x' = xtB b1 (nxZ tl) A' pts.length c' ∧ t' = tkB tb A1 0 c1 false ∧ rw' = [⟨189, 2, pts.length, pts.flatMap ptC, .slice A' pts.length c'⟩]) rfl obQ (by kernel_rfl) (fun w hw h0 => form1_as rfl hszt rfl (by omega) hwr w h0 (HW.rdSt hw memQ hRT (by simp) (by simp))) (fun v x' t' rw' hR => ?_); obtain ⟨A1, c1, rfl, rfl, rfl⟩ := hR)
 | refine S_nil ?_
 | refine S_runN rfl rfl obQ obQ ?_
 | refine S_box (fun tb => ⟨_, _, rfl, obQ, ?_⟩)
               )
 | (refine D_id ?_; first
 | refine D_unG rfl rfl rfl rfl ?_
 | refine D_load rfl obQ rfl [.string hd] (.past (w2T, fun b => w1T.heap.size ≤ b ∧ b < w2T.heap.size) memQ _ _ hST _ _ rfl rfl (sN_ld (l := hd :: tl) (k := 0) rfl (by simp))) rfl (.inr ⟨rfl, rfl⟩) ?_
 | refine D_pure (binX_pure rfl obQ (fun w => ne_boolT Tryz.underlying4 _ _ w)) ?_
 | refine D_nil ?_
 | refine D_one rfl obQ ?_
               )
 | (refine G_id ?_; first
 | refine G_tailP (G_roundM (A', c') (by rw [stI_ok hok2, hst2, hlx]; exact ⟨⟨_, rfl, obQ⟩, ⟨_, rfl⟩, rfl, pstQ⟩) hw4)
 | refine G_then ?_
 | refine G_block ?_
               )
               )
            · have hbP := badP_snoc hok (x := x) (by rw [hcut]; dsimp only; rw [hk0, hp2]; rfl)
              cases hwr : nxR false tl
              · have hn0 : 0 < tl.length - 1 := by
                  by_cases h : tl.length - 1 = 0
                  · exact absurd ⟨hwr, h⟩ hno
                  · omega
                repeat' (first
 | (refine C_id ?_; first
 | (refine C_valD 61 (v' := .bool false) rfl (congrArg Value.bool (by show ((!true || !true) || ((hd.toList == sCurve.toList) != ((pre.length : Int) == 0))) = false; rw [toE_eq hq1, beq_iff_eq.2 (show (pre.length : Int) = 0 by omega)]; rfl)) ?_; refine C_condF rfl obQ ?_)
 | (refine C_valD 84 (v' := .bool true) rfl (congrArg Value.bool (by first | rfl | (rw [Bool.false_or, decide_eq_true_eq]; omega))) ?_; refine C_condT rfl obQ ?_)
 | refine C_drawTr00 (id := 17) 2 (.two 0 1 (.n 1 .nil) (.n 0 .nil)) rfl mixed (by kernel_rfl) rfl ?_
 | refine C_seq ?_
 | refine C_region rfl ?_
 | refine C_skip ?_
 | refine C_ret0 ?_
 | refine C_draw (id := 11) rfl mixed (by kernel_rfl) ?_
                 )
 | (refine S_id ?_; first
 | refine S_unG rfl rfl rfl rfl ?_
 | refine S_pure (sliceX_pure (lo := some _) (hi := none) rfl obQ (fun w' => sl_loT (X := ⟨Tryz.prog, T, T_ok, 106, w.heap.size, w, [], some l⟩) (t := 178) rfl rfl (some aT) (tl.length + 1) (tl.length + 1) _ _ 1 rfl (by omega) w')) ?_
 | (refine S_callSt2 [⟨r2, 30, [.v (.slice none 0 0)]⟩, ⟨r3, 3, [.v (.int .i64 0)]⟩, ⟨r4, 26, [.v (.int .i64 0)]⟩] (mid := [⟨bn, 3, [.v (.int .i64 (pre.length : Int))]⟩, ⟨fb, 243, [.v (.func (.func 207) #[] #[])]⟩]) rfl (R := fun v x' t' rw' => ∃ A1 c1, x' = xtB b1 (nxZ tl) A' pts.length c' ∧ t' = tkB tb A1 (tl.length - 1) c1 false ∧ rw' = [⟨189, 2, pts.length, pts.flatMap ptC, .slice A' pts.length c'⟩]) rfl obQ (by kernel_rfl) (fun w hw h0 => form1_as rfl hszt rfl (by omega) hwr w h0 (HW.rdSt hw memQ hRT (by simp) (by simp))) (fun v x' t' rw' hR => ?_); obtain ⟨A1, c1, rfl, rfl, rfl⟩ := hR)
 | refine S_nil ?_
 | refine S_runN rfl rfl obQ obQ ?_
 | refine S_box (fun tb => ⟨_, _, rfl, obQ, ?_⟩)
                 )
 | (refine D_id ?_; first
 | refine D_unG rfl rfl rfl rfl ?_
 | refine D_load rfl obQ rfl [.string hd] (.past (w2T, fun b => w1T.heap.size ≤ b ∧ b < w2T.heap.size) memQ _ _ hST _ _ rfl rfl (sN_ld (l := hd :: tl) (k := 0) rfl (by simp))) rfl (.inr ⟨rfl, rfl⟩) ?_
 | refine D_pure (binX_pure rfl obQ (fun w => ne_boolT Tryz.underlying4 _ _ w)) ?_
 | refine D_nil ?_
 | refine D_one rfl obQ ?_
                 )
 | (refine VT_id ?_; first
 | refine VT_nil ?_
 | refine VT_n rfl ?_
 | refine VT_two rfl rfl ?_ ?_
                 )
 | (refine G_id ?_; first
 | refine G_VT2 ⟨_, rfl⟩ ⟨_, rfl⟩ pstQ rfl ?_
 | (refine G_rows (rw' := []) ⟨_, rfl⟩ ?_; refine G_tailP (G_roundMR () (by rw [stR_ok hbP.1, hbP.2]; exact ⟨⟨_, rfl, obQ⟩, ⟨_, rfl⟩, rfl, pstQ⟩) hw4))
 | refine G_then ?_
 | refine G_blockR ?_
 | refine G_thenR ?_
                 )
                 )
              · repeat' (first
 | (refine C_id ?_; first
 | (refine C_valD 61 (v' := .bool false) rfl (congrArg Value.bool (by show ((!true || !true) || ((hd.toList == sCurve.toList) != ((pre.length : Int) == 0))) = false; rw [toE_eq hq1, beq_iff_eq.2 (show (pre.length : Int) = 0 by omega)]; rfl)) ?_; refine C_condF rfl obQ ?_)
 | (refine C_valD 84 (v' := .bool true) rfl (congrArg Value.bool (by first | rfl | (rw [Bool.false_or, decide_eq_true_eq]; omega))) ?_; refine C_condT rfl obQ ?_)
 | refine C_drawTr00 (id := 17) 2 (.two 0 1 (.n 1 .nil) (.n 0 .nil)) rfl mixed (by kernel_rfl) rfl ?_
 | refine C_seq ?_
 | refine C_region rfl ?_
 | refine C_skip ?_
 | refine C_ret0 ?_
 | refine C_draw (id := 11) rfl mixed (by kernel_rfl) ?_
                 )
 | (refine S_id ?_; first
 | refine S_offG (.v (.bool false)) rfl rfl rfl rfl rfl ?_
 | refine S_pure (sliceX_pure (lo := some _) (hi := none) rfl obQ (fun w' => sl_loT (X := ⟨Tryz.prog, T, T_ok, 106, w.heap.size, w, [], some l⟩) (t := 178) rfl rfl (some aT) (tl.length + 1) (tl.length + 1) _ _ 1 rfl (by omega) w')) ?_
 | (refine S_callSt2 [⟨r2, 30, [.v (.slice none 0 0)]⟩, ⟨r3, 3, [.v (.int .i64 0)]⟩, ⟨r4, 26, [.v (.int .i64 0)]⟩] (mid := [⟨bn, 3, [.v (.int .i64 (pre.length : Int))]⟩, ⟨fb, 243, [.v (.func (.func 207) #[] #[])]⟩]) rfl (R := fun v x' t' rw' => ∃ A1 c1, x' = xtB b1 (nxZ tl) A' pts.length c' ∧ t' = tkB tb A1 (tl.length - 1) c1 true ∧ rw' = [⟨189, 2, pts.length, pts.flatMap ptC, .slice A' pts.length c'⟩]) rfl obQ (by kernel_rfl) (fun w hw h0 => form1_as rfl hszt rfl (by omega) hwr w h0 (HW.rdSt hw memQ hRT (by simp) (by simp))) (fun v x' t' rw' hR => ?_); obtain ⟨A1, c1, rfl, rfl, rfl⟩ := hR)
 | refine S_nil ?_
 | refine S_runN rfl rfl obQ obQ ?_
 | refine S_box (fun tb => ⟨_, _, rfl, obQ, ?_⟩)
                 )
 | (refine D_id ?_; first
 | refine D_unG rfl rfl rfl rfl ?_
 | refine D_load rfl obQ rfl [.string hd] (.past (w2T, fun b => w1T.heap.size ≤ b ∧ b < w2T.heap.size) memQ _ _ hST _ _ rfl rfl (sN_ld (l := hd :: tl) (k := 0) rfl (by simp))) rfl (.inr ⟨rfl, rfl⟩) ?_
 | refine D_pure (binX_pure rfl obQ (fun w => ne_boolT Tryz.underlying4 _ _ w)) ?_
 | refine D_nil ?_
 | refine D_one rfl obQ ?_
                 )
 | (refine VT_id ?_; first
 | refine VT_nil ?_
 | refine VT_n rfl ?_
 | refine VT_two rfl rfl ?_ ?_
                 )
 | (refine G_id ?_; first
 | refine G_VT2 ⟨_, rfl⟩ ⟨_, rfl⟩ pstQ rfl ?_
 | (refine G_rows (rw' := []) ⟨_, rfl⟩ ?_; refine G_tailP (G_roundMR () (by rw [stR_ok hbP.1, hbP.2]; exact ⟨⟨_, rfl, obQ⟩, ⟨_, rfl⟩, rfl, pstQ⟩) hw4))
 | refine G_then ?_
 | refine G_blockR ?_
 | refine G_thenR ?_
                 )
                 )
          · have hbP := badP_snoc hok (x := x) (by rw [hcut]; dsimp only; rw [wd_false hE2 (by rw [hq1]; unfold psW; rw [if_neg hk0]; decide)]; rfl)
            repeat' (first
 | (refine C_id ?_; first
 | (refine C_valD 61 (v' := .bool true) rfl (congrArg Value.bool (by show ((!true || !true) || ((hd.toList == sCurve.toList) != ((pre.length : Int) == 0))) = true; rw [toE_eq hq1, beq_eq_false_iff_ne.2 (show (pre.length : Int) ≠ 0 by omega)]; rfl)) ?_; refine C_condT rfl obQ ?_)
 | refine C_drawTr00 (id := 12) 2 (.two 0 1 (.n 1 .nil) (.n 0 .nil)) rfl mixed (by kernel_rfl) rfl ?_
 | refine C_seq ?_
 | refine C_ret0 ?_
 | refine C_draw (id := 11) rfl mixed (by kernel_rfl) ?_
             )
 | (refine S_id ?_; first
 | refine S_nil ?_
 | refine S_runN rfl rfl obQ obQ ?_
             )
 | (refine D_id ?_; first
 | refine D_unG rfl rfl rfl rfl ?_
 | refine D_load rfl obQ rfl [.string hd] (.past (w2T, fun b => w1T.heap.size ≤ b ∧ b < w2T.heap.size) memQ _ _ hST _ _ rfl rfl (sN_ld (l := hd :: tl) (k := 0) rfl (by simp))) rfl (.inr ⟨rfl, rfl⟩) ?_
 | refine D_pure (binX_pure rfl obQ (fun w => ne_boolT Tryz.underlying4 _ _ w)) ?_
 | refine D_nil ?_
 | refine D_one rfl obQ ?_
             )
 | (refine VT_id ?_; first
 | refine VT_nil ?_
 | refine VT_n rfl ?_
 | refine VT_two rfl rfl ?_ ?_
             )
 | (refine G_id ?_; first
 | refine G_VT2 ⟨_, rfl⟩ ⟨_, rfl⟩ pstQ rfl ?_
 | (refine G_rows (rw' := []) ⟨_, rfl⟩ ?_; refine G_tailP (G_roundMR () (by rw [stR_ok hbP.1, hbP.2]; exact ⟨⟨_, rfl, obQ⟩, ⟨_, rfl⟩, rfl, pstQ⟩) hw4))
 | refine G_then ?_
 | refine G_blockR ?_
 | refine G_thenR ?_
             )
             )
        · by_cases hk0 : pre.length = 0
          · have hbP := badP_snoc hok (x := x) (by rw [hcut]; dsimp only; rw [wd_false hE2 (by unfold psW; rw [if_pos hk0]; exact hq2)]; rfl)
            repeat' (first
 | (refine C_id ?_; first
 | (refine C_valD 61 (v' := .bool true) rfl (congrArg Value.bool (by show ((!true || !true) || ((hd.toList == sCurve.toList) != ((pre.length : Int) == 0))) = true; rw [toE_ne hq2, beq_iff_eq.2 (show (pre.length : Int) = 0 by omega)]; rfl)) ?_; refine C_condT rfl obQ ?_)
 | refine C_drawTr00 (id := 12) 2 (.two 0 1 (.n 1 .nil) (.n 0 .nil)) rfl mixed (by kernel_rfl) rfl ?_
 | refine C_seq ?_
 | refine C_ret0 ?_
 | refine C_draw (id := 11) rfl mixed (by kernel_rfl) ?_
             )
 | (refine S_id ?_; first
 | refine S_nil ?_
 | refine S_runN rfl rfl obQ obQ ?_
             )
 | (refine D_id ?_; first
 | refine D_unG rfl rfl rfl rfl ?_
 | refine D_load rfl obQ rfl [.string hd] (.past (w2T, fun b => w1T.heap.size ≤ b ∧ b < w2T.heap.size) memQ _ _ hST _ _ rfl rfl (sN_ld (l := hd :: tl) (k := 0) rfl (by simp))) rfl (.inr ⟨rfl, rfl⟩) ?_
 | refine D_pure (binX_pure rfl obQ (fun w => ne_boolT Tryz.underlying4 _ _ w)) ?_
 | refine D_nil ?_
 | refine D_one rfl obQ ?_
             )
 | (refine VT_id ?_; first
 | refine VT_nil ?_
 | refine VT_n rfl ?_
 | refine VT_two rfl rfl ?_ ?_
             )
 | (refine G_id ?_; first
 | refine G_VT2 ⟨_, rfl⟩ ⟨_, rfl⟩ pstQ rfl ?_
 | (refine G_rows (rw' := []) ⟨_, rfl⟩ ?_; refine G_tailP (G_roundMR () (by rw [stR_ok hbP.1, hbP.2]; exact ⟨⟨_, rfl, obQ⟩, ⟨_, rfl⟩, rfl, pstQ⟩) hw4))
 | refine G_then ?_
 | refine G_blockR ?_
 | refine G_thenR ?_
             )
             )
          · rcases pt_read hk0 hE2 hpw with ⟨⟨hwr, hn0⟩, hp2, hv, hv2⟩ | ⟨hno, hp2⟩
            · have hok2 : okP (pre ++ [x]) = true := by rw [okP_snoc, hok, hcut]; dsimp only; rw [hp2]; rfl
              have hst2 : stP (pre ++ [x]) = (many, pts ++ [(nxZ tl, nxZ tl.tail)]) := by rw [stP_snoc, if_neg hk0, hst, hcut]; dsimp only; rw [hv, hv2]
              have hlp : (pts ++ [(nxZ tl, nxZ tl.tail)]).length = pts.length + 1 := by simp
              have hfm : (pts ++ [(nxZ tl, nxZ tl.tail)]).flatMap ptC = pts.flatMap ptC ++ [.int .i64 (nxZ tl), .int .i64 (nxZ tl.tail)] := by rw [List.flatMap_append]; simp [ptC]
              repeat' (first
 | (refine C_id ?_; first
 | (refine C_valD 61 (v' := .bool false) rfl (congrArg Value.bool (by show ((!true || !true) || ((hd.toList == sCurve.toList) != ((pre.length : Int) == 0))) = false; rw [toE_ne hq2, beq_eq_false_iff_ne.2 (show (pre.length : Int) ≠ 0 by omega)]; rfl)) ?_; refine C_condF rfl obQ ?_)
 | refine C_seq ?_
 | refine C_region rfl ?_
 | refine C_skip ?_
 | refine C_draw (id := 11) rfl mixed (by kernel_rfl) ?_
 | refine C_condF rfl obQ ?_
               )
 | (refine S_id ?_; first
 | ((with_reducible refine S_falseO ?_ ?_ ?_); (· rfl); (· first | rfl | (first | rfl | omega | exact decide_eq_false (by omega) | (rw [beq_eq_false_iff_ne]; omega) | (rw [bne_eq_false_iff_eq]; first | assumption | omega))))
 | refine S_unG rfl rfl rfl rfl ?_
 | refine S_pure (sliceX_pure (lo := some _) (hi := none) rfl obQ (fun w' => sl_loT (X := ⟨Tryz.prog, T, T_ok, 106, w.heap.size, w, [], some l⟩) (t := 178) rfl rfl (some aT) (tl.length + 1) (tl.length + 1) _ _ 1 rfl (by omega) w')) ?_
 | (refine S_callSt2 [⟨r2, 30, [.v (.slice none 0 0)]⟩, ⟨r3, 3, [.v (.int .i64 0)]⟩, ⟨r4, 26, [.v (.int .i64 0)]⟩] (mid := [⟨bn, 3, [.v (.int .i64 (pre.length : Int))]⟩, ⟨fb, 243, [.v (.func (.func 208) #[] #[])]⟩]) rfl (R := fun v x' t' rw' => ∃ A1 c1 A2 c2, x' = xtB b1 many A2 (pts.length + 1) c2 ∧ t' = tkB tb A1 0 c1 false ∧ rw' = [⟨189, 2, pts.length + 1, pts.flatMap ptC ++ ([Value.int .i64 (nxZ tl), Value.int .i64 (nxZ tl.tail)] : List Value), .slice A2 (pts.length + 1) c2⟩]) rfl obQ (by kernel_rfl) (fun w hw h0 => form2_as (by omega) rfl (by omega) hszt rfl rfl (by omega) hwr w h0 (HW.rdSt hw memQ hRT (by simp) (by simp))) (fun v x' t' rw' hR => ?_); obtain ⟨A1, c1, A2, c2, rfl, rfl, rfl⟩ := hR)
 | refine S_nil ?_
 | refine S_runN rfl rfl obQ obQ ?_
 | refine S_box (fun tb => ⟨_, _, rfl, obQ, ?_⟩)
               )
 | (refine D_id ?_; first
 | refine D_unG rfl rfl rfl rfl ?_
 | refine D_load rfl obQ rfl [.string hd] (.past (w2T, fun b => w1T.heap.size ≤ b ∧ b < w2T.heap.size) memQ _ _ hST _ _ rfl rfl (sN_ld (l := hd :: tl) (k := 0) rfl (by simp))) rfl (.inr ⟨rfl, rfl⟩) ?_
 | refine D_pure (binX_pure rfl obQ (fun w => ne_boolT Tryz.underlying4 _ _ w)) ?_
 | refine D_nil ?_
 | refine D_one rfl obQ ?_
               )
 | (refine G_id ?_; first
 | refine G_tailP (G_roundM (A2, c2) (by rw [stI_ok hok2, hst2, hlx]; dsimp only; rw [hlp, hfm]; exact ⟨⟨_, rfl, obQ⟩, ⟨_, rfl⟩, rfl, pstQ⟩) hw4)
 | refine G_then ?_
 | refine G_block ?_
               )
               )
            · have hbP := badP_snoc hok (x := x) (by rw [hcut]; dsimp only; rw [hp2]; rfl)
              cases hwr : nxR (nxR false tl) tl.tail
              · have hn0 : 0 < tl.length - 1 - 1 := by
                  by_cases h : tl.length - 1 - 1 = 0
                  · exact absurd ⟨hwr, h⟩ hno
                  · omega
                repeat' (first
 | (refine C_id ?_; first
 | (refine C_valD 61 (v' := .bool false) rfl (congrArg Value.bool (by show ((!true || !true) || ((hd.toList == sCurve.toList) != ((pre.length : Int) == 0))) = false; rw [toE_ne hq2, beq_eq_false_iff_ne.2 (show (pre.length : Int) ≠ 0 by omega)]; rfl)) ?_; refine C_condF rfl obQ ?_)
 | (refine C_valD 84 (v' := .bool true) rfl (congrArg Value.bool (by first | rfl | (rw [Bool.false_or, decide_eq_true_eq]; omega))) ?_; refine C_condT rfl obQ ?_)
 | refine C_drawTr00 (id := 17) 2 (.two 0 1 (.n 1 .nil) (.n 0 .nil)) rfl mixed (by kernel_rfl) rfl ?_
 | refine C_seq ?_
 | refine C_region rfl ?_
 | refine C_skip ?_
 | refine C_ret0 ?_
 | refine C_draw (id := 11) rfl mixed (by kernel_rfl) ?_
                 )
 | (refine S_id ?_; first
 | refine S_unG rfl rfl rfl rfl ?_
 | refine S_pure (sliceX_pure (lo := some _) (hi := none) rfl obQ (fun w' => sl_loT (X := ⟨Tryz.prog, T, T_ok, 106, w.heap.size, w, [], some l⟩) (t := 178) rfl rfl (some aT) (tl.length + 1) (tl.length + 1) _ _ 1 rfl (by omega) w')) ?_
 | (refine S_callSt2 [⟨r2, 30, [.v (.slice none 0 0)]⟩, ⟨r3, 3, [.v (.int .i64 0)]⟩, ⟨r4, 26, [.v (.int .i64 0)]⟩] (mid := [⟨bn, 3, [.v (.int .i64 (pre.length : Int))]⟩, ⟨fb, 243, [.v (.func (.func 208) #[] #[])]⟩]) rfl (R := fun v x' t' rw' => ∃ A1 c1 A2 c2, x' = xtB b1 many A2 (pts.length + 1) c2 ∧ t' = tkB tb A1 (tl.length - 1 - 1) c1 false ∧ rw' = [⟨189, 2, pts.length + 1, pts.flatMap ptC ++ ([Value.int .i64 (nxZ tl), Value.int .i64 (nxZ tl.tail)] : List Value), .slice A2 (pts.length + 1) c2⟩]) rfl obQ (by kernel_rfl) (fun w hw h0 => form2_as (by omega) rfl (by omega) hszt rfl rfl (by omega) hwr w h0 (HW.rdSt hw memQ hRT (by simp) (by simp))) (fun v x' t' rw' hR => ?_); obtain ⟨A1, c1, A2, c2, rfl, rfl, rfl⟩ := hR)
 | refine S_nil ?_
 | refine S_runN rfl rfl obQ obQ ?_
 | refine S_box (fun tb => ⟨_, _, rfl, obQ, ?_⟩)
                 )
 | (refine D_id ?_; first
 | refine D_unG rfl rfl rfl rfl ?_
 | refine D_load rfl obQ rfl [.string hd] (.past (w2T, fun b => w1T.heap.size ≤ b ∧ b < w2T.heap.size) memQ _ _ hST _ _ rfl rfl (sN_ld (l := hd :: tl) (k := 0) rfl (by simp))) rfl (.inr ⟨rfl, rfl⟩) ?_
 | refine D_pure (binX_pure rfl obQ (fun w => ne_boolT Tryz.underlying4 _ _ w)) ?_
 | refine D_nil ?_
 | refine D_one rfl obQ ?_
                 )
 | (refine VT_id ?_; first
 | refine VT_nil ?_
 | refine VT_n rfl ?_
 | refine VT_two rfl rfl ?_ ?_
                 )
 | (refine G_id ?_; first
 | refine G_VT2 ⟨_, rfl⟩ ⟨_, rfl⟩ pstQ rfl ?_
 | (refine G_rows (rw' := []) ⟨_, rfl⟩ ?_; refine G_tailP (G_roundMR () (by rw [stR_ok hbP.1, hbP.2]; exact ⟨⟨_, rfl, obQ⟩, ⟨_, rfl⟩, rfl, pstQ⟩) hw4))
 | refine G_then ?_
 | refine G_blockR ?_
 | refine G_thenR ?_
                 )
                 )
              · repeat' (first
 | (refine C_id ?_; first
 | (refine C_valD 61 (v' := .bool false) rfl (congrArg Value.bool (by show ((!true || !true) || ((hd.toList == sCurve.toList) != ((pre.length : Int) == 0))) = false; rw [toE_ne hq2, beq_eq_false_iff_ne.2 (show (pre.length : Int) ≠ 0 by omega)]; rfl)) ?_; refine C_condF rfl obQ ?_)
 | (refine C_valD 84 (v' := .bool true) rfl (congrArg Value.bool (by first | rfl | (rw [Bool.false_or, decide_eq_true_eq]; omega))) ?_; refine C_condT rfl obQ ?_)
 | refine C_drawTr00 (id := 17) 2 (.two 0 1 (.n 1 .nil) (.n 0 .nil)) rfl mixed (by kernel_rfl) rfl ?_
 | refine C_seq ?_
 | refine C_region rfl ?_
 | refine C_skip ?_
 | refine C_ret0 ?_
 | refine C_draw (id := 11) rfl mixed (by kernel_rfl) ?_
                 )
 | (refine S_id ?_; first
 | refine S_offG (.v (.bool false)) rfl rfl rfl rfl rfl ?_
 | refine S_pure (sliceX_pure (lo := some _) (hi := none) rfl obQ (fun w' => sl_loT (X := ⟨Tryz.prog, T, T_ok, 106, w.heap.size, w, [], some l⟩) (t := 178) rfl rfl (some aT) (tl.length + 1) (tl.length + 1) _ _ 1 rfl (by omega) w')) ?_
 | (refine S_callSt2 [⟨r2, 30, [.v (.slice none 0 0)]⟩, ⟨r3, 3, [.v (.int .i64 0)]⟩, ⟨r4, 26, [.v (.int .i64 0)]⟩] (mid := [⟨bn, 3, [.v (.int .i64 (pre.length : Int))]⟩, ⟨fb, 243, [.v (.func (.func 208) #[] #[])]⟩]) rfl (R := fun v x' t' rw' => ∃ A1 c1 A2 c2, x' = xtB b1 many A2 (pts.length + 1) c2 ∧ t' = tkB tb A1 (tl.length - 1 - 1) c1 true ∧ rw' = [⟨189, 2, pts.length + 1, pts.flatMap ptC ++ ([Value.int .i64 (nxZ tl), Value.int .i64 (nxZ tl.tail)] : List Value), .slice A2 (pts.length + 1) c2⟩]) rfl obQ (by kernel_rfl) (fun w hw h0 => form2_as (by omega) rfl (by omega) hszt rfl rfl (by omega) hwr w h0 (HW.rdSt hw memQ hRT (by simp) (by simp))) (fun v x' t' rw' hR => ?_); obtain ⟨A1, c1, A2, c2, rfl, rfl, rfl⟩ := hR)
 | refine S_nil ?_
 | refine S_runN rfl rfl obQ obQ ?_
 | refine S_box (fun tb => ⟨_, _, rfl, obQ, ?_⟩)
                 )
 | (refine D_id ?_; first
 | refine D_unG rfl rfl rfl rfl ?_
 | refine D_load rfl obQ rfl [.string hd] (.past (w2T, fun b => w1T.heap.size ≤ b ∧ b < w2T.heap.size) memQ _ _ hST _ _ rfl rfl (sN_ld (l := hd :: tl) (k := 0) rfl (by simp))) rfl (.inr ⟨rfl, rfl⟩) ?_
 | refine D_pure (binX_pure rfl obQ (fun w => ne_boolT Tryz.underlying4 _ _ w)) ?_
 | refine D_nil ?_
 | refine D_one rfl obQ ?_
                 )
 | (refine VT_id ?_; first
 | refine VT_nil ?_
 | refine VT_n rfl ?_
 | refine VT_two rfl rfl ?_ ?_
                 )
 | (refine G_id ?_; first
 | refine G_VT2 ⟨_, rfl⟩ ⟨_, rfl⟩ pstQ rfl ?_
 | (refine G_rows (rw' := []) ⟨_, rfl⟩ ?_; refine G_tailP (G_roundMR () (by rw [stR_ok hbP.1, hbP.2]; exact ⟨⟨_, rfl, obQ⟩, ⟨_, rfl⟩, rfl, pstQ⟩) hw4))
 | refine G_then ?_
 | refine G_blockR ?_
 | refine G_thenR ?_
                 )
                 )
    · refine C_cutS (fun fb : Nat => ⟨[(10, .s (.v (.bool whole))), (11, .s (.v (.slice (some aT) (tl.length + 1) (tl.length + 1)))), (13, .s (.v (.bool false))), (12, .s (.p fb 5 0)), (2, .s (.p r2 0 0)), (3, .s (.p r3 1 0)), (4, .s (.p r4 2 0)), (6, .s (.p b1 3 0)), (7, .s (.p bn 4 0))], [⟨r2, 30, [.v (.slice none 0 0)]⟩, ⟨r3, 3, [.v (.int .i64 0)]⟩, ⟨r4, 26, [.v (.int .i64 0)]⟩, xtB b1 many A' pts.length c', ⟨bn, 3, [.v (.int .i64 (pre.length : Int))]⟩, ⟨fb, 243, [.v .nilFunc]⟩], [⟨189, 2, pts.length, pts.flatMap ptC, .slice A' pts.length c'⟩]⟩) ?_ (fun fb => ?_)
      · repeat' (first
 | (refine C_id ?_; first
 | refine C_drawTr0 (id := 10) 10 (.q 1 (.q 2 (.q 3 (.two 0 8 (.two 4 8 (.q 5 (.q 6 (.q 7 (.n 8 (.n 9 .nil))))) (.n 4 (.q 5 (.q 6 (.q 7 (.n 9 .nil)))))) (.n 0 (.n 4 (.q 5 (.q 6 (.q 7 (.n 9 .nil)))))))))) rfl mixed (by kernel_rfl) rfl ?_
         )
 | (refine S_id ?_; first
 | (refine S_callM (f := 168) rfl obQ (by kernel_rfl) (fun w hw => forms_c w) (fun w1F w2F vF hw1F hbF hRF => ?_); obtain ⟨kF, rfl, hkF, hMF⟩ := hRF)
 | refine S_pure (lok_pure (W := w2F) (S := fun b => w1F.heap.size ≤ b ∧ b < w2F.heap.size) (es := fmE) (z := .agg #[.nilFunc]) (r := .agg #[.nilFunc]) (c := false) rfl obQ Tryz.underlying245 Tryz.underlying9 zero243 memQ ⟨hkF, mapE_lt hMF⟩ hMF hlk) ?_
 | refine S_nil ?_
 | refine S_runN rfl rfl obQ obQ ?_
 | refine S_box (fun fb => ⟨_, _, rfl, obQ, ?_⟩)
         )
 | (refine VT_id ?_; first
 | refine VT_nil ?_
 | refine VT_q rfl (Yl_load rfl obQ rfl [.string hd] (.past (w2T, fun b => w1T.heap.size ≤ b ∧ b < w2T.heap.size) memQ _ _ hST _ _ rfl rfl (sN_ld (l := hd :: tl) (k := 0) rfl (by simp))) rfl (.inr ⟨rfl, rfl⟩)) ?_
 | refine VT_q rfl (Yl_step rfl obQ) ?_
 | refine VT_n rfl ?_
 | refine VT_two rfl rfl ?_ ?_
         )
 | (refine G_id ?_; first
 | refine G_VT2 ⟨_, rfl⟩ ⟨_, rfl⟩ pstQ rfl ?_
 | refine G_cut fb ⟨⟨_, rfl, obQ⟩, ⟨_, rfl⟩, rfl, psQ⟩
         )
         )
      · have hps := wd_false (k := pre.length) hE2 (by unfold psW; split; exact hq2; exact hpw)
        cases whole
        · have hbP := badP_snoc hok (x := x) (by rw [hcut]; rfl)
          repeat' (first
 | (refine C_id ?_; first
 | (refine C_valD 61 (v' := .bool true) rfl (congrArg Value.bool (by rfl)) ?_; refine C_condT rfl obQ ?_)
 | refine C_drawTr00 (id := 12) 2 (.two 0 1 (.n 1 .nil) (.n 0 .nil)) rfl mixed (by kernel_rfl) rfl ?_
 | refine C_seq ?_
 | refine C_ret0 ?_
 | refine C_draw (id := 11) rfl mixed (by kernel_rfl) ?_
           )
 | (refine S_id ?_; first
 | refine S_nil ?_
 | refine S_runN rfl rfl obQ obQ ?_
           )
 | (refine D_id ?_; first
 | refine D_offG (.v (.bool false)) rfl rfl rfl rfl rfl ?_
 | refine D_unG rfl rfl rfl rfl ?_
 | refine D_nil ?_
 | refine D_one rfl obQ ?_
           )
 | (refine VT_id ?_; first
 | refine VT_nil ?_
 | refine VT_n rfl ?_
 | refine VT_two rfl rfl ?_ ?_
           )
 | (refine G_id ?_; first
 | refine G_VT2 ⟨_, rfl⟩ ⟨_, rfl⟩ pstQ rfl ?_
 | (refine G_rows (rw' := []) ⟨_, rfl⟩ ?_; refine G_tailP (G_roundMR () (by rw [stR_ok hbP.1, hbP.2]; exact ⟨⟨_, rfl, obQ⟩, ⟨_, rfl⟩, rfl, pstQ⟩) hw4))
 | refine G_then ?_
 | refine G_blockR ?_
 | refine G_thenR ?_
           )
           )
        · have hbP := badP_snoc hok (x := x) (by rw [hcut]; dsimp only; rw [hps]; rfl)
          repeat' (first
 | (refine C_id ?_; first
 | (refine C_valD 61 (v' := .bool true) rfl (congrArg Value.bool (by rfl)) ?_; refine C_condT rfl obQ ?_)
 | refine C_drawTr00 (id := 12) 2 (.two 0 1 (.n 1 .nil) (.n 0 .nil)) rfl mixed (by kernel_rfl) rfl ?_
 | refine C_seq ?_
 | refine C_ret0 ?_
 | refine C_draw (id := 11) rfl mixed (by kernel_rfl) ?_
           )
 | (refine S_id ?_; first
 | refine S_nil ?_
 | refine S_runN rfl rfl obQ obQ ?_
           )
 | (refine D_id ?_; first
 | refine D_offG (.v (.bool false)) rfl rfl rfl rfl rfl ?_
 | refine D_unG rfl rfl rfl rfl ?_
 | refine D_nil ?_
 | refine D_one rfl obQ ?_
           )
 | (refine VT_id ?_; first
 | refine VT_nil ?_
 | refine VT_n rfl ?_
 | refine VT_two rfl rfl ?_ ?_
           )
 | (refine G_id ?_; first
 | refine G_VT2 ⟨_, rfl⟩ ⟨_, rfl⟩ pstQ rfl ?_
 | (refine G_rows (rw' := []) ⟨_, rfl⟩ ?_; refine G_tailP (G_roundMR () (by rw [stR_ok hbP.1, hbP.2]; exact ⟨⟨_, rfl, obQ⟩, ⟨_, rfl⟩, rfl, pstQ⟩) hw4))
 | refine G_then ?_
 | refine G_blockR ?_
 | refine G_thenR ?_
           )
           )
  · cases hok : okP xs
    · rw [stI_bad hok]
      exact G_bad
    have hR := done_eq (by omega) (by omega) hxs hok
    have hpt := stP_len xs
    rw [stI_ok hok]
    rcases hst : stP xs with ⟨many, pts⟩
    rw [hst] at hR hpt
    obtain ⟨A', c'⟩ := i
    dsimp only at hR hpt ⊢
    rw [hR]
    by_cases hcnt : (pts.length : Int) = many
    · rw [if_neg (by simpa using hcnt)]
      by_cases hce : curveE pts = 0
      · have hE : firstL [wh (many != (pts.length : Int)) 2, curveE pts] = 0 := by rw [hce, hcnt]; simp [wh, firstL]
        rw [if_neg (by simpa using hce)]
        repeat' (first
 | (refine C_id ?_; first
 | refine C_seq ?_
 | refine C_region rfl ?_
 | refine C_skip ?_
 | refine C_ret0 ?_
 | refine C_drawT (id := 19) 10 rfl mixed (by kernel_rfl) rfl rfl ?_
 | refine C_condF rfl obQ ?_
         )
 | (refine S_id ?_; first
 | ((with_reducible (first | refine S_falseN ?_ ?_ | refine S_falseB ?_ ?_ | refine S_falseL ?_ ?_ | refine S_falseD ?_ ?_ | refine S_falseE ?_ ?_)); · (first | rfl | omega | exact decide_eq_false (by omega) | (rw [beq_eq_false_iff_ne]; omega) | (rw [bne_eq_false_iff_eq]; first | assumption | omega)))
 | refine S_nil ?_
 | refine S_runN rfl rfl obQ obQ ?_
 | refine S_slice (fun b => ⟨_, _, rfl, obQ, ?_⟩)
 | refine S_call (f := 111) rfl obQ (by kernel_rfl) (fun w hw => cfE_c (l := [wh (many != (pts.length : Int)) 2, curveE pts]) hE (by simp) rfl _ w (.inr ⟨_, rfl, hw.src (i := 5) rfl rfl⟩)) ?_
         )
 | (refine D_id ?_; first
 | refine D_tail ?_
 | refine D_one rfl obQ ?_
 | refine D_call (f := 121) rfl obQ (by kernel_rfl) (fun w hw => cwhen_c _ _ w) ?_
 | refine D_call (f := 34) rfl obQ (by kernel_rfl) (fun w hw => checkCurve_c A' c' pts (by omega) w (hw.rdRow (i := 0) rfl rfl)) ?_
         )
 | (refine G_id ?_; first
 | refine G_then ?_
 | refine G_block ?_
 | refine G_retD rfl obQ ((DsP.nil _ _).cons hBD hWD hnD |>.weak (by intro p hp; simp only [List.mem_cons, List.mem_nil_iff, or_false] at hp ⊢; rcases hp with rfl | rfl <;> simp)) (fun w2 hw => ⟨_, rfl, hw.below, by obtain ⟨A2, c2, e2, h2⟩ := HW.rowSl (i := 0) hw rfl rfl rfl rfl; injection e2 with e3 e4 e5; subst e3; subst e5; exact ⟨_, _, rfl, h2⟩⟩)
         )
         )
      · have hE : firstL [wh (many != (pts.length : Int)) 2, curveE pts] = curveE pts := by rw [hcnt]; simp [wh, firstL]; exact fun h => h.symm
        rw [if_pos hce]
        repeat' (first
 | (refine C_id ?_; first
 | refine C_drawTr00 (id := 21) 4 (.q 1 (.two 0 2 (.n 2 (.n 3 .nil)) (.n 0 (.n 3 .nil)))) rfl mixed (by kernel_rfl) rfl ?_
 | refine C_seq ?_
 | refine C_region rfl ?_
 | refine C_ret0 ?_
 | refine C_drawT (id := 19) 10 rfl mixed (by kernel_rfl) rfl rfl ?_
 | refine C_condT rfl obQ ?_
         )
 | (refine S_id ?_; first
 | ((with_reducible (first | refine S_trueE ?_ ?_ | refine S_trueB ?_ ?_ | refine S_trueL ?_ ?_ | refine S_trueD ?_ ?_ | refine S_trueN ?_ ?_)); · (first | rfl | assumption | omega | exact decide_eq_true (by omega) | (rw [beq_iff_eq]; omega) | (rw [bne_iff_ne]; first | assumption | omega)))
 | refine S_nil ?_
 | refine S_runN rfl rfl obQ obQ ?_
 | refine S_slice (fun b => ⟨_, _, rfl, obQ, ?_⟩)
 | refine S_call (f := 111) rfl obQ (by kernel_rfl) (fun w hw => cfE_c (l := [wh (many != (pts.length : Int)) 2, curveE pts]) hE (by simp) rfl _ w (.inr ⟨_, rfl, hw.src (i := 5) rfl rfl⟩)) ?_
         )
 | (refine D_id ?_; first
 | refine D_tail ?_
 | refine D_one rfl obQ ?_
 | refine D_call (f := 121) rfl obQ (by kernel_rfl) (fun w hw => cwhen_c _ _ w) ?_
 | refine D_call (f := 34) rfl obQ (by kernel_rfl) (fun w hw => checkCurve_c A' c' pts (by omega) w (hw.rdRow (i := 0) rfl rfl)) ?_
         )
 | (refine VT_id ?_; first
 | refine VT_nil ?_
 | refine VT_q rfl (Yl_step rfl obQ) ?_
 | refine VT_n rfl ?_
 | refine VT_two rfl rfl ?_ ?_
         )
 | (refine G_id ?_; first
 | refine G_VT2 ⟨_, rfl⟩ ⟨_, rfl⟩ pstQ rfl ?_
 | refine G_then ?_
 | refine G_block ?_
 | refine G_thenR ?_
 | refine G_retD rfl obQ ((DsP.nil _ _).cons hBD hWD hnD |>.weak (by intro p hp; simp only [List.mem_cons, List.mem_nil_iff, or_false] at hp ⊢; rcases hp with rfl | rfl <;> simp)) (fun w2 hw => ⟨_, rfl, hw.below, none, 0, rfl, .inl rfl⟩)
         )
         )
    · have hE : firstL [wh (many != (pts.length : Int)) 2, curveE pts] = 2 := by
        have : (many != (pts.length : Int)) = true := bne_iff_ne.2 (Ne.symm hcnt)
        rw [this]
        rfl
      rw [if_pos hcnt]
      repeat' (first
 | (refine C_id ?_; first
 | refine C_drawTr00 (id := 21) 4 (.q 1 (.two 0 2 (.n 2 (.n 3 .nil)) (.n 0 (.n 3 .nil)))) rfl mixed (by kernel_rfl) rfl ?_
 | refine C_seq ?_
 | refine C_region rfl ?_
 | refine C_ret0 ?_
 | refine C_drawT (id := 19) 10 rfl mixed (by kernel_rfl) rfl rfl ?_
 | refine C_condT rfl obQ ?_
       )
 | (refine S_id ?_; first
 | ((with_reducible (first | refine S_trueE ?_ ?_ | refine S_trueB ?_ ?_ | refine S_trueL ?_ ?_ | refine S_trueD ?_ ?_ | refine S_trueN ?_ ?_)); · (first | rfl | assumption | omega | exact decide_eq_true (by omega) | (rw [beq_iff_eq]; omega) | (rw [bne_iff_ne]; first | assumption | omega)))
 | refine S_nil ?_
 | refine S_runN rfl rfl obQ obQ ?_
 | refine S_slice (fun b => ⟨_, _, rfl, obQ, ?_⟩)
 | refine S_call (f := 111) rfl obQ (by kernel_rfl) (fun w hw => cfE_c (l := [wh (many != (pts.length : Int)) 2, curveE pts]) hE (by simp) rfl _ w (.inr ⟨_, rfl, hw.src (i := 5) rfl rfl⟩)) ?_
       )
 | (refine D_id ?_; first
 | refine D_tail ?_
 | refine D_one rfl obQ ?_
 | refine D_call (f := 121) rfl obQ (by kernel_rfl) (fun w hw => cwhen_c _ _ w) ?_
 | refine D_call (f := 34) rfl obQ (by kernel_rfl) (fun w hw => checkCurve_c A' c' pts (by omega) w (hw.rdRow (i := 0) rfl rfl)) ?_
       )
 | (refine VT_id ?_; first
 | refine VT_nil ?_
 | refine VT_q rfl (Yl_step rfl obQ) ?_
 | refine VT_n rfl ?_
 | refine VT_two rfl rfl ?_ ?_
       )
 | (refine G_id ?_; first
 | refine G_VT2 ⟨_, rfl⟩ ⟨_, rfl⟩ pstQ rfl ?_
 | refine G_then ?_
 | refine G_block ?_
 | refine G_thenR ?_
 | refine G_retD rfl obQ ((DsP.nil _ _).cons hBD hWD hnD |>.weak (by intro p hp; simp only [List.mem_cons, List.mem_nil_iff, or_false] at hp ⊢; rcases hp with rfl | rfl <;> simp)) (fun w2 hw => ⟨_, rfl, hw.below, none, 0, rfl, .inl rfl⟩)
       )
       )
  · cases hb : badP pre
    · rw [stR_bad hb]
      exact G_bad
    rw [stR_ok hb, stop_eq (by omega) hxs hpre hb]
    repeat' (first
 | (refine G_id ?_; first
 | refine G_blockR ?_
 | refine G_thenR ?_
 | refine G_retD rfl obQ ((DsP.nil _ _).cons hBD hWD hnD |>.weak (by intro p hp; simp only [List.mem_cons, List.mem_nil_iff, or_false] at hp ⊢; rcases hp with rfl | rfl <;> simp)) (fun w2 hw => ⟨_, rfl, hw.below, none, 0, rfl, .inl rfl⟩)
     )
     )

end Go.Proofs.YtdbffbcobghbeaaGreatDoor
