/- Texts: the program reads a net; what the laws call. -/
import Derived.Test.YtmfophoejjcnlaaGreatDoorTiming121
import Derived.Test.YtmfophoejjcnlaaGreatDoorTiming120
import Derived.Test.YtmfophoejjcnlaaGreatDoorEng3
import Derived.Test.YtmfophoejjcnlaaGreatDoorEng4
import Derived.Test.YtmfophoejjcnlaaGreatDoorTiming57
import Derived.Test.YtmfophoejjcnlaaGreatDoorTiming56
import Derived.Test.YtmfophoejjcnlaaGreatDoorTiming36
namespace Go.Proofs.YtmfophoejjcnlaaGreatDoor
open Go.E Go.RowKit
attribute [local irreducible] G C S D DY DS V VT Yl QV QT Calls
set_option maxRecDepth 100000
set_option linter.unusedSimpArgs false
set_option linter.unusedVariables false

set_option maxHeartbeats 1000000 in
/-- slices.Index[[]string,string] -/
theorem sIndex_c (A : Option Addr) (c : Nat) (l : List ByteArray) (hl : l.length ≤ 1000000) (x : ByteArray) (w : World) (hr : Rd w A (l.map Value.string)) : Calls Tryz.prog 161 #[.slice A l.length c, .string x] w fun r w' => r = .returned (.int .i64 (ixS l x 0)) ∧ Below w.heap.size w w' := by
  refine calls_of (args := [.slice A l.length c, .string x]) T_ok Tryz.func161 rfl Tryz.ntmps161 (Nat.le_of_ble_eq_true rfl) rfl ?_
  repeat' (first
 | (refine C_id ?_; first
 | refine C_seq ?_
 | refine C_region rfl ?_
 | refine C_block ?_
 | refine C_skip ?_
 | refine C_ret0 ?_
 | (refine C_cond rfl obQ (fun h => ?_) (fun h => ?_) <;> (try simp only [Bool.or_eq_true, Bool.and_eq_true, Bool.or_eq_false_iff, Bool.and_eq_false_iff, decide_eq_true_eq, decide_eq_false_iff_not, beq_iff_eq, bne_iff_ne, beq_eq_false_iff_ne, bne_eq_false_iff_eq, ne_eq, Decidable.not_not, List.cons.injEq, and_true, Bool.not_eq_true', Bool.not_eq_false', Int.not_lt, Int.not_le] at h))
 )
 | (refine S_id ?_; first
 | refine S_nil ?_
 | refine S_run rfl rfl obQ obQ ?_
 )
 | (refine G_id ?_; first
 | refine G_then ?_
 | refine G_thenR ?_
 | refine G_ret rfl obQ (fun w hw => ⟨?_, hw.below⟩)
 )
 )
  refine C_loopS (fun k : Nat => ⟨[(0, .s (.v (.slice A l.length c))), (1, .s (.v (.string x))), (7, .s (.v (.int .i64 l.length))), (8, .s (.v (.int .i64 k)))], [], []⟩) (fun k => k ≤ l.length ∧ ixS l x 0 = ixS (l.drop k) x k) (fun k => l.length - k) 0 ⟨Nat.zero_le _, rfl⟩ ?_ (fun k hk => ?_)
  · exact ⟨⟨_, rfl, obQ⟩, ⟨_, rfl⟩, rfl, pstQ⟩
  obtain ⟨hk1, hk2⟩ := hk
  dsimp only
  by_cases hlt : k < l.length
  · obtain ⟨ad, rfl⟩ := hr.some (by simp; omega)
    rw [ixS_drop hlt] at hk2
    by_cases he : l[k] = x
    · rw [if_pos he] at hk2
      rw [hk2]
      have hq1 := he.symm
      repeat' (first
 | (refine C_id ?_; first
 | refine C_seq ?_
 | refine C_region rfl ?_
 | refine C_block ?_
 | refine C_skip ?_
 | refine C_ret0 ?_
 | refine C_condT rfl obQ ?_
 | (refine C_cond rfl obQ (fun h => ?_) (fun h => ?_) <;> (try simp only [Bool.or_eq_true, Bool.and_eq_true, Bool.or_eq_false_iff, Bool.and_eq_false_iff, decide_eq_true_eq, decide_eq_false_iff_not, beq_iff_eq, bne_iff_ne, beq_eq_false_iff_ne, bne_eq_false_iff_eq, ne_eq, Decidable.not_not, List.cons.injEq, and_true, Bool.not_eq_true', Bool.not_eq_false', Int.not_lt, Int.not_le] at h) <;> (try (exfalso; omega)) <;> (try (exfalso; simp at h; done)) <;> (try (exfalso; simp only [not_true_eq_false, false_or, or_false] at h; omega)) <;> (try contradiction))
       )
 | (refine S_id ?_; first
 | refine S_load rfl obQ rfl [.string l[k]] (.past _ memQ _ _ hr.toS _ _ rfl rfl (idx1 hlt)) rfl (.inr ⟨rfl, rfl⟩) ?_
 | refine S_oneE rfl rfl obQ ?_
 | ((with_reducible refine S_strE (b := true) ?_ ?_); · exact toE_eqT hq1)
 | refine S_nil ?_
 | refine S_run rfl rfl obQ obQ ?_
       )
 | (refine G_id ?_; first
 | refine G_then ?_
 | refine G_blockR ?_
 | refine G_thenR ?_
 | refine G_ret rfl obQ (fun w hw => ⟨?_, hw.below⟩)
       )
       )
      all_goals rfl
    · rw [if_neg he] at hk2
      have hq2 := Ne.symm he
      repeat' (first
 | (refine C_id ?_; first
 | refine C_seq ?_
 | refine C_region rfl ?_
 | refine C_block ?_
 | refine C_skip ?_
 | refine C_condF rfl obQ ?_
 | (refine C_cond rfl obQ (fun h => ?_) (fun h => ?_) <;> (try simp only [Bool.or_eq_true, Bool.and_eq_true, Bool.or_eq_false_iff, Bool.and_eq_false_iff, decide_eq_true_eq, decide_eq_false_iff_not, beq_iff_eq, bne_iff_ne, beq_eq_false_iff_ne, bne_eq_false_iff_eq, ne_eq, Decidable.not_not, List.cons.injEq, and_true, Bool.not_eq_true', Bool.not_eq_false', Int.not_lt, Int.not_le] at h) <;> (try (exfalso; omega)) <;> (try (exfalso; simp at h; done)) <;> (try (exfalso; simp only [not_true_eq_false, false_or, or_false] at h; omega)) <;> (try contradiction))
       )
 | (refine S_id ?_; first
 | refine S_load rfl obQ rfl [.string l[k]] (.past _ memQ _ _ hr.toS _ _ rfl rfl (idx1 hlt)) rfl (.inr ⟨rfl, rfl⟩) ?_
 | refine S_oneE rfl rfl obQ ?_
 | ((with_reducible refine S_strE (b := false) ?_ ?_); · exact toE_neT hq2)
 | refine S_nil ?_
 | refine S_run rfl rfl obQ obQ ?_
       )
 | (refine G_id ?_; first
 | refine G_loop (k + 1) ⟨by show k + 1 ≤ _; omega, hk2⟩ (by show l.length - (k + 1) < l.length - k; omega) ⟨⟨_, rfl, obQ⟩, ⟨_, rfl⟩, rfl, pstQ⟩
 | refine G_then ?_
 | refine G_block ?_
       )
       )
  · have hke : k = l.length := by omega
    subst hke
    rw [List.drop_length] at hk2
    rw [hk2]
    repeat' (first
 | (refine C_id ?_; first
 | refine C_seq ?_
 | refine C_region rfl ?_
 | refine C_exit ?_
 | refine C_ret0 ?_
 | (refine C_cond rfl obQ (fun h => ?_) (fun h => ?_) <;> (try simp only [Bool.or_eq_true, Bool.and_eq_true, Bool.or_eq_false_iff, Bool.and_eq_false_iff, decide_eq_true_eq, decide_eq_false_iff_not, beq_iff_eq, bne_iff_ne, beq_eq_false_iff_ne, bne_eq_false_iff_eq, ne_eq, Decidable.not_not, List.cons.injEq, and_true, Bool.not_eq_true', Bool.not_eq_false', Int.not_lt, Int.not_le] at h) <;> (try (exfalso; omega)) <;> (try (exfalso; simp at h; done)) <;> (try (exfalso; simp only [not_true_eq_false, false_or, or_false] at h; omega)) <;> (try contradiction))
     )
 | (refine S_id ?_; first
 | refine S_nil ?_
 | refine S_run rfl rfl obQ obQ ?_
     )
 | (refine G_id ?_; first
 | refine G_then ?_
 | refine G_blockX ?_
 | refine G_thenX ?_
 | refine G_ret rfl obQ (fun w hw => ⟨?_, hw.below⟩)
     )
     )
    all_goals rfl

theorem sIx_as {A : Option Addr} {c n : Nat} {l : List ByteArray} (hn : l.length = n) (hl : l.length ≤ 1000000) {x : ByteArray} {z : Int} (h : ixS l x 0 = z) (w : World) (hr : Rd w A (l.map .string)) : Calls Tryz.prog 161 #[.slice A n c, .string x] w fun r w' => r = .returned (.int .i64 z) ∧ Below w.heap.size w w' := by
  subst h hn
  exact sIndex_c A c l hl x w hr
/-- What the taker gives, and what it is then. -/
structure WdK (A : Option Addr) (c : Nat) (wr : Bool) (ws : List ByteArray) (x : ByteArray) (A' : Option Addr) (c' : Nat) (wr' : Bool) (ws' : List ByteArray) : Prop where
  x : wdX ws = x
  A : wdA A c ws = A'
  c : wdC c ws = c'
  wr : wdW wr ws = wr'
  ws : wdL ws = ws'
theorem wd_ex {S : Nat → Prop} {W : World} {A : Option Addr} {c : Nat} {ws : List ByteArray} (wr : Bool) (h : RdS S W A (ws.map Value.string)) (hc : ws.length ≤ c) (hz : ∀ y ∈ ws, y.size ≤ 1000000) :
    ∃ x A' c' wr' ws', WdK A c wr ws x A' c' wr' ws' ∧ RdS S W A' (ws'.map Value.string) ∧ ws'.length ≤ c' ∧ (∀ y ∈ ws', y.size ≤ 1000000) ∧ x.size ≤ 1000000 := by
  obtain ⟨h1, h2⟩ := wd_rd h hc
  refine ⟨_, _, _, _, _, ⟨rfl, rfl, rfl, rfl, rfl⟩, h1, h2, fun y hy => ?_, ?_⟩
  · cases ws with
    | nil => cases hy
    | cons a r =>
      have e : wdL (a :: r) = if a = ⟨#[]⟩ then [] else r := rfl
      rw [e] at hy
      split at hy
      · cases hy
      · exact hz y (List.mem_cons_of_mem _ hy)
  · cases ws with
    | nil => exact Nat.zero_le _
    | cons a r => exact hz a (List.mem_cons_self ..)
theorem word_at {b n n' c c' : Nat} {A A' : Option Addr} {wr wr' : Bool} {ws ws' : List ByteArray} {x : ByteArray} (hk : WdK A c wr ws x A' c' wr' ws') (hn : ws.length = n) (hn' : ws'.length = n') (w : World) (hst : HW 0 w [] ⟨[], [tkB b A n c wr], []⟩ w) (hr : RdS (stPast [tkB b A n c wr] [] w).2 w A (ws.map Value.string)) :
    Calls Tryz.prog 160 #[.pointer (some ⟨b, 0, none⟩)] w fun r w' => r = .returned (.string x) ∧ TurSt [tkB b A n c wr] [] [tkB b A' n' c' wr'] [] w w' := by
  obtain ⟨rfl, rfl, rfl, rfl, rfl⟩ := hk
  subst hn'
  exact word_as hn w hst hr
theorem num_at {b n n' c c' : Nat} {A A' : Option Addr} {wr wr' wr2 fl : Bool} {ws ws' : List ByteArray} {x : ByteArray} {z : Int} (hk : WdK A c wr ws x A' c' wr' ws') (hn : ws.length = n) (hn' : ws'.length = n') (hx : x.size ≤ 1000000) (hi : intT x = (z, fl)) (hw2 : (wr' || !fl) = wr2) (w : World) (hst : HW 0 w [] ⟨[], [tkB b A n c wr], []⟩ w) (hr : RdS (stPast [tkB b A n c wr] [] w).2 w A (ws.map Value.string)) :
    Calls Tryz.prog 162 #[.pointer (some ⟨b, 0, none⟩)] w fun r w' => r = .returned (.int .i64 z) ∧ TurSt [tkB b A n c wr] [] [tkB b A' n' c' wr2] [] w w' := by
  obtain ⟨rfl, rfl, rfl, rfl, rfl⟩ := hk
  subst hn' hw2
  exact numW_c w hst hn rfl hx hi hr
/-! ### What a line says, word by word -/
theorem dig_mt : digR ByteArray.empty = (0, false) := rfl
theorem node_ne : sNodeW ≠ ByteArray.empty := fun h => absurd (congrArg ByteArray.size h) (by decide)
theorem edge_ne : sEdge ≠ ByteArray.empty := fun h => absurd (congrArg ByteArray.size h) (by decide)
theorem edge_nd : sEdge ≠ sNodeW := fun h => absurd (congrArg (fun x : ByteArray => x.data.toList) h) (by decide)
theorem wdL_ne {x : ByteArray} {xs : List ByteArray} (h : x ≠ ByteArray.empty) : wdL (x :: xs) = xs := if_neg h
theorem wdW_ne {w : Bool} {x : ByteArray} {xs : List ByteArray} (h : x ≠ ByteArray.empty) : wdW w (x :: xs) = w := if_neg h
theorem wdW_mt {w : Bool} {xs : List ByteArray} : wdW w (ByteArray.empty :: xs) = true := by
  show (if ByteArray.empty = (⟨#[]⟩ : ByteArray) then true else w) = true
  exact if_pos rfl
theorem wd_nil {w : Bool} : wdL [] = [] ∧ wdW w [] = true ∧ wdX [] = ByteArray.empty := ⟨rfl, rfl, rfl⟩
/-- One word, at the flag that says that none was missing. -/
theorem wd_step {w w' : Bool} {l : List ByteArray} (h : wdW w l = w') : (w' = false ↔ (w = false ∧ ∃ x r, l = x :: r ∧ x ≠ ByteArray.empty ∧ wdL l = r ∧ wdX l = x)) := by
  subst h
  rcases l with _ | ⟨x, r⟩
  · simp [wd_nil]
  · by_cases hx : x = ByteArray.empty
    · subst hx
      simp [wdW_mt]
    · rw [wdW_ne hx]
      constructor
      · exact fun h => ⟨h, x, r, rfl, hx, wdL_ne hx, rfl⟩
      · exact fun h => h.1
theorem lnW_25 {names ws : List ByteArray} (h2 : ∀ b, ws = [sNodeW, b] → b = ByteArray.empty) (h5 : ∀ b c d e, ws = [sEdge, b, c, d, e] → ¬ (b ≠ ByteArray.empty ∧ c ≠ ByteArray.empty ∧ (digR d).2 = true ∧ (digR e).2 = true)) : lnW names ws = .bad 25 := by
  rcases ws with _ | ⟨a, _ | ⟨b, _ | ⟨c, _ | ⟨d, _ | ⟨e, _ | ⟨f, r⟩⟩⟩⟩⟩⟩
  · rfl
  · rfl
  · rw [lnW_two rfl]
    exact if_neg fun h => h.2 (h2 b (by rw [show a = sNodeW from h.1]))
  · rfl
  · rfl
  · rw [lnW_five rfl]
    exact if_neg fun h => h5 b c d e (by rw [show a = sEdge from h.1]) h.2
  · rfl
theorem wd_two {ws0 ws1 ws2 : List ByteArray} {x0 x1 : ByteArray} {w1 w2 : Bool} {A0 A1 A2 : Option Addr} {c0 c1 c2 : Nat} (k0 : WdK A0 c0 false ws0 x0 A1 c1 w1 ws1) (k1 : WdK A1 c1 w1 ws1 x1 A2 c2 w2 ws2) :
    (w2 = false ∧ ws2.length = 0) ↔ (ws0 = [x0, x1] ∧ x0 ≠ ByteArray.empty ∧ x1 ≠ ByteArray.empty) := by
  have s0 := wd_step k0.wr
  have s1 := wd_step k1.wr
  constructor
  · rintro ⟨h1, h2⟩
    obtain ⟨hw1, b, r, e1, hb, e2, e3⟩ := s1.1 h1
    obtain ⟨_, a, r0, e4, ha, e5, e6⟩ := s0.1 hw1
    have h3 : r = [] := by rw [← e2, k1.ws]; exact List.length_eq_zero_iff.1 h2
    have e7 := k0.ws
    have e8 := k0.x
    have e9 := k1.x
    subst e4
    rw [e5] at e7
    subst e7 e1 h3
    rw [e6] at e8
    rw [e3] at e9
    subst e8 e9
    exact ⟨rfl, ha, hb⟩
  · rintro ⟨rfl, ha, hb⟩
    obtain ⟨_, _, _, rfl, rfl⟩ := k0
    obtain ⟨_, _, _, rfl, rfl⟩ := k1
    rw [wdW_ne ha, wdL_ne ha, wdW_ne hb, wdL_ne hb]
    exact ⟨rfl, rfl⟩
theorem wd_dig {A A' : Option Addr} {c c' : Nat} {w w' w2 f : Bool} {ws ws' : List ByteArray} {x : ByteArray} {z : Int} (k : WdK A c w ws x A' c' w' ws') (i : intT x = (z, f)) (h : (w' || !f) = w2) : w2 = false ↔ (w = false ∧ ws = x :: ws' ∧ (digR x).2 = true ∧ z = (digR x).1) := by
  have s := wd_step k.wr
  have hd := int_dig x
  rw [i] at hd
  dsimp only at hd
  subst h
  constructor
  · intro h
    rw [Bool.or_eq_false_iff, Bool.not_eq_false'] at h
    obtain ⟨hw, a, r, e1, ha, e2, e3⟩ := s.1 h.1
    have e4 := k.ws
    have e5 := k.x
    rw [e2] at e4
    rw [e3] at e5
    subst e4 e5
    exact ⟨hw, e1, hd.1.symm.trans h.2, hd.2 (hd.1.symm.trans h.2)⟩
  · rintro ⟨hw, e1, h2, _⟩
    have hx : x ≠ ByteArray.empty := fun e => by rw [e, dig_mt] at h2; cases h2
    rw [Bool.or_eq_false_iff, Bool.not_eq_false']
    exact ⟨s.2 ⟨hw, x, ws', e1, hx, by rw [e1]; exact wdL_ne hx, by rw [e1]; rfl⟩, hd.1.trans h2⟩
theorem lnW_words {names ws0 ws1 ws2 ws3 ws4 ws5 : List ByteArray} {x0 x1 x2 x3 x4 : ByteArray} {w1 w2 w3 w4 w4' w5 w5' f3 f4 : Bool} {z3 z4 : Int} {A0 A1 A2 A3 A4 A5 : Option Addr} {c0 c1 c2 c3 c4 c5 : Nat}
    (k0 : WdK A0 c0 false ws0 x0 A1 c1 w1 ws1) (k1 : WdK A1 c1 w1 ws1 x1 A2 c2 w2 ws2) (k2 : WdK A2 c2 w2 ws2 x2 A3 c3 w3 ws3) (k3 : WdK A3 c3 w3 ws3 x3 A4 c4 w4 ws4) (i3 : intT x3 = (z3, f3)) (h3 : (w4 || !f3) = w4') (k4 : WdK A4 c4 w4' ws4 x4 A5 c5 w5 ws5) (i4 : intT x4 = (z4, f4)) (h4 : (w5 || !f4) = w5') :
    lnW names ws0 = if x0 = sNodeW then (if w2 = false ∧ ws2.length = 0 then .node x1 else .bad 25) else if x0 = sEdge then (if w5' = false ∧ ws5.length = 0 then (if ixS names x1 0 < 0 ∨ ixS names x2 0 < 0 then .bad 10 else .edge ⟨ixS names x1 0, ixS names x2 0, z3, z4⟩) else .bad 25) else .bad 25 := by
  have t2 := wd_two k0 k1
  have hX : ∀ a l, ws0 = a :: l → x0 = a := fun a l h => by rw [← k0.x, h]; rfl
  by_cases hN : x0 = sNodeW
  · rw [if_pos hN]
    by_cases hc : w2 = false ∧ ws2.length = 0
    · rw [if_pos hc]
      obtain ⟨e1, _, e2⟩ := t2.1 hc
      rw [e1, hN]
      exact if_pos ⟨rfl, e2⟩
    · rw [if_neg hc]
      refine lnW_25 (fun b h => Classical.byContradiction fun hb => hc (t2.2 ?_)) (fun b c d e h => absurd ((hX _ _ h).symm.trans hN) edge_nd)
      have e1 : ws1 = [b] := by rw [← k0.ws, h]; exact wdL_ne node_ne
      have e2 : x1 = b := by rw [← k1.x, e1]; rfl
      rw [e2, hN]
      exact ⟨h, node_ne, hb⟩
  · rw [if_neg hN]
    by_cases hE : x0 = sEdge
    · rw [if_pos hE]
      have d4 := wd_dig k4 i4 h4
      have d3 := wd_dig k3 i3 h3
      have s2 := wd_step k2.wr
      have s1 := wd_step k1.wr
      have s0 := wd_step k0.wr
      by_cases hc : w5' = false ∧ ws5.length = 0
      · rw [if_pos hc]
        obtain ⟨h5, e4, g4, g4'⟩ := d4.1 hc.1
        obtain ⟨h6, e3, g3, g3'⟩ := d3.1 h5
        obtain ⟨h7, c, r2, e5, hc2, e6, e7⟩ := s2.1 h6
        obtain ⟨h8, b, r1, e8, hb, e9, e10⟩ := s1.1 h7
        obtain ⟨_, a, r0, e11, ha, e12, e13⟩ := s0.1 h8
        have q5 : ws5 = [] := List.length_eq_zero_iff.1 hc.2
        have q : ws0 = [sEdge, x1, x2, x3, x4] := by
          have p1 : x1 = b := by rw [← k1.x, e10]
          have p2 : x2 = c := by rw [← k2.x, e7]
          have p3 : r2 = ws3 := by rw [← e6, k2.ws]
          have p4 : r1 = ws2 := by rw [← e9, k1.ws]
          have p5 : r0 = ws1 := by rw [← e12, k0.ws]
          rw [e11, p5, e8, p4, e5, p3, e3, e4, q5, ← hE, hX _ _ e11, p1, p2]
        have n1 : x1 ≠ ByteArray.empty := by rw [← k1.x, e10]; exact hb
        have n2 : x2 ≠ ByteArray.empty := by rw [← k2.x, e7]; exact hc2
        rw [q, g3', g4']
        exact if_pos ⟨rfl, n1, n2, g3, g4⟩
      · rw [if_neg hc]
        refine lnW_25 (fun b h => absurd ((hX _ _ h).symm) (fun e => hN e.symm)) (fun b c d e h hh => hc ?_)
        obtain ⟨hb, hcc, hd, he⟩ := hh
        have q1 : ws1 = [b, c, d, e] := by rw [← k0.ws, h]; exact wdL_ne edge_ne
        have q2 : ws2 = [c, d, e] := by rw [← k1.ws, q1]; exact wdL_ne hb
        have q3 : ws3 = [d, e] := by rw [← k2.ws, q2]; exact wdL_ne hcc
        have p3 : x3 = d := by rw [← k3.x, q3]; rfl
        have nd : d ≠ ByteArray.empty := fun z => by rw [z, dig_mt] at hd; cases hd
        have ne : e ≠ ByteArray.empty := fun z => by rw [z, dig_mt] at he; cases he
        have q4 : ws4 = [e] := by rw [← k3.ws, q3]; exact wdL_ne nd
        have p4 : x4 = e := by rw [← k4.x, q4]; rfl
        have q5 : ws5 = [] := by rw [← k4.ws, q4]; exact wdL_ne ne
        have v1 : w1 = false := by rw [← k0.wr, h]; exact wdW_ne edge_ne
        have v2 : w2 = false := by rw [← k1.wr, q1, wdW_ne hb]; exact v1
        have v3 : w3 = false := by rw [← k2.wr, q2, wdW_ne hcc]; exact v2
        have v4 : w4 = false := by rw [← k3.wr, q3, wdW_ne nd]; exact v3
        have i3' := int_dig x3
        have i4' := int_dig x4
        rw [i3, p3, hd] at i3'
        rw [i4, p4, he] at i4'
        have f3t : f3 = true := i3'.1
        have f4t : f4 = true := i4'.1
        have v4' : w4' = false := by rw [← h3, v4, f3t]; rfl
        have v5 : w5 = false := by rw [← k4.wr, q4, wdW_ne ne]; exact v4'
        exact ⟨by rw [← h4, v5, f4t]; rfl, by rw [q5]; rfl⟩
    · rw [if_neg hE]
      exact lnW_25 (fun b h => absurd (hX _ _ h) hN) (fun b c d e h => absurd (hX _ _ h) hE)

/-- The box of a net, its rows. -/
abbrev netB (b : Nat) (A1 : Option Addr) (n1 c1 : Nat) (A2 : Option Addr) (n2 c2 : Nat) : Bx := ⟨b, 89, [.r A1 n1 c1 0, .r A2 n2 c2 1]⟩
abbrev nmR (ns : List ByteArray) (n : Nat) (A : Option Addr) (c : Nat) : Rw := ⟨9, 1, n, ns.map .string, .slice A n c⟩
abbrev egR (es : List Edg) (m : Nat) (A : Option Addr) (c : Nat) : Rw := ⟨113, 4, m, es.flatMap edC, .slice A m c⟩
/-- What a line makes of a net. -/
def RdR (b : Nat) (ns : List ByteArray) (es : List Edg) (A1 : Option Addr) (c1 : Nat) (A2 : Option Addr) (c2 : Nat) : LnK → Value → Bx → List Rw → Prop
  | .bad e, v, x, rw => v = .int .i64 e ∧ x = netB b A1 ns.length c1 A2 es.length c2 ∧ rw = [nmR ns ns.length A1 c1, egR es es.length A2 c2]
  | .node t, v, x, rw => v = .int .i64 0 ∧ ∃ A c, x = netB b A (ns.length + 1) c A2 es.length c2 ∧ rw = [⟨9, 1, ns.length + 1, ns.map .string ++ [.string t], .slice A (ns.length + 1) c⟩, egR es es.length A2 c2]
  | .edge e, v, x, rw => v = .int .i64 0 ∧ ∃ A c, x = netB b A1 ns.length c1 A (es.length + 1) c ∧ rw = [nmR ns ns.length A1 c1, ⟨113, 4, es.length + 1, es.flatMap edC ++ edC e, .slice A (es.length + 1) c⟩]
section
variable {b : Nat} {ns : List ByteArray} {es : List Edg} {A1 A2 : Option Addr} {c1 c2 : Nat}
theorem RdR_bad {e : Int} : RdR b ns es A1 c1 A2 c2 (.bad e) (.int .i64 e) (netB b A1 ns.length c1 A2 es.length c2) [nmR ns ns.length A1 c1, egR es es.length A2 c2] := ⟨rfl, rfl, rfl⟩
theorem RdR_node {t : ByteArray} {A : Option Addr} {c : Nat} : RdR b ns es A1 c1 A2 c2 (.node t) (.int .i64 0) (netB b A (ns.length + 1) c A2 es.length c2) [⟨9, 1, ns.length + 1, ns.map .string ++ [.string t], .slice A (ns.length + 1) c⟩, egR es es.length A2 c2] := ⟨rfl, A, c, rfl, rfl⟩
theorem RdR_edge {F T L H : Int} {A : Option Addr} {c : Nat} : RdR b ns es A1 c1 A2 c2 (.edge ⟨F, T, L, H⟩) (.int .i64 0) (netB b A1 ns.length c1 A (es.length + 1) c) [nmR ns ns.length A1 c1, ⟨113, 4, es.length + 1, es.flatMap edC ++ [.int .i64 F, .int .i64 T, .int .i64 L, .int .i64 H], .slice A (es.length + 1) c⟩] := ⟨rfl, A, c, rfl, rfl⟩
end
theorem Mx_st {w0 w wB : World} {Ps : Past} {σ : St} {B : Nat} {bx : List Bx} {rw : List Rw} (h : Mx w0) (h1 : (stPast bx rw w0).2 1) (hw : HW B wB Ps σ w) (hp : stPast bx rw w0 ∈ Ps) : Mx w := by
  obtain ⟨m, hm⟩ := h
  refine ⟨m, ?_⟩
  unfold World.cell? at hm ⊢
  rw [(hw.past _ hp 1 h1).1.2]
  exact hm

set_option maxHeartbeats 8000000 in
theorem read_c {b : Nat} {A1 A2 : Option Addr} {c1 c2 : Nat} (ns : List ByteArray) (es : List Edg) (hn : ns.length ≤ 100000) (hm : es.length ≤ 100000) (s : ByteArray) (hs : s.size ≤ 1000000) (w : World) (hM : Mx w) (h1 : (stPast [netB b A1 ns.length c1 A2 es.length c2] [nmR ns ns.length A1 c1, egR es es.length A2 c2] w).2 1) (hst : HW 0 w [] ⟨[], [netB b A1 ns.length c1 A2 es.length c2], [nmR ns ns.length A1 c1, egR es es.length A2 c2]⟩ w) :
    Calls Tryz.prog 132 #[.pointer (some ⟨b, 0, none⟩), .string s] w fun r w' => ∃ v x' rw', r = .returned v ∧ TurSt [netB b A1 ns.length c1 A2 es.length c2] [nmR ns ns.length A1 c1, egR es es.length A2 c2] [x'] rw' w w' ∧ RdR b ns es A1 c1 A2 c2 (lnK ns s) v x' rw' := by
  refine calls_ofSt (args := [.pointer (some ⟨b, 0, none⟩), .string s]) T_ok Tryz.func132 rfl Tryz.ntmps132 (Nat.le_of_ble_eq_true rfl) rfl [netB b A1 ns.length c1 A2 es.length c2] [nmR ns ns.length A1 c1, egR es es.length A2 c2] hst [(0, .s (.p b 0 0)), (1, .s (.v (.string s)))] rfl ?_
  obtain ⟨hd, tl, hE2⟩ := splR_cons s 32
  have hszw : ∀ y ∈ hd :: tl, y.size ≤ 1000000 := fun y hy => by
    have := splR_size s 32 y (by rw [hE2]; exact hy)
    omega
  have hlw : tl.length ≤ 1000000 := by
    have := splR_len s 32
    rw [hE2, List.length_cons] at this
    omega
  repeat' (first
 | (refine C_id ?_; first
 | refine C_seq ?_
 | refine C_regionNe 3 rfl rfl ?_
   )
 | (refine S_id ?_; first
 | (refine S_callM (f := 159) rfl obQ (by kernel_rfl) (fun w hw => split_as hE2 hs w (Mx_st hM h1 hw memQ)) (fun w1T w2T vT hw1T hbT hRT => ?_); obtain ⟨aT, rfl, hST⟩ := hRT)
 | refine S_nil ?_
 | refine S_runN rfl rfl obQ obQ ?_
 | refine S_box (fun tb => ⟨_, _, rfl, obQ, ?_⟩)
   )
 | (refine G_id ?_; first
 | refine G_then ?_
   )
   )
  obtain ⟨x0, B1, d1, w1, ws1, k0, hr1, hc1, hz1, hx0⟩ := wd_ex (c := tl.length + 1) false hST (Nat.le_refl _) hszw
  obtain ⟨x1, B2, d2, w2, ws2, k1, hr2, hc2, hz2, hx1⟩ := wd_ex w1 hr1 hc1 hz1
  obtain ⟨x2, B3, d3, w3, ws3, k2, hr3, hc3, hz3, hx2⟩ := wd_ex w2 hr2 hc2 hz2
  obtain ⟨x3, B4, d4, w4, ws4, k3, hr4, hc4, hz4, hx3⟩ := wd_ex w3 hr3 hc3 hz3
  rcases i3 : intT x3 with ⟨z3, f3⟩
  obtain ⟨w4', h3⟩ : ∃ q, (w4 || !f3) = q := ⟨_, rfl⟩
  obtain ⟨x4, B5, d5, w5, ws5, k4, hr5, hc5, hz5, hx4⟩ := wd_ex w4' hr4 hc4 hz4
  rcases i4 : intT x4 with ⟨z4, f4⟩
  obtain ⟨w5', h4⟩ : ∃ q, (w5 || !f4) = q := ⟨_, rfl⟩
  obtain ⟨iF, hiF⟩ : ∃ z, ixS ns x1 0 = z := ⟨_, rfl⟩
  obtain ⟨iG, hiG⟩ : ∃ z, ixS ns x2 0 = z := ⟨_, rfl⟩
  have hln : lnK ns s = _ := (congrArg (lnW ns) hE2).trans (lnW_words (names := ns) k0 k1 k2 k3 i3 h3 k4 i4 h4)
  rw [hiF, hiG] at hln
  rw [hln]
  clear hln
  by_cases hN : x0 = sNodeW
  · rw [if_pos hN]
    cases w2
    · by_cases hl : ws2.length = 0
      · rw [if_pos ⟨rfl, hl⟩]
        repeat' (first
 | (refine C_id ?_; first
 | refine C_seq ?_
 | refine C_region rfl ?_
 | refine C_block ?_
 | refine C_skip ?_
 | refine C_ret0 ?_
 | refine C_condT rfl obQ ?_
 | refine C_condF rfl obQ ?_
         )
 | (refine S_id ?_; first
 | ((with_reducible (first | refine S_falseN ?_ ?_ | refine S_falseB ?_ ?_ | refine S_falseL ?_ ?_ | refine S_falseD ?_ ?_ | refine S_falseE ?_ ?_)); · (first | rfl | omega | exact decide_eq_false (by omega) | (rw [beq_eq_false_iff_ne]; omega) | (rw [bne_eq_false_iff_eq]; first | assumption | omega)))
 | ((with_reducible refine S_falseO ?_ ?_ ?_); (· rfl); (· first | rfl | (first | rfl | omega | exact decide_eq_false (by omega) | (rw [beq_eq_false_iff_ne]; omega) | (rw [bne_eq_false_iff_eq]; first | assumption | omega))))
 | refine S_unG rfl rfl rfl rfl ?_
 | refine S_oneE rfl rfl obQ ?_
 | ((with_reducible refine S_strE (b := true) ?_ ?_); · first | exact toE_eqT hN)
 | refine S_callSt0 1 rfl _ rfl obQ (by kernel_rfl) (fun w2 hw h0 => word_at k0 rfl rfl w2 h0 (HW.rdSt hw memQ hST (by simp) (by simp))) ?_
 | refine S_callSt0 1 rfl _ rfl obQ (by kernel_rfl) (fun w2 hw h0 => word_at k1 rfl rfl w2 h0 (HW.rdSt hw memQ hr1 (by simp) (by simp))) ?_
 | refine S_append rfl obQ rfl rfl rfl ⟨by decide, rfl⟩ rfl ⟨rfl, rfl, rfl, rfl⟩ [.string x1] ⟨by decide, rfl⟩ (by simp [Value.oneCell']) (fun w hw => by first | exact hw.src (i := 0) rfl rfl | exact hw.src (i := 1) rfl rfl | exact hw.src (i := 2) rfl rfl | exact hw.src (i := 3) rfl rfl | exact hw.src (i := 4) rfl rfl | exact hw.src (i := 5) rfl rfl | exact hw.src (i := 6) rfl rfl | exact hw.src (i := 7) rfl rfl | exact hw.src (i := 8) rfl rfl) (by unfold maxLen; dsimp only; omega) (fun gb cap' => ⟨_, rfl, ?_⟩)
 | refine S_nil ?_
 | refine S_runN rfl rfl obQ obQ ?_
 | refine S_slice (fun b => ⟨_, _, rfl, obQ, ?_⟩)
         )
 | (refine G_id ?_; first
 | refine G_then ?_
 | refine G_block ?_
 | refine G_ret rfl obQ (fun w2 hw => ⟨_, _, _, rfl, hw.turnedSt (by simp) ⟨_, rfl⟩ rfl, RdR_node⟩)
         )
         )
      · rw [if_neg (fun h => hl h.2)]
        repeat' (first
 | (refine C_id ?_; first
 | refine C_seq ?_
 | refine C_region rfl ?_
 | refine C_block ?_
 | refine C_ret0 ?_
 | refine C_condT rfl obQ ?_
         )
 | (refine S_id ?_; first
 | ((with_reducible (first | refine S_trueE ?_ ?_ | refine S_trueB ?_ ?_ | refine S_trueL ?_ ?_ | refine S_trueD ?_ ?_ | refine S_trueN ?_ ?_)); · (first | rfl | assumption | omega | exact decide_eq_true (by omega) | (rw [beq_iff_eq]; omega) | (rw [bne_iff_ne]; first | assumption | omega)))
 | refine S_unG rfl rfl rfl rfl ?_
 | refine S_oneE rfl rfl obQ ?_
 | ((with_reducible refine S_strE (b := true) ?_ ?_); · first | exact toE_eqT hN)
 | refine S_offG (.v (.bool false)) rfl rfl rfl rfl rfl ?_
 | refine S_callSt0 1 rfl _ rfl obQ (by kernel_rfl) (fun w2 hw h0 => word_at k0 rfl rfl w2 h0 (HW.rdSt hw memQ hST (by simp) (by simp))) ?_
 | refine S_callSt0 1 rfl _ rfl obQ (by kernel_rfl) (fun w2 hw h0 => word_at k1 rfl rfl w2 h0 (HW.rdSt hw memQ hr1 (by simp) (by simp))) ?_
 | refine S_nil ?_
 | refine S_runN rfl rfl obQ obQ ?_
         )
 | (refine G_id ?_; first
 | refine G_then ?_
 | refine G_blockR ?_
 | refine G_thenR ?_
 | refine G_ret rfl obQ (fun w2 hw => ⟨_, _, _, rfl, hw.turnedSt (by simp) ⟨_, rfl⟩ rfl, RdR_bad⟩)
         )
         )
    · rw [if_neg (fun h => by cases h.1)]
      repeat' (first
 | (refine C_id ?_; first
 | refine C_seq ?_
 | refine C_region rfl ?_
 | refine C_block ?_
 | refine C_ret0 ?_
 | refine C_condT rfl obQ ?_
       )
 | (refine S_id ?_; first
 | ((with_reducible (first | refine S_trueE ?_ ?_ | refine S_trueB ?_ ?_ | refine S_trueL ?_ ?_ | refine S_trueD ?_ ?_ | refine S_trueN ?_ ?_)); · (first | rfl | assumption | omega | exact decide_eq_true (by omega) | (rw [beq_iff_eq]; omega) | (rw [bne_iff_ne]; first | assumption | omega)))
 | refine S_unG rfl rfl rfl rfl ?_
 | refine S_oneE rfl rfl obQ ?_
 | ((with_reducible refine S_strE (b := true) ?_ ?_); · first | exact toE_eqT hN)
 | refine S_offG (.v (.bool false)) rfl rfl rfl rfl rfl ?_
 | refine S_callSt0 1 rfl _ rfl obQ (by kernel_rfl) (fun w2 hw h0 => word_at k0 rfl rfl w2 h0 (HW.rdSt hw memQ hST (by simp) (by simp))) ?_
 | refine S_callSt0 1 rfl _ rfl obQ (by kernel_rfl) (fun w2 hw h0 => word_at k1 rfl rfl w2 h0 (HW.rdSt hw memQ hr1 (by simp) (by simp))) ?_
 | refine S_nil ?_
 | refine S_runN rfl rfl obQ obQ ?_
       )
 | (refine G_id ?_; first
 | refine G_then ?_
 | refine G_blockR ?_
 | refine G_thenR ?_
 | refine G_ret rfl obQ (fun w2 hw => ⟨_, _, _, rfl, hw.turnedSt (by simp) ⟨_, rfl⟩ rfl, RdR_bad⟩)
       )
       )
  · rw [if_neg hN]
    by_cases hE : x0 = sEdge
    · rw [if_pos hE]
      repeat' (first
 | (refine C_id ?_; first
 | refine C_seq ?_
 | refine C_region rfl ?_
 | refine C_block ?_
 | refine C_condT rfl obQ ?_
 | refine C_condF rfl obQ ?_
       )
 | (refine S_id ?_; first
 | refine S_oneE rfl rfl obQ ?_
 | ((with_reducible refine S_strE (b := false) ?_ ?_); · first | exact toE_neT hN)
 | ((with_reducible refine S_strE (b := true) ?_ ?_); · first | exact toE_eqT hE)
 | refine S_callSt0 1 rfl _ rfl obQ (by kernel_rfl) (fun w2 hw h0 => word_at k0 rfl rfl w2 h0 (HW.rdSt hw memQ hST (by simp) (by simp))) ?_
 | refine S_callSt0 1 rfl _ rfl obQ (by kernel_rfl) (fun w2 hw h0 => word_at k1 rfl rfl w2 h0 (HW.rdSt hw memQ hr1 (by simp) (by simp))) ?_
 | refine S_callSt0 1 rfl _ rfl obQ (by kernel_rfl) (fun w2 hw h0 => word_at k2 rfl rfl w2 h0 (HW.rdSt hw memQ hr2 (by simp) (by simp))) ?_
 | refine S_nil ?_
 | refine S_runN rfl rfl obQ obQ ?_
       )
 | (refine G_id ?_; first
 | refine G_then ?_
       )
       )
      refine C_cutS (fun eb : Nat => ⟨[(0, .s (.p b 0 0)), (5, .s (.p tb 1 0)), (10, .s (.p eb 2 0))], [netB b A1 ns.length c1 A2 es.length c2, tkB tb B3 ws3.length d3 w3, ⟨eb, 113, [.v (.int .i64 iF), .v (.int .i64 iG), .v (.int .i64 0), .v (.int .i64 0)]⟩], [nmR ns ns.length A1 c1, egR es es.length A2 c2]⟩) ?_ (fun eb => ?_)
      · repeat' (first
 | (refine C_id ?_; first
 | refine C_drawTr (id := 13) 14 (.q 0 (.q 1 (.q 2 (.q 3 (.q 4 (.q 6 (.q 7 (.q 8 (.q 9 (.q 10 (.two 5 13 (.two 11 13 (.q 12 (.n 13 .nil)) (.n 11 (.q 12 .nil))) (.n 5 (.n 11 (.q 12 .nil)))))))))))))) rfl mixed (by kernel_rfl) rfl ?_
         )
 | (refine S_id ?_; first
 | refine S_nil ?_
 | refine S_runN rfl rfl obQ obQ ?_
 | refine S_box (fun eb => ⟨_, _, rfl, obQ, ?_⟩)
 | refine S_call (f := 161) rfl obQ (by kernel_rfl) (fun w hw => sIx_as rfl (by omega) hiF w (hw.rdRow (i := 0) rfl rfl)) ?_
 | refine S_call (f := 161) rfl obQ (by kernel_rfl) (fun w hw => sIx_as rfl (by omega) hiG w (hw.rdRow (i := 0) rfl rfl)) ?_
         )
 | (refine VT_id ?_; first
 | refine VT_nil ?_
 | refine VT_q rfl (Yl_step rfl obQ) ?_
 | refine VT_n rfl ?_
 | refine VT_two rfl rfl ?_ ?_
         )
 | (refine G_id ?_; first
 | refine G_VT2 ⟨_, rfl⟩ ⟨_, rfl⟩ pstQ rfl ?_
 | refine G_cut eb ⟨⟨_, rfl, obQ⟩, ⟨_, rfl⟩, rfl, psQ⟩
         )
         )
      dsimp only
      repeat' (first
 | (refine C_id ?_; first
 | refine C_seq ?_
 | refine C_regionNe 16 rfl rfl ?_
       )
 | (refine S_id ?_; first
 | refine S_callSt0 1 rfl _ rfl obQ (by kernel_rfl) (fun w2 hw h0 => num_at k3 rfl rfl hx3 i3 h3 w2 h0 (HW.rdSt hw memQ hr3 (by simp) (by simp))) ?_
 | refine S_callSt0 1 rfl _ rfl obQ (by kernel_rfl) (fun w2 hw h0 => num_at k4 rfl rfl hx4 i4 h4 w2 h0 (HW.rdSt hw memQ hr4 (by simp) (by simp))) ?_
 | refine S_nil ?_
 | refine S_runN rfl rfl obQ obQ ?_
       )
 | (refine G_id ?_; first
 | refine G_then ?_
       )
       )
      cases w5'
      · by_cases hl : ws5.length = 0
        · rw [if_pos ⟨rfl, hl⟩]
          by_cases hf : iF < 0
          · rw [if_pos (.inl hf)]
            repeat' (first
 | (refine C_id ?_; first
 | refine C_seq ?_
 | refine C_region rfl ?_
 | refine C_skip ?_
 | refine C_ret0 ?_
 | refine C_condT rfl obQ ?_
 | refine C_condF rfl obQ ?_
             )
 | (refine S_id ?_; first
 | ((with_reducible (first | refine S_falseN ?_ ?_ | refine S_falseB ?_ ?_ | refine S_falseL ?_ ?_ | refine S_falseD ?_ ?_ | refine S_falseE ?_ ?_)); · (first | rfl | omega | exact decide_eq_false (by omega) | (rw [beq_eq_false_iff_ne]; omega) | (rw [bne_eq_false_iff_eq]; first | assumption | omega)))
 | ((with_reducible refine S_falseO ?_ ?_ ?_); (· rfl); (· first | rfl | (first | rfl | omega | exact decide_eq_false (by omega) | (rw [beq_eq_false_iff_ne]; omega) | (rw [bne_eq_false_iff_eq]; first | assumption | omega))))
 | ((with_reducible (first | refine S_trueE ?_ ?_ | refine S_trueB ?_ ?_ | refine S_trueL ?_ ?_ | refine S_trueD ?_ ?_ | refine S_trueN ?_ ?_)); · (first | rfl | assumption | omega | exact decide_eq_true (by omega) | (rw [beq_iff_eq]; omega) | (rw [bne_iff_ne]; first | assumption | omega)))
 | refine S_unG rfl rfl rfl rfl ?_
 | refine S_oneE rfl rfl obQ ?_
 | refine S_offG (.v (.bool false)) rfl rfl rfl rfl rfl ?_
 | refine S_nil ?_
 | refine S_runN rfl rfl obQ obQ ?_
             )
 | (refine G_id ?_; first
 | refine G_then ?_
 | refine G_blockR ?_
 | refine G_thenR ?_
 | refine G_ret rfl obQ (fun w2 hw => ⟨_, _, _, rfl, hw.turnedSt (by simp) ⟨_, rfl⟩ rfl, RdR_bad⟩)
             )
             )
          · by_cases hg : iG < 0
            · rw [if_pos (.inr hg)]
              repeat' (first
 | (refine C_id ?_; first
 | refine C_seq ?_
 | refine C_region rfl ?_
 | refine C_skip ?_
 | refine C_ret0 ?_
 | refine C_condT rfl obQ ?_
 | refine C_condF rfl obQ ?_
             )
 | (refine S_id ?_; first
 | ((with_reducible (first | refine S_falseN ?_ ?_ | refine S_falseB ?_ ?_ | refine S_falseL ?_ ?_ | refine S_falseD ?_ ?_ | refine S_falseE ?_ ?_)); · (first | rfl | omega | exact decide_eq_false (by omega) | (rw [beq_eq_false_iff_ne]; omega) | (rw [bne_eq_false_iff_eq]; first | assumption | omega)))
 | ((with_reducible refine S_falseO ?_ ?_ ?_); (· rfl); (· first | rfl | (first | rfl | omega | exact decide_eq_false (by omega) | (rw [beq_eq_false_iff_ne]; omega) | (rw [bne_eq_false_iff_eq]; first | assumption | omega))))
 | ((with_reducible (first | refine S_trueE ?_ ?_ | refine S_trueB ?_ ?_ | refine S_trueL ?_ ?_ | refine S_trueD ?_ ?_ | refine S_trueN ?_ ?_)); · (first | rfl | assumption | omega | exact decide_eq_true (by omega) | (rw [beq_iff_eq]; omega) | (rw [bne_iff_ne]; first | assumption | omega)))
 | refine S_unG rfl rfl rfl rfl ?_
 | refine S_oneE rfl rfl obQ ?_
 | refine S_offG (.v (.bool false)) rfl rfl rfl rfl rfl ?_
 | refine S_nil ?_
 | refine S_runN rfl rfl obQ obQ ?_
             )
 | (refine G_id ?_; first
 | refine G_then ?_
 | refine G_blockR ?_
 | refine G_thenR ?_
 | refine G_ret rfl obQ (fun w2 hw => ⟨_, _, _, rfl, hw.turnedSt (by simp) ⟨_, rfl⟩ rfl, RdR_bad⟩)
             )
             )
            · rw [if_neg (fun h => h.elim hf hg)]
              repeat' (first
 | (refine C_id ?_; first
 | refine C_seq ?_
 | refine C_region rfl ?_
 | refine C_skip ?_
 | refine C_ret0 ?_
 | refine C_drawTr0 (id := 20) 8 (.q 0 (.q 1 (.q 2 (.q 3 (.q 5 (.two 4 6 (.n 6 (.n 7 .nil)) (.n 4 (.n 7 .nil)))))))) rfl mixed (by kernel_rfl) rfl ?_
 | refine C_condF rfl obQ ?_
               )
 | (refine S_id ?_; first
 | ((with_reducible (first | refine S_falseN ?_ ?_ | refine S_falseB ?_ ?_ | refine S_falseL ?_ ?_ | refine S_falseD ?_ ?_ | refine S_falseE ?_ ?_)); · (first | rfl | omega | exact decide_eq_false (by omega) | (rw [beq_eq_false_iff_ne]; omega) | (rw [bne_eq_false_iff_eq]; first | assumption | omega)))
 | ((with_reducible refine S_falseO ?_ ?_ ?_); (· rfl); (· first | rfl | (first | rfl | omega | exact decide_eq_false (by omega) | (rw [beq_eq_false_iff_ne]; omega) | (rw [bne_eq_false_iff_eq]; first | assumption | omega))))
 | refine S_unG rfl rfl rfl rfl ?_
 | refine S_oneE rfl rfl obQ ?_
 | refine S_append rfl obQ rfl rfl rfl ⟨by decide, rfl⟩ rfl ⟨rfl, rfl, rfl, rfl⟩ [.int .i64 iF, .int .i64 iG, .int .i64 z3, .int .i64 z4] ⟨by decide, rfl⟩ (by simp [Value.oneCell']) (fun w hw => by first | exact hw.src (i := 0) rfl rfl | exact hw.src (i := 1) rfl rfl | exact hw.src (i := 2) rfl rfl | exact hw.src (i := 3) rfl rfl | exact hw.src (i := 4) rfl rfl | exact hw.src (i := 5) rfl rfl | exact hw.src (i := 6) rfl rfl | exact hw.src (i := 7) rfl rfl | exact hw.src (i := 8) rfl rfl) (by unfold maxLen; dsimp only; omega) (fun gb cap' => ⟨_, rfl, ?_⟩)
 | refine S_nil ?_
 | refine S_runN rfl rfl obQ obQ ?_
 | refine S_slice (fun b => ⟨_, _, rfl, obQ, ?_⟩)
               )
 | (refine VT_id ?_; first
 | refine VT_nil ?_
 | refine VT_q rfl (Yl_step rfl obQ) ?_
 | refine VT_n rfl ?_
 | refine VT_two rfl rfl ?_ ?_
               )
 | (refine G_id ?_; first
 | refine G_VT2 ⟨_, rfl⟩ ⟨_, rfl⟩ pstQ rfl ?_
 | refine G_then ?_
 | refine G_block ?_
 | refine G_ret rfl obQ (fun w2 hw => ⟨_, _, _, rfl, hw.turnedSt (by simp) ⟨_, rfl⟩ rfl, RdR_edge⟩)
               )
               )
        · rw [if_neg (fun h => hl h.2)]
          repeat' (first
 | (refine C_id ?_; first
 | refine C_seq ?_
 | refine C_region rfl ?_
 | refine C_skip ?_
 | refine C_ret0 ?_
 | refine C_condT rfl obQ ?_
 | refine C_condF rfl obQ ?_
           )
 | (refine S_id ?_; first
 | ((with_reducible (first | refine S_falseN ?_ ?_ | refine S_falseB ?_ ?_ | refine S_falseL ?_ ?_ | refine S_falseD ?_ ?_ | refine S_falseE ?_ ?_)); · (first | rfl | omega | exact decide_eq_false (by omega) | (rw [beq_eq_false_iff_ne]; omega) | (rw [bne_eq_false_iff_eq]; first | assumption | omega)))
 | ((with_reducible refine S_falseO ?_ ?_ ?_); (· rfl); (· first | rfl | (first | rfl | omega | exact decide_eq_false (by omega) | (rw [beq_eq_false_iff_ne]; omega) | (rw [bne_eq_false_iff_eq]; first | assumption | omega))))
 | ((with_reducible (first | refine S_trueE ?_ ?_ | refine S_trueB ?_ ?_ | refine S_trueL ?_ ?_ | refine S_trueD ?_ ?_ | refine S_trueN ?_ ?_)); · (first | rfl | assumption | omega | exact decide_eq_true (by omega) | (rw [beq_iff_eq]; omega) | (rw [bne_iff_ne]; first | assumption | omega)))
 | refine S_unG rfl rfl rfl rfl ?_
 | refine S_oneE rfl rfl obQ ?_
 | refine S_offG (.v (.bool false)) rfl rfl rfl rfl rfl ?_
 | refine S_nil ?_
 | refine S_runN rfl rfl obQ obQ ?_
           )
 | (refine G_id ?_; first
 | refine G_then ?_
 | refine G_blockR ?_
 | refine G_thenR ?_
 | refine G_ret rfl obQ (fun w2 hw => ⟨_, _, _, rfl, hw.turnedSt (by simp) ⟨_, rfl⟩ rfl, RdR_bad⟩)
           )
           )
      · rw [if_neg (fun h => by cases h.1)]
        repeat' (first
 | (refine C_id ?_; first
 | refine C_seq ?_
 | refine C_region rfl ?_
 | refine C_skip ?_
 | refine C_ret0 ?_
 | refine C_condT rfl obQ ?_
 | refine C_condF rfl obQ ?_
         )
 | (refine S_id ?_; first
 | ((with_reducible (first | refine S_falseN ?_ ?_ | refine S_falseB ?_ ?_ | refine S_falseL ?_ ?_ | refine S_falseD ?_ ?_ | refine S_falseE ?_ ?_)); · (first | rfl | omega | exact decide_eq_false (by omega) | (rw [beq_eq_false_iff_ne]; omega) | (rw [bne_eq_false_iff_eq]; first | assumption | omega)))
 | ((with_reducible refine S_falseO ?_ ?_ ?_); (· rfl); (· first | rfl | (first | rfl | omega | exact decide_eq_false (by omega) | (rw [beq_eq_false_iff_ne]; omega) | (rw [bne_eq_false_iff_eq]; first | assumption | omega))))
 | ((with_reducible (first | refine S_trueE ?_ ?_ | refine S_trueB ?_ ?_ | refine S_trueL ?_ ?_ | refine S_trueD ?_ ?_ | refine S_trueN ?_ ?_)); · (first | rfl | assumption | omega | exact decide_eq_true (by omega) | (rw [beq_iff_eq]; omega) | (rw [bne_iff_ne]; first | assumption | omega)))
 | refine S_unG rfl rfl rfl rfl ?_
 | refine S_oneE rfl rfl obQ ?_
 | refine S_offG (.v (.bool false)) rfl rfl rfl rfl rfl ?_
 | refine S_nil ?_
 | refine S_runN rfl rfl obQ obQ ?_
         )
 | (refine G_id ?_; first
 | refine G_then ?_
 | refine G_blockR ?_
 | refine G_thenR ?_
 | refine G_ret rfl obQ (fun w2 hw => ⟨_, _, _, rfl, hw.turnedSt (by simp) ⟨_, rfl⟩ rfl, RdR_bad⟩)
         )
         )
    · rw [if_neg hE]
      repeat' (first
 | (refine C_id ?_; first
 | refine C_seq ?_
 | refine C_region rfl ?_
 | refine C_block ?_
 | refine C_ret0 ?_
 | refine C_condF rfl obQ ?_
       )
 | (refine S_id ?_; first
 | refine S_oneE rfl rfl obQ ?_
 | ((with_reducible refine S_strE (b := false) ?_ ?_); · first | exact toE_neT hN | exact toE_neT hE)
 | refine S_callSt0 1 rfl _ rfl obQ (by kernel_rfl) (fun w2 hw h0 => word_at k0 rfl rfl w2 h0 (HW.rdSt hw memQ hST (by simp) (by simp))) ?_
 | refine S_nil ?_
 | refine S_runN rfl rfl obQ obQ ?_
       )
 | (refine G_id ?_; first
 | refine G_then ?_
 | refine G_blockR ?_
 | refine G_thenR ?_
 | refine G_ret rfl obQ (fun w2 hw => ⟨_, _, _, rfl, hw.turnedSt (by simp) ⟨_, rfl⟩ rfl, RdR_bad⟩)
       )
       )

end Go.Proofs.YtmfophoejjcnlaaGreatDoor
namespace Go.Proofs.YtmfophoejjcnlaaGreatDoor
open Go.E Go.RowKit
attribute [local irreducible] G C S D Calls
set_option maxRecDepth 100000
set_option linter.unusedSimpArgs false
set_option linter.unusedVariables false

abbrev vals (pre : List LnT) : List ByteArray := pre.map (·.1)
abbrev bodies (pre : List LnT) : List ByteArray := pre.map fun x => (cutE x.1).1
abbrev bdL (ls : List ByteArray) : List ByteArray := ls.map fun x => (cutE x).1
def lnG : LnK → Int
  | .bad e => e
  | _ => 0
theorem npE_g (ls : List ByteArray) (k : Nat) : npE ls k = lnG (lnK (npS ls k).1 (sG ls k)) := by
  unfold npE lnG
  cases lnK (npS ls k).1 (sG ls k) <;> rfl
def stepN (st : List ByteArray × List Edg) : LnK → List ByteArray × List Edg
  | .node s => (st.1 ++ [s], st.2)
  | .edge e => (st.1, st.2 ++ [e])
  | .bad _ => st
theorem npS_s (ls : List ByteArray) (k : Nat) : npS ls (k + 1) = stepN (npS ls k) (lnK (npS ls k).1 (sG ls k)) := by
  rw [npS]
  unfold stepN
  cases lnK (npS ls k).1 (sG ls k) <;> rfl
theorem npS_congr {a b : List ByteArray} : ∀ k, (∀ j, j < k → sG a j = sG b j) → npS a k = npS b k
  | 0, _ => rfl
  | k + 1, h => by rw [npS_s, npS_s, npS_congr k (fun j hj => h j (by omega)), h k (by omega)]
theorem npE_congr {a b : List ByteArray} {k : Nat} (h : ∀ j, j < k + 1 → sG a j = sG b j) : npE a k = npE b k := by rw [npE_g, npE_g, npS_congr k (fun j hj => h j (by omega)), h k (by omega)]
/-- Is a line whole, and does it say something? -/
def lnOk (ls : List ByteArray) (j : Nat) : Bool := (cutE (sG ls j)).2 && npE (bdL ls) j == 0
def okLn (ls : List ByteArray) : Nat → Bool
  | 0 => true
  | k + 1 => okLn ls k && lnOk ls k
theorem sG_bd {ls : List ByteArray} {j : Nat} (h : j < ls.length) : sG (bdL ls) j = (cutE (sG ls j)).1 := by
  rw [sN_at (by simpa using h), sN_at h]
  simp
theorem lnOk_congr {a b : List ByteArray} {k : Nat} (ha : k < a.length) (hb : k < b.length) (h : ∀ j, j < k + 1 → sG a j = sG b j) : lnOk a k = lnOk b k := by
  unfold lnOk
  rw [h k (by omega), npE_congr (a := bdL a) (b := bdL b) (fun j hj => by rw [sG_bd (by omega), sG_bd (by omega), h j hj])]
theorem okLn_congr {a b : List ByteArray} : ∀ k, k ≤ a.length → k ≤ b.length → (∀ j, j < k → sG a j = sG b j) → okLn a k = okLn b k
  | 0, _, _, _ => rfl
  | k + 1, ha, hb, h => by rw [okLn, okLn, okLn_congr k (by omega) (by omega) (fun j hj => h j (by omega)), lnOk_congr (by omega) (by omega) h]
def okP (pre : List LnT) : Bool := okLn (vals pre) pre.length
def badP (pre : List LnT) : Bool := okLn (vals pre) (pre.length - 1) && !okLn (vals pre) pre.length
def stP (pre : List LnT) : List ByteArray × List Edg := npS (bodies pre) pre.length
/-- The error of the last line. -/
def erP (pre : List LnT) : Int := if (cutE (sG (vals pre) (pre.length - 1))).2 = true then npE (bodies pre) (pre.length - 1) else 25
theorem sG_map {α : Type} (f : α → ByteArray) (pre : List α) (x : α) {j : Nat} (hj : j < pre.length) : sG ((pre ++ [x]).map f) j = sG (pre.map f) j := by
  rw [List.map_append]
  exact sN_app1 (by simpa using hj)
theorem sG_map2 {α : Type} (f : α → ByteArray) (pre : List α) (x : α) : sG ((pre ++ [x]).map f) pre.length = f x := by
  rw [List.map_append]
  have := sN_app2 (pre.map f) (f x) []
  rw [List.length_map] at this
  exact this
theorem bodies_bd (pre : List LnT) : bodies pre = bdL (vals pre) := by
  unfold bdL vals bodies
  rw [List.map_map]
  rfl
theorem ok_snoc (pre : List LnT) (x : LnT) : okLn (vals (pre ++ [x])) pre.length = okP pre := okLn_congr _ (by simp) (by simp) fun j hj => sG_map _ _ _ hj
theorem st_snoc (pre : List LnT) (x : LnT) : npS (bodies (pre ++ [x])) pre.length = stP pre := npS_congr _ fun j hj => sG_map _ _ _ hj
theorem er_snoc (pre : List LnT) (x : LnT) : npE (bodies (pre ++ [x])) pre.length = lnG (lnK (stP pre).1 (cutE x.1).1) := by
  rw [npE_g, st_snoc, sG_map2 (fun y : LnT => (cutE y.1).1) pre x]
theorem okP_snoc (pre : List LnT) (x : LnT) : okP (pre ++ [x]) = (okP pre && ((cutE x.1).2 && lnG (lnK (stP pre).1 (cutE x.1).1) == 0)) := by
  have h1 := ok_snoc pre x
  have h2 := sG_map2 (fun y : LnT => y.1) pre x
  unfold okP at h1 ⊢
  rw [List.length_append, List.length_singleton, okLn, h1]
  unfold lnOk
  rw [h2, ← bodies_bd, er_snoc]
theorem stP_snoc (pre : List LnT) (x : LnT) : stP (pre ++ [x]) = stepN (stP pre) (lnK (stP pre).1 (cutE x.1).1) := by
  show npS (bodies (pre ++ [x])) (pre ++ [x]).length = _
  rw [List.length_append, List.length_singleton, npS_s, st_snoc, sG_map2 (fun y : LnT => (cutE y.1).1) pre x]
theorem badP_snoc {pre : List LnT} {x : LnT} {e : Int} (h : okP pre = true) (h2 : (cutE x.1).2 = false ∧ e = 25 ∨ (cutE x.1).2 = true ∧ lnG (lnK (stP pre).1 (cutE x.1).1) = e ∧ e ≠ 0) : badP (pre ++ [x]) = true ∧ (pre ++ [x]).length - 1 = pre.length ∧ erP (pre ++ [x]) = e := by
  have h1 := ok_snoc pre x
  have h3 : okLn (vals (pre ++ [x])) (pre ++ [x]).length = (okP pre && ((cutE x.1).2 && lnG (lnK (stP pre).1 (cutE x.1).1) == 0)) := okP_snoc pre x
  have hl : (pre ++ [x]).length - 1 = pre.length := by simp
  have h4 := sG_map2 (fun y : LnT => y.1) pre x
  refine ⟨?_, hl, ?_⟩
  · unfold badP
    rw [hl, h1, h, h3, h]
    rcases h2 with ⟨e1, _⟩ | ⟨e1, e2, e3⟩
    · rw [e1]; rfl
    · rw [e1, e2]
      simpa using e3
  · unfold erP
    rw [hl, h4, er_snoc]
    rcases h2 with ⟨e1, e2⟩ | ⟨e1, e2, _⟩
    · rw [e1, e2]; rfl
    · rw [e1, e2]; rfl
theorem stP_len (pre : List LnT) : (stP pre).1.length ≤ pre.length ∧ (stP pre).2.length ≤ pre.length := npS_len _
/-! ### The lines of a text and its parts -/
theorem cutE_full {s : ByteArray} {ls : List ByteArray} (hs : splR s 10 = ls) {m : Nat} (hm : ls.length = m + 1) {j : Nat} (hj : j < m) : cutE (sG (lnB ls) j) = (sG ls j, true) := by
  rw [lnB_at ls j (by omega)]
  exact cutE_nl _
theorem free_of {s : ByteArray} {ls : List ByteArray} (hs : splR s 10 = ls) : ∀ x ∈ ls, Free 10 x := by
  have := (splR_jn s 10).2
  have h10 : (10 : UInt8).toNat = 10 := rfl
  rw [h10, hs] at this
  exact this
theorem cutE_end {s : ByteArray} {ls : List ByteArray} (hs : splR s 10 = ls) {m : Nat} (hm : ls.length = m + 1) (hne : sG ls m ≠ ByteArray.empty) : cutE (sG (lnB ls) m) = (sG ls m, false) := by
  rw [((lnB_len2 ls m hm).2 hne).2]
  exact cutE_free (free_of hs _ (sN_mem (by omega)))
theorem lnB_ge {ls : List ByteArray} {m : Nat} (hm : ls.length = m + 1) : m ≤ (lnB ls).length := by
  have := lnB_len2 ls m hm
  by_cases he : sG ls m = ByteArray.empty
  · rw [this.1 he]; exact Nat.le_refl _
  · rw [(this.2 he).1]; omega
theorem bd_full {s : ByteArray} {ls : List ByteArray} (hs : splR s 10 = ls) {m : Nat} (hm : ls.length = m + 1) {j : Nat} (hj : j < m) : sG (bdL (lnB ls)) j = sG ls j := by
  rw [sG_bd (by have := lnB_ge hm; omega), cutE_full hs hm hj]
theorem okLn_np {s : ByteArray} {ls : List ByteArray} (hs : splR s 10 = ls) {m : Nat} (hm : ls.length = m + 1) : ∀ k, k ≤ m → (okLn (lnB ls) k = true ↔ npOk ls k)
  | 0, _ => ⟨fun _ j hj => absurd hj (Nat.not_lt_zero _), fun _ => rfl⟩
  | k + 1, hk => by
    have ih := okLn_np hs hm k (by omega)
    rw [okLn, Bool.and_eq_true, ih]
    unfold lnOk
    rw [cutE_full hs hm (show k < m by omega), npE_congr (a := bdL (lnB ls)) (b := ls) (fun j hj => bd_full hs hm (by omega))]
    simp only [Bool.true_and, beq_iff_eq]
    exact ⟨fun h => npOk_s h.1 h.2, fun h => ⟨fun j hj => h j (by omega), h k (by omega)⟩⟩
theorem sG_pre {α : Type} (f : α → ByteArray) {pre xs : List α} (h : pre <+: xs) {j : Nat} (hj : j < pre.length) : sG (pre.map f) j = sG (xs.map f) j := by
  obtain ⟨t, rfl⟩ := h
  rw [List.map_append]
  exact (sN_app1 (by simpa using hj)).symm
/-- Where a line is wrong. -/
theorem stop_eq {s : ByteArray} (h4 : s.size ≤ 4096) {xs pre : List LnT} (hxs : vals xs = lnB (splR s 10)) (hp : pre <+: xs) (hb : badP pre = true) : npR s = (([], []), pre.length - 1, erP pre) := by
  generalize hs : splR s 10 = ls at hxs
  obtain ⟨a, r, e⟩ := splR_cons s 10
  obtain ⟨m, hm⟩ : ∃ m, ls.length = m + 1 := ⟨r.length, by rw [← hs, e]; rfl⟩
  have hR : npR s = npX ls m := by
    unfold npR
    rw [if_neg (by omega), hs, hm]
    rfl
  unfold badP at hb
  rw [Bool.and_eq_true, Bool.not_eq_true'] at hb
  obtain ⟨h1, h2⟩ := hb
  obtain ⟨k, hk⟩ : ∃ k, pre.length = k + 1 := by
    cases hl : pre.length with
    | zero => rw [hl] at h2; cases h2
    | succ k => exact ⟨k, rfl⟩
  have hpl := hp.length_le
  have hxl : xs.length = (lnB ls).length := by rw [← hxs]; simp
  have hc : ∀ j, j < k + 1 → sG (vals pre) j = sG (lnB ls) j := fun j hj => by
    rw [← hxs]
    exact sG_pre _ hp (by omega)
  unfold erP
  rw [hk, Nat.add_sub_cancel] at h1 ⊢
  rw [hk] at h2
  rw [hc k (by omega)]
  have hvl : (vals pre).length = k + 1 := by simpa using hk
  rw [okLn_congr _ (by omega) (by omega) hc] at h2
  rw [okLn_congr _ (by omega) (by omega) (fun j hj => hc j (by omega))] at h1
  have hl2 := lnB_len2 ls m hm
  have hkm : k ≤ m := by
    by_cases he : sG ls m = ByteArray.empty
    · have := hl2.1 he; omega
    · have := (hl2.2 he).1; omega
  have hok := (okLn_np hs hm k hkm).1 h1
  rw [hR]
  rw [okLn, h1, Bool.true_and] at h2
  unfold lnOk at h2
  by_cases hlt : k < m
  · have hbe : npE (bdL (lnB ls)) k = npE ls k := npE_congr (fun j hj => bd_full hs hm (by omega))
    have hbp : npE (bodies pre) k = npE ls k := by
      rw [← hbe, bodies_bd]
      exact npE_congr fun j hj => by rw [sG_bd (by omega), sG_bd (by omega), hc j hj]
    rw [cutE_full hs hm hlt, hbe] at h2
    rw [cutE_full hs hm hlt, if_pos rfl, hbp]
    exact npX_bad hok hlt (by simpa using h2)
  · obtain rfl : k = m := by omega
    have hne : sG ls k ≠ ByteArray.empty := fun he => by
      have := hl2.1 he
      omega
    rw [npX_ok hok, if_pos hne, cutE_end hs hm hne]
    rfl
/-- Where all lines are fine. -/
theorem done_eq {s : ByteArray} (h4 : s.size ≤ 4096) {xs : List LnT} (hxs : vals xs = lnB (splR s 10)) (hok : okP xs = true) :
    npR s = if netF (stP xs).1 (stP xs).2 ≠ 0 then (([], []), xs.length, netF (stP xs).1 (stP xs).2) else (stP xs, 0, 0) := by
  generalize hs : splR s 10 = ls at hxs
  obtain ⟨a, r, e⟩ := splR_cons s 10
  obtain ⟨m, hm⟩ : ∃ m, ls.length = m + 1 := ⟨r.length, by rw [← hs, e]; rfl⟩
  have hR : npR s = npX ls m := by
    unfold npR
    rw [if_neg (by omega), hs, hm]
    rfl
  have hl2 := lnB_len2 ls m hm
  have hxl : xs.length = (lnB ls).length := by rw [← hxs]; simp
  unfold okP at hok
  rw [hxs] at hok
  have he : sG ls m = ByteArray.empty := Classical.byContradiction fun hne => by
    rw [hxl, (hl2.2 hne).1, okLn] at hok
    unfold lnOk at hok
    rw [cutE_end hs hm hne] at hok
    simp at hok
  have hxm : xs.length = m := by rw [hxl, hl2.1 he]
  rw [hxm] at hok
  have hnp := (okLn_np hs hm m (Nat.le_refl _)).1 hok
  have hS : stP xs = npS ls m := by
    unfold stP
    rw [hxm, bodies_bd, hxs]
    exact npS_congr _ fun j hj => bd_full hs hm hj
  rw [hR, npX_ok hnp, if_neg (by simpa using he), hS, hxm]

end Go.Proofs.YtmfophoejjcnlaaGreatDoor
namespace Go.Proofs.YtmfophoejjcnlaaGreatDoor
open Go.E Go.RowKit
attribute [local irreducible] G C S D DY DS V Yl QV Calls
set_option maxRecDepth 100000
set_option linter.unusedSimpArgs false
set_option linter.unusedVariables false

def stI (r2 r3 r4 b1 bn : Nat) (pre : List LnT) (i : (Option Addr × Nat) × (Option Addr × Nat)) : St :=
  if okP pre = true then ⟨[], [⟨r2, 89, [.v (.slice none 0 0), .v (.slice none 0 0)]⟩, ⟨r3, 3, [.v (.int .i64 0)]⟩, ⟨r4, 28, [.v (.int .i64 0)]⟩, netB b1 i.1.1 (stP pre).1.length i.1.2 i.2.1 (stP pre).2.length i.2.2, ⟨bn, 3, [.v (.int .i64 (pre.length : Int))]⟩], [nmR (stP pre).1 (stP pre).1.length i.1.1 i.1.2, egR (stP pre).2 (stP pre).2.length i.2.1 i.2.2]⟩ else badSt
def stR (r2 r3 r4 : Nat) (pre : List LnT) (_ : Unit) : St :=
  if badP pre = true then ⟨[], [⟨r2, 89, [.v (.slice none 0 0), .v (.slice none 0 0)]⟩, ⟨r3, 3, [.v (.int .i64 ((pre.length - 1 : Nat) : Int))]⟩, ⟨r4, 28, [.v (.int .i64 (erP pre))]⟩], []⟩ else badSt
theorem stI_ok {r2 r3 r4 b1 bn : Nat} {pre : List LnT} {i : (Option Addr × Nat) × (Option Addr × Nat)} (h : okP pre = true) : stI r2 r3 r4 b1 bn pre i = ⟨[], [⟨r2, 89, [.v (.slice none 0 0), .v (.slice none 0 0)]⟩, ⟨r3, 3, [.v (.int .i64 0)]⟩, ⟨r4, 28, [.v (.int .i64 0)]⟩, netB b1 i.1.1 (stP pre).1.length i.1.2 i.2.1 (stP pre).2.length i.2.2, ⟨bn, 3, [.v (.int .i64 (pre.length : Int))]⟩], [nmR (stP pre).1 (stP pre).1.length i.1.1 i.1.2, egR (stP pre).2 (stP pre).2.length i.2.1 i.2.2]⟩ := if_pos h
theorem stI_bad {r2 r3 r4 b1 bn : Nat} {pre : List LnT} {i : (Option Addr × Nat) × (Option Addr × Nat)} (h : okP pre = false) : stI r2 r3 r4 b1 bn pre i = badSt := if_neg (by rw [h]; decide)
theorem stR_ok {r2 r3 r4 : Nat} {pre : List LnT} {u : Unit} (h : badP pre = true) : stR r2 r3 r4 pre u = ⟨[], [⟨r2, 89, [.v (.slice none 0 0), .v (.slice none 0 0)]⟩, ⟨r3, 3, [.v (.int .i64 ((pre.length - 1 : Nat) : Int))]⟩, ⟨r4, 28, [.v (.int .i64 (erP pre))]⟩], []⟩ := if_pos h
theorem stR_bad {r2 r3 r4 : Nat} {pre : List LnT} {u : Unit} (h : badP pre = false) : stR r2 r3 r4 pre u = badSt := if_neg (by rw [h]; decide)
theorem cutE_size (s : ByteArray) : (cutE s).1.size ≤ s.size := by
  unfold cutE
  split
  · dsimp only
    rw [ByteArray.size_extract]
    omega
  · exact Nat.le_refl _
theorem lnB_size {n : Nat} : ∀ ls : List ByteArray, (∀ x ∈ ls, x.size ≤ n) → ∀ x ∈ lnB ls, x.size ≤ n + 1
  | [], _, x, h => by simp [lnB] at h
  | [a], h, x, hx => by
    rw [lnB] at hx
    split at hx
    · simp at hx
    · rw [List.mem_singleton] at hx
      have := h a (List.mem_cons_self ..)
      rw [hx]
      omega
  | a :: b :: r, h, x, hx => by
    rw [lnB, List.mem_cons] at hx
    rcases hx with rfl | hx
    · have := h a (List.mem_cons_self ..)
      rw [ByteArray.size_append]
      have : (⟨#[10]⟩ : ByteArray).size = 1 := rfl
      omega
    · exact lnB_size (b :: r) (fun y hy => h y (List.mem_cons_of_mem _ hy)) x hx
theorem ln_vals : ∀ l : List ByteArray, (∀ x ∈ l, x.size ≤ 1000000) → ∃ xs : List LnT, vals xs = l
  | [], _ => ⟨[], rfl⟩
  | a :: r, h => by
    obtain ⟨xs, hx⟩ := ln_vals r (fun x hx => h x (List.mem_cons_of_mem _ hx))
    exact ⟨⟨a, h a (List.mem_cons_self ..)⟩ :: xs, congrArg (a :: ·) hx⟩
theorem lnK_size {ns : List ByteArray} {body t : ByteArray} (h : lnK ns body = .node t) : t.size ≤ body.size := by
  have := lnW_inv.1 t h
  exact splR_size body 32 t (by rw [this]; simp)
theorem lnK_bad0 {ns : List ByteArray} {body : ByteArray} {e : Int} (h : lnK ns body = .bad e) : e ≠ 0 := by
  unfold lnK at h
  generalize splR body 32 = ws at h
  by_cases h2 : ws.length = 2
  · rw [lnW_two h2] at h
    split at h
    · cases h
    · cases h; decide
  · by_cases h5 : ws.length = 5
    · rw [lnW_five h5] at h
      split at h
      · split at h
        · cases h; decide
        · cases h
      · cases h; decide
    · rw [lnW_else h2 h5] at h
      cases h; decide
theorem npS_size {ls : List ByteArray} {N : Nat} (h : ∀ x ∈ ls, x.size ≤ N) : ∀ k, k ≤ ls.length → ∀ y ∈ (npS ls k).1, y.size ≤ N
  | 0, _ => fun y hy => by cases hy
  | k + 1, hk => by
    have ih := npS_size h k (by omega)
    have hx := h _ (sN_mem (l := ls) (k := k) (by omega))
    rw [npS_s]
    unfold stepN
    split
    · rename_i s hs
      intro y hy
      rcases List.mem_append.1 hy with hy | hy
      · exact ih y hy
      · rw [List.mem_singleton.1 hy]
        exact Nat.le_trans (lnK_size hs) hx
    · exact ih
    · exact ih
theorem stP_size (pre : List LnT) : ∀ y ∈ (stP pre).1, y.size ≤ 1000000 := npS_size (fun x hx => by
  obtain ⟨z, hz, rfl⟩ := List.mem_map.1 hx
  exact Nat.le_trans (cutE_size _) z.2) _ (by simp)
section
variable {B : Nat} {w0 wB w : World} {Ps : Past} {sl : List (Nat × AV)} {bx : List Bx} {rw : List Rw} {x : Bx}
theorem st1_of (hM : Mx w0) (hw : HW B wB Ps ⟨sl, bx, rw⟩ w) (hp : (w0, fun b => b < w0.heap.size) ∈ Ps) (hx : x ∈ bx) : (stPast [x] rw w).2 1 := by
  obtain ⟨m, hm⟩ := hM
  have hlt : 1 < w0.heap.size := cell_lt hm
  refine ⟨(hw.past _ hp 1 hlt).1.1, fun y hy => ?_, fun r hr e => ((hw.row r hr).2 1 e).2 _ hp hlt⟩
  rw [List.mem_singleton] at hy
  subst hy
  exact (hw.past _ hp 1 hlt).2 y hx
end
theorem read_as {b : Nat} {A1 A2 : Option Addr} {c1 c2 : Nat} {ns : List ByteArray} {es : List Edg} {n m : Nat} {s : ByteArray} {L : LnK} (hL : lnK ns s = L) (hnl : ns.length = n) (hml : es.length = m) (hn : n ≤ 100000) (hm : m ≤ 100000) (hs : s.size ≤ 1000000) (w : World) (hM : Mx w) (h1 : (stPast [netB b A1 n c1 A2 m c2] [nmR ns n A1 c1, egR es m A2 c2] w).2 1) (hst : HW 0 w [] ⟨[], [netB b A1 n c1 A2 m c2], [nmR ns n A1 c1, egR es m A2 c2]⟩ w) :
    Calls Tryz.prog 132 #[.pointer (some ⟨b, 0, none⟩), .string s] w fun r w' => ∃ v x' rw', r = .returned v ∧ TurSt [netB b A1 n c1 A2 m c2] [nmR ns n A1 c1, egR es m A2 c2] [x'] rw' w w' ∧ RdR b ns es A1 c1 A2 c2 L v x' rw' := by
  subst hL hnl hml
  exact read_c ns es hn hm s hs w hM h1 hst

set_option maxHeartbeats 8000000 in
/-- timing.Parse -/
theorem parse_c (s : ByteArray) (hs : s.size ≤ 1000000) (w : World) (hM : Mx w) : Calls Tryz.prog 77 #[.string s] w fun r w' => ∃ v, r = .returned (.tuple #[v, .int .i64 ((npR s).2.1 : Int), .int .i64 (npR s).2.2]) ∧ Below w.heap.size w w' ∧ NtP w w' v (npR s).1.1.length (npR s).1.2.length ((npR s).1.1.map .string) ((npR s).1.2.flatMap edC) := by
  refine calls_ofM (args := [.string s]) T_ok Tryz.func77 rfl Tryz.ntmps77 (Nat.le_of_ble_eq_true rfl) rfl ?_
  by_cases hbig : 4096 < s.size
  · have hR : npR s = (([], []), 0, 26) := if_pos hbig
    rw [hR]
    repeat' (first
 | (refine C_id ?_; first
 | refine C_seq ?_
 | refine C_region rfl ?_
 | refine C_ret0 ?_
 | refine C_condT rfl obQ ?_
     )
 | (refine S_id ?_; first
 | ((with_reducible (first | refine S_trueE ?_ ?_ | refine S_trueB ?_ ?_ | refine S_trueL ?_ ?_ | refine S_trueD ?_ ?_ | refine S_trueN ?_ ?_)); · (first | rfl | assumption | omega | exact decide_eq_true (by omega) | (rw [beq_iff_eq]; omega) | (rw [bne_iff_ne]; first | assumption | omega)))
 | (refine S_box (fun r2 => ⟨_, _, rfl, obQ, ?_⟩); refine S_box (fun r3 => ⟨_, _, rfl, obQ, ?_⟩); refine S_box (fun r4 => ⟨_, _, rfl, obQ, ?_⟩))
 | refine S_nil ?_
 | refine S_runN rfl rfl obQ obQ ?_
     )
 | (refine G_id ?_; first
 | refine G_then ?_
 | refine G_thenR ?_
 | refine G_retD rfl obQ (DsP.nil _ _) (fun w2 hw => ⟨_, rfl, hw.below, NtP.nil_ _ _⟩)
     )
     )
  repeat' (first
 | (refine C_id ?_; first
 | refine C_seq ?_
 | refine C_regionNe 3 rfl rfl ?_
 | refine C_skip ?_
 | refine C_condF rfl obQ ?_
   )
 | (refine S_id ?_; first
 | ((with_reducible (first | refine S_falseN ?_ ?_ | refine S_falseB ?_ ?_ | refine S_falseL ?_ ?_ | refine S_falseD ?_ ?_ | refine S_falseE ?_ ?_)); · (first | rfl | omega | exact decide_eq_false (by omega) | (rw [beq_eq_false_iff_ne]; omega) | (rw [bne_eq_false_iff_eq]; first | assumption | omega)))
 | (refine S_box (fun r2 => ⟨_, _, rfl, obQ, ?_⟩); refine S_box (fun r3 => ⟨_, _, rfl, obQ, ?_⟩); refine S_box (fun r4 => ⟨_, _, rfl, obQ, ?_⟩))
 | refine S_nil ?_
 | refine S_runN rfl rfl obQ obQ ?_
   )
 | (refine G_id ?_; first
 | refine G_then ?_
   )
   )
  refine C_weak (Ps' := [(w, fun b => b < w.heap.size)]) (σ' := ⟨[(0, .s (.v (.string s))), (2, .s (.p r2 0 0)), (3, .s (.p r3 1 0)), (4, .s (.p r4 2 0))], [⟨r2, 89, [.v (.slice none 0 0), .v (.slice none 0 0)]⟩, ⟨r3, 3, [.v (.int .i64 0)]⟩, ⟨r4, 28, [.v (.int .i64 0)]⟩], []⟩) ⟨⟨_, rfl, obQ⟩, ⟨_, rfl⟩, rfl, psQ⟩ ?_
  repeat' (first
 | (refine C_id ?_; first
 | refine C_seq ?_
 | refine C_regionNe 4 rfl rfl ?_
   )
 | (refine S_id ?_; first
 | refine S_nil ?_
 | refine S_box (fun b1 => ⟨_, _, rfl, obQ, ?_⟩)
   )
 | (refine G_id ?_; first
 | refine G_then ?_
   )
   )
  repeat' (first
 | (refine C_id ?_; first
 | refine C_seq ?_
 | refine C_regionNe 5 rfl rfl ?_
   )
 | (refine S_id ?_; first
 | refine S_nil ?_
 | refine S_runN rfl rfl obQ obQ ?_
 | refine S_box (fun bn => ⟨_, _, rfl, obQ, ?_⟩)
   )
 | (refine G_id ?_; first
 | refine G_then ?_
   )
   )
  repeat' (first
 | (refine C_id ?_; first
 | refine C_region rfl ?_
 | refine C_block ?_
   )
 | (refine S_id ?_; first
 | (refine S_callM (f := 130) rfl obQ (by kernel_rfl) (fun w hw => slines_c s w) (fun w1L w2L vL hw1L hbL hRL => ?_); obtain ⟨kL, rfl, hkL, hbxL⟩ := hRL)
 | refine S_nil ?_
 | refine S_runN rfl rfl obQ obQ ?_
   )
 | (refine G_id ?_; first
 | refine G_then ?_
   )
   )
  have hBL : w.heap.size ≤ kL := Nat.le_trans hw1L.bsize hkL.1
  refine C_past1 (fun b => b = kL) (W := w2L) memQ (fun b hb => by subst hb; exact hkL) ?_
  refine C_weak (Ps' := [Po w2L kL, (w, fun b => b < w.heap.size)]) (σ' := ⟨[(17, .s (.v (.func (.func 156) #[] #[.pointer (some ⟨kL, 0, none⟩)]))), (2, .s (.p r2 0 0)), (3, .s (.p r3 1 0)), (4, .s (.p r4 2 0)), (5, .s (.p b1 3 0)), (6, .s (.p bn 4 0))], [⟨r2, 89, [.v (.slice none 0 0), .v (.slice none 0 0)]⟩, ⟨r3, 3, [.v (.int .i64 0)]⟩, ⟨r4, 28, [.v (.int .i64 0)]⟩, ⟨b1, 89, [.v (.slice none 0 0), .v (.slice none 0 0)]⟩, ⟨bn, 3, [.v (.int .i64 0)]⟩], []⟩) ⟨⟨_, rfl, obQ⟩, ⟨_, rfl⟩, rfl, psQ⟩ ?_
  refine C_rowB 9 1 [⟨r2, 89, [.v (.slice none 0 0), .v (.slice none 0 0)]⟩, ⟨r3, 3, [.v (.int .i64 0)]⟩, ⟨r4, 28, [.v (.int .i64 0)]⟩, ⟨b1, 89, [.r none 0 0 0, .v (.slice none 0 0)]⟩, ⟨bn, 3, [.v (.int .i64 0)]⟩] rfl ?_
  refine C_rowB 113 4 [⟨r2, 89, [.v (.slice none 0 0), .v (.slice none 0 0)]⟩, ⟨r3, 3, [.v (.int .i64 0)]⟩, ⟨r4, 28, [.v (.int .i64 0)]⟩, netB b1 none 0 0 none 0 0, ⟨bn, 3, [.v (.int .i64 0)]⟩] rfl ?_
  have hj : jnB 10 (splR s 10) = s := (splR_jn s 10).1
  have hsp := splR_size s 10
  have hln := splR_len s 10
  obtain ⟨xs, hxs⟩ := ln_vals (lnB (splR s 10)) (fun x hx => by have := lnB_size (n := s.size) _ hsp x hx; omega)
  have hne : splR s 10 ≠ [] := by obtain ⟨a, r, e⟩ := splR_cons s 10; rw [e]; exact List.cons_ne_nil _ _
  have hxl : xs.length ≤ 5000 := by
    have h1 : xs.length = (lnB (splR s 10)).length := by rw [← hxs]; simp
    obtain ⟨a, r, e⟩ := splR_cons s 10
    have h2 := lnB_len r a
    rw [e] at h1 hln
    simp only [List.length_cons] at hln
    omega
  have hPsk : ∀ p ∈ [(w, fun b => b < w.heap.size)], ¬ p.2 kL := by
    intro p hp
    rw [List.mem_singleton] at hp
    subst hp
    exact Nat.not_lt.2 hBL
  refine C_rangeFuncM (k := kL) (W0 := w2L) hBL hPsk rfl rfl obQ (by kernel_rfl) (encs := encL) xs (fun _ => rfl) (by intro t ht; simp at ht; subst ht; exact Nat.le_of_ble_eq_true rfl) (fun x => [(18, .string x.1)]) (fun m => by simp [encL]) (fun w3 hw3 => ?_) (stI r2 r3 r4 b1 bn) (stR r2 r3 r4) ((none, 0), (none, 0)) (fun w3 hw3 => HW.same hw3 rfl rfl) (fun l L W3 pre x i hpre hwp => ?_) (fun D WD i hBD hWD hnD => ?_) (fun D WD pre i hpre hBD hWD hnD => ?_)
  · exact lines_seq kL (splR s 10) hne (free_of rfl) (by rw [hj]; omega) xs hxs _ (.inl rfl) w3 (by rw [hj]; exact (hw3.past _ (List.mem_cons_self ..) kL rfl).1.2.trans hbxL)
  · have hpl : pre.length ≤ 5000 := by omega
    cases hok : okP pre
    · rw [stI_bad hok] at hwp
      exact hwp.bad.elim
    rw [stI_ok hok] at hwp ⊢
    have hpt := stP_len pre
    obtain ⟨⟨A1, c1⟩, ⟨A2, c2⟩⟩ := i
    rcases hst : stP pre with ⟨ns, es⟩
    rw [hst] at hwp hpt
    dsimp only at hwp hpt ⊢
    repeat' (first
 | (refine C_id ?_; first
 | refine C_seq ?_
 | refine C_region rfl ?_
 | refine C_block ?_
     )
 | (refine S_id ?_; first
 | refine S_nil ?_
 | refine S_runN rfl rfl obQ obQ ?_
     )
 | (refine G_id ?_; first
 | refine G_assignM hwp (fun W4 hw4 => ?_)
     )
     )
    have hlx : ((pre ++ [x]).length : Int) = (pre.length : Int) + 1 := by simp
    have hxsz := x.2
    rcases hcut : cutE x.1 with ⟨body, whole⟩
    have hbs : body.size ≤ 1000000 := by
      have := cutE_size x.1
      rw [hcut] at this
      dsimp only at this
      omega
    cases whole
    · have hbP := badP_snoc (x := x) (e := 25) hok (.inl ⟨by rw [hcut], rfl⟩)
      repeat' (first
 | (refine C_id ?_; first
 | refine C_drawTr00 (id := 9) 3 (.q 0 (.two 1 2 (.n 2 .nil) (.n 1 .nil))) rfl mixed (by kernel_rfl) rfl ?_
 | refine C_seq ?_
 | refine C_region rfl ?_
 | refine C_ret0 ?_
 | refine C_condT rfl obQ ?_
       )
 | (refine S_id ?_; first
 | refine S_nil ?_
 | refine S_runN rfl rfl obQ obQ ?_
 | refine S_call (f := 131) rfl obQ (by kernel_rfl) (fun w hw => cutE_as hcut hxsz w) ?_
       )
 | (refine VT_id ?_; first
 | refine VT_nil ?_
 | refine VT_q rfl (Yl_step rfl obQ) ?_
 | refine VT_n rfl ?_
 | refine VT_two rfl rfl ?_ ?_
       )
 | (refine G_id ?_; first
 | refine G_VT2 ⟨_, rfl⟩ ⟨_, rfl⟩ pstQ rfl ?_
 | (refine G_rows (rw' := []) ⟨_, rfl⟩ ?_; refine G_roundMR () (by rw [stR_ok hbP.1, hbP.2.1, hbP.2.2]; exact ⟨⟨_, rfl, obQ⟩, ⟨_, rfl⟩, rfl, pstQ⟩) hw4)
 | refine G_then ?_
 | refine G_blockR ?_
 | refine G_thenR ?_
       )
       )
    · cases hL : lnK ns body with
      | node t =>
        have hok2 : okP (pre ++ [x]) = true := by rw [okP_snoc, hok, hcut, hst]; dsimp only; rw [hL]; rfl
        have hst2 : stP (pre ++ [x]) = (ns ++ [t], es) := by rw [stP_snoc, hst, hcut]; dsimp only; rw [hL]; rfl
        repeat' (first
 | (refine C_id ?_; first
 | refine C_seq ?_
 | refine C_region rfl ?_
 | refine C_skip ?_
 | refine C_condF rfl obQ ?_
         )
 | (refine S_id ?_; first
 | ((with_reducible (first | refine S_falseN ?_ ?_ | refine S_falseB ?_ ?_ | refine S_falseL ?_ ?_ | refine S_falseD ?_ ?_ | refine S_falseE ?_ ?_)); · (first | rfl | omega | exact decide_eq_false (by omega) | (rw [beq_eq_false_iff_ne]; omega) | (rw [bne_eq_false_iff_eq]; first | assumption | omega)))
 | (refine S_callStA 3 rfl (R := RdR b1 ns es A1 c1 A2 c2 (.node t)) rfl obQ (by kernel_rfl) (fun w hw h0 => read_as hL rfl rfl (by omega) (by omega) hbs w (Mx_at hM hw memQ) (st1_of hM hw memQ (by simp)) h0) (fun v x' rw' hR => ?_); obtain ⟨rfl, A3, c3, rfl, rfl⟩ := hR)
 | refine S_nil ?_
 | refine S_runN rfl rfl obQ obQ ?_
 | refine S_call (f := 131) rfl obQ (by kernel_rfl) (fun w hw => cutE_as hcut hxsz w) ?_
         )
 | (refine G_id ?_; first
 | refine G_roundM (((A3, c3), (A2, c2))) (by rw [stI_ok hok2, hst2, hlx]; dsimp only; (try rw [List.length_append]); exact ⟨⟨_, rfl, obQ⟩, ⟨_, rfl⟩, by (try dsimp only [nmR, egR]); simp only [List.map_append, List.flatMap_append]; rfl, pstQ⟩) hw4
 | refine G_then ?_
 | refine G_block ?_
         )
         )
      | edge e =>
        have hok2 : okP (pre ++ [x]) = true := by rw [okP_snoc, hok, hcut, hst]; dsimp only; rw [hL]; rfl
        have hst2 : stP (pre ++ [x]) = (ns, es ++ [e]) := by rw [stP_snoc, hst, hcut]; dsimp only; rw [hL]; rfl
        repeat' (first
 | (refine C_id ?_; first
 | refine C_seq ?_
 | refine C_region rfl ?_
 | refine C_skip ?_
 | refine C_condF rfl obQ ?_
         )
 | (refine S_id ?_; first
 | ((with_reducible (first | refine S_falseN ?_ ?_ | refine S_falseB ?_ ?_ | refine S_falseL ?_ ?_ | refine S_falseD ?_ ?_ | refine S_falseE ?_ ?_)); · (first | rfl | omega | exact decide_eq_false (by omega) | (rw [beq_eq_false_iff_ne]; omega) | (rw [bne_eq_false_iff_eq]; first | assumption | omega)))
 | (refine S_callStA 3 rfl (R := RdR b1 ns es A1 c1 A2 c2 (.edge e)) rfl obQ (by kernel_rfl) (fun w hw h0 => read_as hL rfl rfl (by omega) (by omega) hbs w (Mx_at hM hw memQ) (st1_of hM hw memQ (by simp)) h0) (fun v x' rw' hR => ?_); obtain ⟨rfl, A3, c3, rfl, rfl⟩ := hR)
 | refine S_nil ?_
 | refine S_runN rfl rfl obQ obQ ?_
 | refine S_call (f := 131) rfl obQ (by kernel_rfl) (fun w hw => cutE_as hcut hxsz w) ?_
         )
 | (refine G_id ?_; first
 | refine G_roundM (((A1, c1), (A3, c3))) (by rw [stI_ok hok2, hst2, hlx]; dsimp only; (try rw [List.length_append]); exact ⟨⟨_, rfl, obQ⟩, ⟨_, rfl⟩, by (try dsimp only [nmR, egR]); simp only [List.map_append, List.flatMap_append]; rfl, pstQ⟩) hw4
 | refine G_then ?_
 | refine G_block ?_
         )
         )
      | bad e =>
        have he0 : e ≠ 0 := lnK_bad0 hL
        have hbP := badP_snoc (x := x) (e := e) hok (.inr ⟨by rw [hcut], by rw [hst, hcut]; dsimp only; rw [hL]; rfl, he0⟩)
        repeat' (first
 | (refine C_id ?_; first
 | refine C_drawTr00 (id := 12) 5 (.q 0 (.q 2 (.two 1 3 (.n 3 (.n 4 .nil)) (.n 1 (.n 4 .nil))))) rfl mixed (by kernel_rfl) rfl ?_
 | refine C_seq ?_
 | refine C_region rfl ?_
 | refine C_skip ?_
 | refine C_ret0 ?_
 | refine C_condT rfl obQ ?_
 | refine C_condF rfl obQ ?_
         )
 | (refine S_id ?_; first
 | ((with_reducible (first | refine S_trueE ?_ ?_ | refine S_trueB ?_ ?_ | refine S_trueL ?_ ?_ | refine S_trueD ?_ ?_ | refine S_trueN ?_ ?_)); · (first | rfl | assumption | omega | exact decide_eq_true (by omega) | (rw [beq_iff_eq]; omega) | (rw [bne_iff_ne]; first | assumption | omega)))
 | (refine S_callStA 3 rfl (R := RdR b1 ns es A1 c1 A2 c2 (.bad e)) rfl obQ (by kernel_rfl) (fun w hw h0 => read_as hL rfl rfl (by omega) (by omega) hbs w (Mx_at hM hw memQ) (st1_of hM hw memQ (by simp)) h0) (fun v x' rw' hR => ?_); obtain ⟨rfl, rfl, rfl⟩ := hR)
 | refine S_nil ?_
 | refine S_runN rfl rfl obQ obQ ?_
 | refine S_call (f := 131) rfl obQ (by kernel_rfl) (fun w hw => cutE_as hcut hxsz w) ?_
         )
 | (refine VT_id ?_; first
 | refine VT_nil ?_
 | refine VT_q rfl (Yl_step rfl obQ) ?_
 | refine VT_n rfl ?_
 | refine VT_two rfl rfl ?_ ?_
         )
 | (refine G_id ?_; first
 | refine G_VT2 ⟨_, rfl⟩ ⟨_, rfl⟩ pstQ rfl ?_
 | (refine G_rows (rw' := []) ⟨_, rfl⟩ ?_; refine G_roundMR () (by rw [stR_ok hbP.1, hbP.2.1, hbP.2.2]; exact ⟨⟨_, rfl, obQ⟩, ⟨_, rfl⟩, rfl, pstQ⟩) hw4)
 | refine G_then ?_
 | refine G_blockR ?_
 | refine G_thenR ?_
         )
         )
  · cases hok : okP xs
    · rw [stI_bad hok]
      exact G_bad
    have hR := done_eq (by omega) hxs hok
    have hpt := stP_len xs
    have hsz := stP_size xs
    rw [stI_ok hok]
    rcases hst : stP xs with ⟨ns, es⟩
    rw [hst] at hR hpt hsz
    obtain ⟨⟨A1, c1⟩, ⟨A2, c2⟩⟩ := i
    dsimp only at hR hpt hsz ⊢
    rw [hR]
    by_cases hce : netF ns es = 0
    · rw [if_neg (by simpa using hce)]
      repeat' (first
 | (refine C_id ?_; first
 | refine C_seq ?_
 | refine C_region rfl ?_
 | refine C_skip ?_
 | refine C_ret0 ?_
 | refine C_condF rfl obQ ?_
       )
 | (refine S_id ?_; first
 | ((with_reducible (first | refine S_falseN ?_ ?_ | refine S_falseB ?_ ?_ | refine S_falseL ?_ ?_ | refine S_falseD ?_ ?_ | refine S_falseE ?_ ?_)); · (first | rfl | omega | exact decide_eq_false (by omega) | (rw [beq_eq_false_iff_ne]; omega) | (rw [bne_eq_false_iff_eq]; first | assumption | omega)))
 | refine S_nil ?_
 | refine S_runN rfl rfl obQ obQ ?_
 | refine S_call (f := 61) rfl obQ (by kernel_rfl) (fun w hw => checkNet_c A1 A2 c1 c2 ns es (by omega) (by omega) (fun y hy => by have := hsz y hy; unfold maxLen; omega) w (hw.rdRow (i := 0) rfl rfl) (hw.rdRow (i := 1) rfl rfl)) ?_
       )
 | (refine G_id ?_; first
 | refine G_then ?_
 | refine G_block ?_
 | refine G_retD rfl obQ ((DsP.nil _ _).cons hBD hWD hnD |>.weak (by intro p hp; simp only [List.mem_cons, List.mem_nil_iff, or_false] at hp ⊢; rcases hp with rfl | rfl <;> simp)) (fun w2 hw => ⟨_, rfl, hw.below, by obtain ⟨B1, d1, e1, r1⟩ := HW.rowSl (i := 0) hw rfl rfl rfl rfl; obtain ⟨B2, d2, e2, r2⟩ := HW.rowSl (i := 1) hw rfl rfl rfl rfl; injection e1 with e3 e4 e5; injection e2 with e6 e7 e8; subst e3; subst e5; subst e6; subst e8; exact ⟨_, _, _, _, rfl, r1, r2⟩⟩)
       )
       )
    · rw [if_pos hce]
      repeat' (first
 | (refine C_id ?_; first
 | refine C_drawTr00 (id := 16) 5 (.q 0 (.q 2 (.two 1 3 (.n 3 (.n 4 .nil)) (.n 1 (.n 4 .nil))))) rfl mixed (by kernel_rfl) rfl ?_
 | refine C_seq ?_
 | refine C_region rfl ?_
 | refine C_ret0 ?_
 | refine C_condT rfl obQ ?_
       )
 | (refine S_id ?_; first
 | ((with_reducible (first | refine S_trueE ?_ ?_ | refine S_trueB ?_ ?_ | refine S_trueL ?_ ?_ | refine S_trueD ?_ ?_ | refine S_trueN ?_ ?_)); · (first | rfl | assumption | omega | exact decide_eq_true (by omega) | (rw [beq_iff_eq]; omega) | (rw [bne_iff_ne]; first | assumption | omega)))
 | refine S_nil ?_
 | refine S_runN rfl rfl obQ obQ ?_
 | refine S_call (f := 61) rfl obQ (by kernel_rfl) (fun w hw => checkNet_c A1 A2 c1 c2 ns es (by omega) (by omega) (fun y hy => by have := hsz y hy; unfold maxLen; omega) w (hw.rdRow (i := 0) rfl rfl) (hw.rdRow (i := 1) rfl rfl)) ?_
       )
 | (refine VT_id ?_; first
 | refine VT_nil ?_
 | refine VT_q rfl (Yl_step rfl obQ) ?_
 | refine VT_n rfl ?_
 | refine VT_two rfl rfl ?_ ?_
       )
 | (refine G_id ?_; first
 | refine G_VT2 ⟨_, rfl⟩ ⟨_, rfl⟩ pstQ rfl ?_
 | refine G_then ?_
 | refine G_block ?_
 | refine G_thenR ?_
 | refine G_retD rfl obQ ((DsP.nil _ _).cons hBD hWD hnD |>.weak (by intro p hp; simp only [List.mem_cons, List.mem_nil_iff, or_false] at hp ⊢; rcases hp with rfl | rfl <;> simp)) (fun w2 hw => ⟨_, rfl, hw.below, NtP.nil_ _ _⟩)
       )
       )
  · cases hb : badP pre
    · rw [stR_bad hb]
      exact G_bad
    rw [stR_ok hb, stop_eq (by omega) hxs hpre hb]
    repeat' (first
 | (refine G_id ?_; first
 | refine G_blockR ?_
 | refine G_thenR ?_
 | refine G_retD rfl obQ ((DsP.nil _ _).cons hBD hWD hnD |>.weak (by intro p hp; simp only [List.mem_cons, List.mem_nil_iff, or_false] at hp ⊢; rcases hp with rfl | rfl <;> simp)) (fun w2 hw => ⟨_, rfl, hw.below, NtP.nil_ _ _⟩)
     )
     )

end Go.Proofs.YtmfophoejjcnlaaGreatDoor
namespace Go.Proofs.YtmfophoejjcnlaaGreatDoor
open Go.E Go.RowKit
attribute [local irreducible] G C S D Calls
set_option maxRecDepth 100000
set_option linter.unusedSimpArgs false
set_option linter.unusedVariables false

/-- A net whose edges are new. -/
def OwR (w w' : World) (v : Value) (A : Option Addr) (n c m : Nat) (ys : List Value) : Prop := ∃ A2 c2, v = .agg #[.slice A n c, .slice A2 m c2] ∧ RdS (fun b => w.heap.size ≤ b ∧ b < w'.heap.size) w' A2 ys ∧ m ≤ c2 ∧ (A2 = none → m = 0 ∧ c2 = 0)
theorem OwR.mk1 {w w' : World} {v v2 : Value} {A : Option Addr} {n c m : Nat} {ys : List Value} (h : SlC w w' v2 m ys) (hv : v = .agg #[.slice A n c, v2]) : OwR w w' v A n c m ys := by
  obtain ⟨A2, c2, rfl, r2, r3, _, r4⟩ := h
  exact ⟨A2, c2, hv, r2, r3, r4⟩
/-- A net, all of it new, with what is known of its room. -/
def NtC (w w' : World) (v : Value) (n m : Nat) (xs ys : List Value) : Prop := ∃ A A2 c c2, v = .agg #[.slice A n c, .slice A2 m c2] ∧ RdS (fun b => w.heap.size ≤ b ∧ b < w'.heap.size) w' A xs ∧ RdS (fun b => w.heap.size ≤ b ∧ b < w'.heap.size) w' A2 ys ∧ (n ≤ c ∧ (A = none → n = 0 ∧ c = 0)) ∧ m ≤ c2 ∧ (A2 = none → m = 0 ∧ c2 = 0)
theorem NtC.mk2 {w w' : World} {v v1 v2 : Value} {n m : Nat} {xs ys : List Value} (h1 : SlC w w' v1 n xs) (h2 : SlC w w' v2 m ys) (hv : v = .agg #[v1, v2]) : NtC w w' v n m xs ys := by
  obtain ⟨A, c, rfl, r1, a1, _, b1⟩ := h1
  obtain ⟨A2, c2, rfl, r2, a2, _, b2⟩ := h2
  exact ⟨A, A2, c, c2, hv, r1, r2, ⟨a1, b1⟩, a2, b2⟩
/-- The same, and an error. -/
def NtE (w w' : World) (v : Value) (n m : Nat) (xs ys : List Value) (e : Value) : Prop := ∃ A A2 c c2, v = .tuple #[.agg #[.slice A n c, .slice A2 m c2], e] ∧ RdS (fun b => w.heap.size ≤ b ∧ b < w'.heap.size) w' A xs ∧ RdS (fun b => w.heap.size ≤ b ∧ b < w'.heap.size) w' A2 ys ∧ (n ≤ c ∧ (A = none → n = 0 ∧ c = 0)) ∧ m ≤ c2 ∧ (A2 = none → m = 0 ∧ c2 = 0)
theorem NtE.mk2 {w w' : World} {v v1 v2 e : Value} {n m : Nat} {xs ys : List Value} (h1 : SlC w w' v1 n xs) (h2 : SlC w w' v2 m ys) (hv : v = .tuple #[.agg #[v1, v2], e]) : NtE w w' v n m xs ys e := by
  obtain ⟨A, c, rfl, r1, a1, _, b1⟩ := h1
  obtain ⟨A2, c2, rfl, r2, a2, _, b2⟩ := h2
  exact ⟨A, A2, c, c2, hv, r1, r2, ⟨a1, b1⟩, a2, b2⟩
set_option maxHeartbeats 1000000 in
/-- genlocklaw04.own -/
theorem lOwn_c (A A2 : Option Addr) (c c2 : Nat) (names : List ByteArray) (es : List Edg) (hn : names.length ≤ 1000000) (hm : es.length ≤ 1000000) (w : World) (hr2 : Rd w A2 (es.flatMap edC)) : Calls Tryz.prog 64 #[.agg #[.slice A names.length c, .slice A2 es.length c2]] w fun r w' => ∃ v, r = .returned v ∧ Below w.heap.size w w' ∧ OwR w w' v A names.length c es.length (es.flatMap edC) := by
  refine calls_of (args := [.agg #[.slice A names.length c, .slice A2 es.length c2]]) T_ok Tryz.func64 rfl Tryz.ntmps64 (Nat.le_of_ble_eq_true rfl) rfl ?_
  repeat' (first
 | (refine C_id ?_; first
 | refine C_seq ?_
 | refine C_region rfl ?_
 | refine C_block ?_
 )
 | (refine S_id ?_; first
 | refine S_nil ?_
 | refine S_run rfl rfl obQ obQ ?_
 | refine S_box (fun b => ⟨_, _, rfl, obQ, ?_⟩)
 )
 | (refine G_id ?_; first
 | refine G_then ?_
 )
 )
  rename_i b1 b2
  refine C_rowB 108 4 [⟨b1, 89, [.v (.slice A names.length c), .v (.slice A2 es.length c2)]⟩, ⟨b2, 84, [.v (.slice none 0 0), .v (.slice none 0 0)]⟩, ⟨b, 84, [.v (.slice A names.length c), .r none 0 0 0]⟩] rfl ?_
  refine C_loopS (fun i : Nat × Option Addr × Nat => ⟨[(12, .s (.v (.int .i64 i.1))), (11, .s (.v (.int .i64 es.length))), (10, .s (.v (.slice A2 es.length c2))), (3, .s (.p b 2 0)), (2, .s (.p b2 1 0))], [⟨b1, 89, [.v (.slice A names.length c), .v (.slice A2 es.length c2)]⟩, ⟨b2, 84, [.v (.slice none 0 0), .v (.slice none 0 0)]⟩, ⟨b, 84, [.v (.slice A names.length c), .r i.2.1 i.1 i.2.2 0]⟩], [⟨108, 4, i.1, (es.take i.1).flatMap edC, .slice i.2.1 i.1 i.2.2⟩]⟩) (fun i => i.1 ≤ es.length) (fun i => es.length - i.1) (0, none, 0) (Nat.zero_le _) ?_ (fun i hi => ?_)
  · exact ⟨⟨_, rfl, obQ⟩, ⟨_, rfl⟩, rfl, pstQ⟩
  obtain ⟨k, A3, c3⟩ := i
  have hi' : k ≤ es.length := hi
  dsimp only
  by_cases hlt : k < es.length
  · obtain ⟨ad, rfl⟩ := hr2.some (by rw [flat_len (f := edC) (s := 4) es (fun _ _ => rfl)]; omega)
    have hmt := flatMap_take_succ (f := edC) hlt
    repeat' (first
 | (refine C_id ?_; first
 | refine C_seq ?_
 | refine C_region rfl ?_
 | refine C_block ?_
 | refine C_skip ?_
 | (refine C_cond rfl obQ (fun h => ?_) (fun h => ?_) <;> (try simp only [Bool.or_eq_true, Bool.and_eq_true, Bool.or_eq_false_iff, Bool.and_eq_false_iff, decide_eq_true_eq, decide_eq_false_iff_not, beq_iff_eq, bne_iff_ne, beq_eq_false_iff_ne, bne_eq_false_iff_eq, ne_eq, Decidable.not_not, List.cons.injEq, and_true, Bool.not_eq_true', Bool.not_eq_false', Int.not_lt, Int.not_le] at h) <;> (try (exfalso; omega)))
     )
 | (refine S_id ?_; first
 | refine S_load rfl obQ rfl [.int .i64 es[k].F, .int .i64 es[k].T, .int .i64 es[k].L, .int .i64 es[k].H] (.past _ memQ _ _ hr2.toS _ _ rfl rfl (idxS (f := edC) (fun _ => rfl) hlt)) rfl (.inl ⟨rfl, rfl⟩) ?_
 | refine S_append rfl obQ rfl rfl rfl ⟨by decide, rfl⟩ rfl ⟨rfl, rfl, rfl, rfl⟩ [.int .i64 es[k].F, .int .i64 es[k].T, .int .i64 es[k].L, .int .i64 es[k].H] ⟨by decide, rfl⟩ (by simp [Value.oneCell']) (fun w hw => by first | exact hw.src (i := 0) rfl rfl | exact hw.src (i := 1) rfl rfl | exact hw.src (i := 2) rfl rfl | exact hw.src (i := 3) rfl rfl | exact hw.src (i := 4) rfl rfl | exact hw.src (i := 5) rfl rfl | exact hw.src (i := 6) rfl rfl | exact hw.src (i := 7) rfl rfl | exact hw.src (i := 8) rfl rfl) (by unfold maxLen; dsimp only; omega) (fun gb cap'_1 => ⟨_, rfl, ?_⟩)
 | refine S_nil ?_
 | refine S_run rfl rfl obQ obQ ?_
 | refine S_box (fun b9 => ⟨_, _, rfl, obQ, ?_⟩)
 | refine S_slice (fun b => ⟨_, _, rfl, obQ, ?_⟩)
     )
 | (refine G_id ?_; first
 | refine G_loop (k + 1, some ⟨gb, 0, none⟩, cap'_1) (by show k + 1 ≤ _; omega) (by show es.length - (k + 1) < es.length - k; omega) ⟨⟨_, rfl, obQ⟩, ⟨_, rfl⟩, (by dsimp only; rw [hmt]; rfl), pstQ⟩
 | refine G_then ?_
 | refine G_block ?_
     )
     )
  · obtain rfl : k = es.length := by omega
    repeat' (first
 | (refine C_id ?_; first
 | refine C_seq ?_
 | refine C_region rfl ?_
 | refine C_exit ?_
 | refine C_ret0 ?_
 | (refine C_cond rfl obQ (fun h => ?_) (fun h => ?_) <;> (try simp only [Bool.or_eq_true, Bool.and_eq_true, Bool.or_eq_false_iff, Bool.and_eq_false_iff, decide_eq_true_eq, decide_eq_false_iff_not, beq_iff_eq, bne_iff_ne, beq_eq_false_iff_ne, bne_eq_false_iff_eq, ne_eq, Decidable.not_not, List.cons.injEq, and_true, Bool.not_eq_true', Bool.not_eq_false', Int.not_lt, Int.not_le] at h) <;> (try (exfalso; omega)))
     )
 | (refine S_id ?_; first
 | refine S_nil ?_
 | refine S_run rfl rfl obQ obQ ?_
     )
 | (refine G_id ?_; first
 | refine G_then ?_
 | refine G_blockX ?_
 | refine G_thenX ?_
 | refine G_ret rfl obQ (fun w2 hw => ⟨_, rfl, hw.below, OwR.mk1 (HW.rowSlC (i := 0) hw rfl rfl rfl (by simp)) rfl⟩)
     )
     )

end Go.Proofs.YtmfophoejjcnlaaGreatDoor
namespace Go.Proofs.YtmfophoejjcnlaaGreatDoor
open Go.E Go.RowKit
attribute [local irreducible] G C S D Calls
set_option maxRecDepth 100000
set_option linter.unusedSimpArgs false
set_option linter.unusedVariables false

theorem len4 (l : List Edg) : (l.flatMap edC).length = l.length * 4 := flat_len (f := edC) (s := 4) l (fun _ _ => rfl)

set_option maxHeartbeats 400000 in
/-- genlockref01.SameWords -/
theorem sameWordsT_c (A B : Option Addr) (c c3 : Nat) (l : List ByteArray) (hl : l.length ≤ 1000000) (w : World) (hr : Rd w A (l.map .string)) (hr3 : Rd w B (l.map .string)) : Calls Tryz.prog 118 #[.slice A l.length c, .slice B l.length c3] w fun r w' => r = .returned (.bool true) ∧ Below w.heap.size w w' := by
  refine calls_of (args := [.slice A l.length c, .slice B l.length c3]) T_ok Tryz.func118 rfl Tryz.ntmps118 (Nat.le_of_ble_eq_true rfl) rfl ?_
  repeat' (first
 | (refine C_id ?_; first
 | refine C_seq ?_
 | refine C_region rfl ?_
 | refine C_block ?_
 | refine C_skip ?_
 | (refine C_cond rfl obQ (fun h => ?_) (fun h => ?_) <;> (try simp only [Bool.or_eq_true, Bool.and_eq_true, Bool.or_eq_false_iff, Bool.and_eq_false_iff, decide_eq_true_eq, decide_eq_false_iff_not, beq_iff_eq, bne_iff_ne, beq_eq_false_iff_ne, bne_eq_false_iff_eq, ne_eq, Decidable.not_not, List.cons.injEq, and_true, Bool.not_eq_true', Bool.not_eq_false', Int.not_lt, Int.not_le] at h) <;> (try (exfalso; omega)) <;> (try (exfalso; simp at h; done)) <;> (try (exfalso; simp only [not_true_eq_false, false_or, or_false] at h; omega)) <;> (try (exfalso; simp at h; done)))
 )
 | (refine S_id ?_; first
 | refine S_nil ?_
 | refine S_run rfl rfl obQ obQ ?_
 )
 | (refine G_id ?_; first
 | refine G_then ?_
 )
 )
  refine C_loopS (fun k : Nat => ⟨[(5, .s (.v (.int .i64 k))), (0, .s (.v (.slice A l.length c))), (1, .s (.v (.slice B l.length c3)))], [], []⟩) (fun k => k ≤ l.length) (fun k => l.length - k) 0 (Nat.zero_le _) ?_ (fun k hk => ?_)
  · exact ⟨⟨_, rfl, obQ⟩, ⟨_, rfl⟩, rfl, pstQ⟩
  by_cases hlt : k < l.length
  · obtain ⟨ad, rfl⟩ := hr.some (by simp; omega)
    obtain ⟨ad3, rfl⟩ := hr3.some (by simp; omega)
    repeat' (first
 | (refine C_id ?_; first
 | refine C_seq ?_
 | refine C_region rfl ?_
 | refine C_block ?_
 | refine C_skip ?_
 | refine C_draw (id := 6) rfl mixed (by kernel_rfl) ?_
 | (refine C_cond rfl obQ (fun h => ?_) (fun h => ?_) <;> (try (exfalso; omega)) <;> (try (exfalso; simp at h; done)) <;> (try (exfalso; simp only [not_true_eq_false, false_or, or_false] at h; omega)) <;> (try (rw [toList_self] at h; cases h)) <;> (try (exfalso; simp only [decide_eq_false_iff_not, decide_eq_true_eq] at h; omega)) <;> (try (exfalso; simp at h; done)))
     )
 | (refine S_id ?_; first
 | refine S_nil ?_
 | refine S_run rfl rfl obQ obQ ?_
     )
 | (refine D_id ?_; first
 | refine D_load rfl obQ rfl [.string l[k]] (.past _ memQ _ _ hr.toS _ _ rfl rfl (idx1 hlt)) rfl (.inr ⟨rfl, rfl⟩) ?_
 | refine D_load rfl obQ rfl [.string l[k]] (.past _ memQ _ _ hr3.toS _ _ rfl rfl (idx1 hlt)) rfl (.inr ⟨rfl, rfl⟩) ?_
 | refine D_nil ?_
 | refine D_run rfl rfl obQ obQ ?_
     )
 | (refine G_id ?_; first
 | refine G_loop (k + 1) (by show k + 1 ≤ _; omega) (by show l.length - (k + 1) < l.length - k; omega) ⟨⟨_, rfl, obQ⟩, ⟨_, rfl⟩, rfl, pstQ⟩
 | refine G_then ?_
 | refine G_block ?_
     )
     )
  · repeat' (first
 | (refine C_id ?_; first
 | refine C_seq ?_
 | refine C_region rfl ?_
 | refine C_block ?_
 | refine C_skip ?_
 | refine C_exit ?_
 | refine C_ret0 ?_
 | (refine C_cond rfl obQ (fun h => ?_) (fun h => ?_) <;> (try simp only [Bool.or_eq_true, Bool.and_eq_true, Bool.or_eq_false_iff, Bool.and_eq_false_iff, decide_eq_true_eq, decide_eq_false_iff_not, beq_iff_eq, bne_iff_ne, beq_eq_false_iff_ne, bne_eq_false_iff_eq, ne_eq, Decidable.not_not, List.cons.injEq, and_true, Bool.not_eq_true', Bool.not_eq_false', Int.not_lt, Int.not_le] at h) <;> (try (exfalso; omega)))
     )
 | (refine S_id ?_; first
 | refine S_nil ?_
 | refine S_run rfl rfl obQ obQ ?_
     )
 | (refine G_id ?_; first
 | refine G_then ?_
 | refine G_blockX ?_
 | refine G_thenR ?_
 | refine G_thenX ?_
 | refine G_ret rfl obQ (fun w hw => ⟨?_, hw.below⟩)
     )
     )
    all_goals rfl

set_option maxHeartbeats 400000 in
/-- genlockref04.Same -/
theorem rSameT_c (A A2 B B2 : Option Addr) (c c2 c3 c4 : Nat) (names : List ByteArray) (es : List Edg) (hn : names.length ≤ 1000000) (hm : es.length ≤ 1000000) (w : World) (hr : Rd w A (names.map .string)) (hr2 : Rd w A2 (es.flatMap edC)) (hr3 : Rd w B (names.map .string)) (hr4 : Rd w B2 (es.flatMap edC)) : Calls Tryz.prog 66 #[.agg #[.slice A names.length c, .slice A2 es.length c2], .agg #[.slice B names.length c3, .slice B2 es.length c4]] w fun r w' => r = .returned (.bool true) ∧ Below w.heap.size w w' := by
  refine calls_of (args := [.agg #[.slice A names.length c, .slice A2 es.length c2], .agg #[.slice B names.length c3, .slice B2 es.length c4]]) T_ok Tryz.func66 rfl Tryz.ntmps66 (Nat.le_of_ble_eq_true rfl) rfl ?_
  repeat' (first
 | (refine C_id ?_; first
 | refine C_seq ?_
 | refine C_region rfl ?_
 | refine C_block ?_
 | refine C_skip ?_
 | (refine C_cond rfl obQ (fun h => ?_) (fun h => ?_) <;> (try simp only [Bool.or_eq_true, Bool.and_eq_true, Bool.or_eq_false_iff, Bool.and_eq_false_iff, decide_eq_true_eq, decide_eq_false_iff_not, beq_iff_eq, bne_iff_ne, beq_eq_false_iff_ne, bne_eq_false_iff_eq, ne_eq, Decidable.not_not, List.cons.injEq, and_true, Bool.not_eq_true', Bool.not_eq_false', Int.not_lt, Int.not_le] at h) <;> (try (exfalso; omega)) <;> (try (exfalso; simp at h; done)) <;> (try (exfalso; simp only [not_true_eq_false, false_or, or_false] at h; omega)) <;> (try (exfalso; simp at h; done)))
 )
 | (refine S_id ?_; first
 | refine S_nil ?_
 | refine S_run rfl rfl obQ obQ ?_
 | refine S_box (fun b => ⟨_, _, rfl, obQ, ?_⟩)
 )
 | (refine G_id ?_; first
 | refine G_then ?_
 )
 )
  rename_i b0
  refine C_loopS (fun k : Nat => ⟨[(5, .s (.v (.int .i64 k))), (2, .s (.p b0 0 0)), (3, .s (.p b 1 0))], [⟨b0, 84, [.v (.slice A names.length c), .v (.slice A2 es.length c2)]⟩, ⟨b, 84, [.v (.slice B names.length c3), .v (.slice B2 es.length c4)]⟩], []⟩) (fun k => k ≤ es.length) (fun k => es.length - k) 0 (Nat.zero_le _) ?_ (fun k hk => ?_)
  · exact ⟨⟨_, rfl, obQ⟩, ⟨_, rfl⟩, rfl, pstQ⟩
  by_cases hlt : k < es.length
  · obtain ⟨ad, rfl⟩ := hr2.some (by rw [len4]; omega)
    obtain ⟨ad3, rfl⟩ := hr4.some (by rw [len4]; omega)
    repeat' (first
 | (refine C_id ?_; first
 | refine C_seq ?_
 | refine C_region rfl ?_
 | refine C_block ?_
 | refine C_skip ?_
 | refine C_draw (id := 6) rfl mixed (by kernel_rfl) ?_
 | (refine C_cond rfl obQ (fun h => ?_) (fun h => ?_) <;> (try (exfalso; omega)) <;> (try (exfalso; simp at h; done)) <;> (try (exfalso; simp only [not_true_eq_false, false_or, or_false] at h; omega)) <;> (try (exfalso; simp only [decide_eq_false_iff_not, decide_eq_true_eq] at h; omega)) <;> (try (exfalso; simp at h; done)))
     )
 | (refine S_id ?_; first
 | refine S_nil ?_
 | refine S_run rfl rfl obQ obQ ?_
     )
 | (refine D_id ?_; first
 | refine D_load rfl obQ rfl [.int .i64 es[k].F, .int .i64 es[k].T, .int .i64 es[k].L, .int .i64 es[k].H] (.past (w, fun b => b < w.heap.size) memQ _ _ hr2.toS _ _ rfl rfl (idxS (f := edC) (fun _ => rfl) hlt)) rfl (.inl ⟨rfl, rfl⟩) ?_
 | refine D_load rfl obQ rfl [.int .i64 es[k].F, .int .i64 es[k].T, .int .i64 es[k].L, .int .i64 es[k].H] (.past (w, fun b => b < w.heap.size) memQ _ _ hr4.toS _ _ rfl rfl (idxS (f := edC) (fun _ => rfl) hlt)) rfl (.inl ⟨rfl, rfl⟩) ?_
 | refine D_pure (binX_pure rfl obQ (fun w => ne_flat (k := .i64) (n := 4) (xs := [es[k].F, es[k].T, es[k].L, es[k].H]) (ys := [es[k].F, es[k].T, es[k].L, es[k].H]) (by kernel_rfl) rfl rfl _ _ w)) ?_
 | refine D_nil ?_
 | refine D_run rfl rfl obQ obQ ?_
     )
 | (refine G_id ?_; first
 | refine G_loop (k + 1) (by show k + 1 ≤ _; omega) (by show es.length - (k + 1) < es.length - k; omega) ⟨⟨_, rfl, obQ⟩, ⟨_, rfl⟩, rfl, pstQ⟩
 | refine G_then ?_
 | refine G_block ?_
     )
     )
  · repeat' (first
 | (refine C_id ?_; first
 | refine C_seq ?_
 | refine C_region rfl ?_
 | refine C_exit ?_
 | refine C_ret0 ?_
 | (refine C_cond rfl obQ (fun h => ?_) (fun h => ?_) <;> (try simp only [Bool.or_eq_true, Bool.and_eq_true, Bool.or_eq_false_iff, Bool.and_eq_false_iff, decide_eq_true_eq, decide_eq_false_iff_not, beq_iff_eq, bne_iff_ne, beq_eq_false_iff_ne, bne_eq_false_iff_eq, ne_eq, Decidable.not_not, List.cons.injEq, and_true, Bool.not_eq_true', Bool.not_eq_false', Int.not_lt, Int.not_le] at h) <;> (try (exfalso; omega)))
     )
 | (refine S_id ?_; first
 | refine S_nil ?_
 | refine S_run rfl rfl obQ obQ ?_
 | refine S_call (f := 118) rfl obQ (by kernel_rfl) (fun w hw => sameWordsT_c A B c c3 names hn w (hw.rdm (Rd.toS hr) memQ) (hw.rdm (Rd.toS hr3) memQ)) ?_
     )
 | (refine G_id ?_; first
 | refine G_then ?_
 | refine G_blockX ?_
 | refine G_thenX ?_
 | refine G_ret rfl obQ (fun w hw => ⟨?_, hw.below⟩)
     )
     )
    all_goals rfl

set_option maxHeartbeats 400000 in
/-- genlocklaw04.net -/
theorem lNet1_c (A A2 B B2 : Option Addr) (c c2 c3 c4 n m : Nat) (e : Int) (he : e ≠ 0) (w : World) : Calls Tryz.prog 75 #[.agg #[.slice A 0 c, .slice A2 0 c2], .int .i64 e, .int .i64 e, .agg #[.slice B n c3, .slice B2 m c4]] w fun r w' => r = .returned (.bool true) ∧ Below w.heap.size w w' := by
  refine calls_of (args := [.agg #[.slice A 0 c, .slice A2 0 c2], .int .i64 e, .int .i64 e, .agg #[.slice B n c3, .slice B2 m c4]]) T_ok Tryz.func75 rfl Tryz.ntmps75 (Nat.le_of_ble_eq_true rfl) rfl ?_
  repeat' (first
 | (refine C_id ?_; first
 | refine C_condT rfl obQ ?_
 | refine C_seq ?_
 | refine C_region rfl ?_
 | refine C_ret0 ?_
 )
 | (refine S_id ?_; first
 | ((with_reducible (first | refine S_trueE ?_ ?_ | refine S_trueB ?_ ?_ | refine S_trueL ?_ ?_ | refine S_trueD ?_ ?_ | refine S_trueN ?_ ?_)); · (first | exact decide_eq_true (by omega) | (rw [beq_iff_eq]; first | done | omega) | (rw [bne_iff_ne]; omega)))
 | ((with_reducible refine S_trueA ?_ ?_ ?_); (· rfl); (· first | rfl | (first | exact decide_eq_true (by omega) | (rw [beq_iff_eq]; first | done | omega) | (rw [bne_iff_ne]; omega))))
 | refine S_unG rfl rfl rfl rfl ?_
 | refine S_nil ?_
 | refine S_runN rfl rfl obQ obQ ?_
 | refine S_box (fun b => ⟨_, _, rfl, obQ, ?_⟩)
 )
 | (refine G_id ?_; first
 | refine G_then ?_
 | refine G_thenR ?_
 | refine G_ret rfl obQ (fun w2 hw => ⟨?_, hw.below⟩)
 )
 )
  all_goals rfl

set_option maxHeartbeats 400000 in
/-- genlocklaw04.net -/
theorem lNet2_c (A A2 B B2 : Option Addr) (c c2 c3 c4 : Nat) (names : List ByteArray) (es : List Edg) (hn : names.length ≤ 1000000) (hm : es.length ≤ 1000000) (w : World) (hr : Rd w A (names.map .string)) (hr2 : Rd w A2 (es.flatMap edC)) (hr3 : Rd w B (names.map .string)) (hr4 : Rd w B2 (es.flatMap edC)) : Calls Tryz.prog 75 #[.agg #[.slice A names.length c, .slice A2 es.length c2], .int .i64 0, .int .i64 0, .agg #[.slice B names.length c3, .slice B2 es.length c4]] w fun r w' => r = .returned (.bool true) ∧ Below w.heap.size w w' := by
  refine calls_of (args := [.agg #[.slice A names.length c, .slice A2 es.length c2], .int .i64 0, .int .i64 0, .agg #[.slice B names.length c3, .slice B2 es.length c4]]) T_ok Tryz.func75 rfl Tryz.ntmps75 (Nat.le_of_ble_eq_true rfl) rfl ?_
  repeat' (first
 | (refine C_id ?_; first
 | refine C_condF rfl obQ ?_
 | refine C_seq ?_
 | refine C_region rfl ?_
 | refine C_skip ?_
 | refine C_ret0 ?_
 | refine C_drawV (id := 3) 6 [(0, true), (1, true), (2, true), (3, true), (5, true), (4, false)] rfl mixed (by kernel_rfl) rfl ?_
 )
 | (refine S_id ?_; first
 | ((with_reducible (first | refine S_falseN ?_ ?_ | refine S_falseB ?_ ?_ | refine S_falseL ?_ ?_ | refine S_falseD ?_ ?_ | refine S_falseE ?_ ?_)); · (first | exact decide_eq_false (by omega) | (rw [beq_eq_false_iff_ne]; omega) | (rw [bne_eq_false_iff_eq]; first | done | omega) | rfl))
 | ((with_reducible refine S_trueA ?_ ?_ ?_); (· rfl); (· first | rfl | (first | exact decide_eq_true (by omega) | (rw [beq_iff_eq]; first | done | omega) | (rw [bne_iff_ne]; omega))))
 | refine S_unG rfl rfl rfl rfl ?_
 | refine S_gK 29 rfl rfl ?_
 | refine S_gK 31 rfl rfl ?_
 | (refine S_callM (f := 64) rfl obQ (by kernel_rfl) (fun w hw => lOwn_c A A2 c c2 names es hn hm w (hw.rdm (Rd.toS hr2) memQ)) (fun w1O w2O vO hw1O hbO hRO => ?_); obtain ⟨AO2, cO2, rfl, hSO, hcO, hcO2⟩ := hRO)
 | refine S_nil ?_
 | refine S_runN rfl rfl obQ obQ ?_
 | refine S_box (fun b => ⟨_, _, rfl, obQ, ?_⟩)
 | refine S_call (f := 66) rfl obQ (by kernel_rfl) (fun w hw => rSameT_c _ _ _ _ _ _ _ _ names es hn hm w (hw.rdm (Rd.toS hr) memQ) (hw.rdm hSO memQ) (hw.rdm (Rd.toS hr3) memQ) (hw.rdm (Rd.toS hr4) memQ)) ?_
 )
 | (refine V_id ?_; first
 | refine V_nil ?_
 | refine V_q rfl (Yl_step rfl obQ) ?_
 | refine V_n rfl ?_
 )
 | (refine G_id ?_; first
 | refine G_V ⟨⟨_, rfl, trivial⟩, ⟨_, rfl⟩, rfl, pstQ⟩ rfl ?_
 | refine G_then ?_
 | refine G_ret rfl obQ (fun w2 hw => ⟨?_, hw.below⟩)
 )
 )
  all_goals rfl

section
variable {A A2 : Option Addr} {c c2 : Nat} {names : List ByteArray} {es : List Edg} {w : World}
theorem shortB_len3 (h : shortB names es = true) : names.length ≤ 13 ∧ es.length ≤ 25 := by
  unfold shortB at h
  simp only [Bool.and_eq_true, Bool.or_eq_true, decide_eq_true_eq, beq_iff_eq] at h
  omega
theorem tshort_as {b : Bool} (hsh : shortB names es = b) (hn : names.length ≤ 9223372036854775807) (hm : es.length ≤ 9223372036854775807) (hr : Rd w A (names.map .string)) : Calls Tryz.prog 48 #[.agg #[.slice A names.length c, .slice A2 es.length c2]] w fun r w' => r = .returned (.bool b) ∧ Below w.heap.size w w' := by
  subst hsh
  exact rShort_c A A2 c c2 names es hn hm w hr
theorem tckn_as {e : Int} (h : netF names es = e) (hn : names.length ≤ 1000000) (hm : es.length ≤ 1000000) (hs : ∀ s ∈ names, s.size ≤ maxLen) (hc : names.length ≤ c) (hr : Rd w A (names.map .string)) (hr2 : Rd w A2 (es.flatMap edC)) : Calls Tryz.prog 55 #[.agg #[.slice A names.length c, .slice A2 es.length c2]] w fun r w' => r = .returned (.int .i64 e) ∧ Below w.heap.size w w' := by
  subst h
  exact rCheckNet_c A A2 c c2 names es hn hm hs hc w hr hr2
theorem print_as {n m : Nat} {s : ByteArray} {e : Int} (h : printR names es = (s, e)) (hnl : names.length = n) (hml : es.length = m) (hn : n ≤ 1000000) (hm : m ≤ 1000000) (hs : ∀ s ∈ names, s.size ≤ maxLen) (hr : Rd w A (names.map .string)) (hr2 : Rd w A2 (es.flatMap edC)) (hP : Pw w) : Calls Tryz.prog 76 #[.agg #[.slice A n c, .slice A2 m c2]] w fun r w' => r = .returned (.tuple #[.string s, .int .i64 e]) ∧ Below w.heap.size w w' := by
  subst hnl hml
  have := print_c A A2 c c2 names es hn hm hs w hr hr2 hP
  rw [h] at this
  exact this
theorem rprint_as {s : ByteArray} (h : prN names es = s) (h0 : netF names es = 0) (hr : Rd w A (names.map .string)) (hr2 : Rd w A2 (es.flatMap edC)) : Calls Tryz.prog 78 #[.agg #[.slice A names.length c, .slice A2 es.length c2]] w fun r w' => r = .returned (.string s) ∧ Below w.heap.size w w' := by
  subst h
  exact rPrint_c A A2 c c2 names es h0 w hr hr2
theorem printR_ok (h : netF names es = 0) : printR names es = (prN names es, 0) := by
  unfold printR
  rw [if_neg (by simpa using h), prN_join (nm_of h).2.2.1]
theorem printR_no {e : Int} (h : netF names es = e) (he : e ≠ 0) : printR names es = (ByteArray.empty, e) := by
  subst h
  exact if_pos he
theorem npR_len (s : ByteArray) : (npR s).1.1.length ≤ s.size + 1 ∧ (npR s).1.2.length ≤ s.size + 1 := by
  unfold npR
  split
  · exact ⟨Nat.zero_le _, Nat.zero_le _⟩
  · have h1 := splR_len s 10
    have h2 := npS_len (ls := splR s 10) ((splR s 10).length - 1)
    unfold npX
    split
    · exact ⟨Nat.zero_le _, Nat.zero_le _⟩
    · split
      · exact ⟨Nat.zero_le _, Nat.zero_le _⟩
      · split
        · exact ⟨Nat.zero_le _, Nat.zero_le _⟩
        · dsimp only
          omega
theorem npR_bad {s : ByteArray} {xs : List ByteArray} {ys : List Edg} {k : Nat} {e : Int} (h : npR s = ((xs, ys), k, e)) (he : e ≠ 0) : xs = [] ∧ ys = [] := by
  unfold npR at h
  split at h
  · cases h
    exact ⟨rfl, rfl⟩
  · unfold npX at h
    split at h
    · cases h
      exact ⟨rfl, rfl⟩
    · split at h
      · cases h
        exact ⟨rfl, rfl⟩
      · split at h
        · cases h
          exact ⟨rfl, rfl⟩
        · exact absurd (Prod.mk.inj (Prod.mk.inj h).2).2.symm he
end
/-- What a text is read as: a net, a line's index, an error. -/
def NtQ (w w' : World) (v : Value) (n m : Nat) (xs ys : List Value) (a e : Value) : Prop := ∃ A c A2 c2, v = .tuple #[.agg #[.slice A n c, .slice A2 m c2], a, e] ∧ RdS (fun b => w.heap.size ≤ b ∧ b < w'.heap.size) w' A xs ∧ RdS (fun b => w.heap.size ≤ b ∧ b < w'.heap.size) w' A2 ys
theorem parse_as {s : ByteArray} {xs : List ByteArray} {ys : List Edg} {k n m : Nat} {e : Int} {w : World} (h : npR s = ((xs, ys), k, e)) (hn : xs.length = n) (hm : ys.length = m) (hs : s.size ≤ 1000000) (hM : Mx w) : Calls Tryz.prog 77 #[.string s] w fun r w' => ∃ v, r = .returned v ∧ Below w.heap.size w w' ∧ NtQ w w' v n m (xs.map .string) (ys.flatMap edC) (.int .i64 (k : Int)) (.int .i64 e) := by
  subst hn hm
  refine (parse_c s hs w hM).mono fun r w' hr => ?_
  rw [h] at hr
  obtain ⟨v, h1, h2, A, c, A2, c2, rfl, h4, h5⟩ := hr
  exact ⟨_, h1, h2, A, c, A2, c2, rfl, h4, h5⟩
theorem rparse_as {s : ByteArray} {xs : List ByteArray} {ys : List Edg} {k n m : Nat} {e : Int} {w : World} (h : npR s = ((xs, ys), k, e)) (hn : xs.length = n) (hm : ys.length = m) (hs : s.size ≤ 1000000) : Calls Tryz.prog 79 #[.string s] w fun r w' => ∃ v, r = .returned v ∧ Below w.heap.size w w' ∧ NtQ w w' v n m (xs.map .string) (ys.flatMap edC) (.int .i64 (k : Int)) (.int .i64 e) := by
  subst hn hm
  refine (rParse_c s hs w).mono fun r w' hr => ?_
  rw [h] at hr
  obtain ⟨v, h1, h2, A, c, A2, c2, rfl, h4, h5⟩ := hr
  exact ⟨_, h1, h2, A, c, A2, c2, rfl, h4, h5⟩
theorem net1_as {A A2 B B2 : Option Addr} {c c2 c3 c4 n m k l : Nat} {e : Int} (he : e ≠ 0) (hk : k = 0) (hl : l = 0) (w : World) : Calls Tryz.prog 75 #[.agg #[.slice A k c, .slice A2 l c2], .int .i64 e, .int .i64 e, .agg #[.slice B n c3, .slice B2 m c4]] w fun r w' => r = .returned (.bool true) ∧ Below w.heap.size w w' := by
  subst hk hl
  exact lNet1_c A A2 B B2 c c2 c3 c4 n m e he w

end Go.Proofs.YtmfophoejjcnlaaGreatDoor
