/- Texts: the reference reads a net. -/
import Derived.Test.YtmfophoejjcnlaaGreatDoorTiming120
import Derived.Test.YtmfophoejjcnlaaGreatDoorTiming55
namespace Go.Proofs.YtmfophoejjcnlaaGreatDoor
open Go.E Go.RowKit
attribute [local irreducible] G C S D Calls
set_option maxRecDepth 100000
set_option linter.unusedSimpArgs false
set_option linter.unusedVariables false

theorem lnW_two {names ws : List ByteArray} (h : ws.length = 2) : lnW names ws = if sG ws 0 = sNodeW ∧ sG ws 1 ≠ ByteArray.empty then .node (sG ws 1) else .bad 25 := by
  match ws, h with
  | [a, b], _ => rfl
theorem lnW_five {names ws : List ByteArray} (h : ws.length = 5) : lnW names ws = if sG ws 0 = sEdge ∧ sG ws 1 ≠ ByteArray.empty ∧ sG ws 2 ≠ ByteArray.empty ∧ (digR (sG ws 3)).2 = true ∧ (digR (sG ws 4)).2 = true then (if ixS names (sG ws 1) 0 < 0 ∨ ixS names (sG ws 2) 0 < 0 then .bad 10 else .edge ⟨ixS names (sG ws 1) 0, ixS names (sG ws 2) 0, (digR (sG ws 3)).1, (digR (sG ws 4)).1⟩) else .bad 25 := by
  match ws, h with
  | [a, b, c, d, e], _ => rfl
theorem lnW_else {names : List ByteArray} : ∀ {ws : List ByteArray}, ws.length ≠ 2 → ws.length ≠ 5 → lnW names ws = .bad 25
  | [], _, _ => rfl
  | [_], _, _ => rfl
  | [_, _], h, _ => absurd rfl h
  | [_, _, _], _, _ => rfl
  | [_, _, _, _], _, _ => rfl
  | [_, _, _, _, _], _, h => absurd rfl h
  | _ :: _ :: _ :: _ :: _ :: _ :: _, _, _ => rfl
theorem npOk_s {ls : List ByteArray} {k : Nat} (h : npOk ls k) (h2 : npE ls k = 0) : npOk ls (k + 1) := by
  intro j hj
  by_cases e : j = k
  · rw [e]; exact h2
  · exact h j (by omega)
theorem npE_bad {ls : List ByteArray} {k : Nat} {e : Int} (h : lnK (npS ls k).1 (sG ls k) = .bad e) : npE ls k = e := by
  unfold npE
  rw [h]
theorem npS_len {ls : List ByteArray} : ∀ k, (npS ls k).1.length ≤ k ∧ (npS ls k).2.length ≤ k
  | 0 => ⟨Nat.le_refl _, Nat.le_refl _⟩
  | k + 1 => by
    have := npS_len (ls := ls) k
    rw [npS]
    split
    · simp; omega
    · simp; omega
    · omega
def cmpO (o : Oper) : Bool := match o.op with
  | .binOp .eql _ _ _ _ => true
  | .binOp .neq _ _ _ _ => true
  | .binOp .lss _ _ _ _ => true
  | .binOp .gtr _ _ _ _ => true
  | _ => false
section
variable {X : Cx} {Ps : Past} {l0 rest : List Oper} {Q : Exit → Act → World → Prop} {σ : St} {o : Oper}
/-- A comparison, by itself. -/
theorem S_oneE {σ1 : St} {ob1 : List Prop} (hc : cmpO o = true) (h1 : Go.E.step X.T X.N l0 o σ = some (σ1, ob1)) (hob1 : AllP ob1) (k : S X Ps l0 Q rest σ1) : S X Ps l0 Q (o :: rest) σ := S_one h1 hob1 k
end
theorem ownsRow_le {w : World} {B e size n c : Nat} {A : Option Addr} {xs : List Value} (h : w.ownsRow B e size (.slice A n c) n xs) : n ≤ c := by
  rcases h.2 with ⟨h1, h2⟩ | ⟨g, cap, cur, h1, _, _, h2, _⟩
  · omega
  · injection h1 with e1 e2 e3
    omega
theorem rDig_as {s : ByteArray} {z : Int} {b : Bool} (h : digR s = (z, b)) (hs : s.size ≤ 1000000) (w : World) : Calls Tryz.prog 134 #[.string s] w fun r w' => r = .returned (.tuple #[.int .i64 z, .bool b]) ∧ Below w.heap.size w w' := by
  have := rDigits_c s (by unfold maxLen; omega) w
  rw [h] at this
  exact this
theorem rIx_as {A : Option Addr} {c n : Nat} {l : List ByteArray} (hn : l.length = n) (hl : l.length ≤ 1000000) {x : ByteArray} {z : Int} (h : ixS l x 0 = z) (w : World) (hr : Rd w A (l.map .string)) : Calls Tryz.prog 135 #[.slice A n c, .string x] w fun r w' => r = .returned (.int .i64 z) ∧ Below w.heap.size w w' := by
  subst h hn
  exact rIndex_c A c l hl x w hr
theorem rFirE_c {A : Option Addr} {n c : Nat} {l : List Int} {e : Int} (he : firstL l = e) (h6 : l.length ≤ 1000000) (hl : l.length = n) (w : World) (hr : Rd w A (l.map (.int .i64))) : Calls Tryz.prog 84 #[.slice A n c] w fun r w' => r = .returned (.int .i64 e) ∧ Below w.heap.size w w' := by
  subst hl he
  exact rFirst_c A c l h6 w hr
/-- A net that is handed back. -/
def NtP (w w' : World) (v : Value) (n m : Nat) (xs ys : List Value) : Prop := ∃ A c A2 c2, v = .agg #[.slice A n c, .slice A2 m c2] ∧ RdS (fun b => w.heap.size ≤ b ∧ b < w'.heap.size) w' A xs ∧ RdS (fun b => w.heap.size ≤ b ∧ b < w'.heap.size) w' A2 ys
theorem NtP.nil_ (w w' : World) : NtP w w' (.agg #[.slice none 0 0, .slice none 0 0]) 0 0 [] [] := ⟨none, 0, none, 0, rfl, .inl rfl, .inl rfl⟩

set_option maxHeartbeats 8000000 in
/-- genlockref04.Parse -/
theorem rParse_c (s : ByteArray) (hs : s.size ≤ 1000000) (w : World) : Calls Tryz.prog 79 #[.string s] w fun r w' => ∃ v, r = .returned (.tuple #[v, .int .i64 ((npR s).2.1 : Int), .int .i64 (npR s).2.2]) ∧ Below w.heap.size w w' ∧ NtP w w' v (npR s).1.1.length (npR s).1.2.length ((npR s).1.1.map .string) ((npR s).1.2.flatMap edC) := by
  refine calls_of (args := [.string s]) T_ok Tryz.func79 rfl Tryz.ntmps79 (Nat.le_of_ble_eq_true rfl) rfl ?_
  by_cases h0 : 4096 < s.size
  · have hR : npR s = (([], []), 0, 26) := if_pos h0
    rw [hR]
    repeat' (first
 | (refine C_id ?_; first
 | refine C_seq ?_
 | refine C_region rfl ?_
 | refine C_ret0 ?_
 | refine C_condT rfl obQ ?_
     )
 | (refine S_id ?_; first
 | ((with_reducible (first | refine S_trueE ?_ ?_ | refine S_trueB ?_ ?_ | refine S_trueL ?_ ?_ | refine S_trueD ?_ ?_ | refine S_trueN ?_ ?_)); · (first | rfl | assumption | omega | exact decide_eq_true (by omega) | (rw [beq_iff_eq]; omega) | (rw [bne_iff_ne]; first | assumption | omega)))
 | refine S_nil ?_
 | refine S_runN rfl rfl obQ obQ ?_
 | refine S_box (fun b => ⟨_, _, rfl, obQ, ?_⟩)
     )
 | (refine G_id ?_; first
 | refine G_then ?_
 | refine G_thenR ?_
 | refine G_ret rfl obQ (fun w2 hw => ⟨_, rfl, hw.below, NtP.nil_ _ _⟩)
     )
     )
  obtain ⟨hd, tl, hE0⟩ := splR_cons s 10
  obtain ⟨m, hm0⟩ : ∃ m, (hd :: tl).length = m + 1 := ⟨tl.length, by simp⟩
  have hsz := splR_size s 10
  have hln0 := splR_len s 10
  have hR : npR s = npX (hd :: tl) m := by unfold npR; rw [if_neg h0, hE0, hm0]; rfl
  rw [hE0] at hsz hln0
  rw [hR]
  clear hR
  obtain ⟨ls, hE, hm, hls⟩ : ∃ ls, splR s 10 = ls ∧ ls.length = m + 1 ∧ hd :: tl = ls := ⟨_, hE0, hm0, rfl⟩
  rw [hls] at hsz hln0 ⊢
  rw [hm] at hln0
  clear hE0 hm0 hls
  repeat' (first
 | (refine C_id ?_; first
 | refine C_seq ?_
 | refine C_regionNe 5 rfl rfl ?_
 | refine C_skip ?_
 | refine C_condF rfl obQ ?_
   )
 | (refine S_id ?_; first
 | ((with_reducible (first | refine S_falseN ?_ ?_ | refine S_falseB ?_ ?_ | refine S_falseL ?_ ?_ | refine S_falseD ?_ ?_ | refine S_falseE ?_ ?_)); · (first | rfl | omega | exact decide_eq_false (by omega) | (rw [beq_eq_false_iff_ne]; omega) | (rw [bne_eq_false_iff_eq]; first | assumption | omega)))
 | (refine S_callM (f := 80) rfl obQ (by kernel_rfl) (fun w hw => rSplit_as2 hE hm (by omega) (by decide) w) (fun w1T w2T vT hw1T hbT hRT => ?_); obtain ⟨AT, cT, rfl, hST⟩ := hRT; obtain ⟨aT, rfl⟩ := rdS_some hST (by simp; omega))
 | refine S_nil ?_
 | refine S_runN rfl rfl obQ obQ ?_
 | refine S_box (fun b => ⟨_, _, rfl, obQ, ?_⟩)
   )
 | (refine G_id ?_; first
 | refine G_then ?_
   )
   )
  rename_i b1
  refine C_rowB 9 1 [⟨b1, 84, [.v (.slice none 0 0), .v (.slice none 0 0)]⟩, ⟨b, 84, [.r none 0 0 0, .v (.slice none 0 0)]⟩] rfl ?_
  refine C_rowB 108 4 [⟨b1, 84, [.v (.slice none 0 0), .v (.slice none 0 0)]⟩, ⟨b, 84, [.r none 0 0 0, .r none 0 0 1]⟩] rfl ?_
  repeat' (first
 | (refine C_id ?_; first
 | refine C_region rfl ?_
 | refine C_block ?_
   )
 | (refine S_id ?_; first
 | refine S_nil ?_
 | refine S_runN rfl rfl obQ obQ ?_
   )
 | (refine G_id ?_; first
 | refine G_then ?_
   )
   )
  refine C_loopS (fun i : Nat × List ByteArray × List Edg × (Nat × Option Addr × Nat) × (Nat × Option Addr × Nat) => ⟨[(2, .s (.p b1 0 0)), (5, .s (.p b 1 0)), (6, .s (.v (.slice (some aT) (m + 1) cT))), (7, .s (.v (.int .i64 i.1)))], [⟨b1, 84, [.v (.slice none 0 0), .v (.slice none 0 0)]⟩, ⟨b, 84, [.r i.2.2.2.1.2.1 i.2.2.2.1.1 i.2.2.2.1.2.2 0, .r i.2.2.2.2.2.1 i.2.2.2.2.1 i.2.2.2.2.2.2 1]⟩], [⟨9, 1, i.2.2.2.1.1, i.2.1.map .string, .slice i.2.2.2.1.2.1 i.2.2.2.1.1 i.2.2.2.1.2.2⟩, ⟨108, 4, i.2.2.2.2.1, i.2.2.1.flatMap edC, .slice i.2.2.2.2.2.1 i.2.2.2.2.1 i.2.2.2.2.2.2⟩]⟩) (fun i => i.1 ≤ m + 1 ∧ npOk ls (min i.1 m) ∧ npS ls (min i.1 m) = (i.2.1, i.2.2.1) ∧ i.2.2.2.1.1 = i.2.1.length ∧ i.2.2.2.2.1 = i.2.2.1.length ∧ i.2.1.length ≤ i.1 ∧ i.2.2.1.length ≤ i.1 ∧ (∀ x ∈ i.2.1, x.size ≤ s.size) ∧ (m < i.1 → sG ls m = ByteArray.empty)) (fun i => m + 1 - i.1) (0, [], [], (0, none, 0), (0, none, 0)) ⟨Nat.zero_le _, (fun j hj => absurd hj (Nat.not_lt_zero _)), rfl, rfl, rfl, Nat.le_refl _, Nat.le_refl _, (fun x hx => by cases hx), (fun h => absurd h (Nat.not_lt_zero _))⟩ ?_ (fun i hi => ?_)
  · exact ⟨⟨_, rfl, obQ⟩, ⟨_, rfl⟩, rfl, pstQ⟩
  obtain ⟨k, ns, es, ⟨nn, A1, c1⟩, ⟨mm, A2, c2⟩⟩ := i
  obtain ⟨hk, hok, hnp, hnn, hmm, hnl, hel, hnz, hnw⟩ := hi
  dsimp only at hk hok hnp hnn hmm hnl hel hnz hnw ⊢
  subst hnn hmm
  rcases Nat.lt_or_ge k (m + 1) with hkm1 | hkm1
  · by_cases hkm : k = m
    · subst hkm
      rw [Nat.min_self] at hok hnp
      by_cases hw1 : sG ls k = ByteArray.empty
      · repeat' (first
 | (refine C_id ?_; first
 | refine C_seq ?_
 | refine C_region rfl ?_
 | refine C_block ?_
 | refine C_skip ?_
 | refine C_exit ?_
 | refine C_condT rfl obQ ?_
 | refine C_condF rfl obQ ?_
         )
 | (refine S_id ?_; first
 | ((with_reducible (first | refine S_trueE ?_ ?_ | refine S_trueB ?_ ?_ | refine S_trueL ?_ ?_ | refine S_trueD ?_ ?_ | refine S_trueN ?_ ?_)); · (first | rfl | assumption | omega | exact decide_eq_true (by omega) | (rw [beq_iff_eq]; omega) | (rw [bne_iff_ne]; first | assumption | omega)))
 | ((with_reducible refine S_strNe (b := false) ?_ ?_); · exact toL_eq hw1)
 | refine S_load rfl obQ rfl [.string (sG ls k)] (.past (w2T, fun b => w1T.heap.size ≤ b ∧ b < w2T.heap.size) memQ _ _ hST _ _ rfl rfl (sN_ld (k := k) (m := (((k : Nat) : Int)).toNat * 1) (by omega) (by omega))) rfl (.inr ⟨rfl, rfl⟩) ?_
 | refine S_nil ?_
 | refine S_runN rfl rfl obQ obQ ?_
         )
 | (refine G_id ?_; first
 | refine G_loop (k + 1, ns, es, (ns.length, A1, c1), (es.length, A2, c2)) ⟨by show k + 1 ≤ k + 1; omega, by show npOk ls (min (k + 1) k); rw [Nat.min_eq_right (by omega)]; exact hok, by show npS ls (min (k + 1) k) = _; rw [Nat.min_eq_right (by omega)]; exact hnp, rfl, rfl, by show ns.length ≤ k + 1; omega, by show es.length ≤ k + 1; omega, hnz, fun _ => hw1⟩ (by show k + 1 - (k + 1) < k + 1 - k; omega) ⟨⟨_, rfl, obQ⟩, ⟨_, rfl⟩, rfl, pstQ⟩
 | refine G_then ?_
 | refine G_blockX ?_
 | refine G_thenX ?_
         )
         )
      · have hw2 : sG ls k ≠ ByteArray.empty := hw1
        rw [npX_ok hok, if_pos hw2]
        repeat' (first
 | (refine C_id ?_; first
 | refine C_seq ?_
 | refine C_region rfl ?_
 | refine C_block ?_
 | refine C_skip ?_
 | refine C_ret0 ?_
 | refine C_condT rfl obQ ?_
         )
 | (refine S_id ?_; first
 | ((with_reducible (first | refine S_trueE ?_ ?_ | refine S_trueB ?_ ?_ | refine S_trueL ?_ ?_ | refine S_trueD ?_ ?_ | refine S_trueN ?_ ?_)); · (first | rfl | assumption | omega | exact decide_eq_true (by omega) | (rw [beq_iff_eq]; omega) | (rw [bne_iff_ne]; first | assumption | omega)))
 | ((with_reducible refine S_strNe (b := true) ?_ ?_); · exact toL_ne hw2)
 | refine S_load rfl obQ rfl [.string (sG ls k)] (.past (w2T, fun b => w1T.heap.size ≤ b ∧ b < w2T.heap.size) memQ _ _ hST _ _ rfl rfl (sN_ld (k := k) (m := (((k : Nat) : Int)).toNat * 1) (by omega) (by omega))) rfl (.inr ⟨rfl, rfl⟩) ?_
 | refine S_nil ?_
 | refine S_runN rfl rfl obQ obQ ?_
         )
 | (refine G_id ?_; first
 | refine G_then ?_
 | refine G_blockR ?_
 | refine G_thenR ?_
 | refine G_ret rfl obQ (fun w2 hw => ⟨_, rfl, hw.below, NtP.nil_ _ _⟩)
         )
         )
    · have hkm2 : k < m := by omega
      rw [Nat.min_eq_left (by omega)] at hok hnp
      have hxs := hsz _ (sN_mem (l := ls) (k := k) (by omega))
      obtain ⟨ws, hW⟩ : ∃ ws, splR (sG ls k) 32 = ws := ⟨_, rfl⟩
      obtain ⟨nw, hwl⟩ : ∃ n, ws.length = n := ⟨_, rfl⟩
      have hwn : nw ≤ 4097 := by have := splR_len (sG ls k) 32; rw [hW, hwl] at this; omega
      have hsw := splR_size (sG ls k) 32
      rw [hW] at hsw
      have hln : lnK (npS ls k).1 (sG ls k) = lnW ns ws := by unfold lnK; rw [hW, hnp]
      by_cases h2 : nw = 2
      · subst h2
        by_cases hq : sG ws 0 = sNodeW
        · by_cases hq' : sG ws 1 = ByteArray.empty
          · have hb := npE_bad (hln.trans (by rw [lnW_two hwl, if_neg (fun h => h.2 hq')]))
            rw [npX_bad hok hkm2 (by rw [hb]; decide), hb]
            repeat' (first
 | (refine C_id ?_; first
 | refine C_seq ?_
 | refine C_region rfl ?_
 | refine C_block ?_
 | refine C_skip ?_
 | refine C_ret0 ?_
 | refine C_condT rfl obQ ?_
 | refine C_condF rfl obQ ?_
             )
 | (refine S_id ?_; first
 | ((with_reducible (first | refine S_falseN ?_ ?_ | refine S_falseB ?_ ?_ | refine S_falseL ?_ ?_ | refine S_falseD ?_ ?_ | refine S_falseE ?_ ?_)); · (first | rfl | omega | exact decide_eq_false (by omega) | (rw [beq_eq_false_iff_ne]; omega) | (rw [bne_eq_false_iff_eq]; first | assumption | omega)))
 | ((with_reducible (first | refine S_trueE ?_ ?_ | refine S_trueB ?_ ?_ | refine S_trueL ?_ ?_ | refine S_trueD ?_ ?_ | refine S_trueN ?_ ?_)); · (first | rfl | assumption | omega | exact decide_eq_true (by omega) | (rw [beq_iff_eq]; omega) | (rw [bne_iff_ne]; first | assumption | omega)))
 | ((with_reducible refine S_trueA ?_ ?_ ?_); (· rfl); (· first | rfl | (first | rfl | assumption | omega | exact decide_eq_true (by omega) | (rw [beq_iff_eq]; omega) | (rw [bne_iff_ne]; first | assumption | omega))))
 | refine S_unG rfl rfl rfl rfl ?_
 | ((with_reducible refine S_strNe (b := false) ?_ ?_); · first | exact toL_eq hq | exact toL_eq hq')
 | ((with_reducible refine S_strE (b := true) ?_ ?_); · first | exact toE_eqT hq | exact toE_eqT hq')
 | refine S_oneE rfl rfl obQ ?_
 | refine S_offG (.v (.bool false)) rfl rfl rfl rfl rfl ?_
 | refine S_load rfl obQ rfl [.string (sG ls k)] (.past (w2T, fun b => w1T.heap.size ≤ b ∧ b < w2T.heap.size) memQ _ _ hST _ _ rfl rfl (sN_ld (k := k) (m := (((k : Nat) : Int)).toNat * 1) (by omega) (by omega))) rfl (.inr ⟨rfl, rfl⟩) ?_
 | (refine S_callM (f := 80) rfl obQ (by kernel_rfl) (fun w hw => rSplit_as2 hW hwl (by omega) (by decide) w) (fun w1W w2W vW hw1W hbW hRW => ?_); obtain ⟨AW, cW, rfl, hSW⟩ := hRW; obtain ⟨aW, rfl⟩ := rdS_some hSW (by simp; omega))
 | refine S_load rfl obQ rfl [.string (sG ws 0)] (.past (w2W, fun b => w1W.heap.size ≤ b ∧ b < w2W.heap.size) memQ _ _ hSW _ _ rfl rfl (sN_ld (k := 0) rfl (by omega))) rfl (.inr ⟨rfl, rfl⟩) ?_
 | refine S_load rfl obQ rfl [.string (sG ws 1)] (.past (w2W, fun b => w1W.heap.size ≤ b ∧ b < w2W.heap.size) memQ _ _ hSW _ _ rfl rfl (sN_ld (k := 1) rfl (by omega))) rfl (.inr ⟨rfl, rfl⟩) ?_
 | refine S_nil ?_
 | refine S_runN rfl rfl obQ obQ ?_
             )
 | (refine G_id ?_; first
 | refine G_then ?_
 | refine G_blockR ?_
 | refine G_thenR ?_
 | refine G_ret rfl obQ (fun w2 hw => ⟨_, rfl, hw.below, NtP.nil_ _ _⟩)
             )
             )
          · obtain ⟨e1, e2⟩ := npS_node (hln.trans (by rw [lnW_two hwl, if_pos ⟨hq, hq'⟩]))
            have hok2 : npOk ls (min (k + 1) m) := by rw [Nat.min_eq_left (by omega)]; exact npOk_s hok e2
            have hnp2 : npS ls (min (k + 1) m) = (ns ++ [sG ws 1], es) := by rw [Nat.min_eq_left (by omega), e1, hnp]
            have hnz2 : ∀ x ∈ ns ++ [sG ws 1], x.size ≤ s.size := fun x hx => by
              rcases List.mem_append.1 hx with hx | hx
              · exact hnz x hx
              · rw [List.mem_singleton.1 hx]
                exact Nat.le_trans (hsw _ (sN_mem (by omega))) hxs
            repeat' (first
 | (refine C_id ?_; first
 | refine C_seq ?_
 | refine C_region rfl ?_
 | refine C_block ?_
 | refine C_skip ?_
 | refine C_exit ?_
 | refine C_drawV (id := 13) 6 [(0, true), (1, true), (2, true), (3, true), (4, true), (5, false)] rfl mixed (by kernel_rfl) rfl ?_
 | refine C_condT rfl obQ ?_
 | refine C_condF rfl obQ ?_
             )
 | (refine S_id ?_; first
 | ((with_reducible (first | refine S_falseN ?_ ?_ | refine S_falseB ?_ ?_ | refine S_falseL ?_ ?_ | refine S_falseD ?_ ?_ | refine S_falseE ?_ ?_)); · (first | rfl | omega | exact decide_eq_false (by omega) | (rw [beq_eq_false_iff_ne]; omega) | (rw [bne_eq_false_iff_eq]; first | assumption | omega)))
 | ((with_reducible (first | refine S_trueE ?_ ?_ | refine S_trueB ?_ ?_ | refine S_trueL ?_ ?_ | refine S_trueD ?_ ?_ | refine S_trueN ?_ ?_)); · (first | rfl | assumption | omega | exact decide_eq_true (by omega) | (rw [beq_iff_eq]; omega) | (rw [bne_iff_ne]; first | assumption | omega)))
 | ((with_reducible refine S_trueA ?_ ?_ ?_); (· rfl); (· first | rfl | (first | rfl | assumption | omega | exact decide_eq_true (by omega) | (rw [beq_iff_eq]; omega) | (rw [bne_iff_ne]; first | assumption | omega))))
 | refine S_unG rfl rfl rfl rfl ?_
 | ((with_reducible refine S_strNe (b := true) ?_ ?_); · first | exact toL_ne hq')
 | ((with_reducible refine S_strE (b := true) ?_ ?_); · first | exact toE_eqT hq)
 | refine S_oneE rfl rfl obQ ?_
 | refine S_load rfl obQ rfl [.string (sG ls k)] (.past (w2T, fun b => w1T.heap.size ≤ b ∧ b < w2T.heap.size) memQ _ _ hST _ _ rfl rfl (sN_ld (k := k) (m := (((k : Nat) : Int)).toNat * 1) (by omega) (by omega))) rfl (.inr ⟨rfl, rfl⟩) ?_
 | (refine S_callM (f := 80) rfl obQ (by kernel_rfl) (fun w hw => rSplit_as2 hW hwl (by omega) (by decide) w) (fun w1W w2W vW hw1W hbW hRW => ?_); obtain ⟨AW, cW, rfl, hSW⟩ := hRW; obtain ⟨aW, rfl⟩ := rdS_some hSW (by simp; omega))
 | refine S_load rfl obQ rfl [.string (sG ws 0)] (.past (w2W, fun b => w1W.heap.size ≤ b ∧ b < w2W.heap.size) memQ _ _ hSW _ _ rfl rfl (sN_ld (k := 0) rfl (by omega))) rfl (.inr ⟨rfl, rfl⟩) ?_
 | refine S_load rfl obQ rfl [.string (sG ws 1)] (.past (w2W, fun b => w1W.heap.size ≤ b ∧ b < w2W.heap.size) memQ _ _ hSW _ _ rfl rfl (sN_ld (k := 1) rfl (by omega))) rfl (.inr ⟨rfl, rfl⟩) ?_
 | refine S_append rfl obQ rfl rfl rfl ⟨by decide, rfl⟩ rfl ⟨rfl, rfl, rfl, rfl⟩ [.string (sG ws 1)] ⟨by decide, rfl⟩ (by simp [Value.oneCell']) (fun w hw => by first | exact hw.src (i := 0) rfl rfl | exact hw.src (i := 1) rfl rfl | exact hw.src (i := 2) rfl rfl | exact hw.src (i := 3) rfl rfl | exact hw.src (i := 4) rfl rfl | exact hw.src (i := 5) rfl rfl | exact hw.src (i := 6) rfl rfl | exact hw.src (i := 7) rfl rfl | exact hw.src (i := 8) rfl rfl) (by unfold maxLen; dsimp only; omega) (fun gb cap' => ⟨_, rfl, ?_⟩)
 | refine S_nil ?_
 | refine S_runN rfl rfl obQ obQ ?_
 | refine S_slice (fun b => ⟨_, _, rfl, obQ, ?_⟩)
             )
 | (refine V_id ?_; first
 | refine V_nil ?_
 | refine V_q rfl (Yl_load rfl obQ rfl [.string (sG ws 1)] (.past (w2W, fun b => w1W.heap.size ≤ b ∧ b < w2W.heap.size) memQ _ _ hSW _ _ rfl rfl (sN_ld (k := 1) rfl (by omega))) rfl (.inr ⟨rfl, rfl⟩)) ?_
 | refine V_q rfl (Yl_step rfl obQ) ?_
 | refine V_n rfl ?_
             )
 | (refine G_id ?_; first
 | refine G_V ⟨⟨_, rfl, trivial⟩, ⟨_, rfl⟩, rfl, pstQ⟩ rfl ?_
 | refine G_loop (k + 1, ns ++ [sG ws 1], es, (ns.length + 1, some ⟨gb, 0, none⟩, cap'), (es.length, A2, c2)) ⟨by show k + 1 ≤ m + 1; omega, hok2, hnp2, by simp, rfl, by simp; omega, by show es.length ≤ k + 1; omega, hnz2, fun h => absurd h (by show ¬ m < k + 1; omega)⟩ (by show m + 1 - (k + 1) < m + 1 - k; omega) ⟨⟨_, rfl, obQ⟩, ⟨_, rfl⟩, (by dsimp only; rw [List.map_append]; rfl), pstQ⟩
 | refine G_then ?_
 | refine G_blockX ?_
 | refine G_thenX ?_
             )
             )
        · have hb := npE_bad (hln.trans (by rw [lnW_two hwl, if_neg (fun h => hq h.1)]))
          rw [npX_bad hok hkm2 (by rw [hb]; decide), hb]
          repeat' (first
 | (refine C_id ?_; first
 | refine C_seq ?_
 | refine C_region rfl ?_
 | refine C_block ?_
 | refine C_skip ?_
 | refine C_ret0 ?_
 | refine C_condT rfl obQ ?_
 | refine C_condF rfl obQ ?_
           )
 | (refine S_id ?_; first
 | ((with_reducible (first | refine S_falseN ?_ ?_ | refine S_falseB ?_ ?_ | refine S_falseL ?_ ?_ | refine S_falseD ?_ ?_ | refine S_falseE ?_ ?_)); · (first | rfl | omega | exact decide_eq_false (by omega) | (rw [beq_eq_false_iff_ne]; omega) | (rw [bne_eq_false_iff_eq]; first | assumption | omega)))
 | ((with_reducible (first | refine S_trueE ?_ ?_ | refine S_trueB ?_ ?_ | refine S_trueL ?_ ?_ | refine S_trueD ?_ ?_ | refine S_trueN ?_ ?_)); · (first | rfl | assumption | omega | exact decide_eq_true (by omega) | (rw [beq_iff_eq]; omega) | (rw [bne_iff_ne]; first | assumption | omega)))
 | refine S_unG rfl rfl rfl rfl ?_
 | ((with_reducible refine S_strE (b := false) ?_ ?_); · first | exact toE_neT hq)
 | refine S_oneE rfl rfl obQ ?_
 | refine S_offG (.v (.bool false)) rfl rfl rfl rfl rfl ?_
 | refine S_load rfl obQ rfl [.string (sG ls k)] (.past (w2T, fun b => w1T.heap.size ≤ b ∧ b < w2T.heap.size) memQ _ _ hST _ _ rfl rfl (sN_ld (k := k) (m := (((k : Nat) : Int)).toNat * 1) (by omega) (by omega))) rfl (.inr ⟨rfl, rfl⟩) ?_
 | (refine S_callM (f := 80) rfl obQ (by kernel_rfl) (fun w hw => rSplit_as2 hW hwl (by omega) (by decide) w) (fun w1W w2W vW hw1W hbW hRW => ?_); obtain ⟨AW, cW, rfl, hSW⟩ := hRW; obtain ⟨aW, rfl⟩ := rdS_some hSW (by simp; omega))
 | refine S_load rfl obQ rfl [.string (sG ws 0)] (.past (w2W, fun b => w1W.heap.size ≤ b ∧ b < w2W.heap.size) memQ _ _ hSW _ _ rfl rfl (sN_ld (k := 0) rfl (by omega))) rfl (.inr ⟨rfl, rfl⟩) ?_
 | refine S_nil ?_
 | refine S_runN rfl rfl obQ obQ ?_
           )
 | (refine G_id ?_; first
 | refine G_then ?_
 | refine G_blockR ?_
 | refine G_thenR ?_
 | refine G_ret rfl obQ (fun w2 hw => ⟨_, rfl, hw.below, NtP.nil_ _ _⟩)
           )
           )
      · by_cases h5 : nw = 5
        · subst h5
          have hwz : ∀ j, j < 5 → (sG ws j).size ≤ 1000000 := fun j hj => by
            have := hsw _ (sN_mem (l := ws) (k := j) (by omega))
            omega
          have hz3 := hwz 3 (by omega)
          have hz4 := hwz 4 (by omega)
          have hlw := lnW_five (names := ns) hwl
          by_cases hq : sG ws 0 = sEdge ∧ sG ws 1 ≠ ByteArray.empty ∧ sG ws 2 ≠ ByteArray.empty
          · obtain ⟨hq0, hq1, hq2⟩ := hq
            rcases hd3 : digR (sG ws 3) with ⟨z3, b3⟩
            rcases hd4 : digR (sG ws 4) with ⟨z4, b4⟩
            obtain ⟨iF, hiF⟩ : ∃ z, ixS ns (sG ws 1) 0 = z := ⟨_, rfl⟩
            obtain ⟨iG, hiG⟩ : ∃ z, ixS ns (sG ws 2) 0 = z := ⟨_, rfl⟩
            rw [hd3, hd4, hiF, hiG] at hlw
            dsimp only at hlw
            repeat' (first
 | (refine C_id ?_; first
 | refine C_seq ?_
 | refine C_regionNe 19 rfl rfl ?_
 | refine C_block ?_
 | refine C_skip ?_
 | refine C_draw (id := 18) rfl mixed (by kernel_rfl) ?_
 | refine C_condT rfl obQ ?_
 | refine C_condF rfl obQ ?_
             )
 | (refine S_id ?_; first
 | ((with_reducible (first | refine S_falseN ?_ ?_ | refine S_falseB ?_ ?_ | refine S_falseL ?_ ?_ | refine S_falseD ?_ ?_ | refine S_falseE ?_ ?_)); · (first | rfl | omega | exact decide_eq_false (by omega) | (rw [beq_eq_false_iff_ne]; omega) | (rw [bne_eq_false_iff_eq]; first | assumption | omega)))
 | ((with_reducible refine S_falseO ?_ ?_ ?_); (· rfl); (· first | rfl | (first | rfl | omega | exact decide_eq_false (by omega) | (rw [beq_eq_false_iff_ne]; omega) | (rw [bne_eq_false_iff_eq]; first | assumption | omega))))
 | ((with_reducible (first | refine S_trueE ?_ ?_ | refine S_trueB ?_ ?_ | refine S_trueL ?_ ?_ | refine S_trueD ?_ ?_ | refine S_trueN ?_ ?_)); · (first | rfl | assumption | omega | exact decide_eq_true (by omega) | (rw [beq_iff_eq]; omega) | (rw [bne_iff_ne]; first | assumption | omega)))
 | refine S_unG rfl rfl rfl rfl ?_
 | ((with_reducible refine S_strE (b := false) ?_ ?_); · first | exact toE_neT hq1 | exact toE_neT hq2)
 | ((with_reducible refine S_strNe (b := false) ?_ ?_); · first | exact toL_eq hq0)
 | refine S_oneE rfl rfl obQ ?_
 | refine S_offG (.v (.bool false)) rfl rfl rfl rfl rfl ?_
 | refine S_load rfl obQ rfl [.string (sG ls k)] (.past (w2T, fun b => w1T.heap.size ≤ b ∧ b < w2T.heap.size) memQ _ _ hST _ _ rfl rfl (sN_ld (k := k) (m := (((k : Nat) : Int)).toNat * 1) (by omega) (by omega))) rfl (.inr ⟨rfl, rfl⟩) ?_
 | (refine S_callM (f := 80) rfl obQ (by kernel_rfl) (fun w hw => rSplit_as2 hW hwl (by omega) (by decide) w) (fun w1W w2W vW hw1W hbW hRW => ?_); obtain ⟨AW, cW, rfl, hSW⟩ := hRW; obtain ⟨aW, rfl⟩ := rdS_some hSW (by simp; omega))
 | refine S_load rfl obQ rfl [.string (sG ws 0)] (.past (w2W, fun b => w1W.heap.size ≤ b ∧ b < w2W.heap.size) memQ _ _ hSW _ _ rfl rfl (sN_ld (k := 0) rfl (by omega))) rfl (.inr ⟨rfl, rfl⟩) ?_
 | refine S_load rfl obQ rfl [.string (sG ws 1)] (.past (w2W, fun b => w1W.heap.size ≤ b ∧ b < w2W.heap.size) memQ _ _ hSW _ _ rfl rfl (sN_ld (k := 1) rfl (by omega))) rfl (.inr ⟨rfl, rfl⟩) ?_
 | refine S_load rfl obQ rfl [.string (sG ws 2)] (.past (w2W, fun b => w1W.heap.size ≤ b ∧ b < w2W.heap.size) memQ _ _ hSW _ _ rfl rfl (sN_ld (k := 2) rfl (by omega))) rfl (.inr ⟨rfl, rfl⟩) ?_
 | refine S_load rfl obQ rfl [.string (sG ws 3)] (.past (w2W, fun b => w1W.heap.size ≤ b ∧ b < w2W.heap.size) memQ _ _ hSW _ _ rfl rfl (sN_ld (k := 3) rfl (by omega))) rfl (.inr ⟨rfl, rfl⟩) ?_
 | refine S_load rfl obQ rfl [.string (sG ws 4)] (.past (w2W, fun b => w1W.heap.size ≤ b ∧ b < w2W.heap.size) memQ _ _ hSW _ _ rfl rfl (sN_ld (k := 4) rfl (by omega))) rfl (.inr ⟨rfl, rfl⟩) ?_
 | refine S_nil ?_
 | refine S_runN rfl rfl obQ obQ ?_
 | refine S_call (f := 134) rfl obQ (by kernel_rfl) (fun w hw => rDig_as hd3 hz3 w) ?_
 | refine S_call (f := 134) rfl obQ (by kernel_rfl) (fun w hw => rDig_as hd4 hz4 w) ?_
             )
 | (refine D_id ?_; first
 | refine D_load rfl obQ rfl [.string (sG ws 1)] (.past (w2W, fun b => w1W.heap.size ≤ b ∧ b < w2W.heap.size) memQ _ _ hSW _ _ rfl rfl (sN_ld (k := 1) rfl (by omega))) rfl (.inr ⟨rfl, rfl⟩) ?_
 | refine D_load rfl obQ rfl [.string (sG ws 2)] (.past (w2W, fun b => w1W.heap.size ≤ b ∧ b < w2W.heap.size) memQ _ _ hSW _ _ rfl rfl (sN_ld (k := 2) rfl (by omega))) rfl (.inr ⟨rfl, rfl⟩) ?_
 | refine D_nil ?_
 | refine D_run rfl rfl obQ obQ ?_
 | refine D_call (f := 135) rfl obQ (by kernel_rfl) (fun w hw => rIx_as rfl (by omega) hiF w (hw.rdRow (i := 0) rfl rfl)) ?_
 | refine D_call (f := 135) rfl obQ (by kernel_rfl) (fun w hw => rIx_as rfl (by omega) hiG w (hw.rdRow (i := 0) rfl rfl)) ?_
             )
 | (refine G_id ?_; first
 | refine G_then ?_
             )
             )
            by_cases hdd : b3 = true ∧ b4 = true
            · obtain ⟨rfl, rfl⟩ := hdd
              rw [if_pos ⟨hq0, hq1, hq2, rfl, rfl⟩] at hlw
              by_cases hii : iF < 0 ∨ iG < 0
              · have hb := npE_bad (hln.trans (hlw.trans (if_pos hii)))
                rw [npX_bad hok hkm2 (by rw [hb]; decide), hb]
                have hii2 : iF < 0 ∨ (¬ iF < 0 ∧ iG < 0) := by omega
                clear hii hlw hln
                rcases hii2 with hf | ⟨hf, hg⟩
                all_goals (
                  repeat' (first
 | (refine C_id ?_; first
 | refine C_seq ?_
 | refine C_region rfl ?_
 | refine C_ret0 ?_
 | refine C_condT rfl obQ ?_
                   )
 | (refine S_id ?_; first
 | ((with_reducible (first | refine S_falseN ?_ ?_ | refine S_falseB ?_ ?_ | refine S_falseL ?_ ?_ | refine S_falseD ?_ ?_ | refine S_falseE ?_ ?_)); · (first | rfl | omega | exact decide_eq_false (by omega) | (rw [beq_eq_false_iff_ne]; omega) | (rw [bne_eq_false_iff_eq]; first | assumption | omega)))
 | ((with_reducible refine S_falseO ?_ ?_ ?_); (· rfl); (· first | rfl | (first | rfl | omega | exact decide_eq_false (by omega) | (rw [beq_eq_false_iff_ne]; omega) | (rw [bne_eq_false_iff_eq]; first | assumption | omega))))
 | ((with_reducible (first | refine S_trueE ?_ ?_ | refine S_trueB ?_ ?_ | refine S_trueL ?_ ?_ | refine S_trueD ?_ ?_ | refine S_trueN ?_ ?_)); · (first | rfl | assumption | omega | exact decide_eq_true (by omega) | (rw [beq_iff_eq]; omega) | (rw [bne_iff_ne]; first | assumption | omega)))
 | refine S_unG rfl rfl rfl rfl ?_
 | refine S_oneE rfl rfl obQ ?_
 | refine S_offG (.v (.bool false)) rfl rfl rfl rfl rfl ?_
 | refine S_nil ?_
 | refine S_runN rfl rfl obQ obQ ?_
 | refine S_slice (fun b => ⟨_, _, rfl, obQ, ?_⟩)
 | refine S_call (f := 56) rfl obQ (by kernel_rfl) (fun w hw => rWhen_c _ _ w) ?_
 | refine S_call (f := 84) rfl obQ (by kernel_rfl) (fun w hw => rFirE_c (l := [wh true 25, wh true 10]) (e := 25) rfl (by simp) rfl w (.inr ⟨_, rfl, hw.src (i := 2) rfl rfl⟩)) ?_
 | refine S_call (f := 84) rfl obQ (by kernel_rfl) (fun w hw => rFirE_c (l := [wh true 25, wh false 10]) (e := 25) rfl (by simp) rfl w (.inr ⟨_, rfl, hw.src (i := 2) rfl rfl⟩)) ?_
 | refine S_call (f := 84) rfl obQ (by kernel_rfl) (fun w hw => rFirE_c (l := [wh false 25, wh true 10]) (e := 10) rfl (by simp) rfl w (.inr ⟨_, rfl, hw.src (i := 2) rfl rfl⟩)) ?_
                   )
 | (refine G_id ?_; first
 | refine G_then ?_
 | refine G_blockR ?_
 | refine G_thenR ?_
 | refine G_ret rfl obQ (fun w2 hw => ⟨_, rfl, hw.below, NtP.nil_ _ _⟩)
                   )
                   ))
              · obtain ⟨e1, e2⟩ := npS_edge (hln.trans (hlw.trans (if_neg hii)))
                have hok2 : npOk ls (min (k + 1) m) := by rw [Nat.min_eq_left (by omega)]; exact npOk_s hok e2
                have hnp2 : npS ls (min (k + 1) m) = (ns, es ++ [⟨iF, iG, z3, z4⟩]) := by rw [Nat.min_eq_left (by omega), e1, hnp]
                have hf : ¬ iF < 0 := fun h => hii (.inl h)
                have hg : ¬ iG < 0 := fun h => hii (.inr h)
                clear hii hlw hln
                repeat' (first
 | (refine C_id ?_; first
 | refine C_seq ?_
 | refine C_region rfl ?_
 | refine C_skip ?_
 | refine C_condF rfl obQ ?_
                 )
 | (refine S_id ?_; first
 | ((with_reducible (first | refine S_falseN ?_ ?_ | refine S_falseB ?_ ?_ | refine S_falseL ?_ ?_ | refine S_falseD ?_ ?_ | refine S_falseE ?_ ?_)); · (first | rfl | omega | exact decide_eq_false (by omega) | (rw [beq_eq_false_iff_ne]; omega) | (rw [bne_eq_false_iff_eq]; first | assumption | omega)))
 | ((with_reducible refine S_falseO ?_ ?_ ?_); (· rfl); (· first | rfl | (first | rfl | omega | exact decide_eq_false (by omega) | (rw [beq_eq_false_iff_ne]; omega) | (rw [bne_eq_false_iff_eq]; first | assumption | omega))))
 | refine S_unG rfl rfl rfl rfl ?_
 | refine S_oneE rfl rfl obQ ?_
 | refine S_append rfl obQ rfl rfl rfl ⟨by decide, rfl⟩ rfl ⟨rfl, rfl, rfl, rfl⟩ [.int .i64 iF, .int .i64 iG, .int .i64 z3, .int .i64 z4] ⟨by decide, rfl⟩ (by simp [Value.oneCell']) (fun w hw => by first | exact hw.src (i := 0) rfl rfl | exact hw.src (i := 1) rfl rfl | exact hw.src (i := 2) rfl rfl | exact hw.src (i := 3) rfl rfl | exact hw.src (i := 4) rfl rfl | exact hw.src (i := 5) rfl rfl | exact hw.src (i := 6) rfl rfl | exact hw.src (i := 7) rfl rfl | exact hw.src (i := 8) rfl rfl) (by unfold maxLen; dsimp only; omega) (fun gb cap' => ⟨_, rfl, ?_⟩)
 | refine S_nil ?_
 | refine S_runN rfl rfl obQ obQ ?_
 | refine S_slice (fun b => ⟨_, _, rfl, obQ, ?_⟩)
 | refine S_call (f := 56) rfl obQ (by kernel_rfl) (fun w hw => rWhen_c _ _ w) ?_
 | refine S_call (f := 84) rfl obQ (by kernel_rfl) (fun w hw => rFirE_c (l := [wh false 25, wh false 10]) (e := 0) rfl (by simp) rfl w (.inr ⟨_, rfl, hw.src (i := 2) rfl rfl⟩)) ?_
                 )
 | (refine G_id ?_; first
 | refine G_loop (k + 1, ns, es ++ [⟨iF, iG, z3, z4⟩], (ns.length, A1, c1), (es.length + 1, some ⟨gb, 0, none⟩, cap')) ⟨by show k + 1 ≤ m + 1; omega, hok2, hnp2, rfl, by simp, by show ns.length ≤ k + 1; omega, by simp; omega, hnz, fun h => absurd h (by show ¬ m < k + 1; omega)⟩ (by show m + 1 - (k + 1) < m + 1 - k; omega) ⟨⟨_, rfl, obQ⟩, ⟨_, rfl⟩, (by dsimp only; rw [List.flatMap_append]; simp [edC]), pstQ⟩
 | refine G_then ?_
 | refine G_block ?_
                 )
                 )
            · have hb := npE_bad (hln.trans (hlw.trans (if_neg (fun h => hdd ⟨h.2.2.2.1, h.2.2.2.2⟩))))
              rw [npX_bad hok hkm2 (by rw [hb]; decide), hb]
              have hd2 : b3 = false ∨ (b3 = true ∧ b4 = false) := by cases b3 <;> cases b4 <;> simp_all
              clear hdd hlw hln
              rcases hd2 with rfl | ⟨rfl, rfl⟩
              all_goals rcases Int.lt_or_le iF 0 with hf | hf
              all_goals rcases Int.lt_or_le iG 0 with hg | hg
              all_goals (
                repeat' (first
 | (refine C_id ?_; first
 | refine C_seq ?_
 | refine C_region rfl ?_
 | refine C_ret0 ?_
 | refine C_condT rfl obQ ?_
                 )
 | (refine S_id ?_; first
 | ((with_reducible (first | refine S_falseN ?_ ?_ | refine S_falseB ?_ ?_ | refine S_falseL ?_ ?_ | refine S_falseD ?_ ?_ | refine S_falseE ?_ ?_)); · (first | rfl | omega | exact decide_eq_false (by omega) | (rw [beq_eq_false_iff_ne]; omega) | (rw [bne_eq_false_iff_eq]; first | assumption | omega)))
 | ((with_reducible refine S_falseO ?_ ?_ ?_); (· rfl); (· first | rfl | (first | rfl | omega | exact decide_eq_false (by omega) | (rw [beq_eq_false_iff_ne]; omega) | (rw [bne_eq_false_iff_eq]; first | assumption | omega))))
 | ((with_reducible (first | refine S_trueE ?_ ?_ | refine S_trueB ?_ ?_ | refine S_trueL ?_ ?_ | refine S_trueD ?_ ?_ | refine S_trueN ?_ ?_)); · (first | rfl | assumption | omega | exact decide_eq_true (by omega) | (rw [beq_iff_eq]; omega) | (rw [bne_iff_ne]; first | assumption | omega)))
 | refine S_unG rfl rfl rfl rfl ?_
 | refine S_oneE rfl rfl obQ ?_
 | refine S_offG (.v (.bool false)) rfl rfl rfl rfl rfl ?_
 | refine S_nil ?_
 | refine S_runN rfl rfl obQ obQ ?_
 | refine S_slice (fun b => ⟨_, _, rfl, obQ, ?_⟩)
 | refine S_call (f := 56) rfl obQ (by kernel_rfl) (fun w hw => rWhen_c _ _ w) ?_
 | refine S_call (f := 84) rfl obQ (by kernel_rfl) (fun w hw => rFirE_c (l := [wh true 25, wh true 10]) (e := 25) rfl (by simp) rfl w (.inr ⟨_, rfl, hw.src (i := 2) rfl rfl⟩)) ?_
 | refine S_call (f := 84) rfl obQ (by kernel_rfl) (fun w hw => rFirE_c (l := [wh true 25, wh false 10]) (e := 25) rfl (by simp) rfl w (.inr ⟨_, rfl, hw.src (i := 2) rfl rfl⟩)) ?_
 | refine S_call (f := 84) rfl obQ (by kernel_rfl) (fun w hw => rFirE_c (l := [wh false 25, wh true 10]) (e := 10) rfl (by simp) rfl w (.inr ⟨_, rfl, hw.src (i := 2) rfl rfl⟩)) ?_
                 )
 | (refine G_id ?_; first
 | refine G_then ?_
 | refine G_blockR ?_
 | refine G_thenR ?_
 | refine G_ret rfl obQ (fun w2 hw => ⟨_, rfl, hw.below, NtP.nil_ _ _⟩)
                 )
                 ))
          · have hb := npE_bad (hln.trans (hlw.trans (if_neg (fun h => hq ⟨h.1, h.2.1, h.2.2.1⟩))))
            rw [npX_bad hok hkm2 (by rw [hb]; decide), hb]
            have hq3 : sG ws 0 ≠ sEdge ∨ (sG ws 0 = sEdge ∧ sG ws 1 = ByteArray.empty) ∨ (sG ws 0 = sEdge ∧ sG ws 1 ≠ ByteArray.empty ∧ sG ws 2 = ByteArray.empty) := by
              by_cases h1 : sG ws 0 = sEdge
              · by_cases h2 : sG ws 1 = ByteArray.empty
                · exact .inr (.inl ⟨h1, h2⟩)
                · exact .inr (.inr ⟨h1, h2, Classical.byContradiction fun h3 => hq ⟨h1, h2, h3⟩⟩)
              · exact .inl h1
            clear hq hlw hln
            rcases hq3 with hq0 | ⟨hq0, hq1⟩ | ⟨hq0, hq1, hq2⟩
            · repeat' (first
 | (refine C_id ?_; first
 | refine C_seq ?_
 | refine C_region rfl ?_
 | refine C_block ?_
 | refine C_skip ?_
 | refine C_ret0 ?_
 | refine C_condT rfl obQ ?_
 | refine C_condF rfl obQ ?_
               )
 | (refine S_id ?_; first
 | ((with_reducible (first | refine S_falseN ?_ ?_ | refine S_falseB ?_ ?_ | refine S_falseL ?_ ?_ | refine S_falseD ?_ ?_ | refine S_falseE ?_ ?_)); · (first | rfl | omega | exact decide_eq_false (by omega) | (rw [beq_eq_false_iff_ne]; omega) | (rw [bne_eq_false_iff_eq]; first | assumption | omega)))
 | ((with_reducible (first | refine S_trueE ?_ ?_ | refine S_trueB ?_ ?_ | refine S_trueL ?_ ?_ | refine S_trueD ?_ ?_ | refine S_trueN ?_ ?_)); · (first | rfl | assumption | omega | exact decide_eq_true (by omega) | (rw [beq_iff_eq]; omega) | (rw [bne_iff_ne]; first | assumption | omega)))
 | refine S_unG rfl rfl rfl rfl ?_
 | ((with_reducible refine S_strNe (b := true) ?_ ?_); · first | exact toL_ne hq0)
 | refine S_oneE rfl rfl obQ ?_
 | refine S_offG (.v (.bool false)) rfl rfl rfl rfl rfl ?_
 | refine S_load rfl obQ rfl [.string (sG ls k)] (.past (w2T, fun b => w1T.heap.size ≤ b ∧ b < w2T.heap.size) memQ _ _ hST _ _ rfl rfl (sN_ld (k := k) (m := (((k : Nat) : Int)).toNat * 1) (by omega) (by omega))) rfl (.inr ⟨rfl, rfl⟩) ?_
 | (refine S_callM (f := 80) rfl obQ (by kernel_rfl) (fun w hw => rSplit_as2 hW hwl (by omega) (by decide) w) (fun w1W w2W vW hw1W hbW hRW => ?_); obtain ⟨AW, cW, rfl, hSW⟩ := hRW; obtain ⟨aW, rfl⟩ := rdS_some hSW (by simp; omega))
 | refine S_load rfl obQ rfl [.string (sG ws 0)] (.past (w2W, fun b => w1W.heap.size ≤ b ∧ b < w2W.heap.size) memQ _ _ hSW _ _ rfl rfl (sN_ld (k := 0) rfl (by omega))) rfl (.inr ⟨rfl, rfl⟩) ?_
 | refine S_nil ?_
 | refine S_runN rfl rfl obQ obQ ?_
               )
 | (refine G_id ?_; first
 | refine G_then ?_
 | refine G_blockR ?_
 | refine G_thenR ?_
 | refine G_ret rfl obQ (fun w2 hw => ⟨_, rfl, hw.below, NtP.nil_ _ _⟩)
               )
               )
            · repeat' (first
 | (refine C_id ?_; first
 | refine C_seq ?_
 | refine C_region rfl ?_
 | refine C_block ?_
 | refine C_skip ?_
 | refine C_ret0 ?_
 | refine C_condT rfl obQ ?_
 | refine C_condF rfl obQ ?_
               )
 | (refine S_id ?_; first
 | ((with_reducible (first | refine S_falseN ?_ ?_ | refine S_falseB ?_ ?_ | refine S_falseL ?_ ?_ | refine S_falseD ?_ ?_ | refine S_falseE ?_ ?_)); · (first | rfl | omega | exact decide_eq_false (by omega) | (rw [beq_eq_false_iff_ne]; omega) | (rw [bne_eq_false_iff_eq]; first | assumption | omega)))
 | ((with_reducible refine S_falseO ?_ ?_ ?_); (· rfl); (· first | rfl | (first | rfl | omega | exact decide_eq_false (by omega) | (rw [beq_eq_false_iff_ne]; omega) | (rw [bne_eq_false_iff_eq]; first | assumption | omega))))
 | ((with_reducible (first | refine S_trueE ?_ ?_ | refine S_trueB ?_ ?_ | refine S_trueL ?_ ?_ | refine S_trueD ?_ ?_ | refine S_trueN ?_ ?_)); · (first | rfl | assumption | omega | exact decide_eq_true (by omega) | (rw [beq_iff_eq]; omega) | (rw [bne_iff_ne]; first | assumption | omega)))
 | refine S_unG rfl rfl rfl rfl ?_
 | ((with_reducible refine S_strNe (b := false) ?_ ?_); · first | exact toL_eq hq0 | exact toL_eq hq1)
 | ((with_reducible refine S_strE (b := true) ?_ ?_); · first | exact toE_eqT hq0 | exact toE_eqT hq1)
 | refine S_oneE rfl rfl obQ ?_
 | refine S_offG (.v (.bool false)) rfl rfl rfl rfl rfl ?_
 | refine S_load rfl obQ rfl [.string (sG ls k)] (.past (w2T, fun b => w1T.heap.size ≤ b ∧ b < w2T.heap.size) memQ _ _ hST _ _ rfl rfl (sN_ld (k := k) (m := (((k : Nat) : Int)).toNat * 1) (by omega) (by omega))) rfl (.inr ⟨rfl, rfl⟩) ?_
 | (refine S_callM (f := 80) rfl obQ (by kernel_rfl) (fun w hw => rSplit_as2 hW hwl (by omega) (by decide) w) (fun w1W w2W vW hw1W hbW hRW => ?_); obtain ⟨AW, cW, rfl, hSW⟩ := hRW; obtain ⟨aW, rfl⟩ := rdS_some hSW (by simp; omega))
 | refine S_load rfl obQ rfl [.string (sG ws 0)] (.past (w2W, fun b => w1W.heap.size ≤ b ∧ b < w2W.heap.size) memQ _ _ hSW _ _ rfl rfl (sN_ld (k := 0) rfl (by omega))) rfl (.inr ⟨rfl, rfl⟩) ?_
 | refine S_load rfl obQ rfl [.string (sG ws 1)] (.past (w2W, fun b => w1W.heap.size ≤ b ∧ b < w2W.heap.size) memQ _ _ hSW _ _ rfl rfl (sN_ld (k := 1) rfl (by omega))) rfl (.inr ⟨rfl, rfl⟩) ?_
 | refine S_nil ?_
 | refine S_runN rfl rfl obQ obQ ?_
               )
 | (refine G_id ?_; first
 | refine G_then ?_
 | refine G_blockR ?_
 | refine G_thenR ?_
 | refine G_ret rfl obQ (fun w2 hw => ⟨_, rfl, hw.below, NtP.nil_ _ _⟩)
               )
               )
            · repeat' (first
 | (refine C_id ?_; first
 | refine C_seq ?_
 | refine C_region rfl ?_
 | refine C_block ?_
 | refine C_skip ?_
 | refine C_ret0 ?_
 | refine C_condT rfl obQ ?_
 | refine C_condF rfl obQ ?_
               )
 | (refine S_id ?_; first
 | ((with_reducible (first | refine S_falseN ?_ ?_ | refine S_falseB ?_ ?_ | refine S_falseL ?_ ?_ | refine S_falseD ?_ ?_ | refine S_falseE ?_ ?_)); · (first | rfl | omega | exact decide_eq_false (by omega) | (rw [beq_eq_false_iff_ne]; omega) | (rw [bne_eq_false_iff_eq]; first | assumption | omega)))
 | ((with_reducible refine S_falseO ?_ ?_ ?_); (· rfl); (· first | rfl | (first | rfl | omega | exact decide_eq_false (by omega) | (rw [beq_eq_false_iff_ne]; omega) | (rw [bne_eq_false_iff_eq]; first | assumption | omega))))
 | ((with_reducible (first | refine S_trueE ?_ ?_ | refine S_trueB ?_ ?_ | refine S_trueL ?_ ?_ | refine S_trueD ?_ ?_ | refine S_trueN ?_ ?_)); · (first | rfl | assumption | omega | exact decide_eq_true (by omega) | (rw [beq_iff_eq]; omega) | (rw [bne_iff_ne]; first | assumption | omega)))
 | refine S_unG rfl rfl rfl rfl ?_
 | ((with_reducible refine S_strE (b := false) ?_ ?_); · first | exact toE_neT hq1)
 | ((with_reducible refine S_strNe (b := false) ?_ ?_); · first | exact toL_eq hq0 | exact toL_eq hq2)
 | ((with_reducible refine S_strE (b := true) ?_ ?_); · first | exact toE_eqT hq0 | exact toE_eqT hq2)
 | refine S_oneE rfl rfl obQ ?_
 | refine S_offG (.v (.bool false)) rfl rfl rfl rfl rfl ?_
 | refine S_load rfl obQ rfl [.string (sG ls k)] (.past (w2T, fun b => w1T.heap.size ≤ b ∧ b < w2T.heap.size) memQ _ _ hST _ _ rfl rfl (sN_ld (k := k) (m := (((k : Nat) : Int)).toNat * 1) (by omega) (by omega))) rfl (.inr ⟨rfl, rfl⟩) ?_
 | (refine S_callM (f := 80) rfl obQ (by kernel_rfl) (fun w hw => rSplit_as2 hW hwl (by omega) (by decide) w) (fun w1W w2W vW hw1W hbW hRW => ?_); obtain ⟨AW, cW, rfl, hSW⟩ := hRW; obtain ⟨aW, rfl⟩ := rdS_some hSW (by simp; omega))
 | refine S_load rfl obQ rfl [.string (sG ws 0)] (.past (w2W, fun b => w1W.heap.size ≤ b ∧ b < w2W.heap.size) memQ _ _ hSW _ _ rfl rfl (sN_ld (k := 0) rfl (by omega))) rfl (.inr ⟨rfl, rfl⟩) ?_
 | refine S_load rfl obQ rfl [.string (sG ws 1)] (.past (w2W, fun b => w1W.heap.size ≤ b ∧ b < w2W.heap.size) memQ _ _ hSW _ _ rfl rfl (sN_ld (k := 1) rfl (by omega))) rfl (.inr ⟨rfl, rfl⟩) ?_
 | refine S_load rfl obQ rfl [.string (sG ws 2)] (.past (w2W, fun b => w1W.heap.size ≤ b ∧ b < w2W.heap.size) memQ _ _ hSW _ _ rfl rfl (sN_ld (k := 2) rfl (by omega))) rfl (.inr ⟨rfl, rfl⟩) ?_
 | refine S_nil ?_
 | refine S_runN rfl rfl obQ obQ ?_
               )
 | (refine G_id ?_; first
 | refine G_then ?_
 | refine G_blockR ?_
 | refine G_thenR ?_
 | refine G_ret rfl obQ (fun w2 hw => ⟨_, rfl, hw.below, NtP.nil_ _ _⟩)
               )
               )
        · have hb := npE_bad (hln.trans (lnW_else (by omega) (by omega)))
          rw [npX_bad hok hkm2 (by rw [hb]; decide), hb]
          repeat' (first
 | (refine C_id ?_; first
 | refine C_seq ?_
 | refine C_region rfl ?_
 | refine C_block ?_
 | refine C_skip ?_
 | refine C_ret0 ?_
 | refine C_condT rfl obQ ?_
 | refine C_condF rfl obQ ?_
           )
 | (refine S_id ?_; first
 | ((with_reducible (first | refine S_falseN ?_ ?_ | refine S_falseB ?_ ?_ | refine S_falseL ?_ ?_ | refine S_falseD ?_ ?_ | refine S_falseE ?_ ?_)); · (first | rfl | omega | exact decide_eq_false (by omega) | (rw [beq_eq_false_iff_ne]; omega) | (rw [bne_eq_false_iff_eq]; first | assumption | omega)))
 | ((with_reducible (first | refine S_trueE ?_ ?_ | refine S_trueB ?_ ?_ | refine S_trueL ?_ ?_ | refine S_trueD ?_ ?_ | refine S_trueN ?_ ?_)); · (first | rfl | assumption | omega | exact decide_eq_true (by omega) | (rw [beq_iff_eq]; omega) | (rw [bne_iff_ne]; first | assumption | omega)))
 | refine S_offG (.v (.bool false)) rfl rfl rfl rfl rfl ?_
 | refine S_load rfl obQ rfl [.string (sG ls k)] (.past (w2T, fun b => w1T.heap.size ≤ b ∧ b < w2T.heap.size) memQ _ _ hST _ _ rfl rfl (sN_ld (k := k) (m := (((k : Nat) : Int)).toNat * 1) (by omega) (by omega))) rfl (.inr ⟨rfl, rfl⟩) ?_
 | (refine S_callM (f := 80) rfl obQ (by kernel_rfl) (fun w hw => rSplit_as2 hW hwl (by omega) (by decide) w) (fun w1W w2W vW hw1W hbW hRW => ?_); obtain ⟨AW, cW, rfl, hSW⟩ := hRW)
 | refine S_nil ?_
 | refine S_runN rfl rfl obQ obQ ?_
           )
 | (refine G_id ?_; first
 | refine G_then ?_
 | refine G_blockR ?_
 | refine G_thenR ?_
 | refine G_ret rfl obQ (fun w2 hw => ⟨_, rfl, hw.below, NtP.nil_ _ _⟩)
           )
           )
  · have hkm : k = m + 1 := by omega
    subst hkm
    rw [Nat.min_eq_right (by omega)] at hok hnp
    have hlast : sG ls m = ByteArray.empty := hnw (by omega)
    have hmx : 1000000 ≤ maxLen := by unfold maxLen; omega
    rw [npX_ok hok, if_neg (by simpa using hlast), hnp]
    dsimp only
    by_cases hF : netF ns es = 0
    · rw [if_neg (by simpa using hF)]
      repeat' (first
 | (refine C_id ?_; first
 | refine C_seq ?_
 | refine C_region rfl ?_
 | refine C_skip ?_
 | refine C_exit ?_
 | refine C_ret0 ?_
 | refine C_condF rfl obQ ?_
       )
 | (refine S_id ?_; first
 | ((with_reducible (first | refine S_falseN ?_ ?_ | refine S_falseB ?_ ?_ | refine S_falseL ?_ ?_ | refine S_falseD ?_ ?_ | refine S_falseE ?_ ?_)); · (first | rfl | omega | exact decide_eq_false (by omega) | (rw [beq_eq_false_iff_ne]; omega) | (rw [bne_eq_false_iff_eq]; first | assumption | omega)))
 | refine S_nil ?_
 | refine S_runN rfl rfl obQ obQ ?_
 | refine S_call (f := 55) rfl obQ (by kernel_rfl) (fun w hw => rCheckNet_c A1 A2 c1 c2 ns es (by omega) (by omega) (fun x hx => by have := hnz x hx; omega) (ownsRow_le (hw.row _ (List.mem_cons_self ..)).1) w (hw.rdRow (i := 0) rfl rfl) (hw.rdRow (i := 1) rfl rfl)) ?_
       )
 | (refine G_id ?_; first
 | refine G_then ?_
 | refine G_blockX ?_
 | refine G_thenX ?_
 | refine G_ret rfl obQ (fun w2 hw => ⟨_, rfl, hw.below, by obtain ⟨B1, d1, e1, r1⟩ := HW.rowSl (i := 0) hw rfl rfl rfl rfl; obtain ⟨B2, d2, e2, r2⟩ := HW.rowSl (i := 1) hw rfl rfl rfl rfl; injection e1 with e3 e4 e5; injection e2 with e6 e7 e8; subst e3; subst e5; subst e6; subst e8; exact ⟨_, _, _, _, rfl, r1, r2⟩⟩)
       )
       )
    · rw [if_pos hF]
      repeat' (first
 | (refine C_id ?_; first
 | refine C_seq ?_
 | refine C_region rfl ?_
 | refine C_exit ?_
 | refine C_ret0 ?_
 | refine C_condT rfl obQ ?_
 | refine C_condF rfl obQ ?_
       )
 | (refine S_id ?_; first
 | ((with_reducible (first | refine S_falseN ?_ ?_ | refine S_falseB ?_ ?_ | refine S_falseL ?_ ?_ | refine S_falseD ?_ ?_ | refine S_falseE ?_ ?_)); · (first | rfl | omega | exact decide_eq_false (by omega) | (rw [beq_eq_false_iff_ne]; omega) | (rw [bne_eq_false_iff_eq]; first | assumption | omega)))
 | ((with_reducible (first | refine S_trueE ?_ ?_ | refine S_trueB ?_ ?_ | refine S_trueL ?_ ?_ | refine S_trueD ?_ ?_ | refine S_trueN ?_ ?_)); · (first | rfl | assumption | omega | exact decide_eq_true (by omega) | (rw [beq_iff_eq]; omega) | (rw [bne_iff_ne]; first | assumption | omega)))
 | refine S_nil ?_
 | refine S_runN rfl rfl obQ obQ ?_
 | refine S_call (f := 55) rfl obQ (by kernel_rfl) (fun w hw => rCheckNet_c A1 A2 c1 c2 ns es (by omega) (by omega) (fun x hx => by have := hnz x hx; omega) (ownsRow_le (hw.row _ (List.mem_cons_self ..)).1) w (hw.rdRow (i := 0) rfl rfl) (hw.rdRow (i := 1) rfl rfl)) ?_
       )
 | (refine G_id ?_; first
 | refine G_then ?_
 | refine G_blockX ?_
 | refine G_thenR ?_
 | refine G_thenX ?_
 | refine G_ret rfl obQ (fun w2 hw => ⟨_, congrArg (fun z => Ending.returned (Value.tuple #[.agg #[.slice none 0 0, .slice none 0 0], .int .i64 z, .int .i64 _])) (show ((m + 1 : Nat) : Int) - 1 = (m : Int) by omega), hw.below, NtP.nil_ _ _⟩)
       )
       )

end Go.Proofs.YtmfophoejjcnlaaGreatDoor
