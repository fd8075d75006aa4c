/- The law of tiles: the walk. -/
import Derived.Test.YtjkgklhjbopoaaaGreatDoorMixer108
import Derived.Test.YtjkgklhjbopoaaaGreatDoorEng4
namespace Go.Proofs.YtjkgklhjbopoaaaGreatDoor
open Go.E Go.RowKit Go.Fl
attribute [local irreducible] G C S D Calls
set_option maxRecDepth 100000
set_option linter.all false
set_option maxHeartbeats 8000000
theorem at1 {p : Pic} {A : Option Addr} {c PW xa xb ya yb cw ch : Nat} {s : List Nat} {w : World} (hcx : xa + cw = xb) (hcy : ya + ch = yb) (he : crL p.s PW xa ya cw ch = s) (hPW : p.w = PW) (hs : p.s.length ≤ 4096) (hc : 0 < cw ∧ cw ≤ 64) (hh : 0 < ch ∧ ch ≤ 64) (h4 : xa ≤ 64 ∧ ya ≤ 64) (hix : ∀ x y, x < cw → y < ch → (ya + y) * PW + (xa + x) < p.s.length) (hr : Rd w A (p.s.map (.float .f32))) :
    Calls Tryz.prog 84 #[.agg #[.string p.nm, .int .i64 p.w, .int .i64 p.h, .slice A p.s.length c], .agg #[.int .i64 (xa : Int), .int .i64 (xb : Int)], .agg #[.int .i64 (ya : Int), .int .i64 (yb : Int)]] w fun r w' => ∃ v, r = .returned v ∧ Below w.heap.size w w' ∧ PicA w w' v ⟨p.nm, (cw : Int), (ch : Int), s⟩ := by
  subst hcx
  subst hcy
  subst he
  exact aD1 p A c PW xa cw ya ch hPW hs hc hh h4 hix w hr
theorem aR6 {n W i : Nat} (h : n < W) (hi : i < 2) : ∃ xa xb : Nat, HfD xa xb W ∧ ∀ (j : Nat) (u : Value), ([.int .i64 (xa : Int), .int .i64 (xb : Int)] : List Value)[j]? = some u → ([.int .i64 0, .int .i64 ((n : Nat) : Int), .int .i64 ((n : Nat) : Int), .int .i64 ((W : Nat) : Int)] : List Value)[(((i : Nat) : Int).toNat * 2 + j)]? = some u := by
  rcases i with _ | _ | i
  · refine ⟨0, n, .inl ⟨rfl, h⟩, fun j u hu => ?_⟩
    rcases j with _ | _ | j <;> simp at hu ⊢ <;> exact hu
  · refine ⟨n, W, .inr ⟨h, rfl⟩, fun j u hu => ?_⟩
    rcases j with _ | _ | j <;> simp at hu ⊢ <;> exact hu
  · omega
theorem aR2 (A : Option Addr) (c : Nat) (t : List Nod) (B : Option Addr) (c2 : Nat) (l : List PV') (hm : t.length ≤ maxLen) (hm2 : l.length ≤ maxLen) (hAs : ∀ x ∈ l, x.A = none → x.p.s.length = 0 ∧ x.c = 0) (hnz : ∀ x ∈ l, x.p.nm.size ≤ maxLen) (a b : Nat) (ha8 : a ≤ 255) (hb8 : b ≤ 255) (w : World) (hr : Rd w A (t.flatMap ndC)) (hr2 : Rd w B (l.flatMap pvC)) (hrp : ∀ x ∈ l, Rd w x.A (x.p.s.map (.float .f32))) (hsh : Sh w) (hP : Pw w) : Calls Tryz.prog 11 #[.slice A t.length c, .slice B l.length c2, .agg #[.int .u8 ((a : Nat) : Int), .int .u8 ((b : Nat) : Int)]] w fun r w' => r = .returned (.bool true) ∧ Below w.heap.size w w' := by
  refine i7 n9 Tryz.func11 rfl Tryz.ntmps11 (Nat.le_of_ble_eq_true rfl) rfl ?_
  cases hS : shT t
  rotate_left 1
  have hl : t.length ≤ 1000000 := by have := bq2 hS; omega
  obtain ⟨bad, hbad⟩ : ∃ e, trE t = e := ⟨_, rfl⟩
  by_cases hC : bad = 0
  subst hC
  by_cases h7 : t.length ≤ 7
  cases hK : shortPs l
  rotate_left 1
  have hsp := aD0 hK
  have hl2 : l.length ≤ 1000000 := by omega
  have hsz : ∀ x ∈ l, x.p.s.length ≤ 1000000 := fun x hx => by have := (hsp.2 x hx).2; omega
  obtain ⟨pe, hpe⟩ : ∃ e, pcE t l = e := ⟨_, rfl⟩
  by_cases hD : pe = 0
  rotate_left 1
  iterate 5
    · repeat' (first
|(refine j7 ?_; first
|refine e8 ?_
|refine a6 rfl ?_
|refine i6 ?_
|refine o5 rfl obQ ?_)
|(refine k6 ?_; first
|((with_reducible (first | refine r3 ?_ ?_ | refine q6 ?_ ?_ | refine q9 ?_ ?_ | refine q8 ?_ ?_ | refine q7 ?_ ?_)); · (first | rfl | omega | exact decide_eq_false (by omega) | exact bne_eq_false_iff_eq.2 (by omega) | exact beq_eq_false_iff_ne.2 (by omega)))
|((with_reducible refine A7 ?_ ?_ ?_); (· rfl); (· first | rfl | (first | rfl | omega | exact decide_eq_false (by omega) | exact bne_eq_false_iff_eq.2 (by omega) | exact beq_eq_false_iff_ne.2 (by omega))))
|((with_reducible (first | refine y3 ?_ ?_ | refine x7 ?_ ?_ | refine x9 ?_ ?_ | refine y4 ?_ ?_ | refine x8 ?_ ?_)); · (first | rfl | assumption | omega | exact decide_eq_true (by omega) | exact beq_self_eq_true _ | exact bne_iff_ne.2 (by assumption) | exact beq_iff_eq.2 (by omega)))
|refine w8 rfl rfl rfl rfl ?_
|refine B4 (.v (.bool false)) rfl rfl rfl rfl rfl ?_
|refine E7 rfl obQ ?_
|refine e7 ?_
|refine k7 (fun bz => ⟨_, _, rfl, obQ, ?_⟩)
|refine a8 (f := 17) rfl obQ (by kernel_rfl) (fun w hw => at5 w (r7 hsh hw memQ) (I8 hP hw memQ)) ?_
|refine a8 (f := 27) rfl obQ (by kernel_rfl) (fun w hw => ai8 hS hm (hw.rdm hr.toS memQ)) ?_
|refine a8 (f := 32) rfl obQ (by kernel_rfl) (fun w hw => ad7 hbad hl (hw.rdm hr.toS memQ)) ?_
|refine a8 (f := 52) rfl obQ (by kernel_rfl) (fun w hw => ae3 B c2 l hm2 _ hK w (hw.rdm hr2.toS memQ)) ?_
|refine a8 (f := 68) rfl obQ (by kernel_rfl) (fun w hw => au9 hpe hl hl2 hsz hnz (hw.rdm hr.toS memQ) (hw.rdm hr2.toS memQ) (fun x hx => hw.rdm (hrp x hx).toS memQ)) ?_)
|refine a7 ?_
|refine j6 ?_
|refine j4 rfl obQ (fun w hw => ⟨?_, hw.below⟩))
      all_goals rfl
  subst hD
  have ht := G2.1 hbad
  have hp := ab6.1 hpe
  have h0 : 0 < l.length := hp.n.1
  obtain ⟨W, H, hW, hH⟩ := bA7 hp
  obtain ⟨ad2, rfl⟩ := hr2.some (by rw [M5]; omega)
  obtain ⟨s1, hs1⟩ : ∃ s, (tlL t l W 0 W 0 H).map smp = s := ⟨_, rfl⟩
  obtain ⟨hV1, hV1p⟩ := bp3 ht hp hW hH
  rw [hs1] at hV1 hV1p
  obtain ⟨pt, hpt⟩ : ∃ x, prF t = x := ⟨_, rfl⟩
  have hV2 : pruR t = (pt, 0) := by rw [← hpt]; exact if_pos (G2.2 ht)
  have hV2p : pruR pt = (pt, 0) := by
    have e : pruR (prF t) = (prF (prF t), 0) := if_pos (G2.2 (ak7 ht))
    rw [aV5 ht, hpt] at e
    exact e
  obtain ⟨ka, hka⟩ : ∃ x, scI t = x := ⟨_, rfl⟩
  obtain ⟨kb, hkb⟩ : ∃ x, scI pt = x := ⟨_, rfl⟩
  have hV3 : soR t = (ka, 0) := by rw [← hka]; exact if_pos (G2.2 ht)
  have hpto : TrOk pt := by rw [← hpt]; exact ak7 ht
  have hV3p : soR pt = (kb, 0) := by rw [← hkb]; exact if_pos (G2.2 hpto)
  have hkl : kb.length ≤ ka.length := by rw [← hka, ← hkb, ← hpt]; exact bq1 ht
  have hptl : pt.length ≤ t.length := by rw [← hpt]; exact bo9 t
  have hkp : pt.length ≤ 1000000 := by omega
  have hpt0 := G2.2 hpto
  rw [hpt] at hV1p
  have hpo : PicOk ⟨(gQ l 0).p.nm, (W : Int), (H : Int), s1⟩ := by
    have hqw := (hp.s _ (B3 h0)).w
    have hqh := (hp.s _ (B3 h0)).h
    rw [hW] at hqw
    rw [hH] at hqh
    have := aW1 (xa := 0) (ya := 0) ht hp hW hH (show 0 < W by omega) (Nat.le_refl _) (show 0 < H by omega) (Nat.le_refl _)
    rw [← hs1]
    have e : tiP t l W 0 W 0 H = ⟨(gQ l 0).p.nm, (W : Int), (H : Int), (tlL t l W 0 W 0 H).map smp⟩ := by
      unfold tiP tiH wiP
      dsimp only
      rw [show (W : Int) - ((0 : Nat) : Int) = W by omega, show (H : Int) - ((0 : Nat) : Int) = H by omega]
    rwa [e] at this
  have hpc := Kp.mk (aa0.2 hpo)
  have hfc := av4 hpo
  have hs4 : s1.length ≤ 4096 := (F8 hpo).1
  have hs0 : 0 < s1.length := (F8 hpo).2
  have hs6 : s1.length ≤ 1000000 := by omega
  have hnm : (gQ l 0).p.nm.size ≤ maxLen := hnz _ (B3 h0)
  have hWH1 := hpo.w
  have hWH2 := hpo.h
  have hW1 : 1 ≤ W ∧ W ≤ 64 := by have := hpo.w; simp only at this; omega
  have hH1 : 1 ≤ H ∧ H ≤ 64 := by have := hpo.h; simp only at this; omega
  clear hWH1 hWH2
  have hyw : (W : Int) = (gQ l 0).p.w := hW.symm
  have hyh : (H : Int) = (gQ l 0).p.h := hH.symm
  have hWHn : W * H = s1.length := by
    have h := hpo.n
    have h2 : (s1.length : Int) = ((W * H : Nat) : Int) := by rw [Int.natCast_mul]; exact h
    exact (Int.ofNat.inj h2).symm
  obtain ⟨col, hcol⟩ : ∃ x, a % W = x := ⟨_, rfl⟩
  obtain ⟨row, hrow⟩ : ∃ x, b % H = x := ⟨_, rfl⟩
  have hcolW : col < W := by rw [← hcol]; exact Nat.mod_lt _ (by omega)
  have hrowH : row < H := by rw [← hrow]; exact Nat.mod_lt _ (by omega)
  obtain ⟨rr, hrr⟩ : ∃ x, rgN t (gR (rnL l)) t.length = x := ⟨_, rfl⟩
  have hV5 : rgR t (rnL l) = (rr, 0) := by rw [← hrr]; exact bx6 ht hp
  have hrrn : Kp (rr.length = t.length) := ⟨by rw [← hrr, M9]⟩
  obtain ⟨lc, hlc⟩ : ∃ x, tlL t l W 0 W 0 H = x := ⟨_, rfl⟩
  have hlcb : ∀ n ∈ lc, -16384 ≤ n ∧ n ≤ 16384 := by rw [← hlc]; exact an2.1 (aU8 ht hp hW hH (Nat.le_refl _) (Nat.le_refl _))
  have hlvc : lvs ⟨(gQ l 0).p.nm, (W : Int), (H : Int), s1⟩ = lc := by rw [← hs1, hlc]; exact aZ4 hlcb
  have hlcn : Kp (lc.length = s1.length) := ⟨by rw [← hs1, List.length_map, hlc]⟩
  have hrin := bw4 ht hp hW hH
  rw [hrr, hlc] at hrin
  have ht0 := ht.n.1
  replace hWHn := Kp.mk hWHn
  replace hbad := Kp.mk hbad
  replace hpe := Kp.mk hpe
  replace hpt0 := Kp.mk hpt0
  repeat' (first
|refine e8 ?_
|refine r9 1 rfl rfl ?_
|refine e7 ?_
|refine q4 rfl rfl obQ obQ ?_
|refine k7 (fun b5 => ⟨_, _, rfl, obQ, ?_⟩)
|refine a7 ?_)
  repeat' (first
|(refine j7 ?_; first
|refine e8 ?_
|refine r9 3 rfl rfl ?_
|refine j3 ?_
|refine n7 rfl obQ ?_)
|(refine k6 ?_; first
|((with_reducible (first | refine r3 ?_ ?_ | refine q6 ?_ ?_ | refine q9 ?_ ?_ | refine q8 ?_ ?_ | refine q7 ?_ ?_)); · (first | rfl | omega | exact decide_eq_false (by omega) | exact bne_eq_false_iff_eq.2 (by omega) | exact beq_eq_false_iff_ne.2 (by omega)))
|((with_reducible refine A7 ?_ ?_ ?_); (· rfl); (· first | rfl | (first | rfl | omega | exact decide_eq_false (by omega) | exact bne_eq_false_iff_eq.2 (by omega) | exact beq_eq_false_iff_ne.2 (by omega))))
|refine w8 rfl rfl rfl rfl ?_
|refine E7 rfl obQ ?_
|refine e7 ?_
|refine a8 (f := 27) rfl obQ (by kernel_rfl) (fun w hw => ai8 hS hm (hw.rdm hr.toS memQ)) ?_
|refine a8 (f := 32) rfl obQ (by kernel_rfl) (fun w hw => ad7 hbad.h hl (hw.rdm hr.toS memQ)) ?_
|refine a8 (f := 52) rfl obQ (by kernel_rfl) (fun w hw => ae3 (some ad2) c2 l hm2 _ hK w (hw.rdm hr2.toS memQ)) ?_
|refine a8 (f := 68) rfl obQ (by kernel_rfl) (fun w hw => au9 hpe.h hl hl2 hsz hnz (hw.rdm hr.toS memQ) (hw.rdm hr2.toS memQ) (fun x hx => hw.rdm (hrp x hx).toS memQ)) ?_)
|refine a7 ?_)
  repeat' (first
|refine e8 ?_
|refine r9 4 rfl rfl ?_
|(refine k6 ?_; first
|(refine j5 (f := 29) rfl obQ (by kernel_rfl) (fun w hw => G5 A c t hl w (hw.rdm hr.toS memQ)) (fun w1N w2N vN hw1N hbN hRN => ?_); obtain ⟨AN, cN, rfl, hcN, hSN⟩ := hRN; clear hw1N hbN)
|(refine j5 (f := 66) rfl obQ (by kernel_rfl) (fun w hw => P3 (some ad2) c2 l hl2 hsz hAs w (hw.rdm hr2.toS memQ) (fun x hx => hw.rdm (hrp x hx).toS memQ)) (fun w1I w2I vI hw1I hbI hRI => ?_); obtain ⟨AI, cI, lI, rfl, hmI, hSI, hEI⟩ := hRI; clear hw1I hbI)
|(refine j5 (f := 65) rfl obQ (by kernel_rfl) (fun w hw => ac2 hV1 hmI rfl hl hl2 hsz (hw.rdm hSN memQ) (hw.rdm hSI memQ) (fun x hx => hw.rdm (hEI x hx) memQ) (r7 hsh hw memQ)) (fun w1P w2P vP hw1P hbP hRP => ?_); obtain ⟨AP, cP, rfl, hSP⟩ := hRP; clear hw1P hbP)
|refine e7 ?_
|refine q4 rfl rfl obQ obQ ?_
|refine k7 (fun b7 => ⟨_, _, rfl, obQ, ?_⟩))
|refine a7 ?_)
  repeat' (first
|refine e8 ?_
|refine a6 rfl ?_
|(refine k6 ?_; first
|(refine j5 (f := 29) rfl obQ (by kernel_rfl) (fun w hw => G5 A c t hl w (hw.rdm hr.toS memQ)) (fun w1X w2X vX hw1X hbX hRX => ?_); obtain ⟨AX, cX, rfl, hcX, hSX⟩ := hRX; clear hw1X hbX)
|(refine j5 (f := 44) rfl obQ (by kernel_rfl) (fun w hw => ah5 hV2 hl (hw.rdm hSX memQ) (r7 hsh hw memQ)) (fun w1Q w2Q vQ hw1Q hbQ hRQ => ?_); obtain ⟨AQ, cQ, rfl, hSQ⟩ := hRQ; clear hw1Q hbQ)
|refine e7 ?_
|refine q4 rfl rfl obQ obQ ?_)
|refine a7 ?_)
  repeat' (first
|(refine j7 ?_; first
|refine e8 ?_
|refine j3 ?_
|refine n8 (id := 5) 50 [(0, true), (1, false), (2, true), (3, true), (4, false), (5, true), (6, true), (7, true), (8, false), (9, false), (10, false), (11, true), (12, true), (13, true), (14, true), (15, true), (16, true), (17, true), (18, true), (19, false), (20, true), (21, true), (22, true), (23, true), (24, true), (25, true), (26, true), (27, true), (28, false), (29, true), (30, true), (31, true), (32, true), (33, true), (34, true), (35, true), (36, true), (37, false), (38, true), (39, true), (40, true), (41, false), (42, false), (43, false), (44, true), (45, true), (46, true), (47, true), (48, true), (49, true)] rfl mixed (by kernel_rfl) rfl ?_
|refine n7 rfl obQ ?_)
|(refine k6 ?_; first
|((with_reducible (first | refine r3 ?_ ?_ | refine q6 ?_ ?_ | refine q9 ?_ ?_ | refine q8 ?_ ?_ | refine q7 ?_ ?_)); · (first | rfl | omega | exact decide_eq_false (by omega) | exact bne_eq_false_iff_eq.2 (by omega) | exact beq_eq_false_iff_ne.2 (by omega) | exact bne_eq_false_iff_eq.2 hyw | exact bne_eq_false_iff_eq.2 hyh))
|((with_reducible refine A7 ?_ ?_ ?_); (· rfl); (· first | rfl | (first | rfl | omega | exact decide_eq_false (by omega) | exact bne_eq_false_iff_eq.2 (by omega) | exact beq_eq_false_iff_ne.2 (by omega) | exact bne_eq_false_iff_eq.2 hyw | exact bne_eq_false_iff_eq.2 hyh)))
|refine w8 rfl rfl rfl rfl ?_
|((with_reducible refine bh3 ?_ ?_); · rfl)
|refine E7 rfl obQ ?_
|(refine j5 (f := 37) rfl obQ (by kernel_rfl) (fun w hw => P9 AQ cQ pt hkp w (hw.rdm hSQ memQ)) (fun w1U w2U vU hw1U hbU hRU => ?_); obtain ⟨AU, cU, rfl, hcU, hSU⟩ := hRU; clear hw1U hbU)
|refine e7 ?_
|refine a8 (f := 72) rfl obQ (by kernel_rfl) (fun w hw => R0 ⟨(gQ l 0).p.nm, (W : Int), (H : Int), s1⟩ AP cP w) ?_
|refine a8 (f := 60) rfl obQ (by kernel_rfl) (fun w hw => aS3 hpc.h (by show s1.length ≤ 1000000; exact hs6) hnm (hw.rdm hSP memQ)) ?_
|refine a8 (f := 32) rfl obQ (by kernel_rfl) (fun w hw => ad7 hpt0.h hkp (hw.rdm hSU memQ)) ?_)
|(refine N2 ?_; first
|refine r5 ?_
|refine V_q rfl (aa8 rfl rfl rfl (q3 rfl obQ rfl [.string (gQ l 0).p.nm] (.past (w, fun b => b < w.heap.size) memQ _ _ hr2.toS (Int.toNat 0 * 4 + 0) _ rfl (by first | exact n3 _ _ _ | rfl) (J3 (l := l) (k := 0) rfl h0 0 rfl)) rfl (.inr ⟨rfl, rfl⟩))) ?_
|refine V_q rfl (aa8 rfl rfl rfl (q3 rfl obQ rfl [.int .i64 (gQ l 0).p.w] (.past (w, fun b => b < w.heap.size) memQ _ _ hr2.toS (Int.toNat 0 * 4 + 1) _ rfl (by first | exact n3 _ _ _ | rfl) (J3 (l := l) (k := 0) rfl h0 1 rfl)) rfl (.inr ⟨rfl, rfl⟩))) ?_
|refine V_q rfl (aa8 rfl rfl rfl (q3 rfl obQ rfl [.int .i64 (gQ l 0).p.h] (.past (w, fun b => b < w.heap.size) memQ _ _ hr2.toS (Int.toNat 0 * 4 + 2) _ rfl (by first | exact n3 _ _ _ | rfl) (J3 (l := l) (k := 0) rfl h0 2 rfl)) rfl (.inr ⟨rfl, rfl⟩))) ?_
|refine V_q rfl (aa8 rfl rfl rfl (k8 rfl obQ)) ?_
|refine V_q rfl (k8 rfl obQ) ?_
|refine V_n rfl ?_)
|refine G_V ⟨⟨_, rfl, trivial⟩, ⟨_, rfl⟩, rfl, pstQ⟩ rfl ?_
|refine a7 ?_)
  repeat' (first
|refine e8 ?_
|refine n8 (id := 7) 13 [(0, true), (1, true), (2, true), (3, true), (4, true), (5, true), (6, true), (7, true), (8, true), (9, true), (10, true), (11, true), (12, true)] rfl mixed (by kernel_rfl) rfl ?_
|refine e7 ?_
|refine q4 rfl rfl obQ obQ ?_
|refine r5 ?_
|refine V_q rfl (k8 rfl obQ) ?_
|refine a7 ?_)
  refine aT1 11 rfl (show Value.int .i64 ((a : Int) % (W : Int)) = .int .i64 ((col : Nat) : Int) by rw [← hcol, Int.natCast_emod]) ?_
  refine aT1 12 rfl (show Value.int .i64 ((b : Int) % (H : Int)) = .int .i64 ((row : Nat) : Int) by rw [← hrow, Int.natCast_emod]) ?_
  repeat' (first
|refine a6 rfl ?_
|refine j1 ?_
|refine e7 ?_
|refine q4 rfl rfl obQ obQ ?_
|refine j9 (fun b => ⟨_, _, rfl, obQ, ?_⟩)
|refine a7 ?_)
  obtain ⟨bs, rfl⟩ : ∃ z, z = b := ⟨b, rfl⟩
  refine aw6 147 2 2 (bx' := [_, _]) rfl rfl rfl rfl (by unfold maxLen; omega) ?_
  refine ak6 rfl rfl rfl (fun W1 S1 hs1_ => ?_)
  replace hs1_ : RdS S1 W1 (some ⟨bs, 0, none⟩) [.int .i64 0, .int .i64 ((col : Nat) : Int), .int .i64 ((col : Nat) : Int), .int .i64 ((W : Nat) : Int)] := hs1_
  refine az1 (Ps' := [(W1, S1), (w2Q, fun b => w1Q.heap.size ≤ b ∧ b < w2Q.heap.size), (w2P, fun b => w1P.heap.size ≤ b ∧ b < w2P.heap.size), (w, fun b => b < w.heap.size)]) (fun i : Nat => ⟨[(149, .s (.v (.int .i64 i))), (148, .s (.v (.int .i64 2))), (147, .s (.r (some ⟨bs, 0, none⟩) 2 2 0)), (12, .s (.v (.int .i64 ((row : Nat) : Int)))), (7, .s (.p b7 1 0)), (9, .s (.v (.slice AQ pt.length cQ))), (0, .s (.v (.slice A t.length c))), (1, .s (.v (.slice (some ad2) l.length c2)))], [⟨b5, 59, [.v (.int .u8 ((a : Nat) : Int)), .v (.int .u8 ((b : Nat) : Int))]⟩, ⟨b7, 70, [.v (.string (gQ l 0).p.nm), .v (.int .i64 (W : Int)), .v (.int .i64 (H : Int)), .v (.slice AP s1.length cP)]⟩], []⟩) (fun i => i ≤ 2) (fun i => 2 - i) 0 (Nat.zero_le _) ?_ (fun i hi => ?_)
  · exact ⟨⟨_, rfl, obQ⟩, ⟨_, rfl⟩, rfl, psQ⟩
  by_cases hlt : i < 2
  · obtain ⟨xa, xb, hxd, hxi⟩ := aR6 hcolW hlt
    repeat' (first
|(refine j7 ?_; first
|refine e8 ?_
|refine r9 11 rfl rfl ?_
|refine j1 ?_
|refine j3 ?_
|refine o5 rfl obQ ?_)
|(refine k6 ?_; first
|((with_reducible (first | refine y3 ?_ ?_ | refine x7 ?_ ?_ | refine x9 ?_ ?_ | refine y4 ?_ ?_ | refine x8 ?_ ?_)); · (first | rfl | assumption | omega | exact decide_eq_true (by omega) | exact beq_self_eq_true _ | exact bne_iff_ne.2 (by assumption) | exact beq_iff_eq.2 (by omega)))
|refine n4 rfl obQ rfl [.int .i64 ((xa : Nat) : Int), .int .i64 ((xb : Nat) : Int)] (.past (W1, S1) memQ _ _ hs1_ _ ⟨bs, 0, none⟩ rfl rfl hxi) rfl (.inl ⟨rfl, rfl⟩) ?_
|refine e7 ?_
|refine q4 rfl rfl obQ obQ ?_
|refine k7 (fun b14 => ⟨_, _, rfl, obQ, ?_⟩))
|refine a7 ?_)
    repeat' (first
|refine a6 rfl ?_
|refine j1 ?_
|refine e7 ?_
|refine q4 rfl rfl obQ obQ ?_
|refine j9 (fun b => ⟨_, _, rfl, obQ, ?_⟩)
|refine a7 ?_)
    obtain ⟨bt, rfl⟩ : ∃ z, z = b := ⟨b, rfl⟩
    refine aw6 159 2 2 (bx' := [_, _, _]) rfl rfl rfl rfl (by unfold maxLen; omega) ?_
    refine ak6 rfl rfl rfl (fun W2 S2 hs2_ => ?_)
    replace hs2_ : RdS S2 W2 (some ⟨bt, 0, none⟩) [.int .i64 0, .int .i64 ((row : Nat) : Int), .int .i64 ((row : Nat) : Int), .int .i64 ((H : Nat) : Int)] := hs2_
    refine az1 (Ps' := [(W2, S2), (W1, S1), (w2Q, fun b => w1Q.heap.size ≤ b ∧ b < w2Q.heap.size), (w2P, fun b => w1P.heap.size ≤ b ∧ b < w2P.heap.size), (w, fun b => b < w.heap.size)]) (fun k : Nat => ⟨[(161, .s (.v (.int .i64 k))), (160, .s (.v (.int .i64 2))), (159, .s (.r (some ⟨bt, 0, none⟩) 2 2 0)), (14, .s (.p b14 2 0)), (149, .s (.v (.int .i64 i))), (148, .s (.v (.int .i64 2))), (147, .s (.r (some ⟨bs, 0, none⟩) 2 2 0)), (12, .s (.v (.int .i64 ((row : Nat) : Int)))), (7, .s (.p b7 1 0)), (9, .s (.v (.slice AQ pt.length cQ))), (0, .s (.v (.slice A t.length c))), (1, .s (.v (.slice (some ad2) l.length c2)))], [⟨b5, 59, [.v (.int .u8 ((a : Nat) : Int)), .v (.int .u8 ((b : Nat) : Int))]⟩, ⟨b7, 70, [.v (.string (gQ l 0).p.nm), .v (.int .i64 (W : Int)), .v (.int .i64 (H : Int)), .v (.slice AP s1.length cP)]⟩, ⟨b14, 108, [.v (.int .i64 ((xa : Nat) : Int)), .v (.int .i64 ((xb : Nat) : Int))]⟩], []⟩) (fun k => k ≤ 2) (fun k => 2 - k) 0 (Nat.zero_le _) ?_ (fun k hk => ?_)
    · exact ⟨⟨_, rfl, obQ⟩, ⟨_, rfl⟩, rfl, psQ⟩
    by_cases hlk : k < 2
    · obtain ⟨ya, yb, hyd, hyi⟩ := aR6 hrowH hlk
      repeat' (first
|(refine j7 ?_; first
|refine e8 ?_
|refine a6 rfl ?_
|refine j1 ?_
|refine j3 ?_
|refine o5 rfl obQ ?_)
|(refine k6 ?_; first
|((with_reducible (first | refine y3 ?_ ?_ | refine x7 ?_ ?_ | refine x9 ?_ ?_ | refine y4 ?_ ?_ | refine x8 ?_ ?_)); · (first | rfl | assumption | omega | exact decide_eq_true (by omega) | exact beq_self_eq_true _ | exact bne_iff_ne.2 (by assumption) | exact beq_iff_eq.2 (by omega)))
|refine n4 rfl obQ rfl [.int .i64 ((ya : Nat) : Int), .int .i64 ((yb : Nat) : Int)] (.past (W2, S2) memQ _ _ hs2_ _ ⟨bt, 0, none⟩ rfl rfl hyi) rfl (.inl ⟨rfl, rfl⟩) ?_
|refine e7 ?_
|refine q4 rfl rfl obQ obQ ?_
|refine k7 (fun b16 => ⟨_, _, rfl, obQ, ?_⟩))
|refine a7 ?_)
      obtain ⟨yt, et, hVt⟩ : ∃ y e, tlR t l xa xb ya yb = (y, e) := ⟨_, _, rfl⟩
      refine C8 (fun U : SlA (yt.s.map (.float .f32)) × Nat => ([U.1.ps, (W2, S2), (W1, S1), (w2Q, fun b => w1Q.heap.size ≤ b ∧ b < w2Q.heap.size), (w2P, fun b => w1P.heap.size ≤ b ∧ b < w2P.heap.size), (w, fun b => b < w.heap.size)], (⟨[(161, .s (.v (.int .i64 k))), (160, .s (.v (.int .i64 2))), (159, .s (.r (some ⟨bt, 0, none⟩) 2 2 0)), (14, .s (.p b14 2 0)), (149, .s (.v (.int .i64 i))), (148, .s (.v (.int .i64 2))), (147, .s (.r (some ⟨bs, 0, none⟩) 2 2 0)), (12, .s (.v (.int .i64 ((row : Nat) : Int)))), (7, .s (.p b7 1 0)), (9, .s (.v (.slice AQ pt.length cQ))), (0, .s (.v (.slice A t.length c))), (1, .s (.v (.slice (some ad2) l.length c2))), (16, .s (.p b16 3 0)), (17, .s (.p U.2 4 0)), (18, .s (.v (.int .i64 et)))], [⟨b5, 59, [.v (.int .u8 ((a : Nat) : Int)), .v (.int .u8 ((b : Nat) : Int))]⟩, ⟨b7, 70, [.v (.string (gQ l 0).p.nm), .v (.int .i64 (W : Int)), .v (.int .i64 (H : Int)), .v (.slice AP s1.length cP)]⟩, ⟨b14, 108, [.v (.int .i64 ((xa : Nat) : Int)), .v (.int .i64 ((xb : Nat) : Int))]⟩, ⟨b16, 108, [.v (.int .i64 ((ya : Nat) : Int)), .v (.int .i64 ((yb : Nat) : Int))]⟩, ⟨U.2, 70, [.v (.string yt.nm), .v (.int .i64 yt.w), .v (.int .i64 yt.h), .v (.slice U.1.A yt.s.length U.1.c)]⟩], []⟩ : St))) ?_ (fun U => ?_)
      · repeat' (first
|refine F1 (id := 14) 12 (.q 0 (.q 2 (.q 4 (.q 5 (.two 1 10 (.two 3 10 (.two 6 10 (.q 7 (.q 8 (.q 9 (.n 10 (.n 11 .nil))))) (.n 6 (.q 7 (.q 8 (.q 9 (.n 11 .nil)))))) (.n 3 (.n 6 (.q 7 (.q 8 (.q 9 (.n 11 .nil))))))) (.n 1 (.n 3 (.n 6 (.q 7 (.q 8 (.q 9 (.n 11 .nil)))))))))))) rfl mixed (by kernel_rfl) rfl ?_
|(refine k6 ?_; first
|(refine j5 (f := 29) rfl obQ (by kernel_rfl) (fun w hw => G5 A c t hl w (hw.rdm hr.toS memQ)) (fun w1N w2N vN hw1N hbN hRN => ?_); obtain ⟨AN, cN, rfl, hcN, hSN⟩ := hRN; clear hw1N hbN)
|(refine j5 (f := 66) rfl obQ (by kernel_rfl) (fun w hw => P3 (some ad2) c2 l hl2 hsz hAs w (hw.rdm hr2.toS memQ) (fun x hx => hw.rdm (hrp x hx).toS memQ)) (fun w1I w2I vI hw1I hbI hRI => ?_); obtain ⟨AI, cI, lI, rfl, hmI, hSI, hEI⟩ := hRI; clear hw1I hbI)
|(refine j5 (f := 67) rfl obQ (by kernel_rfl) (fun w hw => bb6 hVt hmI rfl hl hl2 hsz (hw.rdm hSN memQ) (hw.rdm hSI memQ) (fun x hx => hw.rdm (hEI x hx) memQ) (r7 hsh hw memQ)) (fun w1T w2T vT hw1T hbT hRT => ?_); obtain ⟨AT, cT, rfl, hST⟩ := hRT; clear hw1T hbT)
|refine e7 ?_
|refine q4 rfl rfl obQ obQ ?_
|refine k7 (fun b17 => ⟨_, _, rfl, obQ, ?_⟩))
|(refine A9 ?_; first
|refine w5 ?_
|refine B5 rfl (k8 rfl obQ) ?_
|refine D9 rfl ?_
|refine w4 rfl rfl ?_ ?_)
|refine A8 ⟨_, rfl⟩ ⟨_, rfl⟩ pstQ rfl ?_
|refine aY9 (⟨w1T, w2T, AT, cT, hST⟩, b17) ⟨_, rfl, obQ⟩ slB rfl psQ)
      obtain ⟨⟨v1, v2, AT, cT, hST⟩, b17⟩ := U
      dsimp only [SlA.ps]
      by_cases hz : xb = 0 ∨ yb = 0
      · obtain ⟨rfl, rfl⟩ := Prod.mk.inj (hVt.symm.trans (bu4 ht hp hW hH hxd hyd hz))
        by_cases hz1 : xb = 0
        · subst hz1
          repeat' (first
|(refine j7 ?_; first
|refine e8 ?_
|refine a6 rfl ?_
|refine j3 ?_
|refine o0 ?_
|refine o5 rfl obQ ?_
|refine n7 rfl obQ ?_)
|(refine k6 ?_; first
|((with_reducible (first | refine r3 ?_ ?_ | refine q6 ?_ ?_ | refine q9 ?_ ?_ | refine q8 ?_ ?_ | refine q7 ?_ ?_)); · (first | rfl | omega | exact decide_eq_false (by omega) | exact bne_eq_false_iff_eq.2 (by omega) | exact beq_eq_false_iff_ne.2 (by omega)))
|((with_reducible (first | refine y3 ?_ ?_ | refine x7 ?_ ?_ | refine x9 ?_ ?_ | refine y4 ?_ ?_ | refine x8 ?_ ?_)); · (first | rfl | assumption | omega | exact decide_eq_true (by omega) | exact beq_self_eq_true _ | exact bne_iff_ne.2 (by assumption) | exact beq_iff_eq.2 (by omega)))
|refine w8 rfl rfl rfl rfl ?_
|refine B4 (.v (.bool false)) rfl rfl rfl rfl rfl ?_
|refine E7 rfl obQ ?_
|refine e7 ?_)
|(refine o8 ?_; first
|refine o6 (k + 1) (show k + 1 ≤ 2 by omega) (by omega) svQ
|refine a7 ?_
|refine n2 ?_
|refine n6 ?_))
        · obtain rfl : yb = 0 := by omega
          repeat' (first
|(refine j7 ?_; first
|refine e8 ?_
|refine a6 rfl ?_
|refine j3 ?_
|refine o0 ?_
|refine o5 rfl obQ ?_
|refine n7 rfl obQ ?_)
|(refine k6 ?_; first
|((with_reducible (first | refine r3 ?_ ?_ | refine q6 ?_ ?_ | refine q9 ?_ ?_ | refine q8 ?_ ?_ | refine q7 ?_ ?_)); · (first | rfl | omega | exact decide_eq_false (by omega) | exact bne_eq_false_iff_eq.2 (by omega) | exact beq_eq_false_iff_ne.2 (by omega)))
|((with_reducible (first | refine y3 ?_ ?_ | refine x7 ?_ ?_ | refine x9 ?_ ?_ | refine y4 ?_ ?_ | refine x8 ?_ ?_)); · (first | rfl | assumption | omega | exact decide_eq_true (by omega) | exact beq_self_eq_true _ | exact bne_iff_ne.2 (by assumption) | exact beq_iff_eq.2 (by omega)))
|refine w8 rfl rfl rfl rfl ?_
|refine B4 (.v (.bool false)) rfl rfl rfl rfl rfl ?_
|refine E7 rfl obQ ?_
|refine e7 ?_)
|(refine o8 ?_; first
|refine o6 (k + 1) (show k + 1 ≤ 2 by omega) (by omega) svQ
|refine a7 ?_
|refine n2 ?_
|refine n6 ?_))
      · obtain ⟨s2, hcr, hV2t, hyo⟩ := bs8 ht hp hW hH hxd hyd (by omega) (by omega) hs1
        obtain ⟨g1, g2⟩ := (T5 hxd (by omega)).2
        obtain ⟨g3, g4⟩ := (T5 hyd (by omega)).2
        have hpy := Kp.mk (aa0.2 hyo)
        have hfy := av4 hyo
        have hly := (F8 hyo).1
        replace hly : s2.length ≤ 1000000 := by show _ ≤ _; exact Nat.le_trans hly (by decide)
        obtain ⟨rfl, rfl⟩ := Prod.mk.inj (hVt.symm.trans hV2t)
        repeat' (first
|(refine j7 ?_; first
|refine e8 ?_
|refine a6 rfl ?_
|refine j3 ?_
|refine n8 (id := 18) 15 [(0, true), (1, false), (2, true), (3, true), (4, false), (5, false), (6, false), (7, true), (8, true), (9, true), (11, true), (13, true), (14, true), (10, false), (12, false)] rfl mixed (by kernel_rfl) rfl ?_
|refine n7 rfl obQ ?_)
|(refine k6 ?_; first
|((with_reducible (first | refine r3 ?_ ?_ | refine q6 ?_ ?_ | refine q9 ?_ ?_ | refine q8 ?_ ?_ | refine q7 ?_ ?_)); · (first | rfl | omega | exact decide_eq_false (by omega) | exact bne_eq_false_iff_eq.2 (by omega) | exact beq_eq_false_iff_ne.2 (by omega)))
|((with_reducible refine A7 ?_ ?_ ?_); (· rfl); (· first | rfl | (first | rfl | omega | exact decide_eq_false (by omega) | exact bne_eq_false_iff_eq.2 (by omega) | exact beq_eq_false_iff_ne.2 (by omega))))
|refine w8 rfl rfl rfl rfl ?_
|refine E7 rfl obQ ?_
|(refine j5 (f := 84) rfl obQ (by kernel_rfl) (fun w hw => at1 (p := ⟨(gQ l 0).p.nm, (W : Int), (H : Int), s1⟩) (cw := xb - xa) (ch := yb - ya) (by omega) (by omega) hcr rfl (by show s1.length ≤ 4096; omega) (by omega) (by omega) (by omega) (fun x y h3 h4 => bz3 hWHn.h hxd hyd (by omega) (by omega) h3 h4) (hw.rdm hSP memQ)) (fun w1Y w2Y vY hw1Y hbY hRY => ?_); obtain ⟨AY, cY, rfl, hSY⟩ := hRY; clear hw1Y hbY)
|refine e7 ?_
|refine a8 (f := 72) rfl obQ (by kernel_rfl) (fun w hw => R0 ⟨(gQ l 0).p.nm, ((xb - xa : Nat) : Int), ((yb - ya : Nat) : Int), s2⟩ AT cT w) ?_
|refine a8 (f := 72) rfl obQ (by kernel_rfl) (fun w hw => R0 ⟨(gQ l 0).p.nm, (W : Int), (H : Int), s1⟩ AP cP w) ?_
|refine a8 (f := 60) rfl obQ (by kernel_rfl) (fun w hw => aS3 hpy.h (by show s2.length ≤ 1000000; exact hly) hnm (hw.rdm hST memQ)) ?_
|refine a8 (f := 73) rfl obQ (by kernel_rfl) (fun w hw => as3 ⟨(gQ l 0).p.nm, ((xb - xa : Nat) : Int), ((yb - ya : Nat) : Int), s2⟩ AT AY cT cY (by show s2.length ≤ 1000000; exact hly) hfy w (hw.rdm hST memQ) (hw.rdm hSY memQ)) ?_)
|(refine N2 ?_; first
|refine r5 ?_
|refine V_q rfl (aa8 rfl rfl rfl (k8 rfl obQ)) ?_
|refine V_q rfl (k8 rfl obQ) ?_
|refine V_n rfl ?_)
|(refine o8 ?_; first
|refine G_V ⟨⟨_, rfl, trivial⟩, ⟨_, rfl⟩, rfl, pstQ⟩ rfl ?_
|refine o6 (k + 1) (show k + 1 ≤ 2 by omega) (by omega) svQ
|refine a7 ?_
|refine n5 ?_))
    · obtain rfl : k = 2 := by omega
      repeat' (first
|(refine j7 ?_; first
|refine e8 ?_
|refine a6 rfl ?_
|refine o0 ?_
|refine n7 rfl obQ ?_)
|((with_reducible (first | refine r3 ?_ ?_ | refine q6 ?_ ?_ | refine q9 ?_ ?_ | refine q8 ?_ ?_ | refine q7 ?_ ?_)); · (first | rfl | omega | exact decide_eq_false (by omega) | exact bne_eq_false_iff_eq.2 (by omega) | exact beq_eq_false_iff_ne.2 (by omega)))
|refine e7 ?_
|refine q4 rfl rfl obQ obQ ?_
|(refine o8 ?_; first
|refine o6 (i + 1) (show i + 1 ≤ 2 by omega) (by omega) svQ
|refine a7 ?_
|refine n5 ?_
|refine n2 ?_
|refine n6 ?_))
  · obtain rfl : i = 2 := by omega
    repeat' (first
|(refine j7 ?_; first
|refine e8 ?_
|refine r9 23 rfl rfl ?_
|refine o0 ?_
|refine n7 rfl obQ ?_)
|(refine k6 ?_; first
|((with_reducible (first | refine r3 ?_ ?_ | refine q6 ?_ ?_ | refine q9 ?_ ?_ | refine q8 ?_ ?_ | refine q7 ?_ ?_)); · (first | rfl | omega | exact decide_eq_false (by omega) | exact bne_eq_false_iff_eq.2 (by omega) | exact beq_eq_false_iff_ne.2 (by omega)))
|(refine j5 (f := 37) rfl obQ (by kernel_rfl) (fun w hw => P9 AQ cQ pt hkp w (hw.rdm hSQ memQ)) (fun w1U w2U vU hw1U hbU hRU => ?_); obtain ⟨AU, cU, rfl, hcU, hSU⟩ := hRU; clear hw1U hbU)
|(refine j5 (f := 29) rfl obQ (by kernel_rfl) (fun w hw => G5 AU cU pt hkp w (hw.rdm hSU memQ)) (fun w1N w2N vN hw1N hbN hRN => ?_); obtain ⟨AN, cN, rfl, hcN, hSN⟩ := hRN; clear hw1N hbN)
|(refine j5 (f := 66) rfl obQ (by kernel_rfl) (fun w hw => P3 (some ad2) c2 l hl2 hsz hAs w (hw.rdm hr2.toS memQ) (fun x hx => hw.rdm (hrp x hx).toS memQ)) (fun w1I w2I vI hw1I hbI hRI => ?_); obtain ⟨AI, cI, lI, rfl, hmI, hSI, hEI⟩ := hRI; clear hw1I hbI)
|(refine j5 (f := 65) rfl obQ (by kernel_rfl) (fun w hw => ac2 hV1p hmI rfl hkp hl2 hsz (hw.rdm hSN memQ) (hw.rdm hSI memQ) (fun x hx => hw.rdm (hEI x hx) memQ) (r7 hsh hw memQ)) (fun w1D w2D vD hw1D hbD hRD => ?_); obtain ⟨AD, cD, rfl, hSD⟩ := hRD; clear hw1D hbD)
|refine e7 ?_
|refine q4 rfl rfl obQ obQ ?_
|refine k7 (fun b19 => ⟨_, _, rfl, obQ, ?_⟩))
|refine a7 ?_
|refine n2 ?_
|refine n6 ?_)
    repeat' (first
|refine e8 ?_
|refine r9 24 rfl rfl ?_
|(refine k6 ?_; first
|(refine j5 (f := 37) rfl obQ (by kernel_rfl) (fun w hw => P9 AQ cQ pt hkp w (hw.rdm hSQ memQ)) (fun w1U w2U vU hw1U hbU hRU => ?_); obtain ⟨AU, cU, rfl, hcU, hSU⟩ := hRU; clear hw1U hbU)
|(refine j5 (f := 29) rfl obQ (by kernel_rfl) (fun w hw => G5 AU cU pt hkp w (hw.rdm hSU memQ)) (fun w1N w2N vN hw1N hbN hRN => ?_); obtain ⟨AN, cN, rfl, hcN, hSN⟩ := hRN; clear hw1N hbN)
|(refine j5 (f := 44) rfl obQ (by kernel_rfl) (fun w hw => ah5 hV2p hkp (hw.rdm hSN memQ) (r7 hsh hw memQ)) (fun w1Z w2Z vZ hw1Z hbZ hRZ => ?_); obtain ⟨AZ, cZ, rfl, hSZ⟩ := hRZ; clear hw1Z hbZ)
|refine e7 ?_
|refine q4 rfl rfl obQ obQ ?_)
|refine a7 ?_)
    repeat' (first
|refine e8 ?_
|refine r9 25 rfl rfl ?_
|(refine k6 ?_; first
|(refine j5 (f := 37) rfl obQ (by kernel_rfl) (fun w hw => P9 AQ cQ pt hkp w (hw.rdm hSQ memQ)) (fun w1U w2U vU hw1U hbU hRU => ?_); obtain ⟨AU, cU, rfl, hcU, hSU⟩ := hRU; clear hw1U hbU)
|(refine j5 (f := 29) rfl obQ (by kernel_rfl) (fun w hw => G5 AU cU pt hkp w (hw.rdm hSU memQ)) (fun w1N w2N vN hw1N hbN hRN => ?_); obtain ⟨AN, cN, rfl, hcN, hSN⟩ := hRN; clear hw1N hbN)
|(refine j5 (f := 43) rfl obQ (by kernel_rfl) (fun w hw => ac1 hV3p hkp (hw.rdm hSN memQ) (r7 hsh hw memQ)) (fun w1S w2S vS hw1S hbS hRS => ?_); obtain ⟨AS, cS, rfl, hSS⟩ := hRS; clear hw1S hbS)
|refine e7 ?_
|refine q4 rfl rfl obQ obQ ?_)
|refine a7 ?_)
    repeat' (first
|refine e8 ?_
|refine a6 rfl ?_
|(refine k6 ?_; first
|(refine j5 (f := 29) rfl obQ (by kernel_rfl) (fun w hw => G5 A c t hl w (hw.rdm hr.toS memQ)) (fun w1N w2N vN hw1N hbN hRN => ?_); obtain ⟨AN, cN, rfl, hcN, hSN⟩ := hRN; clear hw1N hbN)
|(refine j5 (f := 43) rfl obQ (by kernel_rfl) (fun w hw => ac1 hV3 hl (hw.rdm hSN memQ) (r7 hsh hw memQ)) (fun w1R w2R vR hw1R hbR hRR => ?_); obtain ⟨AR, cR, rfl, hSR⟩ := hRR; clear hw1R hbR)
|refine e7 ?_
|refine q4 rfl rfl obQ obQ ?_)
|refine a7 ?_)
    repeat' (first
|(refine j7 ?_; first
|refine e8 ?_
|refine j3 ?_
|refine n8 (id := 26) 35 [(0, true), (1, false), (2, true), (3, true), (4, false), (5, true), (6, true), (7, true), (8, false), (9, true), (10, true), (11, true), (12, false), (13, true), (14, true), (15, true), (17, true), (16, false), (18, false), (19, false), (20, true), (21, true), (22, true), (23, true), (25, true), (24, false), (26, false), (27, false), (28, true), (29, true), (30, true), (31, true), (32, true), (33, true), (34, true)] rfl mixed (by kernel_rfl) rfl ?_
|refine n7 rfl obQ ?_)
|(refine k6 ?_; first
|((with_reducible (first | refine r3 ?_ ?_ | refine q6 ?_ ?_ | refine q9 ?_ ?_ | refine q8 ?_ ?_ | refine q7 ?_ ?_)); · (first | rfl | omega | exact decide_eq_false (by omega) | exact bne_eq_false_iff_eq.2 (by omega) | exact beq_eq_false_iff_ne.2 (by omega)))
|((with_reducible refine A7 ?_ ?_ ?_); (· rfl); (· first | rfl | (first | rfl | omega | exact decide_eq_false (by omega) | exact bne_eq_false_iff_eq.2 (by omega) | exact beq_eq_false_iff_ne.2 (by omega))))
|refine w8 rfl rfl rfl rfl ?_
|refine E7 rfl obQ ?_
|(refine j5 (f := 37) rfl obQ (by kernel_rfl) (fun w hw => P9 AZ cZ pt hkp w (hw.rdm hSZ memQ)) (fun w1E w2E vE hw1E hbE hRE => ?_); obtain ⟨AE, cE, rfl, hcE, hSE⟩ := hRE; clear hw1E hbE)
|(refine j5 (f := 37) rfl obQ (by kernel_rfl) (fun w hw => P9 AQ cQ pt hkp w (hw.rdm hSQ memQ)) (fun w1F w2F vF hw1F hbF hRF => ?_); obtain ⟨AF, cF, rfl, hcF, hSF⟩ := hRF; clear hw1F hbF)
|refine e7 ?_
|refine a8 (f := 72) rfl obQ (by kernel_rfl) (fun w hw => R0 ⟨(gQ l 0).p.nm, (W : Int), (H : Int), s1⟩ AD cD w) ?_
|refine a8 (f := 72) rfl obQ (by kernel_rfl) (fun w hw => R0 ⟨(gQ l 0).p.nm, (W : Int), (H : Int), s1⟩ AP cP w) ?_
|refine a8 (f := 73) rfl obQ (by kernel_rfl) (fun w hw => as3 ⟨(gQ l 0).p.nm, (W : Int), (H : Int), s1⟩ AD AP cD cP (by show s1.length ≤ 1000000; exact hs6) hfc w (hw.rdm hSD memQ) (hw.rdm hSP memQ)) ?_
|refine a8 (f := 36) rfl obQ (by kernel_rfl) (fun w hw => aO7 hkp (hw.rdm hSE memQ) (hw.rdm hSF memQ)) ?_)
|(refine N2 ?_; first
|refine r5 ?_
|refine V_q rfl (aa8 rfl rfl rfl (k8 rfl obQ)) ?_
|refine V_q rfl (k8 rfl obQ) ?_
|refine V_n rfl ?_)
|refine G_V ⟨⟨_, rfl, trivial⟩, ⟨_, rfl⟩, rfl, pstQ⟩ rfl ?_
|refine a7 ?_)
    refine N4 [0, 1, 7] 2 rfl rfl ?_
    repeat' (first
|refine e8 ?_
|refine r9 29 rfl rfl ?_
|refine e7 ?_
|refine q4 rfl rfl obQ obQ ?_
|refine a7 ?_)
    repeat' (first
|refine a6 rfl ?_
|refine j1 ?_
|refine e7 ?_
|refine q4 rfl rfl obQ obQ ?_
|refine j9 (fun b => ⟨_, _, rfl, obQ, ?_⟩)
|refine a7 ?_)
    refine C9 27 83 2 rfl ?_
    refine p7 (fun i : Nat × Option Addr × Nat => ⟨[(274, .s (.v (.int .i64 i.1))), (273, .s (.v (.int .i64 l.length))), (272, .s (.v (.slice (some ad2) l.length c2))), (27, .s (.r i.2.1 i.1 i.2.2 0)), (0, .s (.v (.slice A t.length c))), (7, .s (.p b7 1 0))], [⟨b5, 59, [.v (.int .u8 ((a : Nat) : Int)), .v (.int .u8 ((b : Nat) : Int))]⟩, ⟨b7, 70, [.v (.string (gQ l 0).p.nm), .v (.int .i64 (W : Int)), .v (.int .i64 (H : Int)), .v (.slice AP s1.length cP)]⟩], [⟨83, 2, i.1, ((rnL l).take i.1).flatMap ivC, .slice i.2.1 i.1 i.2.2⟩]⟩) (fun i => i.1 ≤ l.length) (fun i => l.length - i.1) (0, none, 0) (Nat.zero_le _) ?_ (fun i hi => ?_)
    · exact svQ
    obtain ⟨k, A', c'⟩ := i
    have hk : k ≤ l.length := hi
    dsimp only
    by_cases hlt : k < l.length
    · have hqo := hp.s _ (B3 hlt)
      have hqs := hsz _ (B3 hlt)
      have hst : ((rnL l).take (k + 1)).flatMap ivC = ((rnL l).take k).flatMap ivC ++ [.int .i64 (loL (lvs (gQ l k).p)), .int .i64 (hiL (lvs (gQ l k).p))] := by
        have hk2 : k < (rnL l).length := by rw [Y5]; exact hlt
        have e : (rnL l)[k] = rnP (gQ l k).p := by simp [rnL, T0 hlt]
        rw [List.take_succ_eq_append_getElem hk2, List.flatMap_append, e]
        simp [ivC, rnP]
      have hnl : (lvs (gQ l k).p).length = (gQ l k).p.s.length := w6 _
      have hbl := aq9 hqo
      obtain ⟨lv, hlv⟩ : ∃ x, lvs (gQ l k).p = x := ⟨_, rfl⟩
      rw [hlv] at hst hnl hbl
      repeat' (first
|(refine j7 ?_; first
|refine e8 ?_
|refine r9 32 rfl rfl ?_
|refine j1 ?_
|refine j3 ?_
|refine o5 rfl obQ ?_)
|(refine k6 ?_; first
|((with_reducible (first | refine y3 ?_ ?_ | refine x7 ?_ ?_ | refine x9 ?_ ?_ | refine y4 ?_ ?_ | refine x8 ?_ ?_)); · (first | rfl | assumption | omega | exact decide_eq_true (by omega) | exact beq_self_eq_true _ | exact bne_iff_ne.2 (by assumption) | exact beq_iff_eq.2 (by omega)))
|refine n4 rfl obQ rfl [.string (gQ l k).p.nm, .int .i64 (gQ l k).p.w, .int .i64 (gQ l k).p.h, .slice (gQ l k).A (gQ l k).p.s.length (gQ l k).c] (.past (w, fun b => b < w.heap.size) memQ _ _ hr2.toS _ _ rfl rfl (O1 hlt)) rfl (.inl ⟨rfl, rfl⟩) ?_
|refine e7 ?_
|refine q4 rfl rfl obQ obQ ?_
|refine k7 (fun b29 => ⟨_, _, rfl, obQ, ?_⟩))
|refine a7 ?_)
      repeat' (first
|refine e8 ?_
|refine a6 rfl ?_
|refine j1 ?_
|(refine j5 (f := 85) rfl obQ (by kernel_rfl) (fun w hw => ag4 (p := (gQ l k).p) hqs hqo (hw.rdm (hrp _ (B3 hlt)).toS memQ)) (fun w1L w2L vL hw1L hbL hRL => ?_); obtain ⟨AL, cL, rfl, hSL⟩ := hRL; rw [hlv] at hSL; clear hw1L hbL)
|refine e7 ?_
|refine q4 rfl rfl obQ obQ ?_
|refine a7 ?_)
      obtain ⟨adL, rfl⟩ := O5 hSL (by rw [List.length_map, hnl]; exact (F8 hqo).2)
      refine p7 (fun j : Nat => ⟨[(281, .s (.v (.int .i64 j))), (280, .s (.v (.int .i64 (gQ l k).p.s.length))), (279, .s (.v (.slice (some adL) (gQ l k).p.s.length cL))), (30, .s (.v (.int .i64 ((lv.take j).foldl min 16384)))), (31, .s (.v (.int .i64 ((lv.take j).foldl max (-16384))))), (274, .s (.v (.int .i64 k))), (273, .s (.v (.int .i64 l.length))), (272, .s (.v (.slice (some ad2) l.length c2))), (27, .s (.r A' k c' 0)), (0, .s (.v (.slice A t.length c))), (7, .s (.p b7 1 0))], [⟨b5, 59, [.v (.int .u8 ((a : Nat) : Int)), .v (.int .u8 ((b : Nat) : Int))]⟩, ⟨b7, 70, [.v (.string (gQ l 0).p.nm), .v (.int .i64 (W : Int)), .v (.int .i64 (H : Int)), .v (.slice AP s1.length cP)]⟩], [⟨83, 2, k, ((rnL l).take k).flatMap ivC, .slice A' k c'⟩]⟩) (fun j => j ≤ lv.length) (fun j => lv.length - j) 0 (Nat.zero_le _) ?_ (fun j hj => ?_)
      · exact svQ
      by_cases hlj : j < lv.length
      · have e1 := ak8 min 16384 hlj
        have e2 := ak8 max (-16384) hlj
        have hb := hbl _ (by rw [F5 hlj]; exact List.getElem_mem hlj : gI lv j ∈ lv)
        repeat' (first
|(refine j7 ?_; first
|refine e8 ?_
|refine a6 rfl ?_
|refine j1 ?_
|refine j3 ?_
|refine o5 rfl obQ ?_)
|(refine k6 ?_; first
|((with_reducible (first | refine y3 ?_ ?_ | refine x7 ?_ ?_ | refine x9 ?_ ?_ | refine y4 ?_ ?_ | refine x8 ?_ ?_)); · (first | rfl | assumption | omega | exact decide_eq_true (by omega) | exact beq_self_eq_true _ | exact bne_iff_ne.2 (by assumption) | exact beq_iff_eq.2 (by omega)))
|refine n4 rfl obQ rfl [.int .i64 (gI lv j)] (.past (w2L, fun b => w1L.heap.size ≤ b ∧ b < w2L.heap.size) memQ _ _ hSL _ adL rfl rfl (y5 (k := j) rfl (by omega))) rfl (.inr ⟨rfl, rfl⟩) ?_
|refine e7 ?_
|refine q4 rfl rfl obQ obQ ?_)
|refine o6 (j + 1) (show j + 1 ≤ lv.length by omega) (by omega) (by rw [e1, e2]; exact svQ)
|refine a7 ?_
|refine n5 ?_)
      · obtain rfl : j = lv.length := by omega
        rw [List.take_length]
        repeat' (first
|(refine j7 ?_; first
|refine e8 ?_
|refine a6 rfl ?_
|refine o0 ?_
|refine n7 rfl obQ ?_)
|(refine k6 ?_; first
|((with_reducible (first | refine r3 ?_ ?_ | refine q6 ?_ ?_ | refine q9 ?_ ?_ | refine q8 ?_ ?_ | refine q7 ?_ ?_)); · (first | rfl | omega | exact decide_eq_false (by omega) | exact bne_eq_false_iff_eq.2 (by omega) | exact beq_eq_false_iff_ne.2 (by omega)))
|refine w9 rfl obQ rfl rfl rfl ⟨by decide, rfl⟩ rfl ⟨rfl, rfl, rfl, rfl⟩ [.int .i64 (loL lv), .int .i64 (hiL lv)] ⟨by decide, rfl⟩ (by simp [Value.oneCell']) (fun w hw => by first | exact hw.src (i := 0) rfl rfl | exact hw.src (i := 1) rfl rfl | exact hw.src (i := 2) rfl rfl | exact hw.src (i := 3) rfl rfl | exact hw.src (i := 4) rfl rfl | exact hw.src (i := 5) rfl rfl | exact hw.src (i := 6) rfl rfl | exact hw.src (i := 7) rfl rfl | exact hw.src (i := 8) rfl rfl) (by unfold maxLen; dsimp only; omega) (fun gb cap' => ⟨_, rfl, ?_⟩)
|refine e7 ?_
|refine q4 rfl rfl obQ obQ ?_
|refine j9 (fun b => ⟨_, _, rfl, obQ, ?_⟩))
|(refine o8 ?_; first
|refine o6 (k + 1, some ⟨gb, 0, none⟩, cap') (show k + 1 ≤ l.length by omega) (by show l.length - (k + 1) < l.length - k; omega) (by dsimp only; rw [hst]; exact svQ)
|refine a7 ?_
|refine n5 ?_
|refine n2 ?_
|refine n6 ?_))
    · obtain rfl : k = l.length := by omega
      rw [show (rnL l).take l.length = rnL l by rw [← Y5 (l := l), List.take_length]]
      repeat' (first
|(refine j7 ?_; first
|refine e8 ?_
|refine r9 40 rfl rfl ?_
|refine o0 ?_
|refine n7 rfl obQ ?_)
|((with_reducible (first | refine r3 ?_ ?_ | refine q6 ?_ ?_ | refine q9 ?_ ?_ | refine q8 ?_ ?_ | refine q7 ?_ ?_)); · (first | rfl | omega | exact decide_eq_false (by omega) | exact bne_eq_false_iff_eq.2 (by omega) | exact beq_eq_false_iff_ne.2 (by omega)))
|refine e7 ?_
|refine q4 rfl rfl obQ obQ ?_
|refine a7 ?_
|refine n2 ?_
|refine n6 ?_)
      repeat' (first
|refine e8 ?_
|refine r9 41 rfl rfl ?_
|(refine k6 ?_; first
|(refine j5 (f := 29) rfl obQ (by kernel_rfl) (fun w hw => G5 A c t hl w (hw.rdm hr.toS memQ)) (fun w1N w2N vN hw1N hbN hRN => ?_); obtain ⟨AN, cN, rfl, hcN, hSN⟩ := hRN; clear hw1N hbN)
|(refine j5 (f := 45) rfl obQ (by kernel_rfl) (fun w hw => az6 hV5 Y5 hl hl2 (hw.rdm hSN memQ) (hw.rdRow (i := 0) rfl rfl) (r7 hsh hw memQ)) (fun w1V w2V vV hw1V hbV hRV => ?_); obtain ⟨AV, cV, rfl, hSV⟩ := hRV; clear hw1V hbV)
|refine e7 ?_
|refine q4 rfl rfl obQ obQ ?_)
|refine a7 ?_)
      have hrrv0 := hrrn.h
      repeat' (first
|(refine j7 ?_; first
|refine e8 ?_
|refine r9 43 rfl rfl ?_
|refine j3 ?_
|refine n7 rfl obQ ?_)
|(refine k6 ?_; first
|((with_reducible (first | refine r3 ?_ ?_ | refine q6 ?_ ?_ | refine q9 ?_ ?_ | refine q8 ?_ ?_ | refine q7 ?_ ?_)); · (first | rfl | omega | exact decide_eq_false (by omega) | exact bne_eq_false_iff_eq.2 (by omega) | exact beq_eq_false_iff_ne.2 (by omega)))
|((with_reducible refine A7 ?_ ?_ ?_); (· rfl); (· first | rfl | (first | rfl | omega | exact decide_eq_false (by omega) | exact bne_eq_false_iff_eq.2 (by omega) | exact beq_eq_false_iff_ne.2 (by omega))))
|refine w8 rfl rfl rfl rfl ?_
|refine E7 rfl obQ ?_
|refine e7 ?_)
|refine a7 ?_)
      clear hrrv0
      refine be7 ?_
      repeat' (first
|refine a6 rfl ?_
|refine j1 ?_
|(refine k6 ?_; first
|(refine j5 (f := 85) rfl obQ (by kernel_rfl) (fun w hw => ag4 (p := ⟨(gQ l 0).p.nm, (W : Int), (H : Int), s1⟩) (by show s1.length ≤ 1000000; exact hs6) hpo (hw.rdm hSP memQ)) (fun w1L w2L vL hw1L hbL hRL => ?_); obtain ⟨AL, cL, rfl, hSL⟩ := hRL; rw [hlvc] at hSL; clear hw1L hbL)
|refine e7 ?_
|refine q4 rfl rfl obQ obQ ?_
|refine a8 (f := 72) rfl obQ (by kernel_rfl) (fun w hw => R0 ⟨(gQ l 0).p.nm, (W : Int), (H : Int), s1⟩ AP cP w) ?_)
|refine a7 ?_)
      obtain ⟨adL, rfl⟩ := O5 hSL (by rw [List.length_map, hlcn.h]; exact hs0)
      obtain ⟨adV, rfl⟩ := O5 hSV (by rw [K9, hrrn.h]; omega)
      refine p7 (fun j : Nat => ⟨[(319, .s (.v (.int .i64 j))), (318, .s (.v (.int .i64 s1.length))), (317, .s (.v (.slice (some adL) s1.length cL))), (34, .s (.v (.slice (some adV) rr.length cV))), (0, .s (.v (.slice A t.length c)))], [], []⟩) (fun j => j ≤ s1.length) (fun j => s1.length - j) 0 (Nat.zero_le _) ?_ (fun j hj => ?_)
      · exact svQ
      by_cases hlj : j < s1.length
      · have hlcv := hlcn.h
        have hrrv := hrrn.h
        have hr1 : t.length - 1 < rr.length := by omega
        have hin := hrin _ (by rw [F5 (by omega)]; exact List.getElem_mem (by omega) : gI lc j ∈ lc)
        clear hlcv
        repeat' (first
|(refine j7 ?_; first
|refine e8 ?_
|refine a6 rfl ?_
|refine j1 ?_
|refine j3 ?_
|refine o5 rfl obQ ?_
|refine n7 rfl obQ ?_)
|(refine k6 ?_; first
|((with_reducible (first | refine r3 ?_ ?_ | refine q6 ?_ ?_ | refine q9 ?_ ?_ | refine q8 ?_ ?_ | refine q7 ?_ ?_)); · (first | rfl | omega | exact decide_eq_false (by omega) | exact bne_eq_false_iff_eq.2 (by omega) | exact beq_eq_false_iff_ne.2 (by omega)))
|((with_reducible refine A7 ?_ ?_ ?_); (· rfl); (· first | rfl | (first | rfl | omega | exact decide_eq_false (by omega) | exact bne_eq_false_iff_eq.2 (by omega) | exact beq_eq_false_iff_ne.2 (by omega))))
|((with_reducible (first | refine y3 ?_ ?_ | refine x7 ?_ ?_ | refine x9 ?_ ?_ | refine y4 ?_ ?_ | refine x8 ?_ ?_)); · (first | rfl | assumption | omega | exact decide_eq_true (by omega) | exact beq_self_eq_true _ | exact bne_iff_ne.2 (by assumption) | exact beq_iff_eq.2 (by omega)))
|refine w8 rfl rfl rfl rfl ?_
|refine n4 rfl obQ rfl [.int .i64 (gI lc j)] (.past (w2L, fun b => w1L.heap.size ≤ b ∧ b < w2L.heap.size) memQ _ _ hSL _ adL rfl rfl (y5 (k := j) rfl (by rw [hlcn.h]; exact hlj))) rfl (.inr ⟨rfl, rfl⟩) ?_
|refine n4 rfl obQ rfl [.int .i64 (gR rr ((t.length - 1 : Nat) : Int)).1] (.past (w2V, fun b => w1V.heap.size ≤ b ∧ b < w2V.heap.size) memQ _ _ hSV (((t.length : Int) - 1).toNat * 2 + 0) adV rfl (by first | exact n3 _ _ _ | rfl) (bk3 (k := t.length - 1) (by omega) hr1 0 rfl)) rfl (.inr ⟨rfl, rfl⟩) ?_
|refine n4 rfl obQ rfl [.int .i64 (gR rr ((t.length - 1 : Nat) : Int)).2] (.past (w2V, fun b => w1V.heap.size ≤ b ∧ b < w2V.heap.size) memQ _ _ hSV (((t.length : Int) - 1).toNat * 2 + 1) adV rfl (by first | exact n3 _ _ _ | rfl) (bk3 (k := t.length - 1) (by omega) hr1 1 rfl)) rfl (.inr ⟨rfl, rfl⟩) ?_
|refine E7 rfl obQ ?_
|refine e7 ?_)
|refine o6 (j + 1) (show j + 1 ≤ s1.length by omega) (by omega) svQ
|refine a7 ?_
|refine n5 ?_)
      · obtain rfl : j = s1.length := by omega
        repeat' (first
|(refine j7 ?_; first
|refine e8 ?_
|refine a6 rfl ?_
|refine o0 ?_
|refine i6 ?_
|refine n7 rfl obQ ?_)
|(refine k6 ?_; first
|((with_reducible (first | refine r3 ?_ ?_ | refine q6 ?_ ?_ | refine q9 ?_ ?_ | refine q8 ?_ ?_ | refine q7 ?_ ?_)); · (first | rfl | omega | exact decide_eq_false (by omega) | exact bne_eq_false_iff_eq.2 (by omega) | exact beq_eq_false_iff_ne.2 (by omega)))
|refine e7 ?_
|refine q4 rfl rfl obQ obQ ?_
|refine a8 (f := 17) rfl obQ (by kernel_rfl) (fun w hw => at5 w (r7 hsh hw memQ) (I8 hP hw memQ)) ?_)
|(refine o8 ?_; first
|refine a7 ?_
|refine n2 ?_
|refine n6 ?_
|refine j4 rfl obQ (fun w hw => ⟨?_, hw.below⟩)))
        all_goals rfl
end Go.Proofs.YtjkgklhjbopoaaaGreatDoor
