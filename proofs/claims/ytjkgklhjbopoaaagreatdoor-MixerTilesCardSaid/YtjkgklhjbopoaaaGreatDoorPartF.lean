/- Mixer: pruned trees: contracts of the program. -/
import Derived.Test.YtjkgklhjbopoaaaGreatDoorPartE
import Derived.Test.YtjkgklhjbopoaaaGreatDoorEng4
namespace Go.Proofs.YtjkgklhjbopoaaaGreatDoor
open Go.E Go.RowKit Go.Fl
attribute [local irreducible] G C S D Calls
set_option maxRecDepth 100000
set_option linter.all false
set_option maxHeartbeats 8000000
theorem at0 {q : FuncId} {cap : Value} {tof : Int → Int} (he : entB Tryz.prog q = true) (x : Nod) (k : Kd) (hk : kdOf x.kd = some k) (w : World) (hg : ∀ z ∈ insF k x, ∀ W, Below w.heap.size w W → Calls Tryz.prog q #[.int .i64 z, cap] W fun e w' => e = .returned (.int .i64 (tof z)) ∧ Below W.heap.size W w') :
    Calls Tryz.prog 122 #[.agg #[.string x.kd, .int .i64 x.a, .int .i64 x.b, .int .i64 x.c, .int .i64 x.n, .int .i64 x.cl, .int .i64 x.ga, .string x.w.sh, .int .i64 x.w.a, .int .i64 x.w.b, .int .i64 x.w.at_, .int .i64 x.w.soft], .func (.func q) #[] #[cap]] w fun r w' => r = .returned (.agg #[.string (mvN x tof).kd, .int .i64 (mvN x tof).a, .int .i64 (mvN x tof).b, .int .i64 (mvN x tof).c, .int .i64 (mvN x tof).n, .int .i64 (mvN x tof).cl, .int .i64 (mvN x tof).ga, .string (mvN x tof).w.sh, .int .i64 (mvN x tof).w.a, .int .i64 (mvN x tof).w.b, .int .i64 (mvN x tof).w.at_, .int .i64 (mvN x tof).w.soft]) ∧ Below w.heap.size w w' := aU9 q cap he x k hk w hg
theorem bq4 {x : Nod} {i : Nat} {k : Kd} (h : NdOk x i k) : (insN x).length ≤ 3 := by
  rw [X8 h]
  cases k <;> simp [insF]
theorem aK3 (x : Nod) (k : Kd) (hk : kdOf x.kd = some k) (w : World) : Calls Tryz.prog 137 #[.agg #[.string x.kd, .int .i64 x.a, .int .i64 x.b, .int .i64 x.c, .int .i64 x.n, .int .i64 x.cl, .int .i64 x.ga, .string x.w.sh, .int .i64 x.w.a, .int .i64 x.w.b, .int .i64 x.w.at_, .int .i64 x.w.soft]] w fun r w' => ∃ v, r = .returned v ∧ Below w.heap.size w w' ∧ Sl w w' v (insN x).length ((insN x).map (.int .i64)) := by
  have e : insN x = insF k x := by unfold insN; rw [hk]
  rw [e]
  exact B6 x k hk w
def prT (t : List Nod) (k : Nat) : List Nod := (ixL (nfF t) k).map fun i => mvN (gN t i) (toI (nfF t))
theorem bx3 {t : List Nod} {k : Nat} (h : nfF t k = true) : prT t (k + 1) = prT t k ++ [mvN (gN t k) (toI (nfF t))] := by
  unfold prT
  rw [H8, h, List.map_append]
  rfl
theorem by4 {t : List Nod} {k : Nat} (h : nfF t k = false) : prT t (k + 1) = prT t k := by
  unfold prT
  rw [H8, h]
  simp
theorem aE9 (t : List Nod) (k : Nat) : (prT t k).length = toN (nfF t) k := by simp [prT, toN]
theorem aO3 (b g : Nat) (n : Nat) (xs : List Int) (hx : xs.length = n) (z : Int) (hz : 0 ≤ z ∧ z < n) (w : World) (hM : w.heap[b]? = some (.cells ([.slice (some ⟨g, 0, none⟩) n n] : List Value).toArray 27 (0, 0))) (hr : Rd w (some ⟨g, 0, none⟩) (xs.map (.int .i64))) : Calls Tryz.prog 186 #[.int .i64 z, .pointer (some ⟨b, 0, none⟩)] w fun r w' => r = .returned (.int .i64 (gI xs z.toNat)) ∧ Below w.heap.size w w' := by
  refine i7 n9 Tryz.func186 rfl Tryz.ntmps186 (Nat.le_of_ble_eq_true rfl) rfl ?_
  repeat' (first
|refine e8 ?_
|refine a6 rfl ?_
|refine i6 ?_
|(refine k6 ?_; first
|refine n4 rfl obQ rfl [.slice (some ⟨g, 0, none⟩) n n] (.cell (_, fun b => b < _) memQ (z8 hM) (w7 hM (o := 0) rfl)) rfl (.inr ⟨rfl, rfl⟩) ?_
|refine n4 rfl obQ rfl [.int .i64 (gI xs z.toNat)] (.past (w, fun b => b < w.heap.size) memQ _ _ hr.toS _ _ rfl rfl (y5 (k := z.toNat) (by omega) (by omega))) rfl (.inr ⟨rfl, rfl⟩) ?_
|refine e7 ?_
|refine e9 rfl rfl obQ obQ ?_)
|refine a7 ?_
|refine j4 rfl obQ (fun w hw => ⟨?_, hw.below⟩))
  rfl
theorem bn3 {t : List Nod} {k : Nat} {z : Int} (h : 0 ≤ z ∧ z < k + 1 ∧ z < t.length) : gI (upI t.length (fun j => ((toN (nfF t) j : Nat) : Int)) (fun _ => 0) (k + 1)) z.toNat = toI (nfF t) z := by
  rw [F5 (by rw [D3]; omega)]
  unfold upI toI
  simp only [List.getElem_map, List.getElem_range]
  rw [if_pos (by omega)]
theorem bf8 {w w3 : World} {A : Option Addr} {xs : List Value} {Ps : Past} (h : Rd w A xs) (hk : ∀ b, b < w.heap.size → (b < w3.heap.size ∧ w3.heap[b]? = w.heap[b]?) ∧ True) (hp : (w, fun b => b < w.heap.size) ∈ Ps) : RdS (fun b => ∃ p ∈ Ps, p.2 b) w3 A xs := by
  rcases h.toS with h | ⟨ad, h1, h2, h3⟩
  · exact .inl h
  · refine .inr ⟨ad, h1, ⟨_, hp, h2⟩, fun j u hu => ?_⟩
    have := h3 j u hu
    unfold World.cell? at this ⊢
    rw [F4] at this ⊢
    rw [(hk _ h2).1.2]
    exact this
theorem bw8 {w w3 : World} {ad : Addr} {xs : List Value} (h : Rd w (some ad) xs) (h0 : 0 < xs.length) (hk : ∀ b, b < w.heap.size → b < w3.heap.size) : ad.block < w3.heap.size := by
  rcases h.toS with h | ⟨ad', h1, h2, h3⟩
  · rw [h] at h0; simp at h0
  · cases h1
    exact hk _ h2
theorem aK5 (A : Option Addr) (c : Nat) (t : List Nod) (ht : TrOk t) (w : World) (hr : Rd w A (t.flatMap ndC)) : Calls Tryz.prog 119 #[.slice A t.length c] w fun r w' => ∃ v, r = .returned v ∧ Below w.heap.size w w' ∧ w'.ownsRow w.heap.size 161 12 v (prF t).length ((prF t).flatMap ndC) := by
  refine aj1 (args := [.slice A t.length c]) n9 Tryz.func119 rfl Tryz.ntmps119 (Nat.le_of_ble_eq_true rfl) rfl ?_
  have hl := ht.n
  repeat' (first
|refine e8 ?_
|refine r9 2 rfl rfl ?_
|(refine k6 ?_; first
|refine N5 t.length rfl obQ rfl rfl rfl rfl rfl (by unfold maxLen; dsimp only; omega) (fun g => ?_)
|refine e7 ?_
|refine e9 rfl rfl obQ obQ ?_
|refine k7 (fun bb => ⟨_, _, rfl, obQ, ?_⟩))
|refine a7 ?_)
  rw [bA9]
  repeat' (first
|refine e8 ?_
|refine a6 rfl ?_
|refine j1 ?_
|(refine k6 ?_; first
|refine r6 rfl obQ rfl rfl rfl 0 rfl rfl (((t.length : Int) - 1).toNat * 1) rfl (by dsimp only; rw [ab3]; omega) (xs' := bL t.length (mkP t [])) (af3 (k := t.length - 1) (b := true) (by omega) (by omega) (fun i => by show decide (i + 1 = t.length) = _; by_cases hi : i = t.length - 1 <;> simp [hi] <;> omega)) rfl ?_
|(refine j5 (f := 185) rfl obQ (by kernel_rfl) (fun w hw => av2 A t.length c w) (fun w1B w2B vB hw1B hbB hRB => ?_); obtain ⟨kB, rfl, hkB, hMB⟩ := hRB)
|refine e7 ?_
|refine e9 rfl rfl obQ obQ ?_)
|refine a7 ?_)
  obtain ⟨ad, rfl⟩ := hr.some (by rw [C6]; omega)
  obtain ⟨b3, rfl⟩ : ∃ z, z = bb := ⟨bb, rfl⟩
  refine X0 rfl rfl obQ (by kernel_rfl) (encs := encB t) (bwL t) (fun _ => rfl) (by intro t ht; simp at ht; rcases ht with rfl | rfl <;> exact Nat.le_of_ble_eq_true rfl) (fun x => [(22, .int .i64 ((x.1 : Nat) : Int)), (23, .agg #[.string (gN t x.1).kd, .int .i64 (gN t x.1).a, .int .i64 (gN t x.1).b, .int .i64 (gN t x.1).c, .int .i64 (gN t x.1).n, .int .i64 (gN t x.1).cl, .int .i64 (gN t x.1).ga, .string (gN t x.1).w.sh, .int .i64 (gN t x.1).w.a, .int .i64 (gN t x.1).w.b, .int .i64 (gN t x.1).w.at_, .int .i64 (gN t x.1).w.soft])]) (fun x => by simp [encB]) (fun w3 hw3 => ?_) (fun (pre : List (Fin t.length)) (_ : Unit) => ⟨[], [⟨b3, 224, [.r (some ⟨g, 0, none⟩) t.length t.length 0]⟩], [⟨4, 1, t.length, bL t.length (mkP t pre), .slice (some ⟨g, 0, none⟩) t.length t.length⟩]⟩) () (fun w3 hw3 => HW.same hw3 rfl rfl) (fun l L W3 pre x i hpre hwp => ?_) (fun D WD i hBD hWD hnD => ?_)
  · refine bm7 kB ad c t (by omega) _ ⟨(w2B, fun b => w1B.heap.size ≤ b ∧ b < w2B.heap.size), by simp, hkB⟩ w3 ⟨((hw3.past (w2B, fun b => w1B.heap.size ≤ b ∧ b < w2B.heap.size) (by simp) kB hkB).1.2).trans hMB, ?_, ?_⟩
    · exact bf8 hr (fun b hb => ⟨(hw3.past (w, fun b => b < w.heap.size) (by simp) b hb).1, trivial⟩) (by simp)
    · exact bw8 hr (by rw [C6]; omega) (fun b hb => (hw3.past (w, fun b => b < w.heap.size) (by simp) b hb).1.1)
  · try dsimp only
    obtain ⟨kx, hkx⟩ := ht.s x.1 x.2
    have hil : (insN (gN t x.1)).length ≤ 3 := bq4 hkx
    repeat' (first
|refine e8 ?_
|refine a6 rfl ?_
|refine j1 ?_
|(refine k6 ?_; first
|(refine j5 (f := 137) rfl obQ (by kernel_rfl) (fun w hw => aK3 (gN t x.1) kx hkx.kd w) (fun w1I w2I vI hw1I hbI hRI => ?_); obtain ⟨AI, cI, rfl, hSI⟩ := hRI)
|refine e7 ?_
|refine e9 rfl rfl obQ obQ ?_
|refine k7 (fun b5 => ⟨_, _, rfl, obQ, ?_⟩))
|refine ak4 hwp (fun W4 hw4 => ?_)
|refine a7 ?_)
    refine p7 (fun j : Nat => ⟨[(27, .s (.v (.int .i64 j))), (26, .s (.v (.int .i64 (insN (gN t x.1)).length))), (25, .s (.v (.slice AI (insN (gN t x.1)).length cI))), (4, .s (.v (.int .i64 ((x.1 : Nat) : Int)))), (3, .s (.p b3 0 0))], [⟨b3, 224, [.r (some ⟨g, 0, none⟩) t.length t.length 0]⟩], [⟨4, 1, t.length, bL t.length (mkS t (mkP t pre) x.1 j), .slice (some ⟨g, 0, none⟩) t.length t.length⟩]⟩) (fun j => j ≤ (insN (gN t x.1)).length) (fun j => (insN (gN t x.1)).length - j) 0 (Nat.zero_le _) ?_ (fun j hj0 => ?_)
    · rw [bu6]
      exact svQ
    have hj1 : j ≤ (insN (gN t x.1)).length := hj0
    by_cases hj : j < (insN (gN t x.1)).length
    · obtain ⟨adI, rfl⟩ := hSI.rd.some (by rw [List.length_map]; omega)
      have hib := aq1 ht x.2 (List.getElem_mem hj)
      obtain ⟨iz, hiz⟩ := Int.eq_ofNat_of_zero_le hib.1
      have hxl := x.2
      have hms := aV9 (t := t) (f := mkP t pre) (x := x.1) hj hiz (by omega)
      cases hf1 : mkS t (mkP t pre) x.1 j iz
      · cases hf2 : mkS t (mkP t pre) x.1 j x.1
        · repeat' (first
|(refine j7 ?_; first
|refine e8 ?_
|refine a6 rfl ?_
|refine j1 ?_
|refine j3 ?_
|refine E4 (id := 9) 12 (.q 0 (.q 1 (.q 2 (.q 3 (.q 4 (.q 5 (.q 6 (.two 7 8 (.n 8 (.n 9 (.n 10 (.q 11 .nil)))) (.n 7 (.n 9 (.n 10 (.q 11 .nil)))))))))))) rfl mixed (by kernel_rfl) rfl ?_
|(refine j0 rfl obQ ?_ ?_ <;> intro h <;> (try simp only [cdS] at h) <;> (try (exfalso; omega)) <;> (try exact cdF h) <;> (try (exfalso; omega))))
|(refine k6 ?_; first
|refine w8 rfl rfl rfl rfl ?_
|refine n4 rfl obQ rfl [.int .i64 ((iz : Nat) : Int)] (.past (w2I, fun b => w1I.heap.size ≤ b ∧ b < w2I.heap.size) memQ _ _ hSI _ adI rfl rfl (fun j2 u2 h2 => by have := y5 (l := insN (gN t x.1)) (k := j) (z := (j : Int)) rfl hj j2 u2; rw [F5 hj, hiz] at this; exact this h2)) rfl (.inr ⟨rfl, rfl⟩) ?_
|refine n4 rfl obQ rfl [.bool false] (.row 0 _ rfl g t.length t.length (((x.1 : Nat) : Int).toNat * 1) rfl rfl (O2 (k := x.1) (by omega) rfl hf2)) rfl (.inr ⟨rfl, rfl⟩) ?_
|refine r6 rfl obQ rfl rfl rfl 0 rfl rfl (((iz : Nat) : Int).toNat * 1) rfl (by dsimp only; rw [ab3]; omega) (xs' := bL t.length (mkS t (mkP t pre) x.1 (j + 1))) (af3 (k := iz) (b := false) (by omega) rfl (fun i => by rw [hms i]; simp [hf1, hf2])) rfl ?_
|refine e7 ?_
|refine q4 rfl rfl obQ obQ ?_)
|(refine A9 ?_; first
|refine w5 ?_
|refine B5 rfl (q3 rfl obQ rfl [.bool false] (.row 0 _ rfl g t.length t.length (((iz : Nat) : Int).toNat * 1) rfl rfl (O2 (k := iz) (by omega) rfl hf1)) rfl (.inr ⟨rfl, rfl⟩)) ?_
|refine B5 rfl (k8 rfl obQ) ?_
|refine D9 rfl ?_
|refine w4 rfl rfl ?_ ?_)
|(refine o8 ?_; first
|refine A8 ⟨_, rfl⟩ ⟨_, rfl⟩ pstQ rfl ?_
|refine o6 (j + 1) (show j + 1 ≤ (insN (gN t x.1)).length by omega) (by show (insN (gN t x.1)).length - (j + 1) < (insN (gN t x.1)).length - j; omega) svQ
|refine a7 ?_
|refine n5 ?_))
        · repeat' (first
|(refine j7 ?_; first
|refine e8 ?_
|refine a6 rfl ?_
|refine j1 ?_
|refine j3 ?_
|refine E4 (id := 9) 12 (.q 0 (.q 1 (.q 2 (.q 3 (.q 4 (.q 5 (.q 6 (.two 7 8 (.n 8 (.n 9 (.n 10 (.q 11 .nil)))) (.n 7 (.n 9 (.n 10 (.q 11 .nil)))))))))))) rfl mixed (by kernel_rfl) rfl ?_
|(refine j0 rfl obQ ?_ ?_ <;> intro h <;> (try simp only [cdS] at h) <;> (try (exfalso; omega)) <;> (try exact cdF h) <;> (try (exfalso; omega))))
|(refine k6 ?_; first
|refine w8 rfl rfl rfl rfl ?_
|refine n4 rfl obQ rfl [.int .i64 ((iz : Nat) : Int)] (.past (w2I, fun b => w1I.heap.size ≤ b ∧ b < w2I.heap.size) memQ _ _ hSI _ adI rfl rfl (fun j2 u2 h2 => by have := y5 (l := insN (gN t x.1)) (k := j) (z := (j : Int)) rfl hj j2 u2; rw [F5 hj, hiz] at this; exact this h2)) rfl (.inr ⟨rfl, rfl⟩) ?_
|refine n4 rfl obQ rfl [.bool true] (.row 0 _ rfl g t.length t.length (((x.1 : Nat) : Int).toNat * 1) rfl rfl (O2 (k := x.1) (by omega) rfl hf2)) rfl (.inr ⟨rfl, rfl⟩) ?_
|refine r6 rfl obQ rfl rfl rfl 0 rfl rfl (((iz : Nat) : Int).toNat * 1) rfl (by dsimp only; rw [ab3]; omega) (xs' := bL t.length (mkS t (mkP t pre) x.1 (j + 1))) (af3 (k := iz) (b := true) (by omega) rfl (fun i => by rw [hms i]; simp [hf1, hf2])) rfl ?_
|refine e7 ?_
|refine q4 rfl rfl obQ obQ ?_)
|(refine A9 ?_; first
|refine w5 ?_
|refine B5 rfl (q3 rfl obQ rfl [.bool false] (.row 0 _ rfl g t.length t.length (((iz : Nat) : Int).toNat * 1) rfl rfl (O2 (k := iz) (by omega) rfl hf1)) rfl (.inr ⟨rfl, rfl⟩)) ?_
|refine B5 rfl (k8 rfl obQ) ?_
|refine D9 rfl ?_
|refine w4 rfl rfl ?_ ?_)
|(refine o8 ?_; first
|refine A8 ⟨_, rfl⟩ ⟨_, rfl⟩ pstQ rfl ?_
|refine o6 (j + 1) (show j + 1 ≤ (insN (gN t x.1)).length by omega) (by show (insN (gN t x.1)).length - (j + 1) < (insN (gN t x.1)).length - j; omega) svQ
|refine a7 ?_
|refine n5 ?_))
      · cases hf2 : mkS t (mkP t pre) x.1 j x.1
        · repeat' (first
|(refine j7 ?_; first
|refine e8 ?_
|refine a6 rfl ?_
|refine j1 ?_
|refine j3 ?_
|refine E4 (id := 9) 12 (.q 0 (.q 1 (.q 2 (.q 3 (.q 4 (.q 5 (.q 6 (.two 7 8 (.n 8 (.n 9 (.n 10 (.q 11 .nil)))) (.n 7 (.n 9 (.n 10 (.q 11 .nil)))))))))))) rfl mixed (by kernel_rfl) rfl ?_
|(refine j0 rfl obQ ?_ ?_ <;> intro h <;> (try simp only [cdS] at h) <;> (try (exfalso; omega)) <;> (try exact cdF h) <;> (try (exfalso; omega))))
|(refine k6 ?_; first
|refine n4 rfl obQ rfl [.int .i64 ((iz : Nat) : Int)] (.past (w2I, fun b => w1I.heap.size ≤ b ∧ b < w2I.heap.size) memQ _ _ hSI _ adI rfl rfl (fun j2 u2 h2 => by have := y5 (l := insN (gN t x.1)) (k := j) (z := (j : Int)) rfl hj j2 u2; rw [F5 hj, hiz] at this; exact this h2)) rfl (.inr ⟨rfl, rfl⟩) ?_
|refine B4 (.v (.bool false)) rfl rfl rfl rfl rfl ?_
|refine r6 rfl obQ rfl rfl rfl 0 rfl rfl (((iz : Nat) : Int).toNat * 1) rfl (by dsimp only; rw [ab3]; omega) (xs' := bL t.length (mkS t (mkP t pre) x.1 (j + 1))) (af3 (k := iz) (b := true) (by omega) rfl (fun i => by rw [hms i]; simp [hf1, hf2])) rfl ?_
|refine e7 ?_
|refine q4 rfl rfl obQ obQ ?_)
|(refine A9 ?_; first
|refine w5 ?_
|refine B5 rfl (q3 rfl obQ rfl [.bool true] (.row 0 _ rfl g t.length t.length (((iz : Nat) : Int).toNat * 1) rfl rfl (O2 (k := iz) (by omega) rfl hf1)) rfl (.inr ⟨rfl, rfl⟩)) ?_
|refine B5 rfl (k8 rfl obQ) ?_
|refine D9 rfl ?_
|refine w4 rfl rfl ?_ ?_)
|(refine o8 ?_; first
|refine A8 ⟨_, rfl⟩ ⟨_, rfl⟩ pstQ rfl ?_
|refine o6 (j + 1) (show j + 1 ≤ (insN (gN t x.1)).length by omega) (by show (insN (gN t x.1)).length - (j + 1) < (insN (gN t x.1)).length - j; omega) svQ
|refine a7 ?_
|refine n5 ?_))
        · repeat' (first
|(refine j7 ?_; first
|refine e8 ?_
|refine a6 rfl ?_
|refine j1 ?_
|refine j3 ?_
|refine E4 (id := 9) 12 (.q 0 (.q 1 (.q 2 (.q 3 (.q 4 (.q 5 (.q 6 (.two 7 8 (.n 8 (.n 9 (.n 10 (.q 11 .nil)))) (.n 7 (.n 9 (.n 10 (.q 11 .nil)))))))))))) rfl mixed (by kernel_rfl) rfl ?_
|(refine j0 rfl obQ ?_ ?_ <;> intro h <;> (try simp only [cdS] at h) <;> (try (exfalso; omega)) <;> (try exact cdF h) <;> (try (exfalso; omega))))
|(refine k6 ?_; first
|refine n4 rfl obQ rfl [.int .i64 ((iz : Nat) : Int)] (.past (w2I, fun b => w1I.heap.size ≤ b ∧ b < w2I.heap.size) memQ _ _ hSI _ adI rfl rfl (fun j2 u2 h2 => by have := y5 (l := insN (gN t x.1)) (k := j) (z := (j : Int)) rfl hj j2 u2; rw [F5 hj, hiz] at this; exact this h2)) rfl (.inr ⟨rfl, rfl⟩) ?_
|refine B4 (.v (.bool false)) rfl rfl rfl rfl rfl ?_
|refine r6 rfl obQ rfl rfl rfl 0 rfl rfl (((iz : Nat) : Int).toNat * 1) rfl (by dsimp only; rw [ab3]; omega) (xs' := bL t.length (mkS t (mkP t pre) x.1 (j + 1))) (af3 (k := iz) (b := true) (by omega) rfl (fun i => by rw [hms i]; simp [hf1, hf2])) rfl ?_
|refine e7 ?_
|refine q4 rfl rfl obQ obQ ?_)
|(refine A9 ?_; first
|refine w5 ?_
|refine B5 rfl (q3 rfl obQ rfl [.bool true] (.row 0 _ rfl g t.length t.length (((iz : Nat) : Int).toNat * 1) rfl rfl (O2 (k := iz) (by omega) rfl hf1)) rfl (.inr ⟨rfl, rfl⟩)) ?_
|refine B5 rfl (k8 rfl obQ) ?_
|refine D9 rfl ?_
|refine w4 rfl rfl ?_ ?_)
|(refine o8 ?_; first
|refine A8 ⟨_, rfl⟩ ⟨_, rfl⟩ pstQ rfl ?_
|refine o6 (j + 1) (show j + 1 ≤ (insN (gN t x.1)).length by omega) (by show (insN (gN t x.1)).length - (j + 1) < (insN (gN t x.1)).length - j; omega) svQ
|refine a7 ?_
|refine n5 ?_))
    · obtain rfl : j = (insN (gN t x.1)).length := by omega
      rw [← aw3]
      repeat' (first
|(refine j7 ?_; first
|refine e8 ?_
|refine a6 rfl ?_
|refine o0 ?_
|(refine j0 rfl obQ ?_ ?_ <;> intro h <;> (try simp only [cdS] at h) <;> (try (exfalso; omega)) <;> (try exact cdF h) <;> (try (exfalso; omega))))
|refine e7 ?_
|refine e9 rfl rfl obQ obQ ?_
|(refine o8 ?_; first
|(refine ba7 ?_; refine as0 () svQ hw4)
|refine a7 ?_
|refine n5 ?_
|refine n2 ?_
|refine n6 ?_))
  · rw [show mkP t (bwL t) = nfF t by have := aE4 (t := t) t.length (Nat.le_refl _); rw [List.take_of_length_le (by rw [aq0]; exact Nat.le_refl _)] at this; exact this]
    repeat' (first
|refine e8 ?_
|refine r9 12 rfl rfl ?_
|(refine k6 ?_; first
|refine N5 t.length rfl obQ rfl rfl rfl rfl rfl (by unfold maxLen; dsimp only; omega) (fun g8 => ?_)
|refine e7 ?_
|refine e9 rfl rfl obQ obQ ?_
|refine k7 (fun b0 => ⟨_, _, rfl, obQ, ?_⟩))
|refine a7 ?_
|refine n5 ?_)
    rw [aI0 t.length (fun j => ((toN (nfF t) j : Nat) : Int))]
    repeat' (first
|refine e8 ?_
|refine a6 rfl ?_
|refine j1 ?_
|refine e7 ?_
|refine e9 rfl rfl obQ obQ ?_
|refine a7 ?_)
    obtain ⟨b8, rfl⟩ : ∃ z, z = b0 := ⟨b0, rfl⟩
    refine C9 9 161 12 rfl ?_
    refine p7 (fun i : Nat × Option Addr × Nat => ⟨[(50, .s (.v (.int .i64 i.1))), (49, .s (.v (.int .i64 t.length))), (48, .s (.v (.slice (some ad) t.length c))), (3, .s (.p b3 0 0)), (8, .s (.p b8 1 0)), (9, .s (.r i.2.1 (prT t i.1).length i.2.2 2))], [⟨b3, 224, [.r (some ⟨g, 0, none⟩) t.length t.length 0]⟩, ⟨b8, 27, [.r (some ⟨g8, 0, none⟩) t.length t.length 1]⟩], [⟨4, 1, t.length, bL t.length (nfF t), .slice (some ⟨g, 0, none⟩) t.length t.length⟩, ⟨3, 1, t.length, (upI t.length (fun j => ((toN (nfF t) j : Nat) : Int)) (fun _ => 0) i.1).map (.int .i64), .slice (some ⟨g8, 0, none⟩) t.length t.length⟩, ⟨161, 12, (prT t i.1).length, (prT t i.1).flatMap ndC, .slice i.2.1 (prT t i.1).length i.2.2⟩]⟩) (fun i => i.1 ≤ t.length) (fun i => t.length - i.1) (0, none, 0) (Nat.zero_le _) ?_ (fun i hi => ?_)
    · exact svQ
    obtain ⟨k, A', c'⟩ := i
    have hk : k ≤ t.length := hi
    have hle : (prT t k).length ≤ k := by rw [aE9]; exact aq7 k
    dsimp only
    by_cases hlt : k < t.length
    · obtain ⟨kk, hkk⟩ := ht.s k hlt
      have hput := M0 (n := t.length) (k := k) (f := (fun j => ((toN (nfF t) j : Nat) : Int))) (b := fun _ => 0) (z := (k : Int)) rfl hlt
      have hpl := aE9 t k
      cases hnk : nfF t k
      · have hst := by4 hnk
        repeat' (first
|(refine j7 ?_; first
|refine e8 ?_
|refine a6 rfl ?_
|refine j1 ?_
|refine j3 ?_
|refine n7 rfl obQ ?_
|(refine j0 rfl obQ ?_ ?_ <;> intro h <;> (try simp only [cdS] at h) <;> (try (exfalso; omega)) <;> (try exact cdF h) <;> (try (exfalso; omega))))
|(refine k6 ?_; first
|refine n4 rfl obQ rfl [.string (gN t k).kd, .int .i64 (gN t k).a, .int .i64 (gN t k).b, .int .i64 (gN t k).c, .int .i64 (gN t k).n, .int .i64 (gN t k).cl, .int .i64 (gN t k).ga, .string (gN t k).w.sh, .int .i64 (gN t k).w.a, .int .i64 (gN t k).w.b, .int .i64 (gN t k).w.at_, .int .i64 (gN t k).w.soft] (.past (w, fun b => b < w.heap.size) memQ _ _ hr.toS _ _ rfl rfl (C5 (t := t) (k := k) rfl hlt)) rfl (.inl ⟨rfl, rfl⟩) ?_
|refine r6 rfl obQ rfl rfl rfl 1 rfl rfl (((k : Nat) : Int).toNat * 1) rfl (by dsimp only; rw [List.length_map, D3]; omega) (xs' := (upI t.length (fun j => ((toN (nfF t) j : Nat) : Int)) (fun _ => 0) (k + 1)).map (.int .i64)) (by rw [hpl]; exact hput) rfl ?_
|refine n4 rfl obQ rfl [.bool false] (.row 0 _ rfl g t.length t.length (((k : Nat) : Int).toNat * 1) rfl rfl (O2 (k := k) (by omega) rfl hnk)) rfl (.inr ⟨rfl, rfl⟩) ?_
|refine e7 ?_
|refine e9 rfl rfl obQ obQ ?_
|refine k7 (fun bc => ⟨_, _, rfl, obQ, ?_⟩))
|refine o6 (k + 1, A', c') (show k + 1 ≤ t.length by omega) (by show t.length - (k + 1) < t.length - k; omega) (by dsimp only; rw [hst]; exact svQ)
|refine a7 ?_
|refine n5 ?_)
      · have hst := bx3 hnk
        repeat' (first
|(refine j7 ?_; first
|refine e8 ?_
|refine a6 rfl ?_
|refine j1 ?_
|refine j3 ?_
|refine o5 rfl obQ ?_
|(refine j0 rfl obQ ?_ ?_ <;> intro h <;> (try simp only [cdS] at h) <;> (try (exfalso; omega)) <;> (try exact cdF h) <;> (try (exfalso; omega))))
|(refine k6 ?_; first
|refine n4 rfl obQ rfl [.string (gN t k).kd, .int .i64 (gN t k).a, .int .i64 (gN t k).b, .int .i64 (gN t k).c, .int .i64 (gN t k).n, .int .i64 (gN t k).cl, .int .i64 (gN t k).ga, .string (gN t k).w.sh, .int .i64 (gN t k).w.a, .int .i64 (gN t k).w.b, .int .i64 (gN t k).w.at_, .int .i64 (gN t k).w.soft] (.past (w, fun b => b < w.heap.size) memQ _ _ hr.toS _ _ rfl rfl (C5 (t := t) (k := k) rfl hlt)) rfl (.inl ⟨rfl, rfl⟩) ?_
|refine r6 rfl obQ rfl rfl rfl 1 rfl rfl (((k : Nat) : Int).toNat * 1) rfl (by dsimp only; rw [List.length_map, D3]; omega) (xs' := (upI t.length (fun j => ((toN (nfF t) j : Nat) : Int)) (fun _ => 0) (k + 1)).map (.int .i64)) (by rw [hpl]; exact hput) rfl ?_
|refine a8 (f := 122) rfl obQ (by kernel_rfl) (fun w hw => at0 (q := 186) (tof := toI (nfF t)) (by kernel_rfl) (gN t k) kk hkk.kd w (fun z hz W hW => (by have hzb := hkk.ins z hz; have h1 := aO3 b8 g8 t.length (upI t.length (fun j => ((toN (nfF t) j : Nat) : Int)) (fun _ => 0) (k + 1)) (D3) z (by omega) W ((hW.block b8 (HW.bxAt hw (i := 1) rfl rfl).1.2).trans (HW.bxAt hw (i := 1) rfl rfl).2) ((hw.rdRow (i := 1) rfl rfl).below hW); rw [bn3 (by omega)] at h1; exact h1))) ?_
|refine w9 rfl obQ rfl rfl rfl ⟨by decide, rfl⟩ rfl ⟨rfl, rfl, rfl, rfl⟩ [.string (mvN (gN t k) (toI (nfF t))).kd, .int .i64 (mvN (gN t k) (toI (nfF t))).a, .int .i64 (mvN (gN t k) (toI (nfF t))).b, .int .i64 (mvN (gN t k) (toI (nfF t))).c, .int .i64 (mvN (gN t k) (toI (nfF t))).n, .int .i64 (mvN (gN t k) (toI (nfF t))).cl, .int .i64 (mvN (gN t k) (toI (nfF t))).ga, .string (mvN (gN t k) (toI (nfF t))).w.sh, .int .i64 (mvN (gN t k) (toI (nfF t))).w.a, .int .i64 (mvN (gN t k) (toI (nfF t))).w.b, .int .i64 (mvN (gN t k) (toI (nfF t))).w.at_, .int .i64 (mvN (gN t k) (toI (nfF t))).w.soft] ⟨by decide, rfl⟩ (by simp [Value.oneCell']) (fun w hw => by first | exact hw.src (i := 0) rfl rfl | exact hw.src (i := 1) rfl rfl | exact hw.src (i := 2) rfl rfl | exact hw.src (i := 3) rfl rfl | exact hw.src (i := 4) rfl rfl | exact hw.src (i := 5) rfl rfl | exact hw.src (i := 6) rfl rfl | exact hw.src (i := 7) rfl rfl | exact hw.src (i := 8) rfl rfl) (by unfold maxLen; dsimp only; omega) (fun gb cap' => ⟨_, rfl, ?_⟩)
|refine n4 rfl obQ rfl [.bool true] (.row 0 _ rfl g t.length t.length (((k : Nat) : Int).toNat * 1) rfl rfl (O2 (k := k) (by omega) rfl hnk)) rfl (.inr ⟨rfl, rfl⟩) ?_
|refine e7 ?_
|refine e9 rfl rfl obQ obQ ?_
|refine k7 (fun bc => ⟨_, _, rfl, obQ, ?_⟩)
|refine j9 (fun b => ⟨_, _, rfl, obQ, ?_⟩))
|refine o6 (k + 1, some ⟨gb, 0, none⟩, cap') (show k + 1 ≤ t.length by omega) (by show t.length - (k + 1) < t.length - k; omega) (by dsimp only; rw [hst, List.flatMap_append, List.length_append]; exact svQ)
|refine a7 ?_
|refine n5 ?_)
    · obtain rfl : k = t.length := by omega
      repeat' (first
|(refine j7 ?_; first
|refine e8 ?_
|refine a6 rfl ?_
|refine o0 ?_
|refine i6 ?_
|(refine j0 rfl obQ ?_ ?_ <;> intro h <;> (try simp only [cdS] at h) <;> (try (exfalso; omega)) <;> (try exact cdF h) <;> (try (exfalso; omega))))
|refine e7 ?_
|refine e9 rfl rfl obQ obQ ?_
|(refine o8 ?_; first
|refine a7 ?_
|refine n2 ?_
|refine n6 ?_
|refine br2 rfl obQ ((DsP.nil _ _).cons hBD hWD hnD) (fun w2 hw => ⟨_, rfl, hw.below, HW.ownRow (w0 := w) (i := 2) hw rfl rfl rfl rfl⟩)))
def pruR (t : List Nod) : List Nod × Int := if trE t = 0 then (prF t, 0) else ([], trE t)
theorem af4 (A : Option Addr) (c : Nat) (t : List Nod) (ht : TrOk t) (w : World) (hr : Rd w A (t.flatMap ndC)) : Calls Tryz.prog 119 #[.slice A t.length c] w fun r w' => ∃ v, r = .returned v ∧ Below w.heap.size w w' ∧ Sl w w' v (prF t).length ((prF t).flatMap ndC) := by
  refine (aK5 A c t ht w hr).mono ?_
  rintro r w' ⟨v, h1, h2, h3⟩
  exact ⟨v, h1, h2, ae7 h3⟩
theorem aI6 (A : Option Addr) (c : Nat) (t : List Nod) (hl : t.length ≤ 1000000) (w : World) (hr : Rd w A (t.flatMap ndC)) (hsh : Sh w) : Calls Tryz.prog 44 #[.slice A t.length c] w fun r w' => ∃ v, r = .returned v ∧ Below w.heap.size w w' ∧ Sl2 w w' v (pruR t).1.length ((pruR t).1.flatMap ndC) (.int .i64 (pruR t).2) := by
  refine i7 n9 Tryz.func44 rfl Tryz.ntmps44 (Nat.le_of_ble_eq_true rfl) rfl ?_
  by_cases hE : trE t = 0
  · have e1 : pruR t = (prF t, 0) := if_pos hE
    rw [e1]
    have ht := G2.1 hE
    repeat' (first
|(refine j7 ?_; first
|refine e8 ?_
|refine a6 rfl ?_
|refine j3 ?_
|refine i6 ?_
|(refine j0 rfl obQ ?_ ?_ <;> intro h <;> (try simp only [cdS] at h) <;> (try (exfalso; omega)) <;> (try exact cdF h) <;> (try contradiction)))
|(refine k6 ?_; first
|(refine j5 (f := 119) rfl obQ (by kernel_rfl) (fun w hw => af4 A c t ht w (hw.rdm hr.toS memQ)) (fun w1S w2S vS hw1S hbS hRS => ?_); obtain ⟨AS, cS, rfl, hSS⟩ := hRS)
|refine e7 ?_
|refine e9 rfl rfl obQ obQ ?_
|refine a8 (f := 50) rfl obQ (by kernel_rfl) (fun w hw => o9 A c t hl w (hw.rdm hr.toS memQ) (r7 hsh hw memQ)) ?_)
|refine a7 ?_
|refine j4 rfl obQ (fun w2 hw => ⟨_, rfl, hw.below, Sl.two (HW.callSl hw hSS memQ hw1S.bsize) rfl⟩))
  · have e1 : pruR t = ([], trE t) := if_neg hE
    rw [e1]
    skip
    repeat' (first
|(refine j7 ?_; first
|refine e8 ?_
|refine a6 rfl ?_
|refine i6 ?_
|(refine j0 rfl obQ ?_ ?_ <;> intro h <;> (try simp only [cdS] at h) <;> (try (exfalso; omega)) <;> (try exact cdF h) <;> (try contradiction)))
|refine e7 ?_
|refine e9 rfl rfl obQ obQ ?_
|refine a8 (f := 50) rfl obQ (by kernel_rfl) (fun w hw => o9 A c t hl w (hw.rdm hr.toS memQ) (r7 hsh hw memQ)) ?_
|refine a7 ?_
|refine j6 ?_
|refine j4 rfl obQ (fun w2 hw => ⟨_, rfl, hw.below, Sl.two (v := .slice none 0 0) (Sl.nil_ _ _) rfl⟩))
theorem aw9 (q : FuncId) {g : PV' → Int} (A : Option Addr) (c : Nat) (l : List (PV')) (hl : l.length ≤ 1000000) (he : entB Tryz.prog q = true) (w : World) (hr : Rd w A (l.flatMap fun x => [.string x.p.nm, Value.int .i64 x.p.w, Value.int .i64 x.p.h, .slice x.A x.p.s.length x.c])) (hg : ∀ x ∈ l, ∀ W, Below w.heap.size w W → Calls Tryz.prog q #[Value.agg #[.string x.p.nm, Value.int .i64 x.p.w, Value.int .i64 x.p.h, .slice x.A x.p.s.length x.c]] W fun e w' => e = .returned (Value.int .i64 (g x)) ∧ Below W.heap.size W w') : Calls Tryz.prog 208 #[.slice A l.length c, .func (.func q) #[] #[]] w fun r w' => ∃ v, r = .returned v ∧ Below w.heap.size w w' ∧ Sl w w' v l.length (l.map fun x => Value.int .i64 (g x)) := by
  refine i7 n9 Tryz.func208 rfl Tryz.ntmps208 (Nat.le_of_ble_eq_true rfl) rfl ?_
  repeat' (first
|refine e8 ?_
|refine a6 rfl ?_
|refine j1 ?_
|refine e7 ?_
|refine e9 rfl rfl obQ obQ ?_
|refine k7 (fun b => ⟨_, _, rfl, obQ, ?_⟩)
|refine a7 ?_)
  refine C9 5 28 1 rfl ?_
  refine p7 (fun i : Nat × Option Addr × Nat => ⟨[(5, .s (.r i.2.1 i.1 i.2.2 0)), (8, .s (.v (.slice A l.length c))), (9, .s (.v (.int .i64 l.length))), (10, .s (.v (.int .i64 i.1))), (1, .s (.v (.func (.func q) #[] #[])))], [], [⟨28, 1, i.1, (l.take i.1).map fun x => Value.int .i64 (g x), .slice i.2.1 i.1 i.2.2⟩]⟩) (fun i => i.1 ≤ l.length) (fun i => l.length - i.1) (0, none, 0) (Nat.zero_le _) ?_ (fun i hi => ?_)
  · exact svQ
  obtain ⟨k, A', c'⟩ := i
  have hi' : k ≤ l.length := hi
  dsimp only
  by_cases hlt : k < l.length
  · obtain ⟨ad, rfl⟩ := hr.some (by simp [C7 (s := 4)]; omega)
    have hmt := B0 (f := fun x => Value.int .i64 (g x)) hlt
    repeat' (first
|(refine j7 ?_; first
|refine e8 ?_
|refine a6 rfl ?_
|refine j1 ?_
|refine j3 ?_
|(refine j0 rfl obQ ?_ ?_ <;> intro h <;> (try simp only [cdS] at h) <;> (try (exfalso; omega))))
|(refine k6 ?_; first
|refine n4 rfl obQ rfl [.string l[k].p.nm, Value.int .i64 l[k].p.w, Value.int .i64 l[k].p.h, .slice l[k].A l[k].p.s.length l[k].c] (.past _ memQ _ _ hr.toS _ _ rfl rfl (idxS (f := fun x => [.string x.p.nm, Value.int .i64 x.p.w, Value.int .i64 x.p.h, .slice x.A x.p.s.length x.c]) (fun _ => rfl) hlt)) rfl (.inl ⟨rfl, rfl⟩) ?_
|refine a8 rfl obQ he (fun W hW => hg l[k] (List.getElem_mem hlt) W hW.below) ?_
|refine w9 rfl obQ rfl rfl rfl ⟨by decide, rfl⟩ rfl ⟨rfl, rfl, rfl, rfl⟩ [Value.int .i64 (g l[k])] ⟨by decide, rfl⟩ (by simp [Value.oneCell']) (fun w hw => by first | exact hw.src (i := 0) rfl rfl | exact hw.src (i := 1) rfl rfl | exact hw.src (i := 2) rfl rfl | exact hw.src (i := 3) rfl rfl | exact hw.src (i := 4) rfl rfl | exact hw.src (i := 5) rfl rfl | exact hw.src (i := 6) rfl rfl | exact hw.src (i := 7) rfl rfl | exact hw.src (i := 8) rfl rfl) (by unfold maxLen; dsimp only; omega) (fun gb cap' => ⟨_, rfl, ?_⟩)
|refine e7 ?_
|refine e9 rfl rfl obQ obQ ?_
|refine k7 (fun b => ⟨_, _, rfl, obQ, ?_⟩)
|refine j9 (fun b => ⟨_, _, rfl, obQ, ?_⟩))
|refine o6 (k + 1, some ⟨gb, 0, none⟩, cap') (by show k + 1 ≤ _; omega) (by show l.length - (k + 1) < l.length - k; omega) ⟨⟨_, rfl, obQ⟩, ⟨_, rfl⟩, (by dsimp only; rw [hmt]), pstQ⟩
|refine a7 ?_
|refine n5 ?_)
  · obtain rfl : k = l.length := by omega
    repeat' (first
|(refine j7 ?_; first
|refine e8 ?_
|refine a6 rfl ?_
|refine o0 ?_
|refine i6 ?_
|(refine j0 rfl obQ ?_ ?_ <;> intro h <;> (try simp only [cdS] at h) <;> (try (exfalso; omega))))
|refine e7 ?_
|refine e9 rfl rfl obQ obQ ?_
|(refine o8 ?_; first
|refine a7 ?_
|refine n2 ?_
|refine n6 ?_
|refine j4 rfl obQ (fun w2 hw => ⟨_, rfl, hw.below, HW.rowSl (i := 0) hw rfl rfl rfl (by rw [List.take_length])⟩)))
theorem aL5 (q : FuncId) (c0 : Value) {p : PV' → Bool} (A : Option Addr) (c : Nat) (l : List (PV')) (hl : l.length ≤ 1000000) (he : entB Tryz.prog q = true) (w : World) (hr : Rd w A (l.flatMap fun x => [.string x.p.nm, Value.int .i64 x.p.w, Value.int .i64 x.p.h, .slice x.A x.p.s.length x.c])) (hg : ∀ x ∈ l, ∀ W, Below w.heap.size w W → Calls Tryz.prog q #[.agg #[.string x.p.nm, Value.int .i64 x.p.w, Value.int .i64 x.p.h, .slice x.A x.p.s.length x.c], c0] W fun e w' => e = .returned (.bool (p x)) ∧ Below W.heap.size W w') : Calls Tryz.prog 255 #[.slice A l.length c, .func (.func q) #[] #[c0]] w fun r w' => r = .returned (.int .i64 (ixI p l 0)) ∧ Below w.heap.size w w' := by
  refine i7 n9 Tryz.func255 rfl Tryz.ntmps255 (Nat.le_of_ble_eq_true rfl) rfl ?_
  repeat' (first
|(refine j7 ?_; first
|refine e8 ?_
|refine a6 rfl ?_
|refine j1 ?_
|refine j3 ?_
|refine i6 ?_
|(refine j0 rfl obQ ?_ ?_ <;> intro h <;> (try simp only [cdS] at h)))
|refine e7 ?_
|refine e9 rfl rfl obQ obQ ?_
|refine a7 ?_
|refine j6 ?_
|refine j4 rfl obQ (fun w hw => ⟨?_, hw.below⟩))
  refine p7 (fun k : Nat => ⟨[(8, .s (.v (.int .i64 k))), (7, .s (.v (.int .i64 l.length))), (0, .s (.v (.slice A l.length c))), (1, .s (.v (.func (.func q) #[] #[c0])))], [], []⟩) (fun k => k ≤ l.length ∧ ixI p l 0 = ixI p (l.drop k) k) (fun k => l.length - k) 0 ⟨Nat.zero_le _, rfl⟩ ?_ (fun k hk => ?_)
  · exact svQ
  by_cases hlt : k < l.length
  · obtain ⟨ad, rfl⟩ := hr.some (by simp [C7 (s := 4)]; omega)
    have hfd := Y8 (p := p) hlt
    repeat' (first
|(refine j7 ?_; first
|refine e8 ?_
|refine a6 rfl ?_
|refine j1 ?_
|refine j3 ?_
|refine i6 ?_
|(refine j0 rfl obQ ?_ ?_ <;> intro h <;> (try simp only [cdS] at h) <;> (try (exfalso; omega))))
|(refine k6 ?_; first
|refine n4 rfl obQ rfl [.string l[k].p.nm, Value.int .i64 l[k].p.w, Value.int .i64 l[k].p.h, .slice l[k].A l[k].p.s.length l[k].c] (.past _ memQ _ _ hr.toS _ _ rfl rfl (idxS (f := fun x => [.string x.p.nm, Value.int .i64 x.p.w, Value.int .i64 x.p.h, .slice x.A x.p.s.length x.c]) (fun _ => rfl) hlt)) rfl (.inl ⟨rfl, rfl⟩) ?_
|refine a8 rfl obQ he (fun W hW => hg l[k] (List.getElem_mem hlt) W hW.below) ?_
|refine e7 ?_
|refine e9 rfl rfl obQ obQ ?_)
|(refine o8 ?_; first
|refine o6 (k + 1) ?_ (by omega) svQ
|refine a7 ?_
|refine n5 ?_
|refine r8 ?_
|refine j6 ?_
|refine j4 rfl obQ (fun w hw => ⟨?_, hw.below⟩)))
    · rw [hk.2, hfd, if_pos h]
    · exact ⟨by omega, by rw [hk.2, hfd, if_neg (by simpa using h)]⟩
  · repeat' (first
|(refine j7 ?_; first
|refine e8 ?_
|refine a6 rfl ?_
|refine o0 ?_
|refine i6 ?_
|(refine j0 rfl obQ ?_ ?_ <;> intro h <;> (try simp only [cdS] at h) <;> (try (exfalso; omega))))
|refine e7 ?_
|refine e9 rfl rfl obQ obQ ?_
|(refine o8 ?_; first
|refine a7 ?_
|refine n2 ?_
|refine n6 ?_
|refine j4 rfl obQ (fun w hw => ⟨?_, hw.below⟩)))
    rw [hk.2, List.drop_of_length_le (by omega)]
    rfl
theorem aV8 (q : FuncId) (c0 : Value) {p : PV' → Bool} (A : Option Addr) (c : Nat) (l : List (PV')) (hl : l.length ≤ 1000000) (he : entB Tryz.prog q = true) (w : World) (hr : Rd w A (l.flatMap fun x => [.string x.p.nm, Value.int .i64 x.p.w, Value.int .i64 x.p.h, .slice x.A x.p.s.length x.c])) (hg : ∀ x ∈ l, ∀ W, Below w.heap.size w W → Calls Tryz.prog q #[.agg #[.string x.p.nm, Value.int .i64 x.p.w, Value.int .i64 x.p.h, .slice x.A x.p.s.length x.c], c0] W fun e w' => e = .returned (.bool (p x)) ∧ Below W.heap.size W w') : Calls Tryz.prog 209 #[.slice A l.length c, .func (.func q) #[] #[c0]] w fun r w' => r = .returned (.bool (l.any p)) ∧ Below w.heap.size w w' := by
  refine i7 n9 Tryz.func209 rfl Tryz.ntmps209 (Nat.le_of_ble_eq_true rfl) rfl ?_
  repeat' (first
|refine e8 ?_
|refine a6 rfl ?_
|refine i6 ?_
|refine e7 ?_
|refine e9 rfl rfl obQ obQ ?_
|refine a8 (f := 255) rfl obQ (by kernel_rfl) (fun w hw => aL5 q c0 A c l hl he w (hw.rdm hr.toS memQ) (fun x hx W hW => hg x hx W (hw.below.trans (hW.mono hw.bsize)))) ?_
|refine a7 ?_
|refine j4 rfl obQ (fun w hw => ⟨?_, hw.below⟩))
  exact rB (Z4 l 0)
theorem R4 {α : Type} (A : Option Addr) (c : Nat) (f : α → Int) (l : List α) (hl : l.length ≤ 1000000) (w : World) (hr : Rd w A (l.map fun x => Value.int .i64 (f x))) : Calls Tryz.prog 107 #[.slice A l.length c] w fun r w' => r = .returned (.int .i64 (firstL (l.map f))) ∧ Below w.heap.size w w' := by
  have h := p6 A c (l.map f) (by simpa using hl) w (by rw [List.map_map]; exact hr)
  rw [List.length_map] at h
  exact h
def szQ (l : List PV') (x : PV') : Bool := x.p.w != (gQ l 0).p.w || x.p.h != (gQ l 0).p.h
def gtB (n : Nat) (z : Int) : Bool := decide ((n : Int) ≤ z)
theorem aB1 {t : List Nod} {n : Nat} : (scI t).any (gtB n) = (scL t).any fun k => decide (n ≤ k) := by
  unfold scI
  rw [List.any_map]
  congr 1
  funext k
  unfold gtB
  simp
theorem bi5 {t : List Nod} {l : List PV'} (h : ¬ pcnE l.length = 0) : pcE t l = pcnE l.length := if_neg h
theorem bj8 {t : List Nod} {l : List PV'} (h : pcnE l.length = 0) : pcE t l = firstL [firstL (l.map fun x => picE x.p), wh (l.any (szQ l)) 2, wh ((scI t).any (gtB l.length)) 10] := by
  rw [aB1]
  exact if_pos h
theorem aX4 {n : Nat} (h : pcnE n = 0) : 0 < n ∧ n ≤ 8 := by
  unfold pcnE at h
  rw [p9] at h
  simp only [List.mem_cons, List.mem_nil_iff, or_false, forall_eq_or_imp, forall_eq, B7 (show (12 : Int) ≠ 0 by omega), B7 (show (5 : Int) ≠ 0 by omega), beq_eq_false_iff_ne, decide_eq_false_iff_not] at h
  omega
theorem bf9 (b : Nat) (ad : Addr) (c : Nat) (l : List PV') (h0 : 0 < l.length) (x : PV') (w : World) (hM : w.heap[b]? = some (.cells ([.slice (some ad) l.length c] : List Value).toArray 111 (0, 0))) (hr : Rd w (some ad) (l.flatMap pvC)) : Calls Tryz.prog 206 #[.agg #[.string x.p.nm, .int .i64 x.p.w, .int .i64 x.p.h, .slice x.A x.p.s.length x.c], .pointer (some ⟨b, 0, none⟩)] w fun r w' => r = .returned (.bool (szQ l x)) ∧ Below w.heap.size w w' := by
  refine i7 n9 Tryz.func206 rfl Tryz.ntmps206 (Nat.le_of_ble_eq_true rfl) rfl ?_
  repeat' (first
|(refine j7 ?_; first
|refine e8 ?_
|refine a6 rfl ?_
|refine i6 ?_
|refine n8 (id := 1) 5 [(0, true), (2, true), (3, true), (4, true), (1, false)] rfl mixed (by kernel_rfl) rfl ?_)
|(refine k6 ?_; first
|refine j8 (k9 rfl obQ (fun w => ne2 (by kernel_rfl) _ _ _ _ _ _ w)) ?_
|refine e7 ?_
|refine e9 rfl rfl obQ obQ ?_
|refine k7 (fun bb => ⟨_, _, rfl, obQ, ?_⟩)
|refine a8 (f := 202) rfl obQ (by kernel_rfl) (fun w hw => Q8 x.p x.A x.c w) ?_
|refine a8 (f := 202) rfl obQ (by kernel_rfl) (fun w hw => Q8 (gQ l 0).p (gQ l 0).A (gQ l 0).c w) ?_)
|(refine N2 ?_; first
|refine r5 ?_
|refine V_q rfl (q3 rfl obQ rfl [.slice (some ad) l.length c] (.cell (_, fun b => b < _) memQ (z8 hM) (w7 hM (o := 0) rfl)) rfl (.inr ⟨rfl, rfl⟩)) ?_
|refine V_q rfl (q3 rfl obQ rfl [.string (gQ l 0).p.nm, .int .i64 (gQ l 0).p.w, .int .i64 (gQ l 0).p.h, .slice (gQ l 0).A (gQ l 0).p.s.length (gQ l 0).c] (.past (w, fun b => b < w.heap.size) memQ _ _ hr.toS 0 _ rfl rfl (fun j u hu => by have := O1 (l := l) (k := 0) h0 j u hu; rw [Nat.zero_add]; simpa using this)) rfl (.inl ⟨rfl, rfl⟩)) ?_
|refine V_q rfl (k8 rfl obQ) ?_
|refine V_n rfl ?_)
|refine G_V ⟨⟨_, rfl, trivial⟩, ⟨_, rfl⟩, rfl, pstQ⟩ rfl ?_
|refine a7 ?_
|refine j4 rfl obQ (fun w hw => ⟨?_, hw.below⟩))
  rfl
theorem bf1 (b : Nat) (ad : Addr) (c : Nat) (l : List PV') (z : Int) (w : World) (hM : w.heap[b]? = some (.cells ([.slice (some ad) l.length c] : List Value).toArray 111 (0, 0))) : Calls Tryz.prog 207 #[.int .i64 z, .pointer (some ⟨b, 0, none⟩)] w fun r w' => r = .returned (.bool (gtB l.length z)) ∧ Below w.heap.size w w' := by
  refine i7 n9 Tryz.func207 rfl Tryz.ntmps207 (Nat.le_of_ble_eq_true rfl) rfl ?_
  repeat' (first
|refine e8 ?_
|refine a6 rfl ?_
|refine i6 ?_
|refine n4 rfl obQ rfl [.slice (some ad) l.length c] (.cell (_, fun b => b < _) memQ (z8 hM) (w7 hM (o := 0) rfl)) rfl (.inr ⟨rfl, rfl⟩) ?_
|refine e7 ?_
|refine e9 rfl rfl obQ obQ ?_
|refine a7 ?_
|refine j4 rfl obQ (fun w hw => ⟨?_, hw.below⟩))
  rfl
theorem V1 (t : List Nod) : (scI t).length ≤ 1000000 := by
  unfold scI scL
  rw [List.length_map]
  have := List.length_filter_le (fun k : Nat => hasS t k) (List.range 8)
  simp at this ⊢
  omega
theorem D6 (A : Option Addr) (c : Nat) (t : List Nod) (ht : TrOk t) (B : Option Addr) (c2 : Nat) (l : List PV') (hl : l.length ≤ 1000000) (hsz : ∀ x ∈ l, x.p.s.length ≤ 1000000) (w : World) (hr : Rd w A (t.flatMap ndC)) (hr2 : Rd w B (l.flatMap pvC)) (hrp : ∀ x ∈ l, Rd w x.A (x.p.s.map (.float .f32))) : Calls Tryz.prog 156 #[.slice A t.length c, .slice B l.length c2] w fun r w' => r = .returned (.int .i64 (pcE t l)) ∧ Below w.heap.size w w' := by
  refine i7 n9 Tryz.func156 rfl Tryz.ntmps156 (Nat.le_of_ble_eq_true rfl) rfl ?_
  by_cases hE : pcnE l.length = 0
  · rw [bj8 hE]
    have hn := aX4 hE
    obtain ⟨ad2, rfl⟩ := hr2.some (by rw [M5]; omega)
    repeat' (first
|(refine j7 ?_; first
|refine e8 ?_
|refine a6 rfl ?_
|refine j3 ?_
|refine n8 (id := 1) 7 [(0, true), (1, true), (2, true), (4, true), (5, true), (6, true), (3, false)] rfl mixed (by kernel_rfl) rfl ?_
|(refine j0 rfl obQ ?_ ?_ <;> intro h <;> (try simp only [cdS] at h) <;> (try (exfalso; omega)) <;> (try exact cdF h) <;> (try contradiction)))
|(refine k6 ?_; first
|refine e7 ?_
|refine e9 rfl rfl obQ obQ ?_
|refine k7 (fun bb => ⟨_, _, rfl, obQ, ?_⟩)
|refine j9 (fun b => ⟨_, _, rfl, obQ, ?_⟩)
|refine a8 (f := 112) rfl obQ (by kernel_rfl) (fun w hw => v8 _ _ w) ?_
|refine a8 (f := 107) rfl obQ (by kernel_rfl) (fun w hw => p6 _ _ [wh ((l.length : Int) == 0) 12, wh (decide ((8 : Int) < l.length)) 5] (by simp) w (.inr ⟨_, rfl, hw.src (i := 1) rfl rfl⟩)) ?_)
|refine r5 ?_
|refine V_q rfl (k8 rfl obQ) ?_
|refine V_n rfl ?_
|refine G_V ⟨⟨_, rfl, trivial⟩, ⟨_, rfl⟩, rfl, pstQ⟩ rfl ?_
|refine a7 ?_)
    obtain ⟨b3, rfl⟩ : ∃ z, z = bb := ⟨bb, rfl⟩
    repeat' (first
|refine i6 ?_
|refine n8 (id := 6) 10 [(0, true), (3, true), (4, true), (7, true), (9, true), (1, false), (2, false), (5, false), (6, false), (8, false)] rfl mixed (by kernel_rfl) rfl ?_
|(refine k6 ?_; first
|(refine j5 (f := 208) rfl obQ (by kernel_rfl) (fun w hw => aw9 127 (g := fun x : PV' => picE x.p) (some ad2) c2 l (by omega) (by kernel_rfl) w (hw.rdm hr2.toS memQ) (fun x hx W hW => B1 x.p x.A x.c (hsz x hx) W ((hw.rdm (hrp x hx).toS memQ).below hW))) (fun w1M w2M vM hw1M hbM hRM => ?_); obtain ⟨AM, cM, rfl, hSM⟩ := hRM)
|(refine j5 (f := 118) rfl obQ (by kernel_rfl) (fun w hw => G9 A c t ht w (hw.rdm hr.toS memQ)) (fun w1S w2S vS hw1S hbS hRS => ?_); obtain ⟨AS, cS, rfl, hSS⟩ := hRS)
|refine e7 ?_
|refine e9 rfl rfl obQ obQ ?_
|refine j9 (fun b => ⟨_, _, rfl, obQ, ?_⟩)
|refine a8 (f := 112) rfl obQ (by kernel_rfl) (fun w hw => v8 _ _ w) ?_
|refine a8 (f := 209) rfl obQ (by kernel_rfl) (fun w hw => aV8 206 (.pointer (some ⟨b3, 0, none⟩)) (p := szQ l) (some ad2) c2 l (by omega) (by kernel_rfl) w (hw.rdm hr2.toS memQ) (fun x hx W hW => bf9 b3 ad2 c2 l (by omega) x W ((hW.block b3 (HW.bxAt hw (i := 0) rfl rfl).1.2).trans (HW.bxAt hw (i := 0) rfl rfl).2) ((hw.rdm hr2.toS memQ).below hW))) ?_
|refine a8 (f := 134) rfl obQ (by kernel_rfl) (fun w hw => G4 (l := scI t) 207 (.pointer (some ⟨b3, 0, none⟩)) (p := gtB l.length) rfl (V1 t) (by kernel_rfl) w (hw.rdm hSS memQ) (fun y hy W hW => bf1 b3 ad2 c2 l y W ((hW.block b3 (HW.bxAt hw (i := 0) rfl rfl).1.2).trans (HW.bxAt hw (i := 0) rfl rfl).2))) ?_
|refine a8 (f := 107) rfl obQ (by kernel_rfl) (fun w hw => R4 _ _ (fun x : PV' => picE x.p) l (by omega) w (hw.rdm hSM memQ)) ?_
|refine a8 (f := 107) rfl obQ (by kernel_rfl) (fun w hw => p6 _ _ [firstL (l.map fun x => picE x.p), wh (l.any (szQ l)) 2, wh ((scI t).any (gtB l.length)) 10] (by simp) w (.inr ⟨_, rfl, hw.src (i := 2) rfl rfl⟩)) ?_)
|refine r5 ?_
|refine V_q rfl (k8 rfl obQ) ?_
|refine V_n rfl ?_
|refine G_V ⟨⟨_, rfl, trivial⟩, ⟨_, rfl⟩, rfl, pstQ⟩ rfl ?_
|refine a7 ?_
|refine j4 rfl obQ (fun w hw => ⟨?_, hw.below⟩))
    all_goals rfl
  · rw [bi5 hE]
    repeat' (first
|(refine j7 ?_; first
|refine e8 ?_
|refine a6 rfl ?_
|refine i6 ?_
|refine n8 (id := 1) 7 [(0, true), (1, true), (2, true), (4, true), (5, true), (6, true), (3, false)] rfl mixed (by kernel_rfl) rfl ?_
|(refine j0 rfl obQ ?_ ?_ <;> intro h <;> (try simp only [cdS] at h) <;> (try (exfalso; omega)) <;> (try exact cdF h) <;> (try contradiction)))
|(refine k6 ?_; first
|refine e7 ?_
|refine e9 rfl rfl obQ obQ ?_
|refine k7 (fun bb => ⟨_, _, rfl, obQ, ?_⟩)
|refine j9 (fun b => ⟨_, _, rfl, obQ, ?_⟩)
|refine a8 (f := 112) rfl obQ (by kernel_rfl) (fun w hw => v8 _ _ w) ?_
|refine a8 (f := 107) rfl obQ (by kernel_rfl) (fun w hw => p6 _ _ [wh ((l.length : Int) == 0) 12, wh (decide ((8 : Int) < l.length)) 5] (by simp) w (.inr ⟨_, rfl, hw.src (i := 1) rfl rfl⟩)) ?_)
|refine r5 ?_
|refine V_q rfl (k8 rfl obQ) ?_
|refine V_n rfl ?_
|(refine o8 ?_; first
|refine G_V ⟨⟨_, rfl, trivial⟩, ⟨_, rfl⟩, rfl, pstQ⟩ rfl ?_
|refine a7 ?_
|refine j6 ?_
|refine j4 rfl obQ (fun w hw => ⟨?_, hw.below⟩)))
    all_goals rfl
abbrev PlT (W H : Nat) := { q : Nat × Nat // q.1 < W ∧ q.2 < H }
def encP (W H : Nat) (q : PlT W H) : Array Value := #[.agg #[.int .i64 ((q.1.1 : Nat) : Int), .int .i64 ((q.1.2 : Nat) : Int), .int .i64 ((q.1.2 * W + q.1.1 : Nat) : Int)]]
def plOf {W H : Nat} (h0 : 0 < W ∧ 0 < H) (x y : Nat) : PlT W H := if h : x < W ∧ y < H then ⟨(x, y), h⟩ else ⟨(0, 0), h0⟩
theorem aG8 {W H x y : Nat} (h0 : 0 < W ∧ 0 < H) (h : x < W ∧ y < H) : plOf h0 x y = ⟨(x, y), h⟩ := dif_pos h
def plLs {W H : Nat} (h0 : 0 < W ∧ 0 < H) (x0 x1 y0 y1 : Nat) : List (PlT W H) := rmL (fun x y => plOf h0 (x0 + x) (y0 + y)) (x1 - x0) (y1 - y0)
theorem bd8 {α : Type} (f : Nat → Nat → α) {W H x y : Nat} (hx : x < W) (hy : y < H) : (rmL f W H).take (y * W + x + 1) = (rmL f W H).take (y * W + x) ++ [f x y] := by
  have h := bi8 f hx hy
  have hl := (List.getElem?_eq_some_iff.1 h).1
  rw [List.take_succ_eq_append_getElem hl]
  rw [List.getElem?_eq_getElem hl] at h
  rw [Option.some.inj h]
structure PlM (W : World) (b5 b4 b3 : Nat) (x0 x1 y0 y1 Wd : Nat) : Prop where
  m5 : W.heap[b5]? = some (.cells ([.int .i64 ((y0 : Nat) : Int), .int .i64 ((y1 : Nat) : Int)] : List Value).toArray 108 (0, 0))
  m4 : W.heap[b4]? = some (.cells ([.int .i64 ((x0 : Nat) : Int), .int .i64 ((x1 : Nat) : Int)] : List Value).toArray 108 (0, 0))
  m3 : W.heap[b3]? = some (.cells ([.int .i64 ((Wd : Nat) : Int)] : List Value).toArray 3 (0, 0))
def PlR (w w' : World) (v : Value) (x0 x1 y0 y1 Wd : Nat) : Prop := ∃ b5 b4 b3, v = .func (.func 256) #[] #[.pointer (some ⟨b5, 0, none⟩), .pointer (some ⟨b4, 0, none⟩), .pointer (some ⟨b3, 0, none⟩)] ∧ ((w.heap.size ≤ b5 ∧ b5 < w'.heap.size) ∧ (w.heap.size ≤ b4 ∧ b4 < w'.heap.size) ∧ (w.heap.size ≤ b3 ∧ b3 < w'.heap.size)) ∧ PlM w' b5 b4 b3 x0 x1 y0 y1 Wd
theorem PlM.kps {S : Nat → Prop} {W W' : World} {b5 b4 b3 x0 x1 y0 y1 Wd : Nat} (h : PlM W b5 b4 b3 x0 x1 y0 y1 Wd) (hk : KpS S W W') (s5 : S b5) (s4 : S b4) (s3 : S b3) : PlM W' b5 b4 b3 x0 x1 y0 y1 Wd :=
  ⟨(hk.2 b5 s5 (z8 h.m5)).trans h.m5, (hk.2 b4 s4 (z8 h.m4)).trans h.m4, (hk.2 b3 s3 (z8 h.m3)).trans h.m3⟩
theorem aK7 (x0 x1 y0 y1 Wd : Nat) (w : World) : Calls Tryz.prog 213 #[.int .i64 ((Wd : Nat) : Int), .agg #[.int .i64 ((x0 : Nat) : Int), .int .i64 ((x1 : Nat) : Int)], .agg #[.int .i64 ((y0 : Nat) : Int), .int .i64 ((y1 : Nat) : Int)]] w fun r w' => ∃ v, r = .returned v ∧ Below w.heap.size w w' ∧ PlR w w' v x0 x1 y0 y1 Wd := by
  refine i7 n9 Tryz.func213 rfl Tryz.ntmps213 (Nat.le_of_ble_eq_true rfl) rfl ?_
  repeat' (first
|refine e8 ?_
|refine a6 rfl ?_
|refine i6 ?_
|refine e7 ?_
|refine e9 rfl rfl obQ obQ ?_
|refine k7 (fun b => ⟨_, _, rfl, obQ, ?_⟩)
|refine a7 ?_
|refine j4 rfl obQ (fun w2 hw => ⟨_, rfl, hw.below, _, _, _, rfl, ⟨(HW.bxAt hw (i := 2) rfl rfl).1, (HW.bxAt hw (i := 1) rfl rfl).1, (HW.bxAt hw (i := 0) rfl rfl).1⟩, (HW.bxAt hw (i := 2) rfl rfl).2, (HW.bxAt hw (i := 1) rfl rfl).2, (HW.bxAt hw (i := 0) rfl rfl).2⟩))
theorem bs0 (b5 b4 b3 x0 x1 y0 y1 Wd H : Nat) (h0 : 0 < Wd ∧ 0 < H) (hx : x1 ≤ Wd) (hy : y1 ≤ H) (h64 : Wd ≤ 64 ∧ H ≤ 64) (hxx : x0 ≤ x1) (hyy : y0 ≤ y1) (Sx : Nat → Prop) (s5 : Sx b5) (s4 : Sx b4) (s3 : Sx b3) (w : World) (hM : PlM w b5 b4 b3 x0 x1 y0 y1 Wd) :
    Seq Tryz.prog 256 #[.pointer (some ⟨b5, 0, none⟩), .pointer (some ⟨b4, 0, none⟩), .pointer (some ⟨b3, 0, none⟩)] (encP Wd H) (plLs h0 x0 x1 y0 y1) Sx w := by
  refine aT3 (lb := [.pointer (some ⟨b5, 0, none⟩), .pointer (some ⟨b4, 0, none⟩), .pointer (some ⟨b3, 0, none⟩)]) n9 Tryz.func256 rfl Tryz.ntmps256 (Nat.le_of_ble_eq_true rfl) (fun l J Jx W hW hJ hJx hY hj0 => ?_)
  have hMW : PlM W b5 b4 b3 x0 x1 y0 y1 Wd := hM.kps (S := Sx) ⟨hW.size, fun b _ hb => hW.block b hb⟩ s5 s4 s3
  have hlen : (plLs h0 x0 x1 y0 y1).length = (y1 - y0) * (x1 - x0) := ab1 _ _ _
  repeat' (first
|refine e8 ?_
|refine a6 rfl ?_
|refine j1 ?_
|refine n4 rfl obQ rfl [.int .i64 ((y0 : Nat) : Int)] (.cell (_, fun b => b < _) memQ (z8 hMW.m5) (w7 hMW.m5 (o := 0) rfl)) rfl (.inr ⟨rfl, rfl⟩) ?_
|refine e7 ?_
|refine e9 rfl rfl obQ obQ ?_
|refine a7 ?_)
  refine aq5 (X := ⟨Tryz.prog, T, n9, 34, 0, default, [], none⟩) (fun i : Nat => ⟨[(0, .s (.v (.func (.yield l) #[] #[]))), (1, .s (.v (.pointer (some ⟨b5, 0, none⟩)))), (2, .s (.v (.pointer (some ⟨b4, 0, none⟩)))), (3, .s (.v (.pointer (some ⟨b3, 0, none⟩)))), (5, .s (.v (.int .i64 ((y0 + i : Nat) : Int))))], [], []⟩) (fun i W => i ≤ y1 - y0 ∧ PlM W b5 b4 b3 x0 x1 y0 y1 Wd ∧ J ((plLs h0 x0 x1 y0 y1).take (i * (x1 - x0))) W) (fun i => y1 - y0 - i) 0 ⟨Nat.zero_le _, hMW, by simpa using hj0⟩ ?_ (fun i W hi => ?_)
  · exact svQ
  obtain ⟨hi, hM1, hj⟩ := hi
  by_cases hlt : i < y1 - y0
  · repeat' (first
|(refine j7 ?_; first
|refine e8 ?_
|refine a6 rfl ?_
|refine j1 ?_
|refine j3 ?_
|(refine j0 rfl obQ ?_ ?_ <;> intro h <;> (try simp only [cdS] at h) <;> (try (exfalso; omega)) <;> (try exact cdF h) <;> (try (exfalso; omega))))
|(refine k6 ?_; first
|refine n4 rfl obQ rfl [.int .i64 ((y1 : Nat) : Int)] (.cell (_, fun b => b < _) memQ (z8 hM1.m5) (w7 hM1.m5 (o := 1) rfl)) rfl (.inr ⟨rfl, rfl⟩) ?_
|refine n4 rfl obQ rfl [.int .i64 ((x0 : Nat) : Int)] (.cell (_, fun b => b < _) memQ (z8 hM1.m4) (w7 hM1.m4 (o := 0) rfl)) rfl (.inr ⟨rfl, rfl⟩) ?_
|refine e7 ?_
|refine e9 rfl rfl obQ obQ ?_)
|refine a7 ?_)
    refine aq5 (X := ⟨Tryz.prog, T, n9, 34, 0, default, [], none⟩) (fun j : Nat => ⟨[(0, .s (.v (.func (.yield l) #[] #[]))), (1, .s (.v (.pointer (some ⟨b5, 0, none⟩)))), (2, .s (.v (.pointer (some ⟨b4, 0, none⟩)))), (3, .s (.v (.pointer (some ⟨b3, 0, none⟩)))), (5, .s (.v (.int .i64 ((y0 + i : Nat) : Int)))), (6, .s (.v (.int .i64 ((x0 + j : Nat) : Int))))], [], []⟩) (fun j W => j ≤ x1 - x0 ∧ PlM W b5 b4 b3 x0 x1 y0 y1 Wd ∧ J ((plLs h0 x0 x1 y0 y1).take (i * (x1 - x0) + j)) W) (fun j => x1 - x0 - j) 0 ⟨Nat.zero_le _, hM1, hj⟩ ?_ (fun j W hk => ?_)
    · exact svQ
    obtain ⟨hk, hM2, hj2⟩ := hk
    by_cases hjl : j < x1 - x0
    · have hmul : ((y0 + i : Nat) : Int) * (Wd : Int) = (((y0 + i) * Wd : Nat) : Int) := by rw [Int.natCast_mul]
      have hmb : (y0 + i) * Wd ≤ 64 * 64 := Nat.mul_le_mul (by omega) h64.1
      have htk := bd8 (fun x y => plOf h0 (x0 + x) (y0 + y)) hjl hlt
      have hin : x0 + j < Wd ∧ y0 + i < H := by omega
      rw [aG8 h0 hin] at htk
      have hl2 : i * (x1 - x0) + j < (y1 - y0) * (x1 - x0) := by
        have := Nat.mul_le_mul_right (x1 - x0) (show i + 1 ≤ y1 - y0 by omega)
        rw [Nat.succ_mul] at this
        omega
      repeat' (first
|(refine j7 ?_; first
|refine e8 ?_
|refine a6 rfl ?_
|refine j1 ?_
|refine j3 ?_
|(refine j0 rfl obQ ?_ ?_ <;> intro h <;> (try simp only [cdS] at h) <;> (try (exfalso; omega)) <;> (try exact cdF h) <;> (try (exfalso; omega))))
|(refine k6 ?_; first
|refine n4 rfl obQ rfl [.int .i64 ((x1 : Nat) : Int)] (.cell (_, fun b => b < _) memQ (z8 hM2.m4) (w7 hM2.m4 (o := 1) rfl)) rfl (.inr ⟨rfl, rfl⟩) ?_
|refine n4 rfl obQ rfl [.int .i64 ((Wd : Nat) : Int)] (.cell (_, fun b => b < _) memQ (z8 hM2.m3) (w7 hM2.m3 (o := 0) rfl)) rfl (.inr ⟨rfl, rfl⟩) ?_
|refine e7 ?_
|refine e9 rfl rfl obQ obQ ?_)
|refine a7 ?_)
      refine ay5 (X := ⟨Tryz.prog, T, n9, 34, 0, default, [], none⟩) rfl rfl rfl (fun hg => obQ) hJ hY ((plLs h0 x0 x1 y0 y1).take (i * (x1 - x0) + j)) ⟨(x0 + j, y0 + i), hin⟩ hj2 (fun hg => by rw [List.length_take, hlen]; omega) (fun hg => ?_) (fun hg => by simp [gOk] at hg) (fun hg W2 hj3 hk2 => ?_) (fun hg W2 hj3 => ?_)
      · show [Value.agg #[_, _, .int .i64 _]] = [Value.agg #[_, _, .int .i64 _]]
        rw [hmul]
        rfl
      · have hj4 : J ((plLs h0 x0 x1 y0 y1).take (i * (x1 - x0) + j + 1)) W2 := by unfold plLs at hj3 ⊢; rw [htk]; exact hj3
        have hM3 := hM2.kps hk2 s5 s4 s3
        repeat' (first
|refine a6 rfl ?_
|refine j3 ?_
|refine n7 rfl obQ ?_
|refine e7 ?_
|refine e9 rfl rfl obQ obQ ?_
|refine ao4 (X := ⟨Tryz.prog, T, n9, 34, 0, default, [], none⟩) (j + 1) ⟨hjl, hM3, hj4⟩ (by omega) svQ
|refine a7 ?_
|refine n5 ?_)
      · have hj4 : Jx ((plLs h0 x0 x1 y0 y1).take (i * (x1 - x0) + j + 1)) W2 := by unfold plLs at hj3 ⊢; rw [htk]; exact hj3
        repeat' (first
|refine i6 ?_
|refine o5 rfl obQ ?_
|refine e7 ?_
|refine e9 rfl rfl obQ obQ ?_
|(refine o8 ?_; first
|refine aT4 (X := ⟨Tryz.prog, T, n9, 34, 0, default, [], none⟩) hJx hj4 (List.take_prefix _ _) rfl obQ
|refine a7 ?_
|refine r8 ?_
|refine j6 ?_))
    · obtain rfl : j = x1 - x0 := by omega
      have hj5 : J ((plLs h0 x0 x1 y0 y1).take ((i + 1) * (x1 - x0))) W := by rw [Nat.succ_mul]; exact hj2
      repeat' (first
|(refine j7 ?_; first
|refine e8 ?_
|refine a6 rfl ?_
|refine o0 ?_
|(refine j0 rfl obQ ?_ ?_ <;> intro h <;> (try simp only [cdS] at h) <;> (try (exfalso; omega)) <;> (try exact cdF h) <;> (try (exfalso; omega))))
|refine n4 rfl obQ rfl [.int .i64 ((x1 : Nat) : Int)] (.cell (_, fun b => b < _) memQ (z8 hM2.m4) (w7 hM2.m4 (o := 1) rfl)) rfl (.inr ⟨rfl, rfl⟩) ?_
|refine e7 ?_
|refine e9 rfl rfl obQ obQ ?_
|(refine o8 ?_; first
|refine ao4 (X := ⟨Tryz.prog, T, n9, 34, 0, default, [], none⟩) (i + 1) ⟨hlt, hM2, hj5⟩ (by omega) svQ
|refine a7 ?_
|refine n5 ?_
|refine n2 ?_
|refine n6 ?_))
  · obtain rfl : i = y1 - y0 := by omega
    rw [List.take_of_length_le (by rw [hlen]; exact Nat.le_refl _)] at hj
    repeat' (first
|(refine j7 ?_; first
|refine e8 ?_
|refine a6 rfl ?_
|refine o0 ?_
|(refine j0 rfl obQ ?_ ?_ <;> intro h <;> (try simp only [cdS] at h) <;> (try (exfalso; omega)) <;> (try exact cdF h) <;> (try (exfalso; omega))))
|refine n4 rfl obQ rfl [.int .i64 ((y1 : Nat) : Int)] (.cell (_, fun b => b < _) memQ (z8 hM1.m5) (w7 hM1.m5 (o := 1) rfl)) rfl (.inr ⟨rfl, rfl⟩) ?_
|refine e7 ?_
|refine e9 rfl rfl obQ obQ ?_
|(refine o8 ?_; first
|refine aU2 (X := ⟨Tryz.prog, T, n9, 34, 0, default, [], none⟩) hJ (by exact hj) rfl obQ
|refine a7 ?_
|refine n2 ?_
|refine n6 ?_))
theorem HW.pastF {B : Nat} {w0 w : World} {Ps : Past} {σ : St} (hw : HW B w0 Ps σ w) : HW B w0 ((w, fun _ => False) :: Ps) σ w := by
  refine { below := hw.below, bsize := hw.bsize, nodup := hw.nodup, box := hw.box, past := fun p hp b hb => ?_, row := fun r hr => ?_, apart := hw.apart, old := fun p hp => ?_ }
  · rcases List.mem_cons.1 hp with rfl | hp
    · exact hb.elim
    · exact hw.past p hp b hb
  · obtain ⟨h1, h2⟩ := hw.row r hr
    refine ⟨h1, fun g hg => ⟨(h2 g hg).1, fun p hp => ?_⟩⟩
    rcases List.mem_cons.1 hp with rfl | hp
    · exact fun h => h
    · exact (h2 g hg).2 p hp
  · rcases List.mem_cons.1 hp with rfl | hp
    · exact Nat.le_refl _
    · exact hw.old p hp
theorem K3 {B : Nat} {w0 w W : World} {Ps : Past} {σ : St} {S S' : Nat → Prop} {A : Option Addr} {xs : List Value} (hw : HW B w0 Ps σ w) (h : RdS S W A xs) (hp : (W, S) ∈ Ps) (hs : ∀ b, S b → b < w.heap.size → S' b) : RdS S' w A xs := by
  have hr := hw.rdm h hp
  rcases h with h | ⟨ad, e1, h2, h3⟩
  · exact .inl h
  · refine .inr ⟨ad, e1, hs _ h2 (hw.past _ hp _ h2).1.1, ?_⟩
    rcases hr with hr | ⟨ad', e2, h4⟩
    · rw [hr]; intro j u hu; simp at hu
    · rw [e1] at e2; cases e2; exact h4
theorem ay4 {α : Type} {P : α → Prop} {l : List α} {a : α} (h : ∀ x ∈ l, P x) (ha : P a) : ∀ x ∈ l ++ [a], P x := by
  intro x hx
  rcases List.mem_append.1 hx with hx | hx
  · exact h x hx
  · obtain rfl : x = a := by simpa using hx
    exact ha
theorem aY7 {w w' : World} {A : Option Addr} {n c : Nat} {xs : List Value} (h : Sl w w' (.slice A n c) n xs) : RdS (fun b => w.heap.size ≤ b ∧ b < w'.heap.size) w' A xs := by
  obtain ⟨A', c', e, h⟩ := h
  cases e
  exact h
def kcL (x : Nod) : List Value := match kdOf x.kd with
  | some .src => [.int .i64 0, Value.func (.func 233) #[] #[], Value.func (.func 236) #[] #[], .nilFunc, Value.func (.func 234) #[] #[], Value.func (.func 235) #[] #[]]
  | some .mat => [.int .i64 0, Value.func (.func 233) #[] #[], Value.func (.func 237) #[] #[], .nilFunc, Value.func (.func 234) #[] #[], Value.func (.func 235) #[] #[]]
  | some .mix => [.int .i64 2, Value.func (.func 233) #[] #[], Value.func (.func 238) #[] #[], Value.func (.func 239) #[] #[], Value.func (.func 234) #[] #[], Value.func (.func 235) #[] #[]]
  | some .wip => [.int .i64 2, Value.func (.func 240) #[] #[], Value.func (.func 241) #[] #[], Value.func (.func 242) #[] #[], .nilFunc, Value.func (.func 243) #[] #[]]
  | some .key => [.int .i64 3, Value.func (.func 244) #[] #[], Value.func (.func 245) #[] #[], Value.func (.func 246) #[] #[], Value.func (.func 247) #[] #[], Value.func (.func 248) #[] #[]]
  | none => [.int .i64 0, .nilFunc, .nilFunc, .nilFunc, .nilFunc, .nilFunc]
def kc (x : Nod) (i : Nat) : Value := (kcL x).getD i .nilFunc
theorem bo6 {x : Nod} {k : Kd} (h : kdOf x.kd = some k) : .agg (kcL x).toArray = kdV k := by
  unfold kcL
  rw [h]
  cases k <;> rfl
theorem br7 (x : Nod) (i : Nat) : (kc x i).oneCell' = true := by
  unfold kc kcL
  rcases kdOf x.kd with _ | k
  · rcases i with _ | _ | _ | _ | _ | _ | i <;> rfl
  · cases k <;> (rcases i with _ | _ | _ | _ | _ | _ | i <;> rfl)
def cdC (x : Nod) : List Value := [.string x.kd, .int .i64 x.a, .int .i64 x.b, .int .i64 x.c, .int .i64 x.n, .int .i64 x.cl, .int .i64 x.ga, .string x.w.sh, .int .i64 x.w.a, .int .i64 x.w.b, .int .i64 x.w.at_, .int .i64 x.w.soft, kc x 0, kc x 1, kc x 2, kc x 3, kc x 4, kc x 5]
abbrev Lvl := List Int × Option Addr × Nat × Nat
def lvV (e : Lvl) : Value := .slice e.2.1 e.2.2.1 e.2.2.2
def gE (l : List Lvl) (k : Nat) : Lvl := l.getD k ([], none, 0, 0)
theorem aF3 {l : List Lvl} {k : Nat} (h : k < l.length) : gE l k = l[k] := by simp [gE, h]
def lvK (x : PV') : List Int × Nat := (lvs x.p, x.p.s.length)
def eK (e : Lvl) : List Int × Nat := (e.1, e.2.2.1)
def LvR (w w' : World) (v : Value) (l : List PV') : Prop := ∃ (A : Option Addr) (c : Nat) (l' : List Lvl), v = .slice A l.length c ∧ l'.map eK = l.map lvK ∧ RdS (fun b => w.heap.size ≤ b ∧ b < w'.heap.size) w' A (l'.map lvV) ∧ ∀ e ∈ l', RdS (fun b => w.heap.size ≤ b ∧ b < w'.heap.size) w' e.2.1 (e.1.map (.int .i64))
theorem aV4 {l : List PV'} {l' : List Lvl} {k : Nat} (hk : k < l.length) (h : l'.map eK = (l.take k).map lvK) (A : Option Addr) (c : Nat) : (l' ++ [((lvs (gQ l k).p, A, (gQ l k).p.s.length, c) : Lvl)]).map eK = (l.take (k + 1)).map lvK := by
  rw [List.map_append, h, List.take_succ_eq_append_getElem hk, List.map_append, T0 hk]
  rfl
theorem br5 {l : List PV'} {l' : List Lvl} (h : l'.map eK = (l.take l.length).map lvK) : l'.map eK = l.map lvK := by rwa [List.take_length] at h
theorem at3 (q : FuncId) (c0 : Value) {g : Nod → Nod} (A : Option Addr) (c : Nat) (l : List (Nod)) (hl : l.length ≤ 1000000) (he : entB Tryz.prog q = true) (w : World) (hr : Rd w A (l.flatMap fun x => [.string x.kd, .int .i64 x.a, .int .i64 x.b, .int .i64 x.c, .int .i64 x.n, .int .i64 x.cl, .int .i64 x.ga, .string x.w.sh, .int .i64 x.w.a, .int .i64 x.w.b, .int .i64 x.w.at_, .int .i64 x.w.soft])) (hg : ∀ x ∈ l, ∀ W, Below w.heap.size w W → Calls Tryz.prog q #[Value.agg #[.string x.kd, .int .i64 x.a, .int .i64 x.b, .int .i64 x.c, .int .i64 x.n, .int .i64 x.cl, .int .i64 x.ga, .string x.w.sh, .int .i64 x.w.a, .int .i64 x.w.b, .int .i64 x.w.at_, .int .i64 x.w.soft], c0] W fun e w' => e = .returned (Value.agg #[.string (g x).kd, .int .i64 (g x).a, .int .i64 (g x).b, .int .i64 (g x).c, .int .i64 (g x).n, .int .i64 (g x).cl, .int .i64 (g x).ga, .string (g x).w.sh, .int .i64 (g x).w.a, .int .i64 (g x).w.b, .int .i64 (g x).w.at_, .int .i64 (g x).w.soft, kc (g x) 0, kc (g x) 1, kc (g x) 2, kc (g x) 3, kc (g x) 4, kc (g x) 5]) ∧ Below W.heap.size W w') : Calls Tryz.prog 210 #[.slice A l.length c, .func (.func q) #[] #[c0]] w fun r w' => ∃ v, r = .returned v ∧ Below w.heap.size w w' ∧ Sl w w' v l.length (l.flatMap fun x => [.string (g x).kd, .int .i64 (g x).a, .int .i64 (g x).b, .int .i64 (g x).c, .int .i64 (g x).n, .int .i64 (g x).cl, .int .i64 (g x).ga, .string (g x).w.sh, .int .i64 (g x).w.a, .int .i64 (g x).w.b, .int .i64 (g x).w.at_, .int .i64 (g x).w.soft, kc (g x) 0, kc (g x) 1, kc (g x) 2, kc (g x) 3, kc (g x) 4, kc (g x) 5]) := by
  refine i7 n9 Tryz.func210 rfl Tryz.ntmps210 (Nat.le_of_ble_eq_true rfl) rfl ?_
  repeat' (first
|refine e8 ?_
|refine a6 rfl ?_
|refine j1 ?_
|refine e7 ?_
|refine e9 rfl rfl obQ obQ ?_
|refine k7 (fun b => ⟨_, _, rfl, obQ, ?_⟩)
|refine a7 ?_)
  refine C9 5 255 18 rfl ?_
  refine p7 (fun i : Nat × Option Addr × Nat => ⟨[(5, .s (.r i.2.1 i.1 i.2.2 0)), (8, .s (.v (.slice A l.length c))), (9, .s (.v (.int .i64 l.length))), (10, .s (.v (.int .i64 i.1))), (1, .s (.v (.func (.func q) #[] #[c0])))], [], [⟨255, 18, i.1, (l.take i.1).flatMap fun x => [.string (g x).kd, .int .i64 (g x).a, .int .i64 (g x).b, .int .i64 (g x).c, .int .i64 (g x).n, .int .i64 (g x).cl, .int .i64 (g x).ga, .string (g x).w.sh, .int .i64 (g x).w.a, .int .i64 (g x).w.b, .int .i64 (g x).w.at_, .int .i64 (g x).w.soft, kc (g x) 0, kc (g x) 1, kc (g x) 2, kc (g x) 3, kc (g x) 4, kc (g x) 5], .slice i.2.1 i.1 i.2.2⟩]⟩) (fun i => i.1 ≤ l.length) (fun i => l.length - i.1) (0, none, 0) (Nat.zero_le _) ?_ (fun i hi => ?_)
  · exact svQ
  obtain ⟨k, A', c'⟩ := i
  have hi' : k ≤ l.length := hi
  dsimp only
  by_cases hlt : k < l.length
  · obtain ⟨ad, rfl⟩ := hr.some (by simp [C7 (s := 12)]; omega)
    have hmt := J5 (f := fun x => [.string (g x).kd, .int .i64 (g x).a, .int .i64 (g x).b, .int .i64 (g x).c, .int .i64 (g x).n, .int .i64 (g x).cl, .int .i64 (g x).ga, .string (g x).w.sh, .int .i64 (g x).w.a, .int .i64 (g x).w.b, .int .i64 (g x).w.at_, .int .i64 (g x).w.soft, kc (g x) 0, kc (g x) 1, kc (g x) 2, kc (g x) 3, kc (g x) 4, kc (g x) 5]) hlt
    repeat' (first
|(refine j7 ?_; first
|refine e8 ?_
|refine a6 rfl ?_
|refine j1 ?_
|refine j3 ?_
|(refine j0 rfl obQ ?_ ?_ <;> intro h <;> (try simp only [cdS] at h) <;> (try (exfalso; omega))))
|(refine k6 ?_; first
|refine n4 rfl obQ rfl [.string l[k].kd, .int .i64 l[k].a, .int .i64 l[k].b, .int .i64 l[k].c, .int .i64 l[k].n, .int .i64 l[k].cl, .int .i64 l[k].ga, .string l[k].w.sh, .int .i64 l[k].w.a, .int .i64 l[k].w.b, .int .i64 l[k].w.at_, .int .i64 l[k].w.soft] (.past _ memQ _ _ hr.toS _ _ rfl rfl (idxS (f := fun x => [.string x.kd, .int .i64 x.a, .int .i64 x.b, .int .i64 x.c, .int .i64 x.n, .int .i64 x.cl, .int .i64 x.ga, .string x.w.sh, .int .i64 x.w.a, .int .i64 x.w.b, .int .i64 x.w.at_, .int .i64 x.w.soft]) (fun _ => rfl) hlt)) rfl (.inl ⟨rfl, rfl⟩) ?_
|refine a8 rfl obQ he (fun W hW => hg l[k] (List.getElem_mem hlt) W hW.below) ?_
|refine w9 rfl obQ rfl rfl rfl ⟨by decide, rfl⟩ rfl ⟨rfl, rfl, rfl, rfl⟩ [.string (g l[k]).kd, .int .i64 (g l[k]).a, .int .i64 (g l[k]).b, .int .i64 (g l[k]).c, .int .i64 (g l[k]).n, .int .i64 (g l[k]).cl, .int .i64 (g l[k]).ga, .string (g l[k]).w.sh, .int .i64 (g l[k]).w.a, .int .i64 (g l[k]).w.b, .int .i64 (g l[k]).w.at_, .int .i64 (g l[k]).w.soft, kc (g l[k]) 0, kc (g l[k]) 1, kc (g l[k]) 2, kc (g l[k]) 3, kc (g l[k]) 4, kc (g l[k]) 5] ⟨by decide, rfl⟩ (by intro u hu; simp only [List.mem_cons, List.mem_nil_iff, or_false] at hu; rcases hu with rfl | rfl | rfl | rfl | rfl | rfl | rfl | rfl | rfl | rfl | rfl | rfl | rfl | rfl | rfl | rfl | rfl | rfl <;> first | rfl | exact br7 _ _) (fun w hw => by first | exact hw.src (i := 0) rfl rfl | exact hw.src (i := 1) rfl rfl | exact hw.src (i := 2) rfl rfl | exact hw.src (i := 3) rfl rfl | exact hw.src (i := 4) rfl rfl | exact hw.src (i := 5) rfl rfl | exact hw.src (i := 6) rfl rfl | exact hw.src (i := 7) rfl rfl | exact hw.src (i := 8) rfl rfl) (by unfold maxLen; dsimp only; omega) (fun gb cap' => ⟨_, rfl, ?_⟩)
|refine e7 ?_
|refine e9 rfl rfl obQ obQ ?_
|refine k7 (fun b => ⟨_, _, rfl, obQ, ?_⟩)
|refine j9 (fun b => ⟨_, _, rfl, obQ, ?_⟩))
|refine o6 (k + 1, some ⟨gb, 0, none⟩, cap') (by show k + 1 ≤ _; omega) (by show l.length - (k + 1) < l.length - k; omega) ⟨⟨_, rfl, obQ⟩, ⟨_, rfl⟩, (by dsimp only; rw [hmt]), pstQ⟩
|refine a7 ?_
|refine n5 ?_)
  · obtain rfl : k = l.length := by omega
    repeat' (first
|(refine j7 ?_; first
|refine e8 ?_
|refine a6 rfl ?_
|refine o0 ?_
|refine i6 ?_
|(refine j0 rfl obQ ?_ ?_ <;> intro h <;> (try simp only [cdS] at h) <;> (try (exfalso; omega))))
|refine e7 ?_
|refine e9 rfl rfl obQ obQ ?_
|(refine o8 ?_; first
|refine a7 ?_
|refine n2 ?_
|refine n6 ?_
|refine j4 rfl obQ (fun w2 hw => ⟨_, rfl, hw.below, HW.rowSl (i := 0) hw rfl rfl rfl (by rw [List.take_length])⟩)))
theorem am1 (b kK : Nat) (x : Nod) (hk : kdOf x.kd = some .src) (w : World) (hM : w.heap[b]? = some (.cells ([.map (some kK)] : List Value).toArray 238 (0, 0))) (hMK : MapE kK kdM w) : Calls Tryz.prog 211 #[.agg #[.string x.kd, .int .i64 x.a, .int .i64 x.b, .int .i64 x.c, .int .i64 x.n, .int .i64 x.cl, .int .i64 x.ga, .string x.w.sh, .int .i64 x.w.a, .int .i64 x.w.b, .int .i64 x.w.at_, .int .i64 x.w.soft], .pointer (some ⟨b, 0, none⟩)] w fun r w' => r = .returned (.agg #[.string x.kd, .int .i64 x.a, .int .i64 x.b, .int .i64 x.c, .int .i64 x.n, .int .i64 x.cl, .int .i64 x.ga, .string x.w.sh, .int .i64 x.w.a, .int .i64 x.w.b, .int .i64 x.w.at_, .int .i64 x.w.soft, .int .i64 0, Value.func (.func 233) #[] #[], Value.func (.func 236) #[] #[], .nilFunc, Value.func (.func 234) #[] #[], Value.func (.func 235) #[] #[]]) ∧ Below w.heap.size w w' := by
  refine i7 n9 Tryz.func211 rfl Tryz.ntmps211 (Nat.le_of_ble_eq_true rfl) rfl ?_
  repeat' (first
|refine e8 ?_
|refine a6 rfl ?_
|refine i6 ?_
|(refine k6 ?_; first
|refine n4 rfl obQ rfl [.map (some kK)] (.cell (_, fun b => b < _) memQ (z8 hM) (w7 hM (o := 0) rfl)) rfl (.inr ⟨rfl, rfl⟩) ?_
|refine j8 (y6 (W := w) (S := fun b => b < w.heap.size) (es := kdM) (z := zK) (r := .agg #[.int .i64 0, Value.func (.func 233) #[] #[], Value.func (.func 236) #[] #[], .nilFunc, Value.func (.func 234) #[] #[], Value.func (.func 235) #[] #[]]) rfl obQ Tryz.underlying238 Tryz.underlying9 z7 memQ (y9 hMK) hMK (.inl (A4 hk))) ?_
|refine e7 ?_
|refine e9 rfl rfl obQ obQ ?_
|refine k7 (fun b => ⟨_, _, rfl, obQ, ?_⟩))
|refine a7 ?_
|refine j4 rfl obQ (fun w hw => ⟨?_, hw.below⟩))
  rfl
theorem ar1 (b kK : Nat) (x : Nod) (hk : kdOf x.kd = some .mat) (w : World) (hM : w.heap[b]? = some (.cells ([.map (some kK)] : List Value).toArray 238 (0, 0))) (hMK : MapE kK kdM w) : Calls Tryz.prog 211 #[.agg #[.string x.kd, .int .i64 x.a, .int .i64 x.b, .int .i64 x.c, .int .i64 x.n, .int .i64 x.cl, .int .i64 x.ga, .string x.w.sh, .int .i64 x.w.a, .int .i64 x.w.b, .int .i64 x.w.at_, .int .i64 x.w.soft], .pointer (some ⟨b, 0, none⟩)] w fun r w' => r = .returned (.agg #[.string x.kd, .int .i64 x.a, .int .i64 x.b, .int .i64 x.c, .int .i64 x.n, .int .i64 x.cl, .int .i64 x.ga, .string x.w.sh, .int .i64 x.w.a, .int .i64 x.w.b, .int .i64 x.w.at_, .int .i64 x.w.soft, .int .i64 0, Value.func (.func 233) #[] #[], Value.func (.func 237) #[] #[], .nilFunc, Value.func (.func 234) #[] #[], Value.func (.func 235) #[] #[]]) ∧ Below w.heap.size w w' := by
  refine i7 n9 Tryz.func211 rfl Tryz.ntmps211 (Nat.le_of_ble_eq_true rfl) rfl ?_
  repeat' (first
|refine e8 ?_
|refine a6 rfl ?_
|refine i6 ?_
|(refine k6 ?_; first
|refine n4 rfl obQ rfl [.map (some kK)] (.cell (_, fun b => b < _) memQ (z8 hM) (w7 hM (o := 0) rfl)) rfl (.inr ⟨rfl, rfl⟩) ?_
|refine j8 (y6 (W := w) (S := fun b => b < w.heap.size) (es := kdM) (z := zK) (r := .agg #[.int .i64 0, Value.func (.func 233) #[] #[], Value.func (.func 237) #[] #[], .nilFunc, Value.func (.func 234) #[] #[], Value.func (.func 235) #[] #[]]) rfl obQ Tryz.underlying238 Tryz.underlying9 z7 memQ (y9 hMK) hMK (.inl (A4 hk))) ?_
|refine e7 ?_
|refine e9 rfl rfl obQ obQ ?_
|refine k7 (fun b => ⟨_, _, rfl, obQ, ?_⟩))
|refine a7 ?_
|refine j4 rfl obQ (fun w hw => ⟨?_, hw.below⟩))
  rfl
theorem ap1 (b kK : Nat) (x : Nod) (hk : kdOf x.kd = some .mix) (w : World) (hM : w.heap[b]? = some (.cells ([.map (some kK)] : List Value).toArray 238 (0, 0))) (hMK : MapE kK kdM w) : Calls Tryz.prog 211 #[.agg #[.string x.kd, .int .i64 x.a, .int .i64 x.b, .int .i64 x.c, .int .i64 x.n, .int .i64 x.cl, .int .i64 x.ga, .string x.w.sh, .int .i64 x.w.a, .int .i64 x.w.b, .int .i64 x.w.at_, .int .i64 x.w.soft], .pointer (some ⟨b, 0, none⟩)] w fun r w' => r = .returned (.agg #[.string x.kd, .int .i64 x.a, .int .i64 x.b, .int .i64 x.c, .int .i64 x.n, .int .i64 x.cl, .int .i64 x.ga, .string x.w.sh, .int .i64 x.w.a, .int .i64 x.w.b, .int .i64 x.w.at_, .int .i64 x.w.soft, .int .i64 2, Value.func (.func 233) #[] #[], Value.func (.func 238) #[] #[], Value.func (.func 239) #[] #[], Value.func (.func 234) #[] #[], Value.func (.func 235) #[] #[]]) ∧ Below w.heap.size w w' := by
  refine i7 n9 Tryz.func211 rfl Tryz.ntmps211 (Nat.le_of_ble_eq_true rfl) rfl ?_
  repeat' (first
|refine e8 ?_
|refine a6 rfl ?_
|refine i6 ?_
|(refine k6 ?_; first
|refine n4 rfl obQ rfl [.map (some kK)] (.cell (_, fun b => b < _) memQ (z8 hM) (w7 hM (o := 0) rfl)) rfl (.inr ⟨rfl, rfl⟩) ?_
|refine j8 (y6 (W := w) (S := fun b => b < w.heap.size) (es := kdM) (z := zK) (r := .agg #[.int .i64 2, Value.func (.func 233) #[] #[], Value.func (.func 238) #[] #[], Value.func (.func 239) #[] #[], Value.func (.func 234) #[] #[], Value.func (.func 235) #[] #[]]) rfl obQ Tryz.underlying238 Tryz.underlying9 z7 memQ (y9 hMK) hMK (.inl (A4 hk))) ?_
|refine e7 ?_
|refine e9 rfl rfl obQ obQ ?_
|refine k7 (fun b => ⟨_, _, rfl, obQ, ?_⟩))
|refine a7 ?_
|refine j4 rfl obQ (fun w hw => ⟨?_, hw.below⟩))
  rfl
theorem ar4 (b kK : Nat) (x : Nod) (hk : kdOf x.kd = some .wip) (w : World) (hM : w.heap[b]? = some (.cells ([.map (some kK)] : List Value).toArray 238 (0, 0))) (hMK : MapE kK kdM w) : Calls Tryz.prog 211 #[.agg #[.string x.kd, .int .i64 x.a, .int .i64 x.b, .int .i64 x.c, .int .i64 x.n, .int .i64 x.cl, .int .i64 x.ga, .string x.w.sh, .int .i64 x.w.a, .int .i64 x.w.b, .int .i64 x.w.at_, .int .i64 x.w.soft], .pointer (some ⟨b, 0, none⟩)] w fun r w' => r = .returned (.agg #[.string x.kd, .int .i64 x.a, .int .i64 x.b, .int .i64 x.c, .int .i64 x.n, .int .i64 x.cl, .int .i64 x.ga, .string x.w.sh, .int .i64 x.w.a, .int .i64 x.w.b, .int .i64 x.w.at_, .int .i64 x.w.soft, .int .i64 2, Value.func (.func 240) #[] #[], Value.func (.func 241) #[] #[], Value.func (.func 242) #[] #[], .nilFunc, Value.func (.func 243) #[] #[]]) ∧ Below w.heap.size w w' := by
  refine i7 n9 Tryz.func211 rfl Tryz.ntmps211 (Nat.le_of_ble_eq_true rfl) rfl ?_
  repeat' (first
|refine e8 ?_
|refine a6 rfl ?_
|refine i6 ?_
|(refine k6 ?_; first
|refine n4 rfl obQ rfl [.map (some kK)] (.cell (_, fun b => b < _) memQ (z8 hM) (w7 hM (o := 0) rfl)) rfl (.inr ⟨rfl, rfl⟩) ?_
|refine j8 (y6 (W := w) (S := fun b => b < w.heap.size) (es := kdM) (z := zK) (r := .agg #[.int .i64 2, Value.func (.func 240) #[] #[], Value.func (.func 241) #[] #[], Value.func (.func 242) #[] #[], .nilFunc, Value.func (.func 243) #[] #[]]) rfl obQ Tryz.underlying238 Tryz.underlying9 z7 memQ (y9 hMK) hMK (.inl (A4 hk))) ?_
|refine e7 ?_
|refine e9 rfl rfl obQ obQ ?_
|refine k7 (fun b => ⟨_, _, rfl, obQ, ?_⟩))
|refine a7 ?_
|refine j4 rfl obQ (fun w hw => ⟨?_, hw.below⟩))
  rfl
theorem ao9 (b kK : Nat) (x : Nod) (hk : kdOf x.kd = some .key) (w : World) (hM : w.heap[b]? = some (.cells ([.map (some kK)] : List Value).toArray 238 (0, 0))) (hMK : MapE kK kdM w) : Calls Tryz.prog 211 #[.agg #[.string x.kd, .int .i64 x.a, .int .i64 x.b, .int .i64 x.c, .int .i64 x.n, .int .i64 x.cl, .int .i64 x.ga, .string x.w.sh, .int .i64 x.w.a, .int .i64 x.w.b, .int .i64 x.w.at_, .int .i64 x.w.soft], .pointer (some ⟨b, 0, none⟩)] w fun r w' => r = .returned (.agg #[.string x.kd, .int .i64 x.a, .int .i64 x.b, .int .i64 x.c, .int .i64 x.n, .int .i64 x.cl, .int .i64 x.ga, .string x.w.sh, .int .i64 x.w.a, .int .i64 x.w.b, .int .i64 x.w.at_, .int .i64 x.w.soft, .int .i64 3, Value.func (.func 244) #[] #[], Value.func (.func 245) #[] #[], Value.func (.func 246) #[] #[], Value.func (.func 247) #[] #[], Value.func (.func 248) #[] #[]]) ∧ Below w.heap.size w w' := by
  refine i7 n9 Tryz.func211 rfl Tryz.ntmps211 (Nat.le_of_ble_eq_true rfl) rfl ?_
  repeat' (first
|refine e8 ?_
|refine a6 rfl ?_
|refine i6 ?_
|(refine k6 ?_; first
|refine n4 rfl obQ rfl [.map (some kK)] (.cell (_, fun b => b < _) memQ (z8 hM) (w7 hM (o := 0) rfl)) rfl (.inr ⟨rfl, rfl⟩) ?_
|refine j8 (y6 (W := w) (S := fun b => b < w.heap.size) (es := kdM) (z := zK) (r := .agg #[.int .i64 3, Value.func (.func 244) #[] #[], Value.func (.func 245) #[] #[], Value.func (.func 246) #[] #[], Value.func (.func 247) #[] #[], Value.func (.func 248) #[] #[]]) rfl obQ Tryz.underlying238 Tryz.underlying9 z7 memQ (y9 hMK) hMK (.inl (A4 hk))) ?_
|refine e7 ?_
|refine e9 rfl rfl obQ obQ ?_
|refine k7 (fun b => ⟨_, _, rfl, obQ, ?_⟩))
|refine a7 ?_
|refine j4 rfl obQ (fun w hw => ⟨?_, hw.below⟩))
  rfl
theorem aS6 (b kK : Nat) (x : Nod) (k : Kd) (hk : kdOf x.kd = some k) (w : World) (hM : w.heap[b]? = some (.cells ([.map (some kK)] : List Value).toArray 238 (0, 0))) (hMK : MapE kK kdM w) : Calls Tryz.prog 211 #[.agg #[.string x.kd, .int .i64 x.a, .int .i64 x.b, .int .i64 x.c, .int .i64 x.n, .int .i64 x.cl, .int .i64 x.ga, .string x.w.sh, .int .i64 x.w.a, .int .i64 x.w.b, .int .i64 x.w.at_, .int .i64 x.w.soft], .pointer (some ⟨b, 0, none⟩)] w fun r w' => r = .returned (.agg #[.string x.kd, .int .i64 x.a, .int .i64 x.b, .int .i64 x.c, .int .i64 x.n, .int .i64 x.cl, .int .i64 x.ga, .string x.w.sh, .int .i64 x.w.a, .int .i64 x.w.b, .int .i64 x.w.at_, .int .i64 x.w.soft, kc x 0, kc x 1, kc x 2, kc x 3, kc x 4, kc x 5]) ∧ Below w.heap.size w w' := by
  have e : ∀ i, kc x i = (match kdV k with | .agg a => a.toList | _ => []).getD i .nilFunc := fun i => by
    have := bo6 hk
    unfold kc
    rw [← this]
  rw [e 0, e 1, e 2, e 3, e 4, e 5]
  cases k with
  | src => exact am1 b kK x hk w hM hMK
  | mat => exact ar1 b kK x hk w hM hMK
  | mix => exact ap1 b kK x hk w hM hMK
  | wip => exact ar4 b kK x hk w hM hMK
  | key => exact ao9 b kK x hk w hM hMK
theorem au3 (A : Option Addr) (c : Nat) (l : List PV') (hl : l.length ≤ 1000000) (hps : ∀ x ∈ l, PicOk x.p) (w : World) (hr : Rd w A (l.flatMap pvC)) (hrp : ∀ x ∈ l, Rd w x.A (x.p.s.map (.float .f32))) : Calls Tryz.prog 212 #[.slice A l.length c, .func (.func 130) #[] #[]] w fun r w' => ∃ v, r = .returned v ∧ Below w.heap.size w w' ∧ LvR w w' v l := by
  refine i7 n9 Tryz.func212 rfl Tryz.ntmps212 (Nat.le_of_ble_eq_true rfl) rfl ?_
  repeat' (first
|refine e8 ?_
|refine a6 rfl ?_
|refine j1 ?_
|refine e7 ?_
|refine e9 rfl rfl obQ obQ ?_
|refine k7 (fun b => ⟨_, _, rfl, obQ, ?_⟩)
|refine a7 ?_)
  refine C9 5 27 1 rfl ?_
  refine aG2 (fun i : Nat × World × (Nat → Prop) × List Lvl × Option Addr × Nat => ([(i.2.1, i.2.2.1), (w, fun b => b < w.heap.size)], (⟨[(5, .s (.r i.2.2.2.2.1 i.1 i.2.2.2.2.2 0)), (8, .s (.v (.slice A l.length c))), (9, .s (.v (.int .i64 l.length))), (10, .s (.v (.int .i64 i.1))), (1, .s (.v (.func (.func 130) #[] #[])))], [], [⟨27, 1, i.1, i.2.2.2.1.map lvV, .slice i.2.2.2.2.1 i.1 i.2.2.2.2.2⟩]⟩ : St))) (fun i => i.1 ≤ l.length ∧ i.2.2.2.1.map eK = (l.take i.1).map lvK ∧ (∀ e ∈ i.2.2.2.1, RdS i.2.2.1 i.2.1 e.2.1 (e.1.map (.int .i64))) ∧ ∀ b, i.2.2.1 b → w.heap.size ≤ b) (fun i => l.length - i.1) (fun w1 => (0, w1, (fun _ => False), [], none, 0)) (fun w1 hw1 => ⟨⟨Nat.zero_le _, rfl, (fun x hx => by cases hx), (fun b hb => hb.elim)⟩, by exact ⟨_, rfl, obQ⟩, by exact HW.pastF (HW.same hw1 rfl rfl)⟩) (fun i hi => ?_)
  obtain ⟨k, W, S, l', A', c'⟩ := i
  obtain ⟨hk, hmp, hS, hB⟩ := hi
  dsimp only at hk hmp hS hB ⊢
  by_cases hlt : k < l.length
  · obtain ⟨ad, rfl⟩ := hr.some (by rw [M5]; omega)
    repeat' (first
|(refine j7 ?_; first
|refine e8 ?_
|refine a6 rfl ?_
|refine j1 ?_
|refine j3 ?_
|(refine j0 rfl obQ ?_ ?_ <;> intro h <;> (try simp only [cdS] at h) <;> (try (exfalso; omega)) <;> (try exact cdF h) <;> (try (exfalso; omega))))
|(refine k6 ?_; first
|refine n4 rfl obQ rfl [.string (gQ l k).p.nm, .int .i64 (gQ l k).p.w, .int .i64 (gQ l k).p.h, .slice (gQ l k).A (gQ l k).p.s.length (gQ l k).c] (.past (w, fun b => b < w.heap.size) memQ _ _ hr.toS _ _ rfl rfl (O1 hlt)) rfl (.inl ⟨rfl, rfl⟩) ?_
|(refine j5 (f := 130) rfl obQ (by kernel_rfl) (fun w hw => H1 (gQ l k).p (gQ l k).A (gQ l k).c (by have := (F8 (hps _ (B3 hlt))).1; omega) (hps _ (B3 hlt)).s w (hw.rdm (hrp _ (B3 hlt)).toS memQ)) (fun w1O w2O vO hw1O hbO hRO => ?_); obtain ⟨AO, cO, rfl, hSO⟩ := hRO)
|refine w9 rfl obQ rfl rfl rfl ⟨by decide, rfl⟩ rfl ⟨rfl, rfl, rfl, rfl⟩ [.slice AO (gQ l k).p.s.length cO] ⟨by decide, rfl⟩ (by simp [Value.oneCell']) (fun w hw => by first | exact hw.src (i := 0) rfl rfl | exact hw.src (i := 1) rfl rfl | exact hw.src (i := 2) rfl rfl | exact hw.src (i := 3) rfl rfl | exact hw.src (i := 4) rfl rfl | exact hw.src (i := 5) rfl rfl | exact hw.src (i := 6) rfl rfl | exact hw.src (i := 7) rfl rfl | exact hw.src (i := 8) rfl rfl) (by unfold maxLen; dsimp only; omega) (fun gb cap' => ⟨_, rfl, ?_⟩)
|refine e7 ?_
|refine e9 rfl rfl obQ obQ ?_
|refine k7 (fun b0 => ⟨_, _, rfl, obQ, ?_⟩)
|refine j9 (fun b => ⟨_, _, rfl, obQ, ?_⟩))
|refine aF4 (fun w3 => (k + 1, w3, fun b => (w1O.heap.size ≤ b ∧ b < w2O.heap.size) ∨ S b, l' ++ [(lvs (gQ l k).p, AO, (gQ l k).p.s.length, cO)], some ⟨gb, 0, none⟩, cap')) (fun w3 hw3 => ⟨⟨hlt, aV4 hlt hmp AO cO, ay4 (fun x hx => K3 hw3 (hS x hx) memQ (fun b hb _ => .inr hb)) (K3 hw3 hSO memQ (fun b hb _ => .inl hb)), (fun b hb => hb.elim (fun h => Nat.le_trans (show w.heap.size ≤ w1O.heap.size from hw1O.bsize) h.1) (hB b))⟩, (by show l.length - (k + 1) < l.length - k; omega), (by exact ⟨_, rfl, obQ⟩), (by exact HW.join (W1 := w2O) (S1 := (fun b => w1O.heap.size ≤ b ∧ b < w2O.heap.size)) (W2 := W) (S2 := S) (Serves.hw (Ps' := (w2O, (fun b => w1O.heap.size ≤ b ∧ b < w2O.heap.size)) :: (W, S) :: [(w, fun b => b < w.heap.size)]) ⟨⟨_, rfl, obQ⟩, ⟨_, rfl⟩, (by dsimp only; rw [List.map_append]; rfl), psQ⟩ hw3))⟩)
|refine a7 ?_
|refine n5 ?_)
  · obtain rfl : k = l.length := by omega
    repeat' (first
|(refine j7 ?_; first
|refine e8 ?_
|refine a6 rfl ?_
|refine o0 ?_
|refine i6 ?_
|(refine j0 rfl obQ ?_ ?_ <;> intro h <;> (try simp only [cdS] at h) <;> (try (exfalso; omega)) <;> (try exact cdF h) <;> (try (exfalso; omega))))
|refine e7 ?_
|refine e9 rfl rfl obQ obQ ?_
|(refine o8 ?_; first
|refine a7 ?_
|refine n2 ?_
|refine n6 ?_
|refine j4 rfl obQ (fun w2 hw => ⟨_, rfl, hw.below, A', c', l', rfl, br5 hmp, aY7 (HW.rowSl (i := 0) hw rfl rfl rfl rfl), fun x hx => K3 hw (hS x hx) memQ (fun b hb h2 => ⟨hB b hb, h2⟩)⟩)))
theorem bn6 (t : List Nod) : (t.flatMap cdC).length = t.length * 18 := C7 (f := cdC) (s := 18) t (fun _ _ => rfl)
theorem au0 {x : Nod} {k : Kd} (h : kdOf x.kd = some k) : cdC x = ndC x ++ kcL x := by
  unfold cdC kc kcL
  rw [h]
  cases k <;> rfl
theorem ad8 {t : List Nod} {k : Nat} {z : Int} {us : List Value} (e : z = k) (h : k < t.length) (hu : cdC (gN t k) = us) : ∀ (j : Nat) (u : Value), us[j]? = some u → (t.flatMap cdC)[(z.toNat * 18 + j)]? = some u := by
  subst e hu
  rw [E6 h]
  exact idxS (f := cdC) (fun _ => rfl) h
theorem W7 {s : ByteArray} : (kdOf s = some .src → s = bSrc) ∧ (kdOf s = some .mat → s ≠ bSrc) ∧ (kdOf s = some .mix → s ≠ bSrc) ∧ (kdOf s = some .wip → s ≠ bSrc) ∧ (kdOf s = some .key → s ≠ bSrc) := by
  by_cases h : s = bSrc
  · subst h
    have : kdOf bSrc = some .src := if_pos rfl
    rw [this]
    simp
  · exact ⟨fun h2 => am2 h2, fun _ => h, fun _ => h, fun _ => h, fun _ => h⟩
def vaX (t : List Nod) (src : Int → Int) (px py : Int) (k : Nat) : List Int := vaN t src px py k ++ List.replicate (t.length - k) 0
section
variable {t : List Nod} {src : Int → Int} {px py : Int}
theorem Y1 {k : Nat} (h : k ≤ t.length) : (vaX t src px py k).length = t.length := by
  unfold vaX
  rw [List.length_append, Z1, List.length_replicate]
  omega
theorem by9 : (List.replicate t.length [Value.int .i64 0]).flatten = (vaX t src px py 0).map (Value.int .i64) := by
  unfold vaX
  show _ = (([] : List Int) ++ List.replicate (t.length - 0) 0).map (Value.int .i64)
  rw [List.nil_append, Nat.sub_zero]
  induction t.length with
  | zero => rfl
  | succ n ih => rw [List.replicate_succ, List.replicate_succ, List.flatten_cons, ih]; rfl
theorem H6 {k : Nat} {a z : Int} (h : 0 ≤ a ∧ a < k) (hz : z = a) (hk : k ≤ t.length) : ∀ (j : Nat) (u : Value), ([.int .i64 (gV (vaN t src px py k) a)] : List Value)[j]? = some u → ((vaX t src px py k).map (Value.int .i64))[(z.toNat * 1 + j)]? = some u := by
  subst hz
  intro j u hu
  rcases j with _ | j
  · simp at hu
    subst hu
    unfold vaX gV
    have h1 : z.toNat < (vaN t src px py k).length := by rw [Z1]; omega
    rw [List.getElem?_map, Nat.mul_one, Nat.add_zero, List.getElem?_append_left h1, List.getElem?_eq_getElem h1]
    simp [h1]
  · simp at hu
theorem Y4 {k : Nat} {z : Int} (hz : z = k) (hk : k < t.length) {v : Int} (hv : nvF (gN t k) (vaN t src px py k) src px py = v) : (vaX t src px py (k + 1)).map (Value.int .i64) = ((vaX t src px py k).map (Value.int .i64)).take (z.toNat * 1) ++ ([Value.int .i64 v] ++ ((vaX t src px py k).map (Value.int .i64)).drop (z.toNat * 1 + 1)) := by
  subst hz
  unfold vaX
  rw [vaN, hv, Int.toNat_natCast, Nat.mul_one, List.map_append, List.map_append, List.map_append]
  have hl : ((vaN t src px py k).map (Value.int .i64)).length = k := by rw [List.length_map, Z1]
  rw [List.take_left' hl, List.drop_append, List.drop_of_length_le (by omega), List.nil_append, hl, show k + 1 - k = 1 by omega, List.append_assoc]
  congr 1
  rw [List.map_replicate, List.map_replicate, List.drop_replicate]
  rfl
theorem aH2 : vaX t src px py t.length = vaN t src px py t.length := by simp [vaX]
end
theorem aS4 {x : Nod} {k : Kd} (h : usF k x = x) : (k = .src ∨ k = .mat → x.a = 0 ∧ x.b = 0) ∧ (k ≠ .key → x.c = 0) := by
  obtain ⟨kd, a, b, c, n, cl, ga, w⟩ := x
  cases k <;> simp [usF] at h ⊢ <;> omega
theorem bn7 {l : List Lvl} {k : Nat} {z : Int} (e : z = k) (h : k < l.length) : ∀ (j : Nat) (u : Value), ([.slice (gE l k).2.1 (gE l k).2.2.1 (gE l k).2.2.2] : List Value)[j]? = some u → (l.map lvV)[(z.toNat * 1 + j)]? = some u := by
  subst e
  rw [aF3 h]
  exact idx1 (f := lvV) h
theorem aH3 {P : Program} {t : TypeId} {p q : Array TypeId} {r : Bool} (hu : P.underlying t = some (.func p q r)) (d : Nat) (f : Fn) (a b : Array Value) (w : World) : (Op.equalIn (d + 1) t (.func f a b) .nilFunc).run P w = .ok false w ∧ (Op.equalIn (d + 1) t .nilFunc .nilFunc).run P w = .ok true w := by
  constructor <;> simp [Op.equalIn, run_underlying hu]
theorem aA5 {P : Program} {t : TypeId} {p q : Array TypeId} {r : Bool} (hu : P.underlying t = some (.func p q r)) (x y : Operand) (f : Fn) (a b : Array Value) (w : World) : (do eqGuard .eql t x y (.func f a b) .nilFunc; binOp .eql t (.func f a b) .nilFunc : Sem Value).run P w = .ok (.bool false) w := by
  have h := (aH3 hu 9999 f a b w).1
  have e : (Op.equal t (.func f a b) .nilFunc).run P w = .ok false w := h
  simp [eqGuard, binOp, e]
theorem bg7 {P : Program} {t : TypeId} {p q : Array TypeId} {r : Bool} (hu : P.underlying t = some (.func p q r)) (x y : Operand) (w : World) : (do eqGuard .eql t x y .nilFunc .nilFunc; binOp .eql t .nilFunc .nilFunc : Sem Value).run P w = .ok (.bool true) w := by
  have h := (aH3 hu 9999 default #[] #[] w).2
  have e : (Op.equal t .nilFunc .nilFunc).run P w = .ok true w := h
  simp [eqGuard, binOp, e]
theorem bf6 {t : List Nod} {src : Int → Int} {px py : Int} (h : 0 < t.length) : ∀ (j : Nat) (u : Value), ([.int .i64 (gV (vaN t src px py t.length) ((t.length - 1 : Nat) : Int))] : List Value)[j]? = some u → ((vaN t src px py t.length).map (Value.int .i64))[(((t.length : Int) - 1).toNat * 1 + j)]? = some u := by
  have := H6 (t := t) (src := src) (px := px) (py := py) (k := t.length) (a := ((t.length - 1 : Nat) : Int)) (z := (t.length : Int) - 1) (by omega) (by omega) (Nat.le_refl _)
  rwa [aH2] at this
theorem bv0 (ad : Addr) (c : Nat) (t : List Nod) (ht : TrOk t) (B : Option Addr) (c2 : Nat) (l : List Lvl) (src : Int → Int) (px py : Int) (ix : Nat) (hpx : 0 ≤ px ∧ px ≤ 64) (hpy : 0 ≤ py ∧ py ≤ 64) (hsb : ∀ n, 0 ≤ n ∧ n ≤ 7 → -16384 ≤ src n ∧ src n ≤ 16384) (hlen : ∀ e ∈ l, e.2.2.1 = e.1.length) (hsrc : ∀ k, k < t.length → kdOf (gN t k).kd = some .src → ∀ nz : Nat, (gN t k).n = nz → nz < l.length ∧ ix < (gE l nz).1.length ∧ src (gN t k).n = gI (gE l nz).1 ix) (w : World) (hr : Rd w (some ad) (t.flatMap cdC)) (hr2 : Rd w B (l.map lvV)) (hrl : ∀ e ∈ l, Rd w e.2.1 (e.1.map (.int .i64))) (hsh : Sh w) : Calls Tryz.prog 214 #[.slice (some ad) t.length c, .slice B l.length c2, .agg #[.int .i64 px, .int .i64 py, .int .i64 ((ix : Nat) : Int)]] w fun r w' => r = .returned (.int .i64 (gV (vaN t src px py t.length) ((t.length - 1 : Nat) : Int))) ∧ Below w.heap.size w w' := by
  refine i7 n9 Tryz.func214 rfl Tryz.ntmps214 (Nat.le_of_ble_eq_true rfl) rfl ?_
  have hl := ht.n
  repeat' (first
|refine e8 ?_
|refine a6 rfl ?_
|refine j1 ?_
|(refine k6 ?_; first
|refine N5 t.length rfl obQ rfl rfl rfl rfl rfl (by unfold maxLen; dsimp only; omega) (fun g' => ?_)
|refine e7 ?_
|refine e9 rfl rfl obQ obQ ?_
|refine k7 (fun bb => ⟨_, _, rfl, obQ, ?_⟩))
|refine a7 ?_)
  obtain ⟨b5, rfl⟩ : ∃ z, z = bb := ⟨bb, rfl⟩
  refine p7 (fun k : Nat => ⟨[(15, .s (.v (.int .i64 k))), (14, .s (.v (.int .i64 t.length))), (13, .s (.v (.slice (some ad) t.length c))), (1, .s (.v (.slice B l.length c2))), (7, .s (.r (some ⟨g', 0, none⟩) t.length t.length 0)), (5, .s (.p b5 0 0))], [⟨b5, 263, [.v (.int .i64 px), .v (.int .i64 py), .v (.int .i64 ((ix : Nat) : Int))]⟩], [⟨3, 1, t.length, (vaX t src px py k).map (.int .i64), .slice (some ⟨g', 0, none⟩) t.length t.length⟩]⟩) (fun k => k ≤ t.length) (fun k => t.length - k) 0 (Nat.zero_le _) ?_ (fun k hk0 => ?_)
  · rw [by9 (src := src) (px := px) (py := py)]
    exact svQ
  have hk1 : k ≤ t.length := hk0
  by_cases hlt : k < t.length
  · obtain ⟨kk, hq⟩ := ht.s k hlt
    have hkk := hq.kd
    have hki := hq.ki
    cases kk with
    | src =>
      have hs0 := W7.1 hkk
      obtain ⟨nz, hnz⟩ := Int.eq_ofNat_of_zero_le (show 0 ≤ (gN t k).n by have := (D1 _ _ _).1 hki; omega)
      obtain ⟨hnl, hil0, hsr0⟩ := hsrc k hlt hkk nz hnz
      have hil : ix < (gE l nz).1.length := hil0
      have hsr : src (gN t k).n = gI (gE l nz).1 ix := hsr0
      have hme : gE l nz ∈ l := by rw [aF3 hnl]; exact List.getElem_mem hnl
      have hle := hlen _ hme
      obtain ⟨ade, hade⟩ := (hrl _ hme).some (by rw [List.length_map]; omega)
      obtain ⟨adl, rfl⟩ := hr2.some (by rw [List.length_map]; omega)
      have hrl' := hrl _ hme
      rw [hade] at hrl'
      repeat' (first
|(refine j7 ?_; first
|refine e8 ?_
|refine a6 rfl ?_
|refine j1 ?_
|refine j3 ?_
|refine n8 (id := 7) 12 [(0, true), (1, true), (2, true), (3, true), (4, true), (5, true), (6, true), (7, true), (8, true), (9, true), (10, true), (11, true)] rfl mixed (by kernel_rfl) rfl ?_
|(refine j0 rfl obQ ?_ ?_ <;> intro h <;> (try simp only [cdS] at h) <;> (try (exfalso; omega)) <;> (try exact cdF h) <;> (try (exfalso; exact h (by rw [hs0]; rfl))) <;> (try (exfalso; omega))))
|(refine k6 ?_; first
|refine n4 rfl obQ rfl [.string (gN t k).kd, .int .i64 (gN t k).a, .int .i64 (gN t k).b, .int .i64 (gN t k).c, .int .i64 (gN t k).n, .int .i64 (gN t k).cl, .int .i64 (gN t k).ga, .string (gN t k).w.sh, .int .i64 (gN t k).w.a, .int .i64 (gN t k).w.b, .int .i64 (gN t k).w.at_, .int .i64 (gN t k).w.soft, .int .i64 0, Value.func (.func 233) #[] #[], Value.func (.func 236) #[] #[], .nilFunc, Value.func (.func 234) #[] #[], Value.func (.func 235) #[] #[]] (.past (w, fun b => b < w.heap.size) memQ _ _ hr.toS _ _ rfl rfl (ad8 (t := t) (k := k) rfl hlt (by rw [au0 hkk]; unfold kcL; rw [hkk]; rfl))) rfl (.inl ⟨rfl, rfl⟩) ?_
|refine r6 rfl obQ rfl rfl rfl 0 rfl rfl (((k : Nat) : Int).toNat * 1) rfl (by dsimp only; rw [List.length_map, Y1 (by omega)]; omega) (xs' := (vaX t src px py (k + 1)).map (.int .i64)) (Y4 (v := src (gN t k).n) rfl hlt (by unfold nvF; rw [hkk])) rfl ?_
|refine e7 ?_
|refine e9 rfl rfl obQ obQ ?_
|refine k7 (fun b0 => ⟨_, _, rfl, obQ, ?_⟩))
|(refine N2 ?_; first
|refine r5 ?_
|refine V_q rfl (q3 rfl obQ rfl [.slice (some ade) (gE l nz).2.2.1 (gE l nz).2.2.2] (.past (w, fun b => b < w.heap.size) memQ _ _ hr2.toS _ _ rfl rfl (by rw [← hade]; exact bn7 (k := nz) hnz hnl)) rfl (.inr ⟨rfl, rfl⟩)) ?_
|refine V_q rfl (q3 rfl obQ rfl [.int .i64 (src (gN t k).n)] (.past (w, fun b => b < w.heap.size) memQ _ _ hrl'.toS _ _ rfl rfl (by rw [hsr]; exact y5 (k := ix) rfl hil)) rfl (.inr ⟨rfl, rfl⟩)) ?_
|refine V_q rfl (k8 rfl obQ) ?_)
|refine o6 (k + 1) (show k + 1 ≤ t.length by omega) (by show t.length - (k + 1) < t.length - k; omega) svQ
|refine a7 ?_
|refine n5 ?_)
    | mat =>
      have hs0 := W7.2.1 hkk
      repeat' (first
|(refine j7 ?_; first
|refine e8 ?_
|refine a6 rfl ?_
|refine j1 ?_
|refine j3 ?_
|refine o5 rfl obQ ?_
|(refine j0 rfl obQ ?_ ?_ <;> intro h <;> (try simp only [cdS] at h) <;> (try (exfalso; omega)) <;> (try exact cdF h) <;> (try (exfalso; exact hs0 (toL h))) <;> (try (exfalso; omega))))
|(refine k6 ?_; first
|refine n4 rfl obQ rfl [.string (gN t k).kd, .int .i64 (gN t k).a, .int .i64 (gN t k).b, .int .i64 (gN t k).c, .int .i64 (gN t k).n, .int .i64 (gN t k).cl, .int .i64 (gN t k).ga, .string (gN t k).w.sh, .int .i64 (gN t k).w.a, .int .i64 (gN t k).w.b, .int .i64 (gN t k).w.at_, .int .i64 (gN t k).w.soft, .int .i64 0, Value.func (.func 233) #[] #[], Value.func (.func 237) #[] #[], .nilFunc, Value.func (.func 234) #[] #[], Value.func (.func 235) #[] #[]] (.past (w, fun b => b < w.heap.size) memQ _ _ hr.toS _ _ rfl rfl (ad8 (t := t) (k := k) rfl hlt (by rw [au0 hkk]; unfold kcL; rw [hkk]; rfl))) rfl (.inl ⟨rfl, rfl⟩) ?_
|refine j8 (k9 rfl obQ (fun w => bg7 Tryz.underlying233 _ _ w)) ?_
|refine r6 rfl obQ rfl rfl rfl 0 rfl rfl (((k : Nat) : Int).toNat * 1) rfl (by dsimp only; rw [List.length_map, Y1 (by omega)]; omega) (xs' := (vaX t src px py (k + 1)).map (.int .i64)) (Y4 (v := (gN t k).n) rfl hlt (by unfold nvF; rw [hkk])) rfl ?_
|refine e7 ?_
|refine e9 rfl rfl obQ obQ ?_
|refine k7 (fun b0 => ⟨_, _, rfl, obQ, ?_⟩))
|refine o6 (k + 1) (show k + 1 ≤ t.length by omega) (by show t.length - (k + 1) < t.length - k; omega) svQ
|refine a7 ?_
|refine n5 ?_)
    | mix =>
      have hs0 := W7.2.2.1 hkk
      have hin := hq.ins
      simp only [insF, List.mem_cons, List.mem_nil_iff, or_false, forall_eq_or_imp, forall_eq] at hin
      obtain ⟨ha, hb⟩ := hin
      have hc0 := (aS4 hq.us).2 (by simp)
      have hc : 0 ≤ (gN t k).c ∧ (gN t k).c < k := by omega
      have hba := aH6 (t := t) (src := src) (px := px) (py := py) ht hsb (k := k) (by omega)
      have hb1 := hba _ ha
      have hb2 := hba _ hb
      have hb3 := hba _ hc
      have hb4 := (D1 _ _ _).1 hki
      repeat' (first
|(refine j7 ?_; first
|refine e8 ?_
|refine a6 rfl ?_
|refine j1 ?_
|refine j3 ?_
|refine n8 (id := 5) 31 [(0, true), (1, true), (2, true), (3, true), (4, true), (5, true), (6, true), (7, true), (8, true), (9, true), (10, true), (11, true), (12, true), (13, true), (14, true), (15, true), (16, true), (17, true), (18, true), (19, true), (20, true), (21, true), (22, true), (23, true), (24, true), (25, true), (26, true), (27, true), (28, true), (29, false), (30, false)] rfl mixed (by kernel_rfl) rfl ?_
|refine n7 rfl obQ ?_
|(refine j0 rfl obQ ?_ ?_ <;> intro h <;> (try simp only [cdS] at h) <;> (try (exfalso; omega)) <;> (try exact cdF h) <;> (try (exfalso; exact hs0 (toL h))) <;> (try (exfalso; omega))))
|(refine k6 ?_; first
|refine n4 rfl obQ rfl [.string (gN t k).kd, .int .i64 (gN t k).a, .int .i64 (gN t k).b, .int .i64 (gN t k).c, .int .i64 (gN t k).n, .int .i64 (gN t k).cl, .int .i64 (gN t k).ga, .string (gN t k).w.sh, .int .i64 (gN t k).w.a, .int .i64 (gN t k).w.b, .int .i64 (gN t k).w.at_, .int .i64 (gN t k).w.soft, .int .i64 2, Value.func (.func 233) #[] #[], Value.func (.func 238) #[] #[], Value.func (.func 239) #[] #[], Value.func (.func 234) #[] #[], Value.func (.func 235) #[] #[]] (.past (w, fun b => b < w.heap.size) memQ _ _ hr.toS _ _ rfl rfl (ad8 (t := t) (k := k) rfl hlt (by rw [au0 hkk]; unfold kcL; rw [hkk]; rfl))) rfl (.inl ⟨rfl, rfl⟩) ?_
|refine j8 (k9 rfl obQ (fun w => aA5 Tryz.underlying233 _ _ _ _ _ w)) ?_
|refine r6 rfl obQ rfl rfl rfl 0 rfl rfl (((k : Nat) : Int).toNat * 1) rfl (by dsimp only; rw [List.length_map, Y1 (by omega)]; omega) (xs' := (vaX t src px py (k + 1)).map (.int .i64)) (Y4 (v := miF (gV (vaN t src px py k) (gN t k).a) (gV (vaN t src px py k) (gN t k).b) ((gN t k).n)) rfl hlt (by unfold nvF; rw [hkk])) rfl ?_
|refine e7 ?_
|refine e9 rfl rfl obQ obQ ?_
|refine k7 (fun b0 => ⟨_, _, rfl, obQ, ?_⟩)
|refine a8 (f := 239) rfl obQ (by kernel_rfl) (fun w hw => bw7 (gN t k) px py _ w) ?_
|refine a8 (f := 161) rfl obQ (by kernel_rfl) (fun w hw => am0 _ _ _ hb1 hb2 hb4 w) ?_)
|(refine N2 ?_; first
|refine r5 ?_
|refine V_q rfl (q3 rfl obQ rfl [.int .i64 (gV (vaN t src px py k) (gN t k).a)] (.row 0 _ rfl g' t.length t.length ((gN t k).a.toNat * 1) rfl rfl (H6 ha rfl (by omega))) rfl (.inr ⟨rfl, rfl⟩)) ?_
|refine V_q rfl (q3 rfl obQ rfl [.int .i64 (gV (vaN t src px py k) (gN t k).b)] (.row 0 _ rfl g' t.length t.length ((gN t k).b.toNat * 1) rfl rfl (H6 hb rfl (by omega))) rfl (.inr ⟨rfl, rfl⟩)) ?_
|refine V_q rfl (q3 rfl obQ rfl [.int .i64 (gV (vaN t src px py k) (gN t k).c)] (.row 0 _ rfl g' t.length t.length ((gN t k).c.toNat * 1) rfl rfl (H6 hc rfl (by omega))) rfl (.inr ⟨rfl, rfl⟩)) ?_
|refine V_q rfl (k8 rfl obQ) ?_
|refine V_n rfl ?_)
|(refine o8 ?_; first
|refine G_V ⟨⟨_, rfl, trivial⟩, ⟨_, rfl⟩, rfl, pstQ⟩ rfl ?_
|refine o6 (k + 1) (show k + 1 ≤ t.length by omega) (by show t.length - (k + 1) < t.length - k; omega) svQ
|refine a7 ?_
|refine n5 ?_))
    | wip =>
      have hs0 := W7.2.2.2.1 hkk
      have hin := hq.ins
      simp only [insF, List.mem_cons, List.mem_nil_iff, or_false, forall_eq_or_imp, forall_eq] at hin
      obtain ⟨ha, hb⟩ := hin
      have hc0 := (aS4 hq.us).2 (by simp)
      have hc : 0 ≤ (gN t k).c ∧ (gN t k).c < k := by omega
      have hba := aH6 (t := t) (src := src) (px := px) (py := py) ht hsb (k := k) (by omega)
      have hb1 := hba _ ha
      have hb2 := hba _ hb
      have hb3 := hba _ hc
      have hb4 := aF8 (ag5.1 hki) px py
      repeat' (first
|(refine j7 ?_; first
|refine e8 ?_
|refine a6 rfl ?_
|refine j1 ?_
|refine j3 ?_
|refine n8 (id := 5) 31 [(0, true), (1, true), (2, true), (3, true), (4, true), (5, true), (6, true), (7, true), (8, true), (9, true), (10, true), (11, true), (12, true), (13, true), (14, true), (15, true), (16, true), (17, true), (18, true), (19, true), (20, true), (21, true), (22, true), (23, true), (24, true), (25, true), (26, true), (27, true), (28, true), (29, false), (30, false)] rfl mixed (by kernel_rfl) rfl ?_
|refine n7 rfl obQ ?_
|(refine j0 rfl obQ ?_ ?_ <;> intro h <;> (try simp only [cdS] at h) <;> (try (exfalso; omega)) <;> (try exact cdF h) <;> (try (exfalso; exact hs0 (toL h))) <;> (try (exfalso; omega))))
|(refine k6 ?_; first
|refine n4 rfl obQ rfl [.string (gN t k).kd, .int .i64 (gN t k).a, .int .i64 (gN t k).b, .int .i64 (gN t k).c, .int .i64 (gN t k).n, .int .i64 (gN t k).cl, .int .i64 (gN t k).ga, .string (gN t k).w.sh, .int .i64 (gN t k).w.a, .int .i64 (gN t k).w.b, .int .i64 (gN t k).w.at_, .int .i64 (gN t k).w.soft, .int .i64 2, Value.func (.func 240) #[] #[], Value.func (.func 241) #[] #[], Value.func (.func 242) #[] #[], .nilFunc, Value.func (.func 243) #[] #[]] (.past (w, fun b => b < w.heap.size) memQ _ _ hr.toS _ _ rfl rfl (ad8 (t := t) (k := k) rfl hlt (by rw [au0 hkk]; unfold kcL; rw [hkk]; rfl))) rfl (.inl ⟨rfl, rfl⟩) ?_
|refine j8 (k9 rfl obQ (fun w => aA5 Tryz.underlying233 _ _ _ _ _ w)) ?_
|refine r6 rfl obQ rfl rfl rfl 0 rfl rfl (((k : Nat) : Int).toNat * 1) rfl (by dsimp only; rw [List.length_map, Y1 (by omega)]; omega) (xs' := (vaX t src px py (k + 1)).map (.int .i64)) (Y4 (v := miF (gV (vaN t src px py k) (gN t k).a) (gV (vaN t src px py k) (gN t k).b) (wsF (gN t k).w px py)) rfl hlt (by unfold nvF; rw [hkk])) rfl ?_
|refine e7 ?_
|refine e9 rfl rfl obQ obQ ?_
|refine k7 (fun b0 => ⟨_, _, rfl, obQ, ?_⟩)
|refine a8 (f := 242) rfl obQ (by kernel_rfl) (fun w hw => bs1 (gN t k) (ag5.1 hki) px py _ (by omega) (by omega) w (r7 hsh hw memQ)) ?_
|refine a8 (f := 161) rfl obQ (by kernel_rfl) (fun w hw => am0 _ _ _ hb1 hb2 hb4 w) ?_)
|(refine N2 ?_; first
|refine r5 ?_
|refine V_q rfl (q3 rfl obQ rfl [.int .i64 (gV (vaN t src px py k) (gN t k).a)] (.row 0 _ rfl g' t.length t.length ((gN t k).a.toNat * 1) rfl rfl (H6 ha rfl (by omega))) rfl (.inr ⟨rfl, rfl⟩)) ?_
|refine V_q rfl (q3 rfl obQ rfl [.int .i64 (gV (vaN t src px py k) (gN t k).b)] (.row 0 _ rfl g' t.length t.length ((gN t k).b.toNat * 1) rfl rfl (H6 hb rfl (by omega))) rfl (.inr ⟨rfl, rfl⟩)) ?_
|refine V_q rfl (q3 rfl obQ rfl [.int .i64 (gV (vaN t src px py k) (gN t k).c)] (.row 0 _ rfl g' t.length t.length ((gN t k).c.toNat * 1) rfl rfl (H6 hc rfl (by omega))) rfl (.inr ⟨rfl, rfl⟩)) ?_
|refine V_q rfl (k8 rfl obQ) ?_
|refine V_n rfl ?_)
|(refine o8 ?_; first
|refine G_V ⟨⟨_, rfl, trivial⟩, ⟨_, rfl⟩, rfl, pstQ⟩ rfl ?_
|refine o6 (k + 1) (show k + 1 ≤ t.length by omega) (by show t.length - (k + 1) < t.length - k; omega) svQ
|refine a7 ?_
|refine n5 ?_))
    | key =>
      have hs0 := W7.2.2.2.2 hkk
      have hin := hq.ins
      simp only [insF, List.mem_cons, List.mem_nil_iff, or_false, forall_eq_or_imp, forall_eq] at hin
      obtain ⟨ha, hb, hc⟩ := hin
      have hba := aH6 (t := t) (src := src) (px := px) (py := py) ht hsb (k := k) (by omega)
      have hb1 := hba _ ha
      have hb2 := hba _ hb
      have hb3 := hba _ hc
      have hb4 := aB3 (gN t k).cl (gN t k).ga (gV (vaN t src px py k) (gN t k).c)
      repeat' (first
|(refine j7 ?_; first
|refine e8 ?_
|refine a6 rfl ?_
|refine j1 ?_
|refine j3 ?_
|refine n8 (id := 5) 31 [(0, true), (1, true), (2, true), (3, true), (4, true), (5, true), (6, true), (7, true), (8, true), (9, true), (10, true), (11, true), (12, true), (13, true), (14, true), (15, true), (16, true), (17, true), (18, true), (19, true), (20, true), (21, true), (22, true), (23, true), (24, true), (25, true), (26, true), (27, true), (28, true), (29, false), (30, false)] rfl mixed (by kernel_rfl) rfl ?_
|refine n7 rfl obQ ?_
|(refine j0 rfl obQ ?_ ?_ <;> intro h <;> (try simp only [cdS] at h) <;> (try (exfalso; omega)) <;> (try exact cdF h) <;> (try (exfalso; exact hs0 (toL h))) <;> (try (exfalso; omega))))
|(refine k6 ?_; first
|refine n4 rfl obQ rfl [.string (gN t k).kd, .int .i64 (gN t k).a, .int .i64 (gN t k).b, .int .i64 (gN t k).c, .int .i64 (gN t k).n, .int .i64 (gN t k).cl, .int .i64 (gN t k).ga, .string (gN t k).w.sh, .int .i64 (gN t k).w.a, .int .i64 (gN t k).w.b, .int .i64 (gN t k).w.at_, .int .i64 (gN t k).w.soft, .int .i64 3, Value.func (.func 244) #[] #[], Value.func (.func 245) #[] #[], Value.func (.func 246) #[] #[], Value.func (.func 247) #[] #[], Value.func (.func 248) #[] #[]] (.past (w, fun b => b < w.heap.size) memQ _ _ hr.toS _ _ rfl rfl (ad8 (t := t) (k := k) rfl hlt (by rw [au0 hkk]; unfold kcL; rw [hkk]; rfl))) rfl (.inl ⟨rfl, rfl⟩) ?_
|refine j8 (k9 rfl obQ (fun w => aA5 Tryz.underlying233 _ _ _ _ _ w)) ?_
|refine r6 rfl obQ rfl rfl rfl 0 rfl rfl (((k : Nat) : Int).toNat * 1) rfl (by dsimp only; rw [List.length_map, Y1 (by omega)]; omega) (xs' := (vaX t src px py (k + 1)).map (.int .i64)) (Y4 (v := miF (gV (vaN t src px py k) (gN t k).a) (gV (vaN t src px py k) (gN t k).b) (shF (gN t k).cl (gN t k).ga (gV (vaN t src px py k) (gN t k).c))) rfl hlt (by unfold nvF; rw [hkk])) rfl ?_
|refine e7 ?_
|refine e9 rfl rfl obQ obQ ?_
|refine k7 (fun b0 => ⟨_, _, rfl, obQ, ?_⟩)
|refine a8 (f := 246) rfl obQ (by kernel_rfl) (fun w hw => bs2 (gN t k) (aH4.1 hki) px py _ (by omega) w) ?_
|refine a8 (f := 161) rfl obQ (by kernel_rfl) (fun w hw => am0 _ _ _ hb1 hb2 hb4 w) ?_)
|(refine N2 ?_; first
|refine r5 ?_
|refine V_q rfl (q3 rfl obQ rfl [.int .i64 (gV (vaN t src px py k) (gN t k).a)] (.row 0 _ rfl g' t.length t.length ((gN t k).a.toNat * 1) rfl rfl (H6 ha rfl (by omega))) rfl (.inr ⟨rfl, rfl⟩)) ?_
|refine V_q rfl (q3 rfl obQ rfl [.int .i64 (gV (vaN t src px py k) (gN t k).b)] (.row 0 _ rfl g' t.length t.length ((gN t k).b.toNat * 1) rfl rfl (H6 hb rfl (by omega))) rfl (.inr ⟨rfl, rfl⟩)) ?_
|refine V_q rfl (q3 rfl obQ rfl [.int .i64 (gV (vaN t src px py k) (gN t k).c)] (.row 0 _ rfl g' t.length t.length ((gN t k).c.toNat * 1) rfl rfl (H6 hc rfl (by omega))) rfl (.inr ⟨rfl, rfl⟩)) ?_
|refine V_q rfl (k8 rfl obQ) ?_
|refine V_n rfl ?_)
|(refine o8 ?_; first
|refine G_V ⟨⟨_, rfl, trivial⟩, ⟨_, rfl⟩, rfl, pstQ⟩ rfl ?_
|refine o6 (k + 1) (show k + 1 ≤ t.length by omega) (by show t.length - (k + 1) < t.length - k; omega) svQ
|refine a7 ?_
|refine n5 ?_))
  · obtain rfl : k = t.length := by omega
    rw [aH2]
    repeat' (first
|(refine j7 ?_; first
|refine e8 ?_
|refine a6 rfl ?_
|refine o0 ?_
|refine i6 ?_
|(refine j0 rfl obQ ?_ ?_ <;> intro h <;> (try simp only [cdS] at h) <;> (try (exfalso; omega)) <;> (try exact cdF h) <;> (try (exfalso; omega))))
|refine n4 rfl obQ rfl [.int .i64 (gV (vaN t src px py t.length) ((t.length - 1 : Nat) : Int))] (.row 0 _ rfl g' t.length t.length (((t.length : Int) - 1).toNat * 1) rfl rfl (bf6 (by omega))) rfl (.inr ⟨rfl, rfl⟩) ?_
|refine e7 ?_
|refine e9 rfl rfl obQ obQ ?_
|(refine o8 ?_; first
|refine a7 ?_
|refine n2 ?_
|refine n6 ?_
|refine j4 rfl obQ (fun w hw => ⟨?_, hw.below⟩)))
    all_goals rfl
end Go.Proofs.YtjkgklhjbopoaaaGreatDoor
