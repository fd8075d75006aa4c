/- Mixer: contracts of the small functions. -/
import Derived.Test.YtjkgklhjbopoaaaGreatDoorPartA
import Derived.Test.YtjkgklhjbopoaaaGreatDoorEng4
namespace Go.Proofs.YtjkgklhjbopoaaaGreatDoor
open Go.E Go.RowKit Go.Fl
attribute [local irreducible] G C S D Calls
set_option maxRecDepth 100000
set_option linter.all false
set_option maxHeartbeats 8000000
theorem v8 (b : Bool) (e : Int) (w : World) : Calls Tryz.prog 112 #[.bool b, .int .i64 e] w fun r w' => r = .returned (.int .i64 (wh b e)) ∧ Below w.heap.size w w' := by
  refine i7 n9 Tryz.func112 rfl Tryz.ntmps112 (Nat.le_of_ble_eq_true rfl) rfl ?_
  repeat' (first
|(refine j7 ?_; first
|refine e8 ?_
|refine a6 rfl ?_
|refine j1 ?_
|refine j3 ?_
|refine i6 ?_
|(refine j0 rfl obQ ?_ ?_ <;> intro h <;> (try simp only [cdS] at h)))
|refine e7 ?_
|refine e9 rfl rfl obQ obQ ?_
|refine a7 ?_
|refine j6 ?_
|refine j4 rfl obQ (fun w hw => ⟨?_, hw.below⟩))
  all_goals simp [wh, h]
theorem E5 (n l m : Int) (w : World) : Calls Tryz.prog 111 #[.int .i64 n, .int .i64 l, .int .i64 m] w fun r w' => r = .returned (.int .i64 (wi n l m)) ∧ Below w.heap.size w w' := by
  refine i7 n9 Tryz.func111 rfl Tryz.ntmps111 (Nat.le_of_ble_eq_true rfl) rfl ?_
  repeat' (first
|refine e8 ?_
|refine a6 rfl ?_
|refine i6 ?_
|refine e7 ?_
|refine e9 rfl rfl obQ obQ ?_
|refine a8 (f := 112) rfl obQ (by kernel_rfl) (fun w hw => v8 _ _ _) ?_
|refine a7 ?_
|refine j4 rfl obQ (fun w hw => ⟨?_, hw.below⟩))
  simp [wi, wh]
theorem p6 (A : Option Addr) (c : Nat) (es : List Int) (hl : es.length ≤ 1000000) (w : World) (hr : Rd w A (es.map (.int .i64))) : Calls Tryz.prog 107 #[.slice A es.length c] w fun r w' => r = .returned (.int .i64 (firstL es)) ∧ Below w.heap.size w w' := by
  refine i7 n9 Tryz.func107 rfl Tryz.ntmps107 (Nat.le_of_ble_eq_true rfl) rfl ?_
  repeat' (first
|(refine j7 ?_; first
|refine e8 ?_
|refine a6 rfl ?_
|refine j1 ?_
|refine j3 ?_
|refine i6 ?_
|(refine j0 rfl obQ ?_ ?_ <;> intro h <;> (try simp only [cdS] at h)))
|refine e7 ?_
|refine e9 rfl rfl obQ obQ ?_
|refine a7 ?_
|refine j6 ?_
|refine j4 rfl obQ (fun w hw => ⟨?_, hw.below⟩))
  refine p7 (fun k : Nat => ⟨[(7, .s (.v (.int .i64 k))), (6, .s (.v (.int .i64 es.length))), (5, .s (.v (.slice A es.length c)))], [], []⟩) (fun k => k ≤ es.length ∧ firstL es = firstL (es.drop k)) (fun k => es.length - k) 0 ⟨Nat.zero_le _, rfl⟩ ?_ (fun k hk => ?_)
  · exact svQ
  by_cases hlt : k < es.length
  · obtain ⟨ad, rfl⟩ := hr.some (by simp; omega)
    have hfd := I1 hlt
    repeat' (first
|(refine j7 ?_; first
|refine e8 ?_
|refine a6 rfl ?_
|refine j1 ?_
|refine j3 ?_
|refine i6 ?_
|(refine j0 rfl obQ ?_ ?_ <;> intro h <;> (try simp only [cdS] at h) <;> (try (exfalso; omega))))
|refine n4 rfl obQ rfl [.int .i64 es[k]] (.past _ memQ _ _ hr.toS _ _ rfl rfl (idx1 hlt)) rfl (.inr ⟨rfl, rfl⟩) ?_
|refine e7 ?_
|refine e9 rfl rfl obQ obQ ?_
|(refine o8 ?_; first
|refine o6 (k + 1) ?_ (by omega) svQ
|refine a7 ?_
|refine n5 ?_
|refine r8 ?_
|refine j6 ?_
|refine j4 rfl obQ (fun w hw => ⟨?_, hw.below⟩)))
    · rw [hk.2, hfd, if_neg h]
    · exact ⟨by omega, by rw [hk.2, hfd, if_pos h]⟩
  · repeat' (first
|(refine j7 ?_; first
|refine e8 ?_
|refine a6 rfl ?_
|refine o0 ?_
|refine i6 ?_
|(refine j0 rfl obQ ?_ ?_ <;> intro h <;> (try simp only [cdS] at h) <;> (try (exfalso; omega))))
|refine e7 ?_
|refine e9 rfl rfl obQ obQ ?_
|(refine o8 ?_; first
|refine a7 ?_
|refine n2 ?_
|refine n6 ?_
|refine j4 rfl obQ (fun w hw => ⟨?_, hw.below⟩)))
    rw [hk.2, List.drop_of_length_le (by omega)]
    rfl
def slE (c g : Int) : Int := firstL [lvE c, wi g 1 4096]
structure SlOk (c g : Int) : Prop where
  c : -16384 ≤ c ∧ c ≤ 16384
  g : 1 ≤ g ∧ g ≤ 4096
theorem aH4 {c g : Int} : slE c g = 0 ↔ SlOk c g := by
  unfold slE
  rw [p9]
  simp only [List.mem_cons, List.mem_nil_iff, or_false, forall_eq_or_imp, forall_eq, lvE, D1]
  exact ⟨fun ⟨h1, h2⟩ => ⟨h1, h2⟩, fun h => ⟨h.c, h.g⟩⟩
def shF (c g n : Int) : Int := min 256 (max 0 (rnd ((n - c) * g) 256))
def paF (n k : Int) : Int := rnd (n * k) 256
def miF (a b k : Int) : Int := rnd (a * (256 - k) + b * k) 256
theorem ba6 {c g n : Int} (h : SlOk c g) (hn : -131072 ≤ n ∧ n ≤ 131072) : -603979776 ≤ (n - c) * g ∧ (n - c) * g ≤ 603979776 := by
  have h1 := h.c
  have h2 := h.g
  have := P6 (a := n - c) (x := g) (A := 147456) (X := 4096) (by omega) (by omega)
  omega
theorem aB3 (c g n : Int) : 0 ≤ shF c g n ∧ shF c g n ≤ 256 := by unfold shF; omega
theorem bh8 {n k : Int} (hn : -16384 ≤ n ∧ n ≤ 16384) (hk : 0 ≤ k ∧ k ≤ 256) : (-4194304 ≤ n * k ∧ n * k ≤ 4194304) ∧ -16384 ≤ paF n k ∧ paF n k ≤ 16384 := by
  have h := P6 hn (show -256 ≤ k ∧ k ≤ 256 by omega)
  have h2 : -4194304 ≤ n * k ∧ n * k ≤ 4194304 := by omega
  refine ⟨h2, ?_⟩
  unfold paF rnd
  omega
theorem ay0 {a b k : Int} (ha : -16384 ≤ a ∧ a ≤ 16384) (hb : -16384 ≤ b ∧ b ≤ 16384) (hk : 0 ≤ k ∧ k ≤ 256) : (-4194304 ≤ a * (256 - k) ∧ a * (256 - k) ≤ 4194304) ∧ (-4194304 ≤ b * k ∧ b * k ≤ 4194304) ∧ -16384 ≤ miF a b k ∧ miF a b k ≤ 16384 := by
  have h1 := P6 ha (show -256 ≤ 256 - k ∧ 256 - k ≤ 256 by omega)
  have h2 := P6 hb (show -256 ≤ k ∧ k ≤ 256 by omega)
  have g1 := Int.mul_le_mul_of_nonneg_right ha.2 (show 0 ≤ 256 - k by omega)
  have g2 := Int.mul_le_mul_of_nonneg_right ha.1 (show 0 ≤ 256 - k by omega)
  have g3 := Int.mul_le_mul_of_nonneg_right hb.2 hk.1
  have g4 := Int.mul_le_mul_of_nonneg_right hb.1 hk.1
  refine ⟨by omega, by omega, ?_⟩
  unfold miF rnd
  omega
theorem N6 (a b : Int) (hb : 1 ≤ b ∧ b ≤ 1152921504606846976) (ha : -1152921504606846976 ≤ a ∧ a ≤ 1152921504606846976) (w : World) : Calls Tryz.prog 198 #[.int .i64 a, .int .i64 b] w fun r w' => r = .returned (.int .i64 (rnd a b)) ∧ Below w.heap.size w w' := by
  have hq := ab7 (a := 2 * a + b) (b := 2 * b) (by omega)
  have hf := aY4 (a := 2 * a + b) (b := 2 * b) (by omega)
  refine i7 n9 Tryz.func198 rfl Tryz.ntmps198 (Nat.le_of_ble_eq_true rfl) rfl ?_
  repeat' (first
|(refine j7 ?_; first
|refine e8 ?_
|refine a6 rfl ?_
|refine j3 ?_
|refine i6 ?_
|(refine j0 rfl obQ ?_ ?_ <;> intro h <;> (try simp only [cdS] at h)))
|(refine k6 ?_; first
|refine j8 (k9 rfl obQ (fun w => bo4 _ _ _ (by omega) (by omega) w)) ?_
|refine e7 ?_
|refine e9 rfl rfl obQ obQ ?_
|refine E7 rfl obQ ?_)
|refine a7 ?_
|refine j4 rfl obQ (fun w hw => ⟨?_, hw.below⟩))
  · exact rI (by unfold rnd; rw [hf, if_pos h])
  · exact rI (by unfold rnd; rw [hf, if_neg (by omega)])
theorem at6 (b : Nat) (hf : Fin32 b) (hb : -2 ^ 159 ≤ B32 b ∧ B32 b ≤ 2 ^ 159) (w : World) : Calls Tryz.prog 197 #[.float .f32 b] w fun r w' => r = .returned (.int .i64 (lvl b)) ∧ Below w.heap.size w w' := by
  obtain ⟨r, hm, hr1, hr2⟩ := mul16 hf hb
  have hl := ao7 hb
  refine i7 n9 Tryz.func197 rfl Tryz.ntmps197 (Nat.le_of_ble_eq_true rfl) rfl ?_
  repeat' (first
|refine e8 ?_
|refine a6 rfl ?_
|refine i6 ?_
|(refine k6 ?_; first
|refine j8 (k9 rfl obQ (fun w => I2 (op := .mul) (k := .f32) hm _ _ _ w)) ?_
|refine j8 (y8 rfl obQ (fun w => aA9 hr2 hr1 hl w)) ?_
|refine e7 ?_
|refine e9 rfl rfl obQ obQ ?_)
|refine a7 ?_
|refine j4 rfl obQ (fun w hw => ⟨?_, hw.below⟩))
  rfl
theorem aM6 (n : Int) (hn : -16384 ≤ n ∧ n ≤ 16384) (w : World) : Calls Tryz.prog 203 #[.int .i64 n] w fun r w' => r = .returned (.float .f32 (smp n)) ∧ Below w.heap.size w w' := by
  have hs := (aB6 (n := n) (by omega)).1
  refine i7 n9 Tryz.func203 rfl Tryz.ntmps203 (Nat.le_of_ble_eq_true rfl) rfl ?_
  repeat' (first
|refine e8 ?_
|refine a6 rfl ?_
|refine i6 ?_
|(refine k6 ?_; first
|refine j8 (y8 rfl obQ (fun w => aA7 n w)) ?_
|refine j8 (k9 rfl obQ (fun w => I2 (op := .quo) (k := .f32) hs _ _ _ w)) ?_
|refine e7 ?_
|refine e9 rfl rfl obQ obQ ?_)
|refine a7 ?_
|refine j4 rfl obQ (fun w hw => ⟨?_, hw.below⟩))
  rfl
theorem D0 (n : Int) (w : World) : Calls Tryz.prog 144 #[.int .i64 n] w fun r w' => r = .returned (.int .i64 (lvE n)) ∧ Below w.heap.size w w' := by
  refine i7 n9 Tryz.func144 rfl Tryz.ntmps144 (Nat.le_of_ble_eq_true rfl) rfl ?_
  repeat' (first
|refine e8 ?_
|refine a6 rfl ?_
|refine i6 ?_
|refine e7 ?_
|refine e9 rfl rfl obQ obQ ?_
|refine a8 (f := 111) rfl obQ (by kernel_rfl) (fun w hw => E5 _ _ _ w) ?_
|refine a7 ?_
|refine j4 rfl obQ (fun w hw => ⟨?_, hw.below⟩))
  rfl
theorem J9 (c g : Int) (w : World) : Calls Tryz.prog 128 #[.agg #[.int .i64 c, .int .i64 g]] w fun r w' => r = .returned (.int .i64 (slE c g)) ∧ Below w.heap.size w w' := by
  refine i7 n9 Tryz.func128 rfl Tryz.ntmps128 (Nat.le_of_ble_eq_true rfl) rfl ?_
  repeat' (first
|(refine j7 ?_; first
|refine e8 ?_
|refine a6 rfl ?_
|refine i6 ?_
|refine n8 (id := 1) 5 [(0, true), (1, true), (3, true), (4, true), (2, false)] rfl mixed (by kernel_rfl) rfl ?_)
|(refine k6 ?_; first
|refine e7 ?_
|refine e9 rfl rfl obQ obQ ?_
|refine k7 (fun b => ⟨_, _, rfl, obQ, ?_⟩)
|refine j9 (fun b => ⟨_, _, rfl, obQ, ?_⟩)
|refine a8 (f := 144) rfl obQ (by kernel_rfl) (fun w hw => D0 _ w) ?_
|refine a8 (f := 111) rfl obQ (by kernel_rfl) (fun w hw => E5 _ _ _ w) ?_
|refine a8 (f := 107) rfl obQ (by kernel_rfl) (fun w hw => p6 _ _ [lvE c, wi g 1 4096] (by simp) w (.inr ⟨_, rfl, hw.src (i := 1) rfl rfl⟩)) ?_)
|refine r5 ?_
|refine V_q rfl (k8 rfl obQ) ?_
|refine V_n rfl ?_
|refine G_V ⟨⟨_, rfl, trivial⟩, ⟨_, rfl⟩, rfl, pstQ⟩ rfl ?_
|refine a7 ?_
|refine j4 rfl obQ (fun w hw => ⟨?_, hw.below⟩))
  rfl
theorem aa4 (c g n : Int) (hs : SlOk c g) (hn : -131072 ≤ n ∧ n ≤ 131072) (w : World) : Calls Tryz.prog 131 #[.agg #[.int .i64 c, .int .i64 g], .int .i64 n] w fun r w' => r = .returned (.int .i64 (shF c g n)) ∧ Below w.heap.size w w' := by
  have hc := hs.c
  have hg := hs.g
  have hb := ba6 hs hn
  refine i7 n9 Tryz.func131 rfl Tryz.ntmps131 (Nat.le_of_ble_eq_true rfl) rfl ?_
  repeat' (first
|refine e8 ?_
|refine a6 rfl ?_
|refine i6 ?_
|(refine k6 ?_; first
|refine e7 ?_
|refine e9 rfl rfl obQ obQ ?_
|refine k7 (fun b => ⟨_, _, rfl, obQ, ?_⟩)
|refine a8 (f := 198) rfl obQ (by kernel_rfl) (fun w hw => N6 _ _ (by omega) (by omega) w) ?_)
|refine a7 ?_
|refine j4 rfl obQ (fun w hw => ⟨?_, hw.below⟩))
  rfl
theorem aq6 (n k : Int) (hn : -16384 ≤ n ∧ n ≤ 16384) (hk : 0 ≤ k ∧ k ≤ 256) (w : World) : Calls Tryz.prog 150 #[.int .i64 n, .int .i64 k] w fun r w' => r = .returned (.int .i64 (paF n k)) ∧ Below w.heap.size w w' := by
  have hb := (bh8 hn hk).1
  refine i7 n9 Tryz.func150 rfl Tryz.ntmps150 (Nat.le_of_ble_eq_true rfl) rfl ?_
  repeat' (first
|refine e8 ?_
|refine a6 rfl ?_
|refine i6 ?_
|refine e7 ?_
|refine e9 rfl rfl obQ obQ ?_
|refine a8 (f := 198) rfl obQ (by kernel_rfl) (fun w hw => N6 _ _ (by omega) (by omega) w) ?_
|refine a7 ?_
|refine j4 rfl obQ (fun w hw => ⟨?_, hw.below⟩))
  rfl
theorem am0 (a b k : Int) (ha : -16384 ≤ a ∧ a ≤ 16384) (hb : -16384 ≤ b ∧ b ≤ 16384) (hk : 0 ≤ k ∧ k ≤ 256) (w : World) : Calls Tryz.prog 161 #[.int .i64 a, .int .i64 b, .int .i64 k] w fun r w' => r = .returned (.int .i64 (miF a b k)) ∧ Below w.heap.size w w' := by
  have h1 := (ay0 ha hb hk).1
  have h2 := (ay0 ha hb hk).2.1
  refine i7 n9 Tryz.func161 rfl Tryz.ntmps161 (Nat.le_of_ble_eq_true rfl) rfl ?_
  repeat' (first
|refine e8 ?_
|refine a6 rfl ?_
|refine i6 ?_
|refine e7 ?_
|refine e9 rfl rfl obQ obQ ?_
|refine a8 (f := 198) rfl obQ (by kernel_rfl) (fun w hw => N6 _ _ (by omega) (by omega) w) ?_
|refine a7 ?_
|refine j4 rfl obQ (fun w hw => ⟨?_, hw.below⟩))
  rfl
theorem I6 (u v : Int) (w : World) : Calls Tryz.prog 109 #[.int .i64 u, .int .i64 v] w fun r w' => r = .returned (.int .i64 (firstL [wi u 1 64, wi v 1 64])) ∧ Below w.heap.size w w' := by
  refine i7 n9 Tryz.func109 rfl Tryz.ntmps109 (Nat.le_of_ble_eq_true rfl) rfl ?_
  repeat' (first
|refine e8 ?_
|refine a6 rfl ?_
|refine i6 ?_
|(refine k6 ?_; first
|refine e7 ?_
|refine e9 rfl rfl obQ obQ ?_
|refine j9 (fun b => ⟨_, _, rfl, obQ, ?_⟩)
|refine a8 (f := 111) rfl obQ (by kernel_rfl) (fun w hw => E5 _ _ _ w) ?_
|refine a8 (f := 107) rfl obQ (by kernel_rfl) (fun w hw => p6 _ _ [wi u 1 64, wi v 1 64] (by simp) w (.inr ⟨_, rfl, hw.src (i := 0) rfl rfl⟩)) ?_)
|refine a7 ?_
|refine j4 rfl obQ (fun w hw => ⟨?_, hw.below⟩))
  rfl
theorem Q8 (p : Pic) (A : Option Addr) (c : Nat) (w : World) : Calls Tryz.prog 202 #[.agg #[.string p.nm, .int .i64 p.w, .int .i64 p.h, .slice A p.s.length c]] w fun r w' => r = .returned (.agg #[.int .i64 p.w, .int .i64 p.h]) ∧ Below w.heap.size w w' := by
  refine i7 n9 Tryz.func202 rfl Tryz.ntmps202 (Nat.le_of_ble_eq_true rfl) rfl ?_
  repeat' (first
|(refine j7 ?_; first
|refine e8 ?_
|refine a6 rfl ?_
|refine j1 ?_
|refine j3 ?_
|refine i6 ?_
|(refine j0 rfl obQ ?_ ?_ <;> intro h <;> (try simp only [cdS] at h)))
|refine e7 ?_
|refine e9 rfl rfl obQ obQ ?_
|refine k7 (fun b => ⟨_, _, rfl, obQ, ?_⟩)
|refine a7 ?_
|refine j6 ?_
|refine j4 rfl obQ (fun w hw => ⟨?_, hw.below⟩))
  rfl
theorem B2 (n : Int) (w : World) : Calls Tryz.prog 116 #[.int .i64 n] w fun r w' => r = .returned (.int .i64 (wi n 0 7)) ∧ Below w.heap.size w w' := by
  refine i7 n9 Tryz.func116 rfl Tryz.ntmps116 (Nat.le_of_ble_eq_true rfl) rfl ?_
  repeat' (first
|refine e8 ?_
|refine a6 rfl ?_
|refine i6 ?_
|refine e7 ?_
|refine e9 rfl rfl obQ obQ ?_
|refine a8 (f := 111) rfl obQ (by kernel_rfl) (fun w hw => E5 _ _ _ w) ?_
|refine a7 ?_
|refine j4 rfl obQ (fun w hw => ⟨?_, hw.below⟩))
  rfl
theorem au8 (q : FuncId) {g : Nat → Int} (A : Option Addr) (c : Nat) (l : List (Nat)) (hl : l.length ≤ 1000000) (he : entB Tryz.prog q = true) (w : World) (hr : Rd w A (l.map fun x => Value.float .f32 x)) (hg : ∀ x ∈ l, ∀ W, Below w.heap.size w W → Calls Tryz.prog q #[Value.float .f32 x] W fun e w' => e = .returned (Value.int .i64 (g x)) ∧ Below W.heap.size W w') : Calls Tryz.prog 196 #[.slice A l.length c, .func (.func q) #[] #[]] w fun r w' => ∃ v, r = .returned v ∧ Below w.heap.size w w' ∧ Sl w w' v l.length (l.map fun x => Value.int .i64 (g x)) := by
  refine i7 n9 Tryz.func196 rfl Tryz.ntmps196 (Nat.le_of_ble_eq_true rfl) rfl ?_
  repeat' (first
|refine e8 ?_
|refine a6 rfl ?_
|refine j1 ?_
|refine e7 ?_
|refine e9 rfl rfl obQ obQ ?_
|refine a7 ?_)
  refine C9 5 3 1 rfl ?_
  refine p7 (fun i : Nat × Option Addr × Nat => ⟨[(5, .s (.r i.2.1 i.1 i.2.2 0)), (8, .s (.v (.slice A l.length c))), (9, .s (.v (.int .i64 l.length))), (10, .s (.v (.int .i64 i.1))), (1, .s (.v (.func (.func q) #[] #[])))], [], [⟨3, 1, i.1, (l.take i.1).map fun x => Value.int .i64 (g x), .slice i.2.1 i.1 i.2.2⟩]⟩) (fun i => i.1 ≤ l.length) (fun i => l.length - i.1) (0, none, 0) (Nat.zero_le _) ?_ (fun i hi => ?_)
  · exact svQ
  obtain ⟨k, A', c'⟩ := i
  have hi' : k ≤ l.length := hi
  dsimp only
  by_cases hlt : k < l.length
  · obtain ⟨ad, rfl⟩ := hr.some (by simp; omega)
    have hmt := B0 (f := fun x => Value.int .i64 (g x)) hlt
    repeat' (first
|(refine j7 ?_; first
|refine e8 ?_
|refine a6 rfl ?_
|refine j1 ?_
|refine j3 ?_
|(refine j0 rfl obQ ?_ ?_ <;> intro h <;> (try simp only [cdS] at h) <;> (try (exfalso; omega))))
|(refine k6 ?_; first
|refine n4 rfl obQ rfl [Value.float .f32 l[k]] (.past _ memQ _ _ hr.toS _ _ rfl rfl (idx1 (f := fun x => Value.float .f32 x) hlt)) rfl (.inr ⟨rfl, rfl⟩) ?_
|refine a8 rfl obQ he (fun W hW => hg l[k] (List.getElem_mem hlt) W hW.below) ?_
|refine w9 rfl obQ rfl rfl rfl ⟨by decide, rfl⟩ rfl ⟨rfl, rfl, rfl, rfl⟩ [Value.int .i64 (g l[k])] ⟨by decide, rfl⟩ (by simp [Value.oneCell']) (fun w hw => by first | exact hw.src (i := 0) rfl rfl | exact hw.src (i := 1) rfl rfl | exact hw.src (i := 2) rfl rfl | exact hw.src (i := 3) rfl rfl | exact hw.src (i := 4) rfl rfl | exact hw.src (i := 5) rfl rfl | exact hw.src (i := 6) rfl rfl | exact hw.src (i := 7) rfl rfl | exact hw.src (i := 8) rfl rfl) (by unfold maxLen; dsimp only; omega) (fun gb cap' => ⟨_, rfl, ?_⟩)
|refine e7 ?_
|refine e9 rfl rfl obQ obQ ?_
|refine j9 (fun b => ⟨_, _, rfl, obQ, ?_⟩))
|refine o6 (k + 1, some ⟨gb, 0, none⟩, cap') (by show k + 1 ≤ _; omega) (by show l.length - (k + 1) < l.length - k; omega) ⟨⟨_, rfl, obQ⟩, ⟨_, rfl⟩, (by dsimp only; rw [hmt]), pstQ⟩
|refine a7 ?_
|refine n5 ?_)
  · obtain rfl : k = l.length := by omega
    repeat' (first
|(refine j7 ?_; first
|refine e8 ?_
|refine a6 rfl ?_
|refine o0 ?_
|refine i6 ?_
|(refine j0 rfl obQ ?_ ?_ <;> intro h <;> (try simp only [cdS] at h) <;> (try (exfalso; omega))))
|refine e7 ?_
|refine e9 rfl rfl obQ obQ ?_
|(refine o8 ?_; first
|refine a7 ?_
|refine n2 ?_
|refine n6 ?_
|refine j4 rfl obQ (fun w2 hw => ⟨_, rfl, hw.below, HW.rowSl (i := 0) hw rfl rfl rfl (by rw [List.take_length])⟩)))
theorem aw4 (q : FuncId) {g : Int → Int} (A : Option Addr) (c : Nat) (l : List (Int)) (hl : l.length ≤ 1000000) (he : entB Tryz.prog q = true) (w : World) (hr : Rd w A (l.map fun x => Value.int .i64 x)) (hg : ∀ x ∈ l, ∀ W, Below w.heap.size w W → Calls Tryz.prog q #[Value.int .i64 x] W fun e w' => e = .returned (Value.int .i64 (g x)) ∧ Below W.heap.size W w') : Calls Tryz.prog 129 #[.slice A l.length c, .func (.func q) #[] #[]] w fun r w' => ∃ v, r = .returned v ∧ Below w.heap.size w w' ∧ Sl w w' v l.length (l.map fun x => Value.int .i64 (g x)) := by
  refine i7 n9 Tryz.func129 rfl Tryz.ntmps129 (Nat.le_of_ble_eq_true rfl) rfl ?_
  repeat' (first
|refine e8 ?_
|refine a6 rfl ?_
|refine j1 ?_
|refine e7 ?_
|refine e9 rfl rfl obQ obQ ?_
|refine a7 ?_)
  refine C9 5 3 1 rfl ?_
  refine p7 (fun i : Nat × Option Addr × Nat => ⟨[(5, .s (.r i.2.1 i.1 i.2.2 0)), (8, .s (.v (.slice A l.length c))), (9, .s (.v (.int .i64 l.length))), (10, .s (.v (.int .i64 i.1))), (1, .s (.v (.func (.func q) #[] #[])))], [], [⟨3, 1, i.1, (l.take i.1).map fun x => Value.int .i64 (g x), .slice i.2.1 i.1 i.2.2⟩]⟩) (fun i => i.1 ≤ l.length) (fun i => l.length - i.1) (0, none, 0) (Nat.zero_le _) ?_ (fun i hi => ?_)
  · exact svQ
  obtain ⟨k, A', c'⟩ := i
  have hi' : k ≤ l.length := hi
  dsimp only
  by_cases hlt : k < l.length
  · obtain ⟨ad, rfl⟩ := hr.some (by simp; omega)
    have hmt := B0 (f := fun x => Value.int .i64 (g x)) hlt
    repeat' (first
|(refine j7 ?_; first
|refine e8 ?_
|refine a6 rfl ?_
|refine j1 ?_
|refine j3 ?_
|(refine j0 rfl obQ ?_ ?_ <;> intro h <;> (try simp only [cdS] at h) <;> (try (exfalso; omega))))
|(refine k6 ?_; first
|refine n4 rfl obQ rfl [Value.int .i64 l[k]] (.past _ memQ _ _ hr.toS _ _ rfl rfl (idx1 (f := fun x => Value.int .i64 x) hlt)) rfl (.inr ⟨rfl, rfl⟩) ?_
|refine a8 rfl obQ he (fun W hW => hg l[k] (List.getElem_mem hlt) W hW.below) ?_
|refine w9 rfl obQ rfl rfl rfl ⟨by decide, rfl⟩ rfl ⟨rfl, rfl, rfl, rfl⟩ [Value.int .i64 (g l[k])] ⟨by decide, rfl⟩ (by simp [Value.oneCell']) (fun w hw => by first | exact hw.src (i := 0) rfl rfl | exact hw.src (i := 1) rfl rfl | exact hw.src (i := 2) rfl rfl | exact hw.src (i := 3) rfl rfl | exact hw.src (i := 4) rfl rfl | exact hw.src (i := 5) rfl rfl | exact hw.src (i := 6) rfl rfl | exact hw.src (i := 7) rfl rfl | exact hw.src (i := 8) rfl rfl) (by unfold maxLen; dsimp only; omega) (fun gb cap' => ⟨_, rfl, ?_⟩)
|refine e7 ?_
|refine e9 rfl rfl obQ obQ ?_
|refine j9 (fun b => ⟨_, _, rfl, obQ, ?_⟩))
|refine o6 (k + 1, some ⟨gb, 0, none⟩, cap') (by show k + 1 ≤ _; omega) (by show l.length - (k + 1) < l.length - k; omega) ⟨⟨_, rfl, obQ⟩, ⟨_, rfl⟩, (by dsimp only; rw [hmt]), pstQ⟩
|refine a7 ?_
|refine n5 ?_)
  · obtain rfl : k = l.length := by omega
    repeat' (first
|(refine j7 ?_; first
|refine e8 ?_
|refine a6 rfl ?_
|refine o0 ?_
|refine i6 ?_
|(refine j0 rfl obQ ?_ ?_ <;> intro h <;> (try simp only [cdS] at h) <;> (try (exfalso; omega))))
|refine e7 ?_
|refine e9 rfl rfl obQ obQ ?_
|(refine o8 ?_; first
|refine a7 ?_
|refine n2 ?_
|refine n6 ?_
|refine j4 rfl obQ (fun w2 hw => ⟨_, rfl, hw.below, HW.rowSl (i := 0) hw rfl rfl rfl (by rw [List.take_length])⟩)))
theorem au6 (q : FuncId) (f0 : Value) {g : Int → Int} (A : Option Addr) (c : Nat) (l : List (Int)) (hl : l.length ≤ 1000000) (he : entB Tryz.prog q = true) (w : World) (hr : Rd w A (l.map fun x => Value.int .i64 x)) (hg : ∀ x ∈ l, ∀ W, Below w.heap.size w W → Calls Tryz.prog q #[f0, Value.int .i64 x] W fun e w' => e = .returned (Value.int .i64 (g x)) ∧ Below W.heap.size W w') : Calls Tryz.prog 129 #[.slice A l.length c, .func (.func q) #[f0] #[]] w fun r w' => ∃ v, r = .returned v ∧ Below w.heap.size w w' ∧ Sl w w' v l.length (l.map fun x => Value.int .i64 (g x)) := by
  refine i7 n9 Tryz.func129 rfl Tryz.ntmps129 (Nat.le_of_ble_eq_true rfl) rfl ?_
  repeat' (first
|refine e8 ?_
|refine a6 rfl ?_
|refine j1 ?_
|refine e7 ?_
|refine e9 rfl rfl obQ obQ ?_
|refine a7 ?_)
  refine C9 5 3 1 rfl ?_
  refine p7 (fun i : Nat × Option Addr × Nat => ⟨[(5, .s (.r i.2.1 i.1 i.2.2 0)), (8, .s (.v (.slice A l.length c))), (9, .s (.v (.int .i64 l.length))), (10, .s (.v (.int .i64 i.1))), (1, .s (.v (.func (.func q) #[f0] #[])))], [], [⟨3, 1, i.1, (l.take i.1).map fun x => Value.int .i64 (g x), .slice i.2.1 i.1 i.2.2⟩]⟩) (fun i => i.1 ≤ l.length) (fun i => l.length - i.1) (0, none, 0) (Nat.zero_le _) ?_ (fun i hi => ?_)
  · exact svQ
  obtain ⟨k, A', c'⟩ := i
  have hi' : k ≤ l.length := hi
  dsimp only
  by_cases hlt : k < l.length
  · obtain ⟨ad, rfl⟩ := hr.some (by simp; omega)
    have hmt := B0 (f := fun x => Value.int .i64 (g x)) hlt
    repeat' (first
|(refine j7 ?_; first
|refine e8 ?_
|refine a6 rfl ?_
|refine j1 ?_
|refine j3 ?_
|(refine j0 rfl obQ ?_ ?_ <;> intro h <;> (try simp only [cdS] at h) <;> (try (exfalso; omega))))
|(refine k6 ?_; first
|refine n4 rfl obQ rfl [Value.int .i64 l[k]] (.past _ memQ _ _ hr.toS _ _ rfl rfl (idx1 (f := fun x => Value.int .i64 x) hlt)) rfl (.inr ⟨rfl, rfl⟩) ?_
|refine a8 rfl obQ he (fun W hW => hg l[k] (List.getElem_mem hlt) W hW.below) ?_
|refine w9 rfl obQ rfl rfl rfl ⟨by decide, rfl⟩ rfl ⟨rfl, rfl, rfl, rfl⟩ [Value.int .i64 (g l[k])] ⟨by decide, rfl⟩ (by simp [Value.oneCell']) (fun w hw => by first | exact hw.src (i := 0) rfl rfl | exact hw.src (i := 1) rfl rfl | exact hw.src (i := 2) rfl rfl | exact hw.src (i := 3) rfl rfl | exact hw.src (i := 4) rfl rfl | exact hw.src (i := 5) rfl rfl | exact hw.src (i := 6) rfl rfl | exact hw.src (i := 7) rfl rfl | exact hw.src (i := 8) rfl rfl) (by unfold maxLen; dsimp only; omega) (fun gb cap' => ⟨_, rfl, ?_⟩)
|refine e7 ?_
|refine e9 rfl rfl obQ obQ ?_
|refine j9 (fun b => ⟨_, _, rfl, obQ, ?_⟩))
|refine o6 (k + 1, some ⟨gb, 0, none⟩, cap') (by show k + 1 ≤ _; omega) (by show l.length - (k + 1) < l.length - k; omega) ⟨⟨_, rfl, obQ⟩, ⟨_, rfl⟩, (by dsimp only; rw [hmt]), pstQ⟩
|refine a7 ?_
|refine n5 ?_)
  · obtain rfl : k = l.length := by omega
    repeat' (first
|(refine j7 ?_; first
|refine e8 ?_
|refine a6 rfl ?_
|refine o0 ?_
|refine i6 ?_
|(refine j0 rfl obQ ?_ ?_ <;> intro h <;> (try simp only [cdS] at h) <;> (try (exfalso; omega))))
|refine e7 ?_
|refine e9 rfl rfl obQ obQ ?_
|(refine o8 ?_; first
|refine a7 ?_
|refine n2 ?_
|refine n6 ?_
|refine j4 rfl obQ (fun w2 hw => ⟨_, rfl, hw.below, HW.rowSl (i := 0) hw rfl rfl rfl (by rw [List.take_length])⟩)))
theorem R8 (n : Int) (w : World) : Calls Tryz.prog 141 #[.int .i64 n] w fun r w' => r = .returned (.int .i64 (lvE n)) ∧ Below w.heap.size w w' := by
  refine i7 n9 Tryz.func141 rfl Tryz.ntmps141 (Nat.le_of_ble_eq_true rfl) rfl ?_
  repeat' (first
|refine e8 ?_
|refine a6 rfl ?_
|refine i6 ?_
|refine e7 ?_
|refine e9 rfl rfl obQ obQ ?_
|refine a8 (f := 114) rfl obQ (by kernel_rfl) (fun w hw => J8 _ _ _ w) ?_
|refine a7 ?_
|refine j4 rfl obQ (fun w hw => ⟨?_, hw.below⟩))
  rfl
theorem ai2 (c g : Int) (w : World) : Calls Tryz.prog 59 #[.agg #[.int .i64 c, .int .i64 g]] w fun r w' => r = .returned (.int .i64 (slE c g)) ∧ Below w.heap.size w w' := by
  refine i7 n9 Tryz.func59 rfl Tryz.ntmps59 (Nat.le_of_ble_eq_true rfl) rfl ?_
  repeat' (first
|(refine j7 ?_; first
|refine e8 ?_
|refine a6 rfl ?_
|refine i6 ?_
|refine n8 (id := 1) 5 [(0, true), (1, true), (3, true), (4, true), (2, false)] rfl mixed (by kernel_rfl) rfl ?_)
|(refine k6 ?_; first
|refine e7 ?_
|refine e9 rfl rfl obQ obQ ?_
|refine k7 (fun b => ⟨_, _, rfl, obQ, ?_⟩)
|refine j9 (fun b => ⟨_, _, rfl, obQ, ?_⟩)
|refine a8 (f := 141) rfl obQ (by kernel_rfl) (fun w hw => R8 _ w) ?_
|refine a8 (f := 114) rfl obQ (by kernel_rfl) (fun w hw => J8 _ _ _ w) ?_
|refine a8 (f := 113) rfl obQ (by kernel_rfl) (fun w hw => H9 _ _ [lvE c, wi g 1 4096] (by simp) w (.inr ⟨_, rfl, hw.src (i := 1) rfl rfl⟩)) ?_)
|refine r5 ?_
|refine V_q rfl (k8 rfl obQ) ?_
|refine V_n rfl ?_
|refine G_V ⟨⟨_, rfl, trivial⟩, ⟨_, rfl⟩, rfl, pstQ⟩ rfl ?_
|refine a7 ?_
|refine j4 rfl obQ (fun w hw => ⟨?_, hw.below⟩))
  rfl
theorem af1 (n : Int) (w : World) : Calls Tryz.prog 33 #[.int .i64 n] w fun r w' => r = .returned (.int .i64 (wi n 0 7)) ∧ Below w.heap.size w w' := by
  refine i7 n9 Tryz.func33 rfl Tryz.ntmps33 (Nat.le_of_ble_eq_true rfl) rfl ?_
  repeat' (first
|refine e8 ?_
|refine a6 rfl ?_
|refine i6 ?_
|refine e7 ?_
|refine e9 rfl rfl obQ obQ ?_
|refine a8 (f := 114) rfl obQ (by kernel_rfl) (fun w hw => J8 _ _ _ w) ?_
|refine a7 ?_
|refine j4 rfl obQ (fun w hw => ⟨?_, hw.below⟩))
  rfl
def keB (k : List Int) : Bool := k.all fun x => decide (0 ≤ x) && decide (x ≤ 256)
def kenE (n : Nat) : Int := firstL [wh ((n : Int) == 0) 12, wh (decide ((4096 : Int) < n)) 5]
def keE (k : List Int) : Int := if kenE k.length = 0 then wh (!keB k) 3 else kenE k.length
structure KeOk (k : List Int) : Prop where
  n : 0 < k.length ∧ k.length ≤ 4096
  s : ∀ x ∈ k, 0 ≤ x ∧ x ≤ 256
theorem aY2 {n : Nat} : kenE n = 0 ↔ 0 < n ∧ n ≤ 4096 := by
  unfold kenE
  rw [p9]
  simp only [List.mem_cons, List.mem_nil_iff, or_false, forall_eq_or_imp, forall_eq, B7 (show (12 : Int) ≠ 0 by omega), B7 (show (5 : Int) ≠ 0 by omega), beq_eq_false_iff_ne, decide_eq_false_iff_not]
  omega
theorem an0 {k : List Int} : keB k = true ↔ ∀ x ∈ k, 0 ≤ x ∧ x ≤ 256 := by
  unfold keB
  simp only [List.all_eq_true, Bool.and_eq_true, decide_eq_true_eq]
theorem bl1 {k : List Int} : keE k = 0 ↔ KeOk k := by
  unfold keE
  constructor
  · intro h
    split at h
    · rename_i h1
      rw [B7 (by omega), Bool.not_eq_false'] at h
      exact ⟨aY2.1 h1, an0.1 h⟩
    · contradiction
  · intro h
    rw [if_pos (aY2.2 h.n), B7 (by omega), Bool.not_eq_false']
    exact an0.2 h.s
theorem bt3 {k : List Int} (h : ¬ kenE k.length = 0) : keE k = kenE k.length := if_neg h
theorem bw2 {k : List Int} (h : kenE k.length = 0) : keE k = wh (!keB k) 3 := if_pos h
def kdE (p : Pic) (k : List Int) : Int := firstL [keE k, wh ((k.length : Int) != (p.s.length : Int)) 2]
theorem bi0 {p : Pic} {k : List Int} : kdE p k = 0 ↔ KeOk k ∧ k.length = p.s.length := by
  unfold kdE
  rw [p9]
  simp only [List.mem_cons, List.mem_nil_iff, or_false, forall_eq_or_imp, forall_eq, B7 (show (2 : Int) ≠ 0 by omega), bl1, bne_eq_false_iff_eq]
  exact and_congr Iff.rfl ⟨fun h => by omega, fun h => by omega⟩
def twE (p q : Pic) : Int := firstL [picE p, picE q, wh (p.w != q.w || p.h != q.h) 2]
theorem ax8 {p q : Pic} : twE p q = 0 ↔ PicOk p ∧ PicOk q ∧ p.w = q.w ∧ p.h = q.h := by
  unfold twE
  rw [p9]
  simp only [List.mem_cons, List.mem_nil_iff, or_false, forall_eq_or_imp, forall_eq, B7 (show (2 : Int) ≠ 0 by omega), aa0, Bool.or_eq_false_iff, bne_eq_false_iff_eq]
theorem ao5 {p q : Pic} (h : twE p q = 0) : q.s.length = p.s.length := by
  obtain ⟨h1, h2, h3, h4⟩ := ax8.1 h
  have g1 := h1.n
  have g2 := h2.n
  rw [h3, h4] at g1
  omega
def lvs (p : Pic) : List Int := p.s.map lvl
def lvB (l : List Int) : Bool := l.all fun n => decide (lvE n = 0)
def wiP (p : Pic) (l : List Int) : Pic := ⟨p.nm, p.w, p.h, l.map smp⟩
def wiR (p : Pic) (l : List Int) : Pic × Int := if lvB l = true then (wiP p l, 0) else (zP, 4)
theorem bj9 {p : Pic} {l : List Int} (h : lvB l = true) : wiR p l = (wiP p l, 0) := if_pos h
theorem bz2 {p : Pic} {l : List Int} (h : ¬ lvB l = true) : wiR p l = (zP, 4) := if_neg h
theorem an2 {l : List Int} : lvB l = true ↔ ∀ n ∈ l, -16384 ≤ n ∧ n ≤ 16384 := by
  unfold lvB lvE
  simp only [List.all_eq_true, decide_eq_true_eq, D1]
theorem aq9 {p : Pic} (h : PicOk p) : ∀ n ∈ lvs p, -16384 ≤ n ∧ n ≤ 16384 := by
  intro n hn
  obtain ⟨b, hb, rfl⟩ := List.mem_map.1 hn
  exact (h.s b hb).lv
structure Wip where
  sh : ByteArray
  a : Int
  b : Int
  at_ : Int
  soft : Int
def bHalf : ByteArray := ⟨#[104, 97, 108, 102]⟩
def bBox : ByteArray := ⟨#[98, 111, 120]⟩
def bDia : ByteArray := ⟨#[100, 105, 97, 109, 111, 110, 100]⟩
def shB (s : ByteArray) : Bool := s == bHalf || s == bBox || s == bDia
def wpE (w : Wip) : Int := firstL [wh (!shB w.sh) 13, wi w.a (-100) 100, wi w.b (-100) 100, wi w.at_ (-100000) 100000, wi w.soft 0 100000]
structure WpOk (w : Wip) : Prop where
  sh : shB w.sh = true
  a : -100 ≤ w.a ∧ w.a ≤ 100
  b : -100 ≤ w.b ∧ w.b ≤ 100
  at_ : -100000 ≤ w.at_ ∧ w.at_ ≤ 100000
  soft : 0 ≤ w.soft ∧ w.soft ≤ 100000
theorem ag5 {w : Wip} : wpE w = 0 ↔ WpOk w := by
  unfold wpE
  rw [p9]
  simp only [List.mem_cons, List.mem_nil_iff, or_false, forall_eq_or_imp, forall_eq, B7 (show (13 : Int) ≠ 0 by omega), D1, Bool.not_eq_false']
  exact ⟨fun ⟨h1, h2, h3, h4, h5⟩ => ⟨h1, h2, h3, h4, h5⟩, fun h => ⟨h.sh, h.a, h.b, h.at_, h.soft⟩⟩
def abZ (n : Int) : Int := max n (-n)
def wvF (w : Wip) (x y : Int) : Int := if w.sh = bHalf then w.a * x + w.b * y else if w.sh = bBox then max (abZ (2 * x - w.a)) (abZ (2 * y - w.b)) else abZ (2 * x - w.a) + abZ (2 * y - w.b)
def wsF (w : Wip) (x y : Int) : Int := if wvF w x y ≤ w.at_ - w.soft then 256 else if w.at_ + w.soft < wvF w x y then 0 else rnd (256 * (w.at_ + w.soft - wvF w x y)) (2 * w.soft)
def wsL (w : Wip) (W H : Nat) : List Int := (List.range H).flatMap fun (y : Nat) => (List.range W).map fun (x : Nat) => wsF w (x : Int) (y : Int)
theorem bv8 {w : Wip} (h : WpOk w) {x y : Int} (hx : 0 ≤ x ∧ x ≤ 64) (hy : 0 ≤ y ∧ y ≤ 64) : -20000 ≤ wvF w x y ∧ wvF w x y ≤ 20000 := by
  have h1 := h.a
  have h2 := h.b
  have m1 := P6 h1 (show -64 ≤ x ∧ x ≤ 64 by omega)
  have m2 := P6 h2 (show -64 ≤ y ∧ y ≤ 64 by omega)
  unfold wvF abZ
  split
  · omega
  · split <;> omega
theorem aF8 {w : Wip} (h : WpOk w) (x y : Int) : 0 ≤ wsF w x y ∧ wsF w x y ≤ 256 := by
  have h1 := h.soft
  unfold wsF
  split
  · omega
  · split
    · omega
    · rename_i g1 g2
      obtain ⟨v, hv⟩ : ∃ v, wvF w x y = v := ⟨_, rfl⟩
      rw [hv] at g1 g2 ⊢
      have hs : 0 < w.soft := by omega
      unfold rnd
      refine ⟨Int.ediv_nonneg (by omega) (by omega), ?_⟩
      have : (2 * (256 * (w.at_ + w.soft - v)) + 2 * w.soft) / (2 * (2 * w.soft)) < 257 := Int.ediv_lt_of_lt_mul (by omega) (by omega)
      omega
theorem ar3 (w : Wip) (W H : Nat) : (wsL w W H).length = H * W := by
  unfold wsL
  induction H with
  | zero => simp
  | succ n ih => rw [List.range_succ, List.flatMap_append, List.length_append, ih]; simp [Nat.succ_mul]
def bdE (w : Wip) (by_ W H : Int) : Int := firstL [wpE w, wi by_ 0 100000, firstL [wi W 1 64, wi H 1 64], wh (decide (100000 < w.at_ + by_)) 4]
def Wip.wide (w : Wip) (d : Int) : Wip := ⟨w.sh, w.a, w.b, w.at_ + d, w.soft⟩
theorem aD3 {a b k : Int} (hk : 0 ≤ k ∧ k ≤ 256) : min a b ≤ miF a b k ∧ miF a b k ≤ max a b := by
  have g1 := Int.mul_le_mul_of_nonneg_right (show min a b ≤ a by omega) (show 0 ≤ 256 - k by omega)
  have g2 := Int.mul_le_mul_of_nonneg_right (show min a b ≤ b by omega) hk.1
  have g3 := Int.mul_le_mul_of_nonneg_right (show a ≤ max a b by omega) (show 0 ≤ 256 - k by omega)
  have g4 := Int.mul_le_mul_of_nonneg_right (show b ≤ max a b by omega) hk.1
  have e1 : min a b * (256 - k) + min a b * k = 256 * min a b := by rw [← Int.mul_add]; omega
  have e2 : max a b * (256 - k) + max a b * k = 256 * max a b := by rw [← Int.mul_add]; omega
  unfold miF rnd
  omega
def upI (n : Nat) (f b : Nat → Int) (k : Nat) : List Int := (List.range n).map fun j => if j < k then f j else b j
section
variable {n k : Nat} {f b : Nat → Int}
theorem D3 : (upI n f b k).length = n := by simp [upI]
theorem bi7 {l : List Int} (f : Nat → Int) : upI l.length f (gI l) 0 = l := by
  apply List.ext_getElem
  · simp [upI]
  · intro i h1 h2
    simp [upI, F5 h2]
theorem aI0 (n : Nat) (f : Nat → Int) : (List.replicate n [Value.int .i64 0]).flatten = (upI n f (fun _ => 0) 0).map (.int .i64) := by
  unfold upI
  simp only [Nat.not_lt_zero, if_false]
  rw [List.map_map]
  induction n with
  | zero => rfl
  | succ n ih =>
    rw [List.replicate_succ', List.flatten_append, ih, List.range_succ, List.map_append]
    rfl
theorem Y2 : upI n f b n = (List.range n).map f := by
  unfold upI
  exact List.map_congr_left fun j hj => if_pos (List.mem_range.1 hj)
theorem bc6 (h : k < n) : (upI n f b k).set k (f k) = upI n f b (k + 1) := by
  apply List.ext_getElem
  · simp [upI]
  · intro i h1 h2
    have hi : i < n := by simpa [upI] using h2
    rw [List.getElem_set]
    by_cases e : k = i
    · subst e
      simp [upI]
    · by_cases g : i < k
      · have g2 : i < k + 1 := by omega
        simp [upI, e, g, g2]
      · have g2 : ¬ i < k + 1 := by omega
        simp [upI, e, g, g2]
theorem M0 {z : Int} (e : z = k) (h : k < n) : (upI n f b (k + 1)).map (Value.int .i64) = ((upI n f b k).map (Value.int .i64)).take (z.toNat * 1) ++ ([Value.int .i64 (f k)] ++ ((upI n f b k).map (Value.int .i64)).drop (z.toNat * 1 + 1)) := by
  subst e
  have hl : k < ((upI n f b k).map (Value.int .i64)).length := by rw [List.length_map, D3]; exact h
  rw [← bc6 h, List.map_set, Int.toNat_natCast, Nat.mul_one, List.set_eq_take_append_cons_drop, if_pos hl]
  rfl
theorem bq0 (h : k < n) : gI (upI n f b k) k = b k := by
  rw [F5 (by rw [D3]; exact h)]
  simp [upI]
end
theorem al8 {n k : Nat} {f b : Nat → Int} {z v : Int} (h : k < n) (hz : z = k) (hv : b k = v) : ∀ (j : Nat) (u : Value), ([.int .i64 v] : List Value)[j]? = some u → ((upI n f b k).map (Value.int .i64))[(z.toNat * 1 + j)]? = some u := by
  subst hv
  rw [← bq0 (n := n) (f := f) (b := b) h]
  exact y5 hz (by rw [D3]; exact h)
theorem w6 (p : Pic) : (lvs p).length = p.s.length := by simp [lvs]
theorem aQ9 {p : Pic} {k : Nat} (h : k < p.s.length) : gI (lvs p) k = lvl (gB p.s k) := by
  rw [F5 (by rw [w6]; exact h), Y3 h]
  simp [lvs]
def zwI (g : Int → Int → Int) (a b : List Int) : List Int := (List.range a.length).map fun j => g (gI a j) (gI b j)
theorem ac6 (g : Int → Int → Int) (a b : List Int) : (zwI g a b).length = a.length := by simp [zwI]
theorem aS8 {k : List Int} {j : Nat} (h : j < k.length) : keB (k.take (j + 1)) = (keB (k.take j) && (decide (0 ≤ gI k j) && decide (gI k j ≤ 256))) := by
  unfold keB
  rw [List.take_succ_eq_append_getElem h, List.all_append, F5 h]
  simp
theorem br1 {k : List Int} {j : Nat} (h : j < k.length) (hb : ¬ (0 ≤ gI k j ∧ gI k j ≤ 256)) : keB k = false := by
  cases hk : keB k
  · rfl
  · exact absurd (an0.1 hk _ (O3 h)) hb
theorem aU5 {l : List Int} {j : Nat} (h : j < l.length) : lvB (l.take (j + 1)) = (lvB (l.take j) && decide (lvE (gI l j) = 0)) := by
  unfold lvB
  rw [List.take_succ_eq_append_getElem h, List.all_append, F5 h]
  simp
theorem bo8 {l : List Int} {j : Nat} (h : j < l.length) (hb : ¬ lvE (gI l j) = 0) : lvB l = false := by
  unfold lvB
  rw [List.all_eq_false]
  exact ⟨_, O3 h, by simpa using hb⟩
theorem ay1 {k : List Int} (h : KeOk k) {j : Nat} (hj : j < k.length) : 0 ≤ gI k j ∧ gI k j ≤ 256 := h.s _ (O3 hj)
theorem P8 {p : Pic} (h : PicOk p) {j : Nat} (hj : j < p.s.length) : -16384 ≤ gI (lvs p) j ∧ gI (lvs p) j ≤ 16384 := aq9 h _ (O3 (by rw [w6]; exact hj))
theorem as8 {p : Pic} (h : PicOk p) : p.s.length ≤ 4096 := by
  have h1 := h.n
  have h2 := h.w
  have h3 := h.h
  have := Int.mul_le_mul h2.2 h3.2 (by omega) (by omega)
  omega
theorem bb9 (p : Pic) (Ap : Option Addr) (cp : Nat) (A : Option Addr) (c : Nat) (l : List Int) (hl : l.length ≤ 1000000) (w : World) (hr : Rd w A (l.map (.int .i64))) : Calls Tryz.prog 147 #[.agg #[.string p.nm, .int .i64 p.w, .int .i64 p.h, .slice Ap p.s.length cp], .slice A l.length c] w fun r w' => ∃ v, r = .returned v ∧ Below w.heap.size w w' ∧ PicR w w' v (wiR p l).1 (wiR p l).2 := by
  refine i7 n9 Tryz.func147 rfl Tryz.ntmps147 (Nat.le_of_ble_eq_true rfl) rfl ?_
  repeat' (first
|refine e8 ?_
|refine a6 rfl ?_
|refine j1 ?_
|refine e7 ?_
|refine e9 rfl rfl obQ obQ ?_
|refine k7 (fun b => ⟨_, _, rfl, obQ, ?_⟩)
|refine a7 ?_)
  rename_i b2 b4
  obtain ⟨b6, rfl⟩ : ∃ z, z = b := ⟨b, rfl⟩
  refine aP3 62 1 [⟨b2, 70, [.v (.string p.nm), .v (.int .i64 p.w), .v (.int .i64 p.h), .v (.slice Ap p.s.length cp)]⟩, ⟨b4, 70, [.v (.string ByteArray.empty), .v (.int .i64 0), .v (.int .i64 0), .v (.slice none 0 0)]⟩, ⟨b6, 70, [.v (.string p.nm), .v (.int .i64 p.w), .v (.int .i64 p.h), .r none 0 0 0]⟩] rfl ?_
  refine p7 (fun i : Nat × Option Addr × Nat => ⟨[(13, .s (.v (.int .i64 i.1))), (12, .s (.v (.int .i64 l.length))), (11, .s (.v (.slice A l.length c))), (4, .s (.p b4 1 0)), (5, .s (.v (.int .i64 0))), (6, .s (.p b6 2 0))], [⟨b2, 70, [.v (.string p.nm), .v (.int .i64 p.w), .v (.int .i64 p.h), .v (.slice Ap p.s.length cp)]⟩, ⟨b4, 70, [.v (.string ByteArray.empty), .v (.int .i64 0), .v (.int .i64 0), .v (.slice none 0 0)]⟩, ⟨b6, 70, [.v (.string p.nm), .v (.int .i64 p.w), .v (.int .i64 p.h), .r i.2.1 i.1 i.2.2 0]⟩], [⟨62, 1, i.1, (l.take i.1).map (fun n => Value.float .f32 (smp n)), .slice i.2.1 i.1 i.2.2⟩]⟩) (fun i => i.1 ≤ l.length ∧ lvB (l.take i.1) = true) (fun i => l.length - i.1) (0, none, 0) ⟨Nat.zero_le _, rfl⟩ ?_ (fun i hi => ?_)
  · exact svQ
  obtain ⟨k, A', c'⟩ := i
  obtain ⟨hk, hi⟩ := hi
  dsimp only at hk hi ⊢
  by_cases hlt : k < l.length
  · obtain ⟨ad, rfl⟩ := hr.some (by simp; omega)
    have hmt := B0 (f := (fun n => Value.float .f32 (smp n))) hlt
    rw [← F5 hlt] at hmt
    by_cases hL : lvE (gI l k) = 0
    · have hLb := (D1 _ _ _).1 hL
      have htk := aU5 hlt
      rw [hi, decide_eq_true hL] at htk
      repeat' (first
|(refine j7 ?_; first
|refine e8 ?_
|refine a6 rfl ?_
|refine j1 ?_
|refine j3 ?_
|refine n8 (id := 8) 5 [(0, true), (1, true), (2, true), (3, false), (4, false)] rfl mixed (by kernel_rfl) rfl ?_
|(refine j0 rfl obQ ?_ ?_ <;> intro h <;> (try simp only [cdS] at h) <;> (try (exfalso; omega)) <;> (try exact cdF h) <;> (try contradiction)))
|(refine k6 ?_; first
|refine n4 rfl obQ rfl [.int .i64 (gI l k)] (.past _ memQ _ _ hr.toS _ _ rfl rfl (y5 (k := k) rfl hlt)) rfl (.inr ⟨rfl, rfl⟩) ?_
|refine w9 rfl obQ rfl rfl rfl ⟨by decide, rfl⟩ rfl ⟨rfl, rfl, rfl, rfl⟩ [.float .f32 (smp (gI l k))] ⟨by decide, rfl⟩ (by simp [Value.oneCell']) (fun w hw => by first | exact hw.src (i := 0) rfl rfl | exact hw.src (i := 1) rfl rfl | exact hw.src (i := 2) rfl rfl | exact hw.src (i := 3) rfl rfl | exact hw.src (i := 4) rfl rfl | exact hw.src (i := 5) rfl rfl | exact hw.src (i := 6) rfl rfl | exact hw.src (i := 7) rfl rfl | exact hw.src (i := 8) rfl rfl) (by unfold maxLen; dsimp only; omega) (fun gb cap' => ⟨_, rfl, ?_⟩)
|refine e7 ?_
|refine e9 rfl rfl obQ obQ ?_
|refine j9 (fun b => ⟨_, _, rfl, obQ, ?_⟩)
|refine a8 (f := 144) rfl obQ (by kernel_rfl) (fun w hw => D0 _ w) ?_
|refine a8 (f := 203) rfl obQ (by kernel_rfl) (fun w hw => aM6 (gI l k) hLb w) ?_)
|refine r5 ?_
|refine V_q rfl (k8 rfl obQ) ?_
|refine V_n rfl ?_
|(refine o8 ?_; first
|refine G_V ⟨⟨_, rfl, trivial⟩, ⟨_, rfl⟩, rfl, pstQ⟩ rfl ?_
|refine o6 (k + 1, some ⟨gb, 0, none⟩, cap') ⟨by show k + 1 ≤ _; omega, htk⟩ (by show l.length - (k + 1) < l.length - k; omega) ⟨⟨_, rfl, obQ⟩, ⟨_, rfl⟩, (by dsimp only; rw [hmt]), pstQ⟩
|refine a7 ?_
|refine n5 ?_))
    · rw [bz2 (by rw [bo8 hlt hL]; simp)]
      repeat' (first
|(refine j7 ?_; first
|refine e8 ?_
|refine a6 rfl ?_
|refine j1 ?_
|refine j3 ?_
|refine i6 ?_
|(refine j0 rfl obQ ?_ ?_ <;> intro h <;> (try simp only [cdS] at h) <;> (try (exfalso; omega)) <;> (try exact cdF h) <;> (try contradiction)))
|(refine k6 ?_; first
|refine n4 rfl obQ rfl [.int .i64 (gI l k)] (.past _ memQ _ _ hr.toS _ _ rfl rfl (y5 (k := k) rfl hlt)) rfl (.inr ⟨rfl, rfl⟩) ?_
|refine e7 ?_
|refine e9 rfl rfl obQ obQ ?_
|refine a8 (f := 144) rfl obQ (by kernel_rfl) (fun w hw => D0 _ w) ?_)
|(refine o8 ?_; first
|refine a7 ?_
|refine r8 ?_
|refine j6 ?_
|refine j4 rfl obQ (fun w2 hw => ⟨_, rfl, hw.below, PicR.zero _ _ _⟩)))
  · obtain rfl : k = l.length := by omega
    rw [List.take_length] at hi
    rw [bj9 hi]
    repeat' (first
|(refine j7 ?_; first
|refine e8 ?_
|refine a6 rfl ?_
|refine o0 ?_
|refine i6 ?_
|(refine j0 rfl obQ ?_ ?_ <;> intro h <;> (try simp only [cdS] at h) <;> (try (exfalso; omega))))
|refine e7 ?_
|refine e9 rfl rfl obQ obQ ?_
|(refine o8 ?_; first
|refine a7 ?_
|refine n2 ?_
|refine n6 ?_
|refine j4 rfl obQ (fun w2 hw => ⟨_, rfl, hw.below, PicR.of (s := (wiP p l).s) (HW.rowSl (i := 0) hw rfl rfl rfl (by dsimp only [wiP]; rw [List.take_length, List.map_map]; rfl)) (by simp [wiP]) rfl⟩)))
theorem at4 (q : FuncId) {g : Nat → Int} (A : Option Addr) (c : Nat) (l : List (Nat)) (hl : l.length ≤ 1000000) (he : entB Tryz.prog q = true) (w : World) (hr : Rd w A (l.map fun x => Value.float .f32 x)) (hg : ∀ x ∈ l, ∀ W, Below w.heap.size w W → Calls Tryz.prog q #[Value.float .f32 x] W fun e w' => e = .returned (Value.int .i64 (g x)) ∧ Below W.heap.size W w') : Calls Tryz.prog 196 #[.slice A l.length c, .func (.func q) #[] #[]] w fun r w' => ∃ v, r = .returned v ∧ Below w.heap.size w w' ∧ w'.ownsRow w.heap.size 3 1 v l.length (l.map fun x => Value.int .i64 (g x)) := by
  refine i7 n9 Tryz.func196 rfl Tryz.ntmps196 (Nat.le_of_ble_eq_true rfl) rfl ?_
  repeat' (first
|refine e8 ?_
|refine a6 rfl ?_
|refine j1 ?_
|refine e7 ?_
|refine e9 rfl rfl obQ obQ ?_
|refine a7 ?_)
  refine C9 5 3 1 rfl ?_
  refine p7 (fun i : Nat × Option Addr × Nat => ⟨[(5, .s (.r i.2.1 i.1 i.2.2 0)), (8, .s (.v (.slice A l.length c))), (9, .s (.v (.int .i64 l.length))), (10, .s (.v (.int .i64 i.1))), (1, .s (.v (.func (.func q) #[] #[])))], [], [⟨3, 1, i.1, (l.take i.1).map fun x => Value.int .i64 (g x), .slice i.2.1 i.1 i.2.2⟩]⟩) (fun i => i.1 ≤ l.length) (fun i => l.length - i.1) (0, none, 0) (Nat.zero_le _) ?_ (fun i hi => ?_)
  · exact svQ
  obtain ⟨k, A', c'⟩ := i
  have hi' : k ≤ l.length := hi
  dsimp only
  by_cases hlt : k < l.length
  · obtain ⟨ad, rfl⟩ := hr.some (by simp; omega)
    have hmt := B0 (f := fun x => Value.int .i64 (g x)) hlt
    repeat' (first
|(refine j7 ?_; first
|refine e8 ?_
|refine a6 rfl ?_
|refine j1 ?_
|refine j3 ?_
|(refine j0 rfl obQ ?_ ?_ <;> intro h <;> (try simp only [cdS] at h) <;> (try (exfalso; omega))))
|(refine k6 ?_; first
|refine n4 rfl obQ rfl [Value.float .f32 l[k]] (.past _ memQ _ _ hr.toS _ _ rfl rfl (idx1 (f := fun x => Value.float .f32 x) hlt)) rfl (.inr ⟨rfl, rfl⟩) ?_
|refine a8 rfl obQ he (fun W hW => hg l[k] (List.getElem_mem hlt) W hW.below) ?_
|refine w9 rfl obQ rfl rfl rfl ⟨by decide, rfl⟩ rfl ⟨rfl, rfl, rfl, rfl⟩ [Value.int .i64 (g l[k])] ⟨by decide, rfl⟩ (by simp [Value.oneCell']) (fun w hw => by first | exact hw.src (i := 0) rfl rfl | exact hw.src (i := 1) rfl rfl | exact hw.src (i := 2) rfl rfl | exact hw.src (i := 3) rfl rfl | exact hw.src (i := 4) rfl rfl | exact hw.src (i := 5) rfl rfl | exact hw.src (i := 6) rfl rfl | exact hw.src (i := 7) rfl rfl | exact hw.src (i := 8) rfl rfl) (by unfold maxLen; dsimp only; omega) (fun gb cap' => ⟨_, rfl, ?_⟩)
|refine e7 ?_
|refine e9 rfl rfl obQ obQ ?_
|refine j9 (fun b => ⟨_, _, rfl, obQ, ?_⟩))
|refine o6 (k + 1, some ⟨gb, 0, none⟩, cap') (by show k + 1 ≤ _; omega) (by show l.length - (k + 1) < l.length - k; omega) ⟨⟨_, rfl, obQ⟩, ⟨_, rfl⟩, (by dsimp only; rw [hmt]), pstQ⟩
|refine a7 ?_
|refine n5 ?_)
  · obtain rfl : k = l.length := by omega
    repeat' (first
|(refine j7 ?_; first
|refine e8 ?_
|refine a6 rfl ?_
|refine o0 ?_
|refine i6 ?_
|(refine j0 rfl obQ ?_ ?_ <;> intro h <;> (try simp only [cdS] at h) <;> (try (exfalso; omega))))
|refine e7 ?_
|refine e9 rfl rfl obQ obQ ?_
|(refine o8 ?_; first
|refine a7 ?_
|refine n2 ?_
|refine n6 ?_
|refine j4 rfl obQ (fun w2 hw => ⟨_, rfl, hw.below, HW.ownRow (i := 0) hw rfl rfl rfl (by rw [List.take_length])⟩)))
theorem H1 (p : Pic) (A : Option Addr) (c : Nat) (hs : p.s.length ≤ 1000000) (hp : ∀ x ∈ p.s, Smp x) (w : World) (hr : Rd w A (p.s.map (.float .f32))) : Calls Tryz.prog 130 #[.agg #[.string p.nm, .int .i64 p.w, .int .i64 p.h, .slice A p.s.length c]] w fun r w' => ∃ v, r = .returned v ∧ Below w.heap.size w w' ∧ Sl w w' v p.s.length ((lvs p).map (.int .i64)) := by
  refine i7 n9 Tryz.func130 rfl Tryz.ntmps130 (Nat.le_of_ble_eq_true rfl) rfl ?_
  repeat' (first
|refine e8 ?_
|refine a6 rfl ?_
|refine i6 ?_
|(refine k6 ?_; first
|(refine j5 (f := 196) rfl obQ (by kernel_rfl) (fun w hw => au8 197 (g := lvl) A c p.s hs (by kernel_rfl) w (hw.rdm hr.toS memQ) (fun x hx W _ => at6 x (hp x hx).fin (hp x hx).bd W)) (fun w1M w2M vM hw1M hbM hRM => ?_); obtain ⟨AM, cM, rfl, hSM⟩ := hRM)
|refine e7 ?_
|refine e9 rfl rfl obQ obQ ?_
|refine k7 (fun b => ⟨_, _, rfl, obQ, ?_⟩))
|refine a7 ?_
|refine j4 rfl obQ (fun w2 hw => ⟨_, rfl, hw.below, HW.callSl hw (by unfold lvs; rw [List.map_map]; exact hSM) memQ hw1M.bsize⟩))
theorem aA8 (p : Pic) (A : Option Addr) (c : Nat) (hs : p.s.length ≤ 1000000) (hp : ∀ x ∈ p.s, Smp x) (w : World) (hr : Rd w A (p.s.map (.float .f32))) : Calls Tryz.prog 130 #[.agg #[.string p.nm, .int .i64 p.w, .int .i64 p.h, .slice A p.s.length c]] w fun r w' => ∃ v, r = .returned v ∧ Below w.heap.size w w' ∧ w'.ownsRow w.heap.size 3 1 v p.s.length ((lvs p).map (.int .i64)) := by
  refine i7 n9 Tryz.func130 rfl Tryz.ntmps130 (Nat.le_of_ble_eq_true rfl) rfl ?_
  repeat' (first
|refine e8 ?_
|refine a6 rfl ?_
|refine i6 ?_
|(refine k6 ?_; first
|refine aa1 3 1 p.s.length (p.s.map fun x => .int .i64 (lvl x)) rfl obQ (by kernel_rfl) (fun w hw => at4 197 (g := lvl) A c p.s hs (by kernel_rfl) w (hw.rdm hr.toS memQ) (fun x hx W _ => at6 x (hp x hx).fin (hp x hx).bd W)) (fun AR cR => ?_)
|refine e7 ?_
|refine e9 rfl rfl obQ obQ ?_
|refine k7 (fun b => ⟨_, _, rfl, obQ, ?_⟩))
|refine a7 ?_
|refine j4 rfl obQ (fun w2 hw => ⟨_, rfl, hw.below, HW.ownRow (i := 0) hw rfl rfl rfl (by unfold lvs; rw [List.map_map]; rfl)⟩))
theorem P7 (A : Option Addr) (c : Nat) (key : List Int) (hl : key.length ≤ 1000000) (w : World) (hr : Rd w A (key.map (.int .i64))) : Calls Tryz.prog 96 #[.slice A key.length c] w fun r w' => r = .returned (.int .i64 (keE key)) ∧ Below w.heap.size w w' := by
  refine i7 n9 Tryz.func96 rfl Tryz.ntmps96 (Nat.le_of_ble_eq_true rfl) rfl ?_
  by_cases h1 : kenE key.length = 0
  · rw [bw2 h1]
    repeat' (first
|(refine j7 ?_; first
|refine aE6 ?_
|refine aF0 ?_
|refine e8 ?_
|refine a6 rfl ?_
|refine j1 ?_
|refine j3 ?_
|refine i6 ?_
|(refine j0 rfl obQ ?_ ?_ <;> intro h <;> (try simp only [cdS] at h) <;> (try (exfalso; omega)) <;> (try exact cdF h) <;> (try contradiction)))
|(refine k6 ?_; first
|refine e7 ?_
|refine e9 rfl rfl obQ obQ ?_
|refine j9 (fun b => ⟨_, _, rfl, obQ, ?_⟩)
|refine a8 (f := 112) rfl obQ (by kernel_rfl) (fun w hw => v8 _ _ w) ?_
|refine a8 (f := 107) rfl obQ (by kernel_rfl) (fun w hw => p6 _ _ [wh ((key.length : Int) == 0) 12, wh (decide ((4096 : Int) < key.length)) 5] (by simp) w (.inr ⟨_, rfl, hw.src (i := 0) rfl rfl⟩)) ?_)
|(refine o8 ?_; first
|refine Y9 ?_
|refine a7 ?_
|refine j6 ?_
|refine j4 rfl obQ (fun w hw => ⟨?_, hw.below⟩)))
    refine p7 (fun k : Nat => ⟨[(22, .s (.v (.int .i64 k))), (21, .s (.v (.int .i64 key.length))), (20, .s (.v (.slice A key.length c))), (4, .s (.v (.bool false)))], [], []⟩) (fun k => k ≤ key.length ∧ keB (key.take k) = true) (fun k => key.length - k) 0 ⟨Nat.zero_le _, rfl⟩ ?_ (fun k hk => ?_)
    · exact svQ
    obtain ⟨hk, hi⟩ := hk
    by_cases hlt : k < key.length
    · obtain ⟨ad, rfl⟩ := hr.some (by simp; omega)
      by_cases hb : 0 ≤ gI key k ∧ gI key k ≤ 256
      · have hw1 : wi (gI key k) 0 256 = 0 := (D1 _ _ _).2 hb
        have htk := aS8 hlt
        rw [hi, decide_eq_true hb.1, decide_eq_true hb.2] at htk
        repeat' (first
|(refine j7 ?_; first
|refine e8 ?_
|refine a6 rfl ?_
|refine j1 ?_
|refine j3 ?_
|(refine j0 rfl obQ ?_ ?_ <;> intro h <;> (try simp only [cdS] at h) <;> (try (exfalso; omega)) <;> (try exact cdF h) <;> (try contradiction)))
|(refine k6 ?_; first
|refine n4 rfl obQ rfl [.int .i64 (gI key k)] (.past _ memQ _ _ hr.toS _ _ rfl rfl (y5 (k := k) rfl hlt)) rfl (.inr ⟨rfl, rfl⟩) ?_
|refine e7 ?_
|refine e9 rfl rfl obQ obQ ?_
|refine a8 (f := 111) rfl obQ (by kernel_rfl) (fun w hw => E5 _ _ _ w) ?_)
|refine o6 (k + 1) ⟨by omega, htk⟩ (by omega) svQ
|refine a7 ?_
|refine n5 ?_)
      · have hw1 : ¬ wi (gI key k) 0 256 = 0 := fun h => hb ((D1 _ _ _).1 h)
        rw [br1 hlt hb]
        repeat' (first
|(refine j7 ?_; first
|refine e8 ?_
|refine a6 rfl ?_
|refine j1 ?_
|refine j3 ?_
|refine o0 ?_
|refine i6 ?_
|(refine j0 rfl obQ ?_ ?_ <;> intro h <;> (try simp only [cdS] at h) <;> (try (exfalso; omega)) <;> (try exact cdF h) <;> (try contradiction)))
|(refine k6 ?_; first
|refine n4 rfl obQ rfl [.int .i64 (gI key k)] (.past _ memQ _ _ hr.toS _ _ rfl rfl (y5 (k := k) rfl hlt)) rfl (.inr ⟨rfl, rfl⟩) ?_
|refine e7 ?_
|refine e9 rfl rfl obQ obQ ?_
|refine a8 (f := 112) rfl obQ (by kernel_rfl) (fun w hw => v8 _ _ w) ?_
|refine a8 (f := 111) rfl obQ (by kernel_rfl) (fun w hw => E5 _ _ _ w) ?_)
|(refine o8 ?_; first
|refine Y9 ?_
|refine a7 ?_
|refine n2 ?_
|refine aX1 rfl ?_
|refine n6 ?_
|refine j4 rfl obQ (fun w hw => ⟨?_, hw.below⟩)))
        all_goals rfl
    · obtain rfl : k = key.length := by omega
      rw [List.take_length] at hi
      rw [hi]
      repeat' (first
|(refine j7 ?_; first
|refine e8 ?_
|refine a6 rfl ?_
|refine o0 ?_
|refine i6 ?_
|(refine j0 rfl obQ ?_ ?_ <;> intro h <;> (try simp only [cdS] at h) <;> (try (exfalso; omega)) <;> (try exact cdF h) <;> (try (exfalso; omega))))
|refine e7 ?_
|refine e9 rfl rfl obQ obQ ?_
|refine a8 (f := 112) rfl obQ (by kernel_rfl) (fun w hw => v8 _ _ w) ?_
|(refine o8 ?_; first
|refine Y9 ?_
|refine a7 ?_
|refine n2 ?_
|refine n6 ?_
|refine j4 rfl obQ (fun w hw => ⟨?_, hw.below⟩)))
      all_goals rfl
  · rw [bt3 h1]
    repeat' (first
|(refine j7 ?_; first
|refine aE6 ?_
|refine aF0 ?_
|refine e8 ?_
|refine a6 rfl ?_
|refine j1 ?_
|refine j3 ?_
|refine i6 ?_
|(refine j0 rfl obQ ?_ ?_ <;> intro h <;> (try simp only [cdS] at h) <;> (try (exfalso; omega)) <;> (try exact cdF h) <;> (try contradiction)))
|(refine k6 ?_; first
|refine e7 ?_
|refine e9 rfl rfl obQ obQ ?_
|refine j9 (fun b => ⟨_, _, rfl, obQ, ?_⟩)
|refine a8 (f := 112) rfl obQ (by kernel_rfl) (fun w hw => v8 _ _ w) ?_
|refine a8 (f := 107) rfl obQ (by kernel_rfl) (fun w hw => p6 _ _ [wh ((key.length : Int) == 0) 12, wh (decide ((4096 : Int) < key.length)) 5] (by simp) w (.inr ⟨_, rfl, hw.src (i := 0) rfl rfl⟩)) ?_)
|(refine o8 ?_; first
|refine Y9 ?_
|refine a7 ?_
|refine j6 ?_
|refine j4 rfl obQ (fun w hw => ⟨?_, hw.below⟩)))
    all_goals rfl
theorem C0 (p : Pic) (A : Option Addr) (c : Nat) (hs : p.s.length ≤ 1000000) (A2 : Option Addr) (c2 : Nat) (key : List Int) (hk : key.length ≤ 1000000) (w : World) (hr2 : Rd w A2 (key.map (.int .i64))) : Calls Tryz.prog 146 #[.agg #[.string p.nm, .int .i64 p.w, .int .i64 p.h, .slice A p.s.length c], .slice A2 key.length c2] w fun r w' => r = .returned (.int .i64 (kdE p key)) ∧ Below w.heap.size w w' := by
  refine i7 n9 Tryz.func146 rfl Tryz.ntmps146 (Nat.le_of_ble_eq_true rfl) rfl ?_
  repeat' (first
|(refine j7 ?_; first
|refine e8 ?_
|refine a6 rfl ?_
|refine i6 ?_
|refine n8 (id := 1) 8 [(0, true), (2, true), (3, true), (4, true), (5, true), (6, true), (7, true), (1, false)] rfl mixed (by kernel_rfl) rfl ?_)
|(refine k6 ?_; first
|refine e7 ?_
|refine e9 rfl rfl obQ obQ ?_
|refine k7 (fun b => ⟨_, _, rfl, obQ, ?_⟩)
|refine j9 (fun b => ⟨_, _, rfl, obQ, ?_⟩)
|refine a8 (f := 96) rfl obQ (by kernel_rfl) (fun w hw => P7 A2 c2 key hk w (hw.rdm hr2.toS memQ)) ?_
|refine a8 (f := 112) rfl obQ (by kernel_rfl) (fun w hw => v8 _ _ w) ?_
|refine a8 (f := 107) rfl obQ (by kernel_rfl) (fun w hw => p6 _ _ [keE key, wh ((key.length : Int) != (p.s.length : Int)) 2] (by simp) w (.inr ⟨_, rfl, hw.src (i := 1) rfl rfl⟩)) ?_)
|refine r5 ?_
|refine V_q rfl (k8 rfl obQ) ?_
|refine V_n rfl ?_
|refine G_V ⟨⟨_, rfl, trivial⟩, ⟨_, rfl⟩, rfl, pstQ⟩ rfl ?_
|refine a7 ?_
|refine j4 rfl obQ (fun w hw => ⟨?_, hw.below⟩))
  rfl
theorem ne2 {P : Program} {t : TypeId} (h : deepI P t 2 = true) (a b c d : Int) (x y : Operand) (w : World) : (do eqGuard .neq t x y (.agg #[.int .i64 a, .int .i64 b]) (.agg #[.int .i64 c, .int .i64 d]); binOp .neq t (.agg #[.int .i64 a, .int .i64 b]) (.agg #[.int .i64 c, .int .i64 d]) : Sem Value).run P w = .ok (.bool (a != c || b != d)) w := by
  have k := aE2 (k := .i64) (n := 2) (xs := [a, b]) (ys := [c, d]) h rfl rfl x y w
  have e : ([a, b] != [c, d]) = (a != c || b != d) := by
    rw [Bool.eq_iff_iff]
    simp only [bne_iff_ne, ne_eq, List.cons.injEq, and_true, Bool.or_eq_true]
    omega
  rw [e] at k
  exact k
theorem G1 (p q : Pic) (A A2 : Option Addr) (c c2 : Nat) (hs : p.s.length ≤ 1000000) (hs2 : q.s.length ≤ 1000000) (w : World) (hr : Rd w A (p.s.map (.float .f32))) (hr2 : Rd w A2 (q.s.map (.float .f32))) : Calls Tryz.prog 143 #[.agg #[.string p.nm, .int .i64 p.w, .int .i64 p.h, .slice A p.s.length c], .agg #[.string q.nm, .int .i64 q.w, .int .i64 q.h, .slice A2 q.s.length c2]] w fun r w' => r = .returned (.int .i64 (twE p q)) ∧ Below w.heap.size w w' := by
  refine i7 n9 Tryz.func143 rfl Tryz.ntmps143 (Nat.le_of_ble_eq_true rfl) rfl ?_
  repeat' (first
|(refine j7 ?_; first
|refine e8 ?_
|refine a6 rfl ?_
|refine i6 ?_
|refine n8 (id := 1) 7 [(0, true), (2, true), (4, true), (6, true), (1, false), (3, false), (5, false)] rfl mixed (by kernel_rfl) rfl ?_)
|(refine k6 ?_; first
|refine j8 (k9 rfl obQ (fun w => ne2 (by kernel_rfl) _ _ _ _ _ _ w)) ?_
|refine e7 ?_
|refine e9 rfl rfl obQ obQ ?_
|refine k7 (fun b => ⟨_, _, rfl, obQ, ?_⟩)
|refine j9 (fun b => ⟨_, _, rfl, obQ, ?_⟩)
|refine a8 (f := 127) rfl obQ (by kernel_rfl) (fun w hw => B1 p A c hs w (hw.rdm hr.toS memQ)) ?_
|refine a8 (f := 127) rfl obQ (by kernel_rfl) (fun w hw => B1 q A2 c2 hs2 w (hw.rdm hr2.toS memQ)) ?_
|refine a8 (f := 202) rfl obQ (by kernel_rfl) (fun w hw => Q8 p A c w) ?_
|refine a8 (f := 202) rfl obQ (by kernel_rfl) (fun w hw => Q8 q A2 c2 w) ?_
|refine a8 (f := 112) rfl obQ (by kernel_rfl) (fun w hw => v8 _ _ w) ?_
|refine a8 (f := 107) rfl obQ (by kernel_rfl) (fun w hw => p6 _ _ [picE p, picE q, wh (p.w != q.w || p.h != q.h) 2] (by simp) w (.inr ⟨_, rfl, hw.src (i := 2) rfl rfl⟩)) ?_)
|refine r5 ?_
|refine V_q rfl (k8 rfl obQ) ?_
|refine V_n rfl ?_
|refine G_V ⟨⟨_, rfl, trivial⟩, ⟨_, rfl⟩, rfl, pstQ⟩ rfl ?_
|refine a7 ?_
|refine j4 rfl obQ (fun w hw => ⟨?_, hw.below⟩))
  rfl
def lnE (p : Pic) (c g : Int) : Int := firstL [picE p, slE c g]
def lnR (p : Pic) (c g : Int) : List Int × Int := if lnE p c g = 0 then ((lvs p).map (shF c g), 0) else ([], lnE p c g)
theorem bx1 {p : Pic} {c g : Int} (h : lnE p c g = 0) : PicOk p ∧ SlOk c g := by
  unfold lnE at h
  rw [p9] at h
  simp only [List.mem_cons, List.mem_nil_iff, or_false, forall_eq_or_imp, forall_eq, aa0, aH4] at h
  exact h
def crE (p q : Pic) (u v c g : Int) : Int := firstL [twE p q, lvE u, lvE v, slE c g]
def crF (u v c g : Int) (x y : Int) : Int := shF c g (abZ (x - u) + abZ (y - v))
def crR (p q : Pic) (u v c g : Int) : List Int × Int := if crE p q u v c g = 0 then (zwI (crF u v c g) (lvs p) (lvs q), 0) else ([], crE p q u v c g)
theorem bt7 {p q : Pic} {u v c g : Int} (h : crE p q u v c g = 0) : twE p q = 0 ∧ (-16384 ≤ u ∧ u ≤ 16384) ∧ (-16384 ≤ v ∧ v ≤ 16384) ∧ SlOk c g := by
  unfold crE lvE at h
  rw [p9] at h
  simp only [List.mem_cons, List.mem_nil_iff, or_false, forall_eq_or_imp, forall_eq, D1, aH4] at h
  exact h
def kvR (k : List Int) : List Int × Int := if keE k = 0 then (k.map fun x => 256 - x, 0) else ([], keE k)
def mxE (p q : Pic) (k : List Int) : Int := firstL [twE p q, kdE p k]
def mxL (p q : Pic) (k : List Int) : List Int := (List.range p.s.length).map fun j => miF (gI (lvs p) j) (gI (lvs q) j) (gI k j)
def mxR (p q : Pic) (k : List Int) : Pic × Int := if mxE p q k = 0 then wiR p (mxL p q k) else (zP, mxE p q k)
theorem bh7 {p q : Pic} {k : List Int} (h : mxE p q k = 0) : twE p q = 0 ∧ KeOk k ∧ k.length = p.s.length := by
  unfold mxE at h
  rw [p9] at h
  simp only [List.mem_cons, List.mem_nil_iff, or_false, forall_eq_or_imp, forall_eq, bi0] at h
  exact h
def pmE (p : Pic) (k : List Int) : Int := firstL [picE p, kdE p k]
theorem bj4 {p : Pic} {k : List Int} (h : pmE p k = 0) : PicOk p ∧ KeOk k ∧ k.length = p.s.length := by
  unfold pmE at h
  rw [p9] at h
  simp only [List.mem_cons, List.mem_nil_iff, or_false, forall_eq_or_imp, forall_eq, bi0, aa0] at h
  exact h
def pmR (p : Pic) (k : List Int) : Pic × Int := if pmE p k = 0 then wiR p (zwI paF (lvs p) k) else (zP, pmE p k)
def usF' (n k : Int) : Int := n - paF n (256 - k)
def usR (p : Pic) (k : List Int) : Pic × Int := if pmE p k = 0 then wiR p (zwI usF' (lvs p) k) else (zP, pmE p k)
def bpF (n k : Int) : Int := paF n (256 - k)
def ovF (p q : Pic) (k : List Int) (j : Nat) : Int := bpF (gI (lvs q) j) (gI k j) + gI (lvs p) j
def ovL (p q : Pic) (k : List Int) : List Int := (List.range p.s.length).map (ovF p q k)
def ovR (p q : Pic) (k : List Int) : Pic × Int := if mxE p q k = 0 then wiR p (ovL p q k) else (zP, mxE p q k)
theorem P1 {p : Pic} {Ap : Option Addr} {cp : Nat} {A : Option Addr} {c n : Nat} {l : List Int} (hn : l.length = n) (hl : n ≤ 1000000) (w : World) (hr : Rd w A (l.map (.int .i64))) :
    Calls Tryz.prog 147 #[.agg #[.string p.nm, .int .i64 p.w, .int .i64 p.h, .slice Ap p.s.length cp], .slice A n c] w fun r w' => ∃ v, r = .returned v ∧ Below w.heap.size w w' ∧ PicR w w' v (wiR p l).1 (wiR p l).2 := by
  subst hn
  exact bb9 p Ap cp A c l hl w hr
theorem an3 {A : Option Addr} {c n : Nat} {l : List Int} {g : Int → Int} {f0 : Value} (q : FuncId) (hn : l.length = n) (hl : n ≤ 1000000) (he : entB Tryz.prog q = true) (w : World) (hr : Rd w A (l.map fun x => Value.int .i64 x)) (hg : ∀ x ∈ l, ∀ W, Below w.heap.size w W → Calls Tryz.prog q #[f0, .int .i64 x] W fun e w' => e = .returned (.int .i64 (g x)) ∧ Below W.heap.size W w') :
    Calls Tryz.prog 129 #[.slice A n c, .func (.func q) #[f0] #[]] w fun r w' => ∃ v, r = .returned v ∧ Below w.heap.size w w' ∧ Sl w w' v n (l.map fun x => Value.int .i64 (g x)) := by
  subst hn
  exact au6 q f0 (g := g) A c l hl he w hr hg
theorem bf3 (a b : Int) : max (a - b) (b - a) = abZ (a - b) := by unfold abZ; omega
theorem bv9 {p q : Pic} {u v : Int} (ht : twE p q = 0) (hu : -16384 ≤ u ∧ u ≤ 16384) (hv : -16384 ≤ v ∧ v ≤ 16384) {k : Nat} (hk : k < p.s.length) : (0 ≤ abZ (gI (lvs p) k - u) ∧ abZ (gI (lvs p) k - u) ≤ 32768) ∧ (0 ≤ abZ (gI (lvs q) k - v) ∧ abZ (gI (lvs q) k - v) ≤ 32768) := by
  obtain ⟨h1, h2, h3, h4⟩ := ax8.1 ht
  have g1 := P8 h1 hk
  have g2 := P8 h2 (show k < q.s.length by rw [ao5 ht]; exact hk)
  unfold abZ
  omega
theorem av9 (q : FuncId) {g : Int → Int → Int} (p : Pic) (A : Option Addr) (c : Nat) (hp : PicOk p) (A2 : Option Addr) (c2 : Nat) (key : List Int) (hk : key.length = p.s.length) (he : entB Tryz.prog q = true) (w : World) (hr : Rd w A (p.s.map (.float .f32))) (hr2 : Rd w A2 (key.map (.int .i64))) (hg : ∀ j, j < p.s.length → ∀ W, Below w.heap.size w W → Calls Tryz.prog q #[.int .i64 (gI (lvs p) j), .int .i64 (gI key j)] W fun e w' => e = .returned (.int .i64 (g (gI (lvs p) j) (gI key j))) ∧ Below W.heap.size W w') : Calls Tryz.prog 148 #[.agg #[.string p.nm, .int .i64 p.w, .int .i64 p.h, .slice A p.s.length c], .slice A2 key.length c2, .func (.func q) #[] #[]] w fun r w' => ∃ v, r = .returned v ∧ Below w.heap.size w w' ∧ w'.ownsRow w.heap.size 3 1 v key.length ((zwI g (lvs p) key).map (.int .i64)) := by
  refine i7 n9 Tryz.func148 rfl Tryz.ntmps148 (Nat.le_of_ble_eq_true rfl) rfl ?_
  have hs4 := as8 hp
  obtain ⟨_, h0⟩ := F8 hp
  have hs : p.s.length ≤ 1000000 := by omega
  repeat' (first
|refine e8 ?_
|refine a6 rfl ?_
|refine j1 ?_
|(refine k6 ?_; first
|refine N5 key.length rfl obQ rfl rfl rfl rfl rfl (by unfold maxLen; dsimp only; omega) (fun g' => ?_)
|(refine j5 (f := 130) rfl obQ (by kernel_rfl) (fun w hw => H1 p A c hs hp.s w (hw.rdm hr.toS memQ)) (fun w1L w2L vL hw1L hbL hRL => ?_); obtain ⟨AL, cL, rfl, hSL⟩ := hRL)
|refine e7 ?_
|refine e9 rfl rfl obQ obQ ?_
|refine k7 (fun b => ⟨_, _, rfl, obQ, ?_⟩))
|refine a7 ?_)
  obtain ⟨adL, rfl⟩ := hSL.rd.some (by rw [List.length_map, w6]; exact h0)
  refine p7 (fun k : Nat => ⟨[(16, .s (.v (.int .i64 k))), (15, .s (.v (.int .i64 p.s.length))), (14, .s (.v (.slice (some adL) p.s.length cL))), (7, .s (.r (some ⟨g', 0, none⟩) key.length key.length 0)), (2, .s (.v (.func (.func q) #[] #[]))), (1, .s (.v (.slice A2 key.length c2)))], [⟨b, 70, [.v (.string p.nm), .v (.int .i64 p.w), .v (.int .i64 p.h), .v (.slice A p.s.length c)]⟩], [⟨3, 1, key.length, (upI key.length (fun j => g (gI (lvs p) j) (gI key j)) (fun _ => 0) k).map (.int .i64), .slice (some ⟨g', 0, none⟩) key.length key.length⟩]⟩) (fun k => k ≤ p.s.length) (fun k => p.s.length - k) 0 (Nat.zero_le _) ?_ (fun k hk0 => ?_)
  · rw [← aI0]
    exact svQ
  have hk1 : k ≤ p.s.length := hk0
  by_cases hlt : k < p.s.length
  · obtain ⟨ad2, rfl⟩ := hr2.some (by rw [List.length_map]; omega)
    repeat' (first
|(refine j7 ?_; first
|refine e8 ?_
|refine a6 rfl ?_
|refine j1 ?_
|refine j3 ?_
|(refine j0 rfl obQ ?_ ?_ <;> intro h <;> (try simp only [cdS] at h) <;> (try (exfalso; omega)) <;> (try exact cdF h) <;> (try (exfalso; omega))))
|(refine k6 ?_; first
|refine n4 rfl obQ rfl [.int .i64 (gI (lvs p) k)] (.past (w2L, fun b => w1L.heap.size ≤ b ∧ b < w2L.heap.size) memQ _ _ hSL _ adL rfl rfl (y5 (k := k) rfl (by rw [w6]; omega))) rfl (.inr ⟨rfl, rfl⟩) ?_
|refine n4 rfl obQ rfl [.int .i64 (gI key k)] (.past (w, fun b => b < w.heap.size) memQ _ _ hr2.toS _ _ rfl rfl (y5 (k := k) rfl (by omega))) rfl (.inr ⟨rfl, rfl⟩) ?_
|refine a8 rfl obQ he (fun W hW => hg k hlt W hW.below) ?_
|refine r6 rfl obQ rfl rfl rfl 0 rfl rfl (((k : Nat) : Int).toNat * 1) rfl (by dsimp only; rw [List.length_map, D3]; omega) (xs' := (upI (key.length) (fun j => g (gI (lvs p) j) (gI key j)) (fun _ => 0) (k + 1)).map (.int .i64)) (M0 (f := (fun j => g (gI (lvs p) j) (gI key j))) rfl (by omega)) rfl ?_
|refine e7 ?_
|refine e9 rfl rfl obQ obQ ?_)
|refine o6 (k + 1) (show k + 1 ≤ p.s.length by omega) (by show p.s.length - (k + 1) < p.s.length - k; omega) svQ
|refine a7 ?_
|refine n5 ?_)
  · obtain rfl : k = p.s.length := by omega
    repeat' (first
|(refine j7 ?_; first
|refine e8 ?_
|refine a6 rfl ?_
|refine o0 ?_
|refine i6 ?_
|(refine j0 rfl obQ ?_ ?_ <;> intro h <;> (try simp only [cdS] at h) <;> (try (exfalso; omega)) <;> (try exact cdF h) <;> (try (exfalso; omega))))
|refine e7 ?_
|refine e9 rfl rfl obQ obQ ?_
|(refine o8 ?_; first
|refine a7 ?_
|refine n2 ?_
|refine n6 ?_
|refine j4 rfl obQ (fun w2 hw => ⟨_, rfl, hw.below, HW.ownRow (i := 0) hw rfl rfl rfl (by rw [← hk, Y2]; unfold zwI; rw [w6, hk])⟩)))
theorem srcM {X : Cx} {Ps : Past} {σ : St} {W : World} {A : Option Addr} {xs : List Value} (h : Rd W A xs) (hp : (W, fun b => b < W.heap.size) ∈ Ps) : ∀ w, HW X.B X.w0 Ps σ w → ∀ ad, A = some ad → ∀ j u, xs[j]? = some u → w.cell? (ad.add j) = some u := by
  intro w hw ad ha j u hu
  rcases hw.rdm (Rd.toS h) hp with h1 | ⟨ad', h1, h2⟩
  · rw [h1] at hu; simp at hu
  · rw [ha] at h1
    cases h1
    exact h2 j u hu
theorem aQ7 (l : List Int) : ∀ u ∈ l.map (Value.int .i64), u.oneCell' = true := by
  intro u hu
  obtain ⟨x, _, rfl⟩ := List.mem_map.1 hu
  rfl
theorem ak3 {q : FuncId} {g : Int → Int → Int} {p : Pic} {A : Option Addr} {c : Nat} {A2 : Option Addr} {c2 : Nat} {key : List Int} (hp : PicOk p) (hk : key.length = p.s.length) (he : entB Tryz.prog q = true) (w : World) (hr : Rd w A (p.s.map (.float .f32))) (hr2 : Rd w A2 (key.map (.int .i64)))
    (hg : ∀ j, j < p.s.length → ∀ W, Calls Tryz.prog q #[.int .i64 (gI (lvs p) j), .int .i64 (gI key j)] W fun e w' => e = .returned (.int .i64 (g (gI (lvs p) j) (gI key j))) ∧ Below W.heap.size W w') :
    Calls Tryz.prog 148 #[.agg #[.string p.nm, .int .i64 p.w, .int .i64 p.h, .slice A p.s.length c], .slice A2 key.length c2, .func (.func q) #[] #[]] w fun r w' => ∃ v, r = .returned v ∧ Below w.heap.size w w' ∧ Sl w w' v key.length ((zwI g (lvs p) key).map (.int .i64)) := by
  refine (av9 q (g := g) p A c hp A2 c2 key hk he w hr hr2 fun j hj W _ => hg j hj W).mono ?_
  rintro r w' ⟨v, h1, h2, h3⟩
  exact ⟨v, h1, h2, ae7 h3⟩
end Go.Proofs.YtjkgklhjbopoaaaGreatDoor
