/- Mixer: kinds of nodes: contracts of the program. -/
import Derived.Test.YtjkgklhjbopoaaaGreatDoorMixer16
import Derived.Test.YtjkgklhjbopoaaaGreatDoorPartC
import Derived.Test.YtjkgklhjbopoaaaGreatDoorEng4
namespace Go.Proofs.YtjkgklhjbopoaaaGreatDoor
open Go.E Go.RowKit Go.Fl
attribute [local irreducible] G C S D Calls
set_option maxRecDepth 100000
set_option linter.all false
set_option maxHeartbeats 8000000
def kdV : Kd → Value
  | .src => .agg #[.int .i64 0, Value.func (.func 233) #[] #[], Value.func (.func 236) #[] #[], .nilFunc, Value.func (.func 234) #[] #[], Value.func (.func 235) #[] #[]]
  | .mat => .agg #[.int .i64 0, Value.func (.func 233) #[] #[], Value.func (.func 237) #[] #[], .nilFunc, Value.func (.func 234) #[] #[], Value.func (.func 235) #[] #[]]
  | .mix => .agg #[.int .i64 2, Value.func (.func 233) #[] #[], Value.func (.func 238) #[] #[], Value.func (.func 239) #[] #[], Value.func (.func 234) #[] #[], Value.func (.func 235) #[] #[]]
  | .wip => .agg #[.int .i64 2, Value.func (.func 240) #[] #[], Value.func (.func 241) #[] #[], Value.func (.func 242) #[] #[], .nilFunc, Value.func (.func 243) #[] #[]]
  | .key => .agg #[.int .i64 3, Value.func (.func 244) #[] #[], Value.func (.func 245) #[] #[], Value.func (.func 246) #[] #[], Value.func (.func 247) #[] #[], Value.func (.func 248) #[] #[]]
def kdM : List (ByteArray × Value) := [(bSrc, kdV .src), (bMat, kdV .mat), (bMix, kdV .mix), (bWip, kdV .wip), (bKey, kdV .key)]
def zK : Value := .agg #[.int .i64 0, .nilFunc, .nilFunc, .nilFunc, .nilFunc, .nilFunc]
theorem bk5 (s : ByteArray) : lkE kdM s = (kdOf s).map kdV := by
  unfold kdM kdOf
  simp only [lkE]
  by_cases h1 : s = bSrc
  · rw [if_pos h1, if_pos h1]; rfl
  · rw [if_neg h1, if_neg h1]
    by_cases h2 : s = bMat
    · rw [if_pos h2, if_pos h2]; rfl
    · rw [if_neg h2, if_neg h2]
      by_cases h3 : s = bMix
      · rw [if_pos h3, if_pos h3]; rfl
      · rw [if_neg h3, if_neg h3]
        by_cases h4 : s = bWip
        · rw [if_pos h4, if_pos h4]; rfl
        · rw [if_neg h4, if_neg h4]
          by_cases h5 : s = bKey
          · rw [if_pos h5, if_pos h5]; rfl
          · rw [if_neg h5, if_neg h5]; rfl
theorem A4 {s : ByteArray} {k : Kd} (h : kdOf s = some k) : lkE kdM s = some (kdV k) := by rw [bk5, h]; rfl
theorem bw0 {s : ByteArray} (h : kdOf s = none) : lkE kdM s = none := by rw [bk5, h]; rfl
def KdR (w w' : World) (v : Value) : Prop := ∃ k, v = .map (some k) ∧ w.heap.size ≤ k ∧ MapE k kdM w'
theorem y9 {k : Nat} {es : List (ByteArray × Value)} {w : World} (h : MapE k es w) : k < w.heap.size := (Array.getElem?_eq_some_iff.1 h).1
theorem z7 (w : World) : (zeroValue 237).run Tryz.prog w = .ok zK w := by kernel_rfl
def ndL (x : Nod) : List Lf := [.s x.kd, .i x.a, .i x.b, .i x.c, .i x.n, .i x.cl, .i x.ga, .s x.w.sh, .i x.w.a, .i x.w.b, .i x.w.at_, .i x.w.soft]
def ndK : List Bool := [false, true, true, true, true, true, true, false, true, true, true, true]
theorem aj5 (x : Nod) : (ndL x).map Lf.isI = ndK := rfl
theorem am5 {x y : Nod} : ndL x = ndL y ↔ x = y := by
  constructor
  · intro h
    obtain ⟨a, b, c, d, e, f, g, ⟨h1, h2, h3, h4, h5⟩⟩ := x
    obtain ⟨a', b', c', d', e', f', g', ⟨h1', h2', h3', h4', h5'⟩⟩ := y
    simp [ndL] at h
    obtain ⟨rfl, rfl, rfl, rfl, rfl, rfl, rfl, rfl, rfl, rfl, rfl, rfl⟩ := h
    rfl
  · intro h; rw [h]
theorem aG3 : deepL Tryz.prog 161 ndK = true := by kernel_rfl
theorem T1 {x y : Nod} {b : Bool} (h : decide (x ≠ y) = b) (u v : Operand) (w : World) : (do eqGuard .neq 161 u v (.agg (ndC x).toArray) (.agg (ndC y).toArray); binOp .neq 161 (.agg (ndC x).toArray) (.agg (ndC y).toArray) : Sem Value).run Tryz.prog w = .ok (.bool b) w := by
  have := bi4 aG3 (aj5 x) (aj5 y) u v w
  have e : (ndL x != ndL y) = b := by
    rw [← h, Bool.eq_iff_iff, bne_iff_ne, decide_eq_true_eq, Ne, am5]
  rw [e] at this
  exact this
theorem ak5 {x y : Nod} {b : Bool} (h : decide (x = y) = b) (u v : Operand) (w : World) : (do eqGuard .eql 161 u v (.agg (ndC x).toArray) (.agg (ndC y).toArray); binOp .eql 161 (.agg (ndC x).toArray) (.agg (ndC y).toArray) : Sem Value).run Tryz.prog w = .ok (.bool b) w := by
  have := bx5 aG3 (aj5 x) (aj5 y) u v w
  have e : (ndL x == ndL y) = b := by
    rw [← h, Bool.eq_iff_iff, beq_iff_eq, decide_eq_true_eq, am5]
  rw [e] at this
  exact this
theorem z1  (w : World) : Calls Tryz.prog 188 #[] w fun r w' => ∃ v, r = .returned v ∧ Below w.heap.size w w' ∧ KdR w w' v := by
  refine i7 n9 Tryz.func188 rfl Tryz.ntmps188 (Nat.le_of_ble_eq_true rfl) rfl ?_
  repeat' (first
|refine e8 ?_
|refine a6 rfl ?_
|refine i6 ?_
|(refine k6 ?_; first
|refine bi1 rfl obQ (fun h => by obtain ⟨_, h⟩ := h; cases h) (fun k W hown hat => ?_)
|refine ax0 (es := []) rfl obQ Tryz.underlying238 Tryz.underlying9 hat rfl hown (fun W1 hat1 => ?_)
|refine ax0 (es := [(bSrc, kdV .src)]) rfl obQ Tryz.underlying238 Tryz.underlying9 hat1 (by decide) hown (fun W2 hat2 => ?_)
|refine ax0 (es := [(bSrc, kdV .src), (bMat, kdV .mat)]) rfl obQ Tryz.underlying238 Tryz.underlying9 hat2 (by decide) hown (fun W3 hat3 => ?_)
|refine ax0 (es := [(bSrc, kdV .src), (bMat, kdV .mat), (bMix, kdV .mix)]) rfl obQ Tryz.underlying238 Tryz.underlying9 hat3 (by decide) hown (fun W4 hat4 => ?_)
|refine ax0 (es := [(bSrc, kdV .src), (bMat, kdV .mat), (bMix, kdV .mix), (bWip, kdV .wip)]) rfl obQ Tryz.underlying238 Tryz.underlying9 hat4 (by decide) hown (fun W5 hat5 => ?_)
|refine e7 ?_
|refine e9 rfl rfl obQ obQ ?_)
|refine a7 ?_
|refine j4 rfl obQ (fun w2 hw => ⟨_, rfl, hw.below, _, rfl, hown.lo, Y6 _ _ _ _ (hw.past _ (List.Mem.head _) _ rfl).1.2 hat5⟩))
theorem W9 (x : Nod) (w : World) : Calls Tryz.prog 233 #[.agg #[.string x.kd, .int .i64 x.a, .int .i64 x.b, .int .i64 x.c, .int .i64 x.n, .int .i64 x.cl, .int .i64 x.ga, .string x.w.sh, .int .i64 x.w.a, .int .i64 x.w.b, .int .i64 x.w.at_, .int .i64 x.w.soft]] w fun r w' => r = .returned (.agg #[.string ByteArray.empty, .int .i64 0, .int .i64 0, .int .i64 0, .int .i64 x.n, .int .i64 0, .int .i64 0, .string ByteArray.empty, .int .i64 0, .int .i64 0, .int .i64 0, .int .i64 0]) ∧ Below w.heap.size w w' := by
  refine i7 n9 Tryz.func233 rfl Tryz.ntmps233 (Nat.le_of_ble_eq_true rfl) rfl ?_
  repeat' (first
|(refine j7 ?_; first
|refine e8 ?_
|refine a6 rfl ?_
|refine j1 ?_
|refine j3 ?_
|refine i6 ?_
|(refine j0 rfl obQ ?_ ?_ <;> intro h <;> (try simp only [cdS] at h)))
|refine e7 ?_
|refine e9 rfl rfl obQ obQ ?_
|refine k7 (fun b => ⟨_, _, rfl, obQ, ?_⟩)
|refine a7 ?_
|refine j6 ?_
|refine j4 rfl obQ (fun w hw => ⟨?_, hw.below⟩))
  rfl
theorem aP0 (x : Nod) (w : World) : Calls Tryz.prog 240 #[.agg #[.string x.kd, .int .i64 x.a, .int .i64 x.b, .int .i64 x.c, .int .i64 x.n, .int .i64 x.cl, .int .i64 x.ga, .string x.w.sh, .int .i64 x.w.a, .int .i64 x.w.b, .int .i64 x.w.at_, .int .i64 x.w.soft]] w fun r w' => r = .returned (.agg #[.string ByteArray.empty, .int .i64 0, .int .i64 0, .int .i64 0, .int .i64 0, .int .i64 0, .int .i64 0, .string x.w.sh, .int .i64 x.w.a, .int .i64 x.w.b, .int .i64 x.w.at_, .int .i64 x.w.soft]) ∧ Below w.heap.size w w' := by
  refine i7 n9 Tryz.func240 rfl Tryz.ntmps240 (Nat.le_of_ble_eq_true rfl) rfl ?_
  repeat' (first
|(refine j7 ?_; first
|refine e8 ?_
|refine a6 rfl ?_
|refine j1 ?_
|refine j3 ?_
|refine i6 ?_
|(refine j0 rfl obQ ?_ ?_ <;> intro h <;> (try simp only [cdS] at h)))
|refine e7 ?_
|refine e9 rfl rfl obQ obQ ?_
|refine k7 (fun b => ⟨_, _, rfl, obQ, ?_⟩)
|refine a7 ?_
|refine j6 ?_
|refine j4 rfl obQ (fun w hw => ⟨?_, hw.below⟩))
  rfl
theorem aB9 (x : Nod) (w : World) : Calls Tryz.prog 244 #[.agg #[.string x.kd, .int .i64 x.a, .int .i64 x.b, .int .i64 x.c, .int .i64 x.n, .int .i64 x.cl, .int .i64 x.ga, .string x.w.sh, .int .i64 x.w.a, .int .i64 x.w.b, .int .i64 x.w.at_, .int .i64 x.w.soft]] w fun r w' => r = .returned (.agg #[.string ByteArray.empty, .int .i64 0, .int .i64 0, .int .i64 0, .int .i64 0, .int .i64 x.cl, .int .i64 x.ga, .string ByteArray.empty, .int .i64 0, .int .i64 0, .int .i64 0, .int .i64 0]) ∧ Below w.heap.size w w' := by
  refine i7 n9 Tryz.func244 rfl Tryz.ntmps244 (Nat.le_of_ble_eq_true rfl) rfl ?_
  repeat' (first
|(refine j7 ?_; first
|refine e8 ?_
|refine a6 rfl ?_
|refine j1 ?_
|refine j3 ?_
|refine i6 ?_
|(refine j0 rfl obQ ?_ ?_ <;> intro h <;> (try simp only [cdS] at h)))
|refine e7 ?_
|refine e9 rfl rfl obQ obQ ?_
|refine k7 (fun b => ⟨_, _, rfl, obQ, ?_⟩)
|refine a7 ?_
|refine j6 ?_
|refine j4 rfl obQ (fun w hw => ⟨?_, hw.below⟩))
  rfl
theorem bu8 (x : Nod) (w : World) : Calls Tryz.prog 236 #[.agg #[.string x.kd, .int .i64 x.a, .int .i64 x.b, .int .i64 x.c, .int .i64 x.n, .int .i64 x.cl, .int .i64 x.ga, .string x.w.sh, .int .i64 x.w.a, .int .i64 x.w.b, .int .i64 x.w.at_, .int .i64 x.w.soft]] w fun r w' => r = .returned (.int .i64 (wi x.n 0 7)) ∧ Below w.heap.size w w' := by
  refine i7 n9 Tryz.func236 rfl Tryz.ntmps236 (Nat.le_of_ble_eq_true rfl) rfl ?_
  repeat' (first
|refine e8 ?_
|refine a6 rfl ?_
|refine i6 ?_
|(refine k6 ?_; first
|refine e7 ?_
|refine e9 rfl rfl obQ obQ ?_
|refine k7 (fun b => ⟨_, _, rfl, obQ, ?_⟩)
|refine a8 (f := 116) rfl obQ (by kernel_rfl) (fun w hw => B2 _ w) ?_)
|refine a7 ?_
|refine j4 rfl obQ (fun w hw => ⟨?_, hw.below⟩))
  rfl
theorem bx8 (x : Nod) (w : World) : Calls Tryz.prog 237 #[.agg #[.string x.kd, .int .i64 x.a, .int .i64 x.b, .int .i64 x.c, .int .i64 x.n, .int .i64 x.cl, .int .i64 x.ga, .string x.w.sh, .int .i64 x.w.a, .int .i64 x.w.b, .int .i64 x.w.at_, .int .i64 x.w.soft]] w fun r w' => r = .returned (.int .i64 (lvE x.n)) ∧ Below w.heap.size w w' := by
  refine i7 n9 Tryz.func237 rfl Tryz.ntmps237 (Nat.le_of_ble_eq_true rfl) rfl ?_
  repeat' (first
|refine e8 ?_
|refine a6 rfl ?_
|refine i6 ?_
|(refine k6 ?_; first
|refine e7 ?_
|refine e9 rfl rfl obQ obQ ?_
|refine k7 (fun b => ⟨_, _, rfl, obQ, ?_⟩)
|refine a8 (f := 144) rfl obQ (by kernel_rfl) (fun w hw => D0 _ w) ?_)
|refine a7 ?_
|refine j4 rfl obQ (fun w hw => ⟨?_, hw.below⟩))
  rfl
theorem bu5 (x : Nod) (w : World) : Calls Tryz.prog 238 #[.agg #[.string x.kd, .int .i64 x.a, .int .i64 x.b, .int .i64 x.c, .int .i64 x.n, .int .i64 x.cl, .int .i64 x.ga, .string x.w.sh, .int .i64 x.w.a, .int .i64 x.w.b, .int .i64 x.w.at_, .int .i64 x.w.soft]] w fun r w' => r = .returned (.int .i64 (wi x.n 0 256)) ∧ Below w.heap.size w w' := by
  refine i7 n9 Tryz.func238 rfl Tryz.ntmps238 (Nat.le_of_ble_eq_true rfl) rfl ?_
  repeat' (first
|refine e8 ?_
|refine a6 rfl ?_
|refine i6 ?_
|(refine k6 ?_; first
|refine e7 ?_
|refine e9 rfl rfl obQ obQ ?_
|refine k7 (fun b => ⟨_, _, rfl, obQ, ?_⟩)
|refine a8 (f := 111) rfl obQ (by kernel_rfl) (fun w hw => E5 _ _ _ w) ?_)
|refine a7 ?_
|refine j4 rfl obQ (fun w hw => ⟨?_, hw.below⟩))
  rfl
theorem bu2 (x : Nod) (w : World) (hsh : Sh w) : Calls Tryz.prog 241 #[.agg #[.string x.kd, .int .i64 x.a, .int .i64 x.b, .int .i64 x.c, .int .i64 x.n, .int .i64 x.cl, .int .i64 x.ga, .string x.w.sh, .int .i64 x.w.a, .int .i64 x.w.b, .int .i64 x.w.at_, .int .i64 x.w.soft]] w fun r w' => r = .returned (.int .i64 (wpE x.w)) ∧ Below w.heap.size w w' := by
  refine i7 n9 Tryz.func241 rfl Tryz.ntmps241 (Nat.le_of_ble_eq_true rfl) rfl ?_
  repeat' (first
|refine e8 ?_
|refine a6 rfl ?_
|refine i6 ?_
|(refine k6 ?_; first
|refine e7 ?_
|refine e9 rfl rfl obQ obQ ?_
|refine k7 (fun b => ⟨_, _, rfl, obQ, ?_⟩)
|refine a8 (f := 108) rfl obQ (by kernel_rfl) (fun w hw => K8 x.w w (r7 hsh hw memQ)) ?_)
|refine a7 ?_
|refine j4 rfl obQ (fun w hw => ⟨?_, hw.below⟩))
  rfl
theorem bl6 (x : Nod) (w : World) : Calls Tryz.prog 245 #[.agg #[.string x.kd, .int .i64 x.a, .int .i64 x.b, .int .i64 x.c, .int .i64 x.n, .int .i64 x.cl, .int .i64 x.ga, .string x.w.sh, .int .i64 x.w.a, .int .i64 x.w.b, .int .i64 x.w.at_, .int .i64 x.w.soft]] w fun r w' => r = .returned (.int .i64 (slE x.cl x.ga)) ∧ Below w.heap.size w w' := by
  refine i7 n9 Tryz.func245 rfl Tryz.ntmps245 (Nat.le_of_ble_eq_true rfl) rfl ?_
  repeat' (first
|refine e8 ?_
|refine a6 rfl ?_
|refine i6 ?_
|(refine k6 ?_; first
|refine e7 ?_
|refine e9 rfl rfl obQ obQ ?_
|refine k7 (fun b => ⟨_, _, rfl, obQ, ?_⟩)
|refine a8 (f := 128) rfl obQ (by kernel_rfl) (fun w hw => J9 _ _ w) ?_)
|refine a7 ?_
|refine j4 rfl obQ (fun w hw => ⟨?_, hw.below⟩))
  rfl
theorem bw7 (x : Nod) (X Y c : Int) (w : World) : Calls Tryz.prog 239 #[.agg #[.string x.kd, .int .i64 x.a, .int .i64 x.b, .int .i64 x.c, .int .i64 x.n, .int .i64 x.cl, .int .i64 x.ga, .string x.w.sh, .int .i64 x.w.a, .int .i64 x.w.b, .int .i64 x.w.at_, .int .i64 x.w.soft], .int .i64 X, .int .i64 Y, .int .i64 c] w fun r w' => r = .returned (.int .i64 x.n) ∧ Below w.heap.size w w' := by
  refine i7 n9 Tryz.func239 rfl Tryz.ntmps239 (Nat.le_of_ble_eq_true rfl) rfl ?_
  repeat' (first
|(refine j7 ?_; first
|refine e8 ?_
|refine a6 rfl ?_
|refine j1 ?_
|refine j3 ?_
|refine i6 ?_
|(refine j0 rfl obQ ?_ ?_ <;> intro h <;> (try simp only [cdS] at h)))
|refine e7 ?_
|refine e9 rfl rfl obQ obQ ?_
|refine k7 (fun b => ⟨_, _, rfl, obQ, ?_⟩)
|refine a7 ?_
|refine j6 ?_
|refine j4 rfl obQ (fun w hw => ⟨?_, hw.below⟩))
  rfl
theorem bs1 (x : Nod) (hx : WpOk x.w) (X Y c : Int) (hX : 0 ≤ X ∧ X ≤ 64) (hY : 0 ≤ Y ∧ Y ≤ 64) (w : World) (hsh : Sh w) : Calls Tryz.prog 242 #[.agg #[.string x.kd, .int .i64 x.a, .int .i64 x.b, .int .i64 x.c, .int .i64 x.n, .int .i64 x.cl, .int .i64 x.ga, .string x.w.sh, .int .i64 x.w.a, .int .i64 x.w.b, .int .i64 x.w.at_, .int .i64 x.w.soft], .int .i64 X, .int .i64 Y, .int .i64 c] w fun r w' => r = .returned (.int .i64 (wsF x.w X Y)) ∧ Below w.heap.size w w' := by
  refine i7 n9 Tryz.func242 rfl Tryz.ntmps242 (Nat.le_of_ble_eq_true rfl) rfl ?_
  repeat' (first
|refine e8 ?_
|refine a6 rfl ?_
|refine i6 ?_
|(refine k6 ?_; first
|refine e7 ?_
|refine e9 rfl rfl obQ obQ ?_
|refine k7 (fun b => ⟨_, _, rfl, obQ, ?_⟩)
|refine a8 (f := 180) rfl obQ (by kernel_rfl) (fun w hw => aj7 x.w hx X Y hX hY w (r7 hsh hw memQ)) ?_)
|refine a7 ?_
|refine j4 rfl obQ (fun w hw => ⟨?_, hw.below⟩))
  rfl
theorem bs2 (x : Nod) (hs : SlOk x.cl x.ga) (X Y c : Int) (hc : -131072 ≤ c ∧ c ≤ 131072) (w : World) : Calls Tryz.prog 246 #[.agg #[.string x.kd, .int .i64 x.a, .int .i64 x.b, .int .i64 x.c, .int .i64 x.n, .int .i64 x.cl, .int .i64 x.ga, .string x.w.sh, .int .i64 x.w.a, .int .i64 x.w.b, .int .i64 x.w.at_, .int .i64 x.w.soft], .int .i64 X, .int .i64 Y, .int .i64 c] w fun r w' => r = .returned (.int .i64 (shF x.cl x.ga c)) ∧ Below w.heap.size w w' := by
  refine i7 n9 Tryz.func246 rfl Tryz.ntmps246 (Nat.le_of_ble_eq_true rfl) rfl ?_
  repeat' (first
|refine e8 ?_
|refine a6 rfl ?_
|refine i6 ?_
|(refine k6 ?_; first
|refine e7 ?_
|refine e9 rfl rfl obQ obQ ?_
|refine k7 (fun b => ⟨_, _, rfl, obQ, ?_⟩)
|refine a8 (f := 131) rfl obQ (by kernel_rfl) (fun w hw => aa4 x.cl x.ga c hs hc w) ?_)
|refine a7 ?_
|refine j4 rfl obQ (fun w hw => ⟨?_, hw.below⟩))
  rfl
theorem P5 (A : Option Addr) (c n : Nat) (l : List Int) (hn : l.length = n) (hl : n ≤ 1000000) (hA : A = none → n = 0 ∧ c = 0) (w : World) (hr : Rd w A (l.map (.int .i64))) : Calls Tryz.prog 200 #[.slice A n c] w fun r w' => ∃ v, r = .returned v ∧ Below w.heap.size w w' ∧ Sl w w' v n (l.map (.int .i64)) := by
  refine i7 n9 Tryz.func200 rfl Tryz.ntmps200 (Nat.le_of_ble_eq_true rfl) rfl ?_
  subst hn
  cases A with
  | none =>
    obtain ⟨h1, h2⟩ := hA rfl
    obtain rfl := List.eq_nil_of_length_eq_zero h1
    repeat' (first
|(refine j7 ?_; first
|refine o5 rfl obQ ?_
|refine e8 ?_
|refine a6 rfl ?_
|refine i6 ?_)
|refine j8 (k9 rfl obQ (fun w => ac5 rfl rfl _ _ _ _ _ _ _ w)) ?_
|refine e7 ?_
|refine e9 rfl rfl obQ obQ ?_
|refine a7 ?_
|refine j6 ?_
|refine j4 rfl obQ (fun w2 hw => ⟨_, rfl, hw.below, Sl.nil_ _ _⟩))
  | some ad =>
    repeat' (first
|(refine j7 ?_; first
|refine n7 rfl obQ ?_
|refine e8 ?_
|refine a6 rfl ?_
|refine j3 ?_
|refine i6 ?_)
|(refine k6 ?_; first
|refine j8 (k9 rfl obQ (fun w => ac5 rfl rfl _ _ _ _ _ _ _ w)) ?_
|refine an8 rfl rfl rfl (fun g => ?_)
|refine C4 rfl obQ rfl rfl rfl ⟨by decide, rfl⟩ rfl ⟨rfl, rfl, rfl, rfl⟩ (l.map (.int .i64)) (by simp) (fun h => by cases h) (aQ7 _) (srcM hr memQ) (by unfold maxLen; dsimp only; omega) (fun A' cap' => ⟨_, rfl, ?_⟩)
|refine e7 ?_
|refine e9 rfl rfl obQ obQ ?_)
|refine a7 ?_
|refine j4 rfl obQ (fun w2 hw => ⟨_, rfl, hw.below, HW.rowSl (i := 0) hw rfl rfl (by simp) (by simp)⟩))
theorem B6 (x : Nod) (k : Kd) (hk : kdOf x.kd = some k) (w : World) : Calls Tryz.prog 137 #[.agg #[.string x.kd, .int .i64 x.a, .int .i64 x.b, .int .i64 x.c, .int .i64 x.n, .int .i64 x.cl, .int .i64 x.ga, .string x.w.sh, .int .i64 x.w.a, .int .i64 x.w.b, .int .i64 x.w.at_, .int .i64 x.w.soft]] w fun r w' => ∃ v, r = .returned v ∧ Below w.heap.size w w' ∧ Sl w w' v (insF k x).length ((insF k x).map (.int .i64)) := by
  refine i7 n9 Tryz.func137 rfl Tryz.ntmps137 (Nat.le_of_ble_eq_true rfl) rfl ?_
  cases k with
  | src =>
    repeat' (first
|(refine j7 ?_; first
|refine e8 ?_
|refine a6 rfl ?_
|refine i6 ?_
|refine n8 (id := 2) 3 [(1, true), (2, true), (0, false)] rfl mixed (by kernel_rfl) rfl ?_)
|(refine k6 ?_; first
|(refine j5 (f := 188) rfl obQ (by kernel_rfl) (fun w hw => z1 w) (fun w1K w2K vK hw1K hbK hRK => ?_); obtain ⟨kK, rfl, hkK, hMK⟩ := hRK)
|refine j8 (y6 (W := w2K) (S := fun b => w1K.heap.size ≤ b ∧ b < w2K.heap.size) (es := kdM) (z := zK) (r := .agg #[.int .i64 0, Value.func (.func 233) #[] #[], Value.func (.func 236) #[] #[], .nilFunc, Value.func (.func 234) #[] #[], Value.func (.func 235) #[] #[]]) rfl obQ Tryz.underlying238 Tryz.underlying9 z7 memQ ⟨hkK, y9 hMK⟩ hMK (.inl (A4 hk))) ?_
|refine j8 (r4 rfl obQ (fun w => B9 Tryz.underlying245 (by kernel_rfl) _ _ _ 0 rfl (by decide) w)) ?_
|(refine j5 (f := 200) rfl obQ (by kernel_rfl) (fun w hw => P5 _ 3 0 [] rfl (by decide) (fun h => by cases h) w (.inl rfl)) (fun w1C w2C vC hw1C hbC hRC => ?_); obtain ⟨AC, cC, rfl, hSC⟩ := hRC)
|refine e7 ?_
|refine e9 rfl rfl obQ obQ ?_
|refine k7 (fun bb => ⟨_, _, rfl, obQ, ?_⟩))
|refine r5 ?_
|refine V_q rfl (k8 rfl obQ) ?_
|refine V_n rfl ?_
|refine G_V ⟨⟨_, rfl, trivial⟩, ⟨_, rfl⟩, rfl, pstQ⟩ rfl ?_
|refine a7 ?_
|refine j4 rfl obQ (fun w2 hw => ⟨_, rfl, hw.below, HW.callSl hw hSC memQ hw1C.bsize⟩))
  | mat =>
    repeat' (first
|(refine j7 ?_; first
|refine e8 ?_
|refine a6 rfl ?_
|refine i6 ?_
|refine n8 (id := 2) 3 [(1, true), (2, true), (0, false)] rfl mixed (by kernel_rfl) rfl ?_)
|(refine k6 ?_; first
|(refine j5 (f := 188) rfl obQ (by kernel_rfl) (fun w hw => z1 w) (fun w1K w2K vK hw1K hbK hRK => ?_); obtain ⟨kK, rfl, hkK, hMK⟩ := hRK)
|refine j8 (y6 (W := w2K) (S := fun b => w1K.heap.size ≤ b ∧ b < w2K.heap.size) (es := kdM) (z := zK) (r := .agg #[.int .i64 0, Value.func (.func 233) #[] #[], Value.func (.func 237) #[] #[], .nilFunc, Value.func (.func 234) #[] #[], Value.func (.func 235) #[] #[]]) rfl obQ Tryz.underlying238 Tryz.underlying9 z7 memQ ⟨hkK, y9 hMK⟩ hMK (.inl (A4 hk))) ?_
|refine j8 (r4 rfl obQ (fun w => B9 Tryz.underlying245 (by kernel_rfl) _ _ _ 0 rfl (by decide) w)) ?_
|(refine j5 (f := 200) rfl obQ (by kernel_rfl) (fun w hw => P5 _ 3 0 [] rfl (by decide) (fun h => by cases h) w (.inl rfl)) (fun w1C w2C vC hw1C hbC hRC => ?_); obtain ⟨AC, cC, rfl, hSC⟩ := hRC)
|refine e7 ?_
|refine e9 rfl rfl obQ obQ ?_
|refine k7 (fun bb => ⟨_, _, rfl, obQ, ?_⟩))
|refine r5 ?_
|refine V_q rfl (k8 rfl obQ) ?_
|refine V_n rfl ?_
|refine G_V ⟨⟨_, rfl, trivial⟩, ⟨_, rfl⟩, rfl, pstQ⟩ rfl ?_
|refine a7 ?_
|refine j4 rfl obQ (fun w2 hw => ⟨_, rfl, hw.below, HW.callSl hw hSC memQ hw1C.bsize⟩))
  | mix =>
    repeat' (first
|(refine j7 ?_; first
|refine e8 ?_
|refine a6 rfl ?_
|refine i6 ?_
|refine n8 (id := 2) 3 [(1, true), (2, true), (0, false)] rfl mixed (by kernel_rfl) rfl ?_)
|(refine k6 ?_; first
|(refine j5 (f := 188) rfl obQ (by kernel_rfl) (fun w hw => z1 w) (fun w1K w2K vK hw1K hbK hRK => ?_); obtain ⟨kK, rfl, hkK, hMK⟩ := hRK)
|refine j8 (y6 (W := w2K) (S := fun b => w1K.heap.size ≤ b ∧ b < w2K.heap.size) (es := kdM) (z := zK) (r := .agg #[.int .i64 2, Value.func (.func 233) #[] #[], Value.func (.func 238) #[] #[], Value.func (.func 239) #[] #[], Value.func (.func 234) #[] #[], Value.func (.func 235) #[] #[]]) rfl obQ Tryz.underlying238 Tryz.underlying9 z7 memQ ⟨hkK, y9 hMK⟩ hMK (.inl (A4 hk))) ?_
|refine j8 (r4 rfl obQ (fun w => B9 Tryz.underlying245 (by kernel_rfl) _ _ _ 2 rfl (by decide) w)) ?_
|(refine j5 (f := 200) rfl obQ (by kernel_rfl) (fun w hw => P5 _ 3 2 [x.a, x.b] rfl (by decide) (fun h => by cases h) w (ar2 (ys := [.int .i64 x.c]) (hw.rdBox (i := 1) rfl rfl))) (fun w1C w2C vC hw1C hbC hRC => ?_); obtain ⟨AC, cC, rfl, hSC⟩ := hRC)
|refine e7 ?_
|refine e9 rfl rfl obQ obQ ?_
|refine k7 (fun bb => ⟨_, _, rfl, obQ, ?_⟩))
|refine r5 ?_
|refine V_q rfl (k8 rfl obQ) ?_
|refine V_n rfl ?_
|refine G_V ⟨⟨_, rfl, trivial⟩, ⟨_, rfl⟩, rfl, pstQ⟩ rfl ?_
|refine a7 ?_
|refine j4 rfl obQ (fun w2 hw => ⟨_, rfl, hw.below, HW.callSl hw hSC memQ hw1C.bsize⟩))
  | wip =>
    repeat' (first
|(refine j7 ?_; first
|refine e8 ?_
|refine a6 rfl ?_
|refine i6 ?_
|refine n8 (id := 2) 3 [(1, true), (2, true), (0, false)] rfl mixed (by kernel_rfl) rfl ?_)
|(refine k6 ?_; first
|(refine j5 (f := 188) rfl obQ (by kernel_rfl) (fun w hw => z1 w) (fun w1K w2K vK hw1K hbK hRK => ?_); obtain ⟨kK, rfl, hkK, hMK⟩ := hRK)
|refine j8 (y6 (W := w2K) (S := fun b => w1K.heap.size ≤ b ∧ b < w2K.heap.size) (es := kdM) (z := zK) (r := .agg #[.int .i64 2, Value.func (.func 240) #[] #[], Value.func (.func 241) #[] #[], Value.func (.func 242) #[] #[], .nilFunc, Value.func (.func 243) #[] #[]]) rfl obQ Tryz.underlying238 Tryz.underlying9 z7 memQ ⟨hkK, y9 hMK⟩ hMK (.inl (A4 hk))) ?_
|refine j8 (r4 rfl obQ (fun w => B9 Tryz.underlying245 (by kernel_rfl) _ _ _ 2 rfl (by decide) w)) ?_
|(refine j5 (f := 200) rfl obQ (by kernel_rfl) (fun w hw => P5 _ 3 2 [x.a, x.b] rfl (by decide) (fun h => by cases h) w (ar2 (ys := [.int .i64 x.c]) (hw.rdBox (i := 1) rfl rfl))) (fun w1C w2C vC hw1C hbC hRC => ?_); obtain ⟨AC, cC, rfl, hSC⟩ := hRC)
|refine e7 ?_
|refine e9 rfl rfl obQ obQ ?_
|refine k7 (fun bb => ⟨_, _, rfl, obQ, ?_⟩))
|refine r5 ?_
|refine V_q rfl (k8 rfl obQ) ?_
|refine V_n rfl ?_
|refine G_V ⟨⟨_, rfl, trivial⟩, ⟨_, rfl⟩, rfl, pstQ⟩ rfl ?_
|refine a7 ?_
|refine j4 rfl obQ (fun w2 hw => ⟨_, rfl, hw.below, HW.callSl hw hSC memQ hw1C.bsize⟩))
  | key =>
    repeat' (first
|(refine j7 ?_; first
|refine e8 ?_
|refine a6 rfl ?_
|refine i6 ?_
|refine n8 (id := 2) 3 [(1, true), (2, true), (0, false)] rfl mixed (by kernel_rfl) rfl ?_)
|(refine k6 ?_; first
|(refine j5 (f := 188) rfl obQ (by kernel_rfl) (fun w hw => z1 w) (fun w1K w2K vK hw1K hbK hRK => ?_); obtain ⟨kK, rfl, hkK, hMK⟩ := hRK)
|refine j8 (y6 (W := w2K) (S := fun b => w1K.heap.size ≤ b ∧ b < w2K.heap.size) (es := kdM) (z := zK) (r := .agg #[.int .i64 3, Value.func (.func 244) #[] #[], Value.func (.func 245) #[] #[], Value.func (.func 246) #[] #[], Value.func (.func 247) #[] #[], Value.func (.func 248) #[] #[]]) rfl obQ Tryz.underlying238 Tryz.underlying9 z7 memQ ⟨hkK, y9 hMK⟩ hMK (.inl (A4 hk))) ?_
|refine j8 (r4 rfl obQ (fun w => B9 Tryz.underlying245 (by kernel_rfl) _ _ _ 3 rfl (by decide) w)) ?_
|(refine j5 (f := 200) rfl obQ (by kernel_rfl) (fun w hw => P5 _ 3 3 [x.a, x.b, x.c] rfl (by decide) (fun h => by cases h) w (ar2 (ys := []) (hw.rdBox (i := 1) rfl rfl))) (fun w1C w2C vC hw1C hbC hRC => ?_); obtain ⟨AC, cC, rfl, hSC⟩ := hRC)
|refine e7 ?_
|refine e9 rfl rfl obQ obQ ?_
|refine k7 (fun bb => ⟨_, _, rfl, obQ, ?_⟩))
|refine r5 ?_
|refine V_q rfl (k8 rfl obQ) ?_
|refine V_n rfl ?_
|refine G_V ⟨⟨_, rfl, trivial⟩, ⟨_, rfl⟩, rfl, pstQ⟩ rfl ?_
|refine a7 ?_
|refine j4 rfl obQ (fun w2 hw => ⟨_, rfl, hw.below, HW.callSl hw hSC memQ hw1C.bsize⟩))
end Go.Proofs.YtjkgklhjbopoaaaGreatDoor
