/- Numerals, and strings joined; the text of a curve: the program. -/
import Derived.Test.YtdbffbcobghbeaaGreatDoorColour24
import Derived.Test.YtdbffbcobghbeaaGreatDoorEng4
import Derived.Test.YtdbffbcobghbeaaGreatDoorRows
import Derived.Test.YtdbffbcobghbeaaGreatDoorShelf
import Derived.Lib.AppendIntMem
import Derived.Lib.ItoaLen
import Derived.Lib.Join
import Derived.Laws.Concat
namespace Go.Proofs.YtdbffbcobghbeaaGreatDoor
open Go.E Go.RowKit Go.Fl
attribute [local irreducible] G C S D Calls
set_option maxRecDepth 100000
set_option linter.unusedSimpArgs false
set_option linter.unusedVariables false

/-- The table of powers, as it was laid. -/
def Pw (w : World) : Prop := Lib.TabIs Tryz.prog w powName .u64 Lib.pow10Tab
def itB (n : Int) : ByteArray := ⟨(Lib.itoa n).toArray⟩
def joinB (xs : List ByteArray) (sep : ByteArray) : ByteArray := ⟨(Lib.join (xs.map (·.data.toList)) sep.data.toList).toArray⟩
def sSp : ByteArray := ⟨#[32]⟩
def sNl : ByteArray := ⟨#[10]⟩
theorem itoa_c (n : Int) (h0 : -9223372036854775808 ≤ n) (h1 : n ≤ 9223372036854775807) (w : World) (hp : Pw w) : Calls Tryz.prog 199 #[.int .i64 n] w fun r w' => r = .returned (.string (itB n)) ∧ Below w.heap.size w w' :=
  (Tryz.strconv_Itoa n h0 h1 w hp).mono fun e w' ⟨he, k, os, hw⟩ => ⟨he, hw ▸ Lib.below_grow _ _ (Nat.le_refl _) _ _⟩
theorem join_c (ad : Addr) (c : Nat) (xs : List ByteArray) (sep : ByteArray) (w : World) (hs : ad.spot = none) (h0 : 0 < xs.length) (hr : Rd w (some ad) (xs.map .string)) (hN : xs.length ≤ 1000000) (hc : xs.length ≤ c) (hl : (joinB xs sep).size ≤ 140737488355328) :
    Calls Tryz.prog 162 #[.slice (some ad) xs.length c, .string sep] w fun r w' => r = .returned (.string (joinB xs sep)) ∧ Below w.heap.size w w' := by
  obtain ⟨bk, o, s⟩ := ad
  simp only at hs
  subst hs
  rcases hr with hr | ⟨ad', e, h⟩
  · have : xs.length = 0 := by simpa using congrArg List.length hr
    omega
  · cases e
    have hcell : ∀ (j : Nat) (x : ByteArray), xs[j]? = some x → w.cell? ⟨bk, o + j, none⟩ = some (.string x) := fun j x hx => by
      have := h j (.string x) (by simp [hx])
      rwa [Addr.add_mid] at this
    have hx0 : xs[0]? = some xs[0] := List.getElem?_eq_getElem h0
    exact Tryz.strings_Join bk o c xs sep w hcell (cell_lt (hcell 0 _ hx0)) (by omega) hc (by simpa [joinB, ByteArray.size] using hl)
/-- strings.Join of a row of the walk's own. -/
theorem joinR_c {w : World} {B e c n : Nat} {A : Option Addr} {xs : List ByteArray} (sep : ByteArray) (h : w.ownsRow B e 1 (.slice A n c) n (xs.map .string)) (hn : xs.length = n) (h0 : 0 < n) (hN : n ≤ 1000000) (hl : (joinB xs sep).size ≤ 140737488355328) :
    Calls Tryz.prog 162 #[.slice A n c, .string sep] w fun r w' => r = .returned (.string (joinB xs sep)) ∧ Below w.heap.size w w' := by
  subst hn
  rcases h.2 with ⟨_, h2⟩ | ⟨g, cap, cur, h2, _, hg, h4, h5, h6, h7⟩
  · omega
  · injection h2 with e1 e2 e3
    subst e1; subst e3
    refine join_c ⟨g, 0, none⟩ c xs sep w rfl h0 (.inr ⟨_, rfl, h.cells (g := g) rfl⟩) hN h4 hl
theorem joinW_c {w : World} {B e c : Nat} {A : Option Addr} {wd : ByteArray} {l : List Int} (sep : ByteArray) (h : w.ownsRow B e 1 (.slice A (1 + l.length) c) (1 + l.length) (([.string wd] : List Value) ++ l.map fun x => .string (itB x))) (hN : 1 + l.length ≤ 1000000) (hl : (joinB (wd :: l.map itB) sep).size ≤ 140737488355328) :
    Calls Tryz.prog 162 #[.slice A (1 + l.length) c, .string sep] w fun r w' => r = .returned (.string (joinB (wd :: l.map itB) sep)) ∧ Below w.heap.size w w' :=
  joinR_c (xs := wd :: l.map itB) sep (by simpa [Function.comp_def] using h) (by rw [List.length_cons, List.length_map]; omega) (by omega) hN hl
theorem gPow : Tryz.prog.globalNamed powName = some 3 := by kernel_rfl
theorem Pw_eq {w w' : World} (h : Pw w) (he : ∀ b, b < w.heap.size → w'.heap[b]? = w.heap[b]?) : Pw w' := by
  have hg := gPow
  unfold Pw Lib.TabIs at h ⊢
  simp only [World.var?, hg, Option.bind_some] at h ⊢
  cases ho : w.heap[3]? with
  | none => simp [ho] at h
  | some o =>
    have hlt : 3 < w.heap.size := (Array.getElem?_eq_some_iff.1 ho).1
    rw [he 3 hlt]
    exact h
theorem Pw_at {w0 w : World} {Ps : Past} {σ : St} {B : Nat} (h : Pw w0) (hw : HW B w0 Ps σ w) (hp : (w0, fun b => b < w0.heap.size) ∈ Ps) : Pw w := Pw_eq h fun b hb => (hw.past _ hp b hb).1.2
theorem Pw_below {w w' : World} (h : Pw w) (hb : Below w.heap.size w w') : Pw w' := Pw_eq h fun b hlt => hb.block b hlt
theorem cat_str {P : Program} (t : TypeId) (x y : Operand) (a b : ByteArray) (h : a.size + b.size ≤ 9223372036854775807) (w : World) : (do eqGuard .add t x y (.string a) (.string b); binOp .add t (.string a) (.string b) : Sem Value).run P w = .ok (.string (a ++ b)) w := by
  simp [eqGuard_string, binOp, run_string_add_sum w a b h]
theorem lens_le {m : Nat} : ∀ (l : List (List UInt8)), (∀ x ∈ l, x.length ≤ m) → Lib.lens l ≤ l.length * m
  | [], _ => by rw [show Lib.lens [] = 0 from rfl]; exact Nat.zero_le _
  | x :: r, h => by
    have h1 := lens_le r fun y hy => h y (by simp [hy])
    have h2 := h x (by simp)
    unfold Lib.lens at h1 ⊢
    rw [List.map_cons, List.sum_cons, List.length_cons, Nat.add_mul, Nat.one_mul]
    omega
theorem joinB_size {m : Nat} (xs : List ByteArray) (sep : ByteArray) (h : ∀ x ∈ xs, x.size ≤ m) : (joinB xs sep).size ≤ xs.length * (m + sep.size) := by
  cases xs with
  | nil => exact Nat.zero_le _
  | cons x r =>
    have e : (joinB (x :: r) sep).size = (Lib.join ((x :: r).map (·.data.toList)) sep.data.toList).length := by show (List.toArray _).size = _; rw [List.size_toArray]
    rw [e, List.map_cons, Lib.join_length]
    have h1 := lens_le (m := m) ((x :: r).map (·.data.toList)) (fun y hy => by
      obtain ⟨z, hz, rfl⟩ := List.mem_map.1 hy
      have := h z hz
      rw [Array.length_toList]
      exact this)
    rw [List.map_cons] at h1
    rw [List.length_cons, List.length_map] at h1
    rw [List.length_cons, List.length_map, Array.length_toList]
    have h2 : sep.data.size = sep.size := rfl
    have h3 : sep.data.size * r.length ≤ (r.length + 1) * sep.size := by rw [Nat.mul_comm, h2]; exact Nat.mul_le_mul_right _ (by omega)
    rw [Nat.mul_add]
    omega
theorem itB_size (n : Int) (h0 : -9223372036854775808 ≤ n) (h1 : n ≤ 9223372036854775807) : (itB n).size ≤ 21 := by
  have := Lib.itoa_length_le n h0 h1
  simpa [itB, ByteArray.size] using this
theorem cat_size (a b : ByteArray) : (a ++ b).size = a.size + b.size := ByteArray.size_append
/-- A line of a word and integers. -/
def lineB (wd : ByteArray) (l : List Int) : ByteArray := joinB (wd :: l.map itB) sSp ++ sNl
theorem line_size {wd : ByteArray} {l : List Int} (hw : wd.size ≤ 21) (hl : ∀ x ∈ l, -9223372036854775808 ≤ x ∧ x ≤ 9223372036854775807) : (joinB (wd :: l.map itB) sSp).size ≤ (l.length + 1) * 22 := by
  have h := joinB_size (m := 21) (wd :: l.map itB) sSp (fun x hx => by
    rcases List.mem_cons.1 hx with rfl | hx
    · exact hw
    · obtain ⟨n, hn, rfl⟩ := List.mem_map.1 hx
      exact itB_size n (hl n hn).1 (hl n hn).2)
  have e : sSp.size = 1 := rfl
  rw [List.length_cons, List.length_map, e] at h
  exact h
def sCurve : ByteArray := ⟨#[99, 117, 114, 118, 101]⟩
def sPoint : ByteArray := ⟨#[112, 111, 105, 110, 116]⟩
def ptT (p : Pt) : ByteArray := lineB sPoint [p.1, p.2]
/-- The text of a curve and the error. -/
def prF (l : List Pt) : ByteArray := lineB sCurve [(l.length : Int)] ++ joinB (l.map ptT) ByteArray.empty
def prR (l : List Pt) : ByteArray × Int := if curveE l = 0 then (prF l, 0) else (ByteArray.empty, curveE l)
set_option maxHeartbeats 400000 in
/-- colour.mapped[int,string] -/
theorem mappedIS_c (q : FuncId) {g : Int → ByteArray} (A : Option Addr) (c : Nat) (l : List (Int)) (hl : l.length ≤ 1000000) (he : entB Tryz.prog q = true) (w : World) (hr : Rd w A (l.map fun x => Value.int .i64 x)) (hg : ∀ x ∈ l, ∀ W, Below w.heap.size w W → Calls Tryz.prog q #[Value.int .i64 x] W fun e w' => e = .returned (Value.string (g x)) ∧ Below W.heap.size W w') : Calls Tryz.prog 198 #[.slice A l.length c, .func (.func q) #[] #[]] w fun r w' => ∃ v, r = .returned v ∧ Below w.heap.size w w' ∧ w'.ownsRow w.heap.size 9 1 v l.length (l.map fun x => Value.string (g x)) := by
  refine calls_of (args := [.slice A l.length c, .func (.func q) #[] #[]]) T_ok Tryz.func198 rfl Tryz.ntmps198 (Nat.le_of_ble_eq_true rfl) rfl ?_
  repeat' (first
 | (refine C_id ?_; first
 | refine C_seq ?_
 | refine C_region rfl ?_
 | refine C_block ?_
 )
 | (refine S_id ?_; first
 | refine S_nil ?_
 | refine S_run rfl rfl obQ obQ ?_
 )
 | (refine G_id ?_; first
 | refine G_then ?_
 )
 )
  refine C_row0 5 9 1 rfl ?_
  refine C_loopS (fun i : Nat × Option Addr × Nat => ⟨[(5, .s (.r i.2.1 i.1 i.2.2 0)), (8, .s (.v (.slice A l.length c))), (9, .s (.v (.int .i64 l.length))), (10, .s (.v (.int .i64 i.1))), (1, .s (.v (.func (.func q) #[] #[])))], [], [⟨9, 1, i.1, (l.take i.1).map fun x => Value.string (g x), .slice i.2.1 i.1 i.2.2⟩]⟩) (fun i => i.1 ≤ l.length) (fun i => l.length - i.1) (0, none, 0) (Nat.zero_le _) ?_ (fun i hi => ?_)
  · exact ⟨⟨_, rfl, obQ⟩, ⟨_, rfl⟩, rfl, pstQ⟩
  obtain ⟨k, A', c'⟩ := i
  have hi' : k ≤ l.length := hi
  dsimp only
  by_cases hlt : k < l.length
  · obtain ⟨ad, rfl⟩ := hr.some (by simp; omega)
    have hmt := map_take_succ (f := fun x => Value.string (g x)) hlt
    repeat' (first
 | (refine C_id ?_; first
 | refine C_seq ?_
 | refine C_region rfl ?_
 | refine C_block ?_
 | refine C_skip ?_
 | (refine C_cond rfl obQ (fun h => ?_) (fun h => ?_) <;> (try simp only [Bool.or_eq_true, Bool.and_eq_true, Bool.or_eq_false_iff, Bool.and_eq_false_iff, decide_eq_true_eq, decide_eq_false_iff_not, beq_iff_eq, bne_iff_ne, beq_eq_false_iff_ne, bne_eq_false_iff_eq, ne_eq, Decidable.not_not, List.cons.injEq, and_true, Bool.not_eq_true', Bool.not_eq_false', Int.not_lt, Int.not_le] at h) <;> (try (exfalso; omega)))
     )
 | (refine S_id ?_; first
 | refine S_load rfl obQ rfl [Value.int .i64 l[k]] (.past _ memQ _ _ hr.toS _ _ rfl rfl (idx1 (f := fun x => Value.int .i64 x) hlt)) rfl (.inr ⟨rfl, rfl⟩) ?_
 | refine S_call rfl obQ he (fun W hW => hg l[k] (List.getElem_mem hlt) W hW.below) ?_
 | refine S_append rfl obQ rfl rfl rfl ⟨by decide, rfl⟩ rfl ⟨rfl, rfl, rfl, rfl⟩ [Value.string (g l[k])] ⟨by decide, rfl⟩ (by simp [Value.oneCell']) (fun w hw => by first | exact hw.src (i := 0) rfl rfl | exact hw.src (i := 1) rfl rfl | exact hw.src (i := 2) rfl rfl | exact hw.src (i := 3) rfl rfl | exact hw.src (i := 4) rfl rfl | exact hw.src (i := 5) rfl rfl | exact hw.src (i := 6) rfl rfl | exact hw.src (i := 7) rfl rfl | exact hw.src (i := 8) rfl rfl) (by unfold maxLen; dsimp only; omega) (fun gb cap' => ⟨_, rfl, ?_⟩)
 | refine S_nil ?_
 | refine S_run rfl rfl obQ obQ ?_
 | refine S_slice (fun b => ⟨_, _, rfl, obQ, ?_⟩)
     )
 | (refine G_id ?_; first
 | refine G_loop (k + 1, some ⟨gb, 0, none⟩, cap') (by show k + 1 ≤ _; omega) (by show l.length - (k + 1) < l.length - k; omega) ⟨⟨_, rfl, obQ⟩, ⟨_, rfl⟩, (by dsimp only; rw [hmt]), pstQ⟩
 | refine G_then ?_
 | refine G_block ?_
     )
     )
  · obtain rfl : k = l.length := by omega
    repeat' (first
 | (refine C_id ?_; first
 | refine C_seq ?_
 | refine C_region rfl ?_
 | refine C_exit ?_
 | refine C_ret0 ?_
 | (refine C_cond rfl obQ (fun h => ?_) (fun h => ?_) <;> (try simp only [Bool.or_eq_true, Bool.and_eq_true, Bool.or_eq_false_iff, Bool.and_eq_false_iff, decide_eq_true_eq, decide_eq_false_iff_not, beq_iff_eq, bne_iff_ne, beq_eq_false_iff_ne, bne_eq_false_iff_eq, ne_eq, Decidable.not_not, List.cons.injEq, and_true, Bool.not_eq_true', Bool.not_eq_false', Int.not_lt, Int.not_le] at h) <;> (try (exfalso; omega)))
     )
 | (refine S_id ?_; first
 | refine S_nil ?_
 | refine S_run rfl rfl obQ obQ ?_
     )
 | (refine G_id ?_; first
 | refine G_then ?_
 | refine G_blockX ?_
 | refine G_thenX ?_
 | refine G_ret rfl obQ (fun w2 hw => ⟨_, rfl, hw.below, HW.ownRow (i := 0) hw rfl rfl rfl (by rw [List.take_length])⟩)
     )
     )

set_option maxHeartbeats 400000 in
/-- colour.mapped[genlock/colour.Point,string] -/
theorem mappedPS_c (q : FuncId) {g : Pt → ByteArray} (A : Option Addr) (c : Nat) (l : List (Pt)) (hl : l.length ≤ 1000000) (he : entB Tryz.prog q = true) (w : World) (hr : Rd w A (l.flatMap fun x => [Value.int .i64 x.1, Value.int .i64 x.2])) (hg : ∀ x ∈ l, ∀ W, Below w.heap.size w W → Calls Tryz.prog q #[Value.agg #[Value.int .i64 x.1, Value.int .i64 x.2]] W fun e w' => e = .returned (Value.string (g x)) ∧ Below W.heap.size W w') : Calls Tryz.prog 163 #[.slice A l.length c, .func (.func q) #[] #[]] w fun r w' => ∃ v, r = .returned v ∧ Below w.heap.size w w' ∧ w'.ownsRow w.heap.size 9 1 v l.length (l.map fun x => Value.string (g x)) := by
  refine calls_of (args := [.slice A l.length c, .func (.func q) #[] #[]]) T_ok Tryz.func163 rfl Tryz.ntmps163 (Nat.le_of_ble_eq_true rfl) rfl ?_
  repeat' (first
 | (refine C_id ?_; first
 | refine C_seq ?_
 | refine C_region rfl ?_
 | refine C_block ?_
 )
 | (refine S_id ?_; first
 | refine S_nil ?_
 | refine S_run rfl rfl obQ obQ ?_
 )
 | (refine G_id ?_; first
 | refine G_then ?_
 )
 )
  refine C_row0 5 9 1 rfl ?_
  refine C_loopS (fun i : Nat × Option Addr × Nat => ⟨[(5, .s (.r i.2.1 i.1 i.2.2 0)), (8, .s (.v (.slice A l.length c))), (9, .s (.v (.int .i64 l.length))), (10, .s (.v (.int .i64 i.1))), (1, .s (.v (.func (.func q) #[] #[])))], [], [⟨9, 1, i.1, (l.take i.1).map fun x => Value.string (g x), .slice i.2.1 i.1 i.2.2⟩]⟩) (fun i => i.1 ≤ l.length) (fun i => l.length - i.1) (0, none, 0) (Nat.zero_le _) ?_ (fun i hi => ?_)
  · exact ⟨⟨_, rfl, obQ⟩, ⟨_, rfl⟩, rfl, pstQ⟩
  obtain ⟨k, A', c'⟩ := i
  have hi' : k ≤ l.length := hi
  dsimp only
  by_cases hlt : k < l.length
  · obtain ⟨ad, rfl⟩ := hr.some (by simp [flat_len (s := 2)]; omega)
    have hmt := map_take_succ (f := fun x => Value.string (g x)) hlt
    repeat' (first
 | (refine C_id ?_; first
 | refine C_seq ?_
 | refine C_region rfl ?_
 | refine C_block ?_
 | refine C_skip ?_
 | (refine C_cond rfl obQ (fun h => ?_) (fun h => ?_) <;> (try simp only [Bool.or_eq_true, Bool.and_eq_true, Bool.or_eq_false_iff, Bool.and_eq_false_iff, decide_eq_true_eq, decide_eq_false_iff_not, beq_iff_eq, bne_iff_ne, beq_eq_false_iff_ne, bne_eq_false_iff_eq, ne_eq, Decidable.not_not, List.cons.injEq, and_true, Bool.not_eq_true', Bool.not_eq_false', Int.not_lt, Int.not_le] at h) <;> (try (exfalso; omega)))
     )
 | (refine S_id ?_; first
 | refine S_load rfl obQ rfl [Value.int .i64 l[k].1, Value.int .i64 l[k].2] (.past _ memQ _ _ hr.toS _ _ rfl rfl (idxS (f := fun x => [Value.int .i64 x.1, Value.int .i64 x.2]) (fun _ => rfl) hlt)) rfl (.inl ⟨rfl, rfl⟩) ?_
 | refine S_call rfl obQ he (fun W hW => hg l[k] (List.getElem_mem hlt) W hW.below) ?_
 | refine S_append rfl obQ rfl rfl rfl ⟨by decide, rfl⟩ rfl ⟨rfl, rfl, rfl, rfl⟩ [Value.string (g l[k])] ⟨by decide, rfl⟩ (by simp [Value.oneCell']) (fun w hw => by first | exact hw.src (i := 0) rfl rfl | exact hw.src (i := 1) rfl rfl | exact hw.src (i := 2) rfl rfl | exact hw.src (i := 3) rfl rfl | exact hw.src (i := 4) rfl rfl | exact hw.src (i := 5) rfl rfl | exact hw.src (i := 6) rfl rfl | exact hw.src (i := 7) rfl rfl | exact hw.src (i := 8) rfl rfl) (by unfold maxLen; dsimp only; omega) (fun gb cap' => ⟨_, rfl, ?_⟩)
 | refine S_nil ?_
 | refine S_run rfl rfl obQ obQ ?_
 | refine S_box (fun b => ⟨_, _, rfl, obQ, ?_⟩)
 | refine S_slice (fun b => ⟨_, _, rfl, obQ, ?_⟩)
     )
 | (refine G_id ?_; first
 | refine G_loop (k + 1, some ⟨gb, 0, none⟩, cap') (by show k + 1 ≤ _; omega) (by show l.length - (k + 1) < l.length - k; omega) ⟨⟨_, rfl, obQ⟩, ⟨_, rfl⟩, (by dsimp only; rw [hmt]), pstQ⟩
 | refine G_then ?_
 | refine G_block ?_
     )
     )
  · obtain rfl : k = l.length := by omega
    repeat' (first
 | (refine C_id ?_; first
 | refine C_seq ?_
 | refine C_region rfl ?_
 | refine C_exit ?_
 | refine C_ret0 ?_
 | (refine C_cond rfl obQ (fun h => ?_) (fun h => ?_) <;> (try simp only [Bool.or_eq_true, Bool.and_eq_true, Bool.or_eq_false_iff, Bool.and_eq_false_iff, decide_eq_true_eq, decide_eq_false_iff_not, beq_iff_eq, bne_iff_ne, beq_eq_false_iff_ne, bne_eq_false_iff_eq, ne_eq, Decidable.not_not, List.cons.injEq, and_true, Bool.not_eq_true', Bool.not_eq_false', Int.not_lt, Int.not_le] at h) <;> (try (exfalso; omega)))
     )
 | (refine S_id ?_; first
 | refine S_nil ?_
 | refine S_run rfl rfl obQ obQ ?_
     )
 | (refine G_id ?_; first
 | refine G_then ?_
 | refine G_blockX ?_
 | refine G_thenX ?_
 | refine G_ret rfl obQ (fun w2 hw => ⟨_, rfl, hw.below, HW.ownRow (i := 0) hw rfl rfl rfl (by rw [List.take_length])⟩)
     )
     )

set_option maxHeartbeats 1000000 in
/-- colour.line -/
theorem line_c (wd : ByteArray) (hwd : wd.size ≤ 21) (A : Option Addr) (c : Nat) (l : List Int) (h0 : 0 < l.length) (hl : l.length ≤ 1000) (hb : ∀ x ∈ l, -9223372036854775808 ≤ x ∧ x ≤ 9223372036854775807) (w : World) (hr : Rd w A (l.map (.int .i64))) (hP : Pw w) : Calls Tryz.prog 161 #[.string wd, .slice A l.length c] w fun r w' => r = .returned (.string (lineB wd l)) ∧ Below w.heap.size w w' := by
  have hsz := line_size hwd hb
  refine calls_of (args := [.string wd, .slice A l.length c]) T_ok Tryz.func161 rfl Tryz.ntmps161 (Nat.le_of_ble_eq_true rfl) rfl ?_
  repeat' (first
 | (refine C_id ?_; first
 | refine C_seq ?_
 | refine C_region rfl ?_
 | refine C_ret0 ?_
 )
 | (refine S_id ?_; first
 | refine S_boxRow (bx' := []) 6 1 1 rfl rfl rfl rfl (by decide) ?_
 | (refine S_callM (f := 198) rfl obQ (by kernel_rfl) (fun w hw => mappedIS_c 199 (g := itB) A c l (by omega) (by kernel_rfl) w (hw.rdm hr.toS memQ) (fun x hx W hW => itoa_c x (hb x hx).1 (hb x hx).2 W (Pw_below (Pw_at hP hw memQ) hW))) (fun w1M w2M vM hw1M hbM hRM => ?_); obtain ⟨am, cM, rfl, hSM⟩ := own_slice hRM h0)
 | refine S_appendS rfl obQ rfl rfl rfl ⟨by decide, rfl⟩ rfl ⟨rfl, rfl, rfl, rfl⟩ (l.map fun x => .string (itB x)) (by simp) (fun e => by cases e) (by simp [Value.oneCell']) (fun w hw ad e j u hu => by cases e; exact rd_at (hw.rdm hSM memQ) j u hu) (by unfold maxLen; dsimp only; omega) (fun A' cap' => ⟨_, rfl, ?_⟩)
 | refine S_pure (binX_pure rfl obQ (fun w => cat_str _ _ _ _ _ (by have : sNl.size = 1 := rfl; show _ + 1 ≤ _; omega) w)) ?_
 | refine S_nil ?_
 | refine S_run rfl rfl obQ obQ ?_
 | refine S_slice (fun b => ⟨_, _, rfl, obQ, ?_⟩)
 | refine S_call (f := 162) rfl obQ (by kernel_rfl) (fun w hw => joinW_c (wd := wd) (l := l) sSp (hw.row _ (List.Mem.head _)).1 (by omega) (by omega)) ?_
 )
 | (refine G_id ?_; first
 | refine G_then ?_
 | refine G_ret rfl obQ (fun w hw => ⟨?_, hw.below⟩)
 )
 )
  rfl

set_option maxHeartbeats 1000000 in
/-- colour.Print$1 -/
theorem print1_c (p : Pt) (hb1 : -9223372036854775808 ≤ p.1 ∧ p.1 ≤ 9223372036854775807) (hb2 : -9223372036854775808 ≤ p.2 ∧ p.2 ≤ 9223372036854775807) (w : World) (hP : Pw w) : Calls Tryz.prog 164 #[.agg #[.int .i64 p.1, .int .i64 p.2]] w fun r w' => r = .returned (.string (ptT p)) ∧ Below w.heap.size w w' := by
  refine calls_of (args := [.agg #[.int .i64 p.1, .int .i64 p.2]]) T_ok Tryz.func164 rfl Tryz.ntmps164 (Nat.le_of_ble_eq_true rfl) rfl ?_
  repeat' (first
 | (refine C_id ?_; first
 | refine C_seq ?_
 | refine C_region rfl ?_
 | refine C_ret0 ?_
 )
 | (refine S_id ?_; first
 | refine S_nil ?_
 | refine S_run rfl rfl obQ obQ ?_
 | refine S_box (fun b => ⟨_, _, rfl, obQ, ?_⟩)
 | refine S_slice (fun b => ⟨_, _, rfl, obQ, ?_⟩)
 | refine S_call (f := 161) rfl obQ (by kernel_rfl) (fun w hw => line_c sPoint (by decide) _ _ [p.1, p.2] (by simp) (by simp) (by simpa using ⟨hb1, hb2⟩) w (.inr ⟨_, rfl, hw.src (i := 1) rfl rfl⟩) (Pw_at hP hw memQ)) ?_
 )
 | (refine G_id ?_; first
 | refine G_then ?_
 | refine G_ret rfl obQ (fun w hw => ⟨?_, hw.below⟩)
 )
 )
  rfl

theorem pt_size {p : Pt} (hb1 : -9223372036854775808 ≤ p.1 ∧ p.1 ≤ 9223372036854775807) (hb2 : -9223372036854775808 ≤ p.2 ∧ p.2 ≤ 9223372036854775807) : (ptT p).size ≤ 67 := by
  have h := line_size (wd := sPoint) (l := [p.1, p.2]) (by decide) (by simpa using ⟨hb1, hb2⟩)
  unfold ptT lineB
  rw [cat_size]
  have : sNl.size = 1 := rfl
  simp only [List.length_cons, List.length_nil] at h
  omega

theorem cv_pts {l : List Pt} (h : CvOk l) : ∀ p ∈ l, (-16384 ≤ p.1 ∧ p.1 ≤ 16384) ∧ -16384 ≤ p.2 ∧ p.2 ≤ 16384 := by
  intro p hp
  obtain ⟨k, hk, rfl⟩ := List.getElem_of_mem hp
  have := h.bd k hk
  rwa [gP_at hk] at this

set_option maxHeartbeats 1000000 in
/-- colour.Print -/
theorem Print_c (A : Option Addr) (c : Nat) (l : List Pt) (hl : l.length ≤ 1000000) (w : World) (hr : Rd w A (l.flatMap ptC)) (hP : Pw w) : Calls Tryz.prog 102 #[.slice A l.length c] w fun r w' => r = .returned (.tuple #[.string (prR l).1, .int .i64 (prR l).2]) ∧ Below w.heap.size w w' := by
  refine calls_of (args := [.slice A l.length c]) T_ok Tryz.func102 rfl Tryz.ntmps102 (Nat.le_of_ble_eq_true rfl) rfl ?_
  by_cases hE : curveE l = 0
  · have hok := curve_ok.1 hE
    have e1 : prR l = (prF l, 0) := if_pos hE
    rw [e1]
    have hn := hok.hi
    have hn0 := hok.lo
    have hl1 := line_size (wd := sCurve) (l := [(l.length : Int)]) (by decide) (by simp; omega)
    have hl2 := joinB_size (m := 67) (l.map ptT) ByteArray.empty (fun x hx => by
      obtain ⟨p, hp, rfl⟩ := List.mem_map.1 hx
      have := cv_pts hok p hp
      exact pt_size (by omega) (by omega))
    rw [List.length_map, show ByteArray.empty.size = 0 from rfl] at hl2
    repeat' (first
 | (refine C_id ?_; first
 | refine C_seq ?_
 | refine C_region rfl ?_
 | refine C_skip ?_
 | refine C_ret0 ?_
 | (refine C_cond rfl obQ (fun h => ?_) (fun h => ?_) <;> (try simp only [Bool.or_eq_true, Bool.and_eq_true, Bool.or_eq_false_iff, Bool.and_eq_false_iff, decide_eq_true_eq, decide_eq_false_iff_not, beq_iff_eq, bne_iff_ne, beq_eq_false_iff_ne, bne_eq_false_iff_eq, ne_eq, Decidable.not_not, List.cons.injEq, and_true, Bool.not_eq_true', Bool.not_eq_false', Int.not_lt, Int.not_le] at h) <;> (try (exfalso; omega)) <;> (try (exfalso; simp at h; done)) <;> (try (exfalso; simp only [not_true_eq_false, false_or, or_false] at h; omega)) <;> (try contradiction))
     )
 | (refine S_id ?_; first
 | refine S_callRow 9 1 l.length (l.map fun p => .string (ptT p)) rfl obQ (by kernel_rfl) (fun w hw => mappedPS_c 164 (g := ptT) A c l (by omega) (by kernel_rfl) w (hw.rdm hr.toS memQ) (fun x hx W hW => print1_c x (by have := (cv_pts hok x hx).1; omega) (by have := (cv_pts hok x hx).2; omega) W (Pw_below (Pw_at hP hw memQ) hW))) (fun AR cR => ?_)
 | refine S_pure (binX_pure rfl obQ (fun w => cat_str _ _ _ _ _ (by unfold lineB; rw [cat_size]; have : sNl.size = 1 := rfl; simp only [List.length_cons, List.length_nil] at hl1; omega) w)) ?_
 | refine S_nil ?_
 | refine S_run rfl rfl obQ obQ ?_
 | refine S_slice (fun b => ⟨_, _, rfl, obQ, ?_⟩)
 | refine S_call (f := 34) rfl obQ (by kernel_rfl) (fun w hw => checkCurve_c A c l hl w (hw.rdm hr.toS memQ)) ?_
 | refine S_call (f := 161) rfl obQ (by kernel_rfl) (fun w hw => line_c sCurve (by decide) _ _ [(l.length : Int)] (by simp) (by simp) (by simp; omega) w (.inr ⟨_, rfl, hw.src (i := 0) rfl rfl⟩) (Pw_at hP hw memQ)) ?_
 | refine S_call (f := 162) rfl obQ (by kernel_rfl) (fun w hw => (by have := joinR_c (xs := l.map ptT) ByteArray.empty (by have := (hw.row _ (List.Mem.head _)).1; simpa [Function.comp_def] using this) (by simp) (by omega) (by omega) (by omega); exact this)) ?_
     )
 | (refine G_id ?_; first
 | refine G_then ?_
 | refine G_ret rfl obQ (fun w hw => ⟨?_, hw.below⟩)
     )
     )
    rfl
  · have e1 : prR l = (ByteArray.empty, curveE l) := if_neg hE
    rw [e1]
    repeat' (first
 | (refine C_id ?_; first
 | refine C_seq ?_
 | refine C_region rfl ?_
 | refine C_ret0 ?_
 | (refine C_cond rfl obQ (fun h => ?_) (fun h => ?_) <;> (try simp only [Bool.or_eq_true, Bool.and_eq_true, Bool.or_eq_false_iff, Bool.and_eq_false_iff, decide_eq_true_eq, decide_eq_false_iff_not, beq_iff_eq, bne_iff_ne, beq_eq_false_iff_ne, bne_eq_false_iff_eq, ne_eq, Decidable.not_not, List.cons.injEq, and_true, Bool.not_eq_true', Bool.not_eq_false', Int.not_lt, Int.not_le] at h) <;> (try (exfalso; omega)) <;> (try (exfalso; simp at h; done)) <;> (try (exfalso; simp only [not_true_eq_false, false_or, or_false] at h; omega)) <;> (try contradiction))
     )
 | (refine S_id ?_; first
 | refine S_nil ?_
 | refine S_run rfl rfl obQ obQ ?_
 | refine S_call (f := 34) rfl obQ (by kernel_rfl) (fun w hw => checkCurve_c A c l hl w (hw.rdm hr.toS memQ)) ?_
     )
 | (refine G_id ?_; first
 | refine G_then ?_
 | refine G_thenR ?_
 | refine G_ret rfl obQ (fun w hw => ⟨?_, hw.below⟩)
     )
     )
    rfl

end Go.Proofs.YtdbffbcobghbeaaGreatDoor
