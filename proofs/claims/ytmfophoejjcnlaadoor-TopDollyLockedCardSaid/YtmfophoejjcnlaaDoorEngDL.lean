/- The logic of code within a fence that shuts nothing out: of a function's activation, and of a round of a loop over an iterator. -/
import Derived.Test.YtmfophoejjcnlaaDoorEngD
import Derived.StillTail
import Derived.OrdersIn
import Derived.TacticsIn
import Derived.RangeFuncNested
import Derived.RangeFuncLeaves
namespace Go.E
set_option linter.unusedSimpArgs false
set_option linter.unusedVariables false
open Go.RowKit

def ndOp (o : Oper) : Bool := match o.op with | .defer _ => false | _ => true
def ndL : List Oper → Bool
  | [] => true
  | o :: r => ndOp o && ndL r

theorem ndL_at {l : List Oper} : ∀ {i : Nat} {o : Oper}, ndL l = true → l[i]? = some o → ndOp o = true := by
  induction l with
  | nil => intro i o _ hi; simp at hi
  | cons x r ih =>
    intro i o h hi
    have h' : (ndOp x && ndL r) = true := h
    rw [Bool.and_eq_true] at h'
    cases i with
    | zero => rw [List.getElem?_cons_zero] at hi; exact Option.some.inj hi ▸ h'.1
    | succ i => exact ih h'.2 (by rwa [List.getElem?_cons_succ] at hi)

theorem ndL_drop : ∀ (n : Nat) (l : List Oper), ndL l = true → ndL (l.drop n) = true
  | 0, l, h => by simpa using h
  | n + 1, [], _ => rfl
  | n + 1, x :: l, h => by
    have h' : (ndOp x && ndL l) = true := h
    rw [Bool.and_eq_true] at h'
    simpa using ndL_drop n l h'.2

/-- The fence: all functions, no bound on the depth; in a round or not. -/
abbrev FR (ro : Option Nat) : Fence := { Fence.wide with round := ro }

theorem roomR (ro : Option Nat) (n : Nat) : (FR ro).room n := fun _ h => by cases h

section conv
variable {P : Program} {ro : Option Nat} {n m : Nat} {Q : Exit → Act → World → Prop} {K : Act → World → Prop} {a : Act} {w : World} {o : Oper}

theorem callsR {f : FuncId} {args : Array Value} {R : Ending → World → Prop} (h : Calls P f args w R) : CallsIn (FR ro) n P f args w R := by
  have := callsIn_wide (n := n).2 h
  exact this
theorem callsR' {f : FuncId} {args : Array Value} {R : Ending → World → Prop} (h : CallsIn (FR ro) n P f args w R) : Calls P f args w R := by
  have : CallsIn Fence.wide n P f args w R := h
  exact callsIn_wide.1 this
theorem rowsR {row : String} {args : Array Value} {R : Value → World → Prop} (h : Rows P row args w R) : RowsIn (FR ro) n P row args w R := fun c cs _ =>
  let ⟨v, w', r, s⟩ := h c cs
  ⟨v, w', r, stepsIn_wide.2 s⟩

/-- The bound on the depth says nothing here. -/
theorem wpR_n {c : Code} (h : c.wpIn (FR ro) n P Q a w) : c.wpIn (FR ro) m P Q a w := fun b k cs h1 h2 _ => h b k cs h1 h2 (roomR ro _)

theorem opIn (hnd : ndOp o = true) (h : o.wp P a w K Q) : o.wpIn (FR ro) n P a w K Q := by
  refine ⟨fun _ _ => trivial, ?_⟩
  rw [Oper.semAt_eq _ _ _ (fun c hc => by simp [ndOp, hc] at hnd)]
  unfold Oper.wp at h
  generalize (execOp a.eval o).run P w = r at h ⊢
  cases r with
  | ok x w' =>
    cases x <;> simp only [Oper.upon, Oper.uponIn] at h ⊢ <;>
      first
        | exact h
        | exact ⟨fun hd => (by cases hd), callsR h⟩
        | exact ⟨fun hd => (by cases hd), rowsR h⟩
  | halt x w' => cases x <;> simp only [Oper.upon, Oper.uponIn] at h ⊢ <;> exact h

/-! ### Operations one after the other -/

def wpl (ro : Option Nat) (P : Program) (ops : Array Oper) (Q : Exit → Act → World → Prop) (l : List Oper) (a : Act) (w : World) : Prop := ndL l = true → wpListIn (FR ro) 9 P ops Q l a w

variable {ops : Array Oper} {rest : List Oper}

theorem wpl_nil (h : Q .normal a w) : wpl ro P ops Q [] a w := fun _ => h
theorem wpl_step (h : ∀ K : Act → World → Prop, (∀ a w, wpl ro P ops Q rest a w → K a w) → if Region.wanted o (yielded ops a.tmps) then o.wp P a w K Q else K (a.put o.dst undef) w) : wpl ro P ops Q (o :: rest) a w := by
  intro hnd
  have hnd' : (ndOp o && ndL rest) = true := hnd
  rw [Bool.and_eq_true] at hnd'
  have hk := h (fun a w => wpListIn (FR ro) 9 P ops Q rest a w) (fun a w h => h hnd'.2)
  unfold wpListIn
  split
  · rename_i hw
    rw [if_pos hw] at hk
    exact opIn hnd'.1 hk
  · rename_i hw
    rw [if_neg hw] at hk
    exact ⟨fun _ _ => trivial, hk⟩
/-- .. an operation that the fence alone lets through: a call of yield. -/
theorem wpl_stepIn (h : ∀ K : Act → World → Prop, (∀ a w, wpl ro P ops Q rest a w → K a w) → if Region.wanted o (yielded ops a.tmps) then o.wpIn (FR ro) 9 P a w K Q else K (a.put o.dst undef) w) : wpl ro P ops Q (o :: rest) a w := by
  intro hnd
  have hnd' : (ndOp o && ndL rest) = true := hnd
  rw [Bool.and_eq_true] at hnd'
  have hk := h (fun a w => wpListIn (FR ro) 9 P ops Q rest a w) (fun a w h => h hnd'.2)
  unfold wpListIn
  split
  · rename_i hw
    rwa [if_pos hw] at hk
  · rename_i hw
    rw [if_neg hw] at hk
    exact ⟨fun _ _ => trivial, hk⟩

theorem regR {id : Nat} {l : List Oper} (hnd : ndL l = true) (h : wpl ro P l.toArray Q l a w) : (Code.region id l.toArray false).wpIn (FR ro) 9 P Q a w := wpIn_region_lit (h hnd)

/-! ### Every order -/

abbrev wpA (ro : Option Nat) (P : Program) (ops : Array Oper) (Q : Exit → Act → World → Prop) : Nat → Array Bool → Act → World → Prop := wpAnyIn (FR ro) 9 P .any ops Q

theorem regAR {id : Nat} {l : List Oper} (hm : P.follows .mixedOrders = true) (h : wpA ro P l.toArray Q l.toArray.size (Array.replicate l.toArray.size false) a { w with drawn := w.drawn + 1 }) :
    (Code.region id l.toArray true).wpIn (FR ro) 9 P Q a w := wpIn_region_any hm h

/-- One operation, as it comes up. -/
theorem opA {i : Nat} (ho : ops[i]? = some o) (hnd : ndOp o = true) (h : if Region.wanted o (yielded ops a.tmps) then o.wp P a w K Q else K (a.put o.dst undef) w) : wpOpIn (FR ro) 9 P ops Q i K a w := by
  unfold wpOpIn
  simp only [ho]
  split
  · rename_i hw
    rw [if_pos hw] at h
    exact opIn hnd h
  · rename_i hw
    rw [if_neg hw] at h
    exact ⟨fun _ _ => trivial, h⟩

variable {C : World → Prop}

theorem opA_of_q {i : Nat} {K : Act → Prop} {K' : Act → World → Prop} (hnd : ∀ (i : Nat) (o : Oper), ops[i]? = some o → ndOp o = true) (hC : C w) (h : ∀ a w', C w' → K a → K' a w') (hh : qOp P ops C i K a) : wpOpIn (FR ro) 9 P ops Q i K' a w := by
  cases ho : ops[i]? with
  | none =>
    unfold qOp at hh
    unfold wpOpIn
    simp only [ho] at hh ⊢
    exact h _ _ hC hh
  | some o =>
    unfold qOp at hh
    simp only [ho] at hh
    refine opA ho (hnd i o ho) ?_
    split
    · rename_i hw
      rw [if_pos hw] at hh
      exact Oper.wp_of_quiet hC h hh
    · rename_i hw
      rw [if_neg hw] at hh
      exact h _ _ hC hh

theorem anyR_of_quiet {Lq : Act → Prop} (hnd : ∀ (i : Nat) (o : Oper), ops[i]? = some o → ndOp o = true) (hQ : ∀ a w, C w → Lq a → Q .normal a w) : ∀ (fuel : Nat) (listed : Array Bool) (a : Act) (w : World), C w →
    wpAnyQ P .any ops C Lq fuel listed a → wpA ro P ops Q fuel listed a w
  | 0, _, _, _, hw, h => ⟨h.1, hQ _ _ hw h.2⟩
  | fuel + 1, _, _, _, hw, h => ⟨fun h0 => hQ _ _ hw (h.1 h0), fun i hi => opA_of_q hnd hw (fun a' w' hw' => anyR_of_quiet hnd hQ fuel _ a' w' hw') (h.2 i hi)⟩

/-- The rest in a forced order. -/
theorem anyR_of_seq : ∀ (l : List Oper) (k : Nat) (listed : Array Bool) (a : Act) (w : World), (∀ j, l[j]? = ops[k + j]?) →
    Region.seqB .any ops l.length k listed = true → wpListIn (FR ro) 9 P ops Q l a w → wpA ro P ops Q l.length listed a w
  | [], _, _, _, _, _, hB, h => ⟨by simpa [Region.seqB] using hB, h⟩
  | o :: l, k, listed, a, w, hl, hB, h => by
    have h0 : ops[k]? = some o := by simpa using (hl 0).symm
    simp only [List.length_cons, Region.seqB, Bool.and_eq_true, decide_eq_true_eq] at hB
    refine ⟨fun h1 => (by rw [hB.1] at h1; cases h1), fun i hi => ?_⟩
    rw [hB.1] at hi
    have hik : i = k := by simpa using hi
    subst hik
    have hw : wpOpIn (FR ro) 9 P ops Q i (wpListIn (FR ro) 9 P ops Q l) a w := by unfold wpOpIn; simp only [h0]; exact h
    exact wpOpIn_mono (fun a' w' h' => anyR_of_seq l (i + 1) _ a' w' (fun j => by have := hl (j + 1); simpa [Nat.add_assoc, Nat.add_comm 1 j] using this) hB.2 h') hw

/-- A quiet region, as what it is before a logic is named. -/
theorem any_quiet {l : List Oper} (hnd : ndL l = true) (hB : Region.lexB .any l.toArray = true) (hC : C { w with drawn := w.drawn + 1 })
    (h : wpQuiet P l.toArray C (fun a' => ∀ w', C w' → Q .normal a' w') l a) : wpA ro P l.toArray Q l.toArray.size (Array.replicate l.toArray.size false) a { w with drawn := w.drawn + 1 } := by
  simp only [Region.lexB, Bool.and_eq_true] at hB
  refine anyR_of_quiet (Lq := fun a' => ∀ w', C w' → Q .normal a' w') (fun i o ho => ndL_at hnd (by simpa using ho)) (fun _ w' hw' h => h w' hw') _ _ _ _ hC ?_
  have := wpAnyQ_lex (C := C) (md := .any) hB.1 l.toArray.toList 0 (Array.replicate l.toArray.size false) a (by simp) (by simpa using hB.2) (by simpa using h)
  simpa using this
end conv

end Go.E
