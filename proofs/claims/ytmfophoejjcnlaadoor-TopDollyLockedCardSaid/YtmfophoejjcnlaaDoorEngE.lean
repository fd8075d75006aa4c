/- The judgements and their rules: regions, calls, control. -/
import Derived.Test.YtmfophoejjcnlaaDoorEngDL
namespace Go.E
set_option linter.unusedSimpArgs false
set_option linter.unusedVariables false
open Go.RowKit

/-- What stays the same throughout a walk: the program, the number of temporaries, where the call began. -/
structure Cx where
  P : Program
  T : TT
  hT : TOk P T
  N : Nat
  B : Nat
  w0 : World
  ds : List Nat
  ro : Option Nat

def G (X : Cx) (Ps : Past) (Q : Exit → Act → World → Prop) (e : Exit) (σ : St) : Prop := ∀ a w, HA X.N X.ds σ a → HW X.B X.w0 Ps σ w → Q e a w
def C (X : Cx) (Ps : Past) (Q : Exit → Act → World → Prop) (c : Code) (σ : St) : Prop := ∀ a w, HA X.N X.ds σ a → HW X.B X.w0 Ps σ w → c.wpIn (FR X.ro) 9 X.P Q a w
def S (X : Cx) (Ps : Past) (l0 : List Oper) (Q : Exit → Act → World → Prop) (l : List Oper) (σ : St) : Prop :=
  ∀ a w, HA X.N X.ds σ a → HW X.B X.w0 Ps σ w → wpl X.ro X.P l0.toArray Q l a w

section
variable {X : Cx} {T : TT} {Ps : Past} {σ σ' : St} {l0 l rest : List Oper} {Q : Exit → Act → World → Prop} {o : Oper}

theorem step_ok (hT : TOk X.P T) {ob : List Prop} (h : step T X.N l0 o σ = some (σ', ob)) (hob : AllP ob) (k : S X Ps l0 Q rest σ') : S X Ps l0 Q (o :: rest) σ := by
  intro a w ha hw
  obtain ⟨sl, bx, rw'⟩ := σ
  simp only [step] at h
  split at h
  · cases h
  · rename_i ctx hctx
    have hwant := gctx_ok ha hctx
    refine wpl_step fun K hK => ?_
    rw [hwant]
    split at h
    · split at h
      · obtain ⟨w', h1, h2, h3, h4⟩ := storeV_run hT ha hw h hob
        rw [if_pos (show gOk [] = true from rfl)]
        unfold Oper.wp
        rw [h1, Oper.upon_skip, h2]
        exact hK _ _ (k a w' h3 h4)
      · cases h
    · split at h
      · rename_i r ob1 hop
        split at h
        · rename_i d hd
          split at h
          · rename_i hlt
            have hd' : d < X.N := by simpa using hlt
            split at h
            · simp only [Option.some.injEq, Prod.mk.injEq] at h
              obtain ⟨rfl, rfl⟩ := h
              rw [if_pos (show gOk [] = true from rfl)]
              unfold Oper.wp
              rw [opV_run hT ha hw rfl hop hob, Oper.upon_value, hd]
              exact hK _ _ (k _ w (ha.put hd' (.s r) rfl) (hw.same rfl rfl))
            · rename_i c gs
              simp only [Option.some.injEq, Prod.mk.injEq] at h
              obtain ⟨rfl, rfl⟩ := h
              cases hg : gOk (c :: gs) with
              | true =>
                rw [if_pos rfl]
                unfold Oper.wp
                rw [opV_run hT ha hw hg hop (impL_ok hob hg), Oper.upon_value, hd]
                have := ha.put hd' (.g (c :: gs) r) (σ' := ⟨(d, .g (c :: gs) r) :: sl, bx, rw'⟩) rfl
                simp only [AV.c, hg, if_true] at this
                exact hK _ _ (k _ w this (hw.same rfl rfl))
              | false =>
                rw [if_neg (by simp), hd]
                have := ha.put hd' (.g (c :: gs) r) (σ' := ⟨(d, .g (c :: gs) r) :: sl, bx, rw'⟩) rfl
                simp only [AV.c, hg, Bool.false_eq_true, if_false] at this
                exact hK _ _ (k _ w this (hw.same rfl rfl))
          · cases h
        · cases h
      · cases h

theorem run_ok (hT : TOk X.P T) : ∀ (l : List Oper) (σ : St) (ob0 : List Prop) {ob : List Prop}, run T X.N l0 l σ ob0 = (rest, σ', ob) → AllP ob → AllP ob0 ∧ (S X Ps l0 Q rest σ' → S X Ps l0 Q l σ)
  | [], σ, ob0, ob, h, hob => by
    simp only [run, Prod.mk.injEq] at h
    obtain ⟨rfl, rfl, rfl⟩ := h
    exact ⟨hob, fun k => k⟩
  | o :: l, σ, ob0, ob, h, hob => by
    simp only [run] at h
    split at h
    · rename_i σ1 ob1 hs
      split at h
      · obtain ⟨h1, h2⟩ := run_ok hT l σ1 ob0 h hob
        exact ⟨h1, fun k => step_ok hT hs trivial (h2 k)⟩
      · obtain ⟨h1, h2⟩ := run_ok hT l σ1 _ h hob
        exact ⟨h1.2, fun k => step_ok hT hs h1.1 (h2 k)⟩
    · simp only [Prod.mk.injEq] at h
      obtain ⟨rfl, rfl, rfl⟩ := h
      exact ⟨hob, fun k => k⟩

/-- As many pure operations as there are, one at least. -/
theorem S_run {σ1 : St} {ob1 ob : List Prop} (h1 : step X.T X.N l0 o σ = some (σ1, ob1)) (h : run X.T X.N l0 l σ1 [] = (rest, σ', ob)) (hob1 : AllP ob1) (hob : AllP ob)
    (k : S X Ps l0 Q rest σ') : S X Ps l0 Q (o :: l) σ :=
  step_ok X.hT h1 hob1 ((run_ok X.hT l σ1 [] h hob).2 k)

theorem S_nil (k : G X Ps Q .normal σ) : S X Ps l0 Q [] σ := fun a w ha hw => wpl_nil (k a w ha hw)

/-! ### New boxes -/

def snocB {β : Type} : List Bx → Bx → (List Bx → Option β) → Option β
  | [], y, k => k [y]
  | x :: r, y, k => snocB r y fun l => k (x :: l)

theorem snocB_some {β : Type} : ∀ (l : List Bx) (y : Bx) (k : List Bx → Option β) (r : β), snocB l y k = some r → k (l ++ [y]) = some r
  | [], y, k, r, h => h
  | x :: l, y, k, r, h => by
    simp only [snocB] at h
    exact snocB_some l y _ r h

/-- The length, as a numeral. -/
def lenC {β : Type} : List Bx → Nat → (Nat → Option β) → Option β
  | [], n, k => k n
  | _ :: r, n, k => lenC r (Nat.succ n) k

theorem lenC_some {β : Type} : ∀ (l : List Bx) (n : Nat) (k : Nat → Option β) (r : β), lenC l n k = some r → k (l.length + n) = some r
  | [], n, k, r, h => by simpa [lenC] using h
  | _ :: l, n, k, r, h => by
    have := lenC_some l (n + 1) k r h
    rw [List.length_cons, show l.length + 1 + n = l.length + (n + 1) by omega]
    exact this

def zeroC {β : Type} : List Value → (List PV → Option β) → Option β
  | [], k => k []
  | x :: r, k => zeroC r fun l => k (.v x :: l)

theorem zeroC_some {β : Type} : ∀ (l : List Value) (k : List PV → Option β) (r : β), zeroC l k = some r → k (l.map .v) = some r
  | [], k, r, h => h
  | x :: l, k, r, h => by
    simp only [zeroC] at h
    exact zeroC_some l _ r h

def forceC {α β : Type} : List α → (List α → Option β) → Option β
  | [], k => k []
  | x :: r, k => forceC r fun l => k (x :: l)

theorem forceC_some {α β : Type} : ∀ (l : List α) (k : List α → Option β) (r : β), forceC l k = some r → k l = some r
  | [], k, r, h => h
  | x :: l, k, r, h => by
    simp only [forceC] at h
    exact forceC_some l _ r h

/-- A new variable: 'alloc', 'box'. -/
def boxV (T : TT) (N : Nat) (o : Oper) (b : Nat) : St → Option (St × List Prop)
  | ⟨sl, bx, rw⟩ => match o.guard with
  | some _ => none
  | none => match o.dst with
    | none => none
    | some d => match Nat.blt d N with
      | false => none
      | true => match o.op with
        | .alloc t => match look T t with
          | some ti => zeroC ti.zero fun zs => lenC bx 0 fun n => snocB bx ⟨b, t, zs⟩ fun bs => some (⟨(d, .s (.p b n 0)) :: sl, bs, rw⟩, [])
          | none => none
        | .box t x => match evp ⟨sl, bx, rw⟩ [] x [] with
          | some (v, ob) => forceC (cellsOf v) fun zs => lenC bx 0 fun n => snocB bx ⟨b, t, zs⟩ fun bs => some (⟨(d, .s (.p b n 0)) :: sl, bs, rw⟩, ob)
          | none => none
        | _ => none

theorem ownsRow_blockLt {w : World} {base : Nat} {e : TypeId} {size n : Nat} {v : Value} {xs : List Value} (h : w.ownsRow base e size v n xs) {g : Nat} (hg : v.ownBlock = some g) : g < w.heap.size ∧ base ≤ g := by
  rcases h.2 with ⟨rfl, _⟩ | ⟨g', cap, cur, rfl, h3, h4, _⟩
  · simp [Value.ownBlock] at hg
  · have : g' = g := by simpa [Value.ownBlock] using hg
    subst this
    exact ⟨(Array.getElem?_eq_some_iff.1 h4).1, h3⟩

theorem HW.alloc {B : Nat} {w0 w : World} (hw : HW B w0 Ps σ w) {t : TypeId} {cs : List PV} {cv : Array Value} (hcv : cv = (cs.map PV.c).toArray)
    (hbx : σ'.bx = σ.bx ++ [⟨w.heap.size, t, cs⟩]) (hrw : σ'.rw = σ.rw) : HW B w0 Ps σ' (w.alloc (.cells cv t)) := by
  subst hcv
  have hB := hw.bsize
  have hlt : ∀ x ∈ σ.bx, x.b < w.heap.size := fun x hx => hw.lt hx
  refine ⟨hw.below.alloc hB _, by simp; omega, ?_, fun x hx => ?_, fun p hp b hb => ?_, fun r hr => ?_, by rw [hrw]; exact hw.apart, fun p hp => by have := hw.old p hp; simp; omega⟩
  · rw [hbx, List.map_append, List.nodup_append]
    refine ⟨hw.nodup, by simp, fun b hb c hc => ?_⟩
    obtain ⟨x, hx, rfl⟩ := List.mem_map.1 hb
    simp only [List.map_cons, List.map_nil, List.mem_singleton] at hc
    subst hc
    exact Nat.ne_of_lt (hlt x hx)
  · rw [hbx, List.mem_append, List.mem_singleton] at hx
    rcases hx with hx | rfl
    · exact ⟨(hw.box x hx).1, (Below.heap_alloc w _ _ (hlt x hx)).trans (hw.box x hx).2⟩
    · exact ⟨hB, heap_alloc_new w _⟩
  · obtain ⟨h1, h2⟩ := hw.past p hp b hb
    have hbl := h1.1
    refine ⟨⟨by simp; omega, (Below.heap_alloc w _ _ hbl).trans h1.2⟩, fun x hx => ?_⟩
    rw [hbx, List.mem_append, List.mem_singleton] at hx
    rcases hx with hx | rfl
    · exact h2 x hx
    · exact (Nat.ne_of_lt hbl).symm
  · rw [hrw] at hr
    obtain ⟨h1, h2⟩ := hw.row r hr
    refine ⟨ownsRow_of h1 fun g hg => Below.heap_alloc w _ _ (ownsRow_blockLt h1 hg).1, fun g hg => ⟨fun x hx => ?_, (h2 g hg).2⟩⟩
    rw [hbx, List.mem_append, List.mem_singleton] at hx
    rcases hx with hx | rfl
    · exact (h2 g hg).1 x hx
    · exact (Nat.ne_of_lt (ownsRow_blockLt h1 hg).1).symm

end
end Go.E
