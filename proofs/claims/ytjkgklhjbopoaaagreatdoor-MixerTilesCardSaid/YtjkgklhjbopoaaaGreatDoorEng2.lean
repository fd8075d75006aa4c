/- Parts of the walks' engine. -/
import Derived.Test.YtjkgklhjbopoaaaGreatDoorEng1
import Derived.StillTail
import Derived.Maps.AppendAt
import Derived.Deep.AppendLies
import Derived.Laws.MakeOwn
import Derived.Laws.StructEq
namespace Go.E
set_option linter.all false
open Go.RowKit
set_option maxHeartbeats 8000000
section tail
variable {P : Program} {ops : Array Oper} {md : Region.Mode} {Cl : World → Prop} {ro : Option Nat}
def wpAnyT (P : Program) (md : Region.Mode) (ops : Array Oper) (Cl : World → Prop) (n : Nat) (L : Array Bool → Act → Prop) : Nat → Array Bool → Act → Prop
 | 0, listed, a => L listed a
 | f + 1, listed, a =>
  Region.ready md ops listed ≠ [] ∧ ∀ i ∈ Region.ready md ops listed, i < n ∧ qOp P ops Cl i (wpAnyT P md ops Cl n L f (listed.setIfInBounds i true)) a
theorem O9 {n g : Nat} {L : Array Bool → Act → Prop} {Q' : Exit → Act → World → Prop} (hnd : ∀ (i : Nat) (o : Oper), ops[i]? = some o → ndOp o = true) (hL : ∀ listed a w, Cl w → L listed a → wpA ro P ops Q' g listed a w) :
  ∀ (f : Nat) (listed : Array Bool) (a : Act) (w : World), Cl w → wpAnyT P .any ops Cl n L f listed a → wpA ro P ops Q' (f + g) listed a w
 | 0, listed, a, w, hw, h => by rw [Nat.zero_add]; exact hL _ _ _ hw h
 | f + 1, listed, a, w, hw, h => by
  rw [show f + 1 + g = (f + g) + 1 by omega]
  exact ⟨fun h0 => absurd h0 h.1, fun i hi => av0 hnd hw (fun a' w' hw' h' => O9 hnd hL f _ a' w' hw' h') (h.2 i hi).2⟩
theorem an6 {n i : Nat} {oi : Oper} {v : Value} {L : Array Bool → Act → Prop} (hi : ops[i]? = some oi) (hsel : ∀ (j : Nat) (o : Oper) cs b, ops[j]? = some o → o.op ≠ .select cs b)
  (hs : Region.sinkB md ops n = true) (hc : Region.chainB md ops n = true) (hn : n < ops.size) (hin : i < n)
  (hdone : ∀ listed a, L listed a → ∀ j ∈ Region.ready md ops listed, n ≤ j) :
  ∀ (f : Nat) (listed : Array Bool) (a : Act), HeadInv md ops n listed →
   (∀ j oj, ops[j]? = some oj → j ≠ i → listed.getD j true = false → (∀ e ∈ oj.after, Region.binds md e = true → e.on ≠ i) → oi.apart ops oj = true) →
   i ∈ Region.ready md ops listed → YieldsIn P ops Cl oi v a →
   wpAnyT P md ops Cl n L f (listed.setIfInBounds i true) (a.put oi.dst v) → wpAnyT P md ops Cl n L (f + 1) listed a := by
 intro f
 induction f with
 | zero =>
  intro listed a inv _ hr hy H
  have hun := (mem_ready.1 hr).1
  refine ⟨fun h => (by rw [h] at hr; cases hr), fun j hj => ?_⟩
  have hjn : j < n := by
   rcases Nat.lt_or_ge j n with h | h
   ·exact h
   ·exact absurd hj (tail_waits hs hc hn inv _ i rfl hin hun j h)
  refine ⟨hjn, ?_⟩
  by_cases hji : j = i
  ·subst hji; exact hy.qOp hi H
  ·have := hdone _ _ H j (ready_mono hj hji)
   omega
 | succ f ih =>
  intro listed a inv hfree hr hy H
  have hun := (mem_ready.1 hr).1
  refine ⟨fun h => (by rw [h] at hr; cases hr), fun j hj => ?_⟩
  have hjn : j < n := by
   rcases Nat.lt_or_ge j n with h | h
   ·exact h
   ·exact absurd hj (tail_waits hs hc hn inv _ i rfl hin hun j h)
  refine ⟨hjn, ?_⟩
  by_cases hji : j = i
  ·subst hji; exact hy.qOp hi H
  ·have h1 := (H.2 j (ready_mono hj hji)).2
   obtain ⟨hjun, oj, hoj, hall⟩ := mem_ready.1 hj
   have hnot : ∀ e ∈ oj.after, Region.binds md e = true → e.on ≠ i := fun e he hb heq => by
    have h1 := hall e he hb
    rw [heq, getD_both hun] at h1
    cases h1
   have h2 := qOp_put hoj (hfree j oj hoj hji hjun hnot) (fun cs b => hsel i oi cs b hi) (fun cs b => hsel j oj cs b hoj) hy h1
   have hfree' : ∀ k ok, ops[k]? = some ok → k ≠ i → (listed.setIfInBounds j true).getD k true = false →
     (∀ e ∈ ok.after, Region.binds md e = true → e.on ≠ i) → oi.apart ops ok = true := fun k ok hk hki hun hno => by
    refine hfree k ok hk hki ?_ hno
    by_cases hjk : j = k
    ·subst hjk; exact hjun
    ·rw [getD_set_ne true hjk] at hun; exact hun
   refine qOp_mono (fun a' h3 => ih (listed.setIfInBounds j true) a' (inv.set hj hjn) hfree' (ready_mono hr (Ne.symm hji)) h3.1 ?_) h2
   rw [Array.setIfInBounds_comm _ _ hji]
   exact h3.2
theorem ag9 {n g : Nat} {Lq : Act → Prop} (hsel : Region.noSelect ops = true) (hs : Region.sinkB md ops n = true) (hc : Region.chainB md ops n = true) (hn : n < ops.size) :
  ∀ (l : List Oper) (k : Nat) (listed : Array Bool) (a : Act), (∀ j, j < l.length → l[j]? = ops[k + j]?) → k + l.length = n → HeadInv md ops n listed →
  Region.lexHead md ops g l.length k listed = true → wpQuiet P ops Cl Lq l a →
  wpAnyT P md ops Cl n (fun listed' a' => Region.seqB md ops g n listed' = true ∧ Lq a') l.length listed a
 | [], k, listed, a, _, hk, _, hB, h => by
  have : k = n := by simpa using hk
  subst this
  exact ⟨by simpa [Region.lexHead] using hB, h⟩
 | o :: l, k, listed, a, hl, hk, inv, hB, h => by
  have h0 : ops[k]? = some o := by simpa using (hl 0 (by simp)).symm
  simp only [List.length_cons, Region.lexHead, Bool.and_eq_true] at hB
  obtain ⟨⟨hr, hf⟩, hB'⟩ := hB
  have hkn : k < n := by simp only [List.length_cons] at hk; omega
  have hr' : k ∈ Region.ready md ops listed := by simpa using hr
  have hst : qOp P ops Cl k (wpQuiet P ops Cl Lq l) a := by unfold qOp; simp only [h0]; exact h
  obtain ⟨v, hy, hK⟩ := yieldsIn_of_qOp h0 hst
  exact an6 h0 (Region.noSelect_spec hsel) hs hc hn hkn (fun listed' a' hL => seqB_ready hL.1) l.length listed a inv (Region.free_spec h0 hf) hr' hy
   (ag9 hsel hs hc hn l (k + 1) _ _ (fun j hj => by have := hl (j + 1) (by simp; omega); simpa [Nat.add_assoc, Nat.add_comm 1 j] using this) (by simp only [List.length_cons] at hk; omega) (inv.set hr' hkn) hB' hK)
theorem ah0 {Q : Exit → Act → World → Prop} {a : Act} {w : World} {l : List Oper} (n : Nat) (hnd : ndL l = true) (hB : Region.lexTailB .any l.toArray n = true)
  (hC : Cl { w with drawn := w.drawn + 1 })
  (h : wpQuiet P l.toArray Cl (fun a' => ∀ w', Cl w' → wpl ro P l.toArray Q (l.drop n) a' w') (l.take n) a) : wpA ro P l.toArray Q l.toArray.size (Array.replicate l.toArray.size false) a { w with drawn := w.drawn + 1 } := by
 simp only [Region.lexTailB, Bool.and_eq_true, decide_eq_true_eq] at hB
 obtain ⟨⟨⟨⟨hsel, hn⟩, hs⟩, hc⟩, hlex⟩ := hB
 have hn' : n < l.length := by simpa using hn
 have htl : (l.take n).length = n := by simp; omega
 have hdl : (l.drop n).length = l.toArray.size - n := by simp
 have inv0 : HeadInv .any l.toArray n (Array.replicate l.toArray.size false) :=
  ⟨by simp, fun j oj _ hl => (by rw [getD_replicate_false] at hl; cases hl), fun t _ ht => getD_in (by simpa using ht) (getD_replicate_false _ _)⟩
 have H := ag9 (md := .any) (g := l.toArray.size - n) hsel hs hc hn (l.take n) 0 _ a (fun j hj => by
  have hj' : j < n := by rw [htl] at hj; exact hj
  simp [hj']) (by simpa using htl) inv0 (by rw [htl]; exact hlex) h
 have := O9 (ro := ro) (Q' := Q) (g := l.toArray.size - n) (fun i o ho => T3 hnd (by simpa using ho)) (fun listed a' w' hw' hL => by
  have := I0 (ro := ro) (P := P) (Q := Q) (l.drop n) n listed a' w' (fun j => by simp [List.getElem?_drop]) (by rw [hdl]; exact hL.1) (hL.2 w' hw' (X5 n l hnd))
  rwa [hdl] at this) _ _ _ _ hC H
 rw [htl, show n + (l.toArray.size - n) = l.toArray.size by omega] at this
 exact this
end tail
def Cl (X : Cx) (Ps : Past) (σ : St) (w : World) : Prop := HW X.B X.w0 Ps ⟨[], σ.bx, σ.rw⟩ w
theorem Cl.hw {X : Cx} {Ps : Past} {σ : St} {w : World} (h : Cl X Ps σ w) : HW X.B X.w0 Ps σ w := HW.same h rfl rfl
theorem Cl.of {X : Cx} {Ps : Past} {σ : St} {w : World} (h : HW X.B X.w0 Ps σ w) : Cl X Ps σ w := HW.same h rfl rfl
def D (X : Cx) (Ps : Past) (l0 : List Oper) (K : Act → Prop) (l : List Oper) (σ : St) : Prop := ∀ a, HA X.N X.ds σ a → wpQuiet X.P l0.toArray (Cl X Ps σ) K l a
def stepQ (T : TT) (N : Nat) (l0 : List Oper) (o : Oper) (sl : List (Nat × AV)) (bx : List Bx) (rw : List Rw) : Option (List (Nat × AV) × List Prop) :=
 match gctx l0 ⟨sl, bx, rw⟩ o.guard with
 | none => none
 | some ctx => match opV T ⟨sl, bx, rw⟩ ctx o with
  | some (r, ob) => match o.dst with
   | some d => match Nat.blt d N with
    | true => match ctx with
     | [] => some ((d, .s r) :: sl, ob)
     | c :: gs => some ((d, .g (c :: gs) r) :: sl, impL (c :: gs) ob)
    | false => none
   | none => none
  | none => none
def runQ (T : TT) (N : Nat) (l0 : List Oper) (bx : List Bx) (rw : List Rw) : List Oper → List (Nat × AV) → List Prop → List Oper × List (Nat × AV) × List Prop
 | [], sl, ob => ([], sl, ob)
 | o :: l, sl, ob => match stepQ T N l0 o sl bx rw with
  | some (sl, ob') => match ob' with
   | [] => runQ T N l0 bx rw l sl ob
   | p :: ps => runQ T N l0 bx rw l sl (AllP (p :: ps) :: ob)
  | none => (o :: l, sl, ob)
section
variable {X : Cx} {T : TT} {Ps : Past} {σ σ' : St} {l0 l rest : List Oper} {Q : Exit → Act → World → Prop} {K : Act → Prop} {o : Oper}
variable {sl sl' : List (Nat × AV)} {bx : List Bx} {rw : List Rw}
theorem af2 (hT : TOk X.P T) {ob : List Prop} (h : stepQ T X.N l0 o sl bx rw = some (sl', ob)) (hob : AllP ob) (k : D X Ps l0 K rest ⟨sl', bx, rw⟩) : D X Ps l0 K (o :: rest) ⟨sl, bx, rw⟩ := by
 intro a ha
 unfold stepQ at h
 split at h
 ·cases h
 ·rename_i ctx hctx
  have hwant := N7 ha hctx
  refine wpQuiet_step fun K' hK => ?_
  rw [hwant]
  split at h
  ·rename_i r ob1 hop
   split at h
   ·rename_i d hd
    split at h
    ·rename_i hlt
     have hd' : d < X.N := by simpa using hlt
     split at h
     ·simp only [Option.some.injEq, Prod.mk.injEq] at h
      obtain ⟨rfl, rfl⟩ := h
      rw [if_pos (show gOk [] = true from rfl)]
      refine ⟨r.c, fun w hw => ?_, ?_⟩
      ·unfold Oper.quietAt
       rw [M7 hT ha hw.hw rfl hop hob]
       exact ⟨rfl, rfl⟩
      ·rw [hd]
       exact hK _ (k _ (ha.put hd' (.s r) rfl))
     ·rename_i c gs
      simp only [Option.some.injEq, Prod.mk.injEq] at h
      obtain ⟨rfl, rfl⟩ := h
      cases hg : gOk (c :: gs) with
      | true =>
       rw [if_pos rfl]
       refine ⟨r.c, fun w hw => ?_, ?_⟩
       ·unfold Oper.quietAt
        rw [M7 hT ha hw.hw hg hop (an1 hob hg)]
        exact ⟨rfl, rfl⟩
       ·rw [hd]
        have := ha.put hd' (.g (c :: gs) r) (σ' := ⟨(d, .g (c :: gs) r) :: sl, bx, rw⟩) rfl
        simp only [AV.c, hg, if_true] at this
        exact hK _ (k _ this)
      | false =>
       rw [if_neg (by simp), hd]
       have := ha.put hd' (.g (c :: gs) r) (σ' := ⟨(d, .g (c :: gs) r) :: sl, bx, rw⟩) rfl
       simp only [AV.c, hg, Bool.false_eq_true, if_false] at this
       exact hK _ (k _ this)
    ·cases h
   ·cases h
  ·cases h
theorem ar6 (hT : TOk X.P T) : ∀ (l : List Oper) (sl : List (Nat × AV)) (ob0 : List Prop) {ob : List Prop}, runQ T X.N l0 bx rw l sl ob0 = (rest, sl', ob) → AllP ob → AllP ob0 ∧ (D X Ps l0 K rest ⟨sl', bx, rw⟩ → D X Ps l0 K l ⟨sl, bx, rw⟩)
 | [], sl, ob0, ob, h, hob => by
  simp only [runQ, Prod.mk.injEq] at h
  obtain ⟨rfl, rfl, rfl⟩ := h
  exact ⟨hob, fun k => k⟩
 | o :: l, sl, ob0, ob, h, hob => by
  simp only [runQ] at h
  split at h
  ·rename_i sl1 ob1 hs
   split at h
   ·obtain ⟨h1, h2⟩ := ar6 hT l _ ob0 h hob
    exact ⟨h1, fun k => af2 hT hs trivial (h2 k)⟩
   ·obtain ⟨h1, h2⟩ := ar6 hT l _ _ h hob
    exact ⟨h1.2, fun k => af2 hT hs h1.1 (h2 k)⟩
  ·simp only [Prod.mk.injEq] at h
   obtain ⟨rfl, rfl, rfl⟩ := h
   exact ⟨hob, fun k => k⟩
theorem aG7 {sl1 : List (Nat × AV)} {ob1 ob : List Prop} (h1 : stepQ X.T X.N l0 o sl bx rw = some (sl1, ob1)) (h : runQ X.T X.N l0 bx rw l sl1 [] = (rest, sl', ob)) (hob1 : AllP ob1) (hob : AllP ob)
  (k : D X Ps l0 K rest ⟨sl', bx, rw⟩) : D X Ps l0 K (o :: l) ⟨sl, bx, rw⟩ :=
 af2 X.hT h1 hob1 ((ar6 X.hT l _ [] h hob).2 k)
theorem af6 {f : FuncId} {args : List Value} {d : Nat} {ob : List Prop} {V : Value} (h : callV X.N o ⟨sl, bx, rw⟩ = some (f, args, d, ob)) (hob : AllP ob) (he : entB X.P f = true)
  (hc : ∀ w, HW X.B X.w0 Ps ⟨sl, bx, rw⟩ w → Calls X.P f args.toArray w fun e w' => e = .returned V ∧ Below w.heap.size w w')
  (k : D X Ps l0 K rest ⟨(d, .s (.v V)) :: sl, bx, rw⟩) : D X Ps l0 K (o :: rest) ⟨sl, bx, rw⟩ := by
 intro a ha
 refine wpQuiet_step fun K' hK => ?_
 obtain ⟨hg, hd, hlt, _⟩ := F0 (w := X.w0) (P := X.P) ha h hob he
 rw [o7 hg, if_pos rfl]
 refine ⟨V, fun w hw => ?_, ?_⟩
 ·obtain ⟨_, _, _, hr⟩ := F0 (w := w) (P := X.P) ha h hob he
  unfold Oper.quietAt
  rw [hr]
  exact ⟨rfl, (hc w hw.hw).mono fun e w' ⟨h1, h2⟩ => ⟨h1, HW.ext hw h2⟩⟩
 ·rw [hd]
  exact hK _ (k _ (ha.put hlt (.s (.v V)) rfl))
def ClB (X : Cx) (Ps : Past) (bx : List Bx) (rw : List Rw) (w : World) : Prop := HW X.B X.w0 Ps ⟨[], bx, rw⟩ w
theorem bk9 (k : G X Ps Q .normal ⟨sl, bx, rw⟩) : D X Ps l0 (fun a => ∀ w, ClB X Ps bx rw w → Q .normal a w) [] ⟨sl, bx, rw⟩ := fun a ha => wpQuiet_nil fun w hw => k a w ha (HW.same hw rfl rfl)
theorem aW4 (k : S X Ps l0 Q rest ⟨sl, bx, rw⟩) : D X Ps l0 (fun a => ∀ w, ClB X Ps bx rw w → wpl X.ro X.P l0.toArray Q rest a w) [] ⟨sl, bx, rw⟩ := fun a ha => wpQuiet_nil fun w hw => k a w ha (HW.same hw rfl rfl)
theorem aT6 {id : Nat} (hn : ndL l = true) (hm : X.P.follows .mixedOrders = true) (hB : Region.lexB .any l.toArray = true)
  (h : D X Ps l (fun a => ∀ w, ClB X Ps bx rw w → Q .normal a w) l ⟨sl, bx, rw⟩) : C X Ps Q (.region id l.toArray true) ⟨sl, bx, rw⟩ := fun a w ha hw =>
 regAR hm <| aL6 (C := Cl X Ps ⟨sl, bx, rw⟩) hn hB (Cl.of (hw.ext ⟨rfl, rfl, rfl, Nat.le_refl _, fun _ _ => rfl⟩)) (h a ha)
theorem aH0 {id : Nat} (n : Nat) {l1 l2 : List Oper} (hn : ndL l = true) (hm : X.P.follows .mixedOrders = true) (hB : Region.lexTailB .any l.toArray n = true)
  (h1 : l.take n = l1) (h2 : l.drop n = l2)
  (h : D X Ps l (fun a => ∀ w, ClB X Ps bx rw w → wpl X.ro X.P l.toArray Q l2 a w) l1 ⟨sl, bx, rw⟩) : C X Ps Q (.region id l.toArray true) ⟨sl, bx, rw⟩ := fun a w ha hw => by
 subst h1; subst h2
 exact regAR hm <| ah0 (Cl := Cl X Ps ⟨sl, bx, rw⟩) n hn hB (Cl.of (hw.ext ⟨rfl, rfl, rfl, Nat.le_refl _, fun _ _ => rfl⟩)) (h a ha)
end
def Rd (w : World) (A : Option Addr) (xs : List Value) : Prop := xs = [] ∨ ∃ ad, A = some ad ∧ ∀ j u, xs[j]? = some u → w.cell? (ad.add j) = some u
def RdS (S : Nat → Prop) (w : World) (A : Option Addr) (xs : List Value) : Prop := xs = [] ∨ ∃ ad, A = some ad ∧ S ad.block ∧ ∀ j u, xs[j]? = some u → w.cell? (ad.add j) = some u
theorem RdS.rd {S : Nat → Prop} {w : World} {A : Option Addr} {xs : List Value} (h : RdS S w A xs) : Rd w A xs := by
 rcases h with h | ⟨ad, h1, _, h3⟩
 ·exact .inl h
 ·exact .inr ⟨ad, h1, h3⟩
theorem F4 (a : Addr) (n : Nat) : (a.add n).block = a.block := by unfold Addr.add; split <;> rfl
theorem n3 (a : Addr) (i j : Nat) : (a.add i).add j = a.add (i + j) := by
 unfold Addr.add
 by_cases hi : i = 0 <;> by_cases hj : j = 0 <;> simp [hi, hj, Nat.add_assoc]
theorem am6 {w : World} {a : Addr} {u : Value} (h : w.cell? a = some u) : a.block < w.heap.size := by
 unfold World.cell? at h
 split at h
 ·rename_i h1
  exact (Array.getElem?_eq_some_iff.1 h1).1
 ·cases h
theorem Rd.toS {w : World} {A : Option Addr} {xs : List Value} (h : Rd w A xs) : RdS (fun b => b < w.heap.size) w A xs := by
 rcases h with h | ⟨ad, h1, h2⟩
 ·exact .inl h
 ·cases xs with
  | nil => exact .inl rfl
  | cons x r =>
   refine .inr ⟨ad, h1, ?_, h2⟩
   have := am6 (h2 0 x rfl)
   rwa [F4] at this
theorem Rd.below {w w' : World} {A : Option Addr} {xs : List Value} (h : Rd w A xs) (hb : Below w.heap.size w w') : Rd w' A xs := by
 rcases h with h | ⟨ad, h1, h2⟩
 ·exact .inl h
 ·exact .inr ⟨ad, h1, fun j u hu => (hb.cell (am6 (h2 j u hu))).trans (h2 j u hu)⟩
section
variable {X : Cx} {T : TT} {Ps : Past} {σ σ' : St} {l0 l rest : List Oper} {Q : Exit → Act → World → Prop} {K : Act → Prop} {o : Oper}
variable {sl : List (Nat × AV)} {bx : List Bx} {rw : List Rw}
theorem HW.cellAt {B : Nat} {w0 w : World} (hw : HW B w0 Ps σ w) {p : World × (Nat → Prop)} (hp : p ∈ Ps) {a : Addr} (hs : p.2 a.block) : w.cell? a = p.1.cell? a :=
 World.cell?_of_block (hw.past p hp a.block hs).1.2
theorem HW.rd {B : Nat} {w0 w : World} (hw : HW B w0 Ps σ w) {p : World × (Nat → Prop)} (hp : p ∈ Ps) {A : Option Addr} {xs : List Value} (h : RdS p.2 p.1 A xs) : Rd w A xs := by
 rcases h with h | ⟨ad, h1, h2, h3⟩
 ·exact .inl h
 ·exact .inr ⟨ad, h1, fun j u hu => (hw.cellAt hp (by rw [F4]; exact h2)).trans (h3 j u hu)⟩
theorem HW.rdBox {B : Nat} {w0 w : World} (hw : HW B w0 Ps σ w) {i : Nat} {x : Bx} (h : nth σ.bx i = some x) {xs : List Value} (hx : xs = x.cs.map PV.c) : Rd w (some ⟨x.b, 0, none⟩) xs := by
 subst hx
 refine .inr ⟨_, rfl, fun j u hu => ?_⟩
 rw [Addr.add_mid, Nat.zero_add, hw.cell h, ← List.getElem?_map]
 exact hu
theorem HW.rdRow {B : Nat} {w0 w : World} (hw : HW B w0 Ps σ w) {i : Nat} {r : Rw} (h : nth σ.rw i = some r) {A : Option Addr} {n cap : Nat} (hv : r.val = .slice A n cap) : Rd w A r.xs := by
 obtain ⟨h1, _⟩ := hw.row r (F7 h)
 rcases h1.2 with ⟨h2, h3⟩ | ⟨g, cap', cur, h2, _⟩
 ·refine .inl (List.eq_nil_of_length_eq_zero ?_)
  rw [h1.1, h3, Nat.zero_mul]
 ·rw [h2] at hv
  injection hv with e1 e2 e3
  exact .inr ⟨_, e1.symm, h1.cells (g := g) (by rw [h2]; rfl)⟩
theorem aS1 {P : Program} (hT : TOk P T) {w : World} {t : TypeId} {ti : TI} (hl : look T t = some ti) {ad : Addr} {us : List Value} (hlen : us.length = ti.size) (hc : ∀ j u, us[j]? = some u → w.cell? (ad.add j) = some u)
  {v : Value} (hv : (ti.row = true ∧ v = .agg us.toArray) ∨ (ti.row = false ∧ us = [v])) : (Instr.loadAt t (.pointer (some ad))).run P w = .ok v w := by
 obtain ⟨i, d, z, hi, hu, hz, rfl⟩ := hT.row hl
 have hl' : us.length = i.size := hlen
 rcases hv with ⟨h1, rfl⟩ | ⟨h1, rfl⟩
 ·have h1' : rowOf d = true := h1
  have hlc : (loadCells ad i.size).run P w = .ok us.toArray w := by
   rw [← hl']
   exact run_loadCells_list (P := P) w ad us hc
  simp [Instr.loadAt, Instr.sureAddr, loadVar, H0 hu, h1', sizeOf, typeInfo, hi, hlc]
 ·have h1' : rowOf d = false := h1
  have := hc 0 v rfl
  rw [show ad.add 0 = ad from rfl] at this
  simp [Instr.loadAt, Instr.sureAddr, loadVar, H0 hu, h1', this]
inductive From (X : Cx) (Ps : Past) (rw : List Rw) (ad : Addr) (us : List Value) : Prop where
 | past (p : World × (Nat → Prop)) (hp : p ∈ Ps) (A : Option Addr) (xs : List Value) (h : RdS p.2 p.1 A xs) (m : Nat) (a0 : Addr) (hA : A = some a0) (hm : ad = a0.add m) (hx : ∀ j u, us[j]? = some u → xs[m + j]? = some u)
 | cell (p : World × (Nat → Prop)) (hp : p ∈ Ps) (hs : p.2 ad.block) (hx : ∀ j u, us[j]? = some u → p.1.cell? (ad.add j) = some u)
 | row (i : Nat) (r : Rw) (hr : nth rw i = some r) (g n cap m : Nat) (hv : r.val = .slice (some ⟨g, 0, none⟩) n cap) (hm : ad = (⟨g, 0, none⟩ : Addr).add m) (hx : ∀ j u, us[j]? = some u → r.xs[m + j]? = some u)
theorem From.cells {ad : Addr} {us : List Value} (h : From X Ps rw ad us) {w : World} (hw : HW X.B X.w0 Ps ⟨sl, bx, rw⟩ w) : ∀ j u, us[j]? = some u → w.cell? (ad.add j) = some u := by
 intro j u hu
 cases h with
 | past p hp A xs h m a0 hA hm hx =>
  subst hm
  have hxm := hx j u hu
  rcases h with h | ⟨ad', h1, h2, h3⟩
  ·rw [h] at hxm; simp at hxm
  ·have : a0 = ad' := by rw [hA] at h1; exact Option.some.inj h1
   subst this
   rw [n3, hw.cellAt hp (by rw [F4]; exact h2)]
   exact h3 _ u hxm
 | cell p hp hs hx =>
  rw [hw.cellAt hp (by rw [F4]; exact hs)]
  exact hx j u hu
 | row i r hr g n cap m hv hm hx =>
  subst hm
  rw [n3]
  exact (hw.row r (F7 hr)).1.cells (g := g) (by rw [hv]; rfl) _ u (hx j u hu)
def loadX (N : Nat) (o : Oper) (sl : List (Nat × AV)) (bx : List Bx) (rw : List Rw) : Option (TypeId × Addr × Nat × List Prop) :=
 match o.guard with
 | some _ => none
 | none => match o.dst with
  | none => none
  | some d => match Nat.blt d N with
   | false => none
   | true => match o.op with
    | .load t x => match evp ⟨sl, bx, rw⟩ [] x [] with
     | some (.v (.pointer (some ad)), ob) => some (t, ad, d, ob)
     | _ => none
    | _ => none
theorem Q6 {P : Program} (hT : TOk P T) {N : Nat} {ds : List Nat} {w : World} {a : Act} (ha : HA N ds ⟨sl, bx, rw⟩ a) {t : TypeId} {ad : Addr} {d : Nat} {ob : List Prop} (h : loadX N o sl bx rw = some (t, ad, d, ob)) (hob : AllP ob)
  {ti : TI} (hl : look T t = some ti) {us : List Value} (hlen : us.length = ti.size) (hc : ∀ j u, us[j]? = some u → w.cell? (ad.add j) = some u) {v : Value} (hv : (ti.row = true ∧ v = .agg us.toArray) ∨ (ti.row = false ∧ us = [v])) :
  o.guard = none ∧ o.dst = some d ∧ d < N ∧ (execOp a.eval o).run P w = .ok (.value v) w := by
 unfold loadX at h
 split at h
 ·cases h
 ·rename_i hg
  split at h
  ·cases h
  ·rename_i d' hd
   split at h
   ·cases h
   ·rename_i hlt
    split at h
    ·rename_i t' x hop
     split at h
     ·rename_i ad' ob1 he
      simp only [Option.some.injEq, Prod.mk.injEq] at h
      obtain ⟨rfl, rfl, rfl, rfl⟩ := h
      obtain ⟨h1, _⟩ := q5 ha rfl he hob
      have hcc : (PV.v (Value.pointer (some ad'))).c = .pointer (some ad') := rfl
      refine ⟨hg, hd, by simpa using hlt, ?_⟩
      simp only [execOp, hop, h1, hcc, Sem.run_bind, aS1 hT hl hlen hc hv, Result.andThen_ok, Sem.run_pure]
     ·cases h
    ·cases h
theorem n4 {t : TypeId} {ad : Addr} {d : Nat} {ob : List Prop} (h : loadX X.N o sl bx rw = some (t, ad, d, ob)) (hob : AllP ob) {ti : TI} (hl : look X.T t = some ti) (us : List Value) (hf : From X Ps rw ad us) (hlen : us.length = ti.size)
  {v : Value} (hv : (ti.row = true ∧ v = .agg us.toArray) ∨ (ti.row = false ∧ us = [v])) (k : S X Ps l0 Q rest ⟨(d, .s (.v v)) :: sl, bx, rw⟩) : S X Ps l0 Q (o :: rest) ⟨sl, bx, rw⟩ := by
 intro a w ha hw
 obtain ⟨hg, hd, hlt, hr⟩ := Q6 X.hT ha h hob hl hlen (hf.cells hw) hv
 refine v7 fun K hK => ?_
 rw [o7 hg, if_pos rfl]
 unfold Oper.wp
 rw [hr, Oper.upon_value, hd]
 exact hK _ _ (k _ w (ha.put hlt (.s (.v v)) rfl) (hw.same rfl rfl))
theorem aq3 {t : TypeId} {ad : Addr} {d : Nat} {ob : List Prop} (h : loadX X.N o sl bx rw = some (t, ad, d, ob)) (hob : AllP ob) {ti : TI} (hl : look X.T t = some ti) (us : List Value) (hf : From X Ps rw ad us) (hlen : us.length = ti.size)
  {v : Value} (hv : (ti.row = true ∧ v = .agg us.toArray) ∨ (ti.row = false ∧ us = [v])) (k : D X Ps l0 K rest ⟨(d, .s (.v v)) :: sl, bx, rw⟩) : D X Ps l0 K (o :: rest) ⟨sl, bx, rw⟩ := by
 intro a ha
 refine wpQuiet_step fun K' hK => ?_
 have hgd : o.guard = none ∧ o.dst = some d ∧ d < X.N := by
  unfold loadX at h
  split at h
  ·cases h
  ·rename_i hg
   split at h
   ·cases h
   ·rename_i d' hd
    split at h
    ·cases h
    ·rename_i hlt
     split at h
     ·split at h
      ·simp only [Option.some.injEq, Prod.mk.injEq] at h
       obtain ⟨rfl, rfl, rfl, rfl⟩ := h
       exact ⟨hg, hd, by simpa using hlt⟩
      ·cases h
     ·cases h
 obtain ⟨hg, hd, hlt⟩ := hgd
 rw [o7 hg, if_pos rfl]
 refine ⟨v, fun w hw => ?_, ?_⟩
 ·obtain ⟨_, _, _, hr⟩ := Q6 X.hT ha h hob hl hlen (hf.cells (sl := sl) hw.hw) hv
  unfold Oper.quietAt
  rw [hr]
  exact ⟨rfl, rfl⟩
 ·rw [hd]
  exact hK _ (k _ (ha.put hlt (.s (.v v)) rfl))
def zrC {β : Type} (es : Nat) (z : List Value) : Nat → Nat → (List PV → Option β) → Option β
 | 0, _, k => k []
 | n + 1, i, k => match nth z (i % es) with
  | some x => zrC es z n (i + 1) fun l => k (.v x :: l)
  | none => none
theorem ax6 {β : Type} {es : Nat} {z : Array Value} : ∀ (n i : Nat) (k : List PV → Option β) (r : β), zrC es z.toList n i k = some r →
  ∃ l : List PV, k l = some r ∧ l.map PV.c = (List.range' i n).map fun j => z[j % es]!
 | 0, i, k, r, h => ⟨[], h, rfl⟩
 | n + 1, i, k, r, h => by
  simp only [zrC] at h
  split at h
  ·rename_i x hx
   obtain ⟨l, h1, h2⟩ := ax6 n (i + 1) _ r h
   refine ⟨_, h1, ?_⟩
   rw [E1, Array.getElem?_toList] at hx
   simp only [List.map_cons, List.range'_succ, h2]
   congr 1
   simp [PV.c, getElem!_def, hx]
  ·cases h
def sliceV (T : TT) (N : Nat) (o : Oper) (b : Nat) : St → Option (St × List Prop)
 | ⟨sl, bx, rw⟩ => match o.guard with
  | some _ => none
  | none => match o.dst with
   | none => none
   | some d => match Nat.blt d N with
    | false => none
    | true => match o.op with
     | .buildSlice t len parts => match look T t with
      | some ti => match ti.k with
       | .slice e es => match look T e with
        | some te => bif Nat.beq te.zero.length es then partsV ⟨sl, bx, rw⟩ [] parts.toList [] fun l ob => zrC es te.zero (len * es) 0 fun zs => buildC (.array len e es false) l zs fun cs => forceC cs fun cs =>
          snocB bx ⟨b, e, cs⟩ fun bs => some (⟨(d, .s (.v (.slice (some ⟨b, 0, none⟩) len len))) :: sl, bs, rw⟩, (0 < len * es ∧ len * es ≤ 16777216) :: ob)
         else none
        | none => none
       | _ => none
      | none => none
     | _ => none
theorem j9 (h : ∀ b, ∃ σ' ob, sliceV X.T X.N o b σ = some (σ', ob) ∧ AllP ob ∧ S X Ps l0 Q rest σ') : S X Ps l0 Q (o :: rest) σ := by
 intro a w ha hw
 obtain ⟨σ', ob, h1, hob, k⟩ := h w.heap.size
 obtain ⟨sl, bx, rw'⟩ := σ
 simp only [sliceV] at h1
 split at h1
 ·cases h1
 ·rename_i hg
  split at h1
  ·cases h1
  ·rename_i d hd
   split at h1
   ·cases h1
   ·rename_i hlt
    have hd' : d < X.N := by simpa using hlt
    split at h1
    ·rename_i t len parts hop
     split at h1
     ·rename_i ti hl
      obtain ⟨i, dd, z, hi, hu, hz, rfl⟩ := X.hT.row hl
      split at h1
      ·rename_i e es hk
       obtain ⟨rfl, ie, hie, hes⟩ := D5 hk
       split at h1
       ·rename_i te hle
        obtain ⟨ie', de, ze, hie', hue, hze, rfl⟩ := X.hT.row hle
        have : ie = ie' := Option.some.inj (hie.symm.trans hie')
        subst this
        cases hb : Nat.beq ze.cells.toList.length es with
        | false =>
         rw [hb] at h1
         cases h1
        | true =>
         have hzl := Nat.eq_of_beq_eq_true hb
         rw [hb] at h1
         simp only [cond_true] at h1
         obtain ⟨l', ob', hk2, hp⟩ := E0 ha (ctx := []) rfl _ _ _ _ h1
         obtain ⟨zs, hk3, hzs⟩ := ax6 _ _ _ _ hk2
         obtain ⟨cs, hk4, hfill⟩ := P0 (place := fun i => some (i * ie.size, ie.size)) (by
          intro j x hx
          simp only [placeOf, Option.some.injEq] at hx
          rw [← hx, hes]) _ _ _ _ hk3
         have h2 := M1 _ _ _ _ (O8 _ _ _ hk4)
         simp only [Option.some.injEq, Prod.mk.injEq] at h2
         obtain ⟨rfl, rfl⟩ := h2
         obtain ⟨⟨hpos, hsmall⟩, hob'⟩ := hob
         have h5 := (hp hob').1
         have hzeq : (zs.map PV.c).toArray = (Array.range (len * ie.size)).map (ze.cells[· % ze.cells.size]!) := by
          apply Array.toList_inj.1
          rw [hzs, Array.toList_map, Array.toList_range, hes, List.range_eq_range']
          have : ze.cells.size = es := by rw [← hzl]; simp
          rw [this]
         have hrun := run_buildSlice (P := X.P) w t e len (parts.map fun x => (x.1, a.eval x.2)) (cs.map PV.c).toArray ie ze hu hie hze (by rw [hes]; omega) (by rw [hes]; omega)
          (by rw [← hzeq, Array.toList_map, h5]; exact hfill)
         have hr : (execOp a.eval o).run X.P w = .ok (.value (.slice (some ⟨w.heap.size, 0, none⟩) len len)) (w.alloc (.cells (cs.map PV.c).toArray e)) := by
          simp only [execOp, hop, Sem.run_bind]
          rw [hrun]
          rfl
         refine v7 fun K hK => ?_
         rw [o7 hg, if_pos rfl]
         unfold Oper.wp
         rw [hr, Oper.upon_value, hd]
         exact hK _ _ (k _ _ (ha.put hd' (.s (.v (.slice (some ⟨w.heap.size, 0, none⟩) len len))) rfl) (hw.alloc (cs := cs) rfl rfl rfl))
       ·cases h1
      ·cases h1
     ·cases h1
    ·cases h1
def updR {β : Type} : Nat → List Rw → Rw → (List Rw → Option β) → Option β
 | _, [], _, _ => none
 | 0, _ :: r, y, k => k (y :: r)
 | n + 1, x :: r, y, k => updR n r y fun l => k (x :: l)
theorem aa7 {β : Type} : ∀ (i : Nat) (l : List Rw) (y : Rw) (k : List Rw → Option β) (r : β), updR i l y k = some r → k (l.set i y) = some r ∧ i < l.length
 | _, [], y, k, r, h => by simp [updR] at h
 | 0, x :: l, y, k, r, h => by simpa [updR] using h
 | i + 1, x :: l, y, k, r, h => by
  simp only [updR] at h
  have := aa7 i l y _ r h
  simpa using this
def appV (N : Nat) (o : Oper) (sl : List (Nat × AV)) (bx : List Bx) (rw : List Rw) : Option (TypeId × Option Addr × Nat × Nat × Nat × Addr × Nat × Nat × Nat × List Prop) :=
 match o.guard with
 | some _ => none
 | none => match o.dst with
  | none => none
  | some d => match Nat.blt d N with
   | false => none
   | true => match o.op with
    | .call c => match c.callee with
     | .builtin .append => match c.args.toList with
      | [x, y] => match c.argTypes.toList with
       | [t, t'] => bif Nat.beq t t' then match evp ⟨sl, bx, rw⟩ [] x [] with
        | some (.r A n cap i, ob) => match evp ⟨sl, bx, rw⟩ [] y ob with
         | some (.v (.slice (some ad) m c), ob) => some (t, A, n, cap, i, ad, m, c, d, ob)
         | some (.r (some ad) m c _, ob) => some (t, A, n, cap, i, ad, m, c, d, ob)
         | _ => none
        | _ => none
        else none
       | _ => none
      | _ => none
     | _ => none
    | _ => none
theorem aY3 {N : Nat} {ds : List Nat} {a : Act} (ha : HA N ds ⟨sl, bx, rw⟩ a) {t : TypeId} {A : Option Addr} {n cap i : Nat} {ad : Addr} {m c d : Nat} {ob : List Prop} (h : appV N o sl bx rw = some (t, A, n, cap, i, ad, m, c, d, ob)) (hob : AllP ob) :
  o.guard = none ∧ o.dst = some d ∧ d < N ∧ execOp a.eval o = (do pure (.value (← Builtin.append_ #[t, t] o.type #[.slice A n cap, .slice (some ad) m c]))) := by
 unfold appV at h
 split at h
 ·cases h
 ·rename_i hg
  split at h
  ·cases h
  ·rename_i d' hd
   split at h
   ·cases h
   ·rename_i hlt
    split at h
    ·rename_i cl hop
     split at h
     ·rename_i hcal
      split at h
      ·rename_i x y hargs
       split at h
       ·rename_i t1 t2 htys
        cases hb : Nat.beq t1 t2 with
        | false => rw [hb] at h; cases h
        | true =>
         rw [hb] at h
         have e12 := Nat.eq_of_beq_eq_true hb
         subst e12
         simp only [cond_true] at h
         split at h
         ·rename_i A' n' cap' i' ob1 hx
          have key : ∀ ob2 ad' m' c' , (∃ pv, evp ⟨sl, bx, rw⟩ [] y ob1 = some (pv, ob2) ∧ pv.c = .slice (some ad') m' c') → AllP ob2 →
            execOp a.eval o = (do pure (.value (← Builtin.append_ #[t1, t1] o.type #[.slice A' n' cap', .slice (some ad') m' c']))) := by
           rintro ob2 ad' m' c' ⟨pv, hy, hpv⟩ hob2
           obtain ⟨h2, hob1⟩ := q5 ha rfl hy hob2
           obtain ⟨h1, _⟩ := q5 ha rfl hx hob1
           have ea : cl.args = #[x, y] := Array.toList_inj.1 hargs
           have et : cl.argTypes = #[t1, t1] := Array.toList_inj.1 htys
           obtain ⟨callee, args, argTypes⟩ := cl
           simp only at hcal ea et
           subst hcal; subst ea; subst et
           have hcc : (PV.r A' n' cap' i').c = .slice A' n' cap' := rfl
           simp only [execOp, hop, resolve, List.map_toArray, List.map_cons, List.map_nil, h1, h2, hcc, hpv]
           rfl
          split at h
          ·rename_i ad' m' c' ob2 hy
           simp only [Option.some.injEq, Prod.mk.injEq] at h
           obtain ⟨rfl, rfl, rfl, rfl, rfl, rfl, rfl, rfl, rfl, rfl⟩ := h
           exact ⟨hg, hd, by simpa using hlt, key _ _ _ _ ⟨_, hy, rfl⟩ hob⟩
          ·rename_i ad' m' c' j' ob2 hy
           simp only [Option.some.injEq, Prod.mk.injEq] at h
           obtain ⟨rfl, rfl, rfl, rfl, rfl, rfl, rfl, rfl, rfl, rfl⟩ := h
           exact ⟨hg, hd, by simpa using hlt, key _ _ _ _ ⟨_, hy, rfl⟩ hob⟩
          ·cases h
         ·cases h
       ·cases h
      ·cases h
     ·cases h
    ·cases h
theorem HW.setRw {B : Nat} {w0 w w' : World} (hw : HW B w0 Ps ⟨sl, bx, rw⟩ w) {i : Nat} {r r' : Rw} (hi : rw[i]? = some r) (hg : w.grownBy w' r.val.ownBlock) (hown : w'.ownsRow B r'.e r'.size r'.val r'.n r'.xs)
  (hb : ∀ g, r'.val.ownBlock = some g → r.val.ownBlock = some g ∨ w.heap.size ≤ g) {sl' : List (Nat × AV)} : HW B w0 Ps ⟨sl', bx, rw.set i r'⟩ w' := by
 have hrm : r ∈ rw := List.mem_of_getElem? hi
 have hil : i < rw.length := (List.getElem?_eq_some_iff.1 hi).1
 obtain ⟨hro, hrs⟩ := hw.row r hrm
 have hne : ∀ x ∈ bx, some x.b ≠ r.val.ownBlock := fun x hx e => (hrs _ e.symm).1 x hx rfl
 have hsame : ∀ k, k < w.heap.size → some k ≠ r.val.ownBlock → w'.heap[k]? = w.heap[k]? := hg.block
 have hpair := hw.apart
 have hapart : ∀ j s, rw[j]? = some s → j ≠ i → ∀ g, s.val.ownBlock = some g → r.val.ownBlock ≠ some g := by
  intro j s hj hji g hs hr
  have hp := List.pairwise_iff_getElem.1 hpair
  have hjl : j < rw.length := (List.getElem?_eq_some_iff.1 hj).1
  have ej : rw[j] = s := (List.getElem?_eq_some_iff.1 hj).2
  have ei : rw[i] = r := (List.getElem?_eq_some_iff.1 hi).2
  rcases Nat.lt_or_gt_of_ne hji with hlt | hgt
  ·have := hp j i hjl hil hlt
   rw [ej, ei] at this
   exact this g hs hr
  ·have := hp i j hil hjl hgt
   rw [ej, ei] at this
   exact this g hr hs
 have hmem : ∀ s, s ∈ rw.set i r' → s = r' ∨ ∃ j, rw[j]? = some s ∧ j ≠ i := by
  intro s hs
  obtain ⟨j, hj⟩ := List.mem_iff_getElem?.1 hs
  rw [List.getElem?_set] at hj
  by_cases hij : i = j
  ·rw [if_pos hij, if_pos hil] at hj
   exact .inl (Option.some.inj hj).symm
  ·rw [if_neg hij] at hj
   exact .inr ⟨j, hj, fun e => hij e.symm⟩
 refine ⟨hw.below.grown hg hw.bsize (fun k hk => (p8 hro hk).2), by have := hg.size; have := hw.bsize; omega, hw.nodup, fun x hx => ⟨(hw.box x hx).1, (hsame _ (hw.lt hx) (hne x hx)).trans (hw.box x hx).2⟩, fun p hp b hpb => ?_, fun s hs => ?_, ?_, fun p hp => by have := hw.old p hp; have := hg.size; omega⟩
 ·obtain ⟨⟨h1, h2⟩, h3⟩ := hw.past p hp b hpb
  refine ⟨⟨by have := hg.size; omega, (hsame b h1 (fun e => (hrs b e.symm).2 p hp hpb)).trans h2⟩, h3⟩
 ·rcases hmem s hs with rfl | ⟨j, hj, hji⟩
  ·refine ⟨hown, fun g hg' => ?_⟩
   rcases hb g hg' with h1 | h1
   ·exact hrs g h1
   ·exact ⟨fun x hx e => by have := hw.lt (x := x) hx; omega, fun p hp hpb => by have := (hw.past p hp g hpb).1.1; omega⟩
  ·obtain ⟨h1, h2⟩ := hw.row s (List.mem_of_getElem? hj)
   exact ⟨F9 h1 fun g hg' => hsame g (p8 h1 hg').1 (fun e => hapart j s hj hji g hg' e.symm), h2⟩
 ·rw [List.pairwise_iff_getElem]
  intro j k hj hk hjk g
  simp only [List.length_set] at hj hk
  rw [List.getElem_set, List.getElem_set]
  have hp := List.pairwise_iff_getElem.1 hpair
  have hfar : ∀ q (hq : q < rw.length), q ≠ i → ∀ g, rw[q].val.ownBlock = some g → r'.val.ownBlock ≠ some g := by
   intro q hq hqi g h1 h2
   rcases hb g h2 with h3 | h3
   ·exact hapart q rw[q] (List.getElem?_eq_getElem hq) hqi g h1 h3
   ·have := (p8 (hw.row rw[q] (List.getElem_mem hq)).1 h1).1
    omega
  by_cases hij : i = j
  ·have hik : ¬ i = k := by omega
   rw [if_pos hij, if_neg hik]
   intro h1 h2
   exact hfar k hk (fun e => hik e.symm) g h2 h1
  ·rw [if_neg hij]
   by_cases hik : i = k
   ·rw [if_pos hik]
    intro h1 h2
    exact hfar j hj (fun e => hij e.symm) g h1 h2
   ·rw [if_neg hik]
    exact hp j k hj hk hjk g
theorem w9 {t : TypeId} {A : Option Addr} {n cap i : Nat} {ad : Addr} {m c d : Nat} {ob : List Prop} (h : appV X.N o sl bx rw = some (t, A, n, cap, i, ad, m, c, d, ob)) (hob : AllP ob)
  {ti te : TI} {e es : Nat} (hl : look X.T t = some ti) (hk : ti.k = .slice e es) (hle : look X.T e = some te) (hes : 0 < es ∧ te.zero.length = es)
  {r : Rw} (hr : nth rw i = some r) (hrv : r.e = e ∧ r.size = es ∧ r.n = n ∧ r.val = .slice A n cap)
  (news : List Value) (hm : 0 < m ∧ news.length = m * es) (hone : ∀ u ∈ news, u.oneCell' = true) (hsrc : ∀ w, HW X.B X.w0 Ps ⟨sl, bx, rw⟩ w → ∀ j u, news[j]? = some u → w.cell? (ad.add j) = some u)
  (hbound : n + m ≤ maxLen ∧ (n + m) * te.bytes ≤ 140737488355328)
  (k : ∀ g cap', ∃ rw', updR i rw ⟨e, es, n + m, r.xs ++ news, .slice (some ⟨g, 0, none⟩) (n + m) cap'⟩ some = some rw' ∧ S X Ps l0 Q rest ⟨(d, .s (.r (some ⟨g, 0, none⟩) (n + m) cap' i)) :: sl, bx, rw'⟩) :
  S X Ps l0 Q (o :: rest) ⟨sl, bx, rw⟩ := by
 intro a w ha hw
 obtain ⟨hg, hd, hlt, hr0⟩ := aY3 ha h hob
 obtain ⟨ii, dd, z, hi, hu, hz, rfl⟩ := X.hT.row hl
 obtain ⟨rfl, ie, hie, hies⟩ := D5 hk
 obtain ⟨ie', de, ze, hie', hue, hze, rfl⟩ := X.hT.row hle
 have : ie = ie' := Option.some.inj (hie.symm.trans hie')
 subst this
 rw [E1] at hr
 obtain ⟨rfl, rfl, rfl, hval⟩ := hrv
 obtain ⟨hro, _⟩ := hw.row r (List.mem_of_getElem? hr)
 rw [hval] at hro
 obtain ⟨v', w', hrun, hown, hgrow, _, hat⟩ := run_append_own_at (P := X.P) w X.B t o.type r.e ie ze r.size ie.bytes hu hie hze hies rfl (by rw [← hes.2]; simp) hes.1 _ r.n r.xs hro ad m c news hm.2 (hsrc w hw) hone hbound.1 hbound.2 hw.bsize
 obtain ⟨g, cap', rfl, hgB, hglt⟩ := hown.form (by omega)
 obtain ⟨rw', hrw', k⟩ := k g cap'
 obtain ⟨hrw2, _⟩ := aa7 _ _ _ _ _ hrw'
 simp only [Option.some.injEq] at hrw2
 subst hrw2
 refine v7 fun K hK => ?_
 rw [o7 hg, if_pos rfl]
 unfold Oper.wp
 have : (execOp a.eval o).run X.P w = .ok (.value (.slice (some ⟨g, 0, none⟩) (r.n + m) cap')) w' := by
  rw [hr0]
  simp only [Sem.run_bind, hrun, Result.andThen_ok, Sem.run_pure]
 rw [this, Oper.upon_value, hd]
 refine hK _ _ (k _ _ (ha.put hlt (.s (.r (some ⟨g, 0, none⟩) (r.n + m) cap' i)) rfl) ?_)
 refine HW.setRw hw hr (by rw [hval]; exact hgrow) hown (fun g' hg' => ?_)
 have e1 : g = g' := by simpa [Value.ownBlock] using hg'
 subst e1
 rw [hval]
 rcases hat with h1 | h1
 ·left; rw [← h1]; rfl
 ·right
  have : g = w.heap.size := by simpa [Value.ownBlock] using h1
  omega
theorem k6 (h : S X Ps l0 Q l σ) : S X Ps l0 Q l σ := h
theorem be0 (h : D X Ps l0 K l σ) : D X Ps l0 K l σ := h
theorem j7 {c : Code} (h : C X Ps Q c σ) : C X Ps Q c σ := h
theorem o8 {e : Exit} (h : G X Ps Q e σ) : G X Ps Q e σ := h
def subL (σsl : List (Nat × AV)) : List (Nat × AV) → List Prop → Option (List Prop)
 | [], ob => some ob
 | (t, v) :: r, ob => match look σsl t with
  | some u => subL σsl r ((u = v) :: ob)
  | none => none
theorem R6 {N : Nat} {ds : List Nat} {a : Act} (ha : HA N ds σ a) : ∀ (l : List (Nat × AV)) (ob0 ob : List Prop), subL σ.sl l ob0 = some ob → AllP ob → AllP ob0 ∧ ∀ t v, look l t = some v → a.tmps[t]? = some v.c
 | [], ob0, ob, h, hob => by
  simp only [subL, Option.some.injEq] at h
  subst h
  exact ⟨hob, fun t v h => by simp [look] at h⟩
 | (t, v) :: r, ob0, ob, h, hob => by
  simp only [subL] at h
  split at h
  ·rename_i u hu
   obtain ⟨⟨rfl, h1⟩, h2⟩ := R6 ha r _ ob h hob
   refine ⟨h1, fun t' v' h' => ?_⟩
   simp only [look] at h'
   cases hb : Nat.beq t t' with
   | true =>
    have := Nat.eq_of_beq_eq_true hb
    subst this
    rw [hb] at h'
    simp only [cond_true, Option.some.injEq] at h'
    subst h'
    exact ha.at_ t u hu
   | false =>
    rw [hb] at h'
    simp only [cond_false] at h'
    exact h2 t' v' h'
  ·cases h
structure Serves (Ps : Past) (σ : St) (Ps' : Past) (σ' : St) : Prop where
 sl : ∃ ob, subL σ.sl σ'.sl [] = some ob ∧ AllP ob
 bx : σ'.bx <+: σ.bx
 rw : σ'.rw = σ.rw
 past : ∀ p ∈ Ps', p ∈ Ps
theorem Serves.ha {N : Nat} {ds : List Nat} {Ps' : Past} (h : Serves Ps σ Ps' σ') {a : Act} (ha : HA N ds σ a) : HA N ds σ' a := by
 obtain ⟨ob, h1, h2⟩ := h.sl
 exact ⟨ha.size, ha.defers, (R6 ha _ _ _ h1 h2).2⟩
theorem Serves.hw {B : Nat} {w0 w : World} {Ps' : Past} (h : Serves Ps σ Ps' σ') (hw : HW B w0 Ps σ w) : HW B w0 Ps' σ' w := by
 have hsub : ∀ x ∈ σ'.bx, x ∈ σ.bx := fun x hx => h.bx.subset hx
 refine ⟨hw.below, hw.bsize, ?_, fun x hx => hw.box x (hsub x hx), fun p hp b hb => ?_, fun r hr => ?_, by rw [h.rw]; exact hw.apart, fun p hp => hw.old p (h.past p hp)⟩
 ·obtain ⟨t, ht⟩ := h.bx
  have := hw.nodup
  rw [← ht, List.map_append, List.nodup_append] at this
  exact this.1
 ·obtain ⟨h1, h2⟩ := hw.past p (h.past p hp) b hb
  exact ⟨h1, fun x hx => h2 x (hsub x hx)⟩
 ·rw [h.rw] at hr
  obtain ⟨h1, h2⟩ := hw.row r hr
  exact ⟨h1, fun g hg => ⟨fun x hx => (h2 g hg).1 x (hsub x hx), fun p hp => (h2 g hg).2 p (h.past p hp)⟩⟩
def LoopI (X : Cx) (Ps : Past) {ι : Type} (I : ι → St) (Inv : ι → Prop) (μ : ι → Nat) (i : ι) : Act → World → Prop := fun a w => ∃ j, Inv j ∧ μ j < μ i ∧ HA X.N X.ds (I j) a ∧ HW X.B X.w0 Ps (I j) w
theorem az1 {ι : Type} (I : ι → St) (Inv : ι → Prop) (μ : ι → Nat) (i0 : ι) (h0 : Inv i0) {Ps' : Past} (hs : Serves Ps σ Ps' (I i0)) {c : Code}
  (body : ∀ i, Inv i → C X Ps' (Exit.then (LoopI X Ps' I Inv μ i) Q) c (I i)) : C X Ps Q (.loop c) σ := by
 intro a w ha hw
 have hd : ∀ (a : Act) (w : World), (∃ i, Inv i ∧ HA X.N X.ds (I i) a ∧ HW X.B X.w0 Ps' (I i) w) → ∃ n, ∃ i, Inv i ∧ HA X.N X.ds (I i) a ∧ HW X.B X.w0 Ps' (I i) w ∧ μ i = n ∧ ∀ j, Inv j → HA X.N X.ds (I j) a → HW X.B X.w0 Ps' (I j) w → n ≤ μ j := by
  rintro a w ⟨i, h1, h2, h3⟩
  have : ∀ n i, μ i = n → Inv i → HA X.N X.ds (I i) a → HW X.B X.w0 Ps' (I i) w → ∃ n, ∃ i, Inv i ∧ HA X.N X.ds (I i) a ∧ HW X.B X.w0 Ps' (I i) w ∧ μ i = n ∧ ∀ j, Inv j → HA X.N X.ds (I j) a → HW X.B X.w0 Ps' (I j) w → n ≤ μ j := by
   intro n
   induction n using Nat.strongRecOn with
   | _ n ih =>
    intro i hn h1 h2 h3
    by_cases hlt : ∃ j, Inv j ∧ HA X.N X.ds (I j) a ∧ HW X.B X.w0 Ps' (I j) w ∧ μ j < n
    ·obtain ⟨j, g1, g2, g3, g4⟩ := hlt
     exact ih (μ j) g4 j rfl g1 g2 g3
    ·refine ⟨n, i, h1, h2, h3, hn, fun j g1 g2 g3 => ?_⟩
     rcases Nat.lt_or_ge (μ j) n with h | h
     ·exact (hlt ⟨j, g1, g2, g3, h⟩).elim
     ·exact h
  exact this _ i rfl h1 h2 h3
 classical
 let M : Act → World → Nat := fun a w => if h : ∃ i, Inv i ∧ HA X.N X.ds (I i) a ∧ HW X.B X.w0 Ps' (I i) w then Classical.choose (hd a w h) else 0
 have hM : ∀ a w (h : ∃ i, Inv i ∧ HA X.N X.ds (I i) a ∧ HW X.B X.w0 Ps' (I i) w), ∃ i, Inv i ∧ HA X.N X.ds (I i) a ∧ HW X.B X.w0 Ps' (I i) w ∧ μ i = M a w ∧ ∀ j, Inv j → HA X.N X.ds (I j) a → HW X.B X.w0 Ps' (I j) w → M a w ≤ μ j := by
  intro a w h
  have : M a w = Classical.choose (hd a w h) := by simp only [M, dif_pos h]
  rw [this]
  exact Classical.choose_spec (hd a w h)
 refine wpIn_loop (fun a w => ∃ i, Inv i ∧ HA X.N X.ds (I i) a ∧ HW X.B X.w0 Ps' (I i) w) M ⟨i0, h0, hs.ha ha, hs.hw hw⟩ fun a w h => ?_
 obtain ⟨i, h1, h2, h3, h4, _⟩ := hM a w h
 refine wpIn_mono (body i h1 a w h2 h3) (fun e a' w' q => ?_)
 cases e with
 | normal =>
  obtain ⟨j, g1, g2, g3, g4⟩ := q
  have hex : ∃ i, Inv i ∧ HA X.N X.ds (I i) a' ∧ HW X.B X.w0 Ps' (I i) w' := ⟨j, g1, g3, g4⟩
  obtain ⟨_, _, _, _, _, hmin⟩ := hM a' w' hex
  exact ⟨hex, by have := hmin j g1 g3 g4; omega⟩
 | exit id => exact q
 | goto l => exact q
 | ret => exact q
 | panic c => exact q
 | outgrown => exact q
theorem o6 {ι : Type} {I : ι → St} {Inv : ι → Prop} {μ : ι → Nat} {i : ι} {Ps' : Past} (j : ι) (hj : Inv j) (hlt : μ j < μ i) (hs : Serves Ps σ Ps' (I j)) : G X Ps (Exit.then (LoopI X Ps' I Inv μ i) Q) .normal σ :=
 fun a w ha hw => ⟨j, hj, hlt, hs.ha ha, hs.hw hw⟩
end
theorem Rd.some {w : World} {A : Option Addr} {xs : List Value} (h : Rd w A xs) (hx : 0 < xs.length) : ∃ ad, A = Option.some ad := by
 rcases h with h | ⟨ad, h1, _⟩
 ·subst h; simp at hx
 ·exact ⟨ad, h1⟩
theorem idx1 {α : Type} {f : α → Value} {l : List α} {k : Nat} (h : k < l.length) : ∀ (j : Nat) (u : Value), ([f l[k]] : List Value)[j]? = some u → (l.map f)[((k : Int).toNat * 1 + j)]? = some u := by
 intro j u hu
 cases j with
 | zero =>
  simp only [List.getElem?_cons_zero, Option.some.injEq] at hu
  subst hu
  simp [h]
 | succ j => simp at hu
theorem C7 {α : Type} {f : α → List Value} {s : Nat} : ∀ (l : List α), (∀ x ∈ l, (f x).length = s) → (l.flatMap f).length = l.length * s
 | [], _ => by simp
 | x :: l, h => by
  simp only [List.flatMap_cons, List.length_append, List.length_cons, h x (by simp), C7 l (fun y hy => h y (by simp [hy])), Nat.add_mul]
  omega
theorem X1 {α : Type} {f : α → List Value} {s : Nat} : ∀ (l : List α) (_ : ∀ x ∈ l, (f x).length = s) (k : Nat) (hk : k < l.length) (j : Nat), j < s → (l.flatMap f)[k * s + j]? = (f l[k])[j]?
 | [], _, k, hk, j, _ => by simp at hk
 | x :: l, h, 0, _, j, hj => by
  simp only [List.flatMap_cons, Nat.zero_mul, Nat.zero_add, List.getElem_cons_zero]
  rw [List.getElem?_append_left (by rw [h x (by simp)]; exact hj)]
 | x :: l, h, k + 1, hk, j, hj => by
  have hx := h x (by simp)
  simp only [List.flatMap_cons, List.getElem_cons_succ]
  rw [List.getElem?_append_right (by rw [hx, Nat.add_mul]; omega), hx, show (k + 1) * s + j - s = k * s + j by rw [Nat.add_mul]; omega]
  exact X1 l (fun y hy => h y (by simp [hy])) k (by simpa using hk) j hj
theorem idxS {α : Type} {f : α → List Value} {s : Nat} {l : List α} (hf : ∀ x, (f x).length = s) {k : Nat} (h : k < l.length) : ∀ (j : Nat) (u : Value), (f l[k])[j]? = some u → (l.flatMap f)[((k : Int).toNat * s + j)]? = some u := by
 intro j u hu
 have hj : j < s := by
  have := (List.getElem?_eq_some_iff.1 hu).1
  rwa [hf] at this
 rw [Int.toNat_natCast, X1 l (fun x _ => hf x) k h j hj]
 exact hu
theorem p7 {X : Cx} {Ps : Past} {Q : Exit → Act → World → Prop} {σ : St} {ι : Type} (I : ι → St) (Inv : ι → Prop) (μ : ι → Nat) (i0 : ι) (h0 : Inv i0) {c : Code} (hs : Serves Ps σ Ps (I i0))
  (body : ∀ i, Inv i → C X Ps (Exit.then (LoopI X Ps I Inv μ i) Q) c (I i)) : C X Ps Q (.loop c) σ := az1 I Inv μ i0 h0 hs body
section
variable {X : Cx} {Ps : Past} {σ : St} {l0 l rest : List Oper} {Q : Exit → Act → World → Prop} {sl : List (Nat × AV)} {bx : List Bx} {rw : List Rw}
theorem C9 {c : Code} (t : Nat) (e : TypeId) (size : Nat) (h : look sl t = some (.s (.v (.slice none 0 0)))) (k : C X Ps Q c ⟨(t, .s (.r none 0 0 rw.length)) :: sl, bx, rw ++ [⟨e, size, 0, [], .slice none 0 0⟩]⟩) : C X Ps Q c ⟨sl, bx, rw⟩ := by
 intro a w ha hw
 refine k a w ⟨ha.size, ha.defers, fun t' v hv => ?_⟩ ⟨hw.below, hw.bsize, hw.nodup, hw.box, hw.past, fun r hr => ?_, ?_, hw.old⟩
 ·simp only [look] at hv
  cases hb : Nat.beq t t' with
  | true =>
   have := Nat.eq_of_beq_eq_true hb
   subst this
   rw [hb] at hv
   simp only [cond_true, Option.some.injEq] at hv
   subst hv
   exact ha.at_ t (.s (.v (.slice none 0 0))) h
  | false =>
   rw [hb] at hv
   exact ha.at_ t' v hv
 ·simp only [List.mem_append, List.mem_singleton] at hr
  rcases hr with hr | rfl
  ·exact hw.row r hr
  ·exact ⟨World.ownsRow_nil w _ _ _, fun g hg => by simp [Value.ownBlock] at hg⟩
 ·rw [List.pairwise_append]
  exact ⟨hw.apart, by simp, fun a _ b hb g _ h => by simp only [List.mem_singleton] at hb; subst hb; simp [Value.ownBlock] at h⟩
theorem HW.src {B : Nat} {w0 w : World} (hw : HW B w0 Ps σ w) {i : Nat} {x : Bx} (h : nth σ.bx i = some x) {news : List Value} (hx : x.cs.map PV.c = news) : ∀ j u, news[j]? = some u → w.cell? ((⟨x.b, 0, none⟩ : Addr).add j) = some u := by
 subst hx
 intro j u hu
 rw [Addr.add_mid, Nat.zero_add, hw.cell h, ← List.getElem?_map]
 exact hu
def Sl (w w' : World) (v : Value) (n : Nat) (xs : List Value) : Prop := ∃ A c, v = .slice A n c ∧ RdS (fun b => w.heap.size ≤ b ∧ b < w'.heap.size) w' A xs
theorem HW.rowSl {w0 w : World} (hw : HW w0.heap.size w0 Ps σ w) {i : Nat} {r : Rw} (h : nth σ.rw i = some r) {v : Value} {n : Nat} {xs : List Value} (hv : r.val = v) (hn : r.n = n) (hx : r.xs = xs) : Sl w0 w v n xs := by
 subst hv; subst hn; subst hx
 obtain ⟨h1, _⟩ := hw.row r (F7 h)
 rcases h1.2 with ⟨h2, h3⟩ | ⟨g, cap', cur, h2, h3, h4, _⟩
 ·refine ⟨none, 0, by rw [h2, h3], .inl (List.eq_nil_of_length_eq_zero ?_)⟩
  rw [h1.1, h3, Nat.zero_mul]
 ·refine ⟨some ⟨g, 0, none⟩, cap', h2, .inr ⟨_, rfl, ⟨h3, (Array.getElem?_eq_some_iff.1 h4).1⟩, h1.cells (g := g) (by rw [h2]; rfl)⟩⟩
theorem Sl.nil_ (w w' : World) : Sl w w' (.slice none 0 0) 0 [] := ⟨none, 0, rfl, .inl rfl⟩
theorem B0 {α β : Type} {f : α → β} {l : List α} {k : Nat} (h : k < l.length) : (l.take (k + 1)).map f = (l.take k).map f ++ [f l[k]] := by
 rw [List.take_succ_eq_append_getElem h, List.map_append]
 rfl
theorem J5 {α β : Type} {f : α → List β} {l : List α} {k : Nat} (h : k < l.length) : (l.take (k + 1)).flatMap f = (l.take k).flatMap f ++ f l[k] := by
 rw [List.take_succ_eq_append_getElem h, List.flatMap_append]
 simp
end
theorem obS : (∀ (p : Prop) [Decidable p], (decide p = true) = p) ∧ (∀ (p : Prop) [Decidable p], (decide p = false) = ¬p) ∧ (∀ a b : Int, ((a == b) = true) = (a = b)) ∧ (∀ a b : Int, (¬a < b) = (b ≤ a)) ∧ (∀ a b : Int, (¬a ≤ b) = (b < a)) :=
 ⟨fun p _ => by simp, fun p _ => by simp, fun a b => by simp, fun a b => by simp, fun a b => by simp⟩
theorem obQ {p : Prop} (h : p := by (repeat' (first | exact trivial | apply And.intro | rfl | omega | intro _ | (simp only [obS] at *; omega))); first | done | fail) : p := h
theorem memQ {p : Prop} (h : p := by repeat (first | exact List.Mem.head _ | apply List.Mem.tail)) : p := h
theorem pstQ {p : Prop} (h : p := by intro p hp; repeat (first | exact hp | apply List.mem_cons_of_mem)) : p := h
section
variable {X : Cx} {T : TT} {Ps : Past} {σ σ' : St} {l0 l rest : List Oper} {Q : Exit → Act → World → Prop} {K : Act → Prop} {o : Oper}
variable {sl : List (Nat × AV)} {bx : List Bx} {rw : List Rw}
structure Pure (X : Cx) (Ps : Past) (σ : St) (o : Oper) (v : PV) (d : Nat) : Prop where
 guard : o.guard = none
 dst : o.dst = some d
 lt : d < X.N
 run : ∀ a w, HA X.N X.ds σ a → HW X.B X.w0 Ps ⟨[], σ.bx, σ.rw⟩ w → (execOp a.eval o).run X.P w = .ok (.value v.c) w
theorem j8 {v : PV} {d : Nat} (h : Pure X Ps ⟨sl, bx, rw⟩ o v d) (k : S X Ps l0 Q rest ⟨(d, .s v) :: sl, bx, rw⟩) : S X Ps l0 Q (o :: rest) ⟨sl, bx, rw⟩ := by
 intro a w ha hw
 refine v7 fun K hK => ?_
 rw [o7 h.guard, if_pos rfl]
 unfold Oper.wp
 rw [h.run a w ha (HW.same hw rfl rfl), Oper.upon_value, h.dst]
 exact hK _ _ (k _ w (ha.put h.lt (.s v) rfl) (hw.same rfl rfl))
theorem bp9 {v : PV} {d : Nat} (h : Pure X Ps ⟨sl, bx, rw⟩ o v d) (k : D X Ps l0 K rest ⟨(d, .s v) :: sl, bx, rw⟩) : D X Ps l0 K (o :: rest) ⟨sl, bx, rw⟩ := by
 intro a ha
 refine wpQuiet_step fun K' hK => ?_
 rw [o7 h.guard, if_pos rfl]
 refine ⟨v.c, fun w hw => ?_, ?_⟩
 ·unfold Oper.quietAt
  rw [h.run a w ha (HW.same hw.hw rfl rfl)]
  exact ⟨rfl, rfl⟩
 ·rw [h.dst]
  exact hK _ (k _ (ha.put h.lt (.s v) rfl))
theorem E7 {σ1 : St} {ob1 : List Prop} (h1 : step X.T X.N l0 o σ = some (σ1, ob1)) (hob1 : AllP ob1) (k : S X Ps l0 Q rest σ1) : S X Ps l0 Q (o :: rest) σ := M8 X.hT h1 hob1 k
def binX (N : Nat) (o : Oper) (σ : St) : Option (BinOp × TypeId × Operand × Operand × Value × Value × Nat × List Prop) :=
 match o.guard with
 | some _ => none
 | none => match o.dst with
  | none => none
  | some d => match Nat.blt d N with
   | false => none
   | true => match o.op with
    | .binOp op t x y _ => match evp σ [] x [] with
     | some (a, ob) => match evp σ [] y ob with
      | some (b, ob) => cC a fun a => cC b fun b => some (op, t, x, y, a, b, d, ob)
      | none => none
     | none => none
    | _ => none
theorem k9 {op : BinOp} {t : TypeId} {x y : Operand} {a b : Value} {d : Nat} {ob : List Prop} (h : binX X.N o σ = some (op, t, x, y, a, b, d, ob)) (hob : AllP ob) {v : Value}
  (hr : ∀ w, (do eqGuard op t x y a b; binOp op t a b : Sem Value).run X.P w = .ok v w) : Pure X Ps σ o (.v v) d := by
 unfold binX at h
 split at h
 ·cases h
 ·rename_i hg
  split at h
  ·cases h
  ·rename_i d' hd
   split at h
   ·cases h
   ·rename_i hlt
    split at h
    ·rename_i hop
     split at h
     ·rename_i av ob1 he1
      split at h
      ·rename_i bv ob2 he2
       simp only [K5, Option.some.injEq, Prod.mk.injEq] at h
       obtain ⟨rfl, rfl, rfl, rfl, rfl, rfl, rfl, rfl⟩ := h
       refine ⟨hg, hd, by simpa using hlt, fun a w ha hw => ?_⟩
       obtain ⟨h2, h3⟩ := q5 ha rfl he2 hob
       obtain ⟨h1, _⟩ := q5 ha rfl he1 h3
       have := hr w
       simp only [Sem.run_bind] at this
       have hvv : (PV.v v).c = v := rfl
       simp only [execOp, hop, h1, h2, Sem.run_bind, hvv]
       cases hq : (eqGuard _ _ _ _ av.c bv.c).run X.P w with
       | ok u w' =>
        rw [hq] at this
        simp only [Result.andThen_ok] at this ⊢
        rw [this]
        simp
       | _ => rw [hq] at this; simp [Result.andThen] at this
      ·cases h
     ·cases h
    ·cases h
end
section
variable {X : Cx} {T : TT} {Ps : Past} {σ σ' : St} {l0 l rest : List Oper} {Q : Exit → Act → World → Prop} {K : Act → Prop} {o : Oper}
variable {sl : List (Nat × AV)} {bx : List Bx} {rw : List Rw}
theorem HA.putG {N : Nat} {ds : List Nat} {a : Act} (ha : HA N ds ⟨sl, bx, rw⟩ a) {d : Nat} (hd : d < N) (ctx : List (Bool × Bool)) (x : PV) {bx' : List Bx} {rw' : List Rw} : HA N ds ⟨(d, .g ctx x) :: sl, bx', rw'⟩ (a.put (some d) (if gOk ctx then x.c else undef)) :=
 ha.put hd (.g ctx x) rfl
def Sl2 (w w' : World) (v : Value) (n : Nat) (xs : List Value) (e : Value) : Prop := ∃ A c, v = .tuple #[.slice A n c, e] ∧ RdS (fun b => w.heap.size ≤ b ∧ b < w'.heap.size) w' A xs
theorem Sl.two {w w' : World} {v : Value} {n : Nat} {xs : List Value} (h : Sl w w' v n xs) {u e : Value} (hu : u = .tuple #[v, e]) : Sl2 w w' u n xs e := by
 obtain ⟨A, c, rfl, h2⟩ := h
 exact ⟨A, c, hu, h2⟩
theorem aw6 {c : Code} (t size n : Nat) {x : Bx} {bx' : List Bx} (hbx : bx = bx' ++ [x]) (h : look sl t = some (.s (.v (.slice (some ⟨x.b, 0, none⟩) n n)))) {xs : List Value} (hx : x.cs.map PV.c = xs) (hl : xs.length = n * size) (hn : n ≤ maxLen)
  (k : C X Ps Q c ⟨(t, .s (.r (some ⟨x.b, 0, none⟩) n n rw.length)) :: sl, bx', rw ++ [⟨x.ty, size, n, xs, .slice (some ⟨x.b, 0, none⟩) n n⟩]⟩) : C X Ps Q c ⟨sl, bx, rw⟩ := by
 subst hbx; subst hx
 intro a w ha hw
 have hnd := hw.nodup
 simp only [List.map_append, List.map_cons, List.map_nil] at hnd
 rw [List.nodup_append] at hnd
 have hxm : x ∈ bx' ++ [x] := by simp
 obtain ⟨hB, hblk⟩ := hw.box x hxm
 have hsub : ∀ y ∈ bx', y ∈ bx' ++ [x] := fun y hy => by simp [hy]
 have hne : ∀ y ∈ bx', y.b ≠ x.b := fun y hy => hnd.2.2 y.b (List.mem_map.2 ⟨y, hy, rfl⟩) x.b (by simp)
 refine k a w ⟨ha.size, ha.defers, fun t' v hv => ?_⟩ ⟨hw.below, hw.bsize, hnd.1, fun y hy => hw.box y (hsub y hy), fun p hp b hb => ⟨(hw.past p hp b hb).1, fun y hy => (hw.past p hp b hb).2 y (hsub y hy)⟩, fun r hr => ?_, ?_, hw.old⟩
 ·simp only [look] at hv
  cases hb : Nat.beq t t' with
  | true =>
   have := Nat.eq_of_beq_eq_true hb
   subst this
   rw [hb] at hv
   simp only [cond_true, Option.some.injEq] at hv
   subst hv
   exact ha.at_ t (.s (.v (.slice (some ⟨x.b, 0, none⟩) n n))) h
  | false =>
   rw [hb] at hv
   exact ha.at_ t' v hv
 ·simp only [List.mem_append, List.mem_singleton] at hr
  rcases hr with hr | rfl
  ·obtain ⟨h1, h2⟩ := hw.row r hr
   exact ⟨h1, fun g hg => ⟨fun y hy => (h2 g hg).1 y (hsub y hy), (h2 g hg).2⟩⟩
  ·refine ⟨⟨hl, .inr ⟨x.b, n, (x.cs.map PV.c).toArray, rfl, hB, hblk, Nat.le_refl _, hn, by simpa using hl, ?_⟩⟩, fun g hg => ?_⟩
   ·rw [List.take_of_length_le (by rw [hl]; exact Nat.le_refl _)]
   ·have hg' : x.b = g := by simpa [Value.ownBlock] using hg
    subst hg'
    exact ⟨hne, fun p hp hpb => (hw.past p hp x.b hpb).2 x hxm rfl⟩
 ·rw [List.pairwise_append]
  refine ⟨hw.apart, by simp, fun r hr s hs g hg => ?_⟩
  simp only [List.mem_singleton] at hs
  subst hs
  intro h2
  have h2' : x.b = g := by simpa [Value.ownBlock] using h2
  exact ((hw.row r hr).2 g hg).1 x hxm h2'
end
section abs
variable {md : Region.Mode} {ops : Array Oper} {Y : Oper → Act → Value → Prop}
def wpPureY (ops : Array Oper) (Y : Oper → Act → Value → Prop) (K : Act → Prop) : List Oper → Act → Prop
 | [], a => K a
 | o :: rest, a => if Region.wanted o (yielded ops a.tmps) then ∃ v, Y o a v ∧ wpPureY ops Y K rest (a.put o.dst v) else wpPureY ops Y K rest (a.put o.dst undef)
end abs
def isAlloc (o : Oper) : Bool := match o.op with | .alloc _ => true | _ => false
def YA (P : Program) (b : Nat) (C : World → Prop) (o : Oper) (a : Act) (v : Value) : Prop :=
 bif isAlloc o then v = .pointer (some ⟨b, 0, none⟩) else ∀ w, C w → (execOp a.eval o).run P w = .ok (.value v) w
section alloc
variable {P : Program} {ops : Array Oper} {Q : Exit → Act → World → Prop} {L : Array Bool → Act → Prop} {ro : Option Nat}
end alloc
def DY (X : Cx) (Ps : Past) (l0 : List Oper) (b : Nat) (K : Act → Prop) (l : List Oper) (σ : St) : Prop :=
 ∀ Cw : World → Prop, (∀ w, Cw w → HW X.B X.w0 Ps ⟨[], σ.bx, σ.rw⟩ w) → ∀ a, HA X.N X.ds σ a → wpPureY l0.toArray (YA X.P b Cw) K l a
section walk
variable {X : Cx} {T : TT} {Ps : Past} {σ σ' : St} {l0 l rest : List Oper} {Q : Exit → Act → World → Prop} {K : Act → Prop} {o : Oper} {b : Nat}
variable {sl sl' : List (Nat × AV)} {bx : List Bx} {rw : List Rw}
end walk
end Go.E
namespace Go.E
set_option maxHeartbeats 8000000
theorem svQ {Ps Ps' : Past} {σ σ' : St} (h : Serves Ps σ Ps' σ' := by exact ⟨⟨_, rfl, obQ⟩, ⟨_, rfl⟩, rfl, pstQ⟩) : Serves Ps σ Ps' σ' := h
end Go.E
