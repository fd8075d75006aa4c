/- Further operations: calls that turn a row that they are handed. -/
import Derived.Test.YtedlaominconaaaEngAA
namespace Go.E
set_option linter.unusedSimpArgs false
set_option linter.unusedVariables false
open Go.RowKit

section
variable {X : Cx} {Ps : Past} {σ : St} {l0 l rest : List Oper} {Q : Exit → Act → World → Prop} {o : Oper}
variable {sl : List (Nat × AV)} {bx : List Bx} {rw : List Rw}
/-! ### Calls that turn a row that they are handed -/

theorem calls_ofRow {P : Program} {T : TT} {f : FuncId} {fn : Func} {c : Code} {args : List Value} {w : World} {R : Ending → World → Prop} {N : Nat} (hT : TOk P T) (hf : P.funcs[f]? = some fn) (hb : fn.body = some c) (hN : fn.ntmps = N) (hn : args.length ≤ N)
    {sl : List (Nat × AV)} (hs : argsC args 0 some = some sl) (r : Rw) (hr : w.ownsRow 0 r.e r.size r.val r.n r.xs) (h : C ⟨P, T, hT, N, 0, w, [], none⟩ [(w, fun b => b < w.heap.size ∧ r.val.ownBlock ≠ some b)] (bodyPost P fn R) c ⟨sl, [], [r]⟩) : Calls P f args.toArray w R := by
  subst hN
  have hs' := Option.some.inj (argsC_some _ _ _ _ hs)
  subst hs'
  refine calls_of_wp hf hb (wpIn_wide.1 (h _ w ⟨?_, rfl, fun t v hv => ?_⟩ ⟨Below.refl _ _, Nat.zero_le _, by simp, by simp, fun p hp b hpb => ?_, fun r' hr' => ?_, by simp, by simp⟩))
  · simp; omega
  · obtain ⟨_, u, h2, rfl⟩ := argsL_look args 0 t v hv
    simp only [Nat.sub_zero] at h2
    have : t < args.length := (List.getElem?_eq_some_iff.1 h2).1
    have h5 := (List.getElem?_eq_some_iff.1 h2).2
    simp [Array.getElem?_append, this, AV.c, PV.c, h5]
  · simp only [List.mem_singleton] at hp
    subst hp
    exact ⟨⟨hpb.1, rfl⟩, by simp⟩
  · simp only [List.mem_singleton] at hr'
    subst hr'
    refine ⟨hr, fun g hg => ⟨by simp, fun p hp hpb => ?_⟩⟩
    simp only [List.mem_singleton] at hp
    subst hp
    exact hpb.2 hg
/-- What such a walk hands back. -/
theorem HW.turned {w0 w : World} {r r' : Rw} {sl : List (Nat × AV)} {bx : List Bx} {Ps : Past} {rs : List Rw} (hw : HW 0 w0 Ps ⟨sl, bx, r' :: rs⟩ w) (hp : (w0, fun b => b < w0.heap.size ∧ r.val.ownBlock ≠ some b) ∈ Ps) {e size n : Nat} {v : Value} {xs : List Value} (h1 : r'.e = e ∧ r'.size = size ∧ r'.val = v ∧ r'.n = n ∧ r'.xs = xs) (hv : r.val = v) :
    w0.grownBy w v.ownBlock ∧ w.ownsRow 0 e size v n xs := by
  obtain ⟨rfl, rfl, rfl, rfl, rfl⟩ := h1
  refine ⟨⟨hw.below.os, hw.below.tape, hw.below.output, hw.below.size, fun k hk hne => ?_⟩, (hw.row r' (by simp)).1⟩
  exact (hw.past _ hp k ⟨hk, fun e => hne (by rw [← hv]; exact e.symm)⟩).1.2
theorem ownsRow_up {w : World} {B e size n : Nat} {v : Value} {xs : List Value} (h : w.ownsRow 0 e size v n xs) (hB : ∀ g, v.ownBlock = some g → B ≤ g) : w.ownsRow B e size v n xs := by
  obtain ⟨h1, h2⟩ := h
  refine ⟨h1, ?_⟩
  rcases h2 with h2 | ⟨g, cap, cur, h3, h4, h5⟩
  · exact .inl h2
  · exact .inr ⟨g, cap, cur, h3, hB g (by rw [h3]; rfl), h5⟩
theorem S_callMut {f : FuncId} {args : List Value} {d : Nat} {ob : List Prop} (i : Nat) {r : Rw} (hr : nth rw i = some r) (xs' : List Value) (h : callV X.N o ⟨sl, bx, rw⟩ = some (f, args, d, ob)) (hob : AllP ob) (he : entB X.P f = true)
    (hc : ∀ w, HW X.B X.w0 Ps ⟨sl, bx, rw⟩ w → w.ownsRow 0 r.e r.size r.val r.n r.xs → Calls X.P f args.toArray w fun e w' => ∃ v, e = .returned v ∧ w.grownBy w' r.val.ownBlock ∧ w'.ownsRow 0 r.e r.size r.val r.n xs')
    (k : ∀ v, S X Ps l0 Q rest ⟨(d, .s (.v v)) :: sl, bx, rw.set i ⟨r.e, r.size, r.n, xs', r.val⟩⟩) : S X Ps l0 Q (o :: rest) ⟨sl, bx, rw⟩ := by
  intro a w ha hw
  obtain ⟨hg, hd, hlt, hrun⟩ := callV_run (w := w) (P := X.P) ha h hob he
  refine wpl_step fun K hK => ?_
  rw [wanted_none hg, if_pos rfl]
  unfold Oper.wp
  rw [hrun, Oper.upon_enter]
  have hir : rw[i]? = some r := by rw [← nth_eq]; exact hr
  have hro := (hw.row r (nth_mem hr)).1
  refine (hc w hw (ownsRow_base hro (Nat.zero_le _))).mono ?_
  rintro e w' ⟨v, rfl, hgrow, hown⟩
  rw [hd]
  exact hK _ _ (k v _ w' (ha.put hlt (.s (.v v)) rfl) (HW.setRw hw (r' := ⟨r.e, r.size, r.n, xs', r.val⟩) hir hgrow (ownsRow_up hown fun g hg' => (ownsRow_blockLt hro hg').2) (fun g1 h => .inl h)))
/-- A call that hands over a row with an element or more. -/
theorem S_callRowS {f : FuncId} {args : List Value} {d : Nat} {ob : List Prop} (e : TypeId) (size n : Nat) (xs : List Value) (hn : 0 < n) (h : callV X.N o ⟨sl, bx, rw⟩ = some (f, args, d, ob)) (hob : AllP ob) (he : entB X.P f = true)
    (hc : ∀ w, HW X.B X.w0 Ps ⟨sl, bx, rw⟩ w → Calls X.P f args.toArray w fun r w' => ∃ v, r = .returned v ∧ Below w.heap.size w w' ∧ w'.ownsRow w.heap.size e size v n xs)
    (k : ∀ g cap, S X Ps l0 Q rest ⟨(d, .s (.r (some ⟨g, 0, none⟩) n cap rw.length)) :: sl, bx, rw ++ [⟨e, size, n, xs, .slice (some ⟨g, 0, none⟩) n cap⟩]⟩) : S X Ps l0 Q (o :: rest) ⟨sl, bx, rw⟩ := by
  intro a w ha hw
  obtain ⟨hg, hd, hlt, hr⟩ := callV_run (w := w) (P := X.P) ha h hob he
  refine wpl_step fun K hK => ?_
  rw [wanted_none hg, if_pos rfl]
  unfold Oper.wp
  rw [hr, Oper.upon_enter]
  refine (hc w hw).mono ?_
  rintro r w' ⟨v, rfl, hb, hown⟩
  rw [hd]
  have hw1 := hw.ext hb
  have hblk : ∀ g, v.ownBlock = some g → (∀ x ∈ bx, x.b ≠ g) ∧ (∀ p ∈ Ps, ¬ p.2 g) ∧ ∀ s ∈ rw, s.val.ownBlock ≠ some g := fun g hg' => by
    have hge := (ownsRow_blockLt hown hg').2
    exact ⟨fun x hx e => by have := hw.lt (x := x) hx; omega, fun p hp hpb => by have := (hw.past p hp g hpb).1.1; omega, fun s hs e => by have := (ownsRow_blockLt (hw.row s hs).1 e).1; omega⟩
  obtain ⟨g, cap, rfl⟩ : ∃ g cap, v = .slice (some ⟨g, 0, none⟩) n cap := by
    rcases hown.2 with ⟨h2, h3⟩ | ⟨g, cap, cur, h2, _⟩
    · omega
    · exact ⟨g, cap, h2⟩
  exact hK _ _ (k g cap _ w' (ha.put hlt (.s (.r (some ⟨g, 0, none⟩) n cap rw.length)) rfl) (HW.addRow hw1 (r := ⟨e, size, n, xs, .slice (some ⟨g, 0, none⟩) n cap⟩) (ownsRow_base hown hw.bsize) hblk))
/-- Rows that are needed no more. -/
theorem G_rows {rw' : List Rw} {e : Exit} (h : rw' <+: rw) (k : G X Ps Q e ⟨sl, bx, rw'⟩) : G X Ps Q e ⟨sl, bx, rw⟩ := fun a w ha hw =>
  k a w ⟨ha.size, ha.defers, ha.at_⟩ ⟨hw.below, hw.bsize, hw.nodup, hw.box, hw.past, fun r hr => hw.row r (h.subset hr), hw.apart.sublist h.sublist, hw.old⟩
/-- An operation under a guard that does not hold, in a region that draws its order. -/
theorem D_offG {K : Act → Prop} {j : Nat} {b : Bool} {ctx : List (Bool × Bool)} {d : Nat} (x : PV) (hg : o.guard = some (j, b)) (hd : o.dst = some d) (hlt : Nat.blt d X.N = true) (hx : gctx l0 ⟨sl, bx, rw⟩ (some (j, b)) = some ctx) (hc : gOk ctx = false)
    (k : D X Ps l0 K rest ⟨(d, .g ctx x) :: sl, bx, rw⟩) : D X Ps l0 K (o :: rest) ⟨sl, bx, rw⟩ := by
  intro a ha
  have hwant := gctx_ok ha (o := o) (l0 := l0) (ctx := ctx) (by rw [hg]; exact hx)
  refine wpQuiet_step fun K' hK => ?_
  rw [hwant, hc, if_neg (by simp), hd]
  have hp := ha.putG (by simpa using hlt) ctx x (bx' := bx) (rw' := rw)
  rw [hc, if_neg (by simp)] at hp
  exact hK _ (k _ hp)
theorem gok_true {b : Bool} {g : List (Bool × Bool)} (h : gOk ((b, true) :: g) = true) : b = true ∧ gOk g = true := by
  simp only [gOk, Bool.and_eq_true, beq_iff_eq] at h
  exact h
end
end Go.E
