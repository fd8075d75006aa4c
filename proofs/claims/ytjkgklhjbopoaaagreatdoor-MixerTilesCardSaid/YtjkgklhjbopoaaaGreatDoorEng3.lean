/- Parts of the walks' engine. -/
import Derived.Test.YtjkgklhjbopoaaaGreatDoorEng2
import Derived.Lib.OthersKept
import Derived.Maps.Own
import Derived.Maps.Views
import Derived.ChangeKeysEq
import Derived.OrdersHeld
namespace Go.E
set_option linter.all false
open Go.RowKit
set_option maxHeartbeats 8000000
def isWr (o : Oper) : Bool := match o.op with | .store _ _ _ => true | _ => false
def isLate (L : List Nat) (o : Oper) : Bool := match o.dst with | some d => L.any (Nat.beq d) | none => false
def YB (P : Program) (C1 C2 : World → Prop) (L : List Nat) (o : Oper) (a : Act) (v : Value) : Prop :=
 bif isWr o then v = undef ∧ ∀ w, C1 w → ∃ w', (execOp a.eval o).run P w = .ok .skip w' ∧ C2 w'
 else (∀ w, C1 w → o.quietAt P a C1 w v) ∧ (isLate L o = true → ∀ w, C2 w → o.quietAt P a C2 w v)
section two
variable {P : Program} {ops : Array Oper} {Q : Exit → Act → World → Prop} {L : Array Bool → Act → Prop} {C1 C2 : World → Prop} {LL : List Nat} {ro : Option Nat}
end two
def DS (X : Cx) (Ps : Past) (l0 : List Oper) (bx2 : List Bx) (LL : List Nat) (K : Act → Prop) (l : List Oper) (σ : St) : Prop :=
 ∀ a, HA X.N X.ds σ a → wpPureY l0.toArray (YB X.P (fun w => HW X.B X.w0 Ps ⟨[], σ.bx, σ.rw⟩ w) (fun w => HW X.B X.w0 Ps ⟨[], bx2, σ.rw⟩ w) LL) K l a
section walk
variable {X : Cx} {T : TT} {Ps : Past} {σ σ' : St} {l0 l rest : List Oper} {Q : Exit → Act → World → Prop} {K : Act → Prop} {o : Oper} {LL : List Nat}
variable {sl sl' : List (Nat × AV)} {bx bx2 : List Bx} {rw : List Rw}
end walk
def KpS (S : Nat → Prop) (W W' : World) : Prop := W.heap.size ≤ W'.heap.size ∧ ∀ b, S b → b < W.heap.size → W'.heap[b]? = W.heap[b]?
theorem KpS.trans {S : Nat → Prop} {A B C : World} (h : KpS S A B) (k : KpS S B C) : KpS S A C :=
 ⟨Nat.le_trans h.1 k.1, fun b hb hl => (k.2 b hb (Nat.lt_of_lt_of_le hl h.1)).trans (h.2 b hb hl)⟩
def Seq {α : Type} (P : Program) (gf : Nat) (lb : Array Value) (encs : α → Array Value) (xs : List α) (S : Nat → Prop) (w : World) : Prop :=
 SeqStopsK (FR none) 8 P gf lb encs (KpS S) (fun ys => ys = xs) (fun pre => pre <+: xs) xs.length w
section
variable {P : Program} {B : Nat} {w0 : World} {Ps : Past} {σ : St}
theorem HW.grown {L : Nat} {W W' : World} (hw : HW B w0 Ps σ W) {row : Option Nat} (hg : W.grownBy W' row) (hr : ∀ r, row = some r → L ≤ r ∧ ∃ o : Obj, W.heap[r]? = some o ∧ o.isCells = false) (hP : ∀ p ∈ Ps, ∀ b, p.2 b → b < L) (hB : B ≤ L) : HW B w0 Ps σ W' := by
 have keep : ∀ k, k < W.heap.size → (∀ r, row = some r → r ≠ k) → W'.heap[k]? = W.heap[k]? := fun k hk hne => hg.block k hk fun e => hne k e.symm rfl
 have hcell : ∀ (k : Nat) (o : Obj), W.heap[k]? = some o → o.isCells = true → W'.heap[k]? = W.heap[k]? := fun k o hk hc => keep k (Array.getElem?_eq_some_iff.1 hk).1 fun r e he => by
  obtain ⟨_, o', ho', hc'⟩ := hr r e
  rw [he, hk] at ho'
  cases ho'
  rw [hc] at hc'
  cases hc'
 have hs := hg.size
 refine ⟨⟨hg.os.trans hw.below.os, hg.tape.trans hw.below.tape, hg.output.trans hw.below.output, by have := hw.below.size; omega, fun k hk => ?_⟩, by have := hw.bsize; omega, hw.nodup, fun x hx => ?_, fun p hp b hb => ?_, fun r hr' => ?_, hw.apart, fun p hp => by have := hw.old p hp; omega⟩
 ·have hbs := hw.bsize
  rw [keep k (by omega) fun r e he => by have := (hr r e).1; omega]
  exact hw.below.block k hk
 ·obtain ⟨h1, h2⟩ := hw.box x hx
  exact ⟨h1, (hcell _ _ h2 rfl).trans h2⟩
 ·obtain ⟨⟨h1, h2⟩, h3⟩ := hw.past p hp b hb
  exact ⟨⟨by omega, (keep b h1 fun r e he => by have := (hr r e).1; have := hP p hp b hb; omega).trans h2⟩, h3⟩
 ·obtain ⟨h1, h2⟩ := hw.row r hr'
  refine ⟨F9 h1 fun g hgb => ?_, h2⟩
  rcases h1.2 with ⟨hn, _⟩ | ⟨g', cap, cur, hv, _, hh, _⟩
  ·rw [hn] at hgb
   simp [Value.ownBlock] at hgb
  ·rw [hv] at hgb
   have hgg : g' = g := by simpa [Value.ownBlock] using hgb
   subst hgg
   exact hcell _ _ hh rfl
def Sb (W : World) (σ : St) (b : Nat) : Prop := b < W.heap.size ∧ (∀ x ∈ σ.bx, x.b ≠ b) ∧ ∀ r ∈ σ.rw, r.val.ownBlock ≠ some b
theorem HW.sb {W : World} (hw : HW B w0 Ps σ W) : HW B w0 ((W, Sb W σ) :: Ps) σ W := by
 refine ⟨hw.below, hw.bsize, hw.nodup, hw.box, fun p hp b hb => ?_, fun r hr => ?_, hw.apart, fun p hp => ?_⟩
 ·rw [List.mem_cons] at hp
  rcases hp with rfl | hp
  ·exact ⟨⟨hb.1, rfl⟩, hb.2.1⟩
  ·exact hw.past p hp b hb
 ·obtain ⟨h1, h2⟩ := hw.row r hr
  refine ⟨h1, fun g hg => ⟨(h2 g hg).1, fun p hp => ?_⟩⟩
  rw [List.mem_cons] at hp
  rcases hp with rfl | hp
  ·exact fun hb => hb.2.2 r hr hg
  ·exact (h2 g hg).2 p hp
 ·rw [List.mem_cons] at hp
  rcases hp with rfl | hp
  ·exact Nat.le_refl _
  ·exact hw.old p hp
theorem HW.tail {p : World × (Nat → Prop)} {W : World} (hw : HW B w0 (p :: Ps) σ W) : HW B w0 Ps σ W :=
 ⟨hw.below, hw.bsize, hw.nodup, hw.box, fun q hq => hw.past q (List.mem_cons_of_mem _ hq), fun r hr => ⟨(hw.row r hr).1, fun g hg => ⟨((hw.row r hr).2 g hg).1, fun q hq => ((hw.row r hr).2 g hg).2 q (List.mem_cons_of_mem _ hq)⟩⟩, hw.apart, fun q hq => hw.old q (List.mem_cons_of_mem _ hq)⟩
theorem HW.keeps {W W' : World} {σ' : St} (h0 : HW B w0 Ps σ W) (hw : HW B w0 ((W, Sb W σ) :: Ps) σ' W') (L : Nat) : KeepsFrom L W W' ∧ KpS (fun b => ∃ p ∈ Ps, p.2 b) W W' := by
 have hsz : W.heap.size ≤ W'.heap.size := hw.old (W, Sb W σ) (by simp)
 refine ⟨⟨hsz, fun k o _ hk ho => ?_⟩, hsz, fun b ⟨p, hp, hb⟩ _ => ?_⟩
 ·have hs : Sb W σ k := by
   refine ⟨(Array.getElem?_eq_some_iff.1 hk).1, fun x hx e => ?_, fun r hr e => ?_⟩
   ·have := (h0.box x hx).2
    rw [e, hk] at this
    cases this
    cases ho
   ·rcases (h0.row r hr).1.2 with ⟨hn, _⟩ | ⟨g', cap, cur, hv, _, hh, _⟩
    ·rw [hn] at e
     simp [Value.ownBlock] at e
    ·rw [hv] at e
     have hgg : g' = k := by simpa [Value.ownBlock] using e
     subst hgg
     rw [hk] at hh
     cases hh
     cases ho
  exact (hw.past (W, Sb W σ) (by simp) k hs).1.2.trans hk
 ·exact ((hw.past p (by simp [hp]) b hb).1.2).trans ((h0.past p hp b hb).1.2.symm)
end
def asgL (sl : List (Nat × AV)) : List (Nat × Value) → List (Nat × AV)
 | [] => sl
 | (t, v) :: r => asgL ((t, .s (.v v)) :: sl) r
theorem HA.asg {N : Nat} {ds : List Nat} {bx : List Bx} {rw : List Rw} : ∀ (l : List (Nat × Value)) {sl : List (Nat × AV)} {a : Act}, HA N ds ⟨sl, bx, rw⟩ a → (∀ x ∈ l, x.1 < N) →
  HA N ds ⟨asgL sl l, bx, rw⟩ { a with tmps := l.foldl (fun t x => t.setIfInBounds x.1 x.2) a.tmps }
 | [], sl, a, ha, _ => ha
 | (t, v) :: l, sl, a, ha, hl => by
  have h1 := HA.put ha (hl (t, v) (by simp)) (.s (.v v)) (σ' := ⟨(t, .s (.v v)) :: sl, bx, rw⟩) rfl
  exact HA.asg l h1 fun x hx => hl x (by simp [hx])
section loop
variable {X : Cx} {Ps : Past} {σ : St} {Q : Exit → Act → World → Prop} {α : Type}
abbrev Xr (X : Cx) (l : Nat) : Cx := { X with ds := [], ro := some l }
abbrev Xd (X : Cx) (D : Nat) : Cx := { X with ds := D :: X.ds }
end loop
section
variable {X : Cx} {T : TT} {Ps : Past} {σ σ' : St} {l0 l rest : List Oper} {Q : Exit → Act → World → Prop} {K : Act → Prop} {o : Oper}
variable {sl : List (Nat × AV)} {bx : List Bx} {rw : List Rw}
theorem HW.addRow {B : Nat} {w0 w : World} (hw : HW B w0 Ps ⟨sl, bx, rw⟩ w) {r : Rw} (hown : w.ownsRow B r.e r.size r.val r.n r.xs)
  (hg : ∀ g, r.val.ownBlock = some g → (∀ x ∈ bx, x.b ≠ g) ∧ (∀ p ∈ Ps, ¬ p.2 g) ∧ ∀ s ∈ rw, s.val.ownBlock ≠ some g) {sl' : List (Nat × AV)} : HW B w0 Ps ⟨sl', bx, rw ++ [r]⟩ w := by
 refine ⟨hw.below, hw.bsize, hw.nodup, hw.box, hw.past, fun s hs => ?_, ?_, hw.old⟩
 ·simp only [List.mem_append, List.mem_singleton] at hs
  rcases hs with hs | rfl
  ·exact hw.row s hs
  ·exact ⟨hown, fun g h => ⟨(hg g h).1, (hg g h).2.1⟩⟩
 ·rw [List.pairwise_append]
  refine ⟨hw.apart, by simp, fun s hs r' hr' g h1 h2 => ?_⟩
  simp only [List.mem_singleton] at hr'
  subst hr'
  exact (hg g h2).2.2 s hs h1
def makeV (N : Nat) (n : Nat) (o : Oper) (σ : St) : Option (TypeId × Nat × List Prop) :=
 match o.guard with
 | some _ => none
 | none => match o.dst with
  | none => none
  | some d => match Nat.blt d N with
   | false => none
   | true => match o.op with
    | .makeSlice t l c => match evp σ [] l [] with
     | some (.v (.int _ a), ob) => match evp σ [] c ob with
      | some (.v (.int _ b), ob) => some (t, d, (a = (n : Int)) :: (b = (n : Int)) :: ob)
      | _ => none
     | _ => none
    | _ => none
theorem aJ5 (z : Array Value) (n : Nat) : (madeCells z (n * z.size)).toList = (List.replicate n z.toList).flatten := by
 apply List.ext_getElem?
 intro j
 by_cases hz : z.size = 0
 ·have h1 : z.toList = [] := by simpa using hz
  have h2 : ∀ m : Nat, (List.replicate m ([] : List Value)).flatten = [] := fun m => by induction m with | zero => rfl | succ m ih => simp [List.replicate_succ, ih]
  simp [madeCells, hz, h1, h2]
 ·have hlen : (List.replicate n z.toList).flatten.length = n * z.size := by simp
  by_cases hj : j < n * z.size
  ·rw [List.getElem?_eq_getElem (by simpa [madeCells] using hj), List.getElem?_eq_getElem (by rw [hlen]; exact hj)]
   congr 1
   have h1 : (madeCells z (n * z.size)).toList[j]'(by simpa [madeCells] using hj) = z[j % z.size]! := by simp [madeCells]
   rw [h1]
   have hm : j % z.size < z.size := Nat.mod_lt _ (by omega)
   have key : ∀ (m j : Nat) (h : j < (List.replicate m z.toList).flatten.length), (List.replicate m z.toList).flatten[j] = z[j % z.size]! := by
    intro m
    induction m with
    | zero => intro j h; simp at h
    | succ m ih =>
     intro j h
     simp only [List.replicate_succ, List.flatten_cons] at h ⊢
     by_cases hjz : j < z.size
     ·rw [List.getElem_append_left (by simpa using hjz), Nat.mod_eq_of_lt hjz]
      simp [hjz]
     ·rw [List.getElem_append_right (by simpa using Nat.le_of_not_lt hjz)]
      rw [ih]
      congr 1
      simp only [Array.length_toList]
      exact (Nat.mod_eq_sub_mod (Nat.le_of_not_lt hjz)).symm
   exact (key n j _).symm
  ·rw [List.getElem?_eq_none (by simpa [madeCells] using Nat.le_of_not_lt hj), List.getElem?_eq_none (by rw [hlen]; exact Nat.le_of_not_lt hj)]
theorem N5 {t : TypeId} {d : Nat} {ob : List Prop} (n : Nat) (h : makeV X.N n o ⟨sl, bx, rw⟩ = some (t, d, ob)) (hob : AllP ob) {ti te : TI} {e es : Nat} (hl : look X.T t = some ti) (hk : ti.k = .slice e es) (hle : look X.T e = some te) (hz : te.zero.length = es) (hsz : te.size = es)
  (hn : te.bytes * n ≤ 281474976710656 ∧ n ≤ 9223372036854775807 ∧ n ≤ maxLen)
  (k : ∀ g, S X Ps l0 Q rest ⟨(d, .s (.r (some ⟨g, 0, none⟩) n n rw.length)) :: sl, bx, rw ++ [⟨e, es, n, (List.replicate n te.zero).flatten, .slice (some ⟨g, 0, none⟩) n n⟩]⟩) : S X Ps l0 Q (o :: rest) ⟨sl, bx, rw⟩ := by
 intro a w ha hw
 unfold makeV at h
 split at h
 ·cases h
 ·rename_i hg
  split at h
  ·cases h
  ·rename_i d' hd
   split at h
   ·cases h
   ·rename_i hlt
    split at h
    ·rename_i t' l c hop
     split at h
     ·rename_i ka va ob1 he1
      split at h
      ·rename_i kb vb ob2 he2
       simp only [Option.some.injEq, Prod.mk.injEq] at h
       obtain ⟨rfl, rfl, rfl⟩ := h
       obtain ⟨rfl, rfl, hob2⟩ := hob
       obtain ⟨h2, h3⟩ := q5 ha rfl he2 hob2
       obtain ⟨h1, _⟩ := q5 ha rfl he1 h3
       obtain ⟨i, dd, z, hi, hu, hzz, rfl⟩ := X.hT.row hl
       obtain ⟨ie, de, ze, hie, hue, hze, rfl⟩ := X.hT.row hle
       obtain ⟨rfl, _⟩ := D5 hk
       have hbytes : (ie.bytes : Int) * (n : Int) ≤ 281474976710656 := by
        have h : ((ie.bytes * n : Nat) : Int) ≤ 281474976710656 := by have := hn.1; dsimp only at this; omega
        rwa [Int.natCast_mul] at h
       have hr := run_make (P := X.P) w t' e ie ze hu hie hze ka kb n n (by omega) (Int.le_refl _) hbytes (by have := hn.2.1; omega)
       have hsz' : ie.size = es := hsz
       have hzl : ze.cells.size = es := by simpa using hz
       simp only [Int.toNat_natCast, hsz'] at hr
       rw [← hzl] at hr
       refine v7 fun K hK => ?_
       rw [o7 hg, if_pos rfl]
       unfold Oper.wp
       have hcc : ∀ k (m : Int), (PV.v (Value.int k m)).c = .int k m := fun _ _ => rfl
       have hrun : (execOp a.eval o).run X.P w = .ok (.value (.slice (some ⟨w.heap.size, 0, none⟩) n n)) (w.alloc (.cells (madeCells ze.cells (n * ze.cells.size)) e)) := by
        simp only [execOp, hop, h1, h2, hcc, Sem.run_bind, hr, Result.andThen_ok, Sem.run_pure]
       rw [hrun, Oper.upon_value, hd]
       have hbel : Below w.heap.size w (w.alloc (.cells (madeCells ze.cells (n * ze.cells.size)) e)) := (Below.refl _ _).alloc (Nat.le_refl _) _
       have hw1 := hw.ext hbel
       refine hK _ _ (k w.heap.size _ _ (ha.put (by simpa using hlt) (.s (.r (some ⟨w.heap.size, 0, none⟩) n n rw.length)) rfl) (HW.addRow hw1 (r := ⟨e, es, n, (List.replicate n ze.cells.toList).flatten, .slice (some ⟨w.heap.size, 0, none⟩) n n⟩) ?_ ?_))
       ·refine ⟨by simp [hzl], .inr ⟨w.heap.size, n, _, rfl, hw.bsize, World.alloc_heap_new w _, Nat.le_refl _, hn.2.2, by rw [size_madeCells, hzl], ?_⟩⟩
        rw [aJ5, List.take_of_length_le]
        simp [hzl]
       ·intro g hg'
        have hgg : w.heap.size = g := by simpa [Value.ownBlock] using hg'
        subst hgg
        exact ⟨fun x hx => Nat.ne_of_lt (hw.lt hx), fun p hp hb => by have := (hw.past p hp _ hb).1.1; omega, fun s hs e => by have := (p8 (hw.row s hs).1 e).1; omega⟩
      ·cases h
     ·cases h
    ·cases h
def storeX (o : Oper) (σ : St) : Option (TypeId × Addr × PV × List Prop) :=
 match o.guard with
 | some _ => none
 | none => match o.dst with
  | some _ => none
  | none => match o.op with
   | .store t x y => match evp σ [] x [] with
    | some (.v (.pointer (some ad)), ob) => match evp σ [] y ob with
     | some (v, ob) => some (t, ad, v, ob)
     | none => none
    | _ => none
   | _ => none
theorem r6 {t : TypeId} {ad : Addr} {v : PV} {ob : List Prop} (h : storeX o ⟨sl, bx, rw⟩ = some (t, ad, v, ob)) (hob : AllP ob) {ti : TI} (hl : look X.T t = some ti) (hlen : (cellsOf v).length = ti.size) (hone : oneAll (cellsOf v) = true)
  (i : Nat) {r : Rw} (hr : nth rw i = some r) {g n cap : Nat} (hv : r.val = .slice (some ⟨g, 0, none⟩) n cap) (m : Nat) (hm : ad = (⟨g, 0, none⟩ : Addr).add m) (hin : m + ti.size ≤ r.xs.length)
  {xs' : List Value} (hxs : xs' = r.xs.take m ++ ((cellsOf v).map PV.c ++ r.xs.drop (m + ti.size))) {rw' : List Rw} (hrw : rw.set i ⟨r.e, r.size, r.n, xs', r.val⟩ = rw')
  (k : S X Ps l0 Q rest ⟨sl, bx, rw'⟩) : S X Ps l0 Q (o :: rest) ⟨sl, bx, rw⟩ := by
 intro a w ha hw
 subst hrw
 unfold storeX at h
 split at h
 ·cases h
 ·rename_i hg
  split at h
  ·cases h
  ·rename_i hd
   split at h
   ·rename_i t' x y hop
    split at h
    ·rename_i ad' ob1 he1
     split at h
     ·rename_i v' ob2 he2
      simp only [Option.some.injEq, Prod.mk.injEq] at h
      obtain ⟨rfl, rfl, rfl, rfl⟩ := h
      obtain ⟨h2, h3⟩ := q5 ha rfl he2 hob
      obtain ⟨h1, _⟩ := q5 ha rfl he1 h3
      obtain ⟨ii, d, z, hi, hu, hz, rfl⟩ := X.hT.row hl
      have hir : rw[i]? = some r := by rw [← E1]; exact hr
      obtain ⟨hro, hro2⟩ := hw.row r (F7 hr)
      obtain ⟨hrl, hrc⟩ := hro
      rcases hrc with ⟨hn, _⟩ | ⟨g', cap', cur, hv', hB, hheap, hncap, hcm, hcs, htake⟩
      ·rw [hn] at hv; cases hv
      ·have hgg : g' = g := by rw [hv] at hv'; simp at hv'; exact hv'.1.symm
       subst hgg
       have hcap : cap' = cap := by rw [hv] at hv'; have := Value.slice.inj hv'; exact this.2.2.symm
       subst hcap
       have hcsv := R5 v'
       have hlen' : (cellsOf v').length = ii.size := hlen
       have hvl : v'.c.cells.toList.length = ii.size := by rw [← hcsv]; simpa using hlen'
       have hinl : m + ii.size ≤ r.n * r.size := by rw [← hrl]; exact hin
       have hmul : r.n * r.size ≤ cap' * r.size := Nat.mul_le_mul_right _ (by
        have : r.n = n := by rw [hv] at hv'; have := Value.slice.inj hv'; exact this.2.1.symm
        exact hncap)
       have hrun := run_storeCells_at (P := X.P) g' m r.e v'.c.cells.toList 0 cur w hheap (by rw [hvl]; omega) (by rw [← hcsv]; exact aa2 hone)
       simp only [Nat.add_zero] at hrun
       have hadd : (⟨g', 0, none⟩ : Addr).add m = ⟨g', m, none⟩ := by rw [Addr.add_mid]; simp
       refine v7 fun K hK => ?_
       rw [o7 hg, if_pos rfl]
       unfold Oper.wp
       obtain ⟨cs', hcs'⟩ : ∃ cs', (cur.toList.take m ++ v'.c.cells.toList ++ cur.toList.drop (m + v'.c.cells.toList.length)).toArray = cs' := ⟨_, rfl⟩
       rw [hcs'] at hrun
       have hs2 : v'.c.cells.size = ii.size := by simpa using hvl
       have h1' : a.eval x = .pointer (some ⟨g', m, none⟩) := by rw [h1, hm, hadd]; rfl
       have hex : (execOp a.eval o).run X.P w = .ok .skip (w.setRow g' cs') := by
        simp only [execOp, hop, h1', h2, Instr.storeAt, Instr.sureAddr, storeVar, sizeOf, typeInfo, Sem.run_bind, Sem.run_pure, Result.andThen_ok, run_program, hi, hs2, ne_eq, not_true, if_false, hrun]
       rw [hex, Oper.upon_skip, hd]
       refine hK _ _ (k a _ ⟨ha.size, ha.defers, ha.at_⟩ (HW.setRw hw (r' := ⟨r.e, r.size, r.n, xs', r.val⟩) hir ?_ ?_ (fun g1 h => .inl h)))
       ·refine ⟨rfl, rfl, rfl, by simp [World.setRow], fun k' hk hne => D7 w g' _ (fun e => hne (by rw [hv, e]; rfl))⟩
       ·have hxl : xs'.length = r.n * r.size := by
         rw [hxs, ← hrl]
         simp only [List.length_append, List.length_take, List.length_map, hlen', List.length_drop]
         have : m + ii.size ≤ r.xs.length := hin
         show min m r.xs.length + (ii.size + (r.xs.length - (m + ii.size))) = r.xs.length
         omega
        refine ⟨hxl, .inr ⟨g', cap', cs', hv', hB, setRow_heap w g' cur cs' r.e (0, 0) hheap, hncap, hcm, ?_, ?_⟩⟩
        ·rw [← hcs']
         have : m + ii.size ≤ cur.size := by omega
         simp only [List.size_toArray, List.length_append, List.length_take, List.length_drop, hvl, Array.length_toList]
         rw [← hcs]
         omega
        ·rw [← hcs', hxs, ← hcsv]
         apply List.ext_getElem?
         intro j
         have e1 : ∀ j, r.xs[j]? = if j < r.n * r.size then cur.toList[j]? else none := fun j => by rw [← htake, List.getElem?_take]
         simp only [List.getElem?_take, List.getElem?_append, List.length_append, List.length_take, List.length_map, hlen', List.getElem?_drop, e1, Array.length_toList, hrl]
         have hc1 : min m cur.size = m := by omega
         have hc2 : min m (r.n * r.size) = m := by omega
         simp only [hc1, hc2]
         by_cases a1 : j < r.n * r.size <;> by_cases a2 : j < m <;> by_cases a3 : j < m + ii.size <;> by_cases a4 : j - m < ii.size <;> simp only [a1, a2, a3, a4, if_true, if_false] <;> first | rfl | (exfalso; omega) | skip
         all_goals first
          | (rw [if_pos (by omega)]; congr 1; omega)
          | (rw [if_neg (by omega)])
          | (simp; omega)
     ·cases h
    ·cases h
   ·cases h
end
section
variable {X : Cx} {T : TT} {Ps : Past} {σ σ' : St} {l0 l rest : List Oper} {Q : Exit → Act → World → Prop} {o : Oper}
variable {sl : List (Nat × AV)} {bx : List Bx} {rw : List Rw}
abbrev Xy (X : Cx) (W : World) : Cx := { X with B := W.heap.size, w0 := W }
abbrev Py (W : World) : Past := [(W, fun b => b < W.heap.size)]
theorem HW.abide {β : Type} {L : Nat} {W w : World} {J : β → World → Prop} {s : β} (hJ : AbidesFrom L J) (h : J s W) (hw : HW W.heap.size W Ps σ w) : J s w :=
 hJ s W w none h ⟨hw.below.os, hw.below.tape, hw.below.output, hw.below.size, fun k hk _ => hw.below.block k hk⟩ (fun r e => by cases e)
theorem aC2 (W : World) (sl : List (Nat × AV)) : HW W.heap.size W (Py W) ⟨sl, [], []⟩ W :=
 ⟨Below.refl _ _, Nat.le_refl _, by simp, by simp, fun p hp b hb => by
  simp only [Py, List.mem_singleton] at hp
  subst hp
  exact ⟨⟨hb, rfl⟩, by simp⟩, by simp, by simp, by simp⟩
def yieldG (N : Nat) (ctx : List (Bool × Bool)) (o : Oper) (σ : St) : Option (Nat × List Value × Nat × List Prop) :=
 match o.dst with
 | none => none
 | some d => match Nat.blt d N with
  | false => none
  | true => match o.op with
   | .call c => match c.callee with
    | .value fo => match evp σ ctx fo [] with
     | some (.v (.func (.yield l) first cap), ob) => match first.toList with
      | [] => partsV σ ctx (opsC c.args.toList) ob fun l' ob => valC l' fun vs => some (l, vs, d, ob)
      | _ :: _ => none
     | _ => none
    | _ => none
   | _ => none
theorem aC9 {N : Nat} {ds : List Nat} {ctx : List (Bool × Bool)} {a : Act} (_ : HA N ds σ a) {l : Nat} {args : List Value} {d : Nat} {ob : List Prop} (h : yieldG N ctx o σ = some (l, args, d, ob)) : o.dst = some d ∧ d < N := by
 unfold yieldG at h
 split at h
 ·cases h
 ·rename_i d hd
  split at h
  ·cases h
  ·rename_i hlt
   split at h
   ·rename_i c hop
    split at h
    ·rename_i fo hcal
     split at h
     ·rename_i l first cap ob1 hf
      split at h
      ·have key : ∀ (l : List (Nat × Operand)) (ob0 : List Prop) (k : List (Nat × PV) → List Prop → Option (Nat × List Value × Nat × List Prop)) (r : Nat × List Value × Nat × List Prop), partsV σ ctx l ob0 k = some r → ∃ l' ob', k l' ob' = some r := by
        intro l
        induction l with
        | nil => intro ob0 k r h; exact ⟨_, _, h⟩
        | cons x l ih =>
         intro ob0 k r h
         simp only [partsV] at h
         split at h
         ·obtain ⟨l', ob', h'⟩ := ih _ _ _ h
          exact ⟨_, _, h'⟩
         ·cases h
       obtain ⟨l', ob', hk⟩ := key _ _ _ _ h
       have h2 := H2 _ _ _ hk
       simp only [Option.some.injEq, Prod.mk.injEq] at h2
       obtain ⟨rfl, rfl, rfl, rfl⟩ := h2
       exact ⟨hd, by simpa using hlt⟩
      ·cases h
     ·cases h
    ·cases h
   ·cases h
theorem aD4 {N : Nat} {ds : List Nat} {w : World} {P : Program} {a : Act} (ha : HA N ds σ a) {ctx : List (Bool × Bool)} (hc : gOk ctx = true) {l : Nat} {args : List Value} {d : Nat} {ob : List Prop} (h : yieldG N ctx o σ = some (l, args, d, ob)) (hob : AllP ob) :
  (execOp a.eval o).run P w = (Instr.yield l args.toArray).run P w := by
 unfold yieldG at h
 split at h
 ·cases h
 ·split at h
  ·cases h
  ·split at h
   ·rename_i c hop
    split at h
    ·rename_i fo hcal
     split at h
     ·rename_i l first cap ob1 hf
      split at h
      ·rename_i hfirst
       obtain ⟨l', ob', hk, hp⟩ := E0 ha hc _ _ _ _ h
       have h2 := H2 _ _ _ hk
       simp only [Option.some.injEq, Prod.mk.injEq] at h2
       obtain ⟨rfl, rfl, rfl, rfl⟩ := h2
       obtain ⟨h3, h4⟩ := hp hob
       obtain ⟨h5, _⟩ := q5 ha hc hf h4
       have e1 : c.args.map a.eval = (l'.map fun x => x.2.c).toArray := by
        apply Array.toList_inj.1
        rw [ad4] at h3
        have := congrArg (List.map Prod.snd) h3
        simpa [List.map_map, Function.comp_def] using this
       have ef : first = #[] := Array.toList_inj.1 hfirst
       subst ef
       have hcc : (PV.v (Value.func (.yield l) #[] cap)).c = .func (.yield l) #[] cap := rfl
       obtain ⟨callee, args, argTypes⟩ := c
       simp only at hcal e1
       subst hcal
       simp [execOp, hop, resolve, h5, hcc, e1, Deferred.ofValue, invoke]
      ·cases h
     ·cases h
    ·cases h
   ·cases h
theorem roundR {m n l f : Nat} {P : Program} {tmps : Array Value} {assign body : Code} {w : World} {R : Ending → World → Prop} (h : RoundIn (FR none) m P l f tmps assign body w R) : RoundIn (FR none) n P l f tmps assign body w R :=
 ⟨h.1, fun c cs _ => h.2 c cs (roomR none _)⟩
def YOk {α : Type} (P : Program) (l : Nat) (encs : α → Array Value) (n : Nat) (S : Nat → Prop) (J Jx : List α → World → Prop) : Prop :=
 ∀ (pre : List α) (x : α) (W1 : World), J pre W1 → pre.length < n → YieldAt (FR none) 7 P l (encs x) W1 fun e W' =>
  (e = .returned (.bool true) ∧ J (pre ++ [x]) W' ∧ KpS S W1 W') ∨ (e = .returned (.bool false) ∧ Jx (pre ++ [x]) W')
theorem ay5 {α : Type} {W : World} {ctx : List (Bool × Bool)} (hro : X.ro = none) (hx : gctx l0 ⟨sl, bx, rw⟩ o.guard = some ctx) {lp : Nat} {args : List Value} {d : Nat} {ob : List Prop} (h : yieldG X.N ctx o ⟨sl, bx, rw⟩ = some (lp, args, d, ob)) (hob : gOk ctx = true → AllP ob)
  {L n : Nat} {Sx : Nat → Prop} {J Jx : List α → World → Prop} {encs : α → Array Value} (hJ : AbidesFrom L J) (hY : YOk X.P lp encs n Sx J Jx) (pre : List α) (x : α) (hj : J pre W) (hn : gOk ctx = true → pre.length < n) (hargs : gOk ctx = true → args = (encs x).toList)
  (k0 : gOk ctx = false → S (Xy X W) Ps l0 Q rest ⟨(d, .g ctx (.v (.bool true))) :: sl, bx, rw⟩)
  (k1 : gOk ctx = true → ∀ W', J (pre ++ [x]) W' → KpS Sx W W' → S (Xy X W') (Py W') l0 Q rest ⟨(d, .g ctx (.v (.bool true))) :: sl, [], []⟩)
  (k2 : gOk ctx = true → ∀ W', Jx (pre ++ [x]) W' → S (Xy X W') (Py W') l0 Q rest ⟨(d, .g ctx (.v (.bool false))) :: sl, [], []⟩) : S (Xy X W) Ps l0 Q (o :: rest) ⟨sl, bx, rw⟩ := by
 obtain ⟨P, T, hT, N, B, w0, ds, ro⟩ := X
 have hro' : ro = none := hro
 subst hro'
 intro a w ha hw
 obtain ⟨hd, hlt⟩ := aC9 ha h
 have hwant := N7 ha hx
 refine aB4 fun K hK => ?_
 rw [hwant]
 cases hg : gOk ctx with
 | true =>
  rw [if_pos rfl]
  refine ⟨fun _ _ => trivial, ?_⟩
  have hr := aD4 (w := w) (P := P) ha hg h (hob hg)
  have hjw := hw.abide hJ hj
  obtain ⟨fn, tmps, assign, body, hy, hR⟩ := hY pre x w hjw (hn hg)
  rw [show o.semAt (FR none).round a.eval = execOp a.eval o from rfl]
  have hr2 : (execOp a.eval o).run P w = .ok (.round lp fn tmps assign body) w := by
   rw [hr, hargs hg]
   simpa using hy
  show o.uponIn (FR none) 9 P a K Q ((execOp a.eval o).run P w)
  rw [hr2, Oper.uponIn_round]
  refine ⟨fun hd => (by cases hd), roundR (hR.mono ?_)⟩
  have hput : ∀ b : Bool, HA N ds ⟨(d, .g ctx (.v (.bool b))) :: sl, [], []⟩ (a.put (some d) (.bool b)) := fun b => by
   have := ha.putG hlt ctx (.v (.bool b)) (bx' := []) (rw' := [])
   rw [hg, if_pos rfl] at this
   exact this
  rintro e W' (⟨rfl, hj', hkp⟩ | ⟨rfl, hjx⟩)
  ·rw [hd]
   have hWw : KpS Sx W w := ⟨hw.below.size, fun b _ hb => hw.below.block b hb⟩
   have := k1 hg W' hj' (hWw.trans hkp) _ W' (hput true) (aC2 W' _)
   exact hK _ _ this
  ·rw [hd]
   have := k2 hg W' hjx _ W' (hput false) (aC2 W' _)
   exact hK _ _ this
 | false =>
  rw [if_neg (by simp), hd]
  have hp := ha.putG hlt ctx (.v (.bool true)) (bx' := bx) (rw' := rw)
  rw [hg, if_neg (by simp)] at hp
  have := k0 hg _ w hp (hw.same rfl rfl)
  exact hK _ _ this
theorem loopG {ro : Option Nat} {P : Program} {κ : Type} {A : κ → Act → World → Prop} {Inv : κ → Prop} {μ : κ → Nat} {c : Code} {a : Act} {w : World} (k0 : κ) (h0 : Inv k0) (hA : A k0 a w)
  (body : ∀ k, Inv k → ∀ a w, A k a w → c.wpIn (FR ro) 9 P (Exit.then (fun a' w' => ∃ j, Inv j ∧ μ j < μ k ∧ A j a' w') Q) a w) : (Code.loop c).wpIn (FR ro) 9 P Q a w := by
 have hd : ∀ (a : Act) (w : World), (∃ i, Inv i ∧ A i a w) → ∃ n, ∃ i, Inv i ∧ A i a w ∧ μ i = n ∧ ∀ j, Inv j → A j a w → n ≤ μ j := by
  rintro a w ⟨i, h1, h2⟩
  have : ∀ n i, μ i = n → Inv i → A i a w → ∃ n, ∃ i, Inv i ∧ A i a w ∧ μ i = n ∧ ∀ j, Inv j → A j a w → n ≤ μ j := by
   intro n
   induction n using Nat.strongRecOn with
   | _ n ih =>
    intro i hn h1 h2
    by_cases hlt : ∃ j, Inv j ∧ A j a w ∧ μ j < n
    ·obtain ⟨j, g1, g2, g4⟩ := hlt
     exact ih (μ j) g4 j rfl g1 g2
    ·refine ⟨n, i, h1, h2, hn, fun j g1 g2 => ?_⟩
     rcases Nat.lt_or_ge (μ j) n with h | h
     ·exact (hlt ⟨j, g1, g2, h⟩).elim
     ·exact h
  exact this _ i rfl h1 h2
 classical
 let M : Act → World → Nat := fun a w => if h : ∃ i, Inv i ∧ A i a w then Classical.choose (hd a w h) else 0
 have hM : ∀ a w (h : ∃ i, Inv i ∧ A i a w), ∃ i, Inv i ∧ A i a w ∧ μ i = M a w ∧ ∀ j, Inv j → A j a w → M a w ≤ μ j := by
  intro a w h
  have : M a w = Classical.choose (hd a w h) := by simp only [M, dif_pos h]
  rw [this]
  exact Classical.choose_spec (hd a w h)
 refine wpIn_loop (fun a w => ∃ i, Inv i ∧ A i a w) M ⟨k0, h0, hA⟩ fun a w h => ?_
 obtain ⟨i, h1, h2, h4, _⟩ := hM a w h
 refine wpIn_mono (body i h1 a w h2) (fun e a' w' q => ?_)
 cases e with
 | normal =>
  obtain ⟨j, g1, g2, g3⟩ := q
  have hex : ∃ i, Inv i ∧ A i a' w' := ⟨j, g1, g3⟩
  obtain ⟨_, _, _, _, hmin⟩ := hM a' w' hex
  exact ⟨hex, by have := hmin j g1 g3; omega⟩
 | exit id => exact q
 | goto l => exact q
 | ret => exact q
 | panic c => exact q
 | outgrown => exact q
def LoopY (X : Cx) {ι : Type} (I : ι → St) (Inv : ι → World → Prop) (μ : ι → Nat) (i : ι) : Act → World → Prop := fun a w => ∃ k : ι × World, Inv k.1 k.2 ∧ μ k.1 < μ i ∧ (HA X.N X.ds (I k.1) a ∧ HW k.2.heap.size k.2 (Py k.2) (I k.1) w)
theorem aq5 {W : World} {ι : Type} (I : ι → St) (Inv : ι → World → Prop) (μ : ι → Nat) (i0 : ι) (h0 : Inv i0 W) (hs : Serves Ps σ (Py W) (I i0)) {c : Code}
  (body : ∀ i W, Inv i W → C (Xy X W) (Py W) (Exit.then (LoopY X I Inv μ i) Q) c (I i)) : C (Xy X W) Ps Q (.loop c) σ := by
 intro a w ha hw
 exact loopG (κ := ι × World) (A := fun k a w => HA X.N X.ds (I k.1) a ∧ HW k.2.heap.size k.2 (Py k.2) (I k.1) w) (Inv := fun k => Inv k.1 k.2) (μ := fun k => μ k.1) (i0, W) h0 ⟨hs.ha ha, hs.hw hw⟩
  (fun k hk a w hA => body k.1 k.2 hk a w hA.1 hA.2)
theorem ao4 {W : World} {ι : Type} {I : ι → St} {Inv : ι → World → Prop} {μ : ι → Nat} {i : ι} (j : ι) (hj : Inv j W) (hlt : μ j < μ i) (hs : Serves Ps σ (Py W) (I j)) : G (Xy X W) Ps (Exit.then (LoopY X I Inv μ i) Q) .normal σ :=
 fun _ _ ha hw => ⟨(j, W), hj, hlt, hs.ha ha, hs.hw hw⟩
def RY {α : Type} (J Jx : List α → World → Prop) (xs : List α) (e : Ending) (w : World) : Prop := (∃ v, e = .returned v) ∧ ((∃ ys, ys = xs ∧ J ys w) ∨ ∃ pre, pre <+: xs ∧ Jx pre w)
theorem aT3 {α : Type} {P : Program} (hT : TOk P T) {gf : Nat} {fn : Func} {c : Code} {N : Nat} (hf : P.funcs[gf]? = some fn) (hb : fn.body = some c) (hN : fn.ntmps = N) {lb : List Value} (hn : lb.length + 1 ≤ N) {encs : α → Array Value} {xs : List α} {Sx : Nat → Prop} {w : World}
  (h : ∀ (l : Nat) (J Jx : List α → World → Prop) (W : World), Below w.heap.size w W → AbidesFrom W.heap.size J → AbidesFrom W.heap.size Jx → YOk P l encs xs.length Sx J Jx → J [] W →
   C (Xy ⟨P, T, hT, N, 0, default, [], none⟩ W) (Py W) (bodyPost P fn (RY J Jx xs)) c ⟨argsL (.func (.yield l) #[] #[] :: lb) 0, [], []⟩) : Seq P gf lb.toArray encs xs Sx w := by
 subst hN
 intro l J Jx W hW hJ hJx hY h0
 have hC := h l J Jx W hW hJ hJx hY h0
 have he : #[Value.func (.yield l) #[] #[]] ++ lb.toArray = (Value.func (.yield l) #[] #[] :: lb).toArray := by simp
 rw [he]
 refine callsR (calls_of_wp hf hb (wpIn_wide.1 (hC _ W ⟨?_, rfl, fun t v hv => ?_⟩ (aC2 W _))))
 ·simp; omega
 ·obtain ⟨_, u, h2, rfl⟩ := N3 _ 0 t v hv
  simp only [Nat.sub_zero] at h2
  have : t < (Value.func (.yield l) #[] #[] :: lb).length := (List.getElem?_eq_some_iff.1 h2).1
  have h5 := (List.getElem?_eq_some_iff.1 h2).2
  have h6 : t < lb.length + 1 := by simpa using this
  rw [Array.getElem?_append]
  simp [h6, AV.c, PV.c, h5]
theorem aU2 {α : Type} {W : World} {fn : Func} {V : Value} {ob : List Prop} {J Jx : List α → World → Prop} {xs : List α} {L : Nat} (hJ : AbidesFrom L J) (hj : J xs W) (h : retV X.T σ fn.results = some (V, ob)) (hob : AllP ob) (hds : X.ds = [] := by rfl) :
  G (Xy X W) Ps (bodyPost X.P fn (RY J Jx xs)) .normal σ := bz1 (X := Xy X W) h hob (fun w hw => ⟨⟨_, rfl⟩, .inl ⟨xs, rfl, hw.abide hJ hj⟩⟩) hds
theorem aT4 {α : Type} {W : World} {fn : Func} {V : Value} {ob : List Prop} {J Jx : List α → World → Prop} {xs pre : List α} {L : Nat} (hJ : AbidesFrom L Jx) (hj : Jx pre W) (hp : pre <+: xs) (h : retV X.T σ fn.results = some (V, ob)) (hob : AllP ob) (hds : X.ds = [] := by rfl) :
  G (Xy X W) Ps (bodyPost X.P fn (RY J Jx xs)) .ret σ := j4 (X := Xy X W) h hob (fun w hw => ⟨⟨_, rfl⟩, .inr ⟨pre, hp, hw.abide hJ hj⟩⟩) hds
end
structure DsP (B : Nat) (ds : List Nat) (Ps : Past) : Prop where
 all : ∀ D ∈ ds, B ≤ D ∧ ∃ p ∈ Ps, p.2 D ∧ p.1.heap[D]? = some (.deferred (some []))
 nodup : ds.Nodup
structure DsW (B : Nat) (ds : List Nat) (w : World) : Prop where
 all : ∀ D ∈ ds, B ≤ D ∧ w.heap[D]? = some (.deferred (some []))
 nodup : ds.Nodup
section
variable {X : Cx} {Ps Ps' : Past} {σ : St} {Q : Exit → Act → World → Prop} {ds : List Nat}
theorem DsP.nil (B : Nat) (Ps : Past) : DsP B [] Ps := ⟨by simp, by simp⟩
theorem DsP.weak {B : Nat} (h : DsP B ds Ps) (hp : ∀ p ∈ Ps, p ∈ Ps') : DsP B ds Ps' := ⟨fun D hD => let ⟨h1, p, h2, h3⟩ := h.all D hD; ⟨h1, p, hp p h2, h3⟩, h.nodup⟩
theorem DsP.cons {B D : Nat} {WD : World} (h : DsP B ds Ps) (hB : B ≤ D) (hD : WD.heap[D]? = some (.deferred (some []))) (hn : ∀ p ∈ Ps, ¬ p.2 D) : DsP B (D :: ds) ((WD, fun b => b = D) :: Ps) := by
 refine ⟨fun E hE => ?_, ?_⟩
 ·rw [List.mem_cons] at hE
  rcases hE with rfl | hE
  ·exact ⟨hB, _, List.Mem.head _, rfl, hD⟩
  ·obtain ⟨h1, p, h2, h3⟩ := h.all E hE
   exact ⟨h1, p, List.mem_cons_of_mem _ h2, h3⟩
 ·rw [List.nodup_cons]
  refine ⟨fun hE => ?_, h.nodup⟩
  obtain ⟨_, p, h2, h3, _⟩ := h.all D hE
  exact hn p h2 h3
theorem DsP.at_ {B : Nat} {w0 w : World} (h : DsP B ds Ps) (hw : HW B w0 Ps σ w) : DsW B ds w := ⟨fun D hD => let ⟨h1, p, h2, h3, h4⟩ := h.all D hD; ⟨h1, ((hw.past p h2 D h3).1.2).trans h4⟩, h.nodup⟩
theorem DsW.sb {B : Nat} {w0 w : World} (h : DsW B ds w) (hw : HW B w0 Ps σ w) : DsP B ds ((w, Sb w σ) :: Ps) := by
 refine ⟨fun D hD => ?_, h.nodup⟩
 obtain ⟨h1, h2⟩ := h.all D hD
 refine ⟨h1, _, List.Mem.head _, ⟨(Array.getElem?_eq_some_iff.1 h2).1, fun x hx e => ?_, fun r hr e => ?_⟩, h2⟩
 ·have := (hw.box x hx).2
  rw [e, h2] at this
  cases this
 ·rcases (hw.row r hr).1.2 with ⟨hn, _⟩ | ⟨g', cap, cur, hv, _, hh, _⟩
  ·rw [hn] at e
   simp [Value.ownBlock] at e
  ·rw [hv] at e
   have hgg : g' = D := by simpa [Value.ownBlock] using e
   subst hgg
   rw [h2] at hh
   cases hh
theorem br2 {fn : Func} {R : Ending → World → Prop} {V : Value} {ob : List Prop} (h : retV X.T σ fn.results = some (V, ob)) (hob : AllP ob) (hd : DsP X.B X.ds Ps)
  (k : ∀ w, HW X.B X.w0 [] σ w → R (.returned V) w) : G X Ps (bodyM X.P fn R) .ret σ := aO0 [] h hob hd.all hd.nodup (by simp) k
end
theorem HW.rdm {B : Nat} {w0 w W : World} {Ps : Past} {σ : St} {S : Nat → Prop} {A : Option Addr} {xs : List Value} (hw : HW B w0 Ps σ w) (h : RdS S W A xs) (hp : (W, S) ∈ Ps) : Rd w A xs := hw.rd hp h
theorem ae9 {α : Type} {f : α → List Value} {l : List α} {k : Nat} (h : k < l.length) : l.flatMap f = (l.take k).flatMap f ++ (f l[k] ++ (l.drop (k + 1)).flatMap f) := by
 conv => lhs; rw [← List.take_append_drop k l, List.drop_eq_getElem_cons h, List.flatMap_append, List.flatMap_cons]
theorem aW0 {α : Type} {f : α → List Value} {s : Nat} {l : List α} (hf : ∀ x, (f x).length = s) {k : Nat} (h : k < l.length) {o : Nat} {vs : List Value} (ho : o + vs.length ≤ s) {x : α} (hx : f x = (f l[k]).take o ++ (vs ++ (f l[k]).drop (o + vs.length))) :
  (l.flatMap f).take (k * s + o) ++ (vs ++ (l.flatMap f).drop (k * s + o + vs.length)) = (l.set k x).flatMap f := by
 have hl1 : ((l.take k).flatMap f).length = k * s := by
  rw [C7 (s := s) _ (fun x _ => hf x), List.length_take, Nat.min_eq_left (Nat.le_of_lt h)]
 have hs : (l.set k x).flatMap f = (l.take k).flatMap f ++ (f x ++ (l.drop (k + 1)).flatMap f) := by
  have h' : k < (l.set k x).length := by simpa using h
  rw [ae9 h', List.getElem_set_self, List.take_set, List.set_eq_of_length_le (by simp; omega), List.drop_set_of_lt (by omega)]
 rw [hs, hx, ae9 h]
 rw [List.take_append, List.drop_append, hl1]
 have e1 : k * s + o - k * s = o := by omega
 have e2 : k * s + o + vs.length - k * s = o + vs.length := by omega
 have e3 : ((l.take k).flatMap f).take (k * s + o) = (l.take k).flatMap f := List.take_of_length_le (by rw [hl1]; omega)
 have e4 : ((l.take k).flatMap f).drop (k * s + o + vs.length) = [] := List.drop_of_length_le (by rw [hl1]; omega)
 rw [e1, e2, e3, e4, List.nil_append]
 have hfl := hf l[k]
 rw [List.take_append_of_le_length (by omega), List.drop_append_of_le_length (by omega)]
 simp [List.append_assoc]
end Go.E
namespace Go.E
set_option linter.all false
open Go.RowKit Go.Lib
set_option maxHeartbeats 8000000
section
variable {X : Cx} {T : TT} {Ps : Past} {σ σ' : St} {l0 l rest : List Oper} {Q : Exit → Act → World → Prop} {o : Oper}
variable {sl : List (Nat × AV)} {bx : List Bx} {rw : List Rw}
abbrev Po (W : World) (k : Nat) : World × (Nat → Prop) := (W, fun b => b = k)
structure Own (X : Cx) (Ps : Past) (k : Nat) : Prop where
 lo : X.B ≤ k
 no : ∀ p ∈ Ps, ¬ p.2 k
theorem HW.obj {B : Nat} {w0 w w' W : World} {k : Nat} (hw : HW B w0 (Po W k :: Ps) σ w) (hB : B ≤ k) (hnp : ∀ p ∈ Ps, ¬ p.2 k) (hg : w.grownBy w' (some k)) : HW B w0 (Po w' k :: Ps) σ w' := by
 obtain ⟨⟨hk1, _⟩, hk3⟩ := hw.past (Po W k) (List.mem_cons_self ..) k rfl
 have hsame : ∀ j, j < w.heap.size → j ≠ k → w'.heap[j]? = w.heap[j]? := fun j hj hne => hg.block j hj (fun e => hne (Option.some.inj e))
 refine ⟨hw.below.grown hg hw.bsize (fun j hj => by rw [← Option.some.inj hj]; exact hB), by have := hg.size; have := hw.bsize; omega, hw.nodup, fun x hx => ⟨(hw.box x hx).1, (hsame _ (hw.lt hx) (hk3 x hx)).trans (hw.box x hx).2⟩, fun p hp b hpb => ?_, fun s hs => ?_, hw.apart, fun p hp => ?_⟩
 ·rcases List.mem_cons.1 hp with rfl | hp
  ·have hb : b = k := hpb
   subst hb
   exact ⟨⟨by have := hg.size; omega, rfl⟩, hk3⟩
  ·obtain ⟨⟨h1, h2⟩, h3⟩ := hw.past p (List.mem_cons_of_mem _ hp) b hpb
   exact ⟨⟨by have := hg.size; omega, (hsame b h1 (fun e => hnp p hp (e ▸ hpb))).trans h2⟩, h3⟩
 ·obtain ⟨h1, h2⟩ := hw.row s hs
  refine ⟨F9 h1 fun g hg' => hsame g (p8 h1 hg').1 (fun e => (h2 g hg').2 (Po W k) (List.mem_cons_self ..) e), fun g hg' => ⟨(h2 g hg').1, fun p hp hpb => ?_⟩⟩
  rcases List.mem_cons.1 hp with rfl | hp
  ·exact (h2 g hg').2 (Po W k) (List.mem_cons_self ..) hpb
  ·exact (h2 g hg').2 p (List.mem_cons_of_mem _ hp) hpb
 ·rcases List.mem_cons.1 hp with rfl | hp
  ·exact Nat.le_refl _
  ·have := hw.old p (List.mem_cons_of_mem _ hp)
   have := hg.size
   omega
theorem HW.objNew {B : Nat} {w0 w : World} (hw : HW B w0 Ps ⟨sl, bx, rw⟩ w) (O : Obj) : HW B w0 (Po (w.alloc O) w.heap.size :: Ps) ⟨sl, bx, rw⟩ (w.alloc O) := by
 have hbel : Below w.heap.size w (w.alloc O) := (Below.refl _ _).alloc (Nat.le_refl _) _
 have h := hw.ext hbel
 refine ⟨h.below, h.bsize, h.nodup, h.box, fun p hp b hpb => ?_, fun s hs => ?_, h.apart, fun p hp => ?_⟩
 ·rcases List.mem_cons.1 hp with rfl | hp
  ·have hb : b = w.heap.size := hpb
   subst hb
   exact ⟨⟨(Array.getElem?_eq_some_iff.1 (World.alloc_heap_new w O)).1, rfl⟩, fun x hx => Nat.ne_of_lt (hw.lt hx)⟩
  ·exact h.past p hp b hpb
 ·obtain ⟨h1, h2⟩ := h.row s hs
  refine ⟨h1, fun g hg' => ⟨(h2 g hg').1, fun p hp hpb => ?_⟩⟩
  rcases List.mem_cons.1 hp with rfl | hp
  ·have := (p8 (hw.row s hs).1 hg').1
   have hb : g = w.heap.size := hpb
   omega
  ·exact (h2 g hg').2 p hp hpb
 ·rcases List.mem_cons.1 hp with rfl | hp
  ·exact Nat.le_refl _
  ·exact h.old p hp
inductive NewO where
 | iter (s : ByteArray)
 | map
def NewO.obj : NewO → Obj
 | .iter s => .stringIter s 0
 | .map => .map #[] 0
def NewO.val : NewO → Nat → Value
 | .iter _, k => .pointer (some ⟨k, 0, none⟩)
 | .map, k => .map (some k)
def newO (N : Nat) (o : Oper) (σ : St) : Option (NewO × TypeId × Nat × List Prop) :=
 match o.guard with
 | some _ => none
 | none => match o.dst with
  | none => none
  | some d => match Nat.blt d N with
   | false => none
   | true => match o.op with
    | .range t x => match evp σ [] x [] with
     | some (.v (.string s), ob) => some (.iter s, t, d, ob)
     | _ => none
    | .makeMap t none => some (.map, t, d, [])
    | _ => none
theorem bi1 {c : NewO} {t : TypeId} {d : Nat} {ob : List Prop} (h : newO X.N o ⟨sl, bx, rw⟩ = some (c, t, d, ob)) (hob : AllP ob) (ht : (∃ s, c = .iter s) → X.P.underlying t = some .string)
  (k : ∀ k W, Own X Ps k → W.heap[k]? = some c.obj → S X (Po W k :: Ps) l0 Q rest ⟨(d, .s (.v (c.val k))) :: sl, bx, rw⟩) : S X Ps l0 Q (o :: rest) ⟨sl, bx, rw⟩ := by
 intro a w ha hw
 have key : o.guard = none ∧ o.dst = some d ∧ d < X.N ∧ (execOp a.eval o).run X.P w = .ok (.value (c.val w.heap.size)) (w.alloc c.obj) := by
  unfold newO at h
  split at h
  ·cases h
  ·rename_i hg
   split at h
   ·cases h
   ·rename_i d' hd
    split at h
    ·cases h
    ·rename_i hlt
     split at h
     ·rename_i t' x hop
      split at h
      ·rename_i s ob1 he
       simp only [Option.some.injEq, Prod.mk.injEq] at h
       obtain ⟨rfl, rfl, rfl, rfl⟩ := h
       obtain ⟨h1, _⟩ := q5 ha rfl he hob
       have h1' : a.eval x = .string s := h1
       have hr := run_range_string (P := X.P) w t' s (ht ⟨s, rfl⟩)
       refine ⟨hg, hd, by simpa using hlt, ?_⟩
       simp only [execOp, hop, h1', Sem.run_bind, hr, Result.andThen_ok, Sem.run_pure]
       rfl
      ·cases h
     ·rename_i t' hop
      simp only [Option.some.injEq, Prod.mk.injEq] at h
      obtain ⟨rfl, rfl, rfl, rfl⟩ := h
      refine ⟨hg, hd, by simpa using hlt, ?_⟩
      simp only [execOp, hop, Option.map_none, Sem.run_bind, run_makeMap, Result.andThen_ok, Sem.run_pure]
      rfl
     ·cases h
 obtain ⟨hg, hd, hlt, hrun⟩ := key
 refine v7 fun K hK => ?_
 rw [o7 hg, if_pos rfl]
 unfold Oper.wp
 rw [hrun, Oper.upon_value, hd]
 refine hK _ _ (k w.heap.size _ ⟨hw.bsize, fun p hp hb => ?_⟩ (World.alloc_heap_new w _) _ _ (ha.put hlt (.s (.v (c.val w.heap.size))) rfl) ((hw.objNew c.obj).same rfl rfl))
 have := (hw.past p hp _ hb).1.1
 omega
def nextX (N : Nat) (o : Oper) (σ : St) : Option (Nat × Nat × List Prop) :=
 match o.guard with
 | some _ => none
 | none => match o.dst with
  | none => none
  | some d => match Nat.blt d N with
   | false => none
   | true => match o.op with
    | .next x true => match evp σ [] x [] with
     | some (.v (.pointer (some ⟨k, 0, none⟩)), ob) => some (k, d, ob)
     | _ => none
    | _ => none
theorem aj3 {N : Nat} {ds : List Nat} {a : Act} (ha : HA N ds σ a) {k d : Nat} {ob : List Prop} (h : nextX N o σ = some (k, d, ob)) (hob : AllP ob) :
  o.guard = none ∧ o.dst = some d ∧ d < N ∧ ∃ x, o.op = .next x true ∧ a.eval x = .pointer (some ⟨k, 0, none⟩) := by
 unfold nextX at h
 split at h
 ·cases h
 ·rename_i hg
  split at h
  ·cases h
  ·rename_i d' hd
   split at h
   ·cases h
   ·rename_i hlt
    split at h
    ·rename_i x hop
     split at h
     ·rename_i k' ob1 he
      simp only [Option.some.injEq, Prod.mk.injEq] at h
      obtain ⟨rfl, rfl, rfl⟩ := h
      obtain ⟨h1, _⟩ := q5 ha rfl he hob
      exact ⟨hg, hd, by simpa using hlt, x, hop, h1⟩
     ·cases h
    ·cases h
theorem al9 (w : World) (k : Nat) (s : ByteArray) (pos : Nat) : w.grownBy (w.iterAt k s pos) (some k) :=
 ⟨rfl, rfl, rfl, by rw [iterAt_size]; exact Nat.le_refl _, fun j _ hj => iterAt_other w k j s pos (fun e => hj (by rw [e]))⟩
theorem bm2 {W : World} {k d : Nat} {ob : List Prop} {s : ByteArray} {pos : Nat} (h : nextX X.N o ⟨sl, bx, rw⟩ = some (k, d, ob)) (hob : AllP ob) (hown : Own X Ps k) (hat : W.heap[k]? = some (.stringIter s pos)) (hlt : pos < s.size)
  (c : ∀ W', W'.heap[k]? = some (.stringIter s (pos + (Utf8.decode s pos).2)) → S X (Po W' k :: Ps) l0 Q rest ⟨(d, .s (.v (.tuple #[.bool true, .int .i64 pos, .int .i32 (Utf8.decode s pos).1]))) :: sl, bx, rw⟩) : S X (Po W k :: Ps) l0 Q (o :: rest) ⟨sl, bx, rw⟩ := by
 intro a w ha hw
 obtain ⟨hg, hd, hl, x, hop, hx⟩ := aj3 ha h hob
 obtain ⟨⟨hk1, hk2⟩, _⟩ := hw.past (Po W k) (List.mem_cons_self ..) k rfl
 have hwk : w.heap[k]? = some (.stringIter s pos) := hk2.trans hat
 have hr := run_next_any_at (P := X.P) w k s pos o.type hwk hlt
 refine v7 fun K hK => ?_
 rw [o7 hg, if_pos rfl]
 unfold Oper.wp
 have hrun : (execOp a.eval o).run X.P w = .ok (.value (.tuple #[.bool true, .int .i64 pos, .int .i32 (Utf8.decode s pos).1])) (w.iterAt k s (pos + (Utf8.decode s pos).2)) := by
  simp only [execOp, hop, hx, Sem.run_bind, hr, Result.andThen_ok, Sem.run_pure]
 rw [hrun, Oper.upon_value, hd]
 exact hK _ _ (c _ (iterAt_heap w k s pos _ hwk) _ _ (ha.put hl (.s (.v (.tuple #[.bool true, .int .i64 pos, .int .i32 (Utf8.decode s pos).1]))) rfl) ((hw.obj hown.lo hown.no (al9 w k s _)).same rfl rfl))
theorem aM2 {W : World} {k d : Nat} {ob : List Prop} {s : ByteArray} {pos : Nat} (h : nextX X.N o ⟨sl, bx, rw⟩ = some (k, d, ob)) (hob : AllP ob) (hat : W.heap[k]? = some (.stringIter s pos)) (hlt : ¬ pos < s.size)
  (c : S X (Po W k :: Ps) l0 Q rest ⟨(d, .s (.v (.tuple #[.bool false]))) :: sl, bx, rw⟩) : S X (Po W k :: Ps) l0 Q (o :: rest) ⟨sl, bx, rw⟩ := by
 intro a w ha hw
 obtain ⟨hg, hd, hl, x, hop, hx⟩ := aj3 ha h hob
 obtain ⟨⟨hk1, hk2⟩, _⟩ := hw.past (Po W k) (List.mem_cons_self ..) k rfl
 have hwk : w.heap[k]? = some (.stringIter s pos) := hk2.trans hat
 have hr := run_next_end_at (P := X.P) w k s pos o.type hwk hlt
 refine v7 fun K hK => ?_
 rw [o7 hg, if_pos rfl]
 unfold Oper.wp
 have hrun : (execOp a.eval o).run X.P w = .ok (.value (.tuple #[.bool false])) w := by
  simp only [execOp, hop, hx, Sem.run_bind, hr, Result.andThen_ok, Sem.run_pure]
 rw [hrun, Oper.upon_value, hd]
 exact hK _ _ (c _ _ (ha.put hl (.s (.v (.tuple #[.bool false]))) rfl) (hw.same rfl rfl))
def LoopO (X : Cx) (Ps : Past) (k : Nat) {ι : Type} (I : ι → St) (Inv : ι → Prop) (Φ : ι → World → Prop) (μ : ι → Nat) (i : ι) : Act → World → Prop := fun a w => ∃ j, Inv j ∧ μ j < μ i ∧ (HA X.N X.ds (I j) a ∧ HW X.B X.w0 (Po w k :: Ps) (I j) w ∧ Φ j w)
theorem HW.now {B : Nat} {w0 w W : World} {k : Nat} (hw : HW B w0 (Po W k :: Ps) σ w) : HW B w0 (Po w k :: Ps) σ w := by
 refine ⟨hw.below, hw.bsize, hw.nodup, hw.box, fun p hp b hpb => ?_, fun s hs => ?_, hw.apart, fun p hp => ?_⟩
 ·rcases List.mem_cons.1 hp with rfl | hp
  ·obtain ⟨⟨h1, _⟩, h3⟩ := hw.past (Po W k) (List.mem_cons_self ..) b hpb
   exact ⟨⟨h1, rfl⟩, h3⟩
  ·exact hw.past p (List.mem_cons_of_mem _ hp) b hpb
 ·obtain ⟨h1, h2⟩ := hw.row s hs
  refine ⟨h1, fun g hg' => ⟨(h2 g hg').1, fun p hp hpb => ?_⟩⟩
  rcases List.mem_cons.1 hp with rfl | hp
  ·exact (h2 g hg').2 (Po W k) (List.mem_cons_self ..) hpb
  ·exact (h2 g hg').2 p (List.mem_cons_of_mem _ hp) hpb
 ·rcases List.mem_cons.1 hp with rfl | hp
  ·exact Nat.le_refl _
  ·exact hw.old p (List.mem_cons_of_mem _ hp)
def OnBlock (k : Nat) (φ : World → Prop) : Prop := ∀ w w', w'.heap[k]? = w.heap[k]? → φ w → φ w'
theorem bb3 {W : World} {k : Nat} {ι : Type} (I : ι → St) (Inv : ι → Prop) (Φ : ι → World → Prop) (μ : ι → Nat) (i0 : ι) (h0 : Inv i0) (hΦ : ∀ i, OnBlock k (Φ i)) (hat : Φ i0 W) (hs : Serves Ps σ Ps (I i0)) {c : Code}
  (body : ∀ i W, Inv i → Φ i W → C X (Po W k :: Ps) (Exit.then (LoopO X Ps k I Inv Φ μ i) Q) c (I i)) : C X (Po W k :: Ps) Q (.loop c) σ := by
 intro a w ha hw
 obtain ⟨⟨_, hk2⟩, _⟩ := hw.past (Po W k) (List.mem_cons_self ..) k rfl
 have hs2 : Serves (Po w k :: Ps) σ (Po w k :: Ps) (I i0) := ⟨hs.sl, hs.bx, hs.rw, fun p hp => hp⟩
 exact loopG (κ := ι) (A := fun i a w => HA X.N X.ds (I i) a ∧ HW X.B X.w0 (Po w k :: Ps) (I i) w ∧ Φ i w) (Inv := Inv) (μ := μ) i0 h0 ⟨hs.ha ha, hs2.hw hw.now, hΦ i0 W w hk2 hat⟩
  (fun i hi a w hA => body i w hi hA.2.2 a w hA.1 hA.2.1)
theorem bf5 {W : World} {k : Nat} {ι : Type} {I : ι → St} {Inv : ι → Prop} {Φ : ι → World → Prop} {μ : ι → Nat} {i : ι} (hΦ : ∀ i, OnBlock k (Φ i)) (j : ι) (hj : Inv j) (hat : Φ j W) (hlt : μ j < μ i) (hs : Serves Ps σ Ps (I j)) :
  G X (Po W k :: Ps) (Exit.then (LoopO X Ps k I Inv Φ μ i) Q) .normal σ := by
 intro a w ha hw
 obtain ⟨⟨_, hk2⟩, _⟩ := hw.past (Po W k) (List.mem_cons_self ..) k rfl
 have hs2 : Serves (Po w k :: Ps) σ (Po w k :: Ps) (I j) := ⟨hs.sl, hs.bx, hs.rw, fun p hp => hp⟩
 exact ⟨j, hj, hlt, hs.ha ha, hs2.hw hw.now, hΦ j W w hk2 hat⟩
theorem aE0 (k : Nat) (s : ByteArray) (pos : Nat) : OnBlock k (fun w => w.heap[k]? = some (.stringIter s pos)) := fun _ _ h h1 => h.trans h1
end
end Go.E
namespace Go.E
set_option linter.all false
open Go.RowKit
set_option maxHeartbeats 8000000
section
variable {X : Cx} {Ps : Past} {σ : St} {l0 l rest : List Oper} {Q : Exit → Act → World → Prop} {o : Oper}
variable {sl : List (Nat × AV)} {bx : List Bx} {rw : List Rw}
theorem G7 {w : World} {base B : Nat} {e : TypeId} {size n : Nat} {v : Value} {xs : List Value} (h : w.ownsRow base e size v n xs) (hB : B ≤ base) : w.ownsRow B e size v n xs := by
 obtain ⟨h1, h2⟩ := h
 refine ⟨h1, ?_⟩
 rcases h2 with h2 | ⟨g, cap, cur, h3, h4, h5⟩
 ·exact .inl h2
 ·exact .inr ⟨g, cap, cur, h3, Nat.le_trans hB h4, h5⟩
theorem HW.ownRow {w0 w : World} (hw : HW w0.heap.size w0 Ps σ w) {i : Nat} {r : Rw} (h : nth σ.rw i = some r) {v : Value} {n : Nat} {xs : List Value} (hv : r.val = v) (hn : r.n = n) (hx : r.xs = xs) : w.ownsRow w0.heap.size r.e r.size v n xs := by
 subst hv; subst hn; subst hx
 exact (hw.row r (F7 h)).1
theorem aa1 {f : FuncId} {args : List Value} {d : Nat} {ob : List Prop} (e : TypeId) (size n : Nat) (xs : List Value) (h : callV X.N o ⟨sl, bx, rw⟩ = some (f, args, d, ob)) (hob : AllP ob) (he : entB X.P f = true)
  (hc : ∀ w, HW X.B X.w0 Ps ⟨sl, bx, rw⟩ w → Calls X.P f args.toArray w fun r w' => ∃ v, r = .returned v ∧ Below w.heap.size w w' ∧ w'.ownsRow w.heap.size e size v n xs)
  (k : ∀ A cap, S X Ps l0 Q rest ⟨(d, .s (.r A n cap rw.length)) :: sl, bx, rw ++ [⟨e, size, n, xs, .slice A n cap⟩]⟩) : S X Ps l0 Q (o :: rest) ⟨sl, bx, rw⟩ := by
 intro a w ha hw
 obtain ⟨hg, hd, hlt, hr⟩ := F0 (w := w) (P := X.P) ha h hob he
 refine v7 fun K hK => ?_
 rw [o7 hg, if_pos rfl]
 unfold Oper.wp
 rw [hr, Oper.upon_enter]
 refine (hc w hw).mono ?_
 rintro r w' ⟨v, rfl, hb, hown⟩
 rw [hd]
 have hw1 := hw.ext hb
 have hblk : ∀ g, v.ownBlock = some g → (∀ x ∈ bx, x.b ≠ g) ∧ (∀ p ∈ Ps, ¬ p.2 g) ∧ ∀ s ∈ rw, s.val.ownBlock ≠ some g := fun g hg' => by
  have hge := (p8 hown hg').2
  exact ⟨fun x hx e => by have := hw.lt (x := x) hx; omega, fun p hp hpb => by have := (hw.past p hp g hpb).1.1; omega, fun s hs e => by have := (p8 (hw.row s hs).1 e).1; omega⟩
 obtain ⟨A, cap, rfl⟩ : ∃ A cap, v = .slice A n cap := by
  rcases hown.2 with ⟨h2, h3⟩ | ⟨g, cap, cur, h2, _⟩
  ·exact ⟨none, 0, by rw [h2, h3]⟩
  ·exact ⟨_, cap, h2⟩
 exact hK _ _ (k A cap _ w' (ha.put hlt (.s (.r A n cap rw.length)) rfl) (HW.addRow hw1 (r := ⟨e, size, n, xs, .slice A n cap⟩) (G7 hown hw.bsize) hblk))
end
section
variable {X : Cx} {Ps : Past} {σ : St} {l0 l rest : List Oper} {Q : Exit → Act → World → Prop} {K : Act → Prop} {o : Oper}
def unG (o : Oper) : Oper := { o with guard := none }
theorem w8 {j : Nat} {b : Bool} {ctx : List (Bool × Bool)} (hg : o.guard = some (j, b)) (hx : gctx l0 σ (some (j, b)) = some ctx) (hc : gOk ctx = true) {o' : Oper} (ho : unG o = o') (k : S X Ps l0 Q (o' :: rest) σ) : S X Ps l0 Q (o :: rest) σ := by
 subst ho
 intro a w ha hw hnd
 have hnd' : ndL (unG o :: rest) = true := hnd
 have := k a w ha hw hnd'
 unfold wpListIn at this ⊢
 have h1 : Region.wanted o (yielded l0.toArray a.tmps) = true := by rw [N7 ha (ctx := ctx) (by rw [hg]; exact hx)]; exact hc
 have h2 : Region.wanted (unG o) (yielded l0.toArray a.tmps) = true := o7 rfl
 rw [if_pos h2] at this
 rw [if_pos h1]
 exact this
def runN (T : TT) (N : Nat) (l0 : List Oper) : List Oper → St → List Prop → List Oper × St × List Prop
 | [], σ, ob => ([], σ, ob)
 | o :: l, σ, ob => match o.guard with
  | some _ => (o :: l, σ, ob)
  | none => match step T N l0 o σ with
   | some (σ', ob') => match ob' with
    | [] => runN T N l0 l σ' ob
    | p :: ps => runN T N l0 l σ' (AllP (p :: ps) :: ob)
   | none => (o :: l, σ, ob)
theorem ao6 {T : TT} {σ' : St} (hT : TOk X.P T) : ∀ (l : List Oper) (σ : St) (ob0 : List Prop) {ob : List Prop}, runN T X.N l0 l σ ob0 = (rest, σ', ob) → AllP ob → AllP ob0 ∧ (S X Ps l0 Q rest σ' → S X Ps l0 Q l σ)
 | [], σ, ob0, ob, h, hob => by
  simp only [runN, Prod.mk.injEq] at h
  obtain ⟨rfl, rfl, rfl⟩ := h
  exact ⟨hob, fun k => k⟩
 | o :: l, σ, ob0, ob, h, hob => by
  simp only [runN] at h
  split at h
  ·simp only [Prod.mk.injEq] at h
   obtain ⟨rfl, rfl, rfl⟩ := h
   exact ⟨hob, fun k => k⟩
  ·split at h
   ·rename_i σ1 ob1 hs
    split at h
    ·obtain ⟨h1, h2⟩ := ao6 hT l _ ob0 h hob
     exact ⟨h1, fun k => M8 hT hs trivial (h2 k)⟩
    ·obtain ⟨h1, h2⟩ := ao6 hT l _ _ h hob
     exact ⟨h1.2, fun k => M8 hT hs h1.1 (h2 k)⟩
   ·simp only [Prod.mk.injEq] at h
    obtain ⟨rfl, rfl, rfl⟩ := h
    exact ⟨hob, fun k => k⟩
theorem q4 {σ' σ1 : St} {ob1 ob : List Prop} (h1 : step X.T X.N l0 o σ = some (σ1, ob1)) (h : runN X.T X.N l0 l σ1 [] = (rest, σ', ob)) (hob1 : AllP ob1) (hob : AllP ob)
  (k : S X Ps l0 Q rest σ') : S X Ps l0 Q (o :: l) σ := M8 X.hT h1 hob1 ((ao6 X.hT l σ1 [] h hob).2 k)
end
abbrev noX : Exit → Act → World → Prop := fun _ _ _ => False
section abs
variable {P : Program} {ro : Option Nat} {ops : Array Oper} {Sw : World → Prop} {Q : Exit → Act → World → Prop} {L : Array Bool → Act → World → Prop}
theorem M3 {i : Nat} {o : Oper} {v : Value} {a : Act} {w : World} {K : Act → World → Prop} (hi : ops[i]? = some o) (hy : YieldsIf P ops Sw o v a) (hnd : ndOp o = true) (hS : Sw w) (h : K (a.put o.dst v) w) : wpOpIn (FR ro) 9 P ops Q i K a w := by
 refine opA hi hnd ?_
 rcases hy with ⟨hw, hv⟩ | ⟨hw, rfl⟩
 ·rw [if_pos hw]; unfold Oper.wp; rw [hv w hS, Oper.upon_value]; exact h
 ·rw [if_neg (by simp [hw])]; exact h
theorem T8 {o : Oper} {a : Act} {w : World} {K K' : Act → World → Prop} {Q1 Q2 : Exit → Act → World → Prop} (hK : ∀ a w, K a w → K' a w) (hQ : ∀ e a w, e ≠ .normal → Q1 e a w → Q2 e a w) (h : o.wpIn (FR ro) 9 P a w K Q1) : o.wpIn (FR ro) 9 P a w K' Q2 := by
 unfold Oper.wpIn at *
 refine ⟨h.1, ?_⟩
 have h := h.2
 generalize (o.semAt (FR ro).round a.eval).run P w = r at *
 cases r with
 | ok x w' =>
  cases x <;> simp only [Oper.uponIn] at h ⊢
  case value u => exact hK _ _ h
  case skip => exact hK _ _ h
  case defer d => exact hK _ _ h
  case enter f args =>
   refine ⟨h.1, CallsIn.mono h.2 fun e w'' he => ?_⟩
   cases e with
   | returned u => exact hK _ _ he
   | panicked c => exact hQ _ _ _ (by simp) he
   | outgrown => exact let ⟨a, w, h⟩ := he; ⟨a, w, hQ _ _ _ (by simp) h⟩
  case row row args => exact ⟨h.1, RowsIn.mono h.2 fun u w'' he => hK _ _ he⟩
  case round l f tmps assign body =>
   refine ⟨h.1, RoundIn.mono h.2 fun e w'' he => ?_⟩
   cases e with
   | returned u => exact hK _ _ he
   | panicked c => exact hQ _ _ _ (by simp) he
   | outgrown => exact let ⟨a, w, h⟩ := he; ⟨a, w, hQ _ _ _ (by simp) h⟩
 | halt x w' =>
  cases x <;> simp only [Oper.uponIn] at h ⊢
  case panic u => exact hQ _ _ _ (by simp) h
theorem am3 {i : Nat} {a : Act} {w : World} {K K' : Act → World → Prop} {Q1 Q2 : Exit → Act → World → Prop} (hK : ∀ a w, K a w → K' a w) (hQ : ∀ e a w, e ≠ .normal → Q1 e a w → Q2 e a w) (h : wpOpIn (FR ro) 9 P ops Q1 i K a w) : wpOpIn (FR ro) 9 P ops Q2 i K' a w := by
 unfold wpOpIn at *
 cases ho : ops[i]? with
 | none => rw [ho] at h; exact hK _ _ h
 | some o =>
  rw [ho] at h
  dsimp only at h ⊢
  split
  ·rename_i hw
   rw [if_pos hw] at h
   exact T8 hK hQ h
  ·rename_i hw
   rw [if_neg hw] at h
   exact ⟨h.1, hK _ _ h.2⟩
theorem ab9 {j : Nat} {oi oj : Oper} {v : Value} (hj : ops[j]? = some oj) (hndj : ndOp oj = true) (hap : oi.apart ops oj = true)
  (hsi : ∀ cs b, oi.op ≠ .select cs b) (hsj : ∀ cs b, oj.op ≠ .select cs b) {K : Act → World → Prop} {a : Act} {w : World}
  (hy : YieldsIf P ops Sw oi v a) (h : wpOpIn (FR ro) 9 P ops noX j K (a.put oi.dst v) w) :
  wpOpIn (FR ro) 9 P ops noX j (fun a' w' => YieldsIf P ops Sw oi v a' ∧ K (a'.put oi.dst v) w') a w := by
 obtain ⟨h1, h2, h3⟩ := Oper.apart_spec hap
 have keep : ∀ (a : Act), YieldsIf P ops Sw oi v a → ∀ u, YieldsIf P ops Sw oi v (a.put oj.dst u) := fun a hy u =>
  hy.of_same (execOp_put oi hsi a oj.dst u h3) (wanted_put oi a oj.dst u h3)
 have keepD : ∀ d, YieldsIf P ops Sw oi v { a with defers := d :: a.defers } := fun d => hy.of_same rfl rfl
 have hnd' : ∀ c, oj.op ≠ .defer c := fun c hc => by simp [ndOp, hc] at hndj
 unfold wpOpIn at *
 simp only [hj] at *
 rw [wanted_put oj a oi.dst v h1, about_put oj w a oi.dst v h1] at h
 split
 ·rename_i hw
  simp only [hw, if_true] at h
  unfold Oper.wpIn at *
  rw [about_put oj w a oi.dst v h1] at h
  refine ⟨h.1, ?_⟩
  have h := h.2
  rw [Oper.semAt_eq _ _ _ hnd', execOp_put oj hsj a oi.dst v h1] at h
  rw [Oper.semAt_eq _ _ _ hnd']
  generalize (execOp a.eval oj).run P w = r at *
  cases r with
  | ok x w' =>
   cases x <;> simp only [Oper.uponIn] at h ⊢
   case value u => exact ⟨keep a hy u, by rw [← Act.put_comm a v u h2]; exact h⟩
   case skip => exact ⟨keep a hy _, by rw [← Act.put_comm a v undef h2]; exact h⟩
   case defer d =>
    refine ⟨keep _ (keepD d) _, ?_⟩
    rw [← Act.put_comm _ v undef h2, ← Act.put_defers]
    exact h
   case enter f args =>
    refine ⟨h.1, CallsIn.mono h.2 fun e w'' he => ?_⟩
    cases e with
    | returned u => exact ⟨keep a hy u, by rw [← Act.put_comm a v u h2]; exact he⟩
    | panicked c => exact he
    | outgrown => exact he
   case row row args => exact ⟨h.1, RowsIn.mono h.2 fun u w'' he => ⟨keep a hy u, by rw [← Act.put_comm a v u h2]; exact he⟩⟩
   case round l f tmps assign body =>
    refine ⟨h.1, RoundIn.mono h.2 fun e w'' he => ?_⟩
    cases e with
    | returned u => exact ⟨keep a hy u, by rw [← Act.put_comm a v u h2]; exact he⟩
    | panicked c => exact he
    | outgrown => exact he
  | halt x w' =>
   cases x <;> simp only [Oper.uponIn] at h ⊢
   case panic u => exact h
 ·rename_i hw
  simp only [hw] at h
  exact ⟨h.1, keep a hy _, by rw [← Act.put_comm a v undef h2]; exact h.2⟩
def wpAH (ro : Option Nat) (P : Program) (ops : Array Oper) (Sw : World → Prop) (n : Nat) (L : Array Bool → Act → World → Prop) : Nat → Array Bool → Act → World → Prop
 | 0, listed, a, w => Sw w ∧ L listed a w
 | f + 1, listed, a, w => Sw w ∧ Region.ready .any ops listed ≠ [] ∧ ∀ i ∈ Region.ready .any ops listed, i < n ∧ wpOpIn (FR ro) 9 P ops noX i (wpAH ro P ops Sw n L f (listed.setIfInBounds i true)) a w
theorem aT9 {n f : Nat} {listed : Array Bool} {a : Act} {w : World} (h : wpAH ro P ops Sw n L f listed a w) : Sw w := by cases f <;> exact h.1
theorem ad5 {n i : Nat} {oi : Oper} {v : Value} (hi : ops[i]? = some oi) (hnd : ∀ (j : Nat) (o : Oper), ops[j]? = some o → ndOp o = true) (hsel : ∀ (j : Nat) (o : Oper) cs b, ops[j]? = some o → o.op ≠ .select cs b)
  (hs : Region.sinkB .any ops n = true) (hc : Region.chainB .any ops n = true) (hn : n < ops.size) (hin : i < n)
  (hdone : ∀ listed a w, L listed a w → ∀ j ∈ Region.ready .any ops listed, n ≤ j) :
  ∀ (f : Nat) (listed : Array Bool) (a : Act) (w : World), HeadInv .any ops n listed →
   (∀ j oj, ops[j]? = some oj → j ≠ i → listed.getD j true = false → (∀ e ∈ oj.after, Region.binds .any e = true → e.on ≠ i) → oi.apart ops oj = true) →
   i ∈ Region.ready .any ops listed → YieldsIf P ops Sw oi v a → Sw w →
   wpAH ro P ops Sw n L f (listed.setIfInBounds i true) (a.put oi.dst v) w → wpAH ro P ops Sw n L (f + 1) listed a w := by
 intro f
 induction f with
 | zero =>
  intro listed a w inv _ hr hy hS H
  have hun := (mem_ready.1 hr).1
  refine ⟨hS, fun h => (by rw [h] at hr; cases hr), fun j hj => ?_⟩
  have hjn : j < n := by
   rcases Nat.lt_or_ge j n with h | h
   ·exact h
   ·exact absurd hj (tail_waits hs hc hn inv _ i rfl hin hun j h)
  refine ⟨hjn, ?_⟩
  by_cases hji : j = i
  ·subst hji; exact M3 hi hy (hnd _ _ hi) hS H
  ·have := hdone _ _ _ H.2 j (ready_mono hj hji)
   omega
 | succ f ih =>
  intro listed a w inv hfree hr hy hS H
  have hun := (mem_ready.1 hr).1
  refine ⟨hS, fun h => (by rw [h] at hr; cases hr), fun j hj => ?_⟩
  have hjn : j < n := by
   rcases Nat.lt_or_ge j n with h | h
   ·exact h
   ·exact absurd hj (tail_waits hs hc hn inv _ i rfl hin hun j h)
  refine ⟨hjn, ?_⟩
  by_cases hji : j = i
  ·subst hji; exact M3 hi hy (hnd _ _ hi) hS H
  ·have h1 := (H.2.2 j (ready_mono hj hji)).2
   obtain ⟨hjun, oj, hoj, hall⟩ := mem_ready.1 hj
   have hnot : ∀ e ∈ oj.after, Region.binds .any e = true → e.on ≠ i := fun e he hb heq => by
    have h1 := hall e he hb
    rw [heq, getD_both hun] at h1
    cases h1
   have h2 := ab9 hoj (hnd _ _ hoj) (hfree j oj hoj hji hjun hnot) (fun cs b => hsel i oi cs b hi) (fun cs b => hsel j oj cs b hoj) hy h1
   have hfree' : ∀ k ok, ops[k]? = some ok → k ≠ i → (listed.setIfInBounds j true).getD k true = false →
     (∀ e ∈ ok.after, Region.binds .any e = true → e.on ≠ i) → oi.apart ops ok = true := fun k ok hk hki hun hno => by
    refine hfree k ok hk hki ?_ hno
    by_cases hjk : j = k
    ·subst hjk; exact hjun
    ·rw [getD_set_ne true hjk] at hun; exact hun
   refine wpOpIn_mono (fun a' w' h3 => ih (listed.setIfInBounds j true) a' w' (inv.set hj hjn) hfree' (ready_mono hr (Ne.symm hji)) h3.1 (aT9 h3.2) ?_) h2
   rw [Array.setIfInBounds_comm _ _ hji]
   exact h3.2
def wpV (ro : Option Nat) (P : Program) (ops : Array Oper) (Sw : World → Prop) (Lq : Act → World → Prop) : List (Nat × Bool) → Act → World → Prop
 | [], a, w => Sw w ∧ Lq a w
 | (i, true) :: r, a, w => Sw w ∧ ∃ o v, ops[i]? = some o ∧ YieldsIf P ops Sw o v a ∧ wpV ro P ops Sw Lq r (a.put o.dst v) w
 | (i, false) :: r, a, w => Sw w ∧ wpOpIn (FR ro) 9 P ops noX i (wpV ro P ops Sw Lq r) a w
def planOk (ops : Array Oper) (g n : Nat) : List (Nat × Bool) → Array Bool → Bool
 | [], listed => Region.seqB .any ops g n listed
 | (i, true) :: r, listed => (Region.ready .any ops listed).contains i && (Nat.blt i n && (Region.free .any ops listed i && planOk ops g n r (listed.setIfInBounds i true)))
 | (i, false) :: r, listed => (Region.ready .any ops listed == [i]) && (Nat.blt i n && planOk ops g n r (listed.setIfInBounds i true))
theorem aa9 {n g : Nat} {Lq : Act → World → Prop} (hnd : ∀ (j : Nat) (o : Oper), ops[j]? = some o → ndOp o = true) (hsel : Region.noSelect ops = true) (hs : Region.sinkB .any ops n = true) (hc : Region.chainB .any ops n = true) (hn : n < ops.size) :
  ∀ (pl : List (Nat × Bool)) (listed : Array Bool) (a : Act) (w : World), HeadInv .any ops n listed → planOk ops g n pl listed = true → wpV ro P ops Sw Lq pl a w →
   wpAH ro P ops Sw n (fun listed' a' w' => Region.seqB .any ops g n listed' = true ∧ Lq a' w') pl.length listed a w
 | [], listed, a, w, inv, hB, h => ⟨h.1, hB, h.2⟩
 | (i, true) :: r, listed, a, w, inv, hB, h => by
  simp only [planOk, Bool.and_eq_true] at hB
  obtain ⟨hr, hin, hf, hB'⟩ := hB
  obtain ⟨hS, o, v, ho, hy, hk⟩ := h
  have hin' : i < n := by simpa using hin
  have hr' : i ∈ Region.ready .any ops listed := by simpa using hr
  exact ad5 ho hnd (Region.noSelect_spec hsel) hs hc hn hin' (fun listed' a' w' hL => seqB_ready hL.1) r.length listed a w inv (Region.free_spec ho hf) hr' hy hS
   (aa9 hnd hsel hs hc hn r _ _ _ (inv.set hr' hin') hB' hk)
 | (i, false) :: r, listed, a, w, inv, hB, h => by
  simp only [planOk, Bool.and_eq_true, beq_iff_eq] at hB
  obtain ⟨hr, hin, hB'⟩ := hB
  obtain ⟨hS, hk⟩ := h
  have hin' : i < n := by simpa using hin
  have hr' : i ∈ Region.ready .any ops listed := by rw [hr]; simp
  refine ⟨hS, by rw [hr]; simp, fun j hj => ?_⟩
  rw [hr] at hj
  have : j = i := by simpa using hj
  subst this
  exact ⟨hin', wpOpIn_mono (fun a' w' h' => aa9 hnd hsel hs hc hn r _ _ _ (inv.set hr' hin') hB' h') hk⟩
theorem Q9 {n g : Nat} (hL : ∀ listed a w, L listed a w → wpA ro P ops Q g listed a w) : ∀ (f : Nat) (listed : Array Bool) (a : Act) (w : World), wpAH ro P ops Sw n L f listed a w → wpA ro P ops Q (f + g) listed a w
 | 0, listed, a, w, h => by rw [Nat.zero_add]; exact hL _ _ _ h.2
 | f + 1, listed, a, w, h => by
  rw [show f + 1 + g = (f + g) + 1 by omega]
  exact ⟨fun h0 => absurd h0 h.2.1, fun i hi => am3 (fun a' w' h' => Q9 hL f _ _ _ h') (fun _ _ _ _ h => h.elim) (h.2.2 i hi).2⟩
def planB (ops : Array Oper) (n : Nat) (pl : List (Nat × Bool)) : Bool :=
 Region.noSelect ops && (Nat.blt n ops.size && (Region.sinkB .any ops n && (Region.chainB .any ops n && (Nat.beq pl.length n && planOk ops (ops.size - n) n pl (Array.replicate ops.size false)))))
theorem aR0 {a : Act} {w : World} {l : List Oper} (n : Nat) (pl : List (Nat × Bool)) (hnd : ndL l = true) (hB : planB l.toArray n pl = true)
  (h : wpV ro P l.toArray Sw (fun a' w' => wpl ro P l.toArray Q (l.drop n) a' w') pl a w) : wpA ro P l.toArray Q l.toArray.size (Array.replicate l.toArray.size false) a w := by
 simp only [planB, Bool.and_eq_true] at hB
 obtain ⟨hsel, hn, hs, hc, hlen, hB⟩ := hB
 have hn' : n < l.toArray.size := by simpa using hn
 have hlen' : pl.length = n := Nat.eq_of_beq_eq_true hlen
 have hdl : (l.drop n).length = l.toArray.size - n := by simp
 have inv0 : HeadInv .any l.toArray n (Array.replicate l.toArray.size false) :=
  ⟨by simp, fun j oj _ hl => (by rw [getD_replicate_false] at hl; cases hl), fun t _ ht => getD_in (by simpa using ht) (getD_replicate_false _ _)⟩
 have H := aa9 (fun j o ho => T3 hnd (by simpa using ho)) hsel hs hc hn' pl _ a w inv0 hB h
 have := Q9 (Q := Q) (g := l.toArray.size - n) (fun listed a' w' hL => by
   have := I0 (ro := ro) (P := P) (Q := Q) (l.drop n) n listed a' w' (fun j => by simp [List.getElem?_drop]) (by rw [hdl]; exact hL.1) (hL.2 (X5 n l hnd))
   rwa [hdl] at this) _ _ _ _ H
 rw [hlen', show n + (l.toArray.size - n) = l.toArray.size by omega] at this
 exact this
end abs
def S0 (X : Cx) (Ps0 : Past) (bx0 : List Bx) (rw0 : List Rw) (w : World) : Prop := HW X.B X.w0 Ps0 ⟨[], bx0, rw0⟩ w
def V (X : Cx) (Ps0 : Past) (bx0 : List Bx) (rw0 : List Rw) (Ps : Past) (l0 : List Oper) (Q : Exit → Act → World → Prop) (l2 : List Oper) (pl : List (Nat × Bool)) (σ : St) : Prop :=
 ndL l0 = true → ∀ a w, HA X.N X.ds σ a → HW X.B X.w0 Ps σ w → S0 X Ps0 bx0 rw0 w → wpV X.ro X.P l0.toArray (S0 X Ps0 bx0 rw0) (fun a' w' => wpl X.ro X.P l0.toArray Q l2 a' w') pl a w
def QV (X : Cx) (Ps0 : Past) (bx0 : List Bx) (rw0 : List Rw) (l0 : List Oper) (Q : Exit → Act → World → Prop) (l2 : List Oper) (pl : List (Nat × Bool)) (e : Exit) (a : Act) (w : World) : Prop :=
 e = .normal ∧ wpV X.ro X.P l0.toArray (S0 X Ps0 bx0 rw0) (fun a' w' => wpl X.ro X.P l0.toArray Q l2 a' w') pl a w
def Yl (X : Cx) (Ps0 : Past) (bx0 : List Bx) (rw0 : List Rw) (l0 : List Oper) (o : Oper) (sl sl' : List (Nat × AV)) : Prop :=
 ∀ a, HA X.N X.ds ⟨sl, bx0, rw0⟩ a → ∃ v, YieldsIf X.P l0.toArray (S0 X Ps0 bx0 rw0) o v a ∧ HA X.N X.ds ⟨sl', bx0, rw0⟩ (a.put o.dst v)
section walk
variable {X : Cx} {Ps0 Ps : Past} {bx0 bx : List Bx} {rw0 rw : List Rw} {σ σ' : St} {l0 l l2 rest : List Oper} {Q : Exit → Act → World → Prop} {o : Oper} {pl : List (Nat × Bool)}
variable {sl sl' : List (Nat × AV)}
theorem N2 (h : V X Ps0 bx0 rw0 Ps l0 Q l2 pl σ) : V X Ps0 bx0 rw0 Ps l0 Q l2 pl σ := h
theorem HA.mem {N : Nat} {ds : List Nat} {a : Act} {sl : List (Nat × AV)} {b1 b2 : List Bx} {r1 r2 : List Rw} (h : HA N ds ⟨sl, b1, r1⟩ a) : HA N ds ⟨sl, b2, r2⟩ a := ⟨h.size, h.defers, h.at_⟩
theorem r5 (k : S X Ps l0 Q l2 σ) : V X Ps0 bx0 rw0 Ps l0 Q l2 [] σ := fun hnd a w ha hw hS => ⟨hS, k a w ha hw⟩
theorem V_q {i : Nat} (hi : nth l0 i = some o) (hy : Yl X Ps0 bx0 rw0 l0 o sl sl') (k : V X Ps0 bx0 rw0 Ps l0 Q l2 pl ⟨sl', bx, rw⟩) : V X Ps0 bx0 rw0 Ps l0 Q l2 ((i, true) :: pl) ⟨sl, bx, rw⟩ := by
 intro hnd a w ha hw hS
 rw [E1] at hi
 obtain ⟨v, h1, h2⟩ := hy a ha.mem
 exact ⟨hS, o, v, by simpa using hi, h1, k hnd _ w h2.mem (hw.same rfl rfl) hS⟩
theorem k8 {ob : List Prop} (h : stepQ X.T X.N l0 o sl bx0 rw0 = some (sl', ob)) (hob : AllP ob) : Yl X Ps0 bx0 rw0 l0 o sl sl' := by
 intro a ha
 unfold stepQ at h
 split at h
 ·cases h
 ·rename_i ctx hctx
  have hwant := N7 ha hctx
  split at h
  ·rename_i r ob1 hop
   split at h
   ·rename_i d hd
    split at h
    ·rename_i hlt
     have hd' : d < X.N := by simpa using hlt
     split at h
     ·simp only [Option.some.injEq, Prod.mk.injEq] at h
      obtain ⟨rfl, rfl⟩ := h
      refine ⟨r.c, .inl ⟨hwant, fun w hw => ?_⟩, ?_⟩
      ·exact M7 X.hT ha (HW.same hw rfl rfl) rfl hop hob
      ·rw [hd]
       exact ha.put hd' (.s r) rfl
     ·rename_i c gs
      simp only [Option.some.injEq, Prod.mk.injEq] at h
      obtain ⟨rfl, rfl⟩ := h
      cases hg : gOk (c :: gs) with
      | true =>
       refine ⟨r.c, .inl ⟨hwant.trans hg, fun w hw => ?_⟩, ?_⟩
       ·exact M7 X.hT ha (HW.same hw rfl rfl) hg hop (an1 hob hg)
       ·rw [hd]
        have := ha.put hd' (.g (c :: gs) r) (σ' := ⟨(d, .g (c :: gs) r) :: sl, bx0, rw0⟩) rfl
        simp only [AV.c, hg, if_true] at this
        exact this
      | false =>
       refine ⟨undef, .inr ⟨hwant.trans hg, rfl⟩, ?_⟩
       rw [hd]
       have := ha.put hd' (.g (c :: gs) r) (σ' := ⟨(d, .g (c :: gs) r) :: sl, bx0, rw0⟩) rfl
       simp only [AV.c, hg, Bool.false_eq_true, if_false] at this
       exact this
    ·cases h
   ·cases h
  ·cases h
theorem V9 {v : PV} {d : Nat} (h : Pure X Ps0 ⟨sl, bx0, rw0⟩ o v d) : Yl X Ps0 bx0 rw0 l0 o sl ((d, .s v) :: sl) := by
 intro a ha
 refine ⟨v.c, .inl ⟨o7 h.guard, fun w hw => h.run a w ha hw⟩, ?_⟩
 rw [h.dst]
 exact ha.put h.lt (.s v) rfl
theorem V_n {i : Nat} (hi : nth l0 i = some o) (k : S X Ps l0 (QV X Ps0 bx0 rw0 l0 Q l2 pl) [o] σ) : V X Ps0 bx0 rw0 Ps l0 Q l2 ((i, false) :: pl) σ := by
 intro hnd a w ha hw hS
 rw [E1] at hi
 have hnd1 : ndL [o] = true := by
  have := T3 hnd hi
  show (ndOp o && true) = true
  rw [this]; rfl
 have h := k a w ha hw hnd1
 refine ⟨hS, ?_⟩
 unfold wpOpIn
 rw [show l0.toArray[i]? = some o by simpa using hi]
 dsimp only
 unfold wpListIn at h
 split
 ·rename_i hwt
  rw [if_pos hwt] at h
  exact T8 (fun a' w' (h' : QV X Ps0 bx0 rw0 l0 Q l2 pl .normal a' w') => h'.2) (fun e a' w' hne h' => hne h'.1) h
 ·rename_i hwt
  rw [if_neg hwt] at h
  exact ⟨h.1, h.2.2⟩
theorem G_V (hs : Serves Ps σ Ps0 ⟨[], bx0, rw0⟩) (hnd : ndL l0 = true) (k : V X Ps0 bx0 rw0 Ps l0 Q l2 pl σ) : G X Ps (QV X Ps0 bx0 rw0 l0 Q l2 pl) .normal σ := fun a w ha hw => ⟨rfl, k hnd a w ha hw (hs.hw hw)⟩
theorem n8 {id : Nat} (n : Nat) (pl : List (Nat × Bool)) (hn : ndL l = true) (hm : X.P.follows .mixedOrders = true) (hB : planB l.toArray n pl = true) (h2 : l.drop n = l2)
  (h : V X Ps bx rw Ps l Q l2 pl ⟨sl, bx, rw⟩) : C X Ps Q (.region id l.toArray true) ⟨sl, bx, rw⟩ := by
 intro a w ha hw
 subst h2
 have hw1 : HW X.B X.w0 Ps ⟨sl, bx, rw⟩ { w with drawn := w.drawn + 1 } := hw.ext ⟨rfl, rfl, rfl, Nat.le_refl _, fun _ _ => rfl⟩
 exact regAR hm (aR0 n pl hn hB (h hn a _ ha hw1 (HW.same hw1 rfl rfl)))
theorem q3 {t : TypeId} {ad : Addr} {d : Nat} {ob : List Prop} (h : loadX X.N o sl bx0 rw0 = some (t, ad, d, ob)) (hob : AllP ob) {ti : TI} (hl : look X.T t = some ti) (us : List Value) (hf : From X Ps0 rw0 ad us) (hlen : us.length = ti.size)
  {v : Value} (hv : (ti.row = true ∧ v = .agg us.toArray) ∨ (ti.row = false ∧ us = [v])) : Yl X Ps0 bx0 rw0 l0 o sl ((d, .s (.v v)) :: sl) := by
 intro a ha
 have hgd : o.guard = none ∧ o.dst = some d ∧ d < X.N := by
  unfold loadX at h
  split at h
  ·cases h
  ·rename_i hg
   split at h
   ·cases h
   ·rename_i d' hd
    split at h
    ·cases h
    ·rename_i hlt
     split at h
     ·split at h
      ·simp only [Option.some.injEq, Prod.mk.injEq] at h
       obtain ⟨rfl, rfl, rfl, rfl⟩ := h
       exact ⟨hg, hd, by simpa using hlt⟩
      ·cases h
     ·cases h
 obtain ⟨hg, hd, hlt⟩ := hgd
 refine ⟨v, .inl ⟨o7 hg, fun w hw => ?_⟩, ?_⟩
 ·exact (Q6 X.hT ha h hob hl hlen (hf.cells (sl := sl) (HW.same hw rfl rfl)) hv).2.2.2
 ·rw [hd]
  exact ha.put hlt (.s (.v v)) rfl
end walk
section
variable {X : Cx} {Ps : Past} {l0 l rest : List Oper} {Q : Exit → Act → World → Prop} {sl : List (Nat × AV)} {bx : List Bx} {rw : List Rw} {d : Nat}
theorem y3 {x y : Int} (h : (x == y) = true) (k : S X Ps l0 Q l ⟨(d, .s (.v (.bool true))) :: sl, bx, rw⟩) : S X Ps l0 Q l ⟨(d, .s (.v (.bool (x == y)))) :: sl, bx, rw⟩ := by rw [h]; exact k
theorem x7 {x y : Bool} (h : (x == y) = true) (k : S X Ps l0 Q l ⟨(d, .s (.v (.bool true))) :: sl, bx, rw⟩) : S X Ps l0 Q l ⟨(d, .s (.v (.bool (x == y)))) :: sl, bx, rw⟩ := by rw [h]; exact k
theorem x9 {x y : List Int} (h : (x == y) = true) (k : S X Ps l0 Q l ⟨(d, .s (.v (.bool true))) :: sl, bx, rw⟩) : S X Ps l0 Q l ⟨(d, .s (.v (.bool (x == y)))) :: sl, bx, rw⟩ := by rw [h]; exact k
theorem y4 {p : Prop} {i : Decidable p} (h : p) (k : S X Ps l0 Q l ⟨(d, .s (.v (.bool true))) :: sl, bx, rw⟩) : S X Ps l0 Q l ⟨(d, .s (.v (.bool (decide p)))) :: sl, bx, rw⟩ := by rw [decide_eq_true h]; exact k
theorem W8 {p q : Bool} (hp : p = true) (hq : q = true) (k : S X Ps l0 Q l ⟨(d, .s (.v (.bool true))) :: sl, bx, rw⟩) : S X Ps l0 Q l ⟨(d, .s (.v (.bool (p && q)))) :: sl, bx, rw⟩ := by subst hp; subst hq; exact k
end
section
variable {X : Cx} {Ps : Past} {l0 l rest : List Oper} {Q : Exit → Act → World → Prop} {sl : List (Nat × AV)} {bx : List Bx} {rw : List Rw} {d : Nat}
theorem r3 {x y : Int} (h : (x != y) = false) (k : S X Ps l0 Q l ⟨(d, .s (.v (.bool false))) :: sl, bx, rw⟩) : S X Ps l0 Q l ⟨(d, .s (.v (.bool (x != y)))) :: sl, bx, rw⟩ := by rw [h]; exact k
theorem q6 {x y : Bool} (h : (x != y) = false) (k : S X Ps l0 Q l ⟨(d, .s (.v (.bool false))) :: sl, bx, rw⟩) : S X Ps l0 Q l ⟨(d, .s (.v (.bool (x != y)))) :: sl, bx, rw⟩ := by rw [h]; exact k
theorem q9 {x y : List Int} (h : (x != y) = false) (k : S X Ps l0 Q l ⟨(d, .s (.v (.bool false))) :: sl, bx, rw⟩) : S X Ps l0 Q l ⟨(d, .s (.v (.bool (x != y)))) :: sl, bx, rw⟩ := by rw [h]; exact k
theorem q7 {x y : Int} (h : (x == y) = false) (k : S X Ps l0 Q l ⟨(d, .s (.v (.bool false))) :: sl, bx, rw⟩) : S X Ps l0 Q l ⟨(d, .s (.v (.bool (x == y)))) :: sl, bx, rw⟩ := by rw [h]; exact k
theorem q8 {p : Prop} {i : Decidable p} (h : ¬ p) (k : S X Ps l0 Q l ⟨(d, .s (.v (.bool false))) :: sl, bx, rw⟩) : S X Ps l0 Q l ⟨(d, .s (.v (.bool (decide p)))) :: sl, bx, rw⟩ := by rw [decide_eq_false h]; exact k
theorem A7 {p q : Bool} (hp : p = false) (hq : q = false) (k : S X Ps l0 Q l ⟨(d, .s (.v (.bool false))) :: sl, bx, rw⟩) : S X Ps l0 Q l ⟨(d, .s (.v (.bool (p || q)))) :: sl, bx, rw⟩ := by subst hp; subst hq; exact k
theorem x8 {x y : Int} (h : (x != y) = true) (k : S X Ps l0 Q l ⟨(d, .s (.v (.bool true))) :: sl, bx, rw⟩) : S X Ps l0 Q l ⟨(d, .s (.v (.bool (x != y)))) :: sl, bx, rw⟩ := by rw [h]; exact k
end
end Go.E
