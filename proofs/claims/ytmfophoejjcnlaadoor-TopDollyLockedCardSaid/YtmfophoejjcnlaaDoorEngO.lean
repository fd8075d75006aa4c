/- Rows that are made with a length, stores into rows; iterators: calls of yield. -/
import Derived.Test.YtmfophoejjcnlaaDoorEngN
namespace Go.E
set_option linter.unusedSimpArgs false
set_option linter.unusedVariables false
open Go.RowKit

section
variable {X : Cx} {T : TT} {Ps : Past} {σ σ' : St} {l0 l rest : List Oper} {Q : Exit → Act → World → Prop} {K : Act → Prop} {o : Oper}
variable {sl : List (Nat × AV)} {bx : List Bx} {rw : List Rw}

/-- One more row. -/
theorem HW.addRow {B : Nat} {w0 w : World} (hw : HW B w0 Ps ⟨sl, bx, rw⟩ w) {r : Rw} (hown : w.ownsRow B r.e r.size r.val r.n r.xs)
    (hg : ∀ g, r.val.ownBlock = some g → (∀ x ∈ bx, x.b ≠ g) ∧ (∀ p ∈ Ps, ¬ p.2 g) ∧ ∀ s ∈ rw, s.val.ownBlock ≠ some g) {sl' : List (Nat × AV)} : HW B w0 Ps ⟨sl', bx, rw ++ [r]⟩ w := by
  refine ⟨hw.below, hw.bsize, hw.nodup, hw.box, hw.past, fun s hs => ?_, ?_, hw.old⟩
  · simp only [List.mem_append, List.mem_singleton] at hs
    rcases hs with hs | rfl
    · exact hw.row s hs
    · exact ⟨hown, fun g h => ⟨(hg g h).1, (hg g h).2.1⟩⟩
  · rw [List.pairwise_append]
    refine ⟨hw.apart, by simp, fun s hs r' hr' g h1 h2 => ?_⟩
    simp only [List.mem_singleton] at hr'
    subst hr'
    exact (hg g h2).2.2 s hs h1

def makeV (N : Nat) (n : Nat) (o : Oper) (σ : St) : Option (TypeId × Nat × List Prop) :=
  match o.guard with
  | some _ => none
  | none => match o.dst with
    | none => none
    | some d => match Nat.blt d N with
      | false => none
      | true => match o.op with
        | .makeSlice t l c => match evp σ [] l [] with
          | some (.v (.int _ a), ob) => match evp σ [] c ob with
            | some (.v (.int _ b), ob) => some (t, d, (a = (n : Int)) :: (b = (n : Int)) :: ob)
            | _ => none
          | _ => none
        | _ => none

theorem made_list (z : Array Value) (n : Nat) : (madeCells z (n * z.size)).toList = (List.replicate n z.toList).flatten := by
  apply List.ext_getElem?
  intro j
  by_cases hz : z.size = 0
  · have h1 : z.toList = [] := by simpa using hz
    have h2 : ∀ m : Nat, (List.replicate m ([] : List Value)).flatten = [] := fun m => by induction m with | zero => rfl | succ m ih => simp [List.replicate_succ, ih]
    simp [madeCells, hz, h1, h2]
  · have hlen : (List.replicate n z.toList).flatten.length = n * z.size := by simp
    by_cases hj : j < n * z.size
    · rw [List.getElem?_eq_getElem (by simpa [madeCells] using hj), List.getElem?_eq_getElem (by rw [hlen]; exact hj)]
      congr 1
      have h1 : (madeCells z (n * z.size)).toList[j]'(by simpa [madeCells] using hj) = z[j % z.size]! := by simp [madeCells]
      rw [h1]
      have hm : j % z.size < z.size := Nat.mod_lt _ (by omega)
      have key : ∀ (m j : Nat) (h : j < (List.replicate m z.toList).flatten.length), (List.replicate m z.toList).flatten[j] = z[j % z.size]! := by
        intro m
        induction m with
        | zero => intro j h; simp at h
        | succ m ih =>
          intro j h
          simp only [List.replicate_succ, List.flatten_cons] at h ⊢
          by_cases hjz : j < z.size
          · rw [List.getElem_append_left (by simpa using hjz), Nat.mod_eq_of_lt hjz]
            simp [hjz]
          · rw [List.getElem_append_right (by simpa using Nat.le_of_not_lt hjz)]
            rw [ih]
            congr 1
            simp only [Array.length_toList]
            exact (Nat.mod_eq_sub_mod (Nat.le_of_not_lt hjz)).symm
      exact (key n j _).symm
    · rw [List.getElem?_eq_none (by simpa [madeCells] using Nat.le_of_not_lt hj), List.getElem?_eq_none (by rw [hlen]; exact Nat.le_of_not_lt hj)]

/-- 'make' of a slice of n elements: a row of zero elements. -/
theorem S_make {t : TypeId} {d : Nat} {ob : List Prop} (n : Nat) (h : makeV X.N n o ⟨sl, bx, rw⟩ = some (t, d, ob)) (hob : AllP ob) {ti te : TI} {e es : Nat} (hl : look X.T t = some ti) (hk : ti.k = .slice e es) (hle : look X.T e = some te) (hz : te.zero.length = es) (hsz : te.size = es)
    (hn : te.bytes * n ≤ 281474976710656 ∧ n ≤ 9223372036854775807 ∧ n ≤ maxLen)
    (k : ∀ g, S X Ps l0 Q rest ⟨(d, .s (.r (some ⟨g, 0, none⟩) n n rw.length)) :: sl, bx, rw ++ [⟨e, es, n, (List.replicate n te.zero).flatten, .slice (some ⟨g, 0, none⟩) n n⟩]⟩) : S X Ps l0 Q (o :: rest) ⟨sl, bx, rw⟩ := by
  intro a w ha hw
  unfold makeV at h
  split at h
  · cases h
  · rename_i hg
    split at h
    · cases h
    · rename_i d' hd
      split at h
      · cases h
      · rename_i hlt
        split at h
        · rename_i t' l c hop
          split at h
          · rename_i ka va ob1 he1
            split at h
            · rename_i kb vb ob2 he2
              simp only [Option.some.injEq, Prod.mk.injEq] at h
              obtain ⟨rfl, rfl, rfl⟩ := h
              obtain ⟨rfl, rfl, hob2⟩ := hob
              obtain ⟨h2, h3⟩ := evp_c ha rfl he2 hob2
              obtain ⟨h1, _⟩ := evp_c ha rfl he1 h3
              obtain ⟨i, dd, z, hi, hu, hzz, rfl⟩ := X.hT.row hl
              obtain ⟨ie, de, ze, hie, hue, hze, rfl⟩ := X.hT.row hle
              obtain ⟨rfl, _⟩ := kOf_slice hk
              have hbytes : (ie.bytes : Int) * (n : Int) ≤ 281474976710656 := by
                have h : ((ie.bytes * n : Nat) : Int) ≤ 281474976710656 := by have := hn.1; dsimp only at this; omega
                rwa [Int.natCast_mul] at h
              have hr := run_make (P := X.P) w t' e ie ze hu hie hze ka kb n n (by omega) (Int.le_refl _) hbytes (by have := hn.2.1; omega)
              have hsz' : ie.size = es := hsz
              have hzl : ze.cells.size = es := by simpa using hz
              simp only [Int.toNat_natCast, hsz'] at hr
              rw [← hzl] at hr
              refine wpl_step fun K hK => ?_
              rw [wanted_none hg, if_pos rfl]
              unfold Oper.wp
              have hcc : ∀ k (m : Int), (PV.v (Value.int k m)).c = .int k m := fun _ _ => rfl
              have hrun : (execOp a.eval o).run X.P w = .ok (.value (.slice (some ⟨w.heap.size, 0, none⟩) n n)) (w.alloc (.cells (madeCells ze.cells (n * ze.cells.size)) e)) := by
                simp only [execOp, hop, h1, h2, hcc, Sem.run_bind, hr, Result.andThen_ok, Sem.run_pure]
              rw [hrun, Oper.upon_value, hd]
              have hbel : Below w.heap.size w (w.alloc (.cells (madeCells ze.cells (n * ze.cells.size)) e)) := (Below.refl _ _).alloc (Nat.le_refl _) _
              have hw1 := hw.ext hbel
              refine hK _ _ (k w.heap.size _ _ (ha.put (by simpa using hlt) (.s (.r (some ⟨w.heap.size, 0, none⟩) n n rw.length)) rfl) (HW.addRow hw1 (r := ⟨e, es, n, (List.replicate n ze.cells.toList).flatten, .slice (some ⟨w.heap.size, 0, none⟩) n n⟩) ?_ ?_))
              · refine ⟨by simp [hzl], .inr ⟨w.heap.size, n, _, rfl, hw.bsize, World.alloc_heap_new w _, Nat.le_refl _, hn.2.2, by rw [size_madeCells, hzl], ?_⟩⟩
                rw [made_list, List.take_of_length_le]
                simp [hzl]
              · intro g hg'
                have hgg : w.heap.size = g := by simpa [Value.ownBlock] using hg'
                subst hgg
                exact ⟨fun x hx => Nat.ne_of_lt (hw.lt hx), fun p hp hb => by have := (hw.past p hp _ hb).1.1; omega, fun s hs e => by have := (ownsRow_blockLt (hw.row s hs).1 e).1; omega⟩
            · cases h
          · cases h
        · cases h

def storeX (o : Oper) (σ : St) : Option (TypeId × Addr × PV × List Prop) :=
  match o.guard with
  | some _ => none
  | none => match o.dst with
    | some _ => none
    | none => match o.op with
      | .store t x y => match evp σ [] x [] with
        | some (.v (.pointer (some ad)), ob) => match evp σ [] y ob with
          | some (v, ob) => some (t, ad, v, ob)
          | none => none
        | _ => none
      | _ => none

/-- A store into a row of the call's own. -/
theorem S_storeRow {t : TypeId} {ad : Addr} {v : PV} {ob : List Prop} (h : storeX o ⟨sl, bx, rw⟩ = some (t, ad, v, ob)) (hob : AllP ob) {ti : TI} (hl : look X.T t = some ti) (hlen : (cellsOf v).length = ti.size) (hone : oneAll (cellsOf v) = true)
    (i : Nat) {r : Rw} (hr : nth rw i = some r) {g n cap : Nat} (hv : r.val = .slice (some ⟨g, 0, none⟩) n cap) (m : Nat) (hm : ad = (⟨g, 0, none⟩ : Addr).add m) (hin : m + ti.size ≤ r.xs.length)
    {xs' : List Value} (hxs : xs' = r.xs.take m ++ ((cellsOf v).map PV.c ++ r.xs.drop (m + ti.size))) {rw' : List Rw} (hrw : rw.set i ⟨r.e, r.size, r.n, xs', r.val⟩ = rw')
    (k : S X Ps l0 Q rest ⟨sl, bx, rw'⟩) : S X Ps l0 Q (o :: rest) ⟨sl, bx, rw⟩ := by
  intro a w ha hw
  subst hrw
  unfold storeX at h
  split at h
  · cases h
  · rename_i hg
    split at h
    · cases h
    · rename_i hd
      split at h
      · rename_i t' x y hop
        split at h
        · rename_i ad' ob1 he1
          split at h
          · rename_i v' ob2 he2
            simp only [Option.some.injEq, Prod.mk.injEq] at h
            obtain ⟨rfl, rfl, rfl, rfl⟩ := h
            obtain ⟨h2, h3⟩ := evp_c ha rfl he2 hob
            obtain ⟨h1, _⟩ := evp_c ha rfl he1 h3
            obtain ⟨ii, d, z, hi, hu, hz, rfl⟩ := X.hT.row hl
            have hir : rw[i]? = some r := by rw [← nth_eq]; exact hr
            obtain ⟨hro, hro2⟩ := hw.row r (nth_mem hr)
            obtain ⟨hrl, hrc⟩ := hro
            rcases hrc with ⟨hn, _⟩ | ⟨g', cap', cur, hv', hB, hheap, hncap, hcm, hcs, htake⟩
            · rw [hn] at hv; cases hv
            · have hgg : g' = g := by rw [hv] at hv'; simp at hv'; exact hv'.1.symm
              subst hgg
              have hcap : cap' = cap := by rw [hv] at hv'; have := Value.slice.inj hv'; exact this.2.2.symm
              subst hcap
              have hcsv := cellsOf_c v'
              have hlen' : (cellsOf v').length = ii.size := hlen
              have hvl : v'.c.cells.toList.length = ii.size := by rw [← hcsv]; simpa using hlen'
              have hinl : m + ii.size ≤ r.n * r.size := by rw [← hrl]; exact hin
              have hmul : r.n * r.size ≤ cap' * r.size := Nat.mul_le_mul_right _ (by
                have : r.n = n := by rw [hv] at hv'; have := Value.slice.inj hv'; exact this.2.1.symm
                exact hncap)
              have hrun := run_storeCells_at (P := X.P) g' m r.e v'.c.cells.toList 0 cur w hheap (by rw [hvl]; omega) (by rw [← hcsv]; exact oneAll_ok hone)
              simp only [Nat.add_zero] at hrun
              have hadd : (⟨g', 0, none⟩ : Addr).add m = ⟨g', m, none⟩ := by rw [Addr.add_mid]; simp
              refine wpl_step fun K hK => ?_
              rw [wanted_none hg, if_pos rfl]
              unfold Oper.wp
              obtain ⟨cs', hcs'⟩ : ∃ cs', (cur.toList.take m ++ v'.c.cells.toList ++ cur.toList.drop (m + v'.c.cells.toList.length)).toArray = cs' := ⟨_, rfl⟩
              rw [hcs'] at hrun
              have hs2 : v'.c.cells.size = ii.size := by simpa using hvl
              have h1' : a.eval x = .pointer (some ⟨g', m, none⟩) := by rw [h1, hm, hadd]; rfl
              have hex : (execOp a.eval o).run X.P w = .ok .skip (w.setRow g' cs') := by
                simp only [execOp, hop, h1', h2, Instr.storeAt, Instr.sureAddr, storeVar, sizeOf, typeInfo, Sem.run_bind, Sem.run_pure, Result.andThen_ok, run_program, hi, hs2, ne_eq, not_true, if_false, hrun]
              rw [hex, Oper.upon_skip, hd]
              refine hK _ _ (k a _ ⟨ha.size, ha.defers, ha.at_⟩ (HW.setRw hw (r' := ⟨r.e, r.size, r.n, xs', r.val⟩) hir ?_ ?_ (fun g1 h => .inl h)))
              · refine ⟨rfl, rfl, rfl, by simp [World.setRow], fun k' hk hne => heap_setRow_ne w g' _ (fun e => hne (by rw [hv, e]; rfl))⟩
              · have hxl : xs'.length = r.n * r.size := by
                  rw [hxs, ← hrl]
                  simp only [List.length_append, List.length_take, List.length_map, hlen', List.length_drop]
                  have : m + ii.size ≤ r.xs.length := hin
                  show min m r.xs.length + (ii.size + (r.xs.length - (m + ii.size))) = r.xs.length
                  omega
                refine ⟨hxl, .inr ⟨g', cap', cs', hv', hB, setRow_heap w g' cur cs' r.e (0, 0) hheap, hncap, hcm, ?_, ?_⟩⟩
                · rw [← hcs']
                  have : m + ii.size ≤ cur.size := by omega
                  simp only [List.size_toArray, List.length_append, List.length_take, List.length_drop, hvl, Array.length_toList]
                  rw [← hcs]
                  omega
                · rw [← hcs', hxs, ← hcsv]
                  apply List.ext_getElem?
                  intro j
                  have e1 : ∀ j, r.xs[j]? = if j < r.n * r.size then cur.toList[j]? else none := fun j => by rw [← htake, List.getElem?_take]
                  simp only [List.getElem?_take, List.getElem?_append, List.length_append, List.length_take, List.length_map, hlen', List.getElem?_drop, e1, Array.length_toList, hrl]
                  have hc1 : min m cur.size = m := by omega
                  have hc2 : min m (r.n * r.size) = m := by omega
                  simp only [hc1, hc2]
                  by_cases a1 : j < r.n * r.size <;> by_cases a2 : j < m <;> by_cases a3 : j < m + ii.size <;> by_cases a4 : j - m < ii.size <;> simp only [a1, a2, a3, a4, if_true, if_false] <;> first | rfl | (exfalso; omega) | skip
                  all_goals first
                    | (rw [if_pos (by omega)]; congr 1; omega)
                    | (rw [if_neg (by omega)])
                    | (simp; omega)
          · cases h
        · cases h
      · cases h
end

end Go.E
