/- Soundness of one pure operation. -/
import Derived.Test.YtmfophoejjcnlaaDoorEngB
namespace Go.E
set_option linter.unusedSimpArgs false
set_option linter.unusedVariables false
open Go.RowKit

section
variable {P : Program} {T : TT} {N B : Nat} {ds : List Nat} {w0 w : World} {Ps : Past} {σ : St} {a : Act}

theorem arith_run {op : BinOp} {k : IntKind} {x y : Int} {ob ob' : List Prop} {r : PV} (h : arith op k x y ob = some (r, ob')) (hob : AllP ob') :
    (∀ t, (binOp op t (.int k x) (.int k y)).run P w = .ok r.c w) ∧ AllP ob := by
  cases op <;> simp only [arith, Option.some.injEq, Prod.mk.injEq, reduceCtorEq] at h
  all_goals obtain ⟨rfl, rfl⟩ := h
  case add => exact ⟨fun t => by simp [binOp, Op.intArith, PV.c, inR_wrap hob.1], hob.2⟩
  case sub => exact ⟨fun t => by simp [binOp, Op.intArith, PV.c, inR_wrap hob.1], hob.2⟩
  case mul => exact ⟨fun t => by simp [binOp, Op.intArith, PV.c, inR_wrap hob.1], hob.2⟩
  case quo =>
    obtain ⟨⟨h0, h1, h2⟩, h3⟩ := hob
    refine ⟨fun t => ?_, h3⟩
    have e1 : x.tdiv y = x / y := Int.tdiv_eq_ediv_of_nonneg h0
    have e2 : inR k (x / y) := by
      have g1 : x / y ≤ x := Int.ediv_le_self y h0
      have g2 : 0 ≤ x / y := Int.ediv_nonneg h0 (Int.le_of_lt h1)
      cases k <;> simp only [inR] at h2 ⊢ <;> omega
    have hy : ¬ y = 0 := by omega
    simp [binOp, Op.intDiv, PV.c, e1, inR_wrap e2, hy]
  case rem =>
    obtain ⟨⟨h0, h1⟩, h3⟩ := hob
    refine ⟨fun t => ?_, h3⟩
    have e1 : x.tmod y = x % y := Int.tmod_eq_emod_of_nonneg h0
    have hy : ¬ y = 0 := by omega
    simp [binOp, Op.intDiv, PV.c, e1, hy]
  all_goals exact ⟨fun t => by simp [binOp, Op.intCmp, PV.c], hob⟩

theorem eqGuard_int (op : BinOp) (t : TypeId) (x y : Operand) (k k' : IntKind) (m n : Int) : (eqGuard op t x y (.int k m) (.int k' n)).run P w = .ok () w := by
  unfold eqGuard
  cases op <;> simp
theorem eqGuard_string (op : BinOp) (t : TypeId) (x y : Operand) (m n : ByteArray) : (eqGuard op t x y (.string m) (.string n)).run P w = .ok () w := by
  unfold eqGuard
  cases op <;> simp

theorem binV_run {op : BinOp} {x y : PV} {ob ob' : List Prop} {r : PV} (h : binV op x y ob = some (r, ob')) (hob : AllP ob') :
    (∀ t xo yo, (do eqGuard op t xo yo x.c y.c; binOp op t x.c y.c : Sem Value).run P w = .ok r.c w) ∧ AllP ob := by
  unfold binV at h
  split at h
  · rename_i k m k' n
    obtain ⟨h1, h2⟩ := arith_run (P := P) (w := w) h hob
    obtain ⟨rfl, h3⟩ := h2
    exact ⟨fun t xo yo => by simp only [PV.c, Sem.run_bind, eqGuard_int, Result.andThen_ok]; exact h1 t, h3⟩
  · rename_i m n
    split at h
    · simp only [Option.some.injEq, Prod.mk.injEq] at h
      obtain ⟨rfl, rfl⟩ := h
      exact ⟨fun t xo yo => by simp only [PV.c, Sem.run_bind, eqGuard_string, Result.andThen_ok]; simp [binOp, Op.stringOp], hob⟩
    · simp only [Option.some.injEq, Prod.mk.injEq] at h
      obtain ⟨rfl, rfl⟩ := h
      exact ⟨fun t xo yo => by simp only [PV.c, Sem.run_bind, eqGuard_string, Result.andThen_ok]; simp [binOp, Op.stringOp], hob⟩
    · cases h
  · cases h

theorem pickV_c {ca cb : Operand} {c : Bool} {x y : PV} {ob ob' : List Prop} {r : PV} (h : pickV ca cb c x y ob = some (r, ob')) (hob : AllP ob') :
    r.c = (if c then x.c else y.c) ∧ AllP ob := by
  unfold pickV at h
  split at h
  · rename_i p q
    split at h
    · simp only [Option.some.injEq, Prod.mk.injEq] at h
      obtain ⟨rfl, rfl⟩ := h
      obtain ⟨rfl, h2⟩ := hob
      exact ⟨by cases c <;> simp [PV.c], h2⟩
    · split at h
      · simp only [Option.some.injEq, Prod.mk.injEq] at h
        obtain ⟨rfl, rfl⟩ := h
        obtain ⟨rfl, h2⟩ := hob
        exact ⟨by cases c <;> simp [PV.c], h2⟩
      · simp only [Option.some.injEq, Prod.mk.injEq] at h
        obtain ⟨rfl, rfl⟩ := h
        exact ⟨by cases c <;> simp [PV.c], hob⟩
  · cases h

theorem HW.cell (hw : HW B w0 Ps σ w) {i : Nat} {x : Bx} (h : nth σ.bx i = some x) (j : Nat) : w.cell? ⟨x.b, j, none⟩ = x.cs[j]?.map PV.c := by
  have := (hw.box x (nth_mem h)).2
  simp [World.cell?, this]

theorem rangeAt_of (hw : HW B w0 Ps σ w) {i : Nat} {x : Bx} (h : nth σ.bx i = some x) (off n : Nat) : w.rangeAt x.b off (((x.cs.drop off).take n).map PV.c) := by
  intro j v hj
  rw [hw.cell h]
  rw [List.getElem?_map, List.getElem?_take] at hj
  split at hj
  · rw [List.getElem?_drop] at hj
    exact hj
  · simp at hj

theorem parts_map (l : List (Nat × Operand)) : (l.toArray.map fun (i, x) => (i, a.eval x)).toList = l.map fun x => (x.1, a.eval x.2) := by
  simp

theorem opV_run (hT : TOk P T) (ha : HA N ds σ a) (hw : HW B w0 Ps σ w) {ctx : List (Bool × Bool)} (hc : gOk ctx = true) {o : Oper} {r : PV} {ob : List Prop}
    (h : opV T σ ctx o = some (r, ob)) (hob : AllP ob) : (execOp a.eval o).run P w = .ok (.value r.c) w := by
  obtain ⟨dst, op, ty, pos, after, guard⟩ := o
  cases op <;> simp only [opV, reduceCtorEq] at h
  case move x => simp [execOp, (evp_c ha hc h hob).1]
  case assign x => simp [execOp, (evp_c ha hc h hob).1]
  case pick c x y =>
    split at h
    · rename_i cv ob1 h1
      split at h
      · rename_i xv ob2 h2
        split at h
        · rename_i yv ob3 h3
          obtain ⟨h4, h5⟩ := pickV_c h hob
          obtain ⟨h6, h7⟩ := evArm_c ha hc h3 h5
          obtain ⟨h8, h9⟩ := evArm_c ha hc h2 h7
          obtain ⟨h10, _⟩ := evp_c ha hc h1 h9
          rw [h4]
          have hcc : (PV.v (Value.bool cv)).c = .bool cv := rfl
          simp only [execOp, h10, hcc, asBool, Sem.run_bind, Sem.run_pure, Result.andThen_ok]
          cases cv
          · simp [h6 rfl]
          · simp [h8 rfl]
        · cases h
      · cases h
    · cases h
  case build t parts =>
    split at h
    · rename_i ti hl
      obtain ⟨i, d, z, hi, hu, hz, rfl⟩ := hT.row hl
      have hzm : (z.cells.toList.map PV.v).map PV.c = z.cells.toList := by
        rw [List.map_map]
        exact List.map_id' _
      have hrun : ∀ (k : K) (place : Nat → Option (Nat × Nat)), (∀ i x, placeOf k i = some x → place i = some x) →
          (partsV σ ctx parts.toList [] fun l ob => buildC k l (z.cells.toList.map .v) fun cs => takeC cs.length cs fun vs => some (PV.v (.agg vs.toArray), ob)) = some (r, ob) →
          ∃ cells, Instr.fill place z.cells (parts.map fun x => (x.1, a.eval x.2)).toList = some cells ∧ r = .v (.agg cells) := by
        intro k place hpl h
        obtain ⟨l', ob', hk, hp⟩ := partsV_some ha hc _ _ _ _ h
        obtain ⟨cs', h3, h4⟩ := buildC_some hpl _ _ _ _ hk
        obtain ⟨_, h2⟩ := takeC_some _ _ _ _ h3
        simp only [List.take_length, Option.some.injEq, Prod.mk.injEq] at h2
        obtain ⟨rfl, rfl⟩ := h2
        have h5 := (hp hob).1
        rw [hzm] at h4
        refine ⟨_, ?_, rfl⟩
        rw [Array.toList_map, h5]
        simpa using h4
      split at h
      · rename_i fs hk
        obtain ⟨fl, rfl, hm⟩ := kOf_struct hk
        obtain ⟨cells, hf, rfl⟩ := hrun _ (fun i => (fs.map fun x => (x.1, x.2.1)).toArray[i]?) (by
          intro j x hx
          simp only [placeOf, nth_eq] at hx
          cases hj : fs[j]? with
          | none => simp [hj] at hx
          | some y =>
            simp only [hj, Option.some.injEq] at hx
            simp [hj, hx]) h
        have hb : P.built t (parts.map fun x => (x.1, a.eval x.2)).toList = some cells := by
          simp only [Program.built, hi, hu, hz, places_of hm]
          exact hf
        simp [execOp, run_build w t _ _ hb, PV.c]
      · rename_i n e es er hk
        obtain ⟨rfl, ie, u, hie, _, hes, _⟩ := kOf_array hk
        obtain ⟨cells, hf, rfl⟩ := hrun _ (fun i => some (i * ie.size, ie.size)) (by
          intro j x hx
          simp only [placeOf, Option.some.injEq] at hx
          rw [← hx, hes]) h
        have hb : P.built t (parts.map fun x => (x.1, a.eval x.2)).toList = some cells := by
          simp only [Program.built, hi, hu, hz, hie]
          exact hf
        simp [execOp, run_build w t _ _ hb, PV.c]
      · cases h
    · cases h
  case load t x =>
    split at h
    · rename_i b i off ob1 h1
      split at h
      · rename_i bx hbx
        split at h
        · rename_i ti hl
          obtain ⟨ii, d, z, hi, hu, hz, rfl⟩ := hT.row hl
          split at h
          · rename_i hrow
            obtain ⟨h2, h3⟩ := takeC_some _ _ _ _ h
            simp only [Option.some.injEq, Prod.mk.injEq] at h3
            obtain ⟨rfl, rfl⟩ := h3
            obtain ⟨rfl, hob1⟩ := hob
            obtain ⟨h4, _⟩ := evp_c ha hc h1 hob1
            have h2' : ii.size ≤ (dropC off bx.cs).length := h2
            have hlen : (List.map PV.c (List.take ii.size (dropC off bx.cs))).length = ii.size := by simp only [List.length_map, List.length_take]; omega
            have hr := rangeAt_of hw hbx off ii.size
            rw [← dropC_eq] at hr
            have := run_loadAt_mid (P := P) w bx.b off t _ d hr hu (by rw [← rowOf_isRow]; exact hrow) (by rw [hi, hlen]; rfl)
            simp [execOp, h4, PV.c, this]
          · rename_i hrow
            split at h
            · rename_i cv rest hcs
              simp only [Option.some.injEq, Prod.mk.injEq] at h
              obtain ⟨rfl, rfl⟩ := h
              obtain ⟨rfl, hob1⟩ := hob
              obtain ⟨h4, _⟩ := evp_c ha hc h1 hob1
              have hcell := hw.cell hbx off
              have : bx.cs[off]? = some cv := by
                rw [dropC_eq] at hcs
                have : (bx.cs.drop off)[0]? = some cv := by rw [hcs]; rfl
                rwa [List.getElem?_drop, Nat.add_zero] at this
              rw [this] at hcell
              simp only [Option.map_some] at hcell
              have hrow' : rowOf d = false := hrow
              have hcc : (PV.p bx.b i off).c = .pointer (some ⟨bx.b, off, none⟩) := rfl
              simp [execOp, h4, hcc, Instr.loadAt, Instr.sureAddr, loadVar, run_isAgg hu, hrow', hcell]
            · cases h
        · cases h
      · cases h
    · cases h
  case fieldAddr t x f =>
    split at h
    · rename_i b i off ob1 h1
      split at h
      · rename_i ti hl
        obtain ⟨ii, d, z, hi, hu, hz, rfl⟩ := hT.row hl
        split at h
        · rename_i fs hk
          obtain ⟨fl, rfl, hm⟩ := kOf_struct hk
          split at h
          · rename_i foff fsz frow hf
            split at h
            · cases h
            · rename_i m
              simp only [Option.some.injEq, Prod.mk.injEq] at h
              obtain ⟨rfl, rfl⟩ := h
              obtain ⟨h4, _⟩ := evp_c ha hc h1 hob
              obtain ⟨fd, hfd, rfl, fi, u, hfi, _, hfs, _⟩ := field_at hm hf
              have hsz : (sizeOf fd.type).run P w = .ok (m + 1) w := by simp [sizeOf, typeInfo, hfi, hfs]
              have hadd : (⟨b, off, none⟩ : Addr).add fd.offset = ⟨b, off + fd.offset, none⟩ := Addr.add_mid _ _ _
              simp [execOp, h4, Instr.fieldAt, run_underlying hu, hfd, Instr.sureAddr, fieldPlace, hsz, hadd, PV.c]
          · cases h
        · cases h
      · cases h
    · rename_i ad ob1 h1
      split at h
      · rename_i ti hl
        obtain ⟨ii, d, z, hi, hu, hz, rfl⟩ := hT.row hl
        split at h
        · rename_i fs hk
          obtain ⟨fl, rfl, hm⟩ := kOf_struct hk
          split at h
          · rename_i foff fsz frow hf
            split at h
            · cases h
            · rename_i m
              simp only [Option.some.injEq, Prod.mk.injEq] at h
              obtain ⟨rfl, rfl⟩ := h
              obtain ⟨h4, _⟩ := evp_c ha hc h1 hob
              obtain ⟨fd, hfd, rfl, fi, u, hfi, _, hfs, _⟩ := field_at hm hf
              have hsz : (sizeOf fd.type).run P w = .ok (m + 1) w := by simp [sizeOf, typeInfo, hfi, hfs]
              simp [execOp, h4, Instr.fieldAt, run_underlying hu, hfd, Instr.sureAddr, fieldPlace, hsz, PV.c]
          · cases h
        · cases h
      · cases h
    · cases h
  case field t x f =>
    split at h
    · rename_i cs ob1 h1
      split at h
      · rename_i ti hl
        obtain ⟨ii, d, z, hi, hu, hz, rfl⟩ := hT.row hl
        split at h
        · rename_i fs hk
          obtain ⟨fl, rfl, hm⟩ := kOf_struct hk
          split at h
          · rename_i foff fsz frow hf
            obtain ⟨fd, hfd, rfl, fi, u, hfi, hfu, hfs, hfr⟩ := field_at hm hf
            have hsz : (sizeOf fd.type).run P w = .ok fsz w := by simp [sizeOf, typeInfo, hfi, hfs]
            split at h
            · obtain ⟨h2, h3⟩ := takeV_some _ _ _ _ h
              simp only [Option.some.injEq, Prod.mk.injEq] at h3
              obtain ⟨rfl, rfl⟩ := h3
              obtain ⟨h4, _⟩ := evp_c ha hc h1 hob
              rw [dropC_eq]
              have he : cs.extract fd.offset (fd.offset + fsz) = (List.take fsz (List.drop fd.offset cs.toList)).toArray := by
                apply Array.toList_inj.1
                simp [List.extract_eq_take_drop]
              simp [execOp, h4, Instr.field, run_underlying hu, hfd, asAgg, part, run_isAgg hfu, hfr, hsz, he, PV.c]
            · split at h
              · rename_i xv rest hcs
                simp only [Option.some.injEq, Prod.mk.injEq] at h
                obtain ⟨rfl, rfl⟩ := h
                obtain ⟨h4, _⟩ := evp_c ha hc h1 hob
                have hx : cs[fd.offset]? = some xv := by
                  rw [dropC_eq] at hcs
                  have : (cs.toList.drop fd.offset)[0]? = some xv := by rw [hcs]; rfl
                  rwa [List.getElem?_drop, Nat.add_zero, Array.getElem?_toList] at this
                simp [execOp, h4, Instr.field, run_underlying hu, hfd, asAgg, part, run_isAgg hfu, hfr, hx, PV.c]
              · cases h
          · cases h
        · cases h
      · cases h
    · cases h
  case binOp op t x y yt =>
    split at h
    · rename_i av ob1 h1
      split at h
      · rename_i bv ob2 h2
        obtain ⟨h3, h4⟩ := binV_run (P := P) (w := w) h hob
        obtain ⟨h5, h6⟩ := evp_c ha hc h2 h4
        obtain ⟨h7, _⟩ := evp_c ha hc h1 h6
        have := h3 t x y
        simp only [Sem.run_bind] at this
        simp only [execOp, h5, h7, Sem.run_bind]
        generalize (eqGuard op t x y av.c bv.c).run P w = q at this ⊢
        cases q with
        | ok u w1 =>
          simp only [Result.andThen_ok] at this ⊢
          rw [this]
          rfl
        | halt e w1 => cases this
      · cases h
    · cases h
  case unOp op t x =>
    split at h
    · rename_i av ob1 h1
      split at h
      · simp only [Option.some.injEq, Prod.mk.injEq] at h
        obtain ⟨rfl, rfl⟩ := h
        obtain ⟨h4, _⟩ := evp_c ha hc h1 hob
        simp [execOp, h4, PV.c, Op.unary]
      · cases h
    · rename_i k n ob1 h1
      split at h
      · simp only [Option.some.injEq, Prod.mk.injEq] at h
        obtain ⟨rfl, rfl⟩ := h
        obtain ⟨h5, hob1⟩ := hob
        obtain ⟨h4, _⟩ := evp_c ha hc h1 hob1
        have := inR_wrap h5
        simp only [Int.zero_sub] at this ⊢
        simp [execOp, h4, PV.c, Op.unary, Op.intArith, this]
      · cases h
    · cases h
  case convert s d x =>
    split at h
    · rename_i kk n ob1 h1
      split at h
      · rename_i ti hl
        obtain ⟨ii, dd, z, hi, hu, hz, rfl⟩ := hT.row hl
        split at h
        · rename_i k hk
          have hk' := kOf_int hk
          subst hk'
          split at h
          · rename_i ti2 hl2
            obtain ⟨ii2, dd2, z2, hi2, hu2, hz2, rfl⟩ := hT.row hl2
            simp only [Option.some.injEq, Prod.mk.injEq] at h
            obtain ⟨rfl, rfl⟩ := h
            obtain ⟨h5, hob1⟩ := hob
            obtain ⟨h4, _⟩ := evp_c ha hc h1 hob1
            simp [execOp, h4, PV.c, convert, run_underlying hu, run_underlying hu2, Conv.intToInt, inR_wrap h5]
          · cases h
        · cases h
      · cases h
    · cases h
  case extract x i =>
    split at h
    · rename_i vs ob1 h1
      split at h
      · rename_i v hv
        simp only [Option.some.injEq, Prod.mk.injEq] at h
        obtain ⟨rfl, rfl⟩ := h
        obtain ⟨h4, _⟩ := evp_c ha hc h1 hob
        rw [nth_eq, Array.getElem?_toList] at hv
        simp [execOp, h4, PV.c, Instr.extract, hv]
      · cases h
    · cases h
  case nilCheck x =>
    split at h
    · rename_i b i off ob1 h1
      simp only [Option.some.injEq, Prod.mk.injEq] at h
      obtain ⟨rfl, rfl⟩ := h
      obtain ⟨h4, _⟩ := evp_c ha hc h1 hob
      simp [execOp, h4, PV.c]
    · rename_i ad ob1 h1
      simp only [Option.some.injEq, Prod.mk.injEq] at h
      obtain ⟨rfl, rfl⟩ := h
      obtain ⟨h4, _⟩ := evp_c ha hc h1 hob
      simp [execOp, h4, PV.c]
    · cases h
  case makeFunc fn first cap =>
    obtain ⟨l', ob', hk, hp⟩ := partsV_some ha hc _ _ _ _ h
    obtain ⟨l2, ob2, hk2, hp2⟩ := partsV_some ha hc _ _ _ _ hk
    have hk3 := valC_some _ _ _ (valC_some _ _ _ hk2)
    simp only [Option.some.injEq, Prod.mk.injEq] at hk3
    obtain ⟨rfl, rfl⟩ := hk3
    obtain ⟨h1, h2⟩ := hp2 hob
    obtain ⟨h3, _⟩ := hp h2
    have e1 : first.map a.eval = (l'.map fun x => x.2.c).toArray := by
      apply Array.toList_inj.1
      have := congrArg (List.map Prod.snd) h3
      simpa [List.map_map, Function.comp_def] using this
    have e2 : cap.map a.eval = (l2.map fun x => x.2.c).toArray := by
      apply Array.toList_inj.1
      have := congrArg (List.map Prod.snd) h1
      simpa [List.map_map, Function.comp_def] using this
    simp [execOp, Instr.makeFunc, PV.c, e1, e2]

  case index t x ix =>
    split at h
    · rename_i cs ob1 h1
      split at h
      · rename_i kk n ob2 h2
        split at h
        · rename_i ti hl
          obtain ⟨ii, d, z, hi, hu, hz, rfl⟩ := hT.row hl
          have hin : (PV.v (Value.int kk n)).c = .int kk n := rfl
          have hag : (PV.v (Value.agg cs)).c = .agg cs := rfl
          split at h
          · rename_i len e es er hk
            obtain ⟨rfl, ie, ue, hie, hue, hes, hrow⟩ := kOf_array hk
            have hsz : (sizeOf e).run P w = .ok es w := by simp [sizeOf, typeInfo, hie, hes]
            split at h
            · obtain ⟨g1, g2⟩ := takeV_some _ _ _ _ h
              simp only [Option.some.injEq, Prod.mk.injEq] at g2
              obtain ⟨rfl, rfl⟩ := g2
              obtain ⟨h5, hob1⟩ := hob
              obtain ⟨h6, hob2⟩ := evp_c ha hc h2 hob1
              obtain ⟨h7, _⟩ := evp_c ha hc h1 hob2
              rw [dropC_eq]
              have he : cs.extract (n.toNat * es) (n.toNat * es + es) = (List.take es (List.drop (n.toNat * es) cs.toList)).toArray := by
                apply Array.toList_inj.1
                simp [List.extract_eq_take_drop]
              simp [execOp, h6, h7, hin, hag, Instr.index, asIntOf, run_underlying hu, h5.1, h5.2, hsz, part, run_isAgg hue, hrow, he, PV.c]
            · split at h
              · rename_i xv rest hcs
                simp only [Option.some.injEq, Prod.mk.injEq] at h
                obtain ⟨rfl, rfl⟩ := h
                obtain ⟨h5, hob1⟩ := hob
                obtain ⟨h6, hob2⟩ := evp_c ha hc h2 hob1
                obtain ⟨h7, _⟩ := evp_c ha hc h1 hob2
                have hx : cs[n.toNat * es]? = some xv := by
                  rw [dropC_eq] at hcs
                  have : (cs.toList.drop (n.toNat * es))[0]? = some xv := by rw [hcs]; rfl
                  rwa [List.getElem?_drop, Nat.add_zero, Array.getElem?_toList] at this
                simp [execOp, h6, h7, hin, hag, Instr.index, asIntOf, run_underlying hu, h5.1, h5.2, hsz, part, run_isAgg hue, hrow, hx, PV.c]
              · cases h
          · cases h
        · cases h
      · cases h
    · cases h
  case indexAddr t x ix =>
    split at h
    · rename_i xv ob1 h1
      split at h
      · rename_i kk n ob2 h2
        split at h
        · rename_i ti hl
          obtain ⟨ii, d, z, hi, hu, hz, rfl⟩ := hT.row hl
          have hin : (PV.v (Value.int kk n)).c = .int kk n := rfl
          split at h
          · rename_i len e es er hk
            obtain ⟨rfl, ie, ue, hie, _, hes, _⟩ := kOf_array hk
            have hsz : (sizeOf e).run P w = .ok es w := by simp [sizeOf, typeInfo, hie, hes]
            split at h
            · rename_i b i off
              simp only [Option.some.injEq, Prod.mk.injEq] at h
              obtain ⟨rfl, rfl⟩ := h
              obtain ⟨h5, hob1⟩ := hob
              obtain ⟨h6, hob2⟩ := evp_c ha hc h2 hob1
              obtain ⟨h7, _⟩ := evp_c ha hc h1 hob2
              simp [execOp, h6, h7, PV.c, Instr.indexAt, asIntOf, run_underlying hu, Instr.sureAddr, h5.1, h5.2, hsz, Addr.add_mid]
            · rename_i ad
              simp only [Option.some.injEq, Prod.mk.injEq] at h
              obtain ⟨rfl, rfl⟩ := h
              obtain ⟨h5, hob1⟩ := hob
              obtain ⟨h6, hob2⟩ := evp_c ha hc h2 hob1
              obtain ⟨h7, _⟩ := evp_c ha hc h1 hob2
              simp [execOp, h6, h7, PV.c, Instr.indexAt, asIntOf, run_underlying hu, Instr.sureAddr, h5.1, h5.2, hsz]
            · cases h
          · rename_i e es hk
            obtain ⟨rfl, ie, hie, hes⟩ := kOf_slice hk
            have hsz : (sizeOf e).run P w = .ok es w := by simp [sizeOf, typeInfo, hie, hes]
            split at h
            · rename_i ad len cap
              simp only [Option.some.injEq, Prod.mk.injEq] at h
              obtain ⟨rfl, rfl⟩ := h
              obtain ⟨h5, hob1⟩ := hob
              obtain ⟨h6, hob2⟩ := evp_c ha hc h2 hob1
              obtain ⟨h7, _⟩ := evp_c ha hc h1 hob2
              simp [execOp, h6, h7, PV.c, Instr.indexAt, asIntOf, run_underlying hu, h5.1, h5.2, hsz]
            · rename_i ad len cap i
              simp only [Option.some.injEq, Prod.mk.injEq] at h
              obtain ⟨rfl, rfl⟩ := h
              obtain ⟨h5, hob1⟩ := hob
              obtain ⟨h6, hob2⟩ := evp_c ha hc h2 hob1
              obtain ⟨h7, _⟩ := evp_c ha hc h1 hob2
              simp [execOp, h6, h7, PV.c, Instr.indexAt, asIntOf, run_underlying hu, h5.1, h5.2, hsz]
            · cases h
          · cases h
        · cases h
      · cases h
    · cases h
  case call c =>
    obtain ⟨callee, args, argTypes⟩ := c
    simp only at h
    split at h
    · split at h
      · rename_i x hargs
        split at h
        · rename_i t htys
          split at h
          · rename_i xv ob1 h1
            split at h
            · rename_i ti hl
              obtain ⟨ii, d, z, hi, hu, hz, rfl⟩ := hT.row hl
              have ea : args = #[x] := Array.toList_inj.1 hargs
              have et : argTypes = #[t] := Array.toList_inj.1 htys
              subst ea; subst et
              split at h
              · rename_i hk
                have hk' := kOf_str hk
                subst hk'
                split at h
                · simp only [Option.some.injEq, Prod.mk.injEq] at h
                  obtain ⟨rfl, rfl⟩ := h
                  obtain ⟨h7, _⟩ := evp_c ha hc h1 hob
                  simp [execOp, resolve, invoke, builtin, Builtin.len_, h7, PV.c, run_underlying hu, goInt]
                · cases h
              · rename_i e es hk
                obtain ⟨rfl, ie, hie, hes⟩ := kOf_slice hk
                split at h
                · simp only [Option.some.injEq, Prod.mk.injEq] at h
                  obtain ⟨rfl, rfl⟩ := h
                  obtain ⟨h7, _⟩ := evp_c ha hc h1 hob
                  simp [execOp, resolve, invoke, builtin, Builtin.len_, h7, PV.c, run_underlying hu, goInt]
                · simp only [Option.some.injEq, Prod.mk.injEq] at h
                  obtain ⟨rfl, rfl⟩ := h
                  obtain ⟨h7, _⟩ := evp_c ha hc h1 hob
                  simp [execOp, resolve, invoke, builtin, Builtin.len_, h7, PV.c, run_underlying hu, goInt]
                · cases h
              · rename_i n e es er hk
                obtain ⟨rfl, _⟩ := kOf_array hk
                simp only [Option.some.injEq, Prod.mk.injEq] at h
                obtain ⟨rfl, rfl⟩ := h
                simp [execOp, resolve, invoke, builtin, Builtin.len_, PV.c, run_underlying hu, goInt]
              · cases h
            · cases h
          · cases h
        · cases h
      · cases h
    · split at h
      · rename_i x y hargs
        split at h
        · rename_i k m ob1 h1
          split at h
          · rename_i k2 n ob2 h2
            simp only [Option.some.injEq, Prod.mk.injEq] at h
            obtain ⟨rfl, rfl⟩ := h
            obtain ⟨h6, hob1⟩ := evp_c ha hc h2 hob
            obtain ⟨h7, _⟩ := evp_c ha hc h1 hob1
            have ea : args = #[x, y] := Array.toList_inj.1 hargs
            subst ea
            have hm : (if n > m then n else m) = max m n := by
              by_cases hh : n > m
              · rw [if_pos hh]; omega
              · rw [if_neg hh]; omega
            simp [execOp, resolve, invoke, builtin, Builtin.max_, Builtin.max2, h6, h7, PV.c]
            omega
          · cases h
        · cases h
      · cases h
    · split at h
      · rename_i x y hargs
        split at h
        · rename_i k m ob1 h1
          split at h
          · rename_i k2 n ob2 h2
            simp only [Option.some.injEq, Prod.mk.injEq] at h
            obtain ⟨rfl, rfl⟩ := h
            obtain ⟨h6, hob1⟩ := evp_c ha hc h2 hob
            obtain ⟨h7, _⟩ := evp_c ha hc h1 hob1
            have ea : args = #[x, y] := Array.toList_inj.1 hargs
            subst ea
            simp [execOp, resolve, invoke, builtin, Builtin.min_, Builtin.min2, h6, h7, PV.c]
            omega
          · cases h
        · cases h
      · cases h
    · cases h

end
end Go.E
