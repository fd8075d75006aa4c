/- Steps through a region: stores, guards, runs of pure operations. -/
import Derived.Test.YtmfophoejjcnlaaDoorEngC
namespace Go.E
set_option linter.unusedSimpArgs false
set_option linter.unusedVariables false
open Go.RowKit

def gctx (l0 : List Oper) (σ : St) : Option (Nat × Bool) → Option (List (Bool × Bool))
  | none => some []
  | some (j, w) => match nth l0 j with
    | some o => match o.dst with
      | some d => match look σ.sl d with
        | some (.s (.v (.bool c))) => some [(c, w)]
        | some (.g gs (.v (.bool c))) => some (gs ++ [(c, w)])
        | _ => none
      | none => none
    | none => none

def one1 : PV → Bool
  | .v x => x.oneCell'
  | _ => true

def oneAll : List PV → Bool
  | [] => true
  | x :: r => one1 x && oneAll r

def bOf : Bx → Nat
  | ⟨b, _, _⟩ => b

def storeV (T : TT) (sl : List (Nat × AV)) (bx : List Bx) (rw : List Rw) (o : Oper) : Option (St × List Prop) :=
  match o.op with
  | .store t x y => match o.dst with
    | none => match evp ⟨sl, bx, rw⟩ [] x [] with
      | some (.p b i off, ob) => match evp ⟨sl, bx, rw⟩ [] y ob with
        | some (v, ob) => match look T t with
          | some ti => match nth bx i with
            | some x0 => bif Nat.beq (cellsOf v).length ti.size then
                updB i bx (fun y k => match y with | ⟨yb, yt, ycs⟩ => putC off (cellsOf v) ycs fun cs => k ⟨yb, yt, cs⟩) fun bs =>
                  some (⟨sl, bs, rw⟩, (b = bOf x0) :: (oneAll (cellsOf v) = true) :: ob)
              else none
            | none => none
          | none => none
        | none => none
      | _ => none
    | some _ => none
  | _ => none

def mkA : List (Bool × Bool) → PV → AV
  | [], x => .s x
  | c :: gs, x => .g (c :: gs) x

def impL (gs : List (Bool × Bool)) : List Prop → List Prop
  | [] => []
  | p :: ps => [imp gs (AllP (p :: ps))]

def isStore : Op → Bool
  | .store .. => true
  | _ => false

/-- One step: the new state, and what is owed. -/
def step (T : TT) (N : Nat) (l0 : List Oper) (o : Oper) : St → Option (St × List Prop)
  | ⟨sl, bx, rw⟩ => match gctx l0 ⟨sl, bx, rw⟩ o.guard with
  | none => none
  | some ctx => match isStore o.op with
    | true => match ctx with
      | [] => storeV T sl bx rw o
      | _ :: _ => none
    | false => match opV T ⟨sl, bx, rw⟩ ctx o with
      | some (r, ob) => match o.dst with
        | some d => match Nat.blt d N with
          | true => match ctx with
            | [] => some (⟨(d, .s r) :: sl, bx, rw⟩, ob)
            | c :: gs => some (⟨(d, .g (c :: gs) r) :: sl, bx, rw⟩, impL (c :: gs) ob)
          | false => none
        | none => none
      | none => none

/-- As many steps as there are. -/
def run (T : TT) (N : Nat) (l0 : List Oper) : List Oper → St → List Prop → List Oper × St × List Prop
  | [], σ, ob => ([], σ, ob)
  | o :: l, σ, ob => match step T N l0 o σ with
    | some (σ', ob') => match ob' with
      | [] => run T N l0 l σ' ob
      | p :: ps => run T N l0 l σ' (AllP (p :: ps) :: ob)
    | none => (o :: l, σ, ob)

section
variable {P : Program} {T : TT} {N B : Nat} {ds : List Nat} {w0 w : World} {Ps : Past} {σ σ' : St} {a : Act}

theorem gOk_append (g h : List (Bool × Bool)) : gOk (g ++ h) = (gOk g && gOk h) := by
  induction g with
  | nil => simp [gOk]
  | cons x g ih => obtain ⟨c, w⟩ := x; simp [gOk, ih, Bool.and_assoc]

theorem yielded_at {l0 : List Oper} {j d : Nat} {o : Oper} (hn : nth l0 j = some o) (hd : o.dst = some d) (tmps : Array Value) :
    yielded l0.toArray tmps j = match tmps[d]? with | some (.bool b) => some b | _ => none := by
  rw [nth_eq] at hn
  unfold yielded
  simp [hn, hd]
  rfl

theorem gctx_ok (ha : HA N ds σ a) {l0 : List Oper} {o : Oper} {ctx : List (Bool × Bool)} (h : gctx l0 σ o.guard = some ctx) :
    Region.wanted o (yielded l0.toArray a.tmps) = gOk ctx := by
  unfold Region.wanted
  generalize o.guard = g at h ⊢
  match g, h with
  | none, h => simp only [gctx, Option.some.injEq] at h; subst h; rfl
  | some (j, wt), h =>
    simp only [gctx] at h
    split at h
    · rename_i o' hn
      split at h
      · rename_i d hd
        have hy := yielded_at hn hd a.tmps
        split at h
        · rename_i c hl
          simp only [Option.some.injEq] at h
          subst h
          rw [ha.at_ d _ hl] at hy
          simp only [AV.c, PV.c] at hy
          show (yielded l0.toArray a.tmps j == some wt) = _
          rw [hy]
          cases c <;> cases wt <;> rfl
        · rename_i gs c hl
          simp only [Option.some.injEq] at h
          subst h
          rw [ha.at_ d _ hl] at hy
          rw [gOk_append]
          cases hg : gOk gs with
          | true =>
            simp only [AV.c, hg, PV.c] at hy
            simp only [if_true] at hy
            show (yielded l0.toArray a.tmps j == some wt) = _
            rw [hy]
            cases c <;> cases wt <;> rfl
          | false =>
            simp only [AV.c, hg, Bool.false_eq_true, if_false] at hy
            simp only [undef] at hy
            show (yielded l0.toArray a.tmps j == some wt) = _
            rw [hy]
            cases wt <;> rfl
        · cases h
      · cases h
    · cases h

theorem HA.put (ha : HA N ds σ a) {d : Nat} (hd : d < N) (v : AV) {σ' : St} (hs : σ'.sl = (d, v) :: σ.sl) : HA N ds σ' (a.put (some d) v.c) := by
  refine ⟨by simp [Act.put, ha.size], ha.defers, fun t u hu => ?_⟩
  rw [hs] at hu
  simp only [look] at hu
  cases hb : Nat.beq d t with
  | true =>
    have := Nat.eq_of_beq_eq_true hb
    subst this
    rw [hb] at hu
    simp only [cond_true, Option.some.injEq] at hu
    subst hu
    simp [Act.put, ha.size, hd]
  | false =>
    rw [hb] at hu
    simp only [cond_false] at hu
    have hne : d ≠ t := by
      intro e
      subst e
      simp at hb
    have := ha.at_ t u hu
    simp [Act.put, hne, this]

theorem HA.same (ha : HA N ds σ a) {σ' : St} (hs : σ'.sl = σ.sl) : HA N ds σ' a := ⟨ha.size, ha.defers, fun t u hu => ha.at_ t u (by rw [← hs]; exact hu)⟩

theorem HW.same (hw : HW B w0 Ps σ w) {σ' : St} (h1 : σ'.bx = σ.bx) (h2 : σ'.rw = σ.rw) : HW B w0 Ps σ' w := by
  refine ⟨hw.below, hw.bsize, by rw [h1]; exact hw.nodup, by rw [h1]; exact hw.box, by rw [h1]; exact hw.past, by rw [h1, h2]; exact hw.row, by rw [h2]; exact hw.apart, hw.old⟩

theorem imp_ok : ∀ (g : List (Bool × Bool)) (p : Prop), imp g p → gOk g = true → p
  | [], p, h, _ => h
  | (c, w) :: g, p, h, hg => by
    simp only [gOk, Bool.and_eq_true, beq_iff_eq] at hg
    exact imp_ok g p (h hg.1) hg.2

theorem impL_ok {g : List (Bool × Bool)} {ob : List Prop} (h : AllP (impL g ob)) (hg : gOk g = true) : AllP ob := by
  cases ob with
  | nil => exact trivial
  | cons p ps => exact imp_ok g _ h.1 hg

theorem oneAll_ok : ∀ {l : List PV}, oneAll l = true → ∀ v ∈ l.map PV.c, v.oneCell' = true
  | [], _, v, hv => by simp at hv
  | x :: r, h, v, hv => by
    simp only [oneAll, Bool.and_eq_true] at h
    simp only [List.map_cons, List.mem_cons] at hv
    rcases hv with rfl | hv
    · cases x with
      | v y => exact h.1
      | p b i off => rfl
      | r A n cap i => rfl
    · exact oneAll_ok h.2 v hv

theorem updB_some {β : Type} {off : Nat} {new : List PV} : ∀ (i : Nat) (l : List Bx) (k : List Bx → Option β) (r : β),
    updB i l (fun y k => match y with | ⟨yb, yt, ycs⟩ => putC off new ycs fun cs => k ⟨yb, yt, cs⟩) k = some r →
    ∃ x cs, l[i]? = some x ∧ off + new.length ≤ x.cs.length ∧ cs = x.cs.take off ++ (new ++ x.cs.drop (off + new.length)) ∧ k (l.set i { x with cs := cs }) = some r
  | _, [], k, r, h => by simp [updB] at h
  | 0, x :: l, k, r, h => by
    simp only [updB] at h
    obtain ⟨h1, h2⟩ := putC_some off new x.cs _ r h
    exact ⟨x, _, by simp, h1, rfl, h2⟩
  | i + 1, x :: l, k, r, h => by
    simp only [updB] at h
    obtain ⟨y, cs, h1, h2, h3, h4⟩ := updB_some i l _ r h
    exact ⟨y, cs, by simpa using h1, h2, h3, by simpa using h4⟩

theorem ownsRow_of {w w' : World} {b : Nat} {e : TypeId} {size n : Nat} {v : Value} {xs : List Value} (h : w.ownsRow b e size v n xs)
    (hk : ∀ g, v.ownBlock = some g → w'.heap[g]? = w.heap[g]?) : w'.ownsRow b e size v n xs := by
  refine ⟨h.1, ?_⟩
  rcases h.2 with h2 | ⟨g, cap, cur, rfl, h3, h4, h5⟩
  · exact .inl h2
  · exact .inr ⟨g, cap, cur, rfl, h3, by rw [hk g rfl]; exact h4, h5⟩

theorem heap_setRow_ne (w : World) (g : Nat) (cs : Array Value) {k : Nat} (h : k ≠ g) : (w.setRow g cs).heap[k]? = w.heap[k]? := by
  simp only [World.setRow, Array.getElem?_modify]
  rw [if_neg (by omega)]

theorem Below.setRow {B : Nat} {a w : World} (h : Below B a w) {g : Nat} (hg : B ≤ g) (cs : Array Value) : Below B a (w.setRow g cs) :=
  h.trans ⟨rfl, rfl, rfl, by simp [World.setRow], fun k hk => heap_setRow_ne w g cs (by omega)⟩

theorem HW.lt (hw : HW B w0 Ps σ w) {x : Bx} (hx : x ∈ σ.bx) : x.b < w.heap.size := (Array.getElem?_eq_some_iff.1 (hw.box x hx).2).1

/-- One box has other cells. -/
theorem HW.setBox (hw : HW B w0 Ps σ w) {i : Nat} {x : Bx} (hx : σ.bx[i]? = some x) (cs : List PV) :
    HW B w0 Ps { σ with bx := σ.bx.set i { x with cs := cs } } (w.setRow x.b (cs.map PV.c).toArray) := by
  have hxm : x ∈ σ.bx := List.mem_of_getElem? hx
  have hi : i < σ.bx.length := (List.getElem?_eq_some_iff.1 hx).1
  have hbs : (σ.bx.set i { x with cs := cs }).map (·.b) = σ.bx.map (·.b) := by
    rw [List.map_set]
    apply List.ext_getElem?
    intro j
    rw [List.getElem?_set]
    split
    · rename_i hij
      subst hij
      simp [hi, (List.getElem?_eq_some_iff.1 hx).2]
    · rfl
  have hmem : ∀ y, y ∈ σ.bx.set i { x with cs := cs } → (y = { x with cs := cs }) ∨ (y ∈ σ.bx ∧ y.b ≠ x.b) := by
    intro y hy
    obtain ⟨j, hj⟩ := List.mem_iff_getElem?.1 hy
    rw [List.getElem?_set] at hj
    by_cases hij : i = j
    · rw [if_pos hij, if_pos hi] at hj
      exact .inl (Option.some.inj hj).symm
    · rw [if_neg hij] at hj
      refine .inr ⟨List.mem_of_getElem? hj, fun e => hij ?_⟩
      have hnd := hw.nodup
      have h1 : (σ.bx.map (·.b))[i]? = some x.b := by simp [hx]
      have h2 : (σ.bx.map (·.b))[j]? = some x.b := by simp [hj, e]
      exact (List.getElem?_inj (by simpa using hi) hnd).1 (h1.trans h2.symm)
  have hsz : (w.setRow x.b (cs.map PV.c).toArray).heap.size = w.heap.size := by simp [World.setRow]
  refine ⟨Below.setRow hw.below (hw.box x hxm).1 _, by rw [hsz]; exact hw.bsize, by simp only [hbs]; exact hw.nodup, fun y hy => ?_, fun p hp b hb => ?_, fun r hr => ?_, hw.apart, fun p hp => by rw [hsz]; exact hw.old p hp⟩
  · rcases hmem y hy with rfl | ⟨hy, hne⟩
    · exact ⟨(hw.box x hxm).1, setRow_heap w x.b _ _ _ _ (hw.box x hxm).2⟩
    · exact ⟨(hw.box y hy).1, by rw [heap_setRow_ne w _ _ hne]; exact (hw.box y hy).2⟩
  · obtain ⟨h1, h2⟩ := hw.past p hp b hb
    refine ⟨by rw [heap_setRow_ne w _ _ (fun e => h2 x hxm e.symm), hsz]; exact h1, fun y hy => ?_⟩
    rcases hmem y hy with rfl | ⟨hy, _⟩
    · exact h2 x hxm
    · exact h2 y hy
  · obtain ⟨h1, h2⟩ := hw.row r hr
    refine ⟨ownsRow_of h1 fun g hg => heap_setRow_ne w _ _ (fun e => (h2 g hg).1 x hxm e.symm), fun g hg => ⟨fun y hy => ?_, (h2 g hg).2⟩⟩
    rcases hmem y hy with rfl | ⟨hy, _⟩
    · exact (h2 g hg).1 x hxm
    · exact (h2 g hg).1 y hy

theorem storeV_run (hT : TOk P T) {sl : List (Nat × AV)} {bx : List Bx} {rw : List Rw} (ha : HA N ds ⟨sl, bx, rw⟩ a) (hw : HW B w0 Ps ⟨sl, bx, rw⟩ w) {o : Oper} {ob : List Prop} (h : storeV T sl bx rw o = some (σ', ob)) (hob : AllP ob) :
    ∃ w', (execOp a.eval o).run P w = .ok .skip w' ∧ o.dst = none ∧ HA N ds σ' a ∧ HW B w0 Ps σ' w' := by
  obtain ⟨dst, op, ty, pos, after, guard⟩ := o
  cases op <;> simp only [storeV, reduceCtorEq] at h
  rename_i t x y
  split at h
  · split at h
    · rename_i b i off ob1 h1
      split at h
      · rename_i v ob2 h2
        split at h
        · rename_i ti hl
          split at h
          · rename_i x0 hbx
            cases hb : Nat.beq (cellsOf v).length ti.size with
            | false => simp [hb] at h
            | true =>
              rw [hb] at h
              simp only [cond_true] at h
              have hsz := Nat.eq_of_beq_eq_true hb
              obtain ⟨x', cs, g1, g2, g3, g4⟩ := updB_some i bx _ _ h
              simp only [Option.some.injEq, Prod.mk.injEq] at g4
              obtain ⟨rfl, rfl⟩ := g4
              rw [nth_eq, g1] at hbx
              have hbx' := Option.some.inj hbx
              subst hbx'
              obtain ⟨rfl, hone, hob2⟩ := hob
              obtain ⟨e2, hob1⟩ := evp_c ha rfl h2 hob2
              obtain ⟨e1, _⟩ := evp_c ha rfl h1 hob1
              obtain ⟨ii, d, z, hi, hu, hz, rfl⟩ := hT.row hl
              have hcs := cellsOf_c v
              have hxm : x' ∈ bx := List.mem_of_getElem? g1
              have hheap := (hw.box x' hxm).2
              have hlen : v.c.cells.toList.length = (cellsOf v).length := by rw [← hcs]; simp
              have hrun := run_storeCells_at (P := P) x'.b off x'.ty v.c.cells.toList 0 _ w hheap (by simp only [Nat.add_zero, hlen]; simpa using g2)
                (by rw [← hcs]; exact oneAll_ok hone)
              refine ⟨w.setRow x'.b (cs.map PV.c).toArray, ?_, rfl, ha.same rfl, hw.setBox g1 cs⟩
              have hcc : (PV.p (bOf x') i off).c = .pointer (some ⟨x'.b, off, none⟩) := rfl
              have hs2 : v.c.cells.size = ii.size := by
                have := hlen
                simp only [Array.length_toList] at this
                rw [this]; exact hsz
              have hcsm : (cs.map PV.c).toArray = ((x'.cs.map PV.c).toArray.toList.take (off + 0) ++ v.c.cells.toList ++ (x'.cs.map PV.c).toArray.toList.drop (off + 0 + v.c.cells.toList.length)).toArray := by
                rw [g3, hlen, ← hcs]
                simp [List.map_take, List.map_drop]
              rw [hcsm]
              simp only [execOp, e1, e2, hcc, Instr.storeAt, Instr.sureAddr, storeVar, sizeOf, typeInfo, Sem.run_bind, Sem.run_pure, Result.andThen_ok, run_program, hi, hs2, ne_eq, not_true, if_false, hrun]
          · cases h
        · cases h
      · cases h
    · cases h
  · cases h

end
end Go.E
