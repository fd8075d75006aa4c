/- Mixer: ranges of trees: contracts of the program. -/
import Derived.Test.YtjkgklhjbopoaaaGreatDoorPartG
import Derived.Test.YtjkgklhjbopoaaaGreatDoorEng4
import Derived.Test.YtjkgklhjbopoaaaGreatDoorRows
import Derived.Test.YtjkgklhjbopoaaaGreatDoorShelf
import Derived.Lib.AppendIntMem
import Derived.Lib.ItoaLen
import Derived.Lib.Join
import Derived.Laws.Concat
namespace Go.Proofs.YtjkgklhjbopoaaaGreatDoor
open Go.E Go.RowKit Go.Fl
attribute [local irreducible] G C S D Calls
set_option maxRecDepth 100000
set_option linter.all false
set_option maxHeartbeats 8000000
def ivC (x : Int × Int) : List Value := [.int .i64 x.1, .int .i64 x.2]
def ivE (x : Int × Int) : Int := firstL [lvE x.1, lvE x.2, wh (decide (x.2 < x.1)) 11]
theorem K9 (l : List (Int × Int)) : (l.flatMap ivC).length = l.length * 2 := C7 (f := ivC) (s := 2) l (fun _ _ => rfl)
theorem bz9 {l : List (Int × Int)} {z : Int} (h : 0 ≤ z ∧ z < l.length) : gR l z = l[z.toNat]'(by omega) := by
  unfold gR
  simp only [List.getD_eq_getElem?_getD]
  rw [List.getElem?_eq_getElem (by omega)]
  rfl
theorem aP7 {l : List (Int × Int)} {z : Int} (h : 0 ≤ z ∧ z < l.length) : ∀ (j : Nat) (u : Value), ([.int .i64 (gR l z).1, .int .i64 (gR l z).2] : List Value)[j]? = some u → (l.flatMap ivC)[z.toNat * 2 + j]? = some u := by
  rw [bz9 h]
  exact idxS (f := ivC) (fun _ => rfl) (show z.toNat < l.length by omega)
def rgX (t : List Nod) (sr : Int → Int × Int) (k : Nat) : List (Int × Int) := rgN t sr k ++ List.replicate (t.length - k) (0, 0)
section
variable {t : List Nod} {sr : Int → Int × Int}
theorem Q5 {k : Nat} (h : k ≤ t.length) : (rgX t sr k).length = t.length := by
  unfold rgX
  rw [List.length_append, M9, List.length_replicate]
  omega
theorem bt0 : (List.replicate t.length [Value.int .i64 0, Value.int .i64 0]).flatten = (rgX t sr 0).flatMap ivC := by
  unfold rgX
  show _ = (([] : List (Int × Int)) ++ List.replicate (t.length - 0) (0, 0)).flatMap ivC
  rw [List.nil_append, Nat.sub_zero]
  induction t.length with
  | zero => rfl
  | succ n ih => rw [List.replicate_succ, List.replicate_succ, List.flatten_cons, ih]; rfl
theorem Q4 {k : Nat} {a z : Int} (h : 0 ≤ a ∧ a < k) (hz : z = a) (hk : k ≤ t.length) : ∀ (j : Nat) (u : Value), ([.int .i64 (gR (rgN t sr k) a).1, .int .i64 (gR (rgN t sr k) a).2] : List Value)[j]? = some u → ((rgX t sr k).flatMap ivC)[z.toNat * 2 + j]? = some u := by
  subst hz
  have e : gR (rgN t sr k) z = gR (rgX t sr k) z := by
    unfold rgX gR
    simp only [List.getD_eq_getElem?_getD]
    rw [List.getElem?_append_left (by rw [M9]; omega)]
  rw [e]
  exact aP7 (by rw [Q5 hk]; omega)
theorem X2 {k : Nat} {z : Int} (hz : z = k) (hk : k < t.length) {p : Int × Int} (hv : nrF (gN t k) (rgN t sr k) sr = p) : (rgX t sr (k + 1)).flatMap ivC = ((rgX t sr k).flatMap ivC).take (z.toNat * 2) ++ ([Value.int .i64 p.1, Value.int .i64 p.2] ++ ((rgX t sr k).flatMap ivC).drop (z.toNat * 2 + 2)) := by
  subst hz
  unfold rgX
  rw [rgN, hv, Int.toNat_natCast, List.flatMap_append, List.flatMap_append, List.flatMap_append]
  have hl : ((rgN t sr k).flatMap ivC).length = k * 2 := by rw [K9, M9]
  rw [List.take_left' hl, List.drop_append, List.drop_of_length_le (by omega), List.nil_append, hl, show k * 2 + 2 - k * 2 = 2 by omega, List.append_assoc]
  congr 1
  rw [show t.length - k = (t.length - (k + 1)) + 1 by omega, List.replicate_succ, List.flatMap_cons]
  rfl
theorem bg0 : rgX t sr t.length = rgN t sr t.length := by simp [rgX]
end
def rgE1 (t : List Nod) (l : List (Int × Int)) : Int := firstL [trE t, wh (decide ((8 : Int) < l.length)) 5]
def rgR (t : List Nod) (l : List (Int × Int)) : List (Int × Int) × Int := if rgE1 t l = 0 then (if firstL (l.map ivE) = 0 then (if (scI t).any (gtB l.length) = true then ([], 10) else (rgN t (gR l) t.length, 0)) else ([], firstL (l.map ivE))) else ([], rgE1 t l)
theorem bb7 {t : List Nod} {l : List (Int × Int)} (h : rgE1 t l = 0) : TrOk t ∧ l.length ≤ 8 := by
  unfold rgE1 at h
  rw [p9] at h
  simp only [List.mem_cons, List.mem_nil_iff, or_false, forall_eq_or_imp, forall_eq] at h
  rw [G2, B7 (by omega)] at h
  exact ⟨h.1, by have := h.2; simp at this; omega⟩
theorem bm6 {t : List Nod} (ht : TrOk t) {n : Nat} (hh : (scI t).any (gtB n) = false) {k : Nat} (hk : k < t.length) (hs : kdOf (gN t k).kd = some .src) : 0 ≤ (gN t k).n ∧ (gN t k).n < n := by
  obtain ⟨q, hq⟩ := ht.s k hk
  have e : q = .src := by have := hq.kd; rw [hs] at this; cases this; rfl
  subst e
  have h1 : 0 ≤ (gN t k).n ∧ (gN t k).n ≤ 7 := (D1 _ _ _).1 hq.ki
  refine ⟨h1.1, ?_⟩
  rw [aB1, List.any_eq_false] at hh
  have hm : (gN t k).n.toNat ∈ scL t := by
    unfold scL
    rw [List.mem_filter, List.mem_range]
    refine ⟨by omega, K2.2 ⟨gN t k, by rw [E6 hk]; exact List.getElem_mem hk, am2 hs, by omega⟩⟩
  have := hh _ hm
  simp at this
  omega
theorem T6 (x : Int × Int) (w : World) : Calls Tryz.prog 133 #[.agg #[.int .i64 x.1, .int .i64 x.2]] w fun r w' => r = .returned (.int .i64 (ivE x)) ∧ Below w.heap.size w w' := by
  refine i7 n9 Tryz.func133 rfl Tryz.ntmps133 (Nat.le_of_ble_eq_true rfl) rfl ?_
  repeat' (first
|(refine j7 ?_; first
|refine e8 ?_
|refine a6 rfl ?_
|refine i6 ?_
|refine n8 (id := 1) 11 [(0, true), (1, true), (3, true), (4, true), (6, true), (7, true), (8, true), (9, true), (10, true), (2, false), (5, false)] rfl mixed (by kernel_rfl) rfl ?_)
|(refine k6 ?_; first
|refine e7 ?_
|refine e9 rfl rfl obQ obQ ?_
|refine k7 (fun b => ⟨_, _, rfl, obQ, ?_⟩)
|refine j9 (fun b => ⟨_, _, rfl, obQ, ?_⟩)
|refine a8 (f := 144) rfl obQ (by kernel_rfl) (fun w hw => D0 _ w) ?_
|refine a8 (f := 112) rfl obQ (by kernel_rfl) (fun w hw => v8 _ _ w) ?_
|refine a8 (f := 107) rfl obQ (by kernel_rfl) (fun w hw => p6 _ _ [lvE x.1, lvE x.2, wh (decide (x.2 < x.1)) 11] (by simp) w (.inr ⟨_, rfl, hw.src (i := 1) rfl rfl⟩)) ?_)
|refine r5 ?_
|refine V_q rfl (k8 rfl obQ) ?_
|refine V_n rfl ?_
|refine G_V ⟨⟨_, rfl, trivial⟩, ⟨_, rfl⟩, rfl, pstQ⟩ rfl ?_
|refine a7 ?_
|refine j4 rfl obQ (fun w hw => ⟨?_, hw.below⟩))
  rfl
theorem O4 (q : FuncId) {g : Int × Int → Int} (A : Option Addr) (c : Nat) (l : List (Int × Int)) (hl : l.length ≤ 1000000) (he : entB Tryz.prog q = true) (w : World) (hr : Rd w A (l.flatMap fun x => [Value.int .i64 x.1, Value.int .i64 x.2])) (hg : ∀ x ∈ l, ∀ W, Below w.heap.size w W → Calls Tryz.prog q #[Value.agg #[Value.int .i64 x.1, Value.int .i64 x.2]] W fun e w' => e = .returned (Value.int .i64 (g x)) ∧ Below W.heap.size W w') : Calls Tryz.prog 132 #[.slice A l.length c, .func (.func q) #[] #[]] w fun r w' => ∃ v, r = .returned v ∧ Below w.heap.size w w' ∧ Sl w w' v l.length (l.map fun x => Value.int .i64 (g x)) := by
  refine i7 n9 Tryz.func132 rfl Tryz.ntmps132 (Nat.le_of_ble_eq_true rfl) rfl ?_
  repeat' (first
|refine e8 ?_
|refine a6 rfl ?_
|refine j1 ?_
|refine e7 ?_
|refine e9 rfl rfl obQ obQ ?_
|refine k7 (fun b => ⟨_, _, rfl, obQ, ?_⟩)
|refine a7 ?_)
  refine C9 5 28 1 rfl ?_
  refine p7 (fun i : Nat × Option Addr × Nat => ⟨[(5, .s (.r i.2.1 i.1 i.2.2 0)), (8, .s (.v (.slice A l.length c))), (9, .s (.v (.int .i64 l.length))), (10, .s (.v (.int .i64 i.1))), (1, .s (.v (.func (.func q) #[] #[])))], [], [⟨28, 1, i.1, (l.take i.1).map fun x => Value.int .i64 (g x), .slice i.2.1 i.1 i.2.2⟩]⟩) (fun i => i.1 ≤ l.length) (fun i => l.length - i.1) (0, none, 0) (Nat.zero_le _) ?_ (fun i hi => ?_)
  · exact svQ
  obtain ⟨k, A', c'⟩ := i
  have hi' : k ≤ l.length := hi
  dsimp only
  by_cases hlt : k < l.length
  · obtain ⟨ad, rfl⟩ := hr.some (by simp [C7 (s := 2)]; omega)
    have hmt := B0 (f := fun x => Value.int .i64 (g x)) hlt
    repeat' (first
|(refine j7 ?_; first
|refine e8 ?_
|refine a6 rfl ?_
|refine j1 ?_
|refine j3 ?_
|(refine j0 rfl obQ ?_ ?_ <;> intro h <;> (try simp only [cdS] at h) <;> (try (exfalso; omega))))
|(refine k6 ?_; first
|refine n4 rfl obQ rfl [Value.int .i64 l[k].1, Value.int .i64 l[k].2] (.past _ memQ _ _ hr.toS _ _ rfl rfl (idxS (f := fun x => [Value.int .i64 x.1, Value.int .i64 x.2]) (fun _ => rfl) hlt)) rfl (.inl ⟨rfl, rfl⟩) ?_
|refine a8 rfl obQ he (fun W hW => hg l[k] (List.getElem_mem hlt) W hW.below) ?_
|refine w9 rfl obQ rfl rfl rfl ⟨by decide, rfl⟩ rfl ⟨rfl, rfl, rfl, rfl⟩ [Value.int .i64 (g l[k])] ⟨by decide, rfl⟩ (by simp [Value.oneCell']) (fun w hw => by first | exact hw.src (i := 0) rfl rfl | exact hw.src (i := 1) rfl rfl | exact hw.src (i := 2) rfl rfl | exact hw.src (i := 3) rfl rfl | exact hw.src (i := 4) rfl rfl | exact hw.src (i := 5) rfl rfl | exact hw.src (i := 6) rfl rfl | exact hw.src (i := 7) rfl rfl | exact hw.src (i := 8) rfl rfl) (by unfold maxLen; dsimp only; omega) (fun gb cap' => ⟨_, rfl, ?_⟩)
|refine e7 ?_
|refine e9 rfl rfl obQ obQ ?_
|refine k7 (fun b => ⟨_, _, rfl, obQ, ?_⟩)
|refine j9 (fun b => ⟨_, _, rfl, obQ, ?_⟩))
|refine o6 (k + 1, some ⟨gb, 0, none⟩, cap') (by show k + 1 ≤ _; omega) (by show l.length - (k + 1) < l.length - k; omega) ⟨⟨_, rfl, obQ⟩, ⟨_, rfl⟩, (by dsimp only; rw [hmt]), pstQ⟩
|refine a7 ?_
|refine n5 ?_)
  · obtain rfl : k = l.length := by omega
    repeat' (first
|(refine j7 ?_; first
|refine e8 ?_
|refine a6 rfl ?_
|refine o0 ?_
|refine i6 ?_
|(refine j0 rfl obQ ?_ ?_ <;> intro h <;> (try simp only [cdS] at h) <;> (try (exfalso; omega))))
|refine e7 ?_
|refine e9 rfl rfl obQ obQ ?_
|(refine o8 ?_; first
|refine a7 ?_
|refine n2 ?_
|refine n6 ?_
|refine j4 rfl obQ (fun w2 hw => ⟨_, rfl, hw.below, HW.rowSl (i := 0) hw rfl rfl rfl (by rw [List.take_length])⟩)))
theorem aw5 (q : FuncId) {g : Int × Int → Int × Int} (A : Option Addr) (c : Nat) (l : List (Int × Int)) (hl : l.length ≤ 1000000) (he : entB Tryz.prog q = true) (w : World) (hr : Rd w A (l.flatMap fun x => [Value.int .i64 x.1, Value.int .i64 x.2])) (hg : ∀ x ∈ l, ∀ W, Below w.heap.size w W → Calls Tryz.prog q #[Value.agg #[Value.int .i64 x.1, Value.int .i64 x.2]] W fun e w' => e = .returned (Value.agg #[Value.int .i64 (g x).1, Value.int .i64 (g x).2]) ∧ Below W.heap.size W w') : Calls Tryz.prog 138 #[.slice A l.length c, .func (.func q) #[] #[]] w fun r w' => ∃ v, r = .returned v ∧ Below w.heap.size w w' ∧ Sl w w' v l.length (l.flatMap fun x => [Value.int .i64 (g x).1, Value.int .i64 (g x).2]) := by
  refine i7 n9 Tryz.func138 rfl Tryz.ntmps138 (Nat.le_of_ble_eq_true rfl) rfl ?_
  repeat' (first
|refine e8 ?_
|refine a6 rfl ?_
|refine j1 ?_
|refine e7 ?_
|refine e9 rfl rfl obQ obQ ?_
|refine k7 (fun b => ⟨_, _, rfl, obQ, ?_⟩)
|refine a7 ?_)
  refine C9 5 83 2 rfl ?_
  refine p7 (fun i : Nat × Option Addr × Nat => ⟨[(5, .s (.r i.2.1 i.1 i.2.2 0)), (8, .s (.v (.slice A l.length c))), (9, .s (.v (.int .i64 l.length))), (10, .s (.v (.int .i64 i.1))), (1, .s (.v (.func (.func q) #[] #[])))], [], [⟨83, 2, i.1, (l.take i.1).flatMap fun x => [Value.int .i64 (g x).1, Value.int .i64 (g x).2], .slice i.2.1 i.1 i.2.2⟩]⟩) (fun i => i.1 ≤ l.length) (fun i => l.length - i.1) (0, none, 0) (Nat.zero_le _) ?_ (fun i hi => ?_)
  · exact svQ
  obtain ⟨k, A', c'⟩ := i
  have hi' : k ≤ l.length := hi
  dsimp only
  by_cases hlt : k < l.length
  · obtain ⟨ad, rfl⟩ := hr.some (by simp [C7 (s := 2)]; omega)
    have hmt := J5 (f := fun x => [Value.int .i64 (g x).1, Value.int .i64 (g x).2]) hlt
    repeat' (first
|(refine j7 ?_; first
|refine e8 ?_
|refine a6 rfl ?_
|refine j1 ?_
|refine j3 ?_
|(refine j0 rfl obQ ?_ ?_ <;> intro h <;> (try simp only [cdS] at h) <;> (try (exfalso; omega))))
|(refine k6 ?_; first
|refine n4 rfl obQ rfl [Value.int .i64 l[k].1, Value.int .i64 l[k].2] (.past _ memQ _ _ hr.toS _ _ rfl rfl (idxS (f := fun x => [Value.int .i64 x.1, Value.int .i64 x.2]) (fun _ => rfl) hlt)) rfl (.inl ⟨rfl, rfl⟩) ?_
|refine a8 rfl obQ he (fun W hW => hg l[k] (List.getElem_mem hlt) W hW.below) ?_
|refine w9 rfl obQ rfl rfl rfl ⟨by decide, rfl⟩ rfl ⟨rfl, rfl, rfl, rfl⟩ [Value.int .i64 (g l[k]).1, Value.int .i64 (g l[k]).2] ⟨by decide, rfl⟩ (by simp [Value.oneCell']) (fun w hw => by first | exact hw.src (i := 0) rfl rfl | exact hw.src (i := 1) rfl rfl | exact hw.src (i := 2) rfl rfl | exact hw.src (i := 3) rfl rfl | exact hw.src (i := 4) rfl rfl | exact hw.src (i := 5) rfl rfl | exact hw.src (i := 6) rfl rfl | exact hw.src (i := 7) rfl rfl | exact hw.src (i := 8) rfl rfl) (by unfold maxLen; dsimp only; omega) (fun gb cap' => ⟨_, rfl, ?_⟩)
|refine e7 ?_
|refine e9 rfl rfl obQ obQ ?_
|refine k7 (fun b => ⟨_, _, rfl, obQ, ?_⟩)
|refine j9 (fun b => ⟨_, _, rfl, obQ, ?_⟩))
|refine o6 (k + 1, some ⟨gb, 0, none⟩, cap') (by show k + 1 ≤ _; omega) (by show l.length - (k + 1) < l.length - k; omega) ⟨⟨_, rfl, obQ⟩, ⟨_, rfl⟩, (by dsimp only; rw [hmt]), pstQ⟩
|refine a7 ?_
|refine n5 ?_)
  · obtain rfl : k = l.length := by omega
    repeat' (first
|(refine j7 ?_; first
|refine e8 ?_
|refine a6 rfl ?_
|refine o0 ?_
|refine i6 ?_
|(refine j0 rfl obQ ?_ ?_ <;> intro h <;> (try simp only [cdS] at h) <;> (try (exfalso; omega))))
|refine e7 ?_
|refine e9 rfl rfl obQ obQ ?_
|(refine o8 ?_; first
|refine a7 ?_
|refine n2 ?_
|refine n6 ?_
|refine j4 rfl obQ (fun w2 hw => ⟨_, rfl, hw.below, HW.rowSl (i := 0) hw rfl rfl rfl (by rw [List.take_length])⟩)))
theorem aq8 (p q : Int × Int) (w : World) : Calls Tryz.prog 136 #[.agg #[.int .i64 p.1, .int .i64 p.2], .agg #[.int .i64 q.1, .int .i64 q.2]] w fun r w' => r = .returned (.agg #[.int .i64 (huF p q).1, .int .i64 (huF p q).2]) ∧ Below w.heap.size w w' := by
  refine i7 n9 Tryz.func136 rfl Tryz.ntmps136 (Nat.le_of_ble_eq_true rfl) rfl ?_
  repeat' (first
|(refine j7 ?_; first
|refine e8 ?_
|refine a6 rfl ?_
|refine j1 ?_
|refine j3 ?_
|refine i6 ?_
|(refine j0 rfl obQ ?_ ?_ <;> intro h <;> (try simp only [cdS] at h)))
|refine e7 ?_
|refine e9 rfl rfl obQ obQ ?_
|refine k7 (fun b => ⟨_, _, rfl, obQ, ?_⟩)
|refine a7 ?_
|refine j6 ?_
|refine j4 rfl obQ (fun w hw => ⟨?_, hw.below⟩))
  rfl
theorem bb1 (x : Int × Int) (w : World) : Calls Tryz.prog 139 #[.agg #[.int .i64 x.1, .int .i64 x.2]] w fun r w' => r = .returned (.agg #[.int .i64 x.1, .int .i64 x.2]) ∧ Below w.heap.size w w' := by
  refine i7 n9 Tryz.func139 rfl Tryz.ntmps139 (Nat.le_of_ble_eq_true rfl) rfl ?_
  repeat' (first
|(refine j7 ?_; first
|refine e8 ?_
|refine a6 rfl ?_
|refine j1 ?_
|refine j3 ?_
|refine i6 ?_
|(refine j0 rfl obQ ?_ ?_ <;> intro h <;> (try simp only [cdS] at h)))
|refine e7 ?_
|refine e9 rfl rfl obQ obQ ?_
|refine k7 (fun b => ⟨_, _, rfl, obQ, ?_⟩)
|refine a7 ?_
|refine j6 ?_
|refine j4 rfl obQ (fun w hw => ⟨?_, hw.below⟩))
  rfl
theorem aE8 (b : Nat) (B : Option Addr) (c : Nat) (n : Nat) (z : Int) (w : World) (hM : w.heap[b]? = some (.cells ([.slice B n c] : List Value).toArray 73 (0, 0))) : Calls Tryz.prog 135 #[.int .i64 z, .pointer (some ⟨b, 0, none⟩)] w fun r w' => r = .returned (.bool (gtB n z)) ∧ Below w.heap.size w w' := by
  refine i7 n9 Tryz.func135 rfl Tryz.ntmps135 (Nat.le_of_ble_eq_true rfl) rfl ?_
  repeat' (first
|refine e8 ?_
|refine a6 rfl ?_
|refine i6 ?_
|refine n4 rfl obQ rfl [.slice B n c] (.cell (_, fun b => b < _) memQ (z8 hM) (w7 hM (o := 0) rfl)) rfl (.inr ⟨rfl, rfl⟩) ?_
|refine e7 ?_
|refine e9 rfl rfl obQ obQ ?_
|refine a7 ?_
|refine j4 rfl obQ (fun w hw => ⟨?_, hw.below⟩))
  rfl
theorem aq2 {A : Option Addr} {c n : Nat} {l : List (Int × Int)} (q : FuncId) (he : entB Tryz.prog q = true) (hn : l.length = n) (hl : n ≤ 1000000) (w : World) (hr : Rd w A (l.flatMap ivC)) (hg : ∀ (x : Int × Int) W, Calls Tryz.prog q #[.agg #[.int .i64 x.1, .int .i64 x.2]] W fun e w' => e = .returned (.agg #[.int .i64 x.1, .int .i64 x.2]) ∧ Below W.heap.size W w') :
    Calls Tryz.prog 138 #[.slice A n c, .func (.func q) #[] #[]] w fun r w' => ∃ v, r = .returned v ∧ Below w.heap.size w w' ∧ Sl w w' v l.length (l.flatMap ivC) := by
  subst hn
  exact aw5 q (g := fun x => x) A c l hl he w hr (fun x _ W _ => hg x W)
theorem al5 (A : Option Addr) (c : Nat) (t : List Nod) (hl : t.length ≤ 1000000) (B : Option Addr) (c2 : Nat) (l : List (Int × Int)) (hl2 : l.length ≤ 1000000) (w : World) (hr : Rd w A (t.flatMap ndC)) (hr2 : Rd w B (l.flatMap ivC)) (hsh : Sh w) : Calls Tryz.prog 45 #[.slice A t.length c, .slice B l.length c2] w fun r w' => ∃ v, r = .returned v ∧ Below w.heap.size w w' ∧ Sl2 w w' v (rgR t l).1.length ((rgR t l).1.flatMap ivC) (.int .i64 (rgR t l).2) := by
  refine i7 n9 Tryz.func45 rfl Tryz.ntmps45 (Nat.le_of_ble_eq_true rfl) rfl ?_
  by_cases hE : rgE1 t l = 0
  · have hro := bb7 hE
    have ht := hro.1
    have hln := ht.n
    have hl8 := hro.2
    have hE' : firstL [trE t, wh (decide ((8 : Int) < l.length)) 5] = 0 := hE
    obtain ⟨ad, rfl⟩ := hr.some (by rw [C6]; omega)
    by_cases hE2 : firstL (l.map ivE) = 0
    · cases hh : (scI t).any (gtB l.length)
      · have e1 : rgR t l = (rgN t (gR l) t.length, 0) := by unfold rgR; rw [if_pos hE, if_pos hE2, hh]; rfl
        rw [e1]
        repeat' (first
|(refine j7 ?_; first
|refine e8 ?_
|refine r9 7 rfl rfl ?_
|refine j3 ?_
|refine n8 (id := 1) 5 [(0, true), (2, true), (3, true), (4, true), (1, false)] rfl mixed (by kernel_rfl) rfl ?_
|(refine j0 rfl obQ ?_ ?_ <;> intro h <;> (try simp only [cdS] at h) <;> (try (exfalso; omega)) <;> (try exact cdF h) <;> (try contradiction)))
|(refine k6 ?_; first
|(refine j5 (f := 132) rfl obQ (by kernel_rfl) (fun w hw => O4 133 (g := ivE) B c2 l (by omega) (by kernel_rfl) w (hw.rdm hr2.toS memQ) (fun x hx W hW => T6 x W)) (fun w1M w2M vM hw1M hbM hRM => ?_); obtain ⟨AM, cM, rfl, hSM⟩ := hRM)
|refine e7 ?_
|refine e9 rfl rfl obQ obQ ?_
|refine k7 (fun bb => ⟨_, _, rfl, obQ, ?_⟩)
|refine j9 (fun b => ⟨_, _, rfl, obQ, ?_⟩)
|refine a8 (f := 50) rfl obQ (by kernel_rfl) (fun w hw => o9 _ c t hl w (hw.rdm hr.toS memQ) (r7 hsh hw memQ)) ?_
|refine a8 (f := 112) rfl obQ (by kernel_rfl) (fun w hw => v8 _ _ w) ?_
|refine a8 (f := 107) rfl obQ (by kernel_rfl) (fun w hw => p6 _ _ [trE t, wh (decide ((8 : Int) < l.length)) 5] (by simp) w (.inr ⟨_, rfl, hw.src (i := 1) rfl rfl⟩)) ?_
|refine a8 (f := 107) rfl obQ (by kernel_rfl) (fun w hw => R4 _ _ ivE l (by omega) w (hw.rdm hSM memQ)) ?_)
|refine r5 ?_
|refine V_q rfl (k8 rfl obQ) ?_
|refine V_n rfl ?_
|refine G_V ⟨⟨_, rfl, trivial⟩, ⟨_, rfl⟩, rfl, pstQ⟩ rfl ?_
|refine a7 ?_)
        obtain ⟨b3, rfl⟩ : ∃ z, z = bb := ⟨bb, rfl⟩
        repeat' (first
|(refine j7 ?_; first
|refine e8 ?_
|refine r9 11 rfl rfl ?_
|refine j3 ?_
|(refine j0 rfl obQ ?_ ?_ <;> intro h <;> (try simp only [cdS] at h) <;> (try (exfalso; omega)) <;> (try exact cdF h) <;> (try contradiction) <;> (try (exfalso; first | omega | (rw [hh] at h; cases h; done) | exact absurd (hh.symm.trans h) (by decide)))))
|(refine k6 ?_; first
|(refine j5 (f := 118) rfl obQ (by kernel_rfl) (fun w hw => G9 _ c t ht w (hw.rdm hr.toS memQ)) (fun w1S w2S vS hw1S hbS hRS => ?_); obtain ⟨AS, cS, rfl, hSS⟩ := hRS)
|refine N5 t.length rfl obQ rfl rfl rfl rfl rfl (by unfold maxLen; dsimp only; omega) (fun g' => ?_)
|refine e7 ?_
|refine e9 rfl rfl obQ obQ ?_
|refine a8 (f := 134) rfl obQ (by kernel_rfl) (fun w hw => G4 (l := scI t) 135 (.pointer (some ⟨b3, 0, none⟩)) (p := gtB l.length) rfl (V1 t) (by kernel_rfl) w (hw.rdm hSS memQ) (fun y hy W hW => aE8 b3 B c2 l.length y W ((hW.block b3 (HW.bxAt hw (i := 0) rfl rfl).1.2).trans (HW.bxAt hw (i := 0) rfl rfl).2))) ?_)
|refine a7 ?_)
        rw [bt0 (sr := gR l)]
        repeat' (first
|refine a6 rfl ?_
|refine j1 ?_
|refine e7 ?_
|refine e9 rfl rfl obQ obQ ?_
|refine a7 ?_)
        refine p7 (fun k : Nat => ⟨[(38, .s (.v (.int .i64 k))), (37, .s (.v (.int .i64 t.length))), (36, .s (.v (.slice (some ad) t.length c))), (9, .s (.r (some ⟨g', 0, none⟩) t.length t.length 0)), (8, .s (.v (.func (.func 136) #[] #[]))), (3, .s (.p b3 0 0))], [⟨b3, 73, [.v (.slice B l.length c2)]⟩, ⟨b, 28, [.v (.int .i64 (trE t)), .v (.int .i64 (wh (decide ((8 : Int) < l.length)) 5))]⟩], [⟨188, 2, t.length, (rgX t (gR l) k).flatMap ivC, .slice (some ⟨g', 0, none⟩) t.length t.length⟩]⟩) (fun k => k ≤ t.length) (fun k => t.length - k) 0 (Nat.zero_le _) ?_ (fun k hk0 => ?_)
        · exact svQ
        have hk : k ≤ t.length := hk0
        by_cases hlt : k < t.length
        · obtain ⟨kk, hkk⟩ := ht.s k hlt
          cases kk with
    | src =>
            have hs : (gN t k).kd = bSrc := am2 hkk.kd
            have hsi := bm6 ht hh hlt hkk.kd
            obtain ⟨ad2, rfl⟩ := hr2.some (by rw [K9]; omega)
            repeat' (first
|(refine j7 ?_; first
|refine e8 ?_
|refine a6 rfl ?_
|refine j1 ?_
|refine j3 ?_
|(refine j0 rfl obQ ?_ ?_ <;> intro h <;> (try simp only [cdS] at h) <;> (try (exfalso; omega)) <;> (try exact cdF h) <;> (try (exfalso; first | omega | exact hs (toL h) | exact h (by rw [hs]; rfl) | (simp [insF] at h; done)))))
|(refine k6 ?_; first
|refine n4 rfl obQ rfl [.string (gN t k).kd, .int .i64 (gN t k).a, .int .i64 (gN t k).b, .int .i64 (gN t k).c, .int .i64 (gN t k).n, .int .i64 (gN t k).cl, .int .i64 (gN t k).ga, .string (gN t k).w.sh, .int .i64 (gN t k).w.a, .int .i64 (gN t k).w.b, .int .i64 (gN t k).w.at_, .int .i64 (gN t k).w.soft] (.past (w, fun b => b < w.heap.size) memQ _ _ hr.toS _ _ rfl rfl (C5 (t := t) (k := k) rfl hlt)) rfl (.inl ⟨rfl, rfl⟩) ?_
|refine n4 rfl obQ rfl [.int .i64 (gR l (gN t k).n).1, .int .i64 (gR l (gN t k).n).2] (.past (w, fun b => b < w.heap.size) memQ _ _ hr2.toS _ _ rfl rfl (aP7 hsi)) rfl (.inl ⟨rfl, rfl⟩) ?_
|refine r6 rfl obQ rfl rfl rfl 0 rfl rfl (((k : Nat) : Int).toNat * 2) rfl (by dsimp only; rw [K9, Q5 (by omega)]; omega) (xs' := (rgX t (gR l) (k + 1)).flatMap ivC) (X2 (p := gR l (gN t k).n) rfl hlt (by unfold nrF; rw [hkk.kd])) rfl ?_
|refine e7 ?_
|refine e9 rfl rfl obQ obQ ?_
|refine k7 (fun bd => ⟨_, _, rfl, obQ, ?_⟩))
|refine o6 (k + 1) (show k + 1 ≤ t.length by omega) (by show t.length - (k + 1) < t.length - k; omega) svQ
|refine a7 ?_
|refine n5 ?_)
          | mat =>
            have hs : (gN t k).kd ≠ bSrc := W7.2.1 hkk.kd
            repeat' (first
|(refine j7 ?_; first
|refine e8 ?_
|refine a6 rfl ?_
|refine j1 ?_
|refine j3 ?_
|refine o5 rfl obQ ?_
|(refine j0 rfl obQ ?_ ?_ <;> intro h <;> (try simp only [cdS] at h) <;> (try (exfalso; omega)) <;> (try exact cdF h) <;> (try (exfalso; first | omega | exact hs (toL h) | exact h (by rw [hs]; rfl) | (simp [insF] at h; done)))))
|(refine k6 ?_; first
|refine n4 rfl obQ rfl [.string (gN t k).kd, .int .i64 (gN t k).a, .int .i64 (gN t k).b, .int .i64 (gN t k).c, .int .i64 (gN t k).n, .int .i64 (gN t k).cl, .int .i64 (gN t k).ga, .string (gN t k).w.sh, .int .i64 (gN t k).w.a, .int .i64 (gN t k).w.b, .int .i64 (gN t k).w.at_, .int .i64 (gN t k).w.soft] (.past (w, fun b => b < w.heap.size) memQ _ _ hr.toS _ _ rfl rfl (C5 (t := t) (k := k) rfl hlt)) rfl (.inl ⟨rfl, rfl⟩) ?_
|(refine j5 (f := 137) rfl obQ (by kernel_rfl) (fun w hw => B6 (gN t k) _ hkk.kd w) (fun w1I w2I vI hw1I hbI hRI => ?_); obtain ⟨AI, cI, rfl, hSI⟩ := hRI)
|refine r6 rfl obQ rfl rfl rfl 0 rfl rfl (((k : Nat) : Int).toNat * 2) rfl (by dsimp only; rw [K9, Q5 (by omega)]; omega) (xs' := (rgX t (gR l) (k + 1)).flatMap ivC) (X2 (p := ((gN t k).n, (gN t k).n)) rfl hlt (by unfold nrF; rw [hkk.kd])) rfl ?_
|refine e7 ?_
|refine e9 rfl rfl obQ obQ ?_
|refine k7 (fun bd => ⟨_, _, rfl, obQ, ?_⟩))
|refine o6 (k + 1) (show k + 1 ≤ t.length by omega) (by show t.length - (k + 1) < t.length - k; omega) svQ
|refine a7 ?_
|refine n5 ?_)
          | mix =>
            have hs : (gN t k).kd ≠ bSrc := W7.2.2.1 hkk.kd
            have hin := hkk.ins
            simp only [insF, List.mem_cons, List.mem_nil_iff, or_false, forall_eq_or_imp, forall_eq] at hin
            have hia : 0 ≤ (gN t k).a ∧ (gN t k).a < k := by omega
            have hib : 0 ≤ (gN t k).b ∧ (gN t k).b < k := by omega
            repeat' (first
|(refine j7 ?_; first
|refine e8 ?_
|refine a6 rfl ?_
|refine j1 ?_
|refine j3 ?_
|refine n8 (id := 14) 14 [(0, true), (1, true), (2, true), (3, true), (4, true), (5, true), (6, true), (7, true), (8, true), (9, true), (10, true), (11, true), (12, true), (13, false)] rfl mixed (by kernel_rfl) rfl ?_
|refine n7 rfl obQ ?_
|(refine j0 rfl obQ ?_ ?_ <;> intro h <;> (try simp only [cdS] at h) <;> (try (exfalso; omega)) <;> (try exact cdF h) <;> (try (exfalso; first | omega | exact hs (toL h) | exact h (by rw [hs]; rfl) | (simp [insF] at h; done)))))
|(refine k6 ?_; first
|refine n4 rfl obQ rfl [.string (gN t k).kd, .int .i64 (gN t k).a, .int .i64 (gN t k).b, .int .i64 (gN t k).c, .int .i64 (gN t k).n, .int .i64 (gN t k).cl, .int .i64 (gN t k).ga, .string (gN t k).w.sh, .int .i64 (gN t k).w.a, .int .i64 (gN t k).w.b, .int .i64 (gN t k).w.at_, .int .i64 (gN t k).w.soft] (.past (w, fun b => b < w.heap.size) memQ _ _ hr.toS _ _ rfl rfl (C5 (t := t) (k := k) rfl hlt)) rfl (.inl ⟨rfl, rfl⟩) ?_
|(refine j5 (f := 137) rfl obQ (by kernel_rfl) (fun w hw => B6 (gN t k) _ hkk.kd w) (fun w1I w2I vI hw1I hbI hRI => ?_); obtain ⟨AI, cI, rfl, hSI⟩ := hRI)
|refine r6 rfl obQ rfl rfl rfl 0 rfl rfl (((k : Nat) : Int).toNat * 2) rfl (by dsimp only; rw [K9, Q5 (by omega)]; omega) (xs' := (rgX t (gR l) (k + 1)).flatMap ivC) (X2 (p := huF (gR (rgN t (gR l) k) (gN t k).a) (gR (rgN t (gR l) k) (gN t k).b)) rfl hlt (by unfold nrF; rw [hkk.kd])) rfl ?_
|refine e7 ?_
|refine e9 rfl rfl obQ obQ ?_
|refine k7 (fun bd => ⟨_, _, rfl, obQ, ?_⟩)
|refine a8 (f := 136) rfl obQ (by kernel_rfl) (fun w hw => aq8 (gR (rgN t (gR l) k) (gN t k).a) (gR (rgN t (gR l) k) (gN t k).b) w) ?_)
|(refine N2 ?_; first
|refine r5 ?_
|refine V_q rfl (q3 rfl obQ rfl [.int .i64 (gR (rgN t (gR l) k) (gN t k).a).1, .int .i64 (gR (rgN t (gR l) k) (gN t k).a).2] (.row 0 _ rfl g' t.length t.length ((gN t k).a.toNat * 2) rfl rfl (Q4 hia rfl (by omega))) rfl (.inl ⟨rfl, rfl⟩)) ?_
|refine V_q rfl (q3 rfl obQ rfl [.int .i64 (gR (rgN t (gR l) k) (gN t k).b).1, .int .i64 (gR (rgN t (gR l) k) (gN t k).b).2] (.row 0 _ rfl g' t.length t.length ((gN t k).b.toNat * 2) rfl rfl (Q4 hib rfl (by omega))) rfl (.inl ⟨rfl, rfl⟩)) ?_
|refine V_q rfl (k8 rfl obQ) ?_
|refine V_n rfl ?_)
|(refine o8 ?_; first
|refine G_V ⟨⟨_, rfl, trivial⟩, ⟨_, rfl⟩, rfl, pstQ⟩ rfl ?_
|refine o6 (k + 1) (show k + 1 ≤ t.length by omega) (by show t.length - (k + 1) < t.length - k; omega) svQ
|refine a7 ?_
|refine n5 ?_))
          | wip =>
            have hs : (gN t k).kd ≠ bSrc := W7.2.2.2.1 hkk.kd
            have hin := hkk.ins
            simp only [insF, List.mem_cons, List.mem_nil_iff, or_false, forall_eq_or_imp, forall_eq] at hin
            have hia : 0 ≤ (gN t k).a ∧ (gN t k).a < k := by omega
            have hib : 0 ≤ (gN t k).b ∧ (gN t k).b < k := by omega
            repeat' (first
|(refine j7 ?_; first
|refine e8 ?_
|refine a6 rfl ?_
|refine j1 ?_
|refine j3 ?_
|refine n8 (id := 14) 14 [(0, true), (1, true), (2, true), (3, true), (4, true), (5, true), (6, true), (7, true), (8, true), (9, true), (10, true), (11, true), (12, true), (13, false)] rfl mixed (by kernel_rfl) rfl ?_
|refine n7 rfl obQ ?_
|(refine j0 rfl obQ ?_ ?_ <;> intro h <;> (try simp only [cdS] at h) <;> (try (exfalso; omega)) <;> (try exact cdF h) <;> (try (exfalso; first | omega | exact hs (toL h) | exact h (by rw [hs]; rfl) | (simp [insF] at h; done)))))
|(refine k6 ?_; first
|refine n4 rfl obQ rfl [.string (gN t k).kd, .int .i64 (gN t k).a, .int .i64 (gN t k).b, .int .i64 (gN t k).c, .int .i64 (gN t k).n, .int .i64 (gN t k).cl, .int .i64 (gN t k).ga, .string (gN t k).w.sh, .int .i64 (gN t k).w.a, .int .i64 (gN t k).w.b, .int .i64 (gN t k).w.at_, .int .i64 (gN t k).w.soft] (.past (w, fun b => b < w.heap.size) memQ _ _ hr.toS _ _ rfl rfl (C5 (t := t) (k := k) rfl hlt)) rfl (.inl ⟨rfl, rfl⟩) ?_
|(refine j5 (f := 137) rfl obQ (by kernel_rfl) (fun w hw => B6 (gN t k) _ hkk.kd w) (fun w1I w2I vI hw1I hbI hRI => ?_); obtain ⟨AI, cI, rfl, hSI⟩ := hRI)
|refine r6 rfl obQ rfl rfl rfl 0 rfl rfl (((k : Nat) : Int).toNat * 2) rfl (by dsimp only; rw [K9, Q5 (by omega)]; omega) (xs' := (rgX t (gR l) (k + 1)).flatMap ivC) (X2 (p := huF (gR (rgN t (gR l) k) (gN t k).a) (gR (rgN t (gR l) k) (gN t k).b)) rfl hlt (by unfold nrF; rw [hkk.kd])) rfl ?_
|refine e7 ?_
|refine e9 rfl rfl obQ obQ ?_
|refine k7 (fun bd => ⟨_, _, rfl, obQ, ?_⟩)
|refine a8 (f := 136) rfl obQ (by kernel_rfl) (fun w hw => aq8 (gR (rgN t (gR l) k) (gN t k).a) (gR (rgN t (gR l) k) (gN t k).b) w) ?_)
|(refine N2 ?_; first
|refine r5 ?_
|refine V_q rfl (q3 rfl obQ rfl [.int .i64 (gR (rgN t (gR l) k) (gN t k).a).1, .int .i64 (gR (rgN t (gR l) k) (gN t k).a).2] (.row 0 _ rfl g' t.length t.length ((gN t k).a.toNat * 2) rfl rfl (Q4 hia rfl (by omega))) rfl (.inl ⟨rfl, rfl⟩)) ?_
|refine V_q rfl (q3 rfl obQ rfl [.int .i64 (gR (rgN t (gR l) k) (gN t k).b).1, .int .i64 (gR (rgN t (gR l) k) (gN t k).b).2] (.row 0 _ rfl g' t.length t.length ((gN t k).b.toNat * 2) rfl rfl (Q4 hib rfl (by omega))) rfl (.inl ⟨rfl, rfl⟩)) ?_
|refine V_q rfl (k8 rfl obQ) ?_
|refine V_n rfl ?_)
|(refine o8 ?_; first
|refine G_V ⟨⟨_, rfl, trivial⟩, ⟨_, rfl⟩, rfl, pstQ⟩ rfl ?_
|refine o6 (k + 1) (show k + 1 ≤ t.length by omega) (by show t.length - (k + 1) < t.length - k; omega) svQ
|refine a7 ?_
|refine n5 ?_))
          | key =>
            have hs : (gN t k).kd ≠ bSrc := W7.2.2.2.2 hkk.kd
            have hin := hkk.ins
            simp only [insF, List.mem_cons, List.mem_nil_iff, or_false, forall_eq_or_imp, forall_eq] at hin
            have hia : 0 ≤ (gN t k).a ∧ (gN t k).a < k := by omega
            have hib : 0 ≤ (gN t k).b ∧ (gN t k).b < k := by omega
            repeat' (first
|(refine j7 ?_; first
|refine e8 ?_
|refine a6 rfl ?_
|refine j1 ?_
|refine j3 ?_
|refine n8 (id := 14) 14 [(0, true), (1, true), (2, true), (3, true), (4, true), (5, true), (6, true), (7, true), (8, true), (9, true), (10, true), (11, true), (12, true), (13, false)] rfl mixed (by kernel_rfl) rfl ?_
|refine n7 rfl obQ ?_
|(refine j0 rfl obQ ?_ ?_ <;> intro h <;> (try simp only [cdS] at h) <;> (try (exfalso; omega)) <;> (try exact cdF h) <;> (try (exfalso; first | omega | exact hs (toL h) | exact h (by rw [hs]; rfl) | (simp [insF] at h; done)))))
|(refine k6 ?_; first
|refine n4 rfl obQ rfl [.string (gN t k).kd, .int .i64 (gN t k).a, .int .i64 (gN t k).b, .int .i64 (gN t k).c, .int .i64 (gN t k).n, .int .i64 (gN t k).cl, .int .i64 (gN t k).ga, .string (gN t k).w.sh, .int .i64 (gN t k).w.a, .int .i64 (gN t k).w.b, .int .i64 (gN t k).w.at_, .int .i64 (gN t k).w.soft] (.past (w, fun b => b < w.heap.size) memQ _ _ hr.toS _ _ rfl rfl (C5 (t := t) (k := k) rfl hlt)) rfl (.inl ⟨rfl, rfl⟩) ?_
|(refine j5 (f := 137) rfl obQ (by kernel_rfl) (fun w hw => B6 (gN t k) _ hkk.kd w) (fun w1I w2I vI hw1I hbI hRI => ?_); obtain ⟨AI, cI, rfl, hSI⟩ := hRI)
|refine r6 rfl obQ rfl rfl rfl 0 rfl rfl (((k : Nat) : Int).toNat * 2) rfl (by dsimp only; rw [K9, Q5 (by omega)]; omega) (xs' := (rgX t (gR l) (k + 1)).flatMap ivC) (X2 (p := huF (gR (rgN t (gR l) k) (gN t k).a) (gR (rgN t (gR l) k) (gN t k).b)) rfl hlt (by unfold nrF; rw [hkk.kd])) rfl ?_
|refine e7 ?_
|refine e9 rfl rfl obQ obQ ?_
|refine k7 (fun bd => ⟨_, _, rfl, obQ, ?_⟩)
|refine a8 (f := 136) rfl obQ (by kernel_rfl) (fun w hw => aq8 (gR (rgN t (gR l) k) (gN t k).a) (gR (rgN t (gR l) k) (gN t k).b) w) ?_)
|(refine N2 ?_; first
|refine r5 ?_
|refine V_q rfl (q3 rfl obQ rfl [.int .i64 (gR (rgN t (gR l) k) (gN t k).a).1, .int .i64 (gR (rgN t (gR l) k) (gN t k).a).2] (.row 0 _ rfl g' t.length t.length ((gN t k).a.toNat * 2) rfl rfl (Q4 hia rfl (by omega))) rfl (.inl ⟨rfl, rfl⟩)) ?_
|refine V_q rfl (q3 rfl obQ rfl [.int .i64 (gR (rgN t (gR l) k) (gN t k).b).1, .int .i64 (gR (rgN t (gR l) k) (gN t k).b).2] (.row 0 _ rfl g' t.length t.length ((gN t k).b.toNat * 2) rfl rfl (Q4 hib rfl (by omega))) rfl (.inl ⟨rfl, rfl⟩)) ?_
|refine V_q rfl (k8 rfl obQ) ?_
|refine V_n rfl ?_)
|(refine o8 ?_; first
|refine G_V ⟨⟨_, rfl, trivial⟩, ⟨_, rfl⟩, rfl, pstQ⟩ rfl ?_
|refine o6 (k + 1) (show k + 1 ≤ t.length by omega) (by show t.length - (k + 1) < t.length - k; omega) svQ
|refine a7 ?_
|refine n5 ?_))
        · obtain rfl : k = t.length := by omega
          rw [bg0]
          repeat' (first
|(refine j7 ?_; first
|refine e8 ?_
|refine a6 rfl ?_
|refine o0 ?_
|refine i6 ?_
|(refine j0 rfl obQ ?_ ?_ <;> intro h <;> (try simp only [cdS] at h) <;> (try (exfalso; omega)) <;> (try exact cdF h) <;> (try (exfalso; omega))))
|(refine j5 (f := 138) rfl obQ (by kernel_rfl) (fun w hw => aq2 139 (by kernel_rfl) (M9 t.length) (by omega) w (hw.rdRow (i := 0) rfl rfl) (fun x W => bb1 x W)) (fun w1F w2F vF hw1F hbF hRF => ?_); obtain ⟨AF, cF, rfl, hSF⟩ := hRF)
|refine e7 ?_
|refine e9 rfl rfl obQ obQ ?_
|(refine o8 ?_; first
|refine a7 ?_
|refine n2 ?_
|refine n6 ?_
|refine j4 rfl obQ (fun w2 hw => ⟨_, rfl, hw.below, Sl.two (HW.callSl hw hSF memQ hw1F.bsize) rfl⟩)))
      · have e1 : rgR t l = ([], 10) := by unfold rgR; rw [if_pos hE, if_pos hE2, hh]; rfl
        rw [e1]
        repeat' (first
|(refine j7 ?_; first
|refine e8 ?_
|refine r9 7 rfl rfl ?_
|refine j3 ?_
|refine n8 (id := 1) 5 [(0, true), (2, true), (3, true), (4, true), (1, false)] rfl mixed (by kernel_rfl) rfl ?_
|(refine j0 rfl obQ ?_ ?_ <;> intro h <;> (try simp only [cdS] at h) <;> (try (exfalso; omega)) <;> (try exact cdF h) <;> (try contradiction)))
|(refine k6 ?_; first
|(refine j5 (f := 132) rfl obQ (by kernel_rfl) (fun w hw => O4 133 (g := ivE) B c2 l (by omega) (by kernel_rfl) w (hw.rdm hr2.toS memQ) (fun x hx W hW => T6 x W)) (fun w1M w2M vM hw1M hbM hRM => ?_); obtain ⟨AM, cM, rfl, hSM⟩ := hRM)
|refine e7 ?_
|refine e9 rfl rfl obQ obQ ?_
|refine k7 (fun bb => ⟨_, _, rfl, obQ, ?_⟩)
|refine j9 (fun b => ⟨_, _, rfl, obQ, ?_⟩)
|refine a8 (f := 50) rfl obQ (by kernel_rfl) (fun w hw => o9 _ c t hl w (hw.rdm hr.toS memQ) (r7 hsh hw memQ)) ?_
|refine a8 (f := 112) rfl obQ (by kernel_rfl) (fun w hw => v8 _ _ w) ?_
|refine a8 (f := 107) rfl obQ (by kernel_rfl) (fun w hw => p6 _ _ [trE t, wh (decide ((8 : Int) < l.length)) 5] (by simp) w (.inr ⟨_, rfl, hw.src (i := 1) rfl rfl⟩)) ?_
|refine a8 (f := 107) rfl obQ (by kernel_rfl) (fun w hw => R4 _ _ ivE l (by omega) w (hw.rdm hSM memQ)) ?_)
|refine r5 ?_
|refine V_q rfl (k8 rfl obQ) ?_
|refine V_n rfl ?_
|refine G_V ⟨⟨_, rfl, trivial⟩, ⟨_, rfl⟩, rfl, pstQ⟩ rfl ?_
|refine a7 ?_)
        obtain ⟨b3, rfl⟩ : ∃ z, z = bb := ⟨bb, rfl⟩
        repeat' (first
|(refine j7 ?_; first
|refine e8 ?_
|refine a6 rfl ?_
|refine i6 ?_
|(refine j0 rfl obQ ?_ ?_ <;> intro h <;> (try simp only [cdS] at h) <;> (try (exfalso; omega)) <;> (try exact cdF h) <;> (try contradiction) <;> (try (exfalso; first | omega | (rw [hh] at h; cases h; done) | exact absurd (hh.symm.trans h) (by decide)))))
|(refine k6 ?_; first
|(refine j5 (f := 118) rfl obQ (by kernel_rfl) (fun w hw => G9 _ c t ht w (hw.rdm hr.toS memQ)) (fun w1S w2S vS hw1S hbS hRS => ?_); obtain ⟨AS, cS, rfl, hSS⟩ := hRS)
|refine e7 ?_
|refine e9 rfl rfl obQ obQ ?_
|refine a8 (f := 134) rfl obQ (by kernel_rfl) (fun w hw => G4 (l := scI t) 135 (.pointer (some ⟨b3, 0, none⟩)) (p := gtB l.length) rfl (V1 t) (by kernel_rfl) w (hw.rdm hSS memQ) (fun y hy W hW => aE8 b3 B c2 l.length y W ((hW.block b3 (HW.bxAt hw (i := 0) rfl rfl).1.2).trans (HW.bxAt hw (i := 0) rfl rfl).2))) ?_)
|refine a7 ?_
|refine j6 ?_
|refine j4 rfl obQ (fun w2 hw => ⟨_, rfl, hw.below, Sl.two (v := .slice none 0 0) (Sl.nil_ _ _) rfl⟩))
    · have e1 : rgR t l = ([], firstL (l.map ivE)) := by unfold rgR; rw [if_pos hE, if_neg hE2]
      rw [e1]
      repeat' (first
|(refine j7 ?_; first
|refine e8 ?_
|refine a6 rfl ?_
|refine j3 ?_
|refine i6 ?_
|refine n8 (id := 1) 5 [(0, true), (2, true), (3, true), (4, true), (1, false)] rfl mixed (by kernel_rfl) rfl ?_
|(refine j0 rfl obQ ?_ ?_ <;> intro h <;> (try simp only [cdS] at h) <;> (try (exfalso; omega)) <;> (try exact cdF h) <;> (try contradiction)))
|(refine k6 ?_; first
|(refine j5 (f := 132) rfl obQ (by kernel_rfl) (fun w hw => O4 133 (g := ivE) B c2 l (by omega) (by kernel_rfl) w (hw.rdm hr2.toS memQ) (fun x hx W hW => T6 x W)) (fun w1M w2M vM hw1M hbM hRM => ?_); obtain ⟨AM, cM, rfl, hSM⟩ := hRM)
|refine e7 ?_
|refine e9 rfl rfl obQ obQ ?_
|refine k7 (fun bb => ⟨_, _, rfl, obQ, ?_⟩)
|refine j9 (fun b => ⟨_, _, rfl, obQ, ?_⟩)
|refine a8 (f := 50) rfl obQ (by kernel_rfl) (fun w hw => o9 _ c t hl w (hw.rdm hr.toS memQ) (r7 hsh hw memQ)) ?_
|refine a8 (f := 112) rfl obQ (by kernel_rfl) (fun w hw => v8 _ _ w) ?_
|refine a8 (f := 107) rfl obQ (by kernel_rfl) (fun w hw => p6 _ _ [trE t, wh (decide ((8 : Int) < l.length)) 5] (by simp) w (.inr ⟨_, rfl, hw.src (i := 1) rfl rfl⟩)) ?_
|refine a8 (f := 107) rfl obQ (by kernel_rfl) (fun w hw => R4 _ _ ivE l (by omega) w (hw.rdm hSM memQ)) ?_)
|refine r5 ?_
|refine V_q rfl (k8 rfl obQ) ?_
|refine V_n rfl ?_
|(refine o8 ?_; first
|refine G_V ⟨⟨_, rfl, trivial⟩, ⟨_, rfl⟩, rfl, pstQ⟩ rfl ?_
|refine a7 ?_
|refine j6 ?_
|refine j4 rfl obQ (fun w2 hw => ⟨_, rfl, hw.below, Sl.two (v := .slice none 0 0) (Sl.nil_ _ _) rfl⟩)))
  · have e1 : rgR t l = ([], rgE1 t l) := if_neg hE
    rw [e1]
    have hE' : ¬ firstL [trE t, wh (decide ((8 : Int) < l.length)) 5] = 0 := hE
    repeat' (first
|(refine j7 ?_; first
|refine e8 ?_
|refine a6 rfl ?_
|refine i6 ?_
|refine n8 (id := 1) 5 [(0, true), (2, true), (3, true), (4, true), (1, false)] rfl mixed (by kernel_rfl) rfl ?_
|(refine j0 rfl obQ ?_ ?_ <;> intro h <;> (try simp only [cdS] at h) <;> (try (exfalso; omega)) <;> (try exact cdF h) <;> (try contradiction)))
|(refine k6 ?_; first
|refine e7 ?_
|refine e9 rfl rfl obQ obQ ?_
|refine k7 (fun bb => ⟨_, _, rfl, obQ, ?_⟩)
|refine j9 (fun b => ⟨_, _, rfl, obQ, ?_⟩)
|refine a8 (f := 50) rfl obQ (by kernel_rfl) (fun w hw => o9 _ c t hl w (hw.rdm hr.toS memQ) (r7 hsh hw memQ)) ?_
|refine a8 (f := 112) rfl obQ (by kernel_rfl) (fun w hw => v8 _ _ w) ?_
|refine a8 (f := 107) rfl obQ (by kernel_rfl) (fun w hw => p6 _ _ [trE t, wh (decide ((8 : Int) < l.length)) 5] (by simp) w (.inr ⟨_, rfl, hw.src (i := 1) rfl rfl⟩)) ?_)
|refine r5 ?_
|refine V_q rfl (k8 rfl obQ) ?_
|refine V_n rfl ?_
|(refine o8 ?_; first
|refine G_V ⟨⟨_, rfl, trivial⟩, ⟨_, rfl⟩, rfl, pstQ⟩ rfl ?_
|refine a7 ?_
|refine j6 ?_
|refine j4 rfl obQ (fun w2 hw => ⟨_, rfl, hw.below, Sl.two (v := .slice none 0 0) (Sl.nil_ _ _) rfl⟩)))
def Pw (w : World) : Prop := Lib.TabIs Tryz.prog w powName .u64 Lib.pow10Tab
def itB (n : Int) : ByteArray := ⟨(Lib.itoa n).toArray⟩
def joinB (xs : List ByteArray) (sep : ByteArray) : ByteArray := ⟨(Lib.join (xs.map (·.data.toList)) sep.data.toList).toArray⟩
def sSp : ByteArray := ⟨#[32]⟩
def sNl : ByteArray := ⟨#[10]⟩
theorem bq6 (n : Int) (h0 : -9223372036854775808 ≤ n) (h1 : n ≤ 9223372036854775807) (w : World) (hp : Pw w) : Calls Tryz.prog 260 #[.int .i64 n] w fun r w' => r = .returned (.string (itB n)) ∧ Below w.heap.size w w' :=
  (Tryz.strconv_Itoa n h0 h1 w hp).mono fun e w' ⟨he, k, os, hw⟩ => ⟨he, hw ▸ Lib.below_grow _ _ (Nat.le_refl _) _ _⟩
theorem bn8 (ad : Addr) (c : Nat) (xs : List ByteArray) (sep : ByteArray) (w : World) (hs : ad.spot = none) (h0 : 0 < xs.length) (hr : Rd w (some ad) (xs.map .string)) (hN : xs.length ≤ 1000000) (hc : xs.length ≤ c) (hl : (joinB xs sep).size ≤ 140737488355328) :
    Calls Tryz.prog 170 #[.slice (some ad) xs.length c, .string sep] w fun r w' => r = .returned (.string (joinB xs sep)) ∧ Below w.heap.size w w' := by
  obtain ⟨bk, o, s⟩ := ad
  simp only at hs
  subst hs
  rcases hr with hr | ⟨ad', e, h⟩
  · have : xs.length = 0 := by simpa using congrArg List.length hr
    omega
  · cases e
    have hcell : ∀ (j : Nat) (x : ByteArray), xs[j]? = some x → w.cell? ⟨bk, o + j, none⟩ = some (.string x) := fun j x hx => by
      have := h j (.string x) (by simp [hx])
      rwa [Addr.add_mid] at this
    have hx0 : xs[0]? = some xs[0] := List.getElem?_eq_getElem h0
    exact Tryz.strings_Join bk o c xs sep w hcell (am6 (hcell 0 _ hx0)) (by omega) hc (by simpa [joinB, ByteArray.size] using hl)
theorem aF2 {w : World} {B e c n : Nat} {A : Option Addr} {xs : List ByteArray} (sep : ByteArray) (h : w.ownsRow B e 1 (.slice A n c) n (xs.map .string)) (hn : xs.length = n) (h0 : 0 < n) (hN : n ≤ 1000000) (hl : (joinB xs sep).size ≤ 140737488355328) :
    Calls Tryz.prog 170 #[.slice A n c, .string sep] w fun r w' => r = .returned (.string (joinB xs sep)) ∧ Below w.heap.size w w' := by
  subst hn
  rcases h.2 with ⟨_, h2⟩ | ⟨g, cap, cur, h2, _, hg, h4, h5, h6, h7⟩
  · omega
  · injection h2 with e1 e2 e3
    subst e1; subst e3
    refine bn8 ⟨g, 0, none⟩ c xs sep w rfl h0 (.inr ⟨_, rfl, h.cells (g := g) rfl⟩) hN h4 hl
theorem gPow : ∃ g, Tryz.prog.globalNamed powName = some g := Option.isSome_iff_exists.1 (by kernel_rfl)
theorem bj2 {w w' : World} (h : Pw w) (he : ∀ b, b < w.heap.size → w'.heap[b]? = w.heap[b]?) : Pw w' := by
  obtain ⟨g, hg⟩ := gPow
  unfold Pw Lib.TabIs at h ⊢
  simp only [World.var?, hg, Option.bind_some] at h ⊢
  cases ho : w.heap[g]? with
  | none => simp [ho] at h
  | some o =>
    have hlt : g < w.heap.size := (Array.getElem?_eq_some_iff.1 ho).1
    rw [he g hlt]
    exact h
theorem I8 {w0 w : World} {Ps : Past} {σ : St} {B : Nat} (h : Pw w0) (hw : HW B w0 Ps σ w) (hp : (w0, fun b => b < w0.heap.size) ∈ Ps) : Pw w := bj2 h fun b hb => (hw.past _ hp b hb).1.2
theorem av1 {w w' : World} (h : Pw w) (hb : Below w.heap.size w w') : Pw w' := bj2 h fun b hlt => hb.block b hlt
theorem bg3 {P : Program} (t : TypeId) (x y : Operand) (a b : ByteArray) (h : a.size + b.size ≤ 9223372036854775807) (w : World) : (do eqGuard .add t x y (.string a) (.string b); binOp .add t (.string a) (.string b) : Sem Value).run P w = .ok (.string (a ++ b)) w := by
  simp [J4, binOp, run_string_add_sum w a b h]
theorem aD6 {m : Nat} : ∀ (l : List (List UInt8)), (∀ x ∈ l, x.length ≤ m) → Lib.lens l ≤ l.length * m
  | [], _ => by rw [show Lib.lens [] = 0 from rfl]; exact Nat.zero_le _
  | x :: r, h => by
    have h1 := aD6 r fun y hy => h y (by simp [hy])
    have h2 := h x (by simp)
    unfold Lib.lens at h1 ⊢
    rw [List.map_cons, List.sum_cons, List.length_cons, Nat.add_mul, Nat.one_mul]
    omega
theorem ae0 {m : Nat} (xs : List ByteArray) (sep : ByteArray) (h : ∀ x ∈ xs, x.size ≤ m) : (joinB xs sep).size ≤ xs.length * (m + sep.size) := by
  cases xs with
  | nil => exact Nat.zero_le _
  | cons x r =>
    have e : (joinB (x :: r) sep).size = (Lib.join ((x :: r).map (·.data.toList)) sep.data.toList).length := by show (List.toArray _).size = _; rw [List.size_toArray]
    rw [e, List.map_cons, Lib.join_length]
    have h1 := aD6 (m := m) ((x :: r).map (·.data.toList)) (fun y hy => by
      obtain ⟨z, hz, rfl⟩ := List.mem_map.1 hy
      have := h z hz
      rw [Array.length_toList]
      exact this)
    rw [List.map_cons] at h1
    rw [List.length_cons, List.length_map] at h1
    rw [List.length_cons, List.length_map, Array.length_toList]
    have h2 : sep.data.size = sep.size := rfl
    have h3 : sep.data.size * r.length ≤ (r.length + 1) * sep.size := by rw [Nat.mul_comm, h2]; exact Nat.mul_le_mul_right _ (by omega)
    rw [Nat.mul_add]
    omega
theorem aT0 (n : Int) (h0 : -9223372036854775808 ≤ n) (h1 : n ≤ 9223372036854775807) : (itB n).size ≤ 21 := by
  have := Lib.itoa_length_le n h0 h1
  simpa [itB, ByteArray.size] using this
theorem aO8 (a b : ByteArray) : (a ++ b).size = a.size + b.size := ByteArray.size_append
def wdF (k : Kd) (x : Nod) : List ByteArray := match k with
  | .src => [itB x.n]
  | .mat => [itB x.n]
  | .mix => [itB x.n]
  | .wip => [x.w.sh, itB x.w.a, itB x.w.b, itB x.w.at_, itB x.w.soft]
  | .key => [itB x.cl, itB x.ga]
def ndW (k : Kd) (x : Nod) : List ByteArray := x.kd :: ((insF k x).map itB ++ wdF k x)
def ndT (x : Nod) : ByteArray := match kdOf x.kd with
  | some k => joinB (ndW k x) sSp ++ sNl
  | none => ByteArray.empty
def prR (t : List Nod) : ByteArray × Int := if trE t = 0 then (joinB (t.map ndT) ByteArray.empty, 0) else (ByteArray.empty, trE t)
def I64P (n : Int) : Prop := -9223372036854775808 ≤ n ∧ n ≤ 9223372036854775807
structure NdI (k : Kd) (x : Nod) : Prop where
  kd : kdOf x.kd = some k
  ins : ∀ z ∈ insF k x, I64P z
  n : I64P x.n
  cl : I64P x.cl
  ga : I64P x.ga
  a : I64P x.w.a
  b : I64P x.w.b
  at_ : I64P x.w.at_
  soft : I64P x.w.soft
  sh : x.w.sh.size ≤ 21
theorem bf7 {s : ByteArray} (h : shB s = true) : s.size ≤ 21 := by
  by_cases h1 : bHalf = s
  · subst h1; decide
  by_cases h2 : bBox = s
  · subst h2; decide
  rw [bv4 h h1 h2]
  decide
theorem bB3 {x : Nod} {i : Nat} {k : Kd} (h : NdOk x i k) (hi : i ≤ 100) : NdI k x := by
  have hu := h.us
  have hk := h.ki
  have hin : ∀ z ∈ insF k x, I64P z := fun z hz => by have := h.ins z hz; unfold I64P; omega
  obtain ⟨kd, a, b, c, n, cl, ga, ⟨sh, wa, wb, wat, ws⟩⟩ := x
  cases k <;> simp only [usF, zW, Nod.mk.injEq, Wip.mk.injEq, kiE] at hu hk
  · rw [D1] at hk
    exact ⟨h.kd, hin, by unfold I64P; dsimp only; omega, by unfold I64P; dsimp only; omega, by unfold I64P; dsimp only; omega, by unfold I64P; dsimp only; omega, by unfold I64P; dsimp only; omega, by unfold I64P; dsimp only; omega, by unfold I64P; dsimp only; omega, by dsimp only; rw [← hu.2.2.2.2.2.2.2.1]; decide⟩
  · have hk : -16384 ≤ n ∧ n ≤ 16384 := (D1 _ _ _).1 hk
    exact ⟨h.kd, hin, by unfold I64P; dsimp only; omega, by unfold I64P; dsimp only; omega, by unfold I64P; dsimp only; omega, by unfold I64P; dsimp only; omega, by unfold I64P; dsimp only; omega, by unfold I64P; dsimp only; omega, by unfold I64P; dsimp only; omega, by dsimp only; rw [← hu.2.2.2.2.2.2.2.1]; decide⟩
  · rw [D1] at hk
    exact ⟨h.kd, hin, by unfold I64P; dsimp only; omega, by unfold I64P; dsimp only; omega, by unfold I64P; dsimp only; omega, by unfold I64P; dsimp only; omega, by unfold I64P; dsimp only; omega, by unfold I64P; dsimp only; omega, by unfold I64P; dsimp only; omega, by dsimp only; rw [← hu.2.2.2.2.2.2.2.1]; decide⟩
  · have hw := ag5.1 hk
    have h1 := hw.a
    have h2 := hw.b
    have h3 := hw.at_
    have h4 := hw.soft
    dsimp only at h1 h2 h3 h4
    exact ⟨h.kd, hin, by unfold I64P; dsimp only; omega, by unfold I64P; dsimp only; omega, by unfold I64P; dsimp only; omega, by unfold I64P; dsimp only; omega, by unfold I64P; dsimp only; omega, by unfold I64P; dsimp only; omega, by unfold I64P; dsimp only; omega, bf7 hw.sh⟩
  · have hs := aH4.1 hk
    have h1 := hs.1
    have h2 := hs.2
    exact ⟨h.kd, hin, by unfold I64P; dsimp only; omega, by unfold I64P; dsimp only; omega, by unfold I64P; dsimp only; omega, by unfold I64P; dsimp only; omega, by unfold I64P; dsimp only; omega, by unfold I64P; dsimp only; omega, by unfold I64P; dsimp only; omega, by dsimp only; rw [← hu.2.2.2.2.2.2.2.1]; decide⟩
theorem bg8 {s : ByteArray} {k : Kd} (h : kdOf s = some k) : s.size ≤ 21 := by
  unfold kdOf at h
  split at h
  · rename_i h'; subst h'; decide
  split at h
  · rename_i h'; subst h'; decide
  split at h
  · rename_i h'; subst h'; decide
  split at h
  · rename_i h'; subst h'; decide
  split at h
  · rename_i h'; subst h'; decide
  · cases h
theorem ax4 {k : Kd} {x : Nod} (h : NdI k x) : (∀ s ∈ ndW k x, s.size ≤ 21) ∧ (ndW k x).length ≤ 9 ∧ 0 < (ndW k x).length := by
  have hi : ∀ {z : Int}, I64P z → (itB z).size ≤ 21 := fun {z} h => aT0 z h.1 h.2
  refine ⟨fun s hs => ?_, ?_, by simp [ndW]⟩
  · unfold ndW at hs
    rcases List.mem_cons.1 hs with rfl | hs
    · exact bg8 h.kd
    rcases List.mem_append.1 hs with hs | hs
    · obtain ⟨z, hz, rfl⟩ := List.mem_map.1 hs
      exact hi (h.ins z hz)
    · cases k <;> simp only [wdF, List.mem_cons, List.mem_nil_iff, or_false] at hs
      · subst hs; exact hi h.n
      · subst hs; exact hi h.n
      · subst hs; exact hi h.n
      · rcases hs with rfl | rfl | rfl | rfl | rfl
        · exact h.sh
        · exact hi h.a
        · exact hi h.b
        · exact hi h.at_
        · exact hi h.soft
      · rcases hs with rfl | rfl
        · exact hi h.cl
        · exact hi h.ga
  · cases k <;> simp [ndW, insF, wdF]
theorem at7 {k : Kd} {x : Nod} (h : NdI k x) : (joinB (ndW k x) sSp).size ≤ 198 := by
  obtain ⟨h1, h2, _⟩ := ax4 h
  have h3 := ae0 (m := 21) (ndW k x) sSp h1
  have e : sSp.size = 1 := rfl
  rw [e] at h3
  omega
theorem T7 {k : Kd} {x : Nod} (h : kdOf x.kd = some k) : ndT x = joinB (ndW k x) sSp ++ sNl := by unfold ndT; rw [h]
theorem aN2 {k : Kd} {x : Nod} (h : NdI k x) : (ndT x).size ≤ 199 := by
  rw [T7 h.kd, aO8]
  have := at7 h
  have e : sNl.size = 1 := rfl
  omega
theorem aw0 (q : FuncId) {g : Int → ByteArray} (A : Option Addr) (c : Nat) (l : List (Int)) (hl : l.length ≤ 1000000) (he : entB Tryz.prog q = true) (w : World) (hr : Rd w A (l.map fun x => Value.int .i64 x)) (hg : ∀ x ∈ l, ∀ W, Below w.heap.size w W → Calls Tryz.prog q #[Value.int .i64 x] W fun e w' => e = .returned (Value.string (g x)) ∧ Below W.heap.size W w') : Calls Tryz.prog 259 #[.slice A l.length c, .func (.func q) #[] #[]] w fun r w' => ∃ v, r = .returned v ∧ Below w.heap.size w w' ∧ w'.ownsRow w.heap.size 9 1 v l.length (l.map fun x => Value.string (g x)) := by
  refine i7 n9 Tryz.func259 rfl Tryz.ntmps259 (Nat.le_of_ble_eq_true rfl) rfl ?_
  repeat' (first
|refine e8 ?_
|refine a6 rfl ?_
|refine j1 ?_
|refine e7 ?_
|refine e9 rfl rfl obQ obQ ?_
|refine a7 ?_)
  refine C9 5 9 1 rfl ?_
  refine p7 (fun i : Nat × Option Addr × Nat => ⟨[(5, .s (.r i.2.1 i.1 i.2.2 0)), (8, .s (.v (.slice A l.length c))), (9, .s (.v (.int .i64 l.length))), (10, .s (.v (.int .i64 i.1))), (1, .s (.v (.func (.func q) #[] #[])))], [], [⟨9, 1, i.1, (l.take i.1).map fun x => Value.string (g x), .slice i.2.1 i.1 i.2.2⟩]⟩) (fun i => i.1 ≤ l.length) (fun i => l.length - i.1) (0, none, 0) (Nat.zero_le _) ?_ (fun i hi => ?_)
  · exact svQ
  obtain ⟨k, A', c'⟩ := i
  have hi' : k ≤ l.length := hi
  dsimp only
  by_cases hlt : k < l.length
  · obtain ⟨ad, rfl⟩ := hr.some (by simp; omega)
    have hmt := B0 (f := fun x => Value.string (g x)) hlt
    repeat' (first
|(refine j7 ?_; first
|refine e8 ?_
|refine a6 rfl ?_
|refine j1 ?_
|refine j3 ?_
|(refine j0 rfl obQ ?_ ?_ <;> intro h <;> (try simp only [cdS] at h) <;> (try (exfalso; omega))))
|(refine k6 ?_; first
|refine n4 rfl obQ rfl [Value.int .i64 l[k]] (.past _ memQ _ _ hr.toS _ _ rfl rfl (idx1 (f := fun x => Value.int .i64 x) hlt)) rfl (.inr ⟨rfl, rfl⟩) ?_
|refine a8 rfl obQ he (fun W hW => hg l[k] (List.getElem_mem hlt) W hW.below) ?_
|refine w9 rfl obQ rfl rfl rfl ⟨by decide, rfl⟩ rfl ⟨rfl, rfl, rfl, rfl⟩ [Value.string (g l[k])] ⟨by decide, rfl⟩ (by simp [Value.oneCell']) (fun w hw => by first | exact hw.src (i := 0) rfl rfl | exact hw.src (i := 1) rfl rfl | exact hw.src (i := 2) rfl rfl | exact hw.src (i := 3) rfl rfl | exact hw.src (i := 4) rfl rfl | exact hw.src (i := 5) rfl rfl | exact hw.src (i := 6) rfl rfl | exact hw.src (i := 7) rfl rfl | exact hw.src (i := 8) rfl rfl) (by unfold maxLen; dsimp only; omega) (fun gb cap' => ⟨_, rfl, ?_⟩)
|refine e7 ?_
|refine e9 rfl rfl obQ obQ ?_
|refine j9 (fun b => ⟨_, _, rfl, obQ, ?_⟩))
|refine o6 (k + 1, some ⟨gb, 0, none⟩, cap') (by show k + 1 ≤ _; omega) (by show l.length - (k + 1) < l.length - k; omega) ⟨⟨_, rfl, obQ⟩, ⟨_, rfl⟩, (by dsimp only; rw [hmt]), pstQ⟩
|refine a7 ?_
|refine n5 ?_)
  · obtain rfl : k = l.length := by omega
    repeat' (first
|(refine j7 ?_; first
|refine e8 ?_
|refine a6 rfl ?_
|refine o0 ?_
|refine i6 ?_
|(refine j0 rfl obQ ?_ ?_ <;> intro h <;> (try simp only [cdS] at h) <;> (try (exfalso; omega))))
|refine e7 ?_
|refine e9 rfl rfl obQ obQ ?_
|(refine o8 ?_; first
|refine a7 ?_
|refine n2 ?_
|refine n6 ?_
|refine j4 rfl obQ (fun w2 hw => ⟨_, rfl, hw.below, HW.ownRow (i := 0) hw rfl rfl rfl (by rw [List.take_length])⟩)))
theorem at2 (q : FuncId) {g : Nod → ByteArray} (A : Option Addr) (c : Nat) (l : List (Nod)) (hl : l.length ≤ 1000000) (he : entB Tryz.prog q = true) (w : World) (hr : Rd w A (l.flatMap fun x => [.string x.kd, .int .i64 x.a, .int .i64 x.b, .int .i64 x.c, .int .i64 x.n, .int .i64 x.cl, .int .i64 x.ga, .string x.w.sh, .int .i64 x.w.a, .int .i64 x.w.b, .int .i64 x.w.at_, .int .i64 x.w.soft])) (hg : ∀ x ∈ l, ∀ W, Below w.heap.size w W → Calls Tryz.prog q #[Value.agg #[.string x.kd, .int .i64 x.a, .int .i64 x.b, .int .i64 x.c, .int .i64 x.n, .int .i64 x.cl, .int .i64 x.ga, .string x.w.sh, .int .i64 x.w.a, .int .i64 x.w.b, .int .i64 x.w.at_, .int .i64 x.w.soft]] W fun e w' => e = .returned (Value.string (g x)) ∧ Below W.heap.size W w') : Calls Tryz.prog 171 #[.slice A l.length c, .func (.func q) #[] #[]] w fun r w' => ∃ v, r = .returned v ∧ Below w.heap.size w w' ∧ w'.ownsRow w.heap.size 9 1 v l.length (l.map fun x => Value.string (g x)) := by
  refine i7 n9 Tryz.func171 rfl Tryz.ntmps171 (Nat.le_of_ble_eq_true rfl) rfl ?_
  repeat' (first
|refine e8 ?_
|refine a6 rfl ?_
|refine j1 ?_
|refine e7 ?_
|refine e9 rfl rfl obQ obQ ?_
|refine k7 (fun b => ⟨_, _, rfl, obQ, ?_⟩)
|refine a7 ?_)
  refine C9 5 9 1 rfl ?_
  refine p7 (fun i : Nat × Option Addr × Nat => ⟨[(5, .s (.r i.2.1 i.1 i.2.2 0)), (8, .s (.v (.slice A l.length c))), (9, .s (.v (.int .i64 l.length))), (10, .s (.v (.int .i64 i.1))), (1, .s (.v (.func (.func q) #[] #[])))], [], [⟨9, 1, i.1, (l.take i.1).map fun x => Value.string (g x), .slice i.2.1 i.1 i.2.2⟩]⟩) (fun i => i.1 ≤ l.length) (fun i => l.length - i.1) (0, none, 0) (Nat.zero_le _) ?_ (fun i hi => ?_)
  · exact svQ
  obtain ⟨k, A', c'⟩ := i
  have hi' : k ≤ l.length := hi
  dsimp only
  by_cases hlt : k < l.length
  · obtain ⟨ad, rfl⟩ := hr.some (by simp [C7 (s := 12)]; omega)
    have hmt := B0 (f := fun x => Value.string (g x)) hlt
    repeat' (first
|(refine j7 ?_; first
|refine e8 ?_
|refine a6 rfl ?_
|refine j1 ?_
|refine j3 ?_
|(refine j0 rfl obQ ?_ ?_ <;> intro h <;> (try simp only [cdS] at h) <;> (try (exfalso; omega))))
|(refine k6 ?_; first
|refine n4 rfl obQ rfl [.string l[k].kd, .int .i64 l[k].a, .int .i64 l[k].b, .int .i64 l[k].c, .int .i64 l[k].n, .int .i64 l[k].cl, .int .i64 l[k].ga, .string l[k].w.sh, .int .i64 l[k].w.a, .int .i64 l[k].w.b, .int .i64 l[k].w.at_, .int .i64 l[k].w.soft] (.past _ memQ _ _ hr.toS _ _ rfl rfl (idxS (f := fun x => [.string x.kd, .int .i64 x.a, .int .i64 x.b, .int .i64 x.c, .int .i64 x.n, .int .i64 x.cl, .int .i64 x.ga, .string x.w.sh, .int .i64 x.w.a, .int .i64 x.w.b, .int .i64 x.w.at_, .int .i64 x.w.soft]) (fun _ => rfl) hlt)) rfl (.inl ⟨rfl, rfl⟩) ?_
|refine a8 rfl obQ he (fun W hW => hg l[k] (List.getElem_mem hlt) W hW.below) ?_
|refine w9 rfl obQ rfl rfl rfl ⟨by decide, rfl⟩ rfl ⟨rfl, rfl, rfl, rfl⟩ [Value.string (g l[k])] ⟨by decide, rfl⟩ (by simp [Value.oneCell']) (fun w hw => by first | exact hw.src (i := 0) rfl rfl | exact hw.src (i := 1) rfl rfl | exact hw.src (i := 2) rfl rfl | exact hw.src (i := 3) rfl rfl | exact hw.src (i := 4) rfl rfl | exact hw.src (i := 5) rfl rfl | exact hw.src (i := 6) rfl rfl | exact hw.src (i := 7) rfl rfl | exact hw.src (i := 8) rfl rfl) (by unfold maxLen; dsimp only; omega) (fun gb cap' => ⟨_, rfl, ?_⟩)
|refine e7 ?_
|refine e9 rfl rfl obQ obQ ?_
|refine k7 (fun b => ⟨_, _, rfl, obQ, ?_⟩)
|refine j9 (fun b => ⟨_, _, rfl, obQ, ?_⟩))
|refine o6 (k + 1, some ⟨gb, 0, none⟩, cap') (by show k + 1 ≤ _; omega) (by show l.length - (k + 1) < l.length - k; omega) ⟨⟨_, rfl, obQ⟩, ⟨_, rfl⟩, (by dsimp only; rw [hmt]), pstQ⟩
|refine a7 ?_
|refine n5 ?_)
  · obtain rfl : k = l.length := by omega
    repeat' (first
|(refine j7 ?_; first
|refine e8 ?_
|refine a6 rfl ?_
|refine o0 ?_
|refine i6 ?_
|(refine j0 rfl obQ ?_ ?_ <;> intro h <;> (try simp only [cdS] at h) <;> (try (exfalso; omega))))
|refine e7 ?_
|refine e9 rfl rfl obQ obQ ?_
|(refine o8 ?_; first
|refine a7 ?_
|refine n2 ?_
|refine n6 ?_
|refine j4 rfl obQ (fun w2 hw => ⟨_, rfl, hw.below, HW.ownRow (i := 0) hw rfl rfl rfl (by rw [List.take_length])⟩)))
theorem as1 {P : Program} {t : TypeId} {p q : Array TypeId} {r : Bool} (hu : P.underlying t = some (.func p q r)) (d : Nat) (f : Fn) (a b : Array Value) (w : World) : (Op.equalIn (d + 1) t (.func f a b) .nilFunc).run P w = .ok false w ∧ (Op.equalIn (d + 1) t .nilFunc .nilFunc).run P w = .ok true w := by
  constructor <;> simp [Op.equalIn, run_underlying hu]
theorem aF7 {P : Program} {t : TypeId} {p q : Array TypeId} {r : Bool} (hu : P.underlying t = some (.func p q r)) (x y : Operand) (f : Fn) (a b : Array Value) (w : World) : (do eqGuard .neq t x y (.func f a b) .nilFunc; binOp .neq t (.func f a b) .nilFunc : Sem Value).run P w = .ok (.bool true) w := by
  have h := (as1 hu 9999 f a b w).1
  have e : (Op.equal t (.func f a b) .nilFunc).run P w = .ok false w := h
  simp [eqGuard, binOp, e]
theorem bm1 {P : Program} {t : TypeId} {p q : Array TypeId} {r : Bool} (hu : P.underlying t = some (.func p q r)) (x y : Operand) (w : World) : (do eqGuard .neq t x y .nilFunc .nilFunc; binOp .neq t .nilFunc .nilFunc : Sem Value).run P w = .ok (.bool false) w := by
  have h := (as1 hu 9999 default #[] #[] w).2
  have e : (Op.equal t .nilFunc .nilFunc).run P w = .ok true w := h
  simp [eqGuard, binOp, e]
theorem H4 (l : List Int) : ∀ u ∈ l.map (fun x => Value.string (itB x)), u.oneCell' = true := by
  intro u hu
  obtain ⟨x, _, rfl⟩ := List.mem_map.1 hu
  rfl
theorem srcP {X : Cx} {Ps : Past} {σ : St} {W : World} {S : Nat → Prop} {A : Option Addr} {xs : List Value} (h : RdS S W A xs) (hp : (W, S) ∈ Ps) : ∀ w, HW X.B X.w0 Ps σ w → ∀ ad, A = some ad → ∀ j u, xs[j]? = some u → w.cell? (ad.add j) = some u := by
  intro w hw ad ha j u hu
  rcases hw.rdm h hp with h1 | ⟨ad', h1, h2⟩
  · rw [h1] at hu; simp at hu
  · rw [ha] at h1
    cases h1
    exact h2 j u hu
theorem H3 {w0 w : World} {e size n : Nat} {v : Value} {xs : List Value} (h1 : w.ownsRow w0.heap.size e size v n xs) : ∃ A c, v = .slice A n c ∧ RdS (fun b => w0.heap.size ≤ b ∧ b < w.heap.size) w A xs ∧ (A = none → n = 0 ∧ c = 0) := by
  rcases h1.2 with ⟨h2, h3⟩ | ⟨g, cap', cur, h2, h3, h4, _⟩
  · refine ⟨none, 0, by rw [h2, h3], .inl (List.eq_nil_of_length_eq_zero ?_), fun _ => ⟨h3, rfl⟩⟩
    rw [h1.1, h3, Nat.zero_mul]
  · refine ⟨some ⟨g, 0, none⟩, cap', h2, .inr ⟨_, rfl, ⟨h3, (Array.getElem?_eq_some_iff.1 h4).1⟩, h1.cells (g := g) (by rw [h2]; rfl)⟩, fun h => by cases h⟩
theorem J6 {A : Option Addr} {c n : Nat} {l : List Int} (hn : l.length = n) (hl : n ≤ 1000000) (hb : ∀ z ∈ l, I64P z) (w : World) (hr : Rd w A (l.map (.int .i64))) (hP : Pw w) :
    Calls Tryz.prog 259 #[.slice A n c, .func (.func 260) #[] #[]] w fun r w' => ∃ v, r = .returned v ∧ Below w.heap.size w w' ∧ w'.ownsRow w.heap.size 9 1 v n (l.map fun x => .string (itB x)) := by
  subst hn
  exact aw0 260 (g := itB) A c l hl (by kernel_rfl) w hr (fun x hx W hW => bq6 x (hb x hx).1 (hb x hx).2 W (av1 hP hW))
theorem aB0 (x : Nod) (w : World) : Calls Tryz.prog 234 #[.agg #[.string x.kd, .int .i64 x.a, .int .i64 x.b, .int .i64 x.c, .int .i64 x.n, .int .i64 x.cl, .int .i64 x.ga, .string x.w.sh, .int .i64 x.w.a, .int .i64 x.w.b, .int .i64 x.w.at_, .int .i64 x.w.soft]] w fun r w' => ∃ v, r = .returned v ∧ Below w.heap.size w w' ∧ Sl w w' v 1 (([x.n] : List Int).map (.int .i64)) := by
  refine i7 n9 Tryz.func234 rfl Tryz.ntmps234 (Nat.le_of_ble_eq_true rfl) rfl ?_
  repeat' (first
|refine e8 ?_
|refine a6 rfl ?_
|refine i6 ?_
|(refine k6 ?_; first
|refine e7 ?_
|refine e9 rfl rfl obQ obQ ?_
|refine k7 (fun bb => ⟨_, _, rfl, obQ, ?_⟩)
|refine j9 (fun b => ⟨_, _, rfl, obQ, ?_⟩))
|refine a7 ?_
|refine j4 rfl obQ (fun w2 hw => ⟨_, rfl, hw.below, _, _, rfl, .inr ⟨_, rfl, ⟨(HW.bxAt hw (i := 1) rfl rfl).1.1, (HW.bxAt hw (i := 1) rfl rfl).1.2⟩, hw.src (i := 1) rfl rfl⟩⟩))
theorem be3 (x : Nod) (w : World) : Calls Tryz.prog 247 #[.agg #[.string x.kd, .int .i64 x.a, .int .i64 x.b, .int .i64 x.c, .int .i64 x.n, .int .i64 x.cl, .int .i64 x.ga, .string x.w.sh, .int .i64 x.w.a, .int .i64 x.w.b, .int .i64 x.w.at_, .int .i64 x.w.soft]] w fun r w' => ∃ v, r = .returned v ∧ Below w.heap.size w w' ∧ Sl w w' v 2 (([x.cl, x.ga] : List Int).map (.int .i64)) := by
  refine i7 n9 Tryz.func247 rfl Tryz.ntmps247 (Nat.le_of_ble_eq_true rfl) rfl ?_
  repeat' (first
|refine e8 ?_
|refine a6 rfl ?_
|refine i6 ?_
|(refine k6 ?_; first
|refine e7 ?_
|refine e9 rfl rfl obQ obQ ?_
|refine k7 (fun bb => ⟨_, _, rfl, obQ, ?_⟩)
|refine j9 (fun b => ⟨_, _, rfl, obQ, ?_⟩))
|refine a7 ?_
|refine j4 rfl obQ (fun w2 hw => ⟨_, rfl, hw.below, _, _, rfl, .inr ⟨_, rfl, ⟨(HW.bxAt hw (i := 1) rfl rfl).1.1, (HW.bxAt hw (i := 1) rfl rfl).1.2⟩, hw.src (i := 1) rfl rfl⟩⟩))
theorem am9 (x : Nod) (h : NdI .src x) (w : World) (hP : Pw w) : Calls Tryz.prog 219 #[.agg #[.string x.kd, .int .i64 x.a, .int .i64 x.b, .int .i64 x.c, .int .i64 x.n, .int .i64 x.cl, .int .i64 x.ga, .string x.w.sh, .int .i64 x.w.a, .int .i64 x.w.b, .int .i64 x.w.at_, .int .i64 x.w.soft]] w fun r w' => ∃ v, r = .returned v ∧ Below w.heap.size w w' ∧ w'.ownsRow w.heap.size 9 1 v (ndW .src x).length ((ndW .src x).map .string) := by
  refine i7 n9 Tryz.func219 rfl Tryz.ntmps219 (Nat.le_of_ble_eq_true rfl) rfl ?_
  have hk := h.kd
  repeat' (first
|refine e8 ?_
|refine a6 rfl ?_
|refine e7 ?_
|refine e9 rfl rfl obQ obQ ?_
|refine k7 (fun bb => ⟨_, _, rfl, obQ, ?_⟩)
|refine a7 ?_)
  obtain ⟨b1, rfl⟩ : ∃ z, z = bb := ⟨bb, rfl⟩
  refine C8 (fun i : Option Addr × Nat => ([(w, fun b => b < w.heap.size)], ⟨[(1, .s (.p b1 0 0)), (3, .s (.r i.1 1 i.2 0))], [⟨b1, 161, [.v (.string x.kd), .v (.int .i64 x.a), .v (.int .i64 x.b), .v (.int .i64 x.c), .v (.int .i64 x.n), .v (.int .i64 x.cl), .v (.int .i64 x.ga), .v (.string x.w.sh), .v (.int .i64 x.w.a), .v (.int .i64 x.w.b), .v (.int .i64 x.w.at_), .v (.int .i64 x.w.soft)]⟩], [⟨9, 1, 1, (x.kd :: (insF .src x).map itB : List ByteArray).map .string, .slice i.1 1 i.2⟩]⟩)) ?_ (fun i => ?_)
  · repeat' (first
|refine E4 (id := 1) 6 (.q 0 (.q 1 (.q 3 (.two 2 4 (.n 4 (.n 5 .nil)) (.two 2 5 (.n 5 .nil) (.n 2 .nil)))))) rfl mixed (by kernel_rfl) rfl ?_
|(refine k6 ?_; first
|(refine j5 (f := 137) rfl obQ (by kernel_rfl) (fun w hw => B6 x .src hk w) (fun w1I w2I vI hw1I hbI hRI => ?_); obtain ⟨AI, cI, rfl, hSI⟩ := hRI)
|(refine j5 (f := 259) rfl obQ (by kernel_rfl) (fun w hw => J6 (l := insF .src x) (n := 0) rfl (Nat.le_of_ble_eq_true rfl) h.ins w (hw.rdm hSI memQ) (I8 hP hw memQ)) (fun w1M w2M vM hw1M hbM hRM => ?_); obtain ⟨AM, cM, rfl, hSM, hNM⟩ := H3 hRM)
|refine C4 rfl obQ rfl rfl rfl ⟨by decide, rfl⟩ rfl ⟨rfl, rfl, rfl, rfl⟩ ((insF .src x : List Int).map fun x => .string (itB x)) rfl hNM (H4 _) (srcP hSM memQ) (by unfold maxLen; dsimp only; omega) (fun A' cap' => ⟨_, rfl, ?_⟩)
|refine P4 (bx' := [_]) 8 1 1 rfl rfl rfl rfl (by decide) ?_
|refine e7 ?_
|refine e9 rfl rfl obQ obQ ?_
|refine j9 (fun b => ⟨_, _, rfl, obQ, ?_⟩))
|(refine A9 ?_; first
|refine w5 ?_
|refine B5 rfl (k8 rfl obQ) ?_
|refine D9 rfl ?_
|refine w4 rfl rfl ?_ ?_)
|refine A8 ⟨_, rfl⟩ ⟨_, rfl⟩ pstQ rfl ?_
|refine D4 (A', cap') svQ)
  obtain ⟨A', c'⟩ := i
  dsimp only
  repeat' (first
|(refine j7 ?_; first
|refine e8 ?_
|refine a6 rfl ?_
|refine i6 ?_
|refine n8 (id := 2) 3 [(1, true), (2, true), (0, false)] rfl mixed (by kernel_rfl) rfl ?_
|refine o5 rfl obQ ?_)
|(refine k6 ?_; first
|(refine j5 (f := 188) rfl obQ (by kernel_rfl) (fun w hw => z1 w) (fun w1K w2K vK hw1K hbK hRK => ?_); obtain ⟨kK, rfl, hkK, hMK⟩ := hRK)
|refine j8 (y6 (W := w2K) (S := fun b => w1K.heap.size ≤ b ∧ b < w2K.heap.size) (es := kdM) (z := zK) (r := .agg #[.int .i64 0, Value.func (.func 233) #[] #[], Value.func (.func 236) #[] #[], .nilFunc, Value.func (.func 234) #[] #[], Value.func (.func 235) #[] #[]]) rfl obQ Tryz.underlying238 Tryz.underlying9 z7 memQ ⟨hkK, y9 hMK⟩ hMK (.inl (A4 hk))) ?_
|refine j8 (k9 rfl obQ (fun w => aF7 Tryz.underlying234 _ _ _ _ _ w)) ?_
|(refine j5 (f := 234) rfl obQ (by kernel_rfl) (fun w hw => aB0 x w) (fun w1K w2K vK hw1K hbK hRK => ?_); obtain ⟨AK, cK, rfl, hSK⟩ := hRK)
|(refine j5 (f := 259) rfl obQ (by kernel_rfl) (fun w hw => J6 (l := [x.n]) (n := 1) rfl (Nat.le_of_ble_eq_true rfl) (by intro z hz; simp at hz; subst hz; exact h.n) w (hw.rdm hSK memQ) (I8 hP hw memQ)) (fun w1Q w2Q vQ hw1Q hbQ hRQ => ?_); obtain ⟨AQ, cQ, rfl, hSQ, hNQ⟩ := H3 hRQ)
|refine C4 rfl obQ rfl rfl rfl ⟨by decide, rfl⟩ rfl ⟨rfl, rfl, rfl, rfl⟩ (([x.n] : List Int).map fun x => .string (itB x)) rfl hNQ (H4 _) (srcP hSQ memQ) (by unfold maxLen; dsimp only; omega) (fun A' cap' => ⟨_, rfl, ?_⟩)
|refine e7 ?_
|refine e9 rfl rfl obQ obQ ?_)
|refine r5 ?_
|refine V_q rfl (k8 rfl obQ) ?_
|refine V_n rfl ?_
|(refine o8 ?_; first
|refine G_V ⟨⟨_, rfl, trivial⟩, ⟨_, rfl⟩, rfl, pstQ⟩ rfl ?_
|refine a7 ?_
|refine j6 ?_
|refine j4 rfl obQ (fun w2 hw => ⟨_, rfl, hw.below, (by have h := HW.ownRow (i := 0) hw rfl rfl rfl rfl; exact h)⟩)))
theorem an4 (x : Nod) (h : NdI .mat x) (w : World) (hP : Pw w) : Calls Tryz.prog 219 #[.agg #[.string x.kd, .int .i64 x.a, .int .i64 x.b, .int .i64 x.c, .int .i64 x.n, .int .i64 x.cl, .int .i64 x.ga, .string x.w.sh, .int .i64 x.w.a, .int .i64 x.w.b, .int .i64 x.w.at_, .int .i64 x.w.soft]] w fun r w' => ∃ v, r = .returned v ∧ Below w.heap.size w w' ∧ w'.ownsRow w.heap.size 9 1 v (ndW .mat x).length ((ndW .mat x).map .string) := by
  refine i7 n9 Tryz.func219 rfl Tryz.ntmps219 (Nat.le_of_ble_eq_true rfl) rfl ?_
  have hk := h.kd
  repeat' (first
|refine e8 ?_
|refine a6 rfl ?_
|refine e7 ?_
|refine e9 rfl rfl obQ obQ ?_
|refine k7 (fun bb => ⟨_, _, rfl, obQ, ?_⟩)
|refine a7 ?_)
  obtain ⟨b1, rfl⟩ : ∃ z, z = bb := ⟨bb, rfl⟩
  refine C8 (fun i : Option Addr × Nat => ([(w, fun b => b < w.heap.size)], ⟨[(1, .s (.p b1 0 0)), (3, .s (.r i.1 1 i.2 0))], [⟨b1, 161, [.v (.string x.kd), .v (.int .i64 x.a), .v (.int .i64 x.b), .v (.int .i64 x.c), .v (.int .i64 x.n), .v (.int .i64 x.cl), .v (.int .i64 x.ga), .v (.string x.w.sh), .v (.int .i64 x.w.a), .v (.int .i64 x.w.b), .v (.int .i64 x.w.at_), .v (.int .i64 x.w.soft)]⟩], [⟨9, 1, 1, (x.kd :: (insF .mat x).map itB : List ByteArray).map .string, .slice i.1 1 i.2⟩]⟩)) ?_ (fun i => ?_)
  · repeat' (first
|refine E4 (id := 1) 6 (.q 0 (.q 1 (.q 3 (.two 2 4 (.n 4 (.n 5 .nil)) (.two 2 5 (.n 5 .nil) (.n 2 .nil)))))) rfl mixed (by kernel_rfl) rfl ?_
|(refine k6 ?_; first
|(refine j5 (f := 137) rfl obQ (by kernel_rfl) (fun w hw => B6 x .mat hk w) (fun w1I w2I vI hw1I hbI hRI => ?_); obtain ⟨AI, cI, rfl, hSI⟩ := hRI)
|(refine j5 (f := 259) rfl obQ (by kernel_rfl) (fun w hw => J6 (l := insF .mat x) (n := 0) rfl (Nat.le_of_ble_eq_true rfl) h.ins w (hw.rdm hSI memQ) (I8 hP hw memQ)) (fun w1M w2M vM hw1M hbM hRM => ?_); obtain ⟨AM, cM, rfl, hSM, hNM⟩ := H3 hRM)
|refine C4 rfl obQ rfl rfl rfl ⟨by decide, rfl⟩ rfl ⟨rfl, rfl, rfl, rfl⟩ ((insF .mat x : List Int).map fun x => .string (itB x)) rfl hNM (H4 _) (srcP hSM memQ) (by unfold maxLen; dsimp only; omega) (fun A' cap' => ⟨_, rfl, ?_⟩)
|refine P4 (bx' := [_]) 8 1 1 rfl rfl rfl rfl (by decide) ?_
|refine e7 ?_
|refine e9 rfl rfl obQ obQ ?_
|refine j9 (fun b => ⟨_, _, rfl, obQ, ?_⟩))
|(refine A9 ?_; first
|refine w5 ?_
|refine B5 rfl (k8 rfl obQ) ?_
|refine D9 rfl ?_
|refine w4 rfl rfl ?_ ?_)
|refine A8 ⟨_, rfl⟩ ⟨_, rfl⟩ pstQ rfl ?_
|refine D4 (A', cap') svQ)
  obtain ⟨A', c'⟩ := i
  dsimp only
  repeat' (first
|(refine j7 ?_; first
|refine e8 ?_
|refine a6 rfl ?_
|refine i6 ?_
|refine n8 (id := 2) 3 [(1, true), (2, true), (0, false)] rfl mixed (by kernel_rfl) rfl ?_
|refine o5 rfl obQ ?_)
|(refine k6 ?_; first
|(refine j5 (f := 188) rfl obQ (by kernel_rfl) (fun w hw => z1 w) (fun w1K w2K vK hw1K hbK hRK => ?_); obtain ⟨kK, rfl, hkK, hMK⟩ := hRK)
|refine j8 (y6 (W := w2K) (S := fun b => w1K.heap.size ≤ b ∧ b < w2K.heap.size) (es := kdM) (z := zK) (r := .agg #[.int .i64 0, Value.func (.func 233) #[] #[], Value.func (.func 237) #[] #[], .nilFunc, Value.func (.func 234) #[] #[], Value.func (.func 235) #[] #[]]) rfl obQ Tryz.underlying238 Tryz.underlying9 z7 memQ ⟨hkK, y9 hMK⟩ hMK (.inl (A4 hk))) ?_
|refine j8 (k9 rfl obQ (fun w => aF7 Tryz.underlying234 _ _ _ _ _ w)) ?_
|(refine j5 (f := 234) rfl obQ (by kernel_rfl) (fun w hw => aB0 x w) (fun w1K w2K vK hw1K hbK hRK => ?_); obtain ⟨AK, cK, rfl, hSK⟩ := hRK)
|(refine j5 (f := 259) rfl obQ (by kernel_rfl) (fun w hw => J6 (l := [x.n]) (n := 1) rfl (Nat.le_of_ble_eq_true rfl) (by intro z hz; simp at hz; subst hz; exact h.n) w (hw.rdm hSK memQ) (I8 hP hw memQ)) (fun w1Q w2Q vQ hw1Q hbQ hRQ => ?_); obtain ⟨AQ, cQ, rfl, hSQ, hNQ⟩ := H3 hRQ)
|refine C4 rfl obQ rfl rfl rfl ⟨by decide, rfl⟩ rfl ⟨rfl, rfl, rfl, rfl⟩ (([x.n] : List Int).map fun x => .string (itB x)) rfl hNQ (H4 _) (srcP hSQ memQ) (by unfold maxLen; dsimp only; omega) (fun A' cap' => ⟨_, rfl, ?_⟩)
|refine e7 ?_
|refine e9 rfl rfl obQ obQ ?_)
|refine r5 ?_
|refine V_q rfl (k8 rfl obQ) ?_
|refine V_n rfl ?_
|(refine o8 ?_; first
|refine G_V ⟨⟨_, rfl, trivial⟩, ⟨_, rfl⟩, rfl, pstQ⟩ rfl ?_
|refine a7 ?_
|refine j6 ?_
|refine j4 rfl obQ (fun w2 hw => ⟨_, rfl, hw.below, (by have h := HW.ownRow (i := 0) hw rfl rfl rfl rfl; exact h)⟩)))
theorem am8 (x : Nod) (h : NdI .mix x) (w : World) (hP : Pw w) : Calls Tryz.prog 219 #[.agg #[.string x.kd, .int .i64 x.a, .int .i64 x.b, .int .i64 x.c, .int .i64 x.n, .int .i64 x.cl, .int .i64 x.ga, .string x.w.sh, .int .i64 x.w.a, .int .i64 x.w.b, .int .i64 x.w.at_, .int .i64 x.w.soft]] w fun r w' => ∃ v, r = .returned v ∧ Below w.heap.size w w' ∧ w'.ownsRow w.heap.size 9 1 v (ndW .mix x).length ((ndW .mix x).map .string) := by
  refine i7 n9 Tryz.func219 rfl Tryz.ntmps219 (Nat.le_of_ble_eq_true rfl) rfl ?_
  have hk := h.kd
  repeat' (first
|refine e8 ?_
|refine a6 rfl ?_
|refine e7 ?_
|refine e9 rfl rfl obQ obQ ?_
|refine k7 (fun bb => ⟨_, _, rfl, obQ, ?_⟩)
|refine a7 ?_)
  obtain ⟨b1, rfl⟩ : ∃ z, z = bb := ⟨bb, rfl⟩
  refine C8 (fun i : Option Addr × Nat => ([(w, fun b => b < w.heap.size)], ⟨[(1, .s (.p b1 0 0)), (3, .s (.r i.1 3 i.2 0))], [⟨b1, 161, [.v (.string x.kd), .v (.int .i64 x.a), .v (.int .i64 x.b), .v (.int .i64 x.c), .v (.int .i64 x.n), .v (.int .i64 x.cl), .v (.int .i64 x.ga), .v (.string x.w.sh), .v (.int .i64 x.w.a), .v (.int .i64 x.w.b), .v (.int .i64 x.w.at_), .v (.int .i64 x.w.soft)]⟩], [⟨9, 1, 3, (x.kd :: (insF .mix x).map itB : List ByteArray).map .string, .slice i.1 3 i.2⟩]⟩)) ?_ (fun i => ?_)
  · repeat' (first
|refine E4 (id := 1) 6 (.q 0 (.q 1 (.q 3 (.two 2 4 (.n 4 (.n 5 .nil)) (.two 2 5 (.n 5 .nil) (.n 2 .nil)))))) rfl mixed (by kernel_rfl) rfl ?_
|(refine k6 ?_; first
|(refine j5 (f := 137) rfl obQ (by kernel_rfl) (fun w hw => B6 x .mix hk w) (fun w1I w2I vI hw1I hbI hRI => ?_); obtain ⟨AI, cI, rfl, hSI⟩ := hRI)
|(refine j5 (f := 259) rfl obQ (by kernel_rfl) (fun w hw => J6 (l := insF .mix x) (n := 2) rfl (Nat.le_of_ble_eq_true rfl) h.ins w (hw.rdm hSI memQ) (I8 hP hw memQ)) (fun w1M w2M vM hw1M hbM hRM => ?_); obtain ⟨AM, cM, rfl, hSM, hNM⟩ := H3 hRM)
|refine C4 rfl obQ rfl rfl rfl ⟨by decide, rfl⟩ rfl ⟨rfl, rfl, rfl, rfl⟩ ((insF .mix x : List Int).map fun x => .string (itB x)) rfl hNM (H4 _) (srcP hSM memQ) (by unfold maxLen; dsimp only; omega) (fun A' cap' => ⟨_, rfl, ?_⟩)
|refine P4 (bx' := [_]) 8 1 1 rfl rfl rfl rfl (by decide) ?_
|refine e7 ?_
|refine e9 rfl rfl obQ obQ ?_
|refine j9 (fun b => ⟨_, _, rfl, obQ, ?_⟩))
|(refine A9 ?_; first
|refine w5 ?_
|refine B5 rfl (k8 rfl obQ) ?_
|refine D9 rfl ?_
|refine w4 rfl rfl ?_ ?_)
|refine A8 ⟨_, rfl⟩ ⟨_, rfl⟩ pstQ rfl ?_
|refine D4 (A', cap') svQ)
  obtain ⟨A', c'⟩ := i
  dsimp only
  repeat' (first
|(refine j7 ?_; first
|refine e8 ?_
|refine a6 rfl ?_
|refine i6 ?_
|refine n8 (id := 2) 3 [(1, true), (2, true), (0, false)] rfl mixed (by kernel_rfl) rfl ?_
|refine o5 rfl obQ ?_)
|(refine k6 ?_; first
|(refine j5 (f := 188) rfl obQ (by kernel_rfl) (fun w hw => z1 w) (fun w1K w2K vK hw1K hbK hRK => ?_); obtain ⟨kK, rfl, hkK, hMK⟩ := hRK)
|refine j8 (y6 (W := w2K) (S := fun b => w1K.heap.size ≤ b ∧ b < w2K.heap.size) (es := kdM) (z := zK) (r := .agg #[.int .i64 2, Value.func (.func 233) #[] #[], Value.func (.func 238) #[] #[], Value.func (.func 239) #[] #[], Value.func (.func 234) #[] #[], Value.func (.func 235) #[] #[]]) rfl obQ Tryz.underlying238 Tryz.underlying9 z7 memQ ⟨hkK, y9 hMK⟩ hMK (.inl (A4 hk))) ?_
|refine j8 (k9 rfl obQ (fun w => aF7 Tryz.underlying234 _ _ _ _ _ w)) ?_
|(refine j5 (f := 234) rfl obQ (by kernel_rfl) (fun w hw => aB0 x w) (fun w1K w2K vK hw1K hbK hRK => ?_); obtain ⟨AK, cK, rfl, hSK⟩ := hRK)
|(refine j5 (f := 259) rfl obQ (by kernel_rfl) (fun w hw => J6 (l := [x.n]) (n := 1) rfl (Nat.le_of_ble_eq_true rfl) (by intro z hz; simp at hz; subst hz; exact h.n) w (hw.rdm hSK memQ) (I8 hP hw memQ)) (fun w1Q w2Q vQ hw1Q hbQ hRQ => ?_); obtain ⟨AQ, cQ, rfl, hSQ, hNQ⟩ := H3 hRQ)
|refine C4 rfl obQ rfl rfl rfl ⟨by decide, rfl⟩ rfl ⟨rfl, rfl, rfl, rfl⟩ (([x.n] : List Int).map fun x => .string (itB x)) rfl hNQ (H4 _) (srcP hSQ memQ) (by unfold maxLen; dsimp only; omega) (fun A' cap' => ⟨_, rfl, ?_⟩)
|refine e7 ?_
|refine e9 rfl rfl obQ obQ ?_)
|refine r5 ?_
|refine V_q rfl (k8 rfl obQ) ?_
|refine V_n rfl ?_
|(refine o8 ?_; first
|refine G_V ⟨⟨_, rfl, trivial⟩, ⟨_, rfl⟩, rfl, pstQ⟩ rfl ?_
|refine a7 ?_
|refine j6 ?_
|refine j4 rfl obQ (fun w2 hw => ⟨_, rfl, hw.below, (by have h := HW.ownRow (i := 0) hw rfl rfl rfl rfl; exact h)⟩)))
theorem am4 (x : Nod) (h : NdI .key x) (w : World) (hP : Pw w) : Calls Tryz.prog 219 #[.agg #[.string x.kd, .int .i64 x.a, .int .i64 x.b, .int .i64 x.c, .int .i64 x.n, .int .i64 x.cl, .int .i64 x.ga, .string x.w.sh, .int .i64 x.w.a, .int .i64 x.w.b, .int .i64 x.w.at_, .int .i64 x.w.soft]] w fun r w' => ∃ v, r = .returned v ∧ Below w.heap.size w w' ∧ w'.ownsRow w.heap.size 9 1 v (ndW .key x).length ((ndW .key x).map .string) := by
  refine i7 n9 Tryz.func219 rfl Tryz.ntmps219 (Nat.le_of_ble_eq_true rfl) rfl ?_
  have hk := h.kd
  repeat' (first
|refine e8 ?_
|refine a6 rfl ?_
|refine e7 ?_
|refine e9 rfl rfl obQ obQ ?_
|refine k7 (fun bb => ⟨_, _, rfl, obQ, ?_⟩)
|refine a7 ?_)
  obtain ⟨b1, rfl⟩ : ∃ z, z = bb := ⟨bb, rfl⟩
  refine C8 (fun i : Option Addr × Nat => ([(w, fun b => b < w.heap.size)], ⟨[(1, .s (.p b1 0 0)), (3, .s (.r i.1 4 i.2 0))], [⟨b1, 161, [.v (.string x.kd), .v (.int .i64 x.a), .v (.int .i64 x.b), .v (.int .i64 x.c), .v (.int .i64 x.n), .v (.int .i64 x.cl), .v (.int .i64 x.ga), .v (.string x.w.sh), .v (.int .i64 x.w.a), .v (.int .i64 x.w.b), .v (.int .i64 x.w.at_), .v (.int .i64 x.w.soft)]⟩], [⟨9, 1, 4, (x.kd :: (insF .key x).map itB : List ByteArray).map .string, .slice i.1 4 i.2⟩]⟩)) ?_ (fun i => ?_)
  · repeat' (first
|refine E4 (id := 1) 6 (.q 0 (.q 1 (.q 3 (.two 2 4 (.n 4 (.n 5 .nil)) (.two 2 5 (.n 5 .nil) (.n 2 .nil)))))) rfl mixed (by kernel_rfl) rfl ?_
|(refine k6 ?_; first
|(refine j5 (f := 137) rfl obQ (by kernel_rfl) (fun w hw => B6 x .key hk w) (fun w1I w2I vI hw1I hbI hRI => ?_); obtain ⟨AI, cI, rfl, hSI⟩ := hRI)
|(refine j5 (f := 259) rfl obQ (by kernel_rfl) (fun w hw => J6 (l := insF .key x) (n := 3) rfl (Nat.le_of_ble_eq_true rfl) h.ins w (hw.rdm hSI memQ) (I8 hP hw memQ)) (fun w1M w2M vM hw1M hbM hRM => ?_); obtain ⟨AM, cM, rfl, hSM, hNM⟩ := H3 hRM)
|refine C4 rfl obQ rfl rfl rfl ⟨by decide, rfl⟩ rfl ⟨rfl, rfl, rfl, rfl⟩ ((insF .key x : List Int).map fun x => .string (itB x)) rfl hNM (H4 _) (srcP hSM memQ) (by unfold maxLen; dsimp only; omega) (fun A' cap' => ⟨_, rfl, ?_⟩)
|refine P4 (bx' := [_]) 8 1 1 rfl rfl rfl rfl (by decide) ?_
|refine e7 ?_
|refine e9 rfl rfl obQ obQ ?_
|refine j9 (fun b => ⟨_, _, rfl, obQ, ?_⟩))
|(refine A9 ?_; first
|refine w5 ?_
|refine B5 rfl (k8 rfl obQ) ?_
|refine D9 rfl ?_
|refine w4 rfl rfl ?_ ?_)
|refine A8 ⟨_, rfl⟩ ⟨_, rfl⟩ pstQ rfl ?_
|refine D4 (A', cap') svQ)
  obtain ⟨A', c'⟩ := i
  dsimp only
  repeat' (first
|(refine j7 ?_; first
|refine e8 ?_
|refine a6 rfl ?_
|refine i6 ?_
|refine n8 (id := 2) 3 [(1, true), (2, true), (0, false)] rfl mixed (by kernel_rfl) rfl ?_
|refine o5 rfl obQ ?_)
|(refine k6 ?_; first
|(refine j5 (f := 188) rfl obQ (by kernel_rfl) (fun w hw => z1 w) (fun w1K w2K vK hw1K hbK hRK => ?_); obtain ⟨kK, rfl, hkK, hMK⟩ := hRK)
|refine j8 (y6 (W := w2K) (S := fun b => w1K.heap.size ≤ b ∧ b < w2K.heap.size) (es := kdM) (z := zK) (r := .agg #[.int .i64 3, Value.func (.func 244) #[] #[], Value.func (.func 245) #[] #[], Value.func (.func 246) #[] #[], Value.func (.func 247) #[] #[], Value.func (.func 248) #[] #[]]) rfl obQ Tryz.underlying238 Tryz.underlying9 z7 memQ ⟨hkK, y9 hMK⟩ hMK (.inl (A4 hk))) ?_
|refine j8 (k9 rfl obQ (fun w => aF7 Tryz.underlying234 _ _ _ _ _ w)) ?_
|(refine j5 (f := 247) rfl obQ (by kernel_rfl) (fun w hw => be3 x w) (fun w1K w2K vK hw1K hbK hRK => ?_); obtain ⟨AK, cK, rfl, hSK⟩ := hRK)
|(refine j5 (f := 259) rfl obQ (by kernel_rfl) (fun w hw => J6 (l := [x.cl, x.ga]) (n := 2) rfl (Nat.le_of_ble_eq_true rfl) (by intro z hz; simp at hz; rcases hz with rfl | rfl; exact h.cl; exact h.ga) w (hw.rdm hSK memQ) (I8 hP hw memQ)) (fun w1Q w2Q vQ hw1Q hbQ hRQ => ?_); obtain ⟨AQ, cQ, rfl, hSQ, hNQ⟩ := H3 hRQ)
|refine C4 rfl obQ rfl rfl rfl ⟨by decide, rfl⟩ rfl ⟨rfl, rfl, rfl, rfl⟩ (([x.cl, x.ga] : List Int).map fun x => .string (itB x)) rfl hNQ (H4 _) (srcP hSQ memQ) (by unfold maxLen; dsimp only; omega) (fun A' cap' => ⟨_, rfl, ?_⟩)
|refine e7 ?_
|refine e9 rfl rfl obQ obQ ?_)
|refine r5 ?_
|refine V_q rfl (k8 rfl obQ) ?_
|refine V_n rfl ?_
|(refine o8 ?_; first
|refine G_V ⟨⟨_, rfl, trivial⟩, ⟨_, rfl⟩, rfl, pstQ⟩ rfl ?_
|refine a7 ?_
|refine j6 ?_
|refine j4 rfl obQ (fun w2 hw => ⟨_, rfl, hw.below, (by have h := HW.ownRow (i := 0) hw rfl rfl rfl rfl; exact h)⟩)))
theorem an7 (x : Nod) (h : NdI .wip x) (w : World) (hP : Pw w) : Calls Tryz.prog 219 #[.agg #[.string x.kd, .int .i64 x.a, .int .i64 x.b, .int .i64 x.c, .int .i64 x.n, .int .i64 x.cl, .int .i64 x.ga, .string x.w.sh, .int .i64 x.w.a, .int .i64 x.w.b, .int .i64 x.w.at_, .int .i64 x.w.soft]] w fun r w' => ∃ v, r = .returned v ∧ Below w.heap.size w w' ∧ w'.ownsRow w.heap.size 9 1 v (ndW .wip x).length ((ndW .wip x).map .string) := by
  refine i7 n9 Tryz.func219 rfl Tryz.ntmps219 (Nat.le_of_ble_eq_true rfl) rfl ?_
  have hk := h.kd
  repeat' (first
|refine e8 ?_
|refine a6 rfl ?_
|refine e7 ?_
|refine e9 rfl rfl obQ obQ ?_
|refine k7 (fun bb => ⟨_, _, rfl, obQ, ?_⟩)
|refine a7 ?_)
  obtain ⟨b1, rfl⟩ : ∃ z, z = bb := ⟨bb, rfl⟩
  refine C8 (fun i : Option Addr × Nat => ([(w, fun b => b < w.heap.size)], ⟨[(1, .s (.p b1 0 0)), (3, .s (.r i.1 3 i.2 0))], [⟨b1, 161, [.v (.string x.kd), .v (.int .i64 x.a), .v (.int .i64 x.b), .v (.int .i64 x.c), .v (.int .i64 x.n), .v (.int .i64 x.cl), .v (.int .i64 x.ga), .v (.string x.w.sh), .v (.int .i64 x.w.a), .v (.int .i64 x.w.b), .v (.int .i64 x.w.at_), .v (.int .i64 x.w.soft)]⟩], [⟨9, 1, 3, (x.kd :: (insF .wip x).map itB : List ByteArray).map .string, .slice i.1 3 i.2⟩]⟩)) ?_ (fun i => ?_)
  · repeat' (first
|refine E4 (id := 1) 6 (.q 0 (.q 1 (.q 3 (.two 2 4 (.n 4 (.n 5 .nil)) (.two 2 5 (.n 5 .nil) (.n 2 .nil)))))) rfl mixed (by kernel_rfl) rfl ?_
|(refine k6 ?_; first
|(refine j5 (f := 137) rfl obQ (by kernel_rfl) (fun w hw => B6 x .wip hk w) (fun w1I w2I vI hw1I hbI hRI => ?_); obtain ⟨AI, cI, rfl, hSI⟩ := hRI)
|(refine j5 (f := 259) rfl obQ (by kernel_rfl) (fun w hw => J6 (l := insF .wip x) (n := 2) rfl (Nat.le_of_ble_eq_true rfl) h.ins w (hw.rdm hSI memQ) (I8 hP hw memQ)) (fun w1M w2M vM hw1M hbM hRM => ?_); obtain ⟨AM, cM, rfl, hSM, hNM⟩ := H3 hRM)
|refine C4 rfl obQ rfl rfl rfl ⟨by decide, rfl⟩ rfl ⟨rfl, rfl, rfl, rfl⟩ ((insF .wip x : List Int).map fun x => .string (itB x)) rfl hNM (H4 _) (srcP hSM memQ) (by unfold maxLen; dsimp only; omega) (fun A' cap' => ⟨_, rfl, ?_⟩)
|refine P4 (bx' := [_]) 8 1 1 rfl rfl rfl rfl (by decide) ?_
|refine e7 ?_
|refine e9 rfl rfl obQ obQ ?_
|refine j9 (fun b => ⟨_, _, rfl, obQ, ?_⟩))
|(refine A9 ?_; first
|refine w5 ?_
|refine B5 rfl (k8 rfl obQ) ?_
|refine D9 rfl ?_
|refine w4 rfl rfl ?_ ?_)
|refine A8 ⟨_, rfl⟩ ⟨_, rfl⟩ pstQ rfl ?_
|refine D4 (A', cap') svQ)
  obtain ⟨A', c'⟩ := i
  dsimp only
  repeat' (first
|(refine j7 ?_; first
|refine e8 ?_
|refine a6 rfl ?_
|refine j3 ?_
|refine n8 (id := 2) 3 [(1, true), (2, true), (0, false)] rfl mixed (by kernel_rfl) rfl ?_
|refine n7 rfl obQ ?_)
|(refine k6 ?_; first
|(refine j5 (f := 188) rfl obQ (by kernel_rfl) (fun w hw => z1 w) (fun w1K w2K vK hw1K hbK hRK => ?_); obtain ⟨kK, rfl, hkK, hMK⟩ := hRK)
|refine j8 (y6 (W := w2K) (S := fun b => w1K.heap.size ≤ b ∧ b < w2K.heap.size) (es := kdM) (z := zK) (r := .agg #[.int .i64 2, Value.func (.func 240) #[] #[], Value.func (.func 241) #[] #[], Value.func (.func 242) #[] #[], .nilFunc, Value.func (.func 243) #[] #[]]) rfl obQ Tryz.underlying238 Tryz.underlying9 z7 memQ ⟨hkK, y9 hMK⟩ hMK (.inl (A4 hk))) ?_
|refine j8 (k9 rfl obQ (fun w => bm1 Tryz.underlying234 _ _ w)) ?_
|refine e7 ?_
|refine e9 rfl rfl obQ obQ ?_
|refine k7 (fun bd => ⟨_, _, rfl, obQ, ?_⟩))
|refine r5 ?_
|refine V_q rfl (k8 rfl obQ) ?_
|refine V_n rfl ?_
|refine G_V ⟨⟨_, rfl, trivial⟩, ⟨_, rfl⟩, rfl, pstQ⟩ rfl ?_
|refine a7 ?_)
  obtain ⟨b5, rfl⟩ : ∃ z, z = bd := ⟨bd, rfl⟩
  refine C8 (fun i : Option Addr × Nat => ([], ⟨[(2, .s (.r i.1 8 i.2 0))], [], [⟨9, 1, 8, (ndW .wip x).map .string, .slice i.1 8 i.2⟩]⟩)) ?_ (fun i => ?_)
  · repeat' (first
|refine F1 (id := 6) 14 (.q 0 (.q 1 (.q 2 (.q 5 (.q 6 (.q 7 (.q 8 (.q 9 (.q 10 (.q 11 (.q 12 (.two 3 13 (.two 4 13 (.n 13 .nil) (.n 4 .nil)) (.n 3 (.n 4 .nil)))))))))))))) rfl mixed (by kernel_rfl) rfl ?_
|(refine k6 ?_; first
|refine w9 rfl obQ rfl rfl rfl ⟨by decide, rfl⟩ rfl ⟨rfl, rfl, rfl, rfl⟩ [.string x.w.sh] ⟨by decide, rfl⟩ (by simp [Value.oneCell']) (fun w hw => by first | exact hw.src (i := 0) rfl rfl | exact hw.src (i := 1) rfl rfl | exact hw.src (i := 2) rfl rfl | exact hw.src (i := 3) rfl rfl | exact hw.src (i := 4) rfl rfl | exact hw.src (i := 5) rfl rfl | exact hw.src (i := 6) rfl rfl | exact hw.src (i := 7) rfl rfl | exact hw.src (i := 8) rfl rfl) (by unfold maxLen; dsimp only; omega) (fun gb cap' => ⟨_, rfl, ?_⟩)
|(refine j5 (f := 259) rfl obQ (by kernel_rfl) (fun w hw => J6 (l := [x.w.a, x.w.b, x.w.at_, x.w.soft]) (n := 4) rfl (Nat.le_of_ble_eq_true rfl) (by intro z hz; simp at hz; rcases hz with rfl | rfl | rfl | rfl; exact h.a; exact h.b; exact h.at_; exact h.soft) w (.inr ⟨_, rfl, by first | exact hw.src (i := 2) rfl rfl | exact hw.src (i := 3) rfl rfl⟩) (I8 hP hw memQ)) (fun w1Q w2Q vQ hw1Q hbQ hRQ => ?_); obtain ⟨AQ, cQ, rfl, hSQ, hNQ⟩ := H3 hRQ)
|refine C4 rfl obQ rfl rfl rfl ⟨by decide, rfl⟩ rfl ⟨rfl, rfl, rfl, rfl⟩ (([x.w.a, x.w.b, x.w.at_, x.w.soft] : List Int).map fun x => .string (itB x)) rfl hNQ (H4 _) (srcP hSQ memQ) (by unfold maxLen; dsimp only; omega) (fun A' cap' => ⟨_, rfl, ?_⟩)
|refine e7 ?_
|refine e9 rfl rfl obQ obQ ?_
|refine j9 (fun b => ⟨_, _, rfl, obQ, ?_⟩))
|(refine A9 ?_; first
|refine w5 ?_
|refine B5 rfl (k8 rfl obQ) ?_
|refine D9 rfl ?_
|refine w4 rfl rfl ?_ ?_)
|refine A8 ⟨_, rfl⟩ ⟨_, rfl⟩ pstQ rfl ?_
|refine D4 (A', cap') svQ)
  obtain ⟨A5, c5⟩ := i
  dsimp only
  repeat' (first
|refine i6 ?_
|refine j4 rfl obQ (fun w2 hw => ⟨_, rfl, hw.below, (by have h := HW.ownRow (i := 0) hw rfl rfl rfl rfl; exact h)⟩))
theorem aR5 {k : Kd} (x : Nod) (h : NdI k x) (w : World) (hP : Pw w) : Calls Tryz.prog 219 #[.agg #[.string x.kd, .int .i64 x.a, .int .i64 x.b, .int .i64 x.c, .int .i64 x.n, .int .i64 x.cl, .int .i64 x.ga, .string x.w.sh, .int .i64 x.w.a, .int .i64 x.w.b, .int .i64 x.w.at_, .int .i64 x.w.soft]] w fun r w' => ∃ v, r = .returned v ∧ Below w.heap.size w w' ∧ w'.ownsRow w.heap.size 9 1 v (ndW k x).length ((ndW k x).map .string) := by
  cases k with
  | src => exact am9 x h w hP
  | mat => exact an4 x h w hP
  | mix => exact am8 x h w hP
  | wip => exact an7 x h w hP
  | key => exact am4 x h w hP
theorem bh4 {k : Kd} (x : Nod) (h : NdI k x) (w : World) (hP : Pw w) : Calls Tryz.prog 172 #[.agg #[.string x.kd, .int .i64 x.a, .int .i64 x.b, .int .i64 x.c, .int .i64 x.n, .int .i64 x.cl, .int .i64 x.ga, .string x.w.sh, .int .i64 x.w.a, .int .i64 x.w.b, .int .i64 x.w.at_, .int .i64 x.w.soft]] w fun r w' => r = .returned (.string (ndT x)) ∧ Below w.heap.size w w' := by
  have hsz := at7 h; have hwn := (ax4 h).2; rw [T7 h.kd]
  refine i7 n9 Tryz.func172 rfl Tryz.ntmps172 (Nat.le_of_ble_eq_true rfl) rfl ?_
  repeat' (first
|refine e8 ?_
|refine a6 rfl ?_
|refine i6 ?_
|(refine k6 ?_; first
|(refine aa1 9 1 (ndW k x).length ((ndW k x).map .string) rfl obQ (by kernel_rfl) (fun w hw => aR5 x h w (I8 hP hw memQ)) (fun AW cW => ?_))
|refine j8 (k9 rfl obQ (fun w => bg3 _ _ _ _ _ (by have : sNl.size = 1 := rfl; show _ + 1 ≤ _; omega) w)) ?_
|refine e7 ?_
|refine e9 rfl rfl obQ obQ ?_
|refine k7 (fun b => ⟨_, _, rfl, obQ, ?_⟩)
|refine a8 (f := 170) rfl obQ (by kernel_rfl) (fun w hw => aF2 sSp (hw.row _ (List.Mem.head _)).1 rfl (by omega) (by omega) (by omega)) ?_)
|refine a7 ?_
|refine j4 rfl obQ (fun w hw => ⟨?_, hw.below⟩))
  rfl
theorem aZ1 {t : List Nod} (ht : TrOk t) : ∀ x ∈ t, ∃ k, NdI k x := by
  intro x hx
  obtain ⟨i, hi, rfl⟩ := List.getElem_of_mem hx
  obtain ⟨k, hk⟩ := ht.s i hi
  rw [E6 hi] at hk
  exact ⟨k, bB3 hk (by have := ht.n; omega)⟩
theorem aS2 (A : Option Addr) (c : Nat) (t : List Nod) (hl : t.length ≤ 1000000) (w : World) (hr : Rd w A (t.flatMap ndC)) (hP : Pw w) (hsh : Sh w) : Calls Tryz.prog 99 #[.slice A t.length c] w fun r w' => r = .returned (.tuple #[.string (prR t).1, .int .i64 (prR t).2]) ∧ Below w.heap.size w w' := by
  refine i7 n9 Tryz.func99 rfl Tryz.ntmps99 (Nat.le_of_ble_eq_true rfl) rfl ?_
  by_cases hE : trE t = 0
  · have ht := G2.1 hE
    have e1 : prR t = (joinB (t.map ndT) ByteArray.empty, 0) := if_pos hE
    rw [e1]
    have hn := ht.n
    have hl2 := ae0 (m := 199) (t.map ndT) ByteArray.empty (fun s hs => by
      obtain ⟨x, hx, rfl⟩ := List.mem_map.1 hs
      obtain ⟨k, hk⟩ := aZ1 ht x hx
      exact aN2 hk)
    rw [List.length_map, show ByteArray.empty.size = 0 from rfl] at hl2
    repeat' (first
|(refine j7 ?_; first
|refine e8 ?_
|refine a6 rfl ?_
|refine j3 ?_
|refine i6 ?_
|(refine j0 rfl obQ ?_ ?_ <;> intro h <;> (try simp only [cdS] at h) <;> (try (exfalso; omega)) <;> (try exact cdF h) <;> (try contradiction)))
|(refine k6 ?_; first
|refine aa1 9 1 t.length (t.map fun x => .string (ndT x)) rfl obQ (by kernel_rfl) (fun w hw => at2 172 (g := ndT) A c t (by omega) (by kernel_rfl) w (hw.rdm hr.toS memQ) (fun x hx W hW => (by obtain ⟨k, hk⟩ := aZ1 ht x hx; exact bh4 x hk W (av1 (I8 hP hw memQ) hW)))) (fun AR cR => ?_)
|refine e7 ?_
|refine e9 rfl rfl obQ obQ ?_
|refine a8 (f := 50) rfl obQ (by kernel_rfl) (fun w hw => o9 A c t hl w (hw.rdm hr.toS memQ) (r7 hsh hw memQ)) ?_
|refine a8 (f := 170) rfl obQ (by kernel_rfl) (fun w hw => (by have := aF2 (xs := t.map ndT) ByteArray.empty (by have := (hw.row _ (List.Mem.head _)).1; simpa [Function.comp_def] using this) (by simp) (by omega) (by omega) (by omega); exact this)) ?_)
|refine a7 ?_
|refine j4 rfl obQ (fun w hw => ⟨?_, hw.below⟩))
    rfl
  · have e1 : prR t = (ByteArray.empty, trE t) := if_neg hE
    rw [e1]
    repeat' (first
|(refine j7 ?_; first
|refine e8 ?_
|refine a6 rfl ?_
|refine i6 ?_
|(refine j0 rfl obQ ?_ ?_ <;> intro h <;> (try simp only [cdS] at h) <;> (try (exfalso; omega)) <;> (try exact cdF h) <;> (try contradiction)))
|refine e7 ?_
|refine e9 rfl rfl obQ obQ ?_
|refine a8 (f := 50) rfl obQ (by kernel_rfl) (fun w hw => o9 A c t hl w (hw.rdm hr.toS memQ) (r7 hsh hw memQ)) ?_
|refine a7 ?_
|refine j6 ?_
|refine j4 rfl obQ (fun w hw => ⟨?_, hw.below⟩))
    rfl
end Go.Proofs.YtjkgklhjbopoaaaGreatDoor
