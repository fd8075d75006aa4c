/- Mixer: nodes are checked: contracts of the program (all). -/
import Derived.Test.YtjkgklhjbopoaaaGreatDoorMixer20
import Derived.Test.YtjkgklhjbopoaaaGreatDoorMixer21
import Derived.Test.YtjkgklhjbopoaaaGreatDoorMixer22
import Derived.Test.YtjkgklhjbopoaaaGreatDoorShelfS
import Derived.Test.YtjkgklhjbopoaaaGreatDoorEng4
namespace Go.Proofs.YtjkgklhjbopoaaaGreatDoor
open Go.E Go.RowKit Go.Fl
attribute [local irreducible] G C S D Calls
set_option maxRecDepth 100000
set_option linter.all false
set_option maxHeartbeats 8000000
theorem aI2 (x : Nod) (z : Int) (w : World) (hsh : Sh w) : Calls Tryz.prog 142 #[.agg #[.string x.kd, .int .i64 x.a, .int .i64 x.b, .int .i64 x.c, .int .i64 x.n, .int .i64 x.cl, .int .i64 x.ga, .string x.w.sh, .int .i64 x.w.a, .int .i64 x.w.b, .int .i64 x.w.at_, .int .i64 x.w.soft], .int .i64 z] w fun r w' => r = .returned (.int .i64 (ndE x z)) ∧ Below w.heap.size w w' := by
  rcases hk : kdOf x.kd with _ | k
  · exact ar7 x z hk w hsh
  · cases k with
    | src => exact ai1 x z hk w hsh
    | mat => exact ai0 x z hk w hsh
    | mix => exact ah6 x z hk w hsh
    | wip => exact ah9 x z hk w hsh
    | key => exact ai3 x z hk w hsh
theorem C6 (t : List Nod) : (t.flatMap ndC).length = t.length * 12 := C7 (f := ndC) (s := 12) t (fun _ _ => rfl)
theorem C5 {t : List Nod} {k : Nat} {z : Int} (e : z = k) (h : k < t.length) : ∀ (j : Nat) (u : Value), (ndC (gN t k))[j]? = some u → (t.flatMap ndC)[(z.toNat * 12 + j)]? = some u := by
  subst e
  rw [E6 h]
  exact idxS (f := ndC) (fun _ => rfl) h
theorem bi2 {t : List Nod} (h : ¬ trnE t.length = 0) : trE t = trnE t.length := if_neg h
theorem bl0 {t : List Nod} (h : trnE t.length = 0) : trE t = firstL ((List.range t.length).map fun i => ndE (gN t i) i) := if_pos h
theorem o9 (A : Option Addr) (c : Nat) (t : List Nod) (hl : t.length ≤ 1000000) (w : World) (hr : Rd w A (t.flatMap ndC)) (hsh : Sh w) : Calls Tryz.prog 50 #[.slice A t.length c] w fun r w' => r = .returned (.int .i64 (trE t)) ∧ Below w.heap.size w w' := by
  refine i7 n9 Tryz.func50 rfl Tryz.ntmps50 (Nat.le_of_ble_eq_true rfl) rfl ?_
  by_cases h1 : trnE t.length = 0
  · rw [bl0 h1]
    repeat' (first
|(refine j7 ?_; first
|refine e8 ?_
|refine a6 rfl ?_
|refine j1 ?_
|refine j3 ?_
|refine i6 ?_
|(refine j0 rfl obQ ?_ ?_ <;> intro h <;> (try simp only [cdS] at h) <;> (try (exfalso; omega)) <;> (try exact cdF h) <;> (try contradiction)))
|(refine k6 ?_; first
|refine e7 ?_
|refine e9 rfl rfl obQ obQ ?_
|refine j9 (fun b => ⟨_, _, rfl, obQ, ?_⟩)
|refine a8 (f := 112) rfl obQ (by kernel_rfl) (fun w hw => v8 _ _ w) ?_
|refine a8 (f := 107) rfl obQ (by kernel_rfl) (fun w hw => p6 _ _ [wh ((t.length : Int) == 0) 12, wh (decide ((16 : Int) < t.length)) 5] (by simp) w (.inr ⟨_, rfl, hw.src (i := 0) rfl rfl⟩)) ?_)
|refine a7 ?_
|refine j6 ?_
|refine j4 rfl obQ (fun w hw => ⟨?_, hw.below⟩))
    refine p7 (fun k : Nat => ⟨[(22, .s (.v (.int .i64 k))), (21, .s (.v (.int .i64 t.length))), (20, .s (.v (.slice A t.length c)))], [], []⟩) (fun k => k ≤ t.length ∧ firstL ((List.range t.length).map fun i => ndE (gN t i) i) = firstL (((List.range t.length).map fun i => ndE (gN t i) i).drop k)) (fun k => t.length - k) 0 ⟨Nat.zero_le _, rfl⟩ ?_ (fun k hk => ?_)
    · exact svQ
    by_cases hlt : k < t.length
    · obtain ⟨ad, rfl⟩ := hr.some (by rw [C6]; omega)
      have hfd := af7 (f := fun i : Nat => ndE (gN t i) (i : Int)) hlt
      repeat' (first
|(refine j7 ?_; first
|refine e8 ?_
|refine a6 rfl ?_
|refine j1 ?_
|refine j3 ?_
|refine i6 ?_
|(refine j0 rfl obQ ?_ ?_ <;> intro h <;> (try simp only [cdS] at h) <;> (try (exfalso; omega)) <;> (try exact cdF h) <;> (try (exfalso; omega))))
|(refine k6 ?_; first
|refine n4 rfl obQ rfl [.string (gN t k).kd, .int .i64 (gN t k).a, .int .i64 (gN t k).b, .int .i64 (gN t k).c, .int .i64 (gN t k).n, .int .i64 (gN t k).cl, .int .i64 (gN t k).ga, .string (gN t k).w.sh, .int .i64 (gN t k).w.a, .int .i64 (gN t k).w.b, .int .i64 (gN t k).w.at_, .int .i64 (gN t k).w.soft] (.past (w, fun b => b < w.heap.size) memQ _ _ hr.toS _ _ rfl rfl (C5 (t := t) (k := k) rfl hlt)) rfl (.inl ⟨rfl, rfl⟩) ?_
|refine e7 ?_
|refine e9 rfl rfl obQ obQ ?_
|refine k7 (fun b => ⟨_, _, rfl, obQ, ?_⟩)
|refine a8 (f := 142) rfl obQ (by kernel_rfl) (fun w hw => aI2 (gN t k) k w (r7 hsh hw memQ)) ?_)
|(refine o8 ?_; first
|refine o6 (k + 1) ?_ (by omega) svQ
|refine a7 ?_
|refine n5 ?_
|refine r8 ?_
|refine j6 ?_
|refine j4 rfl obQ (fun w hw => ⟨?_, hw.below⟩)))
      · exact rI (by have h' : ¬ (fun i : Nat => ndE (gN t i) (i : Int)) k = 0 := h; rw [hk.2, hfd, if_neg h'])
      · exact ⟨by omega, by have h' : (fun i : Nat => ndE (gN t i) (i : Int)) k = 0 := h; rw [hk.2, hfd, if_pos h']⟩
    · obtain rfl : k = t.length := by omega
      repeat' (first
|(refine j7 ?_; first
|refine e8 ?_
|refine a6 rfl ?_
|refine j1 ?_
|refine j3 ?_
|refine o0 ?_
|refine i6 ?_
|(refine j0 rfl obQ ?_ ?_ <;> intro h <;> (try simp only [cdS] at h) <;> (try (exfalso; omega)) <;> (try exact cdF h) <;> (try (exfalso; omega))))
|refine e7 ?_
|refine e9 rfl rfl obQ obQ ?_
|(refine o8 ?_; first
|refine a7 ?_
|refine n2 ?_
|refine n6 ?_
|refine j4 rfl obQ (fun w hw => ⟨?_, hw.below⟩)))
      exact rI (by rw [hk.2, ak2])
  · rw [bi2 h1]
    repeat' (first
|(refine j7 ?_; first
|refine e8 ?_
|refine a6 rfl ?_
|refine j1 ?_
|refine j3 ?_
|refine i6 ?_
|(refine j0 rfl obQ ?_ ?_ <;> intro h <;> (try simp only [cdS] at h) <;> (try (exfalso; omega)) <;> (try exact cdF h) <;> (try contradiction)))
|(refine k6 ?_; first
|refine e7 ?_
|refine e9 rfl rfl obQ obQ ?_
|refine j9 (fun b => ⟨_, _, rfl, obQ, ?_⟩)
|refine a8 (f := 112) rfl obQ (by kernel_rfl) (fun w hw => v8 _ _ w) ?_
|refine a8 (f := 107) rfl obQ (by kernel_rfl) (fun w hw => p6 _ _ [wh ((t.length : Int) == 0) 12, wh (decide ((16 : Int) < t.length)) 5] (by simp) w (.inr ⟨_, rfl, hw.src (i := 0) rfl rfl⟩)) ?_)
|refine a7 ?_
|refine j6 ?_
|refine j4 rfl obQ (fun w hw => ⟨?_, hw.below⟩))
    all_goals rfl
open Go.Sort in
theorem aC6 {w : World} {g q : Nat} {ys : List Int} {os : Array Obj} {cur : Array Value} {e : TypeId} (hg : w.heap[g]? = some (.cells cur e (0, 0))) :
    (grow (putRow (Value.int .i64) (Sort.ahead w q) g 0 ys.toArray) os).heap[g]? = some (.cells (putCells (Value.int .i64) 0 ys.toArray cur) e (0, 0)) ∧ (∀ k, k < w.heap.size → k ≠ g → (grow (putRow (Value.int .i64) (Sort.ahead w q) g 0 ys.toArray) os).heap[k]? = w.heap[k]?) ∧ w.heap.size ≤ (grow (putRow (Value.int .i64) (Sort.ahead w q) g 0 ys.toArray) os).heap.size := by
  have hlt : g < w.heap.size := (Array.getElem?_eq_some_iff.1 hg).1
  have e1 : ∀ k, k < w.heap.size → (grow (putRow (Value.int .i64) (Sort.ahead w q) g 0 ys.toArray) os).heap[k]? = (w.heap.modify g (onCells (putCells (Value.int .i64) 0 ys.toArray)))[k]? := fun k hk => by
    show ((w.heap.modify g _) ++ os)[k]? = _
    rw [Array.getElem?_append_left (by simpa using hk)]
  refine ⟨?_, fun k hk hne => ?_, ?_⟩
  · rw [e1 g hlt, Array.getElem?_modify, if_pos rfl, hg]
    rfl
  · rw [e1 k hk, Array.getElem?_modify, if_neg (Ne.symm hne)]
  · show _ ≤ ((w.heap.modify g _) ++ os).size
    simp
open Go.Sort in
theorem aP2 {ys : List Int} {cur : Array Value} {m : Nat} (hn : ys.length ≤ cur.size) (hm : m ≤ ys.length) : (putCells (Value.int .i64) 0 ys.toArray cur).toList.take m = (ys.take m).map (Value.int .i64) := by
  apply List.ext_getElem?
  intro i
  rw [List.getElem?_take, List.getElem?_map, List.getElem?_take]
  by_cases hi : i < m
  · rw [if_pos hi, if_pos hi, Array.getElem?_toList]
    unfold putCells
    rw [Array.getElem?_mapIdx]
    have h1 : i < cur.size := by omega
    have h2 : i < ys.length := by omega
    simp [h1, h2]
  · rw [if_neg hi, if_neg hi]
    rfl
theorem aj9 {w : World} {g n cap m q : Nat} {zs ys : List Int} {os : Array Obj} (h : w.ownsRow 0 3 1 (.slice (some ⟨g, 0, none⟩) n cap) n (zs.map (.int .i64))) (hy : ys.length = n) (hm : m ≤ n) :
    (Sort.grow (Sort.putRow (Value.int .i64) (Sort.ahead w q) g 0 ys.toArray) os).ownsRow 0 3 1 (.slice (some ⟨g, 0, none⟩) m cap) m ((ys.take m).map (.int .i64)) ∧ w.grownBy (Sort.grow (Sort.putRow (Value.int .i64) (Sort.ahead w q) g 0 ys.toArray) os) (some g) := by
  rcases h.2 with ⟨h1, _⟩ | ⟨g', cap', cur, h1, _, h3, h4, h5, h6, h7⟩
  · cases h1
  · cases h1
    obtain ⟨a1, a2, a3⟩ := aC6 (q := q) (ys := ys) (os := os) h3
    have hc : n ≤ cur.size := by omega
    refine ⟨⟨by simp; omega, .inr ⟨g, cap, _, rfl, Nat.zero_le _, a1, by omega, h5, ?_, ?_⟩⟩, ⟨rfl, rfl, rfl, a3, fun k hk hne => a2 k hk (fun e => hne (by rw [e]))⟩⟩
    · simp [Sort.putCells, h6]
    · rw [Nat.mul_one]
      exact aP2 (by omega) (by omega)
open Go.Sort in
theorem ai7 {w : World} {g n cap : Nat} {zs : List Int} (h : w.ownsRow 0 3 1 (.slice (some ⟨g, 0, none⟩) n cap) n (zs.map (.int .i64))) : Holds (Value.int .i64) w g 0 zs.toArray ∧ zs.length = n ∧ n ≤ cap ∧ g < w.heap.size := by
  have hl : zs.length = n := by
    have := h.1
    simpa using this
  rcases h.2 with ⟨h1, _⟩ | ⟨g', cap', cur, h1, _, h3, h4, h5, h6, h7⟩
  · cases h1
  · cases h1
    refine ⟨fun j hj => ?_, hl, h4, (Array.getElem?_eq_some_iff.1 h3).1⟩
    have hj' : j < zs.length := by simpa using hj
    have hcell := h.cells (g := g) rfl j (.int .i64 zs[j]) (by simp [hj'])
    rw [Addr.add_mid, Nat.zero_add] at hcell
    refine ⟨?_, ?_⟩
    · rw [Nat.zero_add]
      refine hcell.trans ?_
      simp [hj']
    · simp [World.frozen?, h3]
theorem aV0 {A : Option Addr} {n c : Nat} {zs : List Int} (w : World) (h : w.ownsRow 0 3 1 (.slice A n c) n (zs.map (.int .i64))) (hn : n ≤ 1000000) : Calls Tryz.prog 183 #[.slice A n c] w fun e w' => ∃ v, e = .returned v ∧ w.grownBy w' (Value.slice A n c).ownBlock ∧ w'.ownsRow 0 3 1 (.slice A n c) n ((zs.mergeSort fun x y => decide (x ≤ y)).map (.int .i64)) := by
  rcases h.2 with ⟨h1, h2⟩ | ⟨g, cap, cur, h1, _⟩
  · cases h1
    have : zs = [] := by
      have := h.1
      exact List.eq_nil_of_length_eq_zero (by simpa using this)
    subst this
    refine (Tryz.slices_Sort_int_none none 0 w).mono fun e w' he => ?_
    obtain ⟨rfl, rfl⟩ := he
    exact ⟨_, rfl, World.grownBy.refl _ _, by simpa using h⟩
  · cases h1
    obtain ⟨k1, k2, k3, k4⟩ := ai7 h
    have k5 := Tryz.slices_Sort_int g 0 c zs w k1 k4 (by omega)
    rw [k2] at k5
    refine k5.mono fun e w' he => ?_
    obtain ⟨rfl, q, os, rfl⟩ := he
    have hy : (zs.mergeSort fun x y => decide (x ≤ y)).length = n := by rw [List.length_mergeSort]; exact k2
    obtain ⟨r1, r2⟩ := aj9 (q := q) (os := os) h hy (Nat.le_refl n)
    rw [List.take_of_length_le (by omega)] at r1
    exact ⟨_, rfl, r2, r1⟩
theorem ay7 {A : Option Addr} {n c : Nat} {zs : List Int} (w : World) (h : w.ownsRow 0 3 1 (.slice A n c) n (zs.map (.int .i64))) (hn : n ≤ 1000000) : Calls Tryz.prog 184 #[.slice A n c] w fun e w' => ∃ A' c', e = .returned (.slice A' (Lib.compact zs).length c') ∧ TurSt [] [⟨3, 1, n, zs.map (.int .i64), .slice A n c⟩] [] [⟨3, 1, (Lib.compact zs).length, (Lib.compact zs).map (.int .i64), .slice A' (Lib.compact zs).length c'⟩] w w' := by
  rcases h.2 with ⟨h1, h2⟩ | ⟨g, cap, cur, h1, _⟩
  · cases h1
    have : zs = [] := by
      have := h.1
      exact List.eq_nil_of_length_eq_zero (by simpa using this)
    subst this
    have hc0 : Lib.compact ([] : List Int) = [] := rfl
    refine (Tryz.slices_Compact_int_empty none 0 w).mono fun e w' he => ?_
    obtain ⟨rfl, rfl⟩ := he
    refine ⟨none, 0, rfl, ⟨⟨Below.refl _ _, Nat.zero_le _, by simp, by simp, by simp, fun r hr => ?_, by simp, by simp⟩, rfl, fun _ _ _ _ => rfl, fun r hr g hg => ?_⟩⟩
    · have : r = ⟨3, 1, 0, [], .slice none 0 0⟩ := by simpa [hc0] using hr
      subst this
      exact ⟨World.ownsRow_nil _ _ _ _, fun g hg => by cases hg⟩
    · have : r = ⟨3, 1, 0, [], .slice none 0 0⟩ := by simpa [hc0] using hr
      subst this
      cases hg
  · cases h1
    obtain ⟨k1, k2, k3, k4⟩ := ai7 h
    have k5 := Tryz.slices_Compact_int g 0 c zs w k1 (by omega) (by omega)
    rw [k2] at k5
    have hle := Lib.compact_length_le zs
    refine k5.mono fun e w' he => ?_
    obtain ⟨rfl, q, rfl⟩ := he
    have hy : (Lib.compact zs ++ List.replicate (n - (Lib.compact zs).length) 0).length = n := by simp; omega
    obtain ⟨r1, r2⟩ := aj9 (q := q) (os := #[]) h hy (show (Lib.compact zs).length ≤ n by omega)
    rw [List.take_left' rfl, Sort.grow_empty] at r1
    rw [Sort.grow_empty] at r2
    refine ⟨_, c, rfl, ⟨⟨⟨r2.os, r2.tape, r2.output, r2.size, fun k hk => absurd hk (Nat.not_lt_zero _)⟩, Nat.zero_le _, by simp, by simp, by simp, fun r hr => ?_, by simp, by simp⟩, rfl, fun k hk _ hr => r2.block k hk (fun e => ?_), fun r hr g' hg' => .inl ⟨_, List.mem_singleton.2 rfl, ?_⟩⟩⟩
    · rw [List.mem_singleton] at hr
      subst hr
      exact ⟨r1, fun g' _ => ⟨by simp, by simp⟩⟩
    · exact hr _ (List.mem_singleton.2 rfl) (by rw [e]; rfl)
    · rw [List.mem_singleton] at hr
      subst hr
      exact hg'
theorem aE5 {d : Array Int} (hs : ∀ i j, i ≤ j → j < d.size → d[i]! ≤ d[j]!) : ∀ m, m ≤ d.size → (Lib.compactUpTo d m).Pairwise (· < ·) ∧ ∀ x, x ∈ Lib.compactUpTo d m ↔ ∃ j, j < m ∧ d[j]! = x
  | 0, _ => ⟨by simp [Lib.compactUpTo], fun x => by simp [Lib.compactUpTo]⟩
  | m + 1, h => by
    obtain ⟨i1, i2⟩ := aE5 hs m (by omega)
    rw [Lib.compactUpTo_succ]
    by_cases hk : Lib.keeps d m = true
    · rw [if_pos hk]
      refine ⟨?_, fun x => ?_⟩
      · rw [List.pairwise_append]
        refine ⟨i1, by simp, fun a ha b hb => ?_⟩
        rw [List.mem_singleton] at hb
        subst hb
        obtain ⟨j, hj, rfl⟩ := (i2 a).1 ha
        have h1 := hs j (m - 1) (by omega) (by omega)
        have h2 := hs (m - 1) m (by omega) (by omega)
        have h3 : m = 0 ∨ d[m]! ≠ d[m - 1]! := by simpa [Lib.keeps] using hk
        rcases h3 with h3 | h3
        · omega
        · omega
      · rw [List.mem_append, i2, List.mem_singleton]
        constructor
        · rintro (⟨j, hj, e⟩ | e)
          · exact ⟨j, by omega, e⟩
          · exact ⟨m, by omega, e.symm⟩
        · rintro ⟨j, hj, e⟩
          by_cases hjm : j = m
          · subst hjm; exact .inr e.symm
          · exact .inl ⟨j, by omega, e⟩
    · rw [if_neg hk, List.append_nil]
      refine ⟨i1, fun x => ?_⟩
      rw [i2]
      have h3 : ¬ m = 0 ∧ d[m]! = d[m - 1]! := by simpa [Lib.keeps] using hk
      constructor
      · rintro ⟨j, hj, e⟩
        exact ⟨j, by omega, e⟩
      · rintro ⟨j, hj, e⟩
        by_cases hjm : j = m
        · subst hjm; exact ⟨j - 1, by omega, by rw [← h3.2]; exact e⟩
        · exact ⟨j, by omega, e⟩
theorem by1 {s : List Int} (hs : s.Pairwise (· ≤ ·)) : Lib.compact s = cpF s := by
  have hg : ∀ i (hi : i < s.length), s.toArray[i]! = s[i] := fun i hi => by simp [hi]
  obtain ⟨h1, h2⟩ := aE5 (d := s.toArray) (fun i j hij hj => by
    have hj' : j < s.length := by simpa using hj
    rw [hg i (by omega), hg j hj']
    rcases Nat.lt_or_ge i j with h | h
    · exact (List.pairwise_iff_getElem.1 hs) i j (by omega) hj' h
    · obtain rfl : i = j := by omega
      exact Int.le_refl _) s.length (by simp)
  refine V4 h1 (aA3 s hs) fun x => ?_
  rw [ap5]
  refine (h2 x).trans ⟨fun ⟨j, hj, e⟩ => ?_, fun hx => ?_⟩
  · rw [hg j hj] at e
    subst e
    exact List.getElem_mem hj
  · obtain ⟨j, hj, e⟩ := List.mem_iff_getElem.1 hx
    exact ⟨j, hj, by rw [hg j hj]; exact e⟩
theorem aU7 (l : List Int) : (l.mergeSort fun x y => decide (x ≤ y)).Pairwise (· ≤ ·) := by
  have := List.pairwise_mergeSort (le := fun x y : Int => decide (x ≤ y)) (fun a b c h1 h2 => by simp at h1 h2 ⊢; omega) (fun a b => by simp; omega) l
  exact this.imp (fun h => by simpa using h)
theorem bp7 {t : List Nod} (ht : TrOk t) : Lib.compact ((numL t).mergeSort fun x y => decide (x ≤ y)) = scI t := by
  rw [by1 (aU7 _)]
  exact bA5 ht (List.mergeSort_perm _ _) (aU7 _)
def nuT (t : List Nod) (k : Nat) : List Int := numL (t.take k)
theorem bv2 {t : List Nod} {k : Nat} (h : k < t.length) (hs : (gN t k).kd = bSrc) : nuT t (k + 1) = nuT t k ++ [(gN t k).n] := by
  unfold nuT numL
  rw [List.take_succ_eq_append_getElem h, List.filter_append, List.map_append, ← E6 h]
  simp [hs]
theorem bv3 {t : List Nod} {k : Nat} (h : k < t.length) (hs : ¬ (gN t k).kd = bSrc) : nuT t (k + 1) = nuT t k := by
  unfold nuT numL
  rw [List.take_succ_eq_append_getElem h, List.filter_append, List.map_append, ← E6 h]
  simp [hs]
theorem bs3 (t : List Nod) (k : Nat) : (nuT t k).length ≤ k := by
  unfold nuT numL
  rw [List.length_map]
  have := List.length_filter_le (fun x : Nod => decide (x.kd = bSrc)) (t.take k)
  simp at this ⊢
  omega
theorem bg1 (t : List Nod) : nuT t t.length = numL t := by simp [nuT]
theorem aC0 {A : Option Addr} {n c : Nat} {zs ys : List Int} (hz : Lib.compact zs = ys) (w : World) (h : w.ownsRow 0 3 1 (.slice A n c) n (zs.map (.int .i64))) (hn : n ≤ 1000000) : Calls Tryz.prog 184 #[.slice A n c] w fun e w' => ∃ A' c', e = .returned (.slice A' ys.length c') ∧ TurSt [] [⟨3, 1, n, zs.map (.int .i64), .slice A n c⟩] [] [⟨3, 1, ys.length, ys.map (.int .i64), .slice A' ys.length c'⟩] w w' := by
  subst hz
  exact ay7 w h hn
theorem G9 (A : Option Addr) (c : Nat) (t : List Nod) (ht : TrOk t) (w : World) (hr : Rd w A (t.flatMap ndC)) : Calls Tryz.prog 118 #[.slice A t.length c] w fun r w' => ∃ v, r = .returned v ∧ Below w.heap.size w w' ∧ Sl w w' v (scI t).length ((scI t).map (.int .i64)) := by
  refine i7 n9 Tryz.func118 rfl Tryz.ntmps118 (Nat.le_of_ble_eq_true rfl) rfl ?_
  have hl := ht.n
  repeat' (first
|refine e8 ?_
|refine a6 rfl ?_
|refine j1 ?_
|refine e7 ?_
|refine e9 rfl rfl obQ obQ ?_
|refine k7 (fun b => ⟨_, _, rfl, obQ, ?_⟩)
|refine a7 ?_)
  refine C9 3 3 1 rfl ?_
  refine p7 (fun i : Nat × Option Addr × Nat => ⟨[(8, .s (.v (.int .i64 i.1))), (7, .s (.v (.int .i64 t.length))), (6, .s (.v (.slice A t.length c))), (3, .s (.r i.2.1 (nuT t i.1).length i.2.2 0))], [], [⟨3, 1, (nuT t i.1).length, (nuT t i.1).map (.int .i64), .slice i.2.1 (nuT t i.1).length i.2.2⟩]⟩) (fun i => i.1 ≤ t.length) (fun i => t.length - i.1) (0, none, 0) (Nat.zero_le _) ?_ (fun i hi => ?_)
  · exact svQ
  obtain ⟨k, A', c'⟩ := i
  have hk : k ≤ t.length := hi
  have hle := bs3 t k
  dsimp only
  by_cases hlt : k < t.length
  · obtain ⟨ad, rfl⟩ := hr.some (by rw [C6]; omega)
    by_cases hs : (gN t k).kd = bSrc
    · have hst := bv2 hlt hs
      repeat' (first
|(refine j7 ?_; first
|refine e8 ?_
|refine a6 rfl ?_
|refine j1 ?_
|refine j3 ?_
|(refine j0 rfl obQ ?_ ?_ <;> intro h <;> (try simp only [cdS] at h) <;> (try (exfalso; omega)) <;> (try exact cdF h) <;> (try (exfalso; exact h (by rw [hs]; rfl))) <;> (try (exfalso; omega))))
|(refine k6 ?_; first
|refine n4 rfl obQ rfl [.string (gN t k).kd, .int .i64 (gN t k).a, .int .i64 (gN t k).b, .int .i64 (gN t k).c, .int .i64 (gN t k).n, .int .i64 (gN t k).cl, .int .i64 (gN t k).ga, .string (gN t k).w.sh, .int .i64 (gN t k).w.a, .int .i64 (gN t k).w.b, .int .i64 (gN t k).w.at_, .int .i64 (gN t k).w.soft] (.past (w, fun b => b < w.heap.size) memQ _ _ hr.toS _ _ rfl rfl (C5 (t := t) (k := k) rfl hlt)) rfl (.inl ⟨rfl, rfl⟩) ?_
|refine w9 rfl obQ rfl rfl rfl ⟨by decide, rfl⟩ rfl ⟨rfl, rfl, rfl, rfl⟩ [.int .i64 (gN t k).n] ⟨by decide, rfl⟩ (by simp [Value.oneCell']) (fun w hw => by first | exact hw.src (i := 0) rfl rfl | exact hw.src (i := 1) rfl rfl | exact hw.src (i := 2) rfl rfl | exact hw.src (i := 3) rfl rfl | exact hw.src (i := 4) rfl rfl | exact hw.src (i := 5) rfl rfl | exact hw.src (i := 6) rfl rfl | exact hw.src (i := 7) rfl rfl | exact hw.src (i := 8) rfl rfl) (by unfold maxLen; dsimp only; omega) (fun gb cap' => ⟨_, rfl, ?_⟩)
|refine e7 ?_
|refine e9 rfl rfl obQ obQ ?_
|refine k7 (fun b0 => ⟨_, _, rfl, obQ, ?_⟩)
|refine j9 (fun b => ⟨_, _, rfl, obQ, ?_⟩))
|refine o6 (k + 1, some ⟨gb, 0, none⟩, cap') (show k + 1 ≤ t.length by omega) (by show t.length - (k + 1) < t.length - k; omega) (by dsimp only; rw [hst, List.map_append, List.length_append]; exact svQ)
|refine a7 ?_
|refine n5 ?_)
    · have hst := bv3 hlt hs
      repeat' (first
|(refine j7 ?_; first
|refine e8 ?_
|refine a6 rfl ?_
|refine j1 ?_
|refine j3 ?_
|(refine j0 rfl obQ ?_ ?_ <;> intro h <;> (try simp only [cdS] at h) <;> (try (exfalso; omega)) <;> (try exact cdF h) <;> (try (exfalso; exact hs (toL h))) <;> (try (exfalso; omega))))
|(refine k6 ?_; first
|refine n4 rfl obQ rfl [.string (gN t k).kd, .int .i64 (gN t k).a, .int .i64 (gN t k).b, .int .i64 (gN t k).c, .int .i64 (gN t k).n, .int .i64 (gN t k).cl, .int .i64 (gN t k).ga, .string (gN t k).w.sh, .int .i64 (gN t k).w.a, .int .i64 (gN t k).w.b, .int .i64 (gN t k).w.at_, .int .i64 (gN t k).w.soft] (.past (w, fun b => b < w.heap.size) memQ _ _ hr.toS _ _ rfl rfl (C5 (t := t) (k := k) rfl hlt)) rfl (.inl ⟨rfl, rfl⟩) ?_
|refine e7 ?_
|refine e9 rfl rfl obQ obQ ?_
|refine k7 (fun b0 => ⟨_, _, rfl, obQ, ?_⟩))
|refine o6 (k + 1, A', c') (show k + 1 ≤ t.length by omega) (by show t.length - (k + 1) < t.length - k; omega) (by dsimp only; rw [hst]; exact svQ)
|refine a7 ?_
|refine n5 ?_)
  · obtain rfl : k = t.length := by omega
    rw [bg1] at *
    repeat' (first
|(refine j7 ?_; first
|refine e8 ?_
|refine a6 rfl ?_
|refine o0 ?_
|refine i6 ?_
|(refine j0 rfl obQ ?_ ?_ <;> intro h <;> (try simp only [cdS] at h) <;> (try (exfalso; omega)) <;> (try exact cdF h) <;> (try (exfalso; omega))))
|(refine k6 ?_; first
|refine aK6 0 rfl (((numL t).mergeSort fun x y => decide (x ≤ y)).map (.int .i64)) rfl obQ (by kernel_rfl) (fun w hw how => aV0 w how (by omega)) (fun v => ?_)
|refine aJ1 0 rfl (scI t).length ((scI t).map (.int .i64)) rfl obQ (by kernel_rfl) (fun w hw hw0 => aC0 (bp7 ht) w (hw0.row _ (List.mem_singleton.2 rfl)).1 (by omega)) (fun A2 c2 => ?_)
|refine e7 ?_
|refine e9 rfl rfl obQ obQ ?_)
|(refine o8 ?_; first
|refine a7 ?_
|refine n2 ?_
|refine n6 ?_
|refine j4 rfl obQ (fun w2 hw => ⟨_, rfl, hw.below, HW.rowSl (i := 0) hw rfl rfl rfl rfl⟩)))
def soR (t : List Nod) : List Int × Int := if trE t = 0 then (scI t, 0) else ([], trE t)
theorem aC1 (A : Option Addr) (c : Nat) (t : List Nod) (hl : t.length ≤ 1000000) (w : World) (hr : Rd w A (t.flatMap ndC)) (hsh : Sh w) : Calls Tryz.prog 43 #[.slice A t.length c] w fun r w' => ∃ v, r = .returned v ∧ Below w.heap.size w w' ∧ Sl2 w w' v (soR t).1.length ((soR t).1.map (.int .i64)) (.int .i64 (soR t).2) := by
  refine i7 n9 Tryz.func43 rfl Tryz.ntmps43 (Nat.le_of_ble_eq_true rfl) rfl ?_
  by_cases hE : trE t = 0
  · have e1 : soR t = (scI t, 0) := if_pos hE
    rw [e1]
    have ht := G2.1 hE
    repeat' (first
|(refine j7 ?_; first
|refine e8 ?_
|refine a6 rfl ?_
|refine j3 ?_
|refine i6 ?_
|(refine j0 rfl obQ ?_ ?_ <;> intro h <;> (try simp only [cdS] at h) <;> (try (exfalso; omega)) <;> (try exact cdF h) <;> (try contradiction)))
|(refine k6 ?_; first
|(refine j5 (f := 118) rfl obQ (by kernel_rfl) (fun w hw => G9 A c t ht w (hw.rdm hr.toS memQ)) (fun w1S w2S vS hw1S hbS hRS => ?_); obtain ⟨AS, cS, rfl, hSS⟩ := hRS)
|refine e7 ?_
|refine e9 rfl rfl obQ obQ ?_
|refine a8 (f := 50) rfl obQ (by kernel_rfl) (fun w hw => o9 A c t hl w (hw.rdm hr.toS memQ) (r7 hsh hw memQ)) ?_)
|refine a7 ?_
|refine j4 rfl obQ (fun w2 hw => ⟨_, rfl, hw.below, Sl.two (HW.callSl hw hSS memQ hw1S.bsize) rfl⟩))
  · have e1 : soR t = ([], trE t) := if_neg hE
    rw [e1]
    skip
    repeat' (first
|(refine j7 ?_; first
|refine e8 ?_
|refine a6 rfl ?_
|refine i6 ?_
|(refine j0 rfl obQ ?_ ?_ <;> intro h <;> (try simp only [cdS] at h) <;> (try (exfalso; omega)) <;> (try exact cdF h) <;> (try contradiction)))
|refine e7 ?_
|refine e9 rfl rfl obQ obQ ?_
|refine a8 (f := 50) rfl obQ (by kernel_rfl) (fun w hw => o9 A c t hl w (hw.rdm hr.toS memQ) (r7 hsh hw memQ)) ?_
|refine a7 ?_
|refine j6 ?_
|refine j4 rfl obQ (fun w2 hw => ⟨_, rfl, hw.below, Sl.two (v := .slice none 0 0) (Sl.nil_ _ _) rfl⟩))
theorem bl7 {S : Nat → Prop} {W W' : World} {A : Option Addr} {xs : List Value} (h : RdS S W A xs) (hk : KpS S W W') (hl : ∀ ad, A = some ad → ad.block < W.heap.size) : RdS S W' A xs := by
  rcases h with h | ⟨ad, h1, h2, h3⟩
  · exact .inl h
  · refine .inr ⟨ad, h1, h2, fun j u hu => ?_⟩
    have := h3 j u hu
    unfold World.cell? at this ⊢
    rw [F4] at this ⊢
    rw [hk.2 _ h2 (hl ad h1)]
    exact this
structure BwM (S : Nat → Prop) (W : World) (k : Nat) (ad : Addr) (c : Nat) (t : List Nod) : Prop where
  m1 : W.heap[k]? = some (.cells ([.slice (some ad) t.length c] : List Value).toArray 43 (0, 0))
  rd : RdS S W (some ad) (t.flatMap ndC)
  lt : ad.block < W.heap.size
theorem BwM.kps {S : Nat → Prop} {W W' : World} {k : Nat} {ad : Addr} {c : Nat} {t : List Nod} (h : BwM S W k ad c t) (hk : KpS S W W') (s1 : S k) : BwM S W' k ad c t :=
  ⟨(hk.2 k s1 (z8 h.m1)).trans h.m1, bl7 h.rd hk (fun a e => by cases e; exact h.lt), Nat.lt_of_lt_of_le h.lt hk.1⟩
def BwR (w w' : World) (v : Value) (A : Option Addr) (n c : Nat) : Prop := ∃ k, v = .func (.func 232) #[] #[.pointer (some ⟨k, 0, none⟩)] ∧ (w.heap.size ≤ k ∧ k < w'.heap.size) ∧ w'.heap[k]? = some (.cells ([.slice A n c] : List Value).toArray 43 (0, 0))
def encB (t : List Nod) (x : Fin t.length) : Array Value := #[.int .i64 ((x.1 : Nat) : Int), .agg #[.string (gN t x.1).kd, .int .i64 (gN t x.1).a, .int .i64 (gN t x.1).b, .int .i64 (gN t x.1).c, .int .i64 (gN t x.1).n, .int .i64 (gN t x.1).cl, .int .i64 (gN t x.1).ga, .string (gN t x.1).w.sh, .int .i64 (gN t x.1).w.a, .int .i64 (gN t x.1).w.b, .int .i64 (gN t x.1).w.at_, .int .i64 (gN t x.1).w.soft]]
def bwL (t : List Nod) : List (Fin t.length) := List.ofFn fun m : Fin t.length => (⟨t.length - 1 - m.1, by have := m.2; omega⟩ : Fin t.length)
theorem aq0 (t : List Nod) : (bwL t).length = t.length := by simp [bwL]
theorem ao2 {t : List Nod} {m : Nat} (h : m < t.length) : (bwL t).take (m + 1) = (bwL t).take m ++ [⟨t.length - 1 - m, by omega⟩] := by
  have hl : m < (bwL t).length := by rw [aq0]; exact h
  rw [List.take_succ_eq_append_getElem hl]
  simp [bwL]
def mkS (t : List Nod) (f : Nat → Bool) (x j : Nat) : Nat → Bool := fun k => f k || (decide ((k : Int) ∈ (insN (gN t x)).take j) && f x)
def nf0 (t : List Nod) : Nat → Bool := fun k => decide (k + 1 = t.length)
def mkP (t : List Nod) (l : List (Fin t.length)) : Nat → Bool := l.foldl (fun f x => mkS t f x.1 (insN (gN t x.1)).length) (nf0 t)
theorem aw3 {t : List Nod} (l : List (Fin t.length)) (x : Fin t.length) : mkP t (l ++ [x]) = mkS t (mkP t l) x.1 (insN (gN t x.1)).length := by
  unfold mkP
  rw [List.foldl_append]
  rfl
theorem bu6 (t : List Nod) (f : Nat → Bool) (x : Nat) : mkS t f x 0 = f := by
  funext k
  simp [mkS]
theorem aE4 {t : List Nod} : ∀ m, m ≤ t.length → mkP t ((bwL t).take m) = nfN t m
  | 0, _ => rfl
  | m + 1, h => by
    rw [ao2 (by omega), aw3, aE4 m (by omega)]
    funext k
    unfold mkS
    rw [List.take_length]
    rfl
theorem aV9 {t : List Nod} {f : Nat → Bool} {x j k : Nat} (hj : j < (insN (gN t x)).length) (hk : (insN (gN t x))[j] = (k : Int)) (hkx : k ≠ x) : ∀ i, mkS t f x (j + 1) i = if i = k then (mkS t f x j k || mkS t f x j x) else mkS t f x j i := by
  intro i
  unfold mkS
  rw [List.take_succ_eq_append_getElem hj, hk]
  by_cases hi : i = k
  · subst hi
    rw [if_pos rfl]
    simp only [List.mem_append, List.mem_singleton, or_true, decide_true, Bool.true_and]
    cases f i <;> cases f x <;> simp
  · rw [if_neg hi]
    have : ¬ ((i : Int) = (k : Int)) := by omega
    simp only [List.mem_append, List.mem_singleton, this, or_false]
def bL (n : Nat) (f : Nat → Bool) : List Value := (List.range n).map fun j => Value.bool (f j)
theorem ab3 (n : Nat) (f : Nat → Bool) : (bL n f).length = n := by simp [bL]
theorem O2 {n k : Nat} {f : Nat → Bool} {z : Int} {b : Bool} (h : k < n) (hz : z = k) (hb : f k = b) : ∀ (j : Nat) (u : Value), ([.bool b] : List Value)[j]? = some u → (bL n f)[(z.toNat * 1 + j)]? = some u := by
  intro j u hu
  subst hz hb
  rcases j with _ | j
  · simp at hu
    subst hu
    simp [bL, h]
  · simp at hu
theorem af3 {n k : Nat} {f g : Nat → Bool} {z : Int} {b : Bool} (h : k < n) (hz : z = k) (hg : ∀ i, g i = if i = k then b else f i) : bL n g = (bL n f).take (z.toNat * 1) ++ ([Value.bool b] ++ (bL n f).drop (z.toNat * 1 + 1)) := by
  subst hz
  have hl : k < (bL n f).length := by rw [ab3]; exact h
  have e : bL n g = (bL n f).set k (.bool b) := by
    apply List.ext_getElem
    · simp [bL]
    · intro i h1 h2
      rw [List.getElem_set]
      by_cases hi : k = i
      · subst hi
        simp [bL, hg]
      · have : ¬ i = k := fun e => hi e.symm
        simp [bL, hg, hi, this]
  rw [e, Int.toNat_natCast, Nat.mul_one, List.set_eq_take_append_cons_drop, if_pos hl]
  rfl
theorem bA9 (n : Nat) : (List.replicate n [Value.bool false]).flatten = bL n (fun _ => false) := by
  unfold bL
  induction n with
  | zero => rfl
  | succ n ih =>
    rw [List.replicate_succ', List.flatten_append, ih, List.range_succ, List.map_append]
    rfl
theorem av2 (A : Option Addr) (n c : Nat) (w : World) : Calls Tryz.prog 185 #[.slice A n c] w fun r w' => ∃ v, r = .returned v ∧ Below w.heap.size w w' ∧ BwR w w' v A n c := by
  refine i7 n9 Tryz.func185 rfl Tryz.ntmps185 (Nat.le_of_ble_eq_true rfl) rfl ?_
  repeat' (first
|refine e8 ?_
|refine a6 rfl ?_
|refine i6 ?_
|refine e7 ?_
|refine e9 rfl rfl obQ obQ ?_
|refine k7 (fun b => ⟨_, _, rfl, obQ, ?_⟩)
|refine a7 ?_
|refine j4 rfl obQ (fun w2 hw => ⟨_, rfl, hw.below, _, rfl, (HW.bxAt hw (i := 0) rfl rfl).1, (HW.bxAt hw (i := 0) rfl rfl).2⟩))
theorem bm7 (k : Nat) (ad : Addr) (c : Nat) (t : List Nod) (hn : t.length ≤ 16) (Sx : Nat → Prop) (sk : Sx k) (w : World) (hM : BwM Sx w k ad c t) : Seq Tryz.prog 232 #[.pointer (some ⟨k, 0, none⟩)] (encB t) (bwL t) Sx w := by
  refine aT3 (lb := [.pointer (some ⟨k, 0, none⟩)]) n9 Tryz.func232 rfl Tryz.ntmps232 (Nat.le_of_ble_eq_true rfl) (fun l J Jx W hW hJ hJx hY h0 => ?_)
  have hMW : BwM Sx W k ad c t := hM.kps ⟨hW.size, fun b _ hb => hW.block b hb⟩ sk
  repeat' (first
|refine e8 ?_
|refine a6 rfl ?_
|refine j1 ?_
|refine n4 rfl obQ rfl [.slice (some ad) t.length c] (.cell (_, fun b => b < _) memQ (z8 hMW.m1) (fun j u hu => T4 hMW.m1 j u (by cases j with | zero => simpa using hu | succ j => simp at hu))) rfl (.inr ⟨rfl, rfl⟩) ?_
|refine e7 ?_
|refine e9 rfl rfl obQ obQ ?_
|refine a7 ?_)
  refine aq5 (X := ⟨Tryz.prog, T, n9, 19, 0, default, [], none⟩) (fun i : Nat × Int => ⟨[(0, .s (.v (.func (.yield l) #[] #[]))), (1, .s (.v (.pointer (some ⟨k, 0, none⟩)))), (3, .s (.v (.int .i64 i.2)))], [], []⟩) (fun i W => (i.1 ≤ t.length ∧ i.2 = (t.length : Int) - 1 - i.1) ∧ BwM Sx W k ad c t ∧ J ((bwL t).take i.1) W) (fun i => t.length - i.1) (0, (t.length : Int) - 1) ⟨⟨Nat.zero_le _, by simp⟩, hMW, by simpa using h0⟩ ?_ (fun m W hk => ?_)
  · exact svQ
  obtain ⟨m, z⟩ := m
  obtain ⟨⟨hk, hz⟩, hM1, hj⟩ := hk
  dsimp only at hk hz hj ⊢
  by_cases hlt : m < t.length
  · repeat' (first
|(refine j7 ?_; first
|refine e8 ?_
|refine a6 rfl ?_
|refine j1 ?_
|refine j3 ?_
|(refine j0 rfl obQ ?_ ?_ <;> intro h <;> (try simp only [cdS] at h) <;> (try (exfalso; omega)) <;> (try exact cdF h) <;> (try (exfalso; omega))))
|(refine k6 ?_; first
|refine n4 rfl obQ rfl [.slice (some ad) t.length c] (.cell (_, fun b => b < _) memQ (z8 hM1.m1) (fun j u hu => T4 hM1.m1 j u (by cases j with | zero => simpa using hu | succ j => simp at hu))) rfl (.inr ⟨rfl, rfl⟩) ?_
|refine n4 rfl obQ rfl [.string (gN t (t.length - 1 - m)).kd, .int .i64 (gN t (t.length - 1 - m)).a, .int .i64 (gN t (t.length - 1 - m)).b, .int .i64 (gN t (t.length - 1 - m)).c, .int .i64 (gN t (t.length - 1 - m)).n, .int .i64 (gN t (t.length - 1 - m)).cl, .int .i64 (gN t (t.length - 1 - m)).ga, .string (gN t (t.length - 1 - m)).w.sh, .int .i64 (gN t (t.length - 1 - m)).w.a, .int .i64 (gN t (t.length - 1 - m)).w.b, .int .i64 (gN t (t.length - 1 - m)).w.at_, .int .i64 (gN t (t.length - 1 - m)).w.soft] (.past (W, fun b => b < W.heap.size) memQ _ _ hM1.rd.rd.toS _ _ rfl rfl (C5 (t := t) (k := t.length - 1 - m) (by omega) (by omega))) rfl (.inl ⟨rfl, rfl⟩) ?_
|refine e7 ?_
|refine e9 rfl rfl obQ obQ ?_)
|refine a7 ?_)
    refine ay5 (X := ⟨Tryz.prog, T, n9, 19, 0, default, [], none⟩) rfl rfl rfl (fun hg => obQ) hJ hY ((bwL t).take m) ⟨t.length - 1 - m, by omega⟩ hj (fun hg => by rw [List.length_take, aq0]; omega) (fun hg => ?_) (fun hg => by simp [gOk] at hg) (fun hg W2 hj2 hk2 => ?_) (fun hg W2 hj2 => ?_)
    · exact congrArg (fun y : Int => [Value.int .i64 y, .agg #[.string (gN t (t.length - 1 - m)).kd, .int .i64 (gN t (t.length - 1 - m)).a, .int .i64 (gN t (t.length - 1 - m)).b, .int .i64 (gN t (t.length - 1 - m)).c, .int .i64 (gN t (t.length - 1 - m)).n, .int .i64 (gN t (t.length - 1 - m)).cl, .int .i64 (gN t (t.length - 1 - m)).ga, .string (gN t (t.length - 1 - m)).w.sh, .int .i64 (gN t (t.length - 1 - m)).w.a, .int .i64 (gN t (t.length - 1 - m)).w.b, .int .i64 (gN t (t.length - 1 - m)).w.at_, .int .i64 (gN t (t.length - 1 - m)).w.soft]]) (show z = ((t.length - 1 - m : Nat) : Int) by omega)
    · rw [← ao2 hlt] at hj2
      have hM3 := hM1.kps hk2 sk
      repeat' (first
|refine a6 rfl ?_
|refine j3 ?_
|refine n7 rfl obQ ?_
|refine e7 ?_
|refine e9 rfl rfl obQ obQ ?_
|refine ao4 (X := ⟨Tryz.prog, T, n9, 19, 0, default, [], none⟩) (m + 1, z - 1) ⟨⟨hlt, by show z - 1 = (t.length : Int) - 1 - ((m + 1 : Nat) : Int); omega⟩, hM3, hj2⟩ (by show t.length - (m + 1) < t.length - m; omega) svQ
|refine a7 ?_
|refine n5 ?_)
    · rw [← ao2 hlt] at hj2
      repeat' (first
|refine i6 ?_
|refine o5 rfl obQ ?_
|refine e7 ?_
|refine e9 rfl rfl obQ obQ ?_
|(refine o8 ?_; first
|refine aT4 (X := ⟨Tryz.prog, T, n9, 19, 0, default, [], none⟩) hJx hj2 (List.take_prefix _ _) rfl obQ
|refine a7 ?_
|refine r8 ?_
|refine j6 ?_))
  · obtain rfl : m = t.length := by omega
    rw [List.take_of_length_le (by rw [aq0]; exact Nat.le_refl _)] at hj
    repeat' (first
|(refine j7 ?_; first
|refine e8 ?_
|refine a6 rfl ?_
|refine o0 ?_
|(refine j0 rfl obQ ?_ ?_ <;> intro h <;> (try simp only [cdS] at h) <;> (try (exfalso; omega)) <;> (try exact cdF h) <;> (try (exfalso; omega))))
|refine e7 ?_
|refine e9 rfl rfl obQ obQ ?_
|(refine o8 ?_; first
|refine aU2 (X := ⟨Tryz.prog, T, n9, 19, 0, default, [], none⟩) hJ (by exact hj) rfl obQ
|refine a7 ?_
|refine n2 ?_
|refine n6 ?_))
end Go.Proofs.YtjkgklhjbopoaaaGreatDoor
