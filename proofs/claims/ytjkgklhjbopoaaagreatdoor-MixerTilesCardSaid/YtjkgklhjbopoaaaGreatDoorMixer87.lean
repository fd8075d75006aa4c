/- What the law of pictures calls: contracts as they are used. -/
import Derived.Test.YtjkgklhjbopoaaaGreatDoorMixer60
import Derived.Test.YtjkgklhjbopoaaaGreatDoorMixer72
import Derived.Test.YtjkgklhjbopoaaaGreatDoorMixer78
namespace Go.Proofs.YtjkgklhjbopoaaaGreatDoor
open Go.E Go.RowKit Go.Fl
attribute [local irreducible] G C S D Calls
set_option maxRecDepth 100000
set_option linter.all false
set_option maxHeartbeats 8000000
theorem aw2 {l l' : List PV'} (h : l'.map (·.p) = l.map (·.p)) : l'.length = l.length := by
  have := congrArg List.length h
  simpa using this
def FilmR (w w' : World) (v : Value) (l : List PV') : Prop := ∃ (A : Option Addr) (c : Nat) (l' : List PV'), v = .slice A l.length c ∧ l'.map (·.p) = l.map (·.p) ∧ RdS (fun b => w.heap.size ≤ b ∧ b < w'.heap.size) w' A (l'.flatMap pvC) ∧ ∀ x ∈ l', RdS (fun b => w.heap.size ≤ b ∧ b < w'.heap.size) w' x.A (x.p.s.map (.float .f32))
theorem aM5 {l l' : List PV'} {k : Nat} (hk : k < l.length) (h : l'.map (·.p) = (l.take k).map (·.p)) (A : Option Addr) (c : Nat) : (l' ++ [(⟨(gQ l k).p, A, c⟩ : PV')]).map (·.p) = (l.take (k + 1)).map (·.p) := by
  rw [List.map_append, h, List.take_succ_eq_append_getElem hk, List.map_append, T0 hk]
  rfl
theorem bn4 {l l' : List PV'} (h : l'.map (·.p) = (l.take l.length).map (·.p)) : l'.map (·.p) = l.map (·.p) := by rwa [List.take_length] at h
theorem P3 (A : Option Addr) (c : Nat) (l : List PV') (hl : l.length ≤ 1000000) (hs : ∀ x ∈ l, x.p.s.length ≤ 1000000) (hAs : ∀ x ∈ l, x.A = none → x.p.s.length = 0 ∧ x.c = 0) (w : World) (hr : Rd w A (l.flatMap pvC)) (hrs : ∀ x ∈ l, Rd w x.A (x.p.s.map (.float .f32))) : Calls Tryz.prog 66 #[.slice A l.length c] w fun r w' => ∃ v, r = .returned v ∧ Below w.heap.size w w' ∧ FilmR w w' v l := by
  refine i7 n9 Tryz.func66 rfl Tryz.ntmps66 (Nat.le_of_ble_eq_true rfl) rfl ?_
  repeat' (first
|refine e8 ?_
|refine a6 rfl ?_
|refine j1 ?_
|refine e7 ?_
|refine e9 rfl rfl obQ obQ ?_
|refine k7 (fun b => ⟨_, _, rfl, obQ, ?_⟩)
|refine a7 ?_)
  refine C9 3 70 4 rfl ?_
  refine aG2 (fun i : Nat × World × (Nat → Prop) × List PV' × Option Addr × Nat => ([(i.2.1, i.2.2.1), (w, fun b => b < w.heap.size)], (⟨[(3, .s (.r i.2.2.2.2.1 i.1 i.2.2.2.2.2 0)), (6, .s (.v (.slice A l.length c))), (7, .s (.v (.int .i64 l.length))), (8, .s (.v (.int .i64 i.1)))], [], [⟨70, 4, i.1, i.2.2.2.1.flatMap pvC, .slice i.2.2.2.2.1 i.1 i.2.2.2.2.2⟩]⟩ : St))) (fun i => i.1 ≤ l.length ∧ i.2.2.2.1.map (·.p) = (l.take i.1).map (·.p) ∧ (∀ x ∈ i.2.2.2.1, RdS i.2.2.1 i.2.1 x.A (x.p.s.map (.float .f32))) ∧ ∀ b, i.2.2.1 b → w.heap.size ≤ b) (fun i => l.length - i.1) (fun w1 => (0, w1, (fun _ => False), [], none, 0)) (fun w1 hw1 => ⟨⟨Nat.zero_le _, rfl, (fun x hx => by cases hx), (fun b hb => hb.elim)⟩, by exact ⟨_, rfl, obQ⟩, by exact HW.pastF (HW.same hw1 rfl rfl)⟩) (fun i hi => ?_)
  obtain ⟨k, W, S, l', A', c'⟩ := i
  obtain ⟨hk, hmp, hS, hB⟩ := hi
  dsimp only at hk hmp hS hB ⊢
  by_cases hlt : k < l.length
  · obtain ⟨ad, rfl⟩ := hr.some (by rw [M5]; omega)
    repeat' (first
|(refine j7 ?_; first
|refine e8 ?_
|refine a6 rfl ?_
|refine j1 ?_
|refine j3 ?_
|(refine j0 rfl obQ ?_ ?_ <;> intro h <;> (try simp only [cdS] at h) <;> (try (exfalso; omega)) <;> (try exact cdF h) <;> (try (exfalso; omega))))
|(refine k6 ?_; first
|refine n4 rfl obQ rfl [.string (gQ l k).p.nm, .int .i64 (gQ l k).p.w, .int .i64 (gQ l k).p.h, .slice (gQ l k).A (gQ l k).p.s.length (gQ l k).c] (.past (w, fun b => b < w.heap.size) memQ _ _ hr.toS _ _ rfl rfl (O1 hlt)) rfl (.inl ⟨rfl, rfl⟩) ?_
|(refine j5 (f := 42) rfl obQ (by kernel_rfl) (fun w hw => aU0 (gQ l k).p (gQ l k).A (gQ l k).c (hs _ (B3 hlt)) (hAs _ (B3 hlt)) w (hw.rdm (hrs _ (B3 hlt)).toS memQ)) (fun w1O w2O vO hw1O hbO hRO => ?_); obtain ⟨AO, cO, rfl, hSO⟩ := hRO)
|refine w9 rfl obQ rfl rfl rfl ⟨by decide, rfl⟩ rfl ⟨rfl, rfl, rfl, rfl⟩ [.string (gQ l k).p.nm, .int .i64 (gQ l k).p.w, .int .i64 (gQ l k).p.h, .slice AO (gQ l k).p.s.length cO] ⟨by decide, rfl⟩ (by simp [Value.oneCell']) (fun w hw => by first | exact hw.src (i := 0) rfl rfl | exact hw.src (i := 1) rfl rfl | exact hw.src (i := 2) rfl rfl | exact hw.src (i := 3) rfl rfl | exact hw.src (i := 4) rfl rfl | exact hw.src (i := 5) rfl rfl | exact hw.src (i := 6) rfl rfl | exact hw.src (i := 7) rfl rfl | exact hw.src (i := 8) rfl rfl) (by unfold maxLen; dsimp only; omega) (fun gb cap' => ⟨_, rfl, ?_⟩)
|refine e7 ?_
|refine e9 rfl rfl obQ obQ ?_
|refine k7 (fun b0 => ⟨_, _, rfl, obQ, ?_⟩)
|refine j9 (fun b => ⟨_, _, rfl, obQ, ?_⟩))
|refine aF4 (fun w3 => (k + 1, w3, fun b => (w1O.heap.size ≤ b ∧ b < w2O.heap.size) ∨ S b, l' ++ [⟨(gQ l k).p, AO, cO⟩], some ⟨gb, 0, none⟩, cap')) (fun w3 hw3 => ⟨⟨hlt, aM5 hlt hmp AO cO, ay4 (fun x hx => K3 hw3 (hS x hx) memQ (fun b hb _ => .inr hb)) (K3 hw3 hSO memQ (fun b hb _ => .inl hb)), (fun b hb => hb.elim (fun h => Nat.le_trans (show w.heap.size ≤ w1O.heap.size from hw1O.bsize) h.1) (hB b))⟩, (by show l.length - (k + 1) < l.length - k; omega), (by exact ⟨_, rfl, obQ⟩), (by exact HW.join (W1 := w2O) (S1 := (fun b => w1O.heap.size ≤ b ∧ b < w2O.heap.size)) (W2 := W) (S2 := S) (Serves.hw (Ps' := (w2O, (fun b => w1O.heap.size ≤ b ∧ b < w2O.heap.size)) :: (W, S) :: [(w, fun b => b < w.heap.size)]) ⟨⟨_, rfl, obQ⟩, ⟨_, rfl⟩, (by dsimp only; rw [List.flatMap_append]; rfl), psQ⟩ hw3))⟩)
|refine a7 ?_
|refine n5 ?_)
  · obtain rfl : k = l.length := by omega
    repeat' (first
|(refine j7 ?_; first
|refine e8 ?_
|refine a6 rfl ?_
|refine o0 ?_
|refine i6 ?_
|(refine j0 rfl obQ ?_ ?_ <;> intro h <;> (try simp only [cdS] at h) <;> (try (exfalso; omega)) <;> (try exact cdF h) <;> (try (exfalso; omega))))
|refine e7 ?_
|refine e9 rfl rfl obQ obQ ?_
|(refine o8 ?_; first
|refine a7 ?_
|refine n2 ?_
|refine n6 ?_
|refine j4 rfl obQ (fun w2 hw => ⟨_, rfl, hw.below, A', c', l', rfl, bn4 hmp, aY7 (HW.rowSl (i := 0) hw rfl rfl rfl rfl), fun x hx => K3 hw (hS x hx) memQ (fun b hb h2 => ⟨hB b hb, h2⟩)⟩)))
section
variable {A B : Option Addr} {c c2 n : Nat} {w : World} {t : List Nod} {l l' : List PV'} {e xa xb ya yb : Int} {b : Bool} {y : Pic}
theorem aU4 (h : l'.map (·.p) = l.map (·.p)) (k : Nat) : (gQ l' k).p = (gQ l k).p := by
  have e : ∀ l : List PV', (gQ l k).p = (l.map (·.p)).getD k zP := fun l => by
    unfold gQ
    rw [List.getD_eq_getElem?_getD, List.getD_eq_getElem?_getD, List.getElem?_map]
    cases l[k]? <;> rfl
  rw [e, e, h]
theorem bh5 (h : l'.map (·.p) = l.map (·.p)) {P : Pic → Prop} (hp : ∀ x ∈ l, P x.p) : ∀ x ∈ l', P x.p := fun x hx => by
  have : x.p ∈ l.map (·.p) := by rw [← h]; exact List.mem_map_of_mem hx
  obtain ⟨y, hy, e⟩ := List.mem_map.1 this
  rw [← e]
  exact hp y hy
theorem bh6 (h : l'.map (·.p) = l.map (·.p)) : pcE t l' = pcE t l := by
  have hl := aw2 h
  have e1 : (l'.map fun x => picE x.p) = l.map fun x => picE x.p := by
    have := congrArg (List.map picE) h
    rw [List.map_map, List.map_map] at this
    exact this
  have e2 : ∀ g : Pic → Bool, (l'.any fun x => g x.p) = l.any fun x => g x.p := fun g => by
    have := congrArg (List.any · g) h
    rw [List.any_map, List.any_map] at this
    exact this
  unfold pcE
  rw [hl, e1, aU4 h 0, e2 (fun p => p.w != (gQ l 0).p.w || p.h != (gQ l 0).p.h)]
theorem bu7 (h : l'.map (·.p) = l.map (·.p)) (W x0 x1 y0 y1 : Nat) : tlL t l' W x0 x1 y0 y1 = tlL t l W x0 x1 y0 y1 := by
  have e : ∀ x y, srF l' W x y = srF l W x y := fun x y => funext fun n => by unfold srF; rw [aU4 h]
  unfold tlL plF
  simp only [e]
theorem bh9 (h : l'.map (·.p) = l.map (·.p)) (W x0 x1 y0 y1 : Nat) : tiP t l' W x0 x1 y0 y1 = tiP t l W x0 x1 y0 y1 := by
  unfold tiP tiH
  rw [bu7 h, aU4 h]
theorem bt4 (h : l'.map (·.p) = l.map (·.p)) : cmR' t l' = cmR' t l := by
  unfold cmR'
  rw [bh6 h, aU4 h, bh9 h]
theorem bs6 (h : l'.map (·.p) = l.map (·.p)) : tlR t l' xa xb ya yb = tlR t l xa xb ya yb := by
  unfold tlR tlE
  rw [bh6 h, aU4 h, bh9 h]
theorem ac2 (h : cmR' t l = (y, e)) (hm : l'.map (·.p) = l.map (·.p)) (hn : l.length = n) (hl : t.length ≤ 1000000) (hl2 : l.length ≤ 1000000) (hsz : ∀ x ∈ l, x.p.s.length ≤ 1000000) (hr : Rd w A (t.flatMap ndC)) (hr2 : Rd w B (l'.flatMap pvC)) (hrp : ∀ x ∈ l', Rd w x.A (x.p.s.map (.float .f32))) (hsh : Sh w) : Calls Tryz.prog 65 #[.slice A t.length c, .slice B n c2] w fun r w' => ∃ v, r = .returned v ∧ Below w.heap.size w w' ∧ PicR w w' v y e := by
  subst hn
  have := ac0 A c t hl B c2 l' (by rw [aw2 hm]; exact hl2) (bh5 hm (P := fun p => p.s.length ≤ 1000000) hsz) w hr hr2 hrp hsh
  rw [bt4 hm, h, aw2 hm] at this
  exact this
theorem bb6 (h : tlR t l xa xb ya yb = (y, e)) (hm : l'.map (·.p) = l.map (·.p)) (hn : l.length = n) (hl : t.length ≤ 1000000) (hl2 : l.length ≤ 1000000) (hsz : ∀ x ∈ l, x.p.s.length ≤ 1000000) (hr : Rd w A (t.flatMap ndC)) (hr2 : Rd w B (l'.flatMap pvC)) (hrp : ∀ x ∈ l', Rd w x.A (x.p.s.map (.float .f32))) (hsh : Sh w) : Calls Tryz.prog 67 #[.slice A t.length c, .slice B n c2, .agg #[.int .i64 xa, .int .i64 xb], .agg #[.int .i64 ya, .int .i64 yb]] w fun r w' => ∃ v, r = .returned v ∧ Below w.heap.size w w' ∧ PicR w w' v y e := by
  subst hn
  have := aG9 A c t hl B c2 l' (by rw [aw2 hm]; exact hl2) (bh5 hm (P := fun p => p.s.length ≤ 1000000) hsz) xa xb ya yb w hr hr2 hrp hsh
  rw [bs6 hm, h, aw2 hm] at this
  exact this
theorem ai8 (h : shT t = b) (hl : t.length ≤ maxLen) (hr : Rd w A (t.flatMap ndC)) : Calls Tryz.prog 27 #[.slice A t.length c] w fun r w' => r = .returned (.bool b) ∧ Below w.heap.size w w' := by
  subst h
  exact aQ4 A c t hl w hr
theorem ad7 (h : trE t = e) (hl : t.length ≤ 1000000) (hr : Rd w A (t.flatMap ndC)) : Calls Tryz.prog 32 #[.slice A t.length c] w fun r w' => r = .returned (.int .i64 e) ∧ Below w.heap.size w w' := by
  subst h
  exact ar9 A c t hl w hr
theorem au9 (h : pcE t l = e) (hl : t.length ≤ 1000000) (hl2 : l.length ≤ 1000000) (hsz : ∀ x ∈ l, x.p.s.length ≤ 1000000) (hnz : ∀ x ∈ l, x.p.nm.size ≤ maxLen) (hr : Rd w A (t.flatMap ndC)) (hr2 : Rd w B (l.flatMap pvC)) (hrp : ∀ x ∈ l, Rd w x.A (x.p.s.map (.float .f32))) : Calls Tryz.prog 68 #[.slice A t.length c, .slice B l.length c2] w fun r w' => r = .returned (.int .i64 e) ∧ Below w.heap.size w w' := by
  subst h
  exact aa5 A c t hl B c2 l hl2 hsz hnz w hr hr2 hrp
theorem bA7 (hp : PcOk t l) : ∃ W H : Nat, (gQ l 0).p.w = (W : Int) ∧ (gQ l 0).p.h = (H : Int) := by
  have h0 := hp.s _ (B3 (show 0 < l.length by have := hp.n; omega))
  have hw := h0.w
  have hh := h0.h
  exact ⟨(gQ l 0).p.w.toNat, (gQ l 0).p.h.toNat, by omega, by omega⟩
end
end Go.Proofs.YtjkgklhjbopoaaaGreatDoor
