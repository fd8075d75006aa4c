/- Mixer: keys: contracts of the reference. -/
import Derived.Test.YtjkgklhjbopoaaaGreatDoorPartH
namespace Go.Proofs.YtjkgklhjbopoaaaGreatDoor
open Go.E Go.RowKit Go.Fl
attribute [local irreducible] G C S D Calls
set_option maxRecDepth 100000
set_option linter.all false
set_option maxHeartbeats 8000000
def rfI (f : Nat → Int) (k : Nat) : List Int := (List.range k).map f
theorem aR1 (f : Nat → Int) (k : Nat) : rfI f (k + 1) = rfI f k ++ [f k] := by unfold rfI; rw [List.range_succ, List.map_append]; rfl
theorem bm0 (p : Pic) : rfI (fun j => lvl (gB p.s j)) p.s.length = lvs p := by
  unfold lvs
  apply List.ext_getElem
  · simp [rfI]
  · intro i h1 h2
    have hi : i < p.s.length := by simpa [rfI] using h1
    simp [rfI, gB, hi]
theorem aI5 (p : Pic) (A : Option Addr) (c : Nat) (hs : p.s.length ≤ 1000000) (hp : ∀ x ∈ p.s, Smp x) (w : World) (hr : Rd w A (p.s.map (.float .f32))) : Calls Tryz.prog 85 #[.agg #[.string p.nm, .int .i64 p.w, .int .i64 p.h, .slice A p.s.length c]] w fun r w' => ∃ v, r = .returned v ∧ Below w.heap.size w w' ∧ w'.ownsRow w.heap.size 3 1 v p.s.length ((rfI (fun j => lvl (gB p.s j)) p.s.length).map (.int .i64)) := by
  refine i7 n9 Tryz.func85 rfl Tryz.ntmps85 (Nat.le_of_ble_eq_true rfl) rfl ?_
  skip
  repeat' (first
|refine e8 ?_
|refine a6 rfl ?_
|refine j1 ?_
|refine e7 ?_
|refine e9 rfl rfl obQ obQ ?_
|refine k7 (fun bb => ⟨_, _, rfl, obQ, ?_⟩)
|refine a7 ?_)
  obtain ⟨b1, rfl⟩ : ∃ z, z = bb := ⟨bb, rfl⟩
  refine C9 3 3 1 rfl ?_
  refine p7 (fun i : Nat × Option Addr × Nat => ⟨[(4, .s (.v (.int .i64 i.1))), (1, .s (.p b1 0 0)), (3, .s (.r i.2.1 i.1 i.2.2 0))], [⟨b1, 65, [.v (.string p.nm), .v (.int .i64 p.w), .v (.int .i64 p.h), .v (.slice A p.s.length c)]⟩], [⟨3, 1, i.1, (rfI (fun j => lvl (gB p.s j)) i.1).map (.int .i64), .slice i.2.1 i.1 i.2.2⟩]⟩) (fun i => i.1 ≤ p.s.length) (fun i => p.s.length - i.1) (0, none, 0) (Nat.zero_le _) ?_ (fun i hi => ?_)
  · exact svQ
  obtain ⟨k, A', c'⟩ := i
  have hk : k ≤ p.s.length := hi
  have hrs := aR1 (fun j => lvl (gB p.s j)) k
  dsimp only
  by_cases hlt : k < p.s.length
  · obtain ⟨ad, rfl⟩ := hr.some (by simp; omega)
    have hsm := hp (gB p.s k) (by unfold gB; simp only [List.getD_eq_getElem?_getD]; rw [List.getElem?_eq_getElem hlt]; exact List.getElem_mem hlt)
    repeat' (first
|(refine j7 ?_; first
|refine e8 ?_
|refine a6 rfl ?_
|refine j1 ?_
|refine j3 ?_
|(refine j0 rfl obQ ?_ ?_ <;> intro h <;> (try simp only [cdS] at h) <;> (try (exfalso; omega)) <;> (try exact cdF h) <;> (try (exfalso; omega))))
|(refine k6 ?_; first
|refine n4 rfl obQ rfl [.float .f32 (gB p.s k)] (.past (w, fun b => b < w.heap.size) memQ _ _ hr.toS _ _ rfl rfl (ad6 hlt)) rfl (.inr ⟨rfl, rfl⟩) ?_
|refine w9 rfl obQ rfl rfl rfl ⟨by decide, rfl⟩ rfl ⟨rfl, rfl, rfl, rfl⟩ [.int .i64 ((fun j => lvl (gB p.s j)) k)] ⟨by decide, rfl⟩ (by simp [Value.oneCell']) (fun w hw => by first | exact hw.src (i := 0) rfl rfl | exact hw.src (i := 1) rfl rfl | exact hw.src (i := 2) rfl rfl | exact hw.src (i := 3) rfl rfl | exact hw.src (i := 4) rfl rfl | exact hw.src (i := 5) rfl rfl | exact hw.src (i := 6) rfl rfl | exact hw.src (i := 7) rfl rfl | exact hw.src (i := 8) rfl rfl) (by unfold maxLen; dsimp only; omega) (fun gb cap' => ⟨_, rfl, ?_⟩)
|refine e7 ?_
|refine e9 rfl rfl obQ obQ ?_
|refine j9 (fun b => ⟨_, _, rfl, obQ, ?_⟩)
|refine a8 (f := 165) rfl obQ (by kernel_rfl) (fun w hw => ap4 (gB p.s k) hsm.fin hsm.bd w) ?_)
|refine o6 (k + 1, some ⟨gb, 0, none⟩, cap') (show k + 1 ≤ p.s.length by omega) (by show p.s.length - (k + 1) < p.s.length - k; omega) (by dsimp only; rw [hrs, List.map_append]; exact svQ)
|refine a7 ?_
|refine n5 ?_)
  · obtain rfl : k = p.s.length := by omega
    repeat' (first
|(refine j7 ?_; first
|refine e8 ?_
|refine a6 rfl ?_
|refine o0 ?_
|refine i6 ?_
|(refine j0 rfl obQ ?_ ?_ <;> intro h <;> (try simp only [cdS] at h) <;> (try (exfalso; omega)) <;> (try exact cdF h) <;> (try (exfalso; omega))))
|refine e7 ?_
|refine e9 rfl rfl obQ obQ ?_
|(refine o8 ?_; first
|refine a7 ?_
|refine n2 ?_
|refine n6 ?_
|refine j4 rfl obQ (fun w2 hw => ⟨_, rfl, hw.below, HW.ownRow (i := 0) hw rfl rfl rfl rfl⟩)))
end Go.Proofs.YtjkgklhjbopoaaaGreatDoor
