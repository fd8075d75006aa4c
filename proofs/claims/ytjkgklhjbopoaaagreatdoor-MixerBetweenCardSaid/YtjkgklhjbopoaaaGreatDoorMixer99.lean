/- Own pictures as rows: what a law changes in place. -/
import Derived.Test.YtjkgklhjbopoaaaGreatDoorMixer97
import Derived.Test.YtjkgklhjbopoaaaGreatDoorMixer60
namespace Go.Proofs.YtjkgklhjbopoaaaGreatDoor
open Go.E Go.RowKit Go.Fl
attribute [local irreducible] G C S D Calls
set_option maxRecDepth 100000
set_option linter.all false
set_option maxHeartbeats 8000000
def PRow (v : Value) (rs : List Rw) (p : Pic) : Prop := ∃ g c, v = .agg #[.string p.nm, .int .i64 p.w, .int .i64 p.h, .slice (some ⟨g, 0, none⟩) p.s.length c] ∧ rs = [⟨62, 1, p.s.length, p.s.map (.float .f32), .slice (some ⟨g, 0, none⟩) p.s.length c⟩]
theorem HW.picRow {w0 w : World} {Ps : Past} {σ : St} (hw : HW w0.heap.size w0 Ps σ w) {i : Nat} {r : Rw} (h : nth σ.rw i = some r) {p : Pic} (h0 : 0 < p.s.length) (he : r.e = 62 ∧ r.size = 1) (hn : r.n = p.s.length) (hx : r.xs = p.s.map (.float .f32)) {u : Value} (hu : u = .agg #[.string p.nm, .int .i64 p.w, .int .i64 p.h, r.val]) :
    ∃ v rs, Ending.returned u = .returned v ∧ Below w0.heap.size w0 w ∧ (∀ r ∈ rs, w.ownsRow w0.heap.size r.e r.size r.val r.n r.xs) ∧ rs.Pairwise (fun r s => ∀ g, r.val.ownBlock = some g → s.val.ownBlock ≠ some g) ∧ PRow v rs p := by
  obtain ⟨h1, _⟩ := hw.row r (nth_mem h)
  obtain ⟨e1, e2⟩ := he
  have h2 := h1.2
  rw [e1, e2, hn, hx] at h1
  rcases h2 with ⟨h2, h3⟩ | ⟨g, cap', cur, h2, _⟩
  · omega
  · rw [hn] at h2
    rw [h2] at h1
    refine ⟨u, [_], rfl, hw.below, fun r hr => ?_, by simp, g, cap', by rw [hu, h2], rfl⟩
    simp only [List.mem_cons, List.mem_nil_iff, or_false] at hr
    subst hr
    exact h1
theorem rOwnR_c (p : Pic) (A : Option Addr) (c : Nat) (hs : p.s.length ≤ 1000000) (h0 : 0 < p.s.length) (hA : A = none → p.s.length = 0 ∧ c = 0) (w : World) (hr : Rd w A (p.s.map (.float .f32))) : Calls Tryz.prog 40 #[.agg #[.string p.nm, .int .i64 p.w, .int .i64 p.h, .slice A p.s.length c]] w fun r w' => ∃ v rs, r = .returned v ∧ Below w.heap.size w w' ∧ (∀ r ∈ rs, w'.ownsRow w.heap.size r.e r.size r.val r.n r.xs) ∧ rs.Pairwise (fun r s => ∀ g, r.val.ownBlock = some g → s.val.ownBlock ≠ some g) ∧ PRow v rs p := by
  refine calls_of T_ok Tryz.func40 rfl Tryz.ntmps40 (Nat.le_of_ble_eq_true rfl) rfl ?_
  repeat' (first
|refine C_seq ?_
|refine C_region rfl ?_
|refine C_ret0 ?_
|(refine S_id ?_; first
|refine S_row00 rfl rfl rfl (fun g => ?_)
|refine S_appendS rfl obQ rfl rfl rfl ⟨by decide, rfl⟩ rfl ⟨rfl, rfl, rfl, rfl⟩ (p.s.map (.float .f32)) (by simp) hA (one_fl _) (srcS hr memQ) (by unfold maxLen; dsimp only; omega) (fun A' cap' => ⟨_, rfl, ?_⟩)
|refine S_nil ?_
|refine S_run rfl rfl obQ obQ ?_
|refine S_box (fun bb => ⟨_, _, rfl, obQ, ?_⟩))
|refine G_then ?_
|refine G_ret rfl obQ (fun w2 hw => HW.picRow hw (i := 0) rfl h0 ⟨rfl, rfl⟩ (by simp) rfl rfl))
def upX (s : List Nat) (f : Nat → Nat) (k : Nat) : List Nat := (List.range s.length).map fun j => if j < k then f j else gB s j
theorem upX_len (s : List Nat) (f : Nat → Nat) (k : Nat) : (upX s f k).length = s.length := by simp [upX]
theorem upX_0 (s : List Nat) (f : Nat → Nat) : upX s f 0 = s := by
  apply List.ext_getElem
  · simp [upX]
  · intro i h1 h2
    simp [upX, gB_at h2]
theorem upX_end (s : List Nat) (f : Nat → Nat) : upX s f s.length = (List.range s.length).map f := by
  unfold upX
  exact List.map_congr_left fun n hn => if_pos (List.mem_range.1 hn)
theorem upX_step {s : List Nat} {f : Nat → Nat} {k : Nat} (h : k < s.length) : (upX s f k).set k (f k) = upX s f (k + 1) := by
  apply List.ext_getElem?
  intro i
  rw [List.getElem?_set]
  by_cases hi : k = i
  · subst hi
    simp [upX, h]
  · rw [if_neg hi]
    by_cases h2 : i < s.length
    · simp only [upX, List.getElem?_map, List.getElem?_range h2, Option.map_some]
      by_cases h3 : i < k
      · rw [if_pos h3, if_pos (by omega)]
      · rw [if_neg h3, if_neg (by omega)]
    · simp [upX, h2]
theorem upX_put {s : List Nat} {f : Nat → Nat} {k : Nat} {z : Int} (e : z = k) (h : k < s.length) : (upX s f (k + 1)).map (Value.float .f32) = ((upX s f k).map (Value.float .f32)).take (z.toNat * 1) ++ ([Value.float .f32 (f k)] ++ ((upX s f k).map (Value.float .f32)).drop (z.toNat * 1 + 1)) := by
  subst e
  have hk : k < ((upX s f k).map (Value.float .f32)).length := by rw [List.length_map, upX_len]; exact h
  rw [← upX_step h, List.map_set, List.set_eq_take_append_cons_drop, if_pos hk, Int.toNat_natCast, Nat.mul_one]
  rfl
section
variable {nm : ByteArray} {W H : Int} {s : List Nat} {n c : Nat} {A : Option Addr} {w : World}
theorem given_as (hn : s.length = n) (hs : n ≤ 1000000) (hA : A = none → n = 0 ∧ c = 0) (hr : Rd w A (s.map (.float .f32))) : Calls Tryz.prog 42 #[.agg #[.string nm, .int .i64 W, .int .i64 H, .slice A n c]] w fun r w' => ∃ v, r = .returned v ∧ Below w.heap.size w w' ∧ PicA w w' v ⟨nm, W, H, s⟩ := by
  subst hn
  exact lgiven_c ⟨nm, W, H, s⟩ A c hs hA w hr
theorem own_as (hn : s.length = n) (h0 : 0 < n) (hs : n ≤ 1000000) (hA : A = none → n = 0 ∧ c = 0) (hr : Rd w A (s.map (.float .f32))) : Calls Tryz.prog 40 #[.agg #[.string nm, .int .i64 W, .int .i64 H, .slice A n c]] w fun r w' => ∃ (v : Value) (rs : List Rw), r = .returned v ∧ Below w.heap.size w w' ∧ (∀ r ∈ rs, w'.ownsRow w.heap.size r.e r.size r.val r.n r.xs) ∧ rs.Pairwise (fun r s => ∀ g, r.val.ownBlock = some g → s.val.ownBlock ≠ some g) ∧
    ∃ g c, v = .agg #[.string nm, .int .i64 W, .int .i64 H, .slice (some ⟨g, 0, none⟩) n c] ∧ rs = [⟨62, 1, n, s.map (.float .f32), .slice (some ⟨g, 0, none⟩) n c⟩] := by
  subst hn
  exact rOwnR_c ⟨nm, W, H, s⟩ A c hs h0 hA w hr
theorem lvs_smp {l : List Int} (h : ∀ n ∈ l, -16384 ≤ n ∧ n ≤ 16384) : lvs ⟨nm, W, H, l.map smp⟩ = l := by
  unfold lvs
  rw [List.map_map]
  conv => rhs; rw [← List.map_id l]
  refine List.map_congr_left fun n hn => ?_
  exact smp_lvl (by have := h n hn; omega)
theorem gI_map {l : List Int} {f : Int → Int} {k : Nat} (h : k < l.length) : gI (l.map f) k = f (gI l k) := by
  rw [gI_at (by rw [List.length_map]; exact h), gI_at h, List.getElem_map]
end
end Go.Proofs.YtjkgklhjbopoaaaGreatDoor
