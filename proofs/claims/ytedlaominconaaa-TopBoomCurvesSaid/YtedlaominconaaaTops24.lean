/- Parts and fields of a picture: the program. -/
import Derived.Test.YtedlaominconaaaTops23
namespace Go.Proofs.Ytedlaominconaaa
open Go.E Go.RowKit Go.Fl
attribute [local irreducible] G C S D Calls
set_option maxRecDepth 100000
set_option linter.unusedSimpArgs false
set_option linter.unusedVariables false

theorem gB_map {f : Nat → Nat} {s : List Nat} {k : Nat} (h : k < s.length) : gB (s.map f) k = f (gB s k) := by
  rw [gB_at (by simpa using h), gB_at h]
  simp
def partF (s : List Nat) (a Wd : Nat) : List Nat := (List.range Wd).map fun j => gB s (a + j)
theorem partF_len (s : List Nat) (a Wd : Nat) : (partF s a Wd).length = Wd := by simp [partF]
theorem part_eq {s : List Nat} {a Wd : Nat} (h : a + Wd ≤ s.length) : (s.drop a).take Wd = partF s a Wd := by
  apply List.ext_getElem
  · simp [partF]; omega
  · intro i h1 h2
    have hi : i < Wd := by rw [partF_len] at h2; exact h2
    simp only [partF, List.getElem_take, List.getElem_drop, List.getElem_map, List.getElem_range]
    rw [gB_at (by omega)]
theorem partF_map {f : Nat → Nat} {s : List Nat} {a Wd : Nat} (h : a + Wd ≤ s.length) : partF (s.map f) a Wd = (partF s a Wd).map f := by
  rw [← part_eq (by simpa using h), ← part_eq h, ← List.map_drop, ← List.map_take]
/-- A picture of parts of rows. -/
def rowsP (nm : ByteArray) (s : List Nat) (Wd m : Nat) (a : Nat → Nat) : Pic := ⟨nm, Wd, m, (List.range m).flatMap fun i => partF s (a i) Wd⟩
theorem rowsP_len (nm : ByteArray) (s : List Nat) (Wd m : Nat) (a : Nat → Nat) : (rowsP nm s Wd m a).s.length = m * Wd := fl_len (f := fun i => partF s (a i) Wd) (fun i => partF_len _ _ _) m
theorem rowsP_mem {nm : ByteArray} {s : List Nat} {Wd m : Nat} {a : Nat → Nat} (h : ∀ i, i < m → a i + Wd ≤ s.length) : ∀ x ∈ (rowsP nm s Wd m a).s, x ∈ s := fun x hx => by
  obtain ⟨i, hi, hx⟩ := List.mem_flatMap.1 hx
  have hi := List.mem_range.1 hi
  rw [← part_eq (h i hi)] at hx
  exact List.mem_of_mem_drop (List.mem_of_mem_take hx)
theorem rowsP_ok {p : Pic} (hp : PicOk p) {Wd m : Nat} {a : Nat → Nat} (h : ∀ i, i < m → a i + Wd ≤ p.s.length) (hW : 1 ≤ Wd ∧ Wd ≤ 64) (hm : 1 ≤ m ∧ m ≤ 64) : PicOk (rowsP p.nm p.s Wd m a) :=
  ⟨hp.nm, (by show (1 : Int) ≤ ((Wd : Nat) : Int) ∧ ((Wd : Nat) : Int) ≤ 64; omega), (by show (1 : Int) ≤ ((m : Nat) : Int) ∧ ((m : Nat) : Int) ≤ 64; omega), (by rw [rowsP_len, Int.natCast_mul, Int.mul_comm]; rfl), fun x hx => hp.s x (rowsP_mem h x hx)⟩
theorem rowsP_tu {f : Int → Int} {nm : ByteArray} {w h' : Int} {s : List Nat} {Wd m : Nat} {a : Nat → Nat} (h : ∀ i, i < m → a i + Wd ≤ s.length) : tuP f (rowsP nm s Wd m a) = rowsP nm (tuP f ⟨nm, w, h', s⟩).s Wd m a := by
  unfold tuP rowsP
  congr 1
  dsimp only
  rw [List.map_flatMap]
  rw [List.flatMap_def, List.flatMap_def]
  congr 1
  exact List.map_congr_left fun i hi => (partF_map (h i (List.mem_range.1 hi))).symm
theorem rd_map {w : World} {A : Option Addr} {s : List Nat} {n m : Nat} (h : Rd w A (((s.map (Value.float .f32)).drop n).take m)) (hb : n + m ≤ s.length) : Rd w A ((partF s n m).map (Value.float .f32)) := by
  rw [← part_eq hb, List.map_take, List.map_drop]
  exact h
theorem pmade_as {nm : ByteArray} {w0 h0 : Int} {A0 : Option Addr} {n0 c0 : Nat} {aR : Addr} {cR m Wd : Nat} {s : List Nat} {a rm : Nat → Nat} {adr : Nat → Addr} (hW : 0 < Wd) (hm : 0 < m) (h64 : Wd ≤ 64 ∧ m ≤ 64) (w : World) (hr : Rd w (some aR) ((List.range m).map fun i => Value.slice (some (adr i)) Wd (rm i))) (hx : ∀ i, i < m → Rd w (some (adr i)) ((partF s (a i) Wd).map (Value.float .f32))) :
    Calls Try.prog 61 #[.agg #[.string nm, .int .i64 w0, .int .i64 h0, .slice A0 n0 c0], .slice (some aR) m cR] w fun r w' => ∃ v, r = .returned v ∧ Below w.heap.size w w' ∧ PicC w w' v (rowsP nm s Wd m a) := by
  have hk : ∀ k, k < m → gS ((List.range m).map fun i => ((adr i, Wd, rm i) : Sr)) k = (adr k, Wd, rm k) := fun k hk => by
    rw [gS_at (by simpa using hk)]
    simp
  refine pmade_c nm w0 h0 A0 n0 c0 aR cR m Wd ((List.range m).map fun i => ((adr i, Wd, rm i) : Sr)) (fun i => partF s (a i) Wd) (by simp) (by simpa using hm) hW (fun k h => by rw [hk k (by simpa using h)]) (fun i => partF_len _ _ _) h64 w ?_ (fun k h => ?_)
  · rw [List.map_map]
    exact hr
  · have h := (show k < m by simpa using h)
    rw [hk k h]
    exact hx k h
theorem mappedSS_as {A : Option Addr} {c n : Nat} {l : List Sr} {g : Sr → Sr} {cp : Value} (q : FuncId) (hn : l.length = n) (hl : n ≤ 1000000) (he : entB Try.prog q = true) (w : World) (hr : Rd w A (l.map fun x => Value.slice (some x.1) x.2.1 x.2.2)) (hg : ∀ x ∈ l, ∀ W, Below w.heap.size w W → Calls Try.prog q #[.slice (some x.1) x.2.1 x.2.2, cp] W fun e w' => e = .returned (.slice (some (g x).1) (g x).2.1 (g x).2.2) ∧ Below W.heap.size W w') :
    Calls Try.prog 62 #[.slice A n c, .func (.func q) #[] #[cp]] w fun r w' => ∃ v, r = .returned v ∧ Below w.heap.size w w' ∧ Sl w w' v n (l.map fun x => Value.slice (some (g x).1) (g x).2.1 (g x).2.2) := by
  subst hn
  exact mappedSS_c q cp (g := g) A c l hl he w hr hg
theorem drop_rows {f : Nat → Value} {H y0 m : Nat} (h : y0 + m ≤ H) : (((List.range H).map f).drop y0).take m = (List.range m).map fun i => f (y0 + i) := by
  apply List.ext_getElem
  · simp; omega
  · intro i h1 h2
    simp

set_option maxHeartbeats 400000 in
/-- picture.checkSpan -/
theorem pspan_c (a b n : Int) (h : 0 ≤ a ∧ a < b ∧ b ≤ n) (w : World) : Calls Try.prog 59 #[.agg #[.int .i64 a, .int .i64 b], .int .i64 n] w fun r w' => r = .returned (.int .i64 0) ∧ Below w.heap.size w w' := by
  refine calls_of (args := [.agg #[.int .i64 a, .int .i64 b], .int .i64 n]) T_ok Try.func59 rfl Try.ntmps59 (Nat.le_of_ble_eq_true rfl) rfl ?_
  repeat' (first
 | (refine C_id ?_; first
 | refine C_seq ?_
 | refine C_region rfl ?_
 | refine C_ret0 ?_
 )
 | (refine S_id ?_; first
 | ((with_reducible (first | refine S_falseN ?_ ?_ | refine S_falseB ?_ ?_ | refine S_falseL ?_ ?_ | refine S_falseD ?_ ?_ | refine S_falseE ?_ ?_)); · (first | rfl | omega | exact decide_eq_false (by omega) | (rw [beq_eq_false_iff_ne]; omega)))
 | ((with_reducible refine S_falseO ?_ ?_ ?_); (· rfl); (· first | rfl | (first | rfl | omega | exact decide_eq_false (by omega) | (rw [beq_eq_false_iff_ne]; omega))))
 | refine S_unG rfl rfl rfl rfl ?_
 | refine S_nil ?_
 | refine S_runN rfl rfl obQ obQ ?_
 | refine S_box (fun b => ⟨_, _, rfl, obQ, ?_⟩)
 | refine S_call (f := 64) rfl obQ (by kernel_rfl) (fun w hw => pwhen_c false 14 w) ?_
 )
 | (refine G_id ?_; first
 | refine G_then ?_
 | refine G_ret rfl obQ (fun w hw => ⟨?_, hw.below⟩)
 )
 )
  rfl

theorem rdP_some {S : Nat → Prop} {W : World} {A : Option Addr} {xs : List Value} (h : RdS S W A xs) (h0 : 0 < xs.length) : ∃ a, A = some a := by
  rcases h with h | ⟨ad, h, _⟩
  · rw [h] at h0; simp at h0
  · exact ⟨ad, h⟩
/-- A picture that a call hands back, with an error. -/
theorem PicC.err {w0 w w1 w2 : World} {Ps : Past} {σ : St} {q : Pic} (hw : HW w0.heap.size w0 Ps σ w) {A : Option Addr} {c : Nat} (h : RdS (fun b => w1.heap.size ≤ b ∧ b < w2.heap.size) w2 A (q.s.map (.float .f32))) (hp : (w2, fun b => w1.heap.size ≤ b ∧ b < w2.heap.size) ∈ Ps) (h1 : w0.heap.size ≤ w1.heap.size) {v : Value} (hv : v = .tuple #[.agg #[.string q.nm, .int .i64 q.w, .int .i64 q.h, .slice A q.s.length c], .int .i64 0]) : PicR w0 w v q 0 := by
  subst hv
  exact PicR.of (s := q.s) (HW.callSl hw h hp h1) rfl rfl

theorem checkPZ (p : Pic) (A : Option Addr) (c : Nat) (hs : p.s.length ≤ 1000000) (hp : PicOk p) (w : World) (hr : Rd w A (p.s.map (.float .f32))) : Calls Try.prog 48 #[.agg #[.string p.nm, .int .i64 p.w, .int .i64 p.h, .slice A p.s.length c]] w fun r w' => r = .returned (.int .i64 0) ∧ Below w.heap.size w w' := by
  have := checkPicture_c p A c hs w hr
  rwa [pic_ok.2 hp] at this
theorem pfirst_z (A : Option Addr) (c : Nat) (n : Nat) (hn : n ≤ 1000000) (w : World) (hr : Rd w A (List.replicate n (Value.int .i64 0))) : Calls Try.prog 58 #[.slice A n c] w fun r w' => r = .returned (.int .i64 0) ∧ Below w.heap.size w w' := by
  have h := pfirst_c A c (List.replicate n 0) (by simpa using hn) w (by simpa using hr)
  rwa [List.length_replicate, show firstL (List.replicate n (0 : Int)) = 0 from (firstL_zero _).2 (fun x hx => (List.mem_replicate.1 hx).2)] at h

set_option maxHeartbeats 1000000 in
/-- picture.Cropped -/
theorem pcropped_c (nm : ByteArray) (ad : Addr) (c W H : Nat) (s : List Nat) (x0 x1 y0 y1 : Nat) (hok : PicOk (⟨nm, ((W : Nat) : Int), ((H : Nat) : Int), s⟩ : Pic)) (hn : s.length = W * H) (h64 : W ≤ 64 ∧ H ≤ 64) (hc : s.length ≤ c) (hx0 : x0 < x1) (hx1 : x1 ≤ W) (hy0 : y0 < y1) (hy1 : y1 ≤ H) (w : World) (hr : Rd w (some ad) (s.map (.float .f32))) : Calls Try.prog 25 #[.agg #[.string nm, .int .i64 ((W : Nat) : Int), .int .i64 ((H : Nat) : Int), .slice (some ad) s.length c], .agg #[.int .i64 ((x0 : Nat) : Int), .int .i64 ((x1 : Nat) : Int)], .agg #[.int .i64 ((y0 : Nat) : Int), .int .i64 ((y1 : Nat) : Int)]] w fun r w' => ∃ v, r = .returned v ∧ Below w.heap.size w w' ∧ PicR w w' v (rowsP nm s (x1 - x0) (y1 - y0) fun i => (y0 + i) * W + x0) 0 := by
  have hs : s.length ≤ 1000000 := by have := wh_64 hn h64; omega
  have hW0 : 0 < W := by omega
  refine calls_of (args := [.agg #[.string nm, .int .i64 ((W : Nat) : Int), .int .i64 ((H : Nat) : Int), .slice (some ad) s.length c], .agg #[.int .i64 ((x0 : Nat) : Int), .int .i64 ((x1 : Nat) : Int)], .agg #[.int .i64 ((y0 : Nat) : Int), .int .i64 ((y1 : Nat) : Int)]]) T_ok Try.func25 rfl Try.ntmps25 (Nat.le_of_ble_eq_true rfl) rfl ?_
  repeat' (first
 | (refine C_id ?_; first
 | refine C_seq ?_
 | refine C_region rfl ?_
 | refine C_skip ?_
 | refine C_ret0 ?_
 | refine C_drawV (id := 1) 9 [(0, true), (2, true), (3, true), (4, true), (6, true), (7, true), (8, true), (1, false), (5, false)] rfl mixed (by kernel_rfl) rfl ?_
 | refine C_drawV (id := 5) 10 [(0, true), (1, true), (3, true), (4, true), (5, true), (6, true), (8, true), (2, false), (7, true), (9, false)] rfl mixed (by kernel_rfl) rfl ?_
 | refine C_condF rfl obQ ?_
   )
 | (refine S_id ?_; first
 | ((with_reducible (first | refine S_falseN ?_ ?_ | refine S_falseB ?_ ?_ | refine S_falseL ?_ ?_ | refine S_falseD ?_ ?_ | refine S_falseE ?_ ?_)); · (first | rfl | omega | exact decide_eq_false (by omega) | (rw [beq_eq_false_iff_ne]; omega)))
 | (refine S_callM (f := 63) rfl obQ (by kernel_rfl) (fun w hw => prows_c nm ad c W H s.length hn hW0 hc h64 w) (fun w1S w2S vS hw1S hbS hRS => ?_); obtain ⟨AS, cS, rfl, hSS, hcS, _, _⟩ := hRS; obtain ⟨aS, rfl⟩ := rdP_some hSS (by simp; omega))
 | (refine S_callM (f := 62) rfl obQ (by kernel_rfl) (fun w hw => mappedSS_as (l := (List.range (y1 - y0)).map fun i => rowS ad c W (y0 + i)) (g := cutS x0 x1) 60 (by simp) (by omega) (by kernel_rfl) w (by rw [List.map_map]; have := rd_part (hw.rdm hSS memQ) y0 (y1 - y0); rw [drop_rows (by omega)] at this; exact this) (fun x hx W2 hW2 => (by obtain ⟨i, hi, rfl⟩ := List.mem_map.1 hx; have hi := List.mem_range.1 hi; have := row_end hn (show y0 + i < H by omega); exact crop1_c _ x0 x1 _ W (c - (y0 + i) * W) hx0 hx1 (by omega) W2 (((hW2.block _ (HW.bxAt hw (i := 1) rfl rfl).1.2).trans (HW.bxAt hw (i := 1) rfl rfl).2))))) (fun w1M w2M vM hw1M hbM hRM => ?_); obtain ⟨AM, cM, rfl, hSM⟩ := hRM; obtain ⟨aM, rfl⟩ := rdP_some hSM (by simp; omega))
 | (refine S_callM (f := 61) rfl obQ (by kernel_rfl) (fun w hw => pmade_as (nm := nm) (Wd := x1 - x0) (m := y1 - y0) (s := s) (a := fun i => (y0 + i) * W + x0) (rm := fun i => (c - (y0 + i) * W) - x0) (adr := fun i => (ad.add ((y0 + i) * W * 1)).add (x0 * 1)) (by omega) (by omega) (by omega) w (by have := hw.rdm hSM memQ; rw [List.map_map] at this; exact this) (fun i hi => (by have h1 := row_end hn (show y0 + i < H by omega); have := rd_part (hw.rdm hr.toS memQ) ((y0 + i) * W + x0) (x1 - x0); rw [add_of_add, ← Nat.add_mul]; exact rd_map this (by omega)))) (fun w1P w2P vP hw1P hbP hRP => ?_); obtain ⟨AP, cP, rfl, hSP, _, _, _⟩ := hRP)
 | refine S_nil ?_
 | refine S_runN rfl rfl obQ obQ ?_
 | refine S_box (fun bb => ⟨_, _, rfl, obQ, ?_⟩)
 | refine S_slice (fun b => ⟨_, _, rfl, obQ, ?_⟩)
 | refine S_call (f := 48) rfl obQ (by kernel_rfl) (fun w hw => checkPZ (⟨nm, ((W : Nat) : Int), ((H : Nat) : Int), s⟩ : Pic) _ _ hs hok w (hw.rdm hr.toS memQ)) ?_
 | refine S_call (f := 59) rfl obQ (by kernel_rfl) (fun w hw => pspan_c _ _ _ (by omega) w) ?_
 | refine S_call (f := 58) rfl obQ (by kernel_rfl) (fun w hw => pfirst_z _ _ 3 (by simp) w (.inr ⟨_, rfl, hw.src (i := 4) rfl rfl⟩)) ?_
   )
 | (refine V_id ?_; first
 | refine V_nil ?_
 | refine V_q rfl (Yl_pure (sliceX_pure rfl obQ (fun w => sl_lhT rfl rfl aS H cS .i64 .i64 _ _ y0 (y1 - y0) rfl (by omega) (by omega) (by omega) w))) ?_
 | refine V_q rfl (Yl_step rfl obQ) ?_
 | refine V_n rfl ?_
   )
 | (refine G_id ?_; first
 | refine G_V ⟨⟨_, rfl, trivial⟩, ⟨_, rfl⟩, rfl, pstQ⟩ rfl ?_
 | refine G_then ?_
 | refine G_ret rfl obQ (fun w2 hw => ⟨_, rfl, hw.below, PicC.err hw hSP memQ hw1P.bsize rfl⟩)
   )
   )

end Go.Proofs.Ytedlaominconaaa
