/- Mixer: tiles of trees: contracts of the program. -/
import Derived.Test.YtjkgklhjbopoaaaGreatDoorPartF
import Derived.Test.YtjkgklhjbopoaaaGreatDoorEng4
namespace Go.Proofs.YtjkgklhjbopoaaaGreatDoor
open Go.E Go.RowKit Go.Fl
attribute [local irreducible] G C S D Calls
set_option maxRecDepth 100000
set_option linter.all false
set_option maxHeartbeats 8000000
theorem as4 {l : List PV'} {l' : List Lvl} (h : l'.map eK = l.map lvK) : l'.length = l.length ∧ (∀ e ∈ l', e.2.2.1 = e.1.length) ∧ ∀ k, k < l.length → (gE l' k).1 = lvs (gQ l k).p := by
  have hl : l'.length = l.length := by simpa using congrArg List.length h
  have hk : ∀ k, k < l.length → eK (gE l' k) = lvK (gQ l k) := fun k hk => by
    have h1 : (l'.map eK)[k]? = (l.map lvK)[k]? := by rw [h]
    rw [List.getElem?_map, List.getElem?_map, List.getElem?_eq_getElem (by omega), List.getElem?_eq_getElem hk] at h1
    rw [aF3 (by omega), T0 hk]
    simpa using h1
  refine ⟨hl, fun e he => ?_, fun k hlt => congrArg (·.1) (hk k hlt)⟩
  obtain ⟨k, hkl, rfl⟩ := List.getElem_of_mem he
  have := hk k (by omega)
  rw [aF3 hkl] at this
  have h1 : (l'[k]).1 = lvs (gQ l k).p := congrArg (·.1) this
  have h2 : (l'[k]).2.2.1 = (gQ l k).p.s.length := congrArg (·.2) this
  rw [h1, h2, w6]
theorem aK2 {t : List Nod} {l : List PV'} {l' : List Lvl} (ht : TrOk t) (hp : PcOk t l) (h : l'.map eK = l.map lvK) {W H x y : Nat} (hW : (gQ l 0).p.w = (W : Int)) (hH : (gQ l 0).p.h = (H : Int)) (hx : x < W) (hy : y < H) : ∀ k, k < t.length → kdOf (gN t k).kd = some .src → ∀ nz : Nat, (gN t k).n = nz → nz < l'.length ∧ y * W + x < (gE l' nz).1.length ∧ srF l W x y (gN t k).n = gI (gE l' nz).1 (y * W + x) := by
  intro k hk hkd nz hnz
  obtain ⟨h1, h2⟩ := aZ9 ht hp hk hkd
  obtain ⟨f1, f2, f3⟩ := as4 h
  have hnl : nz < l.length := by omega
  have hmem := B3 hnl
  have hs := hp.s _ hmem
  obtain ⟨s1, s2⟩ := hp.sz _ hmem
  have hn := hs.n
  rw [s1, s2, hW, hH, ← Int.natCast_mul] at hn
  have hi : y * W + x < W * H := by
    have := Nat.mul_le_mul_right W (show y + 1 ≤ H by omega)
    rw [Nat.succ_mul, Nat.mul_comm H W] at this
    omega
  have hil : y * W + x < (gQ l nz).p.s.length := by omega
  refine ⟨by omega, ?_, ?_⟩
  · rw [f3 nz hnl, w6]; exact hil
  · rw [f3 nz hnl, aQ9 hil]
    unfold srF
    rw [hnz, Int.toNat_natCast]
def tiH (l : List PV') (x0 x1 y0 y1 : Nat) : Pic := ⟨(gQ l 0).p.nm, (x1 : Int) - (x0 : Int), (y1 : Int) - (y0 : Int), []⟩
def tiP (t : List Nod) (l : List PV') (W x0 x1 y0 y1 : Nat) : Pic := wiP (tiH l x0 x1 y0 y1) (tlL t l W x0 x1 y0 y1)
theorem bt5 {t : List Nod} {l : List PV'} (ht : TrOk t) (h : PcOk t l) {W H x0 x1 y0 y1 : Nat} (hW : (gQ l 0).p.w = (W : Int)) (hH : (gQ l 0).p.h = (H : Int)) (hx : x1 ≤ W) (hy : y1 ≤ H) : wiR (tiH l x0 x1 y0 y1) (tlL t l W x0 x1 y0 y1) = (tiP t l W x0 x1 y0 y1, 0) := bj9 (aU8 ht h hW hH hx hy)
def plV (t : List Nod) (l : List PV') {W H : Nat} (q : PlT W H) : Int := plF t l W q.1.1 q.1.2
theorem be6 {t : List Nod} {l : List PV'} {W H : Nat} (h0 : 0 < W ∧ 0 < H) {x0 x1 y0 y1 : Nat} (hx : x1 ≤ W) (hy : y1 ≤ H) : (plLs h0 x0 x1 y0 y1).map (plV t l) = tlL t l W x0 x1 y0 y1 := by
  unfold plLs tlL
  rw [aN9]
  refine au7 fun x y h1 h2 => ?_
  rw [aG8 h0 (by omega)]
  rfl
theorem aV3 {t : List Nod} {l : List PV'} {W x0 x1 y0 y1 : Nat} : (tlL t l W x0 x1 y0 y1).length = (y1 - y0) * (x1 - x0) := ab1 _ _ _
theorem bd1 {B : Nat} {w0 w w1 w2 W : World} {Ps : Past} {σ : St} {k : Nat} (hw : HW B w0 Ps σ w) (hp : (w2, fun b => w1.heap.size ≤ b ∧ b < w2.heap.size) ∈ Ps) (hk : w1.heap.size ≤ k) (hM : MapE k kdM w2) (hW : Below w.heap.size w W) : MapE k kdM W := by
  have h1 := hw.past _ hp k ⟨hk, y9 hM⟩
  have h2 : W.heap[k]? = w.heap[k]? := hW.block k h1.1.1
  exact Y6 k kdM w2 W (h2.trans h1.1.2) hM
theorem bA4 {t : List Nod} (ht : TrOk t) : ∀ x ∈ t, ∃ k, kdOf x.kd = some k := by
  intro x hx
  obtain ⟨k, hk, rfl⟩ := List.getElem_of_mem hx
  obtain ⟨q, hq⟩ := ht.s k hk
  rw [E6 hk] at hq
  exact ⟨q, hq.kd⟩
theorem be8 {p : Pic} (hs : p.s = []) {A : Option Addr} {c n : Nat} {l : List Int} (hn : l.length = n) (hl : n ≤ 1000000) (w : World) (hr : Rd w A (l.map (.int .i64))) {r : Pic × Int} (h : wiR p l = r) :
    Calls Tryz.prog 147 #[.agg #[.string p.nm, .int .i64 p.w, .int .i64 p.h, .slice none 0 0], .slice A n c] w fun e w' => ∃ v, e = .returned v ∧ Below w.heap.size w w' ∧ PicR w w' v r.1 r.2 := by
  subst h
  have := P1 (p := p) (Ap := none) (cp := 0) (c := c) hn hl w hr
  rw [hs] at this
  exact this
theorem aE7 (ad : Addr) (c : Nat) (t : List Nod) (ht : TrOk t) (ad2 : Addr) (c2 : Nat) (l : List PV') (hp : PcOk t l) (W H x0 x1 y0 y1 : Nat) (hW : (gQ l 0).p.w = (W : Int)) (hH : (gQ l 0).p.h = (H : Int)) (hx : x0 ≤ x1 ∧ x1 ≤ W) (hy : y0 ≤ y1 ∧ y1 ≤ H) (w : World) (hr : Rd w (some ad) (t.flatMap ndC)) (hr2 : Rd w (some ad2) (l.flatMap pvC)) (hrp : ∀ x ∈ l, Rd w x.A (x.p.s.map (.float .f32))) (hsh : Sh w) : Calls Tryz.prog 157 #[.slice (some ad) t.length c, .slice (some ad2) l.length c2, .agg #[.int .i64 ((x0 : Nat) : Int), .int .i64 ((x1 : Nat) : Int)], .agg #[.int .i64 ((y0 : Nat) : Int), .int .i64 ((y1 : Nat) : Int)]] w fun r w' => ∃ v, r = .returned v ∧ Below w.heap.size w w' ∧ PicR w w' v (tiP t l W x0 x1 y0 y1) 0 := by
  refine aj1 (args := [.slice (some ad) t.length c, .slice (some ad2) l.length c2, .agg #[.int .i64 ((x0 : Nat) : Int), .int .i64 ((x1 : Nat) : Int)], .agg #[.int .i64 ((y0 : Nat) : Int), .int .i64 ((y1 : Nat) : Int)]]) n9 Tryz.func157 rfl Tryz.ntmps157 (Nat.le_of_ble_eq_true rfl) rfl ?_
  have hl := ht.n
  have hln := hp.n
  have h0 : 0 < l.length := by omega
  have hp0 := hp.s _ (B3 h0)
  have hw0 := hp0.w
  have hh0 := hp0.h
  have h64 : W ≤ 64 ∧ H ≤ 64 := by omega
  have hWH : 0 < W ∧ 0 < H := by omega
  repeat' (first
|refine e8 ?_
|refine r9 2 rfl rfl ?_
|(refine k6 ?_; first
|(refine j5 (f := 188) rfl obQ (by kernel_rfl) (fun w hw => z1 w) (fun w1K w2K vK hw1K hbK hRK => ?_); obtain ⟨kK, rfl, hkK, hMK⟩ := hRK)
|refine e7 ?_
|refine e9 rfl rfl obQ obQ ?_
|refine k7 (fun bb => ⟨_, _, rfl, obQ, ?_⟩))
|refine a7 ?_)
  obtain ⟨b10, rfl⟩ : ∃ z, z = bb := ⟨bb, rfl⟩
  repeat' (first
|refine e8 ?_
|refine r9 3 rfl rfl ?_
|(refine k6 ?_; first
|(refine j5 (f := 210) rfl obQ (by kernel_rfl) (fun w hw => at3 211 (.pointer (some ⟨b10, 0, none⟩)) (g := fun x => x) (some ad) c t (by omega) (by kernel_rfl) w (hw.rdm hr.toS memQ) (fun x hx W hW => (by obtain ⟨kx, hkx⟩ := bA4 ht x hx; exact aS6 b10 kK x kx hkx W ((hW.block b10 (HW.bxAt hw (i := 3) rfl rfl).1.2).trans (HW.bxAt hw (i := 3) rfl rfl).2) (bd1 hw memQ hkK hMK hW)))) (fun w1N w2N vN hw1N hbN hRN => ?_); obtain ⟨AN, cN, rfl, hSN⟩ := hRN)
|refine e7 ?_
|refine e9 rfl rfl obQ obQ ?_
|refine k7 (fun bc => ⟨_, _, rfl, obQ, ?_⟩))
|refine a7 ?_)
  obtain ⟨aN, rfl⟩ := hSN.rd.some (by show 0 < (t.flatMap cdC).length; rw [bn6]; omega)
  obtain ⟨b11, rfl⟩ : ∃ z, z = bc := ⟨bc, rfl⟩
  repeat' (first
|refine e8 ?_
|refine r9 4 rfl rfl ?_
|(refine k6 ?_; first
|(refine j5 (f := 212) rfl obQ (by kernel_rfl) (fun w hw => au3 (some ad2) c2 l (by omega) hp.s w (hw.rdm hr2.toS memQ) (fun x hx => hw.rdm (hrp x hx).toS memQ)) (fun w1L w2L vL hw1L hbL hRL => ?_); obtain ⟨AL, cL, l', rfl, hlv, hSL, hSE⟩ := hRL)
|refine e7 ?_
|refine e9 rfl rfl obQ obQ ?_
|refine k7 (fun bd => ⟨_, _, rfl, obQ, ?_⟩))
|refine a7 ?_)
  have hlf := as4 hlv
  obtain ⟨b12, rfl⟩ : ∃ z, z = bd := ⟨bd, rfl⟩
  repeat' (first
|(refine j7 ?_; first
|refine e8 ?_
|refine a6 rfl ?_
|refine j1 ?_
|refine n8 (id := 5) 6 [(0, true), (1, true), (2, true), (3, true), (4, true), (5, true)] rfl mixed (by kernel_rfl) rfl ?_)
|(refine j5 (f := 213) rfl obQ (by kernel_rfl) (fun w hw => aK7 x0 x1 y0 y1 W w) (fun w1P w2P vP hw1P hbP hRP => ?_); obtain ⟨p5, p4, p3, rfl, ⟨hp5, hp4, hp3⟩, hMP⟩ := hRP)
|refine e7 ?_
|refine k7 (fun be => ⟨_, _, rfl, obQ, ?_⟩)
|refine r5 ?_
|refine V_q rfl (q3 rfl obQ rfl [.int .i64 ((W : Nat) : Int)] (.past (w, fun b => b < w.heap.size) memQ _ _ hr2.toS (Int.toNat 0 * 4 + 1) _ rfl (n3 _ _ _) (J3 (l := l) (k := 0) rfl h0 1 (by unfold pvC; rw [hW]; rfl))) rfl (.inr ⟨rfl, rfl⟩)) ?_
|refine V_q rfl (k8 rfl obQ) ?_
|refine a7 ?_)
  rename_i b6 b7
  obtain ⟨b8, rfl⟩ : ∃ z, z = bb := ⟨bb, rfl⟩
  obtain ⟨b13, rfl⟩ : ∃ z, z = be := ⟨be, rfl⟩
  refine aP3 3 1 [⟨b6, 108, [.v (.int .i64 ((x0 : Nat) : Int)), .v (.int .i64 ((x1 : Nat) : Int))]⟩, ⟨b7, 108, [.v (.int .i64 ((y0 : Nat) : Int)), .v (.int .i64 ((y1 : Nat) : Int))]⟩, ⟨b8, 70, [.v (.string ByteArray.empty), .v (.int .i64 0), .v (.int .i64 0), .v (.slice none 0 0)]⟩, ⟨b10, 238, [.v (.map (some kK))]⟩, ⟨b11, 252, [.v (.slice (some aN) t.length cN)]⟩, ⟨b12, 257, [.v (.slice AL l.length cL)]⟩, ⟨b13, 27, [.r none 0 0 0]⟩] rfl ?_
  refine X0 rfl rfl obQ (by kernel_rfl) (encs := encP W H) (plLs hWH x0 x1 y0 y1) (fun _ => rfl) (by intro t ht; simp at ht; subst ht; exact Nat.le_of_ble_eq_true rfl) (fun q => [(28, .agg #[.int .i64 ((q.1.1 : Nat) : Int), .int .i64 ((q.1.2 : Nat) : Int), .int .i64 ((q.1.2 * W + q.1.1 : Nat) : Int)])]) (fun q => by simp [encP]) (fun w3 hw3 => ?_) (fun (pre : List (PlT W H)) (i : Option Addr × Nat) => ⟨[], [⟨b6, 108, [.v (.int .i64 ((x0 : Nat) : Int)), .v (.int .i64 ((x1 : Nat) : Int))]⟩, ⟨b7, 108, [.v (.int .i64 ((y0 : Nat) : Int)), .v (.int .i64 ((y1 : Nat) : Int))]⟩, ⟨b8, 70, [.v (.string ByteArray.empty), .v (.int .i64 0), .v (.int .i64 0), .v (.slice none 0 0)]⟩, ⟨b10, 238, [.v (.map (some kK))]⟩, ⟨b11, 252, [.v (.slice (some aN) t.length cN)]⟩, ⟨b12, 257, [.v (.slice AL l.length cL)]⟩, ⟨b13, 27, [.r i.1 (pre.map (plV t l)).length i.2 0]⟩], [⟨3, 1, (pre.map (plV t l)).length, (pre.map (plV t l)).map (.int .i64), .slice i.1 (pre.map (plV t l)).length i.2⟩]⟩) (none, 0) (fun w3 hw3 => HW.same hw3 rfl rfl) (fun l2 L W3 pre x i hpre hwp => ?_) (fun D WD i hBD hWD hnD => ?_)
  · exact bs0 p5 p4 p3 x0 x1 y0 y1 W H hWH hx.2 hy.2 h64 hx.1 hy.1 _ ⟨(w2P, fun b => w1P.heap.size ≤ b ∧ b < w2P.heap.size), by simp, hp5⟩ ⟨(w2P, fun b => w1P.heap.size ≤ b ∧ b < w2P.heap.size), by simp, hp4⟩ ⟨(w2P, fun b => w1P.heap.size ≤ b ∧ b < w2P.heap.size), by simp, hp3⟩ w3 ⟨((hw3.past (w2P, fun b => w1P.heap.size ≤ b ∧ b < w2P.heap.size) (by simp) p5 hp5).1.2).trans hMP.m5, ((hw3.past (w2P, fun b => w1P.heap.size ≤ b ∧ b < w2P.heap.size) (by simp) p4 hp4).1.2).trans hMP.m4, ((hw3.past (w2P, fun b => w1P.heap.size ≤ b ∧ b < w2P.heap.size) (by simp) p3 hp3).1.2).trans hMP.m3⟩
  · try dsimp only
    have hpl : pre.length ≤ 4096 := by
      have h1 : (plLs hWH x0 x1 y0 y1).length = (y1 - y0) * (x1 - x0) := ab1 _ _ _
      have h2 : (y1 - y0) * (x1 - x0) ≤ 64 * 64 := Nat.mul_le_mul (by omega) (by omega)
      omega
    have hx2 := x.2
    have hml : (pre.map (plV t l)).length = pre.length := List.length_map _
    have hsn : (pre ++ [x]).map (plV t l) = pre.map (plV t l) ++ [plV t l x] := by rw [List.map_append]; rfl
    have hpv : gV (vaN t (srF l W x.1.1 x.1.2) ((x.1.1 : Nat) : Int) ((x.1.2 : Nat) : Int) t.length) ((t.length - 1 : Nat) : Int) = plV t l x := rfl
    repeat' (first
|refine a6 rfl ?_
|refine j1 ?_
|refine e7 ?_
|refine e9 rfl rfl obQ obQ ?_
|refine k7 (fun b14 => ⟨_, _, rfl, obQ, ?_⟩)
|refine ak4 hwp (fun W4 hw4 => ?_))
    repeat' (first
|refine n8 (id := 7) 6 [(0, true), (1, true), (2, true), (3, true), (4, false), (5, false)] rfl mixed (by kernel_rfl) rfl ?_
|(refine k6 ?_; first
|refine w9 rfl obQ rfl rfl rfl ⟨by decide, rfl⟩ rfl ⟨rfl, rfl, rfl, rfl⟩ [.int .i64 (plV t l x)] ⟨by decide, rfl⟩ (by simp [Value.oneCell']) (fun w hw => by first | exact hw.src (i := 0) rfl rfl | exact hw.src (i := 1) rfl rfl | exact hw.src (i := 2) rfl rfl | exact hw.src (i := 3) rfl rfl | exact hw.src (i := 4) rfl rfl | exact hw.src (i := 5) rfl rfl | exact hw.src (i := 6) rfl rfl | exact hw.src (i := 7) rfl rfl | exact hw.src (i := 8) rfl rfl) (by unfold maxLen; dsimp only; omega) (fun gb cap' => ⟨_, rfl, ?_⟩)
|refine e7 ?_
|refine e9 rfl rfl obQ obQ ?_
|refine j9 (fun b => ⟨_, _, rfl, obQ, ?_⟩)
|refine a8 (f := 214) rfl obQ (by kernel_rfl) (fun w hw => (by have h := bv0 aN cN t ht AL cL l' (srF l W x.1.1 x.1.2) ((x.1.1 : Nat) : Int) ((x.1.2 : Nat) : Int) (x.1.2 * W + x.1.1) (by omega) (by omega) (fun n _ => bj0 hp hW hH x.2.1 x.2.2 n) hlf.2.1 (aK2 ht hp hlv hW hH x.2.1 x.2.2) w (by have := hw.rdm hSN memQ; exact this) (hw.rdm hSL memQ) (fun e he => hw.rdm (hSE e he) memQ) (r7 hsh hw memQ); rw [hlf.1, hpv] at h; exact h)) ?_)
|refine r5 ?_
|refine V_q rfl (k8 rfl obQ) ?_
|refine V_n rfl ?_
|refine G_V ⟨⟨_, rfl, trivial⟩, ⟨_, rfl⟩, rfl, pstQ⟩ rfl ?_
|(refine as0 (some ⟨gb, 0, none⟩, cap') (by dsimp only; rw [hsn, List.map_append, List.length_append]; exact svQ) hw4)
|refine n5 ?_)
  · rw [be6 hWH hx.2 hy.2]
    have htl : (tlL t l W x0 x1 y0 y1).length ≤ 4096 := by
      rw [aV3]
      have h2 : (y1 - y0) * (x1 - x0) ≤ 64 * 64 := Nat.mul_le_mul (by omega) (by omega)
      omega
    repeat' (first
|refine e8 ?_
|refine i6 ?_
|refine n8 (id := 8) 19 [(0, true), (1, true), (2, true), (3, true), (4, true), (5, true), (6, true), (7, true), (8, true), (9, true), (10, true), (11, true), (12, true), (13, true), (14, true), (15, true), (16, false), (17, true), (18, true)] rfl mixed (by kernel_rfl) rfl ?_
|(refine j5 (f := 147) rfl obQ (by kernel_rfl) (fun w hw => be8 (p := tiH l x0 x1 y0 y1) rfl rfl (by omega) w (hw.rdRow (i := 0) rfl rfl) (bt5 ht hp hW hH hx.2 hy.2)) (fun w1W w2W vW hw1W hbW hRW => ?_); obtain ⟨AW, cW, rfl, hSW⟩ := hRW)
|refine e7 ?_
|refine e9 rfl rfl obQ obQ ?_
|(refine N2 ?_; first
|refine r5 ?_
|refine V_q rfl (q3 rfl obQ rfl [.string (gQ l 0).p.nm] (.past (w, fun b => b < w.heap.size) memQ _ _ hr2.toS (Int.toNat 0 * 4 + 0) _ rfl (n3 _ _ _) (J3 (l := l) (k := 0) rfl h0 0 (by rfl))) rfl (.inr ⟨rfl, rfl⟩)) ?_
|refine V_q rfl (k8 rfl obQ) ?_
|refine V_n rfl ?_)
|(refine o8 ?_; first
|refine G_V ⟨⟨_, rfl, trivial⟩, ⟨_, rfl⟩, rfl, pstQ⟩ rfl ?_
|refine a7 ?_
|refine n5 ?_
|refine bf0 (w2W, fun b => w1W.heap.size ≤ b ∧ b < w2W.heap.size) (List.mem_cons_self ..) rfl obQ (((DsP.nil _ _).cons hBD hWD hnD).weak (fun p hp => List.mem_cons_of_mem _ hp)) (fun D2 hD2 hq2 => by have e2 : D2 = D := (by simpa [Xd] using hD2); subst e2; have h2 := (hw1W.past (WD, fun b => b = D2) (by simp) _ rfl).1.1; have h3 : w1W.heap.size ≤ D2 := hq2.1; omega) (fun w2 hw => ⟨_, rfl, hw.below, PicR.of (s := (tiP t l W x0 x1 y0 y1).s) (HW.callSl (w0 := w) hw hSW (List.mem_cons_self ..) hw1W.bsize) rfl rfl⟩)))
def spE (a b n : Int) : Int := wh ((decide (a < 0) || decide (b ≤ a)) || decide (n < b)) 14
theorem bk8 {a b n : Int} (h : spE a b n = 0) : 0 ≤ a ∧ a < b ∧ b ≤ n := by
  unfold spE at h
  rw [B7 (by omega)] at h
  simp only [Bool.or_eq_false_iff, decide_eq_false_iff_not] at h
  omega
def cmR' (t : List Nod) (l : List PV') : Pic × Int := if trE t = 0 then (if pcE t l = 0 then (tiP t l (gQ l 0).p.w.toNat 0 (gQ l 0).p.w.toNat 0 (gQ l 0).p.h.toNat, 0) else (zP, pcE t l)) else (zP, trE t)
def tlE (l : List PV') (a b c d : Int) : Int := firstL [spE a b (gQ l 0).p.w, spE c d (gQ l 0).p.h]
def tlR (t : List Nod) (l : List PV') (a b c d : Int) : Pic × Int := if trE t = 0 then (if pcE t l = 0 then (if tlE l a b c d = 0 then (tiP t l (gQ l 0).p.w.toNat a.toNat b.toNat c.toNat d.toNat, 0) else (zP, tlE l a b c d)) else (zP, pcE t l)) else (zP, trE t)
theorem bm5 {l : List PV'} {a b c d : Int} (h : tlE l a b c d = 0) : (0 ≤ a ∧ a < b ∧ b ≤ (gQ l 0).p.w) ∧ 0 ≤ c ∧ c < d ∧ d ≤ (gQ l 0).p.h := by
  unfold tlE at h
  rw [p9] at h
  simp only [List.mem_cons, List.mem_nil_iff, or_false, forall_eq_or_imp, forall_eq] at h
  exact ⟨bk8 h.1, bk8 h.2⟩
theorem W6 (a b n : Int) (w : World) : Calls Tryz.prog 158 #[.agg #[.int .i64 a, .int .i64 b], .int .i64 n] w fun r w' => r = .returned (.int .i64 (spE a b n)) ∧ Below w.heap.size w w' := by
  refine i7 n9 Tryz.func158 rfl Tryz.ntmps158 (Nat.le_of_ble_eq_true rfl) rfl ?_
  unfold spE
  by_cases h1 : a < 0
  · rw [decide_eq_true h1]
    repeat' (first
|refine e8 ?_
|refine a6 rfl ?_
|refine i6 ?_
|(refine k6 ?_; first
|((with_reducible (first | refine r3 ?_ ?_ | refine q6 ?_ ?_ | refine q9 ?_ ?_ | refine q8 ?_ ?_ | refine q7 ?_ ?_)); · (first | rfl | omega | exact decide_eq_false (by omega)))
|((with_reducible refine A7 ?_ ?_ ?_); (· rfl); (· first | rfl | (first | rfl | omega | exact decide_eq_false (by omega))))
|((with_reducible (first | refine y3 ?_ ?_ | refine x7 ?_ ?_ | refine x9 ?_ ?_ | refine y4 ?_ ?_ | refine x8 ?_ ?_)); · (first | rfl | assumption | omega | exact decide_eq_true (by omega)))
|refine w8 rfl rfl rfl rfl ?_
|refine E7 rfl obQ ?_
|refine e7 ?_
|refine k7 (fun b => ⟨_, _, rfl, obQ, ?_⟩)
|refine a8 (f := 112) rfl obQ (by kernel_rfl) (fun w hw => v8 _ _ w) ?_)
|refine a7 ?_
|refine j4 rfl obQ (fun w hw => ⟨?_, hw.below⟩))
    all_goals rfl
  · rw [decide_eq_false h1]
    by_cases h2 : b ≤ a
    · rw [decide_eq_true h2]
      repeat' (first
|refine e8 ?_
|refine a6 rfl ?_
|refine i6 ?_
|(refine k6 ?_; first
|((with_reducible (first | refine r3 ?_ ?_ | refine q6 ?_ ?_ | refine q9 ?_ ?_ | refine q8 ?_ ?_ | refine q7 ?_ ?_)); · (first | rfl | omega | exact decide_eq_false (by omega)))
|((with_reducible refine A7 ?_ ?_ ?_); (· rfl); (· first | rfl | (first | rfl | omega | exact decide_eq_false (by omega))))
|((with_reducible (first | refine y3 ?_ ?_ | refine x7 ?_ ?_ | refine x9 ?_ ?_ | refine y4 ?_ ?_ | refine x8 ?_ ?_)); · (first | rfl | assumption | omega | exact decide_eq_true (by omega)))
|refine w8 rfl rfl rfl rfl ?_
|refine E7 rfl obQ ?_
|refine e7 ?_
|refine k7 (fun b => ⟨_, _, rfl, obQ, ?_⟩)
|refine a8 (f := 112) rfl obQ (by kernel_rfl) (fun w hw => v8 _ _ w) ?_)
|refine a7 ?_
|refine j4 rfl obQ (fun w hw => ⟨?_, hw.below⟩))
      all_goals rfl
    · rw [decide_eq_false h2]
      by_cases h3 : n < b
      · rw [decide_eq_true h3]
        repeat' (first
|refine e8 ?_
|refine a6 rfl ?_
|refine i6 ?_
|(refine k6 ?_; first
|((with_reducible (first | refine r3 ?_ ?_ | refine q6 ?_ ?_ | refine q9 ?_ ?_ | refine q8 ?_ ?_ | refine q7 ?_ ?_)); · (first | rfl | omega | exact decide_eq_false (by omega)))
|((with_reducible refine A7 ?_ ?_ ?_); (· rfl); (· first | rfl | (first | rfl | omega | exact decide_eq_false (by omega))))
|((with_reducible (first | refine y3 ?_ ?_ | refine x7 ?_ ?_ | refine x9 ?_ ?_ | refine y4 ?_ ?_ | refine x8 ?_ ?_)); · (first | rfl | assumption | omega | exact decide_eq_true (by omega)))
|refine w8 rfl rfl rfl rfl ?_
|refine E7 rfl obQ ?_
|refine e7 ?_
|refine k7 (fun b => ⟨_, _, rfl, obQ, ?_⟩)
|refine a8 (f := 112) rfl obQ (by kernel_rfl) (fun w hw => v8 _ _ w) ?_)
|refine a7 ?_
|refine j4 rfl obQ (fun w hw => ⟨?_, hw.below⟩))
        all_goals rfl
      · rw [decide_eq_false h3]
        repeat' (first
|refine e8 ?_
|refine a6 rfl ?_
|refine i6 ?_
|(refine k6 ?_; first
|((with_reducible (first | refine r3 ?_ ?_ | refine q6 ?_ ?_ | refine q9 ?_ ?_ | refine q8 ?_ ?_ | refine q7 ?_ ?_)); · (first | rfl | omega | exact decide_eq_false (by omega)))
|((with_reducible refine A7 ?_ ?_ ?_); (· rfl); (· first | rfl | (first | rfl | omega | exact decide_eq_false (by omega))))
|((with_reducible (first | refine y3 ?_ ?_ | refine x7 ?_ ?_ | refine x9 ?_ ?_ | refine y4 ?_ ?_ | refine x8 ?_ ?_)); · (first | rfl | assumption | omega | exact decide_eq_true (by omega)))
|refine w8 rfl rfl rfl rfl ?_
|refine E7 rfl obQ ?_
|refine e7 ?_
|refine k7 (fun b => ⟨_, _, rfl, obQ, ?_⟩)
|refine a8 (f := 112) rfl obQ (by kernel_rfl) (fun w hw => v8 _ _ w) ?_)
|refine a7 ?_
|refine j4 rfl obQ (fun w hw => ⟨?_, hw.below⟩))
        all_goals rfl
theorem ac0 (A : Option Addr) (c : Nat) (t : List Nod) (hl : t.length ≤ 1000000) (B : Option Addr) (c2 : Nat) (l : List PV') (hl2 : l.length ≤ 1000000) (hsz : ∀ x ∈ l, x.p.s.length ≤ 1000000) (w : World) (hr : Rd w A (t.flatMap ndC)) (hr2 : Rd w B (l.flatMap pvC)) (hrp : ∀ x ∈ l, Rd w x.A (x.p.s.map (.float .f32))) (hsh : Sh w) : Calls Tryz.prog 65 #[.slice A t.length c, .slice B l.length c2] w fun r w' => ∃ v, r = .returned v ∧ Below w.heap.size w w' ∧ PicR w w' v (cmR' t l).1 (cmR' t l).2 := by
  refine i7 n9 Tryz.func65 rfl Tryz.ntmps65 (Nat.le_of_ble_eq_true rfl) rfl ?_
  by_cases hE : trE t = 0
  · have ht := G2.1 hE
    by_cases hE2 : pcE t l = 0
    · have e1 : cmR' t l = (tiP t l (gQ l 0).p.w.toNat 0 (gQ l 0).p.w.toNat 0 (gQ l 0).p.h.toNat, 0) := by unfold cmR'; rw [if_pos hE, if_pos hE2]
      rw [e1]
      have hp := ab6.1 hE2
      have h0 : 0 < l.length := hp.n.1
      have hp0 := hp.s _ (B3 h0)
      obtain ⟨W, hW⟩ := Int.eq_ofNat_of_zero_le (show 0 ≤ (gQ l 0).p.w by have := hp0.w; omega)
      obtain ⟨H, hH⟩ := Int.eq_ofNat_of_zero_le (show 0 ≤ (gQ l 0).p.h by have := hp0.h; omega)
      have hln := ht.n
      obtain ⟨ad, rfl⟩ := hr.some (by rw [C6]; omega)
      obtain ⟨ad2, rfl⟩ := hr2.some (by rw [M5]; omega)
      have hWt : (gQ l 0).p.w.toNat = W := by rw [hW]; rfl
      have hHt : (gQ l 0).p.h.toNat = H := by rw [hH]; rfl
      rw [hWt, hHt]
      repeat' (first
|(refine j7 ?_; first
|refine e8 ?_
|refine a6 rfl ?_
|refine j3 ?_
|refine i6 ?_
|refine n8 (id := 7) 15 [(0, true), (1, true), (2, true), (3, true), (4, true), (5, true), (6, true), (7, true), (8, true), (9, true), (10, true), (11, true), (12, false), (13, true), (14, true)] rfl mixed (by kernel_rfl) rfl ?_
|(refine j0 rfl obQ ?_ ?_ <;> intro h <;> (try simp only [cdS] at h) <;> (try (exfalso; omega)) <;> (try exact cdF h) <;> (try contradiction)))
|(refine k6 ?_; first
|(refine j5 (f := 157) rfl obQ (by kernel_rfl) (fun w hw => aE7 ad c t ht ad2 c2 l hp W H 0 W 0 H hW hH ⟨Nat.zero_le _, Nat.le_refl _⟩ ⟨Nat.zero_le _, Nat.le_refl _⟩ w (hw.rdm hr.toS memQ) (hw.rdm hr2.toS memQ) (fun x hx => hw.rdm (hrp x hx).toS memQ) (r7 hsh hw memQ)) (fun w1T w2T vT hw1T hbT hRT => ?_); obtain ⟨AT, cT, rfl, hST⟩ := hRT)
|refine e7 ?_
|refine e9 rfl rfl obQ obQ ?_
|refine k7 (fun bb => ⟨_, _, rfl, obQ, ?_⟩)
|refine a8 (f := 50) rfl obQ (by kernel_rfl) (fun w hw => o9 _ c t hl w (hw.rdm hr.toS memQ) (r7 hsh hw memQ)) ?_
|refine a8 (f := 156) rfl obQ (by kernel_rfl) (fun w hw => D6 _ c t ht _ c2 l hl2 hsz w (hw.rdm hr.toS memQ) (hw.rdm hr2.toS memQ) (fun x hx => hw.rdm (hrp x hx).toS memQ)) ?_)
|(refine N2 ?_; first
|refine r5 ?_
|refine V_q rfl (q3 rfl obQ rfl [.int .i64 (((W : Nat) : Int) : Int)] (.past (w, fun b => b < w.heap.size) memQ _ _ hr2.toS (Int.toNat 0 * 4 + 1) _ rfl (n3 _ _ _) (J3 (l := l) (k := 0) rfl h0 1 (by unfold pvC; rw [hW]; rfl))) rfl (.inr ⟨rfl, rfl⟩)) ?_
|refine V_q rfl (q3 rfl obQ rfl [.int .i64 (((H : Nat) : Int) : Int)] (.past (w, fun b => b < w.heap.size) memQ _ _ hr2.toS (Int.toNat 0 * 4 + 2) _ rfl (n3 _ _ _) (J3 (l := l) (k := 0) rfl h0 2 (by unfold pvC; rw [hH]; rfl))) rfl (.inr ⟨rfl, rfl⟩)) ?_
|refine V_q rfl (k8 rfl obQ) ?_
|refine V_n rfl ?_)
|refine G_V ⟨⟨_, rfl, trivial⟩, ⟨_, rfl⟩, rfl, pstQ⟩ rfl ?_
|refine a7 ?_
|refine j4 rfl obQ (fun w2 hw => ⟨_, rfl, hw.below, PicR.of (s := (tiP t l W 0 W 0 H).s) (HW.callSl hw hST memQ hw1T.bsize) rfl rfl⟩))
    · have e1 : cmR' t l = (zP, pcE t l) := by unfold cmR'; rw [if_pos hE, if_neg hE2]
      rw [e1]
      repeat' (first
|(refine j7 ?_; first
|refine e8 ?_
|refine a6 rfl ?_
|refine j3 ?_
|refine i6 ?_
|(refine j0 rfl obQ ?_ ?_ <;> intro h <;> (try simp only [cdS] at h) <;> (try (exfalso; omega)) <;> (try exact cdF h) <;> (try contradiction)))
|(refine k6 ?_; first
|refine e7 ?_
|refine e9 rfl rfl obQ obQ ?_
|refine k7 (fun bb => ⟨_, _, rfl, obQ, ?_⟩)
|refine a8 (f := 50) rfl obQ (by kernel_rfl) (fun w hw => o9 _ c t hl w (hw.rdm hr.toS memQ) (r7 hsh hw memQ)) ?_
|refine a8 (f := 156) rfl obQ (by kernel_rfl) (fun w hw => D6 _ c t ht _ c2 l hl2 hsz w (hw.rdm hr.toS memQ) (hw.rdm hr2.toS memQ) (fun x hx => hw.rdm (hrp x hx).toS memQ)) ?_)
|refine a7 ?_
|refine j6 ?_
|refine j4 rfl obQ (fun w2 hw => ⟨_, rfl, hw.below, PicR.zero _ _ _⟩))
  · have e1 : cmR' t l = (zP, trE t) := if_neg hE
    rw [e1]
    repeat' (first
|(refine j7 ?_; first
|refine e8 ?_
|refine a6 rfl ?_
|refine i6 ?_
|(refine j0 rfl obQ ?_ ?_ <;> intro h <;> (try simp only [cdS] at h) <;> (try (exfalso; omega)) <;> (try exact cdF h) <;> (try contradiction)))
|(refine k6 ?_; first
|refine e7 ?_
|refine e9 rfl rfl obQ obQ ?_
|refine k7 (fun bb => ⟨_, _, rfl, obQ, ?_⟩)
|refine a8 (f := 50) rfl obQ (by kernel_rfl) (fun w hw => o9 _ c t hl w (hw.rdm hr.toS memQ) (r7 hsh hw memQ)) ?_)
|refine a7 ?_
|refine j6 ?_
|refine j4 rfl obQ (fun w2 hw => ⟨_, rfl, hw.below, PicR.zero _ _ _⟩))
theorem aG9 (A : Option Addr) (c : Nat) (t : List Nod) (hl : t.length ≤ 1000000) (B : Option Addr) (c2 : Nat) (l : List PV') (hl2 : l.length ≤ 1000000) (hsz : ∀ x ∈ l, x.p.s.length ≤ 1000000) (xa xb ya yb : Int) (w : World) (hr : Rd w A (t.flatMap ndC)) (hr2 : Rd w B (l.flatMap pvC)) (hrp : ∀ x ∈ l, Rd w x.A (x.p.s.map (.float .f32))) (hsh : Sh w) : Calls Tryz.prog 67 #[.slice A t.length c, .slice B l.length c2, .agg #[.int .i64 xa, .int .i64 xb], .agg #[.int .i64 ya, .int .i64 yb]] w fun r w' => ∃ v, r = .returned v ∧ Below w.heap.size w w' ∧ PicR w w' v (tlR t l xa xb ya yb).1 (tlR t l xa xb ya yb).2 := by
  refine i7 n9 Tryz.func67 rfl Tryz.ntmps67 (Nat.le_of_ble_eq_true rfl) rfl ?_
  by_cases hE : trE t = 0
  · have ht := G2.1 hE
    by_cases hE2 : pcE t l = 0
    · by_cases hE3 : tlE l xa xb ya yb = 0
      · have e1 : tlR t l xa xb ya yb = (tiP t l (gQ l 0).p.w.toNat xa.toNat xb.toNat ya.toNat yb.toNat, 0) := by unfold tlR; rw [if_pos hE, if_pos hE2, if_pos hE3]
        rw [e1]
        have hp := ab6.1 hE2
        have h0 : 0 < l.length := hp.n.1
        have hp0 := hp.s _ (B3 h0)
        obtain ⟨W, hW⟩ := Int.eq_ofNat_of_zero_le (show 0 ≤ (gQ l 0).p.w by have := hp0.w; omega)
        obtain ⟨H, hH⟩ := Int.eq_ofNat_of_zero_le (show 0 ≤ (gQ l 0).p.h by have := hp0.h; omega)
        have hln := ht.n
        obtain ⟨ad, rfl⟩ := hr.some (by rw [C6]; omega)
        obtain ⟨ad2, rfl⟩ := hr2.some (by rw [M5]; omega)
        have hte := bm5 hE3
        obtain ⟨x0, hx0⟩ := Int.eq_ofNat_of_zero_le (show 0 ≤ xa by omega)
        obtain ⟨x1, hx1⟩ := Int.eq_ofNat_of_zero_le (show 0 ≤ xb by omega)
        obtain ⟨y0, hy0⟩ := Int.eq_ofNat_of_zero_le (show 0 ≤ ya by omega)
        obtain ⟨y1, hy1⟩ := Int.eq_ofNat_of_zero_le (show 0 ≤ yb by omega)
        subst hx0 hx1 hy0 hy1
        have hWt : (gQ l 0).p.w.toNat = W := by rw [hW]; rfl
        rw [hWt, Int.toNat_natCast, Int.toNat_natCast, Int.toNat_natCast, Int.toNat_natCast]
        have hE4 : firstL [spE (x0 : Int) (x1 : Int) (W : Int), spE (y0 : Int) (y1 : Int) (H : Int)] = 0 := by rw [← hW, ← hH]; exact hE3
        repeat' (first
|(refine j7 ?_; first
|refine e8 ?_
|refine a6 rfl ?_
|refine j3 ?_
|refine i6 ?_
|refine n8 (id := 7) 11 [(0, true), (1, true), (2, true), (3, true), (4, true), (6, true), (7, true), (8, true), (9, true), (10, true), (5, false)] rfl mixed (by kernel_rfl) rfl ?_
|(refine j0 rfl obQ ?_ ?_ <;> intro h <;> (try simp only [cdS] at h) <;> (try (exfalso; omega)) <;> (try exact cdF h) <;> (try contradiction)))
|(refine k6 ?_; first
|(refine j5 (f := 157) rfl obQ (by kernel_rfl) (fun w hw => aE7 ad c t ht ad2 c2 l hp W H x0 x1 y0 y1 hW hH (by omega) (by omega) w (hw.rdm hr.toS memQ) (hw.rdm hr2.toS memQ) (fun x hx => hw.rdm (hrp x hx).toS memQ) (r7 hsh hw memQ)) (fun w1T w2T vT hw1T hbT hRT => ?_); obtain ⟨AT, cT, rfl, hST⟩ := hRT)
|refine e7 ?_
|refine e9 rfl rfl obQ obQ ?_
|refine k7 (fun bb => ⟨_, _, rfl, obQ, ?_⟩)
|refine j9 (fun b => ⟨_, _, rfl, obQ, ?_⟩)
|refine a8 (f := 50) rfl obQ (by kernel_rfl) (fun w hw => o9 _ c t hl w (hw.rdm hr.toS memQ) (r7 hsh hw memQ)) ?_
|refine a8 (f := 156) rfl obQ (by kernel_rfl) (fun w hw => D6 _ c t ht _ c2 l hl2 hsz w (hw.rdm hr.toS memQ) (hw.rdm hr2.toS memQ) (fun x hx => hw.rdm (hrp x hx).toS memQ)) ?_
|refine a8 (f := 158) rfl obQ (by kernel_rfl) (fun w hw => W6 _ _ _ w) ?_
|refine a8 (f := 107) rfl obQ (by kernel_rfl) (fun w hw => p6 _ _ [spE (x0 : Int) (x1 : Int) (W : Int), spE (y0 : Int) (y1 : Int) (H : Int)] (by simp) w (.inr ⟨_, rfl, hw.src (i := 3) rfl rfl⟩)) ?_)
|(refine N2 ?_; first
|refine r5 ?_
|refine V_q rfl (q3 rfl obQ rfl [.int .i64 (((W : Nat) : Int) : Int)] (.past (w, fun b => b < w.heap.size) memQ _ _ hr2.toS (Int.toNat 0 * 4 + 1) _ rfl (n3 _ _ _) (J3 (l := l) (k := 0) rfl h0 1 (by unfold pvC; rw [hW]; rfl))) rfl (.inr ⟨rfl, rfl⟩)) ?_
|refine V_q rfl (q3 rfl obQ rfl [.int .i64 (((H : Nat) : Int) : Int)] (.past (w, fun b => b < w.heap.size) memQ _ _ hr2.toS (Int.toNat 0 * 4 + 2) _ rfl (n3 _ _ _) (J3 (l := l) (k := 0) rfl h0 2 (by unfold pvC; rw [hH]; rfl))) rfl (.inr ⟨rfl, rfl⟩)) ?_
|refine V_q rfl (k8 rfl obQ) ?_
|refine V_n rfl ?_)
|refine G_V ⟨⟨_, rfl, trivial⟩, ⟨_, rfl⟩, rfl, pstQ⟩ rfl ?_
|refine a7 ?_
|refine j4 rfl obQ (fun w2 hw => ⟨_, rfl, hw.below, PicR.of (s := (tiP t l W x0 x1 y0 y1).s) (HW.callSl hw hST memQ hw1T.bsize) rfl rfl⟩))
      · have e1 : tlR t l xa xb ya yb = (zP, tlE l xa xb ya yb) := by unfold tlR; rw [if_pos hE, if_pos hE2, if_neg hE3]
        rw [e1]
        have hp := ab6.1 hE2
        have h0 : 0 < l.length := hp.n.1
        obtain ⟨ad2, rfl⟩ := hr2.some (by rw [M5]; omega)
        repeat' (first
|(refine j7 ?_; first
|refine e8 ?_
|refine a6 rfl ?_
|refine j3 ?_
|refine i6 ?_
|refine n8 (id := 7) 11 [(0, true), (1, true), (2, true), (3, true), (4, true), (6, true), (7, true), (8, true), (9, true), (10, true), (5, false)] rfl mixed (by kernel_rfl) rfl ?_
|(refine j0 rfl obQ ?_ ?_ <;> intro h <;> (try simp only [cdS] at h) <;> (try (exfalso; omega)) <;> (try exact cdF h) <;> (try contradiction)))
|(refine k6 ?_; first
|refine e7 ?_
|refine e9 rfl rfl obQ obQ ?_
|refine k7 (fun bb => ⟨_, _, rfl, obQ, ?_⟩)
|refine j9 (fun b => ⟨_, _, rfl, obQ, ?_⟩)
|refine a8 (f := 50) rfl obQ (by kernel_rfl) (fun w hw => o9 _ c t hl w (hw.rdm hr.toS memQ) (r7 hsh hw memQ)) ?_
|refine a8 (f := 156) rfl obQ (by kernel_rfl) (fun w hw => D6 _ c t ht _ c2 l hl2 hsz w (hw.rdm hr.toS memQ) (hw.rdm hr2.toS memQ) (fun x hx => hw.rdm (hrp x hx).toS memQ)) ?_
|refine a8 (f := 158) rfl obQ (by kernel_rfl) (fun w hw => W6 _ _ _ w) ?_
|refine a8 (f := 107) rfl obQ (by kernel_rfl) (fun w hw => p6 _ _ [spE xa xb (gQ l 0).p.w, spE ya yb (gQ l 0).p.h] (by simp) w (.inr ⟨_, rfl, hw.src (i := 3) rfl rfl⟩)) ?_)
|(refine N2 ?_; first
|refine r5 ?_
|refine V_q rfl (q3 rfl obQ rfl [.int .i64 (gQ l 0).p.w] (.past (w, fun b => b < w.heap.size) memQ _ _ hr2.toS (Int.toNat 0 * 4 + 1) _ rfl (n3 _ _ _) (J3 (l := l) (k := 0) rfl h0 1 rfl)) rfl (.inr ⟨rfl, rfl⟩)) ?_
|refine V_q rfl (q3 rfl obQ rfl [.int .i64 (gQ l 0).p.h] (.past (w, fun b => b < w.heap.size) memQ _ _ hr2.toS (Int.toNat 0 * 4 + 2) _ rfl (n3 _ _ _) (J3 (l := l) (k := 0) rfl h0 2 rfl)) rfl (.inr ⟨rfl, rfl⟩)) ?_
|refine V_q rfl (k8 rfl obQ) ?_
|refine V_n rfl ?_)
|(refine o8 ?_; first
|refine G_V ⟨⟨_, rfl, trivial⟩, ⟨_, rfl⟩, rfl, pstQ⟩ rfl ?_
|refine a7 ?_
|refine j6 ?_
|refine j4 rfl obQ (fun w2 hw => ⟨_, rfl, hw.below, PicR.zero _ _ _⟩)))
    · have e1 : tlR t l xa xb ya yb = (zP, pcE t l) := by unfold tlR; rw [if_pos hE, if_neg hE2]
      rw [e1]
      repeat' (first
|(refine j7 ?_; first
|refine e8 ?_
|refine a6 rfl ?_
|refine j3 ?_
|refine i6 ?_
|(refine j0 rfl obQ ?_ ?_ <;> intro h <;> (try simp only [cdS] at h) <;> (try (exfalso; omega)) <;> (try exact cdF h) <;> (try contradiction)))
|(refine k6 ?_; first
|refine e7 ?_
|refine e9 rfl rfl obQ obQ ?_
|refine k7 (fun bb => ⟨_, _, rfl, obQ, ?_⟩)
|refine a8 (f := 50) rfl obQ (by kernel_rfl) (fun w hw => o9 _ c t hl w (hw.rdm hr.toS memQ) (r7 hsh hw memQ)) ?_
|refine a8 (f := 156) rfl obQ (by kernel_rfl) (fun w hw => D6 _ c t ht _ c2 l hl2 hsz w (hw.rdm hr.toS memQ) (hw.rdm hr2.toS memQ) (fun x hx => hw.rdm (hrp x hx).toS memQ)) ?_)
|refine a7 ?_
|refine j6 ?_
|refine j4 rfl obQ (fun w2 hw => ⟨_, rfl, hw.below, PicR.zero _ _ _⟩))
  · have e1 : tlR t l xa xb ya yb = (zP, trE t) := if_neg hE
    rw [e1]
    repeat' (first
|(refine j7 ?_; first
|refine e8 ?_
|refine a6 rfl ?_
|refine i6 ?_
|(refine j0 rfl obQ ?_ ?_ <;> intro h <;> (try simp only [cdS] at h) <;> (try (exfalso; omega)) <;> (try exact cdF h) <;> (try contradiction)))
|(refine k6 ?_; first
|refine e7 ?_
|refine e9 rfl rfl obQ obQ ?_
|refine k7 (fun bb => ⟨_, _, rfl, obQ, ?_⟩)
|refine a8 (f := 50) rfl obQ (by kernel_rfl) (fun w hw => o9 _ c t hl w (hw.rdm hr.toS memQ) (r7 hsh hw memQ)) ?_)
|refine a7 ?_
|refine j6 ?_
|refine j4 rfl obQ (fun w2 hw => ⟨_, rfl, hw.below, PicR.zero _ _ _⟩))
theorem aH5 (l : List Nod) : ∀ u ∈ l.flatMap ndC, u.oneCell' = true := by
  intro u hu
  obtain ⟨x, _, hx⟩ := List.mem_flatMap.1 hu
  simp only [ndC, List.mem_cons, List.mem_nil_iff, or_false] at hx
  rcases hx with rfl | rfl | rfl | rfl | rfl | rfl | rfl | rfl | rfl | rfl | rfl | rfl <;> rfl
def eqB (z y : Int) : Bool := decide (z = y)
def nqB (z y : Nod) : Bool := decide (z = y)
theorem aJ8 (z : Int) (A : Option Addr) (c : Nat) (l : List Int) (hl : l.length ≤ 1000000) (w : World) (hr : Rd w A (l.map fun x => .int .i64 x)) : Calls Tryz.prog 182 #[.slice A l.length c, .int .i64 z] w fun r w' => r = .returned (.int .i64 (ixI (eqB z) l 0)) ∧ Below w.heap.size w w' := by
  refine i7 n9 Tryz.func182 rfl Tryz.ntmps182 (Nat.le_of_ble_eq_true rfl) rfl ?_
  repeat' (first
|(refine j7 ?_; first
|refine e8 ?_
|refine a6 rfl ?_
|refine j1 ?_
|refine j3 ?_
|refine i6 ?_
|(refine j0 rfl obQ ?_ ?_ <;> intro h <;> (try simp only [cdS] at h)))
|refine e7 ?_
|refine e9 rfl rfl obQ obQ ?_
|refine a7 ?_
|refine j6 ?_
|refine j4 rfl obQ (fun w hw => ⟨?_, hw.below⟩))
  skip
  refine p7 (fun k : Nat => ⟨[(8, .s (.v (.int .i64 k))), (7, .s (.v (.int .i64 l.length))), (0, .s (.v (.slice A l.length c))), (1, .s (.v (.int .i64 z)))], [], []⟩) (fun k => k ≤ l.length ∧ ixI (eqB z) l 0 = ixI (eqB z) (l.drop k) k) (fun k => l.length - k) 0 ⟨Nat.zero_le _, rfl⟩ ?_ (fun k hk => ?_)
  · exact svQ
  by_cases hlt : k < l.length
  · obtain ⟨ad, rfl⟩ := hr.some (by rw [List.length_map]; omega)
    have hfd := Y8 (p := eqB z) hlt
    repeat' (first
|(refine j7 ?_; first
|refine e8 ?_
|refine a6 rfl ?_
|refine j1 ?_
|refine j3 ?_
|refine i6 ?_
|(refine j0 rfl obQ ?_ ?_ <;> intro h <;> (try simp only [cdS] at h) <;> (try (exfalso; omega))))
|refine n4 rfl obQ rfl [.int .i64 l[k]] (.past _ memQ _ _ hr.toS _ _ rfl rfl (idx1 (f := fun x => .int .i64 x) hlt)) rfl (.inr ⟨rfl, rfl⟩) ?_
|refine e7 ?_
|refine e9 rfl rfl obQ obQ ?_
|(refine o8 ?_; first
|refine o6 (k + 1) ?_ (by omega) svQ
|refine a7 ?_
|refine n5 ?_
|refine r8 ?_
|refine j6 ?_
|refine j4 rfl obQ (fun w hw => ⟨?_, hw.below⟩)))
    · rw [hk.2, hfd, if_pos (by first | exact h | exact decide_eq_true h)]
    · exact ⟨by omega, by rw [hk.2, hfd, if_neg (by first | simpa using h | (have h' := h; unfold eqB; simpa using h'))]⟩
  · repeat' (first
|(refine j7 ?_; first
|refine e8 ?_
|refine a6 rfl ?_
|refine o0 ?_
|refine i6 ?_
|(refine j0 rfl obQ ?_ ?_ <;> intro h <;> (try simp only [cdS] at h) <;> (try (exfalso; omega))))
|refine e7 ?_
|refine e9 rfl rfl obQ obQ ?_
|(refine o8 ?_; first
|refine a7 ?_
|refine n2 ?_
|refine n6 ?_
|refine j4 rfl obQ (fun w hw => ⟨?_, hw.below⟩)))
    rw [hk.2, List.drop_of_length_le (by omega)]
    rfl
theorem aK8 (z : Int) (A : Option Addr) (c : Nat) (l : List Int) (hl : l.length ≤ 1000000) (w : World) (hr : Rd w A (l.map fun x => .int .i64 x)) : Calls Tryz.prog 117 #[.slice A l.length c, .int .i64 z] w fun r w' => r = .returned (.bool (l.any (eqB z))) ∧ Below w.heap.size w w' := by
  refine i7 n9 Tryz.func117 rfl Tryz.ntmps117 (Nat.le_of_ble_eq_true rfl) rfl ?_
  repeat' (first
|refine e8 ?_
|refine a6 rfl ?_
|refine i6 ?_
|refine e7 ?_
|refine e9 rfl rfl obQ obQ ?_
|refine a8 (f := 182) rfl obQ (by kernel_rfl) (fun w hw => aJ8 z A c l hl w (hw.rdm hr.toS memQ)) ?_
|refine a7 ?_
|refine j4 rfl obQ (fun w hw => ⟨?_, hw.below⟩))
  exact rB (Z4 l 0)
theorem aI3 (x : Nod) (A : Option Addr) (c : Nat) (l : List Nod) (hl : l.length ≤ 1000000) (w : World) (hr : Rd w A (l.flatMap ndC)) : Calls Tryz.prog 187 #[.slice A l.length c, .agg #[.string x.kd, .int .i64 x.a, .int .i64 x.b, .int .i64 x.c, .int .i64 x.n, .int .i64 x.cl, .int .i64 x.ga, .string x.w.sh, .int .i64 x.w.a, .int .i64 x.w.b, .int .i64 x.w.at_, .int .i64 x.w.soft]] w fun r w' => r = .returned (.int .i64 (ixI (nqB x) l 0)) ∧ Below w.heap.size w w' := by
  refine i7 n9 Tryz.func187 rfl Tryz.ntmps187 (Nat.le_of_ble_eq_true rfl) rfl ?_
  repeat' (first
|refine e8 ?_
|refine a6 rfl ?_
|refine j1 ?_
|refine e7 ?_
|refine e9 rfl rfl obQ obQ ?_
|refine k7 (fun bb => ⟨_, _, rfl, obQ, ?_⟩)
|refine a7 ?_)
  obtain ⟨b3, rfl⟩ : ∃ z, z = bb := ⟨bb, rfl⟩
  refine p7 (fun k : Nat => ⟨[(8, .s (.v (.int .i64 k))), (7, .s (.v (.int .i64 l.length))), (0, .s (.v (.slice A l.length c))), (3, .s (.p b3 0 0))], [⟨b3, 161, [.v (.string x.kd), .v (.int .i64 x.a), .v (.int .i64 x.b), .v (.int .i64 x.c), .v (.int .i64 x.n), .v (.int .i64 x.cl), .v (.int .i64 x.ga), .v (.string x.w.sh), .v (.int .i64 x.w.a), .v (.int .i64 x.w.b), .v (.int .i64 x.w.at_), .v (.int .i64 x.w.soft)]⟩], []⟩) (fun k => k ≤ l.length ∧ ixI (nqB x) l 0 = ixI (nqB x) (l.drop k) k) (fun k => l.length - k) 0 ⟨Nat.zero_le _, rfl⟩ ?_ (fun k hk => ?_)
  · exact svQ
  by_cases hlt : k < l.length
  · obtain ⟨ad, rfl⟩ := hr.some (by rw [C6]; omega)
    have hfd := Y8 (p := nqB x) hlt
    repeat' (first
|(refine j7 ?_; first
|refine e8 ?_
|refine a6 rfl ?_
|refine j1 ?_
|refine j3 ?_
|refine i6 ?_
|refine n8 (id := 4) 5 [(0, true), (1, true), (2, true), (3, true), (4, true)] rfl mixed (by kernel_rfl) rfl ?_
|(refine j0 rfl obQ ?_ ?_ <;> intro h <;> (try simp only [cdS] at h) <;> (try (exfalso; omega))))
|refine j8 (k9 rfl obQ (fun w => ak5 (x := x) (y := l[k]) (b := nqB x l[k]) rfl _ _ w)) ?_
|refine e7 ?_
|refine e9 rfl rfl obQ obQ ?_
|refine r5 ?_
|refine V_q rfl (q3 rfl obQ rfl [.string l[k].kd, .int .i64 l[k].a, .int .i64 l[k].b, .int .i64 l[k].c, .int .i64 l[k].n, .int .i64 l[k].cl, .int .i64 l[k].ga, .string l[k].w.sh, .int .i64 l[k].w.a, .int .i64 l[k].w.b, .int .i64 l[k].w.at_, .int .i64 l[k].w.soft] (.past _ memQ _ _ hr.toS _ _ rfl rfl (idxS (f := ndC) (fun _ => rfl) hlt)) rfl (.inl ⟨rfl, rfl⟩)) ?_
|refine V_q rfl (k8 rfl obQ) ?_
|(refine o8 ?_; first
|refine o6 (k + 1) ?_ (by omega) svQ
|refine a7 ?_
|refine n5 ?_
|refine r8 ?_
|refine j6 ?_
|refine j4 rfl obQ (fun w hw => ⟨?_, hw.below⟩)))
    · rw [hk.2, hfd, if_pos (by first | exact h | exact decide_eq_true h)]
    · exact ⟨by omega, by rw [hk.2, hfd, if_neg (by first | simpa using h | (have h' := h; unfold eqB; simpa using h'))]⟩
  · repeat' (first
|(refine j7 ?_; first
|refine e8 ?_
|refine a6 rfl ?_
|refine o0 ?_
|refine i6 ?_
|(refine j0 rfl obQ ?_ ?_ <;> intro h <;> (try simp only [cdS] at h) <;> (try (exfalso; omega))))
|refine e7 ?_
|refine e9 rfl rfl obQ obQ ?_
|(refine o8 ?_; first
|refine a7 ?_
|refine n2 ?_
|refine n6 ?_
|refine j4 rfl obQ (fun w hw => ⟨?_, hw.below⟩)))
    rw [hk.2, List.drop_of_length_le (by omega)]
    rfl
theorem ab2 (x : Nod) (A : Option Addr) (c : Nat) (l : List Nod) (hl : l.length ≤ 1000000) (w : World) (hr : Rd w A (l.flatMap ndC)) : Calls Tryz.prog 120 #[.slice A l.length c, .agg #[.string x.kd, .int .i64 x.a, .int .i64 x.b, .int .i64 x.c, .int .i64 x.n, .int .i64 x.cl, .int .i64 x.ga, .string x.w.sh, .int .i64 x.w.a, .int .i64 x.w.b, .int .i64 x.w.at_, .int .i64 x.w.soft]] w fun r w' => r = .returned (.bool (l.any (nqB x))) ∧ Below w.heap.size w w' := by
  refine i7 n9 Tryz.func120 rfl Tryz.ntmps120 (Nat.le_of_ble_eq_true rfl) rfl ?_
  repeat' (first
|refine e8 ?_
|refine a6 rfl ?_
|refine i6 ?_
|(refine k6 ?_; first
|refine e7 ?_
|refine e9 rfl rfl obQ obQ ?_
|refine k7 (fun b => ⟨_, _, rfl, obQ, ?_⟩)
|refine a8 (f := 187) rfl obQ (by kernel_rfl) (fun w hw => aI3 x A c l hl w (hw.rdm hr.toS memQ)) ?_)
|refine a7 ?_
|refine j4 rfl obQ (fun w hw => ⟨?_, hw.below⟩))
  exact rB (Z4 l 0)
theorem ax9 (A : Option Addr) (c n : Nat) (l : List Nod) (hn : l.length = n) (hl : n ≤ 1000000) (hA : A = none → n = 0 ∧ c = 0) (w : World) (hr : Rd w A (l.flatMap ndC)) : Calls Tryz.prog 121 #[.slice A n c] w fun r w' => ∃ v, r = .returned v ∧ Below w.heap.size w w' ∧ w'.ownsRow w.heap.size 161 12 v n (l.flatMap ndC) := by
  refine i7 n9 Tryz.func121 rfl Tryz.ntmps121 (Nat.le_of_ble_eq_true rfl) rfl ?_
  subst hn
  cases A with
  | none =>
    obtain ⟨h1, h2⟩ := hA rfl
    obtain rfl := List.eq_nil_of_length_eq_zero h1
    repeat' (first
|(refine j7 ?_; first
|refine o5 rfl obQ ?_
|refine e8 ?_
|refine a6 rfl ?_
|refine i6 ?_)
|refine j8 (k9 rfl obQ (fun w => ac5 rfl rfl _ _ _ _ _ _ _ w)) ?_
|refine e7 ?_
|refine e9 rfl rfl obQ obQ ?_
|refine a7 ?_
|refine j6 ?_
|refine j4 rfl obQ (fun w2 hw => ⟨_, rfl, hw.below, World.ownsRow_nil _ _ _ _⟩))
  | some ad =>
    repeat' (first
|(refine j7 ?_; first
|refine n7 rfl obQ ?_
|refine e8 ?_
|refine a6 rfl ?_
|refine j3 ?_
|refine i6 ?_)
|(refine k6 ?_; first
|refine j8 (k9 rfl obQ (fun w => ac5 rfl rfl _ _ _ _ _ _ _ w)) ?_
|refine an8 rfl rfl rfl (fun g => ?_)
|refine C4 rfl obQ rfl rfl rfl ⟨by decide, rfl⟩ rfl ⟨rfl, rfl, rfl, rfl⟩ (l.flatMap ndC) (by rw [C6]) (fun h => by cases h) (aH5 _) (srcM hr memQ) (by unfold maxLen; dsimp only; omega) (fun A' cap' => ⟨_, rfl, ?_⟩)
|refine e7 ?_
|refine e9 rfl rfl obQ obQ ?_)
|refine a7 ?_
|refine j4 rfl obQ (fun w2 hw => ⟨_, rfl, hw.below, (by have h := HW.ownRow (i := 0) hw rfl rfl rfl rfl; simpa using h)⟩))
theorem af8 {A : Option Addr} {n c : Nat} {t : List Nod} (hn : t.length = n) (ht : TrOk t) (w : World) (hr : Rd w A (t.flatMap ndC)) : Calls Tryz.prog 119 #[.slice A n c] w fun r w' => ∃ v, r = .returned v ∧ Below w.heap.size w w' ∧ Sl w w' v (prF t).length ((prF t).flatMap ndC) := by
  subst hn
  exact af4 A c t ht w hr
theorem ag3 {z : Int} {A : Option Addr} {n c : Nat} {l : List Int} (hn : l.length = n) (hl : n ≤ 1000000) (w : World) (hr : Rd w A (l.map (.int .i64))) : Calls Tryz.prog 117 #[.slice A n c, .int .i64 z] w fun r w' => r = .returned (.bool (l.any (eqB z))) ∧ Below w.heap.size w w' := by
  subst hn
  exact aK8 z A c l hl w hr
def cuE (t : List Nod) (node m : Int) : Int := firstL [trE t, wh (decide (node < 0) || decide ((t.length : Int) - 1 ≤ node)) 10, wi m 0 7]
def cuR (t : List Nod) (node m : Int) : List Nod × List Nod × Int := if cuE t node m = 0 then (if (scI t).any (eqB m) = true then ([], [], 9) else (prF (t.take (node.toNat + 1)), prF (t.set node.toNat (opN m)), 0)) else ([], [], cuE t node m)
def McR (w w' : World) (v : Value) (r : List Nod × List Nod × Int) : Prop := ∃ A c B d, v = .tuple #[.slice A r.1.length c, .slice B r.2.1.length d, .int .i64 r.2.2] ∧ RdS (fun b => w.heap.size ≤ b ∧ b < w'.heap.size) w' A (r.1.flatMap ndC) ∧ RdS (fun b => w.heap.size ≤ b ∧ b < w'.heap.size) w' B (r.2.1.flatMap ndC)
theorem McR.no (w w' : World) (e : Int) : McR w w' (.tuple #[.slice none 0 0, .slice none 0 0, .int .i64 e]) ([], [], e) := ⟨none, 0, none, 0, rfl, .inl rfl, .inl rfl⟩
theorem McR.of {w w' : World} {x y : List Nod} {e : Int} {u v : Value} (hu : Sl w w' u x.length (x.flatMap ndC)) (hv : Sl w w' v y.length (y.flatMap ndC)) {q : Value} (hq : q = .tuple #[u, v, .int .i64 e]) : McR w w' q (x, y, e) := by
  obtain ⟨A, c, rfl, h1⟩ := hu
  obtain ⟨B, d, rfl, h2⟩ := hv
  exact ⟨A, c, B, d, hq, h1, h2⟩
theorem br3 {t : List Nod} {node m : Int} (h : cuE t node m = 0) : TrOk t ∧ (0 ≤ node ∧ node < (t.length : Int) - 1) ∧ 0 ≤ m ∧ m ≤ 7 := by
  unfold cuE at h
  rw [p9] at h
  simp only [List.mem_cons, List.mem_nil_iff, or_false, forall_eq_or_imp, forall_eq] at h
  rw [B7 (by omega), D1, G2] at h
  simp only [Bool.or_eq_false_iff, decide_eq_false_iff_not] at h
  exact ⟨h.1, by omega, h.2.2⟩
theorem bd5 {w : World} {A : Option Addr} {t : List Nod} (h : Rd w A (t.flatMap ndC)) (k : Nat) : Rd w A ((t.take k).flatMap ndC) := by
  have e : t.flatMap ndC = (t.take k).flatMap ndC ++ (t.drop k).flatMap ndC := by rw [← List.flatMap_append, List.take_append_drop]
  rw [e] at h
  exact ar2 h
theorem ba4 {t : List Nod} {j : Nat} {z : Int} (e : z = j) (h : j < t.length) (x : Nod) : (t.set j x).flatMap ndC = (t.flatMap ndC).take (z.toNat * 12) ++ (ndC x ++ (t.flatMap ndC).drop (z.toNat * 12 + 12)) := by
  subst e
  have := aW0 (f := ndC) (s := 12) (fun _ => rfl) h (o := 0) (vs := ndC x) (Nat.le_refl 12) (x := x) (by simp [ndC])
  rw [Int.toNat_natCast]
  simpa [ndC] using this.symm
theorem br0 {xs cs : List Value} (h : cs.length = xs.length) : cs = xs.take 0 ++ (cs ++ xs.drop (0 + cs.length)) := by
  rw [List.take_zero, List.nil_append, Nat.zero_add, List.drop_of_length_le (by omega), List.append_nil]
theorem bq5 (A : Option Addr) (c : Nat) (t : List Nod) (hl : t.length ≤ 1000000) (hc : t.length ≤ c) (node m : Int) (w : World) (hr : Rd w A (t.flatMap ndC)) (hsh : Sh w) : Calls Tryz.prog 28 #[.slice A t.length c, .int .i64 node, .int .i64 m] w fun r w' => ∃ v, r = .returned v ∧ Below w.heap.size w w' ∧ McR w w' v (cuR t node m) := by
  refine i7 n9 Tryz.func28 rfl Tryz.ntmps28 (Nat.le_of_ble_eq_true rfl) rfl ?_
  by_cases hE : cuE t node m = 0
  · have hcu := br3 hE
    have ht := hcu.1
    have hln := ht.n
    obtain ⟨ad, rfl⟩ := hr.some (by rw [C6]; omega)
    have hn0 : ¬ node < 0 := by omega
    have hE' := hE
    unfold cuE at hE'
    rw [decide_eq_false hn0, decide_eq_false (show ¬ (t.length : Int) - 1 ≤ node by omega), Bool.or_false] at hE'
    by_cases hh : (scI t).any (eqB m) = true
    · have e1 : cuR t node m = ([], [], 9) := by unfold cuR; rw [if_pos hE, if_pos hh]
      rw [e1]
      repeat' (first
|(refine j7 ?_; first
|refine e8 ?_
|refine a6 rfl ?_
|refine j3 ?_
|refine i6 ?_
|(refine j0 rfl obQ ?_ ?_ <;> intro h <;> (try simp only [cdS] at h) <;> (try (exfalso; omega)) <;> (try exact cdF h) <;> (try contradiction) <;> (try (exfalso; first | omega | exact h hh | exact hh h | exact absurd (hh.symm.trans h) (by decide)))))
|(refine k6 ?_; first
|((with_reducible (first | refine r3 ?_ ?_ | refine q6 ?_ ?_ | refine q9 ?_ ?_ | refine q8 ?_ ?_ | refine q7 ?_ ?_)); · (first | rfl | omega | exact decide_eq_false (by omega)))
|((with_reducible refine A7 ?_ ?_ ?_); (· rfl); (· first | rfl | (first | rfl | omega | exact decide_eq_false (by omega))))
|refine w8 rfl rfl rfl rfl ?_
|(refine j5 (f := 118) rfl obQ (by kernel_rfl) (fun w hw => G9 _ c t ht w (hw.rdm hr.toS memQ)) (fun w1S w2S vS hw1S hbS hRS => ?_); obtain ⟨AS, cS, rfl, hSS⟩ := hRS)
|refine a8 (f := 117) rfl obQ (by kernel_rfl) (fun w hw => ag3 (z := m) (l := scI t) rfl (V1 t) w (hw.rdm hSS memQ)) ?_
|refine e7 ?_
|refine q4 rfl rfl obQ obQ ?_
|refine j9 (fun b => ⟨_, _, rfl, obQ, ?_⟩)
|refine a8 (f := 50) rfl obQ (by kernel_rfl) (fun w hw => o9 _ c t hl w (hw.rdm hr.toS memQ) (r7 hsh hw memQ)) ?_
|refine a8 (f := 112) rfl obQ (by kernel_rfl) (fun w hw => v8 _ _ w) ?_
|refine a8 (f := 116) rfl obQ (by kernel_rfl) (fun w hw => B2 _ w) ?_
|refine a8 (f := 107) rfl obQ (by kernel_rfl) (fun w hw => p6 _ _ [trE t, wh false 10, wi m 0 7] (by simp) w (.inr ⟨_, rfl, hw.src (i := 0) rfl rfl⟩)) ?_)
|refine a7 ?_
|refine j6 ?_
|refine j4 rfl obQ (fun w2 hw => ⟨_, rfl, hw.below, McR.no _ _ _⟩))
    · have e1 : cuR t node m = (prF (t.take (node.toNat + 1)), prF (t.set node.toNat (opN m)), 0) := by unfold cuR; rw [if_pos hE, if_neg hh]
      rw [e1]
      repeat' (first
|(refine j7 ?_; first
|refine e8 ?_
|refine a6 rfl ?_
|refine j3 ?_
|refine i6 ?_
|(refine j0 rfl obQ ?_ ?_ <;> intro h <;> (try simp only [cdS] at h) <;> (try (exfalso; omega)) <;> (try exact cdF h) <;> (try contradiction) <;> (try (exfalso; first | omega | exact h hh | exact hh h | exact absurd (hh.symm.trans h) (by decide)))))
|(refine k6 ?_; first
|((with_reducible (first | refine r3 ?_ ?_ | refine q6 ?_ ?_ | refine q9 ?_ ?_ | refine q8 ?_ ?_ | refine q7 ?_ ?_)); · (first | rfl | omega | exact decide_eq_false (by omega)))
|((with_reducible refine A7 ?_ ?_ ?_); (· rfl); (· first | rfl | (first | rfl | omega | exact decide_eq_false (by omega))))
|refine w8 rfl rfl rfl rfl ?_
|(refine j5 (f := 118) rfl obQ (by kernel_rfl) (fun w hw => G9 _ c t ht w (hw.rdm hr.toS memQ)) (fun w1S w2S vS hw1S hbS hRS => ?_); obtain ⟨AS, cS, rfl, hSS⟩ := hRS)
|refine a8 (f := 117) rfl obQ (by kernel_rfl) (fun w hw => ag3 (z := m) (l := scI t) rfl (V1 t) w (hw.rdm hSS memQ)) ?_
|refine N5 t.length rfl obQ rfl rfl rfl rfl rfl (by unfold maxLen; dsimp only; omega) (fun g' => ?_)
|refine bo5 rfl obQ rfl rfl 0 rfl rfl (m := t.length) (Nat.min_self _) 0 (t.flatMap ndC) (C6 t) (fun _ => ⟨rfl, by simp⟩) (fun _ => srcM hr memQ) (by dsimp only; simp [List.length_flatten]) (aH5 _) (xs' := t.flatMap ndC) (br0 (by rw [C6]; simp)) rfl ?_
|refine r6 rfl obQ rfl rfl rfl 0 rfl rfl (node.toNat * 12) rfl (by dsimp only; rw [C6]; omega) (xs' := (t.set node.toNat (opN m)).flatMap ndC) (ba4 (by omega) (by omega) _) rfl ?_
|refine j8 (r4 rfl obQ (fun w => Z7 rfl rfl _ t.length c _ _ (node.toNat + 1) (by omega) (by omega) w)) ?_
|(refine j5 (f := 119) rfl obQ (by kernel_rfl) (fun w hw => af8 (t := t.take (node.toNat + 1)) (by rw [List.length_take]; omega) (ba0 ht (by omega)) w (bd5 (hw.rdm hr.toS memQ) _)) (fun w1P w2P vP hw1P hbP hRP => ?_); obtain ⟨AP, cP, rfl, hSP⟩ := hRP)
|(refine j5 (f := 119) rfl obQ (by kernel_rfl) (fun w hw => af8 (t := t.set node.toNat (opN m)) (by rw [List.length_set]) (bq9 ht (by omega) hcu.2.2) w (hw.rdRow (i := 0) rfl rfl)) (fun w1Q w2Q vQ hw1Q hbQ hRQ => ?_); obtain ⟨AQ, cQ, rfl, hSQ⟩ := hRQ)
|refine e7 ?_
|refine q4 rfl rfl obQ obQ ?_
|refine j9 (fun b => ⟨_, _, rfl, obQ, ?_⟩)
|refine a8 (f := 50) rfl obQ (by kernel_rfl) (fun w hw => o9 _ c t hl w (hw.rdm hr.toS memQ) (r7 hsh hw memQ)) ?_
|refine a8 (f := 112) rfl obQ (by kernel_rfl) (fun w hw => v8 _ _ w) ?_
|refine a8 (f := 116) rfl obQ (by kernel_rfl) (fun w hw => B2 _ w) ?_
|refine a8 (f := 107) rfl obQ (by kernel_rfl) (fun w hw => p6 _ _ [trE t, wh false 10, wi m 0 7] (by simp) w (.inr ⟨_, rfl, hw.src (i := 0) rfl rfl⟩)) ?_)
|refine a7 ?_
|refine j4 rfl obQ (fun w2 hw => ⟨_, rfl, hw.below, McR.of (HW.callSl hw hSP memQ hw1P.bsize) (HW.callSl hw hSQ memQ hw1Q.bsize) rfl⟩))
  · have e1 : cuR t node m = ([], [], cuE t node m) := if_neg hE
    rw [e1]
    have hE' := hE
    unfold cuE at hE'
    by_cases hn0 : node < 0
    · rw [decide_eq_true hn0] at hE'
      have e2 : cuE t node m = firstL [trE t, wh (true || decide ((t.length : Int) - 1 ≤ node)) 10, wi m 0 7] := by unfold cuE; rw [decide_eq_true hn0]
      rw [e2]
      repeat' (first
|(refine j7 ?_; first
|refine e8 ?_
|refine a6 rfl ?_
|refine i6 ?_
|(refine j0 rfl obQ ?_ ?_ <;> intro h <;> (try simp only [cdS] at h) <;> (try (exfalso; omega)) <;> (try exact cdF h) <;> (try contradiction) <;> (try (exfalso; first | omega | exact h hh | exact hh h | exact absurd (hh.symm.trans h) (by decide)))))
|(refine k6 ?_; first
|((with_reducible (first | refine y3 ?_ ?_ | refine x7 ?_ ?_ | refine x9 ?_ ?_ | refine y4 ?_ ?_ | refine x8 ?_ ?_)); · (first | rfl | assumption | omega | exact decide_eq_true (by omega)))
|refine e7 ?_
|refine q4 rfl rfl obQ obQ ?_
|refine j9 (fun b => ⟨_, _, rfl, obQ, ?_⟩)
|refine a8 (f := 50) rfl obQ (by kernel_rfl) (fun w hw => o9 _ c t hl w (hw.rdm hr.toS memQ) (r7 hsh hw memQ)) ?_
|refine a8 (f := 112) rfl obQ (by kernel_rfl) (fun w hw => v8 _ _ w) ?_
|refine a8 (f := 116) rfl obQ (by kernel_rfl) (fun w hw => B2 _ w) ?_
|refine a8 (f := 107) rfl obQ (by kernel_rfl) (fun w hw => p6 _ _ [trE t, wh (true || decide ((t.length : Int) - 1 ≤ node)) 10, wi m 0 7] (by simp) w (.inr ⟨_, rfl, hw.src (i := 0) rfl rfl⟩)) ?_)
|refine a7 ?_
|refine j6 ?_
|refine j4 rfl obQ (fun w2 hw => ⟨_, rfl, hw.below, McR.no _ _ _⟩))
    · rw [decide_eq_false hn0] at hE'
      have e2 : cuE t node m = firstL [trE t, wh (false || decide ((t.length : Int) - 1 ≤ node)) 10, wi m 0 7] := by unfold cuE; rw [decide_eq_false hn0]
      rw [e2]
      repeat' (first
|(refine j7 ?_; first
|refine e8 ?_
|refine a6 rfl ?_
|refine i6 ?_
|(refine j0 rfl obQ ?_ ?_ <;> intro h <;> (try simp only [cdS] at h) <;> (try (exfalso; omega)) <;> (try exact cdF h) <;> (try contradiction) <;> (try (exfalso; first | omega | exact h hh | exact hh h | exact absurd (hh.symm.trans h) (by decide)))))
|(refine k6 ?_; first
|((with_reducible (first | refine r3 ?_ ?_ | refine q6 ?_ ?_ | refine q9 ?_ ?_ | refine q8 ?_ ?_ | refine q7 ?_ ?_)); · (first | rfl | omega | exact decide_eq_false (by omega)))
|refine w8 rfl rfl rfl rfl ?_
|refine e7 ?_
|refine q4 rfl rfl obQ obQ ?_
|refine j9 (fun b => ⟨_, _, rfl, obQ, ?_⟩)
|refine a8 (f := 50) rfl obQ (by kernel_rfl) (fun w hw => o9 _ c t hl w (hw.rdm hr.toS memQ) (r7 hsh hw memQ)) ?_
|refine a8 (f := 112) rfl obQ (by kernel_rfl) (fun w hw => v8 _ _ w) ?_
|refine a8 (f := 116) rfl obQ (by kernel_rfl) (fun w hw => B2 _ w) ?_
|refine a8 (f := 107) rfl obQ (by kernel_rfl) (fun w hw => p6 _ _ [trE t, wh (false || decide ((t.length : Int) - 1 ≤ node)) 10, wi m 0 7] (by simp) w (.inr ⟨_, rfl, hw.src (i := 0) rfl rfl⟩)) ?_)
|refine a7 ?_
|refine j6 ?_
|refine j4 rfl obQ (fun w2 hw => ⟨_, rfl, hw.below, McR.no _ _ _⟩))
def joT (t s : List Nod) (m : Int) (k : Nat) : List Nod := t ++ (ixL (gjF s m) k).map fun i => mvN (gN s i) (tjI t.length s m)
def opB (s : List Nod) (m : Int) (k : Nat) : Bool := decide (gN s k = opN m)
section
variable {t s : List Nod} {m : Int}
theorem bt9 : joT t s m 0 = t := by simp [joT, ixL]
theorem bg2 : joT t s m s.length = joL t s m := rfl
theorem aF6 (k : Nat) : (joT t s m k).length = t.length + toN (gjF s m) k := by simp [joT, toN]
theorem bt2 {k : Nat} (h : opB s m k = true) : joT t s m (k + 1) = joT t s m k := by
  unfold joT
  rw [H8]
  have : gjF s m k = false := by unfold gjF; unfold opB at h; simpa using h
  simp [this]
theorem bx7 {k : Nat} (h : opB s m k = false) : joT t s m (k + 1) = joT t s m k ++ [mvN (gN s k) (tjI t.length s m)] := by
  unfold joT
  rw [H8]
  have : gjF s m k = true := by unfold gjF; unfold opB at h; simpa using h
  simp [this]
theorem bB0 {k : Nat} (h : opB s m k = true) : tjI t.length s m (k : Int) = (t.length : Int) - 1 := by
  unfold tjI
  rw [Int.toNat_natCast, if_pos (by unfold opB at h; simpa using h)]
theorem bB4 {k : Nat} (h : opB s m k = false) : tjI t.length s m (k : Int) = ((joT t s m k).length : Int) := by
  unfold tjI
  rw [Int.toNat_natCast, if_neg (by unfold opB at h; simpa using h), aF6]
  omega
theorem bo7 {k : Nat} {z : Int} (h : 0 ≤ z ∧ z < k + 1 ∧ z < s.length) : gI (upI s.length (fun i : Nat => tjI t.length s m (i : Int)) (fun _ => 0) (k + 1)) z.toNat = tjI t.length s m z := by
  rw [F5 (by rw [D3]; omega)]
  unfold upI
  simp only [List.getElem_map, List.getElem_range]
  rw [if_pos (by omega), Int.toNat_of_nonneg h.1]
theorem ba3 (f : Nat → Bool) (k : Nat) : toN f k ≤ k := aq7 k
end
def joE (t s : List Nod) (m : Int) : Int := firstL [trE t, trE s, wi m 0 7]
def joR (t s : List Nod) (m : Int) : List Nod × Int := if joE t s m = 0 then (if s.any (nqB (opN m)) = true then (if opB s m (s.length - 1) = true then (t, 0) else (if 16 < (joL t s m).length then ([], 5) else (joL t s m, 0))) else ([], 7)) else ([], joE t s m)
theorem bq7 {t s : List Nod} {m : Int} (h : joE t s m = 0) : TrOk t ∧ TrOk s ∧ 0 ≤ m ∧ m ≤ 7 := by
  unfold joE at h
  rw [p9] at h
  simp only [List.mem_cons, List.mem_nil_iff, or_false, forall_eq_or_imp, forall_eq] at h
  rw [D1, G2, G2] at h
  exact h
theorem aY0 (b g : Nat) (n : Nat) (xs : List Int) (hx : xs.length = n) (z : Int) (hz : 0 ≤ z ∧ z < n) (w : World) (hM : w.heap[b]? = some (.cells ([.slice (some ⟨g, 0, none⟩) n n] : List Value).toArray 27 (0, 0))) (hr : Rd w (some ⟨g, 0, none⟩) (xs.map (.int .i64))) : Calls Tryz.prog 123 #[.int .i64 z, .pointer (some ⟨b, 0, none⟩)] w fun r w' => r = .returned (.int .i64 (gI xs z.toNat)) ∧ Below w.heap.size w w' := by
  refine i7 n9 Tryz.func123 rfl Tryz.ntmps123 (Nat.le_of_ble_eq_true rfl) rfl ?_
  repeat' (first
|refine e8 ?_
|refine a6 rfl ?_
|refine i6 ?_
|(refine k6 ?_; first
|refine n4 rfl obQ rfl [.slice (some ⟨g, 0, none⟩) n n] (.cell (_, fun b => b < _) memQ (z8 hM) (w7 hM (o := 0) rfl)) rfl (.inr ⟨rfl, rfl⟩) ?_
|refine n4 rfl obQ rfl [.int .i64 (gI xs z.toNat)] (.past (w, fun b => b < w.heap.size) memQ _ _ hr.toS _ _ rfl rfl (y5 (k := z.toNat) (by omega) (by omega))) rfl (.inr ⟨rfl, rfl⟩) ?_
|refine e7 ?_
|refine e9 rfl rfl obQ obQ ?_)
|refine a7 ?_
|refine j4 rfl obQ (fun w hw => ⟨?_, hw.below⟩))
  rfl
theorem aI4 (A : Option Addr) (c : Nat) (t : List Nod) (hl : t.length ≤ 1000000) (B : Option Addr) (c2 : Nat) (s : List Nod) (hl2 : s.length ≤ 1000000) (m : Int) (w : World) (hr : Rd w A (t.flatMap ndC)) (hr2 : Rd w B (s.flatMap ndC)) (hsh : Sh w) : Calls Tryz.prog 30 #[.slice A t.length c, .slice B s.length c2, .int .i64 m] w fun r w' => ∃ v, r = .returned v ∧ Below w.heap.size w w' ∧ Sl2 w w' v (joR t s m).1.length ((joR t s m).1.flatMap ndC) (.int .i64 (joR t s m).2) := by
  refine i7 n9 Tryz.func30 rfl Tryz.ntmps30 (Nat.le_of_ble_eq_true rfl) rfl ?_
  by_cases hE : joE t s m = 0
  · have hjo := bq7 hE
    have ht := hjo.1
    have hs := hjo.2.1
    have hln := ht.n
    have hln2 := hs.n
    obtain ⟨ad, rfl⟩ := hr.some (by rw [C6]; omega)
    obtain ⟨ad2, rfl⟩ := hr2.some (by rw [C6]; omega)
    have hE' : firstL [trE t, trE s, wi m 0 7] = 0 := hE
    cases hh : s.any (nqB (opN m))
    · have e1 : joR t s m = ([], 7) := by unfold joR; rw [if_pos hE, hh]; rfl
      rw [e1]
      repeat' (first
|(refine j7 ?_; first
|refine e8 ?_
|refine a6 rfl ?_
|refine j3 ?_
|refine i6 ?_
|(refine j0 rfl obQ ?_ ?_ <;> intro h <;> (try simp only [cdS] at h) <;> (try (exfalso; omega)) <;> (try exact cdF h) <;> (try contradiction) <;> (try (exfalso; first | omega | (simp [hh] at h; done) | (simp [hob] at h; done)))))
|(refine k6 ?_; first
|refine e7 ?_
|refine e9 rfl rfl obQ obQ ?_
|refine k7 (fun bb => ⟨_, _, rfl, obQ, ?_⟩)
|refine j9 (fun b => ⟨_, _, rfl, obQ, ?_⟩)
|refine a8 (f := 50) rfl obQ (by kernel_rfl) (fun w hw => o9 _ c t hl w (hw.rdm hr.toS memQ) (r7 hsh hw memQ)) ?_
|refine a8 (f := 50) rfl obQ (by kernel_rfl) (fun w hw => o9 _ c2 s hl2 w (hw.rdm hr2.toS memQ) (r7 hsh hw memQ)) ?_
|refine a8 (f := 116) rfl obQ (by kernel_rfl) (fun w hw => B2 _ w) ?_
|refine a8 (f := 107) rfl obQ (by kernel_rfl) (fun w hw => p6 _ _ [trE t, trE s, wi m 0 7] (by simp) w (.inr ⟨_, rfl, hw.src (i := 0) rfl rfl⟩)) ?_
|refine a8 (f := 120) rfl obQ (by kernel_rfl) (fun w hw => ab2 (opN m) _ c2 s hl2 w (hw.rdm hr2.toS memQ)) ?_)
|refine a7 ?_
|refine j6 ?_
|refine j4 rfl obQ (fun w2 hw => ⟨_, rfl, hw.below, Sl.two (v := .slice none 0 0) (Sl.nil_ _ _) rfl⟩))
    · cases hob : opB s m (s.length - 1)
      · have e1 : joR t s m = (if 16 < (joL t s m).length then ([], 5) else (joL t s m, 0)) := by unfold joR; rw [if_pos hE, hh, hob]; rfl
        rw [e1]
        repeat' (first
|(refine j7 ?_; first
|refine e8 ?_
|refine r9 10 rfl rfl ?_
|refine j3 ?_
|refine n8 (id := 8) 7 [(0, true), (1, true), (2, true), (3, true), (4, true), (5, true), (6, true)] rfl mixed (by kernel_rfl) rfl ?_
|(refine j0 rfl obQ ?_ ?_ <;> intro h <;> (try simp only [cdS] at h) <;> (try (exfalso; omega)) <;> (try exact cdF h) <;> (try contradiction) <;> (try (exfalso; first | omega | (simp [hh] at h; done) | (simp [hob] at h; done)))))
|(refine k6 ?_; first
|(refine J0 161 12 t.length (t.flatMap ndC) (by omega) rfl obQ (by kernel_rfl) (fun w hw => ax9 (some ad) c t.length t rfl (by omega) (fun h => by cases h) w (hw.rdm hr.toS memQ)) (fun g cap => ?_))
|refine j8 (k9 rfl obQ (fun w => ak5 (x := gN s (s.length - 1)) (y := opN m) (b := opB s m (s.length - 1)) rfl _ _ w)) ?_
|refine e7 ?_
|refine e9 rfl rfl obQ obQ ?_
|refine k7 (fun bb => ⟨_, _, rfl, obQ, ?_⟩)
|refine j9 (fun b => ⟨_, _, rfl, obQ, ?_⟩)
|refine a8 (f := 50) rfl obQ (by kernel_rfl) (fun w hw => o9 _ c t hl w (hw.rdm hr.toS memQ) (r7 hsh hw memQ)) ?_
|refine a8 (f := 50) rfl obQ (by kernel_rfl) (fun w hw => o9 _ c2 s hl2 w (hw.rdm hr2.toS memQ) (r7 hsh hw memQ)) ?_
|refine a8 (f := 116) rfl obQ (by kernel_rfl) (fun w hw => B2 _ w) ?_
|refine a8 (f := 107) rfl obQ (by kernel_rfl) (fun w hw => p6 _ _ [trE t, trE s, wi m 0 7] (by simp) w (.inr ⟨_, rfl, hw.src (i := 0) rfl rfl⟩)) ?_
|refine a8 (f := 120) rfl obQ (by kernel_rfl) (fun w hw => ab2 (opN m) _ c2 s hl2 w (hw.rdm hr2.toS memQ)) ?_)
|refine r5 ?_
|refine V_q rfl (q3 rfl obQ rfl [.string (gN s (s.length - 1)).kd, .int .i64 (gN s (s.length - 1)).a, .int .i64 (gN s (s.length - 1)).b, .int .i64 (gN s (s.length - 1)).c, .int .i64 (gN s (s.length - 1)).n, .int .i64 (gN s (s.length - 1)).cl, .int .i64 (gN s (s.length - 1)).ga, .string (gN s (s.length - 1)).w.sh, .int .i64 (gN s (s.length - 1)).w.a, .int .i64 (gN s (s.length - 1)).w.b, .int .i64 (gN s (s.length - 1)).w.at_, .int .i64 (gN s (s.length - 1)).w.soft] (.past (w, fun b => b < w.heap.size) memQ _ _ hr2.toS _ _ rfl rfl (C5 (t := s) (k := s.length - 1) (by omega) (by omega))) rfl (.inl ⟨rfl, rfl⟩)) ?_
|refine V_q rfl (k8 rfl obQ) ?_
|refine a7 ?_)
        obtain ⟨b9, rfl⟩ : ∃ z, z = bb := ⟨bb, rfl⟩
        repeat' (first
|refine e8 ?_
|refine r9 11 rfl rfl ?_
|(refine k6 ?_; first
|refine N5 s.length rfl obQ rfl rfl rfl rfl rfl (by unfold maxLen; dsimp only; omega) (fun g8 => ?_)
|refine e7 ?_
|refine e9 rfl rfl obQ obQ ?_
|refine k7 (fun bc => ⟨_, _, rfl, obQ, ?_⟩))
|refine a7 ?_)
        rw [aI0 s.length (fun i : Nat => tjI t.length s m (i : Int))]
        repeat' (first
|refine a6 rfl ?_
|refine j1 ?_
|refine e7 ?_
|refine e9 rfl rfl obQ obQ ?_
|refine a7 ?_)
        obtain ⟨b11, rfl⟩ : ∃ z, z = bc := ⟨bc, rfl⟩
        refine p7 (fun i : Nat × Option Addr × Nat => ⟨[(47, .s (.v (.int .i64 i.1))), (46, .s (.v (.int .i64 s.length))), (45, .s (.v (.slice (some ad2) s.length c2))), (0, .s (.v (.slice (some ad) t.length c))), (11, .s (.p b11 2 0)), (9, .s (.p b9 1 0)), (10, .s (.r i.2.1 (joT t s m i.1).length i.2.2 0))], [⟨b, 28, [.v (.int .i64 (trE t)), .v (.int .i64 (trE s)), .v (.int .i64 (wi m 0 7))]⟩, ⟨b9, 161, [.v (.string bSrc), .v (.int .i64 0), .v (.int .i64 0), .v (.int .i64 0), .v (.int .i64 m), .v (.int .i64 0), .v (.int .i64 0), .v (.string ByteArray.empty), .v (.int .i64 0), .v (.int .i64 0), .v (.int .i64 0), .v (.int .i64 0)]⟩, ⟨b11, 27, [.r (some ⟨g8, 0, none⟩) s.length s.length 1]⟩], [⟨161, 12, (joT t s m i.1).length, (joT t s m i.1).flatMap ndC, .slice i.2.1 (joT t s m i.1).length i.2.2⟩, ⟨3, 1, s.length, (upI s.length (fun i : Nat => tjI t.length s m (i : Int)) (fun _ => 0) i.1).map (.int .i64), .slice (some ⟨g8, 0, none⟩) s.length s.length⟩]⟩) (fun i => i.1 ≤ s.length) (fun i => s.length - i.1) (0, some ⟨g, 0, none⟩, cap) (Nat.zero_le _) ?_ (fun i hi => ?_)
        · dsimp only
          rw [bt9]
          exact svQ
        obtain ⟨k, A', c'⟩ := i
        have hk : k ≤ s.length := hi
        have hle := aF6 (t := t) (s := s) (m := m) k
        have hle2 := ba3 (gjF s m) k
        dsimp only
        by_cases hlt : k < s.length
        · obtain ⟨kk, hkk⟩ := hs.s k hlt
          have hput := M0 (n := s.length) (k := k) (f := (fun i : Nat => tjI t.length s m (i : Int))) (b := fun _ => 0) (z := (k : Int)) rfl hlt
          cases hok : opB s m k
          · have hst := bx7 (t := t) hok
            have hv := bB4 (t := t) hok
            repeat' (first
|(refine j7 ?_; first
|refine e8 ?_
|refine a6 rfl ?_
|refine j1 ?_
|refine j3 ?_
|(refine j0 rfl obQ ?_ ?_ <;> intro h <;> (try simp only [cdS] at h) <;> (try (exfalso; omega)) <;> (try exact cdF h) <;> (try (exfalso; first | omega | (rw [hok] at h; cases h; done)))))
|(refine k6 ?_; first
|refine n4 rfl obQ rfl [.string (gN s k).kd, .int .i64 (gN s k).a, .int .i64 (gN s k).b, .int .i64 (gN s k).c, .int .i64 (gN s k).n, .int .i64 (gN s k).cl, .int .i64 (gN s k).ga, .string (gN s k).w.sh, .int .i64 (gN s k).w.a, .int .i64 (gN s k).w.b, .int .i64 (gN s k).w.at_, .int .i64 (gN s k).w.soft] (.past (w, fun b => b < w.heap.size) memQ _ _ hr2.toS _ _ rfl rfl (C5 (t := s) (k := k) rfl hlt)) rfl (.inl ⟨rfl, rfl⟩) ?_
|refine j8 (k9 rfl obQ (fun w => ak5 (x := gN s k) (y := opN m) (b := opB s m k) rfl _ _ w)) ?_
|refine r6 rfl obQ rfl rfl rfl 1 rfl rfl (((k : Nat) : Int).toNat * 1) rfl (by dsimp only; rw [List.length_map, D3]; omega) (xs' := (upI s.length (fun i : Nat => tjI t.length s m (i : Int)) (fun _ => 0) (k + 1)).map (.int .i64)) (by rw [← hv]; exact hput) rfl ?_
|refine a8 (f := 122) rfl obQ (by kernel_rfl) (fun w hw => at0 (q := 123) (tof := tjI t.length s m) (by kernel_rfl) (gN s k) kk hkk.kd w (fun z hz W hW => (by have hzb := hkk.ins z hz; have h1 := aY0 b11 g8 s.length (upI s.length (fun i : Nat => tjI t.length s m (i : Int)) (fun _ => 0) (k + 1)) (D3) z (by omega) W ((hW.block b11 (HW.bxAt hw (i := 2) rfl rfl).1.2).trans (HW.bxAt hw (i := 2) rfl rfl).2) ((hw.rdRow (i := 1) rfl rfl).below hW); rw [bo7 (by omega)] at h1; exact h1))) ?_
|refine w9 rfl obQ rfl rfl rfl ⟨by decide, rfl⟩ rfl ⟨rfl, rfl, rfl, rfl⟩ [.string (mvN (gN s k) (tjI t.length s m)).kd, .int .i64 (mvN (gN s k) (tjI t.length s m)).a, .int .i64 (mvN (gN s k) (tjI t.length s m)).b, .int .i64 (mvN (gN s k) (tjI t.length s m)).c, .int .i64 (mvN (gN s k) (tjI t.length s m)).n, .int .i64 (mvN (gN s k) (tjI t.length s m)).cl, .int .i64 (mvN (gN s k) (tjI t.length s m)).ga, .string (mvN (gN s k) (tjI t.length s m)).w.sh, .int .i64 (mvN (gN s k) (tjI t.length s m)).w.a, .int .i64 (mvN (gN s k) (tjI t.length s m)).w.b, .int .i64 (mvN (gN s k) (tjI t.length s m)).w.at_, .int .i64 (mvN (gN s k) (tjI t.length s m)).w.soft] ⟨by decide, rfl⟩ (by simp [Value.oneCell']) (fun w hw => by first | exact hw.src (i := 0) rfl rfl | exact hw.src (i := 1) rfl rfl | exact hw.src (i := 2) rfl rfl | exact hw.src (i := 3) rfl rfl | exact hw.src (i := 4) rfl rfl | exact hw.src (i := 5) rfl rfl | exact hw.src (i := 6) rfl rfl | exact hw.src (i := 7) rfl rfl | exact hw.src (i := 8) rfl rfl) (by unfold maxLen; dsimp only; omega) (fun gb cap' => ⟨_, rfl, ?_⟩)
|refine e7 ?_
|refine e9 rfl rfl obQ obQ ?_
|refine k7 (fun bd => ⟨_, _, rfl, obQ, ?_⟩)
|refine j9 (fun b => ⟨_, _, rfl, obQ, ?_⟩))
|refine o6 (k + 1, some ⟨gb, 0, none⟩, cap') (show k + 1 ≤ s.length by omega) (by show s.length - (k + 1) < s.length - k; omega) (by dsimp only; rw [hst, List.flatMap_append, List.length_append]; exact svQ)
|refine a7 ?_
|refine n5 ?_)
          · have hst := bt2 (t := t) hok
            have hv := bB0 (t := t) hok
            repeat' (first
|(refine j7 ?_; first
|refine e8 ?_
|refine a6 rfl ?_
|refine j1 ?_
|refine j3 ?_
|refine o0 ?_
|(refine j0 rfl obQ ?_ ?_ <;> intro h <;> (try simp only [cdS] at h) <;> (try (exfalso; omega)) <;> (try exact cdF h) <;> (try (exfalso; first | omega | (rw [hok] at h; cases h; done)))))
|(refine k6 ?_; first
|refine n4 rfl obQ rfl [.string (gN s k).kd, .int .i64 (gN s k).a, .int .i64 (gN s k).b, .int .i64 (gN s k).c, .int .i64 (gN s k).n, .int .i64 (gN s k).cl, .int .i64 (gN s k).ga, .string (gN s k).w.sh, .int .i64 (gN s k).w.a, .int .i64 (gN s k).w.b, .int .i64 (gN s k).w.at_, .int .i64 (gN s k).w.soft] (.past (w, fun b => b < w.heap.size) memQ _ _ hr2.toS _ _ rfl rfl (C5 (t := s) (k := k) rfl hlt)) rfl (.inl ⟨rfl, rfl⟩) ?_
|refine j8 (k9 rfl obQ (fun w => ak5 (x := gN s k) (y := opN m) (b := opB s m k) rfl _ _ w)) ?_
|refine r6 rfl obQ rfl rfl rfl 1 rfl rfl (((k : Nat) : Int).toNat * 1) rfl (by dsimp only; rw [List.length_map, D3]; omega) (xs' := (upI s.length (fun i : Nat => tjI t.length s m (i : Int)) (fun _ => 0) (k + 1)).map (.int .i64)) (by rw [← hv]; exact hput) rfl ?_
|refine e7 ?_
|refine e9 rfl rfl obQ obQ ?_
|refine k7 (fun bd => ⟨_, _, rfl, obQ, ?_⟩))
|(refine o8 ?_; first
|refine o6 (k + 1, A', c') (show k + 1 ≤ s.length by omega) (by show s.length - (k + 1) < s.length - k; omega) (by dsimp only; rw [hst]; exact svQ)
|refine a7 ?_
|refine n2 ?_
|refine n6 ?_))
        · obtain rfl : k = s.length := by omega
          rw [bg2] at *
          repeat' (first
|(refine j7 ?_; first
|refine e8 ?_
|refine a6 rfl ?_
|refine j3 ?_
|refine o0 ?_
|refine i6 ?_
|(refine j0 rfl obQ ?_ ?_ <;> intro h <;> (try simp only [cdS] at h) <;> (try (exfalso; omega)) <;> (try exact cdF h) <;> (try (exfalso; omega))))
|refine e7 ?_
|refine e9 rfl rfl obQ obQ ?_
|(refine o8 ?_; first
|refine a7 ?_
|refine n2 ?_
|refine j6 ?_
|refine n6 ?_
           | first | (rw [if_pos (by omega)]; refine j4 rfl obQ (fun w2 hw => ⟨_, rfl, hw.below, Sl.two (v := .slice none 0 0) (Sl.nil_ _ _) rfl⟩)) | (rw [if_neg (by omega)]; refine j4 rfl obQ (fun w2 hw => ⟨_, rfl, hw.below, Sl.two (HW.rowSl (i := 0) hw rfl rfl rfl rfl) rfl⟩))))
      · have e1 : joR t s m = (t, 0) := by unfold joR; rw [if_pos hE, hh, hob]; rfl
        rw [e1]
        repeat' (first
|(refine j7 ?_; first
|refine e8 ?_
|refine a6 rfl ?_
|refine j3 ?_
|refine i6 ?_
|refine n8 (id := 8) 7 [(0, true), (1, true), (2, true), (3, true), (4, true), (5, true), (6, true)] rfl mixed (by kernel_rfl) rfl ?_
|(refine j0 rfl obQ ?_ ?_ <;> intro h <;> (try simp only [cdS] at h) <;> (try (exfalso; omega)) <;> (try exact cdF h) <;> (try contradiction) <;> (try (exfalso; first | omega | (simp [hh] at h; done) | (simp [hob] at h; done)))))
|(refine k6 ?_; first
|(refine J0 161 12 t.length (t.flatMap ndC) (by omega) rfl obQ (by kernel_rfl) (fun w hw => ax9 (some ad) c t.length t rfl (by omega) (fun h => by cases h) w (hw.rdm hr.toS memQ)) (fun g cap => ?_))
|refine j8 (k9 rfl obQ (fun w => ak5 (x := gN s (s.length - 1)) (y := opN m) (b := opB s m (s.length - 1)) rfl _ _ w)) ?_
|refine e7 ?_
|refine e9 rfl rfl obQ obQ ?_
|refine k7 (fun bb => ⟨_, _, rfl, obQ, ?_⟩)
|refine j9 (fun b => ⟨_, _, rfl, obQ, ?_⟩)
|refine a8 (f := 50) rfl obQ (by kernel_rfl) (fun w hw => o9 _ c t hl w (hw.rdm hr.toS memQ) (r7 hsh hw memQ)) ?_
|refine a8 (f := 50) rfl obQ (by kernel_rfl) (fun w hw => o9 _ c2 s hl2 w (hw.rdm hr2.toS memQ) (r7 hsh hw memQ)) ?_
|refine a8 (f := 116) rfl obQ (by kernel_rfl) (fun w hw => B2 _ w) ?_
|refine a8 (f := 107) rfl obQ (by kernel_rfl) (fun w hw => p6 _ _ [trE t, trE s, wi m 0 7] (by simp) w (.inr ⟨_, rfl, hw.src (i := 0) rfl rfl⟩)) ?_
|refine a8 (f := 120) rfl obQ (by kernel_rfl) (fun w hw => ab2 (opN m) _ c2 s hl2 w (hw.rdm hr2.toS memQ)) ?_)
|refine r5 ?_
|refine V_q rfl (q3 rfl obQ rfl [.string (gN s (s.length - 1)).kd, .int .i64 (gN s (s.length - 1)).a, .int .i64 (gN s (s.length - 1)).b, .int .i64 (gN s (s.length - 1)).c, .int .i64 (gN s (s.length - 1)).n, .int .i64 (gN s (s.length - 1)).cl, .int .i64 (gN s (s.length - 1)).ga, .string (gN s (s.length - 1)).w.sh, .int .i64 (gN s (s.length - 1)).w.a, .int .i64 (gN s (s.length - 1)).w.b, .int .i64 (gN s (s.length - 1)).w.at_, .int .i64 (gN s (s.length - 1)).w.soft] (.past (w, fun b => b < w.heap.size) memQ _ _ hr2.toS _ _ rfl rfl (C5 (t := s) (k := s.length - 1) (by omega) (by omega))) rfl (.inl ⟨rfl, rfl⟩)) ?_
|refine V_q rfl (k8 rfl obQ) ?_
|refine a7 ?_
|refine j6 ?_
|refine j4 rfl obQ (fun w2 hw => ⟨_, rfl, hw.below, Sl.two (HW.rowSl (i := 0) hw rfl rfl rfl rfl) rfl⟩))
  · have e1 : joR t s m = ([], joE t s m) := if_neg hE
    rw [e1]
    repeat' (first
|(refine j7 ?_; first
|refine e8 ?_
|refine a6 rfl ?_
|refine i6 ?_
|(refine j0 rfl obQ ?_ ?_ <;> intro h <;> (try simp only [cdS] at h) <;> (try (exfalso; omega)) <;> (try exact cdF h) <;> (try contradiction)))
|(refine k6 ?_; first
|refine e7 ?_
|refine e9 rfl rfl obQ obQ ?_
|refine j9 (fun b => ⟨_, _, rfl, obQ, ?_⟩)
|refine a8 (f := 50) rfl obQ (by kernel_rfl) (fun w hw => o9 _ c t hl w (hw.rdm hr.toS memQ) (r7 hsh hw memQ)) ?_
|refine a8 (f := 50) rfl obQ (by kernel_rfl) (fun w hw => o9 _ c2 s hl2 w (hw.rdm hr2.toS memQ) (r7 hsh hw memQ)) ?_
|refine a8 (f := 116) rfl obQ (by kernel_rfl) (fun w hw => B2 _ w) ?_
|refine a8 (f := 107) rfl obQ (by kernel_rfl) (fun w hw => p6 _ _ [trE t, trE s, wi m 0 7] (by simp) w (.inr ⟨_, rfl, hw.src (i := 0) rfl rfl⟩)) ?_)
|refine a7 ?_
|refine j6 ?_
|refine j4 rfl obQ (fun w2 hw => ⟨_, rfl, hw.below, Sl.two (v := .slice none 0 0) (Sl.nil_ _ _) rfl⟩))
end Go.Proofs.YtjkgklhjbopoaaaGreatDoor
