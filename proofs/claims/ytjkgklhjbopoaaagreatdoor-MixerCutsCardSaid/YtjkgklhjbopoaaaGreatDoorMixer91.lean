/- What the law of cuts calls: a film that is handed over; banks, plain laws. -/
import Derived.Test.YtjkgklhjbopoaaaGreatDoorMixer87
import Derived.Test.YtjkgklhjbopoaaaGreatDoorMixer73
namespace Go.Proofs.YtjkgklhjbopoaaaGreatDoor
open Go.E Go.RowKit Go.Fl
attribute [local irreducible] G C S D Calls
set_option maxRecDepth 100000
set_option linter.all false
set_option maxHeartbeats 8000000
theorem S_callMW {X : Cx} {Ps : Past} {l0 rest : List Oper} {Q : Exit → Act → World → Prop} {o : Oper} {sl : List (Nat × AV)} {bx : List Bx} {rw : List Rw} (e sz : Nat) {f : FuncId} {args : List Value} {d : Nat} {ob : List Prop} {R : World → World → Value → (Nat → Prop) → Nat → List Value → Prop} (h : callV X.N o ⟨sl, bx, rw⟩ = some (f, args, d, ob)) (hob : AllP ob) (he : entB X.P f = true)
    (hc : ∀ w, HW X.B X.w0 Ps ⟨sl, bx, rw⟩ w → Calls X.P f args.toArray w fun r w' => ∃ v n xs T, r = .returned v ∧ Below w.heap.size w w' ∧ w'.ownsRow w.heap.size e sz v n xs ∧ (∀ b, T b → w.heap.size ≤ b ∧ b < w'.heap.size ∧ v.ownBlock ≠ some b) ∧ R w w' v T n xs)
    (k : ∀ w1 w2 v T n xs, Below w1.heap.size w1 w2 → R w1 w2 v T n xs → S X ((w2, T) :: Ps) l0 Q rest ⟨(d, .s (.v v)) :: sl, bx, rw ++ [⟨e, sz, n, xs, v⟩]⟩) : S X Ps l0 Q (o :: rest) ⟨sl, bx, rw⟩ := by
  unfold S at k ⊢
  intro a w ha hw
  obtain ⟨hg, hd, hlt, hr⟩ := callV_run (w := w) (P := X.P) ha h hob he
  refine wpl_step fun K hK => ?_
  rw [wanted_none hg, if_pos rfl]
  unfold Oper.wp
  rw [hr, Oper.upon_enter]
  refine (hc w hw).mono ?_
  rintro r w' ⟨v, n, xs, T, rfl, hb, hown, hT, hR⟩
  rw [hd]
  have hw1 := hw.ext hb
  have hw2 : HW X.B X.w0 Ps ⟨(d, .s (.v v)) :: sl, bx, rw ++ [⟨e, sz, n, xs, v⟩]⟩ w' := HW.addRows [⟨e, sz, n, xs, v⟩] hw1 (fun r hr => by
    obtain rfl := List.mem_singleton.1 hr
    exact ownsRow_base hown hw.bsize) (fun r hr g hg' => by
    obtain rfl := List.mem_singleton.1 hr
    have hge := (ownsRow_blockLt hown hg').2
    exact ⟨fun x hx e => by have := hw.lt (x := x) hx; omega, fun p hp hpb => by have := (hw.past p hp g hpb).1.1; omega, fun s hs e => by have := (ownsRow_blockLt (hw.row s hs).1 e).1; omega⟩) (by simp)
  refine hK _ _ (k w w' v T n xs hb hR _ w' (ha.put hlt (.s (.v v)) rfl) ⟨hw2.below, hw2.bsize, hw2.nodup, hw2.box, fun p hp b hpb => ?_, fun r hr => ?_, hw2.apart, fun p hp => ?_⟩)
  · rw [List.mem_cons] at hp
    rcases hp with rfl | hp
    · exact ⟨⟨(hT b hpb).2.1, rfl⟩, fun x hx e => by have := hw.lt (x := x) hx; have := (hT b hpb).1; omega⟩
    · exact hw2.past p hp b hpb
  · obtain ⟨g1, g2⟩ := hw2.row r hr
    refine ⟨g1, fun g hg => ⟨(g2 g hg).1, fun p hp => ?_⟩⟩
    rw [List.mem_cons] at hp
    rcases hp with rfl | hp
    · intro hpb
      rcases List.mem_append.1 hr with hr | hr
      · have := (ownsRow_blockLt (hw.row r hr).1 hg).1
        have := (hT g hpb).1
        omega
      · obtain rfl := List.mem_singleton.1 hr
        exact (hT g hpb).2.2 hg
    · exact (g2 g hg).2 p hp
  · rw [List.mem_cons] at hp
    rcases hp with rfl | hp
    · exact Nat.le_refl _
    · exact hw2.old p hp
def FilmW (l : List PV') (w' : World) (v : Value) (T : Nat → Prop) (n : Nat) (xs : List Value) : Prop := ∃ (A : Option Addr) (c : Nat) (l' : List PV'), v = .slice A l.length c ∧ n = l.length ∧ xs = l'.flatMap pvC ∧ l'.map (·.p) = l.map (·.p) ∧ ∀ x ∈ l', RdS T w' x.A (x.p.s.map (.float .f32))
theorem lpicturesW_c (A : Option Addr) (c : Nat) (l : List PV') (hl : l.length ≤ 1000000) (hs : ∀ x ∈ l, x.p.s.length ≤ 1000000) (hAs : ∀ x ∈ l, x.A = none → x.p.s.length = 0 ∧ x.c = 0) (w : World) (hr : Rd w A (l.flatMap pvC)) (hrs : ∀ x ∈ l, Rd w x.A (x.p.s.map (.float .f32))) : Calls Tryz.prog 66 #[.slice A l.length c] w fun r w' => ∃ v n xs T, r = .returned v ∧ Below w.heap.size w w' ∧ w'.ownsRow w.heap.size 70 4 v n xs ∧ (∀ b, T b → w.heap.size ≤ b ∧ b < w'.heap.size ∧ v.ownBlock ≠ some b) ∧ FilmW l w' v T n xs := by
  refine calls_of T_ok Tryz.func66 rfl Tryz.ntmps66 (Nat.le_of_ble_eq_true rfl) rfl ?_
  repeat' (first
|refine C_seq ?_
|refine C_region rfl ?_
|refine C_block ?_
|refine S_nil ?_
|refine S_run rfl rfl obQ obQ ?_
|refine S_box (fun b => ⟨_, _, rfl, obQ, ?_⟩)
|refine G_then ?_)
  refine C_row0 3 70 4 rfl ?_
  refine C_loopF (fun i : Nat × World × (Nat → Prop) × List PV' × Option Addr × Nat => ([(i.2.1, i.2.2.1), (w, fun b => b < w.heap.size)], (⟨[(3, .s (.r i.2.2.2.2.1 i.1 i.2.2.2.2.2 0)), (6, .s (.v (.slice A l.length c))), (7, .s (.v (.int .i64 l.length))), (8, .s (.v (.int .i64 i.1)))], [], [⟨70, 4, i.1, i.2.2.2.1.flatMap pvC, .slice i.2.2.2.2.1 i.1 i.2.2.2.2.2⟩]⟩ : St))) (fun i => i.1 ≤ l.length ∧ i.2.2.2.1.map (·.p) = (l.take i.1).map (·.p) ∧ (∀ x ∈ i.2.2.2.1, RdS i.2.2.1 i.2.1 x.A (x.p.s.map (.float .f32))) ∧ ∀ b, i.2.2.1 b → w.heap.size ≤ b) (fun i => l.length - i.1) (fun w1 => (0, w1, (fun _ => False), [], none, 0)) (fun w1 hw1 => ⟨⟨Nat.zero_le _, rfl, (fun x hx => by cases hx), (fun b hb => hb.elim)⟩, by exact ⟨_, rfl, obQ⟩, by exact HW.pastF (HW.same hw1 rfl rfl)⟩) (fun i hi => ?_)
  obtain ⟨k, W, S, l', A', c'⟩ := i
  obtain ⟨hk, hmp, hS, hB⟩ := hi
  dsimp only at hk hmp hS hB ⊢
  by_cases hlt : k < l.length
  · obtain ⟨ad, rfl⟩ := hr.some (by rw [pv_len]; omega)
    repeat' (first
|(refine C_id ?_; first
|refine C_seq ?_
|refine C_region rfl ?_
|refine C_block ?_
|refine C_skip ?_
|(refine C_cond rfl obQ ?_ ?_ <;> intro h <;> (try simp only [cdS] at h) <;> (try (exfalso; omega)) <;> (try exact cdF h) <;> (try (exfalso; omega))))
|(refine S_id ?_; first
|refine S_load rfl obQ rfl [.string (gQ l k).p.nm, .int .i64 (gQ l k).p.w, .int .i64 (gQ l k).p.h, .slice (gQ l k).A (gQ l k).p.s.length (gQ l k).c] (.past (w, fun b => b < w.heap.size) memQ _ _ hr.toS _ _ rfl rfl (gQ_idx hlt)) rfl (.inl ⟨rfl, rfl⟩) ?_
|(refine S_callM (f := 42) rfl obQ (by kernel_rfl) (fun w hw => lgiven_c (gQ l k).p (gQ l k).A (gQ l k).c (hs _ (gQ_mem hlt)) (hAs _ (gQ_mem hlt)) w (hw.rdm (hrs _ (gQ_mem hlt)).toS memQ)) (fun w1O w2O vO hw1O hbO hRO => ?_); obtain ⟨AO, cO, rfl, hSO⟩ := hRO)
|refine S_append rfl obQ rfl rfl rfl ⟨by decide, rfl⟩ rfl ⟨rfl, rfl, rfl, rfl⟩ [.string (gQ l k).p.nm, .int .i64 (gQ l k).p.w, .int .i64 (gQ l k).p.h, .slice AO (gQ l k).p.s.length cO] ⟨by decide, rfl⟩ (by simp [Value.oneCell']) (fun w hw => by first | exact hw.src (i := 0) rfl rfl | exact hw.src (i := 1) rfl rfl | exact hw.src (i := 2) rfl rfl | exact hw.src (i := 3) rfl rfl | exact hw.src (i := 4) rfl rfl | exact hw.src (i := 5) rfl rfl | exact hw.src (i := 6) rfl rfl | exact hw.src (i := 7) rfl rfl | exact hw.src (i := 8) rfl rfl) (by unfold maxLen; dsimp only; omega) (fun gb cap' => ⟨_, rfl, ?_⟩)
|refine S_nil ?_
|refine S_run rfl rfl obQ obQ ?_
|refine S_box (fun b0 => ⟨_, _, rfl, obQ, ?_⟩)
|refine S_slice (fun b => ⟨_, _, rfl, obQ, ?_⟩))
|refine G_loopF (fun w3 => (k + 1, w3, fun b => (w1O.heap.size ≤ b ∧ b < w2O.heap.size) ∨ S b, l' ++ [⟨(gQ l k).p, AO, cO⟩], some ⟨gb, 0, none⟩, cap')) (fun w3 hw3 => ⟨⟨hlt, film_snoc hlt hmp AO cO, snoc_all (fun x hx => rdS_turn hw3 (hS x hx) memQ (fun b hb _ => .inr hb)) (rdS_turn hw3 hSO memQ (fun b hb _ => .inl hb)), (fun b hb => hb.elim (fun h => Nat.le_trans (show w.heap.size ≤ w1O.heap.size from hw1O.bsize) h.1) (hB b))⟩, (by show l.length - (k + 1) < l.length - k; omega), (by exact ⟨_, rfl, obQ⟩), (by exact HW.join (W1 := w2O) (S1 := (fun b => w1O.heap.size ≤ b ∧ b < w2O.heap.size)) (W2 := W) (S2 := S) (Serves.hw (Ps' := (w2O, (fun b => w1O.heap.size ≤ b ∧ b < w2O.heap.size)) :: (W, S) :: [(w, fun b => b < w.heap.size)]) ⟨⟨_, rfl, obQ⟩, ⟨_, rfl⟩, (by dsimp only; rw [List.flatMap_append]; rfl), psQ⟩ hw3))⟩)
|refine G_then ?_
|refine G_block ?_)
  · obtain rfl : k = l.length := by omega
    repeat' (first
|(refine C_id ?_; first
|refine C_seq ?_
|refine C_region rfl ?_
|refine C_block ?_
|refine C_skip ?_
|refine C_exit ?_
|refine C_ret0 ?_
|refine C_condT rfl obQ ?_
|refine C_condF rfl obQ ?_
|(refine C_cond rfl obQ ?_ ?_ <;> intro h <;> (try simp only [cdS] at h) <;> (try (exfalso; omega)) <;> (try exact cdF h) <;> (try (exfalso; omega))))
|(refine S_id ?_; first
|refine S_nil ?_
|refine S_run rfl rfl obQ obQ ?_
|refine S_box (fun b => ⟨_, _, rfl, obQ, ?_⟩)
|refine S_slice (fun b => ⟨_, _, rfl, obQ, ?_⟩))
|(refine G_id ?_; first
|refine G_then ?_
|refine G_block ?_
|refine G_blockX ?_
|refine G_blockN rfl ?_
|refine G_blockR ?_
|refine G_thenR ?_
|refine G_thenX ?_
|refine G_ret rfl obQ (fun w2 hw => ⟨_, _, _, S, rfl, hw.below, HW.ownRow (i := 0) hw rfl rfl rfl rfl, (fun b hb => ⟨hB b hb, (hw.past (W, S) memQ b hb).1.1, fun e => ((hw.row _ (nth_mem (i := 0) rfl)).2 b e).2 (W, S) memQ hb⟩), A', c', l', rfl, rfl, rfl, take_p hmp, fun x hx => rdS_turn hw (hS x hx) memQ (fun b hb _ => hb)⟩)))
section
variable {t : List Nod} {l : List PV'} {W H j : Nat}
def bkP (t : List Nod) (j : Nat) : List Nod := prF (t.take (j + 1))
def bkQ (t : List Nod) (j : Nat) (m : Int) : List Nod := prF (t.set j (opN m))
theorem bkP_tr (ht : TrOk t) (hj : j < t.length) : TrOk (bkP t j) := pr_tr (take_tr ht hj)
theorem bkQ_tr (ht : TrOk t) (hj : j < t.length) {m : Int} (hm : 0 ≤ m ∧ m ≤ 7) : TrOk (bkQ t j m) := pr_tr (set_tr ht hj hm)
theorem prF_le (t : List Nod) : (prF t).length ≤ t.length := by
  rw [pr_len]
  exact toN_le _
theorem bk_len (hj : j < t.length) (m : Int) : (bkP t j).length ≤ t.length ∧ (bkQ t j m).length ≤ t.length := by
  have h1 := prF_le (t.take (j + 1))
  have h2 := prF_le (t.set j (opN m))
  rw [List.length_take] at h1
  rw [List.length_set] at h2
  exact ⟨by unfold bkP; omega, h2⟩
theorem sc_src {z : Nat} : z ∈ scL t ↔ z < 8 ∧ hasS t z = true := by
  unfold scL
  rw [List.mem_filter, List.mem_range]
theorem hasS_take {k : Nat} {z : Int} (h : hasS (t.take k) z = true) : hasS t z = true := by
  obtain ⟨x, hx, h1⟩ := hasS_iff.1 h
  exact hasS_iff.2 ⟨x, List.mem_of_mem_take hx, h1⟩
theorem hasS_bd (ht : TrOk t) (hp : PcOk t l) {z : Int} (h : hasS t z = true) : 0 ≤ z ∧ z.toNat < l.length := by
  obtain ⟨x, hx, h1, h2⟩ := hasS_iff.1 h
  obtain ⟨i, hi, rfl⟩ := List.getElem_of_mem hx
  have := src_pic ht hp hi (by rw [gN_at hi, h1]; exact if_pos rfl)
  rw [gN_at hi, h2] at this
  exact this
theorem cut_of (ht : TrOk t) (hp : PcOk t l) (hj : j + 1 < t.length) (h7 : l.length ≤ 7) : cuR t (j : Int) (l.length : Int) = (bkP t j, bkQ t j l.length, 0) := by
  have h1 : cuE t (j : Int) (l.length : Int) = 0 := by
    unfold cuE
    rw [tr_ok.2 ht, decide_eq_false (show ¬ (j : Int) < 0 by omega), decide_eq_false (show ¬ (t.length : Int) - 1 ≤ (j : Int) by omega), (wi_eq _ _ _).2 (show 0 ≤ (l.length : Int) ∧ (l.length : Int) ≤ 7 by omega)]
    rfl
  have h2 : (scI t).any (eqB (l.length : Int)) = false := by
    rw [any_eqB, decide_eq_false_iff_not]
    intro h
    unfold scI at h
    obtain ⟨k, hk, e⟩ := List.mem_map.1 h
    have := hp.src k hk
    omega
  unfold cuR
  rw [if_pos h1, h2]
  rfl
theorem bkP_pc (ht : TrOk t) (hp : PcOk t l) : PcOk (bkP t j) l := ⟨hp.n, hp.s, hp.sz, fun k hk => hp.src k (by
  rw [sc_src] at hk ⊢
  exact ⟨hk.1, hasS_take (pr_src hk.2)⟩)⟩
theorem ti_ok (ht : TrOk t) (hp : PcOk t l) (hW : (gQ l 0).p.w = (W : Int)) (hH : (gQ l 0).p.h = (H : Int)) : PicOk (tiP t l W 0 W 0 H) := by
  have h0 := hp.s _ (gQ_mem (show 0 < l.length by have := hp.n; omega))
  have hw := h0.w
  have hh := h0.h
  refine ⟨h0.nm, by show 1 ≤ (W : Int) - ((0 : Nat) : Int) ∧ (W : Int) - ((0 : Nat) : Int) ≤ 64; omega, by show 1 ≤ (H : Int) - ((0 : Nat) : Int) ∧ (H : Int) - ((0 : Nat) : Int) ≤ 64; omega, ?_, ?_⟩
  · have e1 : (tiP t l W 0 W 0 H).s.length = (H - 0) * (W - 0) := by unfold tiP; rw [wi_len, tl_len]
    show ((tiP t l W 0 W 0 H).s.length : Int) = ((W : Int) - ((0 : Nat) : Int)) * ((H : Int) - ((0 : Nat) : Int))
    rw [e1, Nat.sub_zero, Nat.sub_zero]
    simp [Int.mul_comm]
  · intro b hb
    obtain ⟨n, hn, rfl⟩ := List.mem_map.1 hb
    exact smp_Smp (lvB_iff.1 (tl_bd ht hp hW hH (Nat.le_refl _) (Nat.le_refl _)) n hn)
theorem ti_lv (ht : TrOk t) (hp : PcOk t l) (hW : (gQ l 0).p.w = (W : Int)) (hH : (gQ l 0).p.h = (H : Int)) {x y : Nat} (hx : x < W) (hy : y < H) : lvl (gB (tiP t l W 0 W 0 H).s (y * W + x)) = plF t l W x y := by
  have h1 := tl_at (t := t) (l := l) hx hy
  have h2 := (pl_bd ht hp hW hH hx hy)
  have e : gB (tiP t l W 0 W 0 H).s (y * W + x) = smp (plF t l W x y) := by
    unfold gB tiP wiP
    dsimp only
    rw [List.getD_eq_getElem?_getD, List.getElem?_map, h1]
    rfl
  rw [e, smp_lvl (by omega)]
theorem gQ_app (h0 : 0 < l.length) (k : PV') : gQ (l ++ [k]) 0 = gQ l 0 := by
  unfold gQ
  rw [List.getD_eq_getElem?_getD, List.getD_eq_getElem?_getD, List.getElem?_append_left h0]
theorem bkQ_pc (ht : TrOk t) (hp : PcOk t l) (hj : j < t.length) (h7 : l.length ≤ 7) (hW : (gQ l 0).p.w = (W : Int)) (hH : (gQ l 0).p.h = (H : Int)) {k : PV'} (hk : k.p = tiP (bkP t j) l W 0 W 0 H) : PcOk (bkQ t j l.length) (l ++ [k]) := by
  have h0 : 0 < l.length := hp.n.1
  refine ⟨by rw [List.length_append]; simp; omega, fun x hx => ?_, fun x hx => ?_, fun z hz => ?_⟩
  · rcases List.mem_append.1 hx with hx | hx
    · exact hp.s x hx
    · obtain rfl := List.mem_singleton.1 hx
      rw [hk]
      exact ti_ok (bkP_tr ht hj) (bkP_pc ht hp) hW hH
  · rw [gQ_app h0]
    rcases List.mem_append.1 hx with hx | hx
    · exact hp.sz x hx
    · obtain rfl := List.mem_singleton.1 hx
      rw [hk, hW, hH]
      exact ⟨by show (W : Int) - ((0 : Nat) : Int) = W; omega, by show (H : Int) - ((0 : Nat) : Int) = H; omega⟩
  · rw [sc_src] at hz
    rw [List.length_append]
    rcases set_src (pr_src hz.2) with h | h
    · simp; omega
    · have := hasS_bd ht hp h
      simp; omega
theorem bk_lv (ht : TrOk t) (hp : PcOk t l) (hj : j < t.length) (hW : (gQ l 0).p.w = (W : Int)) (hH : (gQ l 0).p.h = (H : Int)) {k : PV'} (hk : k.p = tiP (bkP t j) l W 0 W 0 H) {x y : Nat} (hx : x < W) (hy : y < H) : lvl (gB k.p.s (y * W + x)) = gV (vaN t (srF l W x y) (x : Int) (y : Int) t.length) (j : Int) := by
  rw [hk, ti_lv (bkP_tr ht hj) (bkP_pc ht hp) hW hH hx hy]
  have h2 := tl_at (t := bkP t j) (l := l) hx hy
  unfold bkP at h2
  rw [tl_bank ht hj, Nat.sub_zero, Nat.sub_zero, rm_at _ hx hy, Nat.zero_add, Nat.zero_add] at h2
  exact (Option.some.inj h2).symm
theorem bkQ_ti (ht : TrOk t) (hp : PcOk t l) (hj : j < t.length) (h7 : l.length ≤ 7) (hW : (gQ l 0).p.w = (W : Int)) (hH : (gQ l 0).p.h = (H : Int)) {k : PV'} (hk : k.p = tiP (bkP t j) l W 0 W 0 H) : tiP (bkQ t j l.length) (l ++ [k]) W 0 W 0 H = tiP t l W 0 W 0 H := by
  unfold tiP tiH
  rw [gQ_app hp.n.1]
  unfold bkQ
  rw [tl_cut ht hp hj k h7 (fun x y hx hy => bk_lv ht hp hj hW hH hk hx hy)]
def bkJ (t : List Nod) (j : Nat) (m : Int) : List Nod := if opB (bkQ t j m) m ((bkQ t j m).length - 1) = true then bkP t j else joL (bkP t j) (bkQ t j m) m
theorem bkJ_len (hj : j < t.length) (h7 : t.length ≤ 7) (m : Int) : (joL (bkP t j) (bkQ t j m) m).length ≤ 16 := by
  have := bk_len hj m
  have := jo_len (a := bkP t j) (b := bkQ t j m) (m := m)
  have := toN_le (f := gjF (bkQ t j m) m) (bkQ t j m).length
  omega
theorem joE_of (ht : TrOk t) (hj : j < t.length) {m : Int} (hm : 0 ≤ m ∧ m ≤ 7) : joE (bkP t j) (bkQ t j m) m = 0 := by
  unfold joE
  rw [tr_ok.2 (bkP_tr ht hj), tr_ok.2 (bkQ_tr ht hj hm), (wi_eq _ _ _).2 hm]
  rfl
theorem join_no (ht : TrOk t) (hj : j < t.length) {m : Int} (hm : 0 ≤ m ∧ m ≤ 7) (hh : (bkQ t j m).any (nqB (opN m)) = false) : joR (bkP t j) (bkQ t j m) m = ([], 7) := by
  unfold joR
  rw [if_pos (joE_of ht hj hm), hh]
  rfl
theorem join_of (ht : TrOk t) (hj : j < t.length) (h7 : t.length ≤ 7) {m : Int} (hm : 0 ≤ m ∧ m ≤ 7) (hh : (bkQ t j m).any (nqB (opN m)) = true) : joR (bkP t j) (bkQ t j m) m = (bkJ t j m, 0) := by
  unfold joR bkJ
  rw [if_pos (joE_of ht hj hm), if_pos hh]
  have := bkJ_len hj h7 m
  split
  · rfl
  · rw [if_neg (by omega)]
theorem bkJ_tr (ht : TrOk t) (hj : j < t.length) (h7 : t.length ≤ 7) {m : Int} (hm : 0 ≤ m ∧ m ≤ 7) : TrOk (bkJ t j m) := by
  unfold bkJ
  split
  · exact bkP_tr ht hj
  · exact jo_tr (bkP_tr ht hj) (bkQ_tr ht hj hm) (bkJ_len hj h7 m)
theorem bkQ_src (ht : TrOk t) (hp : PcOk t l) {z : Int} (h : hasS (bkQ t j l.length) z = true) : z = l.length ∨ (0 ≤ z ∧ z.toNat < l.length) := by
  rcases set_src (pr_src h) with h | h
  · exact .inl h
  · exact .inr (hasS_bd ht hp h)
theorem bkJ_pc (ht : TrOk t) (hp : PcOk t l) (hj : j < t.length) (h7 : l.length ≤ 7) : PcOk (bkJ t j l.length) l := by
  have hP := bkP_pc (j := j) ht hp
  unfold bkJ
  split
  · exact hP
  · refine ⟨hp.n, hp.s, hp.sz, fun z hz => ?_⟩
    rw [sc_src] at hz
    obtain ⟨x, hx, h1, h2⟩ := hasS_iff.1 hz.2
    unfold joL at hx
    rcases List.mem_append.1 hx with hx | hx
    · exact hP.src z (sc_src.2 ⟨hz.1, hasS_iff.2 ⟨x, hx, h1, h2⟩⟩)
    · obtain ⟨i, hi, rfl⟩ := List.mem_map.1 hx
      obtain ⟨hi1, hi2⟩ := List.mem_filter.1 hi
      have hil := List.mem_range.1 hi1
      rw [(mv_kd _ _).1] at h1
      rw [(mv_kd _ _).2] at h2
      have hne : gN (bkQ t j l.length) i ≠ opN l.length := of_decide_eq_true hi2
      obtain ⟨q, hq⟩ := (bkQ_tr ht hj (m := (l.length : Int)) (by omega)).s i hil
      have hqs : q = .src := by
        have := hq.kd
        rw [h1, show kdOf bSrc = some .src from if_pos rfl] at this
        exact (Option.some.inj this).symm
      subst hqs
      have hop := src_op hq
      rw [h2] at hop
      have hh : hasS (bkQ t j l.length) z = true := hasS_iff.2 ⟨gN (bkQ t j l.length) i, by rw [gN_at hil]; exact List.getElem_mem hil, h1, h2⟩
      rcases bkQ_src ht hp hh with h | h
      · rw [h] at hop
        exact absurd hop hne
      · omega
theorem bkJ_ti (ht : TrOk t) (hp : PcOk t l) (hj : j < t.length) (h7 : t.length ≤ 7) (h8 : l.length ≤ 7) (hW : (gQ l 0).p.w = (W : Int)) (hH : (gQ l 0).p.h = (H : Int)) : tiP (bkJ t j l.length) l W 0 W 0 H = tiP t l W 0 W 0 H := by
  have hP := bkP_tr ht hj
  have hQ := bkQ_tr ht hj (m := (l.length : Int)) (by omega)
  have hlv : ∀ x y, x < W → y < H → lvl (gB (⟨tiP (bkP t j) l W 0 W 0 H, none, 0⟩ : PV').p.s (y * W + x)) = plF (bkP t j) l W x y := fun x y hx hy => ti_lv hP (bkP_pc ht hp) hW hH hx hy
  have h2 := tl_cut ht hp hj (W := W) (H := H) ⟨tiP (bkP t j) l W 0 W 0 H, none, 0⟩ h8 (fun x y hx hy => bk_lv ht hp hj hW hH rfl hx hy)
  have h3 : tlL (bkJ t j l.length) l W 0 W 0 H = tlL t l W 0 W 0 H := by
    unfold bkJ
    split
    · rename_i ho
      rw [← tl_open (a := bkP t j) hQ _ hlv (of_decide_eq_true ho)]
      exact h2
    · rename_i ho
      rw [tl_join hP hQ (bkJ_len hj h7 _) _ (fun z hz => bkQ_src ht hp hz) hlv (by
        intro e
        exact ho (decide_eq_true e))]
      exact h2
  unfold tiP
  rw [h3]
theorem cm_of (ht : TrOk t) (hp : PcOk t l) (hW : (gQ l 0).p.w = (W : Int)) (hH : (gQ l 0).p.h = (H : Int)) {y : Pic} (h : tiP t l W 0 W 0 H = y) : cmR' t l = (y, 0) := by
  subst h
  unfold cmR'
  rw [if_pos (tr_ok.2 ht), if_pos (pc_ok.2 hp), hW, hH]
  rfl
end
theorem composedK_as {A B AG : Option Addr} {c c2 cG : Nat} {w : World} {t : List Nod} {l l' : List PV'} {y yb : Pic} {e : Int} (h : cmR' t (l ++ [⟨yb, none, 0⟩]) = (y, e)) (hm : l'.map (·.p) = l.map (·.p)) (hl : t.length ≤ 1000000) (hl2 : l.length ≤ 9) (hsz : ∀ x ∈ l, x.p.s.length ≤ 1000000) (hsb : yb.s.length ≤ 1000000) (hr : Rd w A (t.flatMap ndC))
    (hr2 : Rd w B (l'.flatMap pvC ++ [.string yb.nm, .int .i64 yb.w, .int .i64 yb.h, .slice AG yb.s.length cG])) (hrp : ∀ x ∈ l', Rd w x.A (x.p.s.map (.float .f32))) (hrb : Rd w AG (yb.s.map (.float .f32))) (hsh : Sh w) : Calls Tryz.prog 65 #[.slice A t.length c, .slice B (l.length + 1) c2] w fun r w' => ∃ v, r = .returned v ∧ Below w.heap.size w w' ∧ PicR w w' v y e :=
  composed_as (l := l ++ [⟨yb, none, 0⟩]) (l' := l' ++ [⟨yb, AG, cG⟩]) h (by simp only [List.map_append, hm]; rfl) (by simp) hl (by simp; omega) (fun x hx => (List.mem_append.1 hx).elim (hsz x) (fun hx => by obtain rfl := List.mem_singleton.1 hx; exact hsb)) hr (by rw [List.flatMap_append]; exact hr2) (fun x hx => (List.mem_append.1 hx).elim (hrp x) (fun hx => by obtain rfl := List.mem_singleton.1 hx; exact hrb)) hsh
end Go.Proofs.YtjkgklhjbopoaaaGreatDoor
