/- For every pair of matrices, any three pictures and any weights, the law TopBoomPrimaries returns true and leaves its arguments as they were. No condition but the one that the card states: colour's table of other rows holds what the program's text lays. -/
import Derived.Test.YtedlaominconaaaDoorTops35
import Derived.Test.YtedlaominconaaaDoorTops30
import Derived.Test.YtedlaominconaaaDoorCards
import Derived.Test.YtedlaominconaaaDoorTie
namespace Go.Proofs.YtedlaominconaaaDoor
set_option linter.unusedSimpArgs false
set_option linter.unusedVariables false
open Go.ChangeShapes Go.WideShapes Go.ChangeAt Go.RowKit Go.Deep Go.Joins Go.E

/-- The table of the other rows and columns, out of the condition. -/
theorem ot_of {W : World} {name : String} {rest : List (String × DataW Unit)} {t e : TypeId} (hg : Tryd.prog.globalNamed name = some 0) (hty : (Tryd.prog.globals[0]?).map (·.type) = some t) (ht : Tryd.prog.underlying t = some (.array 3 e)) (he : Tryd.prog.underlying e = some (.array 2 3)) (hct : Tryd.prog.cellsOf t = 6) (hce : Tryd.prog.cellsOf e = 2) (hc3 : Tryd.prog.cellsOf 3 = 1)
    (h : laidMet Tryd.prog ((name, .agg [Lib.tabData .i64 [1, 2], Lib.tabData .i64 [2, 0], Lib.tabData .i64 [0, 1]]) :: rest) W) : Ot W := by
  obtain ⟨ps, ⟨g', t', cs, fuel, p, q, hg', ht', hvar, hd, _, _⟩, _⟩ := h
  obtain rfl := Option.some.inj (hg.symm.trans hg')
  obtain rfl := Option.some.inj (hty.symm.trans ht')
  obtain ⟨xs, m, _, hx, hl, hlen, hel⟩ := DataW.trod_array ht hd
  rw [hce] at hel
  have hx1 : xs.map (·.1) = [Lib.tabData .i64 [1, 2], Lib.tabData .i64 [2, 0], Lib.tabData .i64 [0, 1]] := by
    have := congrArg Prod.fst hx
    simp only [DataW.agg.injEq] at this
    exact this.symm
  obtain ⟨l⟩ := cs
  rw [hct] at hl
  match xs, hlen, hx1 with
  | [x0, x1, x2], _, hx1 =>
    simp only [List.map_cons, List.map_nil, List.cons.injEq, and_true] at hx1
    obtain ⟨e0, e1, e2⟩ := hx1
    obtain ⟨y0, p0⟩ := x0
    obtain ⟨y1, p1⟩ := x1
    obtain ⟨y2, p2⟩ := x2
    subst e0; subst e1; subst e2
    have g0 := Lib.cells_of_tab he Tryd.underlying3 hc3 hce (hel 0 (by omega))
    have g1 := Lib.cells_of_tab he Tryd.underlying3 hc3 hce (hel 1 (by omega))
    have g2 := Lib.cells_of_tab he Tryd.underlying3 hc3 hce (hel 2 (by omega))
    have hl' : l.length = 6 := hl
    match l, hl' with
    | [a, b, c, d, e', f], _ =>
      simp only [List.map_cons, List.map_nil, Nat.zero_mul, Nat.one_mul, List.drop_zero, List.take_succ_cons, List.take_zero, List.drop_succ_cons, List.cons.injEq, and_true] at g0 g1 g2
      obtain ⟨rfl, rfl⟩ := g0
      obtain ⟨rfl, rfl⟩ := g1
      obtain ⟨rfl, rfl⟩ := g2
      refine .inr ⟨_, rfl, fun j u hu => ?_⟩
      rw [Addr.add_mid, Nat.zero_add]
      have := World.var?_cell hg hvar j
      rw [this]
      rcases j with _ | _ | _ | _ | _ | _ | j <;> simp_all


theorem list18 {z : List Int} (h : z.length = 18) : ∃ z0 z1 z2 z3 z4 z5 z6 z7 z8 z9 z10 z11 z12 z13 z14 z15 z16 z17, z = [z0, z1, z2, z3, z4, z5, z6, z7, z8, z9, z10, z11, z12, z13, z14, z15, z16, z17] := by
  match z, h with
  | [z0, z1, z2, z3, z4, z5, z6, z7, z8, z9, z10, z11, z12, z13, z14, z15, z16, z17], _ => exact ⟨z0, z1, z2, z3, z4, z5, z6, z7, z8, z9, z10, z11, z12, z13, z14, z15, z16, z17, rfl⟩
theorem t9 (z : Int) : -9 ≤ z.tmod 10 ∧ z.tmod 10 ≤ 9 := by
  have h1 := Int.tmod_lt_of_pos z (show 0 < (10 : Int) by omega)
  have h2 := Int.lt_tmod_of_pos z (show 0 < (10 : Int) by omega)
  omega
theorem lPrim_all {z0 z1 z2 z3 z4 z5 z6 z7 z8 z9 z10 z11 z12 z13 z14 z15 z16 z17 v0 v1 : Int} (g0 : -128 ≤ z0 ∧ z0 ≤ 127) (g1 : -128 ≤ z1 ∧ z1 ≤ 127) (g2 : -128 ≤ z2 ∧ z2 ≤ 127) (g3 : -128 ≤ z3 ∧ z3 ≤ 127) (g4 : -128 ≤ z4 ∧ z4 ≤ 127) (g5 : -128 ≤ z5 ∧ z5 ≤ 127) (g6 : -128 ≤ z6 ∧ z6 ≤ 127) (g7 : -128 ≤ z7 ∧ z7 ≤ 127) (g8 : -128 ≤ z8 ∧ z8 ≤ 127) (g9 : -128 ≤ z9 ∧ z9 ≤ 127) (g10 : -128 ≤ z10 ∧ z10 ≤ 127) (g11 : -128 ≤ z11 ∧ z11 ≤ 127) (g12 : -128 ≤ z12 ∧ z12 ≤ 127) (g13 : -128 ≤ z13 ∧ z13 ≤ 127) (g14 : -128 ≤ z14 ∧ z14 ≤ 127) (g15 : -128 ≤ z15 ∧ z15 ≤ 127) (g16 : -128 ≤ z16 ∧ z16 ≤ 127) (g17 : -128 ≤ z17 ∧ z17 ≤ 127) (h0 : 0 ≤ v0 ∧ v0 ≤ 255) (h1 : 0 ≤ v1 ∧ v1 ≤ 255) {x y z : Pic} {Ax Ay Az : Option Addr} {cx cy cz : Nat} (mx : x.nm.size ≤ maxLen ∧ (Ax = none → x.s.length = 0 ∧ cx = 0)) (my : y.nm.size ≤ maxLen ∧ (Ay = none → y.s.length = 0 ∧ cy = 0)) (mz : z.nm.size ≤ maxLen ∧ (Az = none → z.s.length = 0 ∧ cz = 0)) (sx : x.s.length ≤ maxLen) (sy : y.s.length ≤ maxLen) (sz : z.s.length ≤ maxLen) (w : World) (hrx : Rd w Ax (x.s.map (.float .f32))) (hry : Rd w Ay (y.s.map (.float .f32))) (hrz : Rd w Az (z.s.map (.float .f32))) (hO : Ot w) :
    Calls Tryd.prog 3 #[.agg #[.int .i8 z0, .int .i8 z1, .int .i8 z2, .int .i8 z3, .int .i8 z4, .int .i8 z5, .int .i8 z6, .int .i8 z7, .int .i8 z8, .int .i8 z9, .int .i8 z10, .int .i8 z11, .int .i8 z12, .int .i8 z13, .int .i8 z14, .int .i8 z15, .int .i8 z16, .int .i8 z17], .agg #[.string x.nm, .int .i64 x.w, .int .i64 x.h, .slice Ax x.s.length cx, .string y.nm, .int .i64 y.w, .int .i64 y.h, .slice Ay y.s.length cy, .string z.nm, .int .i64 z.w, .int .i64 z.h, .slice Az z.s.length cz], .agg #[.int .u8 v0, .int .u8 v1]] w fun r w' => r = .returned (.bool true) ∧ Below w.heap.size w w' := by
  by_cases hno : thE x y z = 0 ∧ x.s.length ≤ 12
  · obtain ⟨hE, hn⟩ := hno
    have ht := th_ok.1 hE
    have hl := ht.len
    have hp0 : 0 < x.s.length := by
      have h1 := ht.px.n
      have h2 := Int.mul_pos (show 0 < x.w by have := ht.px.w; omega) (show 0 < x.h by have := ht.px.h; omega)
      omega
    obtain ⟨a, rfl⟩ := Int.eq_ofNat_of_zero_le h0.1
    obtain ⟨b, rfl⟩ := Int.eq_ofNat_of_zero_le h1.1
    have hs : ∀ {A : Option Addr} {p : Pic} {c : Nat}, p.s.length = x.s.length → (A = none → p.s.length = 0 ∧ c = 0) → ∃ ap, A = some ap := fun {A p c} hp hA => by
      cases A with
      | some ap => exact ⟨ap, rfl⟩
      | none => have := (hA rfl).1; omega
    obtain ⟨ax, rfl⟩ := hs rfl mx.2
    obtain ⟨ay, rfl⟩ := hs hl.1.symm my.2
    obtain ⟨az, rfl⟩ := hs hl.2.symm mz.2
    have key := lPrimD_c ⟨z0.tmod 10, z1.tmod 10, z2.tmod 10, z3.tmod 10, z4.tmod 10, z5.tmod 10, z6.tmod 10, z7.tmod 10, z8.tmod 10, 1⟩ ⟨z9.tmod 10, z10.tmod 10, z11.tmod 10, z12.tmod 10, z13.tmod 10, z14.tmod 10, z15.tmod 10, z16.tmod 10, z17.tmod 10, 1⟩ ⟨t9 z0, t9 z1, t9 z2, t9 z3, t9 z4, t9 z5, t9 z6, t9 z7, t9 z8, rfl⟩ ⟨t9 z9, t9 z10, t9 z11, t9 z12, t9 z13, t9 z14, t9 z15, t9 z16, t9 z17, rfl⟩ z0 z1 z2 z3 z4 z5 z6 z7 z8 z9 z10 z11 z12 z13 z14 z15 z16 z17 ⟨g0, rfl⟩ ⟨g1, rfl⟩ ⟨g2, rfl⟩ ⟨g3, rfl⟩ ⟨g4, rfl⟩ ⟨g5, rfl⟩ ⟨g6, rfl⟩ ⟨g7, rfl⟩ ⟨g8, rfl⟩ ⟨g9, rfl⟩ ⟨g10, rfl⟩ ⟨g11, rfl⟩ ⟨g12, rfl⟩ ⟨g13, rfl⟩ ⟨g14, rfl⟩ ⟨g15, rfl⟩ ⟨g16, rfl⟩ ⟨g17, rfl⟩ a b (by omega) (by omega) x y z ax ay az cx cy cz x.s.length ht hE rfl hl.1.symm hl.2.symm hn hp0 mx.1 my.1 mz.1 w hrx hry hrz hO
    rw [← hl.1, ← hl.2]
    exact key
  · exact lPrimN_c z0 z1 z2 z3 z4 z5 z6 z7 z8 z9 z10 z11 z12 z13 z14 z15 z16 z17 v0 v1 x y z Ax Ay Az cx cy cz mx.1 my.1 mz.1 sx sy sz hno w hrx hry hrz

def laidL : List (String × DataW Unit) := Rows.topBoomPrimariesRow.laid
def xName : String := Rows.topBoomPrimariesRow.named.headD (Rows.topBoomPrimariesRow.spec)
theorem gExtra : Tryd.prog.globalNamed xName = some 0 := by kernel_rfl
theorem tExtra : (Tryd.prog.globals[0]?).map (·.type) = some 109 := by kernel_rfl
/-- The door's own heap meets the condition. -/
theorem door_met (os : Os) (args : Array Value) : laidMetH Tryd.prog laidL ((World.doorLaid Tryd.prog 400 os).forCall (fun _ _ => 0) ⟨#[], args, []⟩).memory :=
  laidMetH_of_parts3 (fuel := 8) (laidMet_of_run' 8 (by kernel_rfl) (by kernel_rfl)) (by kernel_rfl) (by kernel_rfl)
theorem ot_of_laid {W : World} (h : laidMetH Tryd.prog laidL W) : Ot W := by
  rw [MakeChecks.laidMetH_plain _ _ _ (by kernel_rfl)] at h
  exact ot_of gExtra tExtra Tryd.underlying109 Tryd.underlying108 (by kernel_rfl) (by kernel_rfl) (by kernel_rfl) h

set_option maxRecDepth 100000 in
theorem lifted (os : Os) (started : os.Started) (H : Type) (enc : TypeId × Value → H) :
    ReturnsInHanded {} Tryd.checked os 3 .any (fun w args => (Rows.topBoomPrimariesSpec.pre enc Tryd.prog Tryd.f3 [] false w args ∧ laidMetH Tryd.prog laidL w) ∧ sizedMet enc Tryd.prog Tryd.f3 (OpenSpec.ofChange Rows.topBoomPrimariesSpec) false w args)
      (Rows.topBoomPrimariesSpec.post enc Tryd.prog Tryd.f3 false true false false) := by
  refine returnsInHanded_of_change_and (C := Tryd.checked) (X := fun w _ => laidMetH Tryd.prog laidL w) (fun _ _ _ hh h => h.of_heap hh) own started (by kernel_rfl) Tryd.func3
    (ChangeSpec.witness_shaped (enc := enc) (C := Tryd.checked) (os := os) (X := fun w _ => laidMetH Tryd.prog laidL w) false (World.doorLaid Tryd.prog 400 os) #[.agg #[.int .i8 0, .int .i8 0, .int .i8 0, .int .i8 0, .int .i8 0, .int .i8 0, .int .i8 0, .int .i8 0, .int .i8 0, .int .i8 0, .int .i8 0, .int .i8 0, .int .i8 0, .int .i8 0, .int .i8 0, .int .i8 0, .int .i8 0, .int .i8 0], .agg #[.string ByteArray.empty, .int .i64 0, .int .i64 0, .slice none 0 0, .string ByteArray.empty, .int .i64 0, .int .i64 0, .slice none 0 0, .string ByteArray.empty, .int .i64 0, .int .i64 0, .slice none 0 0], .agg #[.int .u8 0, .int .u8 0]] 8 rfl (World.shaped_of_RefB (by kernel_rfl) (by kernel_rfl)) (by kernel_rfl) (by kernel_rfl) (by kernel_rfl) (door_met os _)) ?_
  intro W base args ds gs before hval0 hW _ _ hL _
  have hval : ∀ (j : Nat) t v, Tryd.f3.params[j]? = some t → args[j]? = some v → Value.okWide Tryd.prog W .any base t v := hval0
  have hW' := hW
  obtain ⟨p, q, hA0, hV, rfl, hfz, hnd⟩ := hW
  have hA : DataW.TrodAll enc Tryd.prog W 0 (fun _ => true) true Tryd.f3.params.toList args.toList ds p := hA0
  rw [Tryd.params3] at hA hval
  obtain ⟨v0, v1, v2, d0, d1, d2, p0, p1, p2, rfl, rfl, rfl, h0, h1, h2⟩ := trodAll_three hA
  obtain ⟨rfl, rfl⟩ := trodVars_none hV
  obtain ⟨zs, l0, rfl, w0⟩ := open_deep (k := .i8) (t := 25) (n := 18) (by kernel_rfl) (hval 0 25 _ rfl rfl) h0
  obtain ⟨z0, z1, z2, z3, z4, z5, z6, z7, z8, z9, z10, z11, z12, z13, z14, z15, z16, z17, rfl⟩ := list18 l0
  obtain ⟨x, Ax, cx, y, Ay, cy, z, Az, cz, rfl, ⟨mx, rx, qx, kx, ax⟩, ⟨my, ry, qy, ky, ay⟩, ⟨mz, rz, qz, kz, az⟩⟩ := open_pic3 Tryd.underlying29 (by kernel_rfl) Tryd.underlying28 ⟨rfl, rfl, rfl, rfl⟩ ⟨by kernel_rfl, by kernel_rfl, by kernel_rfl, by kernel_rfl⟩ (by kernel_rfl) Tryd.underlying9 Tryd.underlying3 Tryd.underlying3 Tryd.underlying26 Tryd.underlying33 (by kernel_rfl) (hval 1 29 _ rfl rfl) h1
  obtain ⟨ws, l2, rfl, w2⟩ := open_deep (k := .u8) (t := 30) (n := 2) (by kernel_rfl) (hval 2 30 _ rfl rfl) h2
  obtain ⟨y0, y1, rfl⟩ := list2 l2
  clear hA0 hval0
  refine (lPrim_all (wfI8 (w0 z0 (by simp))) (wfI8 (w0 z1 (by simp))) (wfI8 (w0 z2 (by simp))) (wfI8 (w0 z3 (by simp))) (wfI8 (w0 z4 (by simp))) (wfI8 (w0 z5 (by simp))) (wfI8 (w0 z6 (by simp))) (wfI8 (w0 z7 (by simp))) (wfI8 (w0 z8 (by simp))) (wfI8 (w0 z9 (by simp))) (wfI8 (w0 z10 (by simp))) (wfI8 (w0 z11 (by simp))) (wfI8 (w0 z12 (by simp))) (wfI8 (w0 z13 (by simp))) (wfI8 (w0 z14 (by simp))) (wfI8 (w0 z15 (by simp))) (wfI8 (w0 z16 (by simp))) (wfI8 (w0 z17 (by simp))) (wfU8 (w2 y0 (by simp))) (wfU8 (w2 y1 (by simp))) ⟨mx, ax⟩ ⟨my, ay⟩ ⟨mz, az⟩ (by omega) (by omega) (by omega) W rx ry rz (ot_of_laid hL)).mono fun e W' ⟨he, hb⟩ => ?_
  subst he
  have hT := trodAll_mk3 (Below.trod laidOut (by kernel_rfl) (of_decide_eq_true (by kernel_rfl)) h0 hb (trodLt h0)) (Below.trod laidOut (by kernel_rfl) (of_decide_eq_true (by kernel_rfl)) h1 hb (trodLt h1)) (Below.trod laidOut (by kernel_rfl) (of_decide_eq_true (by kernel_rfl)) h2 hb (trodLt h2))
  refine ⟨_, rfl, _, _, _, [], _, [], hW', ?_, hT, ?_, hb.frame _, fun h => by cases h⟩
  · exact trodAll_mk1 (shut_bool Tryd.underlying4 true)
  · rfl

theorem law_holds : Rows.TopBoomPrimariesSaid :=
  OpenClaim.holds_of_wide 3 Tryd.f3 rfl rfl rfl rfl rfl rfl rfl ⟨rfl, rfl, rfl, rfl, rfl⟩ rfl rfl rfl rfl rfl (by kernel_rfl) Tryd.func3 (by kernel_rfl)
    (of_decide_eq_true (by kernel_rfl)) (by unfold Func.isWrapper; first | (rw [if_pos (by decide +kernel)]; kernel_rfl) | (rw [if_neg (by decide +kernel)]; exact ⟨rfl, rfl⟩))
    (fun os started H enc _ => lifted os started H enc)

set_option maxHeartbeats 40000000 in
theorem card_holds : Rows.TopBoomPrimariesCardSaid :=
  Claim7.holds_tied_plain_at .later [] [.data] true Rows.topBoomPrimariesCard.stood.harness false
    law_holds (fun _ h => by cases h) (by kernel_rfl) (fun _ h => by cases h) topBoomPrimaries_row_tie rfl ⟨rfl, rfl⟩ (by kernel_rfl) rfl
    (fun f fn hf hfn => by
      obtain rfl : f = 3 := Option.some.inj ((show Tryd.prog.funcNamed Rows.topBoomPrimariesRow.func = some 3 by kernel_rfl).symm.trans hf) |>.symm
      obtain rfl : fn = Tryd.f3 := (Option.some.inj (Tryd.func3.symm.trans hfn)).symm
      exact ⟨by kernel_rfl, fun j t ht => by
        rw [Tryd.params3] at ht
        have hm : t ∈ [25, 29, 30] := by simpa using Array.mem_of_getElem? ht
        have hall : ([25, 29, 30].all fun u => !Tryd.prog.wantsStandIn u) = true := by kernel_rfl
        exact (show Tryd.prog.wantsStandIn t = false by simpa using List.all_eq_true.1 hall t hm)⟩)
    (by kernel_rfl)
#print axioms card_holds

end Go.Proofs.YtedlaominconaaaDoor
