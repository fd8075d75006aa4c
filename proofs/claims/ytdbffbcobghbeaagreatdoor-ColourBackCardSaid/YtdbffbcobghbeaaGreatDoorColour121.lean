/- Texts: the program: integers, words, lines, forms; what texts of curves say: plain laws. -/
import Derived.Test.YtdbffbcobghbeaaGreatDoorColour120
import Derived.Test.YtdbffbcobghbeaaGreatDoorShelfT
import Derived.Test.YtdbffbcobghbeaaGreatDoorColour14
import Derived.Test.YtdbffbcobghbeaaGreatDoorEng3
import Derived.Test.YtdbffbcobghbeaaGreatDoorEng4
namespace Go.Proofs.YtdbffbcobghbeaaGreatDoor
open Go.E Go.RowKit Go.Fl
attribute [local irreducible] G C S D Calls
set_option maxRecDepth 100000
set_option linter.unusedSimpArgs false
set_option linter.unusedVariables false

def sMin : ByteArray := ⟨#[45]⟩
/-- A minus in front. -/
def cutM (s : ByteArray) : ByteArray × Bool := if 0 < s.size ∧ byteAt s 0 = 45 then (s.extract 1 s.size, true) else (s, false)
theorem bx_get {s : ByteArray} {k : Nat} (h : k < s.size) : byteAt s k = (s.data.toList[k]'(by rw [← Lib.size_eq]; exact h)).toNat := by
  simp [byteAt, h]
  rfl
theorem cutM_eq (s : ByteArray) : ((⟨(Lib.trimPrefix s.data.toList sMin.data.toList).toArray⟩ : ByteArray), Lib.hasPrefix s.data.toList sMin.data.toList) = cutM s := by
  have e : sMin.data.toList = [45] := rfl
  have key : ∀ (c : Bool) (x : ByteArray), Lib.hasPrefix s.data.toList [45] = c → Lib.trimPrefix s.data.toList [45] = x.data.toList → cutM s = (x, c) → ((⟨(Lib.trimPrefix s.data.toList [45]).toArray⟩ : ByteArray), Lib.hasPrefix s.data.toList [45]) = cutM s := by
    intro c x h1 h2 h3
    rw [h1, h2, h3]
  rw [e]
  rcases (show s.data.toList = [] ∨ ∃ a l, s.data.toList = a :: l by cases s.data.toList with | nil => exact .inl rfl | cons a l => exact .inr ⟨a, l, rfl⟩) with hl | ⟨a, l, hl⟩
  · have h0 : s.size = 0 := by rw [Lib.size_eq, hl]; rfl
    refine key false s (by rw [hl]; rfl) (by rw [hl]; rfl) (if_neg (by omega))
  · have h0 : s.size = l.length + 1 := by rw [Lib.size_eq, hl]; rfl
    have hb : byteAt s 0 = a.toNat := by
      rw [bx_get (by omega)]
      simp [hl]
    by_cases ha : a = 45
    · have hx := Lib.extract_toList s 1 s.size
      rw [hl] at hx
      refine key true (s.extract 1 s.size) (by rw [hl, ha]; rfl) ?_ (if_pos ⟨by omega, by rw [hb, ha]; rfl⟩)
      rw [hl, ha]
      have hx2 : (s.extract 1 s.size).data.toList = (List.drop 1 (a :: l)).take (s.size - 1) := by
        rw [← hx]
        simp [ByteArray.toList_eq]
      rw [hx2, List.drop_one, List.tail_cons, List.take_of_length_le (by omega)]
      rfl
    · have hn : ¬ (0 < s.size ∧ byteAt s 0 = 45) := by
        rintro ⟨_, h⟩
        rw [hb] at h
        exact ha (UInt8.toNat_inj.1 h)
      have hf : Lib.hasPrefix (a :: l) [45] = false := by
        unfold Lib.hasPrefix
        simp only [List.isPrefixOf, Bool.and_true, beq_eq_false_iff_ne]
        exact fun h => ha h.symm
      refine key false s (by rw [hl]; exact hf) ?_ (if_neg hn)
      rw [hl]
      unfold Lib.trimPrefix
      rw [hf]
      rfl
theorem cutP_as {s d : ByteArray} {m : Bool} (h : cutM s = (d, m)) (w : World) : Calls Tryz.prog 226 #[.string s, .string sMin] w fun r w' => r = .returned (.tuple #[.string d, .bool m]) ∧ Below w.heap.size w w' := by
  have e := cutM_eq s
  rw [h] at e
  injection e with e1 e2
  refine (Tryz.strings_CutPrefix s sMin w).mono fun r w' hr => ⟨?_, hr.2 ▸ Below.refl _ _⟩
  rw [hr.1, e1, e2]
theorem cutM_size (s : ByteArray) : (cutM s).1.size ≤ s.size := by
  unfold cutM
  split
  · dsimp only
    rw [ByteArray.size_extract]
    omega
  · exact Nat.le_refl _

end Go.Proofs.YtdbffbcobghbeaaGreatDoor
namespace Go.Proofs.YtdbffbcobghbeaaGreatDoor
open Go.E Go.RowKit Go.Fl
attribute [local irreducible] G C S D Calls
set_option maxRecDepth 100000
set_option linter.unusedSimpArgs false
set_option linter.unusedVariables false

def intV (d : ByteArray) (m : Bool) : Int := if m then 0 - digN d d.size else digN d d.size
def intF (d : ByteArray) (m : Bool) : Bool := !(d.size == 0) && (!(byteAt d 0 == 48) || (d.size == 1 && !m))
def intR (s : ByteArray) : Int × Bool := if (cutM s).1.size ≤ 9 ∧ allD (cutM s).1 (cutM s).1.size = true then (intV (cutM s).1 (cutM s).2, intF (cutM s).1 (cutM s).2) else (0, false)
theorem intR_no {s d : ByteArray} {m : Bool} (h : cutM s = (d, m)) (hn : 9 < d.size ∨ allD d d.size = false) : intR s = (0, false) := by
  unfold intR
  rw [h, if_neg]
  rintro ⟨h1, h2⟩
  rcases hn with hn | hn
  · dsimp only at h1; omega
  · rw [hn] at h2; cases h2
theorem intR_yes {s d : ByteArray} {m : Bool} (h : cutM s = (d, m)) (h9 : d.size ≤ 9) (ha : allD d d.size = true) : intR s = (intV d m, intF d m) := by
  unfold intR
  rw [h, if_pos ⟨h9, ha⟩]
theorem allD_no {d : ByteArray} {k : Nat} (hk : k < d.size) (h : digB (byteAt d k) = false) : allD d d.size = false := by
  cases ha : allD d d.size
  · rfl
  · rw [allD_at ha hk] at h
    cases h
section
variable {X : Cx} {Ps : Past} {l0 l rest : List Oper} {Q : Exit → Act → World → Prop} {sl : List (Nat × AV)} {bx : List Bx} {rw : List Rw}
theorem S_strE {x y : List UInt8} {b : Bool} {d : Nat} (h : (x == y) = b) (k : S X Ps l0 Q rest ⟨(d, .s (.v (.bool b))) :: sl, bx, rw⟩) : S X Ps l0 Q rest ⟨(d, .s (.v (.bool (x == y)))) :: sl, bx, rw⟩ := by rw [h]; exact k
end
theorem toE_eq {a b : ByteArray} (h : a = b) : (a.toList == b.toList) = true := by subst h; simp
theorem toE_ne {a b : ByteArray} (h : a ≠ b) : (a.toList == b.toList) = false := by
  have := toL_ne h
  simpa using this
theorem one_of {d : ByteArray} {c : UInt8} (h : d.size = 1) (h2 : byteAt d 0 = c.toNat) : d = ⟨#[c]⟩ := by
  refine ByteArray.ext (Array.ext' ?_)
  have hl : d.data.toList.length = 1 := by rw [← Lib.size_eq]; exact h
  have hb := bx_get (s := d) (k := 0) (by omega)
  rcases hd : d.data.toList with _ | ⟨a, l⟩
  · rw [hd] at hl; simp at hl
  · rw [hd] at hl
    have : l = [] := by simpa using hl
    subst this
    rw [h2] at hb
    simp only [hd, List.getElem_cons_zero] at hb
    rw [UInt8.toNat_inj.1 hb]
theorem size0_of {d : ByteArray} (h : d.size = 0) : d = ⟨#[]⟩ := by
  refine ByteArray.ext (Array.ext' ?_)
  have hl : d.data.toList.length = 0 := by rw [← Lib.size_eq]; exact h
  exact List.eq_nil_of_length_eq_zero hl

set_option maxHeartbeats 2000000 in
/-- colour.integer -/
theorem integer_c (s : ByteArray) (hs : s.size ≤ 1000000) (w : World) : Calls Tryz.prog 209 #[.string s] w fun r w' => r = .returned (.tuple #[.int .i64 (intR s).1, .bool (intR s).2]) ∧ Below w.heap.size w w' := by
  refine calls_of (args := [.string s]) T_ok Tryz.func209 rfl Tryz.ntmps209 (Nat.le_of_ble_eq_true rfl) rfl ?_
  rcases hc : cutM s with ⟨d, m⟩
  have hds : d.size ≤ 1000000 := by
    have := cutM_size s
    rw [hc] at this
    dsimp only at this
    omega
  repeat' (first
 | (refine C_id ?_; first
 | refine C_seq ?_
 | refine C_region rfl ?_
 | refine C_block ?_
   )
 | (refine S_id ?_; first
 | refine S_new rfl obQ (fun _ => rfl) (fun k W hown hat => ?_)
 | refine S_nil ?_
 | refine S_run rfl rfl obQ obQ ?_
 | refine S_call (f := 226) rfl obQ (by kernel_rfl) (fun w hw => cutP_as hc w) ?_
   )
 | (refine G_id ?_; first
 | refine G_then ?_
   )
   )
  refine C_loopO (k := k) (fun p : Nat => ⟨[(16, .s (.v (.pointer (some ⟨k, 0, none⟩)))), (4, .s (.v (.string d))), (5, .s (.v (.bool m))), (6, .s (.v (.int .i64 (digN d p))))], [], []⟩) (fun p => p ≤ d.size ∧ allD d p = true ∧ (0 < p → d.size ≤ 9)) (fun p W => W.heap[k]? = some (.stringIter d p)) (fun p => d.size - p) 0 ⟨Nat.zero_le _, rfl, fun h => absurd h (Nat.lt_irrefl _)⟩ (fun p => iter_on k d p) hat ?_ (fun p W hp hat => ?_)
  · exact ⟨⟨_, rfl, obQ⟩, ⟨_, rfl⟩, rfl, pstQ⟩
  obtain ⟨hp1, hp2, hp3⟩ := hp
  dsimp only
  by_cases hlt : p < d.size
  · have hra := rune_at hlt
    by_cases hlo : (Utf8.decode d p).1 < 48
    · have hbad : digB (byteAt d p) = false := by
        unfold digB
        rw [Bool.and_eq_false_iff, decide_eq_false_iff_not, decide_eq_false_iff_not]
        rcases hra with ⟨h1, h2⟩ | ⟨h1, h2⟩
        · rw [h2] at hlo; dsimp only at hlo; omega
        · omega
      rw [intR_no hc (.inr (allD_no hlt hbad))]
      clear hra
      repeat' (first
 | (refine C_id ?_; first
 | refine C_seq ?_
 | refine C_region rfl ?_
 | refine C_block ?_
 | refine C_skip ?_
 | refine C_ret0 ?_
 | refine C_condT rfl obQ ?_
       )
 | (refine S_id ?_; first
 | ((with_reducible (first | refine S_falseN ?_ ?_ | refine S_falseB ?_ ?_ | refine S_falseL ?_ ?_ | refine S_falseD ?_ ?_ | refine S_falseE ?_ ?_)); · (first | rfl | omega | exact decide_eq_false (by omega) | (rw [beq_eq_false_iff_ne]; omega) | (rw [bne_eq_false_iff_eq]; omega)))
 | ((with_reducible refine S_falseO ?_ ?_ ?_); (· rfl); (· first | rfl | (first | rfl | omega | exact decide_eq_false (by omega) | (rw [beq_eq_false_iff_ne]; omega) | (rw [bne_eq_false_iff_eq]; omega))))
 | ((with_reducible (first | refine S_trueE ?_ ?_ | refine S_trueB ?_ ?_ | refine S_trueL ?_ ?_ | refine S_trueD ?_ ?_ | refine S_trueN ?_ ?_)); · (first | rfl | omega | exact decide_eq_true (by omega) | (rw [beq_iff_eq]; omega) | (rw [bne_iff_ne]; omega)))
 | refine S_unG rfl rfl rfl rfl ?_
 | refine S_next rfl obQ hown hat hlt (fun W hat => ?_)
 | refine S_offG (.v (.bool false)) rfl rfl rfl rfl rfl ?_
 | ((with_reducible refine S_trueO ?_ ?_); · first | rfl | (simp only [Bool.or_eq_true, decide_eq_true_eq, beq_iff_eq, bne_iff_ne]; first | assumption | omega))
 | refine S_nil ?_
 | refine S_runN rfl rfl obQ obQ ?_
       )
 | (refine G_id ?_; first
 | refine G_then ?_
 | refine G_blockR ?_
 | refine G_thenR ?_
 | refine G_ret rfl obQ (fun w hw => ⟨?_, hw.below⟩)
       )
       )
      all_goals rfl
    by_cases hhi : 57 < (Utf8.decode d p).1
    · have hbad : digB (byteAt d p) = false := by
        unfold digB
        rw [Bool.and_eq_false_iff, decide_eq_false_iff_not, decide_eq_false_iff_not]
        rcases hra with ⟨h1, h2⟩ | ⟨h1, h2⟩
        · rw [h2] at hhi; dsimp only at hhi; omega
        · omega
      rw [intR_no hc (.inr (allD_no hlt hbad))]
      clear hra
      repeat' (first
 | (refine C_id ?_; first
 | refine C_seq ?_
 | refine C_region rfl ?_
 | refine C_block ?_
 | refine C_skip ?_
 | refine C_ret0 ?_
 | refine C_condT rfl obQ ?_
       )
 | (refine S_id ?_; first
 | ((with_reducible (first | refine S_falseN ?_ ?_ | refine S_falseB ?_ ?_ | refine S_falseL ?_ ?_ | refine S_falseD ?_ ?_ | refine S_falseE ?_ ?_)); · (first | rfl | omega | exact decide_eq_false (by omega) | (rw [beq_eq_false_iff_ne]; omega) | (rw [bne_eq_false_iff_eq]; omega)))
 | ((with_reducible refine S_falseO ?_ ?_ ?_); (· rfl); (· first | rfl | (first | rfl | omega | exact decide_eq_false (by omega) | (rw [beq_eq_false_iff_ne]; omega) | (rw [bne_eq_false_iff_eq]; omega))))
 | ((with_reducible (first | refine S_trueE ?_ ?_ | refine S_trueB ?_ ?_ | refine S_trueL ?_ ?_ | refine S_trueD ?_ ?_ | refine S_trueN ?_ ?_)); · (first | rfl | omega | exact decide_eq_true (by omega) | (rw [beq_iff_eq]; omega) | (rw [bne_iff_ne]; omega)))
 | refine S_unG rfl rfl rfl rfl ?_
 | refine S_next rfl obQ hown hat hlt (fun W hat => ?_)
 | refine S_offG (.v (.bool false)) rfl rfl rfl rfl rfl ?_
 | ((with_reducible refine S_trueO ?_ ?_); · first | rfl | (simp only [Bool.or_eq_true, decide_eq_true_eq, beq_iff_eq, bne_iff_ne]; first | assumption | omega))
 | refine S_nil ?_
 | refine S_runN rfl rfl obQ obQ ?_
       )
 | (refine G_id ?_; first
 | refine G_then ?_
 | refine G_blockR ?_
 | refine G_thenR ?_
 | refine G_ret rfl obQ (fun w hw => ⟨?_, hw.below⟩)
       )
       )
      all_goals rfl
    obtain ⟨hb128, hdec⟩ : byteAt d p < 128 ∧ Utf8.decode d p = (byteAt d p, 1) := by
      rcases hra with h | ⟨h1, h2⟩
      · exact h
      · omega
    have hdg : (Utf8.decode d p).1 = byteAt d p ∧ (Utf8.decode d p).2 = 1 := by rw [hdec]; exact ⟨rfl, rfl⟩
    clear hra
    by_cases h9 : 9 < d.size
    · rw [intR_no hc (.inl h9)]
      repeat' (first
 | (refine C_id ?_; first
 | refine C_seq ?_
 | refine C_region rfl ?_
 | refine C_block ?_
 | refine C_skip ?_
 | refine C_ret0 ?_
 | refine C_condT rfl obQ ?_
       )
 | (refine S_id ?_; first
 | ((with_reducible (first | refine S_falseN ?_ ?_ | refine S_falseB ?_ ?_ | refine S_falseL ?_ ?_ | refine S_falseD ?_ ?_ | refine S_falseE ?_ ?_)); · (first | rfl | omega | exact decide_eq_false (by omega) | (rw [beq_eq_false_iff_ne]; omega) | (rw [bne_eq_false_iff_eq]; omega)))
 | ((with_reducible refine S_falseO ?_ ?_ ?_); (· rfl); (· first | rfl | (first | rfl | omega | exact decide_eq_false (by omega) | (rw [beq_eq_false_iff_ne]; omega) | (rw [bne_eq_false_iff_eq]; omega))))
 | ((with_reducible (first | refine S_trueE ?_ ?_ | refine S_trueB ?_ ?_ | refine S_trueL ?_ ?_ | refine S_trueD ?_ ?_ | refine S_trueN ?_ ?_)); · (first | rfl | omega | exact decide_eq_true (by omega) | (rw [beq_iff_eq]; omega) | (rw [bne_iff_ne]; omega)))
 | refine S_unG rfl rfl rfl rfl ?_
 | refine S_next rfl obQ hown hat hlt (fun W hat => ?_)
 | refine S_offG (.v (.bool false)) rfl rfl rfl rfl rfl ?_
 | ((with_reducible refine S_trueO ?_ ?_); · first | rfl | (simp only [Bool.or_eq_true, decide_eq_true_eq, beq_iff_eq, bne_iff_ne]; first | assumption | omega))
 | refine S_nil ?_
 | refine S_runN rfl rfl obQ obQ ?_
       )
 | (refine G_id ?_; first
 | refine G_then ?_
 | refine G_blockR ?_
 | refine G_thenR ?_
 | refine G_ret rfl obQ (fun w hw => ⟨?_, hw.below⟩)
       )
       )
      all_goals rfl
    · have hdig : digB (byteAt d p) = true := by
        unfold digB
        rw [Bool.and_eq_true, decide_eq_true_eq, decide_eq_true_eq]
        omega
      have hal : allD d (p + 1) = true := by rw [allD_s, hp2, hdig]; rfl
      have hbd := digN_9 hp2 (by omega)
      have hst : digN d (p + 1) = 10 * digN d p + (((Utf8.decode d p).1 : Nat) - 48 : Int) := by rw [hdg.1]; rfl
      repeat' (first
 | (refine C_id ?_; first
 | refine C_seq ?_
 | refine C_region rfl ?_
 | refine C_block ?_
 | refine C_skip ?_
 | refine C_condT rfl obQ ?_
 | refine C_condF rfl obQ ?_
       )
 | (refine S_id ?_; first
 | ((with_reducible (first | refine S_falseN ?_ ?_ | refine S_falseB ?_ ?_ | refine S_falseL ?_ ?_ | refine S_falseD ?_ ?_ | refine S_falseE ?_ ?_)); · (first | rfl | omega | exact decide_eq_false (by omega) | (rw [beq_eq_false_iff_ne]; omega) | (rw [bne_eq_false_iff_eq]; omega)))
 | ((with_reducible refine S_falseO ?_ ?_ ?_); (· rfl); (· first | rfl | (first | rfl | omega | exact decide_eq_false (by omega) | (rw [beq_eq_false_iff_ne]; omega) | (rw [bne_eq_false_iff_eq]; omega))))
 | refine S_unG rfl rfl rfl rfl ?_
 | refine S_next rfl obQ hown hat hlt (fun W hat => ?_)
 | refine S_nil ?_
 | refine S_runN rfl rfl obQ obQ ?_
       )
 | (refine G_id ?_; first
 | refine G_loopO (fun p => iter_on k d p) (p + 1) ?_ ?_ (by omega) (by rw [hst]; exact ⟨⟨_, rfl, obQ⟩, ⟨_, rfl⟩, rfl, pstQ⟩)
 | refine G_then ?_
 | refine G_block ?_
       )
       )
      · exact ⟨by omega, hal, fun _ => by omega⟩
      · rw [hdg.2] at hat; exact hat
  · have hpe : p = d.size := by omega
    subst hpe
    have h9 : d.size ≤ 9 := by
      by_cases h0 : d.size = 0
      · omega
      · exact hp3 (by omega)
    have hbd := digN_9 hp2 h9
    rw [intR_yes hc h9 hp2]
    by_cases h0 : d.size = 0
    · have hw1 := size0_of h0
      have hF : intF d m = false := by unfold intF; rw [h0]; rfl
      rw [hF]
      cases m
      · repeat' (first
 | (refine C_id ?_; first
 | refine C_seq ?_
 | refine C_region rfl ?_
 | refine C_skip ?_
 | refine C_exit ?_
 | refine C_ret0 ?_
 | refine C_condT rfl obQ ?_
 | refine C_condF rfl obQ ?_
         )
 | (refine S_id ?_; first
 | ((with_reducible (first | refine S_falseN ?_ ?_ | refine S_falseB ?_ ?_ | refine S_falseL ?_ ?_ | refine S_falseD ?_ ?_ | refine S_falseE ?_ ?_)); · (first | rfl | omega | exact decide_eq_false (by omega) | (rw [beq_eq_false_iff_ne]; omega) | (rw [bne_eq_false_iff_eq]; omega)))
 | ((with_reducible (first | refine S_trueE ?_ ?_ | refine S_trueB ?_ ?_ | refine S_trueL ?_ ?_ | refine S_trueD ?_ ?_ | refine S_trueN ?_ ?_)); · (first | rfl | omega | exact decide_eq_true (by omega) | (rw [beq_iff_eq]; omega) | (rw [bne_iff_ne]; omega)))
 | ((with_reducible refine S_trueA ?_ ?_ ?_); (· rfl); (· first | rfl | (first | rfl | omega | exact decide_eq_true (by omega) | (rw [beq_iff_eq]; omega) | (rw [bne_iff_ne]; omega))))
 | refine S_unG rfl rfl rfl rfl ?_
 | refine S_nextEnd rfl obQ hat hlt ?_
 | refine S_offG (.v (.bool false)) rfl rfl rfl rfl rfl ?_
 | refine S_pure (idxB (j := 0) rfl obQ rfl rfl rfl (by omega)) ?_
 | ((with_reducible refine S_strNe (b := true) ?_ ?_); · exact toL_ne hw2)
 | ((with_reducible refine S_strNe (b := false) ?_ ?_); · exact toL_eq hw1)
 | ((with_reducible refine S_strE (b := true) ?_ ?_); · exact toE_eq hq1)
 | ((with_reducible refine S_strE (b := false) ?_ ?_); · exact toE_ne hq2)
 | refine S_nil ?_
 | refine S_runN rfl rfl obQ obQ ?_
         )
 | (refine G_id ?_; first
 | refine G_then ?_
 | refine G_blockX ?_
 | refine G_thenX ?_
 | refine G_ret rfl obQ (fun w hw => ⟨?_, hw.below⟩)
         )
         )
        all_goals rfl
      · repeat' (first
 | (refine C_id ?_; first
 | refine C_seq ?_
 | refine C_region rfl ?_
 | refine C_skip ?_
 | refine C_exit ?_
 | refine C_ret0 ?_
 | refine C_condT rfl obQ ?_
 | refine C_condF rfl obQ ?_
         )
 | (refine S_id ?_; first
 | ((with_reducible (first | refine S_falseN ?_ ?_ | refine S_falseB ?_ ?_ | refine S_falseL ?_ ?_ | refine S_falseD ?_ ?_ | refine S_falseE ?_ ?_)); · (first | rfl | omega | exact decide_eq_false (by omega) | (rw [beq_eq_false_iff_ne]; omega) | (rw [bne_eq_false_iff_eq]; omega)))
 | ((with_reducible (first | refine S_trueE ?_ ?_ | refine S_trueB ?_ ?_ | refine S_trueL ?_ ?_ | refine S_trueD ?_ ?_ | refine S_trueN ?_ ?_)); · (first | rfl | omega | exact decide_eq_true (by omega) | (rw [beq_iff_eq]; omega) | (rw [bne_iff_ne]; omega)))
 | ((with_reducible refine S_trueA ?_ ?_ ?_); (· rfl); (· first | rfl | (first | rfl | omega | exact decide_eq_true (by omega) | (rw [beq_iff_eq]; omega) | (rw [bne_iff_ne]; omega))))
 | refine S_unG rfl rfl rfl rfl ?_
 | refine S_nextEnd rfl obQ hat hlt ?_
 | refine S_offG (.v (.bool false)) rfl rfl rfl rfl rfl ?_
 | refine S_pure (idxB (j := 0) rfl obQ rfl rfl rfl (by omega)) ?_
 | ((with_reducible refine S_strNe (b := true) ?_ ?_); · exact toL_ne hw2)
 | ((with_reducible refine S_strNe (b := false) ?_ ?_); · exact toL_eq hw1)
 | ((with_reducible refine S_strE (b := true) ?_ ?_); · exact toE_eq hq1)
 | ((with_reducible refine S_strE (b := false) ?_ ?_); · exact toE_ne hq2)
 | refine S_nil ?_
 | refine S_runN rfl rfl obQ obQ ?_
         )
 | (refine G_id ?_; first
 | refine G_then ?_
 | refine G_blockX ?_
 | refine G_thenX ?_
 | refine G_ret rfl obQ (fun w hw => ⟨?_, hw.below⟩)
         )
         )
        all_goals rfl
    · have hw2 : d ≠ ⟨#[]⟩ := fun e => h0 (by rw [e]; rfl)
      have h0' : (d.size == 0) = false := by rw [beq_eq_false_iff_ne]; exact h0
      by_cases h48 : byteAt d 0 = 48
      · by_cases h1 : d.size = 1
        · have hq1 : d = ⟨#[48]⟩ := one_of h1 h48
          have hF : intF d m = !m := by unfold intF; rw [h0', h48, h1]; rfl
          rw [hF]
          cases m
          · repeat' (first
 | (refine C_id ?_; first
 | refine C_seq ?_
 | refine C_region rfl ?_
 | refine C_skip ?_
 | refine C_exit ?_
 | refine C_ret0 ?_
 | refine C_condT rfl obQ ?_
 | refine C_condF rfl obQ ?_
         )
 | (refine S_id ?_; first
 | ((with_reducible (first | refine S_falseN ?_ ?_ | refine S_falseB ?_ ?_ | refine S_falseL ?_ ?_ | refine S_falseD ?_ ?_ | refine S_falseE ?_ ?_)); · (first | rfl | omega | exact decide_eq_false (by omega) | (rw [beq_eq_false_iff_ne]; omega) | (rw [bne_eq_false_iff_eq]; omega)))
 | ((with_reducible (first | refine S_trueE ?_ ?_ | refine S_trueB ?_ ?_ | refine S_trueL ?_ ?_ | refine S_trueD ?_ ?_ | refine S_trueN ?_ ?_)); · (first | rfl | omega | exact decide_eq_true (by omega) | (rw [beq_iff_eq]; omega) | (rw [bne_iff_ne]; omega)))
 | ((with_reducible refine S_trueA ?_ ?_ ?_); (· rfl); (· first | rfl | (first | rfl | omega | exact decide_eq_true (by omega) | (rw [beq_iff_eq]; omega) | (rw [bne_iff_ne]; omega))))
 | refine S_unG rfl rfl rfl rfl ?_
 | refine S_nextEnd rfl obQ hat hlt ?_
 | refine S_offG (.v (.bool false)) rfl rfl rfl rfl rfl ?_
 | refine S_pure (idxB (j := 0) rfl obQ rfl rfl rfl (by omega)) ?_
 | ((with_reducible refine S_strNe (b := true) ?_ ?_); · exact toL_ne hw2)
 | ((with_reducible refine S_strNe (b := false) ?_ ?_); · exact toL_eq hw1)
 | ((with_reducible refine S_strE (b := true) ?_ ?_); · exact toE_eq hq1)
 | ((with_reducible refine S_strE (b := false) ?_ ?_); · exact toE_ne hq2)
 | refine S_nil ?_
 | refine S_runN rfl rfl obQ obQ ?_
         )
 | (refine G_id ?_; first
 | refine G_then ?_
 | refine G_blockX ?_
 | refine G_thenX ?_
 | refine G_ret rfl obQ (fun w hw => ⟨?_, hw.below⟩)
         )
         )
            all_goals rfl
          · repeat' (first
 | (refine C_id ?_; first
 | refine C_seq ?_
 | refine C_region rfl ?_
 | refine C_skip ?_
 | refine C_exit ?_
 | refine C_ret0 ?_
 | refine C_condT rfl obQ ?_
 | refine C_condF rfl obQ ?_
         )
 | (refine S_id ?_; first
 | ((with_reducible (first | refine S_falseN ?_ ?_ | refine S_falseB ?_ ?_ | refine S_falseL ?_ ?_ | refine S_falseD ?_ ?_ | refine S_falseE ?_ ?_)); · (first | rfl | omega | exact decide_eq_false (by omega) | (rw [beq_eq_false_iff_ne]; omega) | (rw [bne_eq_false_iff_eq]; omega)))
 | ((with_reducible (first | refine S_trueE ?_ ?_ | refine S_trueB ?_ ?_ | refine S_trueL ?_ ?_ | refine S_trueD ?_ ?_ | refine S_trueN ?_ ?_)); · (first | rfl | omega | exact decide_eq_true (by omega) | (rw [beq_iff_eq]; omega) | (rw [bne_iff_ne]; omega)))
 | ((with_reducible refine S_trueA ?_ ?_ ?_); (· rfl); (· first | rfl | (first | rfl | omega | exact decide_eq_true (by omega) | (rw [beq_iff_eq]; omega) | (rw [bne_iff_ne]; omega))))
 | refine S_unG rfl rfl rfl rfl ?_
 | refine S_nextEnd rfl obQ hat hlt ?_
 | refine S_offG (.v (.bool false)) rfl rfl rfl rfl rfl ?_
 | refine S_pure (idxB (j := 0) rfl obQ rfl rfl rfl (by omega)) ?_
 | ((with_reducible refine S_strNe (b := true) ?_ ?_); · exact toL_ne hw2)
 | ((with_reducible refine S_strNe (b := false) ?_ ?_); · exact toL_eq hw1)
 | ((with_reducible refine S_strE (b := true) ?_ ?_); · exact toE_eq hq1)
 | ((with_reducible refine S_strE (b := false) ?_ ?_); · exact toE_ne hq2)
 | refine S_nil ?_
 | refine S_runN rfl rfl obQ obQ ?_
         )
 | (refine G_id ?_; first
 | refine G_then ?_
 | refine G_blockX ?_
 | refine G_thenX ?_
 | refine G_ret rfl obQ (fun w hw => ⟨?_, hw.below⟩)
         )
         )
            all_goals rfl
        · have hq2 : d ≠ ⟨#[48]⟩ := fun e => h1 (by rw [e]; rfl)
          have hF : intF d m = false := by unfold intF; rw [h0', h48, beq_eq_false_iff_ne.2 h1]; rfl
          rw [hF]
          cases m
          · repeat' (first
 | (refine C_id ?_; first
 | refine C_seq ?_
 | refine C_region rfl ?_
 | refine C_skip ?_
 | refine C_exit ?_
 | refine C_ret0 ?_
 | refine C_condT rfl obQ ?_
 | refine C_condF rfl obQ ?_
         )
 | (refine S_id ?_; first
 | ((with_reducible (first | refine S_falseN ?_ ?_ | refine S_falseB ?_ ?_ | refine S_falseL ?_ ?_ | refine S_falseD ?_ ?_ | refine S_falseE ?_ ?_)); · (first | rfl | omega | exact decide_eq_false (by omega) | (rw [beq_eq_false_iff_ne]; omega) | (rw [bne_eq_false_iff_eq]; omega)))
 | ((with_reducible (first | refine S_trueE ?_ ?_ | refine S_trueB ?_ ?_ | refine S_trueL ?_ ?_ | refine S_trueD ?_ ?_ | refine S_trueN ?_ ?_)); · (first | rfl | omega | exact decide_eq_true (by omega) | (rw [beq_iff_eq]; omega) | (rw [bne_iff_ne]; omega)))
 | ((with_reducible refine S_trueA ?_ ?_ ?_); (· rfl); (· first | rfl | (first | rfl | omega | exact decide_eq_true (by omega) | (rw [beq_iff_eq]; omega) | (rw [bne_iff_ne]; omega))))
 | refine S_unG rfl rfl rfl rfl ?_
 | refine S_nextEnd rfl obQ hat hlt ?_
 | refine S_offG (.v (.bool false)) rfl rfl rfl rfl rfl ?_
 | refine S_pure (idxB (j := 0) rfl obQ rfl rfl rfl (by omega)) ?_
 | ((with_reducible refine S_strNe (b := true) ?_ ?_); · exact toL_ne hw2)
 | ((with_reducible refine S_strNe (b := false) ?_ ?_); · exact toL_eq hw1)
 | ((with_reducible refine S_strE (b := true) ?_ ?_); · exact toE_eq hq1)
 | ((with_reducible refine S_strE (b := false) ?_ ?_); · exact toE_ne hq2)
 | refine S_nil ?_
 | refine S_runN rfl rfl obQ obQ ?_
         )
 | (refine G_id ?_; first
 | refine G_then ?_
 | refine G_blockX ?_
 | refine G_thenX ?_
 | refine G_ret rfl obQ (fun w hw => ⟨?_, hw.below⟩)
         )
         )
            all_goals rfl
          · repeat' (first
 | (refine C_id ?_; first
 | refine C_seq ?_
 | refine C_region rfl ?_
 | refine C_skip ?_
 | refine C_exit ?_
 | refine C_ret0 ?_
 | refine C_condT rfl obQ ?_
 | refine C_condF rfl obQ ?_
         )
 | (refine S_id ?_; first
 | ((with_reducible (first | refine S_falseN ?_ ?_ | refine S_falseB ?_ ?_ | refine S_falseL ?_ ?_ | refine S_falseD ?_ ?_ | refine S_falseE ?_ ?_)); · (first | rfl | omega | exact decide_eq_false (by omega) | (rw [beq_eq_false_iff_ne]; omega) | (rw [bne_eq_false_iff_eq]; omega)))
 | ((with_reducible (first | refine S_trueE ?_ ?_ | refine S_trueB ?_ ?_ | refine S_trueL ?_ ?_ | refine S_trueD ?_ ?_ | refine S_trueN ?_ ?_)); · (first | rfl | omega | exact decide_eq_true (by omega) | (rw [beq_iff_eq]; omega) | (rw [bne_iff_ne]; omega)))
 | ((with_reducible refine S_trueA ?_ ?_ ?_); (· rfl); (· first | rfl | (first | rfl | omega | exact decide_eq_true (by omega) | (rw [beq_iff_eq]; omega) | (rw [bne_iff_ne]; omega))))
 | refine S_unG rfl rfl rfl rfl ?_
 | refine S_nextEnd rfl obQ hat hlt ?_
 | refine S_offG (.v (.bool false)) rfl rfl rfl rfl rfl ?_
 | refine S_pure (idxB (j := 0) rfl obQ rfl rfl rfl (by omega)) ?_
 | ((with_reducible refine S_strNe (b := true) ?_ ?_); · exact toL_ne hw2)
 | ((with_reducible refine S_strNe (b := false) ?_ ?_); · exact toL_eq hw1)
 | ((with_reducible refine S_strE (b := true) ?_ ?_); · exact toE_eq hq1)
 | ((with_reducible refine S_strE (b := false) ?_ ?_); · exact toE_ne hq2)
 | refine S_nil ?_
 | refine S_runN rfl rfl obQ obQ ?_
         )
 | (refine G_id ?_; first
 | refine G_then ?_
 | refine G_blockX ?_
 | refine G_thenX ?_
 | refine G_ret rfl obQ (fun w hw => ⟨?_, hw.below⟩)
         )
         )
            all_goals rfl
      · have hF : intF d m = true := by unfold intF; rw [h0', beq_eq_false_iff_ne.2 h48]; rfl
        rw [hF]
        cases m
        · repeat' (first
 | (refine C_id ?_; first
 | refine C_seq ?_
 | refine C_region rfl ?_
 | refine C_skip ?_
 | refine C_exit ?_
 | refine C_ret0 ?_
 | refine C_condT rfl obQ ?_
 | refine C_condF rfl obQ ?_
         )
 | (refine S_id ?_; first
 | ((with_reducible (first | refine S_falseN ?_ ?_ | refine S_falseB ?_ ?_ | refine S_falseL ?_ ?_ | refine S_falseD ?_ ?_ | refine S_falseE ?_ ?_)); · (first | rfl | omega | exact decide_eq_false (by omega) | (rw [beq_eq_false_iff_ne]; omega) | (rw [bne_eq_false_iff_eq]; omega)))
 | ((with_reducible (first | refine S_trueE ?_ ?_ | refine S_trueB ?_ ?_ | refine S_trueL ?_ ?_ | refine S_trueD ?_ ?_ | refine S_trueN ?_ ?_)); · (first | rfl | omega | exact decide_eq_true (by omega) | (rw [beq_iff_eq]; omega) | (rw [bne_iff_ne]; omega)))
 | ((with_reducible refine S_trueA ?_ ?_ ?_); (· rfl); (· first | rfl | (first | rfl | omega | exact decide_eq_true (by omega) | (rw [beq_iff_eq]; omega) | (rw [bne_iff_ne]; omega))))
 | refine S_unG rfl rfl rfl rfl ?_
 | refine S_nextEnd rfl obQ hat hlt ?_
 | refine S_offG (.v (.bool false)) rfl rfl rfl rfl rfl ?_
 | refine S_pure (idxB (j := 0) rfl obQ rfl rfl rfl (by omega)) ?_
 | ((with_reducible refine S_strNe (b := true) ?_ ?_); · exact toL_ne hw2)
 | ((with_reducible refine S_strNe (b := false) ?_ ?_); · exact toL_eq hw1)
 | ((with_reducible refine S_strE (b := true) ?_ ?_); · exact toE_eq hq1)
 | ((with_reducible refine S_strE (b := false) ?_ ?_); · exact toE_ne hq2)
 | refine S_nil ?_
 | refine S_runN rfl rfl obQ obQ ?_
         )
 | (refine G_id ?_; first
 | refine G_then ?_
 | refine G_blockX ?_
 | refine G_thenX ?_
 | refine G_ret rfl obQ (fun w hw => ⟨?_, hw.below⟩)
         )
         )
          all_goals rfl
        · repeat' (first
 | (refine C_id ?_; first
 | refine C_seq ?_
 | refine C_region rfl ?_
 | refine C_skip ?_
 | refine C_exit ?_
 | refine C_ret0 ?_
 | refine C_condT rfl obQ ?_
 | refine C_condF rfl obQ ?_
         )
 | (refine S_id ?_; first
 | ((with_reducible (first | refine S_falseN ?_ ?_ | refine S_falseB ?_ ?_ | refine S_falseL ?_ ?_ | refine S_falseD ?_ ?_ | refine S_falseE ?_ ?_)); · (first | rfl | omega | exact decide_eq_false (by omega) | (rw [beq_eq_false_iff_ne]; omega) | (rw [bne_eq_false_iff_eq]; omega)))
 | ((with_reducible (first | refine S_trueE ?_ ?_ | refine S_trueB ?_ ?_ | refine S_trueL ?_ ?_ | refine S_trueD ?_ ?_ | refine S_trueN ?_ ?_)); · (first | rfl | omega | exact decide_eq_true (by omega) | (rw [beq_iff_eq]; omega) | (rw [bne_iff_ne]; omega)))
 | ((with_reducible refine S_trueA ?_ ?_ ?_); (· rfl); (· first | rfl | (first | rfl | omega | exact decide_eq_true (by omega) | (rw [beq_iff_eq]; omega) | (rw [bne_iff_ne]; omega))))
 | refine S_unG rfl rfl rfl rfl ?_
 | refine S_nextEnd rfl obQ hat hlt ?_
 | refine S_offG (.v (.bool false)) rfl rfl rfl rfl rfl ?_
 | refine S_pure (idxB (j := 0) rfl obQ rfl rfl rfl (by omega)) ?_
 | ((with_reducible refine S_strNe (b := true) ?_ ?_); · exact toL_ne hw2)
 | ((with_reducible refine S_strNe (b := false) ?_ ?_); · exact toL_eq hw1)
 | ((with_reducible refine S_strE (b := true) ?_ ?_); · exact toE_eq hq1)
 | ((with_reducible refine S_strE (b := false) ?_ ?_); · exact toE_ne hq2)
 | refine S_nil ?_
 | refine S_runN rfl rfl obQ obQ ?_
         )
 | (refine G_id ?_; first
 | refine G_then ?_
 | refine G_blockX ?_
 | refine G_thenX ?_
 | refine G_ret rfl obQ (fun w hw => ⟨?_, hw.below⟩)
         )
         )
          all_goals rfl

end Go.Proofs.YtdbffbcobghbeaaGreatDoor
namespace Go.Proofs.YtdbffbcobghbeaaGreatDoor
open Go.E Go.RowKit Go.Fl
attribute [local irreducible] G C S D Calls
set_option maxRecDepth 100000
set_option linter.unusedSimpArgs false
set_option linter.unusedVariables false

theorem digN_mono {s : ByteArray} {n : Nat} (h : allD s n = true) : ∀ {k : Nat}, k < n → digN s (k + 1) ≥ (byteAt s 0 : Int) - 48
  | 0, hk => by simp [digN]
  | k + 1, hk => by
    have h1 := digN_mono h (show k < n by omega)
    have h2 := dig_c (allD_at h hk)
    have h3 := dig_c (allD_at h (show 0 < n by omega))
    rw [digN]
    omega
/-- The program's integer is the reference's, where there is one. -/
theorem int_sgn (s : ByteArray) : (intR s).2 = (sgnR s).2 ∧ ((sgnR s).2 = true → (intR s).1 = (sgnR s).1) := by
  rcases hc : cutM s with ⟨d, m⟩
  have hs : sgnR s = if m then (0 - (digR d).1, (digR d).2 && decide (0 < (digR d).1)) else digR d := by
    unfold cutM at hc
    unfold sgnR
    by_cases h : 0 < s.size ∧ byteAt s 0 = 45
    · rw [if_pos h] at hc ⊢
      cases hc
      rfl
    · rw [if_neg h] at hc ⊢
      cases hc
      rfl
  rw [hs]
  by_cases h9 : d.size ≤ 9 ∧ allD d d.size = true
  · rw [intR_yes hc h9.1 h9.2]
    by_cases h0 : d.size = 0
    · have hF : digF d = false := by unfold digF; rw [h0]; rfl
      rw [digR_no hF]
      have hI : intF d m = false := by unfold intF; rw [h0]; rfl
      rw [hI]
      cases m <;> simp
    · have h0' : (d.size == 0) = false := beq_eq_false_iff_ne.2 h0
      have hbd := digN_9 h9.2 h9.1
      by_cases h48 : byteAt d 0 = 48
      · by_cases h1 : d.size = 1
        · have hF : digF d = true := by unfold digF; rw [h0', h1]; rfl
          have hI : intF d m = !m := by unfold intF; rw [h0', h48, h1]; rfl
          rw [digR_yes hF h9.2, hI]
          have hz : digN d d.size = 0 := by rw [h1]; simp [digN, h48]
          rw [hz]
          cases m <;> simp [intV, hz]
        · have hF : digF d = false := by unfold digF; rw [h0', h48, decide_eq_true (show 1 < d.size by omega)]; simp
          have hI : intF d m = false := by unfold intF; rw [h0', h48, beq_eq_false_iff_ne.2 h1]; rfl
          rw [digR_no hF, hI]
          cases m <;> simp
      · have hF : digF d = true := by unfold digF; rw [h0', decide_eq_true h9.1, beq_eq_false_iff_ne.2 h48]; simp
        have hI : intF d m = true := by unfold intF; rw [h0', beq_eq_false_iff_ne.2 h48]; rfl
        have hd0 := dig_c (allD_at h9.2 (show 0 < d.size by omega))
        have hpos : 0 < digN d d.size := by
          have := digN_mono h9.2 (show d.size - 1 < d.size by omega)
          rw [show d.size - 1 + 1 = d.size by omega] at this
          omega
        rw [digR_yes hF h9.2, hI]
        cases m <;> simp [intV, hpos]
  · rw [intR_no hc (by
      by_cases h : 9 < d.size
      · exact .inl h
      · right
        cases ha : allD d d.size
        · rfl
        · exact absurd ⟨by omega, ha⟩ h9)]
    have hD : digR d = (0, false) := by
      unfold digR
      by_cases hf : (digF d && allD d d.size) = true
      · rw [Bool.and_eq_true] at hf
        have := hf.1
        unfold digF at this
        simp only [Bool.and_eq_true, decide_eq_true_eq] at this
        exact absurd ⟨this.1.2, hf.2⟩ h9
      · rw [if_neg hf]
    rw [hD]
    cases m <;> simp

end Go.Proofs.YtdbffbcobghbeaaGreatDoor
namespace Go.Proofs.YtdbffbcobghbeaaGreatDoor
open Go.E Go.RowKit Go.Fl
attribute [local irreducible] G C S D Calls
set_option maxRecDepth 100000
set_option linter.unusedSimpArgs false
set_option linter.unusedVariables false

/-- The box of a taker. -/
abbrev tkB (b : Nat) (A : Option Addr) (n c : Nat) (wr : Bool) : Bx := ⟨b, 249, [.v (.slice A n c), .v (.bool wr)]⟩
theorem rTake_s {S : Nat → Prop} {W : World} {ad : Addr} {x : ByteArray} {xs : List ByteArray} (h : RdS S W (some ad) ((x :: xs).map Value.string)) : ∀ (j : Nat) (u : Value), ([.string x] : List Value)[j]? = some u → ((x :: xs).map Value.string)[0 + j]? = some u := by
  intro j u hu
  cases j with
  | succ j => simp at hu
  | zero => simpa using hu

set_option maxHeartbeats 1000000 in
theorem number0_c {b : Nat} {A : Option Addr} {n c : Nat} {wr : Bool} (w : World) (hst : HW 0 w [] ⟨[], [tkB b A n c wr], []⟩ w) (hn : n = 0) : Calls Tryz.prog 169 #[.pointer (some ⟨b, 0, none⟩)] w fun r w' => r = .returned (.int .i64 0) ∧ TurSt [tkB b A n c wr] [] [tkB b A n c true] [] w w' := by
  refine calls_ofSt (args := [.pointer (some ⟨b, 0, none⟩)]) T_ok Tryz.func169 rfl Tryz.ntmps169 (Nat.le_of_ble_eq_true rfl) rfl [tkB b A n c wr] [] hst [(0, .s (.p b 0 0))] rfl ?_
  subst hn
  repeat' (first
 | (refine C_id ?_; first
 | refine C_seq ?_
 | refine C_region rfl ?_
 | refine C_ret0 ?_
 | refine C_condT rfl obQ ?_
 )
 | (refine S_id ?_; first
 | ((with_reducible (first | refine S_trueE ?_ ?_ | refine S_trueB ?_ ?_ | refine S_trueL ?_ ?_ | refine S_trueD ?_ ?_ | refine S_trueN ?_ ?_)); · (first | rfl | omega | exact decide_eq_true (by omega) | (rw [beq_iff_eq]; omega)))
 | refine S_nil ?_
 | refine S_runN rfl rfl obQ obQ ?_
 )
 | (refine G_id ?_; first
 | refine G_then ?_
 | refine G_thenR ?_
 | refine G_ret rfl obQ (fun w2 hw => ⟨?_, hw.turnedSt (by simp) (List.prefix_refl _) rfl⟩)
 )
 )
  all_goals rfl

theorem integer_as {s : ByteArray} {z : Int} {b : Bool} (h : intR s = (z, b)) (hs : s.size ≤ 1000000) (w : World) : Calls Tryz.prog 209 #[.string s] w fun r w' => r = .returned (.tuple #[.int .i64 z, .bool b]) ∧ Below w.heap.size w w' := by
  have := integer_c s hs w
  rw [h] at this
  exact this
/-- The rest of the words' place. -/
def tlA (ad : Addr) (c : Nat) : Option Addr := if c = 1 then some ad else (some ad).map (·.add (1 * 1))

set_option maxHeartbeats 1000000 in
theorem number1_c {b : Nat} {A : Option Addr} {ad : Addr} {n c : Nat} {wr : Bool} {x : ByteArray} {xs : List ByteArray} {z : Int} {fl : Bool} (w : World) (hst : HW 0 w [] ⟨[], [tkB b A n c wr], []⟩ w) (hn : n = xs.length + 1) (hA : A = some ad) (hx : x.size ≤ 1000000) (hi : intR x = (z, fl)) (hr : RdS (stPast [tkB b A n c wr] [] w).2 w (some ad) ((x :: xs).map Value.string)) : Calls Tryz.prog 169 #[.pointer (some ⟨b, 0, none⟩)] w fun r w' => r = .returned (.int .i64 z) ∧ TurSt [tkB b A n c wr] [] [tkB b (tlA ad c) xs.length (c - 1) (wr || !fl)] [] w w' := by
  refine calls_ofSt (args := [.pointer (some ⟨b, 0, none⟩)]) T_ok Tryz.func169 rfl Tryz.ntmps169 (Nat.le_of_ble_eq_true rfl) rfl [tkB b A n c wr] [] hst [(0, .s (.p b 0 0))] rfl ?_
  subst hn
  subst hA
  cases wr
  · cases fl
    · repeat' (first
 | (refine C_id ?_; first
 | refine C_seq ?_
 | refine C_region rfl ?_
 | refine C_skip ?_
 | refine C_ret0 ?_
 | refine C_condF rfl obQ ?_
       )
 | (refine S_id ?_; first
 | ((with_reducible (first | refine S_falseN ?_ ?_ | refine S_falseB ?_ ?_ | refine S_falseL ?_ ?_ | refine S_falseD ?_ ?_ | refine S_falseE ?_ ?_)); · (first | rfl | omega | exact decide_eq_false (by omega) | (rw [beq_eq_false_iff_ne]; omega)))
 | refine S_unG rfl rfl rfl rfl ?_
 | refine S_offG (.v (.bool false)) rfl rfl rfl rfl rfl ?_
 | refine S_load rfl obQ rfl [.string x] (.past _ memQ _ _ hr _ _ rfl rfl (rTake_s hr)) rfl (.inr ⟨rfl, rfl⟩) ?_
 | refine S_pure (sliceX_pure rfl obQ (fun w' => sl_loT (X := ⟨Tryz.prog, T, T_ok, 44, 0, w, [], none⟩) (t := 178) rfl rfl (some ad) (xs.length + 1) c _ _ 1 rfl (by omega) w')) ?_
 | refine S_nil ?_
 | refine S_runN rfl rfl obQ obQ ?_
 | refine S_call (f := 209) rfl obQ (by kernel_rfl) (fun w hw => integer_as hi hx w) ?_
       )
 | (refine G_id ?_; first
 | refine G_then ?_
 | refine G_ret rfl obQ (fun w2 hw => ⟨?_, hw.turnedSt (by simp) (List.prefix_refl _) rfl⟩)
       )
       )
      all_goals rfl
    · repeat' (first
 | (refine C_id ?_; first
 | refine C_seq ?_
 | refine C_region rfl ?_
 | refine C_skip ?_
 | refine C_ret0 ?_
 | refine C_condF rfl obQ ?_
       )
 | (refine S_id ?_; first
 | ((with_reducible (first | refine S_falseN ?_ ?_ | refine S_falseB ?_ ?_ | refine S_falseL ?_ ?_ | refine S_falseD ?_ ?_ | refine S_falseE ?_ ?_)); · (first | rfl | omega | exact decide_eq_false (by omega) | (rw [beq_eq_false_iff_ne]; omega)))
 | refine S_unG rfl rfl rfl rfl ?_
 | refine S_offG (.v (.bool false)) rfl rfl rfl rfl rfl ?_
 | refine S_load rfl obQ rfl [.string x] (.past _ memQ _ _ hr _ _ rfl rfl (rTake_s hr)) rfl (.inr ⟨rfl, rfl⟩) ?_
 | refine S_pure (sliceX_pure rfl obQ (fun w' => sl_loT (X := ⟨Tryz.prog, T, T_ok, 44, 0, w, [], none⟩) (t := 178) rfl rfl (some ad) (xs.length + 1) c _ _ 1 rfl (by omega) w')) ?_
 | refine S_nil ?_
 | refine S_runN rfl rfl obQ obQ ?_
 | refine S_call (f := 209) rfl obQ (by kernel_rfl) (fun w hw => integer_as hi hx w) ?_
       )
 | (refine G_id ?_; first
 | refine G_then ?_
 | refine G_ret rfl obQ (fun w2 hw => ⟨?_, hw.turnedSt (by simp) (List.prefix_refl _) rfl⟩)
       )
       )
      all_goals rfl
  · cases fl
    · repeat' (first
 | (refine C_id ?_; first
 | refine C_seq ?_
 | refine C_region rfl ?_
 | refine C_skip ?_
 | refine C_ret0 ?_
 | refine C_condF rfl obQ ?_
       )
 | (refine S_id ?_; first
 | ((with_reducible (first | refine S_falseN ?_ ?_ | refine S_falseB ?_ ?_ | refine S_falseL ?_ ?_ | refine S_falseD ?_ ?_ | refine S_falseE ?_ ?_)); · (first | rfl | omega | exact decide_eq_false (by omega) | (rw [beq_eq_false_iff_ne]; omega)))
 | refine S_unG rfl rfl rfl rfl ?_
 | refine S_offG (.v (.bool false)) rfl rfl rfl rfl rfl ?_
 | refine S_load rfl obQ rfl [.string x] (.past _ memQ _ _ hr _ _ rfl rfl (rTake_s hr)) rfl (.inr ⟨rfl, rfl⟩) ?_
 | refine S_pure (sliceX_pure rfl obQ (fun w' => sl_loT (X := ⟨Tryz.prog, T, T_ok, 44, 0, w, [], none⟩) (t := 178) rfl rfl (some ad) (xs.length + 1) c _ _ 1 rfl (by omega) w')) ?_
 | refine S_nil ?_
 | refine S_runN rfl rfl obQ obQ ?_
 | refine S_call (f := 209) rfl obQ (by kernel_rfl) (fun w hw => integer_as hi hx w) ?_
       )
 | (refine G_id ?_; first
 | refine G_then ?_
 | refine G_ret rfl obQ (fun w2 hw => ⟨?_, hw.turnedSt (by simp) (List.prefix_refl _) rfl⟩)
       )
       )
      all_goals rfl
    · repeat' (first
 | (refine C_id ?_; first
 | refine C_seq ?_
 | refine C_region rfl ?_
 | refine C_skip ?_
 | refine C_ret0 ?_
 | refine C_condF rfl obQ ?_
       )
 | (refine S_id ?_; first
 | ((with_reducible (first | refine S_falseN ?_ ?_ | refine S_falseB ?_ ?_ | refine S_falseL ?_ ?_ | refine S_falseD ?_ ?_ | refine S_falseE ?_ ?_)); · (first | rfl | omega | exact decide_eq_false (by omega) | (rw [beq_eq_false_iff_ne]; omega)))
 | refine S_unG rfl rfl rfl rfl ?_
 | refine S_offG (.v (.bool false)) rfl rfl rfl rfl rfl ?_
 | refine S_load rfl obQ rfl [.string x] (.past _ memQ _ _ hr _ _ rfl rfl (rTake_s hr)) rfl (.inr ⟨rfl, rfl⟩) ?_
 | refine S_pure (sliceX_pure rfl obQ (fun w' => sl_loT (X := ⟨Tryz.prog, T, T_ok, 44, 0, w, [], none⟩) (t := 178) rfl rfl (some ad) (xs.length + 1) c _ _ 1 rfl (by omega) w')) ?_
 | refine S_nil ?_
 | refine S_runN rfl rfl obQ obQ ?_
 | refine S_call (f := 209) rfl obQ (by kernel_rfl) (fun w hw => integer_as hi hx w) ?_
       )
 | (refine G_id ?_; first
 | refine G_then ?_
 | refine G_ret rfl obQ (fun w2 hw => ⟨?_, hw.turnedSt (by simp) (List.prefix_refl _) rfl⟩)
       )
       )
      all_goals rfl

end Go.Proofs.YtdbffbcobghbeaaGreatDoor
namespace Go.Proofs.YtdbffbcobghbeaaGreatDoor
open Go.E Go.RowKit Go.Fl
attribute [local irreducible] G C S D Calls
set_option maxRecDepth 100000
set_option linter.unusedSimpArgs false
set_option linter.unusedVariables false

abbrev xtB (b : Nat) (m : Int) (A : Option Addr) (n c : Nat) : Bx := ⟨b, 234, [.v (.int .i64 m), .r A n c 0]⟩
/-- What the next number is, in the worlds that keep what lies outside the boxes. -/
def NextIs (cb : List Bx) (rw : List Rw) (w : World) (p : Nat) (tk tk' : Bx) (z : Int) : Prop := ∀ W : World, (∀ g, (stPast cb rw w).2 g → g < W.heap.size ∧ W.heap[g]? = w.heap[g]?) → HW 0 W [] ⟨[], [tk], []⟩ W →
  Calls Tryz.prog 169 #[.pointer (some ⟨p, 0, none⟩)] W fun r w' => r = .returned (.int .i64 z) ∧ TurSt [tk] [] [tk'] [] W w'

set_option maxHeartbeats 1000000 in
theorem form1_c {b1 p n c : Nat} {m z : Int} {A : Option Addr} {r : Rw} {tk tk' : Bx} (w : World) (hst : HW 0 w [] ⟨[], [xtB b1 m A n c, tk], [r]⟩ w) (hnx : NextIs [xtB b1 m A n c, tk] [r] w p tk tk' z) (hb : tk'.b = tk.b) :
    Calls Tryz.prog 207 #[.pointer (some ⟨b1, 0, none⟩), .func (.func 169) #[.pointer (some ⟨p, 0, none⟩)] #[]] w fun e w' => ∃ v, e = .returned v ∧ TurSt [xtB b1 m A n c, tk] [r] [xtB b1 z A n c, tk'] [r] w w' := by
  refine calls_ofSt (args := [.pointer (some ⟨b1, 0, none⟩), .func (.func 169) #[.pointer (some ⟨p, 0, none⟩)] #[]]) T_ok Tryz.func207 rfl Tryz.ntmps207 (Nat.le_of_ble_eq_true rfl) rfl [xtB b1 m A n c, tk] [r] hst [(0, .s (.p b1 0 0)), (1, .s (.v (.func (.func 169) #[.pointer (some ⟨p, 0, none⟩)] #[])))] rfl ?_
  repeat' (first
 | (refine C_id ?_; first
 | refine C_region rfl ?_
 )
 | (refine S_id ?_; first
 | refine S_callSt0 1 rfl tk' rfl obQ (by kernel_rfl) (fun w2 hw h0 => hnx w2 (fun g hg => (hw.past _ (List.Mem.head _) g hg).1) h0) ?_
 | refine S_nil ?_
 | refine S_run rfl rfl obQ obQ ?_
 )
 | (refine G_id ?_; first
 | refine G_end rfl obQ (fun w2 hw => ⟨_, rfl, hw.turnedSt (by simp) (List.prefix_refl _) (by simp [hb])⟩)
 )
 )

set_option maxHeartbeats 1000000 in
theorem form2_c {b1 p n c : Nat} {m z1 z2 : Int} {A : Option Addr} {xs : List Value} {tk tk1 tk2 : Bx} (hn : n ≤ 1000000) (w : World) (hst : HW 0 w [] ⟨[], [xtB b1 m A n c, tk], [⟨189, 2, n, xs, .slice A n c⟩]⟩ w) (hnx : NextIs [xtB b1 m A n c, tk] [⟨189, 2, n, xs, .slice A n c⟩] w p tk tk1 z1) (hnx2 : NextIs [xtB b1 m A n c, tk] [⟨189, 2, n, xs, .slice A n c⟩] w p tk1 tk2 z2) (hb : tk2.b = tk.b) :
    Calls Tryz.prog 208 #[.pointer (some ⟨b1, 0, none⟩), .func (.func 169) #[.pointer (some ⟨p, 0, none⟩)] #[]] w fun e w' => ∃ v A' c', e = .returned v ∧ TurSt [xtB b1 m A n c, tk] [⟨189, 2, n, xs, .slice A n c⟩] [xtB b1 m A' (n + 1) c', tk2] [⟨189, 2, n + 1, xs ++ [.int .i64 z1, .int .i64 z2], .slice A' (n + 1) c'⟩] w w' := by
  refine calls_ofSt (args := [.pointer (some ⟨b1, 0, none⟩), .func (.func 169) #[.pointer (some ⟨p, 0, none⟩)] #[]]) T_ok Tryz.func208 rfl Tryz.ntmps208 (Nat.le_of_ble_eq_true rfl) rfl [xtB b1 m A n c, tk] [⟨189, 2, n, xs, .slice A n c⟩] hst [(0, .s (.p b1 0 0)), (1, .s (.v (.func (.func 169) #[.pointer (some ⟨p, 0, none⟩)] #[])))] rfl ?_
  repeat' (first
 | (refine C_id ?_; first
 | refine C_seq ?_
 | refine C_region rfl ?_
 )
 | (refine S_id ?_; first
 | refine S_callSt0 1 rfl tk1 rfl obQ (by kernel_rfl) (fun w2 hw h0 => hnx w2 (fun g hg => (hw.past _ (List.Mem.head _) g hg).1) h0) ?_
 | refine S_callSt0 1 rfl tk2 rfl obQ (by kernel_rfl) (fun w2 hw h0 => hnx2 w2 (fun g hg => (hw.past _ (List.Mem.head _) g hg).1) h0) ?_
 | refine S_append rfl obQ rfl rfl rfl ⟨by decide, rfl⟩ rfl ⟨rfl, rfl, rfl, rfl⟩ [.int .i64 z1, .int .i64 z2] ⟨by decide, rfl⟩ (by simp [Value.oneCell']) (fun w hw => by first | exact hw.src (i := 0) rfl rfl | exact hw.src (i := 1) rfl rfl | exact hw.src (i := 2) rfl rfl | exact hw.src (i := 3) rfl rfl | exact hw.src (i := 4) rfl rfl | exact hw.src (i := 5) rfl rfl | exact hw.src (i := 6) rfl rfl | exact hw.src (i := 7) rfl rfl | exact hw.src (i := 8) rfl rfl) (by unfold maxLen; dsimp only; omega) (fun gb cap' => ⟨_, rfl, ?_⟩)
 | refine S_nil ?_
 | refine S_run rfl rfl obQ obQ ?_
 | refine S_slice (fun b => ⟨_, _, rfl, obQ, ?_⟩)
 )
 | (refine G_id ?_; first
 | refine G_then ?_
 | refine G_end rfl obQ (fun w2 hw => ⟨_, _, _, rfl, hw.turnedSt (by simp) ⟨_, rfl⟩ (by simp [hb])⟩)
 )
 )

end Go.Proofs.YtdbffbcobghbeaaGreatDoor
namespace Go.Proofs.YtdbffbcobghbeaaGreatDoor
open Go.E Go.RowKit Go.Fl
attribute [local irreducible] G C S D Calls
set_option maxRecDepth 100000
set_option linter.unusedSimpArgs false
set_option linter.unusedVariables false

/-- A newline at the end. -/
def cutE (s : ByteArray) : ByteArray × Bool := if 0 < s.size ∧ byteAt s (s.size - 1) = 10 then (s.extract 0 (s.size - 1), true) else (s, false)
theorem cutE_eq (s : ByteArray) : ((⟨(Lib.trimSuffix s.data.toList sNl.data.toList).toArray⟩ : ByteArray), Lib.hasSuffix s.data.toList sNl.data.toList) = cutE s := by
  have e : sNl.data.toList = [10] := rfl
  have key : ∀ (c : Bool) (x : ByteArray), Lib.hasSuffix s.data.toList [10] = c → Lib.trimSuffix s.data.toList [10] = x.data.toList → cutE s = (x, c) → ((⟨(Lib.trimSuffix s.data.toList [10]).toArray⟩ : ByteArray), Lib.hasSuffix s.data.toList [10]) = cutE s := by
    intro c x h1 h2 h3
    rw [h1, h2, h3]
  rw [e]
  rcases List.eq_nil_or_concat s.data.toList with hl | ⟨l, a, hl⟩
  · have h0 : s.size = 0 := by rw [Lib.size_eq, hl]; rfl
    exact key false s (by rw [hl]; rfl) (by rw [hl]; rfl) (if_neg (by omega))
  · have h0 : s.size = l.length + 1 := by rw [Lib.size_eq, hl]; simp
    have hb : byteAt s (s.size - 1) = a.toNat := by
      rw [bx_get (by omega)]
      simp [hl, h0]
    have hf : Lib.hasSuffix (l ++ [a]) [10] = ((10 : UInt8) == a) := by
      unfold Lib.hasSuffix
      simp [List.isSuffixOf, List.isPrefixOf]
    rw [List.concat_eq_append] at hl
    by_cases ha : a = 10
    · refine key true (s.extract 0 (s.size - 1)) (by rw [hl, hf, ha]; rfl) ?_ (if_pos ⟨by omega, by rw [hb, ha]; rfl⟩)
      have hx := Lib.extract_toList s 0 (s.size - 1)
      have hx2 : (s.extract 0 (s.size - 1)).data.toList = (List.drop 0 (l ++ [a])).take (s.size - 1 - 0) := by
        rw [← hl, ← hx]
        simp [ByteArray.toList_eq]
      rw [hx2, hl]
      unfold Lib.trimSuffix
      rw [hf, ha]
      simp [h0]
    · have hn : ¬ (0 < s.size ∧ byteAt s (s.size - 1) = 10) := by
        rintro ⟨_, h⟩
        rw [hb] at h
        exact ha (UInt8.toNat_inj.1 h)
      have hf2 : ((10 : UInt8) == a) = false := beq_eq_false_iff_ne.2 fun h => ha h.symm
      refine key false s (by rw [hl, hf, hf2]) ?_ (if_neg hn)
      rw [hl]
      unfold Lib.trimSuffix
      rw [hf, hf2]
      rfl
theorem cutE_as {s d : ByteArray} {m : Bool} (h : cutE s = (d, m)) (hs : s.size ≤ 1000000) (w : World) : Calls Tryz.prog 166 #[.string s, .string sNl] w fun r w' => r = .returned (.tuple #[.string d, .bool m]) ∧ Below w.heap.size w w' := by
  have e := cutE_eq s
  rw [h] at e
  injection e with e1 e2
  refine (Tryz.strings_CutSuffix s sNl w (by omega)).mono fun r w' hr => ⟨?_, hr.2 ▸ Below.refl _ _⟩
  rw [hr.1, e1, e2]

end Go.Proofs.YtdbffbcobghbeaaGreatDoor
namespace Go.Proofs.YtdbffbcobghbeaaGreatDoor
open Go.E Go.RowKit Go.Fl
attribute [local irreducible] G C S D Calls
set_option maxRecDepth 100000
set_option linter.unusedSimpArgs false
set_option linter.unusedVariables false

theorem ba_size (a : ByteArray) : a.data.toList.length = a.size := (Lib.size_eq a).symm
theorem tk_one {α : Type} {l : List α} {k : Nat} (h : k < l.length) : (l.drop k).take 1 = [l[k]] := by
  rw [List.drop_eq_getElem_cons h]
  rfl
theorem dr_len {A R : List UInt8} {c : UInt8} {n : Nat} (h : A.length = n) : (A ++ c :: R).drop (n + 1) = R := by
  subst h
  rw [List.drop_append, List.drop_of_length_le (by omega), Nat.add_sub_cancel_left]
  rfl
theorem tk_len {A R : List UInt8} {c : UInt8} {n : Nat} (h : A.length = n) : (A ++ c :: R).take (n + 1) = A ++ [c] := by
  subst h
  rw [List.take_append, List.take_of_length_le (by omega), Nat.add_sub_cancel_left]
  rfl
theorem tk_len0 {A R : List UInt8} {n : Nat} (h : A.length = n) : (A ++ R).take n = A := by
  subst h
  rw [List.take_append, List.take_of_length_le (by omega), Nat.sub_self]
  simp
/-- Pieces, with a byte between them. -/
def jnB (c : UInt8) : List ByteArray → ByteArray
  | [] => ByteArray.empty
  | [a] => a
  | a :: b :: r => a ++ (⟨#[c]⟩ ++ jnB c (b :: r))
abbrev Free (c : UInt8) (x : ByteArray) : Prop := ∀ u ∈ x.data.toList, u ≠ c
theorem ba_ext {a b : ByteArray} (h : a.data.toList = b.data.toList) : a = b := ByteArray.ext (Array.ext' h)
theorem ba_app (a b : ByteArray) : (a ++ b).data.toList = a.data.toList ++ b.data.toList := by simp
theorem jnB_two (c : UInt8) (a b : ByteArray) (r : List ByteArray) : (jnB c (a :: b :: r)).data.toList = a.data.toList ++ c :: (jnB c (b :: r)).data.toList := by
  rw [jnB, ba_app, ba_app]
  rfl
theorem jnB_snoc (c : UInt8) (a : ByteArray) : ∀ (b : ByteArray) (ls : List ByteArray), (jnB c ((b :: ls) ++ [a])).data.toList = (jnB c (b :: ls)).data.toList ++ c :: a.data.toList
  | b, [] => jnB_two c b a []
  | b, d :: r => by
    have h := jnB_snoc c a d r
    rw [List.cons_append, List.cons_append, jnB_two, jnB_two, List.append_assoc, List.cons_append]
    rw [List.cons_append] at h
    rw [h]
theorem jnB_last (c : UInt8) (a x : ByteArray) : ∀ ls : List ByteArray, (jnB c (ls ++ [a ++ x])).data.toList = (jnB c (ls ++ [a])).data.toList ++ x.data.toList
  | [] => ba_app a x
  | b :: r => by
    rw [jnB_snoc, jnB_snoc, ba_app]
    simp
theorem spl_jn (s : ByteArray) (c : UInt8) : ∀ k, k ≤ s.size → (jnB c ((splS s c.toNat k).1 ++ [(splS s c.toNat k).2])).data.toList = s.data.toList.take k ∧ (∀ x ∈ (splS s c.toNat k).1, Free c x) ∧ Free c (splS s c.toNat k).2
  | 0, _ => ⟨rfl, by simp [splS], by simp [splS, Free]⟩
  | k + 1, h => by
    obtain ⟨h1, h2, h3⟩ := spl_jn s c k (by omega)
    have hlt : k < s.data.toList.length := by rw [← Lib.size_eq]; omega
    have hb := bx_get (s := s) (k := k) (by omega)
    rw [List.take_succ_eq_append_getElem hlt]
    by_cases hc : byteAt s k = c.toNat
    · have hcu : s.data.toList[k] = c := by rw [hb] at hc; exact UInt8.toNat_inj.1 hc
      rw [splS, if_pos hc]
      refine ⟨?_, fun x hx => ?_, by simp [Free]⟩
      · dsimp only
        rw [hcu, ← h1]
        rcases (splS s c.toNat k).1 with _ | ⟨d, r⟩
        · rw [List.nil_append, List.cons_append, List.nil_append, jnB_two]
          rfl
        · rw [List.cons_append, jnB_snoc]
          rfl
      · dsimp only at hx
        rcases List.mem_append.1 hx with hx | hx
        · exact h2 x hx
        · rw [List.mem_singleton] at hx
          rw [hx]
          exact h3
    · have hcu : s.data.toList[k] ≠ c := fun e => hc (by rw [hb, e])
      have hex : (s.extract k (k + 1)).data.toList = [s.data.toList[k]] := by
        rw [Lib.extract_data, Nat.add_sub_cancel_left]
        exact tk_one hlt
      rw [splS, if_neg hc]
      refine ⟨?_, h2, fun u hu => ?_⟩
      · dsimp only
        rw [jnB_last, h1, hex]
      · dsimp only at hu
        rw [ba_app, List.mem_append, hex, List.mem_singleton] at hu
        rcases hu with hu | hu
        · exact h3 u hu
        · rw [hu]
          exact hcu
/-- The parts of a string, put together. -/
theorem splR_jn (s : ByteArray) (c : UInt8) : jnB c (splR s c.toNat) = s ∧ ∀ x ∈ splR s c.toNat, Free c x := by
  obtain ⟨h1, h2, h3⟩ := spl_jn s c s.size (Nat.le_refl _)
  refine ⟨ba_ext ?_, fun x hx => ?_⟩
  · rw [splR, h1, Lib.size_eq, List.take_length]
  · rw [splR, List.mem_append, List.mem_singleton] at hx
    rcases hx with hx | rfl
    · exact h2 x hx
    · exact h3
theorem ix_hit (c : UInt8) : ∀ (a r : List UInt8), (∀ u ∈ a, u ≠ c) → Lib.indexByte (a ++ c :: r) c = (a.length : Int)
  | [], r, _ => by simp [Lib.indexByte]
  | b :: l, r, h => by
    have h1 := ix_hit c l r (fun u hu => h u (List.mem_cons_of_mem _ hu))
    have hb : (b == c) = false := beq_eq_false_iff_ne.2 (h b (List.mem_cons_self ..))
    have hn : ((l.length : Int) == -1) = false := beq_eq_false_iff_ne.2 (by omega)
    rw [List.cons_append, Lib.indexByte, hb, h1, hn]
    simp
theorem ix_miss (c : UInt8) : ∀ (a : List UInt8), (∀ u ∈ a, u ≠ c) → Lib.indexByte a c = -1
  | [], _ => by simp [Lib.indexByte]
  | b :: l, h => by
    have h1 := ix_miss c l (fun u hu => h u (List.mem_cons_of_mem _ hu))
    have hb : (b == c) = false := beq_eq_false_iff_ne.2 (h b (List.mem_cons_self ..))
    rw [Lib.indexByte, hb, h1]
    rfl
theorem in_hit (c : UInt8) : ∀ (a r : List UInt8), (∀ u ∈ a, u ≠ c) → Lib.index (a ++ c :: r) [c] = (a.length : Int)
  | [], r, _ => by simp [Lib.index, List.isPrefixOf]
  | b :: l, r, h => by
    have h1 := in_hit c l r (fun u hu => h u (List.mem_cons_of_mem _ hu))
    have hb : (c == b) = false := beq_eq_false_iff_ne.2 (Ne.symm (h b (List.mem_cons_self ..)))
    have hn : ((l.length : Int) == -1) = false := beq_eq_false_iff_ne.2 (by omega)
    have hp : ([c] : List UInt8).isPrefixOf (b :: (l ++ c :: r)) = false := by simp [List.isPrefixOf, hb]
    rw [List.cons_append, Lib.index, hp, h1, hn]
    simp
theorem in_miss (c : UInt8) : ∀ (a : List UInt8), (∀ u ∈ a, u ≠ c) → Lib.index a [c] = -1
  | [], _ => by simp [Lib.index]
  | b :: l, h => by
    have h1 := in_miss c l (fun u hu => h u (List.mem_cons_of_mem _ hu))
    have hb : (c == b) = false := beq_eq_false_iff_ne.2 (Ne.symm (h b (List.mem_cons_self ..)))
    have hp : ([c] : List UInt8).isPrefixOf (b :: l) = false := by simp [List.isPrefixOf, hb]
    rw [Lib.index, hp, h1]
    rfl
theorem jn_rest (c : UInt8) (a b : ByteArray) (r : List ByteArray) : (jnB c (a :: b :: r)).extract (a.size + 1) (jnB c (a :: b :: r)).size = jnB c (b :: r) := by
  refine ba_ext ?_
  rw [Lib.extract_data, List.take_of_length_le (by rw [List.length_drop, ← Lib.size_eq]; omega), jnB_two]
  exact dr_len (Lib.size_eq a).symm
theorem jn_first (c : UInt8) (a b : ByteArray) (r : List ByteArray) : (jnB c (a :: b :: r)).extract 0 (a.size + 1) = a ++ ⟨#[c]⟩ := by
  refine ba_ext ?_
  rw [Lib.extract_data, jnB_two, ba_app]
  exact tk_len (Lib.size_eq a).symm
/-- The library's split is the reference's. -/
theorem split_jn (c : UInt8) : ∀ (ls : List ByteArray) (a : ByteArray), (∀ x ∈ a :: ls, Free c x) → Lib.countB (jnB c (a :: ls)) ⟨#[c]⟩ = ls.length ∧ Lib.splitB ⟨#[c]⟩ 0 ls.length (jnB c (a :: ls)) = a :: ls
  | [], a, h => by
    have hi : Lib.indexB (jnB c [a]) ⟨#[c]⟩ = -1 := in_miss c _ (h a (List.mem_cons_self ..))
    exact ⟨Lib.countB_miss _ _ hi, Lib.splitB_miss _ _ _ _ hi⟩
  | b :: r, a, h => by
    have hi : Lib.indexB (jnB c (a :: b :: r)) ⟨#[c]⟩ = (a.size : Int) := by
      unfold Lib.indexB
      rw [jnB_two, Lib.size_eq a]
      exact in_hit c _ _ (h a (List.mem_cons_self ..))
    obtain ⟨h1, h2⟩ := split_jn c r b (fun x hx => h x (List.mem_cons_of_mem _ hx))
    have hr := jn_rest c a b r
    have hs : (⟨#[c]⟩ : ByteArray).size = 1 := rfl
    refine ⟨?_, ?_⟩
    · rw [Lib.countB_hit _ _ a.size (by rw [hs]; omega) hi, hs, hr, h1, List.length_cons]
      omega
    · rw [List.length_cons, Lib.splitB_hit _ _ _ _ a.size hi, hs, hr, h2]
      congr 1
      refine ba_ext ?_
      rw [Lib.extract_data, jnB_two, Lib.size_eq a]
      simp
theorem splitB_splR (s : ByteArray) (c : UInt8) : Lib.splitB ⟨#[c]⟩ 0 (Lib.countB s ⟨#[c]⟩) s = splR s c.toNat := by
  obtain ⟨h1, h2⟩ := splR_jn s c
  obtain ⟨a, l, e⟩ := splR_cons s c.toNat
  rw [e] at h1 h2 ⊢
  obtain ⟨h3, h4⟩ := split_jn c l a h2
  rw [h1] at h3 h4
  rw [h3]
  exact h4
/-! ### Lines -/
/-- The lines of pieces: each with its newline; the last one, without it, if it is not empty. -/
def lnB : List ByteArray → List ByteArray
  | [] => []
  | [a] => if a.size = 0 then [] else [a]
  | a :: b :: r => (a ++ ⟨#[10]⟩) :: lnB (b :: r)
theorem lnB_len : ∀ (ls : List ByteArray) (a : ByteArray), (lnB (a :: ls)).length ≤ ls.length + 1
  | [], a => by
    rw [lnB]
    split <;> simp
  | b :: r, a => by
    have := lnB_len r b
    simp only [lnB, List.length_cons]
    omega
theorem lnB_at : ∀ (ls : List ByteArray) (j : Nat), j + 1 < ls.length → sN (lnB ls) j = sN ls j ++ ⟨#[10]⟩
  | [], j, h => by simp at h
  | [a], j, h => by simp at h
  | a :: b :: r, 0, h => by simp [lnB, sN]
  | a :: b :: r, j + 1, h => by
    rw [lnB, sN_cons, sN_cons]
    exact lnB_at (b :: r) j (by simpa using h)
theorem lnB_len2 : ∀ (ls : List ByteArray) (m : Nat), ls.length = m + 1 → (sN ls m = ByteArray.empty → (lnB ls).length = m) ∧ (sN ls m ≠ ByteArray.empty → (lnB ls).length = m + 1 ∧ sN (lnB ls) m = sN ls m)
  | [], m, h => by simp at h
  | [a], m, h => by
    have hm : m = 0 := by simpa using h.symm
    subst hm
    have hs : sN [a] 0 = a := rfl
    rw [hs, lnB]
    refine ⟨fun e => ?_, fun e => ?_⟩
    · rw [e]; rfl
    · have : a.size ≠ 0 := fun h0 => e (by
        have := size0_of h0
        rw [this]
        rfl)
      rw [if_neg this]
      exact ⟨rfl, rfl⟩
  | a :: b :: r, m, h => by
    obtain ⟨k, rfl⟩ : ∃ k, m = k + 1 := ⟨r.length, by simp at h; omega⟩
    obtain ⟨h1, h2⟩ := lnB_len2 (b :: r) k (by simpa using h)
    rw [sN_cons, lnB, sN_cons]
    refine ⟨fun e => ?_, fun e => ?_⟩
    · rw [List.length_cons, h1 e]
    · obtain ⟨h3, h4⟩ := h2 e
      exact ⟨by rw [List.length_cons, h3], h4⟩
theorem cutE_nl (a : ByteArray) : cutE (a ++ ⟨#[10]⟩) = (a, true) := by
  have hs : (a ++ ⟨#[10]⟩ : ByteArray).size = a.size + 1 := by rw [ByteArray.size_append]; rfl
  have hb : byteAt (a ++ ⟨#[10]⟩) ((a ++ ⟨#[10]⟩ : ByteArray).size - 1) = 10 := by
    rw [bx_get (by omega)]
    simp only [ba_app, hs, Nat.add_sub_cancel, Lib.size_eq a]
    simp
  unfold cutE
  rw [if_pos ⟨by omega, hb⟩]
  congr 1
  refine ba_ext ?_
  rw [Lib.extract_data, hs, ba_app, Lib.size_eq a]
  simp
theorem cutE_free {a : ByteArray} (h : Free 10 a) : cutE a = (a, false) := by
  unfold cutE
  rw [if_neg]
  rintro ⟨h0, h1⟩
  rw [bx_get (by omega)] at h1
  exact h _ (List.getElem_mem _) (UInt8.toNat_inj.1 h1)

end Go.Proofs.YtdbffbcobghbeaaGreatDoor
namespace Go.Proofs.YtdbffbcobghbeaaGreatDoor
open Go.E Go.RowKit Go.Fl
attribute [local irreducible] G C S D Calls
set_option maxRecDepth 100000
set_option linter.unusedSimpArgs false
set_option linter.unusedVariables false

/-! ### Split -/
/-- The bound of the library's search: some integer. -/
def Mx (w : World) : Prop := ∃ m, w.cell? ⟨2, 0, none⟩ = some (.int .i64 m)
theorem Mx_eq {w w' : World} (h : Mx w) (he : ∀ b, b < w.heap.size → w'.heap[b]? = w.heap[b]?) : Mx w' := by
  obtain ⟨m, hm⟩ := h
  refine ⟨m, ?_⟩
  have hlt := cell_lt hm
  unfold World.cell? at hm ⊢
  rw [he _ hlt]
  exact hm
theorem Mx_at {w0 w : World} {Ps : Past} {σ : St} {B : Nat} (h : Mx w0) (hw : HW B w0 Ps σ w) (hp : (w0, fun b => b < w0.heap.size) ∈ Ps) : Mx w := Mx_eq h fun b hb => (hw.past _ hp b hb).1.2
/-- A slice with no room behind it. -/
def SlF (w w' : World) (v : Value) (n : Nat) (xs : List Value) : Prop := ∃ ad, v = .slice (some ad) n n ∧ RdS (fun b => w.heap.size ≤ b ∧ b < w'.heap.size) w' (some ad) xs
theorem split_as {s hd : ByteArray} {tl : List ByteArray} (h : splR s 32 = hd :: tl) (hs : s.size ≤ 1000000) (w : World) (hm : Mx w) :
    Calls Tryz.prog 167 #[.string s, .string sSp] w fun r w' => ∃ v, r = .returned v ∧ Below w.heap.size w w' ∧ SlF w w' v (tl.length + 1) ((hd :: tl).map Value.string) := by
  obtain ⟨m, hm⟩ := hm
  have h32 : (32 : UInt8).toNat = 32 := rfl
  have e : Lib.splitB sSp 0 (Lib.countB s sSp) s = hd :: tl := by rw [← h, ← h32]; exact splitB_splR s 32
  have en : Lib.countB s sSp = tl.length := by
    have := Lib.splitB_all sSp (by decide) 0 _ s rfl
    rw [e] at this
    simpa using this.symm
  refine (Tryz.strings_Split s sSp m w (by omega) hm (by decide)).mono fun r w' hr => ?_
  obtain ⟨h1, h2⟩ := hr
  rw [en] at h1 h2
  rw [en] at e
  rw [e] at h2
  refine ⟨_, h1, h2 ▸ (Below.refl _ w).alloc (Nat.le_refl _) _, _, rfl, .inr ⟨_, rfl, ?_, fun j u hu => ?_⟩⟩
  · rw [h2]
    exact ⟨Nat.le_refl _, by simp⟩
  · have hb : w'.heap[w.heap.size]? = some (.cells ((hd :: tl).map Value.string).toArray 9 (0, 0)) := by
      rw [h2]
      exact World.alloc_heap_new w _
    exact heap_cells hb j u hu
/-! ### Forms -/
def fmV (f : Nat) : Value := .agg #[.func (.func f) #[] #[]]
def fmE : List (ByteArray × Value) := [(sCurve, fmV 207), (sPoint, fmV 208)]
theorem lk_curve : lkE fmE sCurve = some (fmV 207) := if_pos rfl
theorem lk_point : lkE fmE sPoint = some (fmV 208) := by
  show (if sPoint = sCurve then _ else if sPoint = sPoint then _ else _) = _
  rw [if_neg (by decide), if_pos rfl]
theorem lk_none {x : ByteArray} (h1 : x ≠ sCurve) (h2 : x ≠ sPoint) : lkE fmE x = none := by
  show (if x = sCurve then _ else if x = sPoint then _ else _) = _
  rw [if_neg h1, if_neg h2]
  rfl
def FmR (w w' : World) (v : Value) : Prop := ∃ k, v = .map (some k) ∧ w.heap.size ≤ k ∧ MapE k fmE w'
theorem mapE_lt {k : Nat} {es : List (ByteArray × Value)} {w : World} (h : MapE k es w) : k < w.heap.size := (Array.getElem?_eq_some_iff.1 h).1
/-! ### Lines -/
def LnR (w w' : World) (v : Value) (s : ByteArray) : Prop := ∃ k, v = .func (.func 203) #[] #[.pointer (some ⟨k, 0, none⟩)] ∧ (w.heap.size ≤ k ∧ k < w'.heap.size) ∧ w'.heap[k]? = some (.cells ([.string s] : List Value).toArray 9 (0, 0))

set_option maxHeartbeats 400000 in
/-- colour.forms -/
theorem forms_c  (w : World) : Calls Tryz.prog 168 #[] w fun r w' => ∃ v, r = .returned v ∧ Below w.heap.size w w' ∧ FmR w w' v := by
  refine calls_of (args := []) T_ok Tryz.func168 rfl Tryz.ntmps168 (Nat.le_of_ble_eq_true rfl) rfl ?_
  repeat' (first
 | (refine C_id ?_; first
 | refine C_seq ?_
 | refine C_region rfl ?_
 | refine C_ret0 ?_
 )
 | (refine S_id ?_; first
 | refine S_new rfl obQ (fun h => by obtain ⟨_, h⟩ := h; cases h) (fun k W hown hat => ?_)
 | refine S_ins (es := []) rfl obQ Tryz.underlying245 Tryz.underlying9 hat rfl hown (fun W1 hat1 => ?_)
 | refine S_ins (es := [(sCurve, fmV 207)]) rfl obQ Tryz.underlying245 Tryz.underlying9 hat1 (if_neg (by decide)) hown (fun W2 hat2 => ?_)
 | refine S_nil ?_
 | refine S_run rfl rfl obQ obQ ?_
 )
 | (refine G_id ?_; first
 | refine G_then ?_
 | refine G_ret rfl obQ (fun w2 hw => ⟨_, rfl, hw.below, _, rfl, hown.lo, mapE_on _ _ _ _ (hw.past _ (List.Mem.head _) _ rfl).1.2 hat2⟩)
 )
 )

set_option maxHeartbeats 400000 in
/-- strings.Lines -/
theorem lines_c (s : ByteArray) (w : World) : Calls Tryz.prog 165 #[.string s] w fun r w' => ∃ v, r = .returned v ∧ Below w.heap.size w w' ∧ LnR w w' v s := by
  refine calls_of (args := [.string s]) T_ok Tryz.func165 rfl Tryz.ntmps165 (Nat.le_of_ble_eq_true rfl) rfl ?_
  repeat' (first
 | (refine C_id ?_; first
 | refine C_seq ?_
 | refine C_region rfl ?_
 | refine C_ret0 ?_
 )
 | (refine S_id ?_; first
 | refine S_nil ?_
 | refine S_run rfl rfl obQ obQ ?_
 | refine S_box (fun b => ⟨_, _, rfl, obQ, ?_⟩)
 )
 | (refine G_id ?_; first
 | refine G_then ?_
 | refine G_ret rfl obQ (fun w2 hw => ⟨_, rfl, hw.below, _, rfl, (HW.bxAt hw (i := 0) rfl rfl).1, (HW.bxAt hw (i := 0) rfl rfl).2⟩)
 )
 )

abbrev LnT := { x : ByteArray // x.size ≤ 1000000 }
abbrev encL (x : LnT) : Array Value := #[.string x.1]
/-- A string up to a place. -/
theorem sl_upto {X : Cx} {t : TypeId} {ti : TI} (hl : Go.E.look X.T t = some ti) (hk : ti.k = .str) (s : ByteArray) (k : IntKind) (z : Int) (j : Nat) (hz : z = (j : Int)) (h1 : j ≤ s.size) (w : World) :
    (Instr.sliceAt t (.string s) none (some (.int k z)) none).run X.P w = .ok (.string (s.extract 0 j)) w := by
  subst hz
  obtain ⟨i', dd, z, hi, hu, hz, rfl⟩ := X.hT.row hl
  have hd := kOf_str hk
  subst hd
  have := run_slice_string_h (P := X.P) (w := w) t s hu k (j : Int) (by omega) (by omega)
  rw [run_sliceAt_string w t _ _ _ _ hu, this, Int.toNat_natCast]
theorem ixb_as {s : ByteArray} {z : Int} (h : Lib.indexByte s.data.toList 10 = z) (w : World) : Calls Tryz.prog 204 #[.string s, .int .u8 10] w fun r w' => r = .returned (.int .i64 z) ∧ Below w.heap.size w w' := by
  subst h
  exact (Tryz.strings_IndexByte s 10 w).mono fun r w' hr => ⟨hr.1, hr.2 ▸ Below.refl _ _⟩
set_option maxHeartbeats 4000000 in
theorem lines_seq (k : Nat) (ls : List ByteArray) (h0 : ls ≠ []) (hfr : ∀ x ∈ ls, Free 10 x) (hsz : (jnB 10 ls).size ≤ 1000000) (xs : List LnT) (hxs : xs.map (·.1) = lnB ls) (Sx : Nat → Prop) (sk : Sx k) (w : World) (hb : w.heap[k]? = some (.cells ([.string (jnB 10 ls)] : List Value).toArray 9 (0, 0))) :
    SeqM Tryz.prog 203 #[.pointer (some ⟨k, 0, none⟩)] encL xs Sx k w := by
  refine seq_ofM T_ok Tryz.func203 rfl Tryz.ntmps203 (Nat.le_of_ble_eq_true rfl) ⟨k, 9, [.v (.string (jnB 10 ls))]⟩ hb (fun l J Jx W hW hJ hJx hY hj0 => ?_)
  have hJ : AbidesM k J := hJ
  have hJx : AbidesM k Jx := hJx
  repeat' (first
 | (refine C_id ?_; first
 | refine C_block ?_
   )
   )
  refine C_loopM (X := ⟨Tryz.prog, T, T_ok, 25, 0, default, [], none⟩) k (fun i : List LnT × List ByteArray => ⟨[(0, .s (.v (.func (.yield l) #[] #[]))), (1, .s (.p k 0 0))], [⟨k, 9, [.v (.string (jnB 10 i.2))]⟩], []⟩) (fun i W => i.2 ≠ [] ∧ (∀ x ∈ i.2, Free 10 x) ∧ (jnB 10 i.2).size ≤ 1000000 ∧ J i.1 W ∧ ∃ post, i.1 ++ post = xs ∧ post.map (·.1) = lnB i.2) (fun i => (lnB i.2).length) ([], ls) ⟨h0, hfr, hsz, hj0, xs, rfl, hxs⟩ ?_ (fun i W hi => ?_)
  · exact ⟨⟨_, rfl, obQ⟩, ⟨_, rfl⟩, rfl, pstQ⟩
  obtain ⟨pre, rest⟩ := i
  obtain ⟨hne, hfr, hsz, hj, post, hpx, hpost⟩ := hi
  dsimp only at hne hfr hsz hj hpost ⊢
  rcases rest with _ | ⟨a, _ | ⟨b, r⟩⟩
  · exact absurd rfl hne
  · have hja : jnB 10 [a] = a := rfl
    rw [hja] at hsz ⊢
    have hix := ix_miss 10 a.data.toList (hfr a (List.mem_cons_self ..))
    by_cases ha : a.size = 0
    · have hp0 : post = [] := by
        rw [show lnB [a] = [] from if_pos ha] at hpost
        exact List.map_eq_nil_iff.1 hpost
      subst hp0
      rw [List.append_nil] at hpx
      subst hpx
      repeat' (first
 | (refine C_id ?_; first
 | refine C_seq ?_
 | refine C_region rfl ?_
 | refine C_exit ?_
 | refine C_condF rfl obQ ?_
       )
 | (refine S_id ?_; first
 | ((with_reducible (first | refine S_falseN ?_ ?_ | refine S_falseB ?_ ?_ | refine S_falseL ?_ ?_ | refine S_falseD ?_ ?_ | refine S_falseE ?_ ?_)); · (first | rfl | omega | exact decide_eq_false (by omega)))
 | refine S_nil ?_
 | refine S_runN rfl rfl obQ obQ ?_
       )
 | (refine G_id ?_; first
 | refine G_endM1 (X := ⟨Tryz.prog, T, T_ok, 25, 0, default, [], none⟩) hJ hj memQ rfl obQ
 | refine G_then ?_
 | refine G_blockX ?_
 | refine G_thenX ?_
       )
       )
    · have hlb : lnB [a] = [a] := if_neg ha
      rw [hlb] at hpost
      obtain ⟨x, rfl⟩ : ∃ x, post = [x] := by
        have : post.length = 1 := by simpa using congrArg List.length hpost
        exact List.length_eq_one_iff.1 this
      have hx : x.1 = a := by simpa using hpost
      have hpn : pre.length < xs.length := by rw [← hpx]; simp
      repeat' (first
 | (refine C_id ?_; first
 | refine C_seq ?_
 | refine C_region rfl ?_
 | refine C_block ?_
 | refine C_skip ?_
 | refine C_condT rfl obQ ?_
 | refine C_condF rfl obQ ?_
       )
 | (refine S_id ?_; first
 | ((with_reducible (first | refine S_falseN ?_ ?_ | refine S_falseB ?_ ?_ | refine S_falseL ?_ ?_ | refine S_falseD ?_ ?_ | refine S_falseE ?_ ?_)); · (first | rfl | omega | exact decide_eq_false (by omega)))
 | ((with_reducible (first | refine S_trueE ?_ ?_ | refine S_trueB ?_ ?_ | refine S_trueL ?_ ?_ | refine S_trueD ?_ ?_ | refine S_trueN ?_ ?_)); · (first | rfl | omega | exact decide_eq_true (by omega)))
 | refine S_nil ?_
 | refine S_runN rfl rfl obQ obQ ?_
 | refine S_call (f := 204) rfl obQ (by kernel_rfl) (fun w hw => ixb_as hix w) ?_
       )
 | (refine G_id ?_; first
 | refine G_then ?_
       )
       )
      refine S_yieldM (X := ⟨Tryz.prog, T, T_ok, 25, 0, default, [], none⟩) (x0 := ⟨k, 9, [.v (.string ⟨#[]⟩)]⟩) rfl rfl rfl obQ sk hJ hY pre x hj hpn (by rw [show encL x = #[.string x.1] from rfl, hx]) (fun W2 hj2 => ?_) (fun W2 hj2 => ?_)
      · repeat' (first
 | (refine C_id ?_; first
 | refine C_skip ?_
 | refine C_condF rfl obQ ?_
         )
 | (refine S_id ?_; first
 | refine S_nil ?_
 | refine S_runN rfl rfl obQ obQ ?_
         )
 | (refine G_id ?_; first
 | refine G_loopM (X := ⟨Tryz.prog, T, T_ok, 25, 0, default, [], none⟩) (pre ++ [x], [ByteArray.empty]) ⟨by simp, by simp [Free], by show (0 : Nat) ≤ _; omega, hj2, [], by rw [List.append_nil]; exact hpx, rfl⟩ (by show (lnB [ByteArray.empty]).length < (lnB [a]).length; rw [hlb]; exact Nat.zero_lt_one) ⟨⟨_, rfl, obQ⟩, ⟨_, rfl⟩, rfl, pstQ⟩
 | refine G_then ?_
 | refine G_block ?_
         )
         )
      · repeat' (first
 | (refine C_id ?_; first
 | refine C_ret0 ?_
 | refine C_condT rfl obQ ?_
       )
 | (refine S_id ?_; first
 | refine S_nil ?_
 | refine S_runN rfl rfl obQ obQ ?_
       )
 | (refine G_id ?_; first
 | refine G_retXM (X := ⟨Tryz.prog, T, T_ok, 25, 0, default, [], none⟩) hJx hj2 ⟨[], by rw [List.append_nil]; exact hpx⟩ memQ rfl obQ
 | refine G_then ?_
 | refine G_blockR ?_
 | refine G_thenR ?_
       )
       )
  · have hix := ix_hit 10 a.data.toList (jnB 10 (b :: r)).data.toList (hfr a (List.mem_cons_self ..))
    rw [← jnB_two, ba_size] at hix
    have h1 := jn_first 10 a b r
    have h2 := jn_rest 10 a b r
    have hz : a.size + 1 ≤ (jnB 10 (a :: b :: r)).size := by
      rw [← ba_size (jnB 10 (a :: b :: r)), jnB_two, List.length_append, List.length_cons, ba_size]
      omega
    have hz2 : (jnB 10 (b :: r)).size ≤ 1000000 := by
      rw [← h2, ByteArray.size_extract]
      omega
    rw [lnB] at hpost
    obtain ⟨x, post', rfl⟩ : ∃ x p, post = x :: p := by
      cases post with
      | nil => simp at hpost
      | cons x p => exact ⟨x, p, rfl⟩
    rw [List.map_cons] at hpost
    injection hpost with hx hpost
    have hpn : pre.length < xs.length := by rw [← hpx]; simp
    generalize hS : jnB 10 (a :: b :: r) = S at *
    repeat' (first
 | (refine C_id ?_; first
 | refine C_seq ?_
 | refine C_region rfl ?_
 | refine C_block ?_
 | refine C_skip ?_
 | refine C_drawT (id := 4) 9 rfl mixed (by kernel_rfl) rfl rfl ?_
 | refine C_condT rfl obQ ?_
     )
 | (refine S_id ?_; first
 | ((with_reducible (first | refine S_trueE ?_ ?_ | refine S_trueB ?_ ?_ | refine S_trueL ?_ ?_ | refine S_trueD ?_ ?_ | refine S_trueN ?_ ?_)); · (first | rfl | omega | exact decide_eq_true (by omega)))
 | refine S_nil ?_
 | refine S_runN rfl rfl obQ obQ ?_
 | refine S_call (f := 204) rfl obQ (by kernel_rfl) (fun w hw => ixb_as hix w) ?_
     )
 | (refine D_id ?_; first
 | refine D_pure (sliceX_pure (lo := none) (hi := some _) rfl obQ (fun w => sl_upto (X := ⟨Tryz.prog, T, T_ok, 25, 0, default, [], none⟩) rfl rfl _ _ _ (a.size + 1) (by omega) (by omega) w)) ?_
 | refine D_pure (sliceX_pure (lo := some _) (hi := none) rfl obQ (fun w => sl_from (X := ⟨Tryz.prog, T, T_ok, 25, 0, default, [], none⟩) rfl rfl _ _ _ (a.size + 1) (by omega) (by omega) w)) ?_
 | refine D_tail ?_
 | refine D_run rfl rfl obQ obQ ?_
     )
 | (refine G_id ?_; first
 | refine G_then ?_
     )
     )
    refine S_yieldM (X := ⟨Tryz.prog, T, T_ok, 25, 0, default, [], none⟩) (x0 := ⟨k, 9, [.v (.string (S.extract (a.size + 1) S.size))]⟩) rfl rfl rfl obQ sk hJ hY pre x hj hpn (by rw [show encL x = #[.string x.1] from rfl, hx, ← h1]) (fun W2 hj2 => ?_) (fun W2 hj2 => ?_)
    · have hinv : (pre ++ [x], b :: r).2 ≠ [] ∧ (∀ y ∈ (pre ++ [x], b :: r).2, Free 10 y) ∧ (jnB 10 (pre ++ [x], b :: r).2).size ≤ 1000000 ∧ J (pre ++ [x], b :: r).1 W2 ∧ ∃ post : List LnT, (pre ++ [x], b :: r).1 ++ post = xs ∧ post.map (·.1) = lnB (pre ++ [x], b :: r).2 :=
        ⟨List.cons_ne_nil _ _, fun y hy => hfr y (List.mem_cons_of_mem _ hy), hz2, hj2, post', (List.append_assoc _ _ _).trans hpx, hpost⟩
      have hlt2 : (lnB (pre ++ [x], b :: r).2).length < (lnB (pre, a :: b :: r).2).length := Nat.lt_succ_self _
      repeat' (first
 | (refine C_id ?_; first
 | refine C_skip ?_
 | refine C_condF rfl obQ ?_
       )
 | (refine S_id ?_; first
 | refine S_nil ?_
 | refine S_runN rfl rfl obQ obQ ?_
       )
 | (refine G_id ?_; first
 | refine G_loopM (X := ⟨Tryz.prog, T, T_ok, 25, 0, default, [], none⟩) (pre ++ [x], b :: r) hinv (by exact hlt2) (by dsimp only; rw [← h2]; exact ⟨⟨_, rfl, obQ⟩, ⟨_, rfl⟩, rfl, pstQ⟩)
 | refine G_then ?_
 | refine G_block ?_
       )
       )
    · repeat' (first
 | (refine C_id ?_; first
 | refine C_ret0 ?_
 | refine C_condT rfl obQ ?_
       )
 | (refine S_id ?_; first
 | refine S_nil ?_
 | refine S_runN rfl rfl obQ obQ ?_
       )
 | (refine G_id ?_; first
 | refine G_retXM (X := ⟨Tryz.prog, T, T_ok, 25, 0, default, [], none⟩) hJx hj2 ⟨post', by rw [List.append_assoc]; exact hpx⟩ memQ rfl obQ
 | refine G_then ?_
 | refine G_blockR ?_
 | refine G_thenR ?_
       )
       )

end Go.Proofs.YtdbffbcobghbeaaGreatDoor
namespace Go.Proofs.YtdbffbcobghbeaaGreatDoor
open Go.E Go.RowKit Go.Fl
attribute [local irreducible] G C S D Calls
set_option maxRecDepth 100000
set_option linter.unusedSimpArgs false
set_option linter.unusedVariables false

def tlO (A : Option Addr) (c : Nat) : Option Addr := if c = 1 then A else A.map (·.add (1 * 1))
/-- The taker behind a number. -/
def nxA (A : Option Addr) (c : Nat) : List ByteArray → Option Addr
  | [] => A
  | _ :: _ => tlO A c
def nxC (c : Nat) : List ByteArray → Nat
  | [] => c
  | _ :: _ => c - 1
def nxR (wr : Bool) : List ByteArray → Bool
  | [] => true
  | x :: _ => wr || !(intR x).2
def nxZ : List ByteArray → Int
  | [] => 0
  | x :: _ => (intR x).1
theorem rdS_tl {S : Nat → Prop} {W : World} {A : Option Addr} {c : Nat} {ws : List ByteArray} (h : RdS S W A (ws.map Value.string)) (hc : ws.length ≤ c) : RdS S W (nxA A c ws) (ws.tail.map Value.string) := by
  cases ws with
  | nil => exact h
  | cons x xs =>
    cases xs with
    | nil => exact .inl rfl
    | cons y ys =>
      rcases h with h | ⟨ad, rfl, h2, h3⟩
      · simp at h
      · have hc1 : c ≠ 1 := by simp at hc; omega
        refine .inr ⟨ad.add 1, ?_, by rw [block_of_add]; exact h2, fun j u hu => ?_⟩
        · show tlO (some ad) c = _
          unfold tlO
          rw [if_neg hc1]
          rfl
        · rw [add_of_add]
          refine h3 (1 + j) u ?_
          rw [Nat.add_comm 1 j]
          simpa using hu
theorem next_is {cb : List Bx} {rw : List Rw} {w : World} {b c n : Nat} {A : Option Addr} {wr : Bool} {ws : List ByteArray} (hn : ws.length = n) (hsz : ∀ x ∈ ws, x.size ≤ 1000000) (hr : RdS (stPast cb rw w).2 w A (ws.map Value.string)) (hb : ∃ y ∈ cb, y.b = b) :
    NextIs cb rw w b (tkB b A n c wr) (tkB b (nxA A c ws) (n - 1) (nxC c ws) (nxR wr ws)) (nxZ ws) := by
  subst hn
  intro W hk h0
  cases ws with
  | nil => exact number0_c W h0 rfl
  | cons x xs =>
    obtain ⟨ad, rfl⟩ := rdS_some hr (by simp)
    have h1 := rdSt_at (cb' := [tkB b (some ad) (x :: xs).length c wr]) (cr' := []) hr hk (fun y hy => by
      rw [List.mem_singleton] at hy
      subst hy
      exact hb) (by simp)
    exact number1_c W h0 rfl rfl (hsz x (List.mem_cons_self ..)) rfl h1
theorem form1_as {b1 p n c ct nt n' : Nat} {m z : Int} {A At : Option Addr} {r : Rw} {wr wr' : Bool} {ws : List ByteArray} (hws : ws.length = nt) (hsz : ∀ x ∈ ws, x.size ≤ 1000000) (hz : nxZ ws = z) (hn' : nt - 1 = n') (hwr : nxR wr ws = wr') (w : World)
    (hst : HW 0 w [] ⟨[], [xtB b1 m A n c, tkB p At nt ct wr], [r]⟩ w) (hr : RdS (stPast [xtB b1 m A n c, tkB p At nt ct wr] [r] w).2 w At (ws.map Value.string)) :
    Calls Tryz.prog 207 #[.pointer (some ⟨b1, 0, none⟩), .func (.func 169) #[.pointer (some ⟨p, 0, none⟩)] #[]] w fun e w' => ∃ v x' t' rw', e = .returned v ∧ TurSt [xtB b1 m A n c, tkB p At nt ct wr] [r] [x', t'] rw' w w' ∧ (∃ A1 c1, x' = xtB b1 z A n c ∧ t' = tkB p A1 n' c1 wr' ∧ rw' = [r]) := by
  subst hz hn' hwr
  refine (form1_c w hst (next_is hws hsz hr ⟨_, List.mem_cons_of_mem _ (List.mem_cons_self ..), rfl⟩) rfl).mono fun e w' he => ?_
  obtain ⟨v, h1, h2⟩ := he
  exact ⟨v, _, _, _, h1, h2, _, _, rfl, rfl, rfl⟩
theorem form2_as {b1 p n c ct nt n' : Nat} {m z1 z2 : Int} {A At : Option Addr} {xs : List Value} {wr wr' : Bool} {ws : List ByteArray} (hn : n ≤ 1000000) (hws : ws.length = nt) (hct : nt ≤ ct) (hsz : ∀ x ∈ ws, x.size ≤ 1000000) (hz1 : nxZ ws = z1) (hz2 : nxZ ws.tail = z2) (hn' : nt - 1 - 1 = n') (hwr : nxR (nxR wr ws) ws.tail = wr') (w : World)
    (hst : HW 0 w [] ⟨[], [xtB b1 m A n c, tkB p At nt ct wr], [⟨189, 2, n, xs, .slice A n c⟩]⟩ w) (hr : RdS (stPast [xtB b1 m A n c, tkB p At nt ct wr] [⟨189, 2, n, xs, .slice A n c⟩] w).2 w At (ws.map Value.string)) :
    Calls Tryz.prog 208 #[.pointer (some ⟨b1, 0, none⟩), .func (.func 169) #[.pointer (some ⟨p, 0, none⟩)] #[]] w fun e w' => ∃ v x' t' rw', e = .returned v ∧ TurSt [xtB b1 m A n c, tkB p At nt ct wr] [⟨189, 2, n, xs, .slice A n c⟩] [x', t'] rw' w w' ∧
      (∃ A1 c1 A' c', x' = xtB b1 m A' (n + 1) c' ∧ t' = tkB p A1 n' c1 wr' ∧ rw' = [⟨189, 2, n + 1, xs ++ [.int .i64 z1, .int .i64 z2], .slice A' (n + 1) c'⟩]) := by
  subst hz1 hz2 hn' hwr hws
  refine (form2_c hn w hst (next_is rfl hsz hr ⟨_, List.mem_cons_of_mem _ (List.mem_cons_self ..), rfl⟩) (next_is (ws := ws.tail) (by rw [List.length_tail]) (fun x hx => hsz x (List.mem_of_mem_tail hx)) (rdS_tl hr hct) ⟨_, List.mem_cons_of_mem _ (List.mem_cons_self ..), rfl⟩) rfl).mono fun e w' he => ?_
  obtain ⟨v, A', c', h1, h2⟩ := he
  exact ⟨v, _, _, _, h1, h2, _, _, _, _, rfl, rfl, rfl⟩

end Go.Proofs.YtdbffbcobghbeaaGreatDoor
namespace Go.Proofs.YtdbffbcobghbeaaGreatDoor
open Go.E Go.RowKit Go.Fl
attribute [local irreducible] G C S D Calls
set_option maxRecDepth 100000
set_option linter.unusedSimpArgs false
set_option linter.unusedVariables false

theorem byte_app1 {a b : ByteArray} {k : Nat} (h : k < a.size) : byteAt (a ++ b) k = byteAt a k := by
  rw [bx_get (s := a ++ b) (k := k) (by rw [ByteArray.size_append]; omega), bx_get h]
  simp only [ba_app]
  rw [List.getElem_append_left (by rw [ba_size]; exact h)]
theorem byte_one (a : ByteArray) (u : UInt8) : byteAt (a ++ ⟨#[u]⟩) a.size = u.toNat := by
  have hs : (⟨#[u]⟩ : ByteArray).size = 1 := rfl
  rw [bx_get (s := a ++ ⟨#[u]⟩) (k := a.size) (by rw [ByteArray.size_append, hs]; omega)]
  simp only [ba_app]
  rw [List.getElem_append_right (by rw [ba_size]; omega)]
  simp [ba_size]
theorem digN_app (a b : ByteArray) : ∀ k, k ≤ a.size → digN (a ++ b) k = digN a k
  | 0, _ => rfl
  | k + 1, h => by rw [digN, digN, digN_app a b k (by omega), byte_app1 (by omega)]
theorem allD_app (a b : ByteArray) : ∀ k, k ≤ a.size → allD (a ++ b) k = allD a k
  | 0, _ => rfl
  | k + 1, h => by rw [allD_s, allD_s, allD_app a b k (by omega), byte_app1 (by omega)]
theorem dig_of {c : Nat} (h : 48 ≤ c ∧ c ≤ 57) : digB c = true := by
  unfold digB
  rw [Bool.and_eq_true, decide_eq_true_eq, decide_eq_true_eq]
  omega
structure IsNum (s : ByteArray) (n : Int) : Prop where
  all : allD s s.size = true
  val : digN s s.size = n
  pos : 0 < s.size
  lead : s.size = 1 ∨ byteAt s 0 ≠ 48
theorem one_byte_at (u : UInt8) : byteAt (⟨#[u]⟩ : ByteArray) 0 = u.toNat := rfl
theorem num_one {m : Nat} (h : m < 10) : IsNum (oneB (48 + (m : Int))) m := by
  have h1 : (48 + (m : Int)).toNat = 48 + m := by omega
  have h2 : (UInt8.ofNat (48 + m)).toNat = 48 + m := by
    rw [UInt8.toNat_ofNat']
    omega
  have hb : byteAt (oneB (48 + (m : Int))) 0 = 48 + m := by
    unfold oneB
    rw [one_byte_at, h1, h2]
  have hs : (oneB (48 + (m : Int))).size = 1 := rfl
  refine ⟨?_, ?_, by rw [hs]; omega, .inl hs⟩
  · rw [hs, allD_s, hb, dig_of (by omega)]
    rfl
  · rw [hs, digN, digN, hb]
    omega
theorem num_it (m : Nat) : IsNum (itB (m : Int)) m := by
  induction m using Nat.strongRecOn with
  | _ m ih =>
    by_cases h : m < 10
    · rw [it_dig (by omega)]
      exact num_one h
    · rw [it_pos (by omega), show (m : Int) / 10 = ((m / 10 : Nat) : Int) by omega, show (m : Int) % 10 = ((m % 10 : Nat) : Int) by omega]
      obtain ⟨h1, h2, h3, h4⟩ := ih (m / 10) (by omega)
      have hd : (48 + ((m % 10 : Nat) : Int)).toNat = 48 + m % 10 := by omega
      have hu : (UInt8.ofNat (48 + m % 10)).toNat = 48 + m % 10 := by
        rw [UInt8.toNat_ofNat']
        omega
      have hb : byteAt (itB ((m / 10 : Nat) : Int) ++ oneB (48 + ((m % 10 : Nat) : Int))) (itB ((m / 10 : Nat) : Int)).size = 48 + m % 10 := by
        unfold oneB
        rw [byte_one, hd, hu]
      have hs : (itB ((m / 10 : Nat) : Int) ++ oneB (48 + ((m % 10 : Nat) : Int))).size = (itB ((m / 10 : Nat) : Int)).size + 1 := by
        rw [ByteArray.size_append]
        rfl
      refine ⟨?_, ?_, by omega, .inr ?_⟩
      · rw [hs, allD_s, allD_app _ _ _ (Nat.le_refl _), h1, hb, dig_of (by omega)]
        rfl
      · rw [hs, digN, digN_app _ _ _ (Nat.le_refl _), h2, hb]
        omega
      · rw [byte_app1 h3]
        rcases h4 with h4 | h4
        · intro e
          rw [h4, digN, digN, e] at h2
          omega
        · exact h4
theorem it_minus {n : Int} (h : n < 0) : itB n = (⟨#[45]⟩ : ByteArray) ++ itB (0 - n) := by
  unfold itB Lib.itoa
  rw [if_pos h, if_neg (by omega), show (0 - n).toNat = n.natAbs by omega]
  ext1
  simp
theorem digN_low {s : ByteArray} (h0 : byteAt s 0 ≠ 48) : ∀ {k : Nat}, allD s (k + 1) = true → (10 : Int) ^ k ≤ digN s (k + 1)
  | 0, h => by
    have := dig_c (allD_at h (show 0 < 1 by omega))
    rw [digN, digN]
    omega
  | k + 1, h => by
    rw [allD_s, Bool.and_eq_true] at h
    have h1 := digN_low h0 h.1
    have h2 := dig_c h.2
    have e : (10 : Int) ^ (k + 1) = 10 ^ k * 10 := Int.pow_succ ..
    rw [digN, e]
    omega
theorem pow9 {k : Nat} (h : 9 ≤ k) : (1000000000 : Int) ≤ 10 ^ k := by
  have h1 : (10 : Nat) ^ 9 ≤ 10 ^ k := Nat.pow_le_pow_right (by omega) h
  have h2 : ((10 ^ k : Nat) : Int) = (10 : Int) ^ k := by simp
  have h3 : (10 : Nat) ^ 9 = 1000000000 := rfl
  omega
theorem IsNum.size9 {s : ByteArray} {n : Int} (h : IsNum s n) (hn : n ≤ 999999999) : s.size ≤ 9 := by
  rcases h.lead with h1 | h1
  · omega
  · obtain ⟨k, hk⟩ : ∃ k, s.size = k + 1 := ⟨s.size - 1, by have := h.pos; omega⟩
    have h2 := digN_low h1 (k := k) (by rw [← hk]; exact h.all)
    rw [← hk, h.val] at h2
    by_cases h3 : 9 ≤ k
    · have := pow9 h3
      omega
    · omega
theorem IsNum.dig {s : ByteArray} {n : Int} (h : IsNum s n) (hn : n ≤ 999999999) : digR s = (n, true) := by
  have h9 := h.size9 hn
  have hF : digF s = true := by
    unfold digF
    have h0 : (s.size == 0) = false := beq_eq_false_iff_ne.2 (by have := h.pos; omega)
    rw [h0, decide_eq_true h9]
    rcases h.lead with h1 | h1
    · rw [h1]; rfl
    · rw [beq_eq_false_iff_ne.2 h1]
      simp
  rw [digR_yes hF h.all, h.val]
theorem IsNum.first {s : ByteArray} {n : Int} (h : IsNum s n) : byteAt s 0 ≠ 45 := by
  have := dig_c (allD_at h.all h.pos)
  omega
/-- What is written is read. -/
theorem sgn_it {z : Int} (h : -999999999 ≤ z ∧ z ≤ 999999999) : sgnR (itB z) = (z, true) := by
  by_cases h0 : z < 0
  · obtain ⟨m, hm⟩ : ∃ m : Nat, 0 - z = (m : Int) := ⟨(0 - z).toNat, by omega⟩
    have hn := num_it m
    have hs : ((⟨#[45]⟩ : ByteArray) ++ itB (m : Int)).size = 1 + (itB (m : Int)).size := by
      rw [ByteArray.size_append]
      rfl
    have hx : ((⟨#[45]⟩ : ByteArray) ++ itB (m : Int)).extract 1 ((⟨#[45]⟩ : ByteArray) ++ itB (m : Int)).size = itB (m : Int) := by
      refine ba_ext ?_
      rw [Lib.extract_data, hs, ba_app, Nat.add_sub_cancel_left]
      exact List.take_of_length_le (Nat.le_of_eq (ba_size _))
    rw [it_minus h0, hm]
    unfold sgnR
    rw [if_pos ⟨by rw [hs]; omega, rfl⟩, hx, hn.dig (by omega)]
    simp
    omega
  · obtain ⟨m, rfl⟩ : ∃ m : Nat, z = (m : Int) := ⟨z.toNat, by omega⟩
    have hn := num_it m
    unfold sgnR
    rw [if_neg (fun e => hn.first e.2)]
    exact hn.dig (by omega)
theorem ex_one {s : ByteArray} {k : Nat} (h : k < s.size) : s.extract k (k + 1) = ⟨#[UInt8.ofNat (byteAt s k)]⟩ := by
  have hl : k < s.data.toList.length := by rw [ba_size]; exact h
  refine ba_ext ?_
  rw [Lib.extract_data, Nat.add_sub_cancel_left, tk_one hl, bx_get h]
  simp
theorem ex_s {s : ByteArray} {k : Nat} (h : k < s.size) : s.extract 0 (k + 1) = s.extract 0 k ++ s.extract k (k + 1) := by
  have hl : k < s.data.toList.length := by rw [ba_size]; exact h
  refine ba_ext ?_
  rw [ba_app, Lib.extract_data, Lib.extract_data, Lib.extract_data, Nat.add_sub_cancel_left, tk_one hl]
  simp only [List.drop_zero, Nat.sub_zero]
  exact List.take_succ_eq_append_getElem hl
theorem num_pre {s : ByteArray} : ∀ k, k + 1 ≤ s.size → allD s (k + 1) = true → (k = 0 ∨ byteAt s 0 ≠ 48) → s.extract 0 (k + 1) = itB (digN s (k + 1))
  | 0, h, ha, _ => by
    have hd := dig_c (allD_at ha (show 0 < 1 by omega))
    rw [ex_one (by omega), digN, digN, it_dig (by omega)]
    unfold oneB
    rw [show (48 + (10 * 0 + ((byteAt s 0 : Int) - 48))).toNat = byteAt s 0 by omega]
  | k + 1, h, ha, hl => by
    have hl' : byteAt s 0 ≠ 48 := by
      rcases hl with hl | hl
      · omega
      · exact hl
    have ha2 := ha
    rw [allD_s, Bool.and_eq_true] at ha2
    have h1 := num_pre k (by omega) ha2.1 (.inr hl')
    have hd := dig_c ha2.2
    have hlo := digN_low hl' ha2.1
    have hp : (1 : Int) ≤ 10 ^ k := by
      have h1 : 0 < (10 : Nat) ^ k := Nat.pow_pos (by omega)
      have h2 : ((10 ^ k : Nat) : Int) = (10 : Int) ^ k := by simp
      omega
    have e : digN s (k + 1 + 1) = 10 * digN s (k + 1) + ((byteAt s (k + 1) : Int) - 48) := rfl
    rw [ex_s (by omega), h1, ex_one (by omega), it_pos (n := digN s (k + 1 + 1)) (by omega)]
    unfold oneB
    rw [show digN s (k + 1 + 1) / 10 = digN s (k + 1) by omega, show (48 + digN s (k + 1 + 1) % 10).toNat = byteAt s (k + 1) by omega]
theorem ex_all (s : ByteArray) : s.extract 0 s.size = s := by
  refine ba_ext ?_
  rw [Lib.extract_data]
  exact List.take_of_length_le (by rw [List.length_drop, ba_size]; omega)
theorem dig_it {s : ByteArray} {z : Int} (h : digR s = (z, true)) : s = itB z ∧ 0 ≤ z ∧ z ≤ 999999999 := by
  unfold digR at h
  split at h
  · rename_i hc
    rw [Bool.and_eq_true] at hc
    obtain ⟨hF, hA⟩ := hc
    simp only [Prod.mk.injEq, and_true] at h
    subst h
    unfold digF at hF
    simp only [Bool.and_eq_true, Bool.not_eq_true', beq_eq_false_iff_ne, decide_eq_true_eq, Bool.and_eq_false_iff, decide_eq_false_iff_not] at hF
    obtain ⟨⟨h0, h9⟩, hl⟩ := hF
    obtain ⟨k, hk⟩ : ∃ k, s.size = k + 1 := ⟨s.size - 1, by omega⟩
    have h1 := num_pre (s := s) k (by omega) (by rw [← hk]; exact hA) (by
      rcases hl with hl | hl
      · left; omega
      · right; exact hl)
    rw [← hk, ex_all] at h1
    exact ⟨h1, digN_9 hA h9⟩
  · simp at h
/-- What is read is as it is written. -/
theorem sgn_eq {s : ByteArray} {z : Int} (h : sgnR s = (z, true)) : s = itB z ∧ -999999999 ≤ z ∧ z ≤ 999999999 := by
  unfold sgnR at h
  by_cases hm : 0 < s.size ∧ byteAt s 0 = 45
  · rw [if_pos hm] at h
    rcases hd : digR (s.extract 1 s.size) with ⟨n, f⟩
    rw [hd] at h
    simp only [Prod.mk.injEq, Bool.and_eq_true, decide_eq_true_eq] at h
    obtain ⟨h1, rfl, h2⟩ := h
    obtain ⟨h3, h4, h5⟩ := dig_it hd
    subst h1
    refine ⟨?_, by omega, by omega⟩
    rw [it_minus (by omega), show 0 - (0 - n) = n by omega, ← h3]
    have h6 : s = s.extract 0 1 ++ s.extract 1 s.size := by
      refine ba_ext ?_
      rw [ba_app, Lib.extract_data, Lib.extract_data, List.take_of_length_le (l := s.data.toList.drop 1) (by rw [List.length_drop, ba_size]; omega)]
      exact (List.take_append_drop 1 _).symm
    rw [ex_one hm.1, hm.2] at h6
    exact h6
  · rw [if_neg hm] at h
    obtain ⟨h3, h4, h5⟩ := dig_it h
    exact ⟨h3, by omega, h5⟩
theorem it_chars (z : Int) : ∀ u ∈ (itB z).data.toList, u.toNat = 45 ∨ (48 ≤ u.toNat ∧ u.toNat ≤ 57) := by
  have hp : ∀ m : Nat, ∀ u ∈ (itB (m : Int)).data.toList, 48 ≤ u.toNat ∧ u.toNat ≤ 57 := fun m u hu => by
    obtain ⟨k, hk, e⟩ := List.getElem_of_mem hu
    have hk' : k < (itB (m : Int)).size := by rw [← ba_size]; exact hk
    have := dig_c (allD_at (num_it m).all hk')
    rw [bx_get hk', e] at this
    exact this
  intro u hu
  by_cases h0 : z < 0
  · obtain ⟨m, hm⟩ : ∃ m : Nat, 0 - z = (m : Int) := ⟨(0 - z).toNat, by omega⟩
    rw [it_minus h0, hm, ba_app, List.mem_append] at hu
    rcases hu with hu | hu
    · simp at hu
      subst hu
      exact .inl rfl
    · exact .inr (hp m u hu)
  · obtain ⟨m, rfl⟩ : ∃ m : Nat, z = (m : Int) := ⟨z.toNat, by omega⟩
    exact .inr (hp m u hu)
theorem it_free {z : Int} {c : UInt8} (h : c = 10 ∨ c = 32) : Free c (itB z) := by
  intro u hu e
  have := it_chars z u hu
  rw [e] at this
  rcases h with rfl | rfl
  · rcases this with h | h
    · exact absurd h (by decide)
    · exact absurd h.1 (by decide)
  · rcases this with h | h
    · exact absurd h (by decide)
    · exact absurd h.1 (by decide)

end Go.Proofs.YtdbffbcobghbeaaGreatDoor
namespace Go.Proofs.YtdbffbcobghbeaaGreatDoor
open Go.E Go.RowKit Go.Fl
attribute [local irreducible] G C S D Calls
set_option maxRecDepth 100000
set_option linter.unusedSimpArgs false
set_option linter.unusedVariables false

theorem joinB_data (xs : List ByteArray) (sep : ByteArray) : (joinB xs sep).data.toList = Lib.join (xs.map (·.data.toList)) sep.data.toList := rfl
theorem join_jn (c : UInt8) : ∀ ls : List ByteArray, joinB ls ⟨#[c]⟩ = jnB c ls
  | [] => rfl
  | [a] => by
    refine ba_ext ?_
    rw [joinB_data, List.map_cons, List.map_nil, Lib.join_one]
    rfl
  | a :: b :: r => by
    have h := congrArg (fun x => x.data.toList) (join_jn c (b :: r))
    refine ba_ext ?_
    rw [jnB_two, ← h]
    show _ = _ ++ c :: (joinB (b :: r) ⟨#[c]⟩).data.toList
    rw [joinB_data, joinB_data]
    simp only [List.map_cons, Lib.join_cons, Lib.joinTail, List.flatten_cons]
    simp
theorem join_flat : ∀ xs : List (List UInt8), Lib.join xs [] = xs.flatten
  | [] => rfl
  | x :: r => by
    rw [Lib.join_cons, Lib.joinTail, List.flatten_cons]
    simp
theorem joinE (ls : List ByteArray) : (joinB ls ByteArray.empty).data.toList = (ls.map (·.data.toList)).flatten := by
  rw [joinB_data]
  exact join_flat _
theorem jn_nl : ∀ ls : List ByteArray, (jnB 10 (ls ++ [ByteArray.empty])).data.toList = (ls.map fun x => x.data.toList ++ [10]).flatten
  | [] => rfl
  | [a] => by
    rw [List.cons_append, List.nil_append, jnB_two]
    simp [jnB]
  | a :: b :: r => by
    have h := jn_nl (b :: r)
    rw [List.cons_append] at h
    rw [List.cons_append, List.cons_append, jnB_two, h, List.map_cons, List.flatten_cons]
    simp
theorem size_snoc {a z : ByteArray} {l : List UInt8} (h : a.data.toList = z.data.toList ++ l) : a.size = z.size + l.length := by rw [← ba_size, ← ba_size, h, List.length_append]
def cvW (n : Int) : ByteArray := joinB [sCurve, itB n] sSp
def ptW (p : Pt) : ByteArray := joinB [sPoint, itB p.1, itB p.2] sSp
def pcs (n : Int) (l : List Pt) : List ByteArray := cvW n :: l.map ptW
theorem cvW_jn (n : Int) : cvW n = jnB 32 [sCurve, itB n] := join_jn 32 _
theorem ptW_jn (p : Pt) : ptW p = jnB 32 [sPoint, itB p.1, itB p.2] := join_jn 32 _
theorem prF_jn (l : List Pt) : prF l = jnB 10 (pcs (l.length : Int) l ++ [ByteArray.empty]) := by
  refine ba_ext ?_
  rw [jn_nl]
  unfold prF pcs
  rw [ba_app, joinE, List.map_cons, List.flatten_cons, List.map_map, List.map_map]
  have h1 : (lineB sCurve [(l.length : Int)]).data.toList = (cvW (l.length : Int)).data.toList ++ [10] := by
    show (joinB [sCurve, itB (l.length : Int)] sSp ++ sNl).data.toList = _
    rw [ba_app]
    rfl
  rw [h1]
  congr 3
/-- The program's text is the reference's. -/
theorem prP_pre (l : List Pt) : ∀ k, k ≤ l.length → (prP l k).data.toList = (lineB sCurve [(l.length : Int)]).data.toList ++ (((l.take k).map ptT).map (·.data.toList)).flatten
  | 0, _ => by
    show ((sCurveS ++ itB (l.length : Int)) ++ sNl).data.toList = (joinB [sCurve, itB (l.length : Int)] sSp ++ sNl).data.toList ++ _
    rw [show joinB [sCurve, itB (l.length : Int)] sSp = jnB 32 [sCurve, itB (l.length : Int)] from join_jn 32 _]
    simp only [ba_app, jnB_two, jnB, List.take_zero, List.map_nil, List.flatten_nil, List.append_nil]
    congr 1
  | k + 1, h => by
    have hk := prP_pre l k (by omega)
    have hg : gP l k = l[k]'(by omega) := by simp [gP, show k < l.length by omega]
    have ht : (ptT (gP l k)).data.toList = sPointS.data.toList ++ ((itB (gP l k).1).data.toList ++ ([32] ++ ((itB (gP l k).2).data.toList ++ [10]))) := by
      show (joinB [sPoint, itB (gP l k).1, itB (gP l k).2] sSp ++ sNl).data.toList = _
      rw [show joinB [sPoint, itB (gP l k).1, itB (gP l k).2] sSp = jnB 32 [sPoint, itB (gP l k).1, itB (gP l k).2] from join_jn 32 _]
      simp only [ba_app, jnB_two, jnB, List.append_assoc, List.cons_append, List.nil_append]
      rfl
    rw [List.take_succ_eq_append_getElem (by omega), List.map_append, List.map_append, List.flatten_append, ← List.append_assoc, ← hk, ← hg]
    simp only [List.map_cons, List.map_nil, List.flatten_cons, List.flatten_nil, List.append_nil]
    rw [ht, prP]
    simp only [ba_app, List.append_assoc]
    rfl
theorem prF_prP (l : List Pt) : prF l = prP l l.length := by
  refine ba_ext ?_
  rw [prP_pre l l.length (Nat.le_refl _), List.take_length, prF, ba_app, joinE]
theorem free_jn {c d : UInt8} (hcd : c ≠ d) : ∀ {ls : List ByteArray}, (∀ x ∈ ls, Free c x) → Free c (jnB d ls)
  | [], _ => by simp [jnB, Free]
  | [a], h => h a (List.mem_cons_self ..)
  | a :: b :: r, h => by
    have h1 := free_jn hcd (ls := b :: r) (fun x hx => h x (List.mem_cons_of_mem _ hx))
    intro u hu
    rw [jnB_two, List.mem_append, List.mem_cons] at hu
    rcases hu with hu | rfl | hu
    · exact h a (List.mem_cons_self ..) u hu
    · exact Ne.symm hcd
    · exact h1 u hu
/-- The parts of pieces are the pieces. -/
theorem splR_of {c : UInt8} {ls : List ByteArray} (hn : ls ≠ []) (h : ∀ x ∈ ls, Free c x) : splR (jnB c ls) c.toNat = ls := by
  obtain ⟨a, r, rfl⟩ := List.exists_cons_of_ne_nil hn
  obtain ⟨h1, h2⟩ := split_jn c r a h
  rw [← splitB_splR, h1, h2]
theorem free_w {c : UInt8} (h : c = 10 ∨ c = 32) : Free c sCurve ∧ Free c sPoint := by
  refine ⟨fun u hu e => ?_, fun u hu e => ?_⟩ <;> (subst e; revert hu; rcases h with rfl | rfl <;> decide)
theorem cvW_words (n : Int) : ∀ c : UInt8, c = 10 ∨ c = 32 → ∀ x ∈ [sCurve, itB n], Free c x := fun c h x hx => by
  simp only [List.mem_cons, List.not_mem_nil, or_false] at hx
  rcases hx with rfl | rfl
  · exact (free_w h).1
  · exact it_free h
theorem ptW_words (p : Pt) : ∀ c : UInt8, c = 10 ∨ c = 32 → ∀ x ∈ [sPoint, itB p.1, itB p.2], Free c x := fun c h x hx => by
  simp only [List.mem_cons, List.not_mem_nil, or_false] at hx
  rcases hx with rfl | rfl | rfl
  · exact (free_w h).2
  · exact it_free h
  · exact it_free h
theorem pcs_free (n : Int) (l : List Pt) : ∀ x ∈ pcs n l, Free 10 x := fun x hx => by
  rcases List.mem_cons.1 hx with rfl | hx
  · rw [cvW_jn]
    exact free_jn (by decide) (cvW_words n 10 (.inl rfl))
  · obtain ⟨p, _, rfl⟩ := List.mem_map.1 hx
    rw [ptW_jn]
    exact free_jn (by decide) (ptW_words p 10 (.inl rfl))
abbrev smallI (z : Int) : Prop := -999999999 ≤ z ∧ z ≤ 999999999
theorem ps_cv {n : Int} (h : smallI n) : psR (cvW n) 0 = ([n], true) := by
  have hs : splR (cvW n) 32 = sCurve :: [itB n] := by
    rw [cvW_jn]
    exact splR_of (c := 32) (by simp) (cvW_words n 32 (.inr rfl))
  rw [psR_yes hs rfl rfl (by simp [sgn_it h])]
  simp [sgn_it h]
theorem ps_pt {p : Pt} {i : Nat} (hi : i ≠ 0) (h1 : smallI p.1) (h2 : smallI p.2) : psR (ptW p) i = ([p.1, p.2], true) := by
  have hs : splR (ptW p) 32 = sPoint :: [itB p.1, itB p.2] := by
    rw [ptW_jn]
    exact splR_of (c := 32) (by simp) (ptW_words p 32 (.inr rfl))
  have hw : psW i = (sPoint, 3) := by unfold psW; rw [if_neg hi]
  rw [psR_yes hs (by rw [hw]) (by rw [hw]; rfl) (by simp [sgn_it h1, sgn_it h2])]
  simp [sgn_it h1, sgn_it h2]
theorem sN_app1 {l t : List ByteArray} {k : Nat} (h : k < l.length) : sN (l ++ t) k = sN l k := by
  unfold sN
  simp [List.getElem?_append_left h]
theorem sN_app2 (l : List ByteArray) (a : ByteArray) (t : List ByteArray) : sN (l ++ a :: t) l.length = a := by
  unfold sN
  simp
theorem sN_pt {n : Int} {l : List Pt} {k : Nat} (h : k < l.length) : sN (pcs n l) (k + 1) = ptW (gP l k) := by
  unfold pcs
  rw [sN_cons]
  unfold sN gP
  simp [h]
theorem pcs_len (n : Int) (l : List Pt) : (pcs n l).length = l.length + 1 := by simp [pcs]
abbrev PtS (l : List Pt) : Prop := ∀ p ∈ l, smallI p.1 ∧ smallI p.2
theorem gP_s {l : List Pt} {k : Nat} (h : PtS l) (hk : k < l.length) : smallI (gP l k).1 ∧ smallI (gP l k).2 := by
  have e : gP l k = l[k] := by simp [gP, hk]
  rw [e]
  exact h _ (List.getElem_mem hk)
theorem pcs_ps {n : Int} {l : List Pt} (hn : smallI n) (h : PtS l) (t : List ByteArray) {k : Nat} (hk : k < l.length + 1) : psR (sN (pcs n l ++ t) k) k = if k = 0 then ([n], true) else ([(gP l (k - 1)).1, (gP l (k - 1)).2], true) := by
  rw [sN_app1 (by rw [pcs_len]; exact hk)]
  cases k with
  | zero => exact ps_cv hn
  | succ k =>
    have h1 := gP_s h (show k < l.length by omega)
    rw [sN_pt (by omega), if_neg (by omega), Nat.add_sub_cancel]
    exact ps_pt (by omega) h1.1 h1.2
theorem pcs_ok {n : Int} {l : List Pt} (hn : smallI n) (h : PtS l) (t : List ByteArray) : rpOk (pcs n l ++ t) (l.length + 1) := by
  intro j hj
  rw [pcs_ps hn h t hj]
  split <;> rfl
theorem pcs_S {n : Int} {l : List Pt} (hn : smallI n) (h : PtS l) (t : List ByteArray) : ∀ k, k ≤ l.length → rpS (pcs n l ++ t) (k + 1) = (n, l.take k)
  | 0, _ => by
    rw [rpS, if_pos rfl, pcs_ps hn h t (by omega), if_pos rfl]
    rfl
  | k + 1, hk => by
    rw [rpS, if_neg (by omega), pcs_ps hn h t (by omega), if_neg (by omega), pcs_S hn h t k (by omega), List.take_succ_eq_append_getElem (by omega)]
    have e : gP l k = l[k]'(by omega) := by simp [gP, show k < l.length by omega]
    simp only [Nat.add_sub_cancel]
    rw [e]
    rfl
theorem cv_small {l : List Pt} (h : CvOk l) : smallI (l.length : Int) ∧ PtS l := by
  have h1 := h.hi
  refine ⟨by constructor <;> omega, fun p hp => ?_⟩
  obtain ⟨h2, h3⟩ := cv_pts h p hp
  exact ⟨by constructor <;> omega, by constructor <;> omega⟩
theorem cv_in {l : List Pt} (h : CvOk l) : PtIn l := fun p hp => cv_pts h p hp
theorem prF_size {l : List Pt} (h : CvOk l) : (prF l).size ≤ 1200 := by
  have h1 := h.hi
  have := prP_size (cv_in h) (by omega) l.length (Nat.le_refl _)
  rw [prF_prP]
  omega
/-- A curve is read as it was written. -/
theorem rp_pr {l : List Pt} (h : CvOk l) : rpR (prF l) = (l, 0, 0) := by
  obtain ⟨hn, hp⟩ := cv_small h
  have hsz := prF_size h
  have hs : splR (prF l) 10 = pcs (l.length : Int) l ++ [ByteArray.empty] := by
    rw [prF_jn]
    refine splR_of (c := 10) (by simp) fun x hx => ?_
    rcases List.mem_append.1 hx with hx | hx
    · exact pcs_free _ _ x hx
    · rw [List.mem_singleton.1 hx]
      simp [Free]
  have hl : (pcs (l.length : Int) l ++ [ByteArray.empty]).length - 1 = l.length + 1 := by simp [pcs_len]
  have he : sN (pcs (l.length : Int) l ++ [ByteArray.empty]) (l.length + 1) = ByteArray.empty := by
    rw [← pcs_len (l.length : Int) l]
    exact sN_app2 _ _ _
  have hS := pcs_S hn hp [ByteArray.empty] l.length (Nat.le_refl _)
  unfold rpR
  rw [if_neg (by omega), hs, hl, rpX_ok (pcs_ok hn hp _), hS, he, if_neg (by simp), if_neg (by simp), List.take_length, if_neg (by simpa using curve_ok.2 h)]
/-- Without its last byte it is not. -/
theorem rp_cut {l : List Pt} {p : Pt} (h : CvOk (l ++ [p])) : rpR (jnB 10 (pcs ((l ++ [p]).length : Int) l ++ [ptW p])) = ([], l.length + 1, 25) ∧ (prF (l ++ [p])).data.toList = (jnB 10 (pcs ((l ++ [p]).length : Int) l ++ [ptW p])).data.toList ++ [10] := by
  obtain ⟨hn, hp⟩ := cv_small h
  have hsz := prF_size h
  have hpl : PtS l := fun q hq => hp q (List.mem_append_left _ hq)
  have e1 : pcs ((l ++ [p]).length : Int) (l ++ [p]) = pcs ((l ++ [p]).length : Int) l ++ [ptW p] := by simp [pcs]
  have e2 : (prF (l ++ [p])).data.toList = (jnB 10 (pcs ((l ++ [p]).length : Int) l ++ [ptW p])).data.toList ++ [10] := by
    rw [prF_jn, e1]
    have := jnB_snoc 10 ByteArray.empty (cvW ((l ++ [p]).length : Int)) (l.map ptW ++ [ptW p])
    exact this
  refine ⟨?_, e2⟩
  have hs : splR (jnB 10 (pcs ((l ++ [p]).length : Int) l ++ [ptW p])) 10 = pcs ((l ++ [p]).length : Int) l ++ [ptW p] := splR_of (c := 10) (by simp) fun x hx => pcs_free _ (l ++ [p]) x (by rw [e1]; exact hx)
  have hl : (pcs ((l ++ [p]).length : Int) l ++ [ptW p]).length - 1 = l.length + 1 := by simp [pcs_len]
  have he : sN (pcs ((l ++ [p]).length : Int) l ++ [ptW p]) (l.length + 1) = ptW p := by
    rw [← pcs_len ((l ++ [p]).length : Int) l]
    exact sN_app2 _ _ _
  have hz : (prF (l ++ [p])).size = (jnB 10 (pcs ((l ++ [p]).length : Int) l ++ [ptW p])).size + 1 := size_snoc e2
  have hne : ptW p ≠ ByteArray.empty := by
    intro e
    have := congrArg (fun x => x.data.toList.length) e
    simp only [ptW_jn, jnB_two, List.length_append, List.length_cons] at this
    have h0 : (ByteArray.empty).data.toList.length = 0 := rfl
    omega
  unfold rpR
  rw [if_neg (by omega), hs, hl, rpX_ok (pcs_ok hn hpl _), he, if_pos (.inl hne)]
/-- Without its last line it has not the form of a curve. -/
theorem rp_less {l : List Pt} {p : Pt} (h : CvOk (l ++ [p])) : rpR (jnB 10 (pcs ((l ++ [p]).length : Int) l ++ [ByteArray.empty])) = ([], l.length + 1, 2) ∧ (jnB 10 (pcs ((l ++ [p]).length : Int) l ++ [ptW p])).data.toList = (jnB 10 (pcs ((l ++ [p]).length : Int) l ++ [ByteArray.empty])).data.toList ++ (ptW p).data.toList := by
  obtain ⟨hn, hp⟩ := cv_small h
  have hsz := prF_size h
  have hpl : PtS l := fun q hq => hp q (List.mem_append_left _ hq)
  have e2 : (jnB 10 (pcs ((l ++ [p]).length : Int) l ++ [ptW p])).data.toList = (jnB 10 (pcs ((l ++ [p]).length : Int) l ++ [ByteArray.empty])).data.toList ++ (ptW p).data.toList := by
    have e3 : ptW p = ByteArray.empty ++ ptW p := ba_ext (by rw [ba_app]; rfl)
    have := jnB_last 10 ByteArray.empty (ptW p) (pcs ((l ++ [p]).length : Int) l)
    rw [← e3] at this
    exact this
  refine ⟨?_, e2⟩
  have hs : splR (jnB 10 (pcs ((l ++ [p]).length : Int) l ++ [ByteArray.empty])) 10 = pcs ((l ++ [p]).length : Int) l ++ [ByteArray.empty] := splR_of (c := 10) (by simp) fun x hx => by
    rcases List.mem_append.1 hx with hx | hx
    · exact pcs_free _ _ x hx
    · rw [List.mem_singleton.1 hx]
      simp [Free]
  have hl : (pcs ((l ++ [p]).length : Int) l ++ [ByteArray.empty]).length - 1 = l.length + 1 := by simp [pcs_len]
  have he : sN (pcs ((l ++ [p]).length : Int) l ++ [ByteArray.empty]) (l.length + 1) = ByteArray.empty := by
    rw [← pcs_len ((l ++ [p]).length : Int) l]
    exact sN_app2 _ _ _
  have hz : (jnB 10 (pcs ((l ++ [p]).length : Int) l ++ [ByteArray.empty])).size ≤ (prF (l ++ [p])).size := by
    have h1 := size_snoc (rp_cut h).2
    have h2 := size_snoc e2
    omega
  have hS := pcs_S hn hpl [ByteArray.empty] l.length (Nat.le_refl _)
  unfold rpR
  rw [if_neg (by omega), hs, hl, rpX_ok (pcs_ok hn hpl _), hS, he, if_neg (by simp), if_pos (by simp; omega)]
theorem sgn_all : ∀ tl : List ByteArray, (tl.all fun x => (sgnR x).2) = true → tl = (tl.map fun x => (sgnR x).1).map itB
  | [], _ => rfl
  | a :: r, h => by
    rw [List.all_cons, Bool.and_eq_true] at h
    rw [List.map_cons, List.map_cons, ← sgn_all r h.2]
    congr 1
    exact (sgn_eq (z := (sgnR a).1) (by rw [← h.1])).1
/-- A line that is read is as it is written. -/
theorem ps_inv {s : ByteArray} {i : Nat} {xs : List Int} (h : psR s i = (xs, true)) : s = jnB 32 ((psW i).1 :: xs.map itB) ∧ xs.length + 1 = (psW i).2 := by
  refine ⟨?_, psR_len_of h⟩
  unfold psR at h
  split at h
  · rename_i hc
    obtain ⟨h1, _, h3⟩ := hc
    simp only [Prod.mk.injEq, and_true] at h
    obtain ⟨h4, _⟩ := splR_jn s 32
    have h32 : (32 : UInt8).toNat = 32 := rfl
    rw [h32] at h4
    obtain ⟨hd, tl, e⟩ := splR_cons s 32
    rw [e] at h1 h3 h h4
    rw [List.tail_cons] at h3 h
    have h5 := sgn_all tl h3
    rw [h] at h5
    rw [← h4, h5, ← h1]
    rfl
  · simp at h
theorem rp_lines {ls : List ByteArray} : ∀ k, k + 1 ≤ ls.length → rpOk ls (k + 1) → ls.take (k + 1) = pcs (rpS ls (k + 1)).1 (rpS ls (k + 1)).2
  | 0, hk, h => by
    have h0 := h 0 (by omega)
    rcases hps : psR (sN ls 0) 0 with ⟨xs, b⟩
    rw [hps] at h0
    simp only at h0
    subst h0
    obtain ⟨h1, h2⟩ := ps_inv hps
    have hx : xs.length = 1 := by simpa [psW] using h2
    obtain ⟨x, rfl⟩ : ∃ x, xs = [x] := List.length_eq_one_iff.1 hx
    rw [rpS, if_pos rfl, hps, List.take_succ_eq_append_getElem (by omega), ← sN_at (show 0 < ls.length by omega), h1]
    show _ = cvW x :: []
    rw [cvW_jn]
    rfl
  | k + 1, hk, h => by
    have ih := rp_lines k (by omega) (fun j hj => h j (by omega))
    have h0 := h (k + 1) (by omega)
    rcases hps : psR (sN ls (k + 1)) (k + 1) with ⟨xs, b⟩
    rw [hps] at h0
    simp only at h0
    subst h0
    obtain ⟨h1, h2⟩ := ps_inv hps
    have hx : xs.length = 2 := by simpa [psW] using h2
    obtain ⟨x, y, rfl⟩ : ∃ x y, xs = [x, y] := by
      rcases xs with _ | ⟨x, _ | ⟨y, _ | ⟨z, r⟩⟩⟩
      · simp at hx
      · simp at hx
      · exact ⟨_, _, rfl⟩
      · simp at hx
    rw [rpS, if_neg (by omega), hps, List.take_succ_eq_append_getElem (by omega), ih, ← sN_at (show k + 1 < ls.length by omega), h1]
    unfold pcs
    rw [List.map_append, List.cons_append]
    simp only [List.map_cons, List.map_nil]
    congr 2
    rw [ptW_jn]
    rfl
/-- What is read is printed as it was. -/
theorem pr_rp {t : ByteArray} {y : List Pt} {n : Nat} (h : rpR t = (y, n, 0)) : prF y = t ∧ curveE y = 0 := by
  unfold rpR at h
  split at h
  · simp at h
  · have h10 : (10 : UInt8).toNat = 10 := rfl
    obtain ⟨hj, _⟩ := splR_jn t 10
    rw [h10] at hj
    obtain ⟨a, r, hls⟩ := splR_cons t 10
    rw [hls] at h hj
    generalize hL : a :: r = ls at h hj hls
    have hlen : ls.length = ls.length - 1 + 1 := by rw [← hL]; simp
    generalize hm : ls.length - 1 = m at h hlen
    by_cases hok : rpOk ls m
    · rw [rpX_ok hok] at h
      split at h
      · simp at h
      · rename_i hc
        split at h
        · simp at h
        · rename_i hcount
          split at h
          · rename_i hce
            simp only [Prod.mk.injEq] at h
            exact absurd h.2.2 hce
          · rename_i hce
            simp only [Prod.mk.injEq] at h
            obtain ⟨rfl, _, _⟩ := h
            have hemp : sN ls m = ByteArray.empty := Classical.byContradiction fun e => hc (.inl e)
            have hm0 : m ≠ 0 := fun e => hc (.inr e)
            have hcount' : ((rpS ls m).2.length : Int) = (rpS ls m).1 := Classical.byContradiction hcount
            obtain ⟨k, rfl⟩ : ∃ k, m = k + 1 := ⟨m - 1, by omega⟩
            have hl := rp_lines (ls := ls) k (by omega) hok
            rw [← hcount'] at hl
            refine ⟨?_, Classical.byContradiction hce⟩
            rw [prF_jn, ← hl, ← hj]
            congr 1
            rw [← hemp, sN_at (show k + 1 < ls.length by omega), ← List.take_succ_eq_append_getElem]
            exact List.take_of_length_le (by omega)
    · obtain ⟨k, hk, hbad, hk2⟩ : ∃ k, k < m ∧ (psR (sN ls k) k).2 = false ∧ rpOk ls k := by
        have : ∃ k, k < m ∧ (psR (sN ls k) k).2 = false := Classical.byContradiction fun hne => hok fun j hj => by
          cases hb : (psR (sN ls j) j).2
          · exact absurd ⟨j, hj, hb⟩ hne
          · rfl
        obtain ⟨k, hk, hb⟩ := this
        induction k using Nat.strongRecOn with
        | _ k ih =>
          by_cases hp : rpOk ls k
          · exact ⟨k, hk, hb, hp⟩
          · have : ∃ j, j < k ∧ (psR (sN ls j) j).2 = false := Classical.byContradiction fun hne => hp fun j hj => by
              cases hb : (psR (sN ls j) j).2
              · exact absurd ⟨j, hj, hb⟩ hne
              · rfl
            obtain ⟨j, hj, hb2⟩ := this
            exact ih j hj (by omega) hb2
      rw [rpX_bad hk2 hk hbad] at h
      simp at h

end Go.Proofs.YtdbffbcobghbeaaGreatDoor
namespace Go.Proofs.YtdbffbcobghbeaaGreatDoor
open Go.E Go.RowKit Go.Fl
attribute [local irreducible] G C S D Calls
set_option maxRecDepth 100000
set_option linter.unusedSimpArgs false
set_option linter.unusedVariables false

theorem ne_boolT {P : Program} {t : TypeId} {a b : Bool} (ht : P.underlying t = some .bool) (x y : Operand) (w : World) : (do eqGuard .neq t x y (.bool a) (.bool b); binOp .neq t (.bool a) (.bool b) : Sem Value).run P w = .ok (.bool (a != b)) w := by
  have hg : (eqGuard .neq t x y (.bool a) (.bool b)).run P w = .ok () w := by unfold eqGuard; simp
  simp only [Sem.run_bind, hg, Result.andThen_ok]
  have he : (Op.equalIn Op.maxDepth t (.bool a) (.bool b)).run P w = .ok (a == b) w := Go.run_equalIn_bool' (w := w) (P := P) 9999 t a b ht
  simp only [binOp, Op.equal]
  simp [Sem.run_bind, he]
  cases a <;> cases b <;> rfl
/-- Are the first lines whole, and of the form? -/
def okLn (ls : List ByteArray) : Nat → Bool
  | 0 => true
  | k + 1 => okLn ls k && ((cutE (sN ls k)).2 && (psR (cutE (sN ls k)).1 k).2)
theorem okLn_congr {a b : List ByteArray} : ∀ k, (∀ j, j < k → sN a j = sN b j) → okLn a k = okLn b k
  | 0, _ => rfl
  | k + 1, h => by rw [okLn, okLn, okLn_congr k (fun j hj => h j (by omega)), h k (by omega)]
theorem rpS_congr {a b : List ByteArray} : ∀ k, (∀ j, j < k → sN a j = sN b j) → rpS a k = rpS b k
  | 0, _ => rfl
  | k + 1, h => by rw [rpS, rpS, rpS_congr k (fun j hj => h j (by omega)), h k (by omega)]
abbrev vals (pre : List LnT) : List ByteArray := pre.map (·.1)
abbrev bodies (pre : List LnT) : List ByteArray := pre.map fun x => (cutE x.1).1
def okP (pre : List LnT) : Bool := okLn (vals pre) pre.length
def badP (pre : List LnT) : Bool := okLn (vals pre) (pre.length - 1) && !okLn (vals pre) pre.length
def stP (pre : List LnT) : Int × List Pt := rpS (bodies pre) pre.length
theorem sN_map {α : Type} (f : α → ByteArray) (pre : List α) (x : α) {j : Nat} (hj : j < pre.length) : sN ((pre ++ [x]).map f) j = sN (pre.map f) j := by
  rw [List.map_append]
  exact sN_app1 (by simpa using hj)
theorem sN_map2 {α : Type} (f : α → ByteArray) (pre : List α) (x : α) : sN ((pre ++ [x]).map f) pre.length = f x := by
  rw [List.map_append]
  have := sN_app2 (pre.map f) (f x) []
  rw [List.length_map] at this
  exact this
theorem ok_snoc (pre : List LnT) (x : LnT) : okLn (vals (pre ++ [x])) pre.length = okP pre := okLn_congr _ fun j hj => sN_map _ _ _ hj
theorem okP_snoc (pre : List LnT) (x : LnT) : okP (pre ++ [x]) = (okP pre && ((cutE x.1).2 && (psR (cutE x.1).1 pre.length).2)) := by
  have h1 := ok_snoc pre x
  have h2 := sN_map2 (fun y : LnT => y.1) pre x
  unfold okP at h1 ⊢
  rw [List.length_append, List.length_singleton, okLn, h1, h2]
theorem badP_snoc {pre : List LnT} {x : LnT} (h : okP pre = true) (h2 : ((cutE x.1).2 && (psR (cutE x.1).1 pre.length).2) = false) : badP (pre ++ [x]) = true ∧ (pre ++ [x]).length - 1 = pre.length := by
  have h1 := ok_snoc pre x
  have h3 : okLn (vals (pre ++ [x])) (pre ++ [x]).length = (okP pre && ((cutE x.1).2 && (psR (cutE x.1).1 pre.length).2)) := okP_snoc pre x
  have hl : (pre ++ [x]).length - 1 = pre.length := by simp
  refine ⟨?_, hl⟩
  unfold badP
  rw [hl, h1, h, h3, h, h2]
  rfl
theorem stP_snoc (pre : List LnT) (x : LnT) : stP (pre ++ [x]) = if pre.length = 0 then ((psR (cutE x.1).1 pre.length).1.getD 0 0, (stP pre).2) else ((stP pre).1, (stP pre).2 ++ [((psR (cutE x.1).1 pre.length).1.getD 0 0, (psR (cutE x.1).1 pre.length).1.getD 1 0)]) := by
  have h1 : rpS (bodies (pre ++ [x])) pre.length = stP pre := rpS_congr _ fun j hj => sN_map _ _ _ hj
  have h2 := sN_map2 (fun y : LnT => (cutE y.1).1) pre x
  unfold stP at h1 ⊢
  rw [List.length_append, List.length_singleton, rpS, h1, h2]
theorem stP_len (pre : List LnT) : (stP pre).2.length ≤ pre.length := rpS_len _
/-! ### The lines of a text and its parts -/
theorem cutE_full {s : ByteArray} {ls : List ByteArray} (hs : splR s 10 = ls) {m : Nat} (hm : ls.length = m + 1) {j : Nat} (hj : j < m) : cutE (sN (lnB ls) j) = (sN ls j, true) := by
  rw [lnB_at ls j (by omega)]
  exact cutE_nl _
theorem free_of {s : ByteArray} {ls : List ByteArray} (hs : splR s 10 = ls) : ∀ x ∈ ls, Free 10 x := by
  have := (splR_jn s 10).2
  have h10 : (10 : UInt8).toNat = 10 := rfl
  rw [h10, hs] at this
  exact this
theorem cutE_end {s : ByteArray} {ls : List ByteArray} (hs : splR s 10 = ls) {m : Nat} (hm : ls.length = m + 1) (hne : sN ls m ≠ ByteArray.empty) : cutE (sN (lnB ls) m) = (sN ls m, false) := by
  rw [((lnB_len2 ls m hm).2 hne).2]
  exact cutE_free (free_of hs _ (sN_mem (by omega)))
theorem okLn_rp {s : ByteArray} {ls : List ByteArray} (hs : splR s 10 = ls) {m : Nat} (hm : ls.length = m + 1) : ∀ k, k ≤ m → (okLn (lnB ls) k = true ↔ rpOk ls k)
  | 0, _ => ⟨fun _ j hj => absurd hj (Nat.not_lt_zero _), fun _ => rfl⟩
  | k + 1, hk => by
    have ih := okLn_rp hs hm k (by omega)
    rw [okLn, cutE_full hs hm (show k < m by omega), Bool.and_eq_true, ih]
    simp only [Bool.true_and]
    refine ⟨fun h => rpOk_s h.1 h.2, fun h => ⟨fun j hj => h j (by omega), h k (by omega)⟩⟩
theorem sN_pre {α : Type} (f : α → ByteArray) {pre xs : List α} (h : pre <+: xs) {j : Nat} (hj : j < pre.length) : sN (pre.map f) j = sN (xs.map f) j := by
  obtain ⟨t, rfl⟩ := h
  rw [List.map_append]
  exact (sN_app1 (by simpa using hj)).symm
/-- Where a line is wrong. -/
theorem stop_eq {s : ByteArray} (h4 : s.size ≤ 4096) {xs pre : List LnT} (hxs : vals xs = lnB (splR s 10)) (hp : pre <+: xs) (hb : badP pre = true) : rpR s = ([], pre.length - 1, 25) := by
  generalize hs : splR s 10 = ls at hxs
  obtain ⟨a, r, e⟩ := splR_cons s 10
  obtain ⟨m, hm⟩ : ∃ m, ls.length = m + 1 := ⟨r.length, by rw [← hs, e]; rfl⟩
  have hR : rpR s = rpX s ls m := by
    unfold rpR
    rw [if_neg (by omega), hs, hm]
    rfl
  unfold badP at hb
  rw [Bool.and_eq_true, Bool.not_eq_true'] at hb
  obtain ⟨h1, h2⟩ := hb
  obtain ⟨k, hk⟩ : ∃ k, pre.length = k + 1 := by
    cases hl : pre.length with
    | zero => rw [hl] at h2; cases h2
    | succ k => exact ⟨k, rfl⟩
  rw [hk, Nat.add_sub_cancel] at h1 ⊢
  rw [hk] at h2
  have hc : ∀ j, j < k + 1 → sN (vals pre) j = sN (lnB ls) j := fun j hj => by
    rw [← hxs]
    exact sN_pre _ hp (by omega)
  rw [okLn_congr _ hc] at h2
  rw [okLn_congr _ (fun j hj => hc j (by omega))] at h1
  have hxl : xs.length = (lnB ls).length := by rw [← hxs]; simp
  have hpl := hp.length_le
  have hl2 := lnB_len2 ls m hm
  have hkm : k ≤ m := by
    by_cases he : sN ls m = ByteArray.empty
    · have := hl2.1 he; omega
    · have := (hl2.2 he).1; omega
  have hok := (okLn_rp hs hm k hkm).1 h1
  rw [hR]
  rw [okLn, h1, Bool.true_and] at h2
  by_cases hlt : k < m
  · rw [cutE_full hs hm hlt] at h2
    exact rpX_bad hok hlt (by simpa using h2)
  · obtain rfl : k = m := by omega
    have hne : sN ls k ≠ ByteArray.empty := fun he => by
      have := hl2.1 he
      omega
    rw [rpX_ok hok, if_pos (.inl hne)]
/-- Where all lines are fine. -/
theorem done_eq {s : ByteArray} (h4 : s.size ≤ 4096) (h0 : 0 < s.size) {xs : List LnT} (hxs : vals xs = lnB (splR s 10)) (hok : okP xs = true) :
    rpR s = if ((stP xs).2.length : Int) ≠ (stP xs).1 then ([], xs.length, 2) else if curveE (stP xs).2 ≠ 0 then ([], xs.length, curveE (stP xs).2) else ((stP xs).2, 0, 0) := by
  have hj := (splR_jn s 10).1
  have h10 : (10 : UInt8).toNat = 10 := rfl
  rw [h10] at hj
  generalize hs : splR s 10 = ls at hxs hj
  obtain ⟨a, r, e⟩ := splR_cons s 10
  obtain ⟨m, hm⟩ : ∃ m, ls.length = m + 1 := ⟨r.length, by rw [← hs, e]; rfl⟩
  have hR : rpR s = rpX s ls m := by
    unfold rpR
    rw [if_neg (by omega), hs, hm]
    rfl
  have hl2 := lnB_len2 ls m hm
  have hxl : xs.length = (lnB ls).length := by rw [← hxs]; simp
  unfold okP at hok
  rw [hxs] at hok
  have he : sN ls m = ByteArray.empty := Classical.byContradiction fun hne => by
    rw [hxl, (hl2.2 hne).1, okLn, cutE_end hs hm hne] at hok
    simp at hok
  have hxm : xs.length = m := by rw [hxl, hl2.1 he]
  rw [hxm] at hok
  have hrp := (okLn_rp hs hm m (Nat.le_refl _)).1 hok
  have hm0 : m ≠ 0 := fun h => by
    subst h
    obtain ⟨b, rfl⟩ : ∃ b, ls = [b] := List.length_eq_one_iff.1 hm
    have : b = ByteArray.empty := he
    subst this
    rw [← hj] at h0
    exact absurd h0 (by decide)
  have hS : stP xs = rpS ls m := by
    unfold stP
    rw [hxm]
    refine rpS_congr _ fun j hj => ?_
    have h1 : sN (bodies xs) j = (cutE (sN (vals xs) j)).1 := by
      have hjx : j < xs.length := by omega
      rw [sN_at (show j < (bodies xs).length by simpa using hjx), sN_at (show j < (vals xs).length by simpa using hjx)]
      simp
    rw [h1, hxs, cutE_full hs hm hj]
  rw [hR, rpX_ok hrp, if_neg (by rintro (h | h); exact h he; exact hm0 h), hS, hxm]
/-! ### Words -/
theorem ps_false {s : ByteArray} {k : Nat} {hd : ByteArray} {tl : List ByteArray} (h : splR s 32 = hd :: tl) (hb : ¬ (hd = (psW k).1 ∧ tl.length + 1 = (psW k).2 ∧ (tl.all fun x => (sgnR x).2) = true)) : psR s k = ([], false) := by
  unfold psR
  rw [h, if_neg]
  exact hb
/-- The count of points: read, or not. -/
theorem cv_read {s hd : ByteArray} {tl : List ByteArray} (h : splR s 32 = hd :: tl) (hw : hd = sCurve) : ((nxR false tl = false ∧ tl.length - 1 = 0) ∧ (psR s 0).2 = true ∧ (psR s 0).1.getD 0 0 = nxZ tl) ∨ (¬ (nxR false tl = false ∧ tl.length - 1 = 0) ∧ (psR s 0).2 = false) := by
  have hW : psW 0 = (sCurve, 2) := rfl
  rcases tl with _ | ⟨x, _ | ⟨y, r⟩⟩
  · right
    rw [ps_false h (by rw [hW]; simp)]
    exact ⟨by simp [nxR], rfl⟩
  · obtain ⟨h1, h2⟩ := int_sgn x
    cases hx : (sgnR x).2
    · right
      rw [ps_false h (by rw [hW]; simp [hx])]
      exact ⟨by simp [nxR, h1, hx], rfl⟩
    · left
      rw [psR_yes h (by rw [hW]; exact hw) (by rw [hW]; rfl) (by simp [hx])]
      exact ⟨⟨by simp [nxR, h1, hx], rfl⟩, rfl, by simp [nxZ, h2 hx]⟩
  · right
    rw [ps_false h (by rw [hW]; simp)]
    exact ⟨by simp, rfl⟩
/-- A point: read, or not. -/
theorem pt_read {s hd : ByteArray} {tl : List ByteArray} {k : Nat} (hk : k ≠ 0) (h : splR s 32 = hd :: tl) (hw : hd = sPoint) : ((nxR (nxR false tl) tl.tail = false ∧ tl.length - 1 - 1 = 0) ∧ (psR s k).2 = true ∧ (psR s k).1.getD 0 0 = nxZ tl ∧ (psR s k).1.getD 1 0 = nxZ tl.tail) ∨ (¬ (nxR (nxR false tl) tl.tail = false ∧ tl.length - 1 - 1 = 0) ∧ (psR s k).2 = false) := by
  have hW : psW k = (sPoint, 3) := by unfold psW; rw [if_neg hk]
  rcases tl with _ | ⟨x, _ | ⟨y, _ | ⟨z, r⟩⟩⟩
  · right
    rw [ps_false h (by rw [hW]; simp)]
    exact ⟨by simp [nxR], rfl⟩
  · right
    rw [ps_false h (by rw [hW]; simp)]
    exact ⟨by simp [nxR], rfl⟩
  · obtain ⟨h1, h2⟩ := int_sgn x
    obtain ⟨h3, h4⟩ := int_sgn y
    by_cases hxy : (sgnR x).2 = true ∧ (sgnR y).2 = true
    · left
      obtain ⟨hx, hy⟩ := hxy
      rw [psR_yes h (by rw [hW]; exact hw) (by rw [hW]; rfl) (by simp [hx, hy])]
      exact ⟨⟨by simp [nxR, h1, hx, h3, hy], rfl⟩, rfl, by simp [nxZ, h2 hx], by simp [nxZ, h4 hy]⟩
    · right
      rw [ps_false h (by rw [hW]; simpa using fun _ hx hy => hxy ⟨hx, hy⟩)]
      refine ⟨fun hc => hxy ?_, rfl⟩
      have := hc.1
      simpa [nxR, h1, h3] using this
  · right
    rw [ps_false h (by rw [hW]; simp)]
    exact ⟨by simp, rfl⟩
/-- A first word that is not the one that the form asks for. -/
theorem wd_false {s hd : ByteArray} {tl : List ByteArray} {k : Nat} (h : splR s 32 = hd :: tl) (hw : hd ≠ (psW k).1) : (psR s k).2 = false := by rw [psR_word h hw]

end Go.Proofs.YtdbffbcobghbeaaGreatDoor
