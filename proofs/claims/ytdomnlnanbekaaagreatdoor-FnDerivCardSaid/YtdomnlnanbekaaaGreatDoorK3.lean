/- Part 3: what the walk of the code stands on. Conditions: none but those that each theorem states. -/
import Derived.Test.YtdomnlnanbekaaaGreatDoorK2
open Go Go.Proofs.YtdomnlnanbekaaaGreatDoor.T
namespace Go.Proofs.YtdomnlnanbekaaaGreatDoor.R
set_option maxHeartbeats 2000000
set_option maxRecDepth 100000
set_option linter.unusedSimpArgs false
set_option linter.unusedVariables false
theorem tc_iSetOk (l : List (Int × Int)) (hl : l.length ≤ 1152921504606846976) : TC Tryz.prog 126 [.ro (l.map encSp)] [] (.val (.bool (setOk l))) [] := by
  refine TC.enter Tryz.func126 rfl (by simp [Tryz.ntmps126]) rfl (tw_sound (ρ := []) ?_)
  rw [Tryz.ntmps126]
  simp
  refine TWcH.loop [] (fun m s => ∃ i, i + m = l.length ∧ s.σ 0 = .ro (l.map encSp) ∧ s.σ 5 = .ro (l.map encSp) ∧ s.σ 6 = .val (.int .i64 l.length) ∧ s.σ 7 = .val (.int .i64 i) ∧ (∀ q, prevOf l i = some q → 0 ≤ q ∧ q ≤ 255) ∧ setOk l = setOkP (prevOf l i) (l.drop i)) l.length ⟨0, by simp [prevOf, setOk]⟩ ?_
  rintro m ⟨σ, H⟩ ⟨i, him, h0, h5, h6, h7, hp, hh⟩
  simp only at h0 h5 h6 h7
  by_cases hi : i < l.length
  · rw [setOkP_drop hi] at hh
    have hw := hw1 hi hl
    have bad : ¬ okX (prevOf l i) l[i] = true → setOk l = false := fun h => by rw [hh, Bool.eq_false_iff.2 h]; rfl
    have good : okX (prevOf l i) l[i] = true → ∃ m', m' < m ∧ ∃ i', i' + m' = l.length ∧ (i : Int) + 1 = (i' : Int) ∧ (∀ q, prevOf l i' = some q → 0 ≤ q ∧ q ≤ 255) ∧ setOk l = setOkP (prevOf l i') (l.drop i') := fun h => by
      refine ⟨m - 1, by omega, i + 1, by omega, by omega, ?_, by rw [hh, h, prevOf_succ hi]; rfl⟩
      rw [prevOf_succ hi]
      rintro q ⟨⟩
      simp only [okX, decide_eq_true_eq] at h
      omega
    simp only [okX, decide_eq_true_eq] at bad good
    simp [h0, h5, h6, h7, getI hi, hi]
    refine gall_intro fun a ha => ?_
    simp [h0, h5, h6, h7, getI hi, hi]
    refine TWcH.regionD (ρ := []) [0, 1, 2, 3, 4, 5, 6, 7, 8, 9, 10, 11, 12, 13, 14, 15, 16, 17, 18, 19, 20, 21, 22, 23, 24, 25, 26, 27, 28, 29, 30] 31 mixed (by kernel_rfl) ?_
    simp [h0, h5, h6, h7, getI hi, hi, encSp]
    refine gif_intro (fun c1 => ?_) (fun c1 => ?_) <;> simp [h0, h5, h6, h7, getI hi, hi, encSp, c1]
    · exact bad (by omega)
    refine gif_intro (fun c2 => ?_) (fun c2 => ?_) <;> simp [h0, h5, h6, h7, getI hi, hi, encSp, c1, c2]
    · exact bad (by omega)
    refine gif_intro (fun c3 => ?_) (fun c3 => ?_) <;> simp [h0, h5, h6, h7, getI hi, hi, encSp, c1, c2, c3]
    · exact bad (by omega)
    refine gif_intro (fun c4 => ?_) (fun c4 => ?_) <;> simp [h0, h5, h6, h7, getI hi, hi, encSp, c1, c2, c3, c4, hw]
    · have hj : i - 1 < l.length := by omega
      have e : IntKind.i64.wrap ((i : Int) - 1) = ((i - 1 : Nat) : Int) := by rw [wrapi (by omega)]; omega
      have hq := hp _ (prevOf_pos hj c4)
      have e2 : IntKind.i64.wrap (l[i - 1].2 + 1) = l[i - 1].2 + 1 := wrapi (by omega)
      rw [prevOf_pos hj c4] at bad good
      simp [h0, h5, h6, h7, getI hi, getI hj, hi, hj, encSp, c1, c2, c3, c4, e, e2]
      refine gif_intro (fun c5 => ?_) (fun c5 => ?_) <;> simp [h0, h5, h6, h7, getI hi, hi, encSp, c1, c2, c3, c4, c5, hw]
      · exact bad (fun h => by have := h.2.2.2 _ rfl; omega)
      · exact good ⟨by omega, by omega, by omega, fun q hq => by cases hq; omega⟩
    · exact good ⟨by omega, by omega, by omega, fun q hq => by simp [prevOf, c4] at hq⟩
  · rw [drop_all hi] at hh
    simp [h0, h5, h6, h7, hi, hh, setOkP]
theorem tc_iFormed : ∀ (d : Nat) (r : Rex), d ≤ 1000 → Sm r → TC Tryz.prog 105 [.agg (encRex r), .val (.int .i64 d)] [] (.val (.bool (formF d r))) []
  | 0, .mk k s l, hd, hs => by
    refine TC.enter Tryz.func105 rfl (by simp [Tryz.ntmps105]) rfl (tw_sound (ρ := [2]) ?_)
    rw [Tryz.ntmps105]
    simp [encRex]
    refine TWcH.regionD (ρ := [2]) [0, 1, 2, 3, 4, 6, 7, 8, 5, 9, 10, 11, 12, 13, 14, 15, 16, 17, 18, 19, 20, 21, 22, 23, 24, 25, 26, 27] 28 mixed (by kernel_rfl) ?_
    simp [formF]
  | d + 1, .mk k s l, hd, hs => by
    refine TC.enter Tryz.func105 rfl (by simp [Tryz.ntmps105]) rfl (tw_sound (ρ := [2]) ?_)
    rw [Tryz.ntmps105]
    simp [encRex, encRexL_eq]
    refine TWcH.regionD (ρ := [2]) [0, 1, 2, 3, 4, 6, 7, 8, 5, 9, 10, 11, 12, 13, 14, 15, 16, 17, 18, 19, 20, 21, 22, 23, 24, 25, 26, 27] 28 mixed (by kernel_rfl) ?_
    have c1 : ¬ ((d : Int) + 1 < 1) := by omega
    simp [c1]
    refine TWqH.callV (tc_iKidsOf k) callable_162 (by simp [*]) (by simp) (by simp) (by simp [*]) ?_
    simp [c1]
    have bad : headOk k s l = false → formF (d + 1) (.mk k s l) = false := fun h => by simp [formF, h]
    refine gif_intro (fun c2 => ?_) (fun c2 => ?_) <;> simp [c1, c2]
    case refine_2 => exact bad (by simp [headOk, c2])
    have fin : ∀ (Q : Prop), (k = 1 ∨ s.length = 0 → Q) → (¬ (k = 1 ∨ s.length = 0) → Q) → Q := fun Q h h' => (Classical.em _).elim h h'
    refine fin _ (fun c3 => ?_) (fun c3 => ?_)
    · have hX : headOk k s l = setOk s := by
        rw [headOk, show decide (kidsN k = l.length) = true by simp [c2], show (decide (k = 1) || decide (s.length = 0)) = true by rcases c3 with c3 | c3 <;> simp [c3]]
        rfl
      have good : setOk s = true → formF (d + 1) (.mk k s l) = l.all (formF d) := fun h => by rw [formF, hX, h]; rfl
      rcases (show (k = 1 ∨ (¬ k = 1 ∧ ¬ 0 < s.length)) by omega) with c4 | ⟨c4, c5⟩
      · subst c4
        simp [c1, c2]
        refine TWqH.callV (tc_iSetOk s (by have := hs.1; omega)) callable_126 (by simp) (by simp) (by simp) (by simp) ?_
        simp [c1, c2]
        refine gif_intro (fun c6 => ?_) (fun c6 => ?_) <;> simp [c1, c2, c6]
        · refine TWcH.loop [] (fun m s' => ∃ i, i + m = l.length ∧ s'.σ 1 = .val (.int .i64 ((d : Int) + 1)) ∧ s'.σ 36 = .ro (l.map encRex) ∧ s'.σ 37 = .val (.int .i64 l.length) ∧ s'.σ 38 = .val (.int .i64 i) ∧ l.all (formF d) = (l.drop i).all (formF d)) l.length ⟨0, by simp⟩ ?_
          rintro m ⟨σ, H⟩ ⟨i, him, h1, h2, h3, h5, hh⟩
          simp only at h1 h2 h3 h5
          by_cases hi : i < l.length
          · rw [all_drop hi] at hh
            have hw := hw1 hi (by have := hs.2.1; omega)
            have hd1 : IntKind.i64.wrap (d : Int) = d := wrapi (by omega)
            simp [h1, h2, h3, h5, getI hi, hi]
            refine gall_intro fun a ha => ?_
            simp [h1, h2, h3, h5, getI hi, hi]
            refine TWoH.callV (tc_iFormed d l[i] (by omega) (SmL.get hs.2.2 hi)) callable_105 (by simp [hd1, h1, h2, h5]) (by simp) (by simp) (by simp) ?_
            simp [h1, h2, h3, h5, getI hi, hi]
            refine gif_intro (fun c7 => ?_) (fun c7 => ?_) <;> simp [h1, h2, h3, h5, getI hi, hi, c7, hw]
            · exact ⟨m - 1, by omega, i + 1, by omega, by omega, by rw [hh, c7]; rfl⟩
            · rw [good c6, hh, Bool.eq_false_iff.2 c7]; rfl
          · rw [drop_all hi] at hh
            simp [h1, h2, h3, h5, hi, good c6, hh]
        · exact bad (by rw [hX]; simpa using c6)
      · simp [c1, c2, c4, c5]
        refine TWqH.callV (tc_iSetOk s (by have := hs.1; omega)) callable_126 (by simp) (by simp) (by simp) (by simp) ?_
        simp [c1, c2, c4, c5]
        refine gif_intro (fun c6 => ?_) (fun c6 => ?_) <;> simp [c1, c2, c4, c5, c6]
        · refine TWcH.loop [] (fun m s' => ∃ i, i + m = l.length ∧ s'.σ 1 = .val (.int .i64 ((d : Int) + 1)) ∧ s'.σ 36 = .ro (l.map encRex) ∧ s'.σ 37 = .val (.int .i64 l.length) ∧ s'.σ 38 = .val (.int .i64 i) ∧ l.all (formF d) = (l.drop i).all (formF d)) l.length ⟨0, by simp⟩ ?_
          rintro m ⟨σ, H⟩ ⟨i, him, h1, h2, h3, h5, hh⟩
          simp only at h1 h2 h3 h5
          by_cases hi : i < l.length
          · rw [all_drop hi] at hh
            have hw := hw1 hi (by have := hs.2.1; omega)
            have hd1 : IntKind.i64.wrap (d : Int) = d := wrapi (by omega)
            simp [h1, h2, h3, h5, getI hi, hi]
            refine gall_intro fun a ha => ?_
            simp [h1, h2, h3, h5, getI hi, hi]
            refine TWoH.callV (tc_iFormed d l[i] (by omega) (SmL.get hs.2.2 hi)) callable_105 (by simp [hd1, h1, h2, h5]) (by simp) (by simp) (by simp) ?_
            simp [h1, h2, h3, h5, getI hi, hi]
            refine gif_intro (fun c7 => ?_) (fun c7 => ?_) <;> simp [h1, h2, h3, h5, getI hi, hi, c7, hw]
            · exact ⟨m - 1, by omega, i + 1, by omega, by omega, by rw [hh, c7]; rfl⟩
            · rw [good c6, hh, Bool.eq_false_iff.2 c7]; rfl
          · rw [drop_all hi] at hh
            simp [h1, h2, h3, h5, hi, good c6, hh]
        · exact bad (by rw [hX]; simpa using c6)
    · rcases (show (¬ k = 1 ∧ 0 < s.length) by omega) with ⟨c4, c5⟩
      simp [c1, c2, c4, c5]
      exact bad (by simp only [headOk, c4, show ¬ s.length = 0 by omega]; simp)
theorem tc_iMany : ∀ (d : Nat) (r : Rex), d ≤ 8 → Sm r → formF d r = true → TC Tryz.prog 106 [.agg (encRex r)] [] (.val (.int .i64 (manyN r))) []
  | 0, r, hd, hs, hf => by simp [formF] at hf
  | d + 1, .mk k s l, hd, hs, hf => by
    refine TC.enter Tryz.func106 rfl (by simp [Tryz.ntmps106]) rfl (tw_sound (ρ := [1]) ?_)
    rw [Tryz.ntmps106]
    simp [encRex, encRexL_eq]
    have hm := many_le _ _ hf
    have h2d : 2 ^ (d + 1) ≤ 2 ^ 8 := Nat.pow_le_pow_right (by omega) hd
    simp only [manyN] at hm
    refine TWcH.loop [] (fun m s' => ∃ i, i + m = l.length ∧ s'.σ 7 = .ro (l.map encRex) ∧ s'.σ 8 = .val (.int .i64 l.length) ∧ s'.σ 9 = .val (.int .i64 i) ∧ s'.σ 3 = .val (.int .i64 (1 + manyL (l.take i) : Nat))) l.length ⟨0, by simp [manyL]⟩ ?_
    rintro m ⟨σ, H⟩ ⟨i, him, h7, h8, h9, h3⟩
    simp only at h7 h8 h9 h3
    by_cases hi : i < l.length
    · have hw := hw1 hi (by have := hs.2.1; omega)
      have e := manyL_take hi
      have e' : manyL (l.take (i + 1)) ≤ manyL l := by
        have := manyL_append (l.take (i + 1)) (l.drop (i + 1))
        rw [List.take_append_drop] at this
        omega
      have hw2 : IntKind.i64.wrap (1 + (manyL (l.take i) : Int) + manyN l[i]) = 1 + (manyL (l.take i) : Int) + manyN l[i] := wrapi (by omega)
      simp [h7, h8, h9, h3, getI hi, hi]
      refine gall_intro fun a ha => ?_
      simp [h7, h8, h9, h3, getI hi, hi]
      refine TWoH.callV (tc_iMany d l[i] (by omega) (SmL.get hs.2.2 hi) (formF_kid hf hi)) callable_106 (by simp [h7, h8, h9, h3]) (by simp) (by simp) (by simp) ?_
      simp [h7, h8, h9, h3, getI hi, hi, hw, hw2]
      exact ⟨m - 1, by omega, i + 1, by omega, by omega, by rw [e]; simp; omega⟩
    · have e : l.take i = l := List.take_of_length_le (by omega)
      simp [h7, h8, h9, h3, hi, manyN, e]
theorem tc_iRexOk (r : Rex) (hs : Sm r) : TC Tryz.prog 34 [.agg (encRex r)] [] (.val (.bool (rexOk r))) [] := by
  refine TC.enter Tryz.func34 rfl (by simp [Tryz.ntmps34]) rfl (tw_sound (ρ := [1]) ?_)
  rw [Tryz.ntmps34]
  simp
  refine TWoH.callV (tc_iFormed 8 r (by omega) hs) callable_105 (by simp) (by simp) (by simp) (by simp) ?_
  simp
  refine gif_intro (fun c1 => ?_) (fun c1 => ?_) <;> simp [c1]
  · refine TWoH.callV (tc_iMany 8 r (by omega) hs c1) callable_106 (by simp) (by simp) (by simp) (by simp) ?_
    simp [c1, rexOk]
    omega
  · simp [rexOk, c1]
theorem tc_iRulesOk (l : List Rule) (hs : RSm l) : TC Tryz.prog 62 [.ro (l.map encRule)] [] (.val (.bool (rulesOk l))) [] := by
  refine TC.enter Tryz.func62 rfl (by simp [Tryz.ntmps62]) rfl (tw_sound (ρ := []) ?_)
  rw [Tryz.ntmps62]
  simp
  refine TWoH.callV (tc_in l.length 1 5) callable_96 (by simp) (by simp) (by simp) (by simp) ?_
  simp
  refine gif_intro (fun c1 => ?_) (fun c1 => ?_) <;> simp [c1]
  · simp [rulesOk]; omega
  have hr : rulesOk l = okFrom l 0 := by rw [rulesOk, show decide (1 ≤ l.length ∧ l.length ≤ 5) = true by simp; omega]; rfl
  refine TWcH.loop [] (fun m s => ∃ i, i + m = l.length ∧ s.σ 0 = .ro (l.map encRule) ∧ s.σ 11 = .ro (l.map encRule) ∧ s.σ 12 = .val (.int .i64 l.length) ∧ s.σ 13 = .val (.int .i64 i) ∧ okFrom l 0 = okFrom l i) l.length ⟨0, by simp⟩ ?_
  rintro m ⟨σ, H⟩ ⟨i, him, h0, h11, h12, h13, hh⟩
  simp only at h0 h11 h12 h13
  by_cases hi : i < l.length
  · rw [okFrom_next hi] at hh
    have hw := hw1 hi (by have := hs.1; omega)
    have hsi := hs.2 _ (List.getElem_mem hi)
    have ha : ruleAt l i = (wordOk l[i].name && rexOk l[i].rex && newN l i 0) := by simp [ruleAt, getI hi]
    have hni : nm l i = l[i].name := by simp [nm, getI hi]
    have hil : (i : Int) ≤ l.length := by omega
    simp [h0, h11, h12, h13, getI hi, hi]
    refine gall_intro fun a ha' => ?_
    simp [h0, h11, h12, h13, getI hi, hi, encRule]
    refine TWoH.callV (tc_iRuleWord l[i].name (by omega)) callable_129 (by simp [h0]) (by simp) (by simp) (by simp) ?_
    simp [h0, h11, h12, h13, getI hi, hi, encRule]
    refine gif_intro (fun c3 => ?_) (fun c3 => ?_) <;> simp [h0, h11, h12, h13, getI hi, hi, encRule, c3]
    case refine_2 => rw [hr, hh, ha, Bool.eq_false_iff.2 c3]; rfl
    refine TWoH.callV (tc_iRexOk l[i].rex hsi.1) callable_34 (by simp [h0]) (by simp) (by simp) (by simp) ?_
    simp [h0, h11, h12, h13, getI hi, hi, encRule]
    refine gif_intro (fun c4 => ?_) (fun c4 => ?_) <;> simp [h0, h11, h12, h13, getI hi, hi, hil, encRule, c3, c4]
    case refine_2 => rw [hr, hh, ha, Bool.eq_false_iff.2 c4]; simp
    rw [c3, c4] at ha
    refine TWcH.loop [] (fun m' s => ∃ k, k + m' = i ∧ s.σ 0 = .ro (l.map encRule) ∧ s.σ 4 = .pd a 0 0 0 ∧ s.σ 11 = .ro (l.map encRule) ∧ s.σ 12 = .val (.int .i64 l.length) ∧ s.σ 13 = .val (.int .i64 i) ∧ s.σ 30 = .ro ((l.take i).map encRule) ∧ s.σ 31 = .val (.int .i64 i) ∧ s.σ 32 = .val (.int .i64 k) ∧ s.H a = some (.box 41 (encRule l[i])) ∧ newN l i 0 = newN l i k) i ⟨0, by simp [h0, h11, h12, h13, encRule, Nat.min_eq_left (Nat.le_of_lt hi)]⟩ ?_
    rintro m' ⟨σ, H⟩ ⟨k, hkm, g0, g4, g11, g12, g13, g30, g31, g32, gH, gg⟩
    simp only at g0 g4 g11 g12 g13 g30 g31 g32 gH
    by_cases hk : k < i
    · have hkl : k < l.length := by omega
      have hwk := hw1 hkl (by have := hs.1; omega)
      have hnk : nm l k = l[k].name := by simp [nm, getI hkl]
      rw [newN_next hk, hnk, hni] at gg
      simp [g0, g4, g11, g12, g13, g30, g31, g32, gH, hk, hkl]
      refine gall_intro fun b hb => ?_
      have hba : ¬ b = a := fun e => by simp [e, gH] at hb
      have hab : ¬ a = b := fun e => hba e.symm
      simp [g0, g4, g11, g12, g13, g30, g31, g32, gH, hk, hkl, hba, hab, encRule]
      refine gif_intro (fun c5 => ?_) (fun c5 => ?_) <;> simp [g0, g4, g11, g12, g13, g30, g31, g32, gH, hk, hkl, hba, hab, encRule, c5, hwk]
      · rw [hr, hh, ha, gg]; simp [c5]
      · exact ⟨m' - 1, by omega, k + 1, by omega, by omega, by rw [gg]; simp [Ne.symm c5]⟩
    · have hk' : ¬ ((k : Int) < i) := by omega
      simp [g0, g4, g11, g12, g13, g30, g31, g32, gH, hk, hw]
      exact ⟨m - 1, by omega, i + 1, by omega, by omega, by rw [hh, ha, gg, newN_end hk]; rfl⟩
  · simp [h0, h11, h12, h13, hi]
    rw [hr, hh, okFrom_end hi]
end Go.Proofs.YtdomnlnanbekaaaGreatDoor.R

open Go Go.Proofs.YtdomnlnanbekaaaGreatDoor.T
namespace Go.Proofs.YtdomnlnanbekaaaGreatDoor.R
def rv (f : List UInt8 → Bool) (t : List UInt8) (k : Nat) : Bool := (reachL f t k).getD k false
theorem reachL_at (f : List UInt8 → Bool) (t : List UInt8) : ∀ (n j : Nat), j ≤ n → (reachL f t n).getD j false = rv f t j
  | 0, j, h => by obtain rfl : j = 0 := by omega
                  rfl
  | n + 1, j, h => by
    by_cases hj : j = n + 1
    · subst hj; rfl
    · rw [reachL, List.getD_eq_getElem?_getD, List.getElem?_append_left (by rw [reachL_len]; omega), ← List.getD_eq_getElem?_getD]
      exact reachL_at f t n j (by omega)
theorem rv_succ (f : List UInt8 → Bool) (t : List UInt8) (k : Nat) : rv f t (k + 1) = (List.range (k + 1)).any fun j => rv f t j && f ((t.take (k + 1)).drop j) := by
  unfold rv
  rw [reachL, List.getD_eq_getElem?_getD, List.getElem?_append_right (by rw [reachL_len]; omega), reachL_len]
  simp only [Nat.sub_self, List.getElem?_cons_zero, Option.getD_some, anyF]
  rw [Bool.eq_iff_iff, List.any_eq_true, List.any_eq_true]
  constructor
  · rintro ⟨j, hj, h⟩
    have := List.mem_range.1 hj
    exact ⟨j, hj, by rw [reachL_at f t k j (by omega)] at h; exact h⟩
  · rintro ⟨j, hj, h⟩
    have := List.mem_range.1 hj
    exact ⟨j, hj, by rw [reachL_at f t k j (by omega)]; exact h⟩
def StP (f : List UInt8 → Bool) (p : List UInt8) : Prop := ∃ parts : List (List UInt8), (∀ a ∈ parts, a ≠ [] ∧ f a = true) ∧ parts.flatten = p
theorem rv_iff (f : List UInt8 → Bool) (t : List UInt8) : ∀ (k : Nat), k ≤ t.length → (rv f t k = true ↔ StP f (t.take k)) := by
  intro k
  induction k using Nat.strongRecOn with
  | _ k ih =>
    intro hk
    cases k with
    | zero => exact ⟨fun _ => ⟨[], by simp, by simp⟩, fun _ => rfl⟩
    | succ k =>
      rw [rv_succ, List.any_eq_true]
      constructor
      · rintro ⟨j, hj, h⟩
        have hj := List.mem_range.1 hj
        simp only [Bool.and_eq_true] at h
        obtain ⟨parts, h1, h2⟩ := (ih j hj (by omega)).1 h.1
        refine ⟨parts ++ [(t.take (k + 1)).drop j], fun a ha => ?_, ?_⟩
        · rcases List.mem_append.1 ha with ha | ha
          · exact h1 a ha
          · rw [List.mem_singleton] at ha
            subst ha
            refine ⟨fun e => ?_, h.2⟩
            have := congrArg List.length e
            simp at this
            omega
        · rw [List.flatten_append, h2, List.flatten_cons, List.flatten_nil, List.append_nil]
          have : t.take j = (t.take (k + 1)).take j := by rw [List.take_take]; congr 1; omega
          rw [this, List.take_append_drop]
      · rintro ⟨parts, h1, h2⟩
        rcases List.eq_nil_or_concat parts with rfl | ⟨init, a, rfl⟩
        · have := congrArg List.length h2
          simp at this
          omega
        · rw [List.concat_eq_append] at h1 h2
          have ha := h1 a (by simp)
          rw [List.flatten_append, List.flatten_cons, List.flatten_nil, List.append_nil] at h2
          have hl := congrArg List.length h2
          rw [List.length_append, List.length_take] at hl
          have hal : 0 < a.length := List.length_pos_iff.2 ha.1
          have hj : init.flatten.length < k + 1 := by omega
          refine ⟨init.flatten.length, List.mem_range.2 hj, ?_⟩
          rw [Bool.and_eq_true]
          constructor
          · refine (ih _ hj (by omega)).2 ⟨init, fun b hb => h1 b (by simp [hb]), ?_⟩
            have : t.take init.flatten.length = (t.take (k + 1)).take init.flatten.length := by rw [List.take_take]; congr 1; omega
            rw [this, ← h2, List.take_left']
            rfl
          · rw [← h2, List.drop_left' rfl]; exact ha.2
theorem starF_iff (f : List UInt8 → Bool) (t : List UInt8) : starF f t = true ↔ StP f t := by
  have := rv_iff f t t.length (Nat.le_refl _)
  rwa [List.take_length] at this
theorem starF_first (f : List UInt8 → Bool) (p : List UInt8) : starF f p = (decide (p.length = 0) || (List.range p.length).any fun x => f (p.take (x + 1)) && starF f (p.drop (x + 1))) := by
  rw [Bool.eq_iff_iff, starF_iff, Bool.or_eq_true, decide_eq_true_eq, List.any_eq_true]
  constructor
  · rintro ⟨parts, h1, h2⟩
    cases parts with
    | nil => left; rw [← h2]; rfl
    | cons a rest =>
      right
      have ha := h1 a (by simp)
      have hal : 0 < a.length := List.length_pos_iff.2 ha.1
      rw [List.flatten_cons] at h2
      have hl := congrArg List.length h2
      rw [List.length_append] at hl
      refine ⟨a.length - 1, List.mem_range.2 (by omega), ?_⟩
      rw [show a.length - 1 + 1 = a.length by omega, Bool.and_eq_true, ← h2, List.take_left' rfl, List.drop_left' rfl, starF_iff]
      exact ⟨ha.2, rest, fun b hb => h1 b (by simp [hb]), rfl⟩
  · rintro (h | ⟨x, hx, h⟩)
    · exact ⟨[], by simp, by rw [List.length_eq_zero_iff] at h; rw [h]; rfl⟩
    · have hx := List.mem_range.1 hx
      rw [Bool.and_eq_true, starF_iff] at h
      obtain ⟨h0, parts, h1, h2⟩ := h
      refine ⟨p.take (x + 1) :: parts, fun a ha => ?_, by rw [List.flatten_cons, h2, List.take_append_drop]⟩
      rcases List.mem_cons.1 ha with rfl | ha
      · refine ⟨fun e => ?_, h0⟩
        have := congrArg List.length e
        rw [List.length_take, List.length_nil] at this
        omega
      · exact h1 a ha
end Go.Proofs.YtdomnlnanbekaaaGreatDoor.R

open Go Go.Proofs.YtdomnlnanbekaaaGreatDoor.T
namespace Go.Proofs.YtdomnlnanbekaaaGreatDoor.R
set_option linter.unusedSimpArgs false
set_option linter.unusedVariables false
/-- A table of thirteen rows of thirteen answers. -/
def tabL (T : Nat → Nat → Bool) : List TV := (List.range 169).map fun x => .val (.bool (T (x / 13) (x % 13)))
@[simp] theorem len_tab (T : Nat → Nat → Bool) : (tabL T).length = 169 := by simp [tabL]
@[simp] theorem plain_tab (T : Nat → Nat → Bool) : (tabL T).all TV.plain = true := by simp [tabL]
@[simp] theorem pc_tab (T : Nat → Nat → Bool) : (tabL T).all TV.pc = true := by simp [tabL]
theorem noHL_vals : ∀ (l : List TV), (∀ t ∈ l, ∃ v, t = .val (.bool v)) → noHL l = true
  | [], _ => by simp
  | t :: l, h => by
    obtain ⟨v, rfl⟩ := h t (by simp)
    simp [noHL_vals l fun t ht => h t (by simp [ht])]
theorem vals_tab {T : Nat → Nat → Bool} : ∀ t ∈ tabL T, ∃ v, t = .val (.bool v) := by
  intro t ht; simp only [tabL, List.mem_map] at ht; obtain ⟨x, _, rfl⟩ := ht; exact ⟨_, rfl⟩
@[simp] theorem noH_tab (T : Nat → Nat → Bool) : noHL (tabL T) = true := noHL_vals _ vals_tab
theorem closeL_vals {H : Nat → Option TV} : ∀ (l : List TV), (∀ t ∈ l, ∃ v, t = .val (.bool v)) → closeL H l = some (l, H)
  | [], _ => by simp
  | t :: l, h => by
    obtain ⟨v, rfl⟩ := h t (by simp)
    simp [closeL_vals l fun t ht => h t (by simp [ht])]
@[simp] theorem closeL_tab {H : Nat → Option TV} (T : Nat → Nat → Bool) : closeL H (tabL T) = some (tabL T, H) := closeL_vals _ vals_tab
theorem opnL_vals {k : Nat} : ∀ (l : List TV), (∀ t ∈ l, ∃ v, t = .val (.bool v)) → opnL k l = (l, [])
  | [], _ => by simp
  | t :: l, h => by
    obtain ⟨v, rfl⟩ := h t (by simp)
    simp [opnL_vals l fun t ht => h t (by simp [ht])]
@[simp] theorem opnL_tab {k : Nat} (T : Nat → Nat → Bool) : opnL k (tabL T) = (tabL T, []) := opnL_vals _ vals_tab
@[simp] theorem take_tab (T : Nat → Nat → Bool) : (tabL T).take 169 = tabL T := List.take_of_length_le (by simp)
@[simp] theorem drop_tab (T : Nat → Nat → Bool) : (tabL T).drop 169 = [] := List.drop_eq_nil_of_le (by simp)
theorem get_tab {T : Nat → Nat → Bool} {i j : Nat} (hi : i < 13) (hj : j < 13) : (tabL T)[i * 13 + j]? = some (.val (.bool (T i j))) := by
  have h1 : (i * 13 + j) / 13 = i := by omega
  have h2 : (i * 13 + j) % 13 = j := by omega
  simp [tabL, List.getElem?_range (show i * 13 + j < 169 by omega), h1, h2]
theorem cut_tab {T : Nat → Nat → Bool} {i j : Nat} (hi : i < 13) (hj : j < 13) : ((tabL T).drop (i * 13 + j)).take 1 = [.val (.bool (T i j))] := by
  have h := get_tab (T := T) hi hj
  have hl : i * 13 + j < (tabL T).length := by simp; omega
  rw [List.drop_eq_getElem_cons hl]
  rw [List.getElem?_eq_getElem hl] at h
  rw [List.take_succ_cons, List.take_zero, Option.some.inj h]
def updT (T : Nat → Nat → Bool) (i j : Nat) (b : Bool) : Nat → Nat → Bool := fun x y => if x = i ∧ y = j then b else T x y
theorem set_tab {T : Nat → Nat → Bool} {i j : Nat} (hi : i < 13) (hj : j < 13) (b : Bool) : (tabL T).take (i * 13 + j) ++ .val (.bool b) :: (tabL T).drop (i * 13 + j + 1) = tabL (updT T i j b) := by
  apply List.ext_getElem?
  intro x
  by_cases hx : x < 169
  · have ex : (tabL (updT T i j b))[x]? = some (.val (.bool (updT T i j b (x / 13) (x % 13)))) := by
      simp [tabL, List.getElem?_range hx]
    have et : (tabL T)[x]? = some (.val (.bool (T (x / 13) (x % 13)))) := by
      simp [tabL, List.getElem?_range hx]
    rw [ex]
    rcases Nat.lt_trichotomy x (i * 13 + j) with h | h | h
    · rw [List.getElem?_append_left (by simp; omega), List.getElem?_take_of_lt h, et]
      have : ¬ (x / 13 = i ∧ x % 13 = j) := by omega
      simp [updT, this]
    · subst h
      rw [List.getElem?_append_right (by simp; omega)]
      have h1 : (i * 13 + j) / 13 = i := by omega
      have h2 : (i * 13 + j) % 13 = j := by omega
      have h3 : i * 13 + j - ((tabL T).take (i * 13 + j)).length = 0 := by simp; omega
      rw [h3]; simp [updT, h1, h2]
    · rw [List.getElem?_append_right (by simp; omega)]
      have h3 : x - ((tabL T).take (i * 13 + j)).length = (x - (i * 13 + j + 1)) + 1 := by simp; omega
      rw [h3, List.getElem?_cons_succ, List.getElem?_drop, show i * 13 + j + 1 + (x - (i * 13 + j + 1)) = x by omega, et]
      have : ¬ (x / 13 = i ∧ x % 13 = j) := by omega
      simp [updT, this]
  · rw [List.getElem?_eq_none (by simp; omega), List.getElem?_eq_none (by simp; omega)]
theorem zero_tab : List.replicate 169 (TV.val (.bool false)) = tabL fun _ _ => false := by
  apply List.ext_getElem?
  intro x
  by_cases hx : x < 169
  · rw [List.getElem?_replicate, if_pos hx]
    simp only [tabL, List.getElem?_map, List.getElem?_range hx]
    rfl
  · rw [List.getElem?_eq_none (by rw [List.length_replicate]; omega), List.getElem?_eq_none (by simp; omega)]
theorem zero_tab2 : List.replicate 338 (TV.val (.bool false)) = tabL (fun _ _ => false) ++ tabL fun _ _ => false := by
  rw [← zero_tab, List.replicate_append_replicate]
theorem tab_congr {T T' : Nat → Nat → Bool} (h : ∀ i j, i < 13 → j < 13 → T i j = T' i j) : tabL T = tabL T' := by
  unfold tabL
  apply List.map_congr_left
  intro x hx
  rw [h _ _ (by have := List.mem_range.1 hx; omega) (by omega)]
@[simp high] theorem zeroT_102' : zeroT Tryz.prog 102 = some (tabL fun _ _ => false) := by rw [← zero_tab]; exact zeroT_102
@[simp high] theorem zeroT_157' : zeroT Tryz.prog 157 = some (tabL (fun _ _ => false) ++ tabL fun _ _ => false) := by rw [← zero_tab2]; exact zeroT_157
@[simp] theorem pc_tab2 (A B : Nat → Nat → Bool) : (tabL A ++ tabL B).all TV.pc = true := by rw [List.all_append, pc_tab, pc_tab]; rfl
@[simp] theorem plain_tab2 (A B : Nat → Nat → Bool) : (tabL A ++ tabL B).all TV.plain = true := by rw [List.all_append, plain_tab, plain_tab]; rfl
theorem two_fst (A B : Nat → Nat → Bool) : (tabL A ++ tabL B).take 169 = tabL A := by rw [List.take_append_of_le_length (by simp), take_tab]
theorem two_snd (A B : Nat → Nat → Bool) : ((tabL A ++ tabL B).drop 169).take 169 = tabL B := by
  rw [List.drop_append_of_le_length (by simp), List.drop_eq_nil_of_le (by simp), List.nil_append, take_tab]
theorem two_set0 (A B X : Nat → Nat → Bool) : tabL X ++ (tabL A ++ tabL B).drop 169 = tabL X ++ tabL B := by
  rw [List.drop_append_of_le_length (by simp), List.drop_eq_nil_of_le (by simp), List.nil_append]
theorem two_set1 (A B X : Nat → Nat → Bool) : (tabL A ++ tabL B).take 169 ++ (tabL X ++ (tabL A ++ tabL B).drop 338) = tabL A ++ tabL X := by
  rw [two_fst, List.drop_eq_nil_of_le (by simp), List.append_nil]
/-- Plain law: the first piece of any number of such. -/
def piece (t : List UInt8) (i j : Nat) : List UInt8 := (t.take j).drop i
def tabF (f : List UInt8 → Bool) (t : List UInt8) (i j : Nat) : Bool := decide (i ≤ j ∧ j ≤ t.length) && f (piece t i j)
end Go.Proofs.YtdomnlnanbekaaaGreatDoor.R

open Go Go.Proofs.YtdomnlnanbekaaaGreatDoor.T
namespace Go.Proofs.YtdomnlnanbekaaaGreatDoor.R
set_option maxHeartbeats 4000000
set_option maxRecDepth 100000
set_option linter.unusedSimpArgs false
set_option linter.unusedVariables false
theorem ne_some {H : Nat → Option TV} {i j : Nat} (h : (H i).isSome = true) (h' : H j = none) : ¬ i = j := fun e => by rw [e, h'] at h; cases h
def tabS (G : List UInt8 → Bool) (t : List UInt8) (q i0 : Nat) (x y : Nat) : Bool := decide (x ≤ y ∧ y ≤ t.length ∧ (y - x < q ∨ (y - x = q ∧ x < i0))) && G (piece t x y)
def noT : Nat → Nat → Bool := fun _ _ => false
theorem tabS_zero {G : List UInt8 → Bool} {t : List UInt8} : tabL (fun _ _ => false) = tabL (tabS G t 0 0) := tab_congr fun i j _ _ => by simp [tabS]
theorem tabS_next {G : List UInt8 → Bool} {t : List UInt8} {q i : Nat} (h : t.length < i + q) : tabL (tabS G t q i) = tabL (tabS G t (q + 1) 0) := tab_congr fun x y _ _ => by
  unfold tabS
  congr 1
  rw [decide_eq_decide]; omega
theorem tabS_all {G : List UInt8 → Bool} {t : List UInt8} {q : Nat} (h : t.length < q) : tabL (tabS G t q 0) = tabL (tabF G t) := tab_congr fun x y _ _ => by
  unfold tabS tabF
  congr 1
  rw [decide_eq_decide]; omega
theorem tabS_set {G : List UInt8 → Bool} {t : List UInt8} {q i : Nat} (h : i + q ≤ t.length) : updT (tabS G t q i) i (i + q) (G (piece t i (i + q))) = tabS G t q (i + 1) := by
  funext x y
  unfold updT
  by_cases e : x = i ∧ y = i + q
  · obtain ⟨rfl, rfl⟩ := e
    rw [if_pos ⟨rfl, rfl⟩, tabS, show decide _ = true from decide_eq_true (by omega)]; rfl
  · rw [if_neg e]
    unfold tabS
    congr 1
    rw [decide_eq_decide]; omega
theorem tabF_at {f : List UInt8 → Bool} {t : List UInt8} {i j : Nat} (h : i ≤ j) (h' : j ≤ t.length) : tabF f t i j = f (piece t i j) := by simp [tabF, h, h']
theorem tabS_at {G : List UInt8 → Bool} {t : List UInt8} {q i x y : Nat} (h : x ≤ y) (h' : y ≤ t.length) (h2 : y - x < q) : tabS G t q i x y = G (piece t x y) := by simp [tabS, h, h', h2]
def catP (fa fb : List UInt8 → Bool) (t : List UInt8) (i q o : Nat) : Bool := (List.range o).any fun x => fa (piece t i (i + x)) && fb (piece t (i + x) (i + q))
theorem catP_succ {fa fb : List UInt8 → Bool} {t : List UInt8} {i q o : Nat} : catP fa fb t i q (o + 1) = (catP fa fb t i q o || (fa (piece t i (i + o)) && fb (piece t (i + o) (i + q)))) := by
  simp [catP, List.range_succ]
theorem piece_take {t : List UInt8} {i q x : Nat} (h : x ≤ q) : (piece t i (i + q)).take x = piece t i (i + x) := by
  simp only [piece, List.drop_take, List.take_take]
  congr 1; omega
theorem piece_drop {t : List UInt8} {i q x : Nat} : (piece t i (i + q)).drop x = piece t (i + x) (i + q) := by
  simp only [piece, List.drop_drop]
theorem catP_all {fa fb : List UInt8 → Bool} {t : List UInt8} {i q : Nat} (h : i + q ≤ t.length) : catP fa fb t i q (q + 1) = catF fa fb (piece t i (i + q)) 0 := by
  have hl : (piece t i (i + q)).length = q := by simp [piece]; omega
  unfold catP catF
  rw [hl, Nat.sub_zero, ← List.range_eq_range']
  rw [Bool.eq_iff_iff, List.any_eq_true, List.any_eq_true]
  constructor
  · rintro ⟨x, hx, h1⟩
    have := List.mem_range.1 hx
    exact ⟨x, hx, by rw [piece_take (by omega), piece_drop]; exact h1⟩
  · rintro ⟨x, hx, h1⟩
    have := List.mem_range.1 hx
    exact ⟨x, hx, by rw [piece_take (by omega), piece_drop] at h1; exact h1⟩
def starP (f : List UInt8 → Bool) (t : List UInt8) (i q o : Nat) : Bool := decide (q = 0) || (List.range o).any fun x => f (piece t i (i + 1 + x)) && starF f (piece t (i + 1 + x) (i + q))
theorem starP_succ {f : List UInt8 → Bool} {t : List UInt8} {i q o : Nat} : starP f t i q (o + 1) = (starP f t i q o || (f (piece t i (i + 1 + o)) && starF f (piece t (i + 1 + o) (i + q)))) := by
  simp [starP, List.range_succ, Bool.or_assoc]
theorem starP_all {f : List UInt8 → Bool} {t : List UInt8} {i q : Nat} (h : i + q ≤ t.length) : starP f t i q q = starF f (piece t i (i + q)) := by
  have hl : (piece t i (i + q)).length = q := by simp [piece]; omega
  rw [starF_first, hl]
  unfold starP
  congr 1
  rw [Bool.eq_iff_iff, List.any_eq_true, List.any_eq_true]
  constructor
  · rintro ⟨x, hx, h1⟩
    have := List.mem_range.1 hx
    exact ⟨x, hx, by rw [piece_take (by omega), piece_drop, show i + (x + 1) = i + 1 + x by omega]; exact h1⟩
  · rintro ⟨x, hx, h1⟩
    have := List.mem_range.1 hx
    exact ⟨x, hx, by rw [piece_take (by omega), piece_drop, show i + (x + 1) = i + 1 + x by omega] at h1; exact h1⟩
theorem tc_pieces : ∀ (d : Nat) (r : Rex) (t : List UInt8), Sm r → formF d r = true → t.length ≤ 12 → TC Tryz.prog 78 [.agg (encRex r), .val (.string (bs t))] [] (.agg (tabL (tabF (isF d r) t))) []
  | 0, r, t, hs, hf, ht => by simp [formF] at hf
  | d + 1, .mk k s l, t, hs, hf, ht => by
    refine TC.enter Tryz.func78 rfl (by simp [Tryz.ntmps78]) rfl (tw_sound (ρ := [2]) ?_)
    rw [Tryz.ntmps78]
    simp [encRex, encRexL_eq]
    refine gall_intro fun a ha => ?_
    simp
    refine gall_intro fun c hc => ?_
    have hca : ¬ c = a := fun e => by simp [e] at hc
    have hac : ¬ a = c := fun e => hca e.symm
    simp [hca, hac]
    have hlen : l.length ≤ 2 := by rcases form_kids hf with ⟨_, rfl⟩ | ⟨_, _, rfl, _⟩ | ⟨_, _, _, rfl, _⟩ <;> simp
    refine TWcH.loop [] (fun m s' => ∃ i, i + m = l.length ∧ s'.σ 1 = .val (.string (bs t)) ∧ s'.σ 2 = .rptr [.val (.int .i64 k), .ro (s.map encSp), .ro (l.map encRex)] 0 ∧ s'.σ 4 = .pd a 0 0 0 ∧ s'.σ 5 = .pd c 0 0 0 ∧ s'.σ 19 = .ro (l.map encRex) ∧ s'.σ 20 = .val (.int .i64 l.length) ∧ s'.σ 21 = .val (.int .i64 i) ∧ s'.H a = some (.box 102 (tabL noT)) ∧
      ∃ A B, s'.H c = some (.box 157 (tabL A ++ tabL B)) ∧ (∀ x, l[0]? = some x → 0 < i → A = tabF (isF d x) t) ∧ (∀ x, l[1]? = some x → 1 < i → B = tabF (isF d x) t)) l.length ⟨0, by simp [hac]; exact ⟨rfl, _, _, rfl⟩⟩ ?_
    rintro m ⟨σ, H⟩ ⟨i, him, h1, h2, h4, h5, h19, h20, h21, hA, A, B, hC, hfA, hfB⟩
    simp only at h1 h2 h4 h5 h19 h20 h21 hA hC
    by_cases hi : i < l.length
    · have hw := hw1 hi (by omega)
      simp [h1, h2, h4, h5, h19, h20, h21, getI hi, hi]
      refine gall_intro fun b hb => ?_
      have hbc : ¬ c = b := fun e => by simp [← e, hC] at hb
      have hba : ¬ a = b := fun e => by simp [← e, hA] at hb
      have hcb : ¬ b = c := fun e => hbc e.symm
      simp [h1, h2, h4, h5, h19, h20, h21, getI hi, hi]
      refine TWoH.callV (tc_pieces d l[i] t (SmL.get hs.2.2 hi) (formF_kid hf hi) ht) callable_78 (by simp [h1]) (by simp) (by simp) (by simp) ?_
      rcases (show i = 0 ∨ i = 1 by omega) with rfl | rfl
      · simp [h1, h2, h4, h5, h19, h20, h21, hi, hC, hbc, hba, hcb, two_set0]
        exact ⟨m - 1, by omega, 1, by omega, by rw [wrapi (by omega)]; rfl, by rw [if_neg hac]; exact hA, _, B, rfl, fun _ => rfl, fun x _ h => by omega⟩
      · simp [h1, h2, h4, h5, h19, h20, h21, hi, hC, hbc, hba, hcb]
        exact ⟨m - 1, by omega, 2, by omega, by rw [wrapi (by omega)]; rfl, by rw [if_neg hac]; exact hA, A, tabF (isF d l[1]) t, by rw [List.drop_eq_nil_of_le (by simp), List.append_nil], fun x hx _ => hfA x hx (by omega), fun _ => rfl⟩
    · obtain rfl : i = l.length := by omega
      simp [h1, h2, h4, h5, h19, h20, h21]
      refine TWcH.midB (ρ := []) (fun s' => ∃ x y, s'.σ 1 = .val (.string (bs t)) ∧ s'.σ 2 = .rptr [.val (.int .i64 k), .ro (s.map encSp), .ro (l.map encRex)] 0 ∧ s'.σ 4 = .pd a 0 0 0 ∧ s'.σ 8 = .pd x 0 0 0 ∧ s'.σ 9 = .pd y 0 0 0 ∧ s'.H a = some (.box 102 (tabL noT)) ∧ s'.H x = some (.box 102 (tabL A)) ∧ s'.H y = some (.box 102 (tabL B)))
        (.first 0 (.first 2 (.pick 1 (.pick 3 (.pick 4 (.pick 5 (.pick 6 (.pick 7 .fin .fin) .fin) .fin) (.pick 5 (.pick 4 (.pick 6 (.pick 7 .fin .fin) .fin) .fin) .fin)) (.pick 4 (.pick 3 (.pick 5 (.pick 6 (.pick 7 .fin .fin) .fin) .fin) (.pick 5 (.pick 3 (.pick 6 (.pick 7 .fin .fin) .fin) (.pick 6 (.pick 3 (.pick 7 .fin .fin) .fin) .fin)) .fin)) (.pick 5 (.pick 3 (.pick 4 (.pick 6 (.pick 7 .fin .fin) .fin) .fin) (.pick 4 (.pick 3 (.pick 6 (.pick 7 .fin .fin) .fin) (.pick 6 (.pick 3 (.pick 7 .fin .fin) .fin) .fin)) .fin)) .fin))) (.pick 3 (.pick 1 (.pick 4 (.pick 5 (.pick 6 (.pick 7 .fin .fin) .fin) .fin) (.pick 5 (.pick 4 (.pick 6 (.pick 7 .fin .fin) .fin) .fin) .fin)) (.pick 4 (.pick 1 (.pick 5 (.pick 6 (.pick 7 .fin .fin) .fin) .fin) (.pick 5 (.pick 1 (.pick 6 (.pick 7 .fin .fin) .fin) .fin) .fin)) (.pick 5 (.pick 1 (.pick 4 (.pick 6 (.pick 7 .fin .fin) .fin) .fin) (.pick 4 (.pick 1 (.pick 6 (.pick 7 .fin .fin) .fin) .fin) .fin)) .fin))) (.pick 4 (.pick 1 (.pick 3 (.pick 5 (.pick 6 (.pick 7 .fin .fin) .fin) .fin) (.pick 5 (.pick 3 (.pick 6 (.pick 7 .fin .fin) .fin) (.pick 6 (.pick 3 (.pick 7 .fin .fin) .fin) .fin)) .fin)) (.pick 3 (.pick 1 (.pick 5 (.pick 6 (.pick 7 .fin .fin) .fin) .fin) (.pick 5 (.pick 1 (.pick 6 (.pick 7 .fin .fin) .fin) .fin) .fin)) (.pick 5 (.pick 1 (.pick 3 (.pick 6 (.pick 7 .fin .fin) .fin) (.pick 6 (.pick 3 (.pick 7 .fin .fin) .fin) .fin)) (.pick 3 (.pick 1 (.pick 6 (.pick 7 .fin .fin) .fin) .fin) .fin)) .fin))) (.pick 5 (.pick 1 (.pick 3 (.pick 4 (.pick 6 (.pick 7 .fin .fin) .fin) .fin) (.pick 4 (.pick 3 (.pick 6 (.pick 7 .fin .fin) .fin) (.pick 6 (.pick 3 (.pick 7 .fin .fin) .fin) .fin)) .fin)) (.pick 3 (.pick 1 (.pick 4 (.pick 6 (.pick 7 .fin .fin) .fin) .fin) (.pick 4 (.pick 1 (.pick 6 (.pick 7 .fin .fin) .fin) .fin) .fin)) (.pick 4 (.pick 1 (.pick 3 (.pick 6 (.pick 7 .fin .fin) .fin) (.pick 6 (.pick 3 (.pick 7 .fin .fin) .fin) .fin)) (.pick 3 (.pick 1 (.pick 6 (.pick 7 .fin .fin) .fin) .fin) .fin)) .fin))) .fin)))))) mixed (by kernel_rfl) ?_ ?_
      · simp [h1, h2, h4, h5, hA, hC, two_fst]
        repeat' (refine And.intro ?_ ?_)
        all_goals
          refine gall_intro fun x hx => ?_
          have n1 : ¬ c = x := ne_some (by simp [hC]) hx
          have n2 : ¬ a = x := ne_some (by simp [hA]) hx
          have n1' : ¬ x = c := fun e => n1 e.symm
          have n2' : ¬ x = a := fun e => n2 e.symm
          simp [h1, h2, h4, h5, hA, hC, two_fst, two_snd, n1, n1', n2, n2']
          repeat' (refine And.intro ?_ ?_)
        all_goals
          refine gall_intro fun y hy => ?_
          have m0 : ¬ x = y := ne_some (by simp [hC]) hy
          have m0' : ¬ y = x := fun e => m0 e.symm
          have m1 : ¬ c = y := ne_some (by simp [hC, n1, n1']) hy
          have m2 : ¬ a = y := ne_some (by simp [hA, n2, n2']) hy
          have m1' : ¬ y = c := fun e => m1 e.symm
          have m2' : ¬ y = a := fun e => m2 e.symm
          simp [h1, h2, h4, h5, hA, hC, two_fst, two_snd, n1, n1', n2, n2', m0, m0', m1, m1', m2, m2']
      · rintro ⟨σ, H⟩ ⟨x, y, h1, h2, h4, h8, h9, hA, hx, hy⟩
        simp only at h1 h2 h4 h8 h9 hA hx hy
        simp [h1]
        refine gall_intro fun z hz => ?_
        have nx : ¬ x = z := ne_some (by simp [hx]) hz
        have ny : ¬ y = z := ne_some (by simp [hy]) hz
        have na : ¬ a = z := ne_some (by simp [hA]) hz
        have nx' : ¬ z = x := fun e => nx e.symm
        have ny' : ¬ z = y := fun e => ny e.symm
        have na' : ¬ z = a := fun e => na e.symm
        simp [h1, h2, h4, h8, h9]
        refine TWcH.loop [] (fun m s' => ∃ q, q + m = t.length + 1 ∧ s'.σ 1 = .val (.string (bs t)) ∧ s'.σ 2 = .rptr [.val (.int .i64 k), .ro (s.map encSp), .ro (l.map encRex)] 0 ∧ s'.σ 4 = .pd a 0 0 0 ∧ s'.σ 8 = .pd x 0 0 0 ∧ s'.σ 9 = .pd y 0 0 0 ∧ s'.σ 10 = .val (.int .i64 t.length) ∧ s'.σ 11 = .pd z 0 0 0 ∧ s'.σ 12 = .val (.int .i64 q) ∧ s'.H a = some (.box 102 (tabL noT)) ∧ s'.H x = some (.box 102 (tabL A)) ∧ s'.H y = some (.box 102 (tabL B)) ∧ s'.H z = some (.box 102 (tabL (tabS (isF (d + 1) (.mk k s l)) t q 0)))) (t.length + 1) ⟨0, by simp [h1, h2, h4, h8, h9, hA, hx, hy, nx, ny, na]; exact tabS_zero⟩ ?_
        rintro m ⟨σ, H⟩ ⟨q, hm, h1, h2, h4, h8, h9, h10, h11, h12, hA, hx, hy, hz⟩
        simp only at h1 h2 h4 h8 h9 h10 h11 h12 hA hx hy hz
        by_cases hq : q ≤ t.length
        · have hw := hw1 (show q < 13 by omega) (by omega)
          simp [h1, h2, h4, h8, h9, h10, h11, h12, hq]
          refine TWcH.loop [] (fun m' s' => ∃ i, i + q + m' = t.length + 1 ∧ s'.σ 1 = .val (.string (bs t)) ∧ s'.σ 2 = .rptr [.val (.int .i64 k), .ro (s.map encSp), .ro (l.map encRex)] 0 ∧ s'.σ 4 = .pd a 0 0 0 ∧ s'.σ 8 = .pd x 0 0 0 ∧ s'.σ 9 = .pd y 0 0 0 ∧ s'.σ 10 = .val (.int .i64 t.length) ∧ s'.σ 11 = .pd z 0 0 0 ∧ s'.σ 12 = .val (.int .i64 q) ∧ s'.σ 13 = .val (.int .i64 i) ∧ s'.H a = some (.box 102 (tabL noT)) ∧ s'.H x = some (.box 102 (tabL A)) ∧ s'.H y = some (.box 102 (tabL B)) ∧ s'.H z = some (.box 102 (tabL (tabS (isF (d + 1) (.mk k s l)) t q i)))) (t.length + 1 - q) ⟨0, by simp [h1, h2, h4, h8, h9, h10, h11, h12, hA, hx, hy, hz]; omega⟩ ?_
          rintro m' ⟨σ, H⟩ ⟨i, hm', g1, g2, g4, g8, g9, g10, g11, g12, g13, gA, gx', gy', gz⟩
          simp only at g1 g2 g4 g8 g9 g10 g11 g12 g13 gA gx' gy' gz
          have hwq : IntKind.i64.wrap ((i : Int) + q) = (i : Int) + q := wrapi (by omega)
          by_cases hi : i + q ≤ t.length
          · have hi' : (i : Int) + q ≤ t.length := by omega
            have hwi := hw1 (show i < 13 by omega) (by omega)
            have lt1 : i < 13 := by omega
            have lt2 : i + q < 13 := by omega
            have set_z := fun b => set_tab (T := tabS (isF (d + 1) (.mk k s l)) t q i) lt1 lt2 b
            have b1 : i * 13 + (i + q) + 1 ≤ 169 := by omega
            have j13 : (i : Int) + q < 13 := by omega
            have i13 : (i : Int) < 13 := by omega
            have j0 : (0 : Int) ≤ (i : Int) + q := by omega
            have jn : ((i : Int) + q).toNat = i + q := by omega
            have fin : ∀ b, b = isF (d + 1) (.mk k s l) (piece t i (i + q)) → ∃ m'', m'' < m' ∧ ∃ i', i' + q + m'' = t.length + 1 ∧ (i : Int) + 1 = (i' : Int) ∧ tabL (updT (tabS (isF (d + 1) (.mk k s l)) t q i) i (i + q) b) = tabL (tabS (isF (d + 1) (.mk k s l)) t q i') := fun b hb => ⟨m' - 1, by omega, i + 1, by omega, by omega, by rw [hb, tabS_set hi]⟩
            have hpl : (piece t i (i + q)).length = q := by simp [piece]; omega
            have hiq : i + q ≤ t.length := hi
            have hAt : ∀ f : List UInt8 → Bool, tabF f t i (i + q) = f (piece t i (i + q)) := fun f => tabF_at (by omega) hi
            rcases form_kids hf with ⟨hk, rfl⟩ | ⟨ra, hk, rfl, fa⟩ | ⟨ra, rb, hk, rfl, fa, fb⟩
            · rcases hk with rfl | rfl
              · by_cases hq1 : q = 1
                · subst hq1
                  have hit : i < t.length := by omega
                  have hpe : piece t i (i + 1) = [t[i]] := by
                    simp only [piece, List.drop_take, show i + 1 - i = 1 by omega]
                    rw [List.drop_eq_getElem_cons hit]; rfl
                  have hsl : s.length ≤ 1152921504606846976 := by have := hs.1; omega
                  have e1 : (i : Int) + 1 ≤ t.length := by omega
                  have e2 : ((i : Int) + 1).toNat = i + 1 := by omega
                  have e3 : (i : Int) + 1 < 13 := by omega
                  have e4 : (0 : Int) ≤ (i : Int) + 1 := by omega
                  have e5 : (i : Int) < t.length := by omega
                  simp [g1, g2, g4, g8, g9, g10, g11, g12, g13, gA, gx', gy', gz, hwq, hi', hwi, i13, j13, j0, jn, b1, nx', ny', na', nx, ny, na, cut_tab lt1 lt2, set_z, e1, e2, e3, e4, e5]
                  refine TWcH.regionD (ρ := []) [0, 1, 2, 3, 4, 5, 6, 7, 8, 9, 10, 11] 12 mixed (by kernel_rfl) ?_
                  simp [g1, g2, g4, g8, g9, g10, g11, g12, g13, gA, gx', gy', gz, hwq, hi', hwi, i13, j13, j0, jn, b1, nx', ny', na', nx, ny, na, cut_tab lt1 lt2, set_z, e1, e2, e3, e4, e5, getI hit, hit]
                  refine TWqH.callV (tc_iSetHas s t[i].toNat hsl) callable_46 (by simp [g1, g2, g4, g8, g9, g10, g11, g12, g13, gA, gx', gy', gz, hwq, hi', hwi, i13, j13, j0, jn, b1, nx', ny', na', nx, ny, na, cut_tab lt1 lt2, set_z, e1, e2, e3, e4, e5]) (by simp) (by simp) (by simp) ?_
                  simp [g1, g2, g4, g8, g9, g10, g11, g12, g13, gA, gx', gy', gz, hwq, hi', hwi, i13, j13, j0, jn, b1, nx', ny', na', nx, ny, na, cut_tab lt1 lt2, set_z, e1, e2, e3, e4, e5]
                  exact fin _ (by rw [hpe]; simp [isF])
                · have hq1' : ¬ ((q : Int) = 1) := by omega
                  simp [g1, g2, g4, g8, g9, g10, g11, g12, g13, gA, gx', gy', gz, hwq, hi', hwi, i13, j13, j0, jn, b1, nx', ny', na', nx, ny, na, cut_tab lt1 lt2, set_z]
                  refine TWcH.regionD (ρ := []) [0, 1, 2, 3, 4, 5, 6, 7, 8, 9, 10, 11] 12 mixed (by kernel_rfl) ?_
                  simp [g1, g2, g4, g8, g9, g10, g11, g12, g13, gA, gx', gy', gz, hwq, hi', hwi, i13, j13, j0, jn, b1, nx', ny', na', nx, ny, na, cut_tab lt1 lt2, set_z, hq1, hq1']
                  exact fin _ (by simp [isF, hpl, hq1])
              · simp [g1, g2, g4, g8, g9, g10, g11, g12, g13, gA, gx', gy', gz, hwq, hi', hwi, i13, j13, j0, jn, b1, nx', ny', na', nx, ny, na, cut_tab lt1 lt2, set_z]
                exact fin _ (by simp [isF, ← List.length_eq_zero_iff, hpl])
            · obtain rfl : A = tabF (isF d ra) t := hfA ra rfl (by simp)
              rcases hk with rfl | rfl
              · simp [g1, g2, g4, g8, g9, g10, g11, g12, g13, gA, gx', gy', gz, hwq, hi', hwi, i13, j13, j0, jn, b1, nx', ny', na', nx, ny, na, cut_tab lt1 lt2, set_z]
                refine TWcH.loop [] (fun m3 s' => ∃ o, o + m3 = q ∧ s'.σ 1 = .val (.string (bs t)) ∧ s'.σ 2 = .rptr [.val (.int .i64 5), .ro (s.map encSp), .ro ([ra].map encRex)] 0 ∧ s'.σ 4 = .pd a 0 0 0 ∧ s'.σ 8 = .pd x 0 0 0 ∧ s'.σ 9 = .pd y 0 0 0 ∧ s'.σ 10 = .val (.int .i64 t.length) ∧ s'.σ 11 = .pd z 0 0 0 ∧ s'.σ 12 = .val (.int .i64 q) ∧ s'.σ 13 = .val (.int .i64 i) ∧ s'.σ 14 = .val (.int .i64 ((i : Int) + q)) ∧ s'.σ 17 = .val (.int .i64 (i + 1 + o : Nat)) ∧ s'.σ 15 = .val (.bool (starP (isF d ra) t i q o)) ∧ s'.H a = some (.box 102 (tabL noT)) ∧ s'.H x = some (.box 102 (tabL (tabF (isF d ra) t))) ∧ s'.H y = some (.box 102 (tabL B)) ∧ s'.H z = some (.box 102 (tabL (tabS (isF (d + 1) (.mk 5 s [ra])) t q i)))) q ⟨0, by simp [g1, g2, g4, g8, g9, g10, g11, g12, g13, gA, gx', gy', gz, hwq, hi', hwi, i13, j13, j0, jn, b1, nx', ny', na', nx, ny, na, cut_tab lt1 lt2, set_z, starP]⟩ ?_
                rintro m3 ⟨σ, H⟩ ⟨o, ho, f1, f2, f4, f8, f9, f10, f11, f12, f13, f14, fk, f15, fA, fx, fy, fz⟩
                simp only at f1 f2 f4 f8 f9 f10 f11 f12 f13 f14 fk f15 fA fx fy fz
                by_cases hoq : o < q
                · have k1 : (i : Int) + 1 + o ≤ (i : Int) + q := by omega
                  have k2 : (i : Int) + 1 + o < 13 := by omega
                  have k3 : (0 : Int) ≤ (i : Int) + 1 + o := by omega
                  have k4 : ((i : Int) + 1 + o).toNat = i + 1 + o := by omega
                  have k5 : i * 13 + (i + 1 + o) + 1 ≤ 169 := by omega
                  have k6 : (i + 1 + o) * 13 + (i + q) + 1 ≤ 169 := by omega
                  have k7 : IntKind.i64.wrap ((i : Int) + 1 + o + 1) = (i : Int) + 1 + o + 1 := wrapi (by omega)
                  have k8 : tabF (isF d ra) t i (i + 1 + o) = isF d ra (piece t i (i + 1 + o)) := tabF_at (by omega) (by omega)
                  have k9 : tabS (isF (d + 1) (.mk 5 s [ra])) t q i (i + 1 + o) (i + q) = starF (isF d ra) (piece t (i + 1 + o) (i + q)) := by
                    rw [tabS_at (by omega) (by omega) (by omega)]; simp [isF]
                  have k10 : i + 1 + o < 13 := by omega
                  simp [f1, f2, f4, f8, f9, f10, f11, f12, f13, f14, fk, f15, fA, fx, fy, fz, hwq, hi', hwi, i13, j13, j0, jn, b1, nx', ny', na', nx, ny, na, k1, k2, k3, k4, k5, k6, k7]
                  refine gif_intro (fun c1 => ?_) (fun c1 => ?_) <;> simp [f1, f2, f4, f8, f9, f10, f11, f12, f13, f14, fk, f15, fA, fx, fy, fz, hwq, hi', hwi, i13, j13, j0, jn, b1, nx', ny', na', nx, ny, na, k1, k2, k3, k4, k5, k6, k7, c1, cut_tab lt1 k10, k8]
                  · exact ⟨m3 - 1, by omega, o + 1, by omega, by omega, by rw [starP_succ, c1]; rfl⟩
                  · refine gif_intro (fun c2 => ?_) (fun c2 => ?_) <;> simp [f1, f2, f4, f8, f9, f10, f11, f12, f13, f14, fk, f15, fA, fx, fy, fz, hwq, hi', hwi, i13, j13, j0, jn, b1, nx', ny', na', nx, ny, na, k1, k2, k3, k4, k5, k6, k7, c1, c2, cut_tab k10 lt2, k8, k9]
                    · exact ⟨m3 - 1, by omega, o + 1, by omega, by omega, by rw [starP_succ, Bool.eq_false_iff.2 c1, c2]; rfl⟩
                    · exact ⟨m3 - 1, by omega, o + 1, by omega, by omega, by rw [starP_succ, Bool.eq_false_iff.2 c1, Bool.eq_false_iff.2 c2]; rfl⟩
                · obtain rfl : o = q := by omega
                  have k1 : ¬ ((i : Int) + 1 + o ≤ (i : Int) + o) := by omega
                  simp [f1, f2, f4, f8, f9, f10, f11, f12, f13, f14, fk, f15, fA, fx, fy, fz, hwq, hi', hwi, i13, j13, j0, jn, b1, nx', ny', na', nx, ny, na, k1, set_z]
                  exact fin _ (by rw [starP_all hiq]; simp [isF])
              · simp [g1, g2, g4, g8, g9, g10, g11, g12, g13, gA, gx', gy', gz, hwq, hi', hwi, i13, j13, j0, jn, b1, nx', ny', na', nx, ny, na, cut_tab lt1 lt2, set_z]
                exact fin _ (by rw [hAt]; simp [isF])
            · obtain rfl : A = tabF (isF d ra) t := hfA ra rfl (by simp)
              obtain rfl : B = tabF (isF d rb) t := hfB rb rfl (by simp)
              rcases hk with rfl | rfl | rfl
              · simp [g1, g2, g4, g8, g9, g10, g11, g12, g13, gA, gx', gy', gz, hwq, hi', hwi, i13, j13, j0, jn, b1, nx', ny', na', nx, ny, na, cut_tab lt1 lt2, set_z]
                refine TWcH.loop [] (fun m3 s' => ∃ o, o + m3 = q + 1 ∧ s'.σ 1 = .val (.string (bs t)) ∧ s'.σ 2 = .rptr [.val (.int .i64 3), .ro (s.map encSp), .ro ([ra, rb].map encRex)] 0 ∧ s'.σ 4 = .pd a 0 0 0 ∧ s'.σ 8 = .pd x 0 0 0 ∧ s'.σ 9 = .pd y 0 0 0 ∧ s'.σ 10 = .val (.int .i64 t.length) ∧ s'.σ 11 = .pd z 0 0 0 ∧ s'.σ 12 = .val (.int .i64 q) ∧ s'.σ 13 = .val (.int .i64 i) ∧ s'.σ 14 = .val (.int .i64 ((i : Int) + q)) ∧ s'.σ 16 = .val (.int .i64 (i + o : Nat)) ∧ s'.σ 15 = .val (.bool (catP (isF d ra) (isF d rb) t i q o)) ∧ s'.H a = some (.box 102 (tabL noT)) ∧ s'.H x = some (.box 102 (tabL (tabF (isF d ra) t))) ∧ s'.H y = some (.box 102 (tabL (tabF (isF d rb) t))) ∧ s'.H z = some (.box 102 (tabL (tabS (isF (d + 1) (.mk 3 s [ra, rb])) t q i)))) (q + 1) ⟨0, by simp [g1, g2, g4, g8, g9, g10, g11, g12, g13, gA, gx', gy', gz, hwq, hi', hwi, i13, j13, j0, jn, b1, nx', ny', na', nx, ny, na, cut_tab lt1 lt2, set_z, catP]⟩ ?_
                rintro m3 ⟨σ, H⟩ ⟨o, ho, f1, f2, f4, f8, f9, f10, f11, f12, f13, f14, fk, f15, fA, fx, fy, fz⟩
                simp only at f1 f2 f4 f8 f9 f10 f11 f12 f13 f14 fk f15 fA fx fy fz
                by_cases hoq : o ≤ q
                · have k1 : (i : Int) + o ≤ (i : Int) + q := by omega
                  have k2 : (i : Int) + o < 13 := by omega
                  have k3 : (0 : Int) ≤ (i : Int) + o := by omega
                  have k4 : ((i : Int) + o).toNat = i + o := by omega
                  have k5 : i * 13 + (i + o) + 1 ≤ 169 := by omega
                  have k6 : (i + o) * 13 + (i + q) + 1 ≤ 169 := by omega
                  have k7 : IntKind.i64.wrap ((i : Int) + o + 1) = (i : Int) + o + 1 := wrapi (by omega)
                  have k8 : tabF (isF d ra) t i (i + o) = isF d ra (piece t i (i + o)) := tabF_at (by omega) (by omega)
                  have k9 : tabF (isF d rb) t (i + o) (i + q) = isF d rb (piece t (i + o) (i + q)) := tabF_at (by omega) (by omega)
                  have k10 : i + o < 13 := by omega
                  simp [f1, f2, f4, f8, f9, f10, f11, f12, f13, f14, fk, f15, fA, fx, fy, fz, hwq, hi', hwi, i13, j13, j0, jn, b1, nx', ny', na', nx, ny, na, k1, k2, k3, k4, k5, k6, k7]
                  refine gif_intro (fun c1 => ?_) (fun c1 => ?_) <;> simp [f1, f2, f4, f8, f9, f10, f11, f12, f13, f14, fk, f15, fA, fx, fy, fz, hwq, hi', hwi, i13, j13, j0, jn, b1, nx', ny', na', nx, ny, na, k1, k2, k3, k4, k5, k6, k7, c1, cut_tab lt1 k10, k8]
                  · exact ⟨m3 - 1, by omega, o + 1, by omega, by omega, by rw [catP_succ, c1]; rfl⟩
                  · refine gif_intro (fun c2 => ?_) (fun c2 => ?_) <;> simp [f1, f2, f4, f8, f9, f10, f11, f12, f13, f14, fk, f15, fA, fx, fy, fz, hwq, hi', hwi, i13, j13, j0, jn, b1, nx', ny', na', nx, ny, na, k1, k2, k3, k4, k5, k6, k7, c1, c2, cut_tab k10 lt2, k8, k9]
                    · exact ⟨m3 - 1, by omega, o + 1, by omega, by omega, by rw [catP_succ, Bool.eq_false_iff.2 c1, c2]; rfl⟩
                    · exact ⟨m3 - 1, by omega, o + 1, by omega, by omega, by rw [catP_succ, Bool.eq_false_iff.2 c1, Bool.eq_false_iff.2 c2]; rfl⟩
                · obtain rfl : o = q + 1 := by omega
                  have k1 : ¬ ((i : Int) + ((q : Int) + 1) ≤ (i : Int) + q) := by omega
                  simp [f1, f2, f4, f8, f9, f10, f11, f12, f13, f14, fk, f15, fA, fx, fy, fz, hwq, hi', hwi, i13, j13, j0, jn, b1, nx', ny', na', nx, ny, na, k1, set_z]
                  exact fin _ (by rw [catP_all hiq]; simp [isF])
              · simp [g1, g2, g4, g8, g9, g10, g11, g12, g13, gA, gx', gy', gz, hwq, hi', hwi, i13, j13, j0, jn, b1, nx', ny', na', nx, ny, na, cut_tab lt1 lt2, set_z]
                refine gif_intro (fun c1 => ?_) (fun c1 => ?_) <;> simp [g1, g2, g4, g8, g9, g10, g11, g12, g13, gA, gx', gy', gz, hwq, hi', hwi, i13, j13, j0, jn, b1, nx', ny', na', nx, ny, na, cut_tab lt1 lt2, set_z, c1]
                · exact fin _ (by rw [hAt] at c1; simp [isF, c1])
                · exact fin _ (by rw [hAt] at c1 ⊢; simp [isF, Bool.eq_false_iff.2 c1])
              · simp [g1, g2, g4, g8, g9, g10, g11, g12, g13, gA, gx', gy', gz, hwq, hi', hwi, i13, j13, j0, jn, b1, nx', ny', na', nx, ny, na, cut_tab lt1 lt2, set_z]
                refine gif_intro (fun c1 => ?_) (fun c1 => ?_) <;> simp [g1, g2, g4, g8, g9, g10, g11, g12, g13, gA, gx', gy', gz, hwq, hi', hwi, i13, j13, j0, jn, b1, nx', ny', na', nx, ny, na, cut_tab lt1 lt2, set_z, c1]
                · exact fin _ (by rw [hAt] at c1 ⊢; simp [isF, c1])
                · exact fin _ (by rw [hAt] at c1; simp [isF, Bool.eq_false_iff.2 c1])
          · have hi' : ¬ ((i : Int) + q ≤ t.length) := by omega
            simp [g1, g2, g4, g8, g9, g10, g11, g12, g13, gA, gx', gy', gz, hwq, hi', hw]
            exact ⟨m - 1, by omega, q + 1, by omega, by omega, tabS_next (by omega)⟩
        · simp [h1, h2, h4, h8, h9, h10, h11, h12, hA, hx, hy, hz, hq, na, na']
          rw [tabS_all (by omega)]
end Go.Proofs.YtdomnlnanbekaaaGreatDoor.R

open Go Go.Proofs.YtdomnlnanbekaaaGreatDoor.T
namespace Go.Proofs.YtdomnlnanbekaaaGreatDoor.R
set_option maxHeartbeats 4000000
set_option maxRecDepth 100000
set_option linter.unusedSimpArgs false
set_option linter.unusedVariables false
theorem row0 {T : Nat → Nat → Bool} {j : Nat} (hj : j < 13) : ((tabL T).take 13)[j]? = some (.val (.bool (T 0 j))) := by
  rw [List.getElem?_take_of_lt hj]
  have := get_tab (T := T) (i := 0) (by omega) hj
  rwa [Nat.zero_mul, Nat.zero_add] at this
theorem row0' {T : Nat → Nat → Bool} {j : Nat} (hj : j < 13) : (tabL T)[j]? = some (.val (.bool (T 0 j))) := by
  have := get_tab (T := T) (i := 0) (by omega) hj
  rwa [Nat.zero_mul, Nat.zero_add] at this
def matchIs (r : Rex) (t : List UInt8) : Bool := rexOk r && decide (t.length ≤ 12) && isF 8 r t
theorem tc_iMatchIs (r : Rex) (t : List UInt8) (hs : Sm r) : TC Tryz.prog 18 [.agg (encRex r), .val (.string (bs t))] [] (.val (.bool (matchIs r t))) [] := by
  refine TC.enter Tryz.func18 rfl (by simp [Tryz.ntmps18]) rfl (tw_sound (ρ := [2]) ?_)
  rw [Tryz.ntmps18]
  simp
  refine TWoH.callV (tc_iRexOk r hs) callable_34 (by simp) (by simp) (by simp) (by simp) ?_
  simp
  refine gif_intro (fun c1 => ?_) (fun c1 => ?_) <;> simp [c1]
  case refine_2 => simp [matchIs, c1]
  refine TWoH.callV (tc_iMatchWord t) callable_77 (by simp) (by simp) (by simp) (by simp) ?_
  simp [c1]
  refine gif_intro (fun c2 => ?_) (fun c2 => ?_) <;> simp [c1, c2]
  case refine_2 => simp [matchIs, c2]
  have hf : formF 8 r = true := by simp only [rexOk, Bool.and_eq_true] at c1; exact c1.1
  refine TWoH.callV (tc_pieces 8 r t hs hf c2) callable_78 (by simp) (by simp) (by simp) (by simp) ?_
  have e13 : (t.length : Int) < 13 := by omega
  have h0 : tabF (isF 8 r) t 0 t.length = isF 8 r t := by rw [tabF_at (by omega) (by omega)]; simp [piece]
  simp [c1, c2, partTV, e13, row0 (show t.length < 13 by omega), row0' (show t.length < 13 by omega), h0, matchIs]
theorem tc_iRulesFirst (l : List Rule) (t : List UInt8) (hs : RSm l) : TC Tryz.prog 28 [.ro (l.map encRule), .val (.string (bs t))] [] (.val (.int .i64 (rulesFirst l t))) [] := by
  refine TC.enter Tryz.func28 rfl (by simp [Tryz.ntmps28]) rfl (tw_sound (ρ := []) ?_)
  rw [Tryz.ntmps28]
  simp
  refine TWoH.callV (tc_iRulesOk l hs) callable_62 (by simp) (by simp) (by simp) (by simp) ?_
  simp
  refine gif_intro (fun c1 => ?_) (fun c1 => ?_) <;> simp [c1]
  case refine_2 => simp [rulesFirst, c1]
  refine TWoH.callV (tc_iMatchWord t) callable_77 (by simp) (by simp) (by simp) (by simp) ?_
  simp
  refine gif_intro (fun c2 => ?_) (fun c2 => ?_) <;> simp [c2]
  case refine_2 => simp [rulesFirst, c2]
  have hr : rulesFirst l t = firstF l t 0 := by simp [rulesFirst, c1, c2]
  refine TWcH.loop [] (fun m s => ∃ i, i + m = l.length ∧ s.σ 1 = .val (.string (bs t)) ∧ s.σ 15 = .ro (l.map encRule) ∧ s.σ 16 = .val (.int .i64 l.length) ∧ s.σ 17 = .val (.int .i64 i) ∧ firstF l t 0 = firstF l t i) l.length ⟨0, by simp⟩ ?_
  rintro m ⟨σ, H⟩ ⟨i, him, h1, h15, h16, h17, hh⟩
  simp only at h1 h15 h16 h17
  by_cases hi : i < l.length
  · rw [firstF_next hi] at hh
    have hw := hw1 hi (by have := hs.1; omega)
    have hsi := hs.2 _ (List.getElem_mem hi)
    have hm : matchIs l[i].rex t = isF 8 l[i].rex t := by
      have h2 : rexOk l[i].rex = true := by
        simp only [rulesOk, okFrom, Bool.and_eq_true, List.all_eq_true, List.mem_range'_1] at c1
        have h1 := c1.2 i (by omega)
        simp only [ruleAt, getI hi, Bool.and_eq_true] at h1
        exact h1.1.2
      simp [matchIs, h2, c2]
    simp [h1, h15, h16, h17, getI hi, hi]
    refine gall_intro fun a ha => ?_
    simp [h1, h15, h16, h17, getI hi, hi, encRule]
    refine TWoH.callV (tc_iMatchIs l[i].rex t hsi.1) callable_18 (by simp [h1]) (by simp) (by simp) (by simp) ?_
    rw [hm]
    simp [h1, h15, h16, h17, getI hi, hi, encRule]
    refine gif_intro (fun c3 => ?_) (fun c3 => ?_) <;> simp [h1, h15, h16, h17, getI hi, hi, encRule, c3, hw]
    · rw [hr, hh, if_pos c3]
    · exact ⟨m - 1, by omega, i + 1, by omega, by omega, by rw [hh, if_neg c3]⟩
  · simp [h1, h15, h16, h17, hi]
    rw [hr, hh, firstF_end hi]
end Go.Proofs.YtdomnlnanbekaaaGreatDoor.R

open Go Go.Proofs.YtdomnlnanbekaaaGreatDoor.T
namespace Go.Proofs.YtdomnlnanbekaaaGreatDoor.R
set_option maxHeartbeats 4000000
set_option maxRecDepth 100000
set_option linter.unusedSimpArgs false
set_option linter.unusedVariables false
/-- The longest piece from a place on, of at most k - 1 bytes. -/
def longF (G : List UInt8 → Bool) (t : List UInt8) (p : Nat) : Nat → Int
  | 0 => -1
  | k + 1 => if G (piece t p (p + k)) = true then (k : Int) else longF G t p k
def matchLong (r : Rex) (t : List UInt8) (p : Nat) : Int := longF (isF 8 r) t p (t.length - p + 1)
theorem longF_le {G : List UInt8 → Bool} {t : List UInt8} {p : Nat} : ∀ k : Nat, longF G t p k < k ∧ -1 ≤ longF G t p k
  | 0 => by simp [longF]
  | k + 1 => by
    unfold longF
    have := longF_le (G := G) (t := t) (p := p) k
    split <;> omega
theorem rexOk_form {r : Rex} (h : rexOk r = true) : formF 8 r = true := by simp only [rexOk, Bool.and_eq_true] at h; exact h.1
theorem tc_sMatchLong (r : Rex) (t : List UInt8) (p : Nat) (hs : Sm r) (hr : rexOk r = true) (ht : t.length ≤ 12) (hp : p ≤ t.length) : TC Tryz.prog 168 [.agg (encRex r), .val (.string (bs t)), .val (.int .i64 p)] [] (.val (.int .i64 (matchLong r t p))) [] := by
  refine TC.enter Tryz.func168 rfl (by simp [Tryz.ntmps168]) rfl (tw_sound (ρ := [3]) ?_)
  rw [Tryz.ntmps168]
  simp
  refine TWoH.callV (tc_sRexOk r hs) callable_33 (by simp) (by simp) (by simp) (by simp) ?_
  simp [hr]
  refine TWoH.callV (tc_sMatchWord t) callable_38 (by simp) (by simp) (by simp) (by simp) ?_
  have h1 : ¬ ((p : Int) < 0) := by omega
  have h2 : ¬ ((t.length : Int) < p) := by omega
  simp [ht, h1, h2]
  refine TWcH.loop [] (fun m s => ∃ k, k + p ≤ t.length + 1 ∧ m = k ∧ s.σ 1 = .val (.string (bs t)) ∧ s.σ 2 = .val (.int .i64 p) ∧ s.σ 3 = .rptr (encRex r) 0 ∧ s.σ 7 = .val (.int .i64 ((p : Int) + k - 1)) ∧ matchLong r t p = longF (isF 8 r) t p k) (t.length - p + 1) ⟨t.length - p + 1, by omega, rfl, by simp, by simp, by simp, by simp; omega, rfl⟩ ?_
  rintro m ⟨σ, H⟩ ⟨k, hk, rfl, h1', h2', h3, h7, hh⟩
  simp only at h1' h2' h3 h7
  cases m with
  | zero =>
    have e0 : ¬ ((p : Int) ≤ p - 1) := by omega
    simp [h1', h2', h3, h7, hh, longF, e0]
  | succ m =>
    have e1 : (p : Int) + ((m + 1 : Nat) : Int) - 1 = ((p + m : Nat) : Int) := by omega
    rw [e1] at h7
    have hle : (p : Int) ≤ ((p + m : Nat) : Int) := by omega
    have hle2 : ((p + m : Nat) : Int) ≤ t.length := by omega
    have hw : IntKind.i64.wrap (((p + m : Nat) : Int) - 1) = ((p + m : Nat) : Int) - 1 := wrapi (by omega)
    have hw2 : IntKind.i64.wrap (((p + m : Nat) : Int) - p) = m := by rw [wrapi (by omega)]; omega
    simp only [Int.natCast_add] at h7 hle hle2 hw hw2
    have hl0 : (0 : Int) ≤ (p : Int) + m := by omega
    simp [h1', h2', h3, h7, hle, hle2]
    refine TWcH.regionD (ρ := [3]) [0, 1, 2, 3, 4, 5] 5 mixed (by kernel_rfl) ?_
    have en : ((p : Int) + m).toNat = p + m := by omega
    simp [h1', h2', h3, h7, hle, hle2, en]
    refine TWoH.callV (tc_l3Is 8 r (piece t p (p + m)) hs (rexOk_form hr) (by simp [piece]; omega)) callable_187 (by simp [piece]) (by simp) (by simp) (by simp) ?_
    simp [h1', h2', h3, h7, hle, hle2]
    refine gif_intro (fun c => ?_) (fun c => ?_) <;> simp [h1', h2', h3, h7, hle, hle2, c, hw, hw2]
    · rw [hh, longF, if_pos c]
    · exact ⟨m, by omega, m, by omega, rfl, rfl, by rw [hh, longF, if_neg c]⟩
theorem tc_iMatchLong (r : Rex) (t : List UInt8) (p : Nat) (hs : Sm r) (hr : rexOk r = true) (ht : t.length ≤ 12) (hp : p ≤ t.length) : TC Tryz.prog 120 [.agg (encRex r), .val (.string (bs t)), .val (.int .i64 p)] [] (.val (.int .i64 (matchLong r t p))) [] := by
  refine TC.enter Tryz.func120 rfl (by simp [Tryz.ntmps120]) rfl (tw_sound (ρ := [3]) ?_)
  rw [Tryz.ntmps120]
  simp
  refine TWoH.callV (tc_iRexOk r hs) callable_34 (by simp) (by simp) (by simp) (by simp) ?_
  simp [hr]
  refine TWoH.callV (tc_iMatchWord t) callable_77 (by simp) (by simp) (by simp) (by simp) ?_
  simp [ht]
  refine TWoH.callV (tc_in p 0 t.length) callable_96 (by simp) (by simp) (by simp) (by simp) ?_
  simp [hp]
  refine TWoH.callV (tc_pieces 8 r t hs (rexOk_form hr) ht) callable_78 (by simp) (by simp) (by simp) (by simp) ?_
  simp
  refine gall_intro fun a ha => ?_
  have hw0 : IntKind.i64.wrap ((t.length : Int) - p) = (t.length : Int) - p := wrapi (by omega)
  simp [hw0]
  refine TWcH.loop [] (fun m s => ∃ k, k + p ≤ t.length + 1 ∧ m = k ∧ s.σ 1 = .val (.string (bs t)) ∧ s.σ 2 = .val (.int .i64 p) ∧ s.σ 7 = .pd a 0 0 0 ∧ s.H a = some (.box 102 (tabL (tabF (isF 8 r) t))) ∧ s.σ 8 = .val (.int .i64 ((k : Int) - 1)) ∧ matchLong r t p = longF (isF 8 r) t p k) (t.length - p + 1) ⟨t.length - p + 1, by omega, rfl, by simp, by simp, by simp, by simp, by simp; omega, rfl⟩ ?_
  rintro m ⟨σ, H⟩ ⟨k, hk, rfl, h1', h2', h7, hH, h8, hh⟩
  simp only at h1' h2' h7 hH h8
  cases m with
  | zero => simp [h1', h2', h7, h8, hh, longF]
  | succ m =>
    have e1 : ((m + 1 : Nat) : Int) - 1 = (m : Int) := by omega
    rw [e1] at h8
    have hle : (0 : Int) ≤ m := by omega
    have hw : IntKind.i64.wrap ((m : Int) - 1) = (m : Int) - 1 := wrapi (by omega)
    have hw2 : IntKind.i64.wrap ((p : Int) + m) = (p : Int) + m := wrapi (by omega)
    have en : ((p : Int) + m).toNat = p + m := by omega
    have hp13 : (p : Int) < 13 := by omega
    have hq13 : (p : Int) + m < 13 := by omega
    have hq0 : (0 : Int) ≤ (p : Int) + m := by omega
    have hg := cut_tab (T := tabF (isF 8 r) t) (i := p) (j := p + m) (by omega) (by omega)
    have h168 : p * 13 + (p + m) ≤ 168 := by omega
    have hG : tabF (isF 8 r) t p (p + m) = isF 8 r (piece t p (p + m)) := tabF_at (by omega) (by omega)
    simp [h1', h2', h7, hH, h8, hle, hw2, en, hp13, hq13, hq0, h168, hg, hG]
    refine gif_intro (fun c => ?_) (fun c => ?_) <;> simp [h1', h2', h7, hH, h8, hle, c, hw]
    · rw [hh, longF, if_pos c]
    · exact ⟨m, by omega, m, by omega, rfl, rfl, by rw [hh, longF, if_neg c]⟩
end Go.Proofs.YtdomnlnanbekaaaGreatDoor.R

open Go Go.Proofs.YtdomnlnanbekaaaGreatDoor.T
namespace Go.Proofs.YtdomnlnanbekaaaGreatDoor.R
set_option maxHeartbeats 4000000
set_option maxRecDepth 100000
set_option linter.unusedSimpArgs false
set_option linter.unusedVariables false
def bestGo (t : List UInt8) (p : Nat) : List Rule → Nat → Int → Nat → Int × Nat
  | [], _, b, m => (b, m)
  | r :: l, i, b, m => if (m : Int) < matchLong r.rex t p then bestGo t p l (i + 1) i (matchLong r.rex t p).toNat else bestGo t p l (i + 1) b m
def bestF (l : List Rule) (t : List UInt8) (p : Nat) : Int × Nat := bestGo t p l 0 (-1) 0
theorem bestGo_drop {t : List UInt8} {p : Nat} {l : List Rule} {i : Nat} (hi : i < l.length) (b : Int) (m : Nat) : bestGo t p (l.drop i) i b m = if (m : Int) < matchLong l[i].rex t p then bestGo t p (l.drop (i + 1)) (i + 1) i (matchLong l[i].rex t p).toNat else bestGo t p (l.drop (i + 1)) (i + 1) b m := by
  conv => lhs; rw [List.drop_eq_getElem_cons hi]
  rw [bestGo]
theorem matchLong_le {r : Rex} {t : List UInt8} {p : Nat} (hp : p ≤ t.length) : matchLong r t p ≤ ((t.length - p : Nat) : Int) := by
  have := (longF_le (G := isF 8 r) (t := t) (p := p) (t.length - p + 1)).1
  unfold matchLong; omega
theorem bestGo_ok {t : List UInt8} {p : Nat} (hp : p ≤ t.length) : ∀ (l : List Rule) (i : Nat) (b : Int) (m : Nat), (0 ≤ b → 0 < m) → p + m ≤ t.length → (0 ≤ (bestGo t p l i b m).1 → 0 < (bestGo t p l i b m).2) ∧ p + (bestGo t p l i b m).2 ≤ t.length
  | [], i, b, m, h, h' => ⟨h, h'⟩
  | r :: l, i, b, m, h, h' => by
    unfold bestGo
    have := matchLong_le (r := r.rex) hp
    split
    · exact bestGo_ok hp l _ _ _ (fun _ => by omega) (by omega)
    · exact bestGo_ok hp l _ _ _ h h'
theorem bestF_ok {l : List Rule} {t : List UInt8} {p : Nat} (hp : p ≤ t.length) : (0 ≤ (bestF l t p).1 → 0 < (bestF l t p).2) ∧ p + (bestF l t p).2 ≤ t.length := bestGo_ok hp l 0 (-1) 0 (by omega) (by omega)
theorem rulesOk_rex {l : List Rule} (h : rulesOk l = true) {i : Nat} (hi : i < l.length) : rexOk l[i].rex = true := by
  simp only [rulesOk, okFrom, Bool.and_eq_true, List.all_eq_true, List.mem_range'_1] at h
  have h1 := h.2 i (by omega)
  simp only [ruleAt, getI hi, Bool.and_eq_true] at h1
  exact h1.1.2
theorem tc_l9Best (l : List Rule) (t : List UInt8) (p : Nat) (hs : RSm l) (hr : rulesOk l = true) (ht : t.length ≤ 12) (hp : p ≤ t.length) :
    TC Tryz.prog 122 [.ro (l.map encRule), .val (.string (bs t)), .val (.int .i64 p)] [] (.tup [.val (.int .i64 (bestF l t p).1), .val (.int .i64 ((p : Int) + (bestF l t p).2))]) [] := by
  refine TC.enter Tryz.func122 rfl (by simp [Tryz.ntmps122]) rfl (tw_sound (ρ := []) ?_)
  rw [Tryz.ntmps122]
  simp
  refine TWcH.loop [] (fun m' s => ∃ i b m, i + m' = l.length ∧ s.σ 0 = .ro (l.map encRule) ∧ s.σ 1 = .val (.string (bs t)) ∧ s.σ 2 = .val (.int .i64 p) ∧ s.σ 8 = .val (.int .i64 b) ∧ s.σ 9 = .val (.int .i64 ((p : Int) + (m : Nat))) ∧ s.σ 10 = .val (.int .i64 i) ∧
    p + m ≤ t.length ∧ bestF l t p = bestGo t p (l.drop i) i b m) l.length ⟨0, -1, 0, by simp [bestF]; exact hp⟩ ?_
  rintro m' ⟨σ, H⟩ ⟨i, b, m, him, h0, h1, h2, h8, h9, h10, hm, hh⟩
  simp only at h0 h1 h2 h8 h9 h10
  by_cases hi : i < l.length
  · rw [bestGo_drop hi] at hh
    have hw := hw1 hi (by have := hs.1; omega)
    simp [h0, h1, h2, h8, h9, h10, getI hi, hi, encRule]
    refine TWoH.callV (tc_sMatchLong l[i].rex t p (hs.2 _ (List.getElem_mem hi)).1 (rulesOk_rex hr hi) ht hp) callable_168 (by simp [h1, h2]) (by simp) (by simp) (by simp) ?_
    have hle := matchLong_le (r := l[i].rex) hp
    have hge := (longF_le (G := isF 8 l[i].rex) (t := t) (p := p) (t.length - p + 1)).2
    have hww : IntKind.i64.wrap ((p : Int) + matchLong l[i].rex t p) = (p : Int) + matchLong l[i].rex t p := wrapi (by unfold matchLong at *; omega)
    by_cases c : (m : Int) < matchLong l[i].rex t p
    · rw [if_pos c] at hh
      have c1 : 0 < matchLong l[i].rex t p := by omega
      have hn : ((matchLong l[i].rex t p).toNat : Int) = matchLong l[i].rex t p := by omega
      simp [h0, h1, h2, h8, h9, h10, getI hi, hi, encRule, c, c1, hww, hw]
      exact ⟨m' - 1, by omega, i + 1, by omega, (matchLong l[i].rex t p).toNat, by omega, by omega, by omega, hh⟩
    · rw [if_neg c] at hh
      simp [h0, h1, h2, h8, h9, h10, getI hi, hi, encRule, c, hww, hw]
      refine gif_intro (fun c1 => ?_) (fun c1 => ?_) <;> simp [h0, h1, h2, h8, h9, h10, hi, c, c1, hww, hw]
      all_goals exact ⟨m' - 1, by omega, i + 1, by omega, m, by omega, by omega, by omega, hh⟩
  · simp [h0, h1, h2, h8, h9, h10, hi]
    rw [hh, List.drop_eq_nil_of_le (by omega)]; exact ⟨rfl, rfl⟩
attribute [local simp] bsV bsRows chunk fillT partsT appV makeV rowsOf cellsOf placeOf
abbrev Tok := Int × Int × Int
def encTok (x : Tok) : List TV := [.val (.int .i64 x.1), .val (.int .i64 x.2.1), .val (.int .i64 x.2.2)]
@[simp] theorem len_tok (r : Tok) : (encTok r).length = 3 := by simp [encTok]
@[simp] theorem take_tok (r : Tok) : (encTok r).take 3 = encTok r := by simp [encTok]
@[simp] theorem plain_tok (r : Tok) : (encTok r).all TV.plain = true := by simp [encTok]
@[simp] theorem pc_tok (r : Tok) : (encTok r).all TV.pc = true := by simp [encTok]
@[simp] theorem noH_tok (r : Tok) : noHL (encTok r) = true := by simp [encTok]
@[simp] theorem argTL_tok {H : Nat → Option TV} {ρ : List Nat} (r : Tok) : argTL H ρ (encTok r) = some (encTok r) := by simp [encTok]
@[simp] theorem views_tok {ρ : List Nat} (r : Tok) : (encTok r).flatMap (views1 ρ) = [] := by simp [encTok]
@[simp] theorem opnL_tok {k : Nat} (r : Tok) : opnL k (encTok r) = (encTok r, []) := by simp [encTok]
@[simp] theorem closeL_tok {H : Nat → Option TV} (r : Tok) : closeL H (encTok r) = some (encTok r, H) := by simp [encTok]
@[simp] theorem noHR_tok (s : List Tok) : noHR (s.map encTok) = true := by induction s <;> simp [encTok, *]
@[simp] theorem roL_tok (s : Tok) : roL (encTok s) = encTok s := by simp [encTok]
@[simp] theorem roRows_tok (l : List Tok) : roRows (l.map encTok) = l.map encTok := by induction l <;> simp [*]
@[simp] theorem noRoR_tok (l : List Tok) : noRoR (l.map encTok) = true := by induction l <;> simp [encTok, *]
theorem rl_tok (l : List Tok) : ∀ r ∈ l.map encTok, r.length = szOf Tryz.prog 134 := by
  intro r hr
  obtain ⟨x, _, rfl⟩ := List.mem_map.1 hr
  simp
def toksF (l : List Rule) (t : List UInt8) (p : Nat) : List Tok × Nat :=
  if h : p < t.length ∧ 0 ≤ (bestF l t p).1 ∧ 0 < (bestF l t p).2 then
    (((bestF l t p).1, (p : Int), ((p + (bestF l t p).2 : Nat) : Int)) :: (toksF l t (p + (bestF l t p).2)).1, (toksF l t (p + (bestF l t p).2)).2)
  else ([], p)
termination_by t.length - p
theorem toksF_end {l : List Rule} {t : List UInt8} {p : Nat} (h : ¬ (p < t.length ∧ 0 ≤ (bestF l t p).1 ∧ 0 < (bestF l t p).2)) : toksF l t p = ([], p) := by
  rw [toksF, dif_neg h]
theorem toksF_next {l : List Rule} {t : List UInt8} {p : Nat} (h : p < t.length) (h1 : 0 ≤ (bestF l t p).1) (h2 : 0 < (bestF l t p).2) : toksF l t p =
    (((bestF l t p).1, (p : Int), ((p + (bestF l t p).2 : Nat) : Int)) :: (toksF l t (p + (bestF l t p).2)).1, (toksF l t (p + (bestF l t p).2)).2) := by
  rw [toksF, dif_pos ⟨h, h1, h2⟩]
def lexMeans (l : List Rule) (t : List UInt8) : List Tok × Nat := if rulesOk l = true ∧ t.length ≤ 12 then toksF l t 0 else ([], 0)
theorem tc_sLexMeans (l : List Rule) (t : List UInt8) (hs : RSm l) :
    TC Tryz.prog 56 [.ro (l.map encRule), .val (.string (bs t))] [] (.tup [.own 134 ((lexMeans l t).1.map encTok), .val (.int .i64 (lexMeans l t).2)]) [] := by
  refine TC.enter Tryz.func56 rfl (by simp [Tryz.ntmps56]) rfl (tw_sound (ρ := []) ?_)
  rw [Tryz.ntmps56]
  simp
  refine gall_intro fun id hid => ?_
  simp
  refine TWoH.callV (tc_sRulesOk l hs) callable_67 (by simp) (by simp) (by simp) (by simp) ?_
  simp
  refine gif_intro (fun c1 => ?_) (fun c1 => ?_) <;> simp [c1]
  case refine_2 => simp [lexMeans, c1]
  refine TWoH.callV (tc_sMatchWord t) callable_38 (by simp) (by simp) (by simp) (by simp) ?_
  simp
  refine gif_intro (fun c2 => ?_) (fun c2 => ?_) <;> simp [c2]
  case refine_2 => simp [lexMeans, c2]
  have hr : lexMeans l t = toksF l t 0 := by simp [lexMeans, c1, c2]
  rw [hr]
  refine TWcH.loop [40] (fun m' s => ∃ p acc id, p + m' = t.length ∧ s.σ 0 = .ro (l.map encRule) ∧ s.σ 1 = .val (.string (bs t)) ∧ s.σ 6 = .hd id ∧ s.H id = some (.own 134 (acc.map encTok)) ∧ s.σ 7 = .val (.int .i64 (p : Nat)) ∧
    acc.length ≤ p ∧ toksF l t 0 = (acc ++ (toksF l t p).1, (toksF l t p).2)) t.length ⟨0, [], id, by simp⟩ ?_
  rintro m' ⟨σ, H⟩ ⟨p, acc, id, hpm, h0, h1, h6, hH, h7, hal, hh⟩
  simp only at h0 h1 h6 h7 hH
  by_cases hp : p < t.length
  · obtain ⟨hb1, hb2⟩ := bestF_ok (l := l) (Nat.le_of_lt hp)
    simp [h0, h1, h6, h7, hH, hp]
    refine TWoH.callV (tc_l9Best l t p hs c1 c2 (Nat.le_of_lt hp)) callable_122 (by simp [h0, h1, h7]) (by simp) (by simp) (by simp) ?_
    simp [h0, h1, h6, h7, hH, hp]
    refine gif_intro (fun c3 => ?_) (fun c3 => ?_) <;> simp [h0, h1, h6, h7, hH, hp, c3]
    · rw [toksF_end (p := p) (by omega)] at hh
      simp [hh]
    · have c4 := hb1 (by omega)
      have hw : IntKind.i64.wrap ((p : Int) + (bestF l t p).2) = (p : Int) + (bestF l t p).2 := wrapi (by omega)
      rw [toksF_next (p := p) hp (by omega) c4] at hh
      have k1 : (acc.length + 1) * 24 ≤ 140737488355328 := by omega
      have k2 : acc.length ≤ 9223372036854775806 := by omega
      simp [h0, h1, h6, h7, hH, hp, hw, k1, k2]
      refine gall_intro fun id' hid' => ?_
      simp [h0, h1, h6, h7, hH, hp, hw]
      exact ⟨t.length - (p + (bestF l t p).2), by omega, p + (bestF l t p).2, by omega, acc ++ [((bestF l t p).1, (p : Int), ((p + (bestF l t p).2 : Nat) : Int))], by simp [encTok], by omega, by simp; omega, by rw [hh]; simp⟩
  · rw [toksF_end (p := p) (by omega)] at hh
    simp [h0, h1, h6, h7, hH, hp, hh]
theorem tc_copiedTok (l : List Tok) (hl : l.length ≤ 1048576) : TC Tryz.prog 121 [.ro (l.map encTok)] [] (.own 134 (l.map encTok)) [] := by
  refine TC.enter Tryz.func121 rfl (by simp [Tryz.ntmps121]) rfl (TWc.postT (tw_sound (ρ := []) ?_))
  rw [Tryz.ntmps121]
  simp
  refine gif_intro (fun c1 => ?_) (fun c1 => ?_) <;> simp [c1]
  · refine Turn.nil 2 134 (by simp) fun id hid => ?_
    simp [List.eq_nil_of_length_eq_zero (show l.length = 0 by simpa using c1)]
  have k1 : (24 : Int) * l.length ≤ 281474976710656 := by omega
  have k2 : (l.length : Int) ≤ 9223372036854775807 := by omega
  simp [k1, k2]
  refine gall_intro fun id hid => ?_
  simp
  refine TWoH.copy id (List.replicate l.length [.val (.int .i64 0), .val (.int .i64 0), .val (.int .i64 0)]) (l.map encTok) Tryz.underlying79 (by simp) ?_ ?_ ?_ (rl_tok l) ?_ ?_
  all_goals simp
  exact Turn.same (by simp)
theorem tc_iLexMeans (l : List Rule) (t : List UInt8) (hs : RSm l) :
    TC Tryz.prog 55 [.ro (l.map encRule), .val (.string (bs t))] [] (.tup [.own 134 ((lexMeans l t).1.map encTok), .val (.int .i64 (lexMeans l t).2)]) [] := by
  refine TC.enter Tryz.func55 rfl (by simp [Tryz.ntmps55]) rfl (TWc.postT (tw_sound (ρ := []) ?_))
  rw [Tryz.ntmps55]
  simp
  refine TWoH.callV (tc_iRulesOk l hs) callable_62 (by simp) (by simp) (by simp) (by simp) ?_
  simp
  refine gif_intro (fun c1 => ?_) (fun c1 => ?_) <;> simp [c1]
  case refine_2 =>
    refine Turn.nil 4 134 (by simp) fun id hid => ?_
    simp [lexMeans, c1]
  refine TWoH.callV (tc_iMatchWord t) callable_77 (by simp) (by simp) (by simp) (by simp) ?_
  simp
  refine gif_intro (fun c2 => ?_) (fun c2 => ?_) <;> simp [c2]
  case refine_2 =>
    refine Turn.nil 4 134 (by simp) fun id hid => ?_
    simp [lexMeans, c2]
  have hr : lexMeans l t = toksF l t 0 := by simp [lexMeans, c1, c2]
  rw [hr]
  refine TWcH.turn (Turn.nil 6 134 (by simp) fun id hid => ?_)
  refine TWcH.loop [52] (fun m' s => ∃ p acc id, p + m' = t.length ∧ s.σ 0 = .ro (l.map encRule) ∧ s.σ 1 = .val (.string (bs t)) ∧ s.σ 6 = .hd id ∧ s.H id = some (.own 134 (acc.map encTok)) ∧ s.σ 7 = .val (.int .i64 (p : Nat)) ∧
    acc.length ≤ p ∧ toksF l t 0 = (acc ++ (toksF l t p).1, (toksF l t p).2)) t.length ⟨0, [], id, by simp⟩ ?_
  rintro m' ⟨σ, H⟩ ⟨p, acc, id, hpm, h0, h1, h6, hH, h7, hal, hh⟩
  simp only at h0 h1 h6 h7 hH
  by_cases hp : p < t.length
  · obtain ⟨hb1, hb2⟩ := bestF_ok (l := l) (Nat.le_of_lt hp)
    simp [h0, h1, h6, h7, hH, hp]
    refine TWcH.loop [] (fun m'' s => ∃ i b m, i + m'' = l.length ∧ s.σ 0 = .ro (l.map encRule) ∧ s.σ 1 = .val (.string (bs t)) ∧ s.σ 6 = .hd id ∧ s.H id = some (.own 134 (acc.map encTok)) ∧ s.σ 7 = .val (.int .i64 (p : Nat)) ∧ s.σ 8 = .val (.int .i64 b) ∧ s.σ 9 = .val (.int .i64 (m : Nat)) ∧
      s.σ 25 = .ro (l.map encRule) ∧ s.σ 26 = .val (.int .i64 l.length) ∧ s.σ 27 = .val (.int .i64 i) ∧ bestF l t p = bestGo t p (l.drop i) i b m) l.length ⟨0, -1, 0, by simp [h0, h1, h6, h7, hH, bestF]⟩ ?_
    rintro m'' ⟨σ, H⟩ ⟨i, b, m, him, g0, g1, g6, gH, g7, g8, g9, g25, g26, g27, gg⟩
    simp only at g0 g1 g6 gH g7 g8 g9 g25 g26 g27
    by_cases hi : i < l.length
    · rw [bestGo_drop hi] at gg
      have hw := hw1 hi (by have := hs.1; omega)
      simp [g0, g1, g6, gH, g7, g8, g9, g25, g26, g27, getI hi, hi]
      refine gall_intro fun a ha => ?_
      have hne : ¬ id = a := ne_some (by simp [gH]) ha
      simp [g0, g1, g6, gH, g7, g8, g9, g25, g26, g27, getI hi, hi, encRule, hne]
      refine TWoH.callV (tc_iMatchLong l[i].rex t p (hs.2 _ (List.getElem_mem hi)).1 (rulesOk_rex c1 hi) c2 (Nat.le_of_lt hp)) callable_120 (by simp [g1, g7]) (by simp) (by simp) (by simp) ?_
      have hle := matchLong_le (r := l[i].rex) (Nat.le_of_lt hp)
      by_cases c : (m : Int) < matchLong l[i].rex t p
      · rw [if_pos c] at gg
        have hn : ((matchLong l[i].rex t p).toNat : Int) = matchLong l[i].rex t p := by omega
        simp [g0, g1, g6, gH, g7, g8, g9, g25, g26, g27, getI hi, hi, encRule, c, hw, hne]
        exact ⟨m'' - 1, by omega, i + 1, by omega, (matchLong l[i].rex t p).toNat, by omega, by omega, gg⟩
      · rw [if_neg c] at gg
        simp [g0, g1, g6, gH, g7, g8, g9, g25, g26, g27, getI hi, hi, encRule, c, hw, hne]
        exact ⟨m'' - 1, by omega, i + 1, by omega, m, by omega, by omega, gg⟩
    · have hb : bestF l t p = (b, m) := by rw [gg, List.drop_eq_nil_of_le (by omega)]; rfl
      simp [g0, g1, g6, gH, g7, g8, g9, g25, g26, g27, hi]
      refine gif_intro (fun c3 => ?_) (fun c3 => ?_) <;> simp [g0, g1, g6, gH, g7, g8, g9, g25, g26, g27, hi, c3]
      · rw [toksF_end (p := p) (by rw [hb]; simp; omega)] at hh
        refine TWoH.call (tc_copiedTok acc (by omega)) callable_121 (by simp [g6, gH]) (by simp) (by simp) fun k hk => ?_
        simp [g7, hh]
        exact Turn.same (by simp)
      · rw [hb] at hb1 hb2
        have c4 := hb1 (by simp; omega)
        simp only at c4 hb2
        have hw : IntKind.i64.wrap ((p : Int) + m) = (p : Int) + m := wrapi (by omega)
        rw [toksF_next (p := p) hp (by rw [hb]; simp; omega) (by rw [hb]; exact c4), hb] at hh
        have k1 : (acc.length + 1) * 24 ≤ 140737488355328 := by omega
        have k2 : acc.length ≤ 9223372036854775806 := by omega
        simp [g0, g1, g6, gH, g7, g8, g9, g25, g26, g27, hw, k1, k2]
        refine gall_intro fun id' hid' => ?_
        simp [g0, g1, g6, gH, g7, g8, g9, g25, g26, g27, hw]
        exact ⟨t.length - (p + m), by omega, p + m, by omega, acc ++ [(b, (p : Int), ((p + m : Nat) : Int))], by simp [encTok], by omega, by simp; omega, by rw [hh]; simp⟩
  · rw [toksF_end (p := p) (by omega)] at hh
    simp [h0, h1, h6, h7, hH, hp, hh]
    refine TWoH.call (tc_copiedTok acc (by omega)) callable_121 (by simp [h6, hH]) (by simp) (by simp) fun k hk => ?_
    simp [h0, h1, h6, h7, hH, hp, hh]
    refine Turn.same ?_
    simp
end Go.Proofs.YtdomnlnanbekaaaGreatDoor.R

open Go Go.Proofs.YtdomnlnanbekaaaGreatDoor.T
namespace Go.Proofs.YtdomnlnanbekaaaGreatDoor.R
set_option maxHeartbeats 4000000
set_option maxRecDepth 100000
set_option linter.unusedSimpArgs false
set_option linter.unusedVariables false
attribute [local simp] bsV bsRows chunk fillT partsT appV makeV rowsOf cellsOf placeOf
/-- One list as far as i, another from there on. -/
def mix {α : Type _} (A B : List α) (i : Nat) : List α := A.take i ++ B.drop i
section
variable {α : Type _} {A B : List α} {i : Nat}
@[simp] theorem mix_zero : mix A B 0 = B := by simp [mix]
@[simp] theorem mix_len (h : A.length = B.length) (hi : i ≤ B.length) : (mix A B i).length = B.length := by simp [mix]; omega
theorem mix_all (h : A.length = B.length) (hi : B.length ≤ i) : mix A B i = A := by
  unfold mix; rw [List.take_of_length_le (by omega), List.drop_eq_nil_of_le hi, List.append_nil]
theorem mix_at (h : A.length = B.length) (hi : i < B.length) : (mix A B i)[i]? = some B[i] := by
  unfold mix
  rw [List.getElem?_append_right (by simp; omega)]
  simp [List.getElem?_drop, Nat.min_eq_left (show i ≤ A.length by omega)]
theorem mix_at' (h : A.length = B.length) (hi : i < B.length) (hh : i < (mix A B i).length) : (mix A B i)[i] = B[i] := by
  have := mix_at h hi
  rw [List.getElem?_eq_getElem hh] at this
  exact Option.some.inj this
theorem mix_set (h : A.length = B.length) (hi : i < B.length) {x : α} (hx : A[i]? = some x) : (mix A B i).set i x = mix A B (i + 1) := by
  apply List.ext_getElem?
  intro j
  unfold mix
  rw [List.getElem?_set]
  by_cases e : i = j
  · subst e
    rw [if_pos rfl, if_pos (by simp; omega), List.getElem?_append_left (by simp; omega)]
    simp [List.getElem?_take, hx]
  · rw [if_neg e]
    by_cases h' : j < i
    · rw [List.getElem?_append_left (by simp; omega), List.getElem?_append_left (by simp; omega)]
      simp [List.getElem?_take, h', show j < i + 1 by omega]
    · rw [List.getElem?_append_right (by simp; omega), List.getElem?_append_right (by simp; omega)]
      simp [List.getElem?_drop]
      congr 1; omega
end
def mkTok (k : Int) (i : Nat) : Tok := (k + 3 * i, k + 3 * i + 1, k + 3 * i + 2)
def mkToks (k : Int) (n : Nat) : List Tok := (List.range n).map (mkTok k)
@[simp] theorem mkToks_len (k : Int) (n : Nat) : (mkToks k n).length = n := by simp [mkToks]
theorem mkToks_at {k : Int} {n i : Nat} (h : i < n) : (mkToks k n)[i]? = some (mkTok k i) := by simp [mkToks, h]
/-- Spans are marked: how they read then does not matter. -/
theorem tcr_markSpanS (l : List (Int × Int)) (k : Int) (h0 : 0 ≤ k) (hk : k + 2 * l.length ≤ 1152921504606846976) : TCR Tryz.prog 86 [.hd 0, .val (.int .i64 k)] [.own 118 (l.map encSp)] (fun r o => r = .val (.int .i64 (k + 2 * l.length)) ∧ ∃ l' : List (Int × Int), o = [.own 118 (l'.map encSp)]) := by
  refine TCR.enter Tryz.func86 rfl (by simp [Tryz.ntmps86]) rfl (tw_sound (ρ := []) ?_)
  rw [Tryz.ntmps86]
  simp
  refine TWcH.loop [] (fun m s => ∃ (i : Nat) (l' : List (Int × Int)), i + m = l.length ∧ l'.length = l.length ∧ s.σ 0 = .hd 0 ∧ s.σ 1 = .val (.int .i64 (k + 2 * i)) ∧ s.σ 5 = .val (.int .i64 i) ∧ s.H 0 = some (.own 118 (l'.map encSp))) l.length ⟨0, l, by simp⟩ ?_
  rintro m ⟨σ, H⟩ ⟨i, l', him, hl', g0, g1, g5, gH⟩
  simp only at g0 g1 g5 gH
  by_cases hi : i < l.length
  · have hw : IntKind.i64.wrap ((i : Int) + 1) = i + 1 := wrapi (by omega)
    have e1 : IntKind.i64.wrap (k + 2 * i + 1) = k + 2 * i + 1 := wrapi (by omega)
    have e2 : IntKind.i64.wrap (k + 2 * i + 1 + 1) = k + 2 * i + 2 := by rw [wrapi (by omega)]; omega
    have hi' : i < l'.length := by omega
    simp [g0, g1, g5, gH, hi, hi', hl', hw, e1, e2, encSp]
    exact ⟨m - 1, by omega, i + 1, by omega, l'.set i (k + 2 * i, k + 2 * i + 1), by simp [hl'], by omega, by omega, by rw [List.map_set]; simp [encSp]⟩
  · obtain rfl : i = l.length := by omega
    simp [g0, g1, g5, gH, hl']
    exact ⟨_, _, ⟨rfl, rfl⟩, by simp, by simp [gH], rfl, l', by simp [gH]⟩
end Go.Proofs.YtdomnlnanbekaaaGreatDoor.R

open Go Go.Proofs.YtdomnlnanbekaaaGreatDoor.T
namespace Go.Proofs.YtdomnlnanbekaaaGreatDoor.R
set_option maxHeartbeats 4000000
set_option maxRecDepth 100000
set_option linter.unusedSimpArgs false
set_option linter.unusedVariables false
attribute [local simp] bsV bsRows chunk fillT partsT appV makeV rowsOf cellsOf placeOf
mutual
def oRex : Rex → List TV
  | .mk k s l => [.val (.int .i64 k), .own 118 (s.map encSp), .own 37 (oRexL l)]
def oRexL : List Rex → List (List TV)
  | [] => []
  | r :: l => oRex r :: oRexL l
end
theorem oRexL_eq : ∀ l : List Rex, oRexL l = l.map oRex
  | [] => rfl
  | r :: l => by simp [oRexL, oRexL_eq l]
@[simp] theorem len_orex (r : Rex) : (oRex r).length = 3 := by cases r; simp [oRex]
@[simp] theorem noRoR_S (l : List (Int × Int)) : noRoR (l.map encSp) = true := by induction l <;> simp [encSp, *]
mutual
theorem noH_orex : ∀ r : Rex, noHL (oRex r) = true
  | .mk k s l => by simp [oRex, noHR_orex l]
theorem noHR_orex : ∀ l : List Rex, noHR (oRexL l) = true
  | [] => by simp [oRexL]
  | r :: l => by simp [oRexL, noH_orex r, noHR_orex l]
end
mutual
theorem noRo_orex : ∀ r : Rex, noRoL (oRex r) = true
  | .mk k s l => by simp [oRex, noRoR_orex l]
theorem noRoR_orex : ∀ l : List Rex, noRoR (oRexL l) = true
  | [] => by simp [oRexL]
  | r :: l => by simp [oRexL, noRo_orex r, noRoR_orex l]
end
mutual
theorem roL_orex : ∀ r : Rex, roL (oRex r) = encRex r
  | .mk k s l => by simp [oRex, encRex, roRows_orex l]
theorem roRows_orex : ∀ l : List Rex, roRows (oRexL l) = encRexL l
  | [] => by simp [oRexL, encRexL]
  | r :: l => by simp [oRexL, encRexL, roL_orex r, roRows_orex l]
end
attribute [simp] noH_orex noHR_orex noRo_orex noRoR_orex roL_orex roRows_orex
@[simp] theorem noHR_orexs (l : List Rex) : noHR (l.map oRex) = true := by rw [← oRexL_eq]; simp
@[simp] theorem noRoR_orexs (l : List Rex) : noRoR (l.map oRex) = true := by rw [← oRexL_eq]; simp
@[simp] theorem roRows_orexs (l : List Rex) : roRows (l.map oRex) = l.map encRex := by rw [← oRexL_eq, ← encRexL_eq]; simp
theorem tc_toRexSO (l : List Rex) (hl : l.length ≤ 1048576) (ih : ∀ i (h : i < l.length), TC Tryz.prog 48 [.agg (encRex l[i])] [] (.agg (oRex l[i])) []) : TC Tryz.prog 117 [.ro (l.map encRex)] [] (.own 37 (l.map oRex)) [] := by
  refine TC.enter Tryz.func117 rfl (by simp [Tryz.ntmps117]) rfl (tw_sound (ρ := []) ?_)
  rw [Tryz.ntmps117]
  simp [makeV]
  rw [gif_pos (by omega)]
  refine gall_intro fun id hid => ?_
  simp
  refine TWcH.loopS [] (fun m s => ∃ i, i + m = l.length ∧ s.σ 0 = .ro (l.map encRex) ∧ s.σ 3 = .hd id ∧ s.σ 4 = .val (.int .i64 i) ∧ s.H id = some (.own 37 (fillR oRex [.val (.int .i64 0), .val (.slice none 0 0), .val (.slice none 0 0)] l i))) l.length ⟨0, by simp⟩ ?_
  rintro m ⟨σ, H⟩ ⟨i, him, h0, h3, h4, hH⟩
  simp only at h0 h3 h4 hH
  refine tw_sound (ρ := []) ?_
  by_cases hi : i < l.length
  · have hw := hw1 hi (by omega)
    simp [h0, h3, h4, getI hi, hi]
    have hih := ih i hi
    have hset := fillR_set (enc := oRex) (z := [.val (.int .i64 0), .val (.slice none 0 0), .val (.slice none 0 0)]) hi
    generalize l[i] = r at hih hset
    obtain ⟨kk, ss, ks⟩ := r
    refine TWoH.call hih callable_48 (by simp [*]) (by simp) (by simp) fun k hk => ?_
    have n1 : ¬ id = k := fun e => by have := hk k (Nat.le_refl _); rw [← e] at this; simp [hH] at this
    have n2 : ¬ id = k + 1 := fun e => by have := hk (k + 1) (by omega); rw [← e] at this; simp [hH] at this
    simp [h0, h3, h4, hH, hi, oRex, n1, n2, fillR_at hi, fillR_at' hi, fillR_len (Nat.le_of_lt hi), hw]
    refine ⟨m - 1, by omega, _, Shift.fold2x id k (k + 1) 37 i 1 2 ((fillR oRex [.val (.int .i64 0), .val (.slice none 0 0), .val (.slice none 0 0)] l i).set i [.val (.int .i64 kk), .hd k, .hd (k + 1)]) [.val (.int .i64 kk), .hd k, .hd (k + 1)] (.own 118 (ss.map encSp)) (.own 37 (oRexL ks)) n1 n2 (by omega) (by omega) (by simp) (by simp [fillR_len (Nat.le_of_lt hi), hi]) (by simp) (by simp) (by simp [n1, Ne.symm n1]) (by simp [n2, Ne.symm n2]), i + 1, by omega, ?_⟩
    simp [h0, h3]
    rw [← hset]; simp [oRex]

  · simp [h0, h3, h4, hH, hi, fillR_all (Nat.le_of_not_lt hi)]
mutual
theorem tc_toRexO : ∀ (r : Rex), Sm r → TC Tryz.prog 48 [.agg (encRex r)] [] (.agg (oRex r)) []
  | .mk k s l, hs => by
    refine TC.enter Tryz.func48 rfl (by simp [Tryz.ntmps48]) rfl (tw_sound (ρ := [1]) ?_)
    rw [Tryz.ntmps48]
    simp [encRex]
    refine gall_intro fun a ha => ?_
    simp
    refine gall_intro fun b hb => ?_
    simp at hb
    simp [hb, Ne.symm hb]
    refine TWoH.call (tc_toSpanS s hs.1) callable_116 (by simp [*]) (by simp) (by simp) fun c hc => ?_
    have c1 : ¬ a = c := fun e => by have := hc c (Nat.le_refl _); rw [← e] at this; simp [hb, Ne.symm hb] at this
    have c2 : ¬ b = c := fun e => by have := hc c (Nat.le_refl _); rw [← e] at this; simp [hb, Ne.symm hb] at this
    simp [hb, Ne.symm hb, c1, c2, Ne.symm c1, Ne.symm c2]
    refine TWoH.call (tc_toRexSO l hs.2.1 (tc_toRexOL l hs.2.2)) callable_117 (by simp [*, encRexL_eq]) (by simp) (by simp) fun d hd => ?_
    have d1 : ¬ a = d := fun e => by have := hd d (Nat.le_refl _); rw [← e] at this; simp [hb, Ne.symm hb, c1, c2] at this
    have d2 : ¬ b = d := fun e => by have := hd d (Nat.le_refl _); rw [← e] at this; simp [hb, Ne.symm hb, c1, c2] at this
    have d3 : ¬ c = d := fun e => by have := hd d (Nat.le_refl _); rw [← e] at this; simp [hb, Ne.symm hb, c1, c2, Ne.symm c1, Ne.symm c2] at this
    simp [hb, Ne.symm hb, c1, c2, Ne.symm c1, Ne.symm c2, d1, d2, d3, Ne.symm d1, Ne.symm d2, Ne.symm d3, oRex, oRexL_eq]
theorem tc_toRexOL : ∀ (l : List Rex), SmL l → ∀ i (h : i < l.length), TC Tryz.prog 48 [.agg (encRex l[i])] [] (.agg (oRex l[i])) []
  | r :: l, hs, 0, _ => tc_toRexO r hs.1
  | r :: l, hs, i + 1, h => by
    simp only [List.getElem_cons_succ]
    exact tc_toRexOL l hs.2 i (by simpa using h)
end
def oRule (r : Rule) : List TV := .val (.string (bs r.name)) :: oRex r.rex
@[simp] theorem len_orule (r : Rule) : (oRule r).length = 4 := by simp [oRule]
@[simp] theorem roL_orule (r : Rule) : roL (oRule r) = encRule r := by simp [oRule, encRule]
@[simp] theorem noH_orule (r : Rule) : noHL (oRule r) = true := by simp [oRule]
@[simp] theorem noRo_orule (r : Rule) : noRoL (oRule r) = true := by simp [oRule]
@[simp] theorem noHR_orules (l : List Rule) : noHR (l.map oRule) = true := by induction l <;> simp [*]
@[simp] theorem noRoR_orules (l : List Rule) : noRoR (l.map oRule) = true := by induction l <;> simp [*]
@[simp] theorem roRows_orules (l : List Rule) : roRows (l.map oRule) = l.map encRule := by induction l <;> simp [*]
theorem tc_toRuleO (r : Rule) (hs : Sm r.rex) : TC Tryz.prog 80 [.agg (encRule r)] [] (.agg (oRule r)) [] := by
  refine TC.enter Tryz.func80 rfl (by simp [Tryz.ntmps80]) rfl (tw_sound (ρ := [1]) ?_)
  rw [Tryz.ntmps80]
  simp [encRule]
  refine gall_intro fun a ha => ?_
  simp
  refine gall_intro fun b hb => ?_
  simp at hb
  simp [hb, Ne.symm hb]
  have h := tc_toRexO r.rex hs
  obtain ⟨nm, rx⟩ := r
  obtain ⟨kk, ss, ks⟩ := rx
  refine TWoH.call h callable_48 (by simp [*]) (by simp) (by simp) fun c hc => ?_
  have c1 : ¬ a = c := fun e => by have := hc c (Nat.le_refl _); rw [← e] at this; simp [hb, Ne.symm hb] at this
  have c2 : ¬ b = c := fun e => by have := hc c (Nat.le_refl _); rw [← e] at this; simp [hb, Ne.symm hb] at this
  have d1 : ¬ a = c + 1 := fun e => by have := hc (c + 1) (by omega); rw [← e] at this; simp [hb, Ne.symm hb] at this
  have d2 : ¬ b = c + 1 := fun e => by have := hc (c + 1) (by omega); rw [← e] at this; simp [hb, Ne.symm hb] at this
  simp [hb, Ne.symm hb, c1, c2, Ne.symm c1, Ne.symm c2, d1, d2, Ne.symm d1, Ne.symm d2, oRule, oRex]
theorem tc_toRuleSO (l : List Rule) (hl : l.length ≤ 1048576) (hs : ∀ r ∈ l, Sm r.rex) : TC Tryz.prog 20 [.ro (l.map encRule)] [] (.own 41 (l.map oRule)) [] := by
  refine TC.enter Tryz.func20 rfl (by simp [Tryz.ntmps20]) rfl (tw_sound (ρ := []) ?_)
  rw [Tryz.ntmps20]
  simp [makeV]
  rw [gif_pos (by omega)]
  refine gall_intro fun id hid => ?_
  simp
  refine TWcH.loopS [] (fun m s => ∃ i, i + m = l.length ∧ s.σ 0 = .ro (l.map encRule) ∧ s.σ 3 = .hd id ∧ s.σ 4 = .val (.int .i64 i) ∧ s.H id = some (.own 41 (fillR oRule [.val (.string (bs [])), .val (.int .i64 0), .val (.slice none 0 0), .val (.slice none 0 0)] l i))) l.length ⟨0, by simp⟩ ?_
  rintro m ⟨σ, H⟩ ⟨i, him, h0, h3, h4, hH⟩
  simp only at h0 h3 h4 hH
  refine tw_sound (ρ := []) ?_
  by_cases hi : i < l.length
  · have hw := hw1 hi (by omega)
    simp [h0, h3, h4, getI hi, hi]
    have hih := tc_toRuleO l[i] (hs _ (List.getElem_mem hi))
    have hset := fillR_set (enc := oRule) (z := [.val (.string (bs [])), .val (.int .i64 0), .val (.slice none 0 0), .val (.slice none 0 0)]) hi
    generalize l[i] = r at hih hset
    obtain ⟨nm, rx⟩ := r
    obtain ⟨kk, ss, ks⟩ := rx
    refine TWoH.call hih callable_80 (by simp [*]) (by simp) (by simp) fun k hk => ?_
    have n1 : ¬ id = k := fun e => by have := hk k (Nat.le_refl _); rw [← e] at this; simp [hH] at this
    have n2 : ¬ id = k + 1 := fun e => by have := hk (k + 1) (by omega); rw [← e] at this; simp [hH] at this
    simp [h0, h3, h4, hH, hi, oRule, oRex, n1, n2, fillR_at hi, fillR_at' hi, fillR_len (Nat.le_of_lt hi), hw]
    refine ⟨m - 1, by omega, _, Shift.fold2x id k (k + 1) 41 i 2 3 ((fillR oRule [.val (.string (bs [])), .val (.int .i64 0), .val (.slice none 0 0), .val (.slice none 0 0)] l i).set i [.val (.string (bs nm)), .val (.int .i64 kk), .hd k, .hd (k + 1)]) [.val (.string (bs nm)), .val (.int .i64 kk), .hd k, .hd (k + 1)] (.own 118 (ss.map encSp)) (.own 37 (oRexL ks)) n1 n2 (by omega) (by omega) (by simp) (by simp [fillR_len (Nat.le_of_lt hi), hi]) (by simp) (by simp) (by simp [n1, Ne.symm n1]) (by simp [n2, Ne.symm n2]), i + 1, by omega, ?_⟩
    simp [h0, h3]
    rw [← hset]; simp [oRule, oRex]
  · simp [h0, h3, h4, hH, hi, fillR_all (Nat.le_of_not_lt hi)]
end Go.Proofs.YtdomnlnanbekaaaGreatDoor.R

open Go Go.Proofs.YtdomnlnanbekaaaGreatDoor.T
namespace Go.Proofs.YtdomnlnanbekaaaGreatDoor.R
set_option maxHeartbeats 4000000
set_option maxRecDepth 100000
set_option linter.unusedSimpArgs false
set_option linter.unusedVariables false
attribute [local simp] bsV bsRows chunk fillT partsT appV makeV rowsOf cellsOf placeOf
@[simp] theorem noRo_S (r : Int × Int) : noRoL (encSp r) = true := by simp [encSp]
theorem fresh_ne {H : Nat → Option TV} {i k j : Nat} (hk : ∀ j, k ≤ j → H j = none) (hi : (H i).isSome = true) (hj : k ≤ j) : ¬ i = j := fun e => by rw [e, hk j hj] at hi; cases hi
def encIn (x : Int) : List TV := [.val (.int .i64 x)]

def encP (s : List (Int × Int)) : List TV := [.ro (s.map encSp)]
def encR (r : List Int) : List TV := [.ro (r.map encIn)]
@[simp] theorem len_encI (r : Int) : (encIn r).length = 1 := by simp [encIn]
@[simp] theorem take_encI (r : Int) : (encIn r).take 1 = encIn r := by simp [encIn]
@[simp] theorem plain_encI (r : Int) : (encIn r).all TV.plain = true := by simp [encIn]
@[simp] theorem pc_encI (r : Int) : (encIn r).all TV.pc = true := by simp [encIn, TV.pc, TV.cell, Value.oneCell']
@[simp] theorem noH_encI (r : Int) : noHL (encIn r) = true := by simp [encIn]
@[simp] theorem argTL_encI {H : Nat → Option TV} {ρ : List Nat} (r : Int) : argTL H ρ (encIn r) = some (encIn r) := by simp [encIn]
@[simp] theorem views_encI {ρ : List Nat} (r : Int) : (encIn r).flatMap (views1 ρ) = [] := by simp [encIn]
@[simp] theorem opnL_encI {k : Nat} (r : Int) : opnL k (encIn r) = (encIn r, []) := by simp [encIn]
@[simp] theorem closeL_encI {H : Nat → Option TV} (r : Int) : closeL H (encIn r) = some (encIn r, H) := by simp [encIn]
@[simp] theorem roL_encI (r : Int) : roL (encIn r) = encIn r := by simp [encIn]
@[simp] theorem noHR_encI (l : List Int) : noHR (l.map encIn) = true := by induction l <;> simp [*]
@[simp] theorem roRows_encI (l : List Int) : roRows (l.map encIn) = l.map encIn := by induction l <;> simp [*]
@[simp] theorem noRo_encI (r : Int) : noRoL (encIn r) = true := by simp [encIn]
@[simp] theorem noRoR_encI (l : List Int) : noRoR (l.map encIn) = true := by induction l <;> simp [*]
theorem rl_encI (l : List Int) : ∀ r ∈ l.map encIn, r.length = 1 := by
  intro r hr
  obtain ⟨x, _, rfl⟩ := List.mem_map.1 hr
  simp
@[simp] theorem len_encB (r : Bool) : (encB r).length = 1 := by simp [encB]
@[simp] theorem take_encB (r : Bool) : (encB r).take 1 = encB r := by simp [encB]
@[simp] theorem plain_encB (r : Bool) : (encB r).all TV.plain = true := by simp [encB]
@[simp] theorem pc_encB (r : Bool) : (encB r).all TV.pc = true := by simp [encB, TV.pc, TV.cell, Value.oneCell']
@[simp] theorem noH_encB (r : Bool) : noHL (encB r) = true := by simp [encB]
@[simp] theorem argTL_encB {H : Nat → Option TV} {ρ : List Nat} (r : Bool) : argTL H ρ (encB r) = some (encB r) := by simp [encB]
@[simp] theorem views_encB {ρ : List Nat} (r : Bool) : (encB r).flatMap (views1 ρ) = [] := by simp [encB]
@[simp] theorem opnL_encB {k : Nat} (r : Bool) : opnL k (encB r) = (encB r, []) := by simp [encB]
@[simp] theorem closeL_encB {H : Nat → Option TV} (r : Bool) : closeL H (encB r) = some (encB r, H) := by simp [encB]
@[simp] theorem roL_encB (r : Bool) : roL (encB r) = encB r := by simp [encB]
@[simp] theorem noHR_encB (l : List Bool) : noHR (l.map encB) = true := by induction l <;> simp [*]
@[simp] theorem roRows_encB (l : List Bool) : roRows (l.map encB) = l.map encB := by induction l <;> simp [*]
@[simp] theorem noRo_encB (r : Bool) : noRoL (encB r) = true := by simp [encB]
@[simp] theorem noRoR_encB (l : List Bool) : noRoR (l.map encB) = true := by induction l <;> simp [*]
theorem rl_encB (l : List Bool) : ∀ r ∈ l.map encB, r.length = 1 := by
  intro r hr
  obtain ⟨x, _, rfl⟩ := List.mem_map.1 hr
  simp
@[simp] theorem len_encP (r : List (Int × Int)) : (encP r).length = 1 := by simp [encP]
@[simp] theorem take_encP (r : List (Int × Int)) : (encP r).take 1 = encP r := by simp [encP]
@[simp] theorem plain_encP (r : List (Int × Int)) : (encP r).all TV.plain = true := by simp [encP]
@[simp] theorem pc_encP (r : List (Int × Int)) : (encP r).all TV.pc = true := by simp [encP, TV.pc, TV.cell, Value.oneCell']
@[simp] theorem noH_encP (r : List (Int × Int)) : noHL (encP r) = true := by simp [encP]
@[simp] theorem argTL_encP {H : Nat → Option TV} {ρ : List Nat} (r : List (Int × Int)) : argTL H ρ (encP r) = some (encP r) := by simp [encP]
@[simp] theorem views_encP {ρ : List Nat} (r : List (Int × Int)) : (encP r).flatMap (views1 ρ) = [] := by simp [encP]
@[simp] theorem opnL_encP {k : Nat} (r : List (Int × Int)) : opnL k (encP r) = (encP r, []) := by simp [encP]
@[simp] theorem closeL_encP {H : Nat → Option TV} (r : List (Int × Int)) : closeL H (encP r) = some (encP r, H) := by simp [encP]
@[simp] theorem roL_encP (r : List (Int × Int)) : roL (encP r) = encP r := by simp [encP]
@[simp] theorem noHR_encP (l : List (List (Int × Int))) : noHR (l.map encP) = true := by induction l <;> simp [*]
@[simp] theorem roRows_encP (l : List (List (Int × Int))) : roRows (l.map encP) = l.map encP := by induction l <;> simp [*]
theorem rl_encP (l : List (List (Int × Int))) : ∀ r ∈ l.map encP, r.length = 1 := by
  intro r hr
  obtain ⟨x, _, rfl⟩ := List.mem_map.1 hr
  simp
@[simp] theorem len_encR (r : List Int) : (encR r).length = 1 := by simp [encR]
@[simp] theorem take_encR (r : List Int) : (encR r).take 1 = encR r := by simp [encR]
@[simp] theorem plain_encR (r : List Int) : (encR r).all TV.plain = true := by simp [encR]
@[simp] theorem pc_encR (r : List Int) : (encR r).all TV.pc = true := by simp [encR, TV.pc, TV.cell, Value.oneCell']
@[simp] theorem noH_encR (r : List Int) : noHL (encR r) = true := by simp [encR]
@[simp] theorem argTL_encR {H : Nat → Option TV} {ρ : List Nat} (r : List Int) : argTL H ρ (encR r) = some (encR r) := by simp [encR]
@[simp] theorem views_encR {ρ : List Nat} (r : List Int) : (encR r).flatMap (views1 ρ) = [] := by simp [encR]
@[simp] theorem opnL_encR {k : Nat} (r : List Int) : opnL k (encR r) = (encR r, []) := by simp [encR]
@[simp] theorem closeL_encR {H : Nat → Option TV} (r : List Int) : closeL H (encR r) = some (encR r, H) := by simp [encR]
@[simp] theorem roL_encR (r : List Int) : roL (encR r) = encR r := by simp [encR]
@[simp] theorem noHR_encR (l : List (List Int)) : noHR (l.map encR) = true := by induction l <;> simp [*]
@[simp] theorem roRows_encR (l : List (List Int)) : roRows (l.map encR) = l.map encR := by induction l <;> simp [*]
theorem rl_encR (l : List (List Int)) : ∀ r ∈ l.map encR, r.length = 1 := by
  intro r hr
  obtain ⟨x, _, rfl⟩ := List.mem_map.1 hr
  simp
def oP (s : List (Int × Int)) : List TV := [.own 118 (s.map encSp)]
def oR (r : List Int) : List TV := [.own 3 (r.map encIn)]
@[simp] theorem len_oP (r : List (Int × Int)) : (oP r).length = 1 := by simp [oP]
@[simp] theorem noH_oP (r : List (Int × Int)) : noHL (oP r) = true := by simp [oP]
@[simp] theorem noRo_oP (r : List (Int × Int)) : noRoL (oP r) = true := by simp [oP]
@[simp] theorem roL_oP (r : List (Int × Int)) : roL (oP r) = encP r := by simp [oP, encP]
@[simp] theorem noHR_oP (l : List (List (Int × Int))) : noHR (l.map oP) = true := by induction l <;> simp [*]
@[simp] theorem noRoR_oP (l : List (List (Int × Int))) : noRoR (l.map oP) = true := by induction l <;> simp [*]
@[simp] theorem roRows_oP (l : List (List (Int × Int))) : roRows (l.map oP) = l.map encP := by induction l <;> simp [*]
@[simp] theorem len_oR (r : List Int) : (oR r).length = 1 := by simp [oR]
@[simp] theorem noH_oR (r : List Int) : noHL (oR r) = true := by simp [oR]
@[simp] theorem noRo_oR (r : List Int) : noRoL (oR r) = true := by simp [oR]
@[simp] theorem roL_oR (r : List Int) : roL (oR r) = encR r := by simp [oR, encR]
@[simp] theorem noHR_oR (l : List (List Int)) : noHR (l.map oR) = true := by induction l <;> simp [*]
@[simp] theorem noRoR_oR (l : List (List Int)) : noRoR (l.map oR) = true := by induction l <;> simp [*]
@[simp] theorem roRows_oR (l : List (List Int)) : roRows (l.map oR) = l.map encR := by induction l <;> simp [*]
structure Dfa where
  parts : List (List (Int × Int))
  rows : List (List Int)
  acc : List Int
def encDfa (d : Dfa) : List TV := [.ro (d.parts.map encP), .ro (d.rows.map encR), .ro (d.acc.map encIn)]
def oDfa (d : Dfa) : List TV := [.own 34 (d.parts.map oP), .own 27 (d.rows.map oR), .own 3 (d.acc.map encIn)]
@[simp] theorem len_encDfa (r : Dfa) : (encDfa r).length = 3 := by simp [encDfa]
@[simp] theorem take_encDfa (r : Dfa) : (encDfa r).take 3 = encDfa r := by simp [encDfa]
@[simp] theorem plain_encDfa (r : Dfa) : (encDfa r).all TV.plain = true := by simp [encDfa]
@[simp] theorem pc_encDfa (r : Dfa) : (encDfa r).all TV.pc = true := by simp [encDfa, TV.pc, TV.cell, Value.oneCell']
@[simp] theorem noH_encDfa (r : Dfa) : noHL (encDfa r) = true := by simp [encDfa]
@[simp] theorem argTL_encDfa {H : Nat → Option TV} {ρ : List Nat} (r : Dfa) : argTL H ρ (encDfa r) = some (encDfa r) := by simp [encDfa]
@[simp] theorem views_encDfa {ρ : List Nat} (r : Dfa) : (encDfa r).flatMap (views1 ρ) = [] := by simp [encDfa]
@[simp] theorem opnL_encDfa {k : Nat} (r : Dfa) : opnL k (encDfa r) = (encDfa r, []) := by simp [encDfa]
@[simp] theorem closeL_encDfa {H : Nat → Option TV} (r : Dfa) : closeL H (encDfa r) = some (encDfa r, H) := by simp [encDfa]
@[simp] theorem roL_encDfa (r : Dfa) : roL (encDfa r) = encDfa r := by simp [encDfa]
@[simp] theorem noHR_encDfa (l : List Dfa) : noHR (l.map encDfa) = true := by induction l <;> simp [*]
@[simp] theorem roRows_encDfa (l : List Dfa) : roRows (l.map encDfa) = l.map encDfa := by induction l <;> simp [*]
theorem rl_encDfa (l : List Dfa) : ∀ r ∈ l.map encDfa, r.length = 3 := by
  intro r hr
  obtain ⟨x, _, rfl⟩ := List.mem_map.1 hr
  simp
@[simp] theorem len_oDfa (r : Dfa) : (oDfa r).length = 3 := by simp [oDfa]
@[simp] theorem noH_oDfa (r : Dfa) : noHL (oDfa r) = true := by simp [oDfa]
@[simp] theorem noRo_oDfa (r : Dfa) : noRoL (oDfa r) = true := by simp [oDfa]
@[simp] theorem roL_oDfa (r : Dfa) : roL (oDfa r) = encDfa r := by simp [oDfa, encDfa]
@[simp] theorem noHR_oDfa (l : List Dfa) : noHR (l.map oDfa) = true := by induction l <;> simp [*]
@[simp] theorem noRoR_oDfa (l : List Dfa) : noRoR (l.map oDfa) = true := by induction l <;> simp [*]
@[simp] theorem roRows_oDfa (l : List Dfa) : roRows (l.map oDfa) = l.map encDfa := by induction l <;> simp [*]
/-- The sizes one behind the other. -/
def szLoopN : List Nat → Int → Int
  | [], a => a
  | n :: ns, a => if szN n a < 0 then -1 else szLoopN ns (szN n a)
def szSSF (ns : List Nat) (left : Int) : Int := if IntKind.i64.wrap (left - ns.length) < 0 then -1 else szLoopN ns (IntKind.i64.wrap (left - ns.length))
theorem szLoopN_drop {ns : List Nat} {i : Nat} (h : i < ns.length) (a : Int) : szLoopN (ns.drop i) a = if szN ns[i] a < 0 then -1 else szLoopN (ns.drop (i + 1)) (szN ns[i] a) := by
  conv => lhs; rw [List.drop_eq_getElem_cons h]
  rw [szLoopN]
def szDfaF (d : Dfa) (left : Int) : Int :=
  let a := szSSF (d.parts.map List.length) left
  if a < 0 then -1 else
  let b := szSSF (d.rows.map List.length) a
  if b < 0 then -1 else
  let c := szN d.acc.length b
  if c < 0 then -1 else c
/-- A machine is small. -/
structure DSm (d : Dfa) : Prop where
  parts : d.parts.length ≤ 1048576
  rows : d.rows.length ≤ 1048576
  acc : d.acc.length ≤ 1048576
  part : ∀ x ∈ d.parts, x.length ≤ 1048576
  row : ∀ x ∈ d.rows, x.length ≤ 1048576
end Go.Proofs.YtdomnlnanbekaaaGreatDoor.R
