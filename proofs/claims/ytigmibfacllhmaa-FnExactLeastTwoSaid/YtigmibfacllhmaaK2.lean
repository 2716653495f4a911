/- FnExactLeastTwo, part 2: what the walk of the code stands on. Conditions: none but those that each theorem states. -/
import Derived.Test.YtigmibfacllhmaaK1
open Go Go.Proofs.Ytigmibfacllhmaa.T
namespace Go.Proofs.Ytigmibfacllhmaa.R
set_option maxHeartbeats 2000000
set_option linter.unusedSimpArgs false
set_option linter.unusedVariables false
set_option maxRecDepth 100000
def nm (l : List Rule) (j : Nat) : List UInt8 := match l[j]? with
  | some r => r.name
  | none => []
def newN (l : List Rule) (i k : Nat) : Bool := (List.range' k (i - k)).all fun j => decide (nm l j ≠ nm l i)
theorem newN_next {l : List Rule} {i k : Nat} (h : k < i) : newN l i k = (decide (nm l k ≠ nm l i) && newN l i (k + 1)) := by
  unfold newN
  rw [show i - k = (i - (k + 1)) + 1 by omega, List.range'_succ, List.all_cons]
theorem newN_end {l : List Rule} {i k : Nat} (h : ¬ k < i) : newN l i k = true := by
  unfold newN
  rw [show i - k = 0 by omega]; rfl
def ruleAt (l : List Rule) (i : Nat) : Bool := (match l[i]? with
  | some r => wordOk r.name && rexOk r.rex
  | none => false) && newN l i 0
def okFrom (l : List Rule) (i : Nat) : Bool := (List.range' i (l.length - i)).all (ruleAt l)
theorem okFrom_next {l : List Rule} {i : Nat} (h : i < l.length) : okFrom l i = (ruleAt l i && okFrom l (i + 1)) := by
  unfold okFrom
  rw [show l.length - i = (l.length - (i + 1)) + 1 by omega, List.range'_succ, List.all_cons]
theorem okFrom_end {l : List Rule} {i : Nat} (h : ¬ i < l.length) : okFrom l i = true := by
  unfold okFrom
  rw [show l.length - i = 0 by omega]; rfl
def rulesOk (l : List Rule) : Bool := decide (1 ≤ l.length ∧ l.length ≤ 5) && okFrom l 0
def RSm (l : List Rule) : Prop := l.length ≤ 1048576 ∧ ∀ r ∈ l, Sm r.rex ∧ r.name.length ≤ 1048576
theorem tc_sRulesOk (l : List Rule) (hs : RSm l) : TC Try.prog 73 [.ro (l.map encRule)] [] (.val (.bool (rulesOk l))) [] := by
  refine TC.enter Try.func73 rfl (by simp [Try.ntmps73]) rfl (tw_sound (ρ := []) ?_)
  rw [Try.ntmps73]
  simp
  refine gif_intro (fun c1 => ?_) (fun c1 => ?_) <;> simp [c1]
  · simp [rulesOk]; omega
  refine gif_intro (fun c2 => ?_) (fun c2 => ?_) <;> simp [c1, c2]
  · simp [rulesOk]; omega
  have hr : rulesOk l = okFrom l 0 := by rw [rulesOk, show decide (1 ≤ l.length ∧ l.length ≤ 5) = true by simp; omega]; rfl
  refine TWcH.loop [] (fun m s => ∃ i, i + m = l.length ∧ s.σ 0 = .ro (l.map encRule) ∧ s.σ 3 = .val (.int .i64 i) ∧ okFrom l 0 = okFrom l i) l.length ⟨0, by simp⟩ ?_
  rintro m ⟨σ, H⟩ ⟨i, him, h0, h3, hh⟩
  simp only at h0 h3
  by_cases hi : i < l.length
  · rw [okFrom_next hi] at hh
    have hw := hw1 hi (by have := hs.1; omega)
    have hsi := hs.2 _ (List.getElem_mem hi)
    have ha : ruleAt l i = (wordOk l[i].name && rexOk l[i].rex && newN l i 0) := by simp [ruleAt, getI hi]
    have hni : nm l i = l[i].name := by simp [nm, getI hi]
    simp [h0, h3, getI hi, hi, encRule]
    refine TWoH.callV (tc_sRuleWord l[i].name (by omega)) callable_110 (by simp [h0, h3, getI hi, hi]) (by simp) (by simp) (by simp) ?_
    simp [h0, h3, getI hi, hi, encRule]
    refine gif_intro (fun c3 => ?_) (fun c3 => ?_) <;> simp [h0, h3, getI hi, hi, encRule, c3]
    case refine_2 => rw [hr, hh, ha, Bool.eq_false_iff.2 c3]; rfl
    refine TWoH.callV (tc_sRexOk l[i].rex hsi.1) callable_111 (by simp [h0, h3, getI hi, hi]) (by simp) (by simp) (by simp) ?_
    simp [h0, h3, getI hi, hi, encRule]
    refine gif_intro (fun c4 => ?_) (fun c4 => ?_) <;> simp [h0, h3, getI hi, hi, encRule, c3, c4]
    case refine_2 => rw [hr, hh, ha, Bool.eq_false_iff.2 c4]; simp
    rw [c3, c4] at ha
    refine TWcH.loop [] (fun m' s => ∃ k, k + m' = i ∧ s.σ 0 = .ro (l.map encRule) ∧ s.σ 3 = .val (.int .i64 i) ∧ s.σ 4 = .val (.int .i64 k) ∧ newN l i 0 = newN l i k) i ⟨0, by simp [h0, h3]⟩ ?_
    rintro m' ⟨σ, H⟩ ⟨k, hkm, g0, g3, g4, gg⟩
    simp only at g0 g3 g4
    by_cases hk : k < i
    · have hkl : k < l.length := by omega
      have hwk := hw1 hkl (by have := hs.1; omega)
      have hnk : nm l k = l[k].name := by simp [nm, getI hkl]
      rw [newN_next hk, hnk, hni] at gg
      simp [g0, g3, g4, hk, encRule]
      refine TWcH.regionD (ρ := []) [0, 1, 2, 3, 4, 5, 6, 7, 8, 9, 10] 11 mixed (by kernel_rfl) ?_
      simp [g0, g3, g4, hk, getI hi, getI hkl, hkl, hi, encRule]
      refine gif_intro (fun c5 => ?_) (fun c5 => ?_) <;> simp [g0, g3, g4, hk, getI hi, hi, encRule, c5, hwk]
      · rw [hr, hh, ha, gg]; simp [c5]
      · exact ⟨m' - 1, by omega, k + 1, by omega, by omega, by rw [gg]; simp [c5]⟩
    · have hk' : ¬ ((k : Int) < i) := by omega
      simp [g0, g3, g4, hk, hw]
      exact ⟨m - 1, by omega, i + 1, by omega, by omega, by rw [hh, ha, gg, newN_end hk]; rfl⟩
  · simp [h0, h3, hi]
    rw [hr, hh, okFrom_end hi]
def firstF (l : List Rule) (t : List UInt8) (i : Nat) : Int := match (List.range' i (l.length - i)).find? (fun j => match l[j]? with
    | some r => isF 8 r.rex t
    | none => false) with
  | some j => j
  | none => -1
theorem firstF_next {l : List Rule} {t : List UInt8} {i : Nat} (h : i < l.length) : firstF l t i = if isF 8 l[i].rex t = true then (i : Int) else firstF l t (i + 1) := by
  unfold firstF
  rw [show l.length - i = (l.length - (i + 1)) + 1 by omega, List.range'_succ, List.find?_cons]
  simp only [getI h]
  cases isF 8 l[i].rex t <;> simp
theorem firstF_end {l : List Rule} {t : List UInt8} {i : Nat} (h : ¬ i < l.length) : firstF l t i = -1 := by
  unfold firstF
  rw [show l.length - i = 0 by omega]; rfl
def rulesFirst (l : List Rule) (t : List UInt8) : Int := if rulesOk l = true ∧ t.length ≤ 12 then firstF l t 0 else -1
theorem rulesOk_form {l : List Rule} (h : rulesOk l = true) {i : Nat} (hi : i < l.length) : formF 8 l[i].rex = true := by
  simp only [rulesOk, okFrom, Bool.and_eq_true, List.all_eq_true, List.mem_range'_1] at h
  have h1 := h.2 i (by omega)
  simp only [ruleAt, getI hi, Bool.and_eq_true, rexOk] at h1
  exact h1.1.2.1
theorem tc_sRulesFirst (l : List Rule) (t : List UInt8) (hs : RSm l) : TC Try.prog 25 [.ro (l.map encRule), .val (.string (bs t))] [] (.val (.int .i64 (rulesFirst l t))) [] := by
  refine TC.enter Try.func25 rfl (by simp [Try.ntmps25]) rfl (tw_sound (ρ := []) ?_)
  rw [Try.ntmps25]
  simp
  refine TWoH.callV (tc_sRulesOk l hs) callable_73 (by simp) (by simp) (by simp) (by simp) ?_
  simp
  refine gif_intro (fun c1 => ?_) (fun c1 => ?_) <;> simp [c1]
  case refine_2 => simp [rulesFirst, c1]
  refine TWoH.callV (tc_sMatchWord t) callable_74 (by simp) (by simp) (by simp) (by simp) ?_
  simp
  refine gif_intro (fun c2 => ?_) (fun c2 => ?_) <;> simp [c2]
  case refine_2 => simp [rulesFirst, c2]
  have hr : rulesFirst l t = firstF l t 0 := by simp [rulesFirst, c1, c2]
  refine TWcH.loop [] (fun m s => ∃ i, i + m = l.length ∧ s.σ 0 = .ro (l.map encRule) ∧ s.σ 1 = .val (.string (bs t)) ∧ s.σ 5 = .val (.int .i64 i) ∧ firstF l t 0 = firstF l t i) l.length ⟨0, by simp⟩ ?_
  rintro m ⟨σ, H⟩ ⟨i, him, h0, h1, h5, hh⟩
  simp only at h0 h1 h5
  by_cases hi : i < l.length
  · rw [firstF_next hi] at hh
    have hw := hw1 hi (by have := hs.1; omega)
    have hsi := hs.2 _ (List.getElem_mem hi)
    simp [h0, h1, h5, getI hi, hi, encRule]
    refine TWoH.callV (tc_l3Is 8 l[i].rex t hsi.1 (rulesOk_form c1 hi) c2) callable_75 (by simp [h0, h1, h5]) (by simp) (by simp) (by simp) ?_
    simp [h0, h1, h5, getI hi, hi, encRule]
    refine gif_intro (fun c3 => ?_) (fun c3 => ?_) <;> simp [h0, h1, h5, getI hi, hi, encRule, c3, hw]
    · rw [hr, hh, if_pos c3]
    · exact ⟨m - 1, by omega, i + 1, by omega, by omega, by rw [hh, if_neg c3]⟩
  · simp [h0, h1, h5, hi]
    rw [hr, hh, firstF_end hi]
end Go.Proofs.Ytigmibfacllhmaa.R

open Go Go.Proofs.Ytigmibfacllhmaa.T
namespace Go.Proofs.Ytigmibfacllhmaa.R
set_option maxHeartbeats 2000000
set_option maxRecDepth 100000
set_option linter.unusedSimpArgs false
set_option linter.unusedVariables false
theorem tc_eqSpan (a : Int × Int) : TC Try.prog 136 [.agg (encS a), .agg (encS a)] [] (.val (.bool true)) [] := by
  refine TC.enter Try.func136 rfl (by simp [Try.ntmps136]) rfl (tw_sound (ρ := [2, 3]) ?_)
  rw [Try.ntmps136]
  simp [encS]
theorem tc_eqSpanS (l : List (Int × Int)) (hl : l.length ≤ 1152921504606846976) : TC Try.prog 107 [.ro (l.map encS), .ro (l.map encS)] [] (.val (.bool true)) [] := by
  refine TC.enter Try.func107 rfl (by simp [Try.ntmps107]) rfl (tw_sound (ρ := []) ?_)
  rw [Try.ntmps107]
  simp
  refine TWcH.loop [] (fun m s => ∃ i, i + m = l.length ∧ s.σ 0 = .ro (l.map encS) ∧ s.σ 1 = .ro (l.map encS) ∧ s.σ 5 = .val (.int .i64 i)) l.length ⟨0, by simp⟩ ?_
  rintro m ⟨σ, H⟩ ⟨i, him, h0, h1, h5⟩
  simp only at h0 h1 h5
  by_cases hi : i < l.length
  · have hw := hw1 hi hl
    simp [h0, h1, h5, getI hi, hi]
    refine TWcH.regionD (ρ := []) [0, 1, 2, 3, 4, 5, 6, 7, 8, 9] 10 mixed (by kernel_rfl) ?_
    simp [h0, h1, h5, getI hi, hi]
    refine TWqH.callV (tc_eqSpan l[i]) callable_136 (by simp [h0, h1, h5]) (by simp) (by simp) (by simp) ?_
    simp [h0, h1, h5, hw]
    exact ⟨m - 1, by omega, i + 1, by omega, by omega⟩
  · simp [h0, h1, h5, hi]
theorem tc_eqRexS (l : List Rex) (hl : l.length ≤ 1152921504606846976) (ih : ∀ i (h : i < l.length), TC Try.prog 118 [.agg (encRex l[i]), .agg (encRex l[i])] [] (.val (.bool true)) []) : TC Try.prog 143 [.ro (l.map encRex), .ro (l.map encRex)] [] (.val (.bool true)) [] := by
  refine TC.enter Try.func143 rfl (by simp [Try.ntmps143]) rfl (tw_sound (ρ := []) ?_)
  rw [Try.ntmps143]
  simp
  refine TWcH.loop [] (fun m s => ∃ i, i + m = l.length ∧ s.σ 0 = .ro (l.map encRex) ∧ s.σ 1 = .ro (l.map encRex) ∧ s.σ 5 = .val (.int .i64 i)) l.length ⟨0, by simp⟩ ?_
  rintro m ⟨σ, H⟩ ⟨i, him, h0, h1, h5⟩
  simp only at h0 h1 h5
  by_cases hi : i < l.length
  · have hw := hw1 hi hl
    simp [h0, h1, h5, getI hi, hi]
    refine TWcH.regionD (ρ := []) [0, 1, 2, 3, 4, 5, 6, 7, 8, 9] 10 mixed (by kernel_rfl) ?_
    simp [h0, h1, h5, getI hi, hi]
    refine TWqH.callV (ih i hi) callable_118 (by simp [h0, h1, h5]) (by simp) (by simp) (by simp) ?_
    simp [h0, h1, h5, hw]
    exact ⟨m - 1, by omega, i + 1, by omega, by omega⟩
  · simp [h0, h1, h5, hi]
mutual
theorem tc_eqRex : ∀ (r : Rex), Sm r → TC Try.prog 118 [.agg (encRex r), .agg (encRex r)] [] (.val (.bool true)) []
  | .mk k s l, hs => by
    refine TC.enter Try.func118 rfl (by simp [Try.ntmps118]) rfl (tw_sound (ρ := [2, 3]) ?_)
    rw [Try.ntmps118]
    simp [encRex, encRexL_eq]
    refine TWoH.callV (tc_eqSpanS s (by have := hs.1; omega)) callable_107 (by simp) (by simp) (by simp) (by simp) ?_
    simp
    refine TWoH.callV (tc_eqRexS l (by have := hs.2.1; omega) (tc_eqRexL l hs.2.2)) callable_143 (by simp) (by simp) (by simp) (by simp) ?_
    simp
theorem tc_eqRexL : ∀ (l : List Rex), SmL l → ∀ i (h : i < l.length), TC Try.prog 118 [.agg (encRex l[i]), .agg (encRex l[i])] [] (.val (.bool true)) []
  | r :: l, hs, 0, _ => tc_eqRex r hs.1
  | r :: l, hs, i + 1, h => by
    simp only [List.getElem_cons_succ]
    exact tc_eqRexL l hs.2 i (by simpa using h)
end
theorem tc_eqRule (r : Rule) (hs : Sm r.rex) : TC Try.prog 80 [.agg (encRule r), .agg (encRule r)] [] (.val (.bool true)) [] := by
  refine TC.enter Try.func80 rfl (by simp [Try.ntmps80]) rfl (tw_sound (ρ := [2, 3]) ?_)
  rw [Try.ntmps80]
  simp [encRule]
  refine TWoH.callV (tc_eqRex r.rex hs) callable_118 (by simp) (by simp) (by simp) (by simp) ?_
  simp
theorem tc_eqRuleS (l : List Rule) (hs : RSm l) : TC Try.prog 28 [.ro (l.map encRule), .ro (l.map encRule)] [] (.val (.bool true)) [] := by
  refine TC.enter Try.func28 rfl (by simp [Try.ntmps28]) rfl (tw_sound (ρ := []) ?_)
  rw [Try.ntmps28]
  simp
  refine TWcH.loop [] (fun m s => ∃ i, i + m = l.length ∧ s.σ 0 = .ro (l.map encRule) ∧ s.σ 1 = .ro (l.map encRule) ∧ s.σ 5 = .val (.int .i64 i)) l.length ⟨0, by simp⟩ ?_
  rintro m ⟨σ, H⟩ ⟨i, him, h0, h1, h5⟩
  simp only at h0 h1 h5
  by_cases hi : i < l.length
  · have hw := hw1 hi (by have := hs.1; omega)
    simp [h0, h1, h5, getI hi, hi]
    refine TWcH.regionD (ρ := []) [0, 1, 2, 3, 4, 5, 6, 7, 8, 9] 10 mixed (by kernel_rfl) ?_
    simp [h0, h1, h5, getI hi, hi]
    refine TWqH.callV (tc_eqRule l[i] (hs.2 _ (List.getElem_mem hi)).1) callable_80 (by simp [h0, h1, h5]) (by simp) (by simp) (by simp) ?_
    simp [h0, h1, h5, hw]
    exact ⟨m - 1, by omega, i + 1, by omega, by omega⟩
  · simp [h0, h1, h5, hi]
theorem tc_in (n a b : Int) : TC Try.prog 64 [.val (.int .i64 n), .val (.int .i64 a), .val (.int .i64 b)] [] (.val (.bool (decide (a ≤ n ∧ n ≤ b)))) [] := by
  refine TC.enter Try.func64 rfl (by simp [Try.ntmps64]) rfl (tw_sound (ρ := []) ?_)
  rw [Try.ntmps64]
  simp
  refine gif_intro (fun c1 => ?_) (fun c1 => ?_) <;> simp [c1]
theorem tc_iRuleWord (w : List UInt8) (hw : w.length ≤ 1152921504606846976) : TC Try.prog 115 [.val (.string (bs w))] [] (.val (.bool (wordOk w))) [] := by
  refine TC.enter Try.func115 rfl (by simp [Try.ntmps115]) rfl (tw_sound (ρ := []) ?_)
  rw [Try.ntmps115]
  simp
  refine TWcH.loop [] (fun m s => ∃ i, i + m = w.length ∧ s.σ 0 = .val (.string (bs w)) ∧ s.σ 3 = .val (.int .i64 i) ∧ w.all wc = (w.drop i).all wc) w.length ⟨0, by simp⟩ ?_
  rintro m ⟨σ, H⟩ ⟨i, him, h0, h3, hh⟩
  simp only at h0 h3
  by_cases hi : i < w.length
  · rw [all_drop hi] at hh
    have hw := hw1 hi hw
    simp [h0, h3, getI hi, hi]
    refine TWoH.callV (tc_in w[i].toNat 97 122) callable_64 (by simp) (by simp) (by simp) (by simp) ?_
    simp [h0, h3, getI hi, hi]
    refine gif_intro (fun c1 => ?_) (fun c1 => ?_) <;> simp [h0, h3, getI hi, hi, c1, hw]
    · rw [wordOk, hh, show wc w[i] = false by simp [wc]; omega]; rfl
    · refine ⟨m - 1, by omega, i + 1, by omega, by omega, ?_⟩
      rw [hh, show wc w[i] = true by simp [wc]; omega]; rfl
  · simp [h0, h3, hi]
    rw [drop_all hi] at hh
    refine TWoH.callV (tc_in w.length 1 6) callable_64 (by simp) (by simp) (by simp) (by simp) ?_
    simp [h0, h3]
    rw [wordOk, hh, Bool.eq_iff_iff]; simp; omega
theorem tc_iKidsOf (k : Int) : TC Try.prog 152 [.val (.int .i64 k)] [] (.val (.int .i64 (kidsN k))) [] := by
  refine TC.enter Try.func152 rfl (by simp [Try.ntmps152]) rfl (tw_sound (ρ := []) ?_)
  rw [Try.ntmps152]
  simp
  repeat' (refine gif_intro (fun c1 => ?_) (fun c1 => ?_) <;> simp [c1])
  all_goals simp [kidsN, *]
theorem tc_iMatchWord (t : List UInt8) : TC Try.prog 78 [.val (.string (bs t))] [] (.val (.bool (decide (t.length ≤ 12)))) [] := by
  refine TC.enter Try.func78 rfl (by simp [Try.ntmps78]) rfl (tw_sound (ρ := []) ?_)
  rw [Try.ntmps78]
  simp
  omega
theorem tc_iSetHas (l : List (Int × Int)) (b : Int) (hl : l.length ≤ 1152921504606846976) : TC Try.prog 135 [.ro (l.map encS), .val (.int .i64 b)] [] (.val (.bool (hasS l b))) [] := by
  refine TC.enter Try.func135 rfl (by simp [Try.ntmps135]) rfl (tw_sound (ρ := []) ?_)
  rw [Try.ntmps135]
  simp
  refine TWcH.loop [] (fun m s => ∃ i, i + m = l.length ∧ s.σ 1 = .val (.int .i64 b) ∧ s.σ 7 = .ro (l.map encS) ∧ s.σ 8 = .val (.int .i64 l.length) ∧ s.σ 9 = .val (.int .i64 i) ∧ hasS l b = hasS (l.drop i) b) l.length ⟨0, by simp⟩ ?_
  rintro m ⟨σ, H⟩ ⟨i, him, h1, h7, h8, h9, hh⟩
  simp only at h1 h7 h8 h9
  by_cases hi : i < l.length
  · rw [show hasS (l.drop i) b = _ from any_drop hi, show (l.drop (i + 1)).any (fun s => decide (s.1 ≤ b ∧ b ≤ s.2)) = hasS (l.drop (i + 1)) b from rfl] at hh
    have hw := hw1 hi hl
    simp [h1, h7, h8, h9, encS, getI hi, hi]
    refine gall_intro fun a ha => ?_
    simp [h1, h7, h8, h9, encS, getI hi, hi]
    refine TWoH.callV (tc_in b l[i].1 l[i].2) callable_64 (by simp [h1]) (by simp) (by simp) (by simp) ?_
    simp [h1, h7, h8, h9, encS, getI hi, hi]
    refine gif_intro (fun c1 => ?_) (fun c1 => ?_) <;> simp [h1, h7, h8, h9, encS, getI hi, hi, c1, hw]
    · simp [hh, c1]
    · exact ⟨m - 1, by omega, i + 1, by omega, by omega, by rw [hh]; simp; omega⟩
  · simp [h1, h7, h8, h9, hi]
    rw [hh, drop_all hi]; rfl
end Go.Proofs.Ytigmibfacllhmaa.R

open Go Go.Proofs.Ytigmibfacllhmaa.T
namespace Go.Proofs.Ytigmibfacllhmaa.R
set_option maxHeartbeats 2000000
set_option maxRecDepth 100000
set_option linter.unusedSimpArgs false
set_option linter.unusedVariables false
theorem tc_iSetOk (l : List (Int × Int)) (hl : l.length ≤ 1152921504606846976) : TC Try.prog 105 [.ro (l.map encS)] [] (.val (.bool (setOk l))) [] := by
  refine TC.enter Try.func105 rfl (by simp [Try.ntmps105]) rfl (tw_sound (ρ := []) ?_)
  rw [Try.ntmps105]
  simp
  refine TWcH.loop [] (fun m s => ∃ i, i + m = l.length ∧ s.σ 0 = .ro (l.map encS) ∧ s.σ 5 = .ro (l.map encS) ∧ s.σ 6 = .val (.int .i64 l.length) ∧ s.σ 7 = .val (.int .i64 i) ∧ (∀ q, prevOf l i = some q → 0 ≤ q ∧ q ≤ 255) ∧ setOk l = setOkP (prevOf l i) (l.drop i)) l.length ⟨0, by simp [prevOf, setOk]⟩ ?_
  rintro m ⟨σ, H⟩ ⟨i, him, h0, h5, h6, h7, hp, hh⟩
  simp only at h0 h5 h6 h7
  by_cases hi : i < l.length
  · rw [setOkP_drop hi] at hh
    have hw := hw1 hi hl
    have bad : ¬ okX (prevOf l i) l[i] = true → setOk l = false := fun h => by rw [hh, Bool.eq_false_iff.2 h]; rfl
    have good : okX (prevOf l i) l[i] = true → ∃ m', m' < m ∧ ∃ i', i' + m' = l.length ∧ (i : Int) + 1 = (i' : Int) ∧ (∀ q, prevOf l i' = some q → 0 ≤ q ∧ q ≤ 255) ∧ setOk l = setOkP (prevOf l i') (l.drop i') := fun h => by
      refine ⟨m - 1, by omega, i + 1, by omega, by omega, ?_, by rw [hh, h, prevOf_succ hi]; rfl⟩
      rw [prevOf_succ hi]
      rintro q ⟨⟩
      simp only [okX, decide_eq_true_eq] at h
      omega
    simp only [okX, decide_eq_true_eq] at bad good
    simp [h0, h5, h6, h7, getI hi, hi]
    refine gall_intro fun a ha => ?_
    simp [h0, h5, h6, h7, getI hi, hi]
    refine TWcH.regionD (ρ := []) [0, 1, 2, 3, 4, 5, 6, 7, 8, 9, 10, 11, 12, 13, 14, 15, 16, 17, 18, 19, 20, 21, 22, 23, 24, 25, 26, 27, 28, 29, 30] 31 mixed (by kernel_rfl) ?_
    simp [h0, h5, h6, h7, getI hi, hi, encS]
    refine gif_intro (fun c1 => ?_) (fun c1 => ?_) <;> simp [h0, h5, h6, h7, getI hi, hi, encS, c1]
    · exact bad (by omega)
    refine gif_intro (fun c2 => ?_) (fun c2 => ?_) <;> simp [h0, h5, h6, h7, getI hi, hi, encS, c1, c2]
    · exact bad (by omega)
    refine gif_intro (fun c3 => ?_) (fun c3 => ?_) <;> simp [h0, h5, h6, h7, getI hi, hi, encS, c1, c2, c3]
    · exact bad (by omega)
    refine gif_intro (fun c4 => ?_) (fun c4 => ?_) <;> simp [h0, h5, h6, h7, getI hi, hi, encS, c1, c2, c3, c4, hw]
    · have hj : i - 1 < l.length := by omega
      have e : IntKind.i64.wrap ((i : Int) - 1) = ((i - 1 : Nat) : Int) := by rw [wrapi (by omega)]; omega
      have hq := hp _ (prevOf_pos hj c4)
      have e2 : IntKind.i64.wrap (l[i - 1].2 + 1) = l[i - 1].2 + 1 := wrapi (by omega)
      rw [prevOf_pos hj c4] at bad good
      simp [h0, h5, h6, h7, getI hi, getI hj, hi, hj, encS, c1, c2, c3, c4, e, e2]
      refine gif_intro (fun c5 => ?_) (fun c5 => ?_) <;> simp [h0, h5, h6, h7, getI hi, hi, encS, c1, c2, c3, c4, c5, hw]
      · exact bad (fun h => by have := h.2.2.2 _ rfl; omega)
      · exact good ⟨by omega, by omega, by omega, fun q hq => by cases hq; omega⟩
    · exact good ⟨by omega, by omega, by omega, fun q hq => by simp [prevOf, c4] at hq⟩
  · rw [drop_all hi] at hh
    simp [h0, h5, h6, h7, hi, hh, setOkP]
theorem tc_iFormed : ∀ (d : Nat) (r : Rex), d ≤ 1000 → Sm r → TC Try.prog 141 [.agg (encRex r), .val (.int .i64 d)] [] (.val (.bool (formF d r))) []
  | 0, .mk k s l, hd, hs => by
    refine TC.enter Try.func141 rfl (by simp [Try.ntmps141]) rfl (tw_sound (ρ := [2]) ?_)
    rw [Try.ntmps141]
    simp [encRex]
    refine TWcH.regionD (ρ := [2]) [0, 1, 2, 3, 4, 6, 7, 8, 5, 9, 10, 11, 12, 13, 14, 15, 16, 17, 18, 19, 20, 21, 22, 23, 24, 25, 26, 27] 28 mixed (by kernel_rfl) ?_
    simp [formF]
  | d + 1, .mk k s l, hd, hs => by
    refine TC.enter Try.func141 rfl (by simp [Try.ntmps141]) rfl (tw_sound (ρ := [2]) ?_)
    rw [Try.ntmps141]
    simp [encRex, encRexL_eq]
    refine TWcH.regionD (ρ := [2]) [0, 1, 2, 3, 4, 6, 7, 8, 5, 9, 10, 11, 12, 13, 14, 15, 16, 17, 18, 19, 20, 21, 22, 23, 24, 25, 26, 27] 28 mixed (by kernel_rfl) ?_
    have c1 : ¬ ((d : Int) + 1 < 1) := by omega
    simp [c1]
    refine TWqH.callV (tc_iKidsOf k) callable_152 (by simp [*]) (by simp) (by simp) (by simp [*]) ?_
    simp [c1]
    have bad : headOk k s l = false → formF (d + 1) (.mk k s l) = false := fun h => by simp [formF, h]
    refine gif_intro (fun c2 => ?_) (fun c2 => ?_) <;> simp [c1, c2]
    case refine_2 => exact bad (by simp [headOk, c2])
    have fin : ∀ (Q : Prop), (k = 1 ∨ s.length = 0 → Q) → (¬ (k = 1 ∨ s.length = 0) → Q) → Q := fun Q h h' => (Classical.em _).elim h h'
    refine fin _ (fun c3 => ?_) (fun c3 => ?_)
    · have hX : headOk k s l = setOk s := by
        rw [headOk, show decide (kidsN k = l.length) = true by simp [c2], show (decide (k = 1) || decide (s.length = 0)) = true by rcases c3 with c3 | c3 <;> simp [c3]]
        rfl
      have good : setOk s = true → formF (d + 1) (.mk k s l) = l.all (formF d) := fun h => by rw [formF, hX, h]; rfl
      rcases (show (k = 1 ∨ (¬ k = 1 ∧ ¬ 0 < s.length)) by omega) with c4 | ⟨c4, c5⟩
      · subst c4
        simp [c1, c2]
        refine TWqH.callV (tc_iSetOk s (by have := hs.1; omega)) callable_105 (by simp) (by simp) (by simp) (by simp) ?_
        simp [c1, c2]
        refine gif_intro (fun c6 => ?_) (fun c6 => ?_) <;> simp [c1, c2, c6]
        · refine TWcH.loop [] (fun m s' => ∃ i, i + m = l.length ∧ s'.σ 1 = .val (.int .i64 ((d : Int) + 1)) ∧ s'.σ 36 = .ro (l.map encRex) ∧ s'.σ 37 = .val (.int .i64 l.length) ∧ s'.σ 38 = .val (.int .i64 i) ∧ l.all (formF d) = (l.drop i).all (formF d)) l.length ⟨0, by simp⟩ ?_
          rintro m ⟨σ, H⟩ ⟨i, him, h1, h2, h3, h5, hh⟩
          simp only at h1 h2 h3 h5
          by_cases hi : i < l.length
          · rw [all_drop hi] at hh
            have hw := hw1 hi (by have := hs.2.1; omega)
            have hd1 : IntKind.i64.wrap (d : Int) = d := wrapi (by omega)
            simp [h1, h2, h3, h5, getI hi, hi]
            refine gall_intro fun a ha => ?_
            simp [h1, h2, h3, h5, getI hi, hi]
            refine TWoH.callV (tc_iFormed d l[i] (by omega) (SmL.get hs.2.2 hi)) callable_141 (by simp [hd1, h1, h2, h5]) (by simp) (by simp) (by simp) ?_
            simp [h1, h2, h3, h5, getI hi, hi]
            refine gif_intro (fun c7 => ?_) (fun c7 => ?_) <;> simp [h1, h2, h3, h5, getI hi, hi, c7, hw]
            · exact ⟨m - 1, by omega, i + 1, by omega, by omega, by rw [hh, c7]; rfl⟩
            · rw [good c6, hh, Bool.eq_false_iff.2 c7]; rfl
          · rw [drop_all hi] at hh
            simp [h1, h2, h3, h5, hi, good c6, hh]
        · exact bad (by rw [hX]; simpa using c6)
      · simp [c1, c2, c4, c5]
        refine TWqH.callV (tc_iSetOk s (by have := hs.1; omega)) callable_105 (by simp) (by simp) (by simp) (by simp) ?_
        simp [c1, c2, c4, c5]
        refine gif_intro (fun c6 => ?_) (fun c6 => ?_) <;> simp [c1, c2, c4, c5, c6]
        · refine TWcH.loop [] (fun m s' => ∃ i, i + m = l.length ∧ s'.σ 1 = .val (.int .i64 ((d : Int) + 1)) ∧ s'.σ 36 = .ro (l.map encRex) ∧ s'.σ 37 = .val (.int .i64 l.length) ∧ s'.σ 38 = .val (.int .i64 i) ∧ l.all (formF d) = (l.drop i).all (formF d)) l.length ⟨0, by simp⟩ ?_
          rintro m ⟨σ, H⟩ ⟨i, him, h1, h2, h3, h5, hh⟩
          simp only at h1 h2 h3 h5
          by_cases hi : i < l.length
          · rw [all_drop hi] at hh
            have hw := hw1 hi (by have := hs.2.1; omega)
            have hd1 : IntKind.i64.wrap (d : Int) = d := wrapi (by omega)
            simp [h1, h2, h3, h5, getI hi, hi]
            refine gall_intro fun a ha => ?_
            simp [h1, h2, h3, h5, getI hi, hi]
            refine TWoH.callV (tc_iFormed d l[i] (by omega) (SmL.get hs.2.2 hi)) callable_141 (by simp [hd1, h1, h2, h5]) (by simp) (by simp) (by simp) ?_
            simp [h1, h2, h3, h5, getI hi, hi]
            refine gif_intro (fun c7 => ?_) (fun c7 => ?_) <;> simp [h1, h2, h3, h5, getI hi, hi, c7, hw]
            · exact ⟨m - 1, by omega, i + 1, by omega, by omega, by rw [hh, c7]; rfl⟩
            · rw [good c6, hh, Bool.eq_false_iff.2 c7]; rfl
          · rw [drop_all hi] at hh
            simp [h1, h2, h3, h5, hi, good c6, hh]
        · exact bad (by rw [hX]; simpa using c6)
    · rcases (show (¬ k = 1 ∧ 0 < s.length) by omega) with ⟨c4, c5⟩
      simp [c1, c2, c4, c5]
      exact bad (by simp only [headOk, c4, show ¬ s.length = 0 by omega]; simp)
theorem tc_iMany : ∀ (d : Nat) (r : Rex), d ≤ 8 → Sm r → formF d r = true → TC Try.prog 142 [.agg (encRex r)] [] (.val (.int .i64 (manyN r))) []
  | 0, r, hd, hs, hf => by simp [formF] at hf
  | d + 1, .mk k s l, hd, hs, hf => by
    refine TC.enter Try.func142 rfl (by simp [Try.ntmps142]) rfl (tw_sound (ρ := [1]) ?_)
    rw [Try.ntmps142]
    simp [encRex, encRexL_eq]
    have hm := many_le _ _ hf
    have h2d : 2 ^ (d + 1) ≤ 2 ^ 8 := Nat.pow_le_pow_right (by omega) hd
    simp only [manyN] at hm
    refine TWcH.loop [] (fun m s' => ∃ i, i + m = l.length ∧ s'.σ 7 = .ro (l.map encRex) ∧ s'.σ 8 = .val (.int .i64 l.length) ∧ s'.σ 9 = .val (.int .i64 i) ∧ s'.σ 3 = .val (.int .i64 (1 + manyL (l.take i) : Nat))) l.length ⟨0, by simp [manyL]⟩ ?_
    rintro m ⟨σ, H⟩ ⟨i, him, h7, h8, h9, h3⟩
    simp only at h7 h8 h9 h3
    by_cases hi : i < l.length
    · have hw := hw1 hi (by have := hs.2.1; omega)
      have e := manyL_take hi
      have e' : manyL (l.take (i + 1)) ≤ manyL l := by
        have := manyL_append (l.take (i + 1)) (l.drop (i + 1))
        rw [List.take_append_drop] at this
        omega
      have hw2 : IntKind.i64.wrap (1 + (manyL (l.take i) : Int) + manyN l[i]) = 1 + (manyL (l.take i) : Int) + manyN l[i] := wrapi (by omega)
      simp [h7, h8, h9, h3, getI hi, hi]
      refine gall_intro fun a ha => ?_
      simp [h7, h8, h9, h3, getI hi, hi]
      refine TWoH.callV (tc_iMany d l[i] (by omega) (SmL.get hs.2.2 hi) (formF_kid hf hi)) callable_142 (by simp [h7, h8, h9, h3]) (by simp) (by simp) (by simp) ?_
      simp [h7, h8, h9, h3, getI hi, hi, hw, hw2]
      exact ⟨m - 1, by omega, i + 1, by omega, by omega, by rw [e]; simp; omega⟩
    · have e : l.take i = l := List.take_of_length_le (by omega)
      simp [h7, h8, h9, h3, hi, manyN, e]
theorem tc_iRexOk (r : Rex) (hs : Sm r) : TC Try.prog 116 [.agg (encRex r)] [] (.val (.bool (rexOk r))) [] := by
  refine TC.enter Try.func116 rfl (by simp [Try.ntmps116]) rfl (tw_sound (ρ := [1]) ?_)
  rw [Try.ntmps116]
  simp
  refine TWoH.callV (tc_iFormed 8 r (by omega) hs) callable_141 (by simp) (by simp) (by simp) (by simp) ?_
  simp
  refine gif_intro (fun c1 => ?_) (fun c1 => ?_) <;> simp [c1]
  · refine TWoH.callV (tc_iMany 8 r (by omega) hs c1) callable_142 (by simp) (by simp) (by simp) (by simp) ?_
    simp [c1, rexOk]
    omega
  · simp [rexOk, c1]
theorem tc_iRulesOk (l : List Rule) (hs : RSm l) : TC Try.prog 77 [.ro (l.map encRule)] [] (.val (.bool (rulesOk l))) [] := by
  refine TC.enter Try.func77 rfl (by simp [Try.ntmps77]) rfl (tw_sound (ρ := []) ?_)
  rw [Try.ntmps77]
  simp
  refine TWoH.callV (tc_in l.length 1 5) callable_64 (by simp) (by simp) (by simp) (by simp) ?_
  simp
  refine gif_intro (fun c1 => ?_) (fun c1 => ?_) <;> simp [c1]
  · simp [rulesOk]; omega
  have hr : rulesOk l = okFrom l 0 := by rw [rulesOk, show decide (1 ≤ l.length ∧ l.length ≤ 5) = true by simp; omega]; rfl
  refine TWcH.loop [] (fun m s => ∃ i, i + m = l.length ∧ s.σ 0 = .ro (l.map encRule) ∧ s.σ 11 = .ro (l.map encRule) ∧ s.σ 12 = .val (.int .i64 l.length) ∧ s.σ 13 = .val (.int .i64 i) ∧ okFrom l 0 = okFrom l i) l.length ⟨0, by simp⟩ ?_
  rintro m ⟨σ, H⟩ ⟨i, him, h0, h11, h12, h13, hh⟩
  simp only at h0 h11 h12 h13
  by_cases hi : i < l.length
  · rw [okFrom_next hi] at hh
    have hw := hw1 hi (by have := hs.1; omega)
    have hsi := hs.2 _ (List.getElem_mem hi)
    have ha : ruleAt l i = (wordOk l[i].name && rexOk l[i].rex && newN l i 0) := by simp [ruleAt, getI hi]
    have hni : nm l i = l[i].name := by simp [nm, getI hi]
    have hil : (i : Int) ≤ l.length := by omega
    simp [h0, h11, h12, h13, getI hi, hi]
    refine gall_intro fun a ha' => ?_
    simp [h0, h11, h12, h13, getI hi, hi, encRule]
    refine TWoH.callV (tc_iRuleWord l[i].name (by omega)) callable_115 (by simp [h0]) (by simp) (by simp) (by simp) ?_
    simp [h0, h11, h12, h13, getI hi, hi, encRule]
    refine gif_intro (fun c3 => ?_) (fun c3 => ?_) <;> simp [h0, h11, h12, h13, getI hi, hi, encRule, c3]
    case refine_2 => rw [hr, hh, ha, Bool.eq_false_iff.2 c3]; rfl
    refine TWoH.callV (tc_iRexOk l[i].rex hsi.1) callable_116 (by simp [h0]) (by simp) (by simp) (by simp) ?_
    simp [h0, h11, h12, h13, getI hi, hi, encRule]
    refine gif_intro (fun c4 => ?_) (fun c4 => ?_) <;> simp [h0, h11, h12, h13, getI hi, hi, hil, encRule, c3, c4]
    case refine_2 => rw [hr, hh, ha, Bool.eq_false_iff.2 c4]; simp
    rw [c3, c4] at ha
    refine TWcH.loop [] (fun m' s => ∃ k, k + m' = i ∧ s.σ 0 = .ro (l.map encRule) ∧ s.σ 4 = .pd a 0 0 0 ∧ s.σ 11 = .ro (l.map encRule) ∧ s.σ 12 = .val (.int .i64 l.length) ∧ s.σ 13 = .val (.int .i64 i) ∧ s.σ 30 = .ro ((l.take i).map encRule) ∧ s.σ 31 = .val (.int .i64 i) ∧ s.σ 32 = .val (.int .i64 k) ∧ s.H a = some (.box 103 (encRule l[i])) ∧ newN l i 0 = newN l i k) i ⟨0, by simp [h0, h11, h12, h13, encRule, Nat.min_eq_left (Nat.le_of_lt hi)]⟩ ?_
    rintro m' ⟨σ, H⟩ ⟨k, hkm, g0, g4, g11, g12, g13, g30, g31, g32, gH, gg⟩
    simp only at g0 g4 g11 g12 g13 g30 g31 g32 gH
    by_cases hk : k < i
    · have hkl : k < l.length := by omega
      have hwk := hw1 hkl (by have := hs.1; omega)
      have hnk : nm l k = l[k].name := by simp [nm, getI hkl]
      rw [newN_next hk, hnk, hni] at gg
      simp [g0, g4, g11, g12, g13, g30, g31, g32, gH, hk, hkl]
      refine gall_intro fun b hb => ?_
      have hba : ¬ b = a := fun e => by simp [e, gH] at hb
      have hab : ¬ a = b := fun e => hba e.symm
      simp [g0, g4, g11, g12, g13, g30, g31, g32, gH, hk, hkl, hba, hab, encRule]
      refine gif_intro (fun c5 => ?_) (fun c5 => ?_) <;> simp [g0, g4, g11, g12, g13, g30, g31, g32, gH, hk, hkl, hba, hab, encRule, c5, hwk]
      · rw [hr, hh, ha, gg]; simp [c5]
      · exact ⟨m' - 1, by omega, k + 1, by omega, by omega, by rw [gg]; simp [Ne.symm c5]⟩
    · have hk' : ¬ ((k : Int) < i) := by omega
      simp [g0, g4, g11, g12, g13, g30, g31, g32, gH, hk, hw]
      exact ⟨m - 1, by omega, i + 1, by omega, by omega, by rw [hh, ha, gg, newN_end hk]; rfl⟩
  · simp [h0, h11, h12, h13, hi]
    rw [hr, hh, okFrom_end hi]
end Go.Proofs.Ytigmibfacllhmaa.R

open Go Go.Proofs.Ytigmibfacllhmaa.T
namespace Go.Proofs.Ytigmibfacllhmaa.R
def rv (f : List UInt8 → Bool) (t : List UInt8) (k : Nat) : Bool := (reachL f t k).getD k false
theorem reachL_at (f : List UInt8 → Bool) (t : List UInt8) : ∀ (n j : Nat), j ≤ n → (reachL f t n).getD j false = rv f t j
  | 0, j, h => by obtain rfl : j = 0 := by omega
                  rfl
  | n + 1, j, h => by
    by_cases hj : j = n + 1
    · subst hj; rfl
    · rw [reachL, List.getD_eq_getElem?_getD, List.getElem?_append_left (by rw [reachL_len]; omega), ← List.getD_eq_getElem?_getD]
      exact reachL_at f t n j (by omega)
theorem rv_succ (f : List UInt8 → Bool) (t : List UInt8) (k : Nat) : rv f t (k + 1) = (List.range (k + 1)).any fun j => rv f t j && f ((t.take (k + 1)).drop j) := by
  unfold rv
  rw [reachL, List.getD_eq_getElem?_getD, List.getElem?_append_right (by rw [reachL_len]; omega), reachL_len]
  simp only [Nat.sub_self, List.getElem?_cons_zero, Option.getD_some, anyF]
  rw [Bool.eq_iff_iff, List.any_eq_true, List.any_eq_true]
  constructor
  · rintro ⟨j, hj, h⟩
    have := List.mem_range.1 hj
    exact ⟨j, hj, by rw [reachL_at f t k j (by omega)] at h; exact h⟩
  · rintro ⟨j, hj, h⟩
    have := List.mem_range.1 hj
    exact ⟨j, hj, by rw [reachL_at f t k j (by omega)]; exact h⟩
def StP (f : List UInt8 → Bool) (p : List UInt8) : Prop := ∃ parts : List (List UInt8), (∀ a ∈ parts, a ≠ [] ∧ f a = true) ∧ parts.flatten = p
theorem rv_iff (f : List UInt8 → Bool) (t : List UInt8) : ∀ (k : Nat), k ≤ t.length → (rv f t k = true ↔ StP f (t.take k)) := by
  intro k
  induction k using Nat.strongRecOn with
  | _ k ih =>
    intro hk
    cases k with
    | zero => exact ⟨fun _ => ⟨[], by simp, by simp⟩, fun _ => rfl⟩
    | succ k =>
      rw [rv_succ, List.any_eq_true]
      constructor
      · rintro ⟨j, hj, h⟩
        have hj := List.mem_range.1 hj
        simp only [Bool.and_eq_true] at h
        obtain ⟨parts, h1, h2⟩ := (ih j hj (by omega)).1 h.1
        refine ⟨parts ++ [(t.take (k + 1)).drop j], fun a ha => ?_, ?_⟩
        · rcases List.mem_append.1 ha with ha | ha
          · exact h1 a ha
          · rw [List.mem_singleton] at ha
            subst ha
            refine ⟨fun e => ?_, h.2⟩
            have := congrArg List.length e
            simp at this
            omega
        · rw [List.flatten_append, h2, List.flatten_cons, List.flatten_nil, List.append_nil]
          have : t.take j = (t.take (k + 1)).take j := by rw [List.take_take]; congr 1; omega
          rw [this, List.take_append_drop]
      · rintro ⟨parts, h1, h2⟩
        rcases List.eq_nil_or_concat parts with rfl | ⟨init, a, rfl⟩
        · have := congrArg List.length h2
          simp at this
          omega
        · rw [List.concat_eq_append] at h1 h2
          have ha := h1 a (by simp)
          rw [List.flatten_append, List.flatten_cons, List.flatten_nil, List.append_nil] at h2
          have hl := congrArg List.length h2
          rw [List.length_append, List.length_take] at hl
          have hal : 0 < a.length := List.length_pos_iff.2 ha.1
          have hj : init.flatten.length < k + 1 := by omega
          refine ⟨init.flatten.length, List.mem_range.2 hj, ?_⟩
          rw [Bool.and_eq_true]
          constructor
          · refine (ih _ hj (by omega)).2 ⟨init, fun b hb => h1 b (by simp [hb]), ?_⟩
            have : t.take init.flatten.length = (t.take (k + 1)).take init.flatten.length := by rw [List.take_take]; congr 1; omega
            rw [this, ← h2, List.take_left']
            rfl
          · rw [← h2, List.drop_left' rfl]; exact ha.2
theorem starF_iff (f : List UInt8 → Bool) (t : List UInt8) : starF f t = true ↔ StP f t := by
  have := rv_iff f t t.length (Nat.le_refl _)
  rwa [List.take_length] at this
theorem starF_first (f : List UInt8 → Bool) (p : List UInt8) : starF f p = (decide (p.length = 0) || (List.range p.length).any fun x => f (p.take (x + 1)) && starF f (p.drop (x + 1))) := by
  rw [Bool.eq_iff_iff, starF_iff, Bool.or_eq_true, decide_eq_true_eq, List.any_eq_true]
  constructor
  · rintro ⟨parts, h1, h2⟩
    cases parts with
    | nil => left; rw [← h2]; rfl
    | cons a rest =>
      right
      have ha := h1 a (by simp)
      have hal : 0 < a.length := List.length_pos_iff.2 ha.1
      rw [List.flatten_cons] at h2
      have hl := congrArg List.length h2
      rw [List.length_append] at hl
      refine ⟨a.length - 1, List.mem_range.2 (by omega), ?_⟩
      rw [show a.length - 1 + 1 = a.length by omega, Bool.and_eq_true, ← h2, List.take_left' rfl, List.drop_left' rfl, starF_iff]
      exact ⟨ha.2, rest, fun b hb => h1 b (by simp [hb]), rfl⟩
  · rintro (h | ⟨x, hx, h⟩)
    · exact ⟨[], by simp, by rw [List.length_eq_zero_iff] at h; rw [h]; rfl⟩
    · have hx := List.mem_range.1 hx
      rw [Bool.and_eq_true, starF_iff] at h
      obtain ⟨h0, parts, h1, h2⟩ := h
      refine ⟨p.take (x + 1) :: parts, fun a ha => ?_, by rw [List.flatten_cons, h2, List.take_append_drop]⟩
      rcases List.mem_cons.1 ha with rfl | ha
      · refine ⟨fun e => ?_, h0⟩
        have := congrArg List.length e
        rw [List.length_take, List.length_nil] at this
        omega
      · exact h1 a ha
end Go.Proofs.Ytigmibfacllhmaa.R

open Go Go.Proofs.Ytigmibfacllhmaa.T
namespace Go.Proofs.Ytigmibfacllhmaa.R
set_option linter.unusedSimpArgs false
set_option linter.unusedVariables false
/-- A table of thirteen rows of thirteen answers. -/
def tabL (T : Nat → Nat → Bool) : List TV := (List.range 169).map fun x => .val (.bool (T (x / 13) (x % 13)))
@[simp] theorem len_tab (T : Nat → Nat → Bool) : (tabL T).length = 169 := by simp [tabL]
@[simp] theorem plain_tab (T : Nat → Nat → Bool) : (tabL T).all TV.plain = true := by simp [tabL]
@[simp] theorem pc_tab (T : Nat → Nat → Bool) : (tabL T).all TV.pc = true := by simp [tabL]
theorem noHL_vals : ∀ (l : List TV), (∀ t ∈ l, ∃ v, t = .val (.bool v)) → noHL l = true
  | [], _ => by simp
  | t :: l, h => by
    obtain ⟨v, rfl⟩ := h t (by simp)
    simp [noHL_vals l fun t ht => h t (by simp [ht])]
theorem vals_tab {T : Nat → Nat → Bool} : ∀ t ∈ tabL T, ∃ v, t = .val (.bool v) := by
  intro t ht; simp only [tabL, List.mem_map] at ht; obtain ⟨x, _, rfl⟩ := ht; exact ⟨_, rfl⟩
@[simp] theorem noH_tab (T : Nat → Nat → Bool) : noHL (tabL T) = true := noHL_vals _ vals_tab
theorem closeL_vals {H : Nat → Option TV} : ∀ (l : List TV), (∀ t ∈ l, ∃ v, t = .val (.bool v)) → closeL H l = some (l, H)
  | [], _ => by simp
  | t :: l, h => by
    obtain ⟨v, rfl⟩ := h t (by simp)
    simp [closeL_vals l fun t ht => h t (by simp [ht])]
@[simp] theorem closeL_tab {H : Nat → Option TV} (T : Nat → Nat → Bool) : closeL H (tabL T) = some (tabL T, H) := closeL_vals _ vals_tab
theorem opnL_vals {k : Nat} : ∀ (l : List TV), (∀ t ∈ l, ∃ v, t = .val (.bool v)) → opnL k l = (l, [])
  | [], _ => by simp
  | t :: l, h => by
    obtain ⟨v, rfl⟩ := h t (by simp)
    simp [opnL_vals l fun t ht => h t (by simp [ht])]
@[simp] theorem opnL_tab {k : Nat} (T : Nat → Nat → Bool) : opnL k (tabL T) = (tabL T, []) := opnL_vals _ vals_tab
@[simp] theorem take_tab (T : Nat → Nat → Bool) : (tabL T).take 169 = tabL T := List.take_of_length_le (by simp)
@[simp] theorem drop_tab (T : Nat → Nat → Bool) : (tabL T).drop 169 = [] := List.drop_eq_nil_of_le (by simp)
theorem get_tab {T : Nat → Nat → Bool} {i j : Nat} (hi : i < 13) (hj : j < 13) : (tabL T)[i * 13 + j]? = some (.val (.bool (T i j))) := by
  have h1 : (i * 13 + j) / 13 = i := by omega
  have h2 : (i * 13 + j) % 13 = j := by omega
  simp [tabL, List.getElem?_range (show i * 13 + j < 169 by omega), h1, h2]
theorem cut_tab {T : Nat → Nat → Bool} {i j : Nat} (hi : i < 13) (hj : j < 13) : ((tabL T).drop (i * 13 + j)).take 1 = [.val (.bool (T i j))] := by
  have h := get_tab (T := T) hi hj
  have hl : i * 13 + j < (tabL T).length := by simp; omega
  rw [List.drop_eq_getElem_cons hl]
  rw [List.getElem?_eq_getElem hl] at h
  rw [List.take_succ_cons, List.take_zero, Option.some.inj h]
def updT (T : Nat → Nat → Bool) (i j : Nat) (b : Bool) : Nat → Nat → Bool := fun x y => if x = i ∧ y = j then b else T x y
theorem set_tab {T : Nat → Nat → Bool} {i j : Nat} (hi : i < 13) (hj : j < 13) (b : Bool) : (tabL T).take (i * 13 + j) ++ .val (.bool b) :: (tabL T).drop (i * 13 + j + 1) = tabL (updT T i j b) := by
  apply List.ext_getElem?
  intro x
  by_cases hx : x < 169
  · have ex : (tabL (updT T i j b))[x]? = some (.val (.bool (updT T i j b (x / 13) (x % 13)))) := by
      simp [tabL, List.getElem?_range hx]
    have et : (tabL T)[x]? = some (.val (.bool (T (x / 13) (x % 13)))) := by
      simp [tabL, List.getElem?_range hx]
    rw [ex]
    rcases Nat.lt_trichotomy x (i * 13 + j) with h | h | h
    · rw [List.getElem?_append_left (by simp; omega), List.getElem?_take_of_lt h, et]
      have : ¬ (x / 13 = i ∧ x % 13 = j) := by omega
      simp [updT, this]
    · subst h
      rw [List.getElem?_append_right (by simp; omega)]
      have h1 : (i * 13 + j) / 13 = i := by omega
      have h2 : (i * 13 + j) % 13 = j := by omega
      have h3 : i * 13 + j - ((tabL T).take (i * 13 + j)).length = 0 := by simp; omega
      rw [h3]; simp [updT, h1, h2]
    · rw [List.getElem?_append_right (by simp; omega)]
      have h3 : x - ((tabL T).take (i * 13 + j)).length = (x - (i * 13 + j + 1)) + 1 := by simp; omega
      rw [h3, List.getElem?_cons_succ, List.getElem?_drop, show i * 13 + j + 1 + (x - (i * 13 + j + 1)) = x by omega, et]
      have : ¬ (x / 13 = i ∧ x % 13 = j) := by omega
      simp [updT, this]
  · rw [List.getElem?_eq_none (by simp; omega), List.getElem?_eq_none (by simp; omega)]
theorem zero_tab : List.replicate 169 (TV.val (.bool false)) = tabL fun _ _ => false := by
  apply List.ext_getElem?
  intro x
  by_cases hx : x < 169
  · rw [List.getElem?_replicate, if_pos hx]
    simp only [tabL, List.getElem?_map, List.getElem?_range hx]
    rfl
  · rw [List.getElem?_eq_none (by rw [List.length_replicate]; omega), List.getElem?_eq_none (by simp; omega)]
theorem zero_tab2 : List.replicate 338 (TV.val (.bool false)) = tabL (fun _ _ => false) ++ tabL fun _ _ => false := by
  rw [← zero_tab, List.replicate_append_replicate]
theorem tab_congr {T T' : Nat → Nat → Bool} (h : ∀ i j, i < 13 → j < 13 → T i j = T' i j) : tabL T = tabL T' := by
  unfold tabL
  apply List.map_congr_left
  intro x hx
  rw [h _ _ (by have := List.mem_range.1 hx; omega) (by omega)]
@[simp high] theorem zeroT_136' : zeroT Try.prog 136 = some (tabL fun _ _ => false) := by rw [← zero_tab]; exact zeroT_136
@[simp high] theorem zeroT_153' : zeroT Try.prog 153 = some (tabL (fun _ _ => false) ++ tabL fun _ _ => false) := by rw [← zero_tab2]; exact zeroT_153
@[simp] theorem pc_tab2 (A B : Nat → Nat → Bool) : (tabL A ++ tabL B).all TV.pc = true := by rw [List.all_append, pc_tab, pc_tab]; rfl
@[simp] theorem plain_tab2 (A B : Nat → Nat → Bool) : (tabL A ++ tabL B).all TV.plain = true := by rw [List.all_append, plain_tab, plain_tab]; rfl
theorem two_fst (A B : Nat → Nat → Bool) : (tabL A ++ tabL B).take 169 = tabL A := by rw [List.take_append_of_le_length (by simp), take_tab]
theorem two_snd (A B : Nat → Nat → Bool) : ((tabL A ++ tabL B).drop 169).take 169 = tabL B := by
  rw [List.drop_append_of_le_length (by simp), List.drop_eq_nil_of_le (by simp), List.nil_append, take_tab]
theorem two_set0 (A B X : Nat → Nat → Bool) : tabL X ++ (tabL A ++ tabL B).drop 169 = tabL X ++ tabL B := by
  rw [List.drop_append_of_le_length (by simp), List.drop_eq_nil_of_le (by simp), List.nil_append]
theorem two_set1 (A B X : Nat → Nat → Bool) : (tabL A ++ tabL B).take 169 ++ (tabL X ++ (tabL A ++ tabL B).drop 338) = tabL A ++ tabL X := by
  rw [two_fst, List.drop_eq_nil_of_le (by simp), List.append_nil]
/-- Plain law: the first piece of any number of such. -/
def piece (t : List UInt8) (i j : Nat) : List UInt8 := (t.take j).drop i
def tabF (f : List UInt8 → Bool) (t : List UInt8) (i j : Nat) : Bool := decide (i ≤ j ∧ j ≤ t.length) && f (piece t i j)
end Go.Proofs.Ytigmibfacllhmaa.R

open Go Go.Proofs.Ytigmibfacllhmaa.T
namespace Go.Proofs.Ytigmibfacllhmaa.R
set_option maxHeartbeats 4000000
set_option maxRecDepth 100000
set_option linter.unusedSimpArgs false
set_option linter.unusedVariables false
theorem ne_some {H : Nat → Option TV} {i j : Nat} (h : (H i).isSome = true) (h' : H j = none) : ¬ i = j := fun e => by rw [e, h'] at h; cases h
def tabS (G : List UInt8 → Bool) (t : List UInt8) (q i0 : Nat) (x y : Nat) : Bool := decide (x ≤ y ∧ y ≤ t.length ∧ (y - x < q ∨ (y - x = q ∧ x < i0))) && G (piece t x y)
def noT : Nat → Nat → Bool := fun _ _ => false
theorem tabS_zero {G : List UInt8 → Bool} {t : List UInt8} : tabL (fun _ _ => false) = tabL (tabS G t 0 0) := tab_congr fun i j _ _ => by simp [tabS]
theorem tabS_next {G : List UInt8 → Bool} {t : List UInt8} {q i : Nat} (h : t.length < i + q) : tabL (tabS G t q i) = tabL (tabS G t (q + 1) 0) := tab_congr fun x y _ _ => by
  unfold tabS
  congr 1
  rw [decide_eq_decide]; omega
theorem tabS_all {G : List UInt8 → Bool} {t : List UInt8} {q : Nat} (h : t.length < q) : tabL (tabS G t q 0) = tabL (tabF G t) := tab_congr fun x y _ _ => by
  unfold tabS tabF
  congr 1
  rw [decide_eq_decide]; omega
theorem tabS_set {G : List UInt8 → Bool} {t : List UInt8} {q i : Nat} (h : i + q ≤ t.length) : updT (tabS G t q i) i (i + q) (G (piece t i (i + q))) = tabS G t q (i + 1) := by
  funext x y
  unfold updT
  by_cases e : x = i ∧ y = i + q
  · obtain ⟨rfl, rfl⟩ := e
    rw [if_pos ⟨rfl, rfl⟩, tabS, show decide _ = true from decide_eq_true (by omega)]; rfl
  · rw [if_neg e]
    unfold tabS
    congr 1
    rw [decide_eq_decide]; omega
theorem tabF_at {f : List UInt8 → Bool} {t : List UInt8} {i j : Nat} (h : i ≤ j) (h' : j ≤ t.length) : tabF f t i j = f (piece t i j) := by simp [tabF, h, h']
theorem tabS_at {G : List UInt8 → Bool} {t : List UInt8} {q i x y : Nat} (h : x ≤ y) (h' : y ≤ t.length) (h2 : y - x < q) : tabS G t q i x y = G (piece t x y) := by simp [tabS, h, h', h2]
def catP (fa fb : List UInt8 → Bool) (t : List UInt8) (i q o : Nat) : Bool := (List.range o).any fun x => fa (piece t i (i + x)) && fb (piece t (i + x) (i + q))
theorem catP_succ {fa fb : List UInt8 → Bool} {t : List UInt8} {i q o : Nat} : catP fa fb t i q (o + 1) = (catP fa fb t i q o || (fa (piece t i (i + o)) && fb (piece t (i + o) (i + q)))) := by
  simp [catP, List.range_succ]
theorem piece_take {t : List UInt8} {i q x : Nat} (h : x ≤ q) : (piece t i (i + q)).take x = piece t i (i + x) := by
  simp only [piece, List.drop_take, List.take_take]
  congr 1; omega
theorem piece_drop {t : List UInt8} {i q x : Nat} : (piece t i (i + q)).drop x = piece t (i + x) (i + q) := by
  simp only [piece, List.drop_drop]
theorem catP_all {fa fb : List UInt8 → Bool} {t : List UInt8} {i q : Nat} (h : i + q ≤ t.length) : catP fa fb t i q (q + 1) = catF fa fb (piece t i (i + q)) 0 := by
  have hl : (piece t i (i + q)).length = q := by simp [piece]; omega
  unfold catP catF
  rw [hl, Nat.sub_zero, ← List.range_eq_range']
  rw [Bool.eq_iff_iff, List.any_eq_true, List.any_eq_true]
  constructor
  · rintro ⟨x, hx, h1⟩
    have := List.mem_range.1 hx
    exact ⟨x, hx, by rw [piece_take (by omega), piece_drop]; exact h1⟩
  · rintro ⟨x, hx, h1⟩
    have := List.mem_range.1 hx
    exact ⟨x, hx, by rw [piece_take (by omega), piece_drop] at h1; exact h1⟩
def starP (f : List UInt8 → Bool) (t : List UInt8) (i q o : Nat) : Bool := decide (q = 0) || (List.range o).any fun x => f (piece t i (i + 1 + x)) && starF f (piece t (i + 1 + x) (i + q))
theorem starP_succ {f : List UInt8 → Bool} {t : List UInt8} {i q o : Nat} : starP f t i q (o + 1) = (starP f t i q o || (f (piece t i (i + 1 + o)) && starF f (piece t (i + 1 + o) (i + q)))) := by
  simp [starP, List.range_succ, Bool.or_assoc]
theorem starP_all {f : List UInt8 → Bool} {t : List UInt8} {i q : Nat} (h : i + q ≤ t.length) : starP f t i q q = starF f (piece t i (i + q)) := by
  have hl : (piece t i (i + q)).length = q := by simp [piece]; omega
  rw [starF_first, hl]
  unfold starP
  congr 1
  rw [Bool.eq_iff_iff, List.any_eq_true, List.any_eq_true]
  constructor
  · rintro ⟨x, hx, h1⟩
    have := List.mem_range.1 hx
    exact ⟨x, hx, by rw [piece_take (by omega), piece_drop, show i + (x + 1) = i + 1 + x by omega]; exact h1⟩
  · rintro ⟨x, hx, h1⟩
    have := List.mem_range.1 hx
    exact ⟨x, hx, by rw [piece_take (by omega), piece_drop, show i + (x + 1) = i + 1 + x by omega] at h1; exact h1⟩
theorem tc_pieces : ∀ (d : Nat) (r : Rex) (t : List UInt8), Sm r → formF d r = true → t.length ≤ 12 → TC Try.prog 117 [.agg (encRex r), .val (.string (bs t))] [] (.agg (tabL (tabF (isF d r) t))) []
  | 0, r, t, hs, hf, ht => by simp [formF] at hf
  | d + 1, .mk k s l, t, hs, hf, ht => by
    refine TC.enter Try.func117 rfl (by simp [Try.ntmps117]) rfl (tw_sound (ρ := [2]) ?_)
    rw [Try.ntmps117]
    simp [encRex, encRexL_eq]
    refine gall_intro fun a ha => ?_
    simp
    refine gall_intro fun c hc => ?_
    have hca : ¬ c = a := fun e => by simp [e] at hc
    have hac : ¬ a = c := fun e => hca e.symm
    simp [hca, hac]
    have hlen : l.length ≤ 2 := by rcases form_kids hf with ⟨_, rfl⟩ | ⟨_, _, rfl, _⟩ | ⟨_, _, _, rfl, _⟩ <;> simp
    refine TWcH.loop [] (fun m s' => ∃ i, i + m = l.length ∧ s'.σ 1 = .val (.string (bs t)) ∧ s'.σ 2 = .rptr [.val (.int .i64 k), .ro (s.map encS), .ro (l.map encRex)] 0 ∧ s'.σ 4 = .pd a 0 0 0 ∧ s'.σ 5 = .pd c 0 0 0 ∧ s'.σ 19 = .ro (l.map encRex) ∧ s'.σ 20 = .val (.int .i64 l.length) ∧ s'.σ 21 = .val (.int .i64 i) ∧ s'.H a = some (.box 136 (tabL noT)) ∧
      ∃ A B, s'.H c = some (.box 153 (tabL A ++ tabL B)) ∧ (∀ x, l[0]? = some x → 0 < i → A = tabF (isF d x) t) ∧ (∀ x, l[1]? = some x → 1 < i → B = tabF (isF d x) t)) l.length ⟨0, by simp [hac]; exact ⟨rfl, _, _, rfl⟩⟩ ?_
    rintro m ⟨σ, H⟩ ⟨i, him, h1, h2, h4, h5, h19, h20, h21, hA, A, B, hC, hfA, hfB⟩
    simp only at h1 h2 h4 h5 h19 h20 h21 hA hC
    by_cases hi : i < l.length
    · have hw := hw1 hi (by omega)
      simp [h1, h2, h4, h5, h19, h20, h21, getI hi, hi]
      refine gall_intro fun b hb => ?_
      have hbc : ¬ c = b := fun e => by simp [← e, hC] at hb
      have hba : ¬ a = b := fun e => by simp [← e, hA] at hb
      have hcb : ¬ b = c := fun e => hbc e.symm
      simp [h1, h2, h4, h5, h19, h20, h21, getI hi, hi]
      refine TWoH.callV (tc_pieces d l[i] t (SmL.get hs.2.2 hi) (formF_kid hf hi) ht) callable_117 (by simp [h1]) (by simp) (by simp) (by simp) ?_
      rcases (show i = 0 ∨ i = 1 by omega) with rfl | rfl
      · simp [h1, h2, h4, h5, h19, h20, h21, hi, hC, hbc, hba, hcb, two_set0]
        exact ⟨m - 1, by omega, 1, by omega, by rw [wrapi (by omega)]; rfl, by rw [if_neg hac]; exact hA, _, B, rfl, fun _ => rfl, fun x _ h => by omega⟩
      · simp [h1, h2, h4, h5, h19, h20, h21, hi, hC, hbc, hba, hcb]
        exact ⟨m - 1, by omega, 2, by omega, by rw [wrapi (by omega)]; rfl, by rw [if_neg hac]; exact hA, A, tabF (isF d l[1]) t, by rw [List.drop_eq_nil_of_le (by simp), List.append_nil], fun x hx _ => hfA x hx (by omega), fun _ => rfl⟩
    · obtain rfl : i = l.length := by omega
      simp [h1, h2, h4, h5, h19, h20, h21]
      refine TWcH.midB (ρ := []) (fun s' => ∃ x y, s'.σ 1 = .val (.string (bs t)) ∧ s'.σ 2 = .rptr [.val (.int .i64 k), .ro (s.map encS), .ro (l.map encRex)] 0 ∧ s'.σ 4 = .pd a 0 0 0 ∧ s'.σ 8 = .pd x 0 0 0 ∧ s'.σ 9 = .pd y 0 0 0 ∧ s'.H a = some (.box 136 (tabL noT)) ∧ s'.H x = some (.box 136 (tabL A)) ∧ s'.H y = some (.box 136 (tabL B)))
        (.first 0 (.first 2 (.pick 1 (.pick 3 (.pick 4 (.pick 5 (.pick 6 (.pick 7 .fin .fin) .fin) .fin) (.pick 5 (.pick 4 (.pick 6 (.pick 7 .fin .fin) .fin) .fin) .fin)) (.pick 4 (.pick 3 (.pick 5 (.pick 6 (.pick 7 .fin .fin) .fin) .fin) (.pick 5 (.pick 3 (.pick 6 (.pick 7 .fin .fin) .fin) (.pick 6 (.pick 3 (.pick 7 .fin .fin) .fin) .fin)) .fin)) (.pick 5 (.pick 3 (.pick 4 (.pick 6 (.pick 7 .fin .fin) .fin) .fin) (.pick 4 (.pick 3 (.pick 6 (.pick 7 .fin .fin) .fin) (.pick 6 (.pick 3 (.pick 7 .fin .fin) .fin) .fin)) .fin)) .fin))) (.pick 3 (.pick 1 (.pick 4 (.pick 5 (.pick 6 (.pick 7 .fin .fin) .fin) .fin) (.pick 5 (.pick 4 (.pick 6 (.pick 7 .fin .fin) .fin) .fin) .fin)) (.pick 4 (.pick 1 (.pick 5 (.pick 6 (.pick 7 .fin .fin) .fin) .fin) (.pick 5 (.pick 1 (.pick 6 (.pick 7 .fin .fin) .fin) .fin) .fin)) (.pick 5 (.pick 1 (.pick 4 (.pick 6 (.pick 7 .fin .fin) .fin) .fin) (.pick 4 (.pick 1 (.pick 6 (.pick 7 .fin .fin) .fin) .fin) .fin)) .fin))) (.pick 4 (.pick 1 (.pick 3 (.pick 5 (.pick 6 (.pick 7 .fin .fin) .fin) .fin) (.pick 5 (.pick 3 (.pick 6 (.pick 7 .fin .fin) .fin) (.pick 6 (.pick 3 (.pick 7 .fin .fin) .fin) .fin)) .fin)) (.pick 3 (.pick 1 (.pick 5 (.pick 6 (.pick 7 .fin .fin) .fin) .fin) (.pick 5 (.pick 1 (.pick 6 (.pick 7 .fin .fin) .fin) .fin) .fin)) (.pick 5 (.pick 1 (.pick 3 (.pick 6 (.pick 7 .fin .fin) .fin) (.pick 6 (.pick 3 (.pick 7 .fin .fin) .fin) .fin)) (.pick 3 (.pick 1 (.pick 6 (.pick 7 .fin .fin) .fin) .fin) .fin)) .fin))) (.pick 5 (.pick 1 (.pick 3 (.pick 4 (.pick 6 (.pick 7 .fin .fin) .fin) .fin) (.pick 4 (.pick 3 (.pick 6 (.pick 7 .fin .fin) .fin) (.pick 6 (.pick 3 (.pick 7 .fin .fin) .fin) .fin)) .fin)) (.pick 3 (.pick 1 (.pick 4 (.pick 6 (.pick 7 .fin .fin) .fin) .fin) (.pick 4 (.pick 1 (.pick 6 (.pick 7 .fin .fin) .fin) .fin) .fin)) (.pick 4 (.pick 1 (.pick 3 (.pick 6 (.pick 7 .fin .fin) .fin) (.pick 6 (.pick 3 (.pick 7 .fin .fin) .fin) .fin)) (.pick 3 (.pick 1 (.pick 6 (.pick 7 .fin .fin) .fin) .fin) .fin)) .fin))) .fin)))))) mixed (by kernel_rfl) ?_ ?_
      · simp [h1, h2, h4, h5, hA, hC, two_fst]
        repeat' (refine And.intro ?_ ?_)
        all_goals
          refine gall_intro fun x hx => ?_
          have n1 : ¬ c = x := ne_some (by simp [hC]) hx
          have n2 : ¬ a = x := ne_some (by simp [hA]) hx
          have n1' : ¬ x = c := fun e => n1 e.symm
          have n2' : ¬ x = a := fun e => n2 e.symm
          simp [h1, h2, h4, h5, hA, hC, two_fst, two_snd, n1, n1', n2, n2']
          repeat' (refine And.intro ?_ ?_)
        all_goals
          refine gall_intro fun y hy => ?_
          have m0 : ¬ x = y := ne_some (by simp [hC]) hy
          have m0' : ¬ y = x := fun e => m0 e.symm
          have m1 : ¬ c = y := ne_some (by simp [hC, n1, n1']) hy
          have m2 : ¬ a = y := ne_some (by simp [hA, n2, n2']) hy
          have m1' : ¬ y = c := fun e => m1 e.symm
          have m2' : ¬ y = a := fun e => m2 e.symm
          simp [h1, h2, h4, h5, hA, hC, two_fst, two_snd, n1, n1', n2, n2', m0, m0', m1, m1', m2, m2']
      · rintro ⟨σ, H⟩ ⟨x, y, h1, h2, h4, h8, h9, hA, hx, hy⟩
        simp only at h1 h2 h4 h8 h9 hA hx hy
        simp [h1]
        refine gall_intro fun z hz => ?_
        have nx : ¬ x = z := ne_some (by simp [hx]) hz
        have ny : ¬ y = z := ne_some (by simp [hy]) hz
        have na : ¬ a = z := ne_some (by simp [hA]) hz
        have nx' : ¬ z = x := fun e => nx e.symm
        have ny' : ¬ z = y := fun e => ny e.symm
        have na' : ¬ z = a := fun e => na e.symm
        simp [h1, h2, h4, h8, h9]
        refine TWcH.loop [] (fun m s' => ∃ q, q + m = t.length + 1 ∧ s'.σ 1 = .val (.string (bs t)) ∧ s'.σ 2 = .rptr [.val (.int .i64 k), .ro (s.map encS), .ro (l.map encRex)] 0 ∧ s'.σ 4 = .pd a 0 0 0 ∧ s'.σ 8 = .pd x 0 0 0 ∧ s'.σ 9 = .pd y 0 0 0 ∧ s'.σ 10 = .val (.int .i64 t.length) ∧ s'.σ 11 = .pd z 0 0 0 ∧ s'.σ 12 = .val (.int .i64 q) ∧ s'.H a = some (.box 136 (tabL noT)) ∧ s'.H x = some (.box 136 (tabL A)) ∧ s'.H y = some (.box 136 (tabL B)) ∧ s'.H z = some (.box 136 (tabL (tabS (isF (d + 1) (.mk k s l)) t q 0)))) (t.length + 1) ⟨0, by simp [h1, h2, h4, h8, h9, hA, hx, hy, nx, ny, na]; exact tabS_zero⟩ ?_
        rintro m ⟨σ, H⟩ ⟨q, hm, h1, h2, h4, h8, h9, h10, h11, h12, hA, hx, hy, hz⟩
        simp only at h1 h2 h4 h8 h9 h10 h11 h12 hA hx hy hz
        by_cases hq : q ≤ t.length
        · have hw := hw1 (show q < 13 by omega) (by omega)
          simp [h1, h2, h4, h8, h9, h10, h11, h12, hq]
          refine TWcH.loop [] (fun m' s' => ∃ i, i + q + m' = t.length + 1 ∧ s'.σ 1 = .val (.string (bs t)) ∧ s'.σ 2 = .rptr [.val (.int .i64 k), .ro (s.map encS), .ro (l.map encRex)] 0 ∧ s'.σ 4 = .pd a 0 0 0 ∧ s'.σ 8 = .pd x 0 0 0 ∧ s'.σ 9 = .pd y 0 0 0 ∧ s'.σ 10 = .val (.int .i64 t.length) ∧ s'.σ 11 = .pd z 0 0 0 ∧ s'.σ 12 = .val (.int .i64 q) ∧ s'.σ 13 = .val (.int .i64 i) ∧ s'.H a = some (.box 136 (tabL noT)) ∧ s'.H x = some (.box 136 (tabL A)) ∧ s'.H y = some (.box 136 (tabL B)) ∧ s'.H z = some (.box 136 (tabL (tabS (isF (d + 1) (.mk k s l)) t q i)))) (t.length + 1 - q) ⟨0, by simp [h1, h2, h4, h8, h9, h10, h11, h12, hA, hx, hy, hz]; omega⟩ ?_
          rintro m' ⟨σ, H⟩ ⟨i, hm', g1, g2, g4, g8, g9, g10, g11, g12, g13, gA, gx', gy', gz⟩
          simp only at g1 g2 g4 g8 g9 g10 g11 g12 g13 gA gx' gy' gz
          have hwq : IntKind.i64.wrap ((i : Int) + q) = (i : Int) + q := wrapi (by omega)
          by_cases hi : i + q ≤ t.length
          · have hi' : (i : Int) + q ≤ t.length := by omega
            have hwi := hw1 (show i < 13 by omega) (by omega)
            have lt1 : i < 13 := by omega
            have lt2 : i + q < 13 := by omega
            have set_z := fun b => set_tab (T := tabS (isF (d + 1) (.mk k s l)) t q i) lt1 lt2 b
            have b1 : i * 13 + (i + q) + 1 ≤ 169 := by omega
            have j13 : (i : Int) + q < 13 := by omega
            have i13 : (i : Int) < 13 := by omega
            have j0 : (0 : Int) ≤ (i : Int) + q := by omega
            have jn : ((i : Int) + q).toNat = i + q := by omega
            have fin : ∀ b, b = isF (d + 1) (.mk k s l) (piece t i (i + q)) → ∃ m'', m'' < m' ∧ ∃ i', i' + q + m'' = t.length + 1 ∧ (i : Int) + 1 = (i' : Int) ∧ tabL (updT (tabS (isF (d + 1) (.mk k s l)) t q i) i (i + q) b) = tabL (tabS (isF (d + 1) (.mk k s l)) t q i') := fun b hb => ⟨m' - 1, by omega, i + 1, by omega, by omega, by rw [hb, tabS_set hi]⟩
            have hpl : (piece t i (i + q)).length = q := by simp [piece]; omega
            have hiq : i + q ≤ t.length := hi
            have hAt : ∀ f : List UInt8 → Bool, tabF f t i (i + q) = f (piece t i (i + q)) := fun f => tabF_at (by omega) hi
            rcases form_kids hf with ⟨hk, rfl⟩ | ⟨ra, hk, rfl, fa⟩ | ⟨ra, rb, hk, rfl, fa, fb⟩
            · rcases hk with rfl | rfl
              · by_cases hq1 : q = 1
                · subst hq1
                  have hit : i < t.length := by omega
                  have hpe : piece t i (i + 1) = [t[i]] := by
                    simp only [piece, List.drop_take, show i + 1 - i = 1 by omega]
                    rw [List.drop_eq_getElem_cons hit]; rfl
                  have hsl : s.length ≤ 1152921504606846976 := by have := hs.1; omega
                  have e1 : (i : Int) + 1 ≤ t.length := by omega
                  have e2 : ((i : Int) + 1).toNat = i + 1 := by omega
                  have e3 : (i : Int) + 1 < 13 := by omega
                  have e4 : (0 : Int) ≤ (i : Int) + 1 := by omega
                  have e5 : (i : Int) < t.length := by omega
                  simp [g1, g2, g4, g8, g9, g10, g11, g12, g13, gA, gx', gy', gz, hwq, hi', hwi, i13, j13, j0, jn, b1, nx', ny', na', nx, ny, na, cut_tab lt1 lt2, set_z, e1, e2, e3, e4, e5]
                  refine TWcH.regionD (ρ := []) [0, 1, 2, 3, 4, 5, 6, 7, 8, 9, 10, 11] 12 mixed (by kernel_rfl) ?_
                  simp [g1, g2, g4, g8, g9, g10, g11, g12, g13, gA, gx', gy', gz, hwq, hi', hwi, i13, j13, j0, jn, b1, nx', ny', na', nx, ny, na, cut_tab lt1 lt2, set_z, e1, e2, e3, e4, e5, getI hit, hit]
                  refine TWqH.callV (tc_iSetHas s t[i].toNat hsl) callable_135 (by simp [g1, g2, g4, g8, g9, g10, g11, g12, g13, gA, gx', gy', gz, hwq, hi', hwi, i13, j13, j0, jn, b1, nx', ny', na', nx, ny, na, cut_tab lt1 lt2, set_z, e1, e2, e3, e4, e5]) (by simp) (by simp) (by simp) ?_
                  simp [g1, g2, g4, g8, g9, g10, g11, g12, g13, gA, gx', gy', gz, hwq, hi', hwi, i13, j13, j0, jn, b1, nx', ny', na', nx, ny, na, cut_tab lt1 lt2, set_z, e1, e2, e3, e4, e5]
                  exact fin _ (by rw [hpe]; simp [isF])
                · have hq1' : ¬ ((q : Int) = 1) := by omega
                  simp [g1, g2, g4, g8, g9, g10, g11, g12, g13, gA, gx', gy', gz, hwq, hi', hwi, i13, j13, j0, jn, b1, nx', ny', na', nx, ny, na, cut_tab lt1 lt2, set_z]
                  refine TWcH.regionD (ρ := []) [0, 1, 2, 3, 4, 5, 6, 7, 8, 9, 10, 11] 12 mixed (by kernel_rfl) ?_
                  simp [g1, g2, g4, g8, g9, g10, g11, g12, g13, gA, gx', gy', gz, hwq, hi', hwi, i13, j13, j0, jn, b1, nx', ny', na', nx, ny, na, cut_tab lt1 lt2, set_z, hq1, hq1']
                  exact fin _ (by simp [isF, hpl, hq1])
              · simp [g1, g2, g4, g8, g9, g10, g11, g12, g13, gA, gx', gy', gz, hwq, hi', hwi, i13, j13, j0, jn, b1, nx', ny', na', nx, ny, na, cut_tab lt1 lt2, set_z]
                exact fin _ (by simp [isF, ← List.length_eq_zero_iff, hpl])
            · obtain rfl : A = tabF (isF d ra) t := hfA ra rfl (by simp)
              rcases hk with rfl | rfl
              · simp [g1, g2, g4, g8, g9, g10, g11, g12, g13, gA, gx', gy', gz, hwq, hi', hwi, i13, j13, j0, jn, b1, nx', ny', na', nx, ny, na, cut_tab lt1 lt2, set_z]
                refine TWcH.loop [] (fun m3 s' => ∃ o, o + m3 = q ∧ s'.σ 1 = .val (.string (bs t)) ∧ s'.σ 2 = .rptr [.val (.int .i64 5), .ro (s.map encS), .ro ([ra].map encRex)] 0 ∧ s'.σ 4 = .pd a 0 0 0 ∧ s'.σ 8 = .pd x 0 0 0 ∧ s'.σ 9 = .pd y 0 0 0 ∧ s'.σ 10 = .val (.int .i64 t.length) ∧ s'.σ 11 = .pd z 0 0 0 ∧ s'.σ 12 = .val (.int .i64 q) ∧ s'.σ 13 = .val (.int .i64 i) ∧ s'.σ 14 = .val (.int .i64 ((i : Int) + q)) ∧ s'.σ 17 = .val (.int .i64 (i + 1 + o : Nat)) ∧ s'.σ 15 = .val (.bool (starP (isF d ra) t i q o)) ∧ s'.H a = some (.box 136 (tabL noT)) ∧ s'.H x = some (.box 136 (tabL (tabF (isF d ra) t))) ∧ s'.H y = some (.box 136 (tabL B)) ∧ s'.H z = some (.box 136 (tabL (tabS (isF (d + 1) (.mk 5 s [ra])) t q i)))) q ⟨0, by simp [g1, g2, g4, g8, g9, g10, g11, g12, g13, gA, gx', gy', gz, hwq, hi', hwi, i13, j13, j0, jn, b1, nx', ny', na', nx, ny, na, cut_tab lt1 lt2, set_z, starP]⟩ ?_
                rintro m3 ⟨σ, H⟩ ⟨o, ho, f1, f2, f4, f8, f9, f10, f11, f12, f13, f14, fk, f15, fA, fx, fy, fz⟩
                simp only at f1 f2 f4 f8 f9 f10 f11 f12 f13 f14 fk f15 fA fx fy fz
                by_cases hoq : o < q
                · have k1 : (i : Int) + 1 + o ≤ (i : Int) + q := by omega
                  have k2 : (i : Int) + 1 + o < 13 := by omega
                  have k3 : (0 : Int) ≤ (i : Int) + 1 + o := by omega
                  have k4 : ((i : Int) + 1 + o).toNat = i + 1 + o := by omega
                  have k5 : i * 13 + (i + 1 + o) + 1 ≤ 169 := by omega
                  have k6 : (i + 1 + o) * 13 + (i + q) + 1 ≤ 169 := by omega
                  have k7 : IntKind.i64.wrap ((i : Int) + 1 + o + 1) = (i : Int) + 1 + o + 1 := wrapi (by omega)
                  have k8 : tabF (isF d ra) t i (i + 1 + o) = isF d ra (piece t i (i + 1 + o)) := tabF_at (by omega) (by omega)
                  have k9 : tabS (isF (d + 1) (.mk 5 s [ra])) t q i (i + 1 + o) (i + q) = starF (isF d ra) (piece t (i + 1 + o) (i + q)) := by
                    rw [tabS_at (by omega) (by omega) (by omega)]; simp [isF]
                  have k10 : i + 1 + o < 13 := by omega
                  simp [f1, f2, f4, f8, f9, f10, f11, f12, f13, f14, fk, f15, fA, fx, fy, fz, hwq, hi', hwi, i13, j13, j0, jn, b1, nx', ny', na', nx, ny, na, k1, k2, k3, k4, k5, k6, k7]
                  refine gif_intro (fun c1 => ?_) (fun c1 => ?_) <;> simp [f1, f2, f4, f8, f9, f10, f11, f12, f13, f14, fk, f15, fA, fx, fy, fz, hwq, hi', hwi, i13, j13, j0, jn, b1, nx', ny', na', nx, ny, na, k1, k2, k3, k4, k5, k6, k7, c1, cut_tab lt1 k10, k8]
                  · exact ⟨m3 - 1, by omega, o + 1, by omega, by omega, by rw [starP_succ, c1]; rfl⟩
                  · refine gif_intro (fun c2 => ?_) (fun c2 => ?_) <;> simp [f1, f2, f4, f8, f9, f10, f11, f12, f13, f14, fk, f15, fA, fx, fy, fz, hwq, hi', hwi, i13, j13, j0, jn, b1, nx', ny', na', nx, ny, na, k1, k2, k3, k4, k5, k6, k7, c1, c2, cut_tab k10 lt2, k8, k9]
                    · exact ⟨m3 - 1, by omega, o + 1, by omega, by omega, by rw [starP_succ, Bool.eq_false_iff.2 c1, c2]; rfl⟩
                    · exact ⟨m3 - 1, by omega, o + 1, by omega, by omega, by rw [starP_succ, Bool.eq_false_iff.2 c1, Bool.eq_false_iff.2 c2]; rfl⟩
                · obtain rfl : o = q := by omega
                  have k1 : ¬ ((i : Int) + 1 + o ≤ (i : Int) + o) := by omega
                  simp [f1, f2, f4, f8, f9, f10, f11, f12, f13, f14, fk, f15, fA, fx, fy, fz, hwq, hi', hwi, i13, j13, j0, jn, b1, nx', ny', na', nx, ny, na, k1, set_z]
                  exact fin _ (by rw [starP_all hiq]; simp [isF])
              · simp [g1, g2, g4, g8, g9, g10, g11, g12, g13, gA, gx', gy', gz, hwq, hi', hwi, i13, j13, j0, jn, b1, nx', ny', na', nx, ny, na, cut_tab lt1 lt2, set_z]
                exact fin _ (by rw [hAt]; simp [isF])
            · obtain rfl : A = tabF (isF d ra) t := hfA ra rfl (by simp)
              obtain rfl : B = tabF (isF d rb) t := hfB rb rfl (by simp)
              rcases hk with rfl | rfl | rfl
              · simp [g1, g2, g4, g8, g9, g10, g11, g12, g13, gA, gx', gy', gz, hwq, hi', hwi, i13, j13, j0, jn, b1, nx', ny', na', nx, ny, na, cut_tab lt1 lt2, set_z]
                refine TWcH.loop [] (fun m3 s' => ∃ o, o + m3 = q + 1 ∧ s'.σ 1 = .val (.string (bs t)) ∧ s'.σ 2 = .rptr [.val (.int .i64 3), .ro (s.map encS), .ro ([ra, rb].map encRex)] 0 ∧ s'.σ 4 = .pd a 0 0 0 ∧ s'.σ 8 = .pd x 0 0 0 ∧ s'.σ 9 = .pd y 0 0 0 ∧ s'.σ 10 = .val (.int .i64 t.length) ∧ s'.σ 11 = .pd z 0 0 0 ∧ s'.σ 12 = .val (.int .i64 q) ∧ s'.σ 13 = .val (.int .i64 i) ∧ s'.σ 14 = .val (.int .i64 ((i : Int) + q)) ∧ s'.σ 16 = .val (.int .i64 (i + o : Nat)) ∧ s'.σ 15 = .val (.bool (catP (isF d ra) (isF d rb) t i q o)) ∧ s'.H a = some (.box 136 (tabL noT)) ∧ s'.H x = some (.box 136 (tabL (tabF (isF d ra) t))) ∧ s'.H y = some (.box 136 (tabL (tabF (isF d rb) t))) ∧ s'.H z = some (.box 136 (tabL (tabS (isF (d + 1) (.mk 3 s [ra, rb])) t q i)))) (q + 1) ⟨0, by simp [g1, g2, g4, g8, g9, g10, g11, g12, g13, gA, gx', gy', gz, hwq, hi', hwi, i13, j13, j0, jn, b1, nx', ny', na', nx, ny, na, cut_tab lt1 lt2, set_z, catP]⟩ ?_
                rintro m3 ⟨σ, H⟩ ⟨o, ho, f1, f2, f4, f8, f9, f10, f11, f12, f13, f14, fk, f15, fA, fx, fy, fz⟩
                simp only at f1 f2 f4 f8 f9 f10 f11 f12 f13 f14 fk f15 fA fx fy fz
                by_cases hoq : o ≤ q
                · have k1 : (i : Int) + o ≤ (i : Int) + q := by omega
                  have k2 : (i : Int) + o < 13 := by omega
                  have k3 : (0 : Int) ≤ (i : Int) + o := by omega
                  have k4 : ((i : Int) + o).toNat = i + o := by omega
                  have k5 : i * 13 + (i + o) + 1 ≤ 169 := by omega
                  have k6 : (i + o) * 13 + (i + q) + 1 ≤ 169 := by omega
                  have k7 : IntKind.i64.wrap ((i : Int) + o + 1) = (i : Int) + o + 1 := wrapi (by omega)
                  have k8 : tabF (isF d ra) t i (i + o) = isF d ra (piece t i (i + o)) := tabF_at (by omega) (by omega)
                  have k9 : tabF (isF d rb) t (i + o) (i + q) = isF d rb (piece t (i + o) (i + q)) := tabF_at (by omega) (by omega)
                  have k10 : i + o < 13 := by omega
                  simp [f1, f2, f4, f8, f9, f10, f11, f12, f13, f14, fk, f15, fA, fx, fy, fz, hwq, hi', hwi, i13, j13, j0, jn, b1, nx', ny', na', nx, ny, na, k1, k2, k3, k4, k5, k6, k7]
                  refine gif_intro (fun c1 => ?_) (fun c1 => ?_) <;> simp [f1, f2, f4, f8, f9, f10, f11, f12, f13, f14, fk, f15, fA, fx, fy, fz, hwq, hi', hwi, i13, j13, j0, jn, b1, nx', ny', na', nx, ny, na, k1, k2, k3, k4, k5, k6, k7, c1, cut_tab lt1 k10, k8]
                  · exact ⟨m3 - 1, by omega, o + 1, by omega, by omega, by rw [catP_succ, c1]; rfl⟩
                  · refine gif_intro (fun c2 => ?_) (fun c2 => ?_) <;> simp [f1, f2, f4, f8, f9, f10, f11, f12, f13, f14, fk, f15, fA, fx, fy, fz, hwq, hi', hwi, i13, j13, j0, jn, b1, nx', ny', na', nx, ny, na, k1, k2, k3, k4, k5, k6, k7, c1, c2, cut_tab k10 lt2, k8, k9]
                    · exact ⟨m3 - 1, by omega, o + 1, by omega, by omega, by rw [catP_succ, Bool.eq_false_iff.2 c1, c2]; rfl⟩
                    · exact ⟨m3 - 1, by omega, o + 1, by omega, by omega, by rw [catP_succ, Bool.eq_false_iff.2 c1, Bool.eq_false_iff.2 c2]; rfl⟩
                · obtain rfl : o = q + 1 := by omega
                  have k1 : ¬ ((i : Int) + ((q : Int) + 1) ≤ (i : Int) + q) := by omega
                  simp [f1, f2, f4, f8, f9, f10, f11, f12, f13, f14, fk, f15, fA, fx, fy, fz, hwq, hi', hwi, i13, j13, j0, jn, b1, nx', ny', na', nx, ny, na, k1, set_z]
                  exact fin _ (by rw [catP_all hiq]; simp [isF])
              · simp [g1, g2, g4, g8, g9, g10, g11, g12, g13, gA, gx', gy', gz, hwq, hi', hwi, i13, j13, j0, jn, b1, nx', ny', na', nx, ny, na, cut_tab lt1 lt2, set_z]
                refine gif_intro (fun c1 => ?_) (fun c1 => ?_) <;> simp [g1, g2, g4, g8, g9, g10, g11, g12, g13, gA, gx', gy', gz, hwq, hi', hwi, i13, j13, j0, jn, b1, nx', ny', na', nx, ny, na, cut_tab lt1 lt2, set_z, c1]
                · exact fin _ (by rw [hAt] at c1; simp [isF, c1])
                · exact fin _ (by rw [hAt] at c1 ⊢; simp [isF, Bool.eq_false_iff.2 c1])
              · simp [g1, g2, g4, g8, g9, g10, g11, g12, g13, gA, gx', gy', gz, hwq, hi', hwi, i13, j13, j0, jn, b1, nx', ny', na', nx, ny, na, cut_tab lt1 lt2, set_z]
                refine gif_intro (fun c1 => ?_) (fun c1 => ?_) <;> simp [g1, g2, g4, g8, g9, g10, g11, g12, g13, gA, gx', gy', gz, hwq, hi', hwi, i13, j13, j0, jn, b1, nx', ny', na', nx, ny, na, cut_tab lt1 lt2, set_z, c1]
                · exact fin _ (by rw [hAt] at c1 ⊢; simp [isF, c1])
                · exact fin _ (by rw [hAt] at c1; simp [isF, Bool.eq_false_iff.2 c1])
          · have hi' : ¬ ((i : Int) + q ≤ t.length) := by omega
            simp [g1, g2, g4, g8, g9, g10, g11, g12, g13, gA, gx', gy', gz, hwq, hi', hw]
            exact ⟨m - 1, by omega, q + 1, by omega, by omega, tabS_next (by omega)⟩
        · simp [h1, h2, h4, h8, h9, h10, h11, h12, hA, hx, hy, hz, hq, na, na']
          rw [tabS_all (by omega)]
end Go.Proofs.Ytigmibfacllhmaa.R

open Go Go.Proofs.Ytigmibfacllhmaa.T
namespace Go.Proofs.Ytigmibfacllhmaa.R
set_option maxHeartbeats 4000000
set_option maxRecDepth 100000
set_option linter.unusedSimpArgs false
set_option linter.unusedVariables false
theorem row0 {T : Nat → Nat → Bool} {j : Nat} (hj : j < 13) : ((tabL T).take 13)[j]? = some (.val (.bool (T 0 j))) := by
  rw [List.getElem?_take_of_lt hj]
  have := get_tab (T := T) (i := 0) (by omega) hj
  rwa [Nat.zero_mul, Nat.zero_add] at this
theorem row0' {T : Nat → Nat → Bool} {j : Nat} (hj : j < 13) : (tabL T)[j]? = some (.val (.bool (T 0 j))) := by
  have := get_tab (T := T) (i := 0) (by omega) hj
  rwa [Nat.zero_mul, Nat.zero_add] at this
def matchIs (r : Rex) (t : List UInt8) : Bool := rexOk r && decide (t.length ≤ 12) && isF 8 r t
theorem tc_iMatchIs (r : Rex) (t : List UInt8) (hs : Sm r) : TC Try.prog 79 [.agg (encRex r), .val (.string (bs t))] [] (.val (.bool (matchIs r t))) [] := by
  refine TC.enter Try.func79 rfl (by simp [Try.ntmps79]) rfl (tw_sound (ρ := [2]) ?_)
  rw [Try.ntmps79]
  simp
  refine TWoH.callV (tc_iRexOk r hs) callable_116 (by simp) (by simp) (by simp) (by simp) ?_
  simp
  refine gif_intro (fun c1 => ?_) (fun c1 => ?_) <;> simp [c1]
  case refine_2 => simp [matchIs, c1]
  refine TWoH.callV (tc_iMatchWord t) callable_78 (by simp) (by simp) (by simp) (by simp) ?_
  simp [c1]
  refine gif_intro (fun c2 => ?_) (fun c2 => ?_) <;> simp [c1, c2]
  case refine_2 => simp [matchIs, c2]
  have hf : formF 8 r = true := by simp only [rexOk, Bool.and_eq_true] at c1; exact c1.1
  refine TWoH.callV (tc_pieces 8 r t hs hf c2) callable_117 (by simp) (by simp) (by simp) (by simp) ?_
  have e13 : (t.length : Int) < 13 := by omega
  have h0 : tabF (isF 8 r) t 0 t.length = isF 8 r t := by rw [tabF_at (by omega) (by omega)]; simp [piece]
  simp [c1, c2, partTV, e13, row0 (show t.length < 13 by omega), row0' (show t.length < 13 by omega), h0, matchIs]
theorem tc_iRulesFirst (l : List Rule) (t : List UInt8) (hs : RSm l) : TC Try.prog 27 [.ro (l.map encRule), .val (.string (bs t))] [] (.val (.int .i64 (rulesFirst l t))) [] := by
  refine TC.enter Try.func27 rfl (by simp [Try.ntmps27]) rfl (tw_sound (ρ := []) ?_)
  rw [Try.ntmps27]
  simp
  refine TWoH.callV (tc_iRulesOk l hs) callable_77 (by simp) (by simp) (by simp) (by simp) ?_
  simp
  refine gif_intro (fun c1 => ?_) (fun c1 => ?_) <;> simp [c1]
  case refine_2 => simp [rulesFirst, c1]
  refine TWoH.callV (tc_iMatchWord t) callable_78 (by simp) (by simp) (by simp) (by simp) ?_
  simp
  refine gif_intro (fun c2 => ?_) (fun c2 => ?_) <;> simp [c2]
  case refine_2 => simp [rulesFirst, c2]
  have hr : rulesFirst l t = firstF l t 0 := by simp [rulesFirst, c1, c2]
  refine TWcH.loop [] (fun m s => ∃ i, i + m = l.length ∧ s.σ 1 = .val (.string (bs t)) ∧ s.σ 15 = .ro (l.map encRule) ∧ s.σ 16 = .val (.int .i64 l.length) ∧ s.σ 17 = .val (.int .i64 i) ∧ firstF l t 0 = firstF l t i) l.length ⟨0, by simp⟩ ?_
  rintro m ⟨σ, H⟩ ⟨i, him, h1, h15, h16, h17, hh⟩
  simp only at h1 h15 h16 h17
  by_cases hi : i < l.length
  · rw [firstF_next hi] at hh
    have hw := hw1 hi (by have := hs.1; omega)
    have hsi := hs.2 _ (List.getElem_mem hi)
    have hm : matchIs l[i].rex t = isF 8 l[i].rex t := by
      have h2 : rexOk l[i].rex = true := by
        simp only [rulesOk, okFrom, Bool.and_eq_true, List.all_eq_true, List.mem_range'_1] at c1
        have h1 := c1.2 i (by omega)
        simp only [ruleAt, getI hi, Bool.and_eq_true] at h1
        exact h1.1.2
      simp [matchIs, h2, c2]
    simp [h1, h15, h16, h17, getI hi, hi]
    refine gall_intro fun a ha => ?_
    simp [h1, h15, h16, h17, getI hi, hi, encRule]
    refine TWoH.callV (tc_iMatchIs l[i].rex t hsi.1) callable_79 (by simp [h1]) (by simp) (by simp) (by simp) ?_
    rw [hm]
    simp [h1, h15, h16, h17, getI hi, hi, encRule]
    refine gif_intro (fun c3 => ?_) (fun c3 => ?_) <;> simp [h1, h15, h16, h17, getI hi, hi, encRule, c3, hw]
    · rw [hr, hh, if_pos c3]
    · exact ⟨m - 1, by omega, i + 1, by omega, by omega, by rw [hh, if_neg c3]⟩
  · simp [h1, h15, h16, h17, hi]
    rw [hr, hh, firstF_end hi]
end Go.Proofs.Ytigmibfacllhmaa.R

open Go Go.Proofs.Ytigmibfacllhmaa.T
namespace Go.Proofs.Ytigmibfacllhmaa.R
set_option linter.unusedSimpArgs false
set_option linter.unusedVariables false
theorem szN_ok {n : Nat} {left : Int} (hn : n ≤ 1152921504606846976) (h0 : 0 ≤ left) (h1 : left ≤ 1048576) (h : ¬ szN n left < 0) : (n : Int) ≤ left ∧ szN n left = left - n := by
  have hw : IntKind.i64.wrap (left - n) = left - n := wrapi (by omega)
  unfold szN at h ⊢
  rw [hw] at h ⊢
  split at h
  · exact absurd h (by omega)
  · rename_i h2
    rw [if_neg h2]
    omega
def BSpan (x : Int × Int) : Prop := (Lit.int .i64 x.1).wf = true ∧ (Lit.int .i64 x.2).wf = true
theorem rdSpan (n : Nat) : RdT Try.prog n 146 encS BSpan :=
  ((RdT.struct (sz := 2) Try.underlying146 rfl (by kernel_rfl) (FsT.cons (sz := 1) (sz' := 1) (RdT.int n Try.underlying3) rfl (by kernel_rfl) (FsT.one (RdT.int n Try.underlying3) rfl (by kernel_rfl)))).le (Nat.le_succ n)).iso id fun x hx => ⟨rfl, hx⟩
theorem rdRex : ∀ n, RdT Try.prog n 93 encRex Small
  | 0 => RdT.zero
  | n + 1 => by
    have ih := rdRex n
    refine (RdT.struct (sz := 1 + (1 + 1)) Try.underlying93 rfl (by kernel_rfl) (FsT.cons (sz := 1) (sz' := 1 + 1) (RdT.int n Try.underlying3) rfl (by kernel_rfl)
      (FsT.cons (sz := 1) (sz' := 1) ((RdT.slice (b := 16) (rdSpan n) Try.underlying90 (by kernel_rfl)).le (Nat.le_succ n)) rfl (by kernel_rfl)
        (FsT.one ((RdT.slice (b := 56) ih Try.underlying91 (by kernel_rfl)).le (Nat.le_succ n)) rfl (by kernel_rfl))))).iso (fun x => Rex.mk x.1 x.2.1 x.2.2) fun x hx => ⟨by simp [encRex, encRexL_eq], ?_⟩
    obtain ⟨_, ⟨h1, _⟩, h2, h3⟩ := hx
    have hr : reachBytes = 140737488351232 := rfl
    have key : ∀ l : List Rex, (∀ r ∈ l, Small r) → SmallL l := by
      intro l
      induction l with
      | nil => intro _; exact trivial
      | cons r l ih => intro h; exact ⟨h r (by simp), ih fun q hq => h q (by simp [hq])⟩
    exact ⟨by omega, by omega, key _ h3⟩
def BRule (r : Rule) : Prop := r.name.length ≤ 1152921504606846976 ∧ Small r.rex
theorem rdRule (n : Nat) : RdT Try.prog n 95 encRule BRule := by
  refine ((RdT.struct (sz := 1 + 3) Try.underlying95 rfl (by kernel_rfl) (FsT.cons (sz := 1) (sz' := 3) (RdT.string n Try.underlying9) rfl (by kernel_rfl) (FsT.one (rdRex n) rfl (by kernel_rfl)))).le (Nat.le_succ n)).iso (fun x => Rule.mk x.1 x.2) fun x hx => ⟨by simp [encRule], ?_⟩
  have hr : reachBytes = 140737488351232 := rfl
  exact ⟨by have := hx.1; simp only; omega, hx.2⟩
def BRules (l : List Rule) : Prop := l.length ≤ 1152921504606846976 ∧ ∀ r ∈ l, BRule r
theorem rdRules (n : Nat) : RdT Try.prog n 41 (fun l : List Rule => [.ro (l.map encRule)]) BRules := by
  refine ((RdT.slice (b := 72) (rdRule n) Try.underlying41 (by kernel_rfl)).le (Nat.le_succ n)).imp fun x hx => ⟨?_, hx.2⟩
  have hr : reachBytes = 140737488351232 := rfl
  have := hx.1
  omega
end Go.Proofs.Ytigmibfacllhmaa.R

open Go Go.Proofs.Ytigmibfacllhmaa.T
namespace Go.Proofs.Ytigmibfacllhmaa.R
set_option maxHeartbeats 4000000
set_option maxRecDepth 100000
set_option linter.unusedSimpArgs false
set_option linter.unusedVariables false
/-- The longest piece from a place on, of at most k - 1 bytes. -/
def longF (G : List UInt8 → Bool) (t : List UInt8) (p : Nat) : Nat → Int
  | 0 => -1
  | k + 1 => if G (piece t p (p + k)) = true then (k : Int) else longF G t p k
def matchLong (r : Rex) (t : List UInt8) (p : Nat) : Int := longF (isF 8 r) t p (t.length - p + 1)
theorem longF_le {G : List UInt8 → Bool} {t : List UInt8} {p : Nat} : ∀ k : Nat, longF G t p k < k ∧ -1 ≤ longF G t p k
  | 0 => by simp [longF]
  | k + 1 => by
    unfold longF
    have := longF_le (G := G) (t := t) (p := p) k
    split <;> omega
theorem rexOk_form {r : Rex} (h : rexOk r = true) : formF 8 r = true := by simp only [rexOk, Bool.and_eq_true] at h; exact h.1
theorem tc_sMatchLong (r : Rex) (t : List UInt8) (p : Nat) (hs : Sm r) (hr : rexOk r = true) (ht : t.length ≤ 12) (hp : p ≤ t.length) : TC Try.prog 121 [.agg (encRex r), .val (.string (bs t)), .val (.int .i64 p)] [] (.val (.int .i64 (matchLong r t p))) [] := by
  refine TC.enter Try.func121 rfl (by simp [Try.ntmps121]) rfl (tw_sound (ρ := [3]) ?_)
  rw [Try.ntmps121]
  simp
  refine TWoH.callV (tc_sRexOk r hs) callable_111 (by simp) (by simp) (by simp) (by simp) ?_
  simp [hr]
  refine TWoH.callV (tc_sMatchWord t) callable_74 (by simp) (by simp) (by simp) (by simp) ?_
  have h1 : ¬ ((p : Int) < 0) := by omega
  have h2 : ¬ ((t.length : Int) < p) := by omega
  simp [ht, h1, h2]
  refine TWcH.loop [] (fun m s => ∃ k, k + p ≤ t.length + 1 ∧ m = k ∧ s.σ 1 = .val (.string (bs t)) ∧ s.σ 2 = .val (.int .i64 p) ∧ s.σ 3 = .rptr (encRex r) 0 ∧ s.σ 7 = .val (.int .i64 ((p : Int) + k - 1)) ∧ matchLong r t p = longF (isF 8 r) t p k) (t.length - p + 1) ⟨t.length - p + 1, by omega, rfl, by simp, by simp, by simp, by simp; omega, rfl⟩ ?_
  rintro m ⟨σ, H⟩ ⟨k, hk, rfl, h1', h2', h3, h7, hh⟩
  simp only at h1' h2' h3 h7
  cases m with
  | zero =>
    have e0 : ¬ ((p : Int) ≤ p - 1) := by omega
    simp [h1', h2', h3, h7, hh, longF, e0]
  | succ m =>
    have e1 : (p : Int) + ((m + 1 : Nat) : Int) - 1 = ((p + m : Nat) : Int) := by omega
    rw [e1] at h7
    have hle : (p : Int) ≤ ((p + m : Nat) : Int) := by omega
    have hle2 : ((p + m : Nat) : Int) ≤ t.length := by omega
    have hw : IntKind.i64.wrap (((p + m : Nat) : Int) - 1) = ((p + m : Nat) : Int) - 1 := wrapi (by omega)
    have hw2 : IntKind.i64.wrap (((p + m : Nat) : Int) - p) = m := by rw [wrapi (by omega)]; omega
    simp only [Int.natCast_add] at h7 hle hle2 hw hw2
    have hl0 : (0 : Int) ≤ (p : Int) + m := by omega
    simp [h1', h2', h3, h7, hle, hle2]
    refine TWcH.regionD (ρ := [3]) [0, 1, 2, 3, 4, 5] 5 mixed (by kernel_rfl) ?_
    have en : ((p : Int) + m).toNat = p + m := by omega
    simp [h1', h2', h3, h7, hle, hle2, en]
    refine TWoH.callV (tc_l3Is 8 r (piece t p (p + m)) hs (rexOk_form hr) (by simp [piece]; omega)) callable_75 (by simp [piece]) (by simp) (by simp) (by simp) ?_
    simp [h1', h2', h3, h7, hle, hle2]
    refine gif_intro (fun c => ?_) (fun c => ?_) <;> simp [h1', h2', h3, h7, hle, hle2, c, hw, hw2]
    · rw [hh, longF, if_pos c]
    · exact ⟨m, by omega, m, by omega, rfl, rfl, by rw [hh, longF, if_neg c]⟩
theorem tc_iMatchLong (r : Rex) (t : List UInt8) (p : Nat) (hs : Sm r) (hr : rexOk r = true) (ht : t.length ≤ 12) (hp : p ≤ t.length) : TC Try.prog 90 [.agg (encRex r), .val (.string (bs t)), .val (.int .i64 p)] [] (.val (.int .i64 (matchLong r t p))) [] := by
  refine TC.enter Try.func90 rfl (by simp [Try.ntmps90]) rfl (tw_sound (ρ := [3]) ?_)
  rw [Try.ntmps90]
  simp
  refine TWoH.callV (tc_iRexOk r hs) callable_116 (by simp) (by simp) (by simp) (by simp) ?_
  simp [hr]
  refine TWoH.callV (tc_iMatchWord t) callable_78 (by simp) (by simp) (by simp) (by simp) ?_
  simp [ht]
  refine TWoH.callV (tc_in p 0 t.length) callable_64 (by simp) (by simp) (by simp) (by simp) ?_
  simp [hp]
  refine TWoH.callV (tc_pieces 8 r t hs (rexOk_form hr) ht) callable_117 (by simp) (by simp) (by simp) (by simp) ?_
  simp
  refine gall_intro fun a ha => ?_
  have hw0 : IntKind.i64.wrap ((t.length : Int) - p) = (t.length : Int) - p := wrapi (by omega)
  simp [hw0]
  refine TWcH.loop [] (fun m s => ∃ k, k + p ≤ t.length + 1 ∧ m = k ∧ s.σ 1 = .val (.string (bs t)) ∧ s.σ 2 = .val (.int .i64 p) ∧ s.σ 7 = .pd a 0 0 0 ∧ s.H a = some (.box 136 (tabL (tabF (isF 8 r) t))) ∧ s.σ 8 = .val (.int .i64 ((k : Int) - 1)) ∧ matchLong r t p = longF (isF 8 r) t p k) (t.length - p + 1) ⟨t.length - p + 1, by omega, rfl, by simp, by simp, by simp, by simp, by simp; omega, rfl⟩ ?_
  rintro m ⟨σ, H⟩ ⟨k, hk, rfl, h1', h2', h7, hH, h8, hh⟩
  simp only at h1' h2' h7 hH h8
  cases m with
  | zero => simp [h1', h2', h7, h8, hh, longF]
  | succ m =>
    have e1 : ((m + 1 : Nat) : Int) - 1 = (m : Int) := by omega
    rw [e1] at h8
    have hle : (0 : Int) ≤ m := by omega
    have hw : IntKind.i64.wrap ((m : Int) - 1) = (m : Int) - 1 := wrapi (by omega)
    have hw2 : IntKind.i64.wrap ((p : Int) + m) = (p : Int) + m := wrapi (by omega)
    have en : ((p : Int) + m).toNat = p + m := by omega
    have hp13 : (p : Int) < 13 := by omega
    have hq13 : (p : Int) + m < 13 := by omega
    have hq0 : (0 : Int) ≤ (p : Int) + m := by omega
    have hg := cut_tab (T := tabF (isF 8 r) t) (i := p) (j := p + m) (by omega) (by omega)
    have h168 : p * 13 + (p + m) ≤ 168 := by omega
    have hG : tabF (isF 8 r) t p (p + m) = isF 8 r (piece t p (p + m)) := tabF_at (by omega) (by omega)
    simp [h1', h2', h7, hH, h8, hle, hw2, en, hp13, hq13, hq0, h168, hg, hG]
    refine gif_intro (fun c => ?_) (fun c => ?_) <;> simp [h1', h2', h7, hH, h8, hle, c, hw]
    · rw [hh, longF, if_pos c]
    · exact ⟨m, by omega, m, by omega, rfl, rfl, by rw [hh, longF, if_neg c]⟩
end Go.Proofs.Ytigmibfacllhmaa.R

open Go Go.Proofs.Ytigmibfacllhmaa.T
namespace Go.Proofs.Ytigmibfacllhmaa.R
set_option maxHeartbeats 4000000
set_option maxRecDepth 100000
set_option linter.unusedSimpArgs false
set_option linter.unusedVariables false
def bestGo (t : List UInt8) (p : Nat) : List Rule → Nat → Int → Nat → Int × Nat
  | [], _, b, m => (b, m)
  | r :: l, i, b, m => if (m : Int) < matchLong r.rex t p then bestGo t p l (i + 1) i (matchLong r.rex t p).toNat else bestGo t p l (i + 1) b m
def bestF (l : List Rule) (t : List UInt8) (p : Nat) : Int × Nat := bestGo t p l 0 (-1) 0
theorem bestGo_drop {t : List UInt8} {p : Nat} {l : List Rule} {i : Nat} (hi : i < l.length) (b : Int) (m : Nat) : bestGo t p (l.drop i) i b m = if (m : Int) < matchLong l[i].rex t p then bestGo t p (l.drop (i + 1)) (i + 1) i (matchLong l[i].rex t p).toNat else bestGo t p (l.drop (i + 1)) (i + 1) b m := by
  conv => lhs; rw [List.drop_eq_getElem_cons hi]
  rw [bestGo]
theorem matchLong_le {r : Rex} {t : List UInt8} {p : Nat} (hp : p ≤ t.length) : matchLong r t p ≤ ((t.length - p : Nat) : Int) := by
  have := (longF_le (G := isF 8 r) (t := t) (p := p) (t.length - p + 1)).1
  unfold matchLong; omega
theorem bestGo_ok {t : List UInt8} {p : Nat} (hp : p ≤ t.length) : ∀ (l : List Rule) (i : Nat) (b : Int) (m : Nat), (0 ≤ b → 0 < m) → p + m ≤ t.length → (0 ≤ (bestGo t p l i b m).1 → 0 < (bestGo t p l i b m).2) ∧ p + (bestGo t p l i b m).2 ≤ t.length
  | [], i, b, m, h, h' => ⟨h, h'⟩
  | r :: l, i, b, m, h, h' => by
    unfold bestGo
    have := matchLong_le (r := r.rex) hp
    split
    · exact bestGo_ok hp l _ _ _ (fun _ => by omega) (by omega)
    · exact bestGo_ok hp l _ _ _ h h'
theorem bestF_ok {l : List Rule} {t : List UInt8} {p : Nat} (hp : p ≤ t.length) : (0 ≤ (bestF l t p).1 → 0 < (bestF l t p).2) ∧ p + (bestF l t p).2 ≤ t.length := bestGo_ok hp l 0 (-1) 0 (by omega) (by omega)
theorem rulesOk_rex {l : List Rule} (h : rulesOk l = true) {i : Nat} (hi : i < l.length) : rexOk l[i].rex = true := by
  simp only [rulesOk, okFrom, Bool.and_eq_true, List.all_eq_true, List.mem_range'_1] at h
  have h1 := h.2 i (by omega)
  simp only [ruleAt, getI hi, Bool.and_eq_true] at h1
  exact h1.1.2
theorem tc_l9Best (l : List Rule) (t : List UInt8) (p : Nat) (hs : RSm l) (hr : rulesOk l = true) (ht : t.length ≤ 12) (hp : p ≤ t.length) :
    TC Try.prog 89 [.ro (l.map encRule), .val (.string (bs t)), .val (.int .i64 p)] [] (.tup [.val (.int .i64 (bestF l t p).1), .val (.int .i64 ((p : Int) + (bestF l t p).2))]) [] := by
  refine TC.enter Try.func89 rfl (by simp [Try.ntmps89]) rfl (tw_sound (ρ := []) ?_)
  rw [Try.ntmps89]
  simp
  refine TWcH.loop [] (fun m' s => ∃ i b m, i + m' = l.length ∧ s.σ 0 = .ro (l.map encRule) ∧ s.σ 1 = .val (.string (bs t)) ∧ s.σ 2 = .val (.int .i64 p) ∧ s.σ 8 = .val (.int .i64 b) ∧ s.σ 9 = .val (.int .i64 ((p : Int) + (m : Nat))) ∧ s.σ 10 = .val (.int .i64 i) ∧
    p + m ≤ t.length ∧ bestF l t p = bestGo t p (l.drop i) i b m) l.length ⟨0, -1, 0, by simp [bestF]; exact hp⟩ ?_
  rintro m' ⟨σ, H⟩ ⟨i, b, m, him, h0, h1, h2, h8, h9, h10, hm, hh⟩
  simp only at h0 h1 h2 h8 h9 h10
  by_cases hi : i < l.length
  · rw [bestGo_drop hi] at hh
    have hw := hw1 hi (by have := hs.1; omega)
    simp [h0, h1, h2, h8, h9, h10, getI hi, hi, encRule]
    refine TWoH.callV (tc_sMatchLong l[i].rex t p (hs.2 _ (List.getElem_mem hi)).1 (rulesOk_rex hr hi) ht hp) callable_121 (by simp [h1, h2]) (by simp) (by simp) (by simp) ?_
    have hle := matchLong_le (r := l[i].rex) hp
    have hge := (longF_le (G := isF 8 l[i].rex) (t := t) (p := p) (t.length - p + 1)).2
    have hww : IntKind.i64.wrap ((p : Int) + matchLong l[i].rex t p) = (p : Int) + matchLong l[i].rex t p := wrapi (by unfold matchLong at *; omega)
    by_cases c : (m : Int) < matchLong l[i].rex t p
    · rw [if_pos c] at hh
      have c1 : 0 < matchLong l[i].rex t p := by omega
      have hn : ((matchLong l[i].rex t p).toNat : Int) = matchLong l[i].rex t p := by omega
      simp [h0, h1, h2, h8, h9, h10, getI hi, hi, encRule, c, c1, hww, hw]
      exact ⟨m' - 1, by omega, i + 1, by omega, (matchLong l[i].rex t p).toNat, by omega, by omega, by omega, hh⟩
    · rw [if_neg c] at hh
      simp [h0, h1, h2, h8, h9, h10, getI hi, hi, encRule, c, hww, hw]
      refine gif_intro (fun c1 => ?_) (fun c1 => ?_) <;> simp [h0, h1, h2, h8, h9, h10, hi, c, c1, hww, hw]
      all_goals exact ⟨m' - 1, by omega, i + 1, by omega, m, by omega, by omega, by omega, hh⟩
  · simp [h0, h1, h2, h8, h9, h10, hi]
    rw [hh, List.drop_eq_nil_of_le (by omega)]; exact ⟨rfl, rfl⟩
attribute [local simp] bsV bsRows chunk fillT partsT appV makeV rowsOf cellsOf placeOf
abbrev Tok := Int × Int × Int
def encTok (x : Tok) : List TV := [.val (.int .i64 x.1), .val (.int .i64 x.2.1), .val (.int .i64 x.2.2)]
@[simp] theorem len_tok (r : Tok) : (encTok r).length = 3 := by simp [encTok]
@[simp] theorem take_tok (r : Tok) : (encTok r).take 3 = encTok r := by simp [encTok]
@[simp] theorem plain_tok (r : Tok) : (encTok r).all TV.plain = true := by simp [encTok]
@[simp] theorem pc_tok (r : Tok) : (encTok r).all TV.pc = true := by simp [encTok]
@[simp] theorem noH_tok (r : Tok) : noHL (encTok r) = true := by simp [encTok]
@[simp] theorem argTL_tok {H : Nat → Option TV} {ρ : List Nat} (r : Tok) : argTL H ρ (encTok r) = some (encTok r) := by simp [encTok]
@[simp] theorem views_tok {ρ : List Nat} (r : Tok) : (encTok r).flatMap (views1 ρ) = [] := by simp [encTok]
@[simp] theorem opnL_tok {k : Nat} (r : Tok) : opnL k (encTok r) = (encTok r, []) := by simp [encTok]
@[simp] theorem closeL_tok {H : Nat → Option TV} (r : Tok) : closeL H (encTok r) = some (encTok r, H) := by simp [encTok]
@[simp] theorem noHR_tok (s : List Tok) : noHR (s.map encTok) = true := by induction s <;> simp [encTok, *]
@[simp] theorem roL_tok (s : Tok) : roL (encTok s) = encTok s := by simp [encTok]
@[simp] theorem roRows_tok (l : List Tok) : roRows (l.map encTok) = l.map encTok := by induction l <;> simp [*]
@[simp] theorem noRoR_tok (l : List Tok) : noRoR (l.map encTok) = true := by induction l <;> simp [encTok, *]
theorem rl_tok (l : List Tok) : ∀ r ∈ l.map encTok, r.length = szOf Try.prog 108 := by
  intro r hr
  obtain ⟨x, _, rfl⟩ := List.mem_map.1 hr
  simp
def toksF (l : List Rule) (t : List UInt8) (p : Nat) : List Tok × Nat :=
  if h : p < t.length ∧ 0 ≤ (bestF l t p).1 ∧ 0 < (bestF l t p).2 then
    (((bestF l t p).1, (p : Int), ((p + (bestF l t p).2 : Nat) : Int)) :: (toksF l t (p + (bestF l t p).2)).1, (toksF l t (p + (bestF l t p).2)).2)
  else ([], p)
termination_by t.length - p
theorem toksF_end {l : List Rule} {t : List UInt8} {p : Nat} (h : ¬ (p < t.length ∧ 0 ≤ (bestF l t p).1 ∧ 0 < (bestF l t p).2)) : toksF l t p = ([], p) := by
  rw [toksF, dif_neg h]
theorem toksF_next {l : List Rule} {t : List UInt8} {p : Nat} (h : p < t.length) (h1 : 0 ≤ (bestF l t p).1) (h2 : 0 < (bestF l t p).2) : toksF l t p =
    (((bestF l t p).1, (p : Int), ((p + (bestF l t p).2 : Nat) : Int)) :: (toksF l t (p + (bestF l t p).2)).1, (toksF l t (p + (bestF l t p).2)).2) := by
  rw [toksF, dif_pos ⟨h, h1, h2⟩]
def lexMeans (l : List Rule) (t : List UInt8) : List Tok × Nat := if rulesOk l = true ∧ t.length ≤ 12 then toksF l t 0 else ([], 0)
theorem tc_sLexMeans (l : List Rule) (t : List UInt8) (hs : RSm l) :
    TC Try.prog 45 [.ro (l.map encRule), .val (.string (bs t))] [] (.tup [.own 108 ((lexMeans l t).1.map encTok), .val (.int .i64 (lexMeans l t).2)]) [] := by
  refine TC.enter Try.func45 rfl (by simp [Try.ntmps45]) rfl (tw_sound (ρ := []) ?_)
  rw [Try.ntmps45]
  simp
  refine gall_intro fun id hid => ?_
  simp
  refine TWoH.callV (tc_sRulesOk l hs) callable_73 (by simp) (by simp) (by simp) (by simp) ?_
  simp
  refine gif_intro (fun c1 => ?_) (fun c1 => ?_) <;> simp [c1]
  case refine_2 => simp [lexMeans, c1]
  refine TWoH.callV (tc_sMatchWord t) callable_74 (by simp) (by simp) (by simp) (by simp) ?_
  simp
  refine gif_intro (fun c2 => ?_) (fun c2 => ?_) <;> simp [c2]
  case refine_2 => simp [lexMeans, c2]
  have hr : lexMeans l t = toksF l t 0 := by simp [lexMeans, c1, c2]
  rw [hr]
  refine TWcH.loop [40] (fun m' s => ∃ p acc id, p + m' = t.length ∧ s.σ 0 = .ro (l.map encRule) ∧ s.σ 1 = .val (.string (bs t)) ∧ s.σ 6 = .hd id ∧ s.H id = some (.own 108 (acc.map encTok)) ∧ s.σ 7 = .val (.int .i64 (p : Nat)) ∧
    acc.length ≤ p ∧ toksF l t 0 = (acc ++ (toksF l t p).1, (toksF l t p).2)) t.length ⟨0, [], id, by simp⟩ ?_
  rintro m' ⟨σ, H⟩ ⟨p, acc, id, hpm, h0, h1, h6, hH, h7, hal, hh⟩
  simp only at h0 h1 h6 h7 hH
  by_cases hp : p < t.length
  · obtain ⟨hb1, hb2⟩ := bestF_ok (l := l) (Nat.le_of_lt hp)
    simp [h0, h1, h6, h7, hH, hp]
    refine TWoH.callV (tc_l9Best l t p hs c1 c2 (Nat.le_of_lt hp)) callable_89 (by simp [h0, h1, h7]) (by simp) (by simp) (by simp) ?_
    simp [h0, h1, h6, h7, hH, hp]
    refine gif_intro (fun c3 => ?_) (fun c3 => ?_) <;> simp [h0, h1, h6, h7, hH, hp, c3]
    · rw [toksF_end (p := p) (by omega)] at hh
      simp [hh]
    · have c4 := hb1 (by omega)
      have hw : IntKind.i64.wrap ((p : Int) + (bestF l t p).2) = (p : Int) + (bestF l t p).2 := wrapi (by omega)
      rw [toksF_next (p := p) hp (by omega) c4] at hh
      have k1 : (acc.length + 1) * 24 ≤ 140737488355328 := by omega
      have k2 : acc.length ≤ 9223372036854775806 := by omega
      simp [h0, h1, h6, h7, hH, hp, hw, k1, k2]
      refine gall_intro fun id' hid' => ?_
      simp [h0, h1, h6, h7, hH, hp, hw]
      exact ⟨t.length - (p + (bestF l t p).2), by omega, p + (bestF l t p).2, by omega, acc ++ [((bestF l t p).1, (p : Int), ((p + (bestF l t p).2 : Nat) : Int))], by simp [encTok], by omega, by simp; omega, by rw [hh]; simp⟩
  · rw [toksF_end (p := p) (by omega)] at hh
    simp [h0, h1, h6, h7, hH, hp, hh]
theorem tc_copiedTok (l : List Tok) (hl : l.length ≤ 1048576) : TC Try.prog 85 [.ro (l.map encTok)] [] (.own 108 (l.map encTok)) [] := by
  refine TC.enter Try.func85 rfl (by simp [Try.ntmps85]) rfl (TWc.postT (tw_sound (ρ := []) ?_))
  rw [Try.ntmps85]
  simp
  refine gif_intro (fun c1 => ?_) (fun c1 => ?_) <;> simp [c1]
  · refine Turn.nil 2 108 (by simp) fun id hid => ?_
    simp [List.eq_nil_of_length_eq_zero (show l.length = 0 by simpa using c1)]
  have k1 : (24 : Int) * l.length ≤ 281474976710656 := by omega
  have k2 : (l.length : Int) ≤ 9223372036854775807 := by omega
  simp [k1, k2]
  refine gall_intro fun id hid => ?_
  simp
  refine TWoH.copy id (List.replicate l.length [.val (.int .i64 0), .val (.int .i64 0), .val (.int .i64 0)]) (l.map encTok) Try.underlying54 (by simp) ?_ ?_ ?_ (rl_tok l) ?_ ?_
  all_goals simp
  exact Turn.same (by simp)
theorem tc_iLexMeans (l : List Rule) (t : List UInt8) (hs : RSm l) :
    TC Try.prog 46 [.ro (l.map encRule), .val (.string (bs t))] [] (.tup [.own 108 ((lexMeans l t).1.map encTok), .val (.int .i64 (lexMeans l t).2)]) [] := by
  refine TC.enter Try.func46 rfl (by simp [Try.ntmps46]) rfl (TWc.postT (tw_sound (ρ := []) ?_))
  rw [Try.ntmps46]
  simp
  refine TWoH.callV (tc_iRulesOk l hs) callable_77 (by simp) (by simp) (by simp) (by simp) ?_
  simp
  refine gif_intro (fun c1 => ?_) (fun c1 => ?_) <;> simp [c1]
  case refine_2 =>
    refine Turn.nil 4 108 (by simp) fun id hid => ?_
    simp [lexMeans, c1]
  refine TWoH.callV (tc_iMatchWord t) callable_78 (by simp) (by simp) (by simp) (by simp) ?_
  simp
  refine gif_intro (fun c2 => ?_) (fun c2 => ?_) <;> simp [c2]
  case refine_2 =>
    refine Turn.nil 4 108 (by simp) fun id hid => ?_
    simp [lexMeans, c2]
  have hr : lexMeans l t = toksF l t 0 := by simp [lexMeans, c1, c2]
  rw [hr]
  refine TWcH.turn (Turn.nil 6 108 (by simp) fun id hid => ?_)
  refine TWcH.loop [52] (fun m' s => ∃ p acc id, p + m' = t.length ∧ s.σ 0 = .ro (l.map encRule) ∧ s.σ 1 = .val (.string (bs t)) ∧ s.σ 6 = .hd id ∧ s.H id = some (.own 108 (acc.map encTok)) ∧ s.σ 7 = .val (.int .i64 (p : Nat)) ∧
    acc.length ≤ p ∧ toksF l t 0 = (acc ++ (toksF l t p).1, (toksF l t p).2)) t.length ⟨0, [], id, by simp⟩ ?_
  rintro m' ⟨σ, H⟩ ⟨p, acc, id, hpm, h0, h1, h6, hH, h7, hal, hh⟩
  simp only at h0 h1 h6 h7 hH
  by_cases hp : p < t.length
  · obtain ⟨hb1, hb2⟩ := bestF_ok (l := l) (Nat.le_of_lt hp)
    simp [h0, h1, h6, h7, hH, hp]
    refine TWcH.loop [] (fun m'' s => ∃ i b m, i + m'' = l.length ∧ s.σ 0 = .ro (l.map encRule) ∧ s.σ 1 = .val (.string (bs t)) ∧ s.σ 6 = .hd id ∧ s.H id = some (.own 108 (acc.map encTok)) ∧ s.σ 7 = .val (.int .i64 (p : Nat)) ∧ s.σ 8 = .val (.int .i64 b) ∧ s.σ 9 = .val (.int .i64 (m : Nat)) ∧
      s.σ 25 = .ro (l.map encRule) ∧ s.σ 26 = .val (.int .i64 l.length) ∧ s.σ 27 = .val (.int .i64 i) ∧ bestF l t p = bestGo t p (l.drop i) i b m) l.length ⟨0, -1, 0, by simp [h0, h1, h6, h7, hH, bestF]⟩ ?_
    rintro m'' ⟨σ, H⟩ ⟨i, b, m, him, g0, g1, g6, gH, g7, g8, g9, g25, g26, g27, gg⟩
    simp only at g0 g1 g6 gH g7 g8 g9 g25 g26 g27
    by_cases hi : i < l.length
    · rw [bestGo_drop hi] at gg
      have hw := hw1 hi (by have := hs.1; omega)
      simp [g0, g1, g6, gH, g7, g8, g9, g25, g26, g27, getI hi, hi]
      refine gall_intro fun a ha => ?_
      have hne : ¬ id = a := ne_some (by simp [gH]) ha
      simp [g0, g1, g6, gH, g7, g8, g9, g25, g26, g27, getI hi, hi, encRule, hne]
      refine TWoH.callV (tc_iMatchLong l[i].rex t p (hs.2 _ (List.getElem_mem hi)).1 (rulesOk_rex c1 hi) c2 (Nat.le_of_lt hp)) callable_90 (by simp [g1, g7]) (by simp) (by simp) (by simp) ?_
      have hle := matchLong_le (r := l[i].rex) (Nat.le_of_lt hp)
      by_cases c : (m : Int) < matchLong l[i].rex t p
      · rw [if_pos c] at gg
        have hn : ((matchLong l[i].rex t p).toNat : Int) = matchLong l[i].rex t p := by omega
        simp [g0, g1, g6, gH, g7, g8, g9, g25, g26, g27, getI hi, hi, encRule, c, hw, hne]
        exact ⟨m'' - 1, by omega, i + 1, by omega, (matchLong l[i].rex t p).toNat, by omega, by omega, gg⟩
      · rw [if_neg c] at gg
        simp [g0, g1, g6, gH, g7, g8, g9, g25, g26, g27, getI hi, hi, encRule, c, hw, hne]
        exact ⟨m'' - 1, by omega, i + 1, by omega, m, by omega, by omega, gg⟩
    · have hb : bestF l t p = (b, m) := by rw [gg, List.drop_eq_nil_of_le (by omega)]; rfl
      simp [g0, g1, g6, gH, g7, g8, g9, g25, g26, g27, hi]
      refine gif_intro (fun c3 => ?_) (fun c3 => ?_) <;> simp [g0, g1, g6, gH, g7, g8, g9, g25, g26, g27, hi, c3]
      · rw [toksF_end (p := p) (by rw [hb]; simp; omega)] at hh
        refine TWoH.call (tc_copiedTok acc (by omega)) callable_85 (by simp [g6, gH]) (by simp) (by simp) fun k hk => ?_
        simp [g7, hh]
        exact Turn.same (by simp)
      · rw [hb] at hb1 hb2
        have c4 := hb1 (by simp; omega)
        simp only at c4 hb2
        have hw : IntKind.i64.wrap ((p : Int) + m) = (p : Int) + m := wrapi (by omega)
        rw [toksF_next (p := p) hp (by rw [hb]; simp; omega) (by rw [hb]; exact c4), hb] at hh
        have k1 : (acc.length + 1) * 24 ≤ 140737488355328 := by omega
        have k2 : acc.length ≤ 9223372036854775806 := by omega
        simp [g0, g1, g6, gH, g7, g8, g9, g25, g26, g27, hw, k1, k2]
        refine gall_intro fun id' hid' => ?_
        simp [g0, g1, g6, gH, g7, g8, g9, g25, g26, g27, hw]
        exact ⟨t.length - (p + m), by omega, p + m, by omega, acc ++ [(b, (p : Int), ((p + m : Nat) : Int))], by simp [encTok], by omega, by simp; omega, by rw [hh]; simp⟩
  · rw [toksF_end (p := p) (by omega)] at hh
    simp [h0, h1, h6, h7, hH, hp, hh]
    refine TWoH.call (tc_copiedTok acc (by omega)) callable_85 (by simp [h6, hH]) (by simp) (by simp) fun k hk => ?_
    simp [h0, h1, h6, h7, hH, hp, hh]
    refine Turn.same ?_
    simp
end Go.Proofs.Ytigmibfacllhmaa.R

open Go Go.Proofs.Ytigmibfacllhmaa.T
namespace Go.Proofs.Ytigmibfacllhmaa.R
set_option maxHeartbeats 4000000
set_option maxRecDepth 100000
set_option linter.unusedSimpArgs false
set_option linter.unusedVariables false
attribute [local simp] bsV bsRows chunk fillT partsT appV makeV rowsOf cellsOf placeOf
/-- One list as far as i, another from there on. -/
def mix {α : Type _} (A B : List α) (i : Nat) : List α := A.take i ++ B.drop i
section
variable {α : Type _} {A B : List α} {i : Nat}
@[simp] theorem mix_zero : mix A B 0 = B := by simp [mix]
@[simp] theorem mix_len (h : A.length = B.length) (hi : i ≤ B.length) : (mix A B i).length = B.length := by simp [mix]; omega
theorem mix_all (h : A.length = B.length) (hi : B.length ≤ i) : mix A B i = A := by
  unfold mix; rw [List.take_of_length_le (by omega), List.drop_eq_nil_of_le hi, List.append_nil]
theorem mix_at (h : A.length = B.length) (hi : i < B.length) : (mix A B i)[i]? = some B[i] := by
  unfold mix
  rw [List.getElem?_append_right (by simp; omega)]
  simp [List.getElem?_drop, Nat.min_eq_left (show i ≤ A.length by omega)]
theorem mix_at' (h : A.length = B.length) (hi : i < B.length) (hh : i < (mix A B i).length) : (mix A B i)[i] = B[i] := by
  have := mix_at h hi
  rw [List.getElem?_eq_getElem hh] at this
  exact Option.some.inj this
theorem mix_set (h : A.length = B.length) (hi : i < B.length) {x : α} (hx : A[i]? = some x) : (mix A B i).set i x = mix A B (i + 1) := by
  apply List.ext_getElem?
  intro j
  unfold mix
  rw [List.getElem?_set]
  by_cases e : i = j
  · subst e
    rw [if_pos rfl, if_pos (by simp; omega), List.getElem?_append_left (by simp; omega)]
    simp [List.getElem?_take, hx]
  · rw [if_neg e]
    by_cases h' : j < i
    · rw [List.getElem?_append_left (by simp; omega), List.getElem?_append_left (by simp; omega)]
      simp [List.getElem?_take, h', show j < i + 1 by omega]
    · rw [List.getElem?_append_right (by simp; omega), List.getElem?_append_right (by simp; omega)]
      simp [List.getElem?_drop]
      congr 1; omega
end
theorem tc_eqToken (a : Tok) : TC Try.prog 86 [.agg (encTok a), .agg (encTok a)] [] (.val (.bool true)) [] := by
  refine TC.enter Try.func86 rfl (by simp [Try.ntmps86]) rfl (tw_sound (ρ := [2, 3]) ?_)
  rw [Try.ntmps86]
  simp [encTok]
theorem tc_eqTokenS (l : List Tok) (hl : l.length ≤ 1152921504606846976) : TC Try.prog 37 [.ro (l.map encTok), .ro (l.map encTok)] [] (.val (.bool true)) [] := by
  refine TC.enter Try.func37 rfl (by simp [Try.ntmps37]) rfl (tw_sound (ρ := []) ?_)
  rw [Try.ntmps37]
  simp
  refine TWcH.loop [] (fun m s => ∃ i, i + m = l.length ∧ s.σ 0 = .ro (l.map encTok) ∧ s.σ 1 = .ro (l.map encTok) ∧ s.σ 5 = .val (.int .i64 i)) l.length ⟨0, by simp⟩ ?_
  rintro m ⟨σ, H⟩ ⟨i, him, h0, h1, h5⟩
  simp only at h0 h1 h5
  by_cases hi : i < l.length
  · have hw := hw1 hi hl
    simp [h0, h1, h5, hi]
    refine TWcH.regionD (ρ := []) [0, 1, 2, 3, 4, 5, 6, 7, 8, 9] 10 mixed (by kernel_rfl) ?_
    simp [h0, h1, h5, hi, getI hi]
    refine TWqH.callV (tc_eqToken l[i]) callable_86 (by simp) (by simp) (by simp) (by simp) ?_
    simp [h0, h1, h5, hi, hw]
    exact ⟨m - 1, by omega, i + 1, by omega, by omega⟩
  · simp [h0, h1, h5, hi]
def mkTok (k : Int) (i : Nat) : Tok := (k + 3 * i, k + 3 * i + 1, k + 3 * i + 2)
def mkToks (k : Int) (n : Nat) : List Tok := (List.range n).map (mkTok k)
@[simp] theorem mkToks_len (k : Int) (n : Nat) : (mkToks k n).length = n := by simp [mkToks]
theorem mkToks_at {k : Int} {n i : Nat} (h : i < n) : (mkToks k n)[i]? = some (mkTok k i) := by simp [mkToks, h]
theorem tc_markTokenS (l : List Tok) (k : Int) (h0 : 0 ≤ k) (hk : k + 3 * l.length ≤ 1152921504606846976) : TC Try.prog 38 [.hd 0, .val (.int .i64 k)] [.own 108 (l.map encTok)] (.val (.int .i64 (k + 3 * l.length))) [.own 108 ((mkToks k l.length).map encTok)] := by
  refine TC.enter Try.func38 rfl (by simp [Try.ntmps38]) rfl (tw_sound (ρ := []) ?_)
  rw [Try.ntmps38]
  simp
  refine TWcH.loop [] (fun m s => ∃ i : Nat, i + m = l.length ∧ s.σ 0 = .hd 0 ∧ s.σ 1 = .val (.int .i64 (k + 3 * i)) ∧ s.σ 5 = .val (.int .i64 i) ∧ s.H 0 = some (.own 108 (mix ((mkToks k l.length).map encTok) (l.map encTok) i))) l.length ⟨0, by simp⟩ ?_
  rintro m ⟨σ, H⟩ ⟨i, him, g0, g1, g5, gH⟩
  simp only at g0 g1 g5 gH
  by_cases hi : i < l.length
  · have hw := hw1 hi (by omega)
    have e1 : IntKind.i64.wrap (k + 3 * i + 1) = k + 3 * i + 1 := wrapi (by omega)
    have e2 : IntKind.i64.wrap (k + 3 * i + 1 + 1) = k + 3 * i + 2 := by rw [wrapi (by omega)]; omega
    have e3 : IntKind.i64.wrap (k + 3 * i + 2 + 1) = k + 3 * i + 3 := by rw [wrapi (by omega)]; omega
    have hat := mix_at' (A := (mkToks k l.length).map encTok) (B := l.map encTok) (i := i) (by simp) (by simpa using hi)
    simp only [List.getElem_map] at hat
    have hln : (mix ((mkToks k l.length).map encTok) (l.map encTok) i).length = l.length := by rw [mix_len (by simp) (by simp; omega)]; simp
    have hset := mix_set (A := (mkToks k l.length).map encTok) (B := l.map encTok) (i := i) (by simp) (by simpa using hi) (x := encTok (mkTok k i)) (by rw [List.getElem?_map, mkToks_at hi]; rfl)
    simp only [encTok, mkTok] at hset
    simp only [encTok] at hat
    simp [g0, g1, g5, gH, hi, hw, e1, e2, e3, hat, hln, hset]
    exact ⟨m - 1, by omega, i + 1, by omega, by omega, by omega, rfl⟩
  · obtain rfl : i = l.length := by omega
    rw [mix_all (by simp) (by simp)] at gH
    simp [g0, g1, g5, gH]
    exact ⟨_, _, ⟨rfl, rfl⟩, rfl, by simp, by simp [gH]⟩
theorem tc_heldTokenS (n : Nat) (k : Int) (h0 : 0 ≤ k) (hk : k + 3 * n ≤ 1152921504606846976) : TC Try.prog 39 [.ro ((mkToks k n).map encTok), .val (.int .i64 k)] [] (.val (.int .i64 (k + 3 * n))) [] := by
  refine TC.enter Try.func39 rfl (by simp [Try.ntmps39]) rfl (tw_sound (ρ := []) ?_)
  rw [Try.ntmps39]
  simp
  refine TWcH.loop [] (fun m s => ∃ i : Nat, i + m = n ∧ s.σ 0 = .ro ((mkToks k n).map encTok) ∧ s.σ 1 = .val (.int .i64 (k + 3 * i)) ∧ s.σ 5 = .val (.int .i64 i)) n ⟨0, by simp⟩ ?_
  rintro m ⟨σ, H⟩ ⟨i, him, g0, g1, g5⟩
  simp only at g0 g1 g5
  by_cases hi : i < n
  · have hw : IntKind.i64.wrap ((i : Int) + 1) = i + 1 := wrapi (by omega)
    have e1 : IntKind.i64.wrap (k + 3 * i + 1) = k + 3 * i + 1 := wrapi (by omega)
    have e2 : IntKind.i64.wrap (k + 3 * i + 1 + 1) = k + 3 * i + 2 := by rw [wrapi (by omega)]; omega
    have e3 : IntKind.i64.wrap (k + 3 * i + 2 + 1) = k + 3 * i + 3 := by rw [wrapi (by omega)]; omega
    have hat : ∀ h, (mkToks k n)[i]'h = mkTok k i := fun h => by simp [mkToks]
    simp [g0, g1, g5, hi, hw, e1, e2, e3, hat, encTok, mkTok]
    exact ⟨m - 1, by omega, i + 1, by omega, by omega, by omega⟩
  · obtain rfl : i = n := by omega
    simp [g0, g1, g5]
/-- Spans are marked: how they read then does not matter. -/
theorem tcr_markSpanS (l : List (Int × Int)) (k : Int) (h0 : 0 ≤ k) (hk : k + 2 * l.length ≤ 1152921504606846976) : TCR Try.prog 92 [.hd 0, .val (.int .i64 k)] [.own 117 (l.map encS)] (fun r o => r = .val (.int .i64 (k + 2 * l.length)) ∧ ∃ l' : List (Int × Int), o = [.own 117 (l'.map encS)]) := by
  refine TCR.enter Try.func92 rfl (by simp [Try.ntmps92]) rfl (tw_sound (ρ := []) ?_)
  rw [Try.ntmps92]
  simp
  refine TWcH.loop [] (fun m s => ∃ (i : Nat) (l' : List (Int × Int)), i + m = l.length ∧ l'.length = l.length ∧ s.σ 0 = .hd 0 ∧ s.σ 1 = .val (.int .i64 (k + 2 * i)) ∧ s.σ 5 = .val (.int .i64 i) ∧ s.H 0 = some (.own 117 (l'.map encS))) l.length ⟨0, l, by simp⟩ ?_
  rintro m ⟨σ, H⟩ ⟨i, l', him, hl', g0, g1, g5, gH⟩
  simp only at g0 g1 g5 gH
  by_cases hi : i < l.length
  · have hw : IntKind.i64.wrap ((i : Int) + 1) = i + 1 := wrapi (by omega)
    have e1 : IntKind.i64.wrap (k + 2 * i + 1) = k + 2 * i + 1 := wrapi (by omega)
    have e2 : IntKind.i64.wrap (k + 2 * i + 1 + 1) = k + 2 * i + 2 := by rw [wrapi (by omega)]; omega
    have hi' : i < l'.length := by omega
    simp [g0, g1, g5, gH, hi, hi', hl', hw, e1, e2, encS]
    exact ⟨m - 1, by omega, i + 1, by omega, l'.set i (k + 2 * i, k + 2 * i + 1), by simp [hl'], by omega, by omega, by rw [List.map_set]; simp [encS]⟩
  · obtain rfl : i = l.length := by omega
    simp [g0, g1, g5, gH, hl']
    exact ⟨_, _, ⟨rfl, rfl⟩, by simp, by simp [gH], rfl, l', by simp [gH]⟩
end Go.Proofs.Ytigmibfacllhmaa.R

open Go Go.Proofs.Ytigmibfacllhmaa.T
namespace Go.Proofs.Ytigmibfacllhmaa.R
set_option maxHeartbeats 4000000
set_option maxRecDepth 100000
set_option linter.unusedSimpArgs false
set_option linter.unusedVariables false
attribute [local simp] bsV bsRows chunk fillT partsT appV makeV rowsOf cellsOf placeOf
mutual
def oRex : Rex → List TV
  | .mk k s l => [.val (.int .i64 k), .own 117 (s.map encS), .own 101 (oRexL l)]
def oRexL : List Rex → List (List TV)
  | [] => []
  | r :: l => oRex r :: oRexL l
end
theorem oRexL_eq : ∀ l : List Rex, oRexL l = l.map oRex
  | [] => rfl
  | r :: l => by simp [oRexL, oRexL_eq l]
@[simp] theorem len_orex (r : Rex) : (oRex r).length = 3 := by cases r; simp [oRex]
@[simp] theorem noRoR_S (l : List (Int × Int)) : noRoR (l.map encS) = true := by induction l <;> simp [encS, *]
mutual
theorem noH_orex : ∀ r : Rex, noHL (oRex r) = true
  | .mk k s l => by simp [oRex, noHR_orex l]
theorem noHR_orex : ∀ l : List Rex, noHR (oRexL l) = true
  | [] => by simp [oRexL]
  | r :: l => by simp [oRexL, noH_orex r, noHR_orex l]
end
mutual
theorem noRo_orex : ∀ r : Rex, noRoL (oRex r) = true
  | .mk k s l => by simp [oRex, noRoR_orex l]
theorem noRoR_orex : ∀ l : List Rex, noRoR (oRexL l) = true
  | [] => by simp [oRexL]
  | r :: l => by simp [oRexL, noRo_orex r, noRoR_orex l]
end
mutual
theorem roL_orex : ∀ r : Rex, roL (oRex r) = encRex r
  | .mk k s l => by simp [oRex, encRex, roRows_orex l]
theorem roRows_orex : ∀ l : List Rex, roRows (oRexL l) = encRexL l
  | [] => by simp [oRexL, encRexL]
  | r :: l => by simp [oRexL, encRexL, roL_orex r, roRows_orex l]
end
attribute [simp] noH_orex noHR_orex noRo_orex noRoR_orex roL_orex roRows_orex
@[simp] theorem noHR_orexs (l : List Rex) : noHR (l.map oRex) = true := by rw [← oRexL_eq]; simp
@[simp] theorem noRoR_orexs (l : List Rex) : noRoR (l.map oRex) = true := by rw [← oRexL_eq]; simp
@[simp] theorem roRows_orexs (l : List Rex) : roRows (l.map oRex) = l.map encRex := by rw [← oRexL_eq, ← encRexL_eq]; simp
theorem tc_toRexSO (l : List Rex) (hl : l.length ≤ 1048576) (ih : ∀ i (h : i < l.length), TC Try.prog 114 [.agg (encRex l[i])] [] (.agg (oRex l[i])) []) : TC Try.prog 140 [.ro (l.map encRex)] [] (.own 101 (l.map oRex)) [] := by
  refine TC.enter Try.func140 rfl (by simp [Try.ntmps140]) rfl (tw_sound (ρ := []) ?_)
  rw [Try.ntmps140]
  simp [makeV]
  rw [gif_pos (by omega)]
  refine gall_intro fun id hid => ?_
  simp
  refine TWcH.loopS [] (fun m s => ∃ i, i + m = l.length ∧ s.σ 0 = .ro (l.map encRex) ∧ s.σ 3 = .hd id ∧ s.σ 4 = .val (.int .i64 i) ∧ s.H id = some (.own 101 (fillR oRex [.val (.int .i64 0), .val (.slice none 0 0), .val (.slice none 0 0)] l i))) l.length ⟨0, by simp⟩ ?_
  rintro m ⟨σ, H⟩ ⟨i, him, h0, h3, h4, hH⟩
  simp only at h0 h3 h4 hH
  refine tw_sound (ρ := []) ?_
  by_cases hi : i < l.length
  · have hw := hw1 hi (by omega)
    simp [h0, h3, h4, getI hi, hi]
    have hih := ih i hi
    have hset := fillR_set (enc := oRex) (z := [.val (.int .i64 0), .val (.slice none 0 0), .val (.slice none 0 0)]) hi
    generalize l[i] = r at hih hset
    obtain ⟨kk, ss, ks⟩ := r
    refine TWoH.call hih callable_114 (by simp [*]) (by simp) (by simp) fun k hk => ?_
    have n1 : ¬ id = k := fun e => by have := hk k (Nat.le_refl _); rw [← e] at this; simp [hH] at this
    have n2 : ¬ id = k + 1 := fun e => by have := hk (k + 1) (by omega); rw [← e] at this; simp [hH] at this
    simp [h0, h3, h4, hH, hi, oRex, n1, n2, fillR_at hi, fillR_at' hi, fillR_len (Nat.le_of_lt hi), hw]
    refine ⟨m - 1, by omega, _, Shift.fold2x id k (k + 1) 101 i 1 2 ((fillR oRex [.val (.int .i64 0), .val (.slice none 0 0), .val (.slice none 0 0)] l i).set i [.val (.int .i64 kk), .hd k, .hd (k + 1)]) [.val (.int .i64 kk), .hd k, .hd (k + 1)] (.own 117 (ss.map encS)) (.own 101 (oRexL ks)) n1 n2 (by omega) (by omega) (by simp) (by simp [fillR_len (Nat.le_of_lt hi), hi]) (by simp) (by simp) (by simp [n1, Ne.symm n1]) (by simp [n2, Ne.symm n2]), i + 1, by omega, ?_⟩
    simp [h0, h3]
    rw [← hset]; simp [oRex]

  · simp [h0, h3, h4, hH, hi, fillR_all (Nat.le_of_not_lt hi)]
mutual
theorem tc_toRexO : ∀ (r : Rex), Sm r → TC Try.prog 114 [.agg (encRex r)] [] (.agg (oRex r)) []
  | .mk k s l, hs => by
    refine TC.enter Try.func114 rfl (by simp [Try.ntmps114]) rfl (tw_sound (ρ := [1]) ?_)
    rw [Try.ntmps114]
    simp [encRex]
    refine gall_intro fun a ha => ?_
    simp
    refine gall_intro fun b hb => ?_
    simp at hb
    simp [hb, Ne.symm hb]
    refine TWoH.call (tc_toSpanS s hs.1) callable_104 (by simp [*]) (by simp) (by simp) fun c hc => ?_
    have c1 : ¬ a = c := fun e => by have := hc c (Nat.le_refl _); rw [← e] at this; simp [hb, Ne.symm hb] at this
    have c2 : ¬ b = c := fun e => by have := hc c (Nat.le_refl _); rw [← e] at this; simp [hb, Ne.symm hb] at this
    simp [hb, Ne.symm hb, c1, c2, Ne.symm c1, Ne.symm c2]
    refine TWoH.call (tc_toRexSO l hs.2.1 (tc_toRexOL l hs.2.2)) callable_140 (by simp [*, encRexL_eq]) (by simp) (by simp) fun d hd => ?_
    have d1 : ¬ a = d := fun e => by have := hd d (Nat.le_refl _); rw [← e] at this; simp [hb, Ne.symm hb, c1, c2] at this
    have d2 : ¬ b = d := fun e => by have := hd d (Nat.le_refl _); rw [← e] at this; simp [hb, Ne.symm hb, c1, c2] at this
    have d3 : ¬ c = d := fun e => by have := hd d (Nat.le_refl _); rw [← e] at this; simp [hb, Ne.symm hb, c1, c2, Ne.symm c1, Ne.symm c2] at this
    simp [hb, Ne.symm hb, c1, c2, Ne.symm c1, Ne.symm c2, d1, d2, d3, Ne.symm d1, Ne.symm d2, Ne.symm d3, oRex, oRexL_eq]
theorem tc_toRexOL : ∀ (l : List Rex), SmL l → ∀ i (h : i < l.length), TC Try.prog 114 [.agg (encRex l[i])] [] (.agg (oRex l[i])) []
  | r :: l, hs, 0, _ => tc_toRexO r hs.1
  | r :: l, hs, i + 1, h => by
    simp only [List.getElem_cons_succ]
    exact tc_toRexOL l hs.2 i (by simpa using h)
end
def oRule (r : Rule) : List TV := .val (.string (bs r.name)) :: oRex r.rex
@[simp] theorem len_orule (r : Rule) : (oRule r).length = 4 := by simp [oRule]
@[simp] theorem roL_orule (r : Rule) : roL (oRule r) = encRule r := by simp [oRule, encRule]
@[simp] theorem noH_orule (r : Rule) : noHL (oRule r) = true := by simp [oRule]
@[simp] theorem noRo_orule (r : Rule) : noRoL (oRule r) = true := by simp [oRule]
@[simp] theorem noHR_orules (l : List Rule) : noHR (l.map oRule) = true := by induction l <;> simp [*]
@[simp] theorem noRoR_orules (l : List Rule) : noRoR (l.map oRule) = true := by induction l <;> simp [*]
@[simp] theorem roRows_orules (l : List Rule) : roRows (l.map oRule) = l.map encRule := by induction l <;> simp [*]
theorem tc_toRuleO (r : Rule) (hs : Sm r.rex) : TC Try.prog 76 [.agg (encRule r)] [] (.agg (oRule r)) [] := by
  refine TC.enter Try.func76 rfl (by simp [Try.ntmps76]) rfl (tw_sound (ρ := [1]) ?_)
  rw [Try.ntmps76]
  simp [encRule]
  refine gall_intro fun a ha => ?_
  simp
  refine gall_intro fun b hb => ?_
  simp at hb
  simp [hb, Ne.symm hb]
  have h := tc_toRexO r.rex hs
  obtain ⟨nm, rx⟩ := r
  obtain ⟨kk, ss, ks⟩ := rx
  refine TWoH.call h callable_114 (by simp [*]) (by simp) (by simp) fun c hc => ?_
  have c1 : ¬ a = c := fun e => by have := hc c (Nat.le_refl _); rw [← e] at this; simp [hb, Ne.symm hb] at this
  have c2 : ¬ b = c := fun e => by have := hc c (Nat.le_refl _); rw [← e] at this; simp [hb, Ne.symm hb] at this
  have d1 : ¬ a = c + 1 := fun e => by have := hc (c + 1) (by omega); rw [← e] at this; simp [hb, Ne.symm hb] at this
  have d2 : ¬ b = c + 1 := fun e => by have := hc (c + 1) (by omega); rw [← e] at this; simp [hb, Ne.symm hb] at this
  simp [hb, Ne.symm hb, c1, c2, Ne.symm c1, Ne.symm c2, d1, d2, Ne.symm d1, Ne.symm d2, oRule, oRex]
theorem tc_toRuleSO (l : List Rule) (hl : l.length ≤ 1048576) (hs : ∀ r ∈ l, Sm r.rex) : TC Try.prog 26 [.ro (l.map encRule)] [] (.own 103 (l.map oRule)) [] := by
  refine TC.enter Try.func26 rfl (by simp [Try.ntmps26]) rfl (tw_sound (ρ := []) ?_)
  rw [Try.ntmps26]
  simp [makeV]
  rw [gif_pos (by omega)]
  refine gall_intro fun id hid => ?_
  simp
  refine TWcH.loopS [] (fun m s => ∃ i, i + m = l.length ∧ s.σ 0 = .ro (l.map encRule) ∧ s.σ 3 = .hd id ∧ s.σ 4 = .val (.int .i64 i) ∧ s.H id = some (.own 103 (fillR oRule [.val (.string (bs [])), .val (.int .i64 0), .val (.slice none 0 0), .val (.slice none 0 0)] l i))) l.length ⟨0, by simp⟩ ?_
  rintro m ⟨σ, H⟩ ⟨i, him, h0, h3, h4, hH⟩
  simp only at h0 h3 h4 hH
  refine tw_sound (ρ := []) ?_
  by_cases hi : i < l.length
  · have hw := hw1 hi (by omega)
    simp [h0, h3, h4, getI hi, hi]
    have hih := tc_toRuleO l[i] (hs _ (List.getElem_mem hi))
    have hset := fillR_set (enc := oRule) (z := [.val (.string (bs [])), .val (.int .i64 0), .val (.slice none 0 0), .val (.slice none 0 0)]) hi
    generalize l[i] = r at hih hset
    obtain ⟨nm, rx⟩ := r
    obtain ⟨kk, ss, ks⟩ := rx
    refine TWoH.call hih callable_76 (by simp [*]) (by simp) (by simp) fun k hk => ?_
    have n1 : ¬ id = k := fun e => by have := hk k (Nat.le_refl _); rw [← e] at this; simp [hH] at this
    have n2 : ¬ id = k + 1 := fun e => by have := hk (k + 1) (by omega); rw [← e] at this; simp [hH] at this
    simp [h0, h3, h4, hH, hi, oRule, oRex, n1, n2, fillR_at hi, fillR_at' hi, fillR_len (Nat.le_of_lt hi), hw]
    refine ⟨m - 1, by omega, _, Shift.fold2x id k (k + 1) 103 i 2 3 ((fillR oRule [.val (.string (bs [])), .val (.int .i64 0), .val (.slice none 0 0), .val (.slice none 0 0)] l i).set i [.val (.string (bs nm)), .val (.int .i64 kk), .hd k, .hd (k + 1)]) [.val (.string (bs nm)), .val (.int .i64 kk), .hd k, .hd (k + 1)] (.own 117 (ss.map encS)) (.own 101 (oRexL ks)) n1 n2 (by omega) (by omega) (by simp) (by simp [fillR_len (Nat.le_of_lt hi), hi]) (by simp) (by simp) (by simp [n1, Ne.symm n1]) (by simp [n2, Ne.symm n2]), i + 1, by omega, ?_⟩
    simp [h0, h3]
    rw [← hset]; simp [oRule, oRex]
  · simp [h0, h3, h4, hH, hi, fillR_all (Nat.le_of_not_lt hi)]
end Go.Proofs.Ytigmibfacllhmaa.R

open Go Go.Proofs.Ytigmibfacllhmaa.T
namespace Go.Proofs.Ytigmibfacllhmaa.R
set_option maxHeartbeats 4000000
set_option maxRecDepth 100000
set_option linter.unusedSimpArgs false
set_option linter.unusedVariables false
attribute [local simp] bsV bsRows chunk fillT partsT appV makeV rowsOf cellsOf placeOf
@[simp] theorem noRo_S (r : Int × Int) : noRoL (encS r) = true := by simp [encS]
theorem fresh_ne {H : Nat → Option TV} {i k j : Nat} (hk : ∀ j, k ≤ j → H j = none) (hi : (H i).isSome = true) (hj : k ≤ j) : ¬ i = j := fun e => by rw [e, hk j hj] at hi; cases hi
def encI (x : Int) : List TV := [.val (.int .i64 x)]

def encP (s : List (Int × Int)) : List TV := [.ro (s.map encS)]
def encR (r : List Int) : List TV := [.ro (r.map encI)]
@[simp] theorem len_encI (r : Int) : (encI r).length = 1 := by simp [encI]
@[simp] theorem take_encI (r : Int) : (encI r).take 1 = encI r := by simp [encI]
@[simp] theorem plain_encI (r : Int) : (encI r).all TV.plain = true := by simp [encI]
@[simp] theorem pc_encI (r : Int) : (encI r).all TV.pc = true := by simp [encI, TV.pc, TV.cell, Value.oneCell']
@[simp] theorem noH_encI (r : Int) : noHL (encI r) = true := by simp [encI]
@[simp] theorem argTL_encI {H : Nat → Option TV} {ρ : List Nat} (r : Int) : argTL H ρ (encI r) = some (encI r) := by simp [encI]
@[simp] theorem views_encI {ρ : List Nat} (r : Int) : (encI r).flatMap (views1 ρ) = [] := by simp [encI]
@[simp] theorem opnL_encI {k : Nat} (r : Int) : opnL k (encI r) = (encI r, []) := by simp [encI]
@[simp] theorem closeL_encI {H : Nat → Option TV} (r : Int) : closeL H (encI r) = some (encI r, H) := by simp [encI]
@[simp] theorem roL_encI (r : Int) : roL (encI r) = encI r := by simp [encI]
@[simp] theorem noHR_encI (l : List Int) : noHR (l.map encI) = true := by induction l <;> simp [*]
@[simp] theorem roRows_encI (l : List Int) : roRows (l.map encI) = l.map encI := by induction l <;> simp [*]
@[simp] theorem noRo_encI (r : Int) : noRoL (encI r) = true := by simp [encI]
@[simp] theorem noRoR_encI (l : List Int) : noRoR (l.map encI) = true := by induction l <;> simp [*]
theorem rl_encI (l : List Int) : ∀ r ∈ l.map encI, r.length = 1 := by
  intro r hr
  obtain ⟨x, _, rfl⟩ := List.mem_map.1 hr
  simp
@[simp] theorem len_encB (r : Bool) : (encB r).length = 1 := by simp [encB]
@[simp] theorem take_encB (r : Bool) : (encB r).take 1 = encB r := by simp [encB]
@[simp] theorem plain_encB (r : Bool) : (encB r).all TV.plain = true := by simp [encB]
@[simp] theorem pc_encB (r : Bool) : (encB r).all TV.pc = true := by simp [encB, TV.pc, TV.cell, Value.oneCell']
@[simp] theorem noH_encB (r : Bool) : noHL (encB r) = true := by simp [encB]
@[simp] theorem argTL_encB {H : Nat → Option TV} {ρ : List Nat} (r : Bool) : argTL H ρ (encB r) = some (encB r) := by simp [encB]
@[simp] theorem views_encB {ρ : List Nat} (r : Bool) : (encB r).flatMap (views1 ρ) = [] := by simp [encB]
@[simp] theorem opnL_encB {k : Nat} (r : Bool) : opnL k (encB r) = (encB r, []) := by simp [encB]
@[simp] theorem closeL_encB {H : Nat → Option TV} (r : Bool) : closeL H (encB r) = some (encB r, H) := by simp [encB]
@[simp] theorem roL_encB (r : Bool) : roL (encB r) = encB r := by simp [encB]
@[simp] theorem noHR_encB (l : List Bool) : noHR (l.map encB) = true := by induction l <;> simp [*]
@[simp] theorem roRows_encB (l : List Bool) : roRows (l.map encB) = l.map encB := by induction l <;> simp [*]
@[simp] theorem noRo_encB (r : Bool) : noRoL (encB r) = true := by simp [encB]
@[simp] theorem noRoR_encB (l : List Bool) : noRoR (l.map encB) = true := by induction l <;> simp [*]
theorem rl_encB (l : List Bool) : ∀ r ∈ l.map encB, r.length = 1 := by
  intro r hr
  obtain ⟨x, _, rfl⟩ := List.mem_map.1 hr
  simp
@[simp] theorem len_encP (r : List (Int × Int)) : (encP r).length = 1 := by simp [encP]
@[simp] theorem take_encP (r : List (Int × Int)) : (encP r).take 1 = encP r := by simp [encP]
@[simp] theorem plain_encP (r : List (Int × Int)) : (encP r).all TV.plain = true := by simp [encP]
@[simp] theorem pc_encP (r : List (Int × Int)) : (encP r).all TV.pc = true := by simp [encP, TV.pc, TV.cell, Value.oneCell']
@[simp] theorem noH_encP (r : List (Int × Int)) : noHL (encP r) = true := by simp [encP]
@[simp] theorem argTL_encP {H : Nat → Option TV} {ρ : List Nat} (r : List (Int × Int)) : argTL H ρ (encP r) = some (encP r) := by simp [encP]
@[simp] theorem views_encP {ρ : List Nat} (r : List (Int × Int)) : (encP r).flatMap (views1 ρ) = [] := by simp [encP]
@[simp] theorem opnL_encP {k : Nat} (r : List (Int × Int)) : opnL k (encP r) = (encP r, []) := by simp [encP]
@[simp] theorem closeL_encP {H : Nat → Option TV} (r : List (Int × Int)) : closeL H (encP r) = some (encP r, H) := by simp [encP]
@[simp] theorem roL_encP (r : List (Int × Int)) : roL (encP r) = encP r := by simp [encP]
@[simp] theorem noHR_encP (l : List (List (Int × Int))) : noHR (l.map encP) = true := by induction l <;> simp [*]
@[simp] theorem roRows_encP (l : List (List (Int × Int))) : roRows (l.map encP) = l.map encP := by induction l <;> simp [*]
theorem rl_encP (l : List (List (Int × Int))) : ∀ r ∈ l.map encP, r.length = 1 := by
  intro r hr
  obtain ⟨x, _, rfl⟩ := List.mem_map.1 hr
  simp
@[simp] theorem len_encR (r : List Int) : (encR r).length = 1 := by simp [encR]
@[simp] theorem take_encR (r : List Int) : (encR r).take 1 = encR r := by simp [encR]
@[simp] theorem plain_encR (r : List Int) : (encR r).all TV.plain = true := by simp [encR]
@[simp] theorem pc_encR (r : List Int) : (encR r).all TV.pc = true := by simp [encR, TV.pc, TV.cell, Value.oneCell']
@[simp] theorem noH_encR (r : List Int) : noHL (encR r) = true := by simp [encR]
@[simp] theorem argTL_encR {H : Nat → Option TV} {ρ : List Nat} (r : List Int) : argTL H ρ (encR r) = some (encR r) := by simp [encR]
@[simp] theorem views_encR {ρ : List Nat} (r : List Int) : (encR r).flatMap (views1 ρ) = [] := by simp [encR]
@[simp] theorem opnL_encR {k : Nat} (r : List Int) : opnL k (encR r) = (encR r, []) := by simp [encR]
@[simp] theorem closeL_encR {H : Nat → Option TV} (r : List Int) : closeL H (encR r) = some (encR r, H) := by simp [encR]
@[simp] theorem roL_encR (r : List Int) : roL (encR r) = encR r := by simp [encR]
@[simp] theorem noHR_encR (l : List (List Int)) : noHR (l.map encR) = true := by induction l <;> simp [*]
@[simp] theorem roRows_encR (l : List (List Int)) : roRows (l.map encR) = l.map encR := by induction l <;> simp [*]
theorem rl_encR (l : List (List Int)) : ∀ r ∈ l.map encR, r.length = 1 := by
  intro r hr
  obtain ⟨x, _, rfl⟩ := List.mem_map.1 hr
  simp
def oP (s : List (Int × Int)) : List TV := [.own 117 (s.map encS)]
def oR (r : List Int) : List TV := [.own 3 (r.map encI)]
@[simp] theorem len_oP (r : List (Int × Int)) : (oP r).length = 1 := by simp [oP]
@[simp] theorem noH_oP (r : List (Int × Int)) : noHL (oP r) = true := by simp [oP]
@[simp] theorem noRo_oP (r : List (Int × Int)) : noRoL (oP r) = true := by simp [oP]
@[simp] theorem roL_oP (r : List (Int × Int)) : roL (oP r) = encP r := by simp [oP, encP]
@[simp] theorem noHR_oP (l : List (List (Int × Int))) : noHR (l.map oP) = true := by induction l <;> simp [*]
@[simp] theorem noRoR_oP (l : List (List (Int × Int))) : noRoR (l.map oP) = true := by induction l <;> simp [*]
@[simp] theorem roRows_oP (l : List (List (Int × Int))) : roRows (l.map oP) = l.map encP := by induction l <;> simp [*]
@[simp] theorem len_oR (r : List Int) : (oR r).length = 1 := by simp [oR]
@[simp] theorem noH_oR (r : List Int) : noHL (oR r) = true := by simp [oR]
@[simp] theorem noRo_oR (r : List Int) : noRoL (oR r) = true := by simp [oR]
@[simp] theorem roL_oR (r : List Int) : roL (oR r) = encR r := by simp [oR, encR]
@[simp] theorem noHR_oR (l : List (List Int)) : noHR (l.map oR) = true := by induction l <;> simp [*]
@[simp] theorem noRoR_oR (l : List (List Int)) : noRoR (l.map oR) = true := by induction l <;> simp [*]
@[simp] theorem roRows_oR (l : List (List Int)) : roRows (l.map oR) = l.map encR := by induction l <;> simp [*]
structure Dfa where
  parts : List (List (Int × Int))
  rows : List (List Int)
  acc : List Int
def encDfa (d : Dfa) : List TV := [.ro (d.parts.map encP), .ro (d.rows.map encR), .ro (d.acc.map encI)]
def oDfa (d : Dfa) : List TV := [.own 80 (d.parts.map oP), .own 24 (d.rows.map oR), .own 3 (d.acc.map encI)]
@[simp] theorem len_encDfa (r : Dfa) : (encDfa r).length = 3 := by simp [encDfa]
@[simp] theorem take_encDfa (r : Dfa) : (encDfa r).take 3 = encDfa r := by simp [encDfa]
@[simp] theorem plain_encDfa (r : Dfa) : (encDfa r).all TV.plain = true := by simp [encDfa]
@[simp] theorem pc_encDfa (r : Dfa) : (encDfa r).all TV.pc = true := by simp [encDfa, TV.pc, TV.cell, Value.oneCell']
@[simp] theorem noH_encDfa (r : Dfa) : noHL (encDfa r) = true := by simp [encDfa]
@[simp] theorem argTL_encDfa {H : Nat → Option TV} {ρ : List Nat} (r : Dfa) : argTL H ρ (encDfa r) = some (encDfa r) := by simp [encDfa]
@[simp] theorem views_encDfa {ρ : List Nat} (r : Dfa) : (encDfa r).flatMap (views1 ρ) = [] := by simp [encDfa]
@[simp] theorem opnL_encDfa {k : Nat} (r : Dfa) : opnL k (encDfa r) = (encDfa r, []) := by simp [encDfa]
@[simp] theorem closeL_encDfa {H : Nat → Option TV} (r : Dfa) : closeL H (encDfa r) = some (encDfa r, H) := by simp [encDfa]
@[simp] theorem roL_encDfa (r : Dfa) : roL (encDfa r) = encDfa r := by simp [encDfa]
@[simp] theorem noHR_encDfa (l : List Dfa) : noHR (l.map encDfa) = true := by induction l <;> simp [*]
@[simp] theorem roRows_encDfa (l : List Dfa) : roRows (l.map encDfa) = l.map encDfa := by induction l <;> simp [*]
theorem rl_encDfa (l : List Dfa) : ∀ r ∈ l.map encDfa, r.length = 3 := by
  intro r hr
  obtain ⟨x, _, rfl⟩ := List.mem_map.1 hr
  simp
@[simp] theorem len_oDfa (r : Dfa) : (oDfa r).length = 3 := by simp [oDfa]
@[simp] theorem noH_oDfa (r : Dfa) : noHL (oDfa r) = true := by simp [oDfa]
@[simp] theorem noRo_oDfa (r : Dfa) : noRoL (oDfa r) = true := by simp [oDfa]
@[simp] theorem roL_oDfa (r : Dfa) : roL (oDfa r) = encDfa r := by simp [oDfa, encDfa]
@[simp] theorem noHR_oDfa (l : List Dfa) : noHR (l.map oDfa) = true := by induction l <;> simp [*]
@[simp] theorem noRoR_oDfa (l : List Dfa) : noRoR (l.map oDfa) = true := by induction l <;> simp [*]
@[simp] theorem roRows_oDfa (l : List Dfa) : roRows (l.map oDfa) = l.map encDfa := by induction l <;> simp [*]
/-- The sizes one behind the other. -/
def szLoopN : List Nat → Int → Int
  | [], a => a
  | n :: ns, a => if szN n a < 0 then -1 else szLoopN ns (szN n a)
def szSSF (ns : List Nat) (left : Int) : Int := if IntKind.i64.wrap (left - ns.length) < 0 then -1 else szLoopN ns (IntKind.i64.wrap (left - ns.length))
theorem szLoopN_drop {ns : List Nat} {i : Nat} (h : i < ns.length) (a : Int) : szLoopN (ns.drop i) a = if szN ns[i] a < 0 then -1 else szLoopN (ns.drop (i + 1)) (szN ns[i] a) := by
  conv => lhs; rw [List.drop_eq_getElem_cons h]
  rw [szLoopN]
def szDfaF (d : Dfa) (left : Int) : Int :=
  let a := szSSF (d.parts.map List.length) left
  if a < 0 then -1 else
  let b := szSSF (d.rows.map List.length) a
  if b < 0 then -1 else
  let c := szN d.acc.length b
  if c < 0 then -1 else c
theorem tc_szIntS (l : List Int) (left : Int) : TC Try.prog 53 [.ro (l.map encI), .val (.int .i64 left)] [] (.val (.int .i64 (szN l.length left))) [] := by
  refine TC.enter Try.func53 rfl (by simp [Try.ntmps53]) rfl (tw_sound (ρ := []) ?_)
  rw [Try.ntmps53]
  simp
  refine gif_intro (fun c1 => ?_) (fun c1 => ?_) <;> simp [szN, c1]
theorem tc_szSS51 (l : List (List (Int × Int))) (hl : l.length ≤ 1152921504606846976) (left : Int) : TC Try.prog 51 [.ro (l.map encP), .val (.int .i64 left)] [] (.val (.int .i64 (szSSF (l.map List.length) left))) [] := by
  refine TC.enter Try.func51 rfl (by simp [Try.ntmps51]) rfl (tw_sound (ρ := []) ?_)
  rw [Try.ntmps51]
  simp
  refine gif_intro (fun c1 => ?_) (fun c1 => ?_) <;> simp [szSSF, c1]
  refine TWcH.loop [] (fun m s => ∃ i a, i + m = l.length ∧ s.σ 0 = .ro (l.map encP) ∧ s.σ 1 = .val (.int .i64 a) ∧ s.σ 5 = .val (.int .i64 i) ∧ szLoopN (l.map List.length) (IntKind.i64.wrap (left - l.length)) = szLoopN ((l.map List.length).drop i) a) l.length ⟨0, IntKind.i64.wrap (left - l.length), by simp⟩ ?_
  rintro m ⟨σ, H⟩ ⟨i, a, him, h0, h1, h5, hh⟩
  simp only at h0 h1 h5
  by_cases hi : i < l.length
  · rw [szLoopN_drop (by simpa using hi)] at hh
    simp only [List.getElem_map] at hh
    have hw := hw1 hi hl
    simp [h0, h1, h5, getI hi, hi, encP]
    refine TWoH.callV (tc_szSpanS l[i] a) callable_101 (by simp [*]) (by simp) (by simp) (by simp [*]) ?_
    simp [h0, h1, h5, hi]
    refine gif_intro (fun c2 => ?_) (fun c2 => ?_) <;> simp [h0, h1, h5, hi, c2, hw]
    · simp [hh, c2]
    · exact ⟨m - 1, by omega, i + 1, by omega, by omega, by simp [hh, c2]⟩
  · simp [h0, h1, h5, hi]
    rw [if_neg c1, hh, List.drop_eq_nil_of_le (by simp; omega)]; rfl
theorem tc_szSS52 (l : List (List Int)) (hl : l.length ≤ 1152921504606846976) (left : Int) : TC Try.prog 52 [.ro (l.map encR), .val (.int .i64 left)] [] (.val (.int .i64 (szSSF (l.map List.length) left))) [] := by
  refine TC.enter Try.func52 rfl (by simp [Try.ntmps52]) rfl (tw_sound (ρ := []) ?_)
  rw [Try.ntmps52]
  simp
  refine gif_intro (fun c1 => ?_) (fun c1 => ?_) <;> simp [szSSF, c1]
  refine TWcH.loop [] (fun m s => ∃ i a, i + m = l.length ∧ s.σ 0 = .ro (l.map encR) ∧ s.σ 1 = .val (.int .i64 a) ∧ s.σ 5 = .val (.int .i64 i) ∧ szLoopN (l.map List.length) (IntKind.i64.wrap (left - l.length)) = szLoopN ((l.map List.length).drop i) a) l.length ⟨0, IntKind.i64.wrap (left - l.length), by simp⟩ ?_
  rintro m ⟨σ, H⟩ ⟨i, a, him, h0, h1, h5, hh⟩
  simp only at h0 h1 h5
  by_cases hi : i < l.length
  · rw [szLoopN_drop (by simpa using hi)] at hh
    simp only [List.getElem_map] at hh
    have hw := hw1 hi hl
    simp [h0, h1, h5, getI hi, hi, encR]
    refine TWoH.callV (tc_szIntS l[i] a) callable_53 (by simp [*]) (by simp) (by simp) (by simp [*]) ?_
    simp [h0, h1, h5, hi]
    refine gif_intro (fun c2 => ?_) (fun c2 => ?_) <;> simp [h0, h1, h5, hi, c2, hw]
    · simp [hh, c2]
    · exact ⟨m - 1, by omega, i + 1, by omega, by omega, by simp [hh, c2]⟩
  · simp [h0, h1, h5, hi]
    rw [if_neg c1, hh, List.drop_eq_nil_of_le (by simp; omega)]; rfl
theorem tc_szDfa (d : Dfa) (hp : d.parts.length ≤ 1152921504606846976) (hr : d.rows.length ≤ 1152921504606846976) (left : Int) : TC Try.prog 13 [.agg (encDfa d), .val (.int .i64 left)] [] (.val (.int .i64 (szDfaF d left))) [] := by
  refine TC.enter Try.func13 rfl (by simp [Try.ntmps13]) rfl (tw_sound (ρ := [2]) ?_)
  rw [Try.ntmps13]
  simp [encDfa]
  refine TWoH.callV (tc_szSS51 d.parts hp left) callable_51 (by simp) (by simp) (by simp) (by simp) ?_
  simp
  refine gif_intro (fun c1 => ?_) (fun c1 => ?_) <;> simp [szDfaF, c1]
  refine TWoH.callV (tc_szSS52 d.rows hr (szSSF (d.parts.map List.length) left)) callable_52 (by simp) (by simp) (by simp) (by simp) ?_
  simp
  refine gif_intro (fun c2 => ?_) (fun c2 => ?_) <;> simp [szDfaF, c1, c2]
  refine TWoH.callV (tc_szIntS d.acc (szSSF (d.rows.map List.length) (szSSF (d.parts.map List.length) left))) callable_53 (by simp) (by simp) (by simp) (by simp) ?_
  simp
  refine gif_intro (fun c3 => ?_) (fun c3 => ?_) <;> simp [szDfaF, c1, c2, c3]
theorem tc_toIntS (l : List Int) (hl : l.length ≤ 1048576) : TC Try.prog 58 [.ro (l.map encI)] [] (.own 3 (l.map encI)) [] := by
  refine TC.enter Try.func58 rfl (by simp [Try.ntmps58]) rfl (tw_sound (ρ := []) ?_)
  rw [Try.ntmps58]
  simp [makeV]
  rw [gif_pos (by omega)]
  refine gall_intro fun id hid => ?_
  simp
  refine TWcH.loop [] (fun m s => ∃ i, i + m = l.length ∧ s.σ 0 = .ro (l.map encI) ∧ s.σ 3 = .hd id ∧ s.σ 4 = .val (.int .i64 i) ∧ s.H id = some (.own 3 (fillR encI [.val (.int .i64 0)] l i))) l.length ⟨0, by simp⟩ ?_
  rintro m ⟨σ, H⟩ ⟨i, him, h0, h3, h4, hH⟩
  simp only at h0 h3 h4 hH
  by_cases hi : i < l.length
  · have hw := hw1 hi (by omega)
    have hset := fillR_set (enc := encI) (z := [.val (.int .i64 0)]) hi
    simp only [encI] at hset
    simp [h0, h3, h4, hH, getI hi, hi, encI, fillR_at hi, fillR_at' hi, fillR_len (Nat.le_of_lt hi), hw]
    exact ⟨m - 1, by omega, i + 1, by omega, by omega, hset⟩
  · simp [h0, h3, h4, hH, hi, fillR_all (Nat.le_of_not_lt hi)]
theorem tc_toSpanSS (l : List (List (Int × Int))) (hl : l.length ≤ 1048576) (hs : ∀ x ∈ l, x.length ≤ 1048576) : TC Try.prog 56 [.ro (l.map encP)] [] (.own 80 (l.map oP)) [] := by
  refine TC.enter Try.func56 rfl (by simp [Try.ntmps56]) rfl (tw_sound (ρ := []) ?_)
  rw [Try.ntmps56]
  simp [makeV]
  rw [gif_pos (by omega)]
  refine gall_intro fun id hid => ?_
  simp
  refine TWcH.loopS [] (fun m s => ∃ i, i + m = l.length ∧ s.σ 0 = .ro (l.map encP) ∧ s.σ 3 = .hd id ∧ s.σ 4 = .val (.int .i64 i) ∧ s.H id = some (.own 80 (fillR oP [.val (.slice none 0 0)] l i))) l.length ⟨0, by simp⟩ ?_
  rintro m ⟨σ, H⟩ ⟨i, him, h0, h3, h4, hH⟩
  simp only at h0 h3 h4 hH
  refine tw_sound (ρ := []) ?_
  by_cases hi : i < l.length
  · have hw := hw1 hi (by omega)
    simp [h0, h3, h4, getI hi, hi, encP]
    have hset := fillR_set (enc := oP) (z := [.val (.slice none 0 0)]) hi
    refine TWoH.call (tc_toSpanS l[i] (hs _ (List.getElem_mem hi))) callable_104 (by simp [*]) (by simp) (by simp) fun k hk => ?_
    have n1 : ¬ id = k := fun e => by have := hk k (Nat.le_refl _); rw [← e] at this; simp [hH] at this
    simp [h0, h3, h4, hH, hi, n1, fillR_at hi, fillR_at' hi, fillR_len (Nat.le_of_lt hi), hw, encP]
    refine ⟨m - 1, by omega, _, Shift.fold1x id k 80 i 0 ((fillR oP [.val (.slice none 0 0)] l i).set i [.hd k]) [.hd k] (.own 117 (l[i].map encS)) n1 (by simp) (by simp [fillR_len (Nat.le_of_lt hi), hi]) (by simp) (by simp [n1, Ne.symm n1]), i + 1, by omega, ?_⟩
    simp [h0, h3]
    rw [← hset]; simp [oP]
  · simp [h0, h3, h4, hH, hi, fillR_all (Nat.le_of_not_lt hi)]
theorem tc_toIntSS (l : List (List Int)) (hl : l.length ≤ 1048576) (hs : ∀ x ∈ l, x.length ≤ 1048576) : TC Try.prog 57 [.ro (l.map encR)] [] (.own 24 (l.map oR)) [] := by
  refine TC.enter Try.func57 rfl (by simp [Try.ntmps57]) rfl (tw_sound (ρ := []) ?_)
  rw [Try.ntmps57]
  simp [makeV]
  rw [gif_pos (by omega)]
  refine gall_intro fun id hid => ?_
  simp
  refine TWcH.loopS [] (fun m s => ∃ i, i + m = l.length ∧ s.σ 0 = .ro (l.map encR) ∧ s.σ 3 = .hd id ∧ s.σ 4 = .val (.int .i64 i) ∧ s.H id = some (.own 24 (fillR oR [.val (.slice none 0 0)] l i))) l.length ⟨0, by simp⟩ ?_
  rintro m ⟨σ, H⟩ ⟨i, him, h0, h3, h4, hH⟩
  simp only at h0 h3 h4 hH
  refine tw_sound (ρ := []) ?_
  by_cases hi : i < l.length
  · have hw := hw1 hi (by omega)
    simp [h0, h3, h4, getI hi, hi, encR]
    have hset := fillR_set (enc := oR) (z := [.val (.slice none 0 0)]) hi
    refine TWoH.call (tc_toIntS l[i] (hs _ (List.getElem_mem hi))) callable_58 (by simp [*]) (by simp) (by simp) fun k hk => ?_
    have n1 : ¬ id = k := fun e => by have := hk k (Nat.le_refl _); rw [← e] at this; simp [hH] at this
    simp [h0, h3, h4, hH, hi, n1, fillR_at hi, fillR_at' hi, fillR_len (Nat.le_of_lt hi), hw, encR]
    refine ⟨m - 1, by omega, _, Shift.fold1x id k 24 i 0 ((fillR oR [.val (.slice none 0 0)] l i).set i [.hd k]) [.hd k] (.own 3 (l[i].map encI)) n1 (by simp) (by simp [fillR_len (Nat.le_of_lt hi), hi]) (by simp) (by simp [n1, Ne.symm n1]), i + 1, by omega, ?_⟩
    simp [h0, h3]
    rw [← hset]; simp [oR]
  · simp [h0, h3, h4, hH, hi, fillR_all (Nat.le_of_not_lt hi)]
/-- A machine is small. -/
structure DSm (d : Dfa) : Prop where
  parts : d.parts.length ≤ 1048576
  rows : d.rows.length ≤ 1048576
  acc : d.acc.length ≤ 1048576
  part : ∀ x ∈ d.parts, x.length ≤ 1048576
  row : ∀ x ∈ d.rows, x.length ≤ 1048576
theorem tc_toDfaO (d : Dfa) (hs : DSm d) : TC Try.prog 15 [.agg (encDfa d)] [] (.agg (oDfa d)) [] := by
  refine TC.enter Try.func15 rfl (by simp [Try.ntmps15]) rfl (tw_sound (ρ := [1]) ?_)
  rw [Try.ntmps15]
  simp [encDfa]
  refine gall_intro fun a ha => ?_
  simp
  refine gall_intro fun b hb => ?_
  simp at hb
  have hb' : ¬ a = b := fun e => hb e.symm
  simp [hb, hb']
  refine TWoH.call (tc_toSpanSS d.parts hs.parts hs.part) callable_56 (by simp [*]) (by simp) (by simp) fun c hc => ?_
  have a1 := fresh_ne (i := a) hc (by simp [hb, hb']) (Nat.le_refl _)
  have a2 := fresh_ne (i := b) hc (by simp [hb, hb']) (Nat.le_refl _)
  have a1' : ¬ c = a := fun e => a1 e.symm
  have a2' : ¬ c = b := fun e => a2 e.symm
  simp [hb, hb', a1, a2, a1', a2']
  refine TWoH.call (tc_toIntSS d.rows hs.rows hs.row) callable_57 (by simp [*]) (by simp) (by simp) fun e he => ?_
  have b1 := fresh_ne (i := a) he (by simp [hb, hb', a1, a2, a1', a2']) (Nat.le_refl _)
  have b2 := fresh_ne (i := b) he (by simp [hb, hb', a1, a2, a1', a2']) (Nat.le_refl _)
  have b3 := fresh_ne (i := c) he (by simp [hb, hb', a1, a2, a1', a2']) (Nat.le_refl _)
  have b1' : ¬ e = a := fun x => b1 x.symm
  have b2' : ¬ e = b := fun x => b2 x.symm
  have b3' : ¬ e = c := fun x => b3 x.symm
  simp [hb, hb', a1, a2, a1', a2', b1, b2, b3, b1', b2', b3']
  refine TWoH.call (tc_toIntS d.acc hs.acc) callable_58 (by simp [*]) (by simp) (by simp) fun f hf => ?_
  have c1 := fresh_ne (i := a) hf (by simp [hb, hb', a1, a2, a1', a2', b1, b2, b3, b1', b2', b3']) (Nat.le_refl _)
  have c2 := fresh_ne (i := b) hf (by simp [hb, hb', a1, a2, a1', a2', b1, b2, b3, b1', b2', b3']) (Nat.le_refl _)
  have c3 := fresh_ne (i := c) hf (by simp [hb, hb', a1, a2, a1', a2', b1, b2, b3, b1', b2', b3']) (Nat.le_refl _)
  have c4 := fresh_ne (i := e) hf (by simp [hb, hb', a1, a2, a1', a2', b1, b2, b3, b1', b2', b3']) (Nat.le_refl _)
  have c1' : ¬ f = a := fun x => c1 x.symm
  have c2' : ¬ f = b := fun x => c2 x.symm
  have c3' : ¬ f = c := fun x => c3 x.symm
  have c4' : ¬ f = e := fun x => c4 x.symm
  simp [hb, hb', a1, a2, a1', a2', b1, b2, b3, b1', b2', b3', c1, c2, c3, c4, c1', c2', c3', c4', oDfa]
theorem tc_toDfa (d : Dfa) (hs : DSm d) : TC Try.prog 15 [.agg (encDfa d)] [] (.agg (encDfa d)) [] := by
  have := (tc_toDfaO d hs).frz
  simpa using this
end Go.Proofs.Ytigmibfacllhmaa.R

open Go Go.Proofs.Ytigmibfacllhmaa.T
namespace Go.Proofs.Ytigmibfacllhmaa.R
set_option maxHeartbeats 4000000
set_option maxRecDepth 100000
set_option linter.unusedSimpArgs false
set_option linter.unusedVariables false
attribute [local simp] bsV bsRows chunk fillT partsT appV makeV rowsOf cellsOf placeOf
theorem tc_eq42 (l : List Int) (hl : l.length ≤ 1152921504606846976) : TC Try.prog 42 [.ro (l.map encI), .ro (l.map encI)] [] (.val (.bool true)) [] := by
  refine TC.enter Try.func42 rfl (by simp [Try.ntmps42]) rfl (tw_sound (ρ := []) ?_)
  rw [Try.ntmps42]
  simp
  refine TWcH.loop [] (fun m s => ∃ i, i + m = l.length ∧ s.σ 0 = .ro (l.map encI) ∧ s.σ 1 = .ro (l.map encI) ∧ s.σ 5 = .val (.int .i64 i)) l.length ⟨0, by simp⟩ ?_
  rintro m ⟨σ, H⟩ ⟨i, him, h0, h1, h5⟩
  simp only at h0 h1 h5
  by_cases hi : i < l.length
  · have hw := hw1 hi hl
    simp [h0, h1, h5, hi]
    refine TWcH.regionD (ρ := []) [0, 1, 2, 3, 4, 5, 6, 7, 8] 9 mixed (by kernel_rfl) ?_
    simp [h0, h1, h5, hi, getI hi, encI, hw, isBoolT]
    exact ⟨m - 1, by omega, i + 1, by omega, by omega⟩
  · simp [h0, h1, h5, hi]
theorem tc_eq31 (l : List Bool) (hl : l.length ≤ 1152921504606846976) : TC Try.prog 31 [.ro (l.map encB), .ro (l.map encB)] [] (.val (.bool true)) [] := by
  refine TC.enter Try.func31 rfl (by simp [Try.ntmps31]) rfl (tw_sound (ρ := []) ?_)
  rw [Try.ntmps31]
  simp
  refine TWcH.loop [] (fun m s => ∃ i, i + m = l.length ∧ s.σ 0 = .ro (l.map encB) ∧ s.σ 1 = .ro (l.map encB) ∧ s.σ 5 = .val (.int .i64 i)) l.length ⟨0, by simp⟩ ?_
  rintro m ⟨σ, H⟩ ⟨i, him, h0, h1, h5⟩
  simp only at h0 h1 h5
  by_cases hi : i < l.length
  · have hw := hw1 hi hl
    simp [h0, h1, h5, hi]
    refine TWcH.regionD (ρ := []) [0, 1, 2, 3, 4, 5, 6, 7, 8] 9 mixed (by kernel_rfl) ?_
    simp [h0, h1, h5, hi, getI hi, encB, hw, isBoolT]
    exact ⟨m - 1, by omega, i + 1, by omega, by omega⟩
  · simp [h0, h1, h5, hi]
theorem tc_eq61 (l : List (List (Int × Int))) (hl : l.length ≤ 1152921504606846976) (hs : ∀ x ∈ l, x.length ≤ 1152921504606846976) : TC Try.prog 61 [.ro (l.map encP), .ro (l.map encP)] [] (.val (.bool true)) [] := by
  refine TC.enter Try.func61 rfl (by simp [Try.ntmps61]) rfl (tw_sound (ρ := []) ?_)
  rw [Try.ntmps61]
  simp
  refine TWcH.loop [] (fun m s => ∃ i, i + m = l.length ∧ s.σ 0 = .ro (l.map encP) ∧ s.σ 1 = .ro (l.map encP) ∧ s.σ 5 = .val (.int .i64 i)) l.length ⟨0, by simp⟩ ?_
  rintro m ⟨σ, H⟩ ⟨i, him, h0, h1, h5⟩
  simp only at h0 h1 h5
  by_cases hi : i < l.length
  · have hw := hw1 hi hl
    simp [h0, h1, h5, hi]
    refine TWcH.regionD (ρ := []) [0, 1, 2, 3, 4, 5, 6, 7, 8, 9] 10 mixed (by kernel_rfl) ?_
    simp [h0, h1, h5, hi, getI hi, encP]
    refine TWqH.callV (tc_eqSpanS l[i] (hs _ (List.getElem_mem hi))) callable_107 (by simp) (by simp) (by simp) (by simp) ?_
    simp [h0, h1, h5, hi, hw]
    exact ⟨m - 1, by omega, i + 1, by omega, by omega⟩
  · simp [h0, h1, h5, hi]
theorem tc_eq62 (l : List (List Int)) (hl : l.length ≤ 1152921504606846976) (hs : ∀ x ∈ l, x.length ≤ 1152921504606846976) : TC Try.prog 62 [.ro (l.map encR), .ro (l.map encR)] [] (.val (.bool true)) [] := by
  refine TC.enter Try.func62 rfl (by simp [Try.ntmps62]) rfl (tw_sound (ρ := []) ?_)
  rw [Try.ntmps62]
  simp
  refine TWcH.loop [] (fun m s => ∃ i, i + m = l.length ∧ s.σ 0 = .ro (l.map encR) ∧ s.σ 1 = .ro (l.map encR) ∧ s.σ 5 = .val (.int .i64 i)) l.length ⟨0, by simp⟩ ?_
  rintro m ⟨σ, H⟩ ⟨i, him, h0, h1, h5⟩
  simp only at h0 h1 h5
  by_cases hi : i < l.length
  · have hw := hw1 hi hl
    simp [h0, h1, h5, hi]
    refine TWcH.regionD (ρ := []) [0, 1, 2, 3, 4, 5, 6, 7, 8, 9] 10 mixed (by kernel_rfl) ?_
    simp [h0, h1, h5, hi, getI hi, encR]
    refine TWqH.callV (tc_eq42 l[i] (hs _ (List.getElem_mem hi))) callable_42 (by simp) (by simp) (by simp) (by simp) ?_
    simp [h0, h1, h5, hi, hw]
    exact ⟨m - 1, by omega, i + 1, by omega, by omega⟩
  · simp [h0, h1, h5, hi]
theorem tc_eqDfa (d : Dfa) (hs : DSm d) : TC Try.prog 17 [.agg (encDfa d), .agg (encDfa d)] [] (.val (.bool true)) [] := by
  have e1 := tc_eq61 d.parts (by have := hs.parts; omega) (fun x hx => by have := hs.part x hx; omega)
  have e2 := tc_eq62 d.rows (by have := hs.rows; omega) (fun x hx => by have := hs.row x hx; omega)
  have e3 := tc_eq42 d.acc (by have := hs.acc; omega)
  refine TC.enter Try.func17 rfl (by simp [Try.ntmps17]) rfl (tw_sound (ρ := [2, 3]) ?_)
  rw [Try.ntmps17]
  simp [encDfa]
  refine TWoH.callV e1 callable_61 (by simp) (by simp) (by simp) (by simp) ?_
  simp
  refine TWoH.callV e2 callable_62 (by simp) (by simp) (by simp) (by simp) ?_
  simp
  refine TWoH.callV e3 callable_42 (by simp) (by simp) (by simp) (by simp) ?_
  simp
/-- Numbers from k on. -/
def mkInts (k : Int) (n : Nat) : List Int := (List.range n).map fun (i : Nat) => k + (i : Int)
@[simp] theorem mkInts_len (k : Int) (n : Nat) : (mkInts k n).length = n := by simp [mkInts]
theorem mkInts_at {k : Int} {n i : Nat} (h : i < n) : (mkInts k n)[i]? = some (k + i) := by simp [mkInts, h]
def mkBools (k : Int) (n : Nat) : List Bool := (List.range n).map fun (i : Nat) => decide ((k + (i : Int)) % 3 = 0)
@[simp] theorem mkBools_len (k : Int) (n : Nat) : (mkBools k n).length = n := by simp [mkBools]
theorem mkBools_at {k : Int} {n i : Nat} (h : i < n) : (mkBools k n)[i]? = some (decide ((k + (i : Int)) % 3 = 0)) := by simp [mkBools, h]
theorem tc_mark43 (l : List Int) (k : Int) (h0 : 0 ≤ k) (hk : k + l.length ≤ 1152921504606846976) : TC Try.prog 43 [.hd 0, .val (.int .i64 k)] [.own 3 (l.map encI)] (.val (.int .i64 (k + l.length))) [.own 3 ((mkInts k l.length).map encI)] := by
  refine TC.enter Try.func43 rfl (by simp [Try.ntmps43]) rfl (tw_sound (ρ := []) ?_)
  rw [Try.ntmps43]
  simp
  refine TWcH.loop [] (fun m s => ∃ i : Nat, i + m = l.length ∧ s.σ 0 = .hd 0 ∧ s.σ 1 = .val (.int .i64 (k + i)) ∧ s.σ 5 = .val (.int .i64 i) ∧ s.H 0 = some (.own 3 (mix ((mkInts k l.length).map encI) (l.map encI) i))) l.length ⟨0, by simp⟩ ?_
  rintro m ⟨σ, H⟩ ⟨i, him, g0, g1, g5, gH⟩
  simp only at g0 g1 g5 gH
  by_cases hi : i < l.length
  · have hw := hw1 hi (by omega)
    have e1 : IntKind.i64.wrap (k + i + 1) = k + i + 1 := wrapi (by omega)
    have em : (k + (i : Int)).tmod 3 = (k + (i : Int)) % 3 := Int.tmod_eq_emod_of_nonneg (by omega)
    have hat := mix_at' (A := (mkInts k l.length).map encI) (B := l.map encI) (i := i) (by simp) (by simpa using hi)
    simp only [List.getElem_map] at hat
    have hln : (mix ((mkInts k l.length).map encI) (l.map encI) i).length = l.length := by rw [mix_len (by simp) (by simp; omega)]; simp
    have hset := mix_set (A := (mkInts k l.length).map encI) (B := l.map encI) (i := i) (by simp) (by simpa using hi) (x := encI (k + (i : Int))) (by rw [List.getElem?_map, mkInts_at hi]; rfl)
    simp only [encI] at hset hat
    simp [g0, g1, g5, gH, hi, hw, e1, em, hat, hln, hset]
    exact ⟨m - 1, by omega, i + 1, by omega, by omega, by omega, by simp⟩
  · obtain rfl : i = l.length := by omega
    rw [mix_all (by simp) (by simp)] at gH
    simp [g0, g1, g5, gH]
    exact ⟨_, _, ⟨rfl, rfl⟩, rfl, by simp, by simp [gH]⟩
theorem tc_mark33 (l : List Bool) (k : Int) (h0 : 0 ≤ k) (hk : k + l.length ≤ 1152921504606846976) : TC Try.prog 33 [.hd 0, .val (.int .i64 k)] [.own 4 (l.map encB)] (.val (.int .i64 (k + l.length))) [.own 4 ((mkBools k l.length).map encB)] := by
  refine TC.enter Try.func33 rfl (by simp [Try.ntmps33]) rfl (tw_sound (ρ := []) ?_)
  rw [Try.ntmps33]
  simp
  refine TWcH.loop [] (fun m s => ∃ i : Nat, i + m = l.length ∧ s.σ 0 = .hd 0 ∧ s.σ 1 = .val (.int .i64 (k + i)) ∧ s.σ 5 = .val (.int .i64 i) ∧ s.H 0 = some (.own 4 (mix ((mkBools k l.length).map encB) (l.map encB) i))) l.length ⟨0, by simp⟩ ?_
  rintro m ⟨σ, H⟩ ⟨i, him, g0, g1, g5, gH⟩
  simp only at g0 g1 g5 gH
  by_cases hi : i < l.length
  · have hw := hw1 hi (by omega)
    have e1 : IntKind.i64.wrap (k + i + 1) = k + i + 1 := wrapi (by omega)
    have em : (k + (i : Int)).tmod 3 = (k + (i : Int)) % 3 := Int.tmod_eq_emod_of_nonneg (by omega)
    have hat := mix_at' (A := (mkBools k l.length).map encB) (B := l.map encB) (i := i) (by simp) (by simpa using hi)
    simp only [List.getElem_map] at hat
    have hln : (mix ((mkBools k l.length).map encB) (l.map encB) i).length = l.length := by rw [mix_len (by simp) (by simp; omega)]; simp
    have hset := mix_set (A := (mkBools k l.length).map encB) (B := l.map encB) (i := i) (by simp) (by simpa using hi) (x := encB (decide ((k + (i : Int)) % 3 = 0))) (by rw [List.getElem?_map, mkBools_at hi]; rfl)
    simp only [encB] at hset hat
    simp [g0, g1, g5, gH, hi, hw, e1, em, hat, hln, hset]
    exact ⟨m - 1, by omega, i + 1, by omega, by omega, by omega, by simp⟩
  · obtain rfl : i = l.length := by omega
    rw [mix_all (by simp) (by simp)] at gH
    simp [g0, g1, g5, gH]
    exact ⟨_, _, ⟨rfl, rfl⟩, rfl, by simp, by simp [gH]⟩
theorem tc_held44 (n : Nat) (k : Int) (h0 : 0 ≤ k) (hk : k + n ≤ 1152921504606846976) : TC Try.prog 44 [.ro ((mkInts k n).map encI), .val (.int .i64 k)] [] (.val (.int .i64 (k + n))) [] := by
  refine TC.enter Try.func44 rfl (by simp [Try.ntmps44]) rfl (tw_sound (ρ := []) ?_)
  rw [Try.ntmps44]
  simp
  refine TWcH.loop [] (fun m s => ∃ i : Nat, i + m = n ∧ s.σ 0 = .ro ((mkInts k n).map encI) ∧ s.σ 1 = .val (.int .i64 (k + i)) ∧ s.σ 5 = .val (.int .i64 i)) n ⟨0, by simp⟩ ?_
  rintro m ⟨σ, H⟩ ⟨i, him, g0, g1, g5⟩
  simp only at g0 g1 g5
  by_cases hi : i < n
  · have hw : IntKind.i64.wrap ((i : Int) + 1) = i + 1 := wrapi (by omega)
    have e1 : IntKind.i64.wrap (k + i + 1) = k + i + 1 := wrapi (by omega)
    have em : (k + (i : Int)).tmod 3 = (k + (i : Int)) % 3 := Int.tmod_eq_emod_of_nonneg (by omega)
    have hat : ∀ h, (mkInts k n)[i]'h = k + (i : Int) := fun h => by simp [mkInts]
    simp [g0, g1, g5, hi, hw, e1, em, hat, encI, isBoolT]
    exact ⟨m - 1, by omega, i + 1, by omega, by omega, by omega⟩
  · obtain rfl : i = n := by omega
    simp [g0, g1, g5]
theorem tc_held34 (n : Nat) (k : Int) (h0 : 0 ≤ k) (hk : k + n ≤ 1152921504606846976) : TC Try.prog 34 [.ro ((mkBools k n).map encB), .val (.int .i64 k)] [] (.val (.int .i64 (k + n))) [] := by
  refine TC.enter Try.func34 rfl (by simp [Try.ntmps34]) rfl (tw_sound (ρ := []) ?_)
  rw [Try.ntmps34]
  simp
  refine TWcH.loop [] (fun m s => ∃ i : Nat, i + m = n ∧ s.σ 0 = .ro ((mkBools k n).map encB) ∧ s.σ 1 = .val (.int .i64 (k + i)) ∧ s.σ 5 = .val (.int .i64 i)) n ⟨0, by simp⟩ ?_
  rintro m ⟨σ, H⟩ ⟨i, him, g0, g1, g5⟩
  simp only at g0 g1 g5
  by_cases hi : i < n
  · have hw : IntKind.i64.wrap ((i : Int) + 1) = i + 1 := wrapi (by omega)
    have e1 : IntKind.i64.wrap (k + i + 1) = k + i + 1 := wrapi (by omega)
    have em : (k + (i : Int)).tmod 3 = (k + (i : Int)) % 3 := Int.tmod_eq_emod_of_nonneg (by omega)
    have hat : ∀ h, (mkBools k n)[i]'h = decide ((k + (i : Int)) % 3 = 0) := fun h => by simp [mkBools]
    simp [g0, g1, g5, hi, hw, e1, em, hat, encB, isBoolT]
    exact ⟨m - 1, by omega, i + 1, by omega, by omega, by omega⟩
  · obtain rfl : i = n := by omega
    simp [g0, g1, g5]
def sumL {α : Type _} : List (List α) → Nat
  | [] => 0
  | x :: l => x.length + sumL l
theorem sumL_drop {α : Type _} {l : List (List α)} {i : Nat} (h : i < l.length) : sumL (l.drop i) = l[i].length + sumL (l.drop (i + 1)) := by
  conv => lhs; rw [List.drop_eq_getElem_cons h]
  rw [sumL]
theorem sumL_get {α : Type _} {l : List (List α)} {i : Nat} (h : i < l.length) : l[i].length ≤ sumL l := by
  induction l generalizing i with
  | nil => simp at h
  | cons r l ih =>
    cases i with
    | zero => simp [sumL]
    | succ i => simp only [List.getElem_cons_succ, sumL]; have := ih (i := i) (by simpa using h); omega
theorem tcr_mark83 (l : List (List (Int × Int))) (k : Int) (h0 : 0 ≤ k) (hk : k + 2 * sumL l ≤ 1152921504606846976) (hl : l.length ≤ 1048576) : TCR Try.prog 83 [.hd 0, .val (.int .i64 k)] [.own 80 (l.map oP)] (fun r o => r = .val (.int .i64 (k + 2 * sumL l)) ∧ ∃ l' : List (List (Int × Int)), o = [.own 80 (l'.map oP)]) := by
  refine TCR.enter Try.func83 rfl (by simp [Try.ntmps83]) rfl (tw_sound (ρ := []) ?_)
  rw [Try.ntmps83]
  simp
  refine TWcH.loopS [] (fun m s => ∃ (i : Nat) (l' : List (List (Int × Int))) (a : Int), i + m = l.length ∧ l'.length = l.length ∧ (∀ j, i ≤ j → l'[j]? = l[j]?) ∧ s.σ 0 = .hd 0 ∧ s.σ 1 = .val (.int .i64 a) ∧ s.σ 5 = .val (.int .i64 i) ∧ s.H 0 = some (.own 80 (l'.map oP)) ∧ k ≤ a ∧ a + 2 * sumL (l.drop i) = k + 2 * sumL l) l.length ⟨0, l, k, by simp⟩ ?_
  rintro m ⟨σ, H⟩ ⟨i, l', a, him, hl', hsame, g0, g1, g5, gH, ha0, ha1⟩
  simp only at g0 g1 g5 gH
  by_cases hi : i < l.length
  · have hw : IntKind.i64.wrap ((i : Int) + 1) = i + 1 := wrapi (by omega)
    have hi' : i < l'.length := by omega
    rw [sumL_drop hi] at ha1
    have hli := hsame i (Nat.le_refl _)
    rw [getI hi] at hli
    generalize hx : l[i] = x at hli ha1
    refine TWc.unfold1 (E1 := 117) (rows1 := x.map encS) (c1 := 0) (row := oP x) gH (by rw [List.getElem?_map, hli]; rfl) (by simp [oP]) fun k1 H' n1 d1 eH e1 e3 => ?_
    simp only at n1 eH e1 e3
    refine tw_sound (ρ := []) ?_
    have hd1 : ¬ k1 = 0 := fun e => d1 e.symm
    simp [g0, g1, g5, eH, hi, hi', hl', oP]
    refine TWoH.lendR [k1] (tcr_markSpanS x a (by omega) (by omega)) callable_92 (by simp) (by simp [e1, d1, hd1]) (by simp) (by simp) ?_
    rintro r o ⟨rfl, s', rfl⟩
    refine ⟨by simp, by simp, .inl (by simp), fun q hq => ?_⟩
    simp [g0, g1, g5, eH, e1, hi, hi', hl', oP, d1, hd1, hw]
    refine ⟨m - 1, by omega, _, Shift.fold1x 0 k1 80 i 0 ((l'.map oP).set i [.hd k1]) [.hd k1] (.own 117 (s'.map encS)) d1 (by simp [hd1, d1, eH, oP]) (by simp [hi']) (by simp) (by simp [hd1, d1]), i + 1, by omega, l'.set i s', by simp [hl'], ?_, ?_⟩
    · intro j hj
      rw [List.getElem?_set_ne (by omega)]
      exact hsame j (by omega)
    · simp [g0, g5, hw, List.map_set, oP]
      omega
  · obtain rfl : i = l.length := by omega
    refine tw_sound (ρ := []) ?_
    simp [sumL] at ha1
    simp [g0, g1, g5, gH, hl']
    exact ⟨_, _, ⟨rfl, rfl⟩, by simp, by simp [gH], by simp; omega, ⟨l', by simp [gH]⟩⟩
theorem tcr_mark84 (l : List (List Int)) (k : Int) (h0 : 0 ≤ k) (hk : k + 1 * sumL l ≤ 1152921504606846976) (hl : l.length ≤ 1048576) : TCR Try.prog 84 [.hd 0, .val (.int .i64 k)] [.own 24 (l.map oR)] (fun r o => r = .val (.int .i64 (k + 1 * sumL l)) ∧ ∃ l' : List (List Int), o = [.own 24 (l'.map oR)]) := by
  refine TCR.enter Try.func84 rfl (by simp [Try.ntmps84]) rfl (tw_sound (ρ := []) ?_)
  rw [Try.ntmps84]
  simp
  refine TWcH.loopS [] (fun m s => ∃ (i : Nat) (l' : List (List Int)) (a : Int), i + m = l.length ∧ l'.length = l.length ∧ (∀ j, i ≤ j → l'[j]? = l[j]?) ∧ s.σ 0 = .hd 0 ∧ s.σ 1 = .val (.int .i64 a) ∧ s.σ 5 = .val (.int .i64 i) ∧ s.H 0 = some (.own 24 (l'.map oR)) ∧ k ≤ a ∧ a + 1 * sumL (l.drop i) = k + 1 * sumL l) l.length ⟨0, l, k, by simp⟩ ?_
  rintro m ⟨σ, H⟩ ⟨i, l', a, him, hl', hsame, g0, g1, g5, gH, ha0, ha1⟩
  simp only at g0 g1 g5 gH
  by_cases hi : i < l.length
  · have hw : IntKind.i64.wrap ((i : Int) + 1) = i + 1 := wrapi (by omega)
    have hi' : i < l'.length := by omega
    rw [sumL_drop hi] at ha1
    have hli := hsame i (Nat.le_refl _)
    rw [getI hi] at hli
    generalize hx : l[i] = x at hli ha1
    refine TWc.unfold1 (E1 := 3) (rows1 := x.map encI) (c1 := 0) (row := oR x) gH (by rw [List.getElem?_map, hli]; rfl) (by simp [oR]) fun k1 H' n1 d1 eH e1 e3 => ?_
    simp only at n1 eH e1 e3
    refine tw_sound (ρ := []) ?_
    have hd1 : ¬ k1 = 0 := fun e => d1 e.symm
    simp [g0, g1, g5, eH, hi, hi', hl', oR]
    refine TWoH.lendR [k1] ((tc_mark43 x a (by omega) (by omega)).toR (R := fun r o => r = .val (.int .i64 (a + x.length)) ∧ ∃ s' : List Int, o = [.own 3 (s'.map encI)]) ⟨rfl, _, rfl⟩) callable_43 (by simp) (by simp [e1, d1, hd1]) (by simp) (by simp) ?_
    rintro r o ⟨rfl, s', rfl⟩
    refine ⟨by simp, by simp, .inl (by simp), fun q hq => ?_⟩
    simp [g0, g1, g5, eH, e1, hi, hi', hl', oR, d1, hd1, hw]
    refine ⟨m - 1, by omega, _, Shift.fold1x 0 k1 24 i 0 ((l'.map oR).set i [.hd k1]) [.hd k1] (.own 3 (s'.map encI)) d1 (by simp [hd1, d1, eH, oR]) (by simp [hi']) (by simp) (by simp [hd1, d1]), i + 1, by omega, l'.set i s', by simp [hl'], ?_, ?_⟩
    · intro j hj
      rw [List.getElem?_set_ne (by omega)]
      exact hsame j (by omega)
    · simp [g0, g5, hw, List.map_set, oR]
      omega
  · obtain rfl : i = l.length := by omega
    refine tw_sound (ρ := []) ?_
    simp [sumL] at ha1
    simp [g0, g1, g5, gH, hl']
    exact ⟨_, _, ⟨rfl, rfl⟩, by simp, by simp [gH], by simp; omega, ⟨l', by simp [gH]⟩⟩
def costD (d : Dfa) : Nat := 2 * sumL d.parts + sumL d.rows + d.acc.length
theorem tcr_markDfa (d : Dfa) (hs : DSm d) (k : Int) (h0 : 0 ≤ k) (hk : k + costD d ≤ 1152921504606846976) : TCR Try.prog 32 [.agg [.hd 0, .hd 1, .hd 2], .val (.int .i64 k)] (oDfa d) (fun r o => r = .val (.int .i64 (k + costD d)) ∧ ∃ d' : Dfa, o = oDfa d') := by
  unfold costD at *
  refine TCR.enter Try.func32 rfl (by simp [Try.ntmps32]) rfl (tw_sound (ρ := [2]) ?_)
  rw [Try.ntmps32]
  simp [oDfa]
  refine TWoH.lendR [0] (tcr_mark83 d.parts k (by omega) (by omega) hs.parts) callable_83 (by simp) (by simp) (by simp) (by simp) ?_
  rintro r o ⟨rfl, p', rfl⟩
  refine ⟨by simp, by simp, .inl (by simp), fun q hq => ?_⟩
  simp
  refine TWoH.lendR [1] (tcr_mark84 d.rows (k + 2 * sumL d.parts) (by omega) (by omega) hs.rows) callable_84 (by simp) (by simp) (by simp) (by simp) ?_
  rintro r o ⟨rfl, r', rfl⟩
  refine ⟨by simp, by simp, .inl (by simp), fun q hq => ?_⟩
  simp
  refine TWoH.lend [2] (tc_mark43 d.acc (k + 2 * sumL d.parts + sumL d.rows) (by omega) (by omega)) callable_43 (by simp) (by simp) (by simp) (by simp) (by simp) (by simp) (.inl (by simp)) fun q hq => ?_
  simp
  exact ⟨_, _, ⟨rfl, rfl⟩, by simp, by simp [show List.range 3 = [0, 1, 2] from rfl], by simp; omega, ⟨p', r', mkInts (k + 2 * sumL d.parts + sumL d.rows) d.acc.length⟩, by simp [show List.range 3 = [0, 1, 2] from rfl]⟩
theorem ite_neg1' {c : Prop} [Decidable c] {x : Int} (h : ¬ (if c then -1 else x) < 0) : ¬ c ∧ ¬ x < 0 := by
  split at h
  · exact absurd h (by omega)
  · exact ⟨by assumption, h⟩
theorem szN_ok' {n : Nat} {left : Int} (hn : n ≤ 1152921504606846976) (h0 : 0 ≤ left) (h1 : left ≤ 1048576) (h : ¬ szN n left < 0) : (n : Int) ≤ left ∧ szN n left = left - n := by
  have hw : IntKind.i64.wrap (left - n) = left - n := wrapi (by omega)
  unfold szN at h ⊢
  rw [hw] at h ⊢
  split at h
  · exact absurd h (by omega)
  · rename_i h2
    rw [if_neg h2]
    omega
theorem szLoopN_ok : ∀ (ns : List Nat) (left : Int), (∀ n ∈ ns, n ≤ 1152921504606846976) → 0 ≤ left → left ≤ 1048576 → ¬ szLoopN ns left < 0 → (∀ n ∈ ns, n ≤ 1048576) ∧ szLoopN ns left = left - ns.sum
  | [], left, hs, h0, h1, h => by simp [szLoopN]
  | n :: ns, left, hs, h0, h1, h => by
    rw [szLoopN] at h ⊢
    obtain ⟨c1, h⟩ := ite_neg1' h
    rw [if_neg c1]
    obtain ⟨a1, a2⟩ := szN_ok' (hs n (by simp)) h0 h1 c1
    obtain ⟨b1, b2⟩ := szLoopN_ok ns _ (fun q hq => hs q (by simp [hq])) (by omega) (by omega) h
    refine ⟨fun q hq => ?_, by rw [b2, a2]; simp only [List.sum_cons]; omega⟩
    rcases List.mem_cons.1 hq with rfl | hq
    · omega
    · exact b1 q hq
theorem szSSF_ok {ns : List Nat} {left : Int} (hl : ns.length ≤ 1152921504606846976) (hs : ∀ n ∈ ns, n ≤ 1152921504606846976) (h0 : 0 ≤ left) (h1 : left ≤ 1048576) (h : ¬ szSSF ns left < 0) : ns.length ≤ 1048576 ∧ (∀ n ∈ ns, n ≤ 1048576) ∧ szSSF ns left = left - ns.length - ns.sum ∧ 0 ≤ szSSF ns left := by
  have h' := h
  unfold szSSF at h ⊢
  obtain ⟨c1, h⟩ := ite_neg1' h
  rw [if_neg c1]
  have hw : IntKind.i64.wrap (left - ns.length) = left - ns.length := wrapi (by omega)
  rw [hw] at c1 h ⊢
  obtain ⟨b1, b2⟩ := szLoopN_ok ns _ hs (by omega) (by omega) h
  exact ⟨by omega, b1, b2, by omega⟩
theorem sumL_eq {α : Type _} : ∀ l : List (List α), sumL l = (l.map List.length).sum
  | [] => rfl
  | x :: l => by simp [sumL, sumL_eq l]
/-- What a machine that can be read as data is bounded by. -/
structure BDfa (d : Dfa) : Prop where
  parts : d.parts.length ≤ 1152921504606846976
  rows : d.rows.length ≤ 1152921504606846976
  acc : d.acc.length ≤ 1152921504606846976
  part : ∀ x ∈ d.parts, x.length ≤ 1152921504606846976
  row : ∀ x ∈ d.rows, x.length ≤ 1152921504606846976
theorem DSm_of {d : Dfa} (hB : BDfa d) (h : ¬ szDfaF d 1048576 < 0) : DSm d ∧ costD d ≤ 4194304 := by
  unfold szDfaF at h
  simp only at h
  obtain ⟨c1, h⟩ := ite_neg1' h
  obtain ⟨c2, h⟩ := ite_neg1' h
  obtain ⟨c3, h⟩ := ite_neg1' h
  obtain ⟨a1, a2, a3, a4⟩ := szSSF_ok (by simpa using hB.parts) (by simpa using hB.part) (by omega) (by omega) c1
  obtain ⟨b1, b2, b3, b4⟩ := szSSF_ok (by simpa using hB.rows) (by simpa using hB.row) (by omega) (by omega) c2
  obtain ⟨d1, d2⟩ := szN_ok' hB.acc (by omega) (by omega) c3
  simp only [List.length_map] at a1 a3 b1 b3
  refine ⟨⟨a1, b1, by omega, by simpa using a2, by simpa using b2⟩, ?_⟩
  unfold costD
  rw [sumL_eq, sumL_eq]
  omega
end Go.Proofs.Ytigmibfacllhmaa.R

open Go Go.Proofs.Ytigmibfacllhmaa.T
namespace Go.Proofs.Ytigmibfacllhmaa.R
set_option maxHeartbeats 4000000
set_option maxRecDepth 100000
set_option linter.unusedSimpArgs false
set_option linter.unusedVariables false
attribute [local simp] bsV bsRows chunk fillT partsT appV makeV rowsOf cellsOf placeOf

/-- A table of 256 bits. -/
def bitsT (f : Nat → Bool) : List TV := (List.range 256).map fun b => .val (.bool (f b))
@[simp] theorem bitsT_len (f : Nat → Bool) : (bitsT f).length = 256 := by simp [bitsT]
@[simp] theorem bitsT_plain (f : Nat → Bool) : (bitsT f).all TV.plain = true := by simp [bitsT]
@[simp] theorem bitsT_pc (f : Nat → Bool) : (bitsT f).all TV.pc = true := by simp [bitsT]
@[simp] theorem bitsT_noH (f : Nat → Bool) : noHL (bitsT f) = true := by
  unfold bitsT
  induction List.range 256 with
  | nil => rfl
  | cons a l ih => simp [ih]
@[simp] theorem bitsT_take (f : Nat → Bool) : (bitsT f).take 256 = bitsT f := by rw [List.take_of_length_le (by simp)]
theorem bitsT_at {f : Nat → Bool} {i : Nat} (h : i < 256) : (bitsT f)[i]? = some (.val (.bool (f i))) := by simp [bitsT, h]
theorem bitsT_at' {f : Nat → Bool} {i : Nat} (h : i < (bitsT f).length) : (bitsT f)[i] = .val (.bool (f i)) := by simp [bitsT]
theorem bitsT_cut {f : Nat → Bool} {i : Nat} (h : i < 256) : List.take 1 (List.drop i (bitsT f)) = [.val (.bool (f i))] := by
  rw [List.drop_eq_getElem_cons (by simpa using h)]
  simp [bitsT_at']
theorem bitsT_congr {f g : Nat → Bool} (h : ∀ b, b < 256 → f b = g b) : bitsT f = bitsT g := by
  unfold bitsT
  apply List.map_congr_left
  intro b hb
  rw [h b (List.mem_range.1 hb)]
theorem bitsT_put {f : Nat → Bool} {i : Nat} {x : Bool} (h : i < 256) : List.take i (bitsT f) ++ TV.val (.bool x) :: List.drop (i + 1) (bitsT f) = bitsT fun b => if b = i then x else f b := by
  apply List.ext_getElem?
  intro j
  by_cases h1 : j < i
  · rw [List.getElem?_append_left (by simp; omega), List.getElem?_take_of_lt h1, bitsT_at (by omega), bitsT_at (by omega), if_neg (by omega)]
  · rw [List.getElem?_append_right (by simp; omega)]
    have hl : (List.take i (bitsT f)).length = i := by simp; omega
    rw [hl]
    by_cases h2 : j = i
    · subst h2; rw [Nat.sub_self]; rw [bitsT_at h, if_pos rfl]; rfl
    · obtain ⟨d, hd⟩ : ∃ d, j - i = d + 1 := ⟨j - i - 1, by omega⟩
      rw [hd, List.getElem?_cons_succ, List.getElem?_drop, show i + 1 + d = j by omega]
      by_cases h3 : j < 256
      · rw [bitsT_at h3, bitsT_at h3, if_neg h2]
      · rw [List.getElem?_eq_none (by simp; omega), List.getElem?_eq_none (by simp; omega)]
theorem bitsT_false : List.replicate 256 (TV.val (.bool false)) = bitsT fun _ => false := by
  apply List.ext_getElem?
  intro j
  by_cases h : j < 256
  · rw [bitsT_at h, List.getElem?_replicate, if_pos h]
  · rw [List.getElem?_eq_none (by simp; omega), List.getElem?_eq_none (by simp; omega)]
@[simp] theorem bitsT_drop (f : Nat → Bool) : (bitsT f).drop 256 = [] := by rw [List.drop_eq_nil_of_le (by simp)]
@[simp high] theorem zero125 : zeroT Try.prog 125 = some (bitsT fun _ => false) := by rw [← bitsT_false]; exact zeroT_125
@[simp] theorem bitsT_closeL {H : Nat → Option TV} (f : Nat → Bool) : closeL H (bitsT f) = some (bitsT f, H) := by
  unfold bitsT
  induction List.range 256 with
  | nil => simp
  | cons a l ih => simp [ih]
@[simp] theorem bitsT_opnL {k : Nat} (f : Nat → Bool) : opnL k (bitsT f) = (bitsT f, []) := by
  unfold bitsT
  induction List.range 256 with
  | nil => simp
  | cons a l ih => simp [ih]
@[simp] theorem bitsT_noRo (f : Nat → Bool) : noRoL (bitsT f) = true := by
  unfold bitsT
  induction List.range 256 with
  | nil => rfl
  | cons a l ih => simp [ih]
theorem tc_bitsOf (p : List (Int × Int)) (hl : p.length ≤ 1152921504606846976) : TC Try.prog 106 [.ro (p.map encS)] [] (.agg (bitsT fun b => hasS p b)) [] := by
  refine TC.enter Try.func106 rfl (by simp [Try.ntmps106]) rfl (tw_sound (ρ := []) ?_)
  rw [Try.ntmps106]
  simp
  refine gall_intro fun a ha => ?_
  simp
  refine gall_intro fun c hc => ?_
  have hca : ¬ c = a := fun e => by simp [e] at hc
  have hac : ¬ a = c := fun e => hca e.symm
  simp [hca, hac]
  refine TWcH.loop [] (fun m s => ∃ i : Nat, i + m = 256 ∧ s.σ 0 = .ro (p.map encS) ∧ s.σ 2 = .pd a 0 0 0 ∧ s.σ 3 = .pd c 0 0 0 ∧ s.σ 5 = .val (.int .i64 i) ∧ s.H a = some (.box 125 (bitsT fun _ => false)) ∧ s.H c = some (.box 125 (bitsT fun b => decide (b < i) && hasS p b))) 256 ⟨0, by simp [hca, hac]⟩ ?_
  rintro m ⟨σ, H⟩ ⟨i, him, h0, h2, h3, h5, hA, hC⟩
  simp only at h0 h2 h3 h5 hA hC
  by_cases hi : i < 256
  · have hw : IntKind.i64.wrap ((i : Int) + 1) = i + 1 := wrapi (by omega)
    have hi2 : (i : Int) < 256 := by omega
    simp [h0, h2, h3, h5, hi, hi2]
    refine TWoH.callV (tc_iSetHas p i hl) callable_135 (by simp [h0]) (by simp) (by simp) (by simp) ?_
    have hi3 : i ≤ 255 := by omega
    simp [h0, h2, h3, h5, hi, hi2, hi3, hA, hC, hw, hca, hac, bitsT_put hi]
    refine ⟨m - 1, by omega, i + 1, by omega, by omega, ?_⟩
    apply bitsT_congr
    intro b hb
    by_cases e : b = i
    · subst e; simp
    · simp only [if_neg e]; congr 1; rw [decide_eq_decide]; omega
  · obtain rfl : i = 256 := by omega
    simp [h0, h2, h3, h5, hA, hC, hca, hac]
    apply bitsT_congr
    intro b hb
    simp [hb]
/-- The least byte of a set, or -1. -/
def firstG (f : Nat → Bool) (i : Nat) : Int := match (List.range' i (256 - i)).find? f with
  | some b => b
  | none => -1
def firstS (p : List (Int × Int)) : Int := firstG (fun b => hasS p b) 0
theorem firstG_next {f : Nat → Bool} {i : Nat} (h : i < 256) : firstG f i = if f i = true then (i : Int) else firstG f (i + 1) := by
  unfold firstG
  rw [show 256 - i = (256 - (i + 1)) + 1 by omega, List.range'_succ, List.find?_cons]
  cases f i <;> simp
theorem firstG_end {f : Nat → Bool} : firstG f 256 = -1 := by
  unfold firstG; rfl
def sizeS (p : List (Int × Int)) : Nat := (List.range 256).countP fun (b : Nat) => hasS p b
def sizeB (p : List (Int × Int)) (b : Nat) : Nat := (List.range b).countP fun (b : Nat) => hasS p b
theorem sizeB_succ {p : List (Int × Int)} {b : Nat} : sizeB p (b + 1) = sizeB p b + (if hasS p b = true then 1 else 0) := by
  unfold sizeB; rw [List.range_succ, List.countP_append]; simp [List.countP_cons]
theorem sizeB_le {p : List (Int × Int)} {b : Nat} : sizeB p b ≤ b := by
  unfold sizeB; have := List.countP_le_length (p := fun b : Nat => hasS p b) (l := List.range b); simpa using this
theorem tc_sSetFirst (p : List (Int × Int)) (hl : p.length ≤ 1152921504606846976) : TC Try.prog 67 [.ro (p.map encS)] [] (.val (.int .i64 (firstS p))) [] := by
  refine TC.enter Try.func67 rfl (by simp [Try.ntmps67]) rfl (tw_sound (ρ := []) ?_)
  rw [Try.ntmps67]
  simp
  refine TWcH.loop [] (fun m s => ∃ i : Nat, i + m = 256 ∧ s.σ 0 = .ro (p.map encS) ∧ s.σ 3 = .val (.int .i64 i) ∧ firstS p = firstG (fun b => hasS p b) i) 256 ⟨0, by simp [firstS]⟩ ?_
  rintro m ⟨σ, H⟩ ⟨i, him, h0, h3, hh⟩
  simp only at h0 h3
  by_cases hi : i < 256
  · have hw : IntKind.i64.wrap ((i : Int) + 1) = i + 1 := wrapi (by omega)
    have hi2 : (i : Int) < 256 := by omega
    rw [firstG_next hi] at hh
    simp [h0, h3, hi2]
    refine TWoH.callV (tc_sSetHas p i hl) callable_108 (by simp [h0]) (by simp) (by simp) (by simp) ?_
    simp [h0, h3, hi2]
    refine gif_intro (fun c => ?_) (fun c => ?_) <;> simp [h0, h3, hi2, c, hw]
    · rw [hh, if_pos c]
    · exact ⟨m - 1, by omega, i + 1, by omega, by omega, by rw [hh, if_neg c]⟩
  · obtain rfl : i = 256 := by omega
    simp [h0, h3]
    rw [hh, firstG_end]
theorem tc_sSetSize (p : List (Int × Int)) (hl : p.length ≤ 1152921504606846976) : TC Try.prog 133 [.ro (p.map encS)] [] (.val (.int .i64 (sizeS p))) [] := by
  refine TC.enter Try.func133 rfl (by simp [Try.ntmps133]) rfl (tw_sound (ρ := []) ?_)
  rw [Try.ntmps133]
  simp
  refine TWcH.loop [] (fun m s => ∃ i : Nat, i + m = 256 ∧ s.σ 0 = .ro (p.map encS) ∧ s.σ 3 = .val (.int .i64 (sizeB p i)) ∧ s.σ 4 = .val (.int .i64 i)) 256 ⟨0, by simp [sizeB]⟩ ?_
  rintro m ⟨σ, H⟩ ⟨i, him, h0, h3, h4⟩
  simp only at h0 h3 h4
  by_cases hi : i < 256
  · have hw : IntKind.i64.wrap ((i : Int) + 1) = i + 1 := wrapi (by omega)
    have hw2 : IntKind.i64.wrap ((sizeB p i : Int) + 1) = sizeB p i + 1 := wrapi (by have := sizeB_le (p := p) (b := i); omega)
    have hi2 : (i : Int) < 256 := by omega
    simp [h0, h3, h4, hi2]
    refine TWoH.callV (tc_sSetHas p i hl) callable_108 (by simp [h0]) (by simp) (by simp) (by simp) ?_
    simp [h0, h3, h4, hi2]
    refine gif_intro (fun c => ?_) (fun c => ?_) <;> simp [h0, h3, h4, hi2, c, hw, hw2]
    · exact ⟨m - 1, by omega, i + 1, by omega, by rw [sizeB_succ, if_pos c]; simp, by omega⟩
    · exact ⟨m - 1, by omega, i + 1, by omega, by rw [sizeB_succ, if_neg c]; simp, by omega⟩
  · obtain rfl : i = 256 := by omega
    simp [h0, h3, h4]
    rfl
def addB (l : List (Int × Int)) (b : Int) : List (Int × Int) := match l.getLast? with
  | some s => if s.2 = b - 1 then l.set (l.length - 1) (s.1, b) else l ++ [(b, b)]
  | none => [(b, b)]
/-- The spans of bytes below b. -/
def spansTo (f : Nat → Bool) : Nat → List (Int × Int)
  | 0 => []
  | b + 1 => if f b = true then addB (spansTo f b) b else spansTo f b
def spansF (f : Nat → Bool) : List (Int × Int) := spansTo f 256
theorem addB_len {l : List (Int × Int)} {b : Int} : (addB l b).length ≤ l.length + 1 ∧ addB l b ≠ [] := by
  unfold addB
  cases h : l.getLast? with
  | none =>
    simp only
    exact ⟨by simp, by simp⟩
  | some s =>
    simp only
    split
    · refine ⟨by simp, fun e => ?_⟩
      have := congrArg List.length e
      simp at this
      subst this; simp at h
    · exact ⟨by simp, by simp⟩
theorem spansTo_len {f : Nat → Bool} : ∀ b, (spansTo f b).length ≤ b
  | 0 => by simp [spansTo]
  | b + 1 => by
    unfold spansTo
    have := spansTo_len (f := f) b
    split
    · have := (addB_len (l := spansTo f b) (b := b)).1; omega
    · omega
theorem spansTo_nil {f : Nat → Bool} : ∀ b, spansTo f b = [] ↔ ∀ i, i < b → f i = false
  | 0 => by simp [spansTo]
  | b + 1 => by
    unfold spansTo
    have ih := spansTo_nil (f := f) b
    by_cases c : f b = true
    · rw [if_pos c]
      constructor
      · intro h; exact ((addB_len (l := spansTo f b) (b := b)).2 h).elim
      · intro h; have := h b (by omega); rw [c] at this; cases this
    · rw [if_neg c, ih]
      constructor
      · intro h i hi
        by_cases e : i = b
        · subst e; simpa using c
        · exact h i (by omega)
      · intro h i hi; exact h i (by omega)
theorem tc_l1Of (f : Nat → Bool) : TC Try.prog 147 [.ro ((List.range 256).map fun b => [.val (.bool (f b))])] [] (.own 117 ((spansF f).map encS)) [] := by
  refine TC.enter Try.func147 rfl (by simp [Try.ntmps147]) rfl (tw_sound (ρ := []) ?_)
  rw [Try.ntmps147]
  simp
  refine gall_intro fun id hid => ?_
  simp
  refine TWcH.loop [41] (fun m s => ∃ (i : Nat) (id : Nat), i + m = 256 ∧ s.σ 0 = .ro ((List.range 256).map fun b => [.val (.bool (f b))]) ∧ s.σ 3 = .hd id ∧ s.σ 4 = .val (.int .i64 i) ∧ s.H id = some (.own 117 ((spansTo f i).map encS))) 256 ⟨0, id, by simp [spansTo]⟩ ?_
  rintro m ⟨σ, H⟩ ⟨i, id, him, h0, h3, h4, hH⟩
  simp only at h0 h3 h4 hH
  by_cases hi : i < 256
  · have hw : IntKind.i64.wrap ((i : Int) + 1) = i + 1 := wrapi (by omega)
    have hi2 : (i : Int) < 256 := by omega
    have hlen := spansTo_len (f := f) i
    have hst : spansTo f (i + 1) = if f i = true then addB (spansTo f i) i else spansTo f i := rfl
    rcases List.eq_nil_or_concat (spansTo f i) with e | ⟨l, s, e⟩
    · rw [e] at hH hst
      simp [h0, h3, h4, hi2, hi]
      refine gif_intro (fun c => ?_) (fun c => ?_) <;> simp [h0, h3, h4, hH, hi2, hi, c, hw]
      · rw [if_pos c] at hst
        refine gall_intro fun id' hid' => ?_
        simp [h0, h3, h4, hw]
        exact ⟨m - 1, by omega, i + 1, by omega, by omega, by rw [hst]; simp [addB, encS]⟩
      · refine ⟨m - 1, by omega, i + 1, by omega, ?_⟩
        rw [hst, if_neg (by simpa using c)]
        exact ⟨by omega, rfl⟩
    · rw [e] at hlen
      simp at hlen
      have hl1 : ((l.length : Int) + 1 - 1) = l.length := by omega
      have hwl : IntKind.i64.wrap (l.length : Int) = l.length := wrapi (by omega)
      have hlt : (l.length : Int) < l.length + 1 := by omega
      have hwi : IntKind.i64.wrap ((i : Int) - 1) = (i : Int) - 1 := wrapi (by omega)
      have ha : addB (l ++ [s]) i = if s.2 = (i : Int) - 1 then l ++ [(s.1, (i : Int))] else l ++ [s] ++ [((i : Int), (i : Int))] := by simp [addB]
      rw [e] at hH hst
      simp only [List.concat_eq_append] at hH hst
      rw [ha] at hst
      simp [h0, h3, h4, hi2, hi]
      refine gif_intro (fun c => ?_) (fun c => ?_) <;> simp [h0, h3, h4, hH, hi2, hi, c, hw, hl1, hwl, hwi, hlt, encS]
      · rw [if_pos c] at hst
        refine gif_intro (fun c2 => ?_) (fun c2 => ?_) <;> simp [h0, h3, h4, hH, hi2, hi, c, hw, hl1, hwl, hwi, hlt, c2]
        · refine ⟨m - 1, by omega, i + 1, by omega, ?_⟩
          rw [hst, if_pos c2]
          simp [encS]
        · rw [gif_pos (by omega)]
          refine gall_intro fun id' hid' => ?_
          simp [h0, h3, h4, hw]
          refine ⟨m - 1, by omega, i + 1, by omega, ?_⟩
          rw [hst, if_neg c2]
          simp [encS]
      · refine ⟨m - 1, by omega, i + 1, by omega, ?_⟩
        rw [hst, if_neg (by simpa using c)]
        exact ⟨by omega, by simp [encS]⟩
  · obtain rfl : i = 256 := by omega
    simp [h0, h3, h4, hH, spansF]
@[simp] theorem noHR_mapB (l : List Nat) (g : Nat → Bool) : noHR (l.map fun b => [TV.val (.bool (g b))]) = true := by induction l <;> simp [*]
@[simp] theorem noRoR_mapB (l : List Nat) (g : Nat → Bool) : noRoR (l.map fun b => [TV.val (.bool (g b))]) = true := by induction l <;> simp [*]
@[simp] theorem roRows_mapB (l : List Nat) (g : Nat → Bool) : roRows (l.map fun b => [TV.val (.bool (g b))]) = l.map fun b => [TV.val (.bool (g b))] := by induction l <;> simp [*]
/-- Both sets have it. -/
def meetF (p q : List (Int × Int)) (b : Nat) : Bool := hasS p b && hasS q b
theorem tc_sSetMeet (p q : List (Int × Int)) (hp : p.length ≤ 1152921504606846976) (hq : q.length ≤ 1152921504606846976) (ho : setOk p = true) (ho' : setOk q = true) : TC Try.prog 132 [.ro (p.map encS), .ro (q.map encS)] [] (.own 117 ((spansF (meetF p q)).map encS)) [] := by
  refine TC.enter Try.func132 rfl (by simp [Try.ntmps132]) rfl (tw_sound (ρ := []) ?_)
  rw [Try.ntmps132]
  simp
  refine gall_intro fun id hid => ?_
  simp
  refine TWcH.loop [] (fun m s => ∃ (i : Nat), i + m = 256 ∧ s.σ 0 = .ro (p.map encS) ∧ s.σ 1 = .ro (q.map encS) ∧ s.σ 5 = .hd id ∧ s.σ 6 = .val (.int .i64 i) ∧ s.H id = some (.own 4 (mix ((List.range 256).map fun b => [.val (.bool (meetF p q b))]) (List.replicate 256 [.val (.bool false)]) i))) 256 ⟨0, by simp⟩ ?_
  rintro m ⟨σ, H⟩ ⟨i, him, h0, h1, h5, h6, hH⟩
  simp only at h0 h1 h5 h6 hH
  by_cases hi : i < 256
  · have hw : IntKind.i64.wrap ((i : Int) + 1) = i + 1 := wrapi (by omega)
    have hi2 : (i : Int) < 256 := by omega
    have hat := mix_at' (A := (List.range 256).map fun b => [TV.val (.bool (meetF p q b))]) (B := List.replicate 256 [TV.val (.bool false)]) (i := i) (by simp) (by simpa using hi)
    simp only [List.getElem_replicate] at hat
    have hln : (mix ((List.range 256).map fun b => [TV.val (.bool (meetF p q b))]) (List.replicate 256 [TV.val (.bool false)]) i).length = 256 := by rw [mix_len (by simp) (by simp; omega)]; simp
    have hset := mix_set (A := (List.range 256).map fun b => [TV.val (.bool (meetF p q b))]) (B := List.replicate 256 [TV.val (.bool false)]) (i := i) (by simp) (by simpa using hi) (x := [TV.val (.bool (meetF p q i))]) (by simp [hi])
    generalize hM : mix ((List.range 256).map fun b => [TV.val (.bool (meetF p q b))]) (List.replicate 256 [TV.val (.bool false)]) i = M at hH hat hln hset
    simp [h0, h1, h5, h6, hi2]
    refine TWoH.callV (tc_sSetHas p i hp) callable_108 (by simp [h0]) (by simp) (by simp) (by simp) ?_
    simp [h0, h1, h5, h6, hi2]
    refine gif_intro (fun c => ?_) (fun c => ?_) <;> simp [h0, h1, h5, h6, hi2, c]
    · refine TWoH.callV (tc_sSetHas q i hq) callable_108 (by simp [h1]) (by simp) (by simp) (by simp) ?_
      have hm : meetF p q i = hasS q i := by simp [meetF, c]
      rw [hm] at hset
      simp [h0, h1, h5, h6, hi2, hH, hat, hln, hset, c, hi, hw]
      exact ⟨m - 1, by omega, i + 1, by omega, by omega, rfl⟩
    · have hm : meetF p q i = false := by simp [meetF, c]
      rw [hm] at hset
      simp [h0, h1, h5, h6, hi2, hH, hat, hln, hset, c, hi, hw]
      exact ⟨m - 1, by omega, i + 1, by omega, by omega, rfl⟩
  · obtain rfl : i = 256 := by omega
    rw [mix_all (by simp) (by simp)] at hH
    simp [h0, h1, h5, h6, hH]
    refine TWoH.callV (tc_sSetOk p hp) callable_131 (by simp [h0]) (by simp) (by simp) (by simp) ?_
    simp [h0, h1, h5, h6, hH, ho]
    refine TWoH.callV (tc_sSetOk q hq) callable_131 (by simp [h1]) (by simp) (by simp) (by simp) ?_
    simp [h0, h1, h5, h6, hH, ho, ho']
    refine TWoH.call (tc_l1Of (meetF p q)) callable_147 (by simp [h5, hH]) (by simp) (by simp) fun k hk => ?_
    simp
end Go.Proofs.Ytigmibfacllhmaa.R

open Go Go.Proofs.Ytigmibfacllhmaa.T
namespace Go.Proofs.Ytigmibfacllhmaa.R
set_option maxHeartbeats 4000000
set_option maxRecDepth 100000
set_option linter.unusedSimpArgs false
set_option linter.unusedVariables false
attribute [local simp] bsV bsRows chunk fillT partsT appV makeV rowsOf cellsOf placeOf

def pt (ps : List (List (Int × Int))) (k : Nat) : List (Int × Int) := (ps[k]?).getD []
theorem pt_eq {ps : List (List (Int × Int))} {k : Nat} (h : k < ps.length) : pt ps k = ps[k] := by simp [pt, getI h]
def anyHas (ps : List (List (Int × Int))) (i b : Nat) : Bool := (List.range i).any fun k => hasS (pt ps k) b
theorem anyHas_succ {ps : List (List (Int × Int))} {i b : Nat} : anyHas ps (i + 1) b = (anyHas ps i b || hasS (pt ps i) b) := by
  unfold anyHas; rw [List.range_succ, List.any_append]; simp
def disjB (ps : List (List (Int × Int))) (i : Nat) (b : Nat) : Bool := !(hasS (pt ps i) b && anyHas ps i b)
def disjFrom (ps : List (List (Int × Int))) (i b : Nat) : Bool := (List.range' b (256 - b)).all (disjB ps i)
theorem disjFrom_next {ps : List (List (Int × Int))} {i b : Nat} (h : b < 256) : disjFrom ps i b = (disjB ps i b && disjFrom ps i (b + 1)) := by
  unfold disjFrom
  rw [show 256 - b = (256 - (b + 1)) + 1 by omega, List.range'_succ, List.all_cons]
theorem disjFrom_end {ps : List (List (Int × Int))} {i : Nat} : disjFrom ps i 256 = true := by unfold disjFrom; rfl
def headAt (ps : List (List (Int × Int))) (i : Nat) : Bool := setOk (pt ps i) && !(pt ps i).isEmpty && (decide (i = 0) || decide (firstS (pt ps (i - 1)) < firstS (pt ps i)))
def partAt (ps : List (List (Int × Int))) (i : Nat) : Bool := headAt ps i && disjFrom ps i 0
def partsFrom (ps : List (List (Int × Int))) (i : Nat) : Bool := (List.range' i (ps.length - i)).all (partAt ps)
theorem partsFrom_next {ps : List (List (Int × Int))} {i : Nat} (h : i < ps.length) : partsFrom ps i = (partAt ps i && partsFrom ps (i + 1)) := by
  unfold partsFrom
  rw [show ps.length - i = (ps.length - (i + 1)) + 1 by omega, List.range'_succ, List.all_cons]
theorem partsFrom_end {ps : List (List (Int × Int))} : partsFrom ps ps.length = true := by unfold partsFrom; simp
def sizeTo (ps : List (List (Int × Int))) (i : Nat) : Nat := ((List.range i).map fun k => sizeS (pt ps k)).sum
theorem sizeTo_succ {ps : List (List (Int × Int))} {i : Nat} : sizeTo ps (i + 1) = sizeTo ps i + sizeS (pt ps i) := by
  unfold sizeTo; rw [List.range_succ]; simp
theorem sizeS_le {p : List (Int × Int)} : sizeS p ≤ 256 := sizeB_le (p := p) (b := 256)
theorem sizeTo_le {ps : List (List (Int × Int))} : ∀ i, sizeTo ps i ≤ 256 * i
  | 0 => by simp [sizeTo]
  | i + 1 => by rw [sizeTo_succ]; have := sizeTo_le (ps := ps) i; have := sizeS_le (p := pt ps i); omega
def partsOk (ps : List (List (Int × Int))) : Bool := partsFrom ps 0 && decide (sizeTo ps ps.length = 256)
def meetsFrom (ps : List (List (Int × Int))) (i k : Nat) : Bool := (List.range' k (i - k)).all fun j => decide (spansF (meetF (pt ps i) (pt ps j)) = [])
theorem meetsFrom_next {ps : List (List (Int × Int))} {i k : Nat} (h : k < i) : meetsFrom ps i k = (decide (spansF (meetF (pt ps i) (pt ps k)) = []) && meetsFrom ps i (k + 1)) := by
  unfold meetsFrom
  rw [show i - k = (i - (k + 1)) + 1 by omega, List.range'_succ, List.all_cons]
theorem meetsFrom_end {ps : List (List (Int × Int))} {i : Nat} : meetsFrom ps i i = true := by unfold meetsFrom; simp
theorem meets_disj (ps : List (List (Int × Int))) (i : Nat) : meetsFrom ps i 0 = disjFrom ps i 0 := by
  rw [Bool.eq_iff_iff]
  unfold meetsFrom disjFrom
  simp only [List.all_eq_true, List.mem_range'_1, decide_eq_true_eq]
  constructor
  · intro h b hb
    unfold disjB
    rw [Bool.not_eq_true', Bool.and_eq_false_iff]
    by_cases c : hasS (pt ps i) b = true
    · right
      rw [anyHas, List.any_eq_false]
      intro k hk
      have hk' := List.mem_range.1 hk
      have := (spansTo_nil 256).1 (h k (by omega)) b (by omega)
      simp only [meetF, c, Bool.true_and] at this
      simp [this]
    · left; simpa using c
  · intro h k hk
    refine (spansTo_nil 256).2 fun b hb => ?_
    have := h b (by omega)
    unfold disjB at this
    rw [Bool.not_eq_true', Bool.and_eq_false_iff] at this
    unfold meetF
    rcases this with h1 | h1
    · simp [h1]
    · rw [anyHas, List.any_eq_false] at h1
      have := h1 k (List.mem_range.2 (by omega))
      simp only [Bool.not_eq_true] at this
      simp [this]
theorem tc_l7Parts (ps : List (List (Int × Int))) (hl : ps.length ≤ 1048576) (hs : ∀ x ∈ ps, x.length ≤ 1048576) : TC Try.prog 102 [.ro (ps.map encP)] [] (.val (.bool (partsOk ps))) [] := by
  refine TC.enter Try.func102 rfl (by simp [Try.ntmps102]) rfl (tw_sound (ρ := []) ?_)
  rw [Try.ntmps102]
  simp
  refine TWcH.loop [] (fun m s => ∃ i : Nat, i + m = ps.length ∧ s.σ 0 = .ro (ps.map encP) ∧ s.σ 3 = .val (.int .i64 (sizeTo ps i)) ∧ s.σ 4 = .val (.int .i64 i) ∧ (∀ k, k < i → setOk (pt ps k) = true) ∧ partsFrom ps 0 = partsFrom ps i) ps.length ⟨0, by simp [sizeTo]⟩ ?_
  rintro m ⟨σ, H⟩ ⟨i, him, h0, h3, h4, hso, hh⟩
  simp only at h0 h3 h4
  by_cases hi : i < ps.length
  · have hw : IntKind.i64.wrap ((i : Int) + 1) = i + 1 := wrapi (by omega)
    have hwn : IntKind.i64.wrap ((sizeTo ps i : Int) + sizeS (pt ps i)) = sizeTo ps (i + 1) := by
      rw [sizeTo_succ, wrapi (by have := sizeTo_le (ps := ps) i; have := sizeS_le (p := pt ps i); omega)]; simp
    have hpl : (pt ps i).length ≤ 1152921504606846976 := by rw [pt_eq hi]; have := hs _ (List.getElem_mem hi); omega
    have hpi := pt_eq hi
    rw [partsFrom_next hi] at hh
    simp [h0, h3, h4, hi]
    refine TWcH.midB (ρ := []) (fun s => s.σ 0 = .ro (ps.map encP) ∧ s.σ 3 = .val (.int .i64 (sizeTo ps i)) ∧ s.σ 4 = .val (.int .i64 i) ∧ s.σ 43 = .val (.bool (!headAt ps i)))
      (.first 0 (.first 1 (.first 2 (.pick 3 (.pick 4 (.first 5 (.first 6 (.first 7 (.first 8 (.first 9 (.pick 10 (.first 11 (.first 12 (.first 13 (.first 14 (.first 15 (.first 16 (.first 17 (.first 18 (.first 19 (.first 20 (.first 23 (.first 24 (.first 25 (.first 26 (.pick 21 (.pick 22 (.pick 27 (.pick 28 (.first 29 (.first 30 (.first 31 .fin))) .fin) .fin) (.pick 27 (.pick 22 (.pick 28 (.first 29 (.first 30 (.first 31 .fin))) .fin) .fin) .fin)) (.pick 27 (.pick 21 (.pick 22 (.pick 28 (.first 29 (.first 30 (.first 31 .fin))) .fin) .fin) .fin) .fin)))))))))))))))) .fin)))))) .fin) .fin)))) mixed (by kernel_rfl) ?_ ?_
    · have hpi' : ∀ h, ps[i]'h = pt ps i := fun _ => hpi.symm
      simp [h0, h3, h4, hi, encP, hpi']
      refine TWoH.callV (tc_sSetOk (pt ps i) hpl) callable_131 (by simp) (by simp) (by simp) (by simp) ?_
      have hwm : IntKind.i64.wrap ((i : Int) - 1) = (i : Int) - 1 := wrapi (by omega)
      cases c1 : setOk (pt ps i)
      · simp [h0, h3, h4, hi, headAt, c1]
      cases c2 : pt ps i with
      | nil => simp [h0, h3, h4, hi, headAt, c1, c2, encP, hpi']
      | cons x xs =>
        rw [← c2]
        have hne : ¬ pt ps i = [] := by rw [c2]; simp
        have hne' : (pt ps i).isEmpty = false := by rw [c2]; rfl
        by_cases c3 : i = 0
        · subst c3
          simp [h0, h3, h4, hi, headAt, c1, hne, hne', encP, hpi']
        · have hlt : (0 : Int) < i := by omega
          have hi1 : i - 1 < ps.length := by omega
          have hnn : ((i : Int) - 1).toNat = i - 1 := by omega
          have hge : (0 : Int) ≤ (i : Int) - 1 := by omega
          have hpq : ∀ h, ps[i - 1]'h = pt ps (i - 1) := fun _ => (pt_eq hi1).symm
          have hql : (pt ps (i - 1)).length ≤ 1152921504606846976 := by rw [pt_eq hi1]; have := hs _ (List.getElem_mem hi1); omega
          have hlt0 : 0 < i := by omega
          have h1le : (1 : Int) ≤ i := by omega
          have hc1 := tc_sSetFirst (pt ps i) hpl
          have hc2 := tc_sSetFirst (pt ps (i - 1)) hql
          simp [h0, h3, h4, hi, headAt, c1, hne, hne', encP, hpi', hlt, hlt0, hwm, hnn, hge, hi1, hpq, c3, h1le]
          have hdec : decide (firstS (pt ps i) ≤ firstS (pt ps (i - 1))) = !decide (firstS (pt ps (i - 1)) < firstS (pt ps i)) := by rw [← decide_not]; simp
          repeat' (first
            | exact hdec
            | (refine And.intro ?_ ?_)
            | (refine TWoH.callV hc1 callable_67 ?ha (by simp) (by simp) (by simp) ?_; (case ha => simp; done); simp [h0, h3, h4, hi, headAt, c1, hne, hne', encP, hpi', hlt, hlt0, hwm, hnn, hge, hi1, hpq, c3, h1le])
            | (refine TWoH.callV hc2 callable_67 ?ha (by simp) (by simp) (by simp) ?_; (case ha => simp; done); simp [h0, h3, h4, hi, headAt, c1, hne, hne', encP, hpi', hlt, hlt0, hwm, hnn, hge, hi1, hpq, c3, h1le]))
    · rintro ⟨σ, H⟩ ⟨g0, g3, g4, g43⟩
      simp only at g0 g3 g4 g43
      simp [g0, g3, g4, g43]
      refine gif_intro (fun c1 => ?_) (fun c1 => ?_) <;> simp [g0, g3, g4, c1]
      case refine_2 => rw [partsOk, hh, partAt, Bool.eq_false_iff.2 c1]; simp
      rw [partAt, c1, Bool.true_and, ← meets_disj] at hh
      have hso1 : setOk (pt ps i) = true := by simp only [headAt, Bool.and_eq_true] at c1; exact c1.1.1
      refine TWcH.loop [] (fun m' s => ∃ k : Nat, k + m' = i ∧ s.σ 0 = .ro (ps.map encP) ∧ s.σ 3 = .val (.int .i64 (sizeTo ps i)) ∧ s.σ 4 = .val (.int .i64 i) ∧ s.σ 5 = .val (.int .i64 k) ∧ meetsFrom ps i 0 = meetsFrom ps i k) i ⟨0, by simp [g0, g3, g4]⟩ ?_
      rintro m' ⟨σ, H⟩ ⟨k, hkm, f0, f3, f4, f5, ff⟩
      simp only at f0 f3 f4 f5
      by_cases hk : k < i
      · have hkl : k < ps.length := by omega
        have hwk : IntKind.i64.wrap ((k : Int) + 1) = k + 1 := wrapi (by omega)
        have hpi' : ∀ h, ps[i]'h = pt ps i := fun _ => hpi.symm
        have hpk : ∀ h, ps[k]'h = pt ps k := fun _ => (pt_eq hkl).symm
        have hkll : (pt ps k).length ≤ 1152921504606846976 := by rw [pt_eq hkl]; have := hs _ (List.getElem_mem hkl); omega
        rw [meetsFrom_next hk] at ff
        simp [f0, f3, f4, f5, hk]
        refine TWcH.regionD (ρ := []) [0, 1, 2, 3, 4, 5, 6, 7, 8, 9, 10] 11 mixed (by kernel_rfl) ?_
        simp [f0, f3, f4, f5, hk, hi, hkl, encP, hpi', hpk]
        refine TWqH.call (tc_sSetMeet (pt ps i) (pt ps k) hpl hkll hso1 (hso k hk)) callable_132 (by simp) (by simp) (by simp) fun q hq => ?_
        have hsl := spansTo_len (f := meetF (pt ps i) (pt ps k)) 256
        simp [f0, f3, f4, f5, hk, hi, hkl]
        by_cases c2 : spansF (meetF (pt ps i) (pt ps k)) = []
        · simp [c2, f0, f3, f4, f5, hwk]
          exact ⟨m' - 1, by omega, k + 1, by omega, by omega, by rw [ff]; simp [c2]⟩
        · have : 0 < (spansF (meetF (pt ps i) (pt ps k))).length := List.length_pos_iff.2 c2
          simp [c2, f0, f3, f4, f5, this]
          rw [partsOk, hh, ff]; simp [c2]
      · obtain rfl : k = i := by omega
        have hpi' : ∀ h, ps[k]'h = pt ps k := fun _ => hpi.symm
        simp [f0, f3, f4, f5, hi, encP, hpi']
        refine TWoH.callV (tc_sSetSize (pt ps k) hpl) callable_133 (by simp) (by simp) (by simp) (by simp) ?_
        simp [f0, f3, f4, f5, hwn, hw]
        refine ⟨m - 1, by omega, k + 1, by omega, by simp, by omega, ?_, by rw [hh, ff, meetsFrom_end]; simp⟩
        intro j hj
        by_cases e : j = k
        · rw [e]; exact hso1
        · exact hso j (by omega)
  · obtain rfl : i = ps.length := by omega
    simp [h0, h3, h4]
    rw [partsOk, hh, partsFrom_end, Bool.true_and, decide_eq_decide]
    omega
end Go.Proofs.Ytigmibfacllhmaa.R

open Go Go.Proofs.Ytigmibfacllhmaa.T
namespace Go.Proofs.Ytigmibfacllhmaa.R
set_option maxHeartbeats 4000000
set_option maxRecDepth 100000
set_option linter.unusedSimpArgs false
set_option linter.unusedVariables false
attribute [local simp] bsV bsRows chunk fillT partsT appV makeV rowsOf cellsOf placeOf

def rw_ (d : Dfa) (i : Nat) : List Int := (d.rows[i]?).getD []
def ac_ (d : Dfa) (i : Nat) : Int := (d.acc[i]?).getD 0
theorem rw_eq {d : Dfa} {i : Nat} (h : i < d.rows.length) : rw_ d i = d.rows[i] := by simp [rw_, getI h]
theorem ac_eq {d : Dfa} {i : Nat} (h : i < d.acc.length) : ac_ d i = d.acc[i] := by simp [ac_, getI h]
def entOk (d : Dfa) (s : Int) : Bool := decide (-1 ≤ s) && decide (s < d.rows.length)
def rowAt (d : Dfa) (i : Nat) : Bool := decide ((rw_ d i).length = d.parts.length) && decide (-1 ≤ ac_ d i) && decide (ac_ d i < 5) && (rw_ d i).all (entOk d)
def rowsFrom (d : Dfa) (i : Nat) : Bool := (List.range' i (d.rows.length - i)).all (rowAt d)
theorem rowsFrom_next {d : Dfa} {i : Nat} (h : i < d.rows.length) : rowsFrom d i = (rowAt d i && rowsFrom d (i + 1)) := by
  unfold rowsFrom
  rw [show d.rows.length - i = (d.rows.length - (i + 1)) + 1 by omega, List.range'_succ, List.all_cons]
theorem rowsFrom_end {d : Dfa} : rowsFrom d d.rows.length = true := by unfold rowsFrom; simp
def dfaOk (d : Dfa) : Bool := partsOk d.parts && decide (1 ≤ d.rows.length) && decide (d.rows.length ≤ 40) && decide (d.acc.length = d.rows.length) && rowsFrom d 0
theorem allDrop {α : Type _} {l : List α} {f : α → Bool} {k : Nat} (h : k < l.length) : (l.drop k).all f = (f l[k] && (l.drop (k + 1)).all f) := by
  conv => lhs; rw [List.drop_eq_getElem_cons h]
  rw [List.all_cons]
theorem tc_sDfaOk (d : Dfa) (hs : DSm d) : TC Try.prog 54 [.agg (encDfa d)] [] (.val (.bool (dfaOk d))) [] := by
  refine TC.enter Try.func54 rfl (by simp [Try.ntmps54]) rfl (tw_sound (ρ := [1]) ?_)
  rw [Try.ntmps54]
  simp [encDfa]
  refine TWoH.callV (tc_l7Parts d.parts hs.parts hs.part) callable_102 (by simp) (by simp) (by simp) (by simp) ?_
  simp
  refine gif_intro (fun c1 => ?_) (fun c1 => ?_) <;> simp [c1]
  case refine_2 => simp [dfaOk, c1]
  refine gif_intro (fun c2 => ?_) (fun c2 => ?_) <;> simp [c1, c2]
  · have : ¬ 1 ≤ d.rows.length := by omega
    simp [dfaOk, this]
  have c2' : (1 : Int) ≤ d.rows.length := by omega
  refine gif_intro (fun c3 => ?_) (fun c3 => ?_) <;> simp [c1, c2, c3]
  · have : ¬ d.rows.length ≤ 40 := by omega
    simp [dfaOk, this]
  refine gif_intro (fun c4 => ?_) (fun c4 => ?_) <;> simp [c1, c2, c3, c4]
  case refine_2 =>
    have : ¬ d.acc.length = d.rows.length := by omega
    simp [dfaOk, this]
  have hal : d.acc.length = d.rows.length := by omega
  have hr : dfaOk d = rowsFrom d 0 := by
    have h40 : d.rows.length ≤ 40 := by omega
    have h1 : 1 ≤ d.rows.length := by omega
    simp [dfaOk, c1, h40, h1, hal]
  rw [hr]
  refine TWcH.loop [] (fun m s => ∃ i : Nat, i + m = d.rows.length ∧ s.σ 1 = .rptr [.ro (d.parts.map encP), .ro (d.rows.map encR), .ro (d.acc.map encI)] 0 ∧ s.σ 3 = .val (.int .i64 i) ∧ rowsFrom d 0 = rowsFrom d i) d.rows.length ⟨0, by simp⟩ ?_
  rintro m ⟨σ, H⟩ ⟨i, him, h1, h3, hh⟩
  simp only at h1 h3
  by_cases hi : i < d.rows.length
  · have hw : IntKind.i64.wrap ((i : Int) + 1) = i + 1 := wrapi (by omega)
    have hia : i < d.acc.length := by omega
    have hpi : ∀ h, d.rows[i]'h = rw_ d i := fun _ => (rw_eq hi).symm
    have hpa : ∀ h, d.acc[i]'h = ac_ d i := fun _ => (ac_eq hia).symm
    rw [rowsFrom_next hi] at hh
    simp [h1, h3, hi]
    refine TWcH.regionD (ρ := []) [0, 1, 2, 3, 4, 5, 6, 7, 8, 9, 10, 11, 12, 13, 14, 15, 16, 17, 18, 19, 20, 21, 22, 23, 24, 25] 26 mixed (by kernel_rfl) ?_
    simp [h1, h3, hi, hia, hpi, hpa, encR, encI]
    by_cases d1 : (rw_ d i).length = d.parts.length
    case neg =>
      have d1' : ¬ ((rw_ d i).length : Int) = d.parts.length := by omega
      simp [h1, h3, hi, hia, hpi, hpa, encR, encI, d1, d1']
      rw [hh]; simp [rowAt, d1]
    simp [h1, h3, hi, hia, hpi, hpa, encR, encI, d1]
    by_cases d2 : ac_ d i < -1
    · simp [h1, h3, hi, hia, hpi, hpa, encR, encI, d2]
      have d2' : ¬ -1 ≤ ac_ d i := by omega
      rw [hh]; simp [rowAt, d2']
    simp [h1, h3, hi, hia, hpi, hpa, encR, encI, d2]
    by_cases d3 : 5 ≤ ac_ d i
    · simp [h1, h3, hi, hia, hpi, hpa, encR, encI, d3]
      have d3' : ¬ ac_ d i < 5 := by omega
      rw [hh]; simp [rowAt, d3']
    simp [h1, h3, hi, hia, hpi, hpa, encR, encI, d3]
    have hrow : rowAt d i = (rw_ d i).all (entOk d) := by
      have e2 : -1 ≤ ac_ d i := by omega
      have e3 : ac_ d i < 5 := by omega
      simp [rowAt, d1, e2, e3]
    rw [hrow] at hh
    have hwr : (d.rows.length : Int) ≤ 40 := by omega
    have hrl : (rw_ d i).length ≤ 1048576 := by rw [rw_eq hi]; exact hs.row _ (List.getElem_mem hi)
    refine TWcH.loop [] (fun m' s => ∃ k : Nat, k + m' = (rw_ d i).length ∧ s.σ 1 = .rptr [.ro (d.parts.map encP), .ro (d.rows.map encR), .ro (d.acc.map encI)] 0 ∧ s.σ 3 = .val (.int .i64 i) ∧ s.σ 4 = .val (.int .i64 k) ∧ (rw_ d i).all (entOk d) = ((rw_ d i).drop k).all (entOk d)) (rw_ d i).length ⟨0, by simp [h1, h3]⟩ ?_
    rintro m' ⟨σ, H⟩ ⟨k, hkm, g1, g3, g4, gg⟩
    simp only at g1 g3 g4
    by_cases hk : k < (rw_ d i).length
    · have hwk : IntKind.i64.wrap ((k : Int) + 1) = k + 1 := wrapi (by omega)
      rw [allDrop hk] at gg
      simp [g1, g3, g4, hi, hpi, encR, encI, hk]
      refine TWcH.regionD (ρ := []) [0, 1, 2, 3, 4, 5, 6, 7, 8, 9, 10, 11, 12, 13, 14, 15, 16, 17, 18, 19, 20, 21, 22] 23 mixed (by kernel_rfl) ?_
      simp [g1, g3, g4, hi, hpi, encR, encI, hk]
      by_cases e1 : (rw_ d i)[k] < -1
      · have e1' : ¬ -1 ≤ (rw_ d i)[k] := by omega
        simp [g1, g3, g4, hi, hpi, encR, encI, hk, e1]
        rw [hh, gg]; simp [entOk, e1']
      have e1' : -1 ≤ (rw_ d i)[k] := by omega
      simp [g1, g3, g4, hi, hpi, encR, encI, hk, e1]
      by_cases e2 : (d.rows.length : Int) ≤ (rw_ d i)[k]
      · have e2' : ¬ (rw_ d i)[k] < d.rows.length := by omega
        simp [g1, g3, g4, hi, hpi, encR, encI, hk, e2]
        rw [hh, gg]; simp [entOk, e2']
      have e2' : (rw_ d i)[k] < d.rows.length := by omega
      simp [g1, g3, g4, hi, hpi, encR, encI, hk, e2, hwk]
      exact ⟨m' - 1, by omega, k + 1, by omega, by omega, by rw [gg]; simp [entOk, e1', e2']⟩
    · obtain rfl : k = (rw_ d i).length := by omega
      simp [g1, g3, g4, hi, hpi, encR, encI, hw]
      exact ⟨m - 1, by omega, i + 1, by omega, by omega, by rw [hh, gg]; simp⟩
  · obtain rfl : i = d.rows.length := by omega
    simp [h1, h3]
    rw [hh, rowsFrom_end]
theorem setOk_first {x : Int × Int} {xs : List (Int × Int)} (h : setOk (x :: xs) = true) : 0 ≤ x.1 ∧ x.1 ≤ x.2 ∧ x.2 ≤ 255 := by
  simp only [setOk, setOkP, okX, Bool.and_eq_true, decide_eq_true_eq] at h
  exact ⟨h.1.1, h.1.2.2.1, h.1.2.1⟩
theorem setOkP_low : ∀ (l : List (Int × Int)) (q b : Int), setOkP (some q) l = true → b ≤ q → hasS l b = false
  | [], q, b, h, hb => by simp [hasS]
  | x :: l, q, b, h, hb => by
    simp only [setOkP, okX, Bool.and_eq_true, decide_eq_true_eq] at h
    have h1 := h.1.2.2.2 q rfl
    have := setOkP_low l x.2 b h.2 (by omega)
    simp only [hasS, List.any_cons] at this ⊢
    rw [this]
    simp; omega
theorem firstG_at {f : Nat → Bool} : ∀ (n i k : Nat), k = i + n → k < 256 → f k = true → (∀ j, i ≤ j → j < k → f j = false) → firstG f i = k
  | 0, i, k, e, hk, h1, h2 => by
    obtain rfl : k = i := by omega
    rw [firstG_next hk, if_pos h1]
  | n + 1, i, k, e, hk, h1, h2 => by
    rw [firstG_next (by omega), if_neg (by rw [h2 i (by omega) (by omega)]; simp)]
    exact firstG_at n (i + 1) k (by omega) hk h1 fun j a b => h2 j (by omega) b
theorem firstS_head {x : Int × Int} {xs : List (Int × Int)} (h : setOk (x :: xs) = true) : firstS (x :: xs) = x.1 := by
  obtain ⟨a1, a2, a3⟩ := setOk_first h
  have e : (x.1.toNat : Int) = x.1 := by omega
  have hx : setOkP (some x.2) xs = true := by simp only [setOk, setOkP, Bool.and_eq_true] at h; exact h.2
  have := firstG_at (f := fun b => hasS (x :: xs) b) x.1.toNat 0 x.1.toNat (by omega) (by omega) (by simp [hasS]; left; omega) (fun j _ hj => by
    have := setOkP_low xs x.2 j hx (by omega)
    simp only [hasS, List.any_cons] at this ⊢
    rw [this]; simp; omega)
  rw [firstS, this, e]
def lastOf (ps : List (List (Int × Int))) (i : Nat) : Int := if i = 0 then -1 else firstS (pt ps (i - 1))
theorem tc_iDfaOk (d : Dfa) (hs : DSm d) : TC Try.prog 59 [.agg (encDfa d)] [] (.val (.bool (dfaOk d))) [] := by
  refine TC.enter Try.func59 rfl (by simp [Try.ntmps59]) rfl (tw_sound (ρ := [1]) ?_)
  rw [Try.ntmps59]
  simp [encDfa]
  refine gall_intro fun a ha => ?_
  simp
  refine TWcH.loop [] (fun m s => ∃ i : Nat, i + m = d.parts.length ∧ s.σ 1 = .rptr [.ro (d.parts.map encP), .ro (d.rows.map encR), .ro (d.acc.map encI)] 0 ∧ s.σ 3 = .pd a 0 0 0 ∧ s.H a = some (.box 125 (bitsT (anyHas d.parts i))) ∧ s.σ 4 = .val (.int .i64 (lastOf d.parts i)) ∧ s.σ 5 = .val (.int .i64 (sizeTo d.parts i)) ∧ s.σ 15 = .ro (d.parts.map encP) ∧ s.σ 16 = .val (.int .i64 d.parts.length) ∧ s.σ 17 = .val (.int .i64 i) ∧ partsFrom d.parts 0 = partsFrom d.parts i) d.parts.length ⟨0, by simp [lastOf, sizeTo]; exact bitsT_congr fun b hb => by simp [anyHas]⟩ ?_
  rintro m ⟨σ, H⟩ ⟨i, him, h1, h3, hH, h4, h5, h15, h16, h17, hh⟩
  simp only at h1 h3 hH h4 h5 h15 h16 h17
  have hpl := hs.parts
  by_cases hi : i < d.parts.length
  · have hw : IntKind.i64.wrap ((i : Int) + 1) = i + 1 := wrapi (by omega)
    have hp' : ∀ h, d.parts[i]'h = pt d.parts i := fun _ => (pt_eq hi).symm
    have hpln : (pt d.parts i).length ≤ 1152921504606846976 := by rw [pt_eq hi]; have := hs.part _ (List.getElem_mem hi); omega
    rw [partsFrom_next hi] at hh
    simp [h1, h3, hH, h4, h5, h15, h16, h17, hi, hp', encP]
    refine TWoH.callV (tc_iSetOk (pt d.parts i) hpln) callable_105 (by simp) (by simp) (by simp) (by simp) ?_
    cases c1 : setOk (pt d.parts i)
    · simp [h1, h3, hH, h4, h5, h15, h16, h17, hi]
      simp [dfaOk, partsOk, hh, partAt, headAt, c1]
    cases c2 : pt d.parts i with
    | nil =>
      simp [h1, h3, hH, h4, h5, h15, h16, h17, hi]
      simp [dfaOk, partsOk, hh, partAt, headAt, c2]
    | cons x xs =>
    have hne : ¬ pt d.parts i = [] := by rw [c2]; simp
    have hfx : firstS (pt d.parts i) = x.1 := by rw [c2] at c1 ⊢; exact firstS_head c1
    have hx0 := (setOk_first (by rw [← c2]; exact c1)).1
    have hxl : ¬ ((xs.length : Int) + 1 = 0) := by omega
    simp [h1, h3, hH, h4, h5, h15, h16, h17, hi, encS, hxl]
    by_cases c3 : x.1 ≤ lastOf d.parts i
    · simp [h1, h3, hH, h4, h5, h15, h16, h17, hi, c3]
      have : headAt d.parts i = false := by
        unfold lastOf at c3
        split at c3
        · omega
        · rename_i h0
          have : ¬ firstS (pt d.parts (i - 1)) < firstS (pt d.parts i) := by omega
          simp [headAt, this, h0]
      simp [dfaOk, partsOk, hh, partAt, this]
    have hhd : headAt d.parts i = true := by
      unfold lastOf at c3
      split at c3
      · rename_i h0; subst h0; simp [headAt, c1, hne]
      · rename_i h0
        have : firstS (pt d.parts (i - 1)) < firstS (pt d.parts i) := by omega
        simp [headAt, this, c1, hne]
    rw [partAt, hhd, Bool.true_and] at hh
    simp [h1, h3, hH, h4, h5, h15, h16, h17, hi, c3, encS]
    have hbo := tc_bitsOf (pt d.parts i) hpln
    rw [c2] at hbo
    refine TWoH.callV hbo callable_106 (by simp [encS]) (by simp) (by simp) (by simp) ?_
    rw [← c2]
    simp [h1, h3, hH, h4, h5, h15, h16, h17, hi, c3, encS]
    have hlast : x.1 = lastOf d.parts (i + 1) := by simp [lastOf, hfx]
    have hsz := sizeTo_le (ps := d.parts) i
    refine TWcH.loop [] (fun m' s => ∃ b : Nat, b + m' = 256 ∧ s.σ 1 = .rptr [.ro (d.parts.map encP), .ro (d.rows.map encR), .ro (d.acc.map encI)] 0 ∧ s.σ 3 = .pd a 0 0 0 ∧ s.H a = some (.box 125 (bitsT fun b' => anyHas d.parts i b' || (decide (b' < b) && hasS (pt d.parts i) b'))) ∧ s.σ 4 = .val (.int .i64 x.1) ∧ s.σ 5 = .val (.int .i64 (sizeTo d.parts i + sizeB (pt d.parts i) b : Nat)) ∧ s.σ 15 = .ro (d.parts.map encP) ∧ s.σ 16 = .val (.int .i64 d.parts.length) ∧ s.σ 17 = .val (.int .i64 i) ∧ s.σ 42 = .agg (bitsT fun b => hasS (pt d.parts i) b) ∧ s.σ 43 = .val (.int .i64 b) ∧ disjFrom d.parts i 0 = disjFrom d.parts i b) 256 ⟨0, by simp [h1, h3, hH, h4, h5, h15, h16, h17, sizeB]⟩ ?_
    rintro m' ⟨σ, H⟩ ⟨b, hbm, g1, g3, gH, g4, g5, g15, g16, g17, g42, g43, gg⟩
    simp only at g1 g3 gH g4 g5 g15 g16 g17 g42 g43
    by_cases hb : b < 256
    · have hwb : IntKind.i64.wrap ((b : Int) + 1) = b + 1 := wrapi (by omega)
      have hb2 : (b : Int) < 256 := by omega
      have hb3 : b ≤ 255 := by omega
      have hsb := sizeB_le (p := pt d.parts i) (b := b)
      have hws : IntKind.i64.wrap (((sizeTo d.parts i + sizeB (pt d.parts i) b : Nat) : Int) + 1) = ((sizeTo d.parts i + sizeB (pt d.parts i) b + 1 : Nat) : Int) := by rw [wrapi (by omega)]; simp
      rw [disjFrom_next hb] at gg
      simp only [Int.natCast_add] at hws g5
      simp [g1, g3, gH, g4, g5, g15, g16, g17, g42, g43, hb2, bitsT_at hb, partTV]
      cases c4 : hasS (pt d.parts i) b
      · simp [g1, g3, gH, g4, g5, g15, g16, g17, g42, g43, hb2, hwb]
        refine ⟨m' - 1, by omega, b + 1, by omega, ?_, by rw [sizeB_succ, c4]; simp, by omega, by rw [gg]; simp [disjB, c4]⟩
        apply bitsT_congr
        intro j hj
        by_cases e : j = b
        · subst e; simp [c4]
        · have : (j < b) = (j < b + 1) := by rw [eq_iff_iff]; omega
          simp [this]
      · simp [g1, g3, gH, g4, g5, g15, g16, g17, g42, g43, hb2, hwb, hb3, bitsT_cut hb]
        cases c5 : anyHas d.parts i b
        · simp [g1, g3, gH, g4, g5, g15, g16, g17, g42, g43, hb2, hb3, hwb, hws, bitsT_put hb]
          refine ⟨m' - 1, by omega, b + 1, by omega, ?_, by rw [sizeB_succ, c4]; simp; omega, by omega, by rw [gg]; simp [disjB, c4, c5]⟩
          apply bitsT_congr
          intro j hj
          by_cases e : j = b
          · subst e; simp [c4]
          · have : (j < b) = (j < b + 1) := by rw [eq_iff_iff]; omega
            simp [this, e]
        · simp [g1, g3, gH, g4, g5, g15, g16, g17, g42, g43, hb2, hb3, hwb]
          simp [dfaOk, partsOk, hh, gg, disjB, c4, c5]
    · obtain rfl : b = 256 := by omega
      simp [g1, g3, gH, g4, g5, g15, g16, g17, g42, g43, hw]
      refine ⟨m - 1, by omega, i + 1, by omega, ?_, hlast, by rw [sizeTo_succ]; rfl, by omega, by rw [hh, gg, disjFrom_end]; simp⟩
      apply bitsT_congr
      intro j hj
      simp [hj, anyHas_succ]
  · obtain rfl : i = d.parts.length := by omega
    rw [partsFrom_end] at hh
    have hlast : sizeTo d.parts d.parts.length ≤ 256 * 1048576 := by have := sizeTo_le (ps := d.parts) d.parts.length; omega
    simp [h1, h3, hH, h4, h5, h15, h16, h17]
    by_cases c1 : sizeTo d.parts d.parts.length = 256
    case neg =>
      have c1' : ¬ ((sizeTo d.parts d.parts.length : Nat) : Int) = 256 := by omega
      simp [h1, h3, hH, h4, h5, h15, h16, h17, c1, c1']
      simp [dfaOk, partsOk, c1]
    have c1' : ((sizeTo d.parts d.parts.length : Nat) : Int) = 256 := by omega
    have hp : partsOk d.parts = true := by simp [partsOk, hh, c1]
    simp [h1, h3, hH, h4, h5, h15, h16, h17, c1, c1']
    refine TWoH.callV (tc_in d.rows.length 1 40) callable_64 (by simp) (by simp) (by simp) (by simp) ?_
    simp
    by_cases c2a : (1 : Int) ≤ d.rows.length
    case neg =>
      have c2n : (d.rows.length : Int) < 1 := by omega
      simp [h1, h3, hH, h4, h5, h15, h16, h17, c2a, c2n]
      simp only [dfaOk, hp, Bool.true_and]
      rw [decide_eq_false (show ¬ 1 ≤ d.rows.length by omega)]; rfl
    by_cases c2b : (d.rows.length : Int) ≤ 40
    case neg =>
      have c2n : (40 : Int) < d.rows.length := by omega
      simp [h1, h3, hH, h4, h5, h15, h16, h17, c2a, c2b, c2n]
      simp only [dfaOk, hp, Bool.true_and]
      rw [decide_eq_false (show ¬ d.rows.length ≤ 40 by omega), Bool.and_false]; rfl
    have c2 : (1 : Int) ≤ d.rows.length ∧ (d.rows.length : Int) ≤ 40 := ⟨c2a, c2b⟩
    simp [h1, h3, hH, h4, h5, h15, h16, h17, c2.1, c2.2]
    refine gif_intro (fun c4 => ?_) (fun c4 => ?_) <;> simp [h1, c4]
    case refine_2 =>
      have : ¬ d.acc.length = d.rows.length := by omega
      simp [dfaOk, this]
    have hal : d.acc.length = d.rows.length := by omega
    have hr : dfaOk d = rowsFrom d 0 := by
      have h40 : d.rows.length ≤ 40 := by omega
      have h1 : 1 ≤ d.rows.length := by omega
      simp [dfaOk, hp, h40, h1, hal]
    rw [hr]
    refine TWcH.loop [] (fun m s => ∃ i : Nat, i + m = d.rows.length ∧ s.σ 1 = .rptr [.ro (d.parts.map encP), .ro (d.rows.map encR), .ro (d.acc.map encI)] 0 ∧ s.σ 79 = .ro (d.rows.map encR) ∧ s.σ 80 = .val (.int .i64 d.rows.length) ∧ s.σ 81 = .val (.int .i64 i) ∧ rowsFrom d 0 = rowsFrom d i) d.rows.length ⟨0, by simp [h1]⟩ ?_
    rintro m ⟨σ, H⟩ ⟨i, him, g1, g79, g80, g81, gg⟩
    simp only at g1 g79 g80 g81
    by_cases hi : i < d.rows.length
    · have hw : IntKind.i64.wrap ((i : Int) + 1) = i + 1 := wrapi (by omega)
      have hia : i < d.acc.length := by omega
      have hpi : ∀ h, d.rows[i]'h = rw_ d i := fun _ => (rw_eq hi).symm
      have hpa : ∀ h, d.acc[i]'h = ac_ d i := fun _ => (ac_eq hia).symm
      rw [rowsFrom_next hi] at gg
      simp [g1, g79, g80, g81, hi, hia, hpi, hpa, encR, encI]
      by_cases d1 : (rw_ d i).length = d.parts.length
      case neg =>
        have d1' : ¬ ((rw_ d i).length : Int) = d.parts.length := by omega
        simp [g1, g79, g80, g81, hi, hia, hpi, hpa, encR, encI, d1, d1']
        rw [gg]; simp [rowAt, d1]
      simp [g1, g79, g80, g81, hi, hia, hpi, hpa, encR, encI, d1]
      refine TWoH.callV (tc_in (ac_ d i) (-1) 4) callable_64 (by simp) (by simp) (by simp) (by simp) ?_
      simp
      by_cases d2a : -1 ≤ ac_ d i
      case neg =>
        have d2n : ac_ d i < -1 := by omega
        simp [g1, g79, g80, g81, hi, d2a, d2n]
        rw [gg, rowAt, decide_eq_false d2a]; simp
      by_cases d2b : ac_ d i ≤ 4
      case neg =>
        have d2n : 4 < ac_ d i := by omega
        simp [g1, g79, g80, g81, hi, d2a, d2b, d2n]
        rw [gg, rowAt, decide_eq_false (show ¬ ac_ d i < 5 by omega)]; simp
      have d2 : -1 ≤ ac_ d i ∧ ac_ d i ≤ 4 := ⟨d2a, d2b⟩
      have d2x : ¬ ac_ d i < -1 := by omega
      have d2y : ¬ 4 < ac_ d i := by omega
      simp [g1, g79, g80, g81, hi, d2x, d2y]
      have hrow : rowAt d i = (rw_ d i).all (entOk d) := by
        have e2 : -1 ≤ ac_ d i := d2.1
        have e3 : ac_ d i < 5 := by omega
        simp [rowAt, d1, e2, e3]
      rw [hrow] at gg
      have hrl : (rw_ d i).length ≤ 1048576 := by rw [rw_eq hi]; exact hs.row _ (List.getElem_mem hi)
      refine TWcH.loop [] (fun m' s => ∃ k : Nat, k + m' = (rw_ d i).length ∧ s.σ 1 = .rptr [.ro (d.parts.map encP), .ro (d.rows.map encR), .ro (d.acc.map encI)] 0 ∧ s.σ 79 = .ro (d.rows.map encR) ∧ s.σ 80 = .val (.int .i64 d.rows.length) ∧ s.σ 81 = .val (.int .i64 i) ∧ s.σ 101 = .ro ((rw_ d i).map encI) ∧ s.σ 102 = .val (.int .i64 (rw_ d i).length) ∧ s.σ 103 = .val (.int .i64 k) ∧ (rw_ d i).all (entOk d) = ((rw_ d i).drop k).all (entOk d)) (rw_ d i).length ⟨0, by simp [g1, g79, g80, g81, d1, encI]⟩ ?_
      rintro m' ⟨σ, H⟩ ⟨k, hkm, f1, f79, f80, f81, f101, f102, f103, ff⟩
      simp only at f1 f79 f80 f81 f101 f102 f103
      by_cases hk : k < (rw_ d i).length
      · have hwk : IntKind.i64.wrap ((k : Int) + 1) = k + 1 := wrapi (by omega)
        have hwr : IntKind.i64.wrap ((d.rows.length : Int) - 1) = d.rows.length - 1 := wrapi (by omega)
        rw [allDrop hk] at ff
        simp [f1, f79, f80, f81, f101, f102, f103, hk, encI, hwr]
        refine TWoH.callV (tc_in (rw_ d i)[k] (-1) ((d.rows.length : Int) - 1)) callable_64 (by simp) (by simp) (by simp) (by simp) ?_
        simp
        by_cases e1a : -1 ≤ (rw_ d i)[k]
        case neg =>
          have e1n : (rw_ d i)[k] < -1 := by omega
          simp [f1, f79, f80, f81, f101, f102, f103, e1a, e1n]
          rw [gg, ff, entOk, decide_eq_false e1a]; simp
        by_cases e1b : (rw_ d i)[k] ≤ (d.rows.length : Int) - 1
        case neg =>
          have e1n : (d.rows.length : Int) - 1 < (rw_ d i)[k] := by omega
          simp [f1, f79, f80, f81, f101, f102, f103, e1a, e1b, e1n]
          rw [gg, ff, entOk, decide_eq_false (show ¬ (rw_ d i)[k] < d.rows.length by omega)]; simp
        have e1 : -1 ≤ (rw_ d i)[k] ∧ (rw_ d i)[k] ≤ (d.rows.length : Int) - 1 := ⟨e1a, e1b⟩
        have e1x : ¬ (rw_ d i)[k] < -1 := by omega
        have e1y : ¬ (d.rows.length : Int) - 1 < (rw_ d i)[k] := by omega
        simp [f1, f79, f80, f81, f101, f102, f103, e1x, e1y, hwk]
        have e3 : (rw_ d i)[k] < d.rows.length := by omega
        exact ⟨m' - 1, by omega, k + 1, by omega, by omega, by rw [ff]; simp [entOk, e1.1, e3]⟩
      · obtain rfl : k = (rw_ d i).length := by omega
        simp [f1, f79, f80, f81, f101, f102, f103, hw]
        exact ⟨m - 1, by omega, i + 1, by omega, by omega, by rw [gg, ff]; simp⟩
    · obtain rfl : i = d.rows.length := by omega
      simp [g1, g79, g80, g81]
      rw [gg, rowsFrom_end]
end Go.Proofs.Ytigmibfacllhmaa.R

open Go Go.Proofs.Ytigmibfacllhmaa.T
namespace Go.Proofs.Ytigmibfacllhmaa.R
set_option maxHeartbeats 4000000
set_option maxRecDepth 100000
set_option linter.unusedSimpArgs false
set_option linter.unusedVariables false
attribute [local simp] bsV bsRows chunk fillT partsT appV makeV rowsOf cellsOf placeOf

/-- What a right machine is. -/
structure DOk (d : Dfa) : Prop where
  parts : partsOk d.parts = true
  one : 1 ≤ d.rows.length
  most : d.rows.length ≤ 40
  acc : d.acc.length = d.rows.length
  row : ∀ i, i < d.rows.length → (rw_ d i).length = d.parts.length
  low : ∀ i, i < d.rows.length → -1 ≤ ac_ d i
  high : ∀ i, i < d.rows.length → ac_ d i < 5
  ent : ∀ i, i < d.rows.length → ∀ t ∈ rw_ d i, -1 ≤ t ∧ t < d.rows.length
theorem dok_of {d : Dfa} (h : dfaOk d = true) : DOk d := by
  simp only [dfaOk, Bool.and_eq_true, decide_eq_true_eq] at h
  obtain ⟨⟨⟨⟨h1, h2⟩, h3⟩, h4⟩, h5⟩ := h
  have key : ∀ i, i < d.rows.length → rowAt d i = true := by
    intro i hi
    unfold rowsFrom at h5
    rw [List.all_eq_true] at h5
    exact h5 i (by rw [List.mem_range'_1]; omega)
  simp only [rowAt, Bool.and_eq_true, decide_eq_true_eq, List.all_eq_true, entOk] at key
  exact ⟨h1, h2, h3, h4, fun i hi => (key i hi).1.1.1, fun i hi => (key i hi).1.1.2, fun i hi => (key i hi).1.2, fun i hi => (key i hi).2⟩
inductive Live (d : Dfa) : Nat → Prop
  | acc (s : Nat) (hs : s < d.rows.length) (h : 0 ≤ ac_ d s) : Live d s
  | step (s : Nat) (hs : s < d.rows.length) (t : Int) (ht : t ∈ rw_ d s) (h0 : 0 ≤ t) (h : Live d t.toNat) : Live d s
def lv (bl : List Bool) (s : Nat) : Bool := (bl[s]?).getD false
theorem lv_eq {bl : List Bool} {s : Nat} (h : s < bl.length) : lv bl s = bl[s] := by simp [lv, getI h]
theorem lv_set {bl : List Bool} {s j : Nat} {x : Bool} : lv (bl.set s x) j = if s = j ∧ s < bl.length then x else lv bl j := by
  unfold lv
  rw [List.getElem?_set]
  by_cases e : s = j
  · subst e
    by_cases h : s < bl.length
    · simp [h]
    · simp [h]
  · simp [e]
def isT (bl : List Bool) (t : Int) : Bool := decide (0 ≤ t) && lv bl t.toNat
def isL (d : Dfa) (bl : List Bool) (s : Nat) : Bool := decide (0 ≤ ac_ d s) || (rw_ d s).any (isT bl)
structure IsLive (d : Dfa) (bl : List Bool) : Prop where
  len : bl.length = d.rows.length
  iff : ∀ s, s < d.rows.length → (lv bl s = true ↔ Live d s)
def SoundL (d : Dfa) (bl : List Bool) : Prop := ∀ s, lv bl s = true → Live d s
def ClosedL (d : Dfa) (bl : List Bool) : Prop := ∀ s, s < d.rows.length → isL d bl s = true → lv bl s = true
theorem live_lt {d : Dfa} {s : Nat} (h : Live d s) : s < d.rows.length := by cases h <;> assumption
theorem isLive_of {d : Dfa} {bl : List Bool} (hl : bl.length = d.rows.length) (h1 : SoundL d bl) (h2 : ClosedL d bl) : IsLive d bl := by
  refine ⟨hl, fun s hs => ⟨h1 s, fun h => ?_⟩⟩
  induction h with
  | acc s hs h => exact h2 s hs (by simp [isL, h])
  | step s hs t ht h0 h ih =>
    refine h2 s hs ?_
    have := ih (live_lt h)
    simp only [isL, Bool.or_eq_true, List.any_eq_true]
    right
    exact ⟨t, ht, by simp [isT, h0, this]⟩
theorem isLive_uniq {d : Dfa} {a b : List Bool} (ha : IsLive d a) (hb : IsLive d b) : a = b := by
  apply List.ext_getElem (by rw [ha.len, hb.len])
  intro i h1 h2
  have h := ha.len
  have e1 := ha.iff i (by omega)
  have e2 := hb.iff i (by omega)
  rw [lv_eq h1] at e1
  rw [lv_eq h2] at e2
  rw [Bool.eq_iff_iff, e1, e2]
theorem isLive_ex (d : Dfa) : ∃ bl, IsLive d bl := by
  refine ⟨(List.range d.rows.length).map fun s => @decide (Live d s) (Classical.propDecidable _), by simp, fun s hs => ?_⟩
  simp [lv, hs]
theorem sound_step {d : Dfa} {bl : List Bool} {s : Nat} (h : SoundL d bl) (hs : s < d.rows.length) (hi : isL d bl s = true) : Live d s := by
  simp only [isL, Bool.or_eq_true, decide_eq_true_eq, List.any_eq_true, isT, Bool.and_eq_true] at hi
  rcases hi with hi | ⟨t, ht, h0, hv⟩
  · exact .acc s hs hi
  · exact .step s hs t ht h0 (h _ hv)
theorem sound_set {d : Dfa} {bl : List Bool} {s : Nat} (h : SoundL d bl) (hs : Live d s) : SoundL d (bl.set s true) := by
  intro j hj
  rw [lv_set] at hj
  split at hj
  · rename_i e; rw [← e.1]; exact hs
  · exact h j hj
def falses (bl : List Bool) : Nat := bl.countP (fun b => !b)
theorem falses_set {bl : List Bool} {s : Nat} (hs : s < bl.length) (h : lv bl s = false) : falses (bl.set s true) + 1 = falses bl := by
  rw [lv_eq hs] at h
  unfold falses
  induction bl generalizing s with
  | nil => simp at hs
  | cons b bl ih =>
    cases s with
    | zero => simp only [List.getElem_cons_zero] at h; subst h; simp [List.countP_cons]
    | succ s =>
      simp only [List.getElem_cons_succ] at h
      have := ih (s := s) (by simpa using hs) h
      simp only [List.set_cons_succ, List.countP_cons]
      omega
theorem falses_le (bl : List Bool) : falses bl ≤ bl.length := List.countP_le_length
theorem isL_mono {d : Dfa} {a b : List Bool} (h : ∀ j, lv a j = true → lv b j = true) {s : Nat} (hs : isL d a s = true) : isL d b s = true := by
  simp only [isL, Bool.or_eq_true, decide_eq_true_eq, List.any_eq_true, isT, Bool.and_eq_true] at hs ⊢
  rcases hs with hs | ⟨t, ht, h0, hv⟩
  · exact .inl hs
  · exact .inr ⟨t, ht, h0, h _ hv⟩
theorem lv_of_ent {d : Dfa} {bl : List Bool} (hl : bl.length = d.rows.length) {t : Int} (h1 : t < d.rows.length) (h0 : 0 ≤ t) : ∀ h, bl[t.toNat]'h = lv bl t.toNat := fun h => (lv_eq h).symm
theorem tc_iLive (d : Dfa) (hs : DSm d) (ho : DOk d) (bl0 : List Bool) (h0 : IsLive d bl0) : TC Try.prog 82 [.agg (encDfa d)] [] (.own 4 (bl0.map encB)) [] := by
  have hmost := ho.most
  have hacc := ho.acc
  refine TC.enter Try.func82 rfl (by simp [Try.ntmps82]) rfl (tw_sound (ρ := [1]) ?_)
  rw [Try.ntmps82]
  have k1 : (d.rows.length : Int) ≤ 281474976710656 := by omega
  have k2 : (d.rows.length : Int) ≤ 9223372036854775807 := by omega
  simp [encDfa, k1, k2]
  refine gall_intro fun id hid => ?_
  simp
  refine TWcH.loop [] (fun m s => ∃ (bl : List Bool) (ag : Bool), m = 2 * falses bl + (if ag = true then 1 else 0) ∧ bl.length = d.rows.length ∧ SoundL d bl ∧ (ag = false → ClosedL d bl) ∧ s.σ 1 = .rptr [.ro (d.parts.map encP), .ro (d.rows.map encR), .ro (d.acc.map encI)] 0 ∧ s.σ 3 = .hd id ∧ s.σ 4 = .val (.bool ag) ∧ s.H id = some (.own 4 (bl.map encB))) (2 * falses (List.replicate d.rows.length false) + 1) ⟨List.replicate d.rows.length false, true, by simp, by simp, ?_, by simp, by simp, by simp, by simp, by simp [encB]⟩ ?_
  · intro s hs
    simp [lv, List.getElem?_replicate] at hs
    split at hs <;> simp at hs
  rintro m ⟨σ, H⟩ ⟨bl, ag, rfl, hbl, hso, hcl, g1, g3, g4, gH⟩
  simp only at g1 g3 g4 gH
  cases ag
  case false =>
    simp [g1, g3, g4, gH]
    rw [isLive_uniq (isLive_of hbl hso (hcl rfl)) h0]
  simp [g1, g3, g4, gH]
  refine TWcH.loop [] (fun m s => ∃ (i : Nat) (b2 : List Bool) (a2 : Bool), i + m = d.rows.length ∧ b2.length = d.rows.length ∧ SoundL d b2 ∧ (a2 = false → b2 = bl ∧ ∀ j, j < i → isL d bl j = true → lv bl j = true) ∧ (a2 = true → falses b2 < falses bl) ∧ s.σ 1 = .rptr [.ro (d.parts.map encP), .ro (d.rows.map encR), .ro (d.acc.map encI)] 0 ∧ s.σ 3 = .hd id ∧ s.σ 4 = .val (.bool a2) ∧ s.H id = some (.own 4 (b2.map encB)) ∧ s.σ 16 = .ro (d.rows.map encR) ∧ s.σ 17 = .val (.int .i64 d.rows.length) ∧ s.σ 18 = .val (.int .i64 i)) d.rows.length ⟨0, bl, false, by simp [g1, g3, g4, gH, hbl, hso]⟩ ?_
  rintro m ⟨σ, H⟩ ⟨i, b2, a2, him, hb2, hso2, hf2, ht2, f1, f3, f4, fH, f16, f17, f18⟩
  simp only at f1 f3 f4 fH f16 f17 f18
  by_cases hi : i < d.rows.length
  · have hw : IntKind.i64.wrap ((i : Int) + 1) = i + 1 := wrapi (by omega)
    have hia : i < d.acc.length := by omega
    have hpi : ∀ h, d.rows[i]'h = rw_ d i := fun _ => (rw_eq hi).symm
    have hpa : ∀ h, d.acc[i]'h = ac_ d i := fun _ => (ac_eq hia).symm
    have hrl : (rw_ d i).length ≤ 1048576 := by rw [rw_eq hi]; exact hs.row _ (List.getElem_mem hi)
    simp [f1, f3, f4, fH, f16, f17, f18, hi, hpi, encR, hia, hpa, encI]
    refine TWcH.loop [] (fun m' s => ∃ (k : Nat) (q : Bool), k + m' = (rw_ d i).length ∧ s.σ 1 = .rptr [.ro (d.parts.map encP), .ro (d.rows.map encR), .ro (d.acc.map encI)] 0 ∧ s.σ 3 = .hd id ∧ s.σ 4 = .val (.bool a2) ∧ s.H id = some (.own 4 (b2.map encB)) ∧ s.σ 16 = .ro (d.rows.map encR) ∧ s.σ 17 = .val (.int .i64 d.rows.length) ∧ s.σ 18 = .val (.int .i64 i) ∧ s.σ 5 = .val (.int .i64 i) ∧ s.σ 7 = .val (.bool q) ∧ s.σ 29 = .ro ((rw_ d i).map encI) ∧ s.σ 30 = .val (.int .i64 (rw_ d i).length) ∧ s.σ 31 = .val (.int .i64 k) ∧ isL d b2 i = (q || ((rw_ d i).drop k).any (isT b2))) (rw_ d i).length ⟨0, decide (0 ≤ ac_ d i), by simp [f1, f3, f4, fH, f16, f17, f18, isL, encR, encI]⟩ ?_
    rintro m' ⟨σ, H⟩ ⟨k, q, hkm, e1, e3, e4, eH, e16, e17, e18, e5, e7, e29, e30, e31, ee⟩
    simp only at e1 e3 e4 eH e16 e17 e18 e5 e7 e29 e30 e31
    by_cases hk : k < (rw_ d i).length
    · have hwk : IntKind.i64.wrap ((k : Int) + 1) = k + 1 := wrapi (by omega)
      obtain ⟨t1, t2⟩ := ho.ent i hi _ (List.getElem_mem hk)
      rw [any_drop hk] at ee
      obtain ⟨t, hat⟩ : ∃ t, ∀ h, (rw_ d i)[k]'h = t := ⟨(rw_ d i)[k]'hk, fun _ => rfl⟩
      rw [hat] at t1 t2 ee
      cases q
      case true =>
        simp [e1, e3, e4, eH, e16, e17, e18, e5, e7, e29, e30, e31, hk, encI, hat, hwk]
        exact ⟨m' - 1, by omega, k + 1, by omega, by omega, by rw [ee]; simp⟩
      by_cases ht : 0 ≤ t
      · have hlt : t < b2.length := by omega
        have hltn : t.toNat < b2.length := by omega
        have hlv : ∀ h, b2[t.toNat]'h = lv b2 t.toNat := fun h => (lv_eq h).symm
        simp [e1, e3, e4, eH, e16, e17, e18, e5, e7, e29, e30, e31, hk, encI, hat, hwk, ht, hlt, hltn, encB, hlv]
        exact ⟨m' - 1, by omega, k + 1, by omega, by omega, by rw [ee]; simp [isT, ht]⟩
      · simp [e1, e3, e4, eH, e16, e17, e18, e5, e7, e29, e30, e31, hk, encI, hat, hwk, ht]
        exact ⟨m' - 1, by omega, k + 1, by omega, by omega, by rw [ee]; simp [isT, ht]⟩
    · obtain rfl : k = (rw_ d i).length := by omega
      simp only [List.drop_length, List.any_nil, Bool.or_false] at ee
      have hib : i < b2.length := by omega
      have hlv : ∀ h, b2[i]'h = lv b2 i := fun h => (lv_eq h).symm
      cases q
      case false =>
        simp [e1, e3, e4, eH, e16, e17, e18, e5, e7, e29, e30, e31, hw]
        refine ⟨m - 1, by omega, i + 1, by omega, b2, hb2, hso2, ?_⟩
        cases a2
        case true => exact .inr ⟨ht2 rfl, rfl, rfl, by omega⟩
        left
        obtain ⟨h1, h2⟩ := hf2 rfl
        refine ⟨⟨h1, fun j hj hl => ?_⟩, rfl, rfl, by omega⟩
        by_cases e : j = i
        · subst e; rw [← h1, ee] at hl; cases hl
        · exact h2 j (by omega) hl
      cases hq : lv b2 i
      case true =>
        simp [e1, e3, e4, eH, e16, e17, e18, e5, e7, e29, e30, e31, hw, hib, encB, hlv, hq]
        refine ⟨m - 1, by omega, i + 1, by omega, b2, hb2, hso2, ?_⟩
        cases a2
        case true => exact .inr ⟨ht2 rfl, rfl, rfl, by omega⟩
        left
        obtain ⟨h1, h2⟩ := hf2 rfl
        refine ⟨⟨h1, fun j hj hl => ?_⟩, rfl, rfl, by omega⟩
        by_cases e : j = i
        · subst e; rw [← h1]; exact hq
        · exact h2 j (by omega) hl
      simp [e1, e3, e4, eH, e16, e17, e18, e5, e7, e29, e30, e31, hw, hib, encB, hlv, hq]
      have hfs := falses_set hib hq
      refine ⟨m - 1, by omega, i + 1, by omega, b2.set i true, by simp [hb2], sound_set hso2 (sound_step hso2 hi ee), ?_, ?_, by omega⟩
      · cases a2
        · obtain ⟨h1, h2⟩ := hf2 rfl
          rw [h1] at hfs ⊢; omega
        · have := ht2 rfl; omega
      · rw [List.map_set]; simp [encB]
  · obtain rfl : i = d.rows.length := by omega
    simp [f1, f3, f4, fH, f16, f17, f18]
    cases a2
    · obtain ⟨h1, h2⟩ := hf2 rfl
      subst h1
      exact ⟨2 * falses b2, by omega, b2, .inl ⟨rfl, hb2, hso2, h2, rfl, rfl⟩⟩
    · have := ht2 rfl
      exact ⟨2 * falses b2 + 1, by omega, b2, .inr ⟨rfl, hb2, hso2, rfl, rfl⟩⟩
theorem set_lv {bl : List Bool} {s : Nat} {x : Bool} (h : s < bl.length) : lv (bl.set s x) s = x := by simp [lv_set, h]
theorem set_id {bl : List Bool} {s : Nat} (h : s < bl.length) : bl.set s (lv bl s) = bl := by rw [lv_eq h]; simp
theorem tc_sLive (d : Dfa) (hs : DSm d) (ho : DOk d) (bl0 : List Bool) (h0 : IsLive d bl0) : TC Try.prog 81 [.agg (encDfa d)] [] (.own 4 (bl0.map encB)) [] := by
  have hmost := ho.most
  have hacc := ho.acc
  refine TC.enter Try.func81 rfl (by simp [Try.ntmps81]) rfl (tw_sound (ρ := [1]) ?_)
  rw [Try.ntmps81]
  have k1 : (d.rows.length : Int) ≤ 281474976710656 := by omega
  have k2 : (d.rows.length : Int) ≤ 9223372036854775807 := by omega
  simp [encDfa, k1, k2]
  refine gall_intro fun id hid => ?_
  simp
  refine TWcH.loop [] (fun m s => ∃ (r : Nat) (bl : List Bool), m + r = d.rows.length + 1 ∧ bl.length = d.rows.length ∧ SoundL d bl ∧ (ClosedL d bl ∨ falses bl + r ≤ d.rows.length) ∧ s.σ 1 = .rptr [.ro (d.parts.map encP), .ro (d.rows.map encR), .ro (d.acc.map encI)] 0 ∧ s.σ 3 = .hd id ∧ s.σ 4 = .val (.int .i64 r) ∧ s.H id = some (.own 4 (bl.map encB))) (d.rows.length + 1) ⟨0, List.replicate d.rows.length false, by simp, by simp, ?_, ?_, by simp, by simp, by simp, by simp [encB]⟩ ?_
  · intro s hs
    simp [lv, List.getElem?_replicate] at hs
    split at hs <;> simp at hs
  · right; have := falses_le (List.replicate d.rows.length false); simpa using this
  rintro m ⟨σ, H⟩ ⟨r, bl, hmr, hbl, hso, hcl, g1, g3, g4, gH⟩
  simp only at g1 g3 g4 gH
  by_cases hr : r ≤ d.rows.length
  case neg =>
    have hr2 : ¬ (r : Int) ≤ d.rows.length := by omega
    simp [g1, g3, g4, gH, hr, hr2]
    rw [isLive_uniq (isLive_of hbl hso (hcl.resolve_right (by omega))) h0]
  have hwr : IntKind.i64.wrap ((r : Int) + 1) = r + 1 := wrapi (by omega)
  simp [g1, g3, g4, gH, hr]
  refine TWcH.loop [] (fun m' s => ∃ (i : Nat) (b2 : List Bool), i + m' = d.rows.length ∧ b2.length = d.rows.length ∧ SoundL d b2 ∧ ((b2 = bl ∧ ∀ j, j < i → isL d bl j = true → lv bl j = true) ∨ (falses b2 < falses bl ∧ ¬ ClosedL d bl)) ∧ s.σ 1 = .rptr [.ro (d.parts.map encP), .ro (d.rows.map encR), .ro (d.acc.map encI)] 0 ∧ s.σ 3 = .hd id ∧ s.σ 4 = .val (.int .i64 r) ∧ s.H id = some (.own 4 (b2.map encB)) ∧ s.σ 5 = .val (.int .i64 i)) d.rows.length ⟨0, bl, by simp [g1, g3, g4, gH, hbl, hso]⟩ ?_
  rintro m' ⟨σ, H⟩ ⟨i, b2, him, hb2, hso2, hf2, f1, f3, f4, fH, f5⟩
  simp only at f1 f3 f4 fH f5
  by_cases hi : i < d.rows.length
  · have hw : IntKind.i64.wrap ((i : Int) + 1) = i + 1 := wrapi (by omega)
    have hia : i < d.acc.length := by omega
    have hib : i < b2.length := by omega
    have hpi : ∀ h, d.rows[i]'h = rw_ d i := fun _ => (rw_eq hi).symm
    have hpa : ∀ h, d.acc[i]'h = ac_ d i := fun _ => (ac_eq hia).symm
    have hlv : ∀ h, b2[i]'h = lv b2 i := fun h => (lv_eq h).symm
    have hrl : (rw_ d i).length ≤ 1048576 := by rw [rw_eq hi]; exact hs.row _ (List.getElem_mem hi)
    have main : ∀ q : Bool, q = (lv b2 i || decide (0 ≤ ac_ d i)) → ∀ s : St, s.σ 1 = .rptr [.ro (d.parts.map encP), .ro (d.rows.map encR), .ro (d.acc.map encI)] 0 → s.σ 3 = .hd id → s.σ 4 = .val (.int .i64 r) → s.H id = some (.own 4 ((b2.set i q).map encB)) → s.σ 5 = .val (.int .i64 i) → s.σ 6 = .val (.int .i64 0) →
        ∃ (k : Nat) (q' : Bool), k + (rw_ d i).length = (rw_ d i).length ∧ s.σ 1 = .rptr [.ro (d.parts.map encP), .ro (d.rows.map encR), .ro (d.acc.map encI)] 0 ∧ s.σ 3 = .hd id ∧ s.σ 4 = .val (.int .i64 r) ∧ s.H id = some (.own 4 ((b2.set i q').map encB)) ∧ s.σ 5 = .val (.int .i64 i) ∧ s.σ 6 = .val (.int .i64 k) ∧ (lv b2 i = true → q' = true) ∧ (lv b2 i || isL d b2 i) = (q' || ((rw_ d i).drop k).any (isT b2)) := by
      intro q hq s a1 a3 a4 aH a5 a6
      exact ⟨0, q, by simp, a1, a3, a4, aH, a5, a6, fun h => by rw [hq, h]; rfl, by rw [hq]; simp [isL, Bool.or_assoc]⟩
    cases hq0 : lv b2 i
    case true =>
      simp [f1, f3, f4, fH, f5, hi, hib, hpi, encR, hia, hpa, encI, hlv, encB, hq0]
      refine TWcH.loop [] (fun m'' s => ∃ (k : Nat) (q' : Bool), k + m'' = (rw_ d i).length ∧ s.σ 1 = .rptr [.ro (d.parts.map encP), .ro (d.rows.map encR), .ro (d.acc.map encI)] 0 ∧ s.σ 3 = .hd id ∧ s.σ 4 = .val (.int .i64 r) ∧ s.H id = some (.own 4 ((b2.set i q').map encB)) ∧ s.σ 5 = .val (.int .i64 i) ∧ s.σ 6 = .val (.int .i64 k) ∧ (lv b2 i = true → q' = true) ∧ (lv b2 i || isL d b2 i) = (q' || ((rw_ d i).drop k).any (isT b2))) (rw_ d i).length (main true (by simp [hq0]) _ (by simp [f1]) (by simp [f3]) (by simp [f4]) (by simp [encB, List.map_set]) (by simp [f5]) (by simp)) ?_
      rintro m'' ⟨σ, H⟩ ⟨k, q, hkm, e1, e3, e4, eH, e5, e6, eq, ee⟩
      simp only at e1 e3 e4 eH e5 e6
      have hbs : (b2.set i q).length = d.rows.length := by simp [hb2]
      by_cases hk : k < (rw_ d i).length
      · have hwk : IntKind.i64.wrap ((k : Int) + 1) = k + 1 := wrapi (by omega)
        obtain ⟨t1, t2⟩ := ho.ent i hi _ (List.getElem_mem hk)
        rw [any_drop hk] at ee
        obtain ⟨t, hat⟩ : ∃ t, ∀ h, (rw_ d i)[k]'h = t := ⟨(rw_ d i)[k]'hk, fun _ => rfl⟩
        rw [hat] at t1 t2 ee
        have hlq : ∀ h, (b2.set i q)[i]'h = q := fun h => by simp
        have hset : ∀ x, (b2.set i q).set i x = b2.set i x := fun x => by simp
        generalize hB : b2.set i q = B at eH hbs hlq hset
        have hiB : i < B.length := by omega
        have hsetM : ∀ x : Bool, (B.map encB).set i [TV.val (.bool x)] = (b2.map encB).set i [TV.val (.bool x)] := fun x => by
          have := congrArg (List.map encB) (hset x)
          simpa [List.map_set, encB] using this
        by_cases ht : 0 ≤ t
        · have hlt : t < B.length := by omega
          have hltn : t.toNat < B.length := by omega
          have hlvB : ∀ h, B[t.toNat]'h = lv B t.toNat := fun h => (lv_eq h).symm
          have hval : (q || isT b2 t) = (q || lv B t.toNat) := by
            rw [← hB, lv_set]
            by_cases e : i = t.toNat
            · rw [if_pos ⟨e, hib⟩]
              have : isT b2 t = true → q = true := by
                intro h; simp only [isT, Bool.and_eq_true] at h; rw [← e] at h; exact eq h.2
              cases q <;> simp_all
            · rw [if_neg (by intro h; exact e h.1)]; simp [isT, ht]
          rw [← Bool.or_assoc, hval] at ee
          cases q
          case true =>
            simp [-Bool.exists_bool, e1, e3, e4, eH, e5, e6, hi, hpi, hk, encR, encI, encB, hat, hwk, ht, hlt, hltn, hlvB, hiB, hlq]
            refine ⟨m'' - 1, by omega, k + 1, by omega, true, hsetM true, by omega, ?_⟩
            first | exact ⟨fun h => by first | rfl | (have := eq h; cases this), by rw [ee]; simp⟩ | exact ⟨eq, by rw [ee]; simp⟩ | (rw [ee]; simp)
          case false =>
            simp [-Bool.exists_bool, e1, e3, e4, eH, e5, e6, hi, hpi, hk, encR, encI, encB, hat, hwk, ht, hlt, hltn, hlvB, hiB, hlq]
            refine ⟨m'' - 1, by omega, k + 1, by omega, (lv B t.toNat), hsetM (lv B t.toNat), by omega, ?_⟩
            first | exact ⟨fun h => by first | rfl | (have := eq h; cases this), by rw [ee]; simp⟩ | exact ⟨eq, by rw [ee]; simp⟩ | (rw [ee]; simp)
        · have hT : isT b2 t = false := by simp [isT, ht]
          rw [hT, Bool.false_or] at ee
          cases q
          case true =>
            simp [-Bool.exists_bool, e1, e3, e4, eH, e5, e6, hi, hpi, hk, encR, encI, encB, hat, hwk, ht, hiB, hlq]
            refine ⟨m'' - 1, by omega, k + 1, by omega, true, hsetM true, by omega, ?_⟩
            first | exact ⟨fun h => by first | rfl | (have := eq h; cases this), by rw [ee]; simp⟩ | exact ⟨eq, by rw [ee]; simp⟩ | (rw [ee]; simp)
          case false =>
            simp [-Bool.exists_bool, e1, e3, e4, eH, e5, e6, hi, hpi, hk, encR, encI, encB, hat, hwk, ht, hiB, hlq]
            refine ⟨m'' - 1, by omega, k + 1, by omega, false, hsetM false, by omega, ?_⟩
            exact ⟨by simpa using eq, by rw [ee]⟩
      · obtain rfl : k = (rw_ d i).length := by omega
        simp only [List.drop_length, List.any_nil, Bool.or_false] at ee
        simp [e1, e3, e4, eH, e5, e6, hi, hpi, encR, hw]
        have hb : b2.set i q = b2 := by
          have : q = lv b2 i := by rw [← ee, hq0]; simp
          rw [this, set_id hib]
        refine ⟨m' - 1, by omega, i + 1, by omega, b2.set i q, by simp [hb2], ?_, ?_, by simp, by omega⟩
        · rw [hb]; exact hso2
        · rw [hb]
          rcases hf2 with ⟨h1, h2⟩ | h
          · left
            refine ⟨h1, fun j hj hl => ?_⟩
            by_cases e : j = i
            · subst e; rw [← h1]; exact hq0
            · exact h2 j (by omega) hl
          · exact .inr h
    case false =>
      simp [f1, f3, f4, fH, f5, hi, hib, hpi, encR, hia, hpa, encI, hlv, encB, hq0]
      refine TWcH.loop [] (fun m'' s => ∃ (k : Nat) (q' : Bool), k + m'' = (rw_ d i).length ∧ s.σ 1 = .rptr [.ro (d.parts.map encP), .ro (d.rows.map encR), .ro (d.acc.map encI)] 0 ∧ s.σ 3 = .hd id ∧ s.σ 4 = .val (.int .i64 r) ∧ s.H id = some (.own 4 ((b2.set i q').map encB)) ∧ s.σ 5 = .val (.int .i64 i) ∧ s.σ 6 = .val (.int .i64 k) ∧ (lv b2 i = true → q' = true) ∧ (lv b2 i || isL d b2 i) = (q' || ((rw_ d i).drop k).any (isT b2))) (rw_ d i).length (main (decide (0 ≤ ac_ d i)) (by simp [hq0]) _ (by simp [f1]) (by simp [f3]) (by simp [f4]) (by simp [encB, List.map_set]) (by simp [f5]) (by simp)) ?_
      rintro m'' ⟨σ, H⟩ ⟨k, q, hkm, e1, e3, e4, eH, e5, e6, eq, ee⟩
      simp only at e1 e3 e4 eH e5 e6
      have hbs : (b2.set i q).length = d.rows.length := by simp [hb2]
      by_cases hk : k < (rw_ d i).length
      · have hwk : IntKind.i64.wrap ((k : Int) + 1) = k + 1 := wrapi (by omega)
        obtain ⟨t1, t2⟩ := ho.ent i hi _ (List.getElem_mem hk)
        rw [any_drop hk] at ee
        obtain ⟨t, hat⟩ : ∃ t, ∀ h, (rw_ d i)[k]'h = t := ⟨(rw_ d i)[k]'hk, fun _ => rfl⟩
        rw [hat] at t1 t2 ee
        have hlq : ∀ h, (b2.set i q)[i]'h = q := fun h => by simp
        have hset : ∀ x, (b2.set i q).set i x = b2.set i x := fun x => by simp
        generalize hB : b2.set i q = B at eH hbs hlq hset
        have hiB : i < B.length := by omega
        have hsetM : ∀ x : Bool, (B.map encB).set i [TV.val (.bool x)] = (b2.map encB).set i [TV.val (.bool x)] := fun x => by
          have := congrArg (List.map encB) (hset x)
          simpa [List.map_set, encB] using this
        by_cases ht : 0 ≤ t
        · have hlt : t < B.length := by omega
          have hltn : t.toNat < B.length := by omega
          have hlvB : ∀ h, B[t.toNat]'h = lv B t.toNat := fun h => (lv_eq h).symm
          have hval : (q || isT b2 t) = (q || lv B t.toNat) := by
            rw [← hB, lv_set]
            by_cases e : i = t.toNat
            · rw [if_pos ⟨e, hib⟩]
              have : isT b2 t = true → q = true := by
                intro h; simp only [isT, Bool.and_eq_true] at h; rw [← e] at h; exact eq h.2
              cases q <;> simp_all
            · rw [if_neg (by intro h; exact e h.1)]; simp [isT, ht]
          rw [← Bool.or_assoc, hval] at ee
          cases q
          case true =>
            simp [-Bool.exists_bool, e1, e3, e4, eH, e5, e6, hi, hpi, hk, encR, encI, encB, hat, hwk, ht, hlt, hltn, hlvB, hiB, hlq]
            refine ⟨m'' - 1, by omega, k + 1, by omega, true, hsetM true, by omega, ?_⟩
            first | exact ⟨fun h => by first | rfl | (have := eq h; cases this), by rw [ee]; simp⟩ | exact ⟨eq, by rw [ee]; simp⟩ | (rw [ee]; simp)
          case false =>
            simp [-Bool.exists_bool, e1, e3, e4, eH, e5, e6, hi, hpi, hk, encR, encI, encB, hat, hwk, ht, hlt, hltn, hlvB, hiB, hlq]
            refine ⟨m'' - 1, by omega, k + 1, by omega, (lv B t.toNat), hsetM (lv B t.toNat), by omega, ?_⟩
            first | exact ⟨fun h => by first | rfl | (have := eq h; cases this), by rw [ee]; simp⟩ | exact ⟨eq, by rw [ee]; simp⟩ | (rw [ee]; simp)
        · have hT : isT b2 t = false := by simp [isT, ht]
          rw [hT, Bool.false_or] at ee
          cases q
          case true =>
            simp [-Bool.exists_bool, e1, e3, e4, eH, e5, e6, hi, hpi, hk, encR, encI, encB, hat, hwk, ht, hiB, hlq]
            refine ⟨m'' - 1, by omega, k + 1, by omega, true, hsetM true, by omega, ?_⟩
            first | exact ⟨fun h => by first | rfl | (have := eq h; cases this), by rw [ee]; simp⟩ | exact ⟨eq, by rw [ee]; simp⟩ | (rw [ee]; simp)
          case false =>
            simp [-Bool.exists_bool, e1, e3, e4, eH, e5, e6, hi, hpi, hk, encR, encI, encB, hat, hwk, ht, hiB, hlq]
            refine ⟨m'' - 1, by omega, k + 1, by omega, false, hsetM false, by omega, ?_⟩
            exact ⟨by simpa using eq, by rw [ee]⟩
      · obtain rfl : k = (rw_ d i).length := by omega
        simp only [List.drop_length, List.any_nil, Bool.or_false] at ee
        simp [e1, e3, e4, eH, e5, e6, hi, hpi, encR, hw]
        rw [hq0, Bool.false_or] at ee
        refine ⟨m' - 1, by omega, i + 1, by omega, b2.set i q, by simp [hb2], ?_, ?_, by simp, by omega⟩
        · rw [← ee]
          cases hl : isL d b2 i
          · have hb : b2.set i false = b2 := by have := set_id hib; rwa [hq0] at this
            rw [hb]; exact hso2
          · exact sound_set hso2 (sound_step hso2 hi hl)
        · rw [← ee]
          cases hl : isL d b2 i
          · have hb : b2.set i false = b2 := by have := set_id hib; rwa [hq0] at this
            rw [hb]
            rcases hf2 with ⟨h1, h2⟩ | h
            · left
              refine ⟨h1, fun j hj hl' => ?_⟩
              by_cases e : j = i
              · subst e; rw [← h1, hl] at hl'; cases hl'
              · exact h2 j (by omega) hl'
            · exact .inr h
          · right
            have hfs := falses_set hib hq0
            rcases hf2 with ⟨h1, h2⟩ | ⟨h1, h2⟩
            · rw [h1] at hfs hl hq0 ⊢
              refine ⟨by omega, fun hc => ?_⟩
              have := hc i hi hl
              rw [hq0] at this; cases this
            · exact ⟨by omega, h2⟩
  · obtain rfl : i = d.rows.length := by omega
    simp [f1, f3, f4, fH, f5, hwr]
    refine ⟨m - 1, by omega, r + 1, by omega, b2, hb2, hso2, ?_, by omega, rfl⟩
    rcases hf2 with ⟨h1, h2⟩ | ⟨h1, h2⟩
    · left; rw [h1]; exact h2
    · right
      rcases hcl with h | h
      · exact absurd h h2
      · omega
end Go.Proofs.Ytigmibfacllhmaa.R
