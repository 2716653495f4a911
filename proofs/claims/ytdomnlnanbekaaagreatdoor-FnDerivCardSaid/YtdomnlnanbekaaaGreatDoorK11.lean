/- Part 11: what the walk of the code stands on. Conditions: none but those that each theorem states. -/
import Derived.Test.YtdomnlnanbekaaaGreatDoorK10
open Go Go.Proofs.YtdomnlnanbekaaaGreatDoor.T
namespace Go.Proofs.YtdomnlnanbekaaaGreatDoor.R
set_option maxHeartbeats 16000000
set_option maxRecDepth 100000
set_option linter.unusedSimpArgs false
set_option linter.unusedVariables false
attribute [local simp] bsV bsRows chunk fillT partsT appV makeV rowsOf cellsOf placeOf
theorem deriv_law {r : Rex} {b : Int} {c : UInt8} {t : List UInt8} (hr : rexOk r = true) (hb : (c.toNat : Int) = b) (hd : rexOk (dBy r b) = true) (ht : t.length < 12) : matchIs (dBy r b) t = matchIs r (c :: t) := by
  have hc : c.toNat < 256 := c.toNat_lt
  have hc1 : rexOk r = true ∧ 0 ≤ b ∧ b ≤ 255 := ⟨hr, by omega, by omega⟩
  have e : dBy r b = (byX (normX (rxOf r)) b).rex := if_pos hc1
  obtain ⟨h1, h2, h3⟩ := rxOf_of hr
  have hn := normX_ok h2
  unfold matchIs
  rw [hd, hr, show decide (t.length ≤ 12) = true from decide_eq_true (by omega), show decide ((c :: t).length ≤ 12) = true from decide_eq_true (by simp; omega)]
  simp only [Bool.true_and]
  rw [Bool.eq_iff_iff]
  have f1 : formF 8 (dBy r b) = true := by simp only [rexOk, Bool.and_eq_true] at hd; exact hd.1
  have f2 : formF 8 r = true := by simp only [rexOk, Bool.and_eq_true] at hr; exact hr.1
  rw [e] at f1 ⊢
  have f2' := f2
  rw [← h1] at f2'
  rw [isF_iff _ 8 f1, ← hb, by_iff _ hn.1, norm_iff _ h2]
  conv => rhs; rw [← h1]
  exact (isF_iff _ 8 f2' (c :: t)).symm
theorem tc_FnDeriv (b1 b2 : List UInt8) : TC Tryz.prog 6 [.ro (b1.map encU), .ro (b2.map encU)] [] (.val (.bool true)) [] := by
  refine TC.enter Tryz.func6 rfl (by simp [Tryz.ntmps6]) rfl (tw_sound (ρ := [65]) ?_)
  rw [Tryz.ntmps6]
  by_cases hb1 : (1048576 : Int) < b1.length
  · simp [hb1]
  by_cases hb2 : (1048576 : Int) < b2.length
  · simp [hb1, hb2]
  simp [hb1, hb2]
  refine TWoH.callR (tcr_DrawDerivBy b1 (by omega)) callable_29 (by simp) ?_
  rintro r o ⟨x, i, rfl, hx, hi, rfl⟩
  refine ⟨rfl, by simp, .inl (by simp), fun q' hq => ?_⟩
  clear hq
  simp
  refine gall_intro fun c5 g5 => ?_
  clear g5
  simp
  refine TWoH.callV (tc_iDerivBy x i hx) callable_30 (by simp) (by simp) (by simp) (by simp) ?_
  simp
  refine gall_fresh [c5] (by simp) fun c7 f7 => ?_
  simp [frF] at f7
  have hd := dBy_Sm x i
  have tsame := tc_iRexSame (dBy x i) (dBy x i) hd hd
  have hbp : bP (dBy x i = dBy x i) = true := by simp [bP]
  rw [hbp] at tsame
  simp [f7]
  refine TWcH.regionD (ρ := [65]) [0, 1, 2, 3, 4, 5] 6 mixed (by kernel_rfl) ?_
  simp [f7]
  refine TWqH.callV (tc_sDerivBy x i hx) callable_32 (by simp) (by simp) (by simp) (by simp) ?_
  simp [f7]
  refine TWqH.callV tsame callable_31 (by simp) (by simp) (by simp) (by simp) ?_
  simp [f7]
  refine TWoH.callV (tc_sRexOk x hx) callable_33 (by simp) (by simp) (by simp) (by simp) ?_
  by_cases hg : rexOk x = true ∧ 0 ≤ i ∧ i ≤ 255
  case neg =>
    have e : dBy x i = rex0 := if_neg hg
    rw [e]
    by_cases c2 : rexOk x = true
    · by_cases c3 : i < 0
      · simp [f7, c2, c3, enc0]
      · have c4 : 255 < i := by
          rcases Int.lt_or_le 255 i with h | h
          · exact h
          · exact absurd ⟨c2, by omega, h⟩ hg
        simp [f7, c2, c3, c4, enc0]
    · simp [f7, c2, enc0]
  obtain ⟨g1, g2, g3⟩ := hg
  have q1 : ¬ i < 0 := by omega
  have q2 : ¬ 255 < i := by omega
  simp [f7, g1, q1, q2]
  refine TWoH.callR (tcr_DrawMatchIs b2 (by omega)) callable_16 (by simp) ?_
  rintro r o ⟨y, w, rfl, hy, hw, rfl⟩
  refine ⟨rfl, by simp, .inl (by simp), fun q' hq => ?_⟩
  clear hq
  simp [f7]
  refine gall_fresh [c5, c7] (by simp [f7]) fun c8 f8 => ?_
  simp [frF] at f8
  simp [f7, f8]
  refine TWoH.callV (tc_iRexOk (dBy x i) hd) callable_34 (by simp) (by simp) (by simp) (by simp) ?_
  by_cases o1 : rexOk (dBy x i) = true
  case neg => simp [f7, f8, o1]
  by_cases o2 : (12 : Int) ≤ w.length
  · simp [f7, f8, o1, o2]
  have o3 : w.length < 12 := by omega
  obtain ⟨c, hc⟩ : ∃ c : UInt8, (c.toNat : Int) = i := ⟨UInt8.ofNat i.toNat, by simp; omega⟩
  have t1 := tc_iMatchIs (dBy x i) w hd
  have t2 := tc_iMatchIs x (c :: w) hx
  rw [deriv_law g1 hc o1 o3] at t1
  have hwr : IntKind.u8.wrap i = i := by
    have e1 : IntKind.u8.signed = false := rfl
    have e2 : IntKind.u8.bits = 8 := rfl
    unfold IntKind.wrap
    simp [e1, e2]
    omega
  have k1 : ¬ (9223372036854775807 : Int) < 1 + w.length := by omega
  simp [f7, f8, o1, o2]
  refine TWcH.regionB (ρ := [65]) (.first 1 (.first 4 (.first 8 (.pick 0 (.pick 2 (.pick 3 (.pick 5 (.pick 6 (.pick 7 (.first 9 (.pick 10 (.first 11 (.first 12 .fin)) .fin)) .fin) .fin) .fin) (.pick 5 (.pick 3 (.pick 6 (.pick 7 (.first 9 (.pick 10 (.first 11 (.first 12 .fin)) .fin)) .fin) .fin) (.pick 6 (.pick 3 (.pick 7 (.first 9 (.pick 10 (.first 11 (.first 12 .fin)) .fin)) .fin) (.pick 7 (.first 9 (.pick 3 (.pick 10 (.first 11 (.first 12 .fin)) .fin) .fin)) .fin)) .fin)) .fin)) (.pick 3 (.pick 2 (.pick 5 (.pick 6 (.pick 7 (.first 9 (.pick 10 (.first 11 (.first 12 .fin)) .fin)) .fin) .fin) .fin) (.pick 5 (.pick 2 (.pick 6 (.pick 7 (.first 9 (.pick 10 (.first 11 (.first 12 .fin)) .fin)) .fin) .fin) (.pick 6 (.pick 2 (.pick 7 (.first 9 (.pick 10 (.first 11 (.first 12 .fin)) .fin)) .fin) (.pick 7 (.first 9 (.pick 2 (.pick 10 (.first 11 (.first 12 .fin)) .fin) .fin)) .fin)) .fin)) .fin)) (.pick 5 (.pick 2 (.pick 3 (.pick 6 (.pick 7 (.first 9 (.pick 10 (.first 11 (.first 12 .fin)) .fin)) .fin) .fin) (.pick 6 (.pick 3 (.pick 7 (.first 9 (.pick 10 (.first 11 (.first 12 .fin)) .fin)) .fin) (.pick 7 (.first 9 (.pick 3 (.pick 10 (.first 11 (.first 12 .fin)) .fin) .fin)) .fin)) .fin)) (.pick 3 (.pick 2 (.pick 6 (.pick 7 (.first 9 (.pick 10 (.first 11 (.first 12 .fin)) .fin)) .fin) .fin) (.pick 6 (.pick 2 (.pick 7 (.first 9 (.pick 10 (.first 11 (.first 12 .fin)) .fin)) .fin) (.pick 7 (.first 9 (.pick 2 (.pick 10 (.first 11 (.first 12 .fin)) .fin) .fin)) .fin)) .fin)) (.pick 6 (.pick 2 (.pick 3 (.pick 7 (.first 9 (.pick 10 (.first 11 (.first 12 .fin)) .fin)) .fin) (.pick 7 (.first 9 (.pick 3 (.pick 10 (.first 11 (.first 12 .fin)) .fin) .fin)) .fin)) (.pick 3 (.pick 2 (.pick 7 (.first 9 (.pick 10 (.first 11 (.first 12 .fin)) .fin)) .fin) (.pick 7 (.first 9 (.pick 2 (.pick 10 (.first 11 (.first 12 .fin)) .fin) .fin)) .fin)) (.pick 7 (.first 9 (.pick 2 (.pick 3 (.pick 10 (.first 11 (.first 12 .fin)) .fin) .fin) (.pick 3 (.pick 2 (.pick 10 (.first 11 (.first 12 .fin)) .fin) .fin) .fin))) .fin))) .fin))) .fin))) (.pick 3 (.pick 0 (.pick 2 (.pick 5 (.pick 6 (.pick 7 (.first 9 (.pick 10 (.first 11 (.first 12 .fin)) .fin)) .fin) .fin) .fin) (.pick 5 (.pick 2 (.pick 6 (.pick 7 (.first 9 (.pick 10 (.first 11 (.first 12 .fin)) .fin)) .fin) .fin) (.pick 6 (.pick 2 (.pick 7 (.first 9 (.pick 10 (.first 11 (.first 12 .fin)) .fin)) .fin) (.pick 7 (.first 9 (.pick 2 (.pick 10 (.first 11 (.first 12 .fin)) .fin) .fin)) .fin)) .fin)) .fin)) (.pick 5 (.pick 0 (.pick 2 (.pick 6 (.pick 7 (.first 9 (.pick 10 (.first 11 (.first 12 .fin)) .fin)) .fin) .fin) (.pick 6 (.pick 2 (.pick 7 (.first 9 (.pick 10 (.first 11 (.first 12 .fin)) .fin)) .fin) (.pick 7 (.first 9 (.pick 2 (.pick 10 (.first 11 (.first 12 .fin)) .fin) .fin)) .fin)) .fin)) (.pick 6 (.pick 0 (.pick 2 (.pick 7 (.first 9 (.pick 10 (.first 11 (.first 12 .fin)) .fin)) .fin) (.pick 7 (.first 9 (.pick 2 (.pick 10 (.first 11 (.first 12 .fin)) .fin) .fin)) .fin)) (.pick 7 (.first 9 (.pick 0 (.pick 2 (.pick 10 (.first 11 (.first 12 .fin)) .fin) .fin) .fin)) .fin)) .fin)) .fin)) (.pick 5 (.pick 0 (.pick 2 (.pick 3 (.pick 6 (.pick 7 (.first 9 (.pick 10 (.first 11 (.first 12 .fin)) .fin)) .fin) .fin) (.pick 6 (.pick 3 (.pick 7 (.first 9 (.pick 10 (.first 11 (.first 12 .fin)) .fin)) .fin) (.pick 7 (.first 9 (.pick 3 (.pick 10 (.first 11 (.first 12 .fin)) .fin) .fin)) .fin)) .fin)) (.pick 3 (.pick 2 (.pick 6 (.pick 7 (.first 9 (.pick 10 (.first 11 (.first 12 .fin)) .fin)) .fin) .fin) (.pick 6 (.pick 2 (.pick 7 (.first 9 (.pick 10 (.first 11 (.first 12 .fin)) .fin)) .fin) (.pick 7 (.first 9 (.pick 2 (.pick 10 (.first 11 (.first 12 .fin)) .fin) .fin)) .fin)) .fin)) (.pick 6 (.pick 2 (.pick 3 (.pick 7 (.first 9 (.pick 10 (.first 11 (.first 12 .fin)) .fin)) .fin) (.pick 7 (.first 9 (.pick 3 (.pick 10 (.first 11 (.first 12 .fin)) .fin) .fin)) .fin)) (.pick 3 (.pick 2 (.pick 7 (.first 9 (.pick 10 (.first 11 (.first 12 .fin)) .fin)) .fin) (.pick 7 (.first 9 (.pick 2 (.pick 10 (.first 11 (.first 12 .fin)) .fin) .fin)) .fin)) (.pick 7 (.first 9 (.pick 2 (.pick 3 (.pick 10 (.first 11 (.first 12 .fin)) .fin) .fin) (.pick 3 (.pick 2 (.pick 10 (.first 11 (.first 12 .fin)) .fin) .fin) .fin))) .fin))) .fin))) (.pick 3 (.pick 0 (.pick 2 (.pick 6 (.pick 7 (.first 9 (.pick 10 (.first 11 (.first 12 .fin)) .fin)) .fin) .fin) (.pick 6 (.pick 2 (.pick 7 (.first 9 (.pick 10 (.first 11 (.first 12 .fin)) .fin)) .fin) (.pick 7 (.first 9 (.pick 2 (.pick 10 (.first 11 (.first 12 .fin)) .fin) .fin)) .fin)) .fin)) (.pick 6 (.pick 0 (.pick 2 (.pick 7 (.first 9 (.pick 10 (.first 11 (.first 12 .fin)) .fin)) .fin) (.pick 7 (.first 9 (.pick 2 (.pick 10 (.first 11 (.first 12 .fin)) .fin) .fin)) .fin)) (.pick 7 (.first 9 (.pick 0 (.pick 2 (.pick 10 (.first 11 (.first 12 .fin)) .fin) .fin) .fin)) .fin)) .fin)) (.pick 6 (.pick 0 (.pick 2 (.pick 3 (.pick 7 (.first 9 (.pick 10 (.first 11 (.first 12 .fin)) .fin)) .fin) (.pick 7 (.first 9 (.pick 3 (.pick 10 (.first 11 (.first 12 .fin)) .fin) .fin)) .fin)) (.pick 3 (.pick 2 (.pick 7 (.first 9 (.pick 10 (.first 11 (.first 12 .fin)) .fin)) .fin) (.pick 7 (.first 9 (.pick 2 (.pick 10 (.first 11 (.first 12 .fin)) .fin) .fin)) .fin)) (.pick 7 (.first 9 (.pick 2 (.pick 3 (.pick 10 (.first 11 (.first 12 .fin)) .fin) .fin) (.pick 3 (.pick 2 (.pick 10 (.first 11 (.first 12 .fin)) .fin) .fin) .fin))) .fin))) (.pick 3 (.pick 0 (.pick 2 (.pick 7 (.first 9 (.pick 10 (.first 11 (.first 12 .fin)) .fin)) .fin) (.pick 7 (.first 9 (.pick 2 (.pick 10 (.first 11 (.first 12 .fin)) .fin) .fin)) .fin)) (.pick 7 (.first 9 (.pick 0 (.pick 2 (.pick 10 (.first 11 (.first 12 .fin)) .fin) .fin) .fin)) .fin)) (.pick 7 (.first 9 (.pick 0 (.pick 2 (.pick 3 (.pick 10 (.first 11 (.first 12 .fin)) .fin) .fin) (.pick 3 (.pick 2 (.pick 10 (.first 11 (.first 12 .fin)) .fin) .fin) .fin)) (.pick 3 (.pick 0 (.pick 2 (.pick 10 (.first 11 (.first 12 .fin)) .fin) .fin) .fin) .fin))) .fin))) .fin))) .fin)))))) mixed (by kernel_rfl) ?_
  have hci : UInt8.ofNat i.toNat = c := by rw [← hc]; simp
  simp [f7, f8, hwr, hci, k1]
  repeat' first
    | refine And.intro ?_ ?_
    | (refine TWoH.callV t1 callable_18 ?_ (by simp) (by simp) (by simp) ?_
       · simp [hci]; done
       simp [f7, f8, hwr, hci, k1])
    | (refine TWoH.callV t1 callable_18 ?_ (by simp) (by simp) (by simp) ?_
       · simp [hci]; done
       simp [f7, f8, hwr, hci, k1]
       done)
    | (refine TWoH.callV t2 callable_18 ?_ (by simp) (by simp) (by simp) ?_
       · simp [hci]; done
       simp [f7, f8, hwr, hci, k1])
    | (refine TWoH.callV t2 callable_18 ?_ (by simp) (by simp) (by simp) ?_
       · simp [hci]; done
       simp [f7, f8, hwr, hci, k1]
       done)
end Go.Proofs.YtdomnlnanbekaaaGreatDoor.R
