/- Part 8: what the walk of the code stands on. Conditions: none but those that each theorem states. -/
import Derived.Test.YtibeeohnjabhkaaK7
open Go Go.Proofs.Ytibeeohnjabhkaa.T
namespace Go.Proofs.Ytibeeohnjabhkaa.R
set_option maxHeartbeats 8000000
set_option maxRecDepth 100000
set_option linter.unusedSimpArgs false
set_option linter.unusedVariables false
attribute [local simp] bsV bsRows chunk fillT partsT appV makeV rowsOf cellsOf placeOf frzT frz1
theorem tc_FnDfaRun (b b2 : List UInt8) : TC Try.prog 4 [.ro (b.map encU), .ro (b2.map encU)] [] (.val (.bool true)) [] := by
  refine TC.enter Try.func4 rfl (by simp [Try.ntmps4]) rfl (tw_sound (ρ := []) ?_)
  rw [Try.ntmps4]
  by_cases hb0 : (1048576 : Int) < b.length
  · simp [hb0]
  have hb : b.length ≤ 1048576 := by omega
  by_cases hb1 : (1048576 : Int) < b2.length
  · simp [hb0, hb1]
  have hb2 : b2.length ≤ 1048576 := by omega
  simp [hb0, hb1]
  refine TWoH.callR (tcr_DrawDfaRun b hb) callable_15 (by simp) ?_
  rintro r o ⟨d, w, hd, rfl, hw, rfl⟩
  refine ⟨rfl, by simp, .inl (by simp), fun q hq => ?_⟩
  clear hq
  have hs := hd.sm
  have t1 := tc_iDfaRun d hs w (by omega)
  have t2 := tc_sDfaRun d hs w (by omega)
  have t3 := tc_iDfaRule d hs w (by omega)
  have t4 := tc_sDfaRule d hs w (by omega)
  have t5 := tc_iDfaOk d hs
  have t6 := tc_sDfaOk d hs
  simp [encDfa]
  refine gall_intro fun c hc => ?_
  simp [encDfa]
  refine TWoH.callV t1 callable_14 (by simp [encDfa]) (by simp) (by simp) (by simp) ?_
  simp
  refine TWcH.midB (ρ := []) (fun st => st.σ 1 = .ro (b2.map encU) ∧ st.σ 5 = .pd c 0 0 0 ∧ st.H c = some (.box 27 (encDfa d)) ∧ st.σ 6 = .val (.string (bs w)) ∧ st.σ 7 = .val (.int .i64 (runF d w)) ∧ st.σ 47 = .val (.bool false))
    (.first 0 (.first 2 (.pick 1 (.pick 3 (.first 4 (.first 5 (.pick 6 (.pick 7 (.pick 8 (.pick 9 (.first 10 (.first 11 (.first 12 (.first 14 (.first 17 (.pick 13 (.pick 15 (.pick 16 (.pick 18 (.first 19 (.first 20 .fin)) .fin) .fin) (.pick 16 (.pick 15 (.pick 18 (.first 19 (.first 20 .fin)) .fin) .fin) .fin)) (.pick 16 (.pick 13 (.pick 15 (.pick 18 (.first 19 (.first 20 .fin)) .fin) .fin) .fin) .fin))))))) .fin) .fin) (.pick 8 (.pick 7 (.pick 9 (.first 10 (.first 11 (.first 12 (.first 14 (.first 17 (.pick 13 (.pick 15 (.pick 16 (.pick 18 (.first 19 (.first 20 .fin)) .fin) .fin) (.pick 16 (.pick 15 (.pick 18 (.first 19 (.first 20 .fin)) .fin) .fin) .fin)) (.pick 16 (.pick 13 (.pick 15 (.pick 18 (.first 19 (.first 20 .fin)) .fin) .fin) .fin) .fin))))))) .fin) .fin) .fin)) (.pick 8 (.pick 6 (.pick 7 (.pick 9 (.first 10 (.first 11 (.first 12 (.first 14 (.first 17 (.pick 13 (.pick 15 (.pick 16 (.pick 18 (.first 19 (.first 20 .fin)) .fin) .fin) (.pick 16 (.pick 15 (.pick 18 (.first 19 (.first 20 .fin)) .fin) .fin) .fin)) (.pick 16 (.pick 13 (.pick 15 (.pick 18 (.first 19 (.first 20 .fin)) .fin) .fin) .fin) .fin))))))) .fin) .fin) .fin) .fin)))) .fin) .fin))) mixed (by kernel_rfl) ?_ ?_
  case refine_2 =>
    rintro ⟨σ, H⟩ ⟨h1, h5, hC, h6, h7, h47⟩
    simp only at h1 h5 hC h6 h7 h47
    have hr := runF_ok d w
    simp [h1, h5, hC, h6, h7, h47]
    refine TWoH.callV t6 callable_13 (by simp [encDfa, hC]) (by simp) (by simp) (by simp) ?_
    by_cases ok : dfaOk d = true
    case neg =>
      have hm : runF d w = -1 := by unfold runF; rw [if_neg ok]
      simp [h1, h5, hC, h6, h7, ok, hm]
    have ho := dok_of ok
    have hmost := ho.most
    have hone := ho.one
    have hwl : IntKind.i64.wrap ((w.length : Int) + 1) = w.length + 1 := wrapi (by omega)
    have hwz : ¬ (w.length : Int) + 1 = 0 := by omega
    obtain ⟨k, hk⟩ : ∃ k : Nat, k = b2.length % (w.length + 1) := ⟨_, rfl⟩
    have hkl : k ≤ w.length := by rw [hk]; have := Nat.mod_lt b2.length (show 0 < w.length + 1 by omega); omega
    have hkm : Int.tmod (b2.length : Int) ((w.length : Int) + 1) = k := by
      rw [hk, show (w.length : Int) + 1 = ((w.length + 1 : Nat) : Int) by omega, ← Int.ofNat_tmod]
    simp [h1, h5, hC, h6, h7, ok, hwl, hwz, hkm]
    refine TWcH.regionD (ρ := []) [0, 1, 2, 3, 4, 5] 6 mixed (by kernel_rfl) ?_
    simp [h1, h5, hC, h6, h7, ok, hkl, encDfa]
    have t7 := tc_iDfaRun d hs (w.take k) (by simp; omega)
    refine TWqH.callV t7 callable_14 (by simp [encDfa, List.map_take]) (by simp) (by simp) (by simp) ?_
    have e0 : runF d (w.take k) = runGo d (w.take k) 0 := by unfold runF; rw [if_pos ok]
    have e1 : runF d w = runGo d w 0 := by unfold runF; rw [if_pos ok]
    rw [e0]
    simp [h1, h5, hC, h6, h7, ok]
    refine TWcH.loop [] (fun m st => ∃ i : Nat, i + m = w.length ∧ k ≤ i ∧ st.σ 1 = .ro (b2.map encU) ∧ st.σ 5 = .pd c 0 0 0 ∧ st.H c = some (.box 27 (encDfa d)) ∧ st.σ 6 = .val (.string (bs w)) ∧ st.σ 7 = .val (.int .i64 (runF d w)) ∧ st.σ 9 = .val (.int .i64 (runGo d (w.take i) 0)) ∧ st.σ 10 = .val (.int .i64 i)) (w.length - k) ⟨k, by simp [h1, h5, hC, h6, h7, encDfa]; omega⟩ ?_
    clear h1 h5 hC h6 h7 h47
    rintro m ⟨σ, H⟩ ⟨i, him, hki, h1, h5, hC, h6, h7, h9, h10⟩
    simp only at h1 h5 hC h6 h7 h9 h10
    have hrg := runGo_ok ho (w.take i) 0 (by omega) (by omega)
    by_cases hi : i < w.length
    · have hw1 : IntKind.i64.wrap ((i : Int) + 1) = i + 1 := wrapi (by omega)
      have t8 := tc_iDfaNext d hs (runGo d (w.take i) 0) (w[i].toNat)
      have hst : nextI d (runGo d (w.take i) 0) (w[i].toNat) = runGo d (w.take (i + 1)) 0 := by
        rw [nextI_run ok hrg.2, List.take_succ_eq_append_getElem hi, runGo_app]
        by_cases c0 : runGo d (w.take i) 0 < 0
        · rw [if_pos c0, runGo_neg c0]; omega
        · rw [if_neg c0]; simp [runGo, c0]
      rw [hst] at t8
      simp [h1, h5, hC, h6, h7, h9, h10, hi]
      refine TWcH.regionD (ρ := []) [0, 1, 2, 3, 4, 5, 6, 7] 8 mixed (by kernel_rfl) ?_
      simp [h1, h5, hC, h6, h7, h9, h10, hi, getI hi, encDfa]
      refine TWqH.callV t8 callable_19 (by simp [encDfa]) (by simp) (by simp) (by simp) ?_
      simp [h1, h5, hC, h6, h7, h9, h10, hi, hw1]
      exact ⟨m - 1, by omega, i + 1, by omega, by omega, by simp [encDfa, hC], rfl, by omega⟩
    · obtain rfl : i = w.length := by omega
      rw [List.take_of_length_le (by omega)] at h9 hrg
      have hrr : runF d w < d.rows.length := by omega
      have t9 := tc_iDfaRun d hs [] (by simp)
      have e9 : runF d [] = 0 := by unfold runF; rw [if_pos ok]; rfl
      rw [e9] at t9
      have e10 : ruleF d w = if runGo d w 0 < 0 then -1 else ac_ d (runGo d w 0).toNat := by unfold ruleF; rw [e1]
      rw [e1] at h7 hrr hr
      by_cases c0 : runGo d w 0 < 0
      · have c1 : ¬ 0 ≤ runGo d w 0 := by omega
        have e11 : ruleF d w = -1 := by rw [e10, if_pos c0]
        simp [h1, h5, hC, h6, h7, h9, h10, encDfa, c0, c1]
        refine TWoH.callV t9 callable_14 (by simp [encDfa]) (by simp) (by simp) (by simp) ?_
        simp [h1, h5, hC, h6, h7, h9, h10, encDfa, c0, c1]
        refine TWoH.callV t3 callable_17 (by simp [encDfa]) (by simp) (by simp) (by simp) ?_
        simp [h1, h5, hC, h6, h7, h9, h10, encDfa, c0, c1, e11]
      · have c1 : 0 ≤ runGo d w 0 := by omega
        simp [h1, h5, hC, h6, h7, h9, h10, encDfa, c0, c1, hrr]
        refine TWoH.callV t9 callable_14 (by simp [encDfa]) (by simp) (by simp) (by simp) ?_
        simp [h1, h5, hC, h6, h7, h9, h10, encDfa, c0, c1, hrr]
        refine TWoH.callV t3 callable_17 (by simp [encDfa]) (by simp) (by simp) (by simp) ?_
        by_cases c2 : 0 ≤ ruleF d w <;> simp [h1, h5, hC, h6, h7, h9, h10, encDfa, c0, c1, c2, hrr]
  simp
  repeat' first
    | refine And.intro ?_ ?_
    | (refine TWoH.callV t2 callable_16 (by simp [encDfa]) (by simp) (by simp) (by simp) ?_; simp [encDfa])
    | (refine TWoH.callV t5 callable_12 (by simp [encDfa]) (by simp) (by simp) (by simp) ?_; simp [encDfa])
    | (refine TWoH.callV t6 callable_13 (by simp [encDfa]) (by simp) (by simp) (by simp) ?_; simp [encDfa])
    | (refine TWoH.callV t3 callable_17 (by simp [encDfa]) (by simp) (by simp) (by simp) ?_; simp [encDfa])
    | (refine TWoH.callV t4 callable_18 (by simp [encDfa]) (by simp) (by simp) (by simp) ?_; simp [encDfa])
end Go.Proofs.Ytibeeohnjabhkaa.R
