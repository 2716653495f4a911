/- Part 9: what the walk of the code stands on. Conditions: none but those that each theorem states. -/
import Derived.Test.YtibeeohnjabhkaaK8
open Go Go.Proofs.Ytibeeohnjabhkaa.T
namespace Go.Proofs.Ytibeeohnjabhkaa.R
set_option maxHeartbeats 8000000
set_option maxRecDepth 100000
set_option linter.unusedSimpArgs false
set_option linter.unusedVariables false
attribute [local simp] bsV bsRows chunk fillT partsT appV makeV rowsOf cellsOf placeOf frzT frz1
theorem setOkP_out : ∀ (l : List (Int × Int)) (q : Option Int) (b : Int), setOkP q l = true → b < 0 ∨ 255 < b → hasS l b = false
  | [], q, b, h, hb => by simp [hasS]
  | x :: l, q, b, h, hb => by
    simp only [setOkP, okX, Bool.and_eq_true, decide_eq_true_eq] at h
    have h1 := h.1.1
    have h2 := h.1.2.1
    have h3 := setOkP_out l (some x.2) b h.2 hb
    simp only [hasS, List.any_cons, Bool.or_eq_false_iff, decide_eq_false_iff_not] at h3 ⊢
    exact ⟨by omega, h3⟩
theorem part_out {d : Dfa} (ho : DOk d) {k : Nat} (hk : k < d.parts.length) {b : Int} (hb : b < 0 ∨ 255 < b) : hasS (pt d.parts k) b = false := by
  have h := partsFrom_of ho.parts
  unfold partsFrom at h
  rw [List.all_eq_true] at h
  have hp := h k (by rw [List.mem_range'_1]; omega)
  simp only [partAt, headAt, Bool.and_eq_true, Bool.not_eq_true'] at hp
  obtain ⟨⟨⟨h1, h2⟩, _⟩, _⟩ := hp
  exact setOkP_out _ none b h1 hb
theorem tc_l7NextOut (d : Dfa) (hs : DSm d) (ho : DOk d) (s b : Int) (hb : b < 0 ∨ 255 < b) : TC Try.prog 58 [.agg (encDfa d), .val (.int .i64 s), .val (.int .i64 b)] [] (.val (.int .i64 (-1))) [] := by
  refine TC.enter Try.func58 rfl (by simp [Try.ntmps58]) rfl (tw_sound (ρ := [3]) ?_)
  rw [Try.ntmps58]
  simp [encDfa]
  have hpl := hs.parts
  refine TWcH.loop [] (fun m st => ∃ k : Nat, k + m = d.parts.length ∧ st.σ 1 = .val (.int .i64 s) ∧ st.σ 2 = .val (.int .i64 b) ∧ st.σ 3 = .rptr [.ro (d.parts.map encP), .ro (d.rows.map encR), .ro (d.acc.map encI)] 0 ∧ st.σ 7 = .val (.int .i64 k)) d.parts.length ⟨0, by simp⟩ ?_
  rintro m ⟨σ, H⟩ ⟨k, hkm, h1, h2, h3, h7⟩
  simp only at h1 h2 h3 h7
  by_cases hk : k < d.parts.length
  · have hw : IntKind.i64.wrap ((k : Int) + 1) = k + 1 := wrapi (by omega)
    have hp' : ∀ h, d.parts[k]'h = pt d.parts k := fun _ => (pt_eq hk).symm
    have hpln : (pt d.parts k).length ≤ 1152921504606846976 := by rw [pt_eq hk]; have := hs.part _ (List.getElem_mem hk); omega
    simp [h1, h2, h3, h7, hk, hp', encP]
    have ht := tc_sSetHas (pt d.parts k) b hpln
    rw [part_out ho hk hb] at ht
    refine TWoH.callV ht callable_80 (by simp [h2]) (by simp) (by simp) (by simp) ?_
    simp [h1, h2, h3, h7, hk, hw]
    exact ⟨m - 1, by omega, k + 1, by omega, by omega⟩
  · simp [h1, h2, h3, h7, hk]
theorem tc_sDfaNext (d : Dfa) (hs : DSm d) (s b : Int) : TC Try.prog 24 [.agg (encDfa d), .val (.int .i64 s), .val (.int .i64 b)] [] (.val (.int .i64 (nextI d s b))) [] := by
  refine TC.enter Try.func24 rfl (by simp [Try.ntmps24]) rfl (tw_sound (ρ := [3]) ?_)
  rw [Try.ntmps24]
  simp [encDfa]
  refine TWoH.callV (tc_sDfaOk d hs) callable_13 (by simp [encDfa]) (by simp) (by simp) (by simp) ?_
  have bad : ∀ h : ¬ (dfaOk d = true ∧ (0 ≤ s ∧ s ≤ (d.rows.length : Int) - 1) ∧ (0 ≤ b ∧ b ≤ 255)), nextI d s b = -1 := fun h => by unfold nextI; rw [if_neg h]
  by_cases c : dfaOk d = true
  case neg => simp [c, bad (fun h => c h.1)]
  by_cases c1 : s < 0
  · simp [c, c1, bad (fun h => by omega)]
  by_cases c2 : (d.rows.length : Int) ≤ s
  · simp [c, c1, c2, bad (fun h => by omega)]
  have ho := dok_of c
  simp [c, c1, c2]
  by_cases c3 : 0 ≤ b ∧ b ≤ 255
  · obtain ⟨u, rfl⟩ : ∃ u : Nat, s = u := ⟨s.toNat, by omega⟩
    obtain ⟨v, rfl⟩ : ∃ v : Nat, b = v := ⟨b.toNat, by omega⟩
    have e : nextI d u v = nextF d u v := by unfold nextI; rw [if_pos ⟨c, by omega, c3⟩]; rfl
    rw [e]
    refine TWoH.callV (tc_l7Next d hs ho u v (by omega)) callable_58 (by simp [encDfa]) (by simp) (by simp) (by simp) ?_
    simp
  · rw [bad (fun h => c3 h.2.2)]
    refine TWoH.callV (tc_l7NextOut d hs ho s b (by omega)) callable_58 (by simp [encDfa]) (by simp) (by simp) (by simp) ?_
    simp
theorem tc_FnDfaNext (b : List UInt8) : TC Try.prog 6 [.ro (b.map encU)] [] (.val (.bool true)) [] := by
  refine TC.enter Try.func6 rfl (by simp [Try.ntmps6]) rfl (tw_sound (ρ := []) ?_)
  rw [Try.ntmps6]
  by_cases hb0 : (1048576 : Int) < b.length
  · simp [hb0]
  have hb : b.length ≤ 1048576 := by omega
  simp [hb0]
  refine TWoH.callR (tcr_DrawDfaNext b hb) callable_23 (by simp) ?_
  rintro r o ⟨d, s, v, hd, rfl, hs0, hv0, rfl⟩
  refine ⟨rfl, by simp, .inl (by simp), fun q hq => ?_⟩
  clear hq
  have hs := hd.sm
  have t1 := tc_iDfaNext d hs s v
  have t2 := tc_sDfaNext d hs s v
  have t6 := tc_sDfaOk d hs
  have bad : ∀ h : ¬ (dfaOk d = true ∧ (0 ≤ s ∧ s ≤ (d.rows.length : Int) - 1) ∧ (0 ≤ v ∧ v ≤ 255)), nextI d s v = -1 := fun h => by unfold nextI; rw [if_neg h]
  simp [encDfa]
  refine gall_intro fun c hc => ?_
  clear hc
  simp [encDfa]
  refine TWoH.callV t1 callable_19 (by simp [encDfa]) (by simp) (by simp) (by simp) ?_
  simp [encDfa]
  refine TWoH.callV t2 callable_24 (by simp [encDfa]) (by simp) (by simp) (by simp) ?_
  simp [encDfa]
  refine TWoH.callV t6 callable_13 (by simp [encDfa]) (by simp) (by simp) (by simp) ?_
  by_cases ok : dfaOk d = true
  case neg => simp [ok, bad (fun h => ok h.1)]
  by_cases c1 : s < 0
  · simp [ok, c1, bad (fun h => by omega)]
  by_cases c2 : (d.rows.length : Int) ≤ s
  · simp [ok, c1, c2, bad (fun h => by omega)]
  by_cases c3 : v < 0
  · simp [ok, c1, c2, c3, bad (fun h => by omega)]
  by_cases c4 : 255 < v
  · simp [ok, c1, c2, c3, c4, bad (fun h => by omega)]
  have ho := dok_of ok
  obtain ⟨u, rfl⟩ : ∃ u : Nat, s = u := ⟨s.toNat, by omega⟩
  obtain ⟨a, rfl⟩ : ∃ a : Nat, v = a := ⟨v.toNat, by omega⟩
  have e : nextI d u a = nextF d u a := by unfold nextI; rw [if_pos ⟨ok, by omega, by omega⟩]; rfl
  have hu : u < d.rows.length := by omega
  have hpi : ∀ h, d.rows[u]'h = rw_ d u := fun _ => (rw_eq hu).symm
  have hrow := ho.row u hu
  have hpl := hs.parts
  rw [e]
  simp [ok, c1, c2, c3, c4]
  refine TWcH.loop [] (fun m st => ∃ k : Nat, k + m = d.parts.length ∧ st.σ 0 = .ro (b.map encU) ∧ st.σ 3 = .pd c 0 0 0 ∧ st.H c = some (.box 27 (encDfa d)) ∧ st.σ 4 = .val (.int .i64 u) ∧ st.σ 5 = .val (.int .i64 a) ∧ st.σ 6 = .val (.int .i64 (nextF d u a)) ∧ st.σ 7 = .val (.int .i64 k)) d.parts.length ⟨0, by simp [encDfa]⟩ ?_
  rintro m ⟨σ, H⟩ ⟨k, hkm, h0, h3, hC, h4, h5, h6, h7⟩
  simp only at h0 h3 hC h4 h5 h6 h7
  by_cases hk : k < d.parts.length
  · have hwk : IntKind.i64.wrap ((k : Int) + 1) = k + 1 := wrapi (by omega)
    have hp' : ∀ h, d.parts[k]'h = pt d.parts k := fun _ => (pt_eq hk).symm
    have hpln : (pt d.parts k).length ≤ 1152921504606846976 := by rw [pt_eq hk]; have := hs.part _ (List.getElem_mem hk); omega
    have hkr : k < (rw_ d u).length := by omega
    simp [h0, h3, hC, h4, h5, h6, h7, hk, encDfa]
    refine TWcH.midB (ρ := []) (fun st => st.σ 0 = .ro (b.map encU) ∧ st.σ 3 = .pd c 0 0 0 ∧ st.H c = some (.box 27 (encDfa d)) ∧ st.σ 4 = .val (.int .i64 u) ∧ st.σ 5 = .val (.int .i64 a) ∧ st.σ 6 = .val (.int .i64 (nextF d u a)) ∧ st.σ 7 = .val (.int .i64 k) ∧ st.σ 91 = .val (.bool false))
      (.first 0 (.first 2 (.first 5 (.pick 1 (.first 3 (.pick 4 (.pick 6 (.first 7 (.first 8 (.first 9 (.first 11 (.first 14 (.pick 10 (.first 12 (.pick 13 (.first 15 (.pick 16 (.first 17 (.first 18 (.first 20 (.first 21 (.first 23 (.first 28 (.pick 19 (.pick 22 (.first 24 (.pick 25 (.pick 26 (.pick 27 (.first 29 (.first 30 (.first 31 .fin))) .fin) .fin) .fin)) .fin) (.pick 22 (.first 24 (.pick 19 (.pick 25 (.pick 26 (.pick 27 (.first 29 (.first 30 (.first 31 .fin))) .fin) .fin) .fin) (.pick 25 (.pick 19 (.pick 26 (.pick 27 (.first 29 (.first 30 (.first 31 .fin))) .fin) .fin) (.pick 26 (.pick 19 (.pick 27 (.first 29 (.first 30 (.first 31 .fin))) .fin) .fin) .fin)) .fin))) .fin)))))))) .fin)) .fin)) .fin)))))) .fin) .fin)) .fin)))) mixed (by kernel_rfl) ?_ ?_
    case refine_2 =>
      clear h0 h3 hC h4 h5 h6 h7
      rintro ⟨σ, H⟩ ⟨h0, h3, hC, h4, h5, h6, h7, h91⟩
      simp only at h0 h3 hC h4 h5 h6 h7 h91
      simp [h0, h3, hC, h4, h5, h6, h7, h91, hwk, encDfa]
      exact ⟨m - 1, by omega, k + 1, by omega, by omega⟩
    have t8 := tc_iSetHas (pt d.parts k) a hpln
    have t9 := tc_iSetFirst (pt d.parts k) hpln
    simp [h0, h3, hC, h4, h5, h6, h7, hk, hp', encP, encDfa]
    by_cases hh : hasS (pt d.parts k) a = true
    case neg =>
      simp only [hh] at t8
      repeat' first
        | refine And.intro ?_ ?_
        | (refine TWoH.callV t8 callable_25 (by simp [h0, h3, hC, h4, h5, h6, h7]) (by simp) (by simp) (by simp) ?_; simp [h0, h3, hC, h4, h5, h6, h7, encDfa])
    obtain ⟨f, hf, ef, _⟩ := first_part ho hk
    have e1 := next_of_has (s := u) (partsFrom_of ho.parts) hk (by omega) hh
    rw [getI hkr] at e1
    have e2 := next_first ho (s := u) hk ef
    rw [getI hkr] at e2
    rw [ef] at t9
    have t10 := tc_iDfaNext d hs u f
    have e3 : nextI d u f = nextF d u f := by unfold nextI; rw [if_pos ⟨ok, by omega, by omega⟩]; rfl
    simp only [Option.getD_some] at e1 e2
    rw [e3, e2, ← e1] at t10
    have hat : ∀ h, (rw_ d u)[k]'h = nextF d u a := fun _ => e1.symm
    rw [hh] at t8
    generalize nextF d u a = nn at *
    repeat' first
      | refine And.intro ?_ ?_
      | (refine TWoH.callV t8 callable_25 (by simp [h0, h3, hC, h4, h5, h6, h7]) (by simp) (by simp) (by simp) ?_; simp [h0, h3, hC, h4, h5, h6, h7, hu, hpi, hk, hkr, hat, hp', encP, encR, encI, encDfa])
      | (refine TWoH.callV t9 callable_26 (by simp [h0, h3, hC, h4, h5, h6, h7]) (by simp) (by simp) (by simp) ?_; simp [h0, h3, hC, h4, h5, h6, h7, hu, hpi, hk, hkr, hat, hp', encP, encR, encI, encDfa])
      | (refine TWoH.callV t10 callable_19 (by simp [h0, h3, hC, h4, h5, h6, h7, encDfa]) (by simp) (by simp) (by simp) ?_; simp [h0, h3, hC, h4, h5, h6, h7, hu, hpi, hk, hkr, hat, hp', encP, encR, encI, encDfa])
  · simp [h0, h3, hC, h4, h5, h6, h7, hk, encDfa]
    refine TWoH.callR (tcr_DrawDfaSame b hb) callable_27 (by simp [h0]) ?_
    rintro r o ⟨x, y, hx, hy, rfl, rfl⟩
    refine ⟨rfl, by simp, .inl (by simp), fun q hq => ?_⟩
    clear hq
    have s1 := tc_iDfaSame x y hx.sm hy.sm
    have s2 := tc_sDfaSame x y hx.sm hy.sm
    have s3 := tc_iDfaSame x x hx.sm hx.sm
    rw [bP_pos rfl] at s3
    generalize bP (x = y) = B at *
    simp [encDfa]
    refine gall_fresh [c] (by simp [hC]) fun c8 f8 => ?_
    simp [frF] at f8
    simp [f8, hC]
    refine gall_fresh [c, c8] (by simp [hC, f8]) fun c9 f9 => ?_
    simp [frF] at f9
    simp [f8, f9, hC]
    refine TWcH.midB (ρ := []) (fun st => st.σ 2 = .val (.bool true))
      (.pick 0 (.pick 1 (.pick 2 (.pick 3 (.pick 4 (.pick 5 (.first 6 (.first 7 (.pick 8 (.pick 9 (.pick 10 (.first 11 (.first 12 .fin)) .fin) .fin) (.pick 9 (.pick 8 (.pick 10 (.first 11 (.first 12 .fin)) .fin) .fin) .fin)))) .fin) .fin) (.pick 4 (.pick 3 (.pick 5 (.first 6 (.first 7 (.pick 8 (.pick 9 (.pick 10 (.first 11 (.first 12 .fin)) .fin) .fin) (.pick 9 (.pick 8 (.pick 10 (.first 11 (.first 12 .fin)) .fin) .fin) .fin)))) .fin) .fin) .fin)) (.pick 3 (.pick 2 (.pick 4 (.pick 5 (.first 6 (.first 7 (.pick 8 (.pick 9 (.pick 10 (.first 11 (.first 12 .fin)) .fin) .fin) (.pick 9 (.pick 8 (.pick 10 (.first 11 (.first 12 .fin)) .fin) .fin) .fin)))) .fin) .fin) (.pick 4 (.pick 2 (.pick 5 (.first 6 (.first 7 (.pick 8 (.pick 9 (.pick 10 (.first 11 (.first 12 .fin)) .fin) .fin) (.pick 9 (.pick 8 (.pick 10 (.first 11 (.first 12 .fin)) .fin) .fin) .fin)))) .fin) .fin) .fin)) (.pick 4 (.pick 2 (.pick 3 (.pick 5 (.first 6 (.first 7 (.pick 8 (.pick 9 (.pick 10 (.first 11 (.first 12 .fin)) .fin) .fin) (.pick 9 (.pick 8 (.pick 10 (.first 11 (.first 12 .fin)) .fin) .fin) .fin)))) .fin) .fin) (.pick 3 (.pick 2 (.pick 5 (.first 6 (.first 7 (.pick 8 (.pick 9 (.pick 10 (.first 11 (.first 12 .fin)) .fin) .fin) (.pick 9 (.pick 8 (.pick 10 (.first 11 (.first 12 .fin)) .fin) .fin) .fin)))) .fin) .fin) .fin)) .fin))) (.pick 3 (.pick 1 (.pick 2 (.pick 4 (.pick 5 (.first 6 (.first 7 (.pick 8 (.pick 9 (.pick 10 (.first 11 (.first 12 .fin)) .fin) .fin) (.pick 9 (.pick 8 (.pick 10 (.first 11 (.first 12 .fin)) .fin) .fin) .fin)))) .fin) .fin) (.pick 4 (.pick 2 (.pick 5 (.first 6 (.first 7 (.pick 8 (.pick 9 (.pick 10 (.first 11 (.first 12 .fin)) .fin) .fin) (.pick 9 (.pick 8 (.pick 10 (.first 11 (.first 12 .fin)) .fin) .fin) .fin)))) .fin) .fin) .fin)) (.pick 4 (.pick 1 (.pick 2 (.pick 5 (.first 6 (.first 7 (.pick 8 (.pick 9 (.pick 10 (.first 11 (.first 12 .fin)) .fin) .fin) (.pick 9 (.pick 8 (.pick 10 (.first 11 (.first 12 .fin)) .fin) .fin) .fin)))) .fin) .fin) .fin) .fin)) (.pick 4 (.pick 1 (.pick 2 (.pick 3 (.pick 5 (.first 6 (.first 7 (.pick 8 (.pick 9 (.pick 10 (.first 11 (.first 12 .fin)) .fin) .fin) (.pick 9 (.pick 8 (.pick 10 (.first 11 (.first 12 .fin)) .fin) .fin) .fin)))) .fin) .fin) (.pick 3 (.pick 2 (.pick 5 (.first 6 (.first 7 (.pick 8 (.pick 9 (.pick 10 (.first 11 (.first 12 .fin)) .fin) .fin) (.pick 9 (.pick 8 (.pick 10 (.first 11 (.first 12 .fin)) .fin) .fin) .fin)))) .fin) .fin) .fin)) (.pick 3 (.pick 1 (.pick 2 (.pick 5 (.first 6 (.first 7 (.pick 8 (.pick 9 (.pick 10 (.first 11 (.first 12 .fin)) .fin) .fin) (.pick 9 (.pick 8 (.pick 10 (.first 11 (.first 12 .fin)) .fin) .fin) .fin)))) .fin) .fin) .fin) .fin)) .fin))) (.pick 1 (.pick 0 (.pick 2 (.pick 3 (.pick 4 (.pick 5 (.first 6 (.first 7 (.pick 8 (.pick 9 (.pick 10 (.first 11 (.first 12 .fin)) .fin) .fin) (.pick 9 (.pick 8 (.pick 10 (.first 11 (.first 12 .fin)) .fin) .fin) .fin)))) .fin) .fin) (.pick 4 (.pick 3 (.pick 5 (.first 6 (.first 7 (.pick 8 (.pick 9 (.pick 10 (.first 11 (.first 12 .fin)) .fin) .fin) (.pick 9 (.pick 8 (.pick 10 (.first 11 (.first 12 .fin)) .fin) .fin) .fin)))) .fin) .fin) .fin)) (.pick 3 (.pick 2 (.pick 4 (.pick 5 (.first 6 (.first 7 (.pick 8 (.pick 9 (.pick 10 (.first 11 (.first 12 .fin)) .fin) .fin) (.pick 9 (.pick 8 (.pick 10 (.first 11 (.first 12 .fin)) .fin) .fin) .fin)))) .fin) .fin) (.pick 4 (.pick 2 (.pick 5 (.first 6 (.first 7 (.pick 8 (.pick 9 (.pick 10 (.first 11 (.first 12 .fin)) .fin) .fin) (.pick 9 (.pick 8 (.pick 10 (.first 11 (.first 12 .fin)) .fin) .fin) .fin)))) .fin) .fin) .fin)) (.pick 4 (.pick 2 (.pick 3 (.pick 5 (.first 6 (.first 7 (.pick 8 (.pick 9 (.pick 10 (.first 11 (.first 12 .fin)) .fin) .fin) (.pick 9 (.pick 8 (.pick 10 (.first 11 (.first 12 .fin)) .fin) .fin) .fin)))) .fin) .fin) (.pick 3 (.pick 2 (.pick 5 (.first 6 (.first 7 (.pick 8 (.pick 9 (.pick 10 (.first 11 (.first 12 .fin)) .fin) .fin) (.pick 9 (.pick 8 (.pick 10 (.first 11 (.first 12 .fin)) .fin) .fin) .fin)))) .fin) .fin) .fin)) .fin))) (.pick 3 (.pick 0 (.pick 2 (.pick 4 (.pick 5 (.first 6 (.first 7 (.pick 8 (.pick 9 (.pick 10 (.first 11 (.first 12 .fin)) .fin) .fin) (.pick 9 (.pick 8 (.pick 10 (.first 11 (.first 12 .fin)) .fin) .fin) .fin)))) .fin) .fin) (.pick 4 (.pick 2 (.pick 5 (.first 6 (.first 7 (.pick 8 (.pick 9 (.pick 10 (.first 11 (.first 12 .fin)) .fin) .fin) (.pick 9 (.pick 8 (.pick 10 (.first 11 (.first 12 .fin)) .fin) .fin) .fin)))) .fin) .fin) .fin)) (.pick 4 (.pick 0 (.pick 2 (.pick 5 (.first 6 (.first 7 (.pick 8 (.pick 9 (.pick 10 (.first 11 (.first 12 .fin)) .fin) .fin) (.pick 9 (.pick 8 (.pick 10 (.first 11 (.first 12 .fin)) .fin) .fin) .fin)))) .fin) .fin) .fin) .fin)) (.pick 4 (.pick 0 (.pick 2 (.pick 3 (.pick 5 (.first 6 (.first 7 (.pick 8 (.pick 9 (.pick 10 (.first 11 (.first 12 .fin)) .fin) .fin) (.pick 9 (.pick 8 (.pick 10 (.first 11 (.first 12 .fin)) .fin) .fin) .fin)))) .fin) .fin) (.pick 3 (.pick 2 (.pick 5 (.first 6 (.first 7 (.pick 8 (.pick 9 (.pick 10 (.first 11 (.first 12 .fin)) .fin) .fin) (.pick 9 (.pick 8 (.pick 10 (.first 11 (.first 12 .fin)) .fin) .fin) .fin)))) .fin) .fin) .fin)) (.pick 3 (.pick 0 (.pick 2 (.pick 5 (.first 6 (.first 7 (.pick 8 (.pick 9 (.pick 10 (.first 11 (.first 12 .fin)) .fin) .fin) (.pick 9 (.pick 8 (.pick 10 (.first 11 (.first 12 .fin)) .fin) .fin) .fin)))) .fin) .fin) .fin) .fin)) .fin))) (.pick 3 (.pick 0 (.pick 1 (.pick 2 (.pick 4 (.pick 5 (.first 6 (.first 7 (.pick 8 (.pick 9 (.pick 10 (.first 11 (.first 12 .fin)) .fin) .fin) (.pick 9 (.pick 8 (.pick 10 (.first 11 (.first 12 .fin)) .fin) .fin) .fin)))) .fin) .fin) (.pick 4 (.pick 2 (.pick 5 (.first 6 (.first 7 (.pick 8 (.pick 9 (.pick 10 (.first 11 (.first 12 .fin)) .fin) .fin) (.pick 9 (.pick 8 (.pick 10 (.first 11 (.first 12 .fin)) .fin) .fin) .fin)))) .fin) .fin) .fin)) (.pick 4 (.pick 1 (.pick 2 (.pick 5 (.first 6 (.first 7 (.pick 8 (.pick 9 (.pick 10 (.first 11 (.first 12 .fin)) .fin) .fin) (.pick 9 (.pick 8 (.pick 10 (.first 11 (.first 12 .fin)) .fin) .fin) .fin)))) .fin) .fin) .fin) .fin)) (.pick 1 (.pick 0 (.pick 2 (.pick 4 (.pick 5 (.first 6 (.first 7 (.pick 8 (.pick 9 (.pick 10 (.first 11 (.first 12 .fin)) .fin) .fin) (.pick 9 (.pick 8 (.pick 10 (.first 11 (.first 12 .fin)) .fin) .fin) .fin)))) .fin) .fin) (.pick 4 (.pick 2 (.pick 5 (.first 6 (.first 7 (.pick 8 (.pick 9 (.pick 10 (.first 11 (.first 12 .fin)) .fin) .fin) (.pick 9 (.pick 8 (.pick 10 (.first 11 (.first 12 .fin)) .fin) .fin) .fin)))) .fin) .fin) .fin)) (.pick 4 (.pick 0 (.pick 2 (.pick 5 (.first 6 (.first 7 (.pick 8 (.pick 9 (.pick 10 (.first 11 (.first 12 .fin)) .fin) .fin) (.pick 9 (.pick 8 (.pick 10 (.first 11 (.first 12 .fin)) .fin) .fin) .fin)))) .fin) .fin) .fin) .fin)) (.pick 4 (.pick 0 (.pick 1 (.pick 2 (.pick 5 (.first 6 (.first 7 (.pick 8 (.pick 9 (.pick 10 (.first 11 (.first 12 .fin)) .fin) .fin) (.pick 9 (.pick 8 (.pick 10 (.first 11 (.first 12 .fin)) .fin) .fin) .fin)))) .fin) .fin) .fin) (.pick 1 (.pick 0 (.pick 2 (.pick 5 (.first 6 (.first 7 (.pick 8 (.pick 9 (.pick 10 (.first 11 (.first 12 .fin)) .fin) .fin) (.pick 9 (.pick 8 (.pick 10 (.first 11 (.first 12 .fin)) .fin) .fin) .fin)))) .fin) .fin) .fin) .fin)) .fin))) (.pick 4 (.pick 0 (.pick 1 (.pick 2 (.pick 3 (.pick 5 (.first 6 (.first 7 (.pick 8 (.pick 9 (.pick 10 (.first 11 (.first 12 .fin)) .fin) .fin) (.pick 9 (.pick 8 (.pick 10 (.first 11 (.first 12 .fin)) .fin) .fin) .fin)))) .fin) .fin) (.pick 3 (.pick 2 (.pick 5 (.first 6 (.first 7 (.pick 8 (.pick 9 (.pick 10 (.first 11 (.first 12 .fin)) .fin) .fin) (.pick 9 (.pick 8 (.pick 10 (.first 11 (.first 12 .fin)) .fin) .fin) .fin)))) .fin) .fin) .fin)) (.pick 3 (.pick 1 (.pick 2 (.pick 5 (.first 6 (.first 7 (.pick 8 (.pick 9 (.pick 10 (.first 11 (.first 12 .fin)) .fin) .fin) (.pick 9 (.pick 8 (.pick 10 (.first 11 (.first 12 .fin)) .fin) .fin) .fin)))) .fin) .fin) .fin) .fin)) (.pick 1 (.pick 0 (.pick 2 (.pick 3 (.pick 5 (.first 6 (.first 7 (.pick 8 (.pick 9 (.pick 10 (.first 11 (.first 12 .fin)) .fin) .fin) (.pick 9 (.pick 8 (.pick 10 (.first 11 (.first 12 .fin)) .fin) .fin) .fin)))) .fin) .fin) (.pick 3 (.pick 2 (.pick 5 (.first 6 (.first 7 (.pick 8 (.pick 9 (.pick 10 (.first 11 (.first 12 .fin)) .fin) .fin) (.pick 9 (.pick 8 (.pick 10 (.first 11 (.first 12 .fin)) .fin) .fin) .fin)))) .fin) .fin) .fin)) (.pick 3 (.pick 0 (.pick 2 (.pick 5 (.first 6 (.first 7 (.pick 8 (.pick 9 (.pick 10 (.first 11 (.first 12 .fin)) .fin) .fin) (.pick 9 (.pick 8 (.pick 10 (.first 11 (.first 12 .fin)) .fin) .fin) .fin)))) .fin) .fin) .fin) .fin)) (.pick 3 (.pick 0 (.pick 1 (.pick 2 (.pick 5 (.first 6 (.first 7 (.pick 8 (.pick 9 (.pick 10 (.first 11 (.first 12 .fin)) .fin) .fin) (.pick 9 (.pick 8 (.pick 10 (.first 11 (.first 12 .fin)) .fin) .fin) .fin)))) .fin) .fin) .fin) (.pick 1 (.pick 0 (.pick 2 (.pick 5 (.first 6 (.first 7 (.pick 8 (.pick 9 (.pick 10 (.first 11 (.first 12 .fin)) .fin) .fin) (.pick 9 (.pick 8 (.pick 10 (.first 11 (.first 12 .fin)) .fin) .fin) .fin)))) .fin) .fin) .fin) .fin)) .fin))) .fin)))) mixed (by kernel_rfl) ?_ ?_
    case refine_2 =>
      rintro ⟨σ, H⟩ h2
      simp only at h2
      simp [h2]
    simp [f8, f9]
    repeat' first
      | refine And.intro ?_ ?_
      | (refine TWoH.callV s1 callable_28 ?hh (by simp) (by simp) (by simp) ?_; (case hh => simp [encDfa, f8, f9]; done); simp [f8, f9, encDfa])
      | (refine TWoH.callV s2 callable_29 ?hh (by simp) (by simp) (by simp) ?_; (case hh => simp [encDfa, f8, f9]; done); simp [f8, f9, encDfa])
      | (refine TWoH.callV s3 callable_28 ?hh (by simp) (by simp) (by simp) ?_; (case hh => simp [encDfa, f8, f9]; done); simp [f8, f9, encDfa])
end Go.Proofs.Ytibeeohnjabhkaa.R
