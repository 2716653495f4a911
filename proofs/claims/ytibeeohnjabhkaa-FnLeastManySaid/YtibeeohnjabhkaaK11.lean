/- Part 11: what the walk of the code stands on. Conditions: none but those that each theorem states. -/
import Derived.Test.YtibeeohnjabhkaaK10
open Go Go.Proofs.Ytibeeohnjabhkaa.T
namespace Go.Proofs.Ytibeeohnjabhkaa.R
set_option maxHeartbeats 8000000
set_option maxRecDepth 100000
set_option linter.unusedSimpArgs false
set_option linter.unusedVariables false
attribute [local simp] bsV bsRows chunk fillT partsT appV makeV rowsOf cellsOf placeOf frzT frz1
def sK (B : List Bool) (ks : List Int) (k s : Nat) : Bool := (List.range s).any fun s => mt B s && decide (kn ks s = k)
theorem sK_zero {B : List Bool} {ks : List Int} {k : Nat} : sK B ks k 0 = false := rfl
theorem sK_succ {B : List Bool} {ks : List Int} {k s : Nat} : sK B ks k (s + 1) = (sK B ks k s || (mt B s && decide (kn ks s = k))) := by
  unfold sK
  rw [List.range_succ, List.any_append]; simp
theorem leastR_ex {d : Dfa} {ks : List Int} (hk : kindsR d ks) : ∃ m, leastR d m ∧ (dfaOk d = true → m = leastF d ks) := by
  unfold kindsR at hk
  unfold leastR
  by_cases ok : dfaOk d = true
  · rw [if_pos ok] at hk; simp only [if_pos ok]; exact ⟨_, ⟨ks, hk, rfl⟩, fun _ => rfl⟩
  · simp only [if_neg ok]; exact ⟨_, rfl, fun h => absurd h ok⟩
theorem leastR_sm {d m : Dfa} (hs : DSm d) (h : leastR d m) : DSm m := by
  unfold leastR at h
  by_cases ok : dfaOk d = true
  · rw [if_pos ok] at h
    obtain ⟨ks, hk, rfl⟩ := h
    unfold leastF
    by_cases c : kn ks 0 < 0
    · rw [if_pos c]
      exact ⟨by simp, by simp, by simp, fun x hx => by simp at hx; subst hx; simp, fun x hx => by simp at hx; subst hx; simp⟩
    · rw [if_neg c]
      obtain ⟨s1, s2, _, _⟩ := leastB_sm hs (dok_of ok) (ks := ks) (by omega)
      exact mergeM_sm s1 s2
  · rw [if_neg ok] at h
    subst h
    exact ⟨by simp, by simp, by simp, fun x hx => by simp at hx, fun x hx => by simp at hx⟩
theorem tc_FnLeastMany (b : List UInt8) : TC Try.prog 10 [.ro (b.map encU)] [] (.val (.bool true)) [] := by
  refine TC.enter Try.func10 rfl (by simp [Try.ntmps10]) rfl (tw_sound (ρ := []) ?_)
  rw [Try.ntmps10]
  by_cases hb0 : (1048576 : Int) < b.length
  · simp [hb0]
  have hb : b.length ≤ 1048576 := by omega
  simp [hb0]
  refine TWoH.callR (tcr_DrawLeastKinds b hb) callable_39 (by simp) ?_
  rintro r o ⟨d, hd, rfl, rfl⟩
  refine ⟨rfl, by simp, .inl (by simp), fun q hq => ?_⟩
  clear hq
  have hs := hd.sm
  obtain ⟨ks, hks⟩ := kindsR_ex d
  obtain ⟨m, hm, hme⟩ := leastR_ex hks
  have hsm := leastR_sm hs hm
  have hl2 := kindsR_len hks
  have t1 := tc_iLeastOf d hs m hm
  have t2 := tc_sLeastOf d hs m hm
  have t3 := tc_iLeastKindsR d hs ks hks
  have t4 := tc_sLeastKindsR d hs ks hks
  have t5 := tc_iDfaSame m m hsm hsm
  have t6 := tc_sDfaOk d hs
  simp [encDfa]
  refine gall_intro fun c hc => ?_
  simp [encDfa]
  refine TWoH.callV t1 callable_40 (by simp [encDfa]) (by simp) (by simp) (by simp) ?_
  simp [encDfa]
  refine gall_fresh [c] (by simp) fun c4 f4 => ?_
  simp [frF] at f4
  simp [encDfa, f4]
  refine TWoH.callV t3 callable_35 (by simp [encDfa]) (by simp) (by simp) (by simp) ?_
  simp
  refine TWcH.midB (ρ := []) (fun st => st.σ 3 = .pd c 0 0 0 ∧ st.H c = some (.box 27 (encDfa d)) ∧ st.σ 4 = .pd c4 0 0 0 ∧ st.H c4 = some (.box 27 (encDfa m)) ∧ st.σ 5 = .ro (ks.map encI) ∧ st.σ 40 = .val (.bool (! dfaOk d)))
    (.first 0 (.first 1 (.pick 2 (.pick 3 (.first 4 (.first 5 (.first 6 (.pick 7 (.pick 8 (.pick 9 (.pick 10 (.first 11 (.first 12 (.first 13 (.pick 14 (.pick 15 (.first 16 (.first 17 .fin)) .fin) .fin)))) .fin) .fin) .fin) (.pick 8 (.pick 7 (.pick 9 (.pick 10 (.first 11 (.first 12 (.first 13 (.pick 14 (.pick 15 (.first 16 (.first 17 .fin)) .fin) .fin)))) .fin) .fin) (.pick 9 (.pick 7 (.pick 10 (.first 11 (.first 12 (.first 13 (.pick 14 (.pick 15 (.first 16 (.first 17 .fin)) .fin) .fin)))) .fin) .fin) .fin)) .fin))))) .fin) .fin))) mixed (by kernel_rfl) ?_ ?_
  case refine_2 =>
    rintro ⟨σ, H⟩ ⟨h3, hC, h4, h4C, h5, h40⟩
    simp only at h3 hC h4 h4C h5 h40
    by_cases ok : dfaOk d = true
    case neg =>
      simp [h3, hC, h4, h4C, h5, h40, ok]
      refine TWoH.callV t4 callable_37 (by simp [encDfa, h3, hC, h5]) (by simp [h3, hC]) (by simp [h3, hC]) (by simp [h3, hC]) ?_
      simp [h3, hC, h4, h4C, h5, h40]
    have ho := dok_of ok
    have hmost := ho.most
    have hone := ho.one
    have hpl := hs.parts
    have hacc := ho.acc
    unfold kindsR at hks
    rw [if_pos ok] at hks
    have hkn := kinds_len hks
    have hml := hme ok
    obtain ⟨G, fs, g1, g2, g3, g4, g5⟩ := many_law hs ho hks
    rw [← hml] at g5
    have k1 : (d.rows.length : Int) ≤ 281474976710656 := by omega
    have k2 : (d.rows.length : Int) ≤ 9223372036854775807 := by omega
    have k3 : 0 < d.rows.length := by omega
    have k4 : (0 : Int) < d.rows.length := by omega
    simp [h3, hC, h4, h4C, h5, h40, ok, encDfa, k1, k2]
    clear k1 k2
    refine gall_fresh [c, c4] (by simp [hC, h4C, f4]) fun w fw => ?_
    simp [frF] at fw
    simp [h3, hC, h4, h4C, h5, h40, ok, encDfa, f4, fw, k3, k4]
    have hst : (List.replicate d.rows.length [TV.val (.bool false)]).set 0 [.val (.bool true)] = ((List.replicate d.rows.length false).set 0 true).map encB := by simp [List.map_set, encB]
    have start := Mt.start ho g2.1 g1
    simp only [hst]
    generalize (List.replicate d.rows.length false).set 0 true = B0 at *
    refine TWcH.loop [] (fun m1 st => ∃ (r : Nat) (B : List Bool), r + m1 = d.rows.length ∧ Mt d G fs r 0 0 B ∧ st.σ 7 = .val (.int .i64 r) ∧ st.σ 3 = .pd c 0 0 0 ∧ st.H c = some (.box 27 (encDfa d)) ∧ st.σ 4 = .pd c4 0 0 0 ∧ st.H c4 = some (.box 27 (encDfa m)) ∧ st.σ 5 = .ro (ks.map encI) ∧ st.σ 6 = .hd w ∧ st.H w = some (.own 4 (B.map encB))) d.rows.length ⟨0, B0, by simp [h3, hC, h4, h4C, h5, f4, fw, encDfa, start]⟩ ?_
    clear h3 hC h4 h4C h5 h40 start hst B0
    rintro m1 ⟨σ, H⟩ ⟨r, B, hrm, hM, h7, h3, hC, h4, h4C, h5, h6, hW⟩
    simp only [encDfa] at h7 h3 hC h4 h4C h5 h6 hW
    by_cases hr : r < d.rows.length
    · simp [h3, hC, h4, h4C, h5, h6, hW, h7, hr, encDfa]
      have hw7 : IntKind.i64.wrap ((r : Int) + 1) = r + 1 := wrapi (by omega)
      refine TWcH.loop [] (fun m2 st => ∃ (s : Nat) (B : List Bool), s + m2 = d.rows.length ∧ Mt d G fs r s 0 B ∧ st.σ 7 = .val (.int .i64 r) ∧ st.σ 8 = .val (.int .i64 s) ∧ st.σ 3 = .pd c 0 0 0 ∧ st.H c = some (.box 27 (encDfa d)) ∧ st.σ 4 = .pd c4 0 0 0 ∧ st.H c4 = some (.box 27 (encDfa m)) ∧ st.σ 5 = .ro (ks.map encI) ∧ st.σ 6 = .hd w ∧ st.H w = some (.own 4 (B.map encB))) d.rows.length ⟨0, B, by simp [h3, hC, h4, h4C, h5, h6, hW, h7, f4, fw, encDfa, hM]⟩ ?_
      clear h7 h3 hC h4 h4C h5 h6 hW hM B
      rintro m2 ⟨σ, H⟩ ⟨s, B, hsm2, hM, h7, h8, h3, hC, h4, h4C, h5, h6, hW⟩
      simp only [encDfa] at h7 h8 h3 hC h4 h4C h5 h6 hW
      by_cases hsn : s < d.rows.length
      · simp [h3, hC, h4, h4C, h5, h6, hW, h7, h8, hsn, encDfa]
        have hw8 : IntKind.i64.wrap ((s : Int) + 1) = s + 1 := wrapi (by omega)
        have hrow := ho.row s hsn
        refine TWcH.loop [] (fun m3 st => ∃ (k : Nat) (B : List Bool), k + m3 = d.parts.length ∧ Mt d G fs r s k B ∧ st.σ 7 = .val (.int .i64 r) ∧ st.σ 8 = .val (.int .i64 s) ∧ st.σ 9 = .val (.int .i64 k) ∧ st.σ 3 = .pd c 0 0 0 ∧ st.H c = some (.box 27 (encDfa d)) ∧ st.σ 4 = .pd c4 0 0 0 ∧ st.H c4 = some (.box 27 (encDfa m)) ∧ st.σ 5 = .ro (ks.map encI) ∧ st.σ 6 = .hd w ∧ st.H w = some (.own 4 (B.map encB))) d.parts.length ⟨0, B, by simp [h3, hC, h4, h4C, h5, h6, hW, h7, h8, f4, fw, encDfa, hM]⟩ ?_
        clear h7 h8 h3 hC h4 h4C h5 h6 hW hM B
        rintro m3 ⟨σ, H⟩ ⟨k, B, hkm, hM, h7, h8, h9, h3, hC, h4, h4C, h5, h6, hW⟩
        simp only [encDfa] at h7 h8 h9 h3 hC h4 h4C h5 h6 hW
        have hBl := hM.len
        have hsB : s < B.length := by omega
        have hBs : ∀ h, B[s]'h = mt B s := fun h => by unfold mt; rw [List.getElem?_eq_getElem h]; rfl
        have hBq : ∀ x, mt B s = x → B[s]? = some x := fun x h => by rw [List.getElem?_eq_getElem hsB, hBs, h]
        by_cases hk : k < d.parts.length
        · generalize hb : mt B s = q at hBs hBq
          cases q with
          | false =>
            simp [h3, hC, h4, h4C, h5, h6, hW, h7, h8, h9, hsn, hk, encDfa, hsB, hBs, encB, hw8]
            exact ⟨m2 - 1, by omega, s + 1, by omega, B, hM.next (.inr (hBq _ rfl)), by omega, rfl⟩
          | true =>
            have hkr : k < (rw_ d s).length := by omega
            have hw9 : IntKind.i64.wrap ((k : Int) + 1) = k + 1 := wrapi (by omega)
            obtain ⟨t, hat⟩ : ∃ t, ∀ h, (rw_ d s)[k]'h = t := ⟨(rw_ d s)[k]'hkr, fun _ => rfl⟩
            have hent := ho.ent s hsn t (by rw [← hat hkr]; exact List.getElem_mem hkr)
            have hpi : ∀ h, d.rows[s]'h = rw_ d s := fun _ => (rw_eq hsn).symm
            by_cases ht : 0 ≤ t
            · have htB : t < B.length := by omega
              have htBn : t.toNat < B.length := by omega
              have hnx := hM.set ho g4 hsn (hBq _ rfl) hkr (hat hkr) ht
              simp [h3, hC, h4, h4C, h5, h6, hW, h7, h8, h9, hsn, hk, encDfa, hsB, hBs, encB, hpi, encR, encI, hkr, hat, ht, htB, htBn, hw9]
              exact ⟨m3 - 1, by omega, k + 1, by omega, _, hnx, by omega, fw.1.2, fw.2.2, by rw [List.map_set]; rfl⟩
            · have hnx := hM.skip hkr (hat hkr) ht
              simp [h3, hC, h4, h4C, h5, h6, hW, h7, h8, h9, hsn, hk, encDfa, hsB, hBs, encB, hpi, encR, encI, hkr, hat, ht, hw9]
              exact ⟨m3 - 1, by omega, k + 1, by omega, _, hnx, by omega, rfl⟩
        · simp [h3, hC, h4, h4C, h5, h6, hW, h7, h8, h9, hsn, hk, encDfa, hw8]
          exact ⟨m2 - 1, by omega, s + 1, by omega, B, hM.next (.inl (by omega)), by omega, rfl⟩
      · simp [h3, hC, h4, h4C, h5, h6, hW, h7, h8, hsn, encDfa, hw7]
        exact ⟨m1 - 1, by omega, r + 1, by omega, B, hM.round g2 g3 (by omega), by omega, rfl⟩
    · simp [h3, hC, h4, h4C, h5, h6, hW, h7, hr, encDfa]
      have hf : Mt d G fs d.rows.length 0 0 B := by rw [show d.rows.length = r by omega]; exact hM
      have hlaw := g5 B hf
      clear hM
      refine TWcH.loop [] (fun m1 st => ∃ k : Nat, k + m1 = d.rows.length ∧ st.σ 10 = .val (.int .i64 (cntK B ks d.rows.length k)) ∧ st.σ 11 = .val (.int .i64 k) ∧ st.σ 3 = .pd c 0 0 0 ∧ st.H c = some (.box 27 (encDfa d)) ∧ st.σ 4 = .pd c4 0 0 0 ∧ st.H c4 = some (.box 27 (encDfa m)) ∧ st.σ 5 = .ro (ks.map encI) ∧ st.σ 6 = .hd w ∧ st.H w = some (.own 4 (B.map encB))) d.rows.length ⟨0, by simp [h3, hC, h4, h4C, h5, h6, hW, h7, f4, fw, encDfa, cntK]⟩ ?_
      clear h7 h3 hC h4 h4C h5 h6 hW
      rintro m1 ⟨σ, H⟩ ⟨k, hkm, h10, h11, h3, hC, h4, h4C, h5, h6, hW⟩
      simp only [encDfa] at h10 h11 h3 hC h4 h4C h5 h6 hW
      by_cases hk : k < d.rows.length
      · have hcs := cntK_succ (B := B) (ks := ks) (n := d.rows.length) (k := k)
        have hcl := cntK_le (B := B) (ks := ks) (n := d.rows.length) (k := k)
        generalize cntK B ks d.rows.length k = C at *
        have hw11 : IntKind.i64.wrap ((k : Int) + 1) = k + 1 := wrapi (by omega)
        have hw10 : IntKind.i64.wrap ((C : Int) + 1) = C + 1 := wrapi (by omega)
        simp [h3, hC, h4, h4C, h5, h6, hW, h10, h11, hk, encDfa]
        refine TWcH.loop [] (fun m2 st => ∃ s : Nat, s + m2 = d.rows.length ∧ st.σ 10 = .val (.int .i64 C) ∧ st.σ 11 = .val (.int .i64 k) ∧ st.σ 12 = .val (.bool (sK B ks k s)) ∧ st.σ 13 = .val (.int .i64 s) ∧ st.σ 3 = .pd c 0 0 0 ∧ st.H c = some (.box 27 (encDfa d)) ∧ st.σ 4 = .pd c4 0 0 0 ∧ st.H c4 = some (.box 27 (encDfa m)) ∧ st.σ 5 = .ro (ks.map encI) ∧ st.σ 6 = .hd w ∧ st.H w = some (.own 4 (B.map encB))) d.rows.length ⟨0, by simp [h3, hC, h4, h4C, h5, h6, hW, h10, h11, f4, fw, encDfa, sK_zero]⟩ ?_
        clear h10 h11 h3 hC h4 h4C h5 h6 hW
        rintro m2 ⟨σ, H⟩ ⟨s, hsm2, h10, h11, h12, h13, h3, hC, h4, h4C, h5, h6, hW⟩
        simp only [encDfa] at h10 h11 h12 h13 h3 hC h4 h4C h5 h6 hW
        by_cases hsn : s < d.rows.length
        · have hBl := hf.len
          have hsB : s < B.length := by omega
          have hsk : s < ks.length := by omega
          have hBs : ∀ h, B[s]'h = mt B s := fun h => by unfold mt; rw [List.getElem?_eq_getElem h]; rfl
          have hkv : ∀ h, ks[s]'h = kn ks s := fun h => (kn_eq h).symm
          have hw13 : IntKind.i64.wrap ((s : Int) + 1) = s + 1 := wrapi (by omega)
          have hsu := sK_succ (B := B) (ks := ks) (k := k) (s := s)
          generalize sK B ks k s = Q at *
          generalize mt B s = T at *
          cases Q with
          | true =>
            simp [h3, hC, h4, h4C, h5, h6, hW, h10, h11, h12, h13, hsn, encDfa, hw13]
            exact ⟨m2 - 1, by omega, s + 1, by omega, by rw [hsu]; rfl, by omega⟩
          | false =>
            cases T with
            | false =>
              simp [h3, hC, h4, h4C, h5, h6, hW, h10, h11, h12, h13, hsn, encDfa, hw13, hsB, hBs, encB]
              exact ⟨m2 - 1, by omega, s + 1, by omega, by rw [hsu]; rfl, by omega⟩
            | true =>
              simp [h3, hC, h4, h4C, h5, h6, hW, h10, h11, h12, h13, hsn, encDfa, hw13, hsB, hBs, encB, hsk, hkv, encI]
              exact ⟨m2 - 1, by omega, s + 1, by omega, by rw [hsu]; simp, by omega⟩
        · have e : s = d.rows.length := by omega
          subst e
          have hq : sK B ks k d.rows.length = someK B ks d.rows.length k := rfl
          rw [hq] at h12
          generalize someK B ks d.rows.length k = Q at *
          cases Q with
          | true =>
            simp [h3, hC, h4, h4C, h5, h6, hW, h10, h11, h12, h13, hsn, encDfa, hw10, hw11]
            exact ⟨m1 - 1, by omega, k + 1, by omega, by rw [hcs]; simp, by omega⟩
          | false =>
            simp [h3, hC, h4, h4C, h5, h6, hW, h10, h11, h12, h13, hsn, encDfa, hw10, hw11]
            exact ⟨m1 - 1, by omega, k + 1, by omega, by rw [hcs]; simp, by omega⟩
      · have e : k = d.rows.length := by omega
        subst e
        rcases hlaw with hl | ⟨hl, hl'⟩
        · simp [h3, hC, h4, h4C, h5, h6, hW, h10, h11, hk, encDfa, hl]
        · by_cases e2 : m.rows.length = cntK B ks d.rows.length d.rows.length
          · simp [h3, hC, h4, h4C, h5, h6, hW, h10, h11, hk, encDfa, e2]
          · simp [h3, hC, h4, h4C, h5, h6, hW, h10, h11, hk, encDfa, e2, hl, hl']
  simp [encDfa, f4]
  refine TWoH.callV t4 callable_37 (by simp [encDfa]) (by simp) (by simp) (by simp) ?_
  simp [encDfa, f4]
  repeat' (first
    | (refine TWoH.callV t2 callable_41 (by simp [encDfa]) (by simp) (by simp) (by simp) ?_
       simp [encDfa, f4])
    | (refine TWoH.callV t5 callable_28 (by simp [encDfa]) (by simp) (by simp) (by simp) ?_
       simp [encDfa, f4, bP])
    | (refine TWoH.callV t6 callable_13 (by simp [encDfa]) (by simp) (by simp) (by simp) ?_
       simp [encDfa, f4])
    | refine And.intro ?_ ?_)
end Go.Proofs.Ytibeeohnjabhkaa.R
