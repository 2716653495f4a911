/- Part 9: what the walk of the code stands on. Conditions: none but those that each theorem states. -/
import Derived.Test.YtibeeohnjabhkaaGreatK8
open Go Go.Proofs.YtibeeohnjabhkaaGreat.T
namespace Go.Proofs.YtibeeohnjabhkaaGreat.R
set_option maxHeartbeats 4000000
set_option maxRecDepth 100000
set_option linter.unusedSimpArgs false
set_option linter.unusedVariables false
attribute [local simp] bsV bsRows chunk fillT partsT appV makeV rowsOf cellsOf placeOf

theorem tc_iSetFirst (p : List (Int × Int)) (hl : p.length ≤ 1152921504606846976) : TC Tryz.prog 34 [.ro (p.map encS)] [] (.val (.int .i64 (firstS p))) [] := by
  refine TC.enter Tryz.func34 rfl (by simp [Tryz.ntmps34]) rfl (tw_sound (ρ := []) ?_)
  rw [Tryz.ntmps34]
  simp
  refine TWoH.callV (tc_bitsOf p hl) callable_28 (by simp) (by simp) (by simp) (by simp) ?_
  simp
  refine TWcH.loop [] (fun m s => ∃ i : Nat, i + m = 256 ∧ s.σ 6 = .agg (bitsT fun b => hasS p b) ∧ s.σ 7 = .val (.int .i64 i) ∧ firstS p = firstG (fun b => hasS p b) i) 256 ⟨0, by simp [firstS]⟩ ?_
  rintro m ⟨σ, H⟩ ⟨i, him, h6, h7, hh⟩
  simp only at h6 h7
  by_cases hi : i < 256
  · have hw : IntKind.i64.wrap ((i : Int) + 1) = i + 1 := wrapi (by omega)
    have hi2 : (i : Int) < 256 := by omega
    rw [firstG_next hi] at hh
    simp [h6, h7, hi, hi2, bitsT_at hi, bitsT_at', partTV]
    refine gif_intro (fun c => ?_) (fun c => ?_) <;> simp [h6, h7, hi2, c, hw]
    · rw [hh, if_pos c]
    · exact ⟨m - 1, by omega, i + 1, by omega, by omega, by rw [hh, if_neg c]⟩
  · obtain rfl : i = 256 := by omega
    simp [h6, h7, hh, firstG_end]
theorem tc_iAccOf (d : Dfa) (ho : DOk d) (s : Int) (hlt : s < d.rows.length) : TC Tryz.prog 33 [.agg (encDfa d), .val (.int .i64 s)] [] (.val (.int .i64 (acI d s))) [] := by
  refine TC.enter Tryz.func33 rfl (by simp [Tryz.ntmps33]) rfl (tw_sound (ρ := [2]) ?_)
  rw [Tryz.ntmps33]
  by_cases c : s < 0
  · simp [c, acI]
  have h0 : 0 ≤ s := by omega
  have hn : s.toNat < d.acc.length := by rw [ho.acc]; omega
  have hi : s < d.acc.length := by omega
  have hr : ∀ h, d.acc[s.toNat]'h = ac_ d s.toNat := fun _ => (ac_eq hn).symm
  simp [c, acI, encDfa, h0, hn, hi, hr, encI]
theorem tc_next (d : Dfa) (hs : DSm d) (ho : DOk d) (s : Int) (k : Nat) (hlt : s < d.rows.length) (hk : k < d.parts.length) : TC Tryz.prog 32 [.val (.int .i64 s), .val (.int .i64 k), .rptr (encDfa d) 0] [] (.val (.int .i64 (nx d s k))) [] := by
  refine TC.enter Tryz.func32 rfl (by simp [Tryz.ntmps32]) rfl (tw_sound (ρ := []) ?_)
  rw [Tryz.ntmps32]
  by_cases c : s < 0
  · simp [c, nx, encDfa]
  have h0 : 0 ≤ s := by omega
  have hn : s.toNat < d.rows.length := by omega
  have hr : ∀ h, d.rows[s.toNat]'h = rw_ d s.toNat := fun _ => (rw_eq hn).symm
  have hkr : k < (rw_ d s.toNat).length := by rw [ho.row _ hn]; exact hk
  simp [c, nx, encDfa, h0, hn, hlt, hr, encR, encI, hkr, getI hkr]
def encPr (p : Pr) : List TV := [.val (.int .i64 p.s), .val (.int .i64 p.t), .val (.string (bs p.w))]
def keyP (p : Pr) : Value := .agg #[.int .i64 p.s, .int .i64 p.t]
def seenP (ps : List Pr) : List (Value × Value) := ps.map fun p => (keyP p, .bool true)
theorem two87 : KLaw Tryz.prog 63 IsTwo := KLaw.two Tryz.underlying63 Tryz.underlying3 (by kernel_rfl) (fun w => by first | exact Tryz.isAgg3 w | exact Tryz.isAgg2 w | exact Tryz.isAgg4 w | exact Tryz.isAgg1 w | exact Tryz.isAgg5 w | exact Tryz.isAgg0 w | exact Tryz.isAgg6 w)
theorem seenP_two {ps : List Pr} : ∀ q ∈ seenP ps, IsTwo q.1 := by
  intro q hq
  obtain ⟨p, _, rfl⟩ := List.mem_map.1 hq
  exact ⟨_, _, rfl⟩
theorem seenP_hit {ps : List Pr} {x y : Int} (h : hadP ps x y = true) : ∃ q ∈ seenP ps, q.1 = .agg #[.int .i64 x, .int .i64 y] := by
  unfold hadP at h
  obtain ⟨p, hp, h⟩ := List.any_eq_true.1 h
  simp only [Bool.and_eq_true, decide_eq_true_eq] at h
  exact ⟨(keyP p, .bool true), List.mem_map.2 ⟨p, hp, rfl⟩, by simp [keyP, h]⟩
theorem seenP_miss {ps : List Pr} {x y : Int} (h : hadP ps x y = false) : ∀ q ∈ seenP ps, q.1 ≠ .agg #[.int .i64 x, .int .i64 y] := by
  intro q hq e
  obtain ⟨p, hp, rfl⟩ := List.mem_map.1 hq
  simp only [keyP, Value.agg.injEq] at e
  refine hadP_false h p hp ?_
  simpa using e
theorem seenP_val {ps : List Pr} {k : Value} : ∀ q ∈ seenP ps, q.1 = k → q.2 = .bool true := by
  intro q hq _
  obtain ⟨p, hp, rfl⟩ := List.mem_map.1 hq
  rfl
theorem tc_iLeastTwo (d : Dfa) (hs : DSm d) (s t : Int) : TC Tryz.prog 13 [.agg (encDfa d), .val (.int .i64 s), .val (.int .i64 t)] [] (.tup [.val (.bool (twoF d s t).1), .val (.string (bs (twoF d s t).2))]) [] := by
  refine TC.enter Tryz.func13 rfl (by simp [Tryz.ntmps13]) rfl (tw_sound (ρ := [3]) ?_)
  rw [Tryz.ntmps13]
  simp
  refine TWoH.callV (tc_iDfaOk d hs) callable_10 (by simp) (by simp) (by simp) (by simp) ?_
  cases c1 : dfaOk d
  · have hr : twoF d s t = (false, []) := by simp [twoF, c1]
    simp [hr]
  have ho := dok_of c1
  have hmost := ho.most
  have hone := ho.one
  have hw1 : IntKind.i64.wrap ((d.rows.length : Int) - 1) = d.rows.length - 1 := wrapi (by omega)
  simp [encDfa, hw1]
  refine TWoH.callV (tc_in s 0 (d.rows.length - 1)) callable_29 (by simp [hw1]) (by simp) (by simp) (by simp) ?_
  by_cases c2 : 0 ≤ s ∧ s ≤ (d.rows.length : Int) - 1
  case neg =>
    have hr : twoF d s t = (false, []) := by unfold twoF; rw [if_neg (by omega)]
    simp [hr, c2]
  simp [c2, hw1]
  refine TWoH.callV (tc_in t 0 (d.rows.length - 1)) callable_29 (by simp [hw1]) (by simp) (by simp) (by simp) ?_
  by_cases c4 : 0 ≤ t ∧ t ≤ (d.rows.length : Int) - 1
  case neg =>
    have hr : twoF d s t = (false, []) := by unfold twoF; rw [if_neg (by omega)]
    simp [hr, c2, c4]
  have c3' : 0 ≤ s ∧ s < d.rows.length := by omega
  have c5' : 0 ≤ t ∧ t < d.rows.length := by omega
  have hr : twoF d s t = twoGo d 1682 0 [⟨s, t, []⟩] := by unfold twoF; rw [if_pos ⟨c1, c3', c5'⟩]
  rw [hr]
  simp [c2, c4]
  refine TWoH.makeFunc ?_
  simp
  refine gall_intro fun ia hia => ?_
  simp
  refine TWoH.makeMap fun ib hib => ?_
  have nba : ¬ ib = ia := fun e => by rw [e] at hib; simp at hib
  have nab : ¬ ia = ib := fun e => nba e.symm
  simp [nab, nba]
  refine TWoH.insert ib [] (.agg #[.int .i64 s, .int .i64 t]) (.bool true) two87 Tryz.underlying64 (by simp) (by simp [nab, nba]) (by simp) ⟨s, t, rfl⟩ (by simp) (by simp) (by simp) ?_
  simp [nab, nba]
  refine TWcH.loop [3] (fun m st => ∃ (i : Nat) (ps : List Pr) (ia ib : Nat), i + m = 1682 ∧ PInv d ps ∧ twoGo d m i ps = twoGo d 1682 0 [⟨s, t, []⟩] ∧ st.σ 3 = .rptr (encDfa d) 0 ∧ st.σ 8 = .clo 32 [.rptr (encDfa d) 0] ∧ st.σ 9 = .hd ia ∧ st.H ia = some (.own 61 (ps.map encPr)) ∧ st.σ 10 = .hd ib ∧ st.H ib = some (.mp 64 (seenP ps)) ∧ ia ≠ ib ∧ st.σ 11 = .val (.int .i64 i)) 1682 ⟨0, [⟨s, t, []⟩], ia, ib, by simp [encDfa, encPr, seenP, keyP, nab, nba, PInv.start c3' c5']⟩ ?_
  clear nab nba hia hib
  clear ia ib
  rintro m ⟨σ, H⟩ ⟨i, ps, ia, ib, him, hI, hG, h3, h8, h9, hA, h10, hB, nab, h11⟩
  simp only at h3 h8 h9 hA h10 hB h11
  have hlen := hI.len ho
  have nba : ¬ ib = ia := fun e => nab e.symm
  by_cases hi : i < ps.length
  · have hw : IntKind.i64.wrap ((i : Int) + 1) = i + 1 := wrapi (by omega)
    obtain ⟨x, hx⟩ : ∃ x, ps[i]? = some x := ⟨ps[i], getI hi⟩
    have hat : ∀ h, ps[i]'h = x := fun h => by rw [getI h] at hx; simpa using hx
    have hxm := List.mem_of_getElem? hx
    have hxr := hI.rng x hxm
    obtain ⟨m, rfl⟩ : ∃ m', m = m' + 1 := ⟨m - 1, by omega⟩
    rw [twoGo_next hx] at hG
    simp [-List.map_append, h3, h8, h9, hA, h10, hB, h11, hi, hat, nab, nba, encPr]
    refine gall_intro fun ic hic => ?_
    have nca : ¬ ic = ia := fun e => by rw [e, hA] at hic; cases hic
    have ncb : ¬ ic = ib := fun e => by rw [e, hB] at hic; cases hic
    have nac : ¬ ia = ic := fun e => nca e.symm
    have nbc : ¬ ib = ic := fun e => ncb e.symm
    simp [-List.map_append, h3, h8, h9, hA, h10, hB, h11, hi, hat, nab, nba, nca, ncb, nac, nbc, encPr]
    refine TWcH.regionD (ρ := []) [0, 1, 2, 4, 5, 6, 3, 7, 8] 9 mixed (by kernel_rfl) ?_
    simp [-List.map_append, h3, h8, h9, hA, h10, hB, h11, nab, nba, nca, ncb, nac, nbc, encDfa]
    refine TWqH.callV (tc_iAccOf d ho x.s hxr.1.2) callable_33 (by simp [encDfa]) (by simp) (by simp) (by simp) ?_
    simp [-List.map_append, h3, h8, h9, hA, h10, hB, h11, nab, nba, nca, ncb, nac, nbc, encDfa]
    refine TWqH.callV (tc_iAccOf d ho x.t hxr.2.2) callable_33 (by simp [encDfa]) (by simp) (by simp) (by simp) ?_
    simp [-List.map_append, h3, h8, h9, hA, h10, hB, h11, nab, nba, nca, ncb, nac, nbc, encDfa]
    refine gif_intro (fun c6 => ?_) (fun c6 => ?_)
    case refine_2 =>
      rw [if_neg c6] at hG
      simp [c6]
      refine TWcH.regionD (ρ := []) [0, 1, 2, 3] 4 mixed (by kernel_rfl) ?_
      simp [-List.map_append, h3, h8, h9, hA, h10, hB, h11, nab, nba, nca, ncb, nac, nbc, ← hG]
    rw [if_pos c6] at hG
    simp [-List.map_append, c6, h3, h8, h9, hA, h10, hB, h11, nab, nba, nca, ncb, nac, nbc, encDfa]
    refine TWcH.loop [3] (fun m' st => ∃ (k : Nat) (ps' : List Pr) (ia : Nat), k + m' = d.parts.length ∧ PInv d ps' ∧ ps'[i]? = some x ∧ roundP d x k ps' = roundP d x 0 ps ∧ st.σ 3 = .rptr (encDfa d) 0 ∧ st.σ 8 = .clo 32 [.rptr (encDfa d) 0] ∧ st.σ 9 = .hd ia ∧ st.H ia = some (.own 61 (ps'.map encPr)) ∧ st.σ 10 = .hd ib ∧ st.H ib = some (.mp 64 (seenP ps')) ∧ st.σ 12 = .pd ic 0 0 0 ∧ st.H ic = some (.box 61 (encPr x)) ∧ ia ≠ ib ∧ ia ≠ ic ∧ st.σ 11 = .val (.int .i64 i) ∧ st.σ 70 = .ro (d.parts.map encP) ∧ st.σ 71 = .val (.int .i64 d.parts.length) ∧ st.σ 72 = .val (.int .i64 k)) d.parts.length ⟨0, ps, ia, by simp [h3, h8, h9, hA, h10, hB, h11, nab, nba, nca, ncb, nac, nbc, hI, hx, encDfa, encPr]⟩ ?_
    clear h3 h8 h9 hA h10 hB h11 nab nba nca nac hic
    clear ia σ H
    rintro m' ⟨σ, H⟩ ⟨k, ps', ia, hkm, hI', hx', hR, h3, h8, h9, hA, h10, hB, h12, hC, nab, nac, h11, h70, h71, h72⟩
    simp only at h3 h8 h9 hA h10 hB h12 hC h11 h70 h71 h72
    have hlen' := hI'.len ho
    have nba : ¬ ib = ia := fun e => nab e.symm
    have nca : ¬ ic = ia := fun e => nac e.symm
    have hpl := hs.parts
    have hxm' := List.mem_of_getElem? hx'
    by_cases hk : k < d.parts.length
    · have hwk : IntKind.i64.wrap ((k : Int) + 1) = k + 1 := wrapi (by omega)
      have hp : ∀ h, d.parts[k]'h = pt d.parts k := fun _ => (pt_eq hk).symm
      have hpkl : (pt d.parts k).length ≤ 1048576 := by rw [pt_eq hk]; exact hs.part _ (List.getElem_mem hk)
      obtain ⟨b, hb, hfb, _⟩ := first_part ho hk
      rw [roundP_next hk] at hR
      simp [-List.map_append, h3, h8, h9, hA, h10, hB, h12, hC, h11, h70, h71, h72, nab, nba, nca, ncb, nac, nbc, hk, encDfa, hp, encP]
      refine TWcH.regionD (ρ := []) [0, 1, 2, 3, 5, 6, 7, 8, 4, 9, 10, 11] 12 mixed (by kernel_rfl) ?_
      simp [-List.map_append, h3, h8, h9, hA, h10, hB, h12, hC, h11, h70, h71, h72, nab, nba, nca, ncb, nac, nbc, encPr]
      refine TWqH.callClo (c := 77) (f := 32) (caps := [.rptr (encDfa d) 0]) (by simp [-List.map_append, h3, h8, h9, hA, h10, hB, h12, hC, h11, h70, h71, h72, nab, nba, nca, ncb, nac, nbc, encDfa]) (tc_next d hs ho x.s k hxr.1.2 hk) callable_32 (by simp [-List.map_append, h3, h8, h9, hA, h10, hB, h12, hC, h11, h70, h71, h72, nab, nba, nca, ncb, nac, nbc, encPr, encDfa]) (by simp) (by simp) (by simp) ?_
      simp [-List.map_append, h3, h8, h9, hA, h10, hB, h12, hC, h11, h70, h71, h72, nab, nba, nca, ncb, nac, nbc, encPr]
      refine TWqH.callClo (c := 82) (f := 32) (caps := [.rptr (encDfa d) 0]) (by simp [-List.map_append, h3, h8, h9, hA, h10, hB, h12, hC, h11, h70, h71, h72, nab, nba, nca, ncb, nac, nbc, encDfa]) (tc_next d hs ho x.t k hxr.2.2 hk) callable_32 (by simp [-List.map_append, h3, h8, h9, hA, h10, hB, h12, hC, h11, h70, h71, h72, nab, nba, nca, ncb, nac, nbc, encPr, encDfa]) (by simp) (by simp) (by simp) ?_
      simp [-List.map_append, h3, h8, h9, hA, h10, hB, h12, hC, h11, h70, h71, h72, nab, nba, nca, ncb, nac, nbc, encPr]
      have hstep := hI'.step ho hxm' hk
      have hstep2 : (stepK d x ps' k)[i]? = some x := stepK_at hx'
      have hsd : stepK d x ps' k = if hadP ps' (nx d x.s k) (nx d x.t k) = true then ps' else ps' ++ [⟨nx d x.s k, nx d x.t k, x.w ++ [fb d k]⟩] := rfl
      have hfb2 : fb d k = UInt8.ofNat b := by unfold fb; rw [hfb]; simp
      rw [hfb2] at hsd
      generalize stepK d x ps' k = PS at hsd hstep hstep2 hR
      generalize nx d x.s k = X at hsd ⊢
      generalize nx d x.t k = Y at hsd ⊢
      cases c7 : hadP ps' X Y
      case true =>
        rw [c7] at hsd
        simp only [if_true] at hsd
        subst hsd
        refine TWoH.lookupHit ib (seenP PS) (.agg #[.int .i64 X, .int .i64 Y]) (.bool true) two87 Tryz.underlying64 (by simp [-List.map_append, h3, h8, h9, hA, h10, hB, h12, hC, h11, h70, h71, h72, nab, nba, nca, ncb, nac, nbc]) (by simp [-List.map_append, h3, h8, h9, hA, h10, hB, h12, hC, h11, h70, h71, h72, nab, nba, nca, ncb, nac, nbc]) (by simp) ⟨X, Y, rfl⟩ seenP_two (seenP_hit c7) seenP_val ?_
        simp [-List.map_append, h3, h8, h9, hA, h10, hB, h12, hC, h11, h70, h71, h72, nab, nba, nca, ncb, nac, nbc, hwk]
        exact ⟨m' - 1, by omega, k + 1, by omega, PS, hstep, hstep2, hR, by simp [encPr, encDfa]⟩
      rw [c7] at hsd
      simp only [Bool.false_eq_true, if_false] at hsd
      refine TWoH.lookupMiss ib (seenP ps') (.agg #[.int .i64 X, .int .i64 Y]) (.bool false) two87 Tryz.underlying64 (by kernel_rfl) (by simp [-List.map_append, h3, h8, h9, hA, h10, hB, h12, hC, h11, h70, h71, h72, nab, nba, nca, ncb, nac, nbc]) (by simp [-List.map_append, h3, h8, h9, hA, h10, hB, h12, hC, h11, h70, h71, h72, nab, nba, nca, ncb, nac, nbc]) (by simp) ⟨X, Y, rfl⟩ seenP_two (seenP_miss c7) ?_
      simp [-List.map_append, h3, h8, h9, hA, h10, hB, h12, hC, h11, h70, h71, h72, nab, nba, nca, ncb, nac, nbc]
      refine TWoH.mapUpdate ib (seenP ps') (.agg #[.int .i64 X, .int .i64 Y]) (.bool true) two87 Tryz.underlying64 (by simp [-List.map_append, h3, h8, h9, hA, h10, hB, h12, hC, h11, h70, h71, h72, nab, nba, nca, ncb, nac, nbc]) (by simp [-List.map_append, h3, h8, h9, hA, h10, hB, h12, hC, h11, h70, h71, h72, nab, nba, nca, ncb, nac, nbc]) (by simp) ⟨X, Y, rfl⟩ seenP_two (seenP_miss c7) (by simp) ?_
      simp [-List.map_append, h3, h8, h9, hA, h10, hB, h12, hC, h11, h70, h71, h72, nab, nba, nca, ncb, nac, nbc]
      have hwl := hI'.wl x hxm'
      have kx : x.w.length ≤ 9223372036854775806 := by omega
      have kx2 : ¬ (9223372036854775807 : Int) < x.w.length + 1 := by omega
      have kb2 : (b : Int).toNat = b := by omega
      have kb : IntKind.u8.wrap (b : Int) = b := by unfold IntKind.wrap; simp [IntKind.bits, IntKind.signed]; omega
      have k1 : (ps'.length + 1) * 32 ≤ 140737488355328 := by omega
      have k2 : ps'.length ≤ 9223372036854775806 := by omega
      refine TWcH.regionD (ρ := []) [0, 1, 2, 3, 4, 5, 6, 7, 8, 9, 10, 11, 12, 13, 14] 15 mixed (by kernel_rfl) ?_
      simp [-List.map_append, h3, h8, h9, hA, h10, hB, h12, hC, h11, h70, h71, h72, nab, nba, nca, ncb, nac, nbc, encPr]
      refine TWqH.callV (tc_iSetFirst (pt d.parts k) (by omega)) callable_34 (by simp [-List.map_append, h3, h8, h9, hA, h10, hB, h12, hC, h11, h70, h71, h72, nab, nba, nca, ncb, nac, nbc, encP]) (by simp) (by simp) (by simp) ?_
      rw [hfb]
      simp [-List.map_append, h3, h8, h9, hA, h10, hB, h12, hC, h11, h70, h71, h72, nab, nba, nca, ncb, nac, nbc, encPr, kb, kb2, kx, kx2, k1, k2]
      refine gall_intro fun i1 hi1 => ?_
      have f_i1_ia : ¬ i1 = ia := fun e => by rw [e] at hi1; simp [delo, del, -List.map_append, h3, h8, h9, hA, h10, hB, h12, hC, h11, h70, h71, h72, nab, nba, nca, ncb, nac, nbc, encPr, kb, kb2, kx, kx2, k1, k2, hA] at hi1
      have g_i1_ia : ¬ ia = i1 := fun e => f_i1_ia e.symm
      have f_i1_ib : ¬ i1 = ib := fun e => by rw [e] at hi1; simp [delo, del, -List.map_append, h3, h8, h9, hA, h10, hB, h12, hC, h11, h70, h71, h72, nab, nba, nca, ncb, nac, nbc, encPr, kb, kb2, kx, kx2, k1, k2, hB] at hi1
      have g_i1_ib : ¬ ib = i1 := fun e => f_i1_ib e.symm
      have f_i1_ic : ¬ i1 = ic := fun e => by rw [e] at hi1; simp [delo, del, -List.map_append, h3, h8, h9, hA, h10, hB, h12, hC, h11, h70, h71, h72, nab, nba, nca, ncb, nac, nbc, encPr, kb, kb2, kx, kx2, k1, k2, hC] at hi1
      have g_i1_ic : ¬ ic = i1 := fun e => f_i1_ic e.symm
      simp [delo, del, -List.map_append, h3, h8, h9, hA, h10, hB, h12, hC, h11, h70, h71, h72, nab, nba, nca, ncb, nac, nbc, encPr, kb, kb2, kx, kx2, k1, k2, f_i1_ia, g_i1_ia, f_i1_ib, g_i1_ib, f_i1_ic, g_i1_ic]
      refine gall_intro fun i2 hi2 => ?_
      have f_i2_i1 : ¬ i2 = i1 := fun e => by rw [e] at hi2; simp [delo, del, -List.map_append, h3, h8, h9, hA, h10, hB, h12, hC, h11, h70, h71, h72, nab, nba, nca, ncb, nac, nbc, encPr, kb, kb2, kx, kx2, k1, k2, f_i1_ia, g_i1_ia, f_i1_ib, g_i1_ib, f_i1_ic, g_i1_ic] at hi2
      have g_i2_i1 : ¬ i1 = i2 := fun e => f_i2_i1 e.symm
      have f_i2_ia : ¬ i2 = ia := fun e => by rw [e] at hi2; simp [delo, del, -List.map_append, h3, h8, h9, hA, h10, hB, h12, hC, h11, h70, h71, h72, nab, nba, nca, ncb, nac, nbc, encPr, kb, kb2, kx, kx2, k1, k2, f_i1_ia, g_i1_ia, f_i1_ib, g_i1_ib, f_i1_ic, g_i1_ic, hA] at hi2
      have g_i2_ia : ¬ ia = i2 := fun e => f_i2_ia e.symm
      have f_i2_ib : ¬ i2 = ib := fun e => by rw [e] at hi2; simp [delo, del, -List.map_append, h3, h8, h9, hA, h10, hB, h12, hC, h11, h70, h71, h72, nab, nba, nca, ncb, nac, nbc, encPr, kb, kb2, kx, kx2, k1, k2, f_i1_ia, g_i1_ia, f_i1_ib, g_i1_ib, f_i1_ic, g_i1_ic, hB] at hi2
      have g_i2_ib : ¬ ib = i2 := fun e => f_i2_ib e.symm
      have f_i2_ic : ¬ i2 = ic := fun e => by rw [e] at hi2; simp [delo, del, -List.map_append, h3, h8, h9, hA, h10, hB, h12, hC, h11, h70, h71, h72, nab, nba, nca, ncb, nac, nbc, encPr, kb, kb2, kx, kx2, k1, k2, f_i1_ia, g_i1_ia, f_i1_ib, g_i1_ib, f_i1_ic, g_i1_ic, hC] at hi2
      have g_i2_ic : ¬ ic = i2 := fun e => f_i2_ic e.symm
      simp [delo, del, -List.map_append, h3, h8, h9, hA, h10, hB, h12, hC, h11, h70, h71, h72, nab, nba, nca, ncb, nac, nbc, encPr, kb, kb2, kx, kx2, k1, k2, f_i1_ia, g_i1_ia, f_i1_ib, g_i1_ib, f_i1_ic, g_i1_ic, f_i2_i1, g_i2_i1, f_i2_ia, g_i2_ia, f_i2_ib, g_i2_ib, f_i2_ic, g_i2_ic]
      refine gall_intro fun i3 hi3 => ?_
      have f_i3_i1 : ¬ i3 = i1 := fun e => by rw [e] at hi3; simp [delo, del, -List.map_append, h3, h8, h9, hA, h10, hB, h12, hC, h11, h70, h71, h72, nab, nba, nca, ncb, nac, nbc, encPr, kb, kb2, kx, kx2, k1, k2, f_i1_ia, g_i1_ia, f_i1_ib, g_i1_ib, f_i1_ic, g_i1_ic, f_i2_i1, g_i2_i1, f_i2_ia, g_i2_ia, f_i2_ib, g_i2_ib, f_i2_ic, g_i2_ic] at hi3
      have g_i3_i1 : ¬ i1 = i3 := fun e => f_i3_i1 e.symm
      have f_i3_i2 : ¬ i3 = i2 := fun e => by rw [e] at hi3; simp [delo, del, -List.map_append, h3, h8, h9, hA, h10, hB, h12, hC, h11, h70, h71, h72, nab, nba, nca, ncb, nac, nbc, encPr, kb, kb2, kx, kx2, k1, k2, f_i1_ia, g_i1_ia, f_i1_ib, g_i1_ib, f_i1_ic, g_i1_ic, f_i2_i1, g_i2_i1, f_i2_ia, g_i2_ia, f_i2_ib, g_i2_ib, f_i2_ic, g_i2_ic] at hi3
      have g_i3_i2 : ¬ i2 = i3 := fun e => f_i3_i2 e.symm
      have f_i3_ib : ¬ i3 = ib := fun e => by rw [e] at hi3; simp [delo, del, -List.map_append, h3, h8, h9, hA, h10, hB, h12, hC, h11, h70, h71, h72, nab, nba, nca, ncb, nac, nbc, encPr, kb, kb2, kx, kx2, k1, k2, f_i1_ia, g_i1_ia, f_i1_ib, g_i1_ib, f_i1_ic, g_i1_ic, f_i2_i1, g_i2_i1, f_i2_ia, g_i2_ia, f_i2_ib, g_i2_ib, f_i2_ic, g_i2_ic, hB] at hi3
      have g_i3_ib : ¬ ib = i3 := fun e => f_i3_ib e.symm
      have f_i3_ic : ¬ i3 = ic := fun e => by rw [e] at hi3; simp [delo, del, -List.map_append, h3, h8, h9, hA, h10, hB, h12, hC, h11, h70, h71, h72, nab, nba, nca, ncb, nac, nbc, encPr, kb, kb2, kx, kx2, k1, k2, f_i1_ia, g_i1_ia, f_i1_ib, g_i1_ib, f_i1_ic, g_i1_ic, f_i2_i1, g_i2_i1, f_i2_ia, g_i2_ia, f_i2_ib, g_i2_ib, f_i2_ic, g_i2_ic, hC] at hi3
      have g_i3_ic : ¬ ic = i3 := fun e => f_i3_ic e.symm
      simp [delo, del, -List.map_append, h3, h8, h9, hA, h10, hB, h12, hC, h11, h70, h71, h72, nab, nba, nca, ncb, nac, nbc, encPr, kb, kb2, kx, kx2, k1, k2, f_i1_ia, g_i1_ia, f_i1_ib, g_i1_ib, f_i1_ic, g_i1_ic, f_i2_i1, g_i2_i1, f_i2_ia, g_i2_ia, f_i2_ib, g_i2_ib, f_i2_ic, g_i2_ic, f_i3_i1, g_i3_i1, f_i3_i2, g_i3_i2, f_i3_ib, g_i3_ib, f_i3_ic, g_i3_ic]
      exact ⟨m' - 1, by omega, k + 1, by omega, PS, hstep, hstep2, hR, rfl, by rw [hsd]; simp [encPr], by rw [hsd]; simp [seenP, keyP], hwk⟩
    · rw [roundP_end hk] at hR
      subst hR
      simp [-List.map_append, h3, h8, h9, hA, h10, hB, h12, hC, h11, h70, h71, h72, nab, nba, nca, ncb, nac, nbc, hk, hw]
      exact ⟨m, by omega, i + 1, by omega, _, hI', hG, by simp [encPr, encDfa, nab]⟩
  · rw [twoGo_end hi] at hG
    simp [h3, h8, h9, hA, h10, hB, h11, hi, ← hG]
end Go.Proofs.YtibeeohnjabhkaaGreat.R

open Go Go.Proofs.YtibeeohnjabhkaaGreat.T
namespace Go.Proofs.YtibeeohnjabhkaaGreat.R
set_option maxHeartbeats 4000000
set_option maxRecDepth 100000
set_option linter.unusedSimpArgs false
set_option linter.unusedVariables false
attribute [local simp] bsV bsRows chunk fillT partsT appV makeV rowsOf cellsOf placeOf

end Go.Proofs.YtibeeohnjabhkaaGreat.R

open Go Go.Proofs.YtibeeohnjabhkaaGreat.T
namespace Go.Proofs.YtibeeohnjabhkaaGreat.R
set_option maxHeartbeats 4000000
set_option maxRecDepth 100000
set_option linter.unusedSimpArgs false
set_option linter.unusedVariables false
theorem numb_keep {R : Nat → Nat → Bool} {L : Nat → Bool} {s : Nat} : ∀ n, s < n → kn (numb R L n).1 s = kn (numb R L (s + 1)).1 s
  | 0, h => by omega
  | n + 1, h => by
    by_cases e : s = n
    · rw [e]
    · rw [numb_old (by omega)]; exact numb_keep n (by omega)
theorem numb_new {R : Nat → Nat → Bool} {L : Nat → Bool} {n m : Nat} {x : Int} (h : numb R L (n + 1) = ((numb R L n).1 ++ [x], m)) : kn (numb R L (n + 1)).1 n = x := by
  have hl := numb_len R L n
  rw [h]; unfold kn
  rw [List.getElem?_append_right (by omega), hl, Nat.sub_self]; rfl
/-- Numbers come in order: each is at most one more than the greatest ahead of it. -/
theorem numb_top {d : Dfa} (ho : DOk d) {R : Nat → Nat → Bool} {L : Nat → Bool} (h1 : ∀ s t, s < d.rows.length → t < s → Live d s → (R s t = true ↔ ¬ Apart d s t)) (h2 : ∀ s, s < d.rows.length → (L s = true ↔ Live d s)) : ∀ n, n ≤ d.rows.length →
    (∀ s, s < n → (Live d s → 0 ≤ kn (numb R L n).1 s) ∧ (¬ Live d s → kn (numb R L n).1 s = -1) ∧ kn (numb R L n).1 s < (numb R L n).2)
  | 0, _ => fun s h => by omega
  | n + 1, hn => by
    have ih := numb_top ho h1 h2 n (by omega)
    by_cases c : L n = true
    · have lc := (h2 n (by omega)).1 c
      cases hf : (List.range n).find? (R n) with
      | some t =>
        have e : numb R L (n + 1) = ((numb R L n).1 ++ [((numb R L n).1[t]?).getD 0], (numb R L n).2) := by rw [numb_succ, if_pos c, hf]
        have ht : t < n := List.mem_range.1 (List.mem_of_find?_eq_some hf)
        have hR : R n t = true := List.find?_some hf
        have hLt : Live d t := live_same ho (by omega) ((h1 n t (by omega) ht lc).1 hR) lc
        have hl := numb_len R L n
        have hkt : ((numb R L n).1[t]?).getD 0 = kn (numb R L n).1 t := by
          unfold kn; rw [List.getElem?_eq_getElem (by omega)]; rfl
        have hkn := numb_new e
        rw [hkt] at hkn
        have hm : (numb R L (n + 1)).2 = (numb R L n).2 := by rw [e]
        intro s hs
        by_cases x : s = n
        · subst x; rw [hkn, hm]; exact ⟨fun _ => (ih t ht).1 hLt, fun h => absurd lc h, (ih t ht).2.2⟩
        · rw [numb_old (by omega), hm]; exact ih s (by omega)
      | none =>
        have e : numb R L (n + 1) = ((numb R L n).1 ++ [((numb R L n).2 : Int)], (numb R L n).2 + 1) := by rw [numb_succ, if_pos c, hf]
        have hkn := numb_new e
        have hm : (numb R L (n + 1)).2 = (numb R L n).2 + 1 := by rw [e]
        intro s hs
        by_cases x : s = n
        · subst x; rw [hkn, hm]; exact ⟨fun _ => by omega, fun h => absurd lc h, by omega⟩
        · rw [numb_old (by omega), hm]; have := ih s (by omega); exact ⟨this.1, this.2.1, by omega⟩
    · have e : numb R L (n + 1) = ((numb R L n).1 ++ [-1], (numb R L n).2) := by rw [numb_succ, if_neg c]
      have hkn := numb_new e
      have hm : (numb R L (n + 1)).2 = (numb R L n).2 := by rw [e]
      have lc : ¬ Live d n := fun h => c ((h2 n (by omega)).2 h)
      intro s hs
      by_cases x : s = n
      · subst x; rw [hkn, hm]; exact ⟨fun h => absurd h lc, fun _ => rfl, by omega⟩
      · rw [numb_old (by omega), hm]; exact ih s (by omega)
/-- The greatest number of the first states (tp s - 1), as the law counts it. -/
theorem kinds_top {d : Dfa} (ho : DOk d) {bl : List Bool} {ks : List Int} (hl : IsLive d bl) (hk : IsKinds d ks) : ∃ tp : Nat → Nat, tp 0 = 0 ∧ (∀ s, s ≤ d.rows.length → tp s ≤ s) ∧ ∀ s, s < d.rows.length → (lv bl s = true ↔ 0 ≤ kn ks s) ∧ -1 ≤ kn ks s ∧ kn ks s ≤ tp s ∧ (tp (s + 1) : Int) - 1 = if (tp s : Int) - 1 < kn ks s then kn ks s else (tp s : Int) - 1 := by
  obtain ⟨R, L, h1, h2, rfl⟩ := hk
  refine ⟨fun s => (numb R L s).2, rfl, ?_, fun s hs => ?_⟩
  · intro s
    induction s with
    | zero => intro _; exact Nat.le_refl 0
    | succ s ih =>
      intro h
      have : (numb R L s).2 ≤ s := ih (by omega)
      show (numb R L (s + 1)).2 ≤ s + 1
      rw [numb_succ]
      split
      · split <;> simp <;> omega
      · simp; omega
  rw [numb_keep _ hs]
  have top := numb_top ho h1 h2 (s + 1) (by omega) s (by omega)
  have hb : -1 ≤ kn (numb R L (s + 1)).1 s := by
    by_cases c : Live d s
    · have := top.1 c; omega
    · rw [top.2.1 c]; exact Int.le_refl _
  refine ⟨?_, hb, ?_⟩
  · rw [hl.iff s hs]
    constructor
    · exact top.1
    · intro h
      apply Classical.byContradiction
      intro c
      have := top.2.1 c
      omega
  · show kn (numb R L (s + 1)).1 s ≤ ((numb R L s).2 : Int) ∧ ((numb R L (s + 1)).2 : Int) - 1 = if ((numb R L s).2 : Int) - 1 < kn (numb R L (s + 1)).1 s then kn (numb R L (s + 1)).1 s else ((numb R L s).2 : Int) - 1
    by_cases c : L s = true
    · cases hf : (List.range s).find? (R s) with
      | some t =>
        have e : numb R L (s + 1) = ((numb R L s).1 ++ [((numb R L s).1[t]?).getD 0], (numb R L s).2) := by rw [numb_succ, if_pos c, hf]
        have hm : (numb R L (s + 1)).2 = (numb R L s).2 := by rw [e]
        have h3 := top.2.2
        rw [hm] at h3 ⊢
        rw [if_neg (by omega)]
        exact ⟨by omega, rfl⟩
      | none =>
        have e : numb R L (s + 1) = ((numb R L s).1 ++ [((numb R L s).2 : Int)], (numb R L s).2 + 1) := by rw [numb_succ, if_pos c, hf]
        have hm : (numb R L (s + 1)).2 = (numb R L s).2 + 1 := by rw [e]
        rw [numb_new e, hm, if_pos (by omega)]
        exact ⟨by omega, by omega⟩
    · have e : numb R L (s + 1) = ((numb R L s).1 ++ [-1], (numb R L s).2) := by rw [numb_succ, if_neg c]
      have hm : (numb R L (s + 1)).2 = (numb R L s).2 := by rw [e]
      rw [numb_new e, hm, if_neg (by omega)]
      exact ⟨by omega, rfl⟩
/-- Live is a fixpoint. -/
theorem live_fix {d : Dfa} {bl : List Bool} (hl : IsLive d bl) {s : Nat} (hs : s < d.rows.length) : isL d bl s = lv bl s := by
  have so : SoundL d bl := by
    intro j hj
    by_cases h : j < d.rows.length
    · exact (hl.iff j h).1 hj
    · have := hl.len
      simp [lv, List.getElem?_eq_none (show bl.length ≤ j by omega)] at hj
  rw [Bool.eq_iff_iff]
  constructor
  · intro h; exact (hl.iff s hs).2 (sound_step so hs h)
  · intro h
    have := (hl.iff s hs).1 h
    simp only [isL, Bool.or_eq_true, decide_eq_true_eq, List.any_eq_true, isT, Bool.and_eq_true]
    cases this with
    | acc _ _ h => exact .inl h
    | step _ _ t ht h0 h => exact .inr ⟨t, ht, h0, (hl.iff _ (live_lt h)).2 h⟩
end Go.Proofs.YtibeeohnjabhkaaGreat.R

open Go Go.Proofs.YtibeeohnjabhkaaGreat.T
namespace Go.Proofs.YtibeeohnjabhkaaGreat.R
set_option maxHeartbeats 4000000
set_option maxRecDepth 100000
set_option linter.unusedSimpArgs false
set_option linter.unusedVariables false
/-- A state as apart names it: none is the last one. -/
def ix (d : Dfa) (s : Int) : Nat := if s < 0 then d.rows.length else s.toNat
theorem ix_le {d : Dfa} {s : Int} (h : s < d.rows.length) : ix d s ≤ d.rows.length := by
  unfold ix; split <;> omega
theorem dl_ix {d : Dfa} {s : Int} (h : s < d.rows.length) {k : Nat} : dl d (ix d s) k = ix d (nx d s k) := by
  unfold ix nx dl
  by_cases c : s < 0
  · simp [c]
  · have e : ¬ s.toNat = d.rows.length := by omega
    simp [c, e]
theorem acX_ix {d : Dfa} {s : Int} (h : s < d.rows.length) : acX d (ix d s) = acI d s := by
  unfold acX ix acI
  by_cases c : s < 0
  · simp [c]
  · have e : ¬ s.toNat = d.rows.length := by omega
    simp [c, e]
theorem nx_next {d : Dfa} (ho : DOk d) {s : Int} {k b : Nat} (hs : -1 ≤ s) (hk : k < d.parts.length) (hb : b < 256) (h : hasS (pt d.parts k) b = true) : nx d s k = if s < 0 then s else nextF d s.toNat b := by
  unfold nx
  by_cases c : s < 0
  · rw [if_pos c, if_pos c]; omega
  · rw [if_neg c, if_neg c, next_of_has (partsFrom_of ho.parts) hk hb h]
theorem nx_run {d : Dfa} (ho : DOk d) {s : Int} {k : Nat} (hs : -1 ≤ s) (hk : k < d.parts.length) : runGo d [fb d k] s = nx d s k := by
  obtain ⟨b, hb, h1, h2⟩ := first_part ho hk
  have e : (fb d k).toNat = b := by
    unfold fb; rw [h1]; simp; omega
  rw [nx_next ho hs hk hb h2]
  unfold runGo
  rw [e]; rfl
/-- What is not apart comes to the same by every text. -/
theorem same_run {d : Dfa} (ho : DOk d) : ∀ (w : List UInt8) (s t : Int), (-1 ≤ s ∧ s < d.rows.length) → (-1 ≤ t ∧ t < d.rows.length) → ¬ Apart d (ix d s) (ix d t) → acI d (runGo d w s) = acI d (runGo d w t)
  | [], s, t, hs, ht, h => by
    rw [← acX_ix (by exact hs.2), ← acX_ix (by exact ht.2)]
    apply Classical.byContradiction
    intro c
    exact h (.acc _ _ (ix_le hs.2) (ix_le ht.2) c)
  | c :: w, s, t, hs, ht, h => by
    obtain ⟨k, hk, hh⟩ := parts_at ho.parts c.toNat_lt
    have e1 : runGo d (c :: w) s = runGo d w (nx d s k) := by
      rw [nx_next ho hs.1 hk c.toNat_lt hh, runGo]
      by_cases g : s < 0
      · rw [if_pos g, if_pos g, runGo_neg g]
      · rw [if_neg g, if_neg g]
    have e2 : runGo d (c :: w) t = runGo d w (nx d t k) := by
      rw [nx_next ho ht.1 hk c.toNat_lt hh, runGo]
      by_cases g : t < 0
      · rw [if_pos g, if_pos g, runGo_neg g]
      · rw [if_neg g, if_neg g]
    rw [e1, e2]
    refine same_run ho w _ _ (nx_ok ho hs.2 hk) (nx_ok ho ht.2 hk) fun a => h ?_
    rw [← dl_ix hs.2, ← dl_ix ht.2] at a
    exact .step _ _ k (ix_le hs.2) (ix_le ht.2) hk a
structure TInv (d : Dfa) (s t : Int) (i : Nat) (ps : List Pr) : Prop where
  pinv : PInv d ps
  st : ∃ p ∈ ps, p.s = s ∧ p.t = t
  old : ∀ j p, j < i → ps[j]? = some p → acI d p.s = acI d p.t ∧ ∀ k, k < d.parts.length → ∃ q ∈ ps, q.s = nx d p.s k ∧ q.t = nx d p.t k
  run : ∀ p ∈ ps, runGo d p.w s = p.s ∧ runGo d p.w t = p.t
theorem stepK_sub {d : Dfa} {x p : Pr} {ps : List Pr} {k : Nat} (h : p ∈ ps) : p ∈ stepK d x ps k := by
  unfold stepK
  split
  · exact h
  · exact List.mem_append_left _ h
theorem stepK_new {d : Dfa} {x : Pr} {ps : List Pr} {k : Nat} : ∃ q ∈ stepK d x ps k, q.s = nx d x.s k ∧ q.t = nx d x.t k := by
  unfold stepK
  by_cases c : hadP ps (nx d x.s k) (nx d x.t k) = true
  · rw [if_pos c]
    unfold hadP at c
    rw [List.any_eq_true] at c
    obtain ⟨q, hq, h⟩ := c
    simp only [Bool.and_eq_true, decide_eq_true_eq] at h
    exact ⟨q, hq, h⟩
  · rw [if_neg c]
    exact ⟨⟨nx d x.s k, nx d x.t k, x.w ++ [fb d k]⟩, List.mem_append_right _ (List.mem_singleton.2 rfl), rfl, rfl⟩
theorem stepK_old {d : Dfa} {x p : Pr} {ps : List Pr} {k j : Nat} (hj : j < ps.length) (h : (stepK d x ps k)[j]? = some p) : ps[j]? = some p := by
  rw [List.getElem?_eq_getElem hj]
  rw [stepK_at (List.getElem?_eq_getElem hj)] at h
  exact h
theorem TInv.step {d : Dfa} (ho : DOk d) {s t : Int} {i : Nat} {ps : List Pr} (h : TInv d s t i ps) {x : Pr} (hx : ps[i]? = some x) {k : Nat} (hk : k < d.parts.length) : TInv d s t i (stepK d x ps k) := by
  have hm : x ∈ ps := List.mem_of_getElem? hx
  obtain ⟨hi, _⟩ := List.getElem?_eq_some_iff.1 hx
  refine ⟨h.pinv.step ho hm hk, ?_, ?_, ?_⟩
  · obtain ⟨p, hp, e⟩ := h.st
    exact ⟨p, stepK_sub hp, e⟩
  · intro j p hj hp
    have := h.old j p hj (stepK_old (by omega) hp)
    exact ⟨this.1, fun k hk => by obtain ⟨q, hq, e⟩ := this.2 k hk; exact ⟨q, stepK_sub hq, e⟩⟩
  · intro p hp
    unfold stepK at hp
    split at hp
    · exact h.run p hp
    · rcases List.mem_append.1 hp with hp | hp
      · exact h.run p hp
      · simp only [List.mem_singleton] at hp
        subst hp
        have hr := h.pinv.rng x hm
        have hw := h.run x hm
        simp only
        rw [runGo_app, runGo_app, hw.1, hw.2]
        exact ⟨nx_run ho hr.1.1 hk, nx_run ho hr.2.1 hk⟩
theorem TInv.round {d : Dfa} (ho : DOk d) {s t : Int} {i : Nat} {x : Pr} (hac : acI d x.s = acI d x.t) : ∀ (m k : Nat) (ps : List Pr), k + m = d.parts.length → TInv d s t i ps → ps[i]? = some x → (∀ k', k' < k → ∃ q ∈ ps, q.s = nx d x.s k' ∧ q.t = nx d x.t k') → TInv d s t (i + 1) (roundP d x k ps)
  | 0, k, ps, hm, h, hx, hd => by
    rw [roundP_end (by omega)]
    refine ⟨h.pinv, h.st, fun j p hj hp => ?_, h.run⟩
    by_cases e : j = i
    · subst e
      rw [hx] at hp
      cases hp
      exact ⟨hac, fun k' hk' => hd k' (by omega)⟩
    · exact h.old j p (by omega) hp
  | m + 1, k, ps, hm, h, hx, hd => by
    rw [roundP_next (by omega)]
    refine TInv.round ho hac m (k + 1) _ (by omega) (h.step ho hx (by omega)) (stepK_at hx) fun k' hk' => ?_
    by_cases e : k' = k
    · subst e; exact stepK_new
    · obtain ⟨q, hq, e⟩ := hd k' (by omega); exact ⟨q, stepK_sub hq, e⟩
theorem twoGo_ok {d : Dfa} (ho : DOk d) {s t : Int} : ∀ (f i : Nat) (ps : List Pr), f + i = 1682 → TInv d s t i ps → (twoGo d f i ps).2.length ≤ 1681 ∧
    ((twoGo d f i ps).1 = true → (twoGo d f i ps).2 = [] ∧ ∃ qs, TInv d s t qs.length qs) ∧ ((twoGo d f i ps).1 = false → acI d (runGo d (twoGo d f i ps).2 s) ≠ acI d (runGo d (twoGo d f i ps).2 t))
  | f, i, ps, hf, h => by
    have hlen := h.pinv.len ho
    by_cases hi : i < ps.length
    · cases f with
      | zero => omega
      | succ f =>
        have hx := List.getElem?_eq_getElem hi
        rw [twoGo_next hx]
        by_cases c : acI d ps[i].s = acI d ps[i].t
        · rw [if_pos c]
          exact twoGo_ok ho f (i + 1) _ (by omega) (TInv.round ho c d.parts.length 0 ps (by omega) h hx fun k' hk' => by omega)
        · rw [if_neg c]
          have hm : ps[i] ∈ ps := List.getElem_mem hi
          have hw := h.pinv.wl _ hm
          have hr := h.run _ hm
          refine ⟨by simp; omega, fun e => by simp at e, fun _ => ?_⟩
          simp only
          rw [hr.1, hr.2]; exact c
    · rw [twoGo_end hi]
      refine ⟨by simp, fun _ => ⟨rfl, ps, h.pinv, h.st, fun j p hj hp => h.old j p (by omega) hp, h.run⟩, fun e => by simp at e⟩
termination_by f => f
theorem closed_apart {d : Dfa} (ho : DOk d) {s t : Int} {ps : List Pr} (h : TInv d s t ps.length ps) {a b : Nat} (ha : Apart d a b) : ∀ p ∈ ps, ix d p.s = a → ix d p.t = b → False := by
  induction ha with
  | acc a b h1 h2 hc =>
    intro p hp e1 e2
    have hr := h.pinv.rng p hp
    obtain ⟨j, hj, e⟩ := List.getElem_of_mem hp
    have := (h.old j p hj (by rw [List.getElem?_eq_getElem hj, e])).1
    rw [← e1, ← e2, acX_ix hr.1.2, acX_ix hr.2.2] at hc
    exact hc this
  | step a b k h1 h2 hk hc ih =>
    intro p hp e1 e2
    have hr := h.pinv.rng p hp
    obtain ⟨j, hj, e⟩ := List.getElem_of_mem hp
    obtain ⟨q, hq, g1, g2⟩ := (h.old j p hj (by rw [List.getElem?_eq_getElem hj, e])).2 k hk
    exact ih q hq (by rw [g1, ← e1, dl_ix hr.1.2]) (by rw [g2, ← e2, dl_ix hr.2.2])
theorem TInv.start {d : Dfa} {s t : Int} (hs : 0 ≤ s ∧ s < d.rows.length) (ht : 0 ≤ t ∧ t < d.rows.length) : TInv d s t 0 [⟨s, t, []⟩] :=
  ⟨PInv.start hs ht, ⟨_, List.mem_singleton.2 rfl, rfl, rfl⟩, fun j p hj => by omega, fun p hp => by simp only [List.mem_singleton] at hp; subst hp; exact ⟨rfl, rfl⟩⟩
theorem ix_nat {d : Dfa} {s : Int} (h : 0 ≤ s) : ix d s = s.toNat := by unfold ix; rw [if_neg (by omega)]
/-- Two states are told alike just if nothing tells them apart; else the text does. -/
theorem twoF_iff {d : Dfa} (hd : dfaOk d = true) {s t : Int} (hs : 0 ≤ s ∧ s < d.rows.length) (ht : 0 ≤ t ∧ t < d.rows.length) : ((twoF d s t).1 = true ↔ ¬ Apart d s.toNat t.toNat) ∧ ((twoF d s t).1 = true → (twoF d s t).2 = []) ∧
    ((twoF d s t).1 = false → acI d (runGo d (twoF d s t).2 s) ≠ acI d (runGo d (twoF d s t).2 t)) ∧ (twoF d s t).2.length ≤ 1681 := by
  have ho := dok_of hd
  have h := twoGo_ok ho 1682 0 _ (by omega) (TInv.start hs ht)
  unfold twoF
  rw [if_pos ⟨hd, hs, ht⟩]
  refine ⟨⟨fun e a => ?_, fun a => ?_⟩, fun e => (h.2.1 e).1, h.2.2, h.1⟩
  · obtain ⟨qs, hq⟩ := (h.2.1 e).2
    obtain ⟨p, hp, e1, e2⟩ := hq.st
    exact closed_apart ho hq a p hp (by rw [e1, ix_nat hs.1]) (by rw [e2, ix_nat ht.1])
  · cases e : (twoGo d 1682 0 [⟨s, t, []⟩]).1
    · exact absurd (same_run ho _ s t (by omega) (by omega) (by rw [ix_nat hs.1, ix_nat ht.1]; exact a)) (h.2.2 e)
    · rfl
def swp (p : Pr) : Pr := ⟨p.t, p.s, p.w⟩
theorem hadP_swp {ps : List Pr} {x y : Int} : hadP (ps.map swp) y x = hadP ps x y := by
  unfold hadP
  rw [List.any_map]
  congr 1
  funext p
  exact Bool.and_comm _ _
theorem stepK_swp {d : Dfa} {x : Pr} {ps : List Pr} {k : Nat} : stepK d (swp x) (ps.map swp) k = (stepK d x ps k).map swp := by
  unfold stepK
  rw [show (swp x).s = x.t from rfl, show (swp x).t = x.s from rfl, hadP_swp]
  split
  · rfl
  · rw [List.map_append]; rfl
theorem roundP_swp {d : Dfa} {x : Pr} : ∀ (m k : Nat) (ps : List Pr), k + m = d.parts.length → roundP d (swp x) k (ps.map swp) = (roundP d x k ps).map swp
  | 0, k, ps, h => by rw [roundP_end (by omega), roundP_end (by omega)]
  | m + 1, k, ps, h => by
    rw [roundP_next (show k < d.parts.length by omega) (x := swp x), roundP_next (show k < d.parts.length by omega) (x := x), stepK_swp, roundP_swp m (k + 1) _ (by omega)]
theorem twoGo_swp {d : Dfa} : ∀ (f i : Nat) (ps : List Pr), twoGo d f i (ps.map swp) = twoGo d f i ps
  | 0, i, ps => rfl
  | f + 1, i, ps => by
    by_cases hi : i < ps.length
    · have hx := List.getElem?_eq_getElem hi
      have hx' : (ps.map swp)[i]? = some (swp ps[i]) := by rw [List.getElem?_map, hx]; rfl
      rw [twoGo_next hx, twoGo_next hx', roundP_swp d.parts.length 0 ps (by omega), twoGo_swp f (i + 1)]
      by_cases c : acI d ps[i].s = acI d ps[i].t
      · rw [if_pos c, if_pos (show acI d (swp ps[i]).s = acI d (swp ps[i]).t from c.symm)]
      · rw [if_neg c, if_neg (show ¬ acI d (swp ps[i]).s = acI d (swp ps[i]).t from fun e => c e.symm)]; rfl
    · rw [twoGo_end hi, twoGo_end (by simpa using hi)]
theorem twoF_symm (d : Dfa) (s t : Int) : twoF d t s = twoF d s t := by
  unfold twoF
  have e : twoGo d 1682 0 [⟨t, s, []⟩] = twoGo d 1682 0 [⟨s, t, []⟩] := twoGo_swp (d := d) 1682 0 [⟨s, t, []⟩]
  rw [e]
  congr 1
  rw [and_comm (a := 0 ≤ t ∧ t < (d.rows.length : Int))]
theorem twoF_self {d : Dfa} (hd : dfaOk d = true) {s : Int} (hs : 0 ≤ s ∧ s < d.rows.length) : twoF d s s = (true, []) := by
  have h := twoF_iff hd hs hs
  have h1 := h.1.2 fun a => apart_irr a rfl
  exact Prod.ext h1 (h.2.1 h1)
/-- Kinds are the same just for what is not apart. -/
theorem kinds_iff {d : Dfa} (ho : DOk d) {ks : List Int} (hk : IsKinds d ks) {s t : Nat} (hs : s < d.rows.length) (ht : t < d.rows.length) : kn ks s = kn ks t ↔ ¬ Apart d s t := by
  obtain ⟨M, hM⟩ := isApart_ex d
  have hk' : IsKinds d (numb (fun s t => !M s t) (fun s => M s d.rows.length) d.rows.length).1 := by
    refine ⟨_, _, fun s t hs ht hl => ?_, fun s hs => ?_, rfl⟩
    · simp [← hM]
    · rw [hM, live_iff ho]
  rw [isKinds_uniq hk hk']
  have hl : ∀ x, Live d x ↔ M x d.rows.length = true := fun x => by rw [hM, live_iff ho]
  have sp := numb_spec (apart_eqv ho hM) d.rows.length (Nat.le_refl _)
  by_cases c1 : Live d s <;> by_cases c2 : Live d t
  · rw [sp.2.2 s t hs ht ((hl s).1 c1) ((hl t).1 c2)]
    simp [← hM]
  · have a1 := sp.1 s hs ((hl s).1 c1)
    have a2 := sp.2.1 t ht (by have := mt (hl t).2 c2; simpa using this)
    rw [a2]
    constructor
    · intro e; omega
    · intro a; exact absurd (live_same ho (by omega) a c1) c2
  · have a1 := sp.2.1 s hs (by have := mt (hl s).2 c1; simpa using this)
    have a2 := sp.1 t ht ((hl t).1 c2)
    rw [a1]
    constructor
    · intro e; omega
    · intro a; exact absurd (live_same ho (by omega) (fun b => a (apart_symm b)) c2) c1
  · have a1 := sp.2.1 s hs (by have := mt (hl s).2 c1; simpa using this)
    have a2 := sp.2.1 t ht (by have := mt (hl t).2 c2; simpa using this)
    rw [a1, a2]
    refine ⟨fun _ a => ?_, fun _ => rfl⟩
    rcases apart_tri ho a d.rows.length (Nat.le_refl _) with h | h
    · exact c1 ((live_iff ho).2 h)
    · exact c2 ((live_iff ho).2 (apart_symm h))
end Go.Proofs.YtibeeohnjabhkaaGreat.R

open Go Go.Proofs.YtibeeohnjabhkaaGreat.T
namespace Go.Proofs.YtibeeohnjabhkaaGreat.R
set_option maxHeartbeats 4000000
set_option maxRecDepth 100000
set_option linter.unusedSimpArgs false
set_option linter.unusedVariables false
theorem acI_neg {d : Dfa} {s : Int} (h : s < 0) : acI d s = -1 := by unfold acI; rw [if_pos h]
theorem acI_nat {d : Dfa} {s : Int} (h : ¬ s < 0) : acI d s = ac_ d s.toNat := by unfold acI; rw [if_neg h]
theorem ruleF_acI {d : Dfa} (hd : dfaOk d = true) (t : List UInt8) : ruleF d t = acI d (runGo d t 0) := by
  unfold ruleF runF acI; rw [if_pos hd]
theorem runGo_cons {d : Dfa} {c : UInt8} {w : List UInt8} {s : Nat} : runGo d (c :: w) s = runGo d w (nextF d s c.toNat) := by
  rw [runGo, if_neg (by omega)]; rfl
/-- The longest token is where the run comes to a rule last. -/
theorem lexGo_most {d : Dfa} : ∀ (w : List UInt8) (s i : Nat) (r : Int) (to : Nat), (lexGo d w s i r to = (r, to) ∧ ∀ k, 0 < k → k ≤ w.length → acI d (runGo d (w.take k) s) < 0) ∨
    ∃ k0, 0 < k0 ∧ k0 ≤ w.length ∧ (lexGo d w s i r to).2 = i + k0 ∧ (lexGo d w s i r to).1 = acI d (runGo d (w.take k0) s) ∧ 0 ≤ (lexGo d w s i r to).1 ∧ ∀ k, k0 < k → k ≤ w.length → acI d (runGo d (w.take k) s) < 0
  | [], s, i, r, to => .inl ⟨rfl, fun k h1 h2 => by simp at h2; omega⟩
  | c :: w, s, i, r, to => by
    have tk : ∀ k, acI d (runGo d ((c :: w).take (k + 1)) s) = acI d (runGo d (w.take k) (nextF d s c.toNat)) := fun k => by
      rw [List.take_succ_cons, runGo_cons]
    unfold lexGo
    by_cases h : nextF d s c.toNat < 0
    · rw [if_pos h]
      refine .inl ⟨rfl, fun k h1 h2 => ?_⟩
      obtain ⟨k, rfl⟩ : ∃ j, k = j + 1 := ⟨k - 1, by omega⟩
      rw [tk, runGo_neg h, acI_neg h]; decide
    · rw [if_neg h]
      obtain ⟨n, hn⟩ : ∃ n : Nat, nextF d s c.toNat = n := ⟨(nextF d s c.toNat).toNat, by omega⟩
      rw [hn]
      rw [hn] at tk
      by_cases h2 : 0 ≤ ac_ d (n : Int).toNat
      · rw [if_pos h2]
        right
        rcases lexGo_most w (n : Int).toNat (i + 1) (ac_ d (n : Int).toNat) (i + 1) with ⟨e, g⟩ | ⟨k0, g1, g2, g3, g4, g5, g6⟩
        · refine ⟨1, by omega, by simp, by rw [e], ?_, by rw [e]; exact h2, fun k q1 q2 => ?_⟩
          · rw [e, tk 0]; show ac_ d (n : Int).toNat = acI d (n : Int); rw [acI_nat (by omega)]
          · obtain ⟨k, rfl⟩ : ∃ j, k = j + 1 := ⟨k - 1, by omega⟩
            rw [tk]; exact g k (by omega) (by simp at q2; omega)
        · refine ⟨k0 + 1, by omega, by simp; omega, by rw [g3]; omega, by rw [g4, tk]; rfl, g5, fun k q1 q2 => ?_⟩
          obtain ⟨k, rfl⟩ : ∃ j, k = j + 1 := ⟨k - 1, by omega⟩
          rw [tk]; exact g6 k (by omega) (by simp at q2; omega)
      · rw [if_neg h2]
        rcases lexGo_most w (n : Int).toNat (i + 1) r to with ⟨e, g⟩ | ⟨k0, g1, g2, g3, g4, g5, g6⟩
        · refine .inl ⟨e, fun k q1 q2 => ?_⟩
          obtain ⟨k, rfl⟩ : ∃ j, k = j + 1 := ⟨k - 1, by omega⟩
          rw [tk]
          by_cases z : k = 0
          · subst z; show acI d (n : Int) < 0; rw [acI_nat (by omega)]; omega
          · exact g k (by omega) (by simp at q2; omega)
        · refine .inr ⟨k0 + 1, by omega, by simp; omega, by rw [g3]; omega, by rw [g4, tk]; rfl, g5, fun k q1 q2 => ?_⟩
          obtain ⟨k, rfl⟩ : ∃ j, k = j + 1 := ⟨k - 1, by omega⟩
          rw [tk]; exact g6 k (by omega) (by simp at q2; omega)
theorem lexGo_more {d : Dfa} (b : UInt8) : ∀ (w : List UInt8) (s i : Nat) (r : Int) (to : Nat), to ≤ i → (lexGo d w s i r to).2 ≤ (lexGo d (w ++ [b]) s i r to).2
  | [], s, i, r, to, h => by
    simp only [List.nil_append, lexGo]
    split
    · exact Nat.le_refl _
    · split
      · simp; omega
      · exact Nat.le_refl _
  | c :: w, s, i, r, to, h => by
    simp only [List.cons_append, lexGo]
    split
    · exact Nat.le_refl _
    · split
      · exact lexGo_more b w _ _ _ _ (Nat.le_refl _)
      · exact lexGo_more b w _ _ _ _ (by omega)
/-- What the law says of the longest token. -/
theorem lexAt_law {d : Dfa} (hd : dfaOk d = true) {t : List UInt8} {p : Nat} (hp : p ≤ t.length) : (0 ≤ (lexAtF d t p).1 → ruleF d ((t.drop p).take ((lexAtF d t p).2 - p)) = (lexAtF d t p).1 ∧ p < (lexAtF d t p).2) ∧ ((lexAtF d t p).1 < 0 → (lexAtF d t p).2 = p) ∧
    (∀ k, (lexAtF d t p).2 < k → k ≤ t.length → ruleF d ((t.drop p).take (k - p)) < 0) := by
  have h := lexGo_most (d := d) (t.drop p) 0 p (-1) p
  have hl : (t.drop p).length = t.length - p := List.length_drop
  unfold lexAtF
  rcases h with ⟨e, g⟩ | ⟨k0, g1, g2, g3, g4, g5, g6⟩
  · rw [e]
    refine ⟨fun h => by simp at h, fun _ => rfl, fun k q1 q2 => ?_⟩
    simp only at q1
    rw [ruleF_acI hd]; exact g (k - p) (by omega) (by omega)
  · refine ⟨fun _ => ⟨?_, by omega⟩, fun h => by omega, fun k q1 q2 => ?_⟩
    · rw [ruleF_acI hd, g3, g4, show p + k0 - p = k0 by omega]; rfl
    · rw [ruleF_acI hd]; exact g6 (k - p) (by omega) (by omega)
theorem lexAt_more {d : Dfa} {t : List UInt8} {p : Nat} (hp : p ≤ t.length) (b : UInt8) : (lexAtF d t p).2 ≤ (lexAtF d (t ++ [b]) p).2 := by
  unfold lexAtF
  rw [List.drop_append_of_le_length hp]
  exact lexGo_more b _ _ _ _ _ (Nat.le_refl _)
end Go.Proofs.YtibeeohnjabhkaaGreat.R

open Go Go.Proofs.YtibeeohnjabhkaaGreat.T
namespace Go.Proofs.YtibeeohnjabhkaaGreat.R
set_option maxHeartbeats 8000000
set_option maxRecDepth 100000
set_option linter.unusedSimpArgs false
set_option linter.unusedVariables false
attribute [local simp] bsV bsRows chunk fillT partsT appV makeV rowsOf cellsOf placeOf frzT frz1
theorem tc_iLeastLiveR (d : Dfa) (hs : DSm d) (bl : List Bool) (hb : liveR d bl) : TC Tryz.prog 12 [.agg (encDfa d)] [] (.ro (bl.map encB)) [] := by
  have := (tc_iLeastLive d hs bl hb).frz
  simpa using this
theorem kinds_len {d : Dfa} {ks : List Int} (h : IsKinds d ks) : ks.length = d.rows.length := by
  obtain ⟨R, L, _, _, rfl⟩ := h
  exact numb_len R L _
/-- Whether one comes to a rule from a state by its first parts. -/
def someL (d : Dfa) (bl : List Bool) (i k : Nat) : Bool := decide (0 ≤ ac_ d i) || ((rw_ d i).take k).any (isT bl)
theorem someL_zero {d : Dfa} {bl : List Bool} {i : Nat} : someL d bl i 0 = decide (0 ≤ ac_ d i) := by simp [someL]
theorem someL_next {d : Dfa} {bl : List Bool} {i k : Nat} (h : k < (rw_ d i).length) : someL d bl i (k + 1) = (someL d bl i k || isT bl (rw_ d i)[k]) := by
  unfold someL
  rw [List.take_succ_eq_append_getElem h, List.any_append, Bool.or_assoc]; simp
theorem someL_end {d : Dfa} {bl : List Bool} {i : Nat} : someL d bl i (rw_ d i).length = isL d bl i := by
  unfold someL isL; rw [List.take_length]
end Go.Proofs.YtibeeohnjabhkaaGreat.R

open Go Go.Proofs.YtibeeohnjabhkaaGreat.T
namespace Go.Proofs.YtibeeohnjabhkaaGreat.R
set_option maxHeartbeats 8000000
set_option maxRecDepth 100000
set_option linter.unusedSimpArgs false
set_option linter.unusedVariables false
attribute [local simp] bsV bsRows chunk fillT partsT appV makeV rowsOf cellsOf placeOf frzT frz1
theorem tc_tableR (d : Dfa) (hs : DSm d) (ho : DOk d) : TC Tryz.prog 56 [.agg (encDfa d)] [] (.ro (tabR d.rows.length (nextF d))) [] := by
  have := (tc_table d hs ho).frz
  simpa using this
/-- The longest token at any place of any text. -/
def lexAtI (d : Dfa) (t : List UInt8) (at_ : Int) : Int × Int := if dfaOk d = true ∧ t.length ≤ 200 ∧ (0 ≤ at_ ∧ at_ ≤ t.length) then ((lexAtF d t at_.toNat).1, (lexAtF d t at_.toNat).2) else (-1, at_)
/-- The next state by the document: any byte. -/
def nextS (d : Dfa) (s b : Int) : Int := if dfaOk d = true ∧ (0 ≤ s ∧ s < (d.rows.length : Int)) then (if 0 ≤ b ∧ b ≤ 255 then nextF d s.toNat b.toNat else -1) else -1
theorem nextS_eq (d : Dfa) (s b : Int) : nextS d s b = nextI d s b := by
  unfold nextS nextI
  by_cases c : dfaOk d = true <;> by_cases c1 : 0 ≤ s <;> by_cases c2 : s < (d.rows.length : Int) <;> by_cases c3 : 0 ≤ b ∧ b ≤ 255
  all_goals first
    | (have c4 : s ≤ (d.rows.length : Int) - 1 := by omega); simp [c, c1, c2, c3, c4]
    | (have c4 : ¬ s ≤ (d.rows.length : Int) - 1 := by omega); simp [c, c1, c2, c3, c4]
end Go.Proofs.YtibeeohnjabhkaaGreat.R

open Go Go.Proofs.YtibeeohnjabhkaaGreat.T
namespace Go.Proofs.YtibeeohnjabhkaaGreat.R
set_option maxHeartbeats 4000000
set_option maxRecDepth 100000
set_option linter.unusedSimpArgs false
set_option linter.unusedVariables false
attribute [local simp] bsV bsRows chunk fillT partsT appV makeV rowsOf cellsOf placeOf
theorem tc_sameInt (a b : List Int) (ha : a.length ≤ 1152921504606846976) (hb : b.length ≤ 1152921504606846976) : TC Tryz.prog 19 [.ro (a.map encI), .ro (b.map encI)] [] (.val (.bool (bP (a = b)))) [] := by
  refine TC.enter Tryz.func19 rfl (by simp [Tryz.ntmps19]) rfl (tw_sound (ρ := []) ?_)
  rw [Tryz.ntmps19]
  by_cases hlen : a.length = b.length
  case neg =>
    have h1 : ¬ (a.length : Int) = b.length := by omega
    have h2 : ¬ a = b := fun e => hlen (by rw [e])
    simp [h1, bP_neg h2]
  have h1 : (a.length : Int) = b.length := by omega
  simp [h1]
  refine TWcH.loop [] (fun m st => ∃ i : Nat, i + m = b.length ∧ a.take i = b.take i ∧ st.σ 0 = .ro (a.map encI) ∧ st.σ 1 = .ro (b.map encI) ∧ st.σ 12 = .val (.int .i64 b.length) ∧ st.σ 13 = .val (.int .i64 i)) b.length ⟨0, by simp⟩ ?_
  rintro m ⟨σ, H⟩ ⟨i, him, ht, h0, h1', h12, h5⟩
  simp only at h0 h1' h12 h5
  by_cases hi : i < b.length
  case neg =>
    have e : a = b := take_all hlen (by omega) ht
    have hi2 : ¬ i < a.length := by omega
    simp [h0, h1', h12, h5, hi, hi2, bP_pos e]
  have hi2 : i < a.length := by omega
  have hw : IntKind.i64.wrap ((i : Int) + 1) = i + 1 := wrapi (by omega)
  simp [h0, h1', h12, h5, hi, hi2]
  refine TWcH.regionD (ρ := []) [0, 1, 2, 3, 4, 5, 6, 7, 8] 9 mixed (by kernel_rfl) ?_
  by_cases c : a[i] = b[i]
  · simp [h0, h1', h12, h5, hi, hi2, getI hi, getI hi2, encI, c, hw]
    exact ⟨m - 1, by omega, i + 1, by omega, take_next hi2 hi ht c, by omega⟩
  · simp [h0, h1', h12, h5, hi, hi2, getI hi, getI hi2, encI, c, bP_neg (ne_at hi2 hi c)]
theorem tc_iSetSame (a b : List (Int × Int)) (ha : a.length ≤ 1152921504606846976) (hb : b.length ≤ 1152921504606846976) : TC Tryz.prog 20 [.ro (a.map encS), .ro (b.map encS)] [] (.val (.bool (bP (a = b)))) [] := by
  refine TC.enter Tryz.func20 rfl (by simp [Tryz.ntmps20]) rfl (tw_sound (ρ := []) ?_)
  rw [Tryz.ntmps20]
  simp
  refine TWoH.callV (tc_sameSpan a b ha hb) callable_43 (by simp) (by simp) (by simp) (by simp) ?_
  simp
theorem dfa_ext {a b : Dfa} (h1 : a.parts = b.parts) (h2 : a.rows = b.rows) (h3 : a.acc = b.acc) : a = b := by
  cases a; cases b; simp at h1 h2 h3; subst h1 h2 h3; rfl
theorem tc_iDfaSame (a b : Dfa) (ha : DSm a) (hb : DSm b) : TC Tryz.prog 6 [.agg (encDfa a), .agg (encDfa b)] [] (.val (.bool (bP (a = b)))) [] := by
  refine TC.enter Tryz.func6 rfl (by simp [Tryz.ntmps6]) rfl (tw_sound (ρ := [2, 3]) ?_)
  rw [Tryz.ntmps6]
  have hap := ha.parts
  have hbp := hb.parts
  have har := ha.rows
  have hbr := hb.rows
  have haa := ha.acc
  have hba := hb.acc
  by_cases hp : a.parts.length = b.parts.length
  case neg =>
    have h1 : ¬ (a.parts.length : Int) = b.parts.length := by omega
    simp [encDfa, h1, bP_neg (show ¬ a = b from fun e => hp (by rw [e]))]
  have hp1 : (a.parts.length : Int) = b.parts.length := by omega
  by_cases hr : a.rows.length = b.rows.length
  case neg =>
    have h1 : ¬ (a.rows.length : Int) = b.rows.length := by omega
    simp [encDfa, hp1, h1, bP_neg (show ¬ a = b from fun e => hr (by rw [e]))]
  have hr1 : (a.rows.length : Int) = b.rows.length := by omega
  simp [encDfa, hp1, hr1]
  refine TWoH.callV (tc_sameInt a.acc b.acc (by omega) (by omega)) callable_19 (by simp) (by simp) (by simp) (by simp) ?_
  by_cases hc : a.acc = b.acc
  case neg => simp [bP_neg hc, bP_neg (show ¬ a = b from fun e => hc (by rw [e]))]
  simp [bP_pos hc]
  refine TWcH.loop [] (fun m st => ∃ i : Nat, i + m = b.parts.length ∧ a.parts.take i = b.parts.take i ∧ st.σ 2 = .rptr [.ro (a.parts.map encP), .ro (a.rows.map encR), .ro (a.acc.map encI)] 0 ∧ st.σ 3 = .rptr [.ro (b.parts.map encP), .ro (b.rows.map encR), .ro (b.acc.map encI)] 0 ∧ st.σ 33 = .val (.int .i64 b.parts.length) ∧ st.σ 34 = .val (.int .i64 i)) b.parts.length ⟨0, by simp [hp1]⟩ ?_
  rintro m ⟨σ, H⟩ ⟨i, him, ht, h2, h3, h33, h34⟩
  simp only at h2 h3 h33 h34
  by_cases hi : i < b.parts.length
  · have hi2 : i < a.parts.length := by omega
    have hw : IntKind.i64.wrap ((i : Int) + 1) = i + 1 := wrapi (by omega)
    simp [h2, h3, h33, h34, hi, hi2]
    refine TWcH.regionD (ρ := [2, 3]) [0, 1, 2, 3, 4, 5, 6, 7, 8, 9, 10, 11] 12 mixed (by kernel_rfl) ?_
    simp [h2, h3, h33, h34, hi, hi2, getI hi, getI hi2, encP]
    refine TWqH.callV (tc_iSetSame a.parts[i] b.parts[i] (by have := ha.part _ (List.getElem_mem hi2); omega) (by have := hb.part _ (List.getElem_mem hi); omega)) callable_20 (by simp) (by simp) (by simp) (by simp) ?_
    by_cases c : a.parts[i] = b.parts[i]
    · simp [h2, h3, h33, h34, bP_pos c, hw]
      exact ⟨m - 1, by omega, i + 1, by omega, take_next hi2 hi ht c, by omega⟩
    · simp [h2, h3, h33, h34, bP_neg c, bP_neg (show ¬ a = b from fun e => c (by simp [e]))]
  have hparts : a.parts = b.parts := take_all hp (by omega) ht
  have hi2 : ¬ (i : Int) < b.parts.length := by omega
  simp [h2, h3, h33, h34, hi, hi2]
  refine TWcH.loop [] (fun m st => ∃ i : Nat, i + m = b.rows.length ∧ a.rows.take i = b.rows.take i ∧ st.σ 2 = .rptr [.ro (a.parts.map encP), .ro (a.rows.map encR), .ro (a.acc.map encI)] 0 ∧ st.σ 3 = .rptr [.ro (b.parts.map encP), .ro (b.rows.map encR), .ro (b.acc.map encI)] 0 ∧ st.σ 52 = .val (.int .i64 b.rows.length) ∧ st.σ 53 = .val (.int .i64 i)) b.rows.length ⟨0, by simp [h2, h3, hr1]⟩ ?_
  clear h2 h3 h33 h34 hi him ht hi2 i m
  rintro m ⟨σ, H⟩ ⟨i, him, ht, h2, h3, h33, h34⟩
  simp only at h2 h3 h33 h34
  by_cases hi : i < b.rows.length
  · have hi2 : i < a.rows.length := by omega
    have hw : IntKind.i64.wrap ((i : Int) + 1) = i + 1 := wrapi (by omega)
    simp [h2, h3, h33, h34, hi, hi2]
    refine TWcH.regionD (ρ := [2, 3]) [0, 1, 2, 3, 4, 5, 6, 7, 8, 9, 10, 11] 12 mixed (by kernel_rfl) ?_
    simp [h2, h3, h33, h34, hi, hi2, getI hi, getI hi2, encR]
    refine TWqH.callV (tc_sameInt a.rows[i] b.rows[i] (by have := ha.row _ (List.getElem_mem hi2); omega) (by have := hb.row _ (List.getElem_mem hi); omega)) callable_19 (by simp) (by simp) (by simp) (by simp) ?_
    by_cases c : a.rows[i] = b.rows[i]
    · simp [h2, h3, h33, h34, bP_pos c, hw]
      exact ⟨m - 1, by omega, i + 1, by omega, take_next hi2 hi ht c, by omega⟩
    · simp [h2, h3, h33, h34, bP_neg c, bP_neg (show ¬ a = b from fun e => c (by simp [e]))]
  have hrows : a.rows = b.rows := take_all hr (by omega) ht
  have hi2 : ¬ (i : Int) < b.rows.length := by omega
  simp [h2, h3, h33, h34, hi, hi2, bP_pos (dfa_ext hparts hrows hc)]
end Go.Proofs.YtibeeohnjabhkaaGreat.R

open Go Go.Proofs.YtibeeohnjabhkaaGreat.T
namespace Go.Proofs.YtibeeohnjabhkaaGreat.R
set_option maxHeartbeats 8000000
set_option maxRecDepth 100000
set_option linter.unusedSimpArgs false
set_option linter.unusedVariables false
attribute [local simp] bsV bsRows chunk fillT partsT appV makeV rowsOf cellsOf placeOf frzT frz1
theorem seven (k : Int) (h0 : 0 ≤ k) (h1 : k < 8) : ∃ x : Int, (0 ≤ x ∧ x ≤ 1) ∧ IntKind.i64.wrap (Int.tdiv k 7) = x := by
  have e : Int.tdiv k 7 = k / 7 := Int.tdiv_eq_ediv_of_nonneg h0
  refine ⟨k / 7, by omega, ?_⟩
  rw [e]; exact wrapi (by omega)
end Go.Proofs.YtibeeohnjabhkaaGreat.R

open Go Go.Proofs.YtibeeohnjabhkaaGreat.T
namespace Go.Proofs.YtibeeohnjabhkaaGreat.R
set_option maxHeartbeats 8000000
set_option maxRecDepth 100000
set_option linter.unusedSimpArgs false
set_option linter.unusedVariables false
attribute [local simp] bsV bsRows chunk fillT partsT appV makeV rowsOf cellsOf placeOf frzT frz1
theorem twoF_bad {d : Dfa} {s t : Int} (h : ¬ (dfaOk d = true ∧ (0 ≤ s ∧ s < d.rows.length) ∧ (0 ≤ t ∧ t < d.rows.length))) : twoF d s t = (false, []) := by
  unfold twoF; rw [if_neg h]
end Go.Proofs.YtibeeohnjabhkaaGreat.R

open Go Go.Proofs.YtibeeohnjabhkaaGreat.T
namespace Go.Proofs.YtibeeohnjabhkaaGreat.R
set_option maxHeartbeats 4000000
set_option maxRecDepth 100000
set_option linter.unusedSimpArgs false
set_option linter.unusedVariables false
def joinB (p q : List (Int × Int)) (b : Nat) : Bool := hasS p b || hasS q b
def joinS (p q : List (Int × Int)) : List (Int × Int) := if setOk p = true ∧ setOk q = true then spansF (joinB p q) else []
/-- The kind of where one comes to. -/
def kd (ks : List Int) (t : Int) : Int := if t < 0 then -1 else kn ks t.toNat
def findK (ks : List Int) (fs : List Nat) (x : Int) : Option Nat := fs.findIdx? fun s => decide (kn ks s = x)
def stepB (ks : List Int) (fs : List Nat) (t : Int) : List Nat × Int :=
  if kd ks t < 0 then (fs, -1) else match findK ks fs (kd ks t) with
    | some j => (fs, (j : Int))
    | none => (fs ++ [t.toNat], (fs.length : Int))
def rowK (ks : List Int) (r : List Int) (fs : List Nat) : List Nat × List Int := r.foldl (fun a t => ((stepB ks a.1 t).1, a.2 ++ [(stepB ks a.1 t).2])) (fs, [])
theorem rowK_succ {ks r : List Int} {fs : List Nat} {k : Nat} (h : k < r.length) : rowK ks (r.take (k + 1)) fs = ((stepB ks (rowK ks (r.take k) fs).1 r[k]).1, (rowK ks (r.take k) fs).2 ++ [(stepB ks (rowK ks (r.take k) fs).1 r[k]).2]) := by
  unfold rowK
  rw [List.take_succ_eq_append_getElem h, List.foldl_append]; rfl
theorem rowK_zero {ks : List Int} {fs : List Nat} {r : List Int} : rowK ks (r.take 0) fs = (fs, []) := rfl
/-- The first states of the kinds, in the order in which they are met, and their rows. -/
def bfsTo (d : Dfa) (ks : List Int) : Nat → List Nat × List (List Int)
  | 0 => ([0], [])
  | i + 1 => match (bfsTo d ks i).1[i]? with
    | none => bfsTo d ks i
    | some s => ((rowK ks (rw_ d s) (bfsTo d ks i).1).1, (bfsTo d ks i).2 ++ [(rowK ks (rw_ d s) (bfsTo d ks i).1).2])
theorem bfsTo_succ {d : Dfa} {ks : List Int} {i : Nat} {s : Nat} (h : (bfsTo d ks i).1[i]? = some s) : bfsTo d ks (i + 1) = ((rowK ks (rw_ d s) (bfsTo d ks i).1).1, (bfsTo d ks i).2 ++ [(rowK ks (rw_ d s) (bfsTo d ks i).1).2]) := by
  rw [bfsTo, h]
theorem bfsTo_stop {d : Dfa} {ks : List Int} {i : Nat} (h : (bfsTo d ks i).1.length ≤ i) : ∀ j, i ≤ j → bfsTo d ks j = bfsTo d ks i
  | 0, hj => by obtain rfl : i = 0 := by omega
                rfl
  | j + 1, hj => by
    by_cases e : i = j + 1
    · rw [e]
    · have ih := bfsTo_stop h j (by omega)
      rw [bfsTo, ih, List.getElem?_eq_none (by omega)]
structure BInv (d : Dfa) (ks : List Int) (fs : List Nat) : Prop where
  one : 1 ≤ fs.length
  nod : fs.Pairwise fun a b => kn ks a ≠ kn ks b
  rng : ∀ s ∈ fs, s < d.rows.length ∧ 0 ≤ kn ks s
theorem BInv.len {d : Dfa} {ks : List Int} {fs : List Nat} (h : BInv d ks fs) : fs.length ≤ d.rows.length :=
  nodup_le d.rows.length fs (by unfold List.Nodup; exact h.nod.imp fun {a b} hab e => hab (by rw [e])) fun s hs => (h.rng s hs).1
theorem findK_none {ks : List Int} {fs : List Nat} {x : Int} (h : findK ks fs x = none) : ∀ s ∈ fs, kn ks s ≠ x := by
  unfold findK at h
  rw [List.findIdx?_eq_none_iff] at h
  intro s hs
  simpa using h s hs
theorem findK_some {ks : List Int} {fs : List Nat} {x : Int} {j : Nat} (h : findK ks fs x = some j) : ∃ hj : j < fs.length, kn ks fs[j] = x := by
  unfold findK at h
  obtain ⟨hj, h1, _⟩ := List.findIdx?_eq_some_iff_getElem.1 h
  exact ⟨hj, by simpa using h1⟩
theorem BInv.step {d : Dfa} {ks : List Int} {fs : List Nat} (h : BInv d ks fs) {t : Int} (ht : t < d.rows.length) : BInv d ks (stepB ks fs t).1 ∧ (-1 ≤ (stepB ks fs t).2 ∧ (stepB ks fs t).2 < (stepB ks fs t).1.length) ∧ ∃ z, (stepB ks fs t).1 = fs ++ z := by
  unfold stepB
  have h1 := h.one
  by_cases c : kd ks t < 0
  · rw [if_pos c]; exact ⟨h, ⟨by simp, by simp only; omega⟩, [], by simp⟩
  · rw [if_neg c]
    cases e : findK ks fs (kd ks t) with
    | some j =>
      obtain ⟨hj, _⟩ := findK_some e
      exact ⟨h, ⟨by simp only; omega, by simp only; omega⟩, [], by simp⟩
    | none =>
      have hn := findK_none e
      have ht0 : ¬ t < 0 := fun x => c (by unfold kd; rw [if_pos x]; decide)
      have hk : kd ks t = kn ks t.toNat := by unfold kd; rw [if_neg ht0]
      rw [hk] at hn c
      refine ⟨⟨by simp, ?_, ?_⟩, ⟨by simp only; omega, by simp; omega⟩, _, rfl⟩
      · rw [List.pairwise_append]
        exact ⟨h.nod, by simp, fun a ha b hb => by simp only [List.mem_singleton] at hb; subst hb; exact hn a ha⟩
      · intro s hs
        rcases List.mem_append.1 hs with hs | hs
        · exact h.rng s hs
        · simp only [List.mem_singleton] at hs
          subst hs
          exact ⟨by omega, by omega⟩
theorem BInv.row {d : Dfa} (ho : DOk d) {ks : List Int} {fs : List Nat} (h : BInv d ks fs) {s : Nat} (hs : s < d.rows.length) : ∀ k, k ≤ (rw_ d s).length → BInv d ks (rowK ks ((rw_ d s).take k) fs).1 ∧ (rowK ks ((rw_ d s).take k) fs).2.length = k ∧ (∀ x ∈ (rowK ks ((rw_ d s).take k) fs).2, -1 ≤ x ∧ x < (rowK ks ((rw_ d s).take k) fs).1.length) ∧ ∃ z, (rowK ks ((rw_ d s).take k) fs).1 = fs ++ z
  | 0, _ => ⟨h, rfl, fun x hx => by simp [rowK] at hx, [], by simp [rowK]⟩
  | k + 1, hk => by
    obtain ⟨i1, i2, i3, z, i4⟩ := BInv.row ho h hs k (by omega)
    have ht := (ho.ent s hs _ (List.getElem_mem (show k < (rw_ d s).length by omega))).2
    obtain ⟨s1, s2, z2, s3⟩ := i1.step ht
    rw [rowK_succ (by omega)]
    refine ⟨s1, by simp [i2], fun x hx => ?_, z ++ z2, by simp only; rw [s3, i4, List.append_assoc]⟩
    simp only at hx ⊢
    rcases List.mem_append.1 hx with hx | hx
    · have := i3 x hx
      have hl : (stepB ks (rowK ks ((rw_ d s).take k) fs).1 (rw_ d s)[k]).1.length = (rowK ks ((rw_ d s).take k) fs).1.length + z2.length := by rw [s3, List.length_append]
      omega
    · simp only [List.mem_singleton] at hx
      subst hx
      exact s2
theorem bfs_inv {d : Dfa} (ho : DOk d) {ks : List Int} (h0 : 0 ≤ kn ks 0) : ∀ i, BInv d ks (bfsTo d ks i).1 ∧ (i ≤ (bfsTo d ks i).1.length → (bfsTo d ks i).2.length = i) ∧ (∀ r ∈ (bfsTo d ks i).2, r.length = d.parts.length ∧ ∀ x ∈ r, -1 ≤ x ∧ x < (bfsTo d ks i).1.length)
  | 0 => ⟨⟨by simp [bfsTo], by simp [bfsTo], fun s hs => by simp [bfsTo] at hs; subst hs; exact ⟨ho.one, h0⟩⟩, fun _ => rfl, fun r hr => by simp [bfsTo] at hr⟩
  | i + 1 => by
    obtain ⟨h1, h2, h3⟩ := bfs_inv ho h0 i
    by_cases c : i < (bfsTo d ks i).1.length
    · have hx := List.getElem?_eq_getElem c
      rw [bfsTo_succ hx]
      have hr := h1.rng _ (List.getElem_mem c)
      obtain ⟨b1, b2, b3, z, b4⟩ := h1.row ho hr.1 (rw_ d (bfsTo d ks i).1[i]).length (Nat.le_refl _)
      rw [List.take_length] at b1 b2 b3 b4
      refine ⟨b1, fun _ => by simp [h2 (by omega)], fun r hr' => ?_⟩
      simp only at hr' ⊢
      rcases List.mem_append.1 hr' with hr' | hr'
      · have := h3 r hr'
        refine ⟨this.1, fun x hx => ?_⟩
        have := this.2 x hx
        rw [b4, List.length_append]; omega
      · simp only [List.mem_singleton] at hr'
        subst hr'
        exact ⟨by rw [b2, ho.row _ hr.1], b3⟩
    · rw [bfsTo_stop (i := i) (by omega) (i + 1) (by omega)]
      exact ⟨h1, fun h => by omega, h3⟩
def bfsEnd (d : Dfa) (ks : List Int) : List Nat × List (List Int) := bfsTo d ks 40
theorem bfsEnd_of {d : Dfa} {ks : List Int} {i : Nat} (h : (bfsTo d ks i).1.length ≤ i) (hi : i ≤ 40) : bfsEnd d ks = bfsTo d ks i := bfsTo_stop h 40 hi
def leastB (d : Dfa) (ks : List Int) : Dfa := ⟨d.parts, (bfsEnd d ks).2, (bfsEnd d ks).1.map (ac_ d)⟩
def colE (rows : List (List Int)) (a b : Nat) : Bool := rows.all fun r => decide ((r[a]?).getD 0 = (r[b]?).getD 0)
def stepM (rows : List (List Int)) (ps : List (List (Int × Int))) (st : List Nat × List (List (Int × Int))) (k : Nat) : List Nat × List (List (Int × Int)) := match st.1.findIdx? (fun c => colE rows c k) with
  | some i => (st.1, st.2.set i (joinS ((st.2[i]?).getD []) (pt ps k)))
  | none => (st.1 ++ [k], st.2 ++ [pt ps k])
def mergeTo (rows : List (List Int)) (ps : List (List (Int × Int))) : Nat → List Nat × List (List (Int × Int))
  | 0 => ([], [])
  | k + 1 => stepM rows ps (mergeTo rows ps k) k
def mergeM (d : Dfa) : Dfa := ⟨(mergeTo d.rows d.parts d.parts.length).2, d.rows.map fun r => (mergeTo d.rows d.parts d.parts.length).1.map fun c => (r[c]?).getD 0, d.acc⟩
/-- The smallest machine. -/
def leastF (d : Dfa) (ks : List Int) : Dfa := if kn ks 0 < 0 then ⟨[[(0, 255)]], [[-1]], [-1]⟩ else mergeM (leastB d ks)
def leastR (d m : Dfa) : Prop := if dfaOk d = true then ∃ ks, IsKinds d ks ∧ m = leastF d ks else m = ⟨[], [], []⟩
theorem joinS_len (p q : List (Int × Int)) : (joinS p q).length ≤ 256 := by
  unfold joinS
  split
  · exact spansTo_len 256
  · simp
structure MInv (ps : List (List (Int × Int))) (k : Nat) (st : List Nat × List (List (Int × Int))) : Prop where
  len : st.2.length = st.1.length
  lek : st.1.length ≤ k
  rng : ∀ c ∈ st.1, c < k
  sm : ∀ x ∈ st.2, x.length ≤ 1048576
theorem merge_inv {rows : List (List Int)} {ps : List (List (Int × Int))} (hs : ∀ x ∈ ps, x.length ≤ 1048576) : ∀ k, k ≤ ps.length → MInv ps k (mergeTo rows ps k)
  | 0, _ => ⟨rfl, by simp [mergeTo], fun c hc => by simp [mergeTo] at hc, fun x hx => by simp [mergeTo] at hx⟩
  | k + 1, hk => by
    have h := merge_inv hs k (by omega) (rows := rows)
    show MInv ps (k + 1) (stepM rows ps (mergeTo rows ps k) k)
    unfold stepM
    cases e : (mergeTo rows ps k).1.findIdx? (fun c => colE rows c k) with
    | some i =>
      refine ⟨by simp [h.len], by have := h.lek; simp only; omega, fun c hc => by have := h.rng c hc; omega, fun x hx => ?_⟩
      rcases List.mem_or_eq_of_mem_set hx with hx | hx
      · exact h.sm x hx
      · rw [hx]; have := joinS_len (((mergeTo rows ps k).2[i]?).getD []) (pt ps k); omega
    | none =>
      refine ⟨by simp [h.len], by have := h.lek; simp; omega, fun c hc => ?_, fun x hx => ?_⟩
      · rcases List.mem_append.1 hc with hc | hc
        · have := h.rng c hc; omega
        · simp only [List.mem_singleton] at hc; omega
      · rcases List.mem_append.1 hx with hx | hx
        · exact h.sm x hx
        · simp only [List.mem_singleton] at hx
          rw [hx, pt_eq (by omega)]
          exact hs _ (List.getElem_mem (by omega))
end Go.Proofs.YtibeeohnjabhkaaGreat.R

open Go Go.Proofs.YtibeeohnjabhkaaGreat.T
namespace Go.Proofs.YtibeeohnjabhkaaGreat.R
set_option maxHeartbeats 4000000
set_option maxRecDepth 100000
set_option linter.unusedSimpArgs false
set_option linter.unusedVariables false
attribute [local simp] bsV bsRows chunk fillT partsT appV makeV rowsOf cellsOf placeOf frzT frz1
theorem findI_at {α : Type _} {p : α → Bool} {l : List α} {i : Nat} (h : i < l.length) (hp : p l[i] = true) (hn : ∀ j (hj : j < i), p (l[j]'(by omega)) = false) : l.findIdx? p = some i := by
  rw [List.findIdx?_eq_some_iff_getElem]
  exact ⟨h, hp, fun j hj => by simp [hn j hj]⟩
theorem findI_none {α : Type _} {p : α → Bool} {l : List α} (hn : ∀ j (hj : j < l.length), p l[j] = false) : l.findIdx? p = none := by
  rw [List.findIdx?_eq_none_iff]
  intro x hx
  obtain ⟨j, hj, rfl⟩ := List.getElem_of_mem hx
  exact hn j hj
def placeI (o : Option Nat) : Int := match o with
  | some j => j
  | none => -1
theorem tc_l8Find (l : List Int) (x : Int) (hl : l.length ≤ 1048576) : TC Tryz.prog 49 [.ro (l.map encI), .val (.int .i64 x)] [] (.val (.int .i64 (placeI (l.findIdx? fun y => decide (y = x))))) [] := by
  refine TC.enter Tryz.func49 rfl (by simp [Tryz.ntmps49]) rfl (tw_sound (ρ := []) ?_)
  rw [Tryz.ntmps49]
  simp
  refine TWcH.loop [] (fun m st => ∃ i : Nat, i + m = l.length ∧ (∀ j (hj : j < i) (hl : j < l.length), decide (l[j] = x) = false) ∧ st.σ 0 = .ro (l.map encI) ∧ st.σ 1 = .val (.int .i64 x) ∧ st.σ 5 = .val (.int .i64 i)) l.length ⟨0, by simp⟩ ?_
  rintro m ⟨σ, H⟩ ⟨i, him, hn, h0, h1, h5⟩
  simp only at h0 h1 h5
  by_cases hi : i < l.length
  · have hw : IntKind.i64.wrap ((i : Int) + 1) = i + 1 := wrapi (by omega)
    by_cases c : l[i] = x
    · rw [findI_at hi (by simp [c]) fun j hj => hn j hj (by omega)]
      simp [h0, h1, h5, hi, getI hi, encI, c, placeI]
    · simp [h0, h1, h5, hi, getI hi, encI, c, hw]
      refine ⟨m - 1, by omega, i + 1, by omega, fun j hj hl => ?_, by omega⟩
      by_cases e : j = i
      · subst e; exact c
      · have := hn j (by omega) hl; simpa using this
  · rw [findI_none fun j hj => hn j (by omega) hj]
    simp [h0, h1, h5, hi, placeI]
theorem tc_l8Column (d : Dfa) (hs : DSm d) (a b : Nat) (ha : ∀ r ∈ d.rows, a < r.length) (hb : ∀ r ∈ d.rows, b < r.length) : TC Tryz.prog 46 [.agg (encDfa d), .val (.int .i64 a), .val (.int .i64 b)] [] (.val (.bool (colE d.rows a b))) [] := by
  refine TC.enter Tryz.func46 rfl (by simp [Tryz.ntmps46]) rfl (tw_sound (ρ := [3]) ?_)
  rw [Tryz.ntmps46]
  simp [encDfa]
  have hrl := hs.rows
  refine TWcH.loop [] (fun m st => ∃ i : Nat, i + m = d.rows.length ∧ colE (d.rows.take i) a b = true ∧ st.σ 1 = .val (.int .i64 a) ∧ st.σ 2 = .val (.int .i64 b) ∧ st.σ 3 = .rptr [.ro (d.parts.map encP), .ro (d.rows.map encR), .ro (d.acc.map encI)] 0 ∧ st.σ 7 = .val (.int .i64 i)) d.rows.length ⟨0, by simp [colE]⟩ ?_
  rintro m ⟨σ, H⟩ ⟨i, him, hn, h1, h2, h3, h7⟩
  simp only at h1 h2 h3 h7
  by_cases hi : i < d.rows.length
  · have hw : IntKind.i64.wrap ((i : Int) + 1) = i + 1 := wrapi (by omega)
    have qa := ha _ (List.getElem_mem hi)
    have qb := hb _ (List.getElem_mem hi)
    simp [h1, h2, h3, h7, hi]
    refine TWcH.regionD (ρ := [3]) [0, 1, 2, 3, 4, 5, 6, 7, 8, 9, 10, 11, 12, 13, 14, 15, 16] 17 mixed (by kernel_rfl) ?_
    by_cases c : d.rows[i][a] = d.rows[i][b]
    · simp [h1, h2, h3, h7, hi, getI hi, encR, encI, qa, qb, c, hw]
      refine ⟨m - 1, by omega, i + 1, by omega, ?_, by omega⟩
      unfold colE at hn ⊢
      rw [List.take_succ_eq_append_getElem hi, List.all_append, hn]
      simp [getI qa, getI qb, c]
    · have : colE d.rows a b = false := by
        unfold colE
        rw [List.all_eq_false]
        exact ⟨d.rows[i], List.getElem_mem hi, by simp [getI qa, getI qb, c]⟩
      simp [h1, h2, h3, h7, hi, getI hi, encR, encI, qa, qb, c, this]
  · rw [List.take_of_length_le (by omega)] at hn
    simp [h1, h2, h3, h7, hi, hn]
theorem tc_sSetJoinB (p q : List (Int × Int)) (hp : p.length ≤ 1152921504606846976) (hq : q.length ≤ 1152921504606846976) : TC Tryz.prog 47 [.ro (p.map encS), .ro (q.map encS)] [] (.own 45 ((joinS p q).map encS)) [] := by
  refine TC.enter Tryz.func47 rfl (by simp [Tryz.ntmps47]) rfl (tw_sound (ρ := []) ?_)
  rw [Tryz.ntmps47]
  simp
  refine gall_intro fun id hid => ?_
  simp
  refine TWcH.loop [] (fun m s => ∃ (i : Nat), i + m = 256 ∧ s.σ 0 = .ro (p.map encS) ∧ s.σ 1 = .ro (q.map encS) ∧ s.σ 5 = .hd id ∧ s.σ 6 = .val (.int .i64 i) ∧ s.H id = some (.own 4 (mix ((List.range 256).map fun b => [.val (.bool (joinB p q b))]) (List.replicate 256 [.val (.bool false)]) i))) 256 ⟨0, by simp [mix_zero]⟩ ?_
  rintro m ⟨σ, H⟩ ⟨i, him, h0, h1, h5, h6, hH⟩
  simp only at h0 h1 h5 h6 hH
  by_cases hi : i < 256
  · have hw : IntKind.i64.wrap ((i : Int) + 1) = i + 1 := wrapi (by omega)
    have hi2 : (i : Int) < 256 := by omega
    have hat := mix_at' (A := (List.range 256).map fun b => [TV.val (.bool (joinB p q b))]) (B := List.replicate 256 [TV.val (.bool false)]) (i := i) (by simp) (by simpa using hi)
    simp only [List.getElem_replicate] at hat
    have hln : (mix ((List.range 256).map fun b => [TV.val (.bool (joinB p q b))]) (List.replicate 256 [TV.val (.bool false)]) i).length = 256 := by rw [mix_len (by simp) (by simp; omega)]; simp
    have hset := mix_set (A := (List.range 256).map fun b => [TV.val (.bool (joinB p q b))]) (B := List.replicate 256 [TV.val (.bool false)]) (i := i) (by simp) (by simpa using hi) (x := [TV.val (.bool (joinB p q i))]) (by simp [hi])
    generalize hM : mix ((List.range 256).map fun b => [TV.val (.bool (joinB p q b))]) (List.replicate 256 [TV.val (.bool false)]) i = M at hH hat hln hset
    simp [h0, h1, h5, h6, hi2]
    refine TWoH.callV (tc_sSetHas p i hp) callable_66 (by simp [h0]) (by simp) (by simp) (by simp) ?_
    simp [h0, h1, h5, h6, hi2]
    refine gif_intro (fun c => ?_) (fun c => ?_) <;> simp [h0, h1, h5, h6, hi2, c]
    · have hm : joinB p q i = true := by simp [joinB, c]
      rw [hm] at hset
      simp [h0, h1, h5, h6, hi2, hH, hat, hln, hset, c, hi, hw]
      exact ⟨m - 1, by omega, i + 1, by omega, by omega, rfl⟩
    · refine TWoH.callV (tc_sSetHas q i hq) callable_66 (by simp [h1]) (by simp) (by simp) (by simp) ?_
      have hm : joinB p q i = hasS q i := by simp [joinB, c]
      rw [hm] at hset
      simp [h0, h1, h5, h6, hi2, hH, hat, hln, hset, c, hi, hw]
      exact ⟨m - 1, by omega, i + 1, by omega, by omega, rfl⟩
  · obtain rfl : i = 256 := by omega
    rw [mix_all (by simp) (by simp)] at hH
    simp [h0, h1, h5, h6, hH]
    refine TWoH.callV (tc_sSetOk p hp) callable_50 (by simp [h0]) (by simp) (by simp) (by simp) ?_
    unfold joinS
    by_cases ho : setOk p = true
    · simp [h0, h1, h5, h6, hH, ho]
      refine TWoH.callV (tc_sSetOk q hq) callable_50 (by simp [h1]) (by simp) (by simp) (by simp) ?_
      by_cases ho' : setOk q = true
      · simp [h0, h1, h5, h6, hH, ho, ho']
        refine TWoH.call (tc_l1Of (joinB p q)) callable_67 (by simp [h5, hH]) (by simp) (by simp) fun k hk => ?_
        simp [ho, ho']
      · simp [h0, h1, h5, h6, hH, ho, ho']
        refine gall_intro fun k hk => ?_
        simp [ho, ho']
    · simp [h0, h1, h5, h6, hH, ho]
      refine gall_intro fun k hk => ?_
      simp [ho]
end Go.Proofs.YtibeeohnjabhkaaGreat.R

open Go Go.Proofs.YtibeeohnjabhkaaGreat.T
namespace Go.Proofs.YtibeeohnjabhkaaGreat.R
set_option maxHeartbeats 4000000
set_option maxRecDepth 100000
set_option linter.unusedSimpArgs false
set_option linter.unusedVariables false
attribute [local simp] bsV bsRows chunk fillT partsT appV makeV rowsOf cellsOf placeOf frzT frz1
theorem rl_encS' (l : List (Int × Int)) : ∀ r ∈ l.map encS, r.length = 2 := by
  intro r hr
  obtain ⟨x, _, rfl⟩ := List.mem_map.1 hr
  simp [encS]
theorem tc_copiedSpan (l : List (Int × Int)) (hl : l.length ≤ 1048576) : TC Tryz.prog 63 [.ro (l.map encS)] [] (.own 45 (l.map encS)) [] := by
  refine TC.enter Tryz.func63 rfl (by simp [Tryz.ntmps63]) rfl (TWc.postT (tw_sound (ρ := []) ?_))
  rw [Tryz.ntmps63]
  simp
  refine gif_intro (fun c1 => ?_) (fun c1 => ?_) <;> simp [c1]
  · refine Turn.nil 2 45 (by simp) fun id hid => ?_
    simp [List.eq_nil_of_length_eq_zero (show l.length = 0 by simpa using c1)]
  have k1 : (16 : Int) * l.length ≤ 281474976710656 := by omega
  have k2 : (l.length : Int) ≤ 9223372036854775807 := by omega
  simp [k1, k2]
  refine gall_intro fun id hid => ?_
  simp
  refine TWoH.copy id (List.replicate l.length [.val (.int .i64 0), .val (.int .i64 0)]) (l.map encS) Tryz.underlying46 (by simp) ?_ ?_ ?_ (rl_encS' l) ?_ ?_
  all_goals simp
  exact Turn.same (by simp)
theorem tc_copiedInt (l : List Int) (hl : l.length ≤ 1048576) : TC Tryz.prog 41 [.ro (l.map encI)] [] (.own 3 (l.map encI)) [] := by
  refine TC.enter Tryz.func41 rfl (by simp [Tryz.ntmps41]) rfl (TWc.postT (tw_sound (ρ := []) ?_))
  rw [Tryz.ntmps41]
  simp
  refine gif_intro (fun c1 => ?_) (fun c1 => ?_) <;> simp [c1]
  · refine Turn.nil 2 3 (by simp) fun id hid => ?_
    simp [List.eq_nil_of_length_eq_zero (show l.length = 0 by simpa using c1)]
  have k1 : (8 : Int) * l.length ≤ 281474976710656 := by omega
  have k2 : (l.length : Int) ≤ 9223372036854775807 := by omega
  simp [k1, k2]
  refine gall_intro fun id hid => ?_
  simp
  refine TWoH.copy id (List.replicate l.length [.val (.int .i64 0)]) (l.map encI) Tryz.underlying25 (by simp) ?_ ?_ ?_ (rl_encI l) ?_ ?_
  all_goals simp
  exact Turn.same (by simp)
theorem tc_copiedInts (l : List (List Int)) (hl : l.length ≤ 1048576) : TC Tryz.prog 40 [.ro (l.map encR)] [] (.own 25 (l.map encR)) [] := by
  refine TC.enter Tryz.func40 rfl (by simp [Tryz.ntmps40]) rfl (TWc.postT (tw_sound (ρ := []) ?_))
  rw [Tryz.ntmps40]
  simp
  refine gif_intro (fun c1 => ?_) (fun c1 => ?_) <;> simp [c1]
  · refine Turn.nil 2 25 (by simp) fun id hid => ?_
    simp [List.eq_nil_of_length_eq_zero (show l.length = 0 by simpa using c1)]
  have k1 : (24 : Int) * l.length ≤ 281474976710656 := by omega
  have k2 : (l.length : Int) ≤ 9223372036854775807 := by omega
  simp [k1, k2]
  refine gall_intro fun id hid => ?_
  simp
  refine TWoH.copy id (List.replicate l.length [.val (.slice none 0 0)]) (l.map encR) Tryz.underlying24 (by simp) ?_ ?_ ?_ (rl_encR l) ?_ ?_
  all_goals simp
  exact Turn.same (by simp)
theorem tc_copiedSpans (l : List (List (Int × Int))) (hl : l.length ≤ 1048576) : TC Tryz.prog 62 [.ro (l.map encP)] [] (.own 46 (l.map encP)) [] := by
  refine TC.enter Tryz.func62 rfl (by simp [Tryz.ntmps62]) rfl (TWc.postT (tw_sound (ρ := []) ?_))
  rw [Tryz.ntmps62]
  simp
  refine gif_intro (fun c1 => ?_) (fun c1 => ?_) <;> simp [c1]
  · refine Turn.nil 2 46 (by simp) fun id hid => ?_
    simp [List.eq_nil_of_length_eq_zero (show l.length = 0 by simpa using c1)]
  have k1 : (24 : Int) * l.length ≤ 281474976710656 := by omega
  have k2 : (l.length : Int) ≤ 9223372036854775807 := by omega
  simp [k1, k2]
  refine gall_intro fun id hid => ?_
  simp
  refine TWoH.copy id (List.replicate l.length [.val (.slice none 0 0)]) (l.map encP) Tryz.underlying23 (by simp) ?_ ?_ ?_ (rl_encP l) ?_ ?_
  all_goals simp
  exact Turn.same (by simp)
theorem spansTo_hi {f : Nat → Bool} : ∀ b, ∀ s, (spansTo f b).getLast? = some s → s.2 < b
  | 0, s, h => by simp [spansTo] at h
  | b + 1, s, h => by
    have ih := spansTo_hi (f := f) b
    unfold spansTo at h
    by_cases c : f b = true
    · rw [if_pos c] at h
      unfold addB at h
      cases e : (spansTo f b).getLast? with
      | none => rw [e] at h; simp at h; subst h; simp; omega
      | some x =>
        rw [e] at h
        simp only at h
        by_cases c2 : x.2 = (b : Int) - 1
        · rw [if_pos c2] at h
          have hne : spansTo f b ≠ [] := fun e2 => by rw [e2] at e; simp at e
          rw [List.getLast?_eq_getElem?] at h
          simp at h
          have hl : 0 < (spansTo f b).length := by cases hh : spansTo f b with
            | nil => exact absurd hh hne
            | cons a l => simp
          rw [List.getElem?_set_self (by omega)] at h
          simp at h
          subst h; simp; omega
        · rw [if_neg c2] at h
          simp at h
          subst h; simp; omega
    · rw [if_neg c] at h
      have := ih s h
      omega
theorem spansTo_last {f : Nat → Bool} {b : Nat} (h : f b = true) : ∃ s, (spansTo f (b + 1)).getLast? = some s ∧ s.2 = b := by
  unfold spansTo
  rw [if_pos h]
  unfold addB
  cases e : (spansTo f b).getLast? with
  | none => exact ⟨(b, b), by simp, rfl⟩
  | some x =>
    simp only
    by_cases c2 : x.2 = (b : Int) - 1
    · rw [if_pos c2]
      refine ⟨(x.1, b), ?_, rfl⟩
      have hne : spansTo f b ≠ [] := fun e2 => by rw [e2] at e; simp at e
      have hl : 0 < (spansTo f b).length := by cases hh : spansTo f b with
        | nil => exact absurd hh hne
        | cons a l => simp
      rw [List.getLast?_eq_getElem?]
      simp
      rw [List.getElem?_set_self (by omega)]
    · rw [if_neg c2]
      exact ⟨(b, b), by simp, rfl⟩
/-- How the spans of a byte more come about, by whether the byte ahead is in it. -/
theorem spansTo_next {f : Nat → Bool} {b : Nat} (h : f b = true) : (f (b - 1) = true ∧ 0 < b → ∃ l s, spansTo f b = l ++ [s] ∧ spansTo f (b + 1) = l ++ [(s.1, (b : Int))]) ∧ (¬ (f (b - 1) = true ∧ 0 < b) → spansTo f (b + 1) = spansTo f b ++ [((b : Int), (b : Int))]) := by
  constructor
  · rintro ⟨h1, h2⟩
    obtain ⟨b, rfl⟩ : ∃ c, b = c + 1 := ⟨b - 1, by omega⟩
    simp only [Nat.add_sub_cancel] at h1
    obtain ⟨s, hs, e⟩ := spansTo_last h1
    have hne : spansTo f (b + 1) ≠ [] := fun e2 => by rw [e2] at hs; simp at hs
    obtain ⟨l, s', hl⟩ : ∃ l s', spansTo f (b + 1) = l ++ [s'] := by
      rcases List.eq_nil_or_concat (spansTo f (b + 1)) with e | ⟨l, s, e⟩
      · exact absurd e hne
      · exact ⟨l, s, by simpa using e⟩
    rw [hl] at hs
    simp at hs
    subst hs
    refine ⟨l, s', hl, ?_⟩
    conv => lhs; unfold spansTo
    rw [if_pos h, hl]
    unfold addB
    simp
    omega
  · intro hn
    conv => lhs; unfold spansTo
    rw [if_pos h]
    unfold addB
    cases e : (spansTo f b).getLast? with
    | none =>
      have : spansTo f b = [] := by simpa using e
      rw [this]; rfl
    | some s =>
      simp only
      rw [if_neg]
      intro c
      have hb : 0 < b := by
        cases b with
        | zero => simp [spansTo] at e
        | succ b => omega
      obtain ⟨b, rfl⟩ : ∃ c, b = c + 1 := ⟨b - 1, by omega⟩
      have hf : f b = false := by
        cases hh : f b
        · rfl
        · exact absurd ⟨by simpa using hh, hb⟩ hn
      have e2 : spansTo f (b + 1) = spansTo f b := by
        conv => lhs; unfold spansTo
        rw [if_neg (by simp [hf])]
      rw [e2] at e
      have := spansTo_hi b s e
      omega
end Go.Proofs.YtibeeohnjabhkaaGreat.R

open Go Go.Proofs.YtibeeohnjabhkaaGreat.T
namespace Go.Proofs.YtibeeohnjabhkaaGreat.R
set_option maxHeartbeats 4000000
set_option maxRecDepth 100000
set_option linter.unusedSimpArgs false
set_option linter.unusedVariables false
attribute [local simp] bsV bsRows chunk fillT partsT appV makeV rowsOf cellsOf placeOf frzT frz1
theorem tc_spans (f : Nat → Bool) : TC Tryz.prog 64 [.agg (bitsT f)] [] (.own 45 ((spansF f).map encS)) [] := by
  refine TC.enter Tryz.func64 rfl (by simp [Tryz.ntmps64]) rfl (tw_sound (ρ := [1]) ?_)
  rw [Tryz.ntmps64]
  simp
  refine TWcH.turn (Turn.nil 3 45 (by simp) fun id hid => ?_)
  refine TWcH.loop [15] (fun m s => ∃ (i : Nat) (id : Nat), i + m = 256 ∧ s.σ 1 = .rptr (bitsT f) 0 ∧ s.σ 3 = .hd id ∧ s.σ 6 = .agg (bitsT f) ∧ s.σ 7 = .val (.int .i64 i) ∧ s.H id = some (.own 45 ((spansTo f i).map encS))) 256 ⟨0, id, by simp [spansTo]⟩ ?_
  rintro m ⟨σ, H⟩ ⟨i, id, him, h1, h3, h6, h7, hH⟩
  simp only at h1 h3 h6 h7 hH
  by_cases hi : i < 256
  · have hw : IntKind.i64.wrap ((i : Int) + 1) = i + 1 := wrapi (by omega)
    have hi2 : (i : Int) < 256 := by omega
    have hlen := spansTo_len (f := f) i
    have hst : spansTo f (i + 1) = if f i = true then addB (spansTo f i) i else spansTo f i := rfl
    have hi3 : i ≤ 255 := by omega
    have u1 : ((spansTo f i).length + 1) * 16 ≤ 140737488355328 := by omega
    have u2 : (spansTo f i).length ≤ 9223372036854775806 := Nat.le_trans hlen (Nat.le_trans hi3 (by decide))
    by_cases c : f i = true
    · obtain ⟨n1, n2⟩ := spansTo_next c
      by_cases c0 : 0 < i
      · have c0' : (0 : Int) < i := by omega
        have hwi : IntKind.i64.wrap ((i : Int) - 1) = ((i - 1 : Nat) : Int) := by rw [wrapi (by omega)]; omega
        have hj1 : i - 1 < 256 := by omega
        have hj2 : ((i - 1 : Nat) : Int) < 256 := by omega
        have hj3 : i - 1 ≤ 255 := by omega
        by_cases c1 : f (i - 1) = true
        · obtain ⟨l, s, e1, e2⟩ := n1 ⟨c1, c0⟩
          rw [e1] at hH hlen
          simp at hlen
          have hl1 : ((l.length : Int) + 1 - 1) = l.length := by omega
          have hwl : IntKind.i64.wrap (l.length : Int) = l.length := wrapi (by omega)
          have hlt : (l.length : Int) < l.length + 1 := by omega
          simp [h1, h3, h6, h7, hH, hi2, hi, hi3, c, c0, c0', c1, hwi, hj1, hj2, hj3, bitsT_cut hi, bitsT_cut hj1, bitsT_at', bitsT_at hi, partTV, hl1, hwl, hlt, hw, encS]
          exact ⟨m - 1, by omega, i + 1, by omega, by omega, by rw [e2]; simp [encS]⟩
        · simp [h1, h3, h6, h7, hH, hi2, hi, hi3, c, c0, c0', c1, hwi, hj1, hj2, hj3, bitsT_cut hi, bitsT_cut hj1, bitsT_at', bitsT_at hi, partTV, hw, u1, u2]
          refine gall_intro fun id' hid' => ?_
          simp [h1, h3, h6, h7, hw]
          exact ⟨m - 1, by omega, i + 1, by omega, by omega, by rw [n2 (fun x => c1 x.1)]; simp [encS]⟩
      · have c0' : ¬ (0 : Int) < i := by omega
        simp [h1, h3, h6, h7, hH, hi2, hi, hi3, c, c0, c0', bitsT_cut hi, bitsT_at', bitsT_at hi, partTV, hw, u1, u2]
        refine gall_intro fun id' hid' => ?_
        simp [h1, h3, h6, h7, hw]
        exact ⟨m - 1, by omega, i + 1, by omega, by omega, by rw [n2 (fun x => c0 x.2)]; simp [encS]⟩
    · rw [if_neg c] at hst
      simp [h1, h3, h6, h7, hH, hi2, hi, hi3, c, bitsT_cut hi, bitsT_at', bitsT_at hi, partTV, hw, u1, u2]
      exact ⟨m - 1, by omega, i + 1, by omega, by omega, by rw [hst]⟩
  · obtain rfl : i = 256 := by omega
    simp [h1, h3, h6, h7, hH]
    have hl := spansTo_len (f := f) 256
    refine TWoH.call (tc_copiedSpan (spansTo f 256) (by omega)) callable_63 (by simp [hH]) (by simp) (by simp) fun k hk => ?_
    simp [spansF]
theorem argTL_bits {H : Nat → Option TV} {ρ : List Nat} (f : Nat → Bool) : argTL H ρ (bitsT f) = some (bitsT f) := by
  unfold bitsT
  induction List.range 256 with
  | nil => simp [argTL]
  | cons a l ih => simp [argTL, ih]
theorem tc_iSetJoin (p q : List (Int × Int)) (hp : p.length ≤ 1048576) (hq : q.length ≤ 1048576) : TC Tryz.prog 42 [.ro (p.map encS), .ro (q.map encS)] [] (.own 45 ((joinS p q).map encS)) [] := by
  refine TC.enter Tryz.func42 rfl (by simp [Tryz.ntmps42]) rfl (TWc.postT (tw_sound (ρ := []) ?_))
  rw [Tryz.ntmps42]
  simp
  refine TWoH.callV (tc_iSetOk p (by omega)) callable_27 (by simp) (by simp) (by simp) (by simp) ?_
  unfold joinS
  by_cases ho : setOk p = true
  case neg =>
    simp [ho]
    refine Turn.nil 4 45 (by simp) fun id hid => ?_
    simp
  simp [ho]
  refine TWoH.callV (tc_iSetOk q (by omega)) callable_27 (by simp) (by simp) (by simp) (by simp) ?_
  by_cases ho' : setOk q = true
  case neg =>
    simp [ho']
    refine Turn.nil 4 45 (by simp) fun id hid => ?_
    simp
  simp [ho']
  refine TWoH.callV (tc_bitsOf p (by omega)) callable_28 (by simp) (by simp) (by simp) (by simp) ?_
  simp
  refine TWoH.callV (tc_bitsOf q (by omega)) callable_28 (by simp) (by simp) (by simp) (by simp) ?_
  simp
  refine gall_intro fun a ha => ?_
  clear ha
  simp
  refine gall_fresh [a] (by simp) fun c fc => ?_
  simp [frF] at fc
  simp [fc]
  refine TWcH.loop [] (fun m s => ∃ i : Nat, i + m = 256 ∧ s.σ 5 = .pd a 0 0 0 ∧ s.σ 6 = .pd c 0 0 0 ∧ s.σ 20 = .val (.int .i64 i) ∧ s.H a = some (.box 55 (bitsT fun b => if b < i then joinB p q b else hasS p b)) ∧ s.H c = some (.box 55 (bitsT fun b => hasS q b))) 256 ⟨0, by simp [fc]⟩ ?_
  rintro m ⟨σ, H⟩ ⟨i, him, h5, h6, h20, hA, hC⟩
  simp only at h5 h6 h20 hA hC
  by_cases hi : i < 256
  · have hw : IntKind.i64.wrap ((i : Int) + 1) = i + 1 := wrapi (by omega)
    have hi2 : (i : Int) < 256 := by omega
    have hi3 : i ≤ 255 := by omega
    have hnew : (fun b => if b = i then joinB p q i else if b < i then joinB p q b else hasS p b) = fun b => if b < i + 1 then joinB p q b else hasS p b := by
      funext b
      by_cases e : b = i
      · subst e; simp
      · by_cases e2 : b < i
        · simp [e, e2, show b < i + 1 by omega]
        · simp [e, e2, show ¬ b < i + 1 by omega]
    by_cases c1 : hasS p i = true
    · have hj : joinB p q i = true := by simp [joinB, c1]
      rw [hj] at hnew
      simp [h5, h6, h20, hA, hC, hi, hi2, hi3, fc, bitsT_cut hi, bitsT_at', bitsT_at hi, partTV, c1, bitsT_put hi, hw]
      exact ⟨m - 1, by omega, i + 1, by omega, by omega, by rw [← hnew]; apply bitsT_congr; intro b _; by_cases e : b = i <;> simp [e]⟩
    · have hj : joinB p q i = hasS q i := by simp [joinB, c1]
      rw [hj] at hnew
      simp [h5, h6, h20, hA, hC, hi, hi2, hi3, fc, bitsT_cut hi, bitsT_at', bitsT_at hi, partTV, c1, bitsT_put hi, hw]
      exact ⟨m - 1, by omega, i + 1, by omega, by omega, by rw [← hnew]⟩
  · obtain rfl : i = 256 := by omega
    have he : bitsT (fun b => if b < 256 then joinB p q b else hasS p b) = bitsT (joinB p q) := bitsT_congr fun b hb => by simp [hb]
    rw [he] at hA
    simp [h5, h6, h20, hA, hC, fc]
    refine TWoH.call (tc_spans (joinB p q)) callable_64 (by simp [hA, argTL_bits]) (by simp) (by simp) fun k hk => ?_
    simp [ho, ho']
    exact Turn.same (by simp)
end Go.Proofs.YtibeeohnjabhkaaGreat.R

open Go Go.Proofs.YtibeeohnjabhkaaGreat.T
namespace Go.Proofs.YtibeeohnjabhkaaGreat.R
set_option maxHeartbeats 8000000
set_option maxRecDepth 100000
set_option linter.unusedSimpArgs false
set_option linter.unusedVariables false
attribute [local simp] bsV bsRows chunk fillT partsT appV makeV rowsOf cellsOf placeOf frzT frz1
/-- A machine's sizes, for copies. -/
structure CSm (d : Dfa) : Prop where
  parts : d.parts.length ≤ 1048576
  rows : d.rows.length ≤ 1048576
  acc : d.acc.length ≤ 1048576
  part : ∀ x ∈ d.parts, x.length ≤ 1048576
  row : ∀ x ∈ d.rows, x.length ≤ 1048576
theorem CSm.of {d : Dfa} (h : DSm d) : CSm d := ⟨h.parts, h.rows, h.acc, h.part, h.row⟩
def J72a (d : Dfa) (c2 c3 a : Nat) (m : Nat) (st : St) : Prop := ∃ (i p r : Nat), i + m = d.parts.length ∧ st.σ 1 = .rptr (encDfa d) 0 ∧ st.σ 2 = .pd c2 0 0 0 ∧ st.σ 3 = .pd c3 0 0 0 ∧ st.σ 4 = .val (.int .i64 i) ∧ frF p [c2, c3, a] ∧ frF r [c2, c3, a, p] ∧ st.H c2 = some (.box 27 [.val (.slice none 0 0), .val (.slice none 0 0), .val (.slice none 0 0)]) ∧ st.H c3 = some (.box 27 [.hd p, .hd r, .hd a]) ∧ st.H a = some (.own 3 (d.acc.map encI)) ∧ st.H p = some (.own 46 ((d.parts.take i).map oP)) ∧ st.H r = some (.own 25 [])
def J72b (d : Dfa) (c2 c3 a p : Nat) (m : Nat) (st : St) : Prop := ∃ (i r : Nat), i + m = d.rows.length ∧ st.σ 1 = .rptr (encDfa d) 0 ∧ st.σ 2 = .pd c2 0 0 0 ∧ st.σ 3 = .pd c3 0 0 0 ∧ st.σ 5 = .val (.int .i64 i) ∧ frF r [c2, c3, a, p] ∧ st.H c2 = some (.box 27 [.val (.slice none 0 0), .val (.slice none 0 0), .val (.slice none 0 0)]) ∧ st.H c3 = some (.box 27 [.hd p, .hd r, .hd a]) ∧ st.H a = some (.own 3 (d.acc.map encI)) ∧ st.H p = some (.own 46 (d.parts.map oP)) ∧ st.H r = some (.own 25 ((d.rows.take i).map oR))
theorem tc_l7Copy (d : Dfa) (hs : CSm d) : TC Tryz.prog 21 [.agg (encDfa d)] [] (.agg (oDfa d)) [] := by
  refine TC.enter Tryz.func21 rfl (by simp [Tryz.ntmps21]) rfl (tw_sound (ρ := [1]) ?_)
  rw [Tryz.ntmps21]
  have ha := hs.acc
  have hp := hs.parts
  have hr := hs.rows
  have k1 : d.acc.length * 8 ≤ 140737488355328 := by omega
  have k2 : d.acc.length ≤ 9223372036854775807 := by omega
  simp [encDfa]
  refine gall_intro fun c2 g2 => ?_
  clear g2
  simp
  refine gall_fresh [c2] (by simp) fun r6 f6 => ?_
  simp [frF] at f6
  simp [f6, k1, k2]
  refine gall_fresh [c2, r6] (by simp [f6]) fun a fa => ?_
  simp [frF] at fa
  simp [f6, fa, del, delo]
  refine gall_fresh [c2, a] (by simp [f6, fa, del]) fun c3 f3 => ?_
  simp [frF] at f3
  simp [f6, fa, f3, del, delo]
  refine TWcH.turn (Turn.then (Turn.nilC c3 0 46 27 (cs := [.val (.slice none 0 0), .val (.slice none 0 0), .hd a]) (by simp [f6, fa, f3, del, delo]) (by simp) fun p hp0 hp1 => ?_))
  have fp := frF_of hp0 [c2, c3, a] (by simp [f6, fa, f3, del])
  clear hp0 hp1
  simp [frF] at fp
  refine Turn.nilC c3 1 25 27 (cs := [.hd p, .val (.slice none 0 0), .hd a]) (by simp [f6, fa, f3, fp, del, delo]) (by simp) fun r hr0 hr1 => ?_
  have fr := frF_of hr0 [c2, c3, a, p] (by simp [f6, fa, f3, fp, del])
  clear hr0 hr1
  simp [frF] at fr
  refine TWcH.loopT [] (fun m st => Turn Tryz.prog 50 st (J72a d c2 c3 a m)) (J72a d c2 c3 a) d.parts.length (Turn.same ⟨0, p, r, by simp [f6, fa, f3, fp, fr, del, delo, encDfa, frF]⟩) (fun m s h => h) ?_
  clear fp fr p r k1 k2
  rintro m ⟨σ, H⟩ ⟨i, p, r, him, h1, h2, h3, h4, fp, fr, H2, H3, Ha, Hp, Hr⟩
  simp only [encDfa] at h1 h2 h3 h4 H2 H3 Ha Hp Hr
  simp [frF] at fp fr
  by_cases hi : i < d.parts.length
  · have hw : IntKind.i64.wrap ((i : Int) + 1) = i + 1 := wrapi (by omega)
    have hpl := hs.part _ (List.getElem_mem hi)
    have k1 : d.parts[i].length * 16 ≤ 140737488355328 := by omega
    have k2 : d.parts[i].length ≤ 9223372036854775807 := by omega
    have k3 : (i + 1) * 24 ≤ 140737488355328 := by omega
    have k4 : i ≤ 9223372036854775806 := by omega
    have hmin : min i d.parts.length = i := by omega
    simp [h1, h2, h3, h4, H3, Ha, Hp, Hr, hi, encDfa]
    refine TWcH.regionD (ρ := []) [0, 1, 3, 4, 5, 6, 7, 2, 8, 9, 10, 11, 12] 12 mixed (by kernel_rfl) ?_
    simp [h1, h2, h3, h4, H3, Ha, Hp, Hr, hi, getI hi, encP]
    refine gall_fresh [c2, c3, a, p, r] (by simp [H2, H3, Ha, Hp, Hr]) fun b fb => ?_
    simp [frF] at fb
    simp [h1, h2, h3, h4, H3, Ha, Hp, Hr, hi, getI hi, f6, fa, f3, fp, fr, fb, k1, k2]
    rw [gif_pos (fun r x y hx e => by rw [← e]; simp [encS])]
    refine gall_fresh [c2, c3, a, p, r, b] (by simp [H2, H3, Ha, Hp, Hr, fb]) fun e fe => ?_
    simp [frF] at fe
    simp [h1, h2, h3, h4, H3, Ha, Hp, Hr, hi, f6, fa, f3, fp, fr, fb, fe, del, delo]
    refine gall_fresh [c2, c3, a, p, r, e] (by simp [H2, H3, Ha, Hp, Hr, fb, fe, del]) fun w fw => ?_
    simp [frF] at fw
    simp [h1, h2, h3, h4, H3, Ha, Hp, Hr, hi, f6, fa, f3, fp, fr, fb, fe, fw, del, delo, hmin, k3, k4]
    refine gall_fresh [c2, c3, a, p, r, e, w] (by simp [H2, H3, Ha, Hp, Hr, fb, fe, fw, del]) fun n fn => ?_
    simp [frF] at fn
    simp [h1, h2, h3, h4, H2, H3, Ha, Hp, Hr, hi, f6, fa, f3, fp, fr, fb, fe, fw, fn, del, delo, hmin, hw, encDfa]
    refine ⟨m - 1, by omega, Turn.shift (Shift.fold1x n e 46 i 0 ((d.parts.take i).map oP ++ [[.hd e]]) [.hd e] (.own 45 (d.parts[i].map encS)) (by simp [fn]) (by simp [h1, h2, h3, h4, H2, H3, Ha, Hp, Hr, hi, f6, fa, f3, fp, fr, fb, fe, fw, fn, del, delo, hmin]) (by simp [hmin]) rfl (by simp [h1, h2, h3, h4, H2, H3, Ha, Hp, Hr, hi, f6, fa, f3, fp, fr, fb, fe, fw, fn, del, delo, hmin])) ⟨i + 1, n, r, by omega, ?_⟩⟩
    have hset : ((d.parts.take i).map oP ++ [[TV.hd e]]).set i [TV.own 45 (d.parts[i].map encS)] = (d.parts.take (i + 1)).map oP := by
      rw [List.take_succ_eq_append_getElem hi, List.map_append, List.set_append_right _ _ (by simp [hmin])]
      simp [hmin, oP]
    simp [h1, h2, h3, h4, H2, H3, Ha, Hp, Hr, hi, f6, fa, f3, fp, fr, fb, fe, fw, fn, del, delo, hmin, frF, hset, encDfa]
    rw [List.take_succ_eq_append_getElem (by simpa using hi)]; simp [oP]
  · obtain rfl : i = d.parts.length := by omega
    rw [List.take_length] at Hp
    have hi2 : ¬ d.parts.length < d.parts.length := by omega
    simp [h1, h2, h3, h4, H2, H3, Ha, Hp, Hr]
    refine TWcH.loopT [] (fun m st => Turn Tryz.prog 50 st (J72b d c2 c3 a p m)) (J72b d c2 c3 a p) d.rows.length (Turn.same ⟨0, r, by simp [h1, h2, h3, H2, H3, Ha, Hp, Hr, f6, fa, f3, fp, fr, del, delo, encDfa, frF]⟩) (fun m s h => h) ?_
    clear h1 h2 h3 h4 H2 H3 Ha Hp Hr fr r him hi
    rintro m ⟨σ, H⟩ ⟨i, r, him, h1, h2, h3, h4, fr, H2, H3, Ha, Hp, Hr⟩
    simp only [encDfa] at h1 h2 h3 h4 H2 H3 Ha Hp Hr
    simp [frF] at fr
    by_cases hi : i < d.rows.length
    · have hw : IntKind.i64.wrap ((i : Int) + 1) = i + 1 := wrapi (by omega)
      have hpl := hs.row _ (List.getElem_mem hi)
      have k1 : d.rows[i].length * 8 ≤ 140737488355328 := by omega
      have k2 : d.rows[i].length ≤ 9223372036854775807 := by omega
      have k3 : (i + 1) * 24 ≤ 140737488355328 := by omega
      have k4 : i ≤ 9223372036854775806 := by omega
      have hmin : min i d.rows.length = i := by omega
      simp [h1, h2, h3, h4, H3, Ha, Hp, Hr, hi, encDfa]
      refine TWcH.regionD (ρ := []) [0, 1, 3, 4, 5, 6, 7, 2, 8, 9, 10, 11, 12] 12 mixed (by kernel_rfl) ?_
      simp [h1, h2, h3, h4, H3, Ha, Hp, Hr, hi, getI hi, encR]
      refine gall_fresh [c2, c3, a, p, r] (by simp [H2, H3, Ha, Hp, Hr]) fun b fb => ?_
      simp [frF] at fb
      simp [h1, h2, h3, h4, H3, Ha, Hp, Hr, hi, getI hi, f6, fa, f3, fp, fr, fb, k1, k2]
      refine gall_fresh [c2, c3, a, p, r, b] (by simp [H2, H3, Ha, Hp, Hr, fb]) fun e fe => ?_
      simp [frF] at fe
      simp [h1, h2, h3, h4, H3, Ha, Hp, Hr, hi, f6, fa, f3, fp, fr, fb, fe, del, delo]
      refine gall_fresh [c2, c3, a, p, r, e] (by simp [H2, H3, Ha, Hp, Hr, fb, fe, del]) fun w fw => ?_
      simp [frF] at fw
      simp [h1, h2, h3, h4, H3, Ha, Hp, Hr, hi, f6, fa, f3, fp, fr, fb, fe, fw, del, delo, hmin, k3, k4]
      refine gall_fresh [c2, c3, a, p, r, e, w] (by simp [H2, H3, Ha, Hp, Hr, fb, fe, fw, del]) fun n fn => ?_
      simp [frF] at fn
      simp [h1, h2, h3, h4, H2, H3, Ha, Hp, Hr, hi, f6, fa, f3, fp, fr, fb, fe, fw, fn, del, delo, hmin, hw, encDfa]
      refine ⟨m - 1, by omega, Turn.shift (Shift.fold1x n e 25 i 0 ((d.rows.take i).map oR ++ [[.hd e]]) [.hd e] (.own 3 (d.rows[i].map encI)) (by simp [fn]) (by simp [h1, h2, h3, h4, H2, H3, Ha, Hp, Hr, hi, f6, fa, f3, fp, fr, fb, fe, fw, fn, del, delo, hmin]) (by simp [hmin]) rfl (by simp [h1, h2, h3, h4, H2, H3, Ha, Hp, Hr, hi, f6, fa, f3, fp, fr, fb, fe, fw, fn, del, delo, hmin])) ⟨i + 1, n, by omega, ?_⟩⟩
      have hset : ((d.rows.take i).map oR ++ [[TV.hd e]]).set i [TV.own 3 (d.rows[i].map encI)] = (d.rows.take (i + 1)).map oR := by
        rw [List.take_succ_eq_append_getElem hi, List.map_append, List.set_append_right _ _ (by simp [hmin])]
        simp [hmin, oR]
      simp [h1, h2, h3, h4, H2, H3, Ha, Hp, Hr, hi, f6, fa, f3, fp, fr, fb, fe, fw, fn, del, delo, hmin, frF, hset, encDfa]
      rw [List.take_succ_eq_append_getElem (by simpa using hi)]; simp [oR]
    · obtain rfl : i = d.rows.length := by omega
      rw [List.take_length] at Hr
      simp [h1, h2, h3, h4, H2, H3, Ha, Hp, Hr, f6, fa, f3, fp, fr, del, oDfa]
end Go.Proofs.YtibeeohnjabhkaaGreat.R

open Go Go.Proofs.YtibeeohnjabhkaaGreat.T
namespace Go.Proofs.YtibeeohnjabhkaaGreat.R
set_option maxHeartbeats 8000000
set_option maxRecDepth 100000
set_option linter.unusedSimpArgs false
set_option linter.unusedVariables false
attribute [local simp] bsV bsRows chunk fillT partsT appV makeV rowsOf cellsOf placeOf frzT frz1
theorem half_at {α : Type _} {f g : α → List TV} {l : List α} {i : Nat} (hi : i < l.length) : ∀ h, ((l.take i).map f ++ (l.drop i).map g)[i]'h = g l[i] := fun h => by
  rw [List.getElem_append_right (by simp; omega)]
  simp [show i - min i l.length = 0 by omega]
theorem half_set {α : Type _} {f g : α → List TV} {l : List α} {i : Nat} (hi : i < l.length) : ((l.take i).map f ++ (l.drop i).map g).set i (f l[i]) = (l.take (i + 1)).map f ++ (l.drop (i + 1)).map g := by
  rw [List.drop_eq_getElem_cons hi, List.take_succ_eq_append_getElem hi, List.map_append, List.map_cons, List.set_append_right _ _ (by simp; omega)]
  simp only [List.length_map, List.length_take]
  rw [show i - min i l.length = 0 by omega]
  simp only [List.set_cons_zero, List.map_cons, List.map_nil, List.append_assoc, List.cons_append, List.nil_append]
theorem half_len {α : Type _} {f g : α → List TV} {l : List α} {i : Nat} (hi : i ≤ l.length) : ((l.take i).map f ++ (l.drop i).map g).length = l.length := by
  simp; omega
def J84 (l : List (List (Int × Int))) (k0 : Nat) (m : Nat) (st : St) : Prop := ∃ i : Nat, i + m = l.length ∧ st.σ 3 = .hd k0 ∧ st.σ 8 = .val (.int .i64 l.length) ∧ st.σ 9 = .val (.int .i64 i) ∧ st.H k0 = some (.own 46 ((l.take i).map oP ++ (l.drop i).map encP))
theorem tc_setsCopy (l : List (List (Int × Int))) (hl : l.length ≤ 1048576) (hs : ∀ x ∈ l, x.length ≤ 1048576) : TC Tryz.prog 39 [.ro (l.map encP)] [] (.own 46 (l.map oP)) [] := by
  refine TC.enter Tryz.func39 rfl (by simp [Tryz.ntmps39]) rfl (tw_sound (ρ := []) ?_)
  rw [Tryz.ntmps39]
  simp
  refine TWoH.call (tc_copiedSpans l (by omega)) callable_62 (by simp) (by simp) (by simp) fun k0 hk0 => ?_
  clear hk0
  simp
  refine TWcH.loopT [] (fun m st => Turn Tryz.prog 22 st (J84 l k0 m)) (J84 l k0) l.length (Turn.same ⟨0, by simp⟩) (fun m s h => h) ?_
  rintro m ⟨σ, H⟩ ⟨i, him, h3, h8, h9, hH⟩
  simp only at h3 h8 h9 hH
  by_cases hi : i < l.length
  · have hw : IntKind.i64.wrap ((i : Int) + 1) = i + 1 := wrapi (by omega)
    have hx := hs _ (List.getElem_mem hi)
    have hat := half_at (f := oP) (g := encP) hi
    have hset := half_set (f := oP) (g := encP) hi
    have hln := half_len (f := oP) (g := encP) (Nat.le_of_lt hi)
    generalize (l.take i).map oP ++ (l.drop i).map encP = M at hH hat hset hln
    simp [h3, h8, h9, hH, hi, hln, hat, encP]
    refine TWoH.call (tc_copiedSpan l[i] (by omega)) callable_63 (by simp) (by simp) (by simp) fun k hk => ?_
    have fk := frF_ge hk [k0] (by simp [hH])
    clear hk
    simp [frF] at fk
    simp [h3, h8, h9, hH, hi, hln, hat, encP, fk, hw]
    refine ⟨m - 1, by omega, Turn.shift (Shift.fold1x k0 k 46 i 0 (M.set i [.hd k]) [.hd k] (.own 45 (l[i].map encS)) (by simp [fk]) (by simp [fk]) (by simp [hln, hi]) rfl (by simp [fk])) ⟨i + 1, by omega, ?_⟩⟩
    have hset' : M.set i [TV.own 45 (l[i].map encS)] = List.map oP (List.take (i + 1) l) ++ List.map encP (List.drop (i + 1) l) := hset
    simp [h3, h8, h9, hH, fk, hset', del]
  · obtain rfl : i = l.length := by omega
    simp [h3, h8, h9, hH]
end Go.Proofs.YtibeeohnjabhkaaGreat.R
