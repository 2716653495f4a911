/- Part 9: what the walk of the code stands on. Conditions: none but those that each theorem states. -/
import Derived.Test.YtibeeohnjabhkaaK8
open Go Go.Proofs.Ytibeeohnjabhkaa.T
namespace Go.Proofs.Ytibeeohnjabhkaa.R
set_option maxHeartbeats 4000000
set_option maxRecDepth 100000
set_option linter.unusedSimpArgs false
set_option linter.unusedVariables false
attribute [local simp] bsV bsRows chunk fillT partsT appV makeV rowsOf cellsOf placeOf

theorem tc_l8Acc (d : Dfa) (ho : DOk d) (s : Int) (hlt : s < d.rows.length) : TC Try.prog 54 [.agg (encDfa d), .val (.int .i64 s)] [] (.val (.int .i64 (acI d s))) [] := by
  refine TC.enter Try.func54 rfl (by simp [Try.ntmps54]) rfl (tw_sound (ρ := [2]) ?_)
  rw [Try.ntmps54]
  by_cases c : s < 0
  · simp [c, acI]
  have h0 : 0 ≤ s := by omega
  have hn : s.toNat < d.acc.length := by rw [ho.acc]; omega
  have hi : s < d.acc.length := by omega
  have hr : ∀ h, d.acc[s.toNat]'h = ac_ d s.toNat := fun _ => (ac_eq hn).symm
  simp [c, acI, encDfa, h0, hn, hi, hr, encI]
theorem tc_l8To (d : Dfa) (hs : DSm d) (ho : DOk d) (s : Int) (b k : Nat) (hlt : s < d.rows.length) (hk : k < d.parts.length) (hb : firstS (pt d.parts k) = b) : TC Try.prog 56 [.agg (encDfa d), .val (.int .i64 s), .val (.int .i64 b)] [] (.val (.int .i64 (nx d s k))) [] := by
  refine TC.enter Try.func56 rfl (by simp [Try.ntmps56]) rfl (tw_sound (ρ := [3]) ?_)
  rw [Try.ntmps56]
  by_cases c : s < 0
  · simp [c, nx]
  have h0 : (s.toNat : Int) = s := by omega
  have hn : s.toNat < d.rows.length := by omega
  simp [c]
  have := tc_l7Next d hs ho s.toNat b hn
  rw [h0, next_first ho hk hb] at this
  refine TWoH.callV this callable_58 (by simp [encDfa]) (by simp) (by simp) (by simp) ?_
  simp [nx, c]
def encPs (p : Pr) : List TV := encI p.s
def encPt (p : Pr) : List TV := encI p.t
def encPw (p : Pr) : List TV := [.val (.string (bs p.w))]
theorem tc_sLeastTwo (d : Dfa) (hs : DSm d) (s t : Int) : TC Try.prog 22 [.agg (encDfa d), .val (.int .i64 s), .val (.int .i64 t)] [] (.tup [.val (.bool (twoF d s t).1), .val (.string (bs (twoF d s t).2))]) [] := by
  refine TC.enter Try.func22 rfl (by simp [Try.ntmps22]) rfl (tw_sound (ρ := [3]) ?_)
  rw [Try.ntmps22]
  simp
  refine TWoH.callV (tc_sDfaOk d hs) callable_13 (by simp) (by simp) (by simp) (by simp) ?_
  cases c1 : dfaOk d
  · have hr : twoF d s t = (false, []) := by simp [twoF, c1]
    simp [hr]
  have ho := dok_of c1
  have hmost := ho.most
  by_cases c2 : s < 0
  · have hr : twoF d s t = (false, []) := by unfold twoF; rw [if_neg (by omega)]
    simp [hr, c2]
  have c2' : 0 ≤ s := by omega
  by_cases c3 : (d.rows.length : Int) ≤ s
  · have hr : twoF d s t = (false, []) := by unfold twoF; rw [if_neg (by omega)]
    simp [hr, c2, c3, encDfa]
  have c3' : s < d.rows.length := by omega
  by_cases c4 : t < 0
  · have hr : twoF d s t = (false, []) := by unfold twoF; rw [if_neg (by omega)]
    simp [hr, c2, c3, c4, encDfa]
  have c4' : 0 ≤ t := by omega
  by_cases c5 : (d.rows.length : Int) ≤ t
  · have hr : twoF d s t = (false, []) := by unfold twoF; rw [if_neg (by omega)]
    simp [hr, c2, c3, c4, c5, encDfa]
  have c5' : t < d.rows.length := by omega
  have hr : twoF d s t = twoGo d 1682 0 [⟨s, t, []⟩] := by unfold twoF; rw [if_pos ⟨c1, ⟨c2', c3'⟩, ⟨c4', c5'⟩⟩]
  rw [hr]
  simp [c2, c3, c4, c5, c2', c3', c4', c5', encDfa]
  refine gall_intro fun ia hia => ?_
  simp
  refine gall_intro fun ib hib => ?_
  have nab : ¬ ib = ia := fun e => by rw [e] at hib; simp at hib
  have nba : ¬ ia = ib := fun e => nab e.symm
  simp [nab, nba]
  refine gall_intro fun ic hic => ?_
  have nac : ¬ ic = ia := fun e => by rw [e] at hic; simp [nab, nba] at hic
  have nbc : ¬ ic = ib := fun e => by rw [e] at hic; simp [nab, nba] at hic
  have nca : ¬ ia = ic := fun e => nac e.symm
  have ncb : ¬ ib = ic := fun e => nbc e.symm
  simp [nab, nba, nac, nbc, nca, ncb]
  refine TWcH.loop [3] (fun m st => ∃ (i : Nat) (ps : List Pr) (ia ib ic : Nat), i + m = 1682 ∧ PInv d ps ∧ twoGo d m i ps = twoGo d 1682 0 [⟨s, t, []⟩] ∧ st.σ 3 = .rptr (encDfa d) 0 ∧ st.σ 8 = .hd ia ∧ st.H ia = some (.own 3 (ps.map encPs)) ∧ st.σ 9 = .hd ib ∧ st.H ib = some (.own 3 (ps.map encPt)) ∧ st.σ 10 = .hd ic ∧ st.H ic = some (.own 9 (ps.map encPw)) ∧ ia ≠ ib ∧ ia ≠ ic ∧ ib ≠ ic ∧ st.σ 11 = .val (.int .i64 i)) 1682 ⟨0, [⟨s, t, []⟩], ia, ib, ic, by simp [encDfa, encPs, encPt, encPw, encI, nab, nba, nac, nbc, nca, ncb, PInv.start ⟨c2', c3'⟩ ⟨c4', c5'⟩]⟩ ?_
  clear nab nba nac nbc nca ncb hia hib hic
  clear ia ib ic
  rintro m ⟨σ, H⟩ ⟨i, ps, ia, ib, ic, him, hI, hG, h3, h8, hA, h9, hB, h10, hC, nab, nac, nbc, h11⟩
  simp only at h3 h8 hA h9 hB h10 hC h11
  have hlen := hI.len ho
  have nba : ¬ ib = ia := fun e => nab e.symm
  have nca : ¬ ic = ia := fun e => nac e.symm
  have ncb : ¬ ic = ib := fun e => nbc e.symm
  by_cases hi : i < ps.length
  · have hw : IntKind.i64.wrap ((i : Int) + 1) = i + 1 := wrapi (by omega)
    obtain ⟨x, hx⟩ : ∃ x, ps[i]? = some x := ⟨ps[i], getI hi⟩
    have hat : ∀ h, ps[i]'h = x := fun h => by rw [getI h] at hx; simpa using hx
    have hxm := List.mem_of_getElem? hx
    have hxr := hI.rng x hxm
    obtain ⟨m, rfl⟩ : ∃ m', m = m' + 1 := ⟨m - 1, by omega⟩
    rw [twoGo_next hx] at hG
    simp [-List.map_append, h3, h8, hA, h9, hB, h10, hC, h11, hi, nab, nac, nbc, nba, nca, ncb]
    refine TWcH.regionD (ρ := []) [0, 1, 2, 3, 4, 6, 7, 8, 9, 10, 5, 11, 12] 13 mixed (by kernel_rfl) ?_
    simp [-List.map_append, h3, h8, hA, h9, hB, h10, hC, h11, hi, hat, encPs, encPt, encI, encDfa]
    refine TWqH.callV (tc_l8Acc d ho x.s hxr.1.2) callable_54 (by simp [encDfa]) (by simp) (by simp) (by simp) ?_
    simp [-List.map_append, h3, h8, hA, h9, hB, h10, hC, h11, hi, hat, encPs, encPt, encI, encDfa]
    refine TWqH.callV (tc_l8Acc d ho x.t hxr.2.2) callable_54 (by simp [encDfa]) (by simp) (by simp) (by simp) ?_
    simp [-List.map_append, h3, h8, hA, h9, hB, h10, hC, h11, hi, hat, encPs, encPt, encI, encDfa]
    refine gif_intro (fun c6 => ?_) (fun c6 => ?_)
    case refine_2 =>
      rw [if_neg c6] at hG
      simp [c6]
      refine TWcH.regionD (ρ := []) [0, 1, 2, 3, 4, 5] 6 mixed (by kernel_rfl) ?_
      simp [-List.map_append, h3, h8, hA, h9, hB, h10, hC, h11, hi, hat, encPw, ← hG]
    rw [if_pos c6] at hG
    simp [-List.map_append, c6, h3, h8, hA, h9, hB, h10, hC, h11, hi, hat]
    refine TWcH.loop [3] (fun m' st => ∃ (k : Nat) (ps' : List Pr) (ia ib ic : Nat), k + m' = d.parts.length ∧ PInv d ps' ∧ ps'[i]? = some x ∧ roundP d x k ps' = roundP d x 0 ps ∧ st.σ 3 = .rptr (encDfa d) 0 ∧ st.σ 8 = .hd ia ∧ st.H ia = some (.own 3 (ps'.map encPs)) ∧ st.σ 9 = .hd ib ∧ st.H ib = some (.own 3 (ps'.map encPt)) ∧ st.σ 10 = .hd ic ∧ st.H ic = some (.own 9 (ps'.map encPw)) ∧ ia ≠ ib ∧ ia ≠ ic ∧ ib ≠ ic ∧ st.σ 11 = .val (.int .i64 i) ∧ st.σ 12 = .val (.int .i64 k)) d.parts.length ⟨0, ps, ia, ib, ic, by simp [h3, h8, hA, h9, hB, h10, hC, h11, nab, nac, nbc, hI, hx]⟩ ?_
    clear h3 h8 hA h9 hB h10 hC h11 nab nac nbc nba nca ncb
    clear ia ib ic σ H
    rintro m' ⟨σ, H⟩ ⟨k, ps', ia, ib, ic, hkm, hI', hx', hR, h3, h8, hA, h9, hB, h10, hC, nab, nac, nbc, h11, h12⟩
    simp only at h3 h8 hA h9 hB h10 hC h11 h12
    have hlen' := hI'.len ho
    have nba : ¬ ib = ia := fun e => nab e.symm
    have nca : ¬ ic = ia := fun e => nac e.symm
    have ncb : ¬ ic = ib := fun e => nbc e.symm
    have hpl := hs.parts
    have hi' : i < ps'.length := (List.getElem?_eq_some_iff.1 hx').1
    have hat' : ∀ h, ps'[i]'h = x := fun h => by rw [getI h] at hx'; simpa using hx'
    have hxm' := List.mem_of_getElem? hx'
    by_cases hk : k < d.parts.length
    · have hwk : IntKind.i64.wrap ((k : Int) + 1) = k + 1 := wrapi (by omega)
      have hp : ∀ h, d.parts[k]'h = pt d.parts k := fun _ => (pt_eq hk).symm
      have hpkl : (pt d.parts k).length ≤ 1048576 := by rw [pt_eq hk]; exact hs.part _ (List.getElem_mem hk)
      obtain ⟨b, hb, hfb, _⟩ := first_part ho hk
      rw [roundP_next hk] at hR
      simp [-List.map_append, h3, h8, hA, h9, hB, h10, hC, h11, h12, hk, encDfa, hp, encP]
      refine TWoH.callV (tc_sSetFirst (pt d.parts k) (by omega)) callable_55 (by simp) (by simp) (by simp) (by simp) ?_
      rw [hfb]
      simp [-List.map_append, h3, h8, hA, h9, hB, h10, hC, h11, h12, hk, encDfa]
      refine TWcH.regionD (ρ := []) [0, 1, 2, 3, 4, 5, 6, 7] 8 mixed (by kernel_rfl) ?_
      simp [-List.map_append, h3, h8, hA, h9, hB, h10, hC, h11, h12, hi', hat', encPs, encPt, encI, encDfa]
      refine TWqH.callV (tc_l8To d hs ho x.s b k hxr.1.2 hk hfb) callable_56 (by simp [encDfa]) (by simp) (by simp) (by simp) ?_
      simp [-List.map_append, h3, h8, hA, h9, hB, h10, hC, h11, h12, hi', hat', encPs, encPt, encI, encDfa]
      refine TWcH.regionD (ρ := []) [0, 1, 2, 3, 4, 5, 6, 7] 8 mixed (by kernel_rfl) ?_
      simp [-List.map_append, h3, h8, hA, h9, hB, h10, hC, h11, h12, hi', hat', encPs, encPt, encI, encDfa]
      refine TWqH.callV (tc_l8To d hs ho x.t b k hxr.2.2 hk hfb) callable_56 (by simp [encDfa]) (by simp) (by simp) (by simp) ?_
      simp [-List.map_append, h3, h8, hA, h9, hB, h10, hC, h11, h12, hi', hat', encPs, encPt, encI, encDfa]
      have hX := nx_ok ho (k := k) hxr.1.2 hk
      have hY := nx_ok ho (k := k) hxr.2.2 hk
      have hstep := hI'.step ho hxm' hk
      have hstep2 : (stepK d x ps' k)[i]? = some x := stepK_at hx'
      have hsd : stepK d x ps' k = if hadP ps' (nx d x.s k) (nx d x.t k) = true then ps' else ps' ++ [⟨nx d x.s k, nx d x.t k, x.w ++ [fb d k]⟩] := rfl
      have hfb2 : fb d k = UInt8.ofNat b := by unfold fb; rw [hfb]; simp
      rw [hfb2] at hsd
      generalize stepK d x ps' k = PS at hsd hstep hstep2 hR
      generalize nx d x.s k = X at hX hsd
      generalize nx d x.t k = Y at hY hsd
      refine TWcH.loop [3] (fun m'' st => ∃ (j : Nat) (q : Bool), j + m'' = ps'.length ∧ st.σ 3 = .rptr (encDfa d) 0 ∧ st.σ 8 = .hd ia ∧ st.H ia = some (.own 3 (ps'.map encPs)) ∧ st.σ 9 = .hd ib ∧ st.H ib = some (.own 3 (ps'.map encPt)) ∧ st.σ 10 = .hd ic ∧ st.H ic = some (.own 9 (ps'.map encPw)) ∧ st.σ 11 = .val (.int .i64 i) ∧ st.σ 12 = .val (.int .i64 k) ∧ st.σ 13 = .val (.int .i64 b) ∧ st.σ 14 = .val (.int .i64 X) ∧ st.σ 15 = .val (.int .i64 Y) ∧ st.σ 16 = .val (.bool q) ∧ st.σ 17 = .val (.int .i64 j) ∧ hadP ps' X Y = (q || hadP (ps'.drop j) X Y)) ps'.length ⟨0, false, by simp [h3, h8, hA, h9, hB, h10, hC, h11, h12, encDfa]⟩ ?_
      clear h3 h8 hA h9 hB h10 hC h11 h12
      clear σ H
      rintro m'' ⟨σ, H⟩ ⟨j, q, hjm, h3, h8, hA, h9, hB, h10, hC, h11, h12, h13, h14, h15, h16, h17, hq⟩
      simp only at h3 h8 hA h9 hB h10 hC h11 h12 h13 h14 h15 h16 h17
      by_cases hj : j < ps'.length
      · have hwj : IntKind.i64.wrap ((j : Int) + 1) = j + 1 := wrapi (by omega)
        rw [List.drop_eq_getElem_cons hj] at hq
        simp only [hadP, List.any_cons] at hq
        cases q
        case true =>
          simp [h3, h8, hA, h9, hB, h10, hC, h11, h12, h13, h14, h15, h16, h17, hj, encPs, encPt, encI, hwj]
          exact ⟨m'' - 1, by omega, j + 1, by omega, by omega, by simp only [hadP]; rw [hq]; simp⟩
        by_cases e1 : ps'[j].s = X <;> by_cases e2 : ps'[j].t = Y
        all_goals
          simp [h3, h8, hA, h9, hB, h10, hC, h11, h12, h13, h14, h15, h16, h17, hj, encPs, encPt, encI, hwj, e1, e2]
          exact ⟨m'' - 1, by omega, j + 1, by omega, by omega, by simp only [hadP]; rw [hq]; simp [e1, e2]⟩
      · obtain rfl : j = ps'.length := by omega
        simp only [List.drop_length, hadP, List.any_nil, Bool.or_false] at hq
        have hq' : hadP ps' X Y = q := hq
        rw [hq'] at hsd
        cases q
        case true =>
          simp only [if_true] at hsd
          subst hsd
          simp [-List.map_append, h3, h8, hA, h9, hB, h10, hC, h11, h12, h13, h14, h15, h16, h17, hwk, encDfa]
          exact ⟨m' - 1, by omega, k + 1, by omega, PS, hstep, hstep2, hR, rfl, rfl, rfl, nab, nac, nbc, by omega⟩
        simp only [Bool.false_eq_true, if_false] at hsd
        have k1 : (ps'.length + 1) * 8 ≤ 140737488355328 := by omega
        have k2 : ps'.length ≤ 9223372036854775806 := by omega
        have k3 : (ps'.length + 1) * 16 ≤ 140737488355328 := by omega
        simp [-List.map_append, h3, h8, hA, h9, hB, h10, hC, h11, h12, h13, h14, h15, h16, h17, k1, k2]
        have hwl := hI'.wl x hxm'
        have kx : x.w.length ≤ 9223372036854775806 := by omega
        have kx2 : ¬ (9223372036854775807 : Int) < x.w.length + 1 := by omega
        have kb2 : (b : Int).toNat = b := by omega
        have kb : IntKind.u8.wrap (b : Int) = b := by unfold IntKind.wrap; simp [IntKind.bits, IntKind.signed]; omega
        refine gall_intro fun i1 hi1 => ?_
        have f_i1_ia : ¬ i1 = ia := fun e => by rw [e] at hi1; simp [h3, h8, hA, h9, hB, h10, hC, h11, h12, h13, h14, h15, h16, h17, k1, k2, k3, delo, del, nab, nac, nbc, nba, nca, ncb, hA] at hi1
        have g_i1_ia : ¬ ia = i1 := fun e => f_i1_ia e.symm
        have f_i1_ib : ¬ i1 = ib := fun e => by rw [e] at hi1; simp [h3, h8, hA, h9, hB, h10, hC, h11, h12, h13, h14, h15, h16, h17, k1, k2, k3, delo, del, nab, nac, nbc, nba, nca, ncb, hB] at hi1
        have g_i1_ib : ¬ ib = i1 := fun e => f_i1_ib e.symm
        have f_i1_ic : ¬ i1 = ic := fun e => by rw [e] at hi1; simp [h3, h8, hA, h9, hB, h10, hC, h11, h12, h13, h14, h15, h16, h17, k1, k2, k3, delo, del, nab, nac, nbc, nba, nca, ncb, hC] at hi1
        have g_i1_ic : ¬ ic = i1 := fun e => f_i1_ic e.symm
        simp [-List.map_append, h3, h8, hA, h9, hB, h10, hC, h11, h12, h13, h14, h15, h16, h17, k1, k2, k3, delo, del, nab, nac, nbc, nba, nca, ncb, f_i1_ia, g_i1_ia, f_i1_ib, g_i1_ib, f_i1_ic, g_i1_ic, hi', hat', encPw, kx, kx2, kb, kb2]
        refine gall_intro fun i2 hi2 => ?_
        have f_i2_i1 : ¬ i2 = i1 := fun e => by rw [e] at hi2; simp [h3, h8, hA, h9, hB, h10, hC, h11, h12, h13, h14, h15, h16, h17, k1, k2, k3, delo, del, nab, nac, nbc, nba, nca, ncb, f_i1_ia, g_i1_ia, f_i1_ib, g_i1_ib, f_i1_ic, g_i1_ic] at hi2
        have g_i2_i1 : ¬ i1 = i2 := fun e => f_i2_i1 e.symm
        have f_i2_ib : ¬ i2 = ib := fun e => by rw [e] at hi2; simp [h3, h8, hA, h9, hB, h10, hC, h11, h12, h13, h14, h15, h16, h17, k1, k2, k3, delo, del, nab, nac, nbc, nba, nca, ncb, f_i1_ia, g_i1_ia, f_i1_ib, g_i1_ib, f_i1_ic, g_i1_ic, hB] at hi2
        have g_i2_ib : ¬ ib = i2 := fun e => f_i2_ib e.symm
        have f_i2_ic : ¬ i2 = ic := fun e => by rw [e] at hi2; simp [h3, h8, hA, h9, hB, h10, hC, h11, h12, h13, h14, h15, h16, h17, k1, k2, k3, delo, del, nab, nac, nbc, nba, nca, ncb, f_i1_ia, g_i1_ia, f_i1_ib, g_i1_ib, f_i1_ic, g_i1_ic, hC] at hi2
        have g_i2_ic : ¬ ic = i2 := fun e => f_i2_ic e.symm
        simp [-List.map_append, h3, h8, hA, h9, hB, h10, hC, h11, h12, h13, h14, h15, h16, h17, k1, k2, k3, delo, del, nab, nac, nbc, nba, nca, ncb, f_i1_ia, g_i1_ia, f_i1_ib, g_i1_ib, f_i1_ic, g_i1_ic, f_i2_i1, g_i2_i1, f_i2_ib, g_i2_ib, f_i2_ic, g_i2_ic, hi', hat', encPw, kx, kx2, kb, kb2]
        refine gall_intro fun i3 hi3 => ?_
        have f_i3_i1 : ¬ i3 = i1 := fun e => by rw [e] at hi3; simp [h3, h8, hA, h9, hB, h10, hC, h11, h12, h13, h14, h15, h16, h17, k1, k2, k3, delo, del, nab, nac, nbc, nba, nca, ncb, f_i1_ia, g_i1_ia, f_i1_ib, g_i1_ib, f_i1_ic, g_i1_ic, f_i2_i1, g_i2_i1, f_i2_ib, g_i2_ib, f_i2_ic, g_i2_ic] at hi3
        have g_i3_i1 : ¬ i1 = i3 := fun e => f_i3_i1 e.symm
        have f_i3_i2 : ¬ i3 = i2 := fun e => by rw [e] at hi3; simp [h3, h8, hA, h9, hB, h10, hC, h11, h12, h13, h14, h15, h16, h17, k1, k2, k3, delo, del, nab, nac, nbc, nba, nca, ncb, f_i1_ia, g_i1_ia, f_i1_ib, g_i1_ib, f_i1_ic, g_i1_ic, f_i2_i1, g_i2_i1, f_i2_ib, g_i2_ib, f_i2_ic, g_i2_ic] at hi3
        have g_i3_i2 : ¬ i2 = i3 := fun e => f_i3_i2 e.symm
        have f_i3_ib : ¬ i3 = ib := fun e => by rw [e] at hi3; simp [h3, h8, hA, h9, hB, h10, hC, h11, h12, h13, h14, h15, h16, h17, k1, k2, k3, delo, del, nab, nac, nbc, nba, nca, ncb, f_i1_ia, g_i1_ia, f_i1_ib, g_i1_ib, f_i1_ic, g_i1_ic, f_i2_i1, g_i2_i1, f_i2_ib, g_i2_ib, f_i2_ic, g_i2_ic, hB] at hi3
        have g_i3_ib : ¬ ib = i3 := fun e => f_i3_ib e.symm
        have f_i3_ic : ¬ i3 = ic := fun e => by rw [e] at hi3; simp [h3, h8, hA, h9, hB, h10, hC, h11, h12, h13, h14, h15, h16, h17, k1, k2, k3, delo, del, nab, nac, nbc, nba, nca, ncb, f_i1_ia, g_i1_ia, f_i1_ib, g_i1_ib, f_i1_ic, g_i1_ic, f_i2_i1, g_i2_i1, f_i2_ib, g_i2_ib, f_i2_ic, g_i2_ic, hC] at hi3
        have g_i3_ic : ¬ ic = i3 := fun e => f_i3_ic e.symm
        simp [-List.map_append, h3, h8, hA, h9, hB, h10, hC, h11, h12, h13, h14, h15, h16, h17, k1, k2, k3, delo, del, nab, nac, nbc, nba, nca, ncb, f_i1_ia, g_i1_ia, f_i1_ib, g_i1_ib, f_i1_ic, g_i1_ic, f_i2_i1, g_i2_i1, f_i2_ib, g_i2_ib, f_i2_ic, g_i2_ic, f_i3_i1, g_i3_i1, f_i3_i2, g_i3_i2, f_i3_ib, g_i3_ib, f_i3_ic, g_i3_ic, hi', hat', encPw, kx, kx2, kb, kb2]
        refine gall_intro fun i4 hi4 => ?_
        have f_i4_i1 : ¬ i4 = i1 := fun e => by rw [e] at hi4; simp [h3, h8, hA, h9, hB, h10, hC, h11, h12, h13, h14, h15, h16, h17, k1, k2, k3, delo, del, nab, nac, nbc, nba, nca, ncb, f_i1_ia, g_i1_ia, f_i1_ib, g_i1_ib, f_i1_ic, g_i1_ic, f_i2_i1, g_i2_i1, f_i2_ib, g_i2_ib, f_i2_ic, g_i2_ic, f_i3_i1, g_i3_i1, f_i3_i2, g_i3_i2, f_i3_ib, g_i3_ib, f_i3_ic, g_i3_ic] at hi4
        have g_i4_i1 : ¬ i1 = i4 := fun e => f_i4_i1 e.symm
        have f_i4_i2 : ¬ i4 = i2 := fun e => by rw [e] at hi4; simp [h3, h8, hA, h9, hB, h10, hC, h11, h12, h13, h14, h15, h16, h17, k1, k2, k3, delo, del, nab, nac, nbc, nba, nca, ncb, f_i1_ia, g_i1_ia, f_i1_ib, g_i1_ib, f_i1_ic, g_i1_ic, f_i2_i1, g_i2_i1, f_i2_ib, g_i2_ib, f_i2_ic, g_i2_ic, f_i3_i1, g_i3_i1, f_i3_i2, g_i3_i2, f_i3_ib, g_i3_ib, f_i3_ic, g_i3_ic] at hi4
        have g_i4_i2 : ¬ i2 = i4 := fun e => f_i4_i2 e.symm
        have f_i4_i3 : ¬ i4 = i3 := fun e => by rw [e] at hi4; simp [h3, h8, hA, h9, hB, h10, hC, h11, h12, h13, h14, h15, h16, h17, k1, k2, k3, delo, del, nab, nac, nbc, nba, nca, ncb, f_i1_ia, g_i1_ia, f_i1_ib, g_i1_ib, f_i1_ic, g_i1_ic, f_i2_i1, g_i2_i1, f_i2_ib, g_i2_ib, f_i2_ic, g_i2_ic, f_i3_i1, g_i3_i1, f_i3_i2, g_i3_i2, f_i3_ib, g_i3_ib, f_i3_ic, g_i3_ic] at hi4
        have g_i4_i3 : ¬ i3 = i4 := fun e => f_i4_i3 e.symm
        have f_i4_ic : ¬ i4 = ic := fun e => by rw [e] at hi4; simp [h3, h8, hA, h9, hB, h10, hC, h11, h12, h13, h14, h15, h16, h17, k1, k2, k3, delo, del, nab, nac, nbc, nba, nca, ncb, f_i1_ia, g_i1_ia, f_i1_ib, g_i1_ib, f_i1_ic, g_i1_ic, f_i2_i1, g_i2_i1, f_i2_ib, g_i2_ib, f_i2_ic, g_i2_ic, f_i3_i1, g_i3_i1, f_i3_i2, g_i3_i2, f_i3_ib, g_i3_ib, f_i3_ic, g_i3_ic, hC] at hi4
        have g_i4_ic : ¬ ic = i4 := fun e => f_i4_ic e.symm
        simp [-List.map_append, h3, h8, hA, h9, hB, h10, hC, h11, h12, h13, h14, h15, h16, h17, k1, k2, k3, delo, del, nab, nac, nbc, nba, nca, ncb, f_i1_ia, g_i1_ia, f_i1_ib, g_i1_ib, f_i1_ic, g_i1_ic, f_i2_i1, g_i2_i1, f_i2_ib, g_i2_ib, f_i2_ic, g_i2_ic, f_i3_i1, g_i3_i1, f_i3_i2, g_i3_i2, f_i3_ib, g_i3_ib, f_i3_ic, g_i3_ic, f_i4_i1, g_i4_i1, f_i4_i2, g_i4_i2, f_i4_i3, g_i4_i3, f_i4_ic, g_i4_ic, hi', hat', encPw, kx, kx2, kb, kb2]
        refine TWcH.regionD (ρ := []) [0, 1, 2, 3, 4, 5, 6, 7, 8, 9, 10, 11, 12] 13 mixed (by kernel_rfl) ?_
        simp [-List.map_append, h3, h8, hA, h9, hB, h10, hC, h11, h12, h13, h14, h15, h16, h17, k1, k2, k3, delo, del, nab, nac, nbc, nba, nca, ncb, f_i1_ia, g_i1_ia, f_i1_ib, g_i1_ib, f_i1_ic, g_i1_ic, f_i2_i1, g_i2_i1, f_i2_ib, g_i2_ib, f_i2_ic, g_i2_ic, f_i3_i1, g_i3_i1, f_i3_i2, g_i3_i2, f_i3_ib, g_i3_ib, f_i3_ic, g_i3_ic, f_i4_i1, g_i4_i1, f_i4_i2, g_i4_i2, f_i4_i3, g_i4_i3, f_i4_ic, g_i4_ic, hi', hat', encPw, kx, kb, kx2, kb2]
        refine gall_intro fun i5 hi5 => ?_
        have f_i5_i1 : ¬ i5 = i1 := fun e => by rw [e] at hi5; simp [h3, h8, hA, h9, hB, h10, hC, h11, h12, h13, h14, h15, h16, h17, k1, k2, k3, delo, del, nab, nac, nbc, nba, nca, ncb, f_i1_ia, g_i1_ia, f_i1_ib, g_i1_ib, f_i1_ic, g_i1_ic, f_i2_i1, g_i2_i1, f_i2_ib, g_i2_ib, f_i2_ic, g_i2_ic, f_i3_i1, g_i3_i1, f_i3_i2, g_i3_i2, f_i3_ib, g_i3_ib, f_i3_ic, g_i3_ic, f_i4_i1, g_i4_i1, f_i4_i2, g_i4_i2, f_i4_i3, g_i4_i3, f_i4_ic, g_i4_ic] at hi5
        have g_i5_i1 : ¬ i1 = i5 := fun e => f_i5_i1 e.symm
        have f_i5_i2 : ¬ i5 = i2 := fun e => by rw [e] at hi5; simp [h3, h8, hA, h9, hB, h10, hC, h11, h12, h13, h14, h15, h16, h17, k1, k2, k3, delo, del, nab, nac, nbc, nba, nca, ncb, f_i1_ia, g_i1_ia, f_i1_ib, g_i1_ib, f_i1_ic, g_i1_ic, f_i2_i1, g_i2_i1, f_i2_ib, g_i2_ib, f_i2_ic, g_i2_ic, f_i3_i1, g_i3_i1, f_i3_i2, g_i3_i2, f_i3_ib, g_i3_ib, f_i3_ic, g_i3_ic, f_i4_i1, g_i4_i1, f_i4_i2, g_i4_i2, f_i4_i3, g_i4_i3, f_i4_ic, g_i4_ic] at hi5
        have g_i5_i2 : ¬ i2 = i5 := fun e => f_i5_i2 e.symm
        have f_i5_i3 : ¬ i5 = i3 := fun e => by rw [e] at hi5; simp [h3, h8, hA, h9, hB, h10, hC, h11, h12, h13, h14, h15, h16, h17, k1, k2, k3, delo, del, nab, nac, nbc, nba, nca, ncb, f_i1_ia, g_i1_ia, f_i1_ib, g_i1_ib, f_i1_ic, g_i1_ic, f_i2_i1, g_i2_i1, f_i2_ib, g_i2_ib, f_i2_ic, g_i2_ic, f_i3_i1, g_i3_i1, f_i3_i2, g_i3_i2, f_i3_ib, g_i3_ib, f_i3_ic, g_i3_ic, f_i4_i1, g_i4_i1, f_i4_i2, g_i4_i2, f_i4_i3, g_i4_i3, f_i4_ic, g_i4_ic] at hi5
        have g_i5_i3 : ¬ i3 = i5 := fun e => f_i5_i3 e.symm
        have f_i5_i4 : ¬ i5 = i4 := fun e => by rw [e] at hi5; simp [h3, h8, hA, h9, hB, h10, hC, h11, h12, h13, h14, h15, h16, h17, k1, k2, k3, delo, del, nab, nac, nbc, nba, nca, ncb, f_i1_ia, g_i1_ia, f_i1_ib, g_i1_ib, f_i1_ic, g_i1_ic, f_i2_i1, g_i2_i1, f_i2_ib, g_i2_ib, f_i2_ic, g_i2_ic, f_i3_i1, g_i3_i1, f_i3_i2, g_i3_i2, f_i3_ib, g_i3_ib, f_i3_ic, g_i3_ic, f_i4_i1, g_i4_i1, f_i4_i2, g_i4_i2, f_i4_i3, g_i4_i3, f_i4_ic, g_i4_ic] at hi5
        have g_i5_i4 : ¬ i4 = i5 := fun e => f_i5_i4 e.symm
        have f_i5_ic : ¬ i5 = ic := fun e => by rw [e] at hi5; simp [h3, h8, hA, h9, hB, h10, hC, h11, h12, h13, h14, h15, h16, h17, k1, k2, k3, delo, del, nab, nac, nbc, nba, nca, ncb, f_i1_ia, g_i1_ia, f_i1_ib, g_i1_ib, f_i1_ic, g_i1_ic, f_i2_i1, g_i2_i1, f_i2_ib, g_i2_ib, f_i2_ic, g_i2_ic, f_i3_i1, g_i3_i1, f_i3_i2, g_i3_i2, f_i3_ib, g_i3_ib, f_i3_ic, g_i3_ic, f_i4_i1, g_i4_i1, f_i4_i2, g_i4_i2, f_i4_i3, g_i4_i3, f_i4_ic, g_i4_ic, hC] at hi5
        have g_i5_ic : ¬ ic = i5 := fun e => f_i5_ic e.symm
        simp [-List.map_append, h3, h8, hA, h9, hB, h10, hC, h11, h12, h13, h14, h15, h16, h17, k1, k2, k3, delo, del, nab, nac, nbc, nba, nca, ncb, f_i1_ia, g_i1_ia, f_i1_ib, g_i1_ib, f_i1_ic, g_i1_ic, f_i2_i1, g_i2_i1, f_i2_ib, g_i2_ib, f_i2_ic, g_i2_ic, f_i3_i1, g_i3_i1, f_i3_i2, g_i3_i2, f_i3_ib, g_i3_ib, f_i3_ic, g_i3_ic, f_i4_i1, g_i4_i1, f_i4_i2, g_i4_i2, f_i4_i3, g_i4_i3, f_i4_ic, g_i4_ic, f_i5_i1, g_i5_i1, f_i5_i2, g_i5_i2, f_i5_i3, g_i5_i3, f_i5_i4, g_i5_i4, f_i5_ic, g_i5_ic, hi', hat', encPw, kx, kx2, kb, kb2]
        refine gall_intro fun i6 hi6 => ?_
        have f_i6_i1 : ¬ i6 = i1 := fun e => by rw [e] at hi6; simp [h3, h8, hA, h9, hB, h10, hC, h11, h12, h13, h14, h15, h16, h17, k1, k2, k3, delo, del, nab, nac, nbc, nba, nca, ncb, f_i1_ia, g_i1_ia, f_i1_ib, g_i1_ib, f_i1_ic, g_i1_ic, f_i2_i1, g_i2_i1, f_i2_ib, g_i2_ib, f_i2_ic, g_i2_ic, f_i3_i1, g_i3_i1, f_i3_i2, g_i3_i2, f_i3_ib, g_i3_ib, f_i3_ic, g_i3_ic, f_i4_i1, g_i4_i1, f_i4_i2, g_i4_i2, f_i4_i3, g_i4_i3, f_i4_ic, g_i4_ic, f_i5_i1, g_i5_i1, f_i5_i2, g_i5_i2, f_i5_i3, g_i5_i3, f_i5_i4, g_i5_i4, f_i5_ic, g_i5_ic] at hi6
        have g_i6_i1 : ¬ i1 = i6 := fun e => f_i6_i1 e.symm
        have f_i6_i2 : ¬ i6 = i2 := fun e => by rw [e] at hi6; simp [h3, h8, hA, h9, hB, h10, hC, h11, h12, h13, h14, h15, h16, h17, k1, k2, k3, delo, del, nab, nac, nbc, nba, nca, ncb, f_i1_ia, g_i1_ia, f_i1_ib, g_i1_ib, f_i1_ic, g_i1_ic, f_i2_i1, g_i2_i1, f_i2_ib, g_i2_ib, f_i2_ic, g_i2_ic, f_i3_i1, g_i3_i1, f_i3_i2, g_i3_i2, f_i3_ib, g_i3_ib, f_i3_ic, g_i3_ic, f_i4_i1, g_i4_i1, f_i4_i2, g_i4_i2, f_i4_i3, g_i4_i3, f_i4_ic, g_i4_ic, f_i5_i1, g_i5_i1, f_i5_i2, g_i5_i2, f_i5_i3, g_i5_i3, f_i5_i4, g_i5_i4, f_i5_ic, g_i5_ic] at hi6
        have g_i6_i2 : ¬ i2 = i6 := fun e => f_i6_i2 e.symm
        have f_i6_i3 : ¬ i6 = i3 := fun e => by rw [e] at hi6; simp [h3, h8, hA, h9, hB, h10, hC, h11, h12, h13, h14, h15, h16, h17, k1, k2, k3, delo, del, nab, nac, nbc, nba, nca, ncb, f_i1_ia, g_i1_ia, f_i1_ib, g_i1_ib, f_i1_ic, g_i1_ic, f_i2_i1, g_i2_i1, f_i2_ib, g_i2_ib, f_i2_ic, g_i2_ic, f_i3_i1, g_i3_i1, f_i3_i2, g_i3_i2, f_i3_ib, g_i3_ib, f_i3_ic, g_i3_ic, f_i4_i1, g_i4_i1, f_i4_i2, g_i4_i2, f_i4_i3, g_i4_i3, f_i4_ic, g_i4_ic, f_i5_i1, g_i5_i1, f_i5_i2, g_i5_i2, f_i5_i3, g_i5_i3, f_i5_i4, g_i5_i4, f_i5_ic, g_i5_ic] at hi6
        have g_i6_i3 : ¬ i3 = i6 := fun e => f_i6_i3 e.symm
        have f_i6_i4 : ¬ i6 = i4 := fun e => by rw [e] at hi6; simp [h3, h8, hA, h9, hB, h10, hC, h11, h12, h13, h14, h15, h16, h17, k1, k2, k3, delo, del, nab, nac, nbc, nba, nca, ncb, f_i1_ia, g_i1_ia, f_i1_ib, g_i1_ib, f_i1_ic, g_i1_ic, f_i2_i1, g_i2_i1, f_i2_ib, g_i2_ib, f_i2_ic, g_i2_ic, f_i3_i1, g_i3_i1, f_i3_i2, g_i3_i2, f_i3_ib, g_i3_ib, f_i3_ic, g_i3_ic, f_i4_i1, g_i4_i1, f_i4_i2, g_i4_i2, f_i4_i3, g_i4_i3, f_i4_ic, g_i4_ic, f_i5_i1, g_i5_i1, f_i5_i2, g_i5_i2, f_i5_i3, g_i5_i3, f_i5_i4, g_i5_i4, f_i5_ic, g_i5_ic] at hi6
        have g_i6_i4 : ¬ i4 = i6 := fun e => f_i6_i4 e.symm
        have f_i6_i5 : ¬ i6 = i5 := fun e => by rw [e] at hi6; simp [h3, h8, hA, h9, hB, h10, hC, h11, h12, h13, h14, h15, h16, h17, k1, k2, k3, delo, del, nab, nac, nbc, nba, nca, ncb, f_i1_ia, g_i1_ia, f_i1_ib, g_i1_ib, f_i1_ic, g_i1_ic, f_i2_i1, g_i2_i1, f_i2_ib, g_i2_ib, f_i2_ic, g_i2_ic, f_i3_i1, g_i3_i1, f_i3_i2, g_i3_i2, f_i3_ib, g_i3_ib, f_i3_ic, g_i3_ic, f_i4_i1, g_i4_i1, f_i4_i2, g_i4_i2, f_i4_i3, g_i4_i3, f_i4_ic, g_i4_ic, f_i5_i1, g_i5_i1, f_i5_i2, g_i5_i2, f_i5_i3, g_i5_i3, f_i5_i4, g_i5_i4, f_i5_ic, g_i5_ic] at hi6
        have g_i6_i5 : ¬ i5 = i6 := fun e => f_i6_i5 e.symm
        have f_i6_ic : ¬ i6 = ic := fun e => by rw [e] at hi6; simp [h3, h8, hA, h9, hB, h10, hC, h11, h12, h13, h14, h15, h16, h17, k1, k2, k3, delo, del, nab, nac, nbc, nba, nca, ncb, f_i1_ia, g_i1_ia, f_i1_ib, g_i1_ib, f_i1_ic, g_i1_ic, f_i2_i1, g_i2_i1, f_i2_ib, g_i2_ib, f_i2_ic, g_i2_ic, f_i3_i1, g_i3_i1, f_i3_i2, g_i3_i2, f_i3_ib, g_i3_ib, f_i3_ic, g_i3_ic, f_i4_i1, g_i4_i1, f_i4_i2, g_i4_i2, f_i4_i3, g_i4_i3, f_i4_ic, g_i4_ic, f_i5_i1, g_i5_i1, f_i5_i2, g_i5_i2, f_i5_i3, g_i5_i3, f_i5_i4, g_i5_i4, f_i5_ic, g_i5_ic, hC] at hi6
        have g_i6_ic : ¬ ic = i6 := fun e => f_i6_ic e.symm
        simp [-List.map_append, h3, h8, hA, h9, hB, h10, hC, h11, h12, h13, h14, h15, h16, h17, k1, k2, k3, delo, del, nab, nac, nbc, nba, nca, ncb, f_i1_ia, g_i1_ia, f_i1_ib, g_i1_ib, f_i1_ic, g_i1_ic, f_i2_i1, g_i2_i1, f_i2_ib, g_i2_ib, f_i2_ic, g_i2_ic, f_i3_i1, g_i3_i1, f_i3_i2, g_i3_i2, f_i3_ib, g_i3_ib, f_i3_ic, g_i3_ic, f_i4_i1, g_i4_i1, f_i4_i2, g_i4_i2, f_i4_i3, g_i4_i3, f_i4_ic, g_i4_ic, f_i5_i1, g_i5_i1, f_i5_i2, g_i5_i2, f_i5_i3, g_i5_i3, f_i5_i4, g_i5_i4, f_i5_ic, g_i5_ic, f_i6_i1, g_i6_i1, f_i6_i2, g_i6_i2, f_i6_i3, g_i6_i3, f_i6_i4, g_i6_i4, f_i6_i5, g_i6_i5, f_i6_ic, g_i6_ic, hi', hat', encPw, kx, kx2, kb, kb2]
        refine gall_intro fun i7 hi7 => ?_
        have f_i7_i1 : ¬ i7 = i1 := fun e => by rw [e] at hi7; simp [h3, h8, hA, h9, hB, h10, hC, h11, h12, h13, h14, h15, h16, h17, k1, k2, k3, delo, del, nab, nac, nbc, nba, nca, ncb, f_i1_ia, g_i1_ia, f_i1_ib, g_i1_ib, f_i1_ic, g_i1_ic, f_i2_i1, g_i2_i1, f_i2_ib, g_i2_ib, f_i2_ic, g_i2_ic, f_i3_i1, g_i3_i1, f_i3_i2, g_i3_i2, f_i3_ib, g_i3_ib, f_i3_ic, g_i3_ic, f_i4_i1, g_i4_i1, f_i4_i2, g_i4_i2, f_i4_i3, g_i4_i3, f_i4_ic, g_i4_ic, f_i5_i1, g_i5_i1, f_i5_i2, g_i5_i2, f_i5_i3, g_i5_i3, f_i5_i4, g_i5_i4, f_i5_ic, g_i5_ic, f_i6_i1, g_i6_i1, f_i6_i2, g_i6_i2, f_i6_i3, g_i6_i3, f_i6_i4, g_i6_i4, f_i6_i5, g_i6_i5, f_i6_ic, g_i6_ic] at hi7
        have g_i7_i1 : ¬ i1 = i7 := fun e => f_i7_i1 e.symm
        have f_i7_i2 : ¬ i7 = i2 := fun e => by rw [e] at hi7; simp [h3, h8, hA, h9, hB, h10, hC, h11, h12, h13, h14, h15, h16, h17, k1, k2, k3, delo, del, nab, nac, nbc, nba, nca, ncb, f_i1_ia, g_i1_ia, f_i1_ib, g_i1_ib, f_i1_ic, g_i1_ic, f_i2_i1, g_i2_i1, f_i2_ib, g_i2_ib, f_i2_ic, g_i2_ic, f_i3_i1, g_i3_i1, f_i3_i2, g_i3_i2, f_i3_ib, g_i3_ib, f_i3_ic, g_i3_ic, f_i4_i1, g_i4_i1, f_i4_i2, g_i4_i2, f_i4_i3, g_i4_i3, f_i4_ic, g_i4_ic, f_i5_i1, g_i5_i1, f_i5_i2, g_i5_i2, f_i5_i3, g_i5_i3, f_i5_i4, g_i5_i4, f_i5_ic, g_i5_ic, f_i6_i1, g_i6_i1, f_i6_i2, g_i6_i2, f_i6_i3, g_i6_i3, f_i6_i4, g_i6_i4, f_i6_i5, g_i6_i5, f_i6_ic, g_i6_ic] at hi7
        have g_i7_i2 : ¬ i2 = i7 := fun e => f_i7_i2 e.symm
        have f_i7_i3 : ¬ i7 = i3 := fun e => by rw [e] at hi7; simp [h3, h8, hA, h9, hB, h10, hC, h11, h12, h13, h14, h15, h16, h17, k1, k2, k3, delo, del, nab, nac, nbc, nba, nca, ncb, f_i1_ia, g_i1_ia, f_i1_ib, g_i1_ib, f_i1_ic, g_i1_ic, f_i2_i1, g_i2_i1, f_i2_ib, g_i2_ib, f_i2_ic, g_i2_ic, f_i3_i1, g_i3_i1, f_i3_i2, g_i3_i2, f_i3_ib, g_i3_ib, f_i3_ic, g_i3_ic, f_i4_i1, g_i4_i1, f_i4_i2, g_i4_i2, f_i4_i3, g_i4_i3, f_i4_ic, g_i4_ic, f_i5_i1, g_i5_i1, f_i5_i2, g_i5_i2, f_i5_i3, g_i5_i3, f_i5_i4, g_i5_i4, f_i5_ic, g_i5_ic, f_i6_i1, g_i6_i1, f_i6_i2, g_i6_i2, f_i6_i3, g_i6_i3, f_i6_i4, g_i6_i4, f_i6_i5, g_i6_i5, f_i6_ic, g_i6_ic] at hi7
        have g_i7_i3 : ¬ i3 = i7 := fun e => f_i7_i3 e.symm
        have f_i7_i4 : ¬ i7 = i4 := fun e => by rw [e] at hi7; simp [h3, h8, hA, h9, hB, h10, hC, h11, h12, h13, h14, h15, h16, h17, k1, k2, k3, delo, del, nab, nac, nbc, nba, nca, ncb, f_i1_ia, g_i1_ia, f_i1_ib, g_i1_ib, f_i1_ic, g_i1_ic, f_i2_i1, g_i2_i1, f_i2_ib, g_i2_ib, f_i2_ic, g_i2_ic, f_i3_i1, g_i3_i1, f_i3_i2, g_i3_i2, f_i3_ib, g_i3_ib, f_i3_ic, g_i3_ic, f_i4_i1, g_i4_i1, f_i4_i2, g_i4_i2, f_i4_i3, g_i4_i3, f_i4_ic, g_i4_ic, f_i5_i1, g_i5_i1, f_i5_i2, g_i5_i2, f_i5_i3, g_i5_i3, f_i5_i4, g_i5_i4, f_i5_ic, g_i5_ic, f_i6_i1, g_i6_i1, f_i6_i2, g_i6_i2, f_i6_i3, g_i6_i3, f_i6_i4, g_i6_i4, f_i6_i5, g_i6_i5, f_i6_ic, g_i6_ic] at hi7
        have g_i7_i4 : ¬ i4 = i7 := fun e => f_i7_i4 e.symm
        have f_i7_i5 : ¬ i7 = i5 := fun e => by rw [e] at hi7; simp [h3, h8, hA, h9, hB, h10, hC, h11, h12, h13, h14, h15, h16, h17, k1, k2, k3, delo, del, nab, nac, nbc, nba, nca, ncb, f_i1_ia, g_i1_ia, f_i1_ib, g_i1_ib, f_i1_ic, g_i1_ic, f_i2_i1, g_i2_i1, f_i2_ib, g_i2_ib, f_i2_ic, g_i2_ic, f_i3_i1, g_i3_i1, f_i3_i2, g_i3_i2, f_i3_ib, g_i3_ib, f_i3_ic, g_i3_ic, f_i4_i1, g_i4_i1, f_i4_i2, g_i4_i2, f_i4_i3, g_i4_i3, f_i4_ic, g_i4_ic, f_i5_i1, g_i5_i1, f_i5_i2, g_i5_i2, f_i5_i3, g_i5_i3, f_i5_i4, g_i5_i4, f_i5_ic, g_i5_ic, f_i6_i1, g_i6_i1, f_i6_i2, g_i6_i2, f_i6_i3, g_i6_i3, f_i6_i4, g_i6_i4, f_i6_i5, g_i6_i5, f_i6_ic, g_i6_ic] at hi7
        have g_i7_i5 : ¬ i5 = i7 := fun e => f_i7_i5 e.symm
        have f_i7_i6 : ¬ i7 = i6 := fun e => by rw [e] at hi7; simp [h3, h8, hA, h9, hB, h10, hC, h11, h12, h13, h14, h15, h16, h17, k1, k2, k3, delo, del, nab, nac, nbc, nba, nca, ncb, f_i1_ia, g_i1_ia, f_i1_ib, g_i1_ib, f_i1_ic, g_i1_ic, f_i2_i1, g_i2_i1, f_i2_ib, g_i2_ib, f_i2_ic, g_i2_ic, f_i3_i1, g_i3_i1, f_i3_i2, g_i3_i2, f_i3_ib, g_i3_ib, f_i3_ic, g_i3_ic, f_i4_i1, g_i4_i1, f_i4_i2, g_i4_i2, f_i4_i3, g_i4_i3, f_i4_ic, g_i4_ic, f_i5_i1, g_i5_i1, f_i5_i2, g_i5_i2, f_i5_i3, g_i5_i3, f_i5_i4, g_i5_i4, f_i5_ic, g_i5_ic, f_i6_i1, g_i6_i1, f_i6_i2, g_i6_i2, f_i6_i3, g_i6_i3, f_i6_i4, g_i6_i4, f_i6_i5, g_i6_i5, f_i6_ic, g_i6_ic] at hi7
        have g_i7_i6 : ¬ i6 = i7 := fun e => f_i7_i6 e.symm
        simp [-List.map_append, h3, h8, hA, h9, hB, h10, hC, h11, h12, h13, h14, h15, h16, h17, k1, k2, k3, delo, del, nab, nac, nbc, nba, nca, ncb, f_i1_ia, g_i1_ia, f_i1_ib, g_i1_ib, f_i1_ic, g_i1_ic, f_i2_i1, g_i2_i1, f_i2_ib, g_i2_ib, f_i2_ic, g_i2_ic, f_i3_i1, g_i3_i1, f_i3_i2, g_i3_i2, f_i3_ib, g_i3_ib, f_i3_ic, g_i3_ic, f_i4_i1, g_i4_i1, f_i4_i2, g_i4_i2, f_i4_i3, g_i4_i3, f_i4_ic, g_i4_ic, f_i5_i1, g_i5_i1, f_i5_i2, g_i5_i2, f_i5_i3, g_i5_i3, f_i5_i4, g_i5_i4, f_i5_ic, g_i5_ic, f_i6_i1, g_i6_i1, f_i6_i2, g_i6_i2, f_i6_i3, g_i6_i3, f_i6_i4, g_i6_i4, f_i6_i5, g_i6_i5, f_i6_ic, g_i6_ic, f_i7_i1, g_i7_i1, f_i7_i2, g_i7_i2, f_i7_i3, g_i7_i3, f_i7_i4, g_i7_i4, f_i7_i5, g_i7_i5, f_i7_i6, g_i7_i6, hi', hat', encPw, kx, kx2, kb, kb2]
        exact ⟨m' - 1, by omega, k + 1, by omega, PS, hstep, hstep2, hR, rfl, by rw [hsd]; simp [encPs, encI], by rw [hsd]; simp [encPt, encI], by rw [hsd]; simp [encPw], hwk⟩
    · rw [roundP_end hk] at hR
      subst hR
      simp [h3, h8, hA, h9, hB, h10, hC, h11, h12, hk, encDfa, hw]
      exact ⟨m, by omega, i + 1, by omega, _, hI', hG, rfl, rfl, rfl, nab, nac, nbc, by omega⟩
  · rw [twoGo_end hi] at hG
    simp [h3, h8, hA, h9, hB, h10, hC, h11, hi, ← hG]
end Go.Proofs.Ytibeeohnjabhkaa.R

open Go Go.Proofs.Ytibeeohnjabhkaa.T
namespace Go.Proofs.Ytibeeohnjabhkaa.R
set_option maxHeartbeats 4000000
set_option maxRecDepth 100000
set_option linter.unusedSimpArgs false
set_option linter.unusedVariables false
attribute [local simp] bsV bsRows chunk fillT partsT appV makeV rowsOf cellsOf placeOf

theorem tc_iSetFirst (p : List (Int × Int)) (hl : p.length ≤ 1152921504606846976) : TC Try.prog 26 [.ro (p.map encS)] [] (.val (.int .i64 (firstS p))) [] := by
  refine TC.enter Try.func26 rfl (by simp [Try.ntmps26]) rfl (tw_sound (ρ := []) ?_)
  rw [Try.ntmps26]
  simp
  refine TWoH.callV (tc_bitsOf p hl) callable_45 (by simp) (by simp) (by simp) (by simp) ?_
  simp
  refine TWcH.loop [] (fun m s => ∃ i : Nat, i + m = 256 ∧ s.σ 6 = .agg (bitsT fun b => hasS p b) ∧ s.σ 7 = .val (.int .i64 i) ∧ firstS p = firstG (fun b => hasS p b) i) 256 ⟨0, by simp [firstS]⟩ ?_
  rintro m ⟨σ, H⟩ ⟨i, him, h6, h7, hh⟩
  simp only at h6 h7
  by_cases hi : i < 256
  · have hw : IntKind.i64.wrap ((i : Int) + 1) = i + 1 := wrapi (by omega)
    have hi2 : (i : Int) < 256 := by omega
    rw [firstG_next hi] at hh
    simp [h6, h7, hi, hi2, bitsT_at hi, bitsT_at', partTV]
    refine gif_intro (fun c => ?_) (fun c => ?_) <;> simp [h6, h7, hi2, c, hw]
    · rw [hh, if_pos c]
    · exact ⟨m - 1, by omega, i + 1, by omega, by omega, by rw [hh, if_neg c]⟩
  · obtain rfl : i = 256 := by omega
    simp [h6, h7, hh, firstG_end]
theorem tc_iAccOf (d : Dfa) (ho : DOk d) (s : Int) (hlt : s < d.rows.length) : TC Try.prog 53 [.agg (encDfa d), .val (.int .i64 s)] [] (.val (.int .i64 (acI d s))) [] := by
  refine TC.enter Try.func53 rfl (by simp [Try.ntmps53]) rfl (tw_sound (ρ := [2]) ?_)
  rw [Try.ntmps53]
  by_cases c : s < 0
  · simp [c, acI]
  have h0 : 0 ≤ s := by omega
  have hn : s.toNat < d.acc.length := by rw [ho.acc]; omega
  have hi : s < d.acc.length := by omega
  have hr : ∀ h, d.acc[s.toNat]'h = ac_ d s.toNat := fun _ => (ac_eq hn).symm
  simp [c, acI, encDfa, h0, hn, hi, hr, encI]
theorem tc_next (d : Dfa) (hs : DSm d) (ho : DOk d) (s : Int) (k : Nat) (hlt : s < d.rows.length) (hk : k < d.parts.length) : TC Try.prog 52 [.val (.int .i64 s), .val (.int .i64 k), .rptr (encDfa d) 0] [] (.val (.int .i64 (nx d s k))) [] := by
  refine TC.enter Try.func52 rfl (by simp [Try.ntmps52]) rfl (tw_sound (ρ := []) ?_)
  rw [Try.ntmps52]
  by_cases c : s < 0
  · simp [c, nx, encDfa]
  have h0 : 0 ≤ s := by omega
  have hn : s.toNat < d.rows.length := by omega
  have hr : ∀ h, d.rows[s.toNat]'h = rw_ d s.toNat := fun _ => (rw_eq hn).symm
  have hkr : k < (rw_ d s.toNat).length := by rw [ho.row _ hn]; exact hk
  simp [c, nx, encDfa, h0, hn, hlt, hr, encR, encI, hkr, getI hkr]
def encPr (p : Pr) : List TV := [.val (.int .i64 p.s), .val (.int .i64 p.t), .val (.string (bs p.w))]
def keyP (p : Pr) : Value := .agg #[.int .i64 p.s, .int .i64 p.t]
def seenP (ps : List Pr) : List (Value × Value) := ps.map fun p => (keyP p, .bool true)
theorem two87 : KLaw Try.prog 75 IsTwo := KLaw.two Try.underlying75 Try.underlying3 (by kernel_rfl) (fun w => by exact Try.isAgg3 w)
theorem seenP_two {ps : List Pr} : ∀ q ∈ seenP ps, IsTwo q.1 := by
  intro q hq
  obtain ⟨p, _, rfl⟩ := List.mem_map.1 hq
  exact ⟨_, _, rfl⟩
theorem seenP_hit {ps : List Pr} {x y : Int} (h : hadP ps x y = true) : ∃ q ∈ seenP ps, q.1 = .agg #[.int .i64 x, .int .i64 y] := by
  unfold hadP at h
  obtain ⟨p, hp, h⟩ := List.any_eq_true.1 h
  simp only [Bool.and_eq_true, decide_eq_true_eq] at h
  exact ⟨(keyP p, .bool true), List.mem_map.2 ⟨p, hp, rfl⟩, by simp [keyP, h]⟩
theorem seenP_miss {ps : List Pr} {x y : Int} (h : hadP ps x y = false) : ∀ q ∈ seenP ps, q.1 ≠ .agg #[.int .i64 x, .int .i64 y] := by
  intro q hq e
  obtain ⟨p, hp, rfl⟩ := List.mem_map.1 hq
  simp only [keyP, Value.agg.injEq] at e
  refine hadP_false h p hp ?_
  simpa using e
theorem seenP_val {ps : List Pr} {k : Value} : ∀ q ∈ seenP ps, q.1 = k → q.2 = .bool true := by
  intro q hq _
  obtain ⟨p, hp, rfl⟩ := List.mem_map.1 hq
  rfl
theorem tc_iLeastTwo (d : Dfa) (hs : DSm d) (s t : Int) : TC Try.prog 21 [.agg (encDfa d), .val (.int .i64 s), .val (.int .i64 t)] [] (.tup [.val (.bool (twoF d s t).1), .val (.string (bs (twoF d s t).2))]) [] := by
  refine TC.enter Try.func21 rfl (by simp [Try.ntmps21]) rfl (tw_sound (ρ := [3]) ?_)
  rw [Try.ntmps21]
  simp
  refine TWoH.callV (tc_iDfaOk d hs) callable_12 (by simp) (by simp) (by simp) (by simp) ?_
  cases c1 : dfaOk d
  · have hr : twoF d s t = (false, []) := by simp [twoF, c1]
    simp [hr]
  have ho := dok_of c1
  have hmost := ho.most
  have hone := ho.one
  have hw1 : IntKind.i64.wrap ((d.rows.length : Int) - 1) = d.rows.length - 1 := wrapi (by omega)
  simp [encDfa, hw1]
  refine TWoH.callV (tc_in s 0 (d.rows.length - 1)) callable_46 (by simp [hw1]) (by simp) (by simp) (by simp) ?_
  by_cases c2 : 0 ≤ s ∧ s ≤ (d.rows.length : Int) - 1
  case neg =>
    have hr : twoF d s t = (false, []) := by unfold twoF; rw [if_neg (by omega)]
    simp [hr, c2]
  simp [c2, hw1]
  refine TWoH.callV (tc_in t 0 (d.rows.length - 1)) callable_46 (by simp [hw1]) (by simp) (by simp) (by simp) ?_
  by_cases c4 : 0 ≤ t ∧ t ≤ (d.rows.length : Int) - 1
  case neg =>
    have hr : twoF d s t = (false, []) := by unfold twoF; rw [if_neg (by omega)]
    simp [hr, c2, c4]
  have c3' : 0 ≤ s ∧ s < d.rows.length := by omega
  have c5' : 0 ≤ t ∧ t < d.rows.length := by omega
  have hr : twoF d s t = twoGo d 1682 0 [⟨s, t, []⟩] := by unfold twoF; rw [if_pos ⟨c1, c3', c5'⟩]
  rw [hr]
  simp [c2, c4]
  refine TWoH.makeFunc ?_
  simp
  refine gall_intro fun ia hia => ?_
  simp
  refine TWoH.makeMap fun ib hib => ?_
  have nba : ¬ ib = ia := fun e => by rw [e] at hib; simp at hib
  have nab : ¬ ia = ib := fun e => nba e.symm
  simp [nab, nba]
  refine TWoH.insert ib [] (.agg #[.int .i64 s, .int .i64 t]) (.bool true) two87 Try.underlying76 (by simp) (by simp [nab, nba]) (by simp) ⟨s, t, rfl⟩ (by simp) (by simp) (by simp) ?_
  simp [nab, nba]
  refine TWcH.loop [3] (fun m st => ∃ (i : Nat) (ps : List Pr) (ia ib : Nat), i + m = 1682 ∧ PInv d ps ∧ twoGo d m i ps = twoGo d 1682 0 [⟨s, t, []⟩] ∧ st.σ 3 = .rptr (encDfa d) 0 ∧ st.σ 8 = .clo 52 [.rptr (encDfa d) 0] ∧ st.σ 9 = .hd ia ∧ st.H ia = some (.own 73 (ps.map encPr)) ∧ st.σ 10 = .hd ib ∧ st.H ib = some (.mp 76 (seenP ps)) ∧ ia ≠ ib ∧ st.σ 11 = .val (.int .i64 i)) 1682 ⟨0, [⟨s, t, []⟩], ia, ib, by simp [encDfa, encPr, seenP, keyP, nab, nba, PInv.start c3' c5']⟩ ?_
  clear nab nba hia hib
  clear ia ib
  rintro m ⟨σ, H⟩ ⟨i, ps, ia, ib, him, hI, hG, h3, h8, h9, hA, h10, hB, nab, h11⟩
  simp only at h3 h8 h9 hA h10 hB h11
  have hlen := hI.len ho
  have nba : ¬ ib = ia := fun e => nab e.symm
  by_cases hi : i < ps.length
  · have hw : IntKind.i64.wrap ((i : Int) + 1) = i + 1 := wrapi (by omega)
    obtain ⟨x, hx⟩ : ∃ x, ps[i]? = some x := ⟨ps[i], getI hi⟩
    have hat : ∀ h, ps[i]'h = x := fun h => by rw [getI h] at hx; simpa using hx
    have hxm := List.mem_of_getElem? hx
    have hxr := hI.rng x hxm
    obtain ⟨m, rfl⟩ : ∃ m', m = m' + 1 := ⟨m - 1, by omega⟩
    rw [twoGo_next hx] at hG
    simp [-List.map_append, h3, h8, h9, hA, h10, hB, h11, hi, hat, nab, nba, encPr]
    refine gall_intro fun ic hic => ?_
    have nca : ¬ ic = ia := fun e => by rw [e, hA] at hic; cases hic
    have ncb : ¬ ic = ib := fun e => by rw [e, hB] at hic; cases hic
    have nac : ¬ ia = ic := fun e => nca e.symm
    have nbc : ¬ ib = ic := fun e => ncb e.symm
    simp [-List.map_append, h3, h8, h9, hA, h10, hB, h11, hi, hat, nab, nba, nca, ncb, nac, nbc, encPr]
    refine TWcH.regionD (ρ := []) [0, 1, 2, 4, 5, 6, 3, 7, 8] 9 mixed (by kernel_rfl) ?_
    simp [-List.map_append, h3, h8, h9, hA, h10, hB, h11, nab, nba, nca, ncb, nac, nbc, encDfa]
    refine TWqH.callV (tc_iAccOf d ho x.s hxr.1.2) callable_53 (by simp [encDfa]) (by simp) (by simp) (by simp) ?_
    simp [-List.map_append, h3, h8, h9, hA, h10, hB, h11, nab, nba, nca, ncb, nac, nbc, encDfa]
    refine TWqH.callV (tc_iAccOf d ho x.t hxr.2.2) callable_53 (by simp [encDfa]) (by simp) (by simp) (by simp) ?_
    simp [-List.map_append, h3, h8, h9, hA, h10, hB, h11, nab, nba, nca, ncb, nac, nbc, encDfa]
    refine gif_intro (fun c6 => ?_) (fun c6 => ?_)
    case refine_2 =>
      rw [if_neg c6] at hG
      simp [c6]
      refine TWcH.regionD (ρ := []) [0, 1, 2, 3] 4 mixed (by kernel_rfl) ?_
      simp [-List.map_append, h3, h8, h9, hA, h10, hB, h11, nab, nba, nca, ncb, nac, nbc, ← hG]
    rw [if_pos c6] at hG
    simp [-List.map_append, c6, h3, h8, h9, hA, h10, hB, h11, nab, nba, nca, ncb, nac, nbc, encDfa]
    refine TWcH.loop [3] (fun m' st => ∃ (k : Nat) (ps' : List Pr) (ia : Nat), k + m' = d.parts.length ∧ PInv d ps' ∧ ps'[i]? = some x ∧ roundP d x k ps' = roundP d x 0 ps ∧ st.σ 3 = .rptr (encDfa d) 0 ∧ st.σ 8 = .clo 52 [.rptr (encDfa d) 0] ∧ st.σ 9 = .hd ia ∧ st.H ia = some (.own 73 (ps'.map encPr)) ∧ st.σ 10 = .hd ib ∧ st.H ib = some (.mp 76 (seenP ps')) ∧ st.σ 12 = .pd ic 0 0 0 ∧ st.H ic = some (.box 73 (encPr x)) ∧ ia ≠ ib ∧ ia ≠ ic ∧ st.σ 11 = .val (.int .i64 i) ∧ st.σ 70 = .ro (d.parts.map encP) ∧ st.σ 71 = .val (.int .i64 d.parts.length) ∧ st.σ 72 = .val (.int .i64 k)) d.parts.length ⟨0, ps, ia, by simp [h3, h8, h9, hA, h10, hB, h11, nab, nba, nca, ncb, nac, nbc, hI, hx, encDfa, encPr]⟩ ?_
    clear h3 h8 h9 hA h10 hB h11 nab nba nca nac hic
    clear ia σ H
    rintro m' ⟨σ, H⟩ ⟨k, ps', ia, hkm, hI', hx', hR, h3, h8, h9, hA, h10, hB, h12, hC, nab, nac, h11, h70, h71, h72⟩
    simp only at h3 h8 h9 hA h10 hB h12 hC h11 h70 h71 h72
    have hlen' := hI'.len ho
    have nba : ¬ ib = ia := fun e => nab e.symm
    have nca : ¬ ic = ia := fun e => nac e.symm
    have hpl := hs.parts
    have hxm' := List.mem_of_getElem? hx'
    by_cases hk : k < d.parts.length
    · have hwk : IntKind.i64.wrap ((k : Int) + 1) = k + 1 := wrapi (by omega)
      have hp : ∀ h, d.parts[k]'h = pt d.parts k := fun _ => (pt_eq hk).symm
      have hpkl : (pt d.parts k).length ≤ 1048576 := by rw [pt_eq hk]; exact hs.part _ (List.getElem_mem hk)
      obtain ⟨b, hb, hfb, _⟩ := first_part ho hk
      rw [roundP_next hk] at hR
      simp [-List.map_append, h3, h8, h9, hA, h10, hB, h12, hC, h11, h70, h71, h72, nab, nba, nca, ncb, nac, nbc, hk, encDfa, hp, encP]
      refine TWcH.regionD (ρ := []) [0, 1, 2, 3, 5, 6, 7, 8, 4, 9, 10, 11] 12 mixed (by kernel_rfl) ?_
      simp [-List.map_append, h3, h8, h9, hA, h10, hB, h12, hC, h11, h70, h71, h72, nab, nba, nca, ncb, nac, nbc, encPr]
      refine TWqH.callClo (c := 77) (f := 52) (caps := [.rptr (encDfa d) 0]) (by simp [-List.map_append, h3, h8, h9, hA, h10, hB, h12, hC, h11, h70, h71, h72, nab, nba, nca, ncb, nac, nbc, encDfa]) (tc_next d hs ho x.s k hxr.1.2 hk) callable_52 (by simp [-List.map_append, h3, h8, h9, hA, h10, hB, h12, hC, h11, h70, h71, h72, nab, nba, nca, ncb, nac, nbc, encPr, encDfa]) (by simp) (by simp) (by simp) ?_
      simp [-List.map_append, h3, h8, h9, hA, h10, hB, h12, hC, h11, h70, h71, h72, nab, nba, nca, ncb, nac, nbc, encPr]
      refine TWqH.callClo (c := 82) (f := 52) (caps := [.rptr (encDfa d) 0]) (by simp [-List.map_append, h3, h8, h9, hA, h10, hB, h12, hC, h11, h70, h71, h72, nab, nba, nca, ncb, nac, nbc, encDfa]) (tc_next d hs ho x.t k hxr.2.2 hk) callable_52 (by simp [-List.map_append, h3, h8, h9, hA, h10, hB, h12, hC, h11, h70, h71, h72, nab, nba, nca, ncb, nac, nbc, encPr, encDfa]) (by simp) (by simp) (by simp) ?_
      simp [-List.map_append, h3, h8, h9, hA, h10, hB, h12, hC, h11, h70, h71, h72, nab, nba, nca, ncb, nac, nbc, encPr]
      have hstep := hI'.step ho hxm' hk
      have hstep2 : (stepK d x ps' k)[i]? = some x := stepK_at hx'
      have hsd : stepK d x ps' k = if hadP ps' (nx d x.s k) (nx d x.t k) = true then ps' else ps' ++ [⟨nx d x.s k, nx d x.t k, x.w ++ [fb d k]⟩] := rfl
      have hfb2 : fb d k = UInt8.ofNat b := by unfold fb; rw [hfb]; simp
      rw [hfb2] at hsd
      generalize stepK d x ps' k = PS at hsd hstep hstep2 hR
      generalize nx d x.s k = X at hsd ⊢
      generalize nx d x.t k = Y at hsd ⊢
      cases c7 : hadP ps' X Y
      case true =>
        rw [c7] at hsd
        simp only [if_true] at hsd
        subst hsd
        refine TWoH.lookupHit ib (seenP PS) (.agg #[.int .i64 X, .int .i64 Y]) (.bool true) two87 Try.underlying76 (by simp [-List.map_append, h3, h8, h9, hA, h10, hB, h12, hC, h11, h70, h71, h72, nab, nba, nca, ncb, nac, nbc]) (by simp [-List.map_append, h3, h8, h9, hA, h10, hB, h12, hC, h11, h70, h71, h72, nab, nba, nca, ncb, nac, nbc]) (by simp) ⟨X, Y, rfl⟩ seenP_two (seenP_hit c7) seenP_val ?_
        simp [-List.map_append, h3, h8, h9, hA, h10, hB, h12, hC, h11, h70, h71, h72, nab, nba, nca, ncb, nac, nbc, hwk]
        exact ⟨m' - 1, by omega, k + 1, by omega, PS, hstep, hstep2, hR, by simp [encPr, encDfa]⟩
      rw [c7] at hsd
      simp only [Bool.false_eq_true, if_false] at hsd
      refine TWoH.lookupMiss ib (seenP ps') (.agg #[.int .i64 X, .int .i64 Y]) (.bool false) two87 Try.underlying76 (by kernel_rfl) (by simp [-List.map_append, h3, h8, h9, hA, h10, hB, h12, hC, h11, h70, h71, h72, nab, nba, nca, ncb, nac, nbc]) (by simp [-List.map_append, h3, h8, h9, hA, h10, hB, h12, hC, h11, h70, h71, h72, nab, nba, nca, ncb, nac, nbc]) (by simp) ⟨X, Y, rfl⟩ seenP_two (seenP_miss c7) ?_
      simp [-List.map_append, h3, h8, h9, hA, h10, hB, h12, hC, h11, h70, h71, h72, nab, nba, nca, ncb, nac, nbc]
      refine TWoH.mapUpdate ib (seenP ps') (.agg #[.int .i64 X, .int .i64 Y]) (.bool true) two87 Try.underlying76 (by simp [-List.map_append, h3, h8, h9, hA, h10, hB, h12, hC, h11, h70, h71, h72, nab, nba, nca, ncb, nac, nbc]) (by simp [-List.map_append, h3, h8, h9, hA, h10, hB, h12, hC, h11, h70, h71, h72, nab, nba, nca, ncb, nac, nbc]) (by simp) ⟨X, Y, rfl⟩ seenP_two (seenP_miss c7) (by simp) ?_
      simp [-List.map_append, h3, h8, h9, hA, h10, hB, h12, hC, h11, h70, h71, h72, nab, nba, nca, ncb, nac, nbc]
      have hwl := hI'.wl x hxm'
      have kx : x.w.length ≤ 9223372036854775806 := by omega
      have kx2 : ¬ (9223372036854775807 : Int) < x.w.length + 1 := by omega
      have kb2 : (b : Int).toNat = b := by omega
      have kb : IntKind.u8.wrap (b : Int) = b := by unfold IntKind.wrap; simp [IntKind.bits, IntKind.signed]; omega
      have k1 : (ps'.length + 1) * 32 ≤ 140737488355328 := by omega
      have k2 : ps'.length ≤ 9223372036854775806 := by omega
      refine TWcH.regionD (ρ := []) [0, 1, 2, 3, 4, 5, 6, 7, 8, 9, 10, 11, 12, 13, 14] 15 mixed (by kernel_rfl) ?_
      simp [-List.map_append, h3, h8, h9, hA, h10, hB, h12, hC, h11, h70, h71, h72, nab, nba, nca, ncb, nac, nbc, encPr]
      refine TWqH.callV (tc_iSetFirst (pt d.parts k) (by omega)) callable_26 (by simp [-List.map_append, h3, h8, h9, hA, h10, hB, h12, hC, h11, h70, h71, h72, nab, nba, nca, ncb, nac, nbc, encP]) (by simp) (by simp) (by simp) ?_
      rw [hfb]
      simp [-List.map_append, h3, h8, h9, hA, h10, hB, h12, hC, h11, h70, h71, h72, nab, nba, nca, ncb, nac, nbc, encPr, kb, kb2, kx, kx2, k1, k2]
      refine gall_intro fun i1 hi1 => ?_
      have f_i1_ia : ¬ i1 = ia := fun e => by rw [e] at hi1; simp [delo, del, -List.map_append, h3, h8, h9, hA, h10, hB, h12, hC, h11, h70, h71, h72, nab, nba, nca, ncb, nac, nbc, encPr, kb, kb2, kx, kx2, k1, k2, hA] at hi1
      have g_i1_ia : ¬ ia = i1 := fun e => f_i1_ia e.symm
      have f_i1_ib : ¬ i1 = ib := fun e => by rw [e] at hi1; simp [delo, del, -List.map_append, h3, h8, h9, hA, h10, hB, h12, hC, h11, h70, h71, h72, nab, nba, nca, ncb, nac, nbc, encPr, kb, kb2, kx, kx2, k1, k2, hB] at hi1
      have g_i1_ib : ¬ ib = i1 := fun e => f_i1_ib e.symm
      have f_i1_ic : ¬ i1 = ic := fun e => by rw [e] at hi1; simp [delo, del, -List.map_append, h3, h8, h9, hA, h10, hB, h12, hC, h11, h70, h71, h72, nab, nba, nca, ncb, nac, nbc, encPr, kb, kb2, kx, kx2, k1, k2, hC] at hi1
      have g_i1_ic : ¬ ic = i1 := fun e => f_i1_ic e.symm
      simp [delo, del, -List.map_append, h3, h8, h9, hA, h10, hB, h12, hC, h11, h70, h71, h72, nab, nba, nca, ncb, nac, nbc, encPr, kb, kb2, kx, kx2, k1, k2, f_i1_ia, g_i1_ia, f_i1_ib, g_i1_ib, f_i1_ic, g_i1_ic]
      refine gall_intro fun i2 hi2 => ?_
      have f_i2_i1 : ¬ i2 = i1 := fun e => by rw [e] at hi2; simp [delo, del, -List.map_append, h3, h8, h9, hA, h10, hB, h12, hC, h11, h70, h71, h72, nab, nba, nca, ncb, nac, nbc, encPr, kb, kb2, kx, kx2, k1, k2, f_i1_ia, g_i1_ia, f_i1_ib, g_i1_ib, f_i1_ic, g_i1_ic] at hi2
      have g_i2_i1 : ¬ i1 = i2 := fun e => f_i2_i1 e.symm
      have f_i2_ia : ¬ i2 = ia := fun e => by rw [e] at hi2; simp [delo, del, -List.map_append, h3, h8, h9, hA, h10, hB, h12, hC, h11, h70, h71, h72, nab, nba, nca, ncb, nac, nbc, encPr, kb, kb2, kx, kx2, k1, k2, f_i1_ia, g_i1_ia, f_i1_ib, g_i1_ib, f_i1_ic, g_i1_ic, hA] at hi2
      have g_i2_ia : ¬ ia = i2 := fun e => f_i2_ia e.symm
      have f_i2_ib : ¬ i2 = ib := fun e => by rw [e] at hi2; simp [delo, del, -List.map_append, h3, h8, h9, hA, h10, hB, h12, hC, h11, h70, h71, h72, nab, nba, nca, ncb, nac, nbc, encPr, kb, kb2, kx, kx2, k1, k2, f_i1_ia, g_i1_ia, f_i1_ib, g_i1_ib, f_i1_ic, g_i1_ic, hB] at hi2
      have g_i2_ib : ¬ ib = i2 := fun e => f_i2_ib e.symm
      have f_i2_ic : ¬ i2 = ic := fun e => by rw [e] at hi2; simp [delo, del, -List.map_append, h3, h8, h9, hA, h10, hB, h12, hC, h11, h70, h71, h72, nab, nba, nca, ncb, nac, nbc, encPr, kb, kb2, kx, kx2, k1, k2, f_i1_ia, g_i1_ia, f_i1_ib, g_i1_ib, f_i1_ic, g_i1_ic, hC] at hi2
      have g_i2_ic : ¬ ic = i2 := fun e => f_i2_ic e.symm
      simp [delo, del, -List.map_append, h3, h8, h9, hA, h10, hB, h12, hC, h11, h70, h71, h72, nab, nba, nca, ncb, nac, nbc, encPr, kb, kb2, kx, kx2, k1, k2, f_i1_ia, g_i1_ia, f_i1_ib, g_i1_ib, f_i1_ic, g_i1_ic, f_i2_i1, g_i2_i1, f_i2_ia, g_i2_ia, f_i2_ib, g_i2_ib, f_i2_ic, g_i2_ic]
      refine gall_intro fun i3 hi3 => ?_
      have f_i3_i1 : ¬ i3 = i1 := fun e => by rw [e] at hi3; simp [delo, del, -List.map_append, h3, h8, h9, hA, h10, hB, h12, hC, h11, h70, h71, h72, nab, nba, nca, ncb, nac, nbc, encPr, kb, kb2, kx, kx2, k1, k2, f_i1_ia, g_i1_ia, f_i1_ib, g_i1_ib, f_i1_ic, g_i1_ic, f_i2_i1, g_i2_i1, f_i2_ia, g_i2_ia, f_i2_ib, g_i2_ib, f_i2_ic, g_i2_ic] at hi3
      have g_i3_i1 : ¬ i1 = i3 := fun e => f_i3_i1 e.symm
      have f_i3_i2 : ¬ i3 = i2 := fun e => by rw [e] at hi3; simp [delo, del, -List.map_append, h3, h8, h9, hA, h10, hB, h12, hC, h11, h70, h71, h72, nab, nba, nca, ncb, nac, nbc, encPr, kb, kb2, kx, kx2, k1, k2, f_i1_ia, g_i1_ia, f_i1_ib, g_i1_ib, f_i1_ic, g_i1_ic, f_i2_i1, g_i2_i1, f_i2_ia, g_i2_ia, f_i2_ib, g_i2_ib, f_i2_ic, g_i2_ic] at hi3
      have g_i3_i2 : ¬ i2 = i3 := fun e => f_i3_i2 e.symm
      have f_i3_ib : ¬ i3 = ib := fun e => by rw [e] at hi3; simp [delo, del, -List.map_append, h3, h8, h9, hA, h10, hB, h12, hC, h11, h70, h71, h72, nab, nba, nca, ncb, nac, nbc, encPr, kb, kb2, kx, kx2, k1, k2, f_i1_ia, g_i1_ia, f_i1_ib, g_i1_ib, f_i1_ic, g_i1_ic, f_i2_i1, g_i2_i1, f_i2_ia, g_i2_ia, f_i2_ib, g_i2_ib, f_i2_ic, g_i2_ic, hB] at hi3
      have g_i3_ib : ¬ ib = i3 := fun e => f_i3_ib e.symm
      have f_i3_ic : ¬ i3 = ic := fun e => by rw [e] at hi3; simp [delo, del, -List.map_append, h3, h8, h9, hA, h10, hB, h12, hC, h11, h70, h71, h72, nab, nba, nca, ncb, nac, nbc, encPr, kb, kb2, kx, kx2, k1, k2, f_i1_ia, g_i1_ia, f_i1_ib, g_i1_ib, f_i1_ic, g_i1_ic, f_i2_i1, g_i2_i1, f_i2_ia, g_i2_ia, f_i2_ib, g_i2_ib, f_i2_ic, g_i2_ic, hC] at hi3
      have g_i3_ic : ¬ ic = i3 := fun e => f_i3_ic e.symm
      simp [delo, del, -List.map_append, h3, h8, h9, hA, h10, hB, h12, hC, h11, h70, h71, h72, nab, nba, nca, ncb, nac, nbc, encPr, kb, kb2, kx, kx2, k1, k2, f_i1_ia, g_i1_ia, f_i1_ib, g_i1_ib, f_i1_ic, g_i1_ic, f_i2_i1, g_i2_i1, f_i2_ia, g_i2_ia, f_i2_ib, g_i2_ib, f_i2_ic, g_i2_ic, f_i3_i1, g_i3_i1, f_i3_i2, g_i3_i2, f_i3_ib, g_i3_ib, f_i3_ic, g_i3_ic]
      exact ⟨m' - 1, by omega, k + 1, by omega, PS, hstep, hstep2, hR, rfl, by rw [hsd]; simp [encPr], by rw [hsd]; simp [seenP, keyP], hwk⟩
    · rw [roundP_end hk] at hR
      subst hR
      simp [-List.map_append, h3, h8, h9, hA, h10, hB, h12, hC, h11, h70, h71, h72, nab, nba, nca, ncb, nac, nbc, hk, hw]
      exact ⟨m, by omega, i + 1, by omega, _, hI', hG, by simp [encPr, encDfa, nab]⟩
  · rw [twoGo_end hi] at hG
    simp [h3, h8, h9, hA, h10, hB, h11, hi, ← hG]
end Go.Proofs.Ytibeeohnjabhkaa.R

open Go Go.Proofs.Ytibeeohnjabhkaa.T
namespace Go.Proofs.Ytibeeohnjabhkaa.R
set_option maxHeartbeats 4000000
set_option maxRecDepth 100000
set_option linter.unusedSimpArgs false
set_option linter.unusedVariables false
attribute [local simp] bsV bsRows chunk fillT partsT appV makeV rowsOf cellsOf placeOf

end Go.Proofs.Ytibeeohnjabhkaa.R

open Go Go.Proofs.Ytibeeohnjabhkaa.T
namespace Go.Proofs.Ytibeeohnjabhkaa.R
set_option maxHeartbeats 4000000
set_option maxRecDepth 100000
set_option linter.unusedSimpArgs false
set_option linter.unusedVariables false
theorem numb_keep {R : Nat → Nat → Bool} {L : Nat → Bool} {s : Nat} : ∀ n, s < n → kn (numb R L n).1 s = kn (numb R L (s + 1)).1 s
  | 0, h => by omega
  | n + 1, h => by
    by_cases e : s = n
    · rw [e]
    · rw [numb_old (by omega)]; exact numb_keep n (by omega)
theorem numb_new {R : Nat → Nat → Bool} {L : Nat → Bool} {n m : Nat} {x : Int} (h : numb R L (n + 1) = ((numb R L n).1 ++ [x], m)) : kn (numb R L (n + 1)).1 n = x := by
  have hl := numb_len R L n
  rw [h]; unfold kn
  rw [List.getElem?_append_right (by omega), hl, Nat.sub_self]; rfl
/-- Numbers come in order: each is at most one more than the greatest ahead of it. -/
theorem numb_top {d : Dfa} (ho : DOk d) {R : Nat → Nat → Bool} {L : Nat → Bool} (h1 : ∀ s t, s < d.rows.length → t < s → Live d s → (R s t = true ↔ ¬ Apart d s t)) (h2 : ∀ s, s < d.rows.length → (L s = true ↔ Live d s)) : ∀ n, n ≤ d.rows.length →
    (∀ s, s < n → (Live d s → 0 ≤ kn (numb R L n).1 s) ∧ (¬ Live d s → kn (numb R L n).1 s = -1) ∧ kn (numb R L n).1 s < (numb R L n).2)
  | 0, _ => fun s h => by omega
  | n + 1, hn => by
    have ih := numb_top ho h1 h2 n (by omega)
    by_cases c : L n = true
    · have lc := (h2 n (by omega)).1 c
      cases hf : (List.range n).find? (R n) with
      | some t =>
        have e : numb R L (n + 1) = ((numb R L n).1 ++ [((numb R L n).1[t]?).getD 0], (numb R L n).2) := by rw [numb_succ, if_pos c, hf]
        have ht : t < n := List.mem_range.1 (List.mem_of_find?_eq_some hf)
        have hR : R n t = true := List.find?_some hf
        have hLt : Live d t := live_same ho (by omega) ((h1 n t (by omega) ht lc).1 hR) lc
        have hl := numb_len R L n
        have hkt : ((numb R L n).1[t]?).getD 0 = kn (numb R L n).1 t := by
          unfold kn; rw [List.getElem?_eq_getElem (by omega)]; rfl
        have hkn := numb_new e
        rw [hkt] at hkn
        have hm : (numb R L (n + 1)).2 = (numb R L n).2 := by rw [e]
        intro s hs
        by_cases x : s = n
        · subst x; rw [hkn, hm]; exact ⟨fun _ => (ih t ht).1 hLt, fun h => absurd lc h, (ih t ht).2.2⟩
        · rw [numb_old (by omega), hm]; exact ih s (by omega)
      | none =>
        have e : numb R L (n + 1) = ((numb R L n).1 ++ [((numb R L n).2 : Int)], (numb R L n).2 + 1) := by rw [numb_succ, if_pos c, hf]
        have hkn := numb_new e
        have hm : (numb R L (n + 1)).2 = (numb R L n).2 + 1 := by rw [e]
        intro s hs
        by_cases x : s = n
        · subst x; rw [hkn, hm]; exact ⟨fun _ => by omega, fun h => absurd lc h, by omega⟩
        · rw [numb_old (by omega), hm]; have := ih s (by omega); exact ⟨this.1, this.2.1, by omega⟩
    · have e : numb R L (n + 1) = ((numb R L n).1 ++ [-1], (numb R L n).2) := by rw [numb_succ, if_neg c]
      have hkn := numb_new e
      have hm : (numb R L (n + 1)).2 = (numb R L n).2 := by rw [e]
      have lc : ¬ Live d n := fun h => c ((h2 n (by omega)).2 h)
      intro s hs
      by_cases x : s = n
      · subst x; rw [hkn, hm]; exact ⟨fun h => absurd h lc, fun _ => rfl, by omega⟩
      · rw [numb_old (by omega), hm]; exact ih s (by omega)
/-- The greatest number of the first states (tp s - 1), as the law counts it. -/
theorem kinds_top {d : Dfa} (ho : DOk d) {bl : List Bool} {ks : List Int} (hl : IsLive d bl) (hk : IsKinds d ks) : ∃ tp : Nat → Nat, tp 0 = 0 ∧ (∀ s, s ≤ d.rows.length → tp s ≤ s) ∧ ∀ s, s < d.rows.length → (lv bl s = true ↔ 0 ≤ kn ks s) ∧ -1 ≤ kn ks s ∧ kn ks s ≤ tp s ∧ (tp (s + 1) : Int) - 1 = if (tp s : Int) - 1 < kn ks s then kn ks s else (tp s : Int) - 1 := by
  obtain ⟨R, L, h1, h2, rfl⟩ := hk
  refine ⟨fun s => (numb R L s).2, rfl, ?_, fun s hs => ?_⟩
  · intro s
    induction s with
    | zero => intro _; exact Nat.le_refl 0
    | succ s ih =>
      intro h
      have : (numb R L s).2 ≤ s := ih (by omega)
      show (numb R L (s + 1)).2 ≤ s + 1
      rw [numb_succ]
      split
      · split <;> simp <;> omega
      · simp; omega
  rw [numb_keep _ hs]
  have top := numb_top ho h1 h2 (s + 1) (by omega) s (by omega)
  have hb : -1 ≤ kn (numb R L (s + 1)).1 s := by
    by_cases c : Live d s
    · have := top.1 c; omega
    · rw [top.2.1 c]; exact Int.le_refl _
  refine ⟨?_, hb, ?_⟩
  · rw [hl.iff s hs]
    constructor
    · exact top.1
    · intro h
      apply Classical.byContradiction
      intro c
      have := top.2.1 c
      omega
  · show kn (numb R L (s + 1)).1 s ≤ ((numb R L s).2 : Int) ∧ ((numb R L (s + 1)).2 : Int) - 1 = if ((numb R L s).2 : Int) - 1 < kn (numb R L (s + 1)).1 s then kn (numb R L (s + 1)).1 s else ((numb R L s).2 : Int) - 1
    by_cases c : L s = true
    · cases hf : (List.range s).find? (R s) with
      | some t =>
        have e : numb R L (s + 1) = ((numb R L s).1 ++ [((numb R L s).1[t]?).getD 0], (numb R L s).2) := by rw [numb_succ, if_pos c, hf]
        have hm : (numb R L (s + 1)).2 = (numb R L s).2 := by rw [e]
        have h3 := top.2.2
        rw [hm] at h3 ⊢
        rw [if_neg (by omega)]
        exact ⟨by omega, rfl⟩
      | none =>
        have e : numb R L (s + 1) = ((numb R L s).1 ++ [((numb R L s).2 : Int)], (numb R L s).2 + 1) := by rw [numb_succ, if_pos c, hf]
        have hm : (numb R L (s + 1)).2 = (numb R L s).2 + 1 := by rw [e]
        rw [numb_new e, hm, if_pos (by omega)]
        exact ⟨by omega, by omega⟩
    · have e : numb R L (s + 1) = ((numb R L s).1 ++ [-1], (numb R L s).2) := by rw [numb_succ, if_neg c]
      have hm : (numb R L (s + 1)).2 = (numb R L s).2 := by rw [e]
      rw [numb_new e, hm, if_neg (by omega)]
      exact ⟨by omega, rfl⟩
/-- Live is a fixpoint. -/
theorem live_fix {d : Dfa} {bl : List Bool} (hl : IsLive d bl) {s : Nat} (hs : s < d.rows.length) : isL d bl s = lv bl s := by
  have so : SoundL d bl := by
    intro j hj
    by_cases h : j < d.rows.length
    · exact (hl.iff j h).1 hj
    · have := hl.len
      simp [lv, List.getElem?_eq_none (show bl.length ≤ j by omega)] at hj
  rw [Bool.eq_iff_iff]
  constructor
  · intro h; exact (hl.iff s hs).2 (sound_step so hs h)
  · intro h
    have := (hl.iff s hs).1 h
    simp only [isL, Bool.or_eq_true, decide_eq_true_eq, List.any_eq_true, isT, Bool.and_eq_true]
    cases this with
    | acc _ _ h => exact .inl h
    | step _ _ t ht h0 h => exact .inr ⟨t, ht, h0, (hl.iff _ (live_lt h)).2 h⟩
end Go.Proofs.Ytibeeohnjabhkaa.R

open Go Go.Proofs.Ytibeeohnjabhkaa.T
namespace Go.Proofs.Ytibeeohnjabhkaa.R
set_option maxHeartbeats 4000000
set_option maxRecDepth 100000
set_option linter.unusedSimpArgs false
set_option linter.unusedVariables false
/-- A state as apart names it: none is the last one. -/
def ix (d : Dfa) (s : Int) : Nat := if s < 0 then d.rows.length else s.toNat
theorem ix_le {d : Dfa} {s : Int} (h : s < d.rows.length) : ix d s ≤ d.rows.length := by
  unfold ix; split <;> omega
theorem dl_ix {d : Dfa} {s : Int} (h : s < d.rows.length) {k : Nat} : dl d (ix d s) k = ix d (nx d s k) := by
  unfold ix nx dl
  by_cases c : s < 0
  · simp [c]
  · have e : ¬ s.toNat = d.rows.length := by omega
    simp [c, e]
theorem acX_ix {d : Dfa} {s : Int} (h : s < d.rows.length) : acX d (ix d s) = acI d s := by
  unfold acX ix acI
  by_cases c : s < 0
  · simp [c]
  · have e : ¬ s.toNat = d.rows.length := by omega
    simp [c, e]
theorem nx_next {d : Dfa} (ho : DOk d) {s : Int} {k b : Nat} (hs : -1 ≤ s) (hk : k < d.parts.length) (hb : b < 256) (h : hasS (pt d.parts k) b = true) : nx d s k = if s < 0 then s else nextF d s.toNat b := by
  unfold nx
  by_cases c : s < 0
  · rw [if_pos c, if_pos c]; omega
  · rw [if_neg c, if_neg c, next_of_has (partsFrom_of ho.parts) hk hb h]
theorem nx_run {d : Dfa} (ho : DOk d) {s : Int} {k : Nat} (hs : -1 ≤ s) (hk : k < d.parts.length) : runGo d [fb d k] s = nx d s k := by
  obtain ⟨b, hb, h1, h2⟩ := first_part ho hk
  have e : (fb d k).toNat = b := by
    unfold fb; rw [h1]; simp; omega
  rw [nx_next ho hs hk hb h2]
  unfold runGo
  rw [e]; rfl
/-- What is not apart comes to the same by every text. -/
theorem same_run {d : Dfa} (ho : DOk d) : ∀ (w : List UInt8) (s t : Int), (-1 ≤ s ∧ s < d.rows.length) → (-1 ≤ t ∧ t < d.rows.length) → ¬ Apart d (ix d s) (ix d t) → acI d (runGo d w s) = acI d (runGo d w t)
  | [], s, t, hs, ht, h => by
    rw [← acX_ix (by exact hs.2), ← acX_ix (by exact ht.2)]
    apply Classical.byContradiction
    intro c
    exact h (.acc _ _ (ix_le hs.2) (ix_le ht.2) c)
  | c :: w, s, t, hs, ht, h => by
    obtain ⟨k, hk, hh⟩ := parts_at ho.parts c.toNat_lt
    have e1 : runGo d (c :: w) s = runGo d w (nx d s k) := by
      rw [nx_next ho hs.1 hk c.toNat_lt hh, runGo]
      by_cases g : s < 0
      · rw [if_pos g, if_pos g, runGo_neg g]
      · rw [if_neg g, if_neg g]
    have e2 : runGo d (c :: w) t = runGo d w (nx d t k) := by
      rw [nx_next ho ht.1 hk c.toNat_lt hh, runGo]
      by_cases g : t < 0
      · rw [if_pos g, if_pos g, runGo_neg g]
      · rw [if_neg g, if_neg g]
    rw [e1, e2]
    refine same_run ho w _ _ (nx_ok ho hs.2 hk) (nx_ok ho ht.2 hk) fun a => h ?_
    rw [← dl_ix hs.2, ← dl_ix ht.2] at a
    exact .step _ _ k (ix_le hs.2) (ix_le ht.2) hk a
structure TInv (d : Dfa) (s t : Int) (i : Nat) (ps : List Pr) : Prop where
  pinv : PInv d ps
  st : ∃ p ∈ ps, p.s = s ∧ p.t = t
  old : ∀ j p, j < i → ps[j]? = some p → acI d p.s = acI d p.t ∧ ∀ k, k < d.parts.length → ∃ q ∈ ps, q.s = nx d p.s k ∧ q.t = nx d p.t k
  run : ∀ p ∈ ps, runGo d p.w s = p.s ∧ runGo d p.w t = p.t
theorem stepK_sub {d : Dfa} {x p : Pr} {ps : List Pr} {k : Nat} (h : p ∈ ps) : p ∈ stepK d x ps k := by
  unfold stepK
  split
  · exact h
  · exact List.mem_append_left _ h
theorem stepK_new {d : Dfa} {x : Pr} {ps : List Pr} {k : Nat} : ∃ q ∈ stepK d x ps k, q.s = nx d x.s k ∧ q.t = nx d x.t k := by
  unfold stepK
  by_cases c : hadP ps (nx d x.s k) (nx d x.t k) = true
  · rw [if_pos c]
    unfold hadP at c
    rw [List.any_eq_true] at c
    obtain ⟨q, hq, h⟩ := c
    simp only [Bool.and_eq_true, decide_eq_true_eq] at h
    exact ⟨q, hq, h⟩
  · rw [if_neg c]
    exact ⟨⟨nx d x.s k, nx d x.t k, x.w ++ [fb d k]⟩, List.mem_append_right _ (List.mem_singleton.2 rfl), rfl, rfl⟩
theorem stepK_old {d : Dfa} {x p : Pr} {ps : List Pr} {k j : Nat} (hj : j < ps.length) (h : (stepK d x ps k)[j]? = some p) : ps[j]? = some p := by
  rw [List.getElem?_eq_getElem hj]
  rw [stepK_at (List.getElem?_eq_getElem hj)] at h
  exact h
theorem TInv.step {d : Dfa} (ho : DOk d) {s t : Int} {i : Nat} {ps : List Pr} (h : TInv d s t i ps) {x : Pr} (hx : ps[i]? = some x) {k : Nat} (hk : k < d.parts.length) : TInv d s t i (stepK d x ps k) := by
  have hm : x ∈ ps := List.mem_of_getElem? hx
  obtain ⟨hi, _⟩ := List.getElem?_eq_some_iff.1 hx
  refine ⟨h.pinv.step ho hm hk, ?_, ?_, ?_⟩
  · obtain ⟨p, hp, e⟩ := h.st
    exact ⟨p, stepK_sub hp, e⟩
  · intro j p hj hp
    have := h.old j p hj (stepK_old (by omega) hp)
    exact ⟨this.1, fun k hk => by obtain ⟨q, hq, e⟩ := this.2 k hk; exact ⟨q, stepK_sub hq, e⟩⟩
  · intro p hp
    unfold stepK at hp
    split at hp
    · exact h.run p hp
    · rcases List.mem_append.1 hp with hp | hp
      · exact h.run p hp
      · simp only [List.mem_singleton] at hp
        subst hp
        have hr := h.pinv.rng x hm
        have hw := h.run x hm
        simp only
        rw [runGo_app, runGo_app, hw.1, hw.2]
        exact ⟨nx_run ho hr.1.1 hk, nx_run ho hr.2.1 hk⟩
theorem TInv.round {d : Dfa} (ho : DOk d) {s t : Int} {i : Nat} {x : Pr} (hac : acI d x.s = acI d x.t) : ∀ (m k : Nat) (ps : List Pr), k + m = d.parts.length → TInv d s t i ps → ps[i]? = some x → (∀ k', k' < k → ∃ q ∈ ps, q.s = nx d x.s k' ∧ q.t = nx d x.t k') → TInv d s t (i + 1) (roundP d x k ps)
  | 0, k, ps, hm, h, hx, hd => by
    rw [roundP_end (by omega)]
    refine ⟨h.pinv, h.st, fun j p hj hp => ?_, h.run⟩
    by_cases e : j = i
    · subst e
      rw [hx] at hp
      cases hp
      exact ⟨hac, fun k' hk' => hd k' (by omega)⟩
    · exact h.old j p (by omega) hp
  | m + 1, k, ps, hm, h, hx, hd => by
    rw [roundP_next (by omega)]
    refine TInv.round ho hac m (k + 1) _ (by omega) (h.step ho hx (by omega)) (stepK_at hx) fun k' hk' => ?_
    by_cases e : k' = k
    · subst e; exact stepK_new
    · obtain ⟨q, hq, e⟩ := hd k' (by omega); exact ⟨q, stepK_sub hq, e⟩
theorem twoGo_ok {d : Dfa} (ho : DOk d) {s t : Int} : ∀ (f i : Nat) (ps : List Pr), f + i = 1682 → TInv d s t i ps → (twoGo d f i ps).2.length ≤ 1681 ∧
    ((twoGo d f i ps).1 = true → (twoGo d f i ps).2 = [] ∧ ∃ qs, TInv d s t qs.length qs) ∧ ((twoGo d f i ps).1 = false → acI d (runGo d (twoGo d f i ps).2 s) ≠ acI d (runGo d (twoGo d f i ps).2 t))
  | f, i, ps, hf, h => by
    have hlen := h.pinv.len ho
    by_cases hi : i < ps.length
    · cases f with
      | zero => omega
      | succ f =>
        have hx := List.getElem?_eq_getElem hi
        rw [twoGo_next hx]
        by_cases c : acI d ps[i].s = acI d ps[i].t
        · rw [if_pos c]
          exact twoGo_ok ho f (i + 1) _ (by omega) (TInv.round ho c d.parts.length 0 ps (by omega) h hx fun k' hk' => by omega)
        · rw [if_neg c]
          have hm : ps[i] ∈ ps := List.getElem_mem hi
          have hw := h.pinv.wl _ hm
          have hr := h.run _ hm
          refine ⟨by simp; omega, fun e => by simp at e, fun _ => ?_⟩
          simp only
          rw [hr.1, hr.2]; exact c
    · rw [twoGo_end hi]
      refine ⟨by simp, fun _ => ⟨rfl, ps, h.pinv, h.st, fun j p hj hp => h.old j p (by omega) hp, h.run⟩, fun e => by simp at e⟩
termination_by f => f
theorem closed_apart {d : Dfa} (ho : DOk d) {s t : Int} {ps : List Pr} (h : TInv d s t ps.length ps) {a b : Nat} (ha : Apart d a b) : ∀ p ∈ ps, ix d p.s = a → ix d p.t = b → False := by
  induction ha with
  | acc a b h1 h2 hc =>
    intro p hp e1 e2
    have hr := h.pinv.rng p hp
    obtain ⟨j, hj, e⟩ := List.getElem_of_mem hp
    have := (h.old j p hj (by rw [List.getElem?_eq_getElem hj, e])).1
    rw [← e1, ← e2, acX_ix hr.1.2, acX_ix hr.2.2] at hc
    exact hc this
  | step a b k h1 h2 hk hc ih =>
    intro p hp e1 e2
    have hr := h.pinv.rng p hp
    obtain ⟨j, hj, e⟩ := List.getElem_of_mem hp
    obtain ⟨q, hq, g1, g2⟩ := (h.old j p hj (by rw [List.getElem?_eq_getElem hj, e])).2 k hk
    exact ih q hq (by rw [g1, ← e1, dl_ix hr.1.2]) (by rw [g2, ← e2, dl_ix hr.2.2])
theorem TInv.start {d : Dfa} {s t : Int} (hs : 0 ≤ s ∧ s < d.rows.length) (ht : 0 ≤ t ∧ t < d.rows.length) : TInv d s t 0 [⟨s, t, []⟩] :=
  ⟨PInv.start hs ht, ⟨_, List.mem_singleton.2 rfl, rfl, rfl⟩, fun j p hj => by omega, fun p hp => by simp only [List.mem_singleton] at hp; subst hp; exact ⟨rfl, rfl⟩⟩
theorem ix_nat {d : Dfa} {s : Int} (h : 0 ≤ s) : ix d s = s.toNat := by unfold ix; rw [if_neg (by omega)]
/-- Two states are told alike just if nothing tells them apart; else the text does. -/
theorem twoF_iff {d : Dfa} (hd : dfaOk d = true) {s t : Int} (hs : 0 ≤ s ∧ s < d.rows.length) (ht : 0 ≤ t ∧ t < d.rows.length) : ((twoF d s t).1 = true ↔ ¬ Apart d s.toNat t.toNat) ∧ ((twoF d s t).1 = true → (twoF d s t).2 = []) ∧
    ((twoF d s t).1 = false → acI d (runGo d (twoF d s t).2 s) ≠ acI d (runGo d (twoF d s t).2 t)) ∧ (twoF d s t).2.length ≤ 1681 := by
  have ho := dok_of hd
  have h := twoGo_ok ho 1682 0 _ (by omega) (TInv.start hs ht)
  unfold twoF
  rw [if_pos ⟨hd, hs, ht⟩]
  refine ⟨⟨fun e a => ?_, fun a => ?_⟩, fun e => (h.2.1 e).1, h.2.2, h.1⟩
  · obtain ⟨qs, hq⟩ := (h.2.1 e).2
    obtain ⟨p, hp, e1, e2⟩ := hq.st
    exact closed_apart ho hq a p hp (by rw [e1, ix_nat hs.1]) (by rw [e2, ix_nat ht.1])
  · cases e : (twoGo d 1682 0 [⟨s, t, []⟩]).1
    · exact absurd (same_run ho _ s t (by omega) (by omega) (by rw [ix_nat hs.1, ix_nat ht.1]; exact a)) (h.2.2 e)
    · rfl
def swp (p : Pr) : Pr := ⟨p.t, p.s, p.w⟩
theorem hadP_swp {ps : List Pr} {x y : Int} : hadP (ps.map swp) y x = hadP ps x y := by
  unfold hadP
  rw [List.any_map]
  congr 1
  funext p
  exact Bool.and_comm _ _
theorem stepK_swp {d : Dfa} {x : Pr} {ps : List Pr} {k : Nat} : stepK d (swp x) (ps.map swp) k = (stepK d x ps k).map swp := by
  unfold stepK
  rw [show (swp x).s = x.t from rfl, show (swp x).t = x.s from rfl, hadP_swp]
  split
  · rfl
  · rw [List.map_append]; rfl
theorem roundP_swp {d : Dfa} {x : Pr} : ∀ (m k : Nat) (ps : List Pr), k + m = d.parts.length → roundP d (swp x) k (ps.map swp) = (roundP d x k ps).map swp
  | 0, k, ps, h => by rw [roundP_end (by omega), roundP_end (by omega)]
  | m + 1, k, ps, h => by
    rw [roundP_next (show k < d.parts.length by omega) (x := swp x), roundP_next (show k < d.parts.length by omega) (x := x), stepK_swp, roundP_swp m (k + 1) _ (by omega)]
theorem twoGo_swp {d : Dfa} : ∀ (f i : Nat) (ps : List Pr), twoGo d f i (ps.map swp) = twoGo d f i ps
  | 0, i, ps => rfl
  | f + 1, i, ps => by
    by_cases hi : i < ps.length
    · have hx := List.getElem?_eq_getElem hi
      have hx' : (ps.map swp)[i]? = some (swp ps[i]) := by rw [List.getElem?_map, hx]; rfl
      rw [twoGo_next hx, twoGo_next hx', roundP_swp d.parts.length 0 ps (by omega), twoGo_swp f (i + 1)]
      by_cases c : acI d ps[i].s = acI d ps[i].t
      · rw [if_pos c, if_pos (show acI d (swp ps[i]).s = acI d (swp ps[i]).t from c.symm)]
      · rw [if_neg c, if_neg (show ¬ acI d (swp ps[i]).s = acI d (swp ps[i]).t from fun e => c e.symm)]; rfl
    · rw [twoGo_end hi, twoGo_end (by simpa using hi)]
theorem twoF_symm (d : Dfa) (s t : Int) : twoF d t s = twoF d s t := by
  unfold twoF
  have e : twoGo d 1682 0 [⟨t, s, []⟩] = twoGo d 1682 0 [⟨s, t, []⟩] := twoGo_swp (d := d) 1682 0 [⟨s, t, []⟩]
  rw [e]
  congr 1
  rw [and_comm (a := 0 ≤ t ∧ t < (d.rows.length : Int))]
theorem twoF_self {d : Dfa} (hd : dfaOk d = true) {s : Int} (hs : 0 ≤ s ∧ s < d.rows.length) : twoF d s s = (true, []) := by
  have h := twoF_iff hd hs hs
  have h1 := h.1.2 fun a => apart_irr a rfl
  exact Prod.ext h1 (h.2.1 h1)
/-- Kinds are the same just for what is not apart. -/
theorem kinds_iff {d : Dfa} (ho : DOk d) {ks : List Int} (hk : IsKinds d ks) {s t : Nat} (hs : s < d.rows.length) (ht : t < d.rows.length) : kn ks s = kn ks t ↔ ¬ Apart d s t := by
  obtain ⟨M, hM⟩ := isApart_ex d
  have hk' : IsKinds d (numb (fun s t => !M s t) (fun s => M s d.rows.length) d.rows.length).1 := by
    refine ⟨_, _, fun s t hs ht hl => ?_, fun s hs => ?_, rfl⟩
    · simp [← hM]
    · rw [hM, live_iff ho]
  rw [isKinds_uniq hk hk']
  have hl : ∀ x, Live d x ↔ M x d.rows.length = true := fun x => by rw [hM, live_iff ho]
  have sp := numb_spec (apart_eqv ho hM) d.rows.length (Nat.le_refl _)
  by_cases c1 : Live d s <;> by_cases c2 : Live d t
  · rw [sp.2.2 s t hs ht ((hl s).1 c1) ((hl t).1 c2)]
    simp [← hM]
  · have a1 := sp.1 s hs ((hl s).1 c1)
    have a2 := sp.2.1 t ht (by have := mt (hl t).2 c2; simpa using this)
    rw [a2]
    constructor
    · intro e; omega
    · intro a; exact absurd (live_same ho (by omega) a c1) c2
  · have a1 := sp.2.1 s hs (by have := mt (hl s).2 c1; simpa using this)
    have a2 := sp.1 t ht ((hl t).1 c2)
    rw [a1]
    constructor
    · intro e; omega
    · intro a; exact absurd (live_same ho (by omega) (fun b => a (apart_symm b)) c2) c1
  · have a1 := sp.2.1 s hs (by have := mt (hl s).2 c1; simpa using this)
    have a2 := sp.2.1 t ht (by have := mt (hl t).2 c2; simpa using this)
    rw [a1, a2]
    refine ⟨fun _ a => ?_, fun _ => rfl⟩
    rcases apart_tri ho a d.rows.length (Nat.le_refl _) with h | h
    · exact c1 ((live_iff ho).2 h)
    · exact c2 ((live_iff ho).2 (apart_symm h))
end Go.Proofs.Ytibeeohnjabhkaa.R

open Go Go.Proofs.Ytibeeohnjabhkaa.T
namespace Go.Proofs.Ytibeeohnjabhkaa.R
set_option maxHeartbeats 8000000
set_option maxRecDepth 100000
set_option linter.unusedSimpArgs false
set_option linter.unusedVariables false
attribute [local simp] bsV bsRows chunk fillT partsT appV makeV rowsOf cellsOf placeOf frzT frz1
theorem tc_iLeastLiveR (d : Dfa) (hs : DSm d) (bl : List Bool) (hb : liveR d bl) : TC Try.prog 34 [.agg (encDfa d)] [] (.ro (bl.map encB)) [] := by
  have := (tc_iLeastLive d hs bl hb).frz
  simpa using this
theorem tc_sLeastLiveR (d : Dfa) (hs : DSm d) (bl : List Bool) (hb : liveR d bl) : TC Try.prog 36 [.agg (encDfa d)] [] (.ro (bl.map encB)) [] := by
  have := (tc_sLeastLive d hs bl hb).frz
  simpa using this
theorem tc_iLeastKindsR (d : Dfa) (hs : DSm d) (ks : List Int) (hb : kindsR d ks) : TC Try.prog 35 [.agg (encDfa d)] [] (.ro (ks.map encI)) [] := by
  have := (tc_iLeastKinds d hs ks hb).frz
  simpa using this
theorem tc_sLeastKindsR (d : Dfa) (hs : DSm d) (ks : List Int) (hb : kindsR d ks) : TC Try.prog 37 [.agg (encDfa d)] [] (.ro (ks.map encI)) [] := by
  have := (tc_sLeastKinds d hs ks hb).frz
  simpa using this
theorem kinds_len {d : Dfa} {ks : List Int} (h : IsKinds d ks) : ks.length = d.rows.length := by
  obtain ⟨R, L, _, _, rfl⟩ := h
  exact numb_len R L _
/-- Whether one comes to a rule from a state by its first parts. -/
def someL (d : Dfa) (bl : List Bool) (i k : Nat) : Bool := decide (0 ≤ ac_ d i) || ((rw_ d i).take k).any (isT bl)
theorem someL_zero {d : Dfa} {bl : List Bool} {i : Nat} : someL d bl i 0 = decide (0 ≤ ac_ d i) := by simp [someL]
theorem someL_next {d : Dfa} {bl : List Bool} {i k : Nat} (h : k < (rw_ d i).length) : someL d bl i (k + 1) = (someL d bl i k || isT bl (rw_ d i)[k]) := by
  unfold someL
  rw [List.take_succ_eq_append_getElem h, List.any_append, Bool.or_assoc]; simp
theorem someL_end {d : Dfa} {bl : List Bool} {i : Nat} : someL d bl i (rw_ d i).length = isL d bl i := by
  unfold someL isL; rw [List.take_length]
theorem tc_FnLeastLive (b : List UInt8) : TC Try.prog 8 [.ro (b.map encU)] [] (.val (.bool true)) [] := by
  refine TC.enter Try.func8 rfl (by simp [Try.ntmps8]) rfl (tw_sound (ρ := []) ?_)
  rw [Try.ntmps8]
  by_cases hb0 : (1048576 : Int) < b.length
  · simp [hb0]
  have hb : b.length ≤ 1048576 := by omega
  simp [hb0]
  refine TWoH.callR (tcr_DrawLeastLive b hb) callable_33 (by simp) ?_
  rintro r o ⟨d, hd, rfl, rfl⟩
  refine ⟨rfl, by simp, .inl (by simp), fun q hq => ?_⟩
  clear hq
  have hs := hd.sm
  obtain ⟨bl, hbl⟩ := liveR_ex d
  obtain ⟨ks, hks⟩ := kindsR_ex d
  have hl1 := liveR_len hbl
  have hl2 := kindsR_len hks
  have t1 := tc_iLeastLiveR d hs bl hbl
  have t2 := tc_sLeastLiveR d hs bl hbl
  have t3 := tc_iLeastKindsR d hs ks hks
  have t4 := tc_sLeastKindsR d hs ks hks
  have t6 := tc_sDfaOk d hs
  simp [encDfa]
  refine gall_intro fun c hc => ?_
  simp [encDfa]
  refine TWoH.callV t1 callable_34 (by simp [encDfa]) (by simp) (by simp) (by simp) ?_
  simp [encDfa]
  refine TWoH.callV t3 callable_35 (by simp [encDfa]) (by simp) (by simp) (by simp) ?_
  simp [encDfa]
  refine TWoH.callV t2 callable_36 (by simp [encDfa]) (by simp) (by simp) (by simp) ?_
  simp [encDfa]
  refine TWoH.callV t4 callable_37 (by simp [encDfa]) (by simp) (by simp) (by simp) ?_
  simp [encDfa]
  refine TWoH.callV t6 callable_13 (by simp [encDfa]) (by simp) (by simp) (by simp) ?_
  by_cases ok : dfaOk d = true
  case neg =>
    unfold liveR at hbl
    unfold kindsR at hks
    rw [if_neg ok] at hbl hks
    subst hbl hks
    simp [ok]
    rfl
  have ho := dok_of ok
  have hmost := ho.most
  have hone := ho.one
  have hacc := ho.acc
  unfold liveR at hbl
  unfold kindsR at hks
  rw [if_pos ok] at hbl hks
  have hbn := hbl.len
  have hkn := kinds_len hks
  obtain ⟨tp, tp0, tple, tps⟩ := kinds_top ho hbl hks
  simp [ok]
  refine TWcH.loop [] (fun m st => ∃ i : Nat, i + m = d.rows.length ∧ st.σ 3 = .pd c 0 0 0 ∧ st.H c = some (.box 27 (encDfa d)) ∧ st.σ 4 = .ro (bl.map encB) ∧ st.σ 5 = .ro (ks.map encI) ∧ st.σ 6 = .val (.int .i64 ((tp i : Int) - 1)) ∧ st.σ 7 = .val (.int .i64 i)) d.rows.length ⟨0, by simp [encDfa, tp0]⟩ ?_
  rintro m ⟨σ, H⟩ ⟨i, him, h3, hC, h4, h5, h6, h7⟩
  simp only at h3 hC h4 h5 h6 h7
  by_cases hi : i < d.rows.length
  case neg => simp [h3, hC, h4, h5, h6, h7, hi, encDfa]
  have hia : i < d.acc.length := by omega
  have hib : i < bl.length := by omega
  have hik : i < ks.length := by omega
  have hpi : ∀ h, d.rows[i]'h = rw_ d i := fun _ => (rw_eq hi).symm
  have hpa : ∀ h, d.acc[i]'h = ac_ d i := fun _ => (ac_eq hia).symm
  have hlv : ∀ h, bl[i]'h = lv bl i := fun h => (lv_eq h).symm
  have hkv : ∀ h, ks[i]'h = kn ks i := fun h => (kn_eq h).symm
  have hrow := ho.row i hi
  have hpl := hs.parts
  have hw : IntKind.i64.wrap ((i : Int) + 1) = i + 1 := wrapi (by omega)
  simp [-Bool.exists_bool, h3, hC, h4, h5, h6, h7, hi, hia, encDfa, hpa, encI]
  refine TWcH.loop [] (fun m' st => ∃ k : Nat, k + m' = d.parts.length ∧ st.σ 3 = .pd c 0 0 0 ∧ st.H c = some (.box 27 (encDfa d)) ∧ st.σ 4 = .ro (bl.map encB) ∧ st.σ 5 = .ro (ks.map encI) ∧ st.σ 6 = .val (.int .i64 ((tp i : Int) - 1)) ∧ st.σ 7 = .val (.int .i64 i) ∧ st.σ 8 = .val (.bool (someL d bl i k)) ∧ st.σ 9 = .val (.int .i64 k)) d.parts.length ⟨0, by simp [encDfa, h3, hC, h4, h5, h6, h7, encI, someL_zero]⟩ ?_
  clear h3 hC h4 h5 h6 h7
  rintro m' ⟨σ, H⟩ ⟨k, hkm, h3, hC, h4, h5, h6, h7, h8, h9⟩
  simp only at h3 hC h4 h5 h6 h7 h8 h9
  by_cases hk : k < d.parts.length
  · have hkr : k < (rw_ d i).length := by omega
    have hwk : IntKind.i64.wrap ((k : Int) + 1) = k + 1 := wrapi (by omega)
    obtain ⟨t, hat⟩ : ∃ t, ∀ h, (rw_ d i)[k]'h = t := ⟨(rw_ d i)[k]'hkr, fun _ => rfl⟩
    have hent := ho.ent i hi t (by rw [← hat hkr]; exact List.getElem_mem hkr)
    have hnew : someL d bl i (k + 1) = (someL d bl i k || isT bl t) := by rw [someL_next hkr, hat]
    generalize hq : someL d bl i k = q at h8 hnew
    cases q
    case true =>
      simp [-Bool.exists_bool, h3, hC, h4, h5, h6, h7, h8, h9, hk, hwk, encDfa]
      exact ⟨m' - 1, by omega, k + 1, by omega, by rw [hnew]; simp, by omega⟩
    case false =>
      by_cases ht : 0 ≤ t
      · have hlt : t < bl.length := by omega
        have hltn : t.toNat < bl.length := by omega
        have hlvB : ∀ h, bl[t.toNat]'h = lv bl t.toNat := fun h => (lv_eq h).symm
        simp [-Bool.exists_bool, h3, hC, h4, h5, h6, h7, h8, h9, hk, hwk, encDfa, hi, hpi, encR, encI, hkr, hat, ht, hlt, hltn, hlvB, encB]
        exact ⟨m' - 1, by omega, k + 1, by omega, by rw [hnew]; simp [isT, ht], by omega⟩
      · simp [-Bool.exists_bool, h3, hC, h4, h5, h6, h7, h8, h9, hk, hwk, encDfa, hi, hpi, encR, encI, hkr, hat, ht]
        exact ⟨m' - 1, by omega, k + 1, by omega, by rw [hnew]; simp [isT, ht], by omega⟩
  · have hkk : k = (rw_ d i).length := by omega
    subst hkk
    rw [someL_end, live_fix hbl hi] at h8
    obtain ⟨p1, p2, p3, p4⟩ := tps i hi
    have tpi := tple i (by omega)
    have hw6 : IntKind.i64.wrap (tp i : Int) = tp i := wrapi (by omega)
    have hng : ¬ (tp i : Int) < kn ks i := by omega
    have e1 : decide (0 ≤ kn ks i) = lv bl i := by rw [Bool.eq_iff_iff, p1]; simp
    simp [-Bool.exists_bool, h3, hC, h4, h5, h6, h7, h8, h9, hk, encDfa]
    refine TWcH.regionD (ρ := []) [0, 1, 2, 3, 4, 5, 6, 7, 8, 9, 10, 11, 12, 13, 14, 15, 16, 17, 18, 19, 20, 21, 22, 23, 24, 25, 26] 27 mixed (by kernel_rfl) ?_
    simp [-Bool.exists_bool, h3, hC, h4, h5, h6, h7, h8, h9, hk, hib, hik, hlv, hkv, encI, encB, e1, hw6, hng]
    by_cases c2 : (tp i : Int) - 1 < kn ks i
    · rw [if_pos c2] at p4
      simp [-Bool.exists_bool, h3, hC, h4, h5, h6, h7, h8, h9, hik, hkv, encI, hw, c2]
      exact ⟨m - 1, by omega, i + 1, by omega, rfl, by omega, by omega⟩
    · rw [if_neg c2] at p4
      simp [-Bool.exists_bool, h3, hC, h4, h5, h6, h7, h8, h9, hik, hkv, encI, hw, c2]
      exact ⟨m - 1, by omega, i + 1, by omega, rfl, by omega, by omega⟩
end Go.Proofs.Ytibeeohnjabhkaa.R

open Go Go.Proofs.Ytibeeohnjabhkaa.T
namespace Go.Proofs.Ytibeeohnjabhkaa.R
set_option maxHeartbeats 8000000
set_option maxRecDepth 100000
set_option linter.unusedSimpArgs false
set_option linter.unusedVariables false
attribute [local simp] bsV bsRows chunk fillT partsT appV makeV rowsOf cellsOf placeOf frzT frz1
theorem tc_wjFrom (d : Dfa) (hs : DSm d) (c : dfaOk d = true) (s : Int) (hs1 : -1 ≤ s) (hs2 : s < d.rows.length) (w : List UInt8) (hwl : w.length ≤ 1000000) : TC Try.prog 38 [.agg (encDfa d), .val (.int .i64 s), .val (.string (bs w))] [] (.val (.int .i64 (acI d (runGo d w s)))) [] := by
  refine TC.enter Try.func38 rfl (by simp [Try.ntmps38]) rfl (tw_sound (ρ := [3]) ?_)
  rw [Try.ntmps38]
  have ho := dok_of c
  have hmost := ho.most
  have hacc := ho.acc
  simp [encDfa]
  refine TWcH.loop [] (fun m st => ∃ i : Nat, i + m = w.length ∧ st.σ 1 = .val (.int .i64 (runGo d (w.take i) s)) ∧ st.σ 2 = .val (.string (bs w)) ∧ st.σ 3 = .rptr [.ro (d.parts.map encP), .ro (d.rows.map encR), .ro (d.acc.map encI)] 0 ∧ st.σ 7 = .val (.int .i64 i)) w.length ⟨0, by simp [runGo]⟩ ?_
  rintro m ⟨σ, H⟩ ⟨i, him, h1, h2, h3, h7⟩
  simp only at h1 h2 h3 h7
  have hrg := runGo_ok ho (w.take i) s hs1 hs2
  by_cases hi : i < w.length
  · have hw1 : IntKind.i64.wrap ((i : Int) + 1) = i + 1 := wrapi (by omega)
    have t8 := tc_iDfaNext d hs (runGo d (w.take i) s) (w[i].toNat)
    have hst : nextI d (runGo d (w.take i) s) (w[i].toNat) = runGo d (w.take (i + 1)) s := by
      rw [nextI_run c hrg.2, List.take_succ_eq_append_getElem hi, runGo_app]
      by_cases c0 : runGo d (w.take i) s < 0
      · rw [if_pos c0, runGo_neg c0]; omega
      · rw [if_neg c0]; simp [runGo, c0]
    rw [hst] at t8
    simp [h1, h2, h3, h7, hi]
    refine TWcH.regionD (ρ := []) [0, 1, 2, 3, 4, 5, 6, 7] 8 mixed (by kernel_rfl) ?_
    simp [h1, h2, h3, h7, hi, getI hi, encDfa]
    refine TWqH.callV t8 callable_19 (by simp [encDfa]) (by simp) (by simp) (by simp) ?_
    simp [h1, h2, h3, h7, hi, hw1]
    exact ⟨m - 1, by omega, i + 1, by omega, rfl, by omega⟩
  · obtain rfl : i = w.length := by omega
    rw [List.take_of_length_le (by omega)] at h1 hrg
    by_cases c0 : runGo d w s < 0
    · simp [h1, h2, h3, h7, c0, acI]
    · have hna : (runGo d w s).toNat < d.acc.length := by omega
      have hn0 : 0 ≤ runGo d w s := by omega
      have hnl : runGo d w s < d.acc.length := by omega
      have hpa : ∀ h, d.acc[(runGo d w s).toNat]'h = ac_ d (runGo d w s).toNat := fun _ => (ac_eq hna).symm
      simp [h1, h2, h3, h7, c0, acI, hn0, hna, hnl, hpa, encI]
theorem tc_tableR (d : Dfa) (hs : DSm d) (ho : DOk d) : TC Try.prog 48 [.agg (encDfa d)] [] (.ro (tabR d.rows.length (nextF d))) [] := by
  have := (tc_table d hs ho).frz
  simpa using this
/-- The longest token at any place of any text. -/
def lexAtI (d : Dfa) (t : List UInt8) (at_ : Int) : Int × Int := if dfaOk d = true ∧ t.length ≤ 200 ∧ (0 ≤ at_ ∧ at_ ≤ t.length) then ((lexAtF d t at_.toNat).1, (lexAtF d t at_.toNat).2) else (-1, at_)
theorem tc_iLexAt (d : Dfa) (hs : DSm d) (t : List UInt8) (at_ : Int) : TC Try.prog 31 [.agg (encDfa d), .val (.string (bs t)), .val (.int .i64 at_)] [] (.tup [.val (.int .i64 (lexAtI d t at_).1), .val (.int .i64 (lexAtI d t at_).2)]) [] := by
  refine TC.enter Try.func31 rfl (by simp [Try.ntmps31]) rfl (tw_sound (ρ := [3]) ?_)
  rw [Try.ntmps31]
  unfold lexAtI
  simp [encDfa]
  refine TWoH.callV (tc_iDfaOk d hs) callable_12 (by simp [encDfa]) (by simp) (by simp) (by simp) ?_
  by_cases c : dfaOk d = true
  case neg => simp [c]
  by_cases c1 : t.length ≤ 200
  case neg =>
    have c1' : (200 : Int) < t.length := by omega
    simp [c, c1, c1']
  have c1' : ¬ (200 : Int) < t.length := by omega
  simp [c, c1, c1']
  refine TWoH.callV (tc_in at_ 0 t.length) callable_46 (by simp) (by simp) (by simp) (by simp) ?_
  by_cases c2 : 0 ≤ at_ ∧ at_ ≤ (t.length : Int)
  case neg =>
    simp only [c2, decide_false]
    simp [c2]
  simp only [c2, decide_true, and_self]
  have ho := dok_of c
  obtain ⟨p, rfl⟩ : ∃ p : Nat, at_ = p := ⟨at_.toNat, by omega⟩
  simp
  refine TWcH.regionD (ρ := [3]) [0, 1, 3, 4, 2, 5, 6, 7, 8, 9] 10 mixed (by kernel_rfl) ?_
  simp [encDfa]
  refine TWqH.callV (tc_tableR d hs ho) callable_48 (by simp [encDfa]) (by simp) (by simp) (by simp) ?_
  simp [encDfa]
  refine TWqH.callV (tc_iLexAt0 d hs ho t p c1 (by omega)) callable_64 (by simp [encDfa]) (by simp) (by simp) (by simp) ?_
  simp [c, c1]
theorem tc_sLexAt (d : Dfa) (hs : DSm d) (t : List UInt8) (at_ : Int) : TC Try.prog 32 [.agg (encDfa d), .val (.string (bs t)), .val (.int .i64 at_)] [] (.tup [.val (.int .i64 (lexAtI d t at_).1), .val (.int .i64 (lexAtI d t at_).2)]) [] := by
  refine TC.enter Try.func32 rfl (by simp [Try.ntmps32]) rfl (tw_sound (ρ := [3]) ?_)
  rw [Try.ntmps32]
  unfold lexAtI
  simp [encDfa]
  refine TWoH.callV (tc_sDfaOk d hs) callable_13 (by simp [encDfa]) (by simp) (by simp) (by simp) ?_
  by_cases c : dfaOk d = true
  case neg => simp [c]
  by_cases c1 : t.length ≤ 200
  case neg =>
    have c1' : (200 : Int) < t.length := by omega
    simp [c, c1, c1']
  have c1' : ¬ (200 : Int) < t.length := by omega
  by_cases c2 : at_ < 0
  · have c3 : ¬ 0 ≤ at_ := by omega
    simp [c, c1, c1', c2, c3]
  have c3 : 0 ≤ at_ := by omega
  by_cases c4 : (t.length : Int) < at_
  · have c5 : ¬ at_ ≤ (t.length : Int) := by omega
    simp [c, c1, c1', c2, c3, c4, c5]
  have c5 : at_ ≤ (t.length : Int) := by omega
  have ho := dok_of c
  obtain ⟨p, rfl⟩ : ∃ p : Nat, at_ = p := ⟨at_.toNat, by omega⟩
  simp [c, c1, c1', c2, c3, c4, c5]
  refine TWoH.callV (tc_sL9At d hs ho t p c1 (by omega)) callable_65 (by simp [encDfa]) (by simp) (by simp) (by simp) ?_
  have c6 : p ≤ t.length := by omega
  simp [c, c1, c6]
/-- The next state by the document: any byte. -/
def nextS (d : Dfa) (s b : Int) : Int := if dfaOk d = true ∧ (0 ≤ s ∧ s < (d.rows.length : Int)) then (if 0 ≤ b ∧ b ≤ 255 then nextF d s.toNat b.toNat else -1) else -1
theorem nextS_eq (d : Dfa) (s b : Int) : nextS d s b = nextI d s b := by
  unfold nextS nextI
  by_cases c : dfaOk d = true <;> by_cases c1 : 0 ≤ s <;> by_cases c2 : s < (d.rows.length : Int) <;> by_cases c3 : 0 ≤ b ∧ b ≤ 255
  all_goals first
    | (have c4 : s ≤ (d.rows.length : Int) - 1 := by omega); simp [c, c1, c2, c3, c4]
    | (have c4 : ¬ s ≤ (d.rows.length : Int) - 1 := by omega); simp [c, c1, c2, c3, c4]
end Go.Proofs.Ytibeeohnjabhkaa.R

open Go Go.Proofs.Ytibeeohnjabhkaa.T
namespace Go.Proofs.Ytibeeohnjabhkaa.R
set_option maxHeartbeats 8000000
set_option maxRecDepth 100000
set_option linter.unusedSimpArgs false
set_option linter.unusedVariables false
attribute [local simp] bsV bsRows chunk fillT partsT appV makeV rowsOf cellsOf placeOf frzT frz1
theorem seven (k : Int) (h0 : 0 ≤ k) (h1 : k < 8) : ∃ x : Int, (0 ≤ x ∧ x ≤ 1) ∧ IntKind.i64.wrap (Int.tdiv k 7) = x := by
  have e : Int.tdiv k 7 = k / 7 := Int.tdiv_eq_ediv_of_nonneg h0
  refine ⟨k / 7, by omega, ?_⟩
  rw [e]; exact wrapi (by omega)
theorem tcr_DrawLeastTwo (b : List UInt8) (hb : b.length ≤ 1048576) : TCR Try.prog 20 [.ro (b.map encU)] [] (fun r o => ∃ (d : Dfa) (s t : Int), DB d ∧ r = .tup [.agg (encDfa d), .val (.int .i64 s), .val (.int .i64 t)] ∧ (-1 ≤ s ∧ s ≤ 40) ∧ (-1 ≤ t ∧ t ≤ 40) ∧ o = []) := by
  refine TCR.enter Try.func20 rfl (by simp [Try.ntmps20]) rfl (tw_sound (ρ := []) ?_)
  rw [Try.ntmps20]
  simp
  refine gall_intro fun q2 g2 => ?_
  simp
  refine TWoH.call (tc_l15Open b hb) callable_43 (by simp) (by simp [rdr, ← List.map_take]) (by simp) fun q hq => ?_
  have l2 : q2 < q := over hq (t := .box 27 [.val (.slice none 0 0), .val (.slice none 0 0), .val (.slice none 0 0)]) (by simp)
  have fq : ¬ q = q2 ∧ ¬ q2 = q := by omega
  clear hq l2
  have hbt : (b.take 2000).length ≤ 2000 := by simp; omega
  simp [rdr, fq]
  refine TWoH.lendR [q] (tcr_l7BentR (b.take 2000) 0 hbt (by omega)) callable_42 (by simp [List.findIdx?_cons, fq]) (by simp [rdr, fq]) (by simp) (by simp) ?_
  rintro r o ⟨d, p1, hd, rfl, hp1, rfl⟩
  refine ⟨by simp [rdr], by simp, .inl (by simp [List.findIdx?_cons, fq]), fun q3 hq3 => ?_⟩
  clear hq3
  have hrw := hd.rows
  have hwr : IntKind.i64.wrap ((d.rows.length : Int) + 1) = d.rows.length + 1 := wrapi (by omega)
  simp [fq, encDfa]
  refine gall_fresh [q2, q] (by simp [fq]) fun c fc => ?_
  simp [frF] at fc
  simp [fq, fc, hwr]
  refine TWoH.lendR [q] (tcr_pick (b.take 2000) p1 (d.rows.length + 1) hbt (by omega)) callable_51 (by simp [List.findIdx?_cons, fq, fc]) (by simp [fq, fc]) (by simp) (by simp) ?_
  rintro r o ⟨k1, rfl, k10, k11, rfl⟩
  refine ⟨by simp [rdr], by simp, .inl (by simp [List.findIdx?_cons, fq, fc]), fun q4 hq4 => ?_⟩
  clear hq4
  simp [fq, fc]
  refine TWoH.lendR [q] (tcr_pick (b.take 2000) (p1 + 1) 8 hbt (by omega)) callable_51 (by simp [List.findIdx?_cons, fq, fc]) (by simp [fq, fc]) (by simp) (by simp) ?_
  rintro r o ⟨k2, rfl, k20, k21, rfl⟩
  refine ⟨by simp [rdr], by simp, .inl (by simp [List.findIdx?_cons, fq, fc]), fun q5 hq5 => ?_⟩
  clear hq5
  obtain ⟨x, hx, ex⟩ := seven k2 k20 (k21 (by omega))
  have hk1 := k11 (by omega)
  have hws : IntKind.i64.wrap (k1 - x) = k1 - x := wrapi (by omega)
  simp [fq, fc, ex, hws]
  refine TWcH.midB (ρ := []) (fun st => ∃ (t : Int), (-1 ≤ t ∧ t ≤ 40) ∧ st.σ 2 = .pd q2 0 0 0 ∧ st.H q2 = some (.box 27 (encDfa d)) ∧ st.σ 3 = .val (.int .i64 (k1 - x)) ∧ st.σ 4 = .val (.int .i64 t))
    (.first 1 (.first 2 (.first 3 (.first 8 (.pick 0 (.pick 4 (.first 5 (.first 6 (.pick 7 (.pick 9 (.first 10 (.first 11 (.pick 12 (.first 13 (.first 14 .fin)) .fin))) .fin) .fin))) .fin) (.pick 4 (.first 5 (.first 6 (.pick 0 (.pick 7 (.pick 9 (.first 10 (.first 11 (.pick 12 (.first 13 (.first 14 .fin)) .fin))) .fin) .fin) (.pick 7 (.pick 0 (.pick 9 (.first 10 (.first 11 (.pick 12 (.first 13 (.first 14 .fin)) .fin))) .fin) (.pick 9 (.first 10 (.first 11 (.pick 0 (.pick 12 (.first 13 (.first 14 .fin)) .fin) .fin))) .fin)) .fin)))) .fin)))))) mixed (by kernel_rfl) ?_ ?_
  case refine_2 =>
    rintro ⟨σ, H⟩ ⟨t, ht, h2, H2, h3, h4⟩
    simp only at h2 H2 h3 h4
    simp [h2, H2, h3, h4, encDfa]
    exact ⟨d, hd, k1 - x, t, ⟨⟨rfl, rfl, rfl⟩, rfl, rfl⟩, by omega, by omega, by omega⟩
  simp [fq, fc, hwr]
  refine ⟨?_, ?_, ?_⟩
  all_goals
    refine TWoH.lendR [q] (tcr_pick (b.take 2000) (p1 + 1 + 1) (d.rows.length + 1) hbt (by omega)) callable_51 (by simp [List.findIdx?_cons, fq, fc]) (by simp [fq, fc]) (by simp) (by simp) ?_
    rintro r o ⟨k3, rfl, k30, k31, rfl⟩
    refine ⟨by simp [rdr], by simp, .inl (by simp [List.findIdx?_cons, fq, fc]), fun q6 hq6 => ?_⟩
    clear hq6
    have hk3 := k31 (by omega)
    simp [fq, fc]
  rotate_left 2
  refine And.intro ?_ ?_
  all_goals
    refine TWoH.lendR [q] (tcr_pick (b.take 2000) (p1 + 1 + 1 + 1) 8 hbt (by omega)) callable_51 (by simp [List.findIdx?_cons, fq, fc]) (by simp [fq, fc]) (by simp) (by simp) ?_
    rintro r o ⟨k4, rfl, k40, k41, rfl⟩
    refine ⟨by simp [rdr], by simp, .inl (by simp [List.findIdx?_cons, fq, fc]), fun q7 hq7 => ?_⟩
    clear hq7
    obtain ⟨y, hy, ey⟩ := seven k4 k40 (k41 (by omega))
    have hwy : IntKind.i64.wrap (k3 - y) = k3 - y := wrapi (by omega)
    simp [fq, fc, ey, hwy, encDfa]
    omega
end Go.Proofs.Ytibeeohnjabhkaa.R

open Go Go.Proofs.Ytibeeohnjabhkaa.T
namespace Go.Proofs.Ytibeeohnjabhkaa.R
set_option maxHeartbeats 8000000
set_option maxRecDepth 100000
set_option linter.unusedSimpArgs false
set_option linter.unusedVariables false
attribute [local simp] bsV bsRows chunk fillT partsT appV makeV rowsOf cellsOf placeOf frzT frz1
theorem twoF_bad {d : Dfa} {s t : Int} (h : ¬ (dfaOk d = true ∧ (0 ≤ s ∧ s < d.rows.length) ∧ (0 ≤ t ∧ t < d.rows.length))) : twoF d s t = (false, []) := by
  unfold twoF; rw [if_neg h]
theorem tc_FnLeastTwo (b b2 : List UInt8) : TC Try.prog 9 [.ro (b.map encU), .ro (b2.map encU)] [] (.val (.bool true)) [] := by
  refine TC.enter Try.func9 rfl (by simp [Try.ntmps9]) rfl (tw_sound (ρ := []) ?_)
  rw [Try.ntmps9]
  by_cases hb0 : (1048576 : Int) < b.length
  · simp [hb0]
  have hb : b.length ≤ 1048576 := by omega
  by_cases hb1 : (1048576 : Int) < b2.length
  · simp [hb0, hb1]
  have hb2 : b2.length ≤ 1048576 := by omega
  simp [hb0, hb1]
  refine TWoH.callR (tcr_DrawLeastTwo b hb) callable_20 (by simp) ?_
  rintro r o ⟨d, s, t, hd, rfl, hs0, ht0, rfl⟩
  refine ⟨rfl, by simp, .inl (by simp), fun q hq => ?_⟩
  clear hq
  have hs := hd.sm
  have t1 := tc_iLeastTwo d hs s t
  have t2 := tc_sLeastTwo d hs s t
  have t6 := tc_sDfaOk d hs
  simp [encDfa]
  refine gall_intro fun c hc => ?_
  clear hc
  simp [encDfa]
  refine TWoH.callV t1 callable_21 (by simp [encDfa]) (by simp) (by simp) (by simp) ?_
  simp [encDfa]
  refine TWoH.callV t2 callable_22 (by simp [encDfa]) (by simp) (by simp) (by simp) ?_
  simp [encDfa]
  refine TWoH.callV t6 callable_13 (by simp [encDfa]) (by simp) (by simp) (by simp) ?_
  by_cases ok : dfaOk d = true
  case neg => simp [ok, twoF_bad (d := d) (s := s) (t := t) (fun h => ok h.1)]
  by_cases c1 : s < 0
  · simp [ok, c1, twoF_bad (d := d) (s := s) (t := t) (fun h => by omega)]
  by_cases c2 : t < 0
  · simp [ok, c1, c2, twoF_bad (d := d) (s := s) (t := t) (fun h => by omega)]
  by_cases c3 : (d.rows.length : Int) ≤ s
  · simp [ok, c1, c2, c3, twoF_bad (d := d) (s := s) (t := t) (fun h => by omega)]
  by_cases c4 : (d.rows.length : Int) ≤ t
  · simp [ok, c1, c2, c3, c4, twoF_bad (d := d) (s := s) (t := t) (fun h => by omega)]
  have ho := dok_of ok
  obtain ⟨ks, hks⟩ := kindsR_ex d
  have t4 := tc_iLeastKindsR d hs ks hks
  unfold kindsR at hks
  rw [if_pos ok] at hks
  have hkl := kinds_len hks
  obtain ⟨l1, l2, l3, l4⟩ := twoF_iff ok (s := s) (t := t) ⟨by omega, by omega⟩ ⟨by omega, by omega⟩
  have hki := kinds_iff ho hks (s := s.toNat) (t := t.toNat) (by omega) (by omega)
  rw [← l1] at hki
  have hrun := fun w : List UInt8 => same_run ho w s t ⟨by omega, by omega⟩ ⟨by omega, by omega⟩
  rw [ix_nat (by omega), ix_nat (by omega)] at hrun
  have hsk : s.toNat < ks.length := by omega
  have htk : t.toNat < ks.length := by omega
  have hsl : s < ks.length := by omega
  have htl : t < ks.length := by omega
  have hs1 : 0 ≤ s := by omega
  have ht1 : 0 ≤ t := by omega
  have hpa : ∀ h, ks[s.toNat]'h = kn ks s.toNat := fun h => (kn_eq h).symm
  have hpb : ∀ h, ks[t.toNat]'h = kn ks t.toNat := fun h => (kn_eq h).symm
  generalize hF : twoF d s t = F at *
  obtain ⟨same, word⟩ := F
  simp only at l1 l2 l3 l4 hki
  simp [ok, c1, c2, c3, c4]
  refine TWoH.callV t4 callable_35 (by simp [encDfa]) (by simp) (by simp) (by simp) ?_
  simp [encDfa]
  refine TWcH.regionD (ρ := []) [0, 1, 2, 3, 4, 5, 6, 7, 8, 9, 10] 11 mixed (by kernel_rfl) ?_
  have hke : (kn ks s.toNat = kn ks t.toNat) = (same = true) := propext hki
  simp [hs1, ht1, hsk, htk, hsl, htl, hpa, hpb, encI]
  have hde : decide (kn ks s.toNat = kn ks t.toNat) = same := by
    cases same
    · have : ¬ kn ks s.toNat = kn ks t.toNat := fun e => by have := hki.1 e; cases this
      simp [this]
    · simp [hki.2 rfl]
  simp [hde]
  refine TWoH.callR (tcr_DrawDfaRun b2 hb2) callable_15 (by simp) ?_
  rintro r o ⟨d2, w, hd2, rfl, hw, rfl⟩
  refine ⟨rfl, by simp, .inl (by simp), fun q hq => ?_⟩
  clear hq
  simp [encDfa]
  refine gall_fresh [c] (by simp) fun c2' fc => ?_
  simp [frF] at fc
  simp [fc]
  have ha : ∀ u : List UInt8, u.length ≤ 1681 → TC Try.prog 38 [.agg (encDfa d), .val (.int .i64 s), .val (.string (bs u))] [] (.val (.int .i64 (acI d (runGo d u s)))) [] := fun u hu => tc_wjFrom d hs ok s (by omega) (by omega) u (by omega)
  have hb : ∀ u : List UInt8, u.length ≤ 1681 → TC Try.prog 38 [.agg (encDfa d), .val (.int .i64 t), .val (.string (bs u))] [] (.val (.int .i64 (acI d (runGo d u t)))) [] := fun u hu => tc_wjFrom d hs ok t (by omega) (by omega) u (by omega)
  cases same
  case false =>
    simp [fc]
    refine TWcH.regionD (ρ := []) [0, 1, 2, 4, 5, 6, 3, 7, 8, 9] 10 mixed (by kernel_rfl) ?_
    simp [fc, encDfa]
    refine TWqH.callV (ha word l4) callable_38 (by simp [encDfa]) (by simp) (by simp) (by simp) ?_
    simp [fc, encDfa]
    refine TWqH.callV (hb word l4) callable_38 (by simp [encDfa]) (by simp) (by simp) (by simp) ?_
    simp [fc, l3 rfl]
  case true =>
    have he := hrun w (l1.1 rfl)
    simp [fc]
    refine TWcH.regionD (ρ := []) [0, 1, 2, 4, 5, 6, 3, 7, 8, 9] 10 mixed (by kernel_rfl) ?_
    simp [fc, encDfa]
    refine TWqH.callV (ha w (by omega)) callable_38 (by simp [encDfa]) (by simp) (by simp) (by simp) ?_
    simp [fc, encDfa]
    refine TWqH.callV (hb w (by omega)) callable_38 (by simp [encDfa]) (by simp) (by simp) (by simp) ?_
    simp [fc, he]
end Go.Proofs.Ytibeeohnjabhkaa.R

open Go Go.Proofs.Ytibeeohnjabhkaa.T
namespace Go.Proofs.Ytibeeohnjabhkaa.R
set_option maxHeartbeats 8000000
set_option maxRecDepth 100000
set_option linter.unusedSimpArgs false
set_option linter.unusedVariables false
attribute [local simp] bsV bsRows chunk fillT partsT appV makeV rowsOf cellsOf placeOf frzT frz1
theorem twoF_trans {d : Dfa} (ok : dfaOk d = true) {s t r : Int} (hs : 0 ≤ s ∧ s < d.rows.length) (ht : 0 ≤ t ∧ t < d.rows.length) (hr : 0 ≤ r ∧ r < d.rows.length) (h : (twoF d s t).1 = true) : (twoF d t r).1 = (twoF d s r).1 := by
  have ho := dok_of ok
  have n1 := (twoF_iff ok hs ht).1.1 h
  rw [Bool.eq_iff_iff, (twoF_iff ok ht hr).1, (twoF_iff ok hs hr).1]
  constructor
  · intro a b
    rcases apart_tri ho b t.toNat (by omega) with x | x
    · exact n1 x
    · exact a x
  · intro a b
    rcases apart_tri ho b s.toNat (by omega) with x | x
    · exact n1 (apart_symm x)
    · exact a x
theorem tc_FnLeastWay (b b2 : List UInt8) : TC Try.prog 5 [.ro (b.map encU), .ro (b2.map encU)] [] (.val (.bool true)) [] := by
  refine TC.enter Try.func5 rfl (by simp [Try.ntmps5]) rfl (tw_sound (ρ := []) ?_)
  rw [Try.ntmps5]
  by_cases hb0 : (1048576 : Int) < b.length
  · simp [hb0]
  have hb : b.length ≤ 1048576 := by omega
  by_cases hb1 : (1048576 : Int) < b2.length
  · simp [hb0, hb1]
  have hb2 : b2.length ≤ 1048576 := by omega
  simp [hb0, hb1]
  refine TWoH.callR (tcr_DrawLeastTwo b hb) callable_20 (by simp) ?_
  rintro r o ⟨d, s, t, hd, rfl, hs0, ht0, rfl⟩
  refine ⟨rfl, by simp, .inl (by simp), fun q hq => ?_⟩
  clear hq
  have hs := hd.sm
  have t1 := tc_iLeastTwo d hs s t
  have t2 := tc_sLeastTwo d hs s t
  have t3 := tc_iLeastTwo d hs t s
  rw [twoF_symm] at t3
  have t6 := tc_sDfaOk d hs
  simp [encDfa]
  refine gall_intro fun c hc => ?_
  clear hc
  simp [encDfa]
  refine TWoH.callV t1 callable_21 (by simp [encDfa]) (by simp) (by simp) (by simp) ?_
  simp [encDfa]
  refine TWoH.callV t3 callable_21 (by simp [encDfa]) (by simp) (by simp) (by simp) ?_
  simp [encDfa]
  refine TWoH.callV t2 callable_22 (by simp [encDfa]) (by simp) (by simp) (by simp) ?_
  simp [encDfa]
  refine TWoH.callV t6 callable_13 (by simp [encDfa]) (by simp) (by simp) (by simp) ?_
  by_cases ok : dfaOk d = true
  case neg => simp [ok]
  by_cases c1 : s < 0
  · simp [ok, c1]
  by_cases c3 : (d.rows.length : Int) ≤ s
  · simp [ok, c1, c3]
  by_cases c2 : t < 0
  · simp [ok, c1, c2, c3]
  by_cases c4 : (d.rows.length : Int) ≤ t
  · simp [ok, c1, c2, c3, c4]
  have hS : 0 ≤ s ∧ s < d.rows.length := by omega
  have hT : 0 ≤ t ∧ t < d.rows.length := by omega
  have hlz : ¬ (d.rows.length : Int) = 0 := by omega
  have hlz' : ¬ d.rows.length = 0 := by omega
  obtain ⟨k, hk⟩ : ∃ k : Nat, k = b2.length % d.rows.length := ⟨_, rfl⟩
  have hkl : k < d.rows.length := by rw [hk]; exact Nat.mod_lt _ (by omega)
  have hkm : Int.tmod (b2.length : Int) (d.rows.length : Int) = k := by
    rw [hk, ← Int.ofNat_tmod]
  have t7 := tc_iLeastTwo d hs s s
  rw [twoF_self ok hS] at t7
  have t8 := tc_iLeastTwo d hs t k
  have t9 := tc_iLeastTwo d hs s k
  have htr := twoF_trans ok (r := k) hS hT ⟨by omega, by omega⟩
  generalize twoF d t k = G at *
  generalize twoF d s k = G2 at *
  simp [ok, c1, c2, c3, c4]
  refine TWoH.callV t7 callable_21 (by simp [encDfa]) (by simp) (by simp) (by simp) ?_
  simp [encDfa, hkm, hlz, hlz']
  refine TWoH.callV t8 callable_21 (by simp [encDfa]) (by simp) (by simp) (by simp) ?_
  simp [encDfa]
  refine TWoH.callV t9 callable_21 (by simp [encDfa]) (by simp) (by simp) (by simp) ?_
  cases e : (twoF d s t).1
  · simp [e]
  · simp [e, htr e]
end Go.Proofs.Ytibeeohnjabhkaa.R
