/- Part 5: what the walk of the code stands on. Conditions: none but those that each theorem states. -/
import Derived.Test.YtdomnlnanbekaaaGreatDoorK4
open Go Go.Proofs.YtdomnlnanbekaaaGreatDoor.T
namespace Go.Proofs.YtdomnlnanbekaaaGreatDoor.R
set_option maxHeartbeats 4000000
set_option maxRecDepth 100000
set_option linter.unusedSimpArgs false
set_option linter.unusedVariables false
attribute [local simp] bsV bsRows chunk fillT partsT appV makeV rowsOf cellsOf placeOf frzT frz1
def RN : List (List UInt8) := [[105, 100], [110, 117, 109], [111, 112], [115, 112, 97, 99, 101], [107, 101, 121]]
def RulesF (b : List UInt8) (p' i c i3 i4 : Nat) (yk : Int) (ys : List (Int × Int)) (yl : List Rex) (S : TV) (l : List Rule) (st : St) : Prop := st.σ 0 = .pd 0 0 0 0 ∧ st.H 0 = some (rdr b p') ∧ st.σ 3 = .hd i3 ∧ st.H i3 = some (.own 41 (l.map encRule)) ∧ st.σ 4 = .hd i4 ∧ st.H i4 = some (.own 9 (RN.map encT)) ∧ st.σ 5 = .val (.int .i64 i) ∧
  st.σ 6 = .pd c 0 0 0 ∧ st.H c = some (.box 37 [.val (.int .i64 yk), .ro (ys.map encSp), .ro (encRexL yl)]) ∧ st.σ 34 = .agg [.val (.int .i64 yk), S, .ro (encRexL yl)]
theorem frz2_rule (i1 i2 : Nat) (t1 t2 : TV) (r : Rule) : List.map (frz1 i2 t2 ∘ frz1 i1 t1) (encRule r) = encRule r := by
  obtain ⟨n, k, s, l⟩ := r
  simp [encRule, encRex]
theorem frz2_T (i1 i2 : Nat) (t1 t2 : TV) (r : List UInt8) : List.map (frz1 i2 t2 ∘ frz1 i1 t1) (encT r) = encT r := by simp [encT]
theorem tcr_l6Rules (b : List UInt8) (p : Nat) (hb : b.length ≤ 2000) (hp : p ≤ 850000000) : TCR Tryz.prog 127 [.pd 0 0 0 0] [rdr b p] (fun r o => ∃ (l : List Rule) (p' : Nat), r = .own 41 (l.map encRule) ∧ (∀ x ∈ l, Sm x.rex ∧ x.name ∈ RN) ∧ 1 ≤ l.length ∧ l.length ≤ 4 ∧ p' ≤ p + 1000 ∧ o = [rdr b p']) := by
  refine TCR.enter Tryz.func127 rfl (by simp [Tryz.ntmps127]) rfl (tw_sound (ρ := []) ?_)
  rw [Tryz.ntmps127]
  simp
  refine gall_intro fun i3 g3 => ?_
  have n0 : ¬ i3 = 0 := fun e => by rw [e] at g3; simp at g3
  have n0' : ¬ 0 = i3 := fun e => n0 e.symm
  clear g3
  simp [n0, n0']
  refine gall_intro fun i4 g4 => ?_
  have m0 : ¬ i4 = 0 := fun e => by rw [e] at g4; simp [n0, n0'] at g4
  have m0' : ¬ 0 = i4 := fun e => m0 e.symm
  have m1 : ¬ i4 = i3 := fun e => by rw [e] at g4; simp [n0, n0'] at g4
  have m1' : ¬ i3 = i4 := fun e => m1 e.symm
  clear g4
  simp [n0, n0', m0, m0', m1, m1']
  refine TWoH.lendR [0] (tcr_pick b p 4 hb (by omega)) callable_72 (by simp [List.findIdx?_cons, n0, n0', m0, m0']) (by simp [n0, n0', m0, m0', m1, m1']) (by simp) (by simp) ?_
  rintro r o ⟨k, rfl, k0, k1, rfl⟩
  refine ⟨by simp [rdr], by simp, .inl (by simp [List.findIdx?_cons, n0, n0', m0, m0']), fun q hq => ?_⟩
  clear hq
  obtain ⟨N, hkN, hk4, hk1⟩ : ∃ N : Nat, 1 + k = (N : Int) ∧ N ≤ 4 ∧ 1 ≤ N := ⟨(1 + k).toNat, by omega, by have := k1 (by omega); omega, by omega⟩
  have hw0 : IntKind.i64.wrap (1 + k) = N := by rw [wrapi (by omega)]; exact hkN
  simp [n0, n0', m0, m0', m1, m1', hw0]
  refine TWcH.loop [] (fun m st => ∃ (i p' i3 : Nat) (l : List Rule), i = m ∧ l.length + i = N ∧ p' ≤ p + 1 + 140 * l.length ∧ (∀ x ∈ l, Sm x.rex ∧ x.name ∈ RN) ∧ i3 ≠ 0 ∧ i3 ≠ i4 ∧ st.σ 0 = .pd 0 0 0 0 ∧ st.H 0 = some (rdr b p') ∧ st.σ 3 = .hd i3 ∧ st.H i3 = some (.own 41 (l.map encRule)) ∧ st.σ 4 = .hd i4 ∧ st.H i4 = some (.own 9 (RN.map encT)) ∧ st.σ 5 = .val (.int .i64 i)) N ⟨N, p + 1, i3, [], rfl, by simp, by simp, by simp, n0, m1', by simp [n0, n0', m0, m0', m1, m1', RN, encT]⟩ ?_
  clear n0 n0' m1 m1' i3
  rintro m ⟨σ, H⟩ ⟨i, p', i3, l, rfl, hli, hpl, hl, n0, m1', h0, hH, h3, hI, h4, hN, h5⟩
  simp only at h0 hH h3 hI h4 hN h5
  have n0' : ¬ 0 = i3 := fun e => n0 e.symm
  have m1 : ¬ i4 = i3 := fun e => m1' e.symm
  by_cases hi : 0 < i
  case neg =>
    obtain rfl : i = 0 := by omega
    simp [h0, hH, h3, hI, h4, hN, h5, n0, n0', m0, m0', m1, m1']
    exact ⟨_, _, ⟨rfl, rfl⟩, by simp, by simp [hH, del, n0, n0'], l, by simp, hl, by omega, by omega, p', by omega, by simp [hH, del, n0, n0']⟩
  have hw1 : IntKind.i64.wrap ((i : Int) - 1) = ((i - 1 : Nat) : Int) := by rw [wrapi (by omega)]; omega
  simp [h0, hH, h3, hI, h4, hN, h5, hi]
  refine TWoH.lendR [0] (tcr_pick b p' 3 hb (by omega)) callable_72 (by simp [h0, List.findIdx?_cons]) (by simp [hH]) (by simp) (by simp) ?_
  rintro r o ⟨k, rfl, k0, k1, rfl⟩
  refine ⟨by simp [rdr], by simp, .inl (by simp [h0, List.findIdx?_cons]), fun q hq => ?_⟩
  clear hq
  have k2 := k1 (by omega)
  obtain ⟨d, hd, hd1⟩ : ∃ d : Nat, 1 + k = (d : Int) ∧ d ≤ 3 := ⟨(1 + k).toNat, by omega, by omega⟩
  have hw : IntKind.i64.wrap (1 + k) = d := by rw [wrapi (by omega)]; exact hd
  have hRC : RC d ≤ 104 := by
    unfold RC
    have : 2 ^ d ≤ 2 ^ 3 := Nat.pow_le_pow_right (by omega) hd1
    omega
  simp [h0, hH, h3, hI, h4, hN, h5, n0, n0', m0, m0', m1, m1', hw]
  refine TWoH.lendR [0] (tcr_l2Rex d b (p' + 1) (by omega) hb (by omega)) callable_169 (by simp [h0, List.findIdx?_cons, hw]) (by simp [hH]) (by simp) (by simp) ?_
  rintro r o ⟨x, p1, rfl, hx, hp1, rfl⟩
  refine ⟨by simp [rdr], by simp, .inl (by simp [h0, List.findIdx?_cons]), fun q hq => ?_⟩
  clear hq
  obtain ⟨xk, xs, xl⟩ := x
  simp [h0, hH, h3, hI, h4, hN, h5, n0, n0', m0, m0', m1, m1', hw, encRex]
  refine gall_intro fun c gc => ?_
  have c0 : ¬ c = 0 := fun e => by rw [e] at gc; simp at gc
  have c0' : ¬ 0 = c := fun e => c0 e.symm
  have c3 : ¬ c = i3 := fun e => by rw [e] at gc; simp [hI, n0, n0'] at gc
  have c3' : ¬ i3 = c := fun e => c3 e.symm
  have c4 : ¬ c = i4 := fun e => by rw [e] at gc; simp [hN, m0, m0'] at gc
  have c4' : ¬ i4 = c := fun e => c4 e.symm
  clear gc
  simp [h0, hH, h3, hI, h4, hN, h5, n0, n0', m0, m0', m1, m1', c0, c0', c3, c3', c4, c4']
  refine TWoH.lendR [0] (tcr_pick b p1 3 hb (by omega)) callable_72 (by simp [h0, List.findIdx?_cons]) (by simp [hH, c0, c0', c3, c3', c4, c4']) (by simp) (by simp) ?_
  rintro r o ⟨k, rfl, k0, k1, rfl⟩
  refine ⟨by simp [rdr], by simp, .inl (by simp [h0, List.findIdx?_cons]), fun q hq => ?_⟩
  clear hq
  by_cases e1 : k = 0
  · simp [h0, hH, h3, hI, h4, hN, h5, n0, n0', m0, m0', m1, m1', c0, c0', c3, c3', c4, c4', e1]
    refine TWoH.lendR [0] (tcr_pick b (p1 + 1) 3 hb (by omega)) callable_72 (by simp [h0, List.findIdx?_cons]) (by simp [hH, c0, c0', c3, c3', c4, c4']) (by simp) (by simp) ?_
    rintro r o ⟨j, rfl, j0, j1, rfl⟩
    refine ⟨by simp [rdr], by simp, .inl (by simp [h0, List.findIdx?_cons]), fun q hq => ?_⟩
    clear hq
    have hj : IntKind.i64.wrap (97 + j) = 97 + j := wrapi (by have := j1 (by omega); omega)
    simp [h0, hH, h3, hI, h4, hN, h5, n0, n0', m0, m0', m1, m1', c0, c0', c3, c3', c4, c4', e1, hj]
    refine TWoH.callV (tc_l2Byte (97 + j)) callable_170 (by simp [hj]) (by simp) (by simp) (by simp) ?_
    simp [h0, hH, h3, hI, h4, hN, h5, n0, n0', m0, m0', m1, m1', c0, c0', c3, c3', c4, c4', e1, hj]
    refine TWoH.lendR [0] (tcr_l2Leaf b (p1 + 1 + 1) hb (by omega)) callable_171 (by simp [h0, List.findIdx?_cons]) (by simp [hH, c0, c0', c3, c3', c4, c4']) (by simp) (by simp) ?_
    rintro r o ⟨y, p2, rfl, hy, hp2, rfl⟩
    refine ⟨by simp [rdr], by simp, .inl (by simp [h0, List.findIdx?_cons]), fun q hq => ?_⟩
    clear hq
    have hz : Sm (.mk 3 [] [.mk 1 [(97 + j, 97 + j)] [], .mk 5 [] [y]]) := by simp only [Sm, SmL]; exact ⟨by simp, by simp, ⟨by simp, by simp, trivial⟩, ⟨by simp, by simp, hy.sm, trivial⟩, trivial⟩
    obtain ⟨yk, ys, yl⟩ := y
    simp [h0, hH, h3, hI, h4, hN, h5, n0, n0', m0, m0', m1, m1', c0, c0', c3, c3', c4, c4', e1, hj, encRex, encRexL]
    refine gall_intro fun q1 w1 => ?_
    have q1_0 : ¬ q1 = 0 := fun e => by rw [e] at w1; simp [h0, hH, h3, hI, h4, hN, h5, n0, n0', m0, m0', m1, m1', c0, c0', c3, c3', c4, c4', e1, hj] at w1
    have q1_0' : ¬ 0 = q1 := fun e => q1_0 e.symm
    have q1_i3 : ¬ q1 = i3 := fun e => by rw [e] at w1; simp [h0, hH, h3, hI, h4, hN, h5, n0, n0', m0, m0', m1, m1', c0, c0', c3, c3', c4, c4', e1, hj] at w1
    have q1_i3' : ¬ i3 = q1 := fun e => q1_i3 e.symm
    have q1_i4 : ¬ q1 = i4 := fun e => by rw [e] at w1; simp [h0, hH, h3, hI, h4, hN, h5, n0, n0', m0, m0', m1, m1', c0, c0', c3, c3', c4, c4', e1, hj] at w1
    have q1_i4' : ¬ i4 = q1 := fun e => q1_i4 e.symm
    have q1_c : ¬ q1 = c := fun e => by rw [e] at w1; simp [h0, hH, h3, hI, h4, hN, h5, n0, n0', m0, m0', m1, m1', c0, c0', c3, c3', c4, c4', e1, hj] at w1
    have q1_c' : ¬ c = q1 := fun e => q1_c e.symm
    simp [h0, hH, h3, hI, h4, hN, h5, n0, n0', m0, m0', m1, m1', c0, c0', c3, c3', c4, c4', e1, hj, q1_0, q1_0', q1_i3, q1_i3', q1_i4, q1_i4', q1_c, q1_c', encRex, encRexL]
    refine gall_intro fun q2 w2 => ?_
    have q2_0 : ¬ q2 = 0 := fun e => by rw [e] at w2; simp [h0, hH, h3, hI, h4, hN, h5, n0, n0', m0, m0', m1, m1', c0, c0', c3, c3', c4, c4', e1, hj, q1_0, q1_0', q1_i3, q1_i3', q1_i4, q1_i4', q1_c, q1_c'] at w2
    have q2_0' : ¬ 0 = q2 := fun e => q2_0 e.symm
    have q2_i3 : ¬ q2 = i3 := fun e => by rw [e] at w2; simp [h0, hH, h3, hI, h4, hN, h5, n0, n0', m0, m0', m1, m1', c0, c0', c3, c3', c4, c4', e1, hj, q1_0, q1_0', q1_i3, q1_i3', q1_i4, q1_i4', q1_c, q1_c'] at w2
    have q2_i3' : ¬ i3 = q2 := fun e => q2_i3 e.symm
    have q2_i4 : ¬ q2 = i4 := fun e => by rw [e] at w2; simp [h0, hH, h3, hI, h4, hN, h5, n0, n0', m0, m0', m1, m1', c0, c0', c3, c3', c4, c4', e1, hj, q1_0, q1_0', q1_i3, q1_i3', q1_i4, q1_i4', q1_c, q1_c'] at w2
    have q2_i4' : ¬ i4 = q2 := fun e => q2_i4 e.symm
    have q2_c : ¬ q2 = c := fun e => by rw [e] at w2; simp [h0, hH, h3, hI, h4, hN, h5, n0, n0', m0, m0', m1, m1', c0, c0', c3, c3', c4, c4', e1, hj, q1_0, q1_0', q1_i3, q1_i3', q1_i4, q1_i4', q1_c, q1_c'] at w2
    have q2_c' : ¬ c = q2 := fun e => q2_c e.symm
    have q2_q1 : ¬ q2 = q1 := fun e => by rw [e] at w2; simp [h0, hH, h3, hI, h4, hN, h5, n0, n0', m0, m0', m1, m1', c0, c0', c3, c3', c4, c4', e1, hj, q1_0, q1_0', q1_i3, q1_i3', q1_i4, q1_i4', q1_c, q1_c'] at w2
    have q2_q1' : ¬ q1 = q2 := fun e => q2_q1 e.symm
    simp [h0, hH, h3, hI, h4, hN, h5, n0, n0', m0, m0', m1, m1', c0, c0', c3, c3', c4, c4', e1, hj, q1_0, q1_0', q1_i3, q1_i3', q1_i4, q1_i4', q1_c, q1_c', q2_0, q2_0', q2_i3, q2_i3', q2_i4, q2_i4', q2_c, q2_c', q2_q1, q2_q1', encRex, encRexL]
    obtain ⟨zl, hzl⟩ : ∃ zl, zl = [Rex.mk 1 [(97 + j, 97 + j)] [], .mk 5 [] [.mk yk ys yl]] := ⟨_, rfl⟩
    rw [← hzl] at hz
    refine TWoH.via (A := RulesF b p2 i c i3 i4 3 [] zl (.val (.slice none 0 0)) l) (Turn.then (Turn.freezeA q1 (t := .own 37 [encRex (.mk yk ys yl)]) (by simp [h0, hH, h3, hI, h4, hN, h5, n0, n0', m0, m0', m1, m1', c0, c0', c3, c3', c4, c4', e1, hj, q1_0, q1_0', q1_i3, q1_i3', q1_i4, q1_i4', q1_c, q1_c', q2_0, q2_0', q2_i3, q2_i3', q2_i4, q2_i4', q2_c, q2_c', q2_q1, q2_q1', encRex]) (Turn.then (Turn.freezeA q2 (t := .own 37 [encRex (.mk 1 [(97 + j, 97 + j)] []), [.val (.int .i64 5), .val (.slice none 0 0), .ro [encRex (.mk yk ys yl)]]]) (by simp [h0, hH, h3, hI, h4, hN, h5, n0, n0', m0, m0', m1, m1', c0, c0', c3, c3', c4, c4', e1, hj, q1_0, q1_0', q1_i3, q1_i3', q1_i4, q1_i4', q1_c, q1_c', q2_0, q2_0', q2_i3, q2_i3', q2_i4, q2_i4', q2_c, q2_c', q2_q1, q2_q1', encRex, encRexL, encSp, frzO, del]) (Turn.nrm c (t := .box 37 [.val (.int .i64 3), .val (.slice none 0 0), .ro (encRexL zl)]) (by rw [hzl]; simp [h0, hH, h3, hI, h4, hN, h5, n0, n0', m0, m0', m1, m1', c0, c0', c3, c3', c4, c4', e1, hj, q1_0, q1_0', q1_i3, q1_i3', q1_i4, q1_i4', q1_c, q1_c', q2_0, q2_0', q2_i3, q2_i3', q2_i4, q2_i4', q2_c, q2_c', q2_q1, q2_q1', encRex, encRexL, encSp, frzO, del]) (by simp [RulesF, nrmO, nrm1, frzO, rdr, del, h0, hH, h3, hI, h4, hN, h5, n0, n0', m0, m0', m1, m1', c0, c0', c3, c3', c4, c4', e1, hj, q1_0, q1_0', q1_i3, q1_i3', q1_i4, q1_i4', q1_c, q1_c', q2_0, q2_0', q2_i3, q2_i3', q2_i4, q2_i4', q2_c, q2_c', q2_q1, q2_q1']; rw [hzl]; simp [encRex, encRexL, encSp, frz2_rule, frz2_T])))))) ?_
    clear hzl
    rintro ⟨σ, H⟩ ⟨f0, fH, f3, fI, f4, fN, f5, f6, fC, f34⟩
    simp only at f0 fH f3 fI f4 fN f5 f6 fC f34
    refine TWoH.callV (tc_sRexOk (.mk 3 [] zl) hz) callable_33 (by simp [f34, encRex, noHR_rex]) (by simp) (by simp) (by simp) ?_
    have hlN : l.length < RN.length := by simp [RN]; omega
    obtain ⟨nm, hnm⟩ : ∃ w, ∀ h, RN[l.length]'h = w := ⟨RN[l.length], fun _ => rfl⟩
    have hnm2 : nm ∈ RN := by rw [← hnm hlN]; exact List.getElem_mem hlN
    have k3 : (l.length + 1) * 72 ≤ 140737488355328 := by omega
    have k4 : l.length ≤ 9223372036854775806 := by omega
    cases cR : rexOk (.mk 3 [] zl)
    · simp [f0, fH, f3, fI, f4, fN, f5, f6, fC]
      refine TWoH.lendR [0] (tcr_l2Leaf b p2 hb (by omega)) callable_171 (by simp [f0, List.findIdx?_cons]) (by simp [fH]) (by simp) (by simp) ?_
      rintro r o ⟨y, p3, rfl, hy, hp3, rfl⟩
      refine ⟨by simp [rdr], by simp, .inl (by simp [f0, List.findIdx?_cons]), fun q hq => ?_⟩
      clear hq
      obtain ⟨yk, ys, yl⟩ := y
      simp [del, delo, f0, fH, f3, fI, f4, fN, f5, f6, fC, n0, n0', m0, m0', m1, m1', c0, c0', c3, c3', c4, c4', encRex]
      refine TWcH.regionD (ρ := []) [0, 1, 2, 3, 4, 5, 6, 7, 8, 9, 10] 11 mixed (by kernel_rfl) ?_
      simp [-List.map_append, del, delo, f0, fH, f3, fI, f4, fN, f5, f6, fC, n0, n0', m0, m0', m1, m1', c0, c0', c3, c3', c4, c4', hlN, hnm, encT, k3, k4, hw1]
      refine gall_intro fun i7 g7 => ?_
      have u_0 : ¬ i7 = 0 := fun e => by rw [e] at g7; simp [del, delo, f0, fH, f3, fI, f4, fN, f5, f6, fC, n0, n0', m0, m0', m1, m1', c0, c0', c3, c3', c4, c4'] at g7
      have v_0 : ¬ 0 = i7 := fun e => u_0 e.symm
      have u_i3 : ¬ i7 = i3 := fun e => by rw [e] at g7; simp [del, delo, f0, fH, f3, fI, f4, fN, f5, f6, fC, n0, n0', m0, m0', m1, m1', c0, c0', c3, c3', c4, c4'] at g7
      have v_i3 : ¬ i3 = i7 := fun e => u_i3 e.symm
      have u_i4 : ¬ i7 = i4 := fun e => by rw [e] at g7; simp [del, delo, f0, fH, f3, fI, f4, fN, f5, f6, fC, n0, n0', m0, m0', m1, m1', c0, c0', c3, c3', c4, c4'] at g7
      have v_i4 : ¬ i4 = i7 := fun e => u_i4 e.symm
      have u_c : ¬ i7 = c := fun e => by rw [e] at g7; simp [del, delo, f0, fH, f3, fI, f4, fN, f5, f6, fC, n0, n0', m0, m0', m1, m1', c0, c0', c3, c3', c4, c4'] at g7
      have v_c : ¬ c = i7 := fun e => u_c e.symm
      simp [-List.map_append, del, delo, f0, fH, f3, fI, f4, fN, f5, f6, fC, n0, n0', m0, m0', m1, m1', c0, c0', c3, c3', c4, c4', hlN, hnm, encT, k3, k4, hw1, u_0, v_0, u_i3, v_i3, u_i4, v_i4, u_c, v_c]
      refine gall_intro fun i8 g8 => ?_
      have y_0 : ¬ i8 = 0 := fun e => by rw [e] at g8; simp [del, delo, f0, fH, f3, fI, f4, fN, f5, f6, fC, n0, n0', m0, m0', m1, m1', c0, c0', c3, c3', c4, c4', u_0, v_0, u_i3, v_i3, u_i4, v_i4, u_c, v_c] at g8
      have z_0 : ¬ 0 = i8 := fun e => y_0 e.symm
      have y_i4 : ¬ i8 = i4 := fun e => by rw [e] at g8; simp [del, delo, f0, fH, f3, fI, f4, fN, f5, f6, fC, n0, n0', m0, m0', m1, m1', c0, c0', c3, c3', c4, c4', u_0, v_0, u_i3, v_i3, u_i4, v_i4, u_c, v_c] at g8
      have z_i4 : ¬ i4 = i8 := fun e => y_i4 e.symm
      simp [-List.map_append, del, delo, f0, fH, f3, fI, f4, fN, f5, f6, fC, n0, n0', m0, m0', m1, m1', c0, c0', c3, c3', c4, c4', hlN, hnm, encT, k3, k4, hw1, u_0, v_0, u_i3, v_i3, u_i4, v_i4, u_c, v_c, y_0, z_0, y_i4, z_i4]
      exact ⟨i - 1, by omega, p3, i8, l ++ [⟨nm, .mk yk ys yl⟩], by simp; omega, by simp; omega, fun x hx' => by rcases List.mem_append.1 hx' with h | h; exact hl x h; simp only [List.mem_singleton] at h; subst h; exact ⟨hy.sm, hnm2⟩, y_0, y_i4, rfl, by simp [encRule, encRex, y_0, z_0], by simp [encRule, encRex], rfl⟩
    · simp [f0, fH, f3, fI, f4, fN, f5, f6, fC]
      refine TWcH.regionD (ρ := []) [0, 1, 2, 3, 4, 5, 6, 7, 8, 9, 10] 11 mixed (by kernel_rfl) ?_
      simp [-List.map_append, del, delo, f0, fH, f3, fI, f4, fN, f5, f6, fC, n0, n0', m0, m0', m1, m1', c0, c0', c3, c3', c4, c4', hlN, hnm, encT, k3, k4, hw1]
      refine gall_intro fun i7 g7 => ?_
      have u_0 : ¬ i7 = 0 := fun e => by rw [e] at g7; simp [del, delo, f0, fH, f3, fI, f4, fN, f5, f6, fC, n0, n0', m0, m0', m1, m1', c0, c0', c3, c3', c4, c4'] at g7
      have v_0 : ¬ 0 = i7 := fun e => u_0 e.symm
      have u_i3 : ¬ i7 = i3 := fun e => by rw [e] at g7; simp [del, delo, f0, fH, f3, fI, f4, fN, f5, f6, fC, n0, n0', m0, m0', m1, m1', c0, c0', c3, c3', c4, c4'] at g7
      have v_i3 : ¬ i3 = i7 := fun e => u_i3 e.symm
      have u_i4 : ¬ i7 = i4 := fun e => by rw [e] at g7; simp [del, delo, f0, fH, f3, fI, f4, fN, f5, f6, fC, n0, n0', m0, m0', m1, m1', c0, c0', c3, c3', c4, c4'] at g7
      have v_i4 : ¬ i4 = i7 := fun e => u_i4 e.symm
      have u_c : ¬ i7 = c := fun e => by rw [e] at g7; simp [del, delo, f0, fH, f3, fI, f4, fN, f5, f6, fC, n0, n0', m0, m0', m1, m1', c0, c0', c3, c3', c4, c4'] at g7
      have v_c : ¬ c = i7 := fun e => u_c e.symm
      simp [-List.map_append, del, delo, f0, fH, f3, fI, f4, fN, f5, f6, fC, n0, n0', m0, m0', m1, m1', c0, c0', c3, c3', c4, c4', hlN, hnm, encT, k3, k4, hw1, u_0, v_0, u_i3, v_i3, u_i4, v_i4, u_c, v_c]
      refine gall_intro fun i8 g8 => ?_
      have y_0 : ¬ i8 = 0 := fun e => by rw [e] at g8; simp [del, delo, f0, fH, f3, fI, f4, fN, f5, f6, fC, n0, n0', m0, m0', m1, m1', c0, c0', c3, c3', c4, c4', u_0, v_0, u_i3, v_i3, u_i4, v_i4, u_c, v_c] at g8
      have z_0 : ¬ 0 = i8 := fun e => y_0 e.symm
      have y_i4 : ¬ i8 = i4 := fun e => by rw [e] at g8; simp [del, delo, f0, fH, f3, fI, f4, fN, f5, f6, fC, n0, n0', m0, m0', m1, m1', c0, c0', c3, c3', c4, c4', u_0, v_0, u_i3, v_i3, u_i4, v_i4, u_c, v_c] at g8
      have z_i4 : ¬ i4 = i8 := fun e => y_i4 e.symm
      simp [-List.map_append, del, delo, f0, fH, f3, fI, f4, fN, f5, f6, fC, n0, n0', m0, m0', m1, m1', c0, c0', c3, c3', c4, c4', hlN, hnm, encT, k3, k4, hw1, u_0, v_0, u_i3, v_i3, u_i4, v_i4, u_c, v_c, y_0, z_0, y_i4, z_i4]
      exact ⟨i - 1, by omega, p2, i8, l ++ [⟨nm, .mk 3 [] zl⟩], by simp; omega, by simp; omega, fun x hx' => by rcases List.mem_append.1 hx' with h | h; exact hl x h; simp only [List.mem_singleton] at h; subst h; exact ⟨hz, hnm2⟩, y_0, y_i4, rfl, by simp [encRule, encRex, y_0, z_0], by simp [encRule, encRex], rfl⟩
  · simp [h0, hH, h3, hI, h4, hN, h5, n0, n0', m0, m0', m1, m1', c0, c0', c3, c3', c4, c4', e1]
    refine TWoH.via (A := RulesF b (p1 + 1) i c i3 i4 xk xs xl (.ro (xs.map encSp)) l) (Turn.same (by simp [RulesF, h0, hH, h3, hI, h4, hN, h5, n0, n0', m0, m0', m1, m1', c0, c0', c3, c3', c4, c4'])) ?_
    rintro ⟨σ, H⟩ ⟨f0, fH, f3, fI, f4, fN, f5, f6, fC, f34⟩
    simp only at f0 fH f3 fI f4 fN f5 f6 fC f34
    refine TWoH.callV (tc_sRexOk (.mk xk xs xl) hx) callable_33 (by simp [f34, encRex, noHR_rex]) (by simp) (by simp) (by simp) ?_
    have hlN : l.length < RN.length := by simp [RN]; omega
    obtain ⟨nm, hnm⟩ : ∃ w, ∀ h, RN[l.length]'h = w := ⟨RN[l.length], fun _ => rfl⟩
    have hnm2 : nm ∈ RN := by rw [← hnm hlN]; exact List.getElem_mem hlN
    have k3 : (l.length + 1) * 72 ≤ 140737488355328 := by omega
    have k4 : l.length ≤ 9223372036854775806 := by omega
    cases cR : rexOk (.mk xk xs xl)
    · simp [f0, fH, f3, fI, f4, fN, f5, f6, fC]
      refine TWoH.lendR [0] (tcr_l2Leaf b (p1 + 1) hb (by omega)) callable_171 (by simp [f0, List.findIdx?_cons]) (by simp [fH]) (by simp) (by simp) ?_
      rintro r o ⟨y, p2, rfl, hy, hp2, rfl⟩
      refine ⟨by simp [rdr], by simp, .inl (by simp [f0, List.findIdx?_cons]), fun q hq => ?_⟩
      clear hq
      obtain ⟨yk, ys, yl⟩ := y
      simp [del, delo, f0, fH, f3, fI, f4, fN, f5, f6, fC, n0, n0', m0, m0', m1, m1', c0, c0', c3, c3', c4, c4', encRex]
      refine TWcH.regionD (ρ := []) [0, 1, 2, 3, 4, 5, 6, 7, 8, 9, 10] 11 mixed (by kernel_rfl) ?_
      simp [-List.map_append, del, delo, f0, fH, f3, fI, f4, fN, f5, f6, fC, n0, n0', m0, m0', m1, m1', c0, c0', c3, c3', c4, c4', hlN, hnm, encT, k3, k4, hw1]
      refine gall_intro fun i7 g7 => ?_
      have u_0 : ¬ i7 = 0 := fun e => by rw [e] at g7; simp [del, delo, f0, fH, f3, fI, f4, fN, f5, f6, fC, n0, n0', m0, m0', m1, m1', c0, c0', c3, c3', c4, c4'] at g7
      have v_0 : ¬ 0 = i7 := fun e => u_0 e.symm
      have u_i3 : ¬ i7 = i3 := fun e => by rw [e] at g7; simp [del, delo, f0, fH, f3, fI, f4, fN, f5, f6, fC, n0, n0', m0, m0', m1, m1', c0, c0', c3, c3', c4, c4'] at g7
      have v_i3 : ¬ i3 = i7 := fun e => u_i3 e.symm
      have u_i4 : ¬ i7 = i4 := fun e => by rw [e] at g7; simp [del, delo, f0, fH, f3, fI, f4, fN, f5, f6, fC, n0, n0', m0, m0', m1, m1', c0, c0', c3, c3', c4, c4'] at g7
      have v_i4 : ¬ i4 = i7 := fun e => u_i4 e.symm
      have u_c : ¬ i7 = c := fun e => by rw [e] at g7; simp [del, delo, f0, fH, f3, fI, f4, fN, f5, f6, fC, n0, n0', m0, m0', m1, m1', c0, c0', c3, c3', c4, c4'] at g7
      have v_c : ¬ c = i7 := fun e => u_c e.symm
      simp [-List.map_append, del, delo, f0, fH, f3, fI, f4, fN, f5, f6, fC, n0, n0', m0, m0', m1, m1', c0, c0', c3, c3', c4, c4', hlN, hnm, encT, k3, k4, hw1, u_0, v_0, u_i3, v_i3, u_i4, v_i4, u_c, v_c]
      refine gall_intro fun i8 g8 => ?_
      have y_0 : ¬ i8 = 0 := fun e => by rw [e] at g8; simp [del, delo, f0, fH, f3, fI, f4, fN, f5, f6, fC, n0, n0', m0, m0', m1, m1', c0, c0', c3, c3', c4, c4', u_0, v_0, u_i3, v_i3, u_i4, v_i4, u_c, v_c] at g8
      have z_0 : ¬ 0 = i8 := fun e => y_0 e.symm
      have y_i4 : ¬ i8 = i4 := fun e => by rw [e] at g8; simp [del, delo, f0, fH, f3, fI, f4, fN, f5, f6, fC, n0, n0', m0, m0', m1, m1', c0, c0', c3, c3', c4, c4', u_0, v_0, u_i3, v_i3, u_i4, v_i4, u_c, v_c] at g8
      have z_i4 : ¬ i4 = i8 := fun e => y_i4 e.symm
      simp [-List.map_append, del, delo, f0, fH, f3, fI, f4, fN, f5, f6, fC, n0, n0', m0, m0', m1, m1', c0, c0', c3, c3', c4, c4', hlN, hnm, encT, k3, k4, hw1, u_0, v_0, u_i3, v_i3, u_i4, v_i4, u_c, v_c, y_0, z_0, y_i4, z_i4]
      exact ⟨i - 1, by omega, p2, i8, l ++ [⟨nm, .mk yk ys yl⟩], by simp; omega, by simp; omega, fun x hx' => by rcases List.mem_append.1 hx' with h | h; exact hl x h; simp only [List.mem_singleton] at h; subst h; exact ⟨hy.sm, hnm2⟩, y_0, y_i4, rfl, by simp [encRule, encRex, y_0, z_0], by simp [encRule, encRex], rfl⟩
    · simp [f0, fH, f3, fI, f4, fN, f5, f6, fC]
      refine TWcH.regionD (ρ := []) [0, 1, 2, 3, 4, 5, 6, 7, 8, 9, 10] 11 mixed (by kernel_rfl) ?_
      simp [-List.map_append, del, delo, f0, fH, f3, fI, f4, fN, f5, f6, fC, n0, n0', m0, m0', m1, m1', c0, c0', c3, c3', c4, c4', hlN, hnm, encT, k3, k4, hw1]
      refine gall_intro fun i7 g7 => ?_
      have u_0 : ¬ i7 = 0 := fun e => by rw [e] at g7; simp [del, delo, f0, fH, f3, fI, f4, fN, f5, f6, fC, n0, n0', m0, m0', m1, m1', c0, c0', c3, c3', c4, c4'] at g7
      have v_0 : ¬ 0 = i7 := fun e => u_0 e.symm
      have u_i3 : ¬ i7 = i3 := fun e => by rw [e] at g7; simp [del, delo, f0, fH, f3, fI, f4, fN, f5, f6, fC, n0, n0', m0, m0', m1, m1', c0, c0', c3, c3', c4, c4'] at g7
      have v_i3 : ¬ i3 = i7 := fun e => u_i3 e.symm
      have u_i4 : ¬ i7 = i4 := fun e => by rw [e] at g7; simp [del, delo, f0, fH, f3, fI, f4, fN, f5, f6, fC, n0, n0', m0, m0', m1, m1', c0, c0', c3, c3', c4, c4'] at g7
      have v_i4 : ¬ i4 = i7 := fun e => u_i4 e.symm
      have u_c : ¬ i7 = c := fun e => by rw [e] at g7; simp [del, delo, f0, fH, f3, fI, f4, fN, f5, f6, fC, n0, n0', m0, m0', m1, m1', c0, c0', c3, c3', c4, c4'] at g7
      have v_c : ¬ c = i7 := fun e => u_c e.symm
      simp [-List.map_append, del, delo, f0, fH, f3, fI, f4, fN, f5, f6, fC, n0, n0', m0, m0', m1, m1', c0, c0', c3, c3', c4, c4', hlN, hnm, encT, k3, k4, hw1, u_0, v_0, u_i3, v_i3, u_i4, v_i4, u_c, v_c]
      refine gall_intro fun i8 g8 => ?_
      have y_0 : ¬ i8 = 0 := fun e => by rw [e] at g8; simp [del, delo, f0, fH, f3, fI, f4, fN, f5, f6, fC, n0, n0', m0, m0', m1, m1', c0, c0', c3, c3', c4, c4', u_0, v_0, u_i3, v_i3, u_i4, v_i4, u_c, v_c] at g8
      have z_0 : ¬ 0 = i8 := fun e => y_0 e.symm
      have y_i4 : ¬ i8 = i4 := fun e => by rw [e] at g8; simp [del, delo, f0, fH, f3, fI, f4, fN, f5, f6, fC, n0, n0', m0, m0', m1, m1', c0, c0', c3, c3', c4, c4', u_0, v_0, u_i3, v_i3, u_i4, v_i4, u_c, v_c] at g8
      have z_i4 : ¬ i4 = i8 := fun e => y_i4 e.symm
      simp [-List.map_append, del, delo, f0, fH, f3, fI, f4, fN, f5, f6, fC, n0, n0', m0, m0', m1, m1', c0, c0', c3, c3', c4, c4', hlN, hnm, encT, k3, k4, hw1, u_0, v_0, u_i3, v_i3, u_i4, v_i4, u_c, v_c, y_0, z_0, y_i4, z_i4]
      exact ⟨i - 1, by omega, p1 + 1, i8, l ++ [⟨nm, .mk xk xs xl⟩], by simp; omega, by simp; omega, fun x hx' => by rcases List.mem_append.1 hx' with h | h; exact hl x h; simp only [List.mem_singleton] at h; subst h; exact ⟨hx, hnm2⟩, y_0, y_i4, rfl, by simp [encRule, encRex, y_0, z_0], by simp [encRule, encRex], rfl⟩
end Go.Proofs.YtdomnlnanbekaaaGreatDoor.R

open Go Go.Proofs.YtdomnlnanbekaaaGreatDoor.T
namespace Go.Proofs.YtdomnlnanbekaaaGreatDoor.R
set_option maxHeartbeats 4000000
set_option maxRecDepth 100000
set_option linter.unusedSimpArgs false
set_option linter.unusedVariables false
attribute [local simp] bsV bsRows chunk fillT partsT appV makeV rowsOf cellsOf placeOf
/-- Whether it is so. -/
noncomputable def bP (p : Prop) : Bool := @decide p (Classical.propDecidable p)
theorem bP_pos {p : Prop} (h : p) : bP p = true := by unfold bP; simp [h]
theorem bP_neg {p : Prop} (h : ¬ p) : bP p = false := by unfold bP; simp [h]
@[simp] theorem bP_iff {p : Prop} : bP p = true ↔ p := by unfold bP; simp
theorem take_next {α : Type} {a b : List α} {i : Nat} (hi : i < a.length) (hj : i < b.length) (h : a.take i = b.take i) (he : a[i] = b[i]) : a.take (i + 1) = b.take (i + 1) := by
  rw [List.take_succ_eq_append_getElem hi, List.take_succ_eq_append_getElem hj, h, he]
theorem ne_at {α : Type} {a b : List α} {i : Nat} (hi : i < a.length) (hj : i < b.length) (he : ¬ a[i] = b[i]) : ¬ a = b := fun e => by subst e; exact he rfl
theorem take_all {α : Type} {a b : List α} {i : Nat} (hl : a.length = b.length) (hi : b.length ≤ i) (h : a.take i = b.take i) : a = b := by
  rwa [List.take_of_length_le (by omega), List.take_of_length_le hi] at h
theorem aggS (x y : Int × Int) : aggEq Tryz.prog 118 (encSp x) (encSp y) = some (decide (x.1 = y.1) && decide (x.2 = y.2)) := by
  simp [aggEq, eqFs, encSp]
  rfl
theorem aggT (x y : Tok) : aggEq Tryz.prog 134 (encTok x) (encTok y) = some (decide (x.1 = y.1) && (decide (x.2.1 = y.2.1) && decide (x.2.2 = y.2.2))) := by
  simp [aggEq, eqFs, encTok]
  rfl
theorem tc_sameSpan (a b : List (Int × Int)) (ha : a.length ≤ 1152921504606846976) (hb : b.length ≤ 1152921504606846976) : TC Tryz.prog 99 [.ro (a.map encSp), .ro (b.map encSp)] [] (.val (.bool (bP (a = b)))) [] := by
  refine TC.enter Tryz.func99 rfl (by simp [Tryz.ntmps99]) rfl (tw_sound (ρ := []) ?_)
  rw [Tryz.ntmps99]
  by_cases hlen : a.length = b.length
  case neg =>
    have h1 : ¬ (a.length : Int) = b.length := by omega
    have h2 : ¬ a = b := fun e => hlen (by rw [e])
    simp [h1, bP_neg h2]
  have h1 : (a.length : Int) = b.length := by omega
  simp [h1]
  refine TWcH.loop [] (fun m st => ∃ i : Nat, i + m = b.length ∧ a.take i = b.take i ∧ st.σ 0 = .ro (a.map encSp) ∧ st.σ 1 = .ro (b.map encSp) ∧ st.σ 12 = .val (.int .i64 b.length) ∧ st.σ 13 = .val (.int .i64 i)) b.length ⟨0, by simp⟩ ?_
  rintro m ⟨σ, H⟩ ⟨i, him, ht, h0, h1', h12, h5⟩
  simp only at h0 h1' h12 h5
  by_cases hi : i < b.length
  case neg =>
    have e : a = b := take_all hlen (by omega) ht
    have hi2 : ¬ i < a.length := by omega
    simp [h0, h1', h12, h5, hi, hi2, bP_pos e]
  have hi2 : i < a.length := by omega
  have hw : IntKind.i64.wrap ((i : Int) + 1) = i + 1 := wrapi (by omega)
  simp [h0, h1', h12, h5, hi, hi2]
  refine TWcH.regionD (ρ := []) [0, 1, 2, 3, 4, 5, 6, 7, 8] 9 mixed (by kernel_rfl) ?_
  simp [h0, h1', h12, h5, hi, hi2, getI hi, getI hi2, aggS]
  refine gif_intro (fun c => ?_) (fun c => ?_)
  · have e : ¬ a = b := ne_at hi2 hi fun e => by rw [e] at c; simp at c
    simp [h0, h1', h12, h5, hi, hi2, bP_neg e]
  · have e : a[i] = b[i] := by
      simp only [not_or, Decidable.not_not] at c
      exact Prod.ext c.1 c.2
    simp [h0, h1', h12, h5, hi, hi2, hw]
    exact ⟨m - 1, by omega, i + 1, by omega, take_next hi2 hi ht e, by omega⟩
theorem tc_sSetSame (a b : List (Int × Int)) (ha : a.length ≤ 1152921504606846976) (hb : b.length ≤ 1152921504606846976) : TC Tryz.prog 186 [.ro (a.map encSp), .ro (b.map encSp)] [] (.val (.bool (bP (a = b)))) [] := by
  refine TC.enter Tryz.func186 rfl (by simp [Tryz.ntmps186]) rfl (tw_sound (ρ := []) ?_)
  rw [Tryz.ntmps186]
  by_cases hlen : a.length = b.length
  case neg =>
    have h1 : ¬ (a.length : Int) = b.length := by omega
    have h2 : ¬ a = b := fun e => hlen (by rw [e])
    simp [h1, bP_neg h2]
  have h1 : (a.length : Int) = b.length := by omega
  simp [h1]
  refine TWcH.loop [] (fun m st => ∃ i : Nat, i + m = b.length ∧ a.take i = b.take i ∧ st.σ 0 = .ro (a.map encSp) ∧ st.σ 1 = .ro (b.map encSp) ∧ st.σ 5 = .val (.int .i64 i)) b.length ⟨0, by simp⟩ ?_
  rintro m ⟨σ, H⟩ ⟨i, him, ht, h0, h1', h5⟩
  simp only at h0 h1' h5
  by_cases hi : i < b.length
  case neg =>
    have e : a = b := take_all hlen (by omega) ht
    have hi2 : ¬ i < a.length := by omega
    simp [h0, h1', h5, hi, hi2, bP_pos e]
  have hi2 : i < a.length := by omega
  have hw : IntKind.i64.wrap ((i : Int) + 1) = i + 1 := wrapi (by omega)
  simp [h0, h1', h5, hi, hi2]
  refine TWcH.regionD (ρ := []) [0, 1, 2, 3, 4, 5, 6, 7, 8] 9 mixed (by kernel_rfl) ?_
  simp [h0, h1', h5, hi, hi2, getI hi, getI hi2, aggS]
  refine gif_intro (fun c => ?_) (fun c => ?_)
  · have e : ¬ a = b := ne_at hi2 hi fun e => by rw [e] at c; simp at c
    simp [h0, h1', h5, hi, hi2, bP_neg e]
  · have e : a[i] = b[i] := by
      simp only [not_or, Decidable.not_not] at c
      exact Prod.ext c.1 c.2
    simp [h0, h1', h5, hi, hi2, hw]
    exact ⟨m - 1, by omega, i + 1, by omega, take_next hi2 hi ht e, by omega⟩
theorem tc_sameTok (a b : List Tok) (ha : a.length ≤ 1152921504606846976) (hb : b.length ≤ 1152921504606846976) : TC Tryz.prog 123 [.ro (a.map encTok), .ro (b.map encTok)] [] (.val (.bool (bP (a = b)))) [] := by
  refine TC.enter Tryz.func123 rfl (by simp [Tryz.ntmps123]) rfl (tw_sound (ρ := []) ?_)
  rw [Tryz.ntmps123]
  by_cases hlen : a.length = b.length
  case neg =>
    have h1 : ¬ (a.length : Int) = b.length := by omega
    have h2 : ¬ a = b := fun e => hlen (by rw [e])
    simp [h1, bP_neg h2]
  have h1 : (a.length : Int) = b.length := by omega
  simp [h1]
  refine TWcH.loop [] (fun m st => ∃ i : Nat, i + m = b.length ∧ a.take i = b.take i ∧ st.σ 0 = .ro (a.map encTok) ∧ st.σ 1 = .ro (b.map encTok) ∧ st.σ 12 = .val (.int .i64 b.length) ∧ st.σ 13 = .val (.int .i64 i)) b.length ⟨0, by simp⟩ ?_
  rintro m ⟨σ, H⟩ ⟨i, him, ht, h0, h1', h12, h5⟩
  simp only at h0 h1' h12 h5
  by_cases hi : i < b.length
  case neg =>
    have e : a = b := take_all hlen (by omega) ht
    have hi2 : ¬ i < a.length := by omega
    simp [h0, h1', h12, h5, hi, hi2, bP_pos e]
  have hi2 : i < a.length := by omega
  have hw : IntKind.i64.wrap ((i : Int) + 1) = i + 1 := wrapi (by omega)
  simp [h0, h1', h12, h5, hi, hi2]
  refine TWcH.regionD (ρ := []) [0, 1, 2, 3, 4, 5, 6, 7, 8] 9 mixed (by kernel_rfl) ?_
  simp [h0, h1', h12, h5, hi, hi2, getI hi, getI hi2, aggT]
  refine gif_intro (fun c => ?_) (fun c => ?_)
  · have e : ¬ a = b := ne_at hi2 hi fun e => by rw [e] at c; simp at c
    simp [h0, h1', h12, h5, hi, hi2, bP_neg e]
  · have e : a[i] = b[i] := by
      simp only [not_or, Decidable.not_not] at c
      exact Prod.ext c.1 (Prod.ext c.2.1 c.2.2)
    simp [h0, h1', h12, h5, hi, hi2, hw]
    exact ⟨m - 1, by omega, i + 1, by omega, take_next hi2 hi ht e, by omega⟩
theorem tc_iLexSame (a b : List Tok) (ha : a.length ≤ 1152921504606846976) (hb : b.length ≤ 1152921504606846976) : TC Tryz.prog 57 [.ro (a.map encTok), .ro (b.map encTok)] [] (.val (.bool (bP (a = b)))) [] := by
  refine TC.enter Tryz.func57 rfl (by simp [Tryz.ntmps57]) rfl (tw_sound (ρ := []) ?_)
  rw [Tryz.ntmps57]
  simp
  refine TWoH.callV (tc_sameTok a b ha hb) callable_123 (by simp) (by simp) (by simp) (by simp) ?_
  simp
end Go.Proofs.YtdomnlnanbekaaaGreatDoor.R

open Go Go.Proofs.YtdomnlnanbekaaaGreatDoor.T
namespace Go.Proofs.YtdomnlnanbekaaaGreatDoor.R
set_option maxHeartbeats 4000000
set_option maxRecDepth 100000
set_option linter.unusedSimpArgs false
set_option linter.unusedVariables false
attribute [local simp] bsV bsRows chunk fillT partsT appV makeV rowsOf cellsOf placeOf
theorem SmL_at : ∀ {l : List Rex}, SmL l → ∀ i (h : i < l.length), Sm l[i]
  | r :: l, hs, 0, _ => hs.1
  | r :: l, hs, i + 1, h => by
    simp only [List.getElem_cons_succ]
    exact SmL_at hs.2 i (by simpa using h)
theorem tc_iRexSame0 (k k2 : Int) (s s2 : List (Int × Int)) (l l2 : List Rex) (hs : Sm (.mk k s l)) (hs2 : Sm (.mk k2 s2 l2)) (ih : ∀ i (h : i < l.length) (b : Rex), Sm b → TC Tryz.prog 31 [.agg (encRex l[i]), .agg (encRex b)] [] (.val (.bool (bP (l[i] = b)))) []) :
    TC Tryz.prog 31 [.agg (encRex (.mk k s l)), .agg (encRex (.mk k2 s2 l2))] [] (.val (.bool (bP (Rex.mk k s l = .mk k2 s2 l2)))) [] := by
  have q1 := hs.1
  have q2 := hs2.1
  have q3 := hs.2.1
  have q4 := hs2.2.1
  refine TC.enter Tryz.func31 rfl (by simp [Tryz.ntmps31]) rfl (tw_sound (ρ := [2, 3]) ?_)
  rw [Tryz.ntmps31]
  obtain ⟨R, hR⟩ : ∃ R, bP (Rex.mk k s l = .mk k2 s2 l2) = R := ⟨_, rfl⟩
  have hT : k = k2 → s = s2 → l = l2 → R = true := fun a b c => by rw [← hR]; exact bP_pos (by rw [a, b, c])
  have hF : ¬ (k = k2 ∧ s = s2 ∧ l = l2) → R = false := fun h => by rw [← hR]; exact bP_neg fun e => h (by injection e with a b c; exact ⟨a, b, c⟩)
  rw [hR]
  clear hR
  by_cases hk : k = k2
  case neg =>
    have h2 := hF fun e => hk e.1
    simp [encRex, encRexL_eq, hk, h2]
  simp [encRex, encRexL_eq, hk]
  refine TWoH.callV (tc_sameSpan s s2 (by omega) (by omega)) callable_99 (by simp) (by simp) (by simp) (by simp) ?_
  by_cases hss : s = s2
  case neg =>
    have h2 := hF fun e => hss e.2.1
    simp [hk, bP_neg hss, h2]
  by_cases hlen : l.length = l2.length
  case neg =>
    have h1 : ¬ (l.length : Int) = l2.length := by omega
    have h2 := hF fun e => hlen (by rw [e.2.2])
    simp [hk, bP_pos hss, h1, h2]
  have h1 : (l.length : Int) = l2.length := by omega
  simp [hk, bP_pos hss, h1]
  refine TWcH.loop [2, 3] (fun m st => ∃ i : Nat, i + m = l2.length ∧ l.take i = l2.take i ∧ st.σ 2 = .rptr [.val (.int .i64 k2), .ro (s.map encSp), .ro (l.map encRex)] 0 ∧ st.σ 3 = .rptr [.val (.int .i64 k2), .ro (s2.map encSp), .ro (l2.map encRex)] 0 ∧ st.σ 30 = .val (.int .i64 l2.length) ∧ st.σ 31 = .val (.int .i64 i)) l2.length ⟨0, by simp⟩ ?_
  rintro m ⟨σ, H⟩ ⟨i, him, ht, h0, h1', h30, h5⟩
  simp only at h0 h1' h30 h5
  by_cases hi : i < l2.length
  case neg =>
    have e : l = l2 := take_all hlen (by omega) ht
    have hi2 : ¬ i < l.length := by omega
    have e2 := hT hk hss e
    simp [h0, h1', h30, h5, hi, hi2, e2]
  have hi2 : i < l.length := by omega
  have hw : IntKind.i64.wrap ((i : Int) + 1) = i + 1 := wrapi (by omega)
  simp [h0, h1', h30, h5, hi, hi2]
  refine TWcH.regionD (ρ := [2, 3]) [0, 1, 2, 3, 4, 5, 6, 7, 8, 9, 10, 11] 12 mixed (by kernel_rfl) ?_
  simp [h0, h1', h30, h5, hi, hi2, getI hi, getI hi2]
  refine TWqH.callV (ih i hi2 l2[i] (SmL_at hs2.2.2 i hi)) callable_31 (by simp [h0, h1', h30, h5]) (by simp) (by simp) (by simp) ?_
  by_cases c : l[i] = l2[i]
  · simp [h0, h1', h30, h5, hi, hi2, hw, bP_pos c]
    exact ⟨m - 1, by omega, i + 1, by omega, take_next hi2 hi ht c, by omega⟩
  · have e := hF fun e => ne_at hi2 hi c e.2.2
    simp [h0, h1', h30, h5, hi, hi2, e, bP_neg c]
mutual
theorem tc_iRexSame : ∀ (a b : Rex), Sm a → Sm b → TC Tryz.prog 31 [.agg (encRex a), .agg (encRex b)] [] (.val (.bool (bP (a = b)))) []
  | .mk k s l, .mk k2 s2 l2, hs, hs2 => tc_iRexSame0 k k2 s s2 l l2 hs hs2 fun i h b hb => tc_iRexSameL l hs.2.2 i h b hb
theorem tc_iRexSameL : ∀ (l : List Rex), SmL l → ∀ i (h : i < l.length) (b : Rex), Sm b → TC Tryz.prog 31 [.agg (encRex l[i]), .agg (encRex b)] [] (.val (.bool (bP (l[i] = b)))) []
  | r :: l, hs, 0, _, b, hb => tc_iRexSame r b hs.1 hb
  | r :: l, hs, i + 1, h, b, hb => by
    simp only [List.getElem_cons_succ]
    exact tc_iRexSameL l hs.2 i (by simpa using h) b hb
end
theorem tc_sRexSame0 (k k2 : Int) (s s2 : List (Int × Int)) (l l2 : List Rex) (hs : Sm (.mk k s l)) (hs2 : Sm (.mk k2 s2 l2)) (ih : ∀ i (h : i < l.length) (b : Rex), Sm b → TC Tryz.prog 165 [.agg (encRex l[i]), .agg (encRex b)] [] (.val (.bool (bP (l[i] = b)))) []) :
    TC Tryz.prog 165 [.agg (encRex (.mk k s l)), .agg (encRex (.mk k2 s2 l2))] [] (.val (.bool (bP (Rex.mk k s l = .mk k2 s2 l2)))) [] := by
  have q1 := hs.1
  have q2 := hs2.1
  have q3 := hs.2.1
  have q4 := hs2.2.1
  refine TC.enter Tryz.func165 rfl (by simp [Tryz.ntmps165]) rfl (tw_sound (ρ := [2, 3]) ?_)
  rw [Tryz.ntmps165]
  obtain ⟨R, hR⟩ : ∃ R, bP (Rex.mk k s l = .mk k2 s2 l2) = R := ⟨_, rfl⟩
  have hT : k = k2 → s = s2 → l = l2 → R = true := fun a b c => by rw [← hR]; exact bP_pos (by rw [a, b, c])
  have hF : ¬ (k = k2 ∧ s = s2 ∧ l = l2) → R = false := fun h => by rw [← hR]; exact bP_neg fun e => h (by injection e with a b c; exact ⟨a, b, c⟩)
  rw [hR]
  clear hR
  by_cases hk : k = k2
  case neg =>
    have h2 := hF fun e => hk e.1
    simp [encRex, encRexL_eq, hk, h2]
  simp [encRex, encRexL_eq, hk]
  refine TWoH.callV (tc_sSetSame s s2 (by omega) (by omega)) callable_186 (by simp) (by simp) (by simp) (by simp) ?_
  by_cases hss : s = s2
  case neg =>
    have h2 := hF fun e => hss e.2.1
    simp [hk, bP_neg hss, h2]
  by_cases hlen : l.length = l2.length
  case neg =>
    have h1 : ¬ (l.length : Int) = l2.length := by omega
    have h2 := hF fun e => hlen (by rw [e.2.2])
    simp [hk, bP_pos hss, h1, h2]
  have h1 : (l.length : Int) = l2.length := by omega
  simp [hk, bP_pos hss, h1]
  refine TWcH.loop [2, 3] (fun m st => ∃ i : Nat, i + m = l2.length ∧ l.take i = l2.take i ∧ st.σ 2 = .rptr [.val (.int .i64 k2), .ro (s.map encSp), .ro (l.map encRex)] 0 ∧ st.σ 3 = .rptr [.val (.int .i64 k2), .ro (s2.map encSp), .ro (l2.map encRex)] 0 ∧ st.σ 5 = .val (.int .i64 i)) l2.length ⟨0, by simp⟩ ?_
  rintro m ⟨σ, H⟩ ⟨i, him, ht, h0, h1', h5⟩
  simp only at h0 h1' h5
  by_cases hi : i < l2.length
  case neg =>
    have e : l = l2 := take_all hlen (by omega) ht
    have hi2 : ¬ i < l.length := by omega
    have e2 := hT hk hss e
    simp [h0, h1', h5, hi, hi2, e2]
  have hi2 : i < l.length := by omega
  have hw : IntKind.i64.wrap ((i : Int) + 1) = i + 1 := wrapi (by omega)
  simp [h0, h1', h5, hi, hi2]
  refine TWcH.regionD (ρ := [2, 3]) [0, 1, 2, 3, 4, 5, 6, 7, 8, 9, 10, 11] 12 mixed (by kernel_rfl) ?_
  simp [h0, h1', h5, hi, hi2, getI hi, getI hi2]
  refine TWqH.callV (ih i hi2 l2[i] (SmL_at hs2.2.2 i hi)) callable_165 (by simp [h0, h1', h5]) (by simp) (by simp) (by simp) ?_
  by_cases c : l[i] = l2[i]
  · simp [h0, h1', h5, hi, hi2, hw, bP_pos c]
    exact ⟨m - 1, by omega, i + 1, by omega, take_next hi2 hi ht c, by omega⟩
  · have e := hF fun e => ne_at hi2 hi c e.2.2
    simp [h0, h1', h5, hi, hi2, e, bP_neg c]
mutual
theorem tc_sRexSame : ∀ (a b : Rex), Sm a → Sm b → TC Tryz.prog 165 [.agg (encRex a), .agg (encRex b)] [] (.val (.bool (bP (a = b)))) []
  | .mk k s l, .mk k2 s2 l2, hs, hs2 => tc_sRexSame0 k k2 s s2 l l2 hs hs2 fun i h b hb => tc_sRexSameL l hs.2.2 i h b hb
theorem tc_sRexSameL : ∀ (l : List Rex), SmL l → ∀ i (h : i < l.length) (b : Rex), Sm b → TC Tryz.prog 165 [.agg (encRex l[i]), .agg (encRex b)] [] (.val (.bool (bP (l[i] = b)))) []
  | r :: l, hs, 0, _, b, hb => tc_sRexSame r b hs.1 hb
  | r :: l, hs, i + 1, h, b, hb => by
    simp only [List.getElem_cons_succ]
    exact tc_sRexSameL l hs.2 i (by simpa using h) b hb
end
end Go.Proofs.YtdomnlnanbekaaaGreatDoor.R

open Go Go.Proofs.YtdomnlnanbekaaaGreatDoor.T
namespace Go.Proofs.YtdomnlnanbekaaaGreatDoor.R
set_option maxHeartbeats 4000000
set_option maxRecDepth 100000
set_option linter.unusedSimpArgs false
set_option linter.unusedVariables false
attribute [local simp] bsV bsRows chunk fillT partsT appV makeV rowsOf cellsOf placeOf
theorem tc_eq42 (l : List Int) (hl : l.length ≤ 1152921504606846976) : TC Tryz.prog 83 [.ro (l.map encIn), .ro (l.map encIn)] [] (.val (.bool true)) [] := by
  refine TC.enter Tryz.func83 rfl (by simp [Tryz.ntmps83]) rfl (tw_sound (ρ := []) ?_)
  rw [Tryz.ntmps83]
  simp
  refine TWcH.loop [] (fun m s => ∃ i, i + m = l.length ∧ s.σ 0 = .ro (l.map encIn) ∧ s.σ 1 = .ro (l.map encIn) ∧ s.σ 5 = .val (.int .i64 i)) l.length ⟨0, by simp⟩ ?_
  rintro m ⟨σ, H⟩ ⟨i, him, h0, h1, h5⟩
  simp only at h0 h1 h5
  by_cases hi : i < l.length
  · have hw := hw1 hi hl
    simp [h0, h1, h5, hi]
    refine TWcH.regionD (ρ := []) [0, 1, 2, 3, 4, 5, 6, 7, 8] 9 mixed (by kernel_rfl) ?_
    simp [h0, h1, h5, hi, getI hi, encIn, hw, isBoolT]
    exact ⟨m - 1, by omega, i + 1, by omega, by omega⟩
  · simp [h0, h1, h5, hi]
theorem tc_eq61 (l : List (List (Int × Int))) (hl : l.length ≤ 1152921504606846976) (hs : ∀ x ∈ l, x.length ≤ 1152921504606846976) : TC Tryz.prog 81 [.ro (l.map encP), .ro (l.map encP)] [] (.val (.bool true)) [] := by
  refine TC.enter Tryz.func81 rfl (by simp [Tryz.ntmps81]) rfl (tw_sound (ρ := []) ?_)
  rw [Tryz.ntmps81]
  simp
  refine TWcH.loop [] (fun m s => ∃ i, i + m = l.length ∧ s.σ 0 = .ro (l.map encP) ∧ s.σ 1 = .ro (l.map encP) ∧ s.σ 5 = .val (.int .i64 i)) l.length ⟨0, by simp⟩ ?_
  rintro m ⟨σ, H⟩ ⟨i, him, h0, h1, h5⟩
  simp only at h0 h1 h5
  by_cases hi : i < l.length
  · have hw := hw1 hi hl
    simp [h0, h1, h5, hi]
    refine TWcH.regionD (ρ := []) [0, 1, 2, 3, 4, 5, 6, 7, 8, 9] 10 mixed (by kernel_rfl) ?_
    simp [h0, h1, h5, hi, getI hi, encP]
    refine TWqH.callV (tc_eqSpanS l[i] (hs _ (List.getElem_mem hi))) callable_118 (by simp) (by simp) (by simp) (by simp) ?_
    simp [h0, h1, h5, hi, hw]
    exact ⟨m - 1, by omega, i + 1, by omega, by omega⟩
  · simp [h0, h1, h5, hi]
theorem tc_eq62 (l : List (List Int)) (hl : l.length ≤ 1152921504606846976) (hs : ∀ x ∈ l, x.length ≤ 1152921504606846976) : TC Tryz.prog 82 [.ro (l.map encR), .ro (l.map encR)] [] (.val (.bool true)) [] := by
  refine TC.enter Tryz.func82 rfl (by simp [Tryz.ntmps82]) rfl (tw_sound (ρ := []) ?_)
  rw [Tryz.ntmps82]
  simp
  refine TWcH.loop [] (fun m s => ∃ i, i + m = l.length ∧ s.σ 0 = .ro (l.map encR) ∧ s.σ 1 = .ro (l.map encR) ∧ s.σ 5 = .val (.int .i64 i)) l.length ⟨0, by simp⟩ ?_
  rintro m ⟨σ, H⟩ ⟨i, him, h0, h1, h5⟩
  simp only at h0 h1 h5
  by_cases hi : i < l.length
  · have hw := hw1 hi hl
    simp [h0, h1, h5, hi]
    refine TWcH.regionD (ρ := []) [0, 1, 2, 3, 4, 5, 6, 7, 8, 9] 10 mixed (by kernel_rfl) ?_
    simp [h0, h1, h5, hi, getI hi, encR]
    refine TWqH.callV (tc_eq42 l[i] (hs _ (List.getElem_mem hi))) callable_83 (by simp) (by simp) (by simp) (by simp) ?_
    simp [h0, h1, h5, hi, hw]
    exact ⟨m - 1, by omega, i + 1, by omega, by omega⟩
  · simp [h0, h1, h5, hi]
theorem tc_eqDfa (d : Dfa) (hs : DSm d) : TC Tryz.prog 21 [.agg (encDfa d), .agg (encDfa d)] [] (.val (.bool true)) [] := by
  have e1 := tc_eq61 d.parts (by have := hs.parts; omega) (fun x hx => by have := hs.part x hx; omega)
  have e2 := tc_eq62 d.rows (by have := hs.rows; omega) (fun x hx => by have := hs.row x hx; omega)
  have e3 := tc_eq42 d.acc (by have := hs.acc; omega)
  refine TC.enter Tryz.func21 rfl (by simp [Tryz.ntmps21]) rfl (tw_sound (ρ := [2, 3]) ?_)
  rw [Tryz.ntmps21]
  simp [encDfa]
  refine TWoH.callV e1 callable_81 (by simp) (by simp) (by simp) (by simp) ?_
  simp
  refine TWoH.callV e2 callable_82 (by simp) (by simp) (by simp) (by simp) ?_
  simp
  refine TWoH.callV e3 callable_83 (by simp) (by simp) (by simp) (by simp) ?_
  simp
/-- Numbers from k on. -/
def mkInts (k : Int) (n : Nat) : List Int := (List.range n).map fun (i : Nat) => k + (i : Int)
@[simp] theorem mkInts_len (k : Int) (n : Nat) : (mkInts k n).length = n := by simp [mkInts]
theorem mkInts_at {k : Int} {n i : Nat} (h : i < n) : (mkInts k n)[i]? = some (k + i) := by simp [mkInts, h]
def mkBools (k : Int) (n : Nat) : List Bool := (List.range n).map fun (i : Nat) => decide ((k + (i : Int)) % 3 = 0)
@[simp] theorem mkBools_len (k : Int) (n : Nat) : (mkBools k n).length = n := by simp [mkBools]
theorem mkBools_at {k : Int} {n i : Nat} (h : i < n) : (mkBools k n)[i]? = some (decide ((k + (i : Int)) % 3 = 0)) := by simp [mkBools, h]
theorem tc_mark43 (l : List Int) (k : Int) (h0 : 0 ≤ k) (hk : k + l.length ≤ 1152921504606846976) : TC Tryz.prog 89 [.hd 0, .val (.int .i64 k)] [.own 3 (l.map encIn)] (.val (.int .i64 (k + l.length))) [.own 3 ((mkInts k l.length).map encIn)] := by
  refine TC.enter Tryz.func89 rfl (by simp [Tryz.ntmps89]) rfl (tw_sound (ρ := []) ?_)
  rw [Tryz.ntmps89]
  simp
  refine TWcH.loop [] (fun m s => ∃ i : Nat, i + m = l.length ∧ s.σ 0 = .hd 0 ∧ s.σ 1 = .val (.int .i64 (k + i)) ∧ s.σ 5 = .val (.int .i64 i) ∧ s.H 0 = some (.own 3 (mix ((mkInts k l.length).map encIn) (l.map encIn) i))) l.length ⟨0, by simp⟩ ?_
  rintro m ⟨σ, H⟩ ⟨i, him, g0, g1, g5, gH⟩
  simp only at g0 g1 g5 gH
  by_cases hi : i < l.length
  · have hw := hw1 hi (by omega)
    have e1 : IntKind.i64.wrap (k + i + 1) = k + i + 1 := wrapi (by omega)
    have em : (k + (i : Int)).tmod 3 = (k + (i : Int)) % 3 := Int.tmod_eq_emod_of_nonneg (by omega)
    have hat := mix_at' (A := (mkInts k l.length).map encIn) (B := l.map encIn) (i := i) (by simp) (by simpa using hi)
    simp only [List.getElem_map] at hat
    have hln : (mix ((mkInts k l.length).map encIn) (l.map encIn) i).length = l.length := by rw [mix_len (by simp) (by simp; omega)]; simp
    have hset := mix_set (A := (mkInts k l.length).map encIn) (B := l.map encIn) (i := i) (by simp) (by simpa using hi) (x := encIn (k + (i : Int))) (by rw [List.getElem?_map, mkInts_at hi]; rfl)
    simp only [encIn] at hset hat
    simp [g0, g1, g5, gH, hi, hw, e1, em, hat, hln, hset]
    exact ⟨m - 1, by omega, i + 1, by omega, by omega, by omega, by simp⟩
  · obtain rfl : i = l.length := by omega
    rw [mix_all (by simp) (by simp)] at gH
    simp [g0, g1, g5, gH]
    exact ⟨_, _, ⟨rfl, rfl⟩, rfl, by simp, by simp [gH]⟩
theorem tc_held44 (n : Nat) (k : Int) (h0 : 0 ≤ k) (hk : k + n ≤ 1152921504606846976) : TC Tryz.prog 92 [.ro ((mkInts k n).map encIn), .val (.int .i64 k)] [] (.val (.int .i64 (k + n))) [] := by
  refine TC.enter Tryz.func92 rfl (by simp [Tryz.ntmps92]) rfl (tw_sound (ρ := []) ?_)
  rw [Tryz.ntmps92]
  simp
  refine TWcH.loop [] (fun m s => ∃ i : Nat, i + m = n ∧ s.σ 0 = .ro ((mkInts k n).map encIn) ∧ s.σ 1 = .val (.int .i64 (k + i)) ∧ s.σ 5 = .val (.int .i64 i)) n ⟨0, by simp⟩ ?_
  rintro m ⟨σ, H⟩ ⟨i, him, g0, g1, g5⟩
  simp only at g0 g1 g5
  by_cases hi : i < n
  · have hw : IntKind.i64.wrap ((i : Int) + 1) = i + 1 := wrapi (by omega)
    have e1 : IntKind.i64.wrap (k + i + 1) = k + i + 1 := wrapi (by omega)
    have em : (k + (i : Int)).tmod 3 = (k + (i : Int)) % 3 := Int.tmod_eq_emod_of_nonneg (by omega)
    have hat : ∀ h, (mkInts k n)[i]'h = k + (i : Int) := fun h => by simp [mkInts]
    simp [g0, g1, g5, hi, hw, e1, em, hat, encIn, isBoolT]
    exact ⟨m - 1, by omega, i + 1, by omega, by omega, by omega⟩
  · obtain rfl : i = n := by omega
    simp [g0, g1, g5]
def sumL {α : Type _} : List (List α) → Nat
  | [] => 0
  | x :: l => x.length + sumL l
theorem sumL_drop {α : Type _} {l : List (List α)} {i : Nat} (h : i < l.length) : sumL (l.drop i) = l[i].length + sumL (l.drop (i + 1)) := by
  conv => lhs; rw [List.drop_eq_getElem_cons h]
  rw [sumL]
theorem sumL_get {α : Type _} {l : List (List α)} {i : Nat} (h : i < l.length) : l[i].length ≤ sumL l := by
  induction l generalizing i with
  | nil => simp at h
  | cons r l ih =>
    cases i with
    | zero => simp [sumL]
    | succ i => simp only [List.getElem_cons_succ, sumL]; have := ih (i := i) (by simpa using h); omega
theorem tcr_mark83 (l : List (List (Int × Int))) (k : Int) (h0 : 0 ≤ k) (hk : k + 2 * sumL l ≤ 1152921504606846976) (hl : l.length ≤ 1048576) : TCR Tryz.prog 87 [.hd 0, .val (.int .i64 k)] [.own 34 (l.map oP)] (fun r o => r = .val (.int .i64 (k + 2 * sumL l)) ∧ ∃ l' : List (List (Int × Int)), o = [.own 34 (l'.map oP)]) := by
  refine TCR.enter Tryz.func87 rfl (by simp [Tryz.ntmps87]) rfl (tw_sound (ρ := []) ?_)
  rw [Tryz.ntmps87]
  simp
  refine TWcH.loopS [] (fun m s => ∃ (i : Nat) (l' : List (List (Int × Int))) (a : Int), i + m = l.length ∧ l'.length = l.length ∧ (∀ j, i ≤ j → l'[j]? = l[j]?) ∧ s.σ 0 = .hd 0 ∧ s.σ 1 = .val (.int .i64 a) ∧ s.σ 5 = .val (.int .i64 i) ∧ s.H 0 = some (.own 34 (l'.map oP)) ∧ k ≤ a ∧ a + 2 * sumL (l.drop i) = k + 2 * sumL l) l.length ⟨0, l, k, by simp⟩ ?_
  rintro m ⟨σ, H⟩ ⟨i, l', a, him, hl', hsame, g0, g1, g5, gH, ha0, ha1⟩
  simp only at g0 g1 g5 gH
  by_cases hi : i < l.length
  · have hw : IntKind.i64.wrap ((i : Int) + 1) = i + 1 := wrapi (by omega)
    have hi' : i < l'.length := by omega
    rw [sumL_drop hi] at ha1
    have hli := hsame i (Nat.le_refl _)
    rw [getI hi] at hli
    generalize hx : l[i] = x at hli ha1
    refine TWc.unfold1 (E1 := 118) (rows1 := x.map encSp) (c1 := 0) (row := oP x) gH (by rw [List.getElem?_map, hli]; rfl) (by simp [oP]) fun k1 H' n1 d1 eH e1 e3 => ?_
    simp only at n1 eH e1 e3
    refine tw_sound (ρ := []) ?_
    have hd1 : ¬ k1 = 0 := fun e => d1 e.symm
    simp [g0, g1, g5, eH, hi, hi', hl', oP]
    refine TWoH.lendR [k1] (tcr_markSpanS x a (by omega) (by omega)) callable_86 (by simp) (by simp [e1, d1, hd1]) (by simp) (by simp) ?_
    rintro r o ⟨rfl, s', rfl⟩
    refine ⟨by simp, by simp, .inl (by simp), fun q hq => ?_⟩
    simp [g0, g1, g5, eH, e1, hi, hi', hl', oP, d1, hd1, hw]
    refine ⟨m - 1, by omega, _, Shift.fold1x 0 k1 34 i 0 ((l'.map oP).set i [.hd k1]) [.hd k1] (.own 118 (s'.map encSp)) d1 (by simp [hd1, d1, eH, oP]) (by simp [hi']) (by simp) (by simp [hd1, d1]), i + 1, by omega, l'.set i s', by simp [hl'], ?_, ?_⟩
    · intro j hj
      rw [List.getElem?_set_ne (by omega)]
      exact hsame j (by omega)
    · simp [g0, g5, hw, List.map_set, oP]
      omega
  · obtain rfl : i = l.length := by omega
    refine tw_sound (ρ := []) ?_
    simp [sumL] at ha1
    simp [g0, g1, g5, gH, hl']
    exact ⟨_, _, ⟨rfl, rfl⟩, by simp, by simp [gH], by simp; omega, ⟨l', by simp [gH]⟩⟩
theorem tcr_mark84 (l : List (List Int)) (k : Int) (h0 : 0 ≤ k) (hk : k + 1 * sumL l ≤ 1152921504606846976) (hl : l.length ≤ 1048576) : TCR Tryz.prog 88 [.hd 0, .val (.int .i64 k)] [.own 27 (l.map oR)] (fun r o => r = .val (.int .i64 (k + 1 * sumL l)) ∧ ∃ l' : List (List Int), o = [.own 27 (l'.map oR)]) := by
  refine TCR.enter Tryz.func88 rfl (by simp [Tryz.ntmps88]) rfl (tw_sound (ρ := []) ?_)
  rw [Tryz.ntmps88]
  simp
  refine TWcH.loopS [] (fun m s => ∃ (i : Nat) (l' : List (List Int)) (a : Int), i + m = l.length ∧ l'.length = l.length ∧ (∀ j, i ≤ j → l'[j]? = l[j]?) ∧ s.σ 0 = .hd 0 ∧ s.σ 1 = .val (.int .i64 a) ∧ s.σ 5 = .val (.int .i64 i) ∧ s.H 0 = some (.own 27 (l'.map oR)) ∧ k ≤ a ∧ a + 1 * sumL (l.drop i) = k + 1 * sumL l) l.length ⟨0, l, k, by simp⟩ ?_
  rintro m ⟨σ, H⟩ ⟨i, l', a, him, hl', hsame, g0, g1, g5, gH, ha0, ha1⟩
  simp only at g0 g1 g5 gH
  by_cases hi : i < l.length
  · have hw : IntKind.i64.wrap ((i : Int) + 1) = i + 1 := wrapi (by omega)
    have hi' : i < l'.length := by omega
    rw [sumL_drop hi] at ha1
    have hli := hsame i (Nat.le_refl _)
    rw [getI hi] at hli
    generalize hx : l[i] = x at hli ha1
    refine TWc.unfold1 (E1 := 3) (rows1 := x.map encIn) (c1 := 0) (row := oR x) gH (by rw [List.getElem?_map, hli]; rfl) (by simp [oR]) fun k1 H' n1 d1 eH e1 e3 => ?_
    simp only at n1 eH e1 e3
    refine tw_sound (ρ := []) ?_
    have hd1 : ¬ k1 = 0 := fun e => d1 e.symm
    simp [g0, g1, g5, eH, hi, hi', hl', oR]
    refine TWoH.lendR [k1] ((tc_mark43 x a (by omega) (by omega)).toR (R := fun r o => r = .val (.int .i64 (a + x.length)) ∧ ∃ s' : List Int, o = [.own 3 (s'.map encIn)]) ⟨rfl, _, rfl⟩) callable_89 (by simp) (by simp [e1, d1, hd1]) (by simp) (by simp) ?_
    rintro r o ⟨rfl, s', rfl⟩
    refine ⟨by simp, by simp, .inl (by simp), fun q hq => ?_⟩
    simp [g0, g1, g5, eH, e1, hi, hi', hl', oR, d1, hd1, hw]
    refine ⟨m - 1, by omega, _, Shift.fold1x 0 k1 27 i 0 ((l'.map oR).set i [.hd k1]) [.hd k1] (.own 3 (s'.map encIn)) d1 (by simp [hd1, d1, eH, oR]) (by simp [hi']) (by simp) (by simp [hd1, d1]), i + 1, by omega, l'.set i s', by simp [hl'], ?_, ?_⟩
    · intro j hj
      rw [List.getElem?_set_ne (by omega)]
      exact hsame j (by omega)
    · simp [g0, g5, hw, List.map_set, oR]
      omega
  · obtain rfl : i = l.length := by omega
    refine tw_sound (ρ := []) ?_
    simp [sumL] at ha1
    simp [g0, g1, g5, gH, hl']
    exact ⟨_, _, ⟨rfl, rfl⟩, by simp, by simp [gH], by simp; omega, ⟨l', by simp [gH]⟩⟩
def costD (d : Dfa) : Nat := 2 * sumL d.parts + sumL d.rows + d.acc.length
theorem tcr_markDfa (d : Dfa) (hs : DSm d) (k : Int) (h0 : 0 ≤ k) (hk : k + costD d ≤ 1152921504606846976) : TCR Tryz.prog 24 [.agg [.hd 0, .hd 1, .hd 2], .val (.int .i64 k)] (oDfa d) (fun r o => r = .val (.int .i64 (k + costD d)) ∧ ∃ d' : Dfa, o = oDfa d') := by
  unfold costD at *
  refine TCR.enter Tryz.func24 rfl (by simp [Tryz.ntmps24]) rfl (tw_sound (ρ := [2]) ?_)
  rw [Tryz.ntmps24]
  simp [oDfa]
  refine TWoH.lendR [0] (tcr_mark83 d.parts k (by omega) (by omega) hs.parts) callable_87 (by simp) (by simp) (by simp) (by simp) ?_
  rintro r o ⟨rfl, p', rfl⟩
  refine ⟨by simp, by simp, .inl (by simp), fun q hq => ?_⟩
  simp
  refine TWoH.lendR [1] (tcr_mark84 d.rows (k + 2 * sumL d.parts) (by omega) (by omega) hs.rows) callable_88 (by simp) (by simp) (by simp) (by simp) ?_
  rintro r o ⟨rfl, r', rfl⟩
  refine ⟨by simp, by simp, .inl (by simp), fun q hq => ?_⟩
  simp
  refine TWoH.lend [2] (tc_mark43 d.acc (k + 2 * sumL d.parts + sumL d.rows) (by omega) (by omega)) callable_89 (by simp) (by simp) (by simp) (by simp) (by simp) (by simp) (.inl (by simp)) fun q hq => ?_
  simp
  exact ⟨_, _, ⟨rfl, rfl⟩, by simp, by simp [show List.range 3 = [0, 1, 2] from rfl], by simp; omega, ⟨p', r', mkInts (k + 2 * sumL d.parts + sumL d.rows) d.acc.length⟩, by simp [show List.range 3 = [0, 1, 2] from rfl]⟩
theorem ite_neg1' {c : Prop} [Decidable c] {x : Int} (h : ¬ (if c then -1 else x) < 0) : ¬ c ∧ ¬ x < 0 := by
  split at h
  · exact absurd h (by omega)
  · exact ⟨by assumption, h⟩
theorem szN_ok' {n : Nat} {left : Int} (hn : n ≤ 1152921504606846976) (h0 : 0 ≤ left) (h1 : left ≤ 1048576) (h : ¬ szN n left < 0) : (n : Int) ≤ left ∧ szN n left = left - n := by
  have hw : IntKind.i64.wrap (left - n) = left - n := wrapi (by omega)
  unfold szN at h ⊢
  rw [hw] at h ⊢
  split at h
  · exact absurd h (by omega)
  · rename_i h2
    rw [if_neg h2]
    omega
theorem szLoopN_ok : ∀ (ns : List Nat) (left : Int), (∀ n ∈ ns, n ≤ 1152921504606846976) → 0 ≤ left → left ≤ 1048576 → ¬ szLoopN ns left < 0 → (∀ n ∈ ns, n ≤ 1048576) ∧ szLoopN ns left = left - ns.sum
  | [], left, hs, h0, h1, h => by simp [szLoopN]
  | n :: ns, left, hs, h0, h1, h => by
    rw [szLoopN] at h ⊢
    obtain ⟨c1, h⟩ := ite_neg1' h
    rw [if_neg c1]
    obtain ⟨a1, a2⟩ := szN_ok' (hs n (by simp)) h0 h1 c1
    obtain ⟨b1, b2⟩ := szLoopN_ok ns _ (fun q hq => hs q (by simp [hq])) (by omega) (by omega) h
    refine ⟨fun q hq => ?_, by rw [b2, a2]; simp only [List.sum_cons]; omega⟩
    rcases List.mem_cons.1 hq with rfl | hq
    · omega
    · exact b1 q hq
theorem szSSF_ok {ns : List Nat} {left : Int} (hl : ns.length ≤ 1152921504606846976) (hs : ∀ n ∈ ns, n ≤ 1152921504606846976) (h0 : 0 ≤ left) (h1 : left ≤ 1048576) (h : ¬ szSSF ns left < 0) : ns.length ≤ 1048576 ∧ (∀ n ∈ ns, n ≤ 1048576) ∧ szSSF ns left = left - ns.length - ns.sum ∧ 0 ≤ szSSF ns left := by
  have h' := h
  unfold szSSF at h ⊢
  obtain ⟨c1, h⟩ := ite_neg1' h
  rw [if_neg c1]
  have hw : IntKind.i64.wrap (left - ns.length) = left - ns.length := wrapi (by omega)
  rw [hw] at c1 h ⊢
  obtain ⟨b1, b2⟩ := szLoopN_ok ns _ hs (by omega) (by omega) h
  exact ⟨by omega, b1, b2, by omega⟩
theorem sumL_eq {α : Type _} : ∀ l : List (List α), sumL l = (l.map List.length).sum
  | [] => rfl
  | x :: l => by simp [sumL, sumL_eq l]
/-- What a machine that can be read as data is bounded by. -/
structure BDfa (d : Dfa) : Prop where
  parts : d.parts.length ≤ 1152921504606846976
  rows : d.rows.length ≤ 1152921504606846976
  acc : d.acc.length ≤ 1152921504606846976
  part : ∀ x ∈ d.parts, x.length ≤ 1152921504606846976
  row : ∀ x ∈ d.rows, x.length ≤ 1152921504606846976
theorem DSm_of {d : Dfa} (hB : BDfa d) (h : ¬ szDfaF d 1048576 < 0) : DSm d ∧ costD d ≤ 4194304 := by
  unfold szDfaF at h
  simp only at h
  obtain ⟨c1, h⟩ := ite_neg1' h
  obtain ⟨c2, h⟩ := ite_neg1' h
  obtain ⟨c3, h⟩ := ite_neg1' h
  obtain ⟨a1, a2, a3, a4⟩ := szSSF_ok (by simpa using hB.parts) (by simpa using hB.part) (by omega) (by omega) c1
  obtain ⟨b1, b2, b3, b4⟩ := szSSF_ok (by simpa using hB.rows) (by simpa using hB.row) (by omega) (by omega) c2
  obtain ⟨d1, d2⟩ := szN_ok' hB.acc (by omega) (by omega) c3
  simp only [List.length_map] at a1 a3 b1 b3
  refine ⟨⟨a1, b1, by omega, by simpa using a2, by simpa using b2⟩, ?_⟩
  unfold costD
  rw [sumL_eq, sumL_eq]
  omega
end Go.Proofs.YtdomnlnanbekaaaGreatDoor.R

open Go Go.Proofs.YtdomnlnanbekaaaGreatDoor.T
namespace Go.Proofs.YtdomnlnanbekaaaGreatDoor.R
set_option maxHeartbeats 4000000
set_option maxRecDepth 100000
set_option linter.unusedSimpArgs false
set_option linter.unusedVariables false
attribute [local simp] bsV bsRows chunk fillT partsT appV makeV rowsOf cellsOf placeOf

/-- A table of 256 bits. -/
def bitsT (f : Nat → Bool) : List TV := (List.range 256).map fun b => .val (.bool (f b))
@[simp] theorem bitsT_len (f : Nat → Bool) : (bitsT f).length = 256 := by simp [bitsT]
@[simp] theorem bitsT_plain (f : Nat → Bool) : (bitsT f).all TV.plain = true := by simp [bitsT]
@[simp] theorem bitsT_pc (f : Nat → Bool) : (bitsT f).all TV.pc = true := by simp [bitsT]
@[simp] theorem bitsT_noH (f : Nat → Bool) : noHL (bitsT f) = true := by
  unfold bitsT
  induction List.range 256 with
  | nil => rfl
  | cons a l ih => simp [ih]
@[simp] theorem bitsT_take (f : Nat → Bool) : (bitsT f).take 256 = bitsT f := by rw [List.take_of_length_le (by simp)]
theorem bitsT_at {f : Nat → Bool} {i : Nat} (h : i < 256) : (bitsT f)[i]? = some (.val (.bool (f i))) := by simp [bitsT, h]
theorem bitsT_at' {f : Nat → Bool} {i : Nat} (h : i < (bitsT f).length) : (bitsT f)[i] = .val (.bool (f i)) := by simp [bitsT]
theorem bitsT_cut {f : Nat → Bool} {i : Nat} (h : i < 256) : List.take 1 (List.drop i (bitsT f)) = [.val (.bool (f i))] := by
  rw [List.drop_eq_getElem_cons (by simpa using h)]
  simp [bitsT_at']
theorem bitsT_congr {f g : Nat → Bool} (h : ∀ b, b < 256 → f b = g b) : bitsT f = bitsT g := by
  unfold bitsT
  apply List.map_congr_left
  intro b hb
  rw [h b (List.mem_range.1 hb)]
theorem bitsT_put {f : Nat → Bool} {i : Nat} {x : Bool} (h : i < 256) : List.take i (bitsT f) ++ TV.val (.bool x) :: List.drop (i + 1) (bitsT f) = bitsT fun b => if b = i then x else f b := by
  apply List.ext_getElem?
  intro j
  by_cases h1 : j < i
  · rw [List.getElem?_append_left (by simp; omega), List.getElem?_take_of_lt h1, bitsT_at (by omega), bitsT_at (by omega), if_neg (by omega)]
  · rw [List.getElem?_append_right (by simp; omega)]
    have hl : (List.take i (bitsT f)).length = i := by simp; omega
    rw [hl]
    by_cases h2 : j = i
    · subst h2; rw [Nat.sub_self]; rw [bitsT_at h, if_pos rfl]; rfl
    · obtain ⟨d, hd⟩ : ∃ d, j - i = d + 1 := ⟨j - i - 1, by omega⟩
      rw [hd, List.getElem?_cons_succ, List.getElem?_drop, show i + 1 + d = j by omega]
      by_cases h3 : j < 256
      · rw [bitsT_at h3, bitsT_at h3, if_neg h2]
      · rw [List.getElem?_eq_none (by simp; omega), List.getElem?_eq_none (by simp; omega)]
theorem bitsT_false : List.replicate 256 (TV.val (.bool false)) = bitsT fun _ => false := by
  apply List.ext_getElem?
  intro j
  by_cases h : j < 256
  · rw [bitsT_at h, List.getElem?_replicate, if_pos h]
  · rw [List.getElem?_eq_none (by simp; omega), List.getElem?_eq_none (by simp; omega)]
@[simp] theorem bitsT_drop (f : Nat → Bool) : (bitsT f).drop 256 = [] := by rw [List.drop_eq_nil_of_le (by simp)]
@[simp high] theorem zero125 : zeroT Tryz.prog 126 = some (bitsT fun _ => false) := by rw [← bitsT_false]; exact zeroT_126
@[simp] theorem bitsT_closeL {H : Nat → Option TV} (f : Nat → Bool) : closeL H (bitsT f) = some (bitsT f, H) := by
  unfold bitsT
  induction List.range 256 with
  | nil => simp
  | cons a l ih => simp [ih]
@[simp] theorem bitsT_opnL {k : Nat} (f : Nat → Bool) : opnL k (bitsT f) = (bitsT f, []) := by
  unfold bitsT
  induction List.range 256 with
  | nil => simp
  | cons a l ih => simp [ih]
@[simp] theorem bitsT_noRo (f : Nat → Bool) : noRoL (bitsT f) = true := by
  unfold bitsT
  induction List.range 256 with
  | nil => rfl
  | cons a l ih => simp [ih]
theorem tc_bitsOf (p : List (Int × Int)) (hl : p.length ≤ 1152921504606846976) : TC Tryz.prog 113 [.ro (p.map encSp)] [] (.agg (bitsT fun b => hasS p b)) [] := by
  refine TC.enter Tryz.func113 rfl (by simp [Tryz.ntmps113]) rfl (tw_sound (ρ := []) ?_)
  rw [Tryz.ntmps113]
  simp
  refine gall_intro fun a ha => ?_
  simp
  refine gall_intro fun c hc => ?_
  have hca : ¬ c = a := fun e => by simp [e] at hc
  have hac : ¬ a = c := fun e => hca e.symm
  simp [hca, hac]
  refine TWcH.loop [] (fun m s => ∃ i : Nat, i + m = 256 ∧ s.σ 0 = .ro (p.map encSp) ∧ s.σ 2 = .pd a 0 0 0 ∧ s.σ 3 = .pd c 0 0 0 ∧ s.σ 5 = .val (.int .i64 i) ∧ s.H a = some (.box 126 (bitsT fun _ => false)) ∧ s.H c = some (.box 126 (bitsT fun b => decide (b < i) && hasS p b))) 256 ⟨0, by simp [hca, hac]⟩ ?_
  rintro m ⟨σ, H⟩ ⟨i, him, h0, h2, h3, h5, hA, hC⟩
  simp only at h0 h2 h3 h5 hA hC
  by_cases hi : i < 256
  · have hw : IntKind.i64.wrap ((i : Int) + 1) = i + 1 := wrapi (by omega)
    have hi2 : (i : Int) < 256 := by omega
    simp [h0, h2, h3, h5, hi, hi2]
    refine TWoH.callV (tc_iSetHas p i hl) callable_46 (by simp [h0]) (by simp) (by simp) (by simp) ?_
    have hi3 : i ≤ 255 := by omega
    simp [h0, h2, h3, h5, hi, hi2, hi3, hA, hC, hw, hca, hac, bitsT_put hi]
    refine ⟨m - 1, by omega, i + 1, by omega, by omega, ?_⟩
    apply bitsT_congr
    intro b hb
    by_cases e : b = i
    · subst e; simp
    · simp only [if_neg e]; congr 1; rw [decide_eq_decide]; omega
  · obtain rfl : i = 256 := by omega
    simp [h0, h2, h3, h5, hA, hC, hca, hac]
    apply bitsT_congr
    intro b hb
    simp [hb]
/-- The least byte of a set, or -1. -/
def firstG (f : Nat → Bool) (i : Nat) : Int := match (List.range' i (256 - i)).find? f with
  | some b => b
  | none => -1
def firstS (p : List (Int × Int)) : Int := firstG (fun b => hasS p b) 0
theorem firstG_next {f : Nat → Bool} {i : Nat} (h : i < 256) : firstG f i = if f i = true then (i : Int) else firstG f (i + 1) := by
  unfold firstG
  rw [show 256 - i = (256 - (i + 1)) + 1 by omega, List.range'_succ, List.find?_cons]
  cases f i <;> simp
theorem firstG_end {f : Nat → Bool} : firstG f 256 = -1 := by
  unfold firstG; rfl
def sizeS (p : List (Int × Int)) : Nat := (List.range 256).countP fun (b : Nat) => hasS p b
def sizeB (p : List (Int × Int)) (b : Nat) : Nat := (List.range b).countP fun (b : Nat) => hasS p b
theorem sizeB_succ {p : List (Int × Int)} {b : Nat} : sizeB p (b + 1) = sizeB p b + (if hasS p b = true then 1 else 0) := by
  unfold sizeB; rw [List.range_succ, List.countP_append]; simp [List.countP_cons]
theorem sizeB_le {p : List (Int × Int)} {b : Nat} : sizeB p b ≤ b := by
  unfold sizeB; have := List.countP_le_length (p := fun b : Nat => hasS p b) (l := List.range b); simpa using this
theorem tc_sSetFirst (p : List (Int × Int)) (hl : p.length ≤ 1152921504606846976) : TC Tryz.prog 111 [.ro (p.map encSp)] [] (.val (.int .i64 (firstS p))) [] := by
  refine TC.enter Tryz.func111 rfl (by simp [Tryz.ntmps111]) rfl (tw_sound (ρ := []) ?_)
  rw [Tryz.ntmps111]
  simp
  refine TWcH.loop [] (fun m s => ∃ i : Nat, i + m = 256 ∧ s.σ 0 = .ro (p.map encSp) ∧ s.σ 3 = .val (.int .i64 i) ∧ firstS p = firstG (fun b => hasS p b) i) 256 ⟨0, by simp [firstS]⟩ ?_
  rintro m ⟨σ, H⟩ ⟨i, him, h0, h3, hh⟩
  simp only at h0 h3
  by_cases hi : i < 256
  · have hw : IntKind.i64.wrap ((i : Int) + 1) = i + 1 := wrapi (by omega)
    have hi2 : (i : Int) < 256 := by omega
    rw [firstG_next hi] at hh
    simp [h0, h3, hi2]
    refine TWoH.callV (tc_sSetHas p i hl) callable_153 (by simp [h0]) (by simp) (by simp) (by simp) ?_
    simp [h0, h3, hi2]
    refine gif_intro (fun c => ?_) (fun c => ?_) <;> simp [h0, h3, hi2, c, hw]
    · rw [hh, if_pos c]
    · exact ⟨m - 1, by omega, i + 1, by omega, by omega, by rw [hh, if_neg c]⟩
  · obtain rfl : i = 256 := by omega
    simp [h0, h3]
    rw [hh, firstG_end]
def addB (l : List (Int × Int)) (b : Int) : List (Int × Int) := match l.getLast? with
  | some s => if s.2 = b - 1 then l.set (l.length - 1) (s.1, b) else l ++ [(b, b)]
  | none => [(b, b)]
/-- The spans of bytes below b. -/
def spansTo (f : Nat → Bool) : Nat → List (Int × Int)
  | 0 => []
  | b + 1 => if f b = true then addB (spansTo f b) b else spansTo f b
def spansF (f : Nat → Bool) : List (Int × Int) := spansTo f 256
theorem addB_len {l : List (Int × Int)} {b : Int} : (addB l b).length ≤ l.length + 1 ∧ addB l b ≠ [] := by
  unfold addB
  cases h : l.getLast? with
  | none =>
    simp only
    exact ⟨by simp, by simp⟩
  | some s =>
    simp only
    split
    · refine ⟨by simp, fun e => ?_⟩
      have := congrArg List.length e
      simp at this
      subst this; simp at h
    · exact ⟨by simp, by simp⟩
theorem spansTo_len {f : Nat → Bool} : ∀ b, (spansTo f b).length ≤ b
  | 0 => by simp [spansTo]
  | b + 1 => by
    unfold spansTo
    have := spansTo_len (f := f) b
    split
    · have := (addB_len (l := spansTo f b) (b := b)).1; omega
    · omega
theorem spansTo_nil {f : Nat → Bool} : ∀ b, spansTo f b = [] ↔ ∀ i, i < b → f i = false
  | 0 => by simp [spansTo]
  | b + 1 => by
    unfold spansTo
    have ih := spansTo_nil (f := f) b
    by_cases c : f b = true
    · rw [if_pos c]
      constructor
      · intro h; exact ((addB_len (l := spansTo f b) (b := b)).2 h).elim
      · intro h; have := h b (by omega); rw [c] at this; cases this
    · rw [if_neg c, ih]
      constructor
      · intro h i hi
        by_cases e : i = b
        · subst e; simpa using c
        · exact h i (by omega)
      · intro h i hi; exact h i (by omega)
theorem tc_l1Of (f : Nat → Bool) : TC Tryz.prog 196 [.ro ((List.range 256).map fun b => [.val (.bool (f b))])] [] (.own 118 ((spansF f).map encSp)) [] := by
  refine TC.enter Tryz.func196 rfl (by simp [Tryz.ntmps196]) rfl (tw_sound (ρ := []) ?_)
  rw [Tryz.ntmps196]
  simp
  refine gall_intro fun id hid => ?_
  simp
  refine TWcH.loop [41] (fun m s => ∃ (i : Nat) (id : Nat), i + m = 256 ∧ s.σ 0 = .ro ((List.range 256).map fun b => [.val (.bool (f b))]) ∧ s.σ 3 = .hd id ∧ s.σ 4 = .val (.int .i64 i) ∧ s.H id = some (.own 118 ((spansTo f i).map encSp))) 256 ⟨0, id, by simp [spansTo]⟩ ?_
  rintro m ⟨σ, H⟩ ⟨i, id, him, h0, h3, h4, hH⟩
  simp only at h0 h3 h4 hH
  by_cases hi : i < 256
  · have hw : IntKind.i64.wrap ((i : Int) + 1) = i + 1 := wrapi (by omega)
    have hi2 : (i : Int) < 256 := by omega
    have hlen := spansTo_len (f := f) i
    have hst : spansTo f (i + 1) = if f i = true then addB (spansTo f i) i else spansTo f i := rfl
    rcases List.eq_nil_or_concat (spansTo f i) with e | ⟨l, s, e⟩
    · rw [e] at hH hst
      simp [h0, h3, h4, hi2, hi]
      refine gif_intro (fun c => ?_) (fun c => ?_) <;> simp [h0, h3, h4, hH, hi2, hi, c, hw]
      · rw [if_pos c] at hst
        refine gall_intro fun id' hid' => ?_
        simp [h0, h3, h4, hw]
        exact ⟨m - 1, by omega, i + 1, by omega, by omega, by rw [hst]; simp [addB, encSp]⟩
      · refine ⟨m - 1, by omega, i + 1, by omega, ?_⟩
        rw [hst, if_neg (by simpa using c)]
        exact ⟨by omega, rfl⟩
    · rw [e] at hlen
      simp at hlen
      have hl1 : ((l.length : Int) + 1 - 1) = l.length := by omega
      have hwl : IntKind.i64.wrap (l.length : Int) = l.length := wrapi (by omega)
      have hlt : (l.length : Int) < l.length + 1 := by omega
      have hwi : IntKind.i64.wrap ((i : Int) - 1) = (i : Int) - 1 := wrapi (by omega)
      have ha : addB (l ++ [s]) i = if s.2 = (i : Int) - 1 then l ++ [(s.1, (i : Int))] else l ++ [s] ++ [((i : Int), (i : Int))] := by simp [addB]
      rw [e] at hH hst
      simp only [List.concat_eq_append] at hH hst
      rw [ha] at hst
      simp [h0, h3, h4, hi2, hi]
      refine gif_intro (fun c => ?_) (fun c => ?_) <;> simp [h0, h3, h4, hH, hi2, hi, c, hw, hl1, hwl, hwi, hlt, encSp]
      · rw [if_pos c] at hst
        refine gif_intro (fun c2 => ?_) (fun c2 => ?_) <;> simp [h0, h3, h4, hH, hi2, hi, c, hw, hl1, hwl, hwi, hlt, c2]
        · refine ⟨m - 1, by omega, i + 1, by omega, ?_⟩
          rw [hst, if_pos c2]
          simp [encSp]
        · rw [gif_pos (by omega)]
          refine gall_intro fun id' hid' => ?_
          simp [h0, h3, h4, hw]
          refine ⟨m - 1, by omega, i + 1, by omega, ?_⟩
          rw [hst, if_neg c2]
          simp [encSp]
      · refine ⟨m - 1, by omega, i + 1, by omega, ?_⟩
        rw [hst, if_neg (by simpa using c)]
        exact ⟨by omega, by simp [encSp]⟩
  · obtain rfl : i = 256 := by omega
    simp [h0, h3, h4, hH, spansF]
@[simp] theorem noHR_mapB (l : List Nat) (g : Nat → Bool) : noHR (l.map fun b => [TV.val (.bool (g b))]) = true := by induction l <;> simp [*]
@[simp] theorem noRoR_mapB (l : List Nat) (g : Nat → Bool) : noRoR (l.map fun b => [TV.val (.bool (g b))]) = true := by induction l <;> simp [*]
@[simp] theorem roRows_mapB (l : List Nat) (g : Nat → Bool) : roRows (l.map fun b => [TV.val (.bool (g b))]) = l.map fun b => [TV.val (.bool (g b))] := by induction l <;> simp [*]
/-- Both sets have it. -/
def meetF (p q : List (Int × Int)) (b : Nat) : Bool := hasS p b && hasS q b
theorem tc_sSetMeet (p q : List (Int × Int)) (hp : p.length ≤ 1152921504606846976) (hq : q.length ≤ 1152921504606846976) (ho : setOk p = true) (ho' : setOk q = true) : TC Tryz.prog 184 [.ro (p.map encSp), .ro (q.map encSp)] [] (.own 118 ((spansF (meetF p q)).map encSp)) [] := by
  refine TC.enter Tryz.func184 rfl (by simp [Tryz.ntmps184]) rfl (tw_sound (ρ := []) ?_)
  rw [Tryz.ntmps184]
  simp
  refine gall_intro fun id hid => ?_
  simp
  refine TWcH.loop [] (fun m s => ∃ (i : Nat), i + m = 256 ∧ s.σ 0 = .ro (p.map encSp) ∧ s.σ 1 = .ro (q.map encSp) ∧ s.σ 5 = .hd id ∧ s.σ 6 = .val (.int .i64 i) ∧ s.H id = some (.own 4 (mix ((List.range 256).map fun b => [.val (.bool (meetF p q b))]) (List.replicate 256 [.val (.bool false)]) i))) 256 ⟨0, by simp⟩ ?_
  rintro m ⟨σ, H⟩ ⟨i, him, h0, h1, h5, h6, hH⟩
  simp only at h0 h1 h5 h6 hH
  by_cases hi : i < 256
  · have hw : IntKind.i64.wrap ((i : Int) + 1) = i + 1 := wrapi (by omega)
    have hi2 : (i : Int) < 256 := by omega
    have hat := mix_at' (A := (List.range 256).map fun b => [TV.val (.bool (meetF p q b))]) (B := List.replicate 256 [TV.val (.bool false)]) (i := i) (by simp) (by simpa using hi)
    simp only [List.getElem_replicate] at hat
    have hln : (mix ((List.range 256).map fun b => [TV.val (.bool (meetF p q b))]) (List.replicate 256 [TV.val (.bool false)]) i).length = 256 := by rw [mix_len (by simp) (by simp; omega)]; simp
    have hset := mix_set (A := (List.range 256).map fun b => [TV.val (.bool (meetF p q b))]) (B := List.replicate 256 [TV.val (.bool false)]) (i := i) (by simp) (by simpa using hi) (x := [TV.val (.bool (meetF p q i))]) (by simp [hi])
    generalize hM : mix ((List.range 256).map fun b => [TV.val (.bool (meetF p q b))]) (List.replicate 256 [TV.val (.bool false)]) i = M at hH hat hln hset
    simp [h0, h1, h5, h6, hi2]
    refine TWoH.callV (tc_sSetHas p i hp) callable_153 (by simp [h0]) (by simp) (by simp) (by simp) ?_
    simp [h0, h1, h5, h6, hi2]
    refine gif_intro (fun c => ?_) (fun c => ?_) <;> simp [h0, h1, h5, h6, hi2, c]
    · refine TWoH.callV (tc_sSetHas q i hq) callable_153 (by simp [h1]) (by simp) (by simp) (by simp) ?_
      have hm : meetF p q i = hasS q i := by simp [meetF, c]
      rw [hm] at hset
      simp [h0, h1, h5, h6, hi2, hH, hat, hln, hset, c, hi, hw]
      exact ⟨m - 1, by omega, i + 1, by omega, by omega, rfl⟩
    · have hm : meetF p q i = false := by simp [meetF, c]
      rw [hm] at hset
      simp [h0, h1, h5, h6, hi2, hH, hat, hln, hset, c, hi, hw]
      exact ⟨m - 1, by omega, i + 1, by omega, by omega, rfl⟩
  · obtain rfl : i = 256 := by omega
    rw [mix_all (by simp) (by simp)] at hH
    simp [h0, h1, h5, h6, hH]
    refine TWoH.callV (tc_sSetOk p hp) callable_161 (by simp [h0]) (by simp) (by simp) (by simp) ?_
    simp [h0, h1, h5, h6, hH, ho]
    refine TWoH.callV (tc_sSetOk q hq) callable_161 (by simp [h1]) (by simp) (by simp) (by simp) ?_
    simp [h0, h1, h5, h6, hH, ho, ho']
    refine TWoH.call (tc_l1Of (meetF p q)) callable_196 (by simp [h5, hH]) (by simp) (by simp) fun k hk => ?_
    simp
end Go.Proofs.YtdomnlnanbekaaaGreatDoor.R

open Go Go.Proofs.YtdomnlnanbekaaaGreatDoor.T
namespace Go.Proofs.YtdomnlnanbekaaaGreatDoor.R
set_option maxHeartbeats 4000000
set_option maxRecDepth 100000
set_option linter.unusedSimpArgs false
set_option linter.unusedVariables false
attribute [local simp] bsV bsRows chunk fillT partsT appV makeV rowsOf cellsOf placeOf

def pt (ps : List (List (Int × Int))) (k : Nat) : List (Int × Int) := (ps[k]?).getD []
theorem pt_eq {ps : List (List (Int × Int))} {k : Nat} (h : k < ps.length) : pt ps k = ps[k] := by simp [pt, getI h]
def anyHas (ps : List (List (Int × Int))) (i b : Nat) : Bool := (List.range i).any fun k => hasS (pt ps k) b
theorem anyHas_succ {ps : List (List (Int × Int))} {i b : Nat} : anyHas ps (i + 1) b = (anyHas ps i b || hasS (pt ps i) b) := by
  unfold anyHas; rw [List.range_succ, List.any_append]; simp
def disjB (ps : List (List (Int × Int))) (i : Nat) (b : Nat) : Bool := !(hasS (pt ps i) b && anyHas ps i b)
def disjFrom (ps : List (List (Int × Int))) (i b : Nat) : Bool := (List.range' b (256 - b)).all (disjB ps i)
theorem disjFrom_next {ps : List (List (Int × Int))} {i b : Nat} (h : b < 256) : disjFrom ps i b = (disjB ps i b && disjFrom ps i (b + 1)) := by
  unfold disjFrom
  rw [show 256 - b = (256 - (b + 1)) + 1 by omega, List.range'_succ, List.all_cons]
theorem disjFrom_end {ps : List (List (Int × Int))} {i : Nat} : disjFrom ps i 256 = true := by unfold disjFrom; rfl
def headAt (ps : List (List (Int × Int))) (i : Nat) : Bool := setOk (pt ps i) && !(pt ps i).isEmpty && (decide (i = 0) || decide (firstS (pt ps (i - 1)) < firstS (pt ps i)))
def partAt (ps : List (List (Int × Int))) (i : Nat) : Bool := headAt ps i && disjFrom ps i 0
def partsFrom (ps : List (List (Int × Int))) (i : Nat) : Bool := (List.range' i (ps.length - i)).all (partAt ps)
theorem partsFrom_next {ps : List (List (Int × Int))} {i : Nat} (h : i < ps.length) : partsFrom ps i = (partAt ps i && partsFrom ps (i + 1)) := by
  unfold partsFrom
  rw [show ps.length - i = (ps.length - (i + 1)) + 1 by omega, List.range'_succ, List.all_cons]
theorem partsFrom_end {ps : List (List (Int × Int))} : partsFrom ps ps.length = true := by unfold partsFrom; simp
def sizeTo (ps : List (List (Int × Int))) (i : Nat) : Nat := ((List.range i).map fun k => sizeS (pt ps k)).sum
theorem sizeTo_succ {ps : List (List (Int × Int))} {i : Nat} : sizeTo ps (i + 1) = sizeTo ps i + sizeS (pt ps i) := by
  unfold sizeTo; rw [List.range_succ]; simp
theorem sizeS_le {p : List (Int × Int)} : sizeS p ≤ 256 := sizeB_le (p := p) (b := 256)
theorem sizeTo_le {ps : List (List (Int × Int))} : ∀ i, sizeTo ps i ≤ 256 * i
  | 0 => by simp [sizeTo]
  | i + 1 => by rw [sizeTo_succ]; have := sizeTo_le (ps := ps) i; have := sizeS_le (p := pt ps i); omega
def partsOk (ps : List (List (Int × Int))) : Bool := partsFrom ps 0 && decide (sizeTo ps ps.length = 256)
def meetsFrom (ps : List (List (Int × Int))) (i k : Nat) : Bool := (List.range' k (i - k)).all fun j => decide (spansF (meetF (pt ps i) (pt ps j)) = [])
theorem meetsFrom_next {ps : List (List (Int × Int))} {i k : Nat} (h : k < i) : meetsFrom ps i k = (decide (spansF (meetF (pt ps i) (pt ps k)) = []) && meetsFrom ps i (k + 1)) := by
  unfold meetsFrom
  rw [show i - k = (i - (k + 1)) + 1 by omega, List.range'_succ, List.all_cons]
theorem meetsFrom_end {ps : List (List (Int × Int))} {i : Nat} : meetsFrom ps i i = true := by unfold meetsFrom; simp
theorem meets_disj (ps : List (List (Int × Int))) (i : Nat) : meetsFrom ps i 0 = disjFrom ps i 0 := by
  rw [Bool.eq_iff_iff]
  unfold meetsFrom disjFrom
  simp only [List.all_eq_true, List.mem_range'_1, decide_eq_true_eq]
  constructor
  · intro h b hb
    unfold disjB
    rw [Bool.not_eq_true', Bool.and_eq_false_iff]
    by_cases c : hasS (pt ps i) b = true
    · right
      rw [anyHas, List.any_eq_false]
      intro k hk
      have hk' := List.mem_range.1 hk
      have := (spansTo_nil 256).1 (h k (by omega)) b (by omega)
      simp only [meetF, c, Bool.true_and] at this
      simp [this]
    · left; simpa using c
  · intro h k hk
    refine (spansTo_nil 256).2 fun b hb => ?_
    have := h b (by omega)
    unfold disjB at this
    rw [Bool.not_eq_true', Bool.and_eq_false_iff] at this
    unfold meetF
    rcases this with h1 | h1
    · simp [h1]
    · rw [anyHas, List.any_eq_false] at h1
      have := h1 k (List.mem_range.2 (by omega))
      simp only [Bool.not_eq_true] at this
      simp [this]
end Go.Proofs.YtdomnlnanbekaaaGreatDoor.R

open Go Go.Proofs.YtdomnlnanbekaaaGreatDoor.T
namespace Go.Proofs.YtdomnlnanbekaaaGreatDoor.R
set_option maxHeartbeats 4000000
set_option maxRecDepth 100000
set_option linter.unusedSimpArgs false
set_option linter.unusedVariables false
attribute [local simp] bsV bsRows chunk fillT partsT appV makeV rowsOf cellsOf placeOf

def rw_ (d : Dfa) (i : Nat) : List Int := (d.rows[i]?).getD []
def ac_ (d : Dfa) (i : Nat) : Int := (d.acc[i]?).getD 0
theorem rw_eq {d : Dfa} {i : Nat} (h : i < d.rows.length) : rw_ d i = d.rows[i] := by simp [rw_, getI h]
theorem ac_eq {d : Dfa} {i : Nat} (h : i < d.acc.length) : ac_ d i = d.acc[i] := by simp [ac_, getI h]
def entOk (d : Dfa) (s : Int) : Bool := decide (-1 ≤ s) && decide (s < d.rows.length)
def rowAt (d : Dfa) (i : Nat) : Bool := decide ((rw_ d i).length = d.parts.length) && decide (-1 ≤ ac_ d i) && decide (ac_ d i < 5) && (rw_ d i).all (entOk d)
def rowsFrom (d : Dfa) (i : Nat) : Bool := (List.range' i (d.rows.length - i)).all (rowAt d)
theorem rowsFrom_next {d : Dfa} {i : Nat} (h : i < d.rows.length) : rowsFrom d i = (rowAt d i && rowsFrom d (i + 1)) := by
  unfold rowsFrom
  rw [show d.rows.length - i = (d.rows.length - (i + 1)) + 1 by omega, List.range'_succ, List.all_cons]
theorem rowsFrom_end {d : Dfa} : rowsFrom d d.rows.length = true := by unfold rowsFrom; simp
def dfaOk (d : Dfa) : Bool := partsOk d.parts && decide (1 ≤ d.rows.length) && decide (d.rows.length ≤ 40) && decide (d.acc.length = d.rows.length) && rowsFrom d 0
theorem allDrop {α : Type _} {l : List α} {f : α → Bool} {k : Nat} (h : k < l.length) : (l.drop k).all f = (f l[k] && (l.drop (k + 1)).all f) := by
  conv => lhs; rw [List.drop_eq_getElem_cons h]
  rw [List.all_cons]
theorem setOk_first {x : Int × Int} {xs : List (Int × Int)} (h : setOk (x :: xs) = true) : 0 ≤ x.1 ∧ x.1 ≤ x.2 ∧ x.2 ≤ 255 := by
  simp only [setOk, setOkP, okX, Bool.and_eq_true, decide_eq_true_eq] at h
  exact ⟨h.1.1, h.1.2.2.1, h.1.2.1⟩
theorem setOkP_low : ∀ (l : List (Int × Int)) (q b : Int), setOkP (some q) l = true → b ≤ q → hasS l b = false
  | [], q, b, h, hb => by simp [hasS]
  | x :: l, q, b, h, hb => by
    simp only [setOkP, okX, Bool.and_eq_true, decide_eq_true_eq] at h
    have h1 := h.1.2.2.2 q rfl
    have := setOkP_low l x.2 b h.2 (by omega)
    simp only [hasS, List.any_cons] at this ⊢
    rw [this]
    simp; omega
theorem firstG_at {f : Nat → Bool} : ∀ (n i k : Nat), k = i + n → k < 256 → f k = true → (∀ j, i ≤ j → j < k → f j = false) → firstG f i = k
  | 0, i, k, e, hk, h1, h2 => by
    obtain rfl : k = i := by omega
    rw [firstG_next hk, if_pos h1]
  | n + 1, i, k, e, hk, h1, h2 => by
    rw [firstG_next (by omega), if_neg (by rw [h2 i (by omega) (by omega)]; simp)]
    exact firstG_at n (i + 1) k (by omega) hk h1 fun j a b => h2 j (by omega) b
theorem firstS_head {x : Int × Int} {xs : List (Int × Int)} (h : setOk (x :: xs) = true) : firstS (x :: xs) = x.1 := by
  obtain ⟨a1, a2, a3⟩ := setOk_first h
  have e : (x.1.toNat : Int) = x.1 := by omega
  have hx : setOkP (some x.2) xs = true := by simp only [setOk, setOkP, Bool.and_eq_true] at h; exact h.2
  have := firstG_at (f := fun b => hasS (x :: xs) b) x.1.toNat 0 x.1.toNat (by omega) (by omega) (by simp [hasS]; left; omega) (fun j _ hj => by
    have := setOkP_low xs x.2 j hx (by omega)
    simp only [hasS, List.any_cons] at this ⊢
    rw [this]; simp; omega)
  rw [firstS, this, e]
def lastOf (ps : List (List (Int × Int))) (i : Nat) : Int := if i = 0 then -1 else firstS (pt ps (i - 1))
theorem tc_iDfaOk (d : Dfa) (hs : DSm d) : TC Tryz.prog 59 [.agg (encDfa d)] [] (.val (.bool (dfaOk d))) [] := by
  refine TC.enter Tryz.func59 rfl (by simp [Tryz.ntmps59]) rfl (tw_sound (ρ := [1]) ?_)
  rw [Tryz.ntmps59]
  simp [encDfa]
  refine gall_intro fun a ha => ?_
  simp
  refine TWcH.loop [] (fun m s => ∃ i : Nat, i + m = d.parts.length ∧ s.σ 1 = .rptr [.ro (d.parts.map encP), .ro (d.rows.map encR), .ro (d.acc.map encIn)] 0 ∧ s.σ 3 = .pd a 0 0 0 ∧ s.H a = some (.box 126 (bitsT (anyHas d.parts i))) ∧ s.σ 4 = .val (.int .i64 (lastOf d.parts i)) ∧ s.σ 5 = .val (.int .i64 (sizeTo d.parts i)) ∧ s.σ 15 = .ro (d.parts.map encP) ∧ s.σ 16 = .val (.int .i64 d.parts.length) ∧ s.σ 17 = .val (.int .i64 i) ∧ partsFrom d.parts 0 = partsFrom d.parts i) d.parts.length ⟨0, by simp [lastOf, sizeTo]; exact bitsT_congr fun b hb => by simp [anyHas]⟩ ?_
  rintro m ⟨σ, H⟩ ⟨i, him, h1, h3, hH, h4, h5, h15, h16, h17, hh⟩
  simp only at h1 h3 hH h4 h5 h15 h16 h17
  have hpl := hs.parts
  by_cases hi : i < d.parts.length
  · have hw : IntKind.i64.wrap ((i : Int) + 1) = i + 1 := wrapi (by omega)
    have hp' : ∀ h, d.parts[i]'h = pt d.parts i := fun _ => (pt_eq hi).symm
    have hpln : (pt d.parts i).length ≤ 1152921504606846976 := by rw [pt_eq hi]; have := hs.part _ (List.getElem_mem hi); omega
    rw [partsFrom_next hi] at hh
    simp [h1, h3, hH, h4, h5, h15, h16, h17, hi, hp', encP]
    refine TWoH.callV (tc_iSetOk (pt d.parts i) hpln) callable_126 (by simp) (by simp) (by simp) (by simp) ?_
    cases c1 : setOk (pt d.parts i)
    · simp [h1, h3, hH, h4, h5, h15, h16, h17, hi]
      simp [dfaOk, partsOk, hh, partAt, headAt, c1]
    cases c2 : pt d.parts i with
    | nil =>
      simp [h1, h3, hH, h4, h5, h15, h16, h17, hi]
      simp [dfaOk, partsOk, hh, partAt, headAt, c2]
    | cons x xs =>
    have hne : ¬ pt d.parts i = [] := by rw [c2]; simp
    have hfx : firstS (pt d.parts i) = x.1 := by rw [c2] at c1 ⊢; exact firstS_head c1
    have hx0 := (setOk_first (by rw [← c2]; exact c1)).1
    have hxl : ¬ ((xs.length : Int) + 1 = 0) := by omega
    simp [h1, h3, hH, h4, h5, h15, h16, h17, hi, encSp, hxl]
    by_cases c3 : x.1 ≤ lastOf d.parts i
    · simp [h1, h3, hH, h4, h5, h15, h16, h17, hi, c3]
      have : headAt d.parts i = false := by
        unfold lastOf at c3
        split at c3
        · omega
        · rename_i h0
          have : ¬ firstS (pt d.parts (i - 1)) < firstS (pt d.parts i) := by omega
          simp [headAt, this, h0]
      simp [dfaOk, partsOk, hh, partAt, this]
    have hhd : headAt d.parts i = true := by
      unfold lastOf at c3
      split at c3
      · rename_i h0; subst h0; simp [headAt, c1, hne]
      · rename_i h0
        have : firstS (pt d.parts (i - 1)) < firstS (pt d.parts i) := by omega
        simp [headAt, this, c1, hne]
    rw [partAt, hhd, Bool.true_and] at hh
    simp [h1, h3, hH, h4, h5, h15, h16, h17, hi, c3, encSp]
    have hbo := tc_bitsOf (pt d.parts i) hpln
    rw [c2] at hbo
    refine TWoH.callV hbo callable_113 (by simp [encSp]) (by simp) (by simp) (by simp) ?_
    rw [← c2]
    simp [h1, h3, hH, h4, h5, h15, h16, h17, hi, c3, encSp]
    have hlast : x.1 = lastOf d.parts (i + 1) := by simp [lastOf, hfx]
    have hsz := sizeTo_le (ps := d.parts) i
    refine TWcH.loop [] (fun m' s => ∃ b : Nat, b + m' = 256 ∧ s.σ 1 = .rptr [.ro (d.parts.map encP), .ro (d.rows.map encR), .ro (d.acc.map encIn)] 0 ∧ s.σ 3 = .pd a 0 0 0 ∧ s.H a = some (.box 126 (bitsT fun b' => anyHas d.parts i b' || (decide (b' < b) && hasS (pt d.parts i) b'))) ∧ s.σ 4 = .val (.int .i64 x.1) ∧ s.σ 5 = .val (.int .i64 (sizeTo d.parts i + sizeB (pt d.parts i) b : Nat)) ∧ s.σ 15 = .ro (d.parts.map encP) ∧ s.σ 16 = .val (.int .i64 d.parts.length) ∧ s.σ 17 = .val (.int .i64 i) ∧ s.σ 42 = .agg (bitsT fun b => hasS (pt d.parts i) b) ∧ s.σ 43 = .val (.int .i64 b) ∧ disjFrom d.parts i 0 = disjFrom d.parts i b) 256 ⟨0, by simp [h1, h3, hH, h4, h5, h15, h16, h17, sizeB]⟩ ?_
    rintro m' ⟨σ, H⟩ ⟨b, hbm, g1, g3, gH, g4, g5, g15, g16, g17, g42, g43, gg⟩
    simp only at g1 g3 gH g4 g5 g15 g16 g17 g42 g43
    by_cases hb : b < 256
    · have hwb : IntKind.i64.wrap ((b : Int) + 1) = b + 1 := wrapi (by omega)
      have hb2 : (b : Int) < 256 := by omega
      have hb3 : b ≤ 255 := by omega
      have hsb := sizeB_le (p := pt d.parts i) (b := b)
      have hws : IntKind.i64.wrap (((sizeTo d.parts i + sizeB (pt d.parts i) b : Nat) : Int) + 1) = ((sizeTo d.parts i + sizeB (pt d.parts i) b + 1 : Nat) : Int) := by rw [wrapi (by omega)]; simp
      rw [disjFrom_next hb] at gg
      simp only [Int.natCast_add] at hws g5
      simp [g1, g3, gH, g4, g5, g15, g16, g17, g42, g43, hb2, bitsT_at hb, partTV]
      cases c4 : hasS (pt d.parts i) b
      · simp [g1, g3, gH, g4, g5, g15, g16, g17, g42, g43, hb2, hwb]
        refine ⟨m' - 1, by omega, b + 1, by omega, ?_, by rw [sizeB_succ, c4]; simp, by omega, by rw [gg]; simp [disjB, c4]⟩
        apply bitsT_congr
        intro j hj
        by_cases e : j = b
        · subst e; simp [c4]
        · have : (j < b) = (j < b + 1) := by rw [eq_iff_iff]; omega
          simp [this]
      · simp [g1, g3, gH, g4, g5, g15, g16, g17, g42, g43, hb2, hwb, hb3, bitsT_cut hb]
        cases c5 : anyHas d.parts i b
        · simp [g1, g3, gH, g4, g5, g15, g16, g17, g42, g43, hb2, hb3, hwb, hws, bitsT_put hb]
          refine ⟨m' - 1, by omega, b + 1, by omega, ?_, by rw [sizeB_succ, c4]; simp; omega, by omega, by rw [gg]; simp [disjB, c4, c5]⟩
          apply bitsT_congr
          intro j hj
          by_cases e : j = b
          · subst e; simp [c4]
          · have : (j < b) = (j < b + 1) := by rw [eq_iff_iff]; omega
            simp [this, e]
        · simp [g1, g3, gH, g4, g5, g15, g16, g17, g42, g43, hb2, hb3, hwb]
          simp [dfaOk, partsOk, hh, gg, disjB, c4, c5]
    · obtain rfl : b = 256 := by omega
      simp [g1, g3, gH, g4, g5, g15, g16, g17, g42, g43, hw]
      refine ⟨m - 1, by omega, i + 1, by omega, ?_, hlast, by rw [sizeTo_succ]; rfl, by omega, by rw [hh, gg, disjFrom_end]; simp⟩
      apply bitsT_congr
      intro j hj
      simp [hj, anyHas_succ]
  · obtain rfl : i = d.parts.length := by omega
    rw [partsFrom_end] at hh
    have hlast : sizeTo d.parts d.parts.length ≤ 256 * 1048576 := by have := sizeTo_le (ps := d.parts) d.parts.length; omega
    simp [h1, h3, hH, h4, h5, h15, h16, h17]
    by_cases c1 : sizeTo d.parts d.parts.length = 256
    case neg =>
      have c1' : ¬ ((sizeTo d.parts d.parts.length : Nat) : Int) = 256 := by omega
      simp [h1, h3, hH, h4, h5, h15, h16, h17, c1, c1']
      simp [dfaOk, partsOk, c1]
    have c1' : ((sizeTo d.parts d.parts.length : Nat) : Int) = 256 := by omega
    have hp : partsOk d.parts = true := by simp [partsOk, hh, c1]
    simp [h1, h3, hH, h4, h5, h15, h16, h17, c1, c1']
    refine TWoH.callV (tc_in d.rows.length 1 40) callable_96 (by simp) (by simp) (by simp) (by simp) ?_
    simp
    by_cases c2a : (1 : Int) ≤ d.rows.length
    case neg =>
      have c2n : (d.rows.length : Int) < 1 := by omega
      simp [h1, h3, hH, h4, h5, h15, h16, h17, c2a, c2n]
      simp only [dfaOk, hp, Bool.true_and]
      rw [decide_eq_false (show ¬ 1 ≤ d.rows.length by omega)]; rfl
    by_cases c2b : (d.rows.length : Int) ≤ 40
    case neg =>
      have c2n : (40 : Int) < d.rows.length := by omega
      simp [h1, h3, hH, h4, h5, h15, h16, h17, c2a, c2b, c2n]
      simp only [dfaOk, hp, Bool.true_and]
      rw [decide_eq_false (show ¬ d.rows.length ≤ 40 by omega), Bool.and_false]; rfl
    have c2 : (1 : Int) ≤ d.rows.length ∧ (d.rows.length : Int) ≤ 40 := ⟨c2a, c2b⟩
    simp [h1, h3, hH, h4, h5, h15, h16, h17, c2.1, c2.2]
    refine gif_intro (fun c4 => ?_) (fun c4 => ?_) <;> simp [h1, c4]
    case refine_2 =>
      have : ¬ d.acc.length = d.rows.length := by omega
      simp [dfaOk, this]
    have hal : d.acc.length = d.rows.length := by omega
    have hr : dfaOk d = rowsFrom d 0 := by
      have h40 : d.rows.length ≤ 40 := by omega
      have h1 : 1 ≤ d.rows.length := by omega
      simp [dfaOk, hp, h40, h1, hal]
    rw [hr]
    refine TWcH.loop [] (fun m s => ∃ i : Nat, i + m = d.rows.length ∧ s.σ 1 = .rptr [.ro (d.parts.map encP), .ro (d.rows.map encR), .ro (d.acc.map encIn)] 0 ∧ s.σ 79 = .ro (d.rows.map encR) ∧ s.σ 80 = .val (.int .i64 d.rows.length) ∧ s.σ 81 = .val (.int .i64 i) ∧ rowsFrom d 0 = rowsFrom d i) d.rows.length ⟨0, by simp [h1]⟩ ?_
    rintro m ⟨σ, H⟩ ⟨i, him, g1, g79, g80, g81, gg⟩
    simp only at g1 g79 g80 g81
    by_cases hi : i < d.rows.length
    · have hw : IntKind.i64.wrap ((i : Int) + 1) = i + 1 := wrapi (by omega)
      have hia : i < d.acc.length := by omega
      have hpi : ∀ h, d.rows[i]'h = rw_ d i := fun _ => (rw_eq hi).symm
      have hpa : ∀ h, d.acc[i]'h = ac_ d i := fun _ => (ac_eq hia).symm
      rw [rowsFrom_next hi] at gg
      simp [g1, g79, g80, g81, hi, hia, hpi, hpa, encR, encIn]
      by_cases d1 : (rw_ d i).length = d.parts.length
      case neg =>
        have d1' : ¬ ((rw_ d i).length : Int) = d.parts.length := by omega
        simp [g1, g79, g80, g81, hi, hia, hpi, hpa, encR, encIn, d1, d1']
        rw [gg]; simp [rowAt, d1]
      simp [g1, g79, g80, g81, hi, hia, hpi, hpa, encR, encIn, d1]
      refine TWoH.callV (tc_in (ac_ d i) (-1) 4) callable_96 (by simp) (by simp) (by simp) (by simp) ?_
      simp
      by_cases d2a : -1 ≤ ac_ d i
      case neg =>
        have d2n : ac_ d i < -1 := by omega
        simp [g1, g79, g80, g81, hi, d2a, d2n]
        rw [gg, rowAt, decide_eq_false d2a]; simp
      by_cases d2b : ac_ d i ≤ 4
      case neg =>
        have d2n : 4 < ac_ d i := by omega
        simp [g1, g79, g80, g81, hi, d2a, d2b, d2n]
        rw [gg, rowAt, decide_eq_false (show ¬ ac_ d i < 5 by omega)]; simp
      have d2 : -1 ≤ ac_ d i ∧ ac_ d i ≤ 4 := ⟨d2a, d2b⟩
      have d2x : ¬ ac_ d i < -1 := by omega
      have d2y : ¬ 4 < ac_ d i := by omega
      simp [g1, g79, g80, g81, hi, d2x, d2y]
      have hrow : rowAt d i = (rw_ d i).all (entOk d) := by
        have e2 : -1 ≤ ac_ d i := d2.1
        have e3 : ac_ d i < 5 := by omega
        simp [rowAt, d1, e2, e3]
      rw [hrow] at gg
      have hrl : (rw_ d i).length ≤ 1048576 := by rw [rw_eq hi]; exact hs.row _ (List.getElem_mem hi)
      refine TWcH.loop [] (fun m' s => ∃ k : Nat, k + m' = (rw_ d i).length ∧ s.σ 1 = .rptr [.ro (d.parts.map encP), .ro (d.rows.map encR), .ro (d.acc.map encIn)] 0 ∧ s.σ 79 = .ro (d.rows.map encR) ∧ s.σ 80 = .val (.int .i64 d.rows.length) ∧ s.σ 81 = .val (.int .i64 i) ∧ s.σ 101 = .ro ((rw_ d i).map encIn) ∧ s.σ 102 = .val (.int .i64 (rw_ d i).length) ∧ s.σ 103 = .val (.int .i64 k) ∧ (rw_ d i).all (entOk d) = ((rw_ d i).drop k).all (entOk d)) (rw_ d i).length ⟨0, by simp [g1, g79, g80, g81, d1, encIn]⟩ ?_
      rintro m' ⟨σ, H⟩ ⟨k, hkm, f1, f79, f80, f81, f101, f102, f103, ff⟩
      simp only at f1 f79 f80 f81 f101 f102 f103
      by_cases hk : k < (rw_ d i).length
      · have hwk : IntKind.i64.wrap ((k : Int) + 1) = k + 1 := wrapi (by omega)
        have hwr : IntKind.i64.wrap ((d.rows.length : Int) - 1) = d.rows.length - 1 := wrapi (by omega)
        rw [allDrop hk] at ff
        simp [f1, f79, f80, f81, f101, f102, f103, hk, encIn, hwr]
        refine TWoH.callV (tc_in (rw_ d i)[k] (-1) ((d.rows.length : Int) - 1)) callable_96 (by simp) (by simp) (by simp) (by simp) ?_
        simp
        by_cases e1a : -1 ≤ (rw_ d i)[k]
        case neg =>
          have e1n : (rw_ d i)[k] < -1 := by omega
          simp [f1, f79, f80, f81, f101, f102, f103, e1a, e1n]
          rw [gg, ff, entOk, decide_eq_false e1a]; simp
        by_cases e1b : (rw_ d i)[k] ≤ (d.rows.length : Int) - 1
        case neg =>
          have e1n : (d.rows.length : Int) - 1 < (rw_ d i)[k] := by omega
          simp [f1, f79, f80, f81, f101, f102, f103, e1a, e1b, e1n]
          rw [gg, ff, entOk, decide_eq_false (show ¬ (rw_ d i)[k] < d.rows.length by omega)]; simp
        have e1 : -1 ≤ (rw_ d i)[k] ∧ (rw_ d i)[k] ≤ (d.rows.length : Int) - 1 := ⟨e1a, e1b⟩
        have e1x : ¬ (rw_ d i)[k] < -1 := by omega
        have e1y : ¬ (d.rows.length : Int) - 1 < (rw_ d i)[k] := by omega
        simp [f1, f79, f80, f81, f101, f102, f103, e1x, e1y, hwk]
        have e3 : (rw_ d i)[k] < d.rows.length := by omega
        exact ⟨m' - 1, by omega, k + 1, by omega, by omega, by rw [ff]; simp [entOk, e1.1, e3]⟩
      · obtain rfl : k = (rw_ d i).length := by omega
        simp [f1, f79, f80, f81, f101, f102, f103, hw]
        exact ⟨m - 1, by omega, i + 1, by omega, by omega, by rw [gg, ff]; simp⟩
    · obtain rfl : i = d.rows.length := by omega
      simp [g1, g79, g80, g81]
      rw [gg, rowsFrom_end]
end Go.Proofs.YtdomnlnanbekaaaGreatDoor.R

open Go Go.Proofs.YtdomnlnanbekaaaGreatDoor.T
namespace Go.Proofs.YtdomnlnanbekaaaGreatDoor.R
set_option maxHeartbeats 4000000
set_option maxRecDepth 100000
set_option linter.unusedSimpArgs false
set_option linter.unusedVariables false
attribute [local simp] bsV bsRows chunk fillT partsT appV makeV rowsOf cellsOf placeOf

/-- What a right machine is. -/
structure DOk (d : Dfa) : Prop where
  parts : partsOk d.parts = true
  one : 1 ≤ d.rows.length
  most : d.rows.length ≤ 40
  acc : d.acc.length = d.rows.length
  row : ∀ i, i < d.rows.length → (rw_ d i).length = d.parts.length
  low : ∀ i, i < d.rows.length → -1 ≤ ac_ d i
  high : ∀ i, i < d.rows.length → ac_ d i < 5
  ent : ∀ i, i < d.rows.length → ∀ t ∈ rw_ d i, -1 ≤ t ∧ t < d.rows.length
theorem dok_of {d : Dfa} (h : dfaOk d = true) : DOk d := by
  simp only [dfaOk, Bool.and_eq_true, decide_eq_true_eq] at h
  obtain ⟨⟨⟨⟨h1, h2⟩, h3⟩, h4⟩, h5⟩ := h
  have key : ∀ i, i < d.rows.length → rowAt d i = true := by
    intro i hi
    unfold rowsFrom at h5
    rw [List.all_eq_true] at h5
    exact h5 i (by rw [List.mem_range'_1]; omega)
  simp only [rowAt, Bool.and_eq_true, decide_eq_true_eq, List.all_eq_true, entOk] at key
  exact ⟨h1, h2, h3, h4, fun i hi => (key i hi).1.1.1, fun i hi => (key i hi).1.1.2, fun i hi => (key i hi).1.2, fun i hi => (key i hi).2⟩
inductive Live (d : Dfa) : Nat → Prop
  | acc (s : Nat) (hs : s < d.rows.length) (h : 0 ≤ ac_ d s) : Live d s
  | step (s : Nat) (hs : s < d.rows.length) (t : Int) (ht : t ∈ rw_ d s) (h0 : 0 ≤ t) (h : Live d t.toNat) : Live d s
def lv (bl : List Bool) (s : Nat) : Bool := (bl[s]?).getD false
theorem lv_eq {bl : List Bool} {s : Nat} (h : s < bl.length) : lv bl s = bl[s] := by simp [lv, getI h]
theorem lv_set {bl : List Bool} {s j : Nat} {x : Bool} : lv (bl.set s x) j = if s = j ∧ s < bl.length then x else lv bl j := by
  unfold lv
  rw [List.getElem?_set]
  by_cases e : s = j
  · subst e
    by_cases h : s < bl.length
    · simp [h]
    · simp [h]
  · simp [e]
def isT (bl : List Bool) (t : Int) : Bool := decide (0 ≤ t) && lv bl t.toNat
def isL (d : Dfa) (bl : List Bool) (s : Nat) : Bool := decide (0 ≤ ac_ d s) || (rw_ d s).any (isT bl)
structure IsLive (d : Dfa) (bl : List Bool) : Prop where
  len : bl.length = d.rows.length
  iff : ∀ s, s < d.rows.length → (lv bl s = true ↔ Live d s)
def SoundL (d : Dfa) (bl : List Bool) : Prop := ∀ s, lv bl s = true → Live d s
def ClosedL (d : Dfa) (bl : List Bool) : Prop := ∀ s, s < d.rows.length → isL d bl s = true → lv bl s = true
theorem live_lt {d : Dfa} {s : Nat} (h : Live d s) : s < d.rows.length := by cases h <;> assumption
theorem isLive_of {d : Dfa} {bl : List Bool} (hl : bl.length = d.rows.length) (h1 : SoundL d bl) (h2 : ClosedL d bl) : IsLive d bl := by
  refine ⟨hl, fun s hs => ⟨h1 s, fun h => ?_⟩⟩
  induction h with
  | acc s hs h => exact h2 s hs (by simp [isL, h])
  | step s hs t ht h0 h ih =>
    refine h2 s hs ?_
    have := ih (live_lt h)
    simp only [isL, Bool.or_eq_true, List.any_eq_true]
    right
    exact ⟨t, ht, by simp [isT, h0, this]⟩
theorem isLive_uniq {d : Dfa} {a b : List Bool} (ha : IsLive d a) (hb : IsLive d b) : a = b := by
  apply List.ext_getElem (by rw [ha.len, hb.len])
  intro i h1 h2
  have h := ha.len
  have e1 := ha.iff i (by omega)
  have e2 := hb.iff i (by omega)
  rw [lv_eq h1] at e1
  rw [lv_eq h2] at e2
  rw [Bool.eq_iff_iff, e1, e2]
theorem isLive_ex (d : Dfa) : ∃ bl, IsLive d bl := by
  refine ⟨(List.range d.rows.length).map fun s => @decide (Live d s) (Classical.propDecidable _), by simp, fun s hs => ?_⟩
  simp [lv, hs]
theorem sound_step {d : Dfa} {bl : List Bool} {s : Nat} (h : SoundL d bl) (hs : s < d.rows.length) (hi : isL d bl s = true) : Live d s := by
  simp only [isL, Bool.or_eq_true, decide_eq_true_eq, List.any_eq_true, isT, Bool.and_eq_true] at hi
  rcases hi with hi | ⟨t, ht, h0, hv⟩
  · exact .acc s hs hi
  · exact .step s hs t ht h0 (h _ hv)
theorem sound_set {d : Dfa} {bl : List Bool} {s : Nat} (h : SoundL d bl) (hs : Live d s) : SoundL d (bl.set s true) := by
  intro j hj
  rw [lv_set] at hj
  split at hj
  · rename_i e; rw [← e.1]; exact hs
  · exact h j hj
def falses (bl : List Bool) : Nat := bl.countP (fun b => !b)
theorem falses_set {bl : List Bool} {s : Nat} (hs : s < bl.length) (h : lv bl s = false) : falses (bl.set s true) + 1 = falses bl := by
  rw [lv_eq hs] at h
  unfold falses
  induction bl generalizing s with
  | nil => simp at hs
  | cons b bl ih =>
    cases s with
    | zero => simp only [List.getElem_cons_zero] at h; subst h; simp [List.countP_cons]
    | succ s =>
      simp only [List.getElem_cons_succ] at h
      have := ih (s := s) (by simpa using hs) h
      simp only [List.set_cons_succ, List.countP_cons]
      omega
theorem falses_le (bl : List Bool) : falses bl ≤ bl.length := List.countP_le_length
theorem isL_mono {d : Dfa} {a b : List Bool} (h : ∀ j, lv a j = true → lv b j = true) {s : Nat} (hs : isL d a s = true) : isL d b s = true := by
  simp only [isL, Bool.or_eq_true, decide_eq_true_eq, List.any_eq_true, isT, Bool.and_eq_true] at hs ⊢
  rcases hs with hs | ⟨t, ht, h0, hv⟩
  · exact .inl hs
  · exact .inr ⟨t, ht, h0, h _ hv⟩
theorem lv_of_ent {d : Dfa} {bl : List Bool} (hl : bl.length = d.rows.length) {t : Int} (h1 : t < d.rows.length) (h0 : 0 ≤ t) : ∀ h, bl[t.toNat]'h = lv bl t.toNat := fun h => (lv_eq h).symm
theorem set_lv {bl : List Bool} {s : Nat} {x : Bool} (h : s < bl.length) : lv (bl.set s x) s = x := by simp [lv_set, h]
theorem set_id {bl : List Bool} {s : Nat} (h : s < bl.length) : bl.set s (lv bl s) = bl := by rw [lv_eq h]; simp
end Go.Proofs.YtdomnlnanbekaaaGreatDoor.R

open Go Go.Proofs.YtdomnlnanbekaaaGreatDoor.T
namespace Go.Proofs.YtdomnlnanbekaaaGreatDoor.R
set_option maxHeartbeats 4000000
set_option maxRecDepth 100000
set_option linter.unusedSimpArgs false
set_option linter.unusedVariables false
attribute [local simp] bsV bsRows chunk fillT partsT appV makeV rowsOf cellsOf placeOf

/-- Where a state goes by a byte, from the k-th part on. -/
def nextFrom (d : Dfa) (s : Nat) (b : Nat) (k : Nat) : Int := match (List.range' k (d.parts.length - k)).find? (fun k => hasS (pt d.parts k) b) with
  | some k => ((rw_ d s)[k]?).getD (-1)
  | none => -1
def nextF (d : Dfa) (s b : Nat) : Int := nextFrom d s b 0
theorem nextFrom_next {d : Dfa} {s b k : Nat} (h : k < d.parts.length) : nextFrom d s b k = if hasS (pt d.parts k) b = true then ((rw_ d s)[k]?).getD (-1) else nextFrom d s b (k + 1) := by
  unfold nextFrom
  rw [show d.parts.length - k = (d.parts.length - (k + 1)) + 1 by omega, List.range'_succ, List.find?_cons]
  cases hasS (pt d.parts k) b <;> simp
theorem nextFrom_end {d : Dfa} {s b k : Nat} (h : ¬ k < d.parts.length) : nextFrom d s b k = -1 := by
  unfold nextFrom; rw [show d.parts.length - k = 0 by omega]; rfl
theorem nextFrom_skip {d : Dfa} {s b k : Nat} : ∀ i, i ≤ k → k ≤ d.parts.length → (∀ j, i ≤ j → j < k → hasS (pt d.parts j) b = false) → nextFrom d s b i = nextFrom d s b k := by
  intro i hi hk h
  induction hn : k - i generalizing i with
  | zero => obtain rfl : i = k := by omega
            rfl
  | succ n ih =>
    rw [nextFrom_next (by omega), if_neg (by rw [h i (by omega) (by omega)]; simp)]
    exact ih (i + 1) (by omega) (fun j a b => h j (by omega) b) (by omega)
theorem parts_disj {ps : List (List (Int × Int))} (h : partsFrom ps 0 = true) {i : Nat} (hi : i < ps.length) {b : Nat} (hb : b < 256) (h1 : hasS (pt ps i) b = true) : anyHas ps i b = false := by
  unfold partsFrom at h
  rw [List.all_eq_true] at h
  have := h i (by rw [List.mem_range'_1]; omega)
  simp only [partAt, Bool.and_eq_true] at this
  have h2 := this.2
  unfold disjFrom at h2
  rw [List.all_eq_true] at h2
  have h3 := h2 b (by rw [List.mem_range'_1]; omega)
  simp only [disjB, h1, Bool.true_and, Bool.not_eq_true'] at h3
  exact h3
theorem anyHas_false {ps : List (List (Int × Int))} {i b : Nat} (h : anyHas ps i b = false) : ∀ j, j < i → hasS (pt ps j) b = false := by
  intro j hj
  unfold anyHas at h
  rw [List.any_eq_false] at h
  simpa using h j (List.mem_range.2 hj)
theorem next_of_has {d : Dfa} (h : partsFrom d.parts 0 = true) {s k b : Nat} (hk : k < d.parts.length) (hb : b < 256) (h1 : hasS (pt d.parts k) b = true) : nextF d s b = ((rw_ d s)[k]?).getD (-1) := by
  unfold nextF
  rw [nextFrom_skip 0 (Nat.zero_le _) (Nat.le_of_lt hk) (fun j _ hj => anyHas_false (parts_disj h hk hb h1) j hj), nextFrom_next hk, if_pos h1]
theorem countP_or {l : List Nat} {f g : Nat → Bool} (h : ∀ b ∈ l, f b = true → g b = false) : l.countP (fun b => g b || f b) = l.countP g + l.countP f := by
  induction l with
  | nil => rfl
  | cons a l ih =>
    have := ih fun b hb => h b (by simp [hb])
    have ha := h a (by simp)
    simp only [List.countP_cons, this]
    cases hf : f a <;> cases hg : g a <;> simp_all <;> omega
theorem size_any {ps : List (List (Int × Int))} (h : partsFrom ps 0 = true) : ∀ i, i ≤ ps.length → (List.range 256).countP (anyHas ps i) = sizeTo ps i
  | 0, _ => by simp [sizeTo, anyHas]
  | i + 1, hi => by
    have ih := size_any h i (by omega)
    rw [sizeTo_succ, ← ih]
    have : (anyHas ps (i + 1)) = fun b => anyHas ps i b || hasS (pt ps i) b := by funext b; exact anyHas_succ
    rw [this, countP_or (f := fun b => hasS (pt ps i) b) (g := anyHas ps i)]
    · rfl
    · intro b hb h1
      exact parts_disj h (by omega) (List.mem_range.1 hb) h1
theorem parts_all {ps : List (List (Int × Int))} (h : partsOk ps = true) {b : Nat} (hb : b < 256) : anyHas ps ps.length b = true := by
  simp only [partsOk, Bool.and_eq_true, decide_eq_true_eq] at h
  have h1 := size_any h.1 ps.length (Nat.le_refl _)
  rw [h.2] at h1
  have h2 := List.countP_eq_length (p := anyHas ps ps.length) (l := List.range 256)
  rw [h1] at h2
  exact (h2.1 (by simp)) b (List.mem_range.2 hb)
theorem parts_at {ps : List (List (Int × Int))} (h : partsOk ps = true) {b : Nat} (hb : b < 256) : ∃ k, k < ps.length ∧ hasS (pt ps k) b = true := by
  have := parts_all h hb
  unfold anyHas at this
  rw [List.any_eq_true] at this
  obtain ⟨k, hk, h1⟩ := this
  exact ⟨k, List.mem_range.1 hk, h1⟩
theorem partsFrom_of {ps : List (List (Int × Int))} (h : partsOk ps = true) : partsFrom ps 0 = true := by
  simp only [partsOk, Bool.and_eq_true] at h; exact h.1
theorem next_ok {d : Dfa} (ho : DOk d) {s b : Nat} (hs : s < d.rows.length) : -1 ≤ nextF d s b ∧ nextF d s b < d.rows.length := by
  unfold nextF nextFrom
  split
  · rename_i k hk
    cases hr : (rw_ d s)[k]? with
    | none => simp; have := ho.one; omega
    | some t => simp only [Option.getD_some]; exact ho.ent s hs t (List.mem_of_getElem? hr)
  · have := ho.one; omega
/-- A row of 256 numbers. -/
def intsT (f : Nat → Int) : List TV := (List.range 256).map fun b => .val (.int .i64 (f b))
@[simp] theorem intsT_len (f : Nat → Int) : (intsT f).length = 256 := by simp [intsT]
theorem intsT_noH (f : Nat → Int) : noHL (intsT f) = true := by
  unfold intsT
  induction List.range 256 with
  | nil => rfl
  | cons a l ih => simp [ih]
theorem intsT_noRo (f : Nat → Int) : noRoL (intsT f) = true := by
  unfold intsT
  induction List.range 256 with
  | nil => rfl
  | cons a l ih => simp [ih]
theorem intsT_roL (f : Nat → Int) : roL (intsT f) = intsT f := by
  unfold intsT
  induction List.range 256 with
  | nil => rfl
  | cons a l ih => simp only [List.map_cons, roL, ih]; simp
theorem intsT_cut {f : Nat → Int} {i : Nat} (h : i < 256) : List.take 1 (List.drop i (intsT f)) = [.val (.int .i64 (f i))] := by
  rw [List.drop_eq_getElem_cons (by simpa using h)]
  simp [intsT]
theorem intsT_congr {f g : Nat → Int} (h : ∀ b, b < 256 → f b = g b) : intsT f = intsT g := by
  unfold intsT
  apply List.map_congr_left
  intro b hb
  rw [h b (List.mem_range.1 hb)]
theorem intsT_put {f : Nat → Int} {i : Nat} {x : Int} (h : i < 256) : List.take i (intsT f) ++ TV.val (.int .i64 x) :: List.drop (i + 1) (intsT f) = intsT fun b => if b = i then x else f b := by
  apply List.ext_getElem?
  intro j
  have hat : ∀ {f : Nat → Int} {j : Nat}, j < 256 → (intsT f)[j]? = some (.val (.int .i64 (f j))) := fun h => by simp [intsT, h]
  by_cases h1 : j < i
  · rw [List.getElem?_append_left (by simp; omega), List.getElem?_take_of_lt h1, hat (by omega), hat (by omega), if_neg (by omega)]
  · rw [List.getElem?_append_right (by simp; omega)]
    have hl : (List.take i (intsT f)).length = i := by simp; omega
    rw [hl]
    by_cases h2 : j = i
    · subst h2; rw [Nat.sub_self, hat h, if_pos rfl]; rfl
    · obtain ⟨d, hd⟩ : ∃ d, j - i = d + 1 := ⟨j - i - 1, by omega⟩
      rw [hd, List.getElem?_cons_succ, List.getElem?_drop, show i + 1 + d = j by omega]
      by_cases h3 : j < 256
      · rw [hat h3, hat h3, if_neg h2]
      · rw [List.getElem?_eq_none (by simp; omega), List.getElem?_eq_none (by simp; omega)]
def tabR (n : Nat) (F : Nat → Nat → Int) : List (List TV) := (List.range n).map fun s => intsT (F s)
@[simp] theorem tabR_len (n : Nat) (F : Nat → Nat → Int) : (tabR n F).length = n := by simp [tabR]
theorem tabR_at {n : Nat} {F : Nat → Nat → Int} {s : Nat} : ∀ h, (tabR n F)[s]'h = intsT (F s) := fun h => by simp [tabR]
theorem tabR_congr {n : Nat} {F G : Nat → Nat → Int} (h : ∀ s b, s < n → b < 256 → F s b = G s b) : tabR n F = tabR n G := by
  unfold tabR
  apply List.map_congr_left
  intro s hs
  exact intsT_congr fun b hb => h s b (List.mem_range.1 hs) hb
theorem tabR_set {n : Nat} {F : Nat → Nat → Int} {s : Nat} (hs : s < n) (g : Nat → Int) : (tabR n F).set s (intsT g) = tabR n fun s' b => if s' = s then g b else F s' b := by
  apply List.ext_getElem?
  intro j
  rw [List.getElem?_set]
  by_cases e : s = j
  · subst e; simp [tabR, hs]
  · rw [if_neg e]
    by_cases hj : j < n
    · simp [tabR, hj, Ne.symm e]
    · rw [List.getElem?_eq_none (by simp; omega), List.getElem?_eq_none (by simp; omega)]
@[simp] theorem tabR_noHR (n : Nat) (F : Nat → Nat → Int) : noHR (tabR n F) = true := by
  unfold tabR
  induction List.range n with
  | nil => rfl
  | cons a l ih => simp [ih, intsT_noH]
@[simp] theorem tabR_noRoR (n : Nat) (F : Nat → Nat → Int) : noRoR (tabR n F) = true := by
  unfold tabR
  induction List.range n with
  | nil => rfl
  | cons a l ih => simp [ih, intsT_noRo]
@[simp] theorem tabR_roRows (n : Nat) (F : Nat → Nat → Int) : roRows (tabR n F) = tabR n F := by
  unfold tabR
  induction List.range n with
  | nil => rfl
  | cons a l ih => simp [ih, intsT_roL]
/-- What stands in the table behind k parts. -/
def tv (d : Dfa) (k s b : Nat) : Int := if anyHas d.parts k b = true then nextF d s b else 0
end Go.Proofs.YtdomnlnanbekaaaGreatDoor.R
