/- Part 3: what the walk of the code stands on. Conditions: none but those that each theorem states. -/
import Derived.Test.YtibeeohnjabhkaaGreatDoorK2
open Go Go.Proofs.YtibeeohnjabhkaaGreatDoor.T
namespace Go.Proofs.YtibeeohnjabhkaaGreatDoor.R
set_option maxHeartbeats 4000000
set_option maxRecDepth 100000
set_option linter.unusedSimpArgs false
set_option linter.unusedVariables false
attribute [local simp] bsV bsRows chunk fillT partsT appV makeV rowsOf cellsOf placeOf frzT frz1
@[simp] theorem noRoR_encS (l : List (Int × Int)) : noRoR (l.map encS) = true := by induction l <;> simp [*, encS]
theorem tc_l2Byte (b : Int) : TC Tryz.prog 64 [.val (.int .i64 b)] [] (.agg (encRex (.mk 1 [(b, b)] []))) [] := by
  suffices h : TC Tryz.prog 64 [.val (.int .i64 b)] [] (.agg [.val (.int .i64 1), .own 66 [encS (b, b)], .val (.slice none 0 0)]) [] by simpa [encRex, encRexL, encS] using h.frz
  refine TC.enter Tryz.func64 rfl (by simp [Tryz.ntmps64]) rfl (tw_sound (ρ := []) ?_)
  rw [Tryz.ntmps64]
  simp
  refine gall_intro fun a ha => ?_
  simp
  refine gall_intro fun c hc => ?_
  have n1 : ¬ a = c := ne_some (by simp) hc
  have n2 : ¬ c = a := fun e => n1 e.symm
  simp [n1, n2, encS]
theorem tc_l1Min (a b : Int) : TC Tryz.prog 100 [.val (.int .i64 a), .val (.int .i64 b)] [] (.val (.int .i64 (if a < b then a else b))) [] := by
  refine TC.enter Tryz.func100 rfl (by simp [Tryz.ntmps100]) rfl (tw_sound (ρ := []) ?_)
  rw [Tryz.ntmps100]
  by_cases c : a < b <;> simp [c]
theorem tcr_l1Of (l : List Bool) (hl : l.length = 256) : TCR Tryz.prog 51 [.ro (l.map encB)] [] (fun r o => ∃ x : List (Int × Int), r = .own 66 (x.map encS) ∧ x.length ≤ 256 ∧ o = []) := by
  refine TCR.enter Tryz.func51 rfl (by simp [Tryz.ntmps51]) rfl (tw_sound (ρ := []) ?_)
  rw [Tryz.ntmps51]
  simp
  refine gall_intro fun id hid => ?_
  simp
  refine TWcH.loop [] (fun m st => ∃ (i : Nat) (x : List (Int × Int)) (id : Nat), i + m = 256 ∧ x.length ≤ i ∧ st.σ 0 = .ro (l.map encB) ∧ st.σ 3 = .hd id ∧ st.H id = some (.own 66 (x.map encS)) ∧ st.σ 4 = .val (.int .i64 i)) 256 ⟨0, [], id, by simp⟩ ?_
  rintro m ⟨σ, H⟩ ⟨i, x, id, him, hx, h0, h3, hH, h4⟩
  simp only at h0 h3 hH h4
  by_cases hi : i < 256
  · have hw : IntKind.i64.wrap ((i : Int) + 1) = i + 1 := wrapi (by omega)
    have hw1 : IntKind.i64.wrap ((i : Int) - 1) = i - 1 := wrapi (by omega)
    have hi2 : (i : Int) < 256 := by omega
    have hil : i < l.length := by omega
    simp [h0, h3, hH, h4, hi, hi2, hil, encB]
    cases c : l[i]
    · simp [h0, h3, hH, h4, hi, hi2, hil, hw, c]
      exact ⟨m - 1, by omega, i + 1, by omega, x, by omega, rfl, by omega⟩
    simp [h0, h3, hH, h4, hi, hi2, hil, hw, c]
    have k1 : (x.length + 1) * 16 ≤ 140737488355328 := by omega
    have k2 : x.length ≤ 9223372036854775806 := by omega
    by_cases c2 : x = []
    · subst c2
      simp [h0, h3, hH, h4, hi, hi2, hil, hw, c]
      refine gall_intro fun i1 h1 => ?_
      have n1 : ¬ i1 = id := fun e => by rw [e, hH] at h1; cases h1
      have n2 : ¬ id = i1 := fun e => n1 e.symm
      simp [h0, h3, hH, h4, hi, hi2, hil, hw, c, n1, n2]
      refine gall_intro fun i2 h2 => ?_
      simp [h0, h3, hH, h4, hi, hi2, hil, hw, c, n1, n2]
      exact ⟨m - 1, by omega, i + 1, by omega, [(i, i)], by simp, by simp [encS], by omega⟩
    have c3 : 0 < x.length := List.length_pos_iff.2 c2
    have c4 : x.length - 1 < x.length := by omega
    have hwx : IntKind.i64.wrap ((x.length : Int) - 1) = ((x.length - 1 : Nat) : Int) := by rw [wrapi (by omega)]; omega
    obtain ⟨u, v, hlast⟩ : ∃ u v, ∀ h, x[x.length - 1]'h = (u, v) := ⟨x[x.length - 1].1, x[x.length - 1].2, fun _ => rfl⟩
    by_cases c5 : v = (i : Int) - 1
    · simp [h0, h3, hH, h4, hi, hi2, hil, hw, c, c2, c3, c4, hwx, hlast, encS, hw1, c5]
      exact ⟨m - 1, by omega, i + 1, by omega, x.set (x.length - 1) (u, i), by simp; omega, by simp [encS], by omega⟩
    · simp [h0, h3, hH, h4, hi, hi2, hil, hw, c, c2, c3, c4, hwx, hlast, encS, hw1, c5]
      refine gall_intro fun i1 h1 => ?_
      have n1 : ¬ i1 = id := fun e => by rw [e, hH] at h1; cases h1
      have n2 : ¬ id = i1 := fun e => n1 e.symm
      simp [h0, h3, hH, h4, hi, hi2, hil, hw, c, n1, n2, k1, k2]
      refine gall_intro fun i2 h2 => ?_
      simp [h0, h3, hH, h4, hi, hi2, hil, hw, c, n1, n2]
      exact ⟨m - 1, by omega, i + 1, by omega, x ++ [((i : Int), (i : Int))], by simp; omega, by simp [encS], by omega⟩
  · obtain rfl : i = 256 := by omega
    simp [h0, h3, hH, h4]
    exact ⟨x, rfl, hx⟩
def LN : List Int := [0, 48, 97, 97, 98, 99, 120, 254, 255]
def LW : List Int := [0, 0, 1, 2, 9, 25, 200]
theorem tcr_l1Set (b : List UInt8) (p : Nat) (hb : b.length ≤ 2000) (hp : p ≤ 900000000) : TCR Tryz.prog 84 [.pd 0 0 0 0] [rdr b p] (fun r o => ∃ (x : List (Int × Int)) (p' : Nat), r = .own 66 (x.map encS) ∧ x.length ≤ 256 ∧ p' ≤ p + 7 ∧ o = [rdr b p']) := by
  refine TCR.enter Tryz.func84 rfl (by simp [Tryz.ntmps84]) rfl (tw_sound (ρ := []) ?_)
  rw [Tryz.ntmps84]
  simp
  refine gall_intro fun id hid => ?_
  have n0 : ¬ id = 0 := fun e => by rw [e] at hid; simp at hid
  have n0' : ¬ 0 = id := fun e => n0 e.symm
  simp [n0, n0']
  refine TWoH.lendR [0] (tcr_pick b p 3 hb (by omega)) callable_30 (by simp [List.findIdx?_cons]) (by simp [n0, n0']) (by simp) (by simp) ?_
  rintro r o ⟨k, rfl, k0, k1, rfl⟩
  refine ⟨by simp [rdr], by simp, .inl (by simp [List.findIdx?_cons]), fun q hq => ?_⟩
  have k2 := k1 (by omega)
  have hw : IntKind.i64.wrap (1 + k) = 1 + k := wrapi (by omega)
  simp [hw]
  refine TWcH.loop [] (fun m st => ∃ (i p' : Nat) (bl : List Bool), i = m ∧ p' + 2 * i ≤ p + 7 ∧ bl.length = 256 ∧ st.σ 0 = .pd 0 0 0 0 ∧ st.H 0 = some (rdr b p') ∧ st.σ 3 = .hd id ∧ st.H id = some (.own 4 (bl.map encB)) ∧ st.σ 4 = .val (.int .i64 i)) (1 + k).toNat ⟨(1 + k).toNat, p + 1, List.replicate 256 false, rfl, by omega, by simp, by simp [n0, n0', encB]; omega⟩ ?_
  rintro m ⟨σ, H⟩ ⟨i, p', bl, rfl, hpl, hbl, h0, hH, h3, hI, h4⟩
  simp only at h0 hH h3 hI h4
  by_cases hi : 0 < i
  case neg =>
    obtain rfl : i = 0 := by omega
    simp [h0, hH, h3, hI, h4]
    refine TWoH.callR (tcr_l1Of bl hbl) callable_51 (by simp [hI]) ?_
    rintro r o ⟨y, rfl, hy, rfl⟩
    refine ⟨rfl, by simp, .inr (by simp), fun q hq => ?_⟩
    have q0 : ¬ 0 = q := fun e => by have := hq q (Nat.le_refl _); rw [← e] at this; simp [hH] at this
    simp [q0]
    exact ⟨_, _, ⟨rfl, rfl⟩, by simp, by simp [hH, q0], y, by simp, hy, p', by omega, by simp [hH, q0]⟩
  have hw1 : IntKind.i64.wrap ((i : Int) - 1) = ((i - 1 : Nat) : Int) := by rw [wrapi (by omega)]; omega
  simp [h0, hH, h3, hI, h4, hi]
  refine gall_intro fun i1 hi1 => ?_
  have a0 : ¬ i1 = 0 := fun e => by rw [e, hH] at hi1; cases hi1
  have a0' : ¬ 0 = i1 := fun e => a0 e.symm
  have a1 : ¬ i1 = id := fun e => by rw [e, hI] at hi1; cases hi1
  have a1' : ¬ id = i1 := fun e => a1 e.symm
  simp [h0, hH, h3, hI, h4, hi, a0, a0', a1, a1']
  refine TWoH.turn (Turn.freeze i1 (t := .own 3 (LN.map encI)) (by simp [a0, a0', encI, LN]) ?_)
  refine TWoH.lendR [0] (tcr_num b p' LN hb (by omega) (by simp [LN]) (by simp [LN])) callable_32 (by simp [h0, a0, a0', List.findIdx?_cons, encI, LN]) (by simp [hH, a0, a0', del]) (by simp) (by simp) ?_
  rintro r o ⟨x, hx, rfl, rfl⟩
  have hx1 : 0 ≤ x ∧ x ≤ 255 := by simp [LN] at hx; omega
  refine ⟨by simp [rdr], by simp, .inl (by simp [h0, a0, a0', List.findIdx?_cons]), fun q hq => ?_⟩
  clear hq
  simp [h0, hH, h3, hI, h4, hi, a0, a0', a1, a1', del, n0, n0']
  refine gall_intro fun i2 hi2 => ?_
  have b0 : ¬ i2 = 0 := fun e => by rw [e] at hi2; simp at hi2
  have b0' : ¬ 0 = i2 := fun e => b0 e.symm
  have b1 : ¬ i2 = id := fun e => by rw [e] at hi2; simp [hI, n0, n0', a1', del] at hi2
  have b1' : ¬ id = i2 := fun e => b1 e.symm
  simp [h0, hH, h3, hI, h4, hi, a0, a0', a1, a1', b0, b0', b1, b1', del, n0, n0']
  refine TWoH.turn (Turn.freeze i2 (t := .own 3 (LW.map encI)) (by simp [b0, b0', encI, LW]) ?_)
  refine TWoH.lendR [0] (tcr_num b (p' + 1) LW hb (by omega) (by simp [LW]) (by simp [LW])) callable_32 (by simp [h0, b0, b0', List.findIdx?_cons, encI, LW]) (by simp [hH, b0, b0', del]) (by simp) (by simp) ?_
  rintro r o ⟨y, hy, rfl, rfl⟩
  have hy1 : 0 ≤ y ∧ y ≤ 200 := by simp [LW] at hy; omega
  have hxy : IntKind.i64.wrap (x + y) = x + y := wrapi (by omega)
  refine ⟨by simp [rdr], by simp, .inl (by simp [h0, b0, b0', List.findIdx?_cons]), fun q hq => ?_⟩
  clear hq
  simp [h0, hH, h3, hI, h4, hi, a0, a0', a1, a1', b0, b0', b1, b1', del, n0, n0', hxy]
  refine TWoH.callV (tc_l1Min 255 (x + y)) callable_100 (by simp [hxy]) (by simp) (by simp) (by simp) ?_
  obtain ⟨z, hz, hz1⟩ : ∃ z : Int, (if 255 < x + y then 255 else x + y) = z ∧ z ≤ 255 := ⟨_, rfl, by split <;> omega⟩
  rw [hz]
  simp [h0, hH, h3, hI, h4, hi, a0, a0', a1, a1', b0, b0', b1, b1', del, n0, n0', hxy]
  refine TWcH.loop [] (fun m st => ∃ (j : Int) (bl : List Bool), 0 ≤ j ∧ j ≤ 256 ∧ (m : Int) = 256 - j ∧ bl.length = 256 ∧ st.σ 0 = .pd 0 0 0 0 ∧ st.H 0 = some (rdr b (p' + 2)) ∧ st.σ 3 = .hd id ∧ st.H id = some (.own 4 (bl.map encB)) ∧ st.σ 4 = .val (.int .i64 i) ∧ st.σ 6 = .val (.int .i64 z) ∧ st.σ 7 = .val (.int .i64 j)) (256 - x).toNat ⟨x, bl, by omega, by omega, by omega, hbl, by simp [h0, hH, h3, hI, h4, hi, a0, a0', a1, a1', b0, b0', b1, b1', del, n0, n0', hxy]⟩ ?_
  clear h0 hH h3 hI h4 hi1 hi2 hbl
  clear bl σ H
  rintro m ⟨σ, H⟩ ⟨j, bl, hj0, hj, hjm, hbl, h0, hH, h3, hI, h4, h6, h7⟩
  simp only at h0 hH h3 hI h4 h6 h7
  by_cases c : j ≤ z
  · have hwj : IntKind.i64.wrap (j + 1) = j + 1 := wrapi (by omega)
    have hjl : j.toNat < bl.length := by omega
    have hjl2 : j < bl.length := by omega
    simp [h0, hH, h3, hI, h4, h6, h7, c, hj0, hjl, hjl2, hwj]
    exact ⟨m - 1, by omega, j + 1, by omega, by omega, by omega, bl.set j.toNat true, by simp [hbl], fun e => absurd e n0', by simp [encB], rfl⟩
  · simp [h0, hH, h3, hI, h4, h6, h7, c, hw1]
    exact ⟨i - 1, by omega, p' + 2, by omega, bl, hbl, by simp⟩
end Go.Proofs.YtibeeohnjabhkaaGreatDoor.R

open Go Go.Proofs.YtibeeohnjabhkaaGreatDoor.T
namespace Go.Proofs.YtibeeohnjabhkaaGreatDoor.R
set_option maxHeartbeats 4000000
set_option maxRecDepth 100000
set_option linter.unusedSimpArgs false
set_option linter.unusedVariables false
attribute [local simp] bsV bsRows chunk fillT partsT appV makeV rowsOf cellsOf placeOf frzT frz1
/-- A leaf. -/
def Leaf : Rex → Prop
  | .mk _ s l => s.length ≤ 256 ∧ l = []
theorem Leaf.sm : ∀ {x : Rex}, Leaf x → Sm x
  | .mk _ s l, ⟨h1, h2⟩ => by subst h2; simp only [Sm, SmL]; simp; omega
theorem tcr_l2Leaf (b : List UInt8) (p : Nat) (hb : b.length ≤ 2000) (hp : p ≤ 890000000) : TCR Tryz.prog 65 [.pd 0 0 0 0] [rdr b p] (fun r o => ∃ (x : Rex) (p' : Nat), r = .agg (encRex x) ∧ Leaf x ∧ p' ≤ p + 10 ∧ o = [rdr b p']) := by
  suffices h : TCR Tryz.prog 65 [.pd 0 0 0 0] [rdr b p] (fun r o => ∃ (x : Rex) (p' : Nat), toRo r = .agg (encRex x) ∧ Leaf x ∧ p' ≤ p + 10 ∧ o = [rdr b p']) from
    h.frz.mono fun r o ⟨r0, ⟨x, p', h1, h2⟩, h3⟩ => ⟨x, p', by rw [h3, h1], h2⟩
  refine TCR.enter Tryz.func65 rfl (by simp [Tryz.ntmps65]) rfl (tw_sound (ρ := []) ?_)
  rw [Tryz.ntmps65]
  simp
  refine gall_intro fun a ha => ?_
  have n0 : ¬ a = 0 := fun e => by rw [e] at ha; simp at ha
  have n0' : ¬ 0 = a := fun e => n0 e.symm
  simp [n0, n0']
  refine TWoH.lendR [0] (tcr_pick b p 9 hb (by omega)) callable_30 (by simp [List.findIdx?_cons]) (by simp [n0, n0']) (by simp) (by simp) ?_
  rintro r o ⟨k, rfl, k0, k1, rfl⟩
  refine ⟨by simp [rdr], by simp, .inl (by simp [List.findIdx?_cons]), fun q hq => ?_⟩
  clear hq
  by_cases c0 : k = 0
  · simp [c0, n0, n0']
    exact ⟨_, _, ⟨rfl, rfl⟩, by simp, by simp [n0, n0'], .mk 2 [] [], by simp [encRex, encRexL], by simp [Leaf], p + 1, by omega, by simp [n0, n0']⟩
  by_cases c1 : k = 1
  · simp [c0, c1, n0, n0']
    refine gall_intro fun i1 h1 => ?_
    have a0 : ¬ i1 = 0 := fun e => by rw [e] at h1; simp at h1
    have a0' : ¬ 0 = i1 := fun e => a0 e.symm
    have a1 : ¬ i1 = a := fun e => by rw [e] at h1; simp [n0, n0'] at h1
    have a1' : ¬ a = i1 := fun e => a1 e.symm
    simp [n0, n0', a0, a0', a1, a1']
    exact ⟨_, _, ⟨rfl, rfl⟩, by simp, by simp [n0, n0', a0, a0', a1, a1'], .mk 1 [(97, 98)] [], by simp [encRex, encRexL, encS], by simp [Leaf], p + 1, by omega, by simp [n0, n0', a0, a0', a1, a1']⟩
  by_cases c2 : k = 2
  · simp [c0, c1, c2, n0, n0']
    refine TWoH.lendR [0] (tcr_l1Set b (p + 1) hb (by omega)) callable_84 (by simp [List.findIdx?_cons, n0, n0']) (by simp [n0, n0']) (by simp) (by simp) ?_
    rintro r o ⟨y, p', rfl, hy, hp', rfl⟩
    refine ⟨by simp [rdr], by simp, .inl (by simp [List.findIdx?_cons, n0, n0']), fun q hq => ?_⟩
    have q0 : ¬ q = 0 := fun e => by have := hq q (Nat.le_refl _); rw [e] at this; simp [n0, n0'] at this
    have q0' : ¬ 0 = q := fun e => q0 e.symm
    have q1 : ¬ q = a := fun e => by have := hq q (Nat.le_refl _); rw [e] at this; simp [n0, n0'] at this
    have q1' : ¬ a = q := fun e => q1 e.symm
    clear hq
    simp [n0, n0', q0, q0', q1, q1']
    exact ⟨_, _, ⟨rfl, rfl⟩, by simp, by simp [n0, n0', q0, q0', q1, q1'], .mk 1 y [], by simp [encRex, encRexL], by simp [Leaf, hy], p', by omega, by simp [n0, n0', q0, q0', q1, q1']⟩
  by_cases c3 : k = 3
  · simp [c0, c1, c2, c3, n0, n0']
    refine TWoH.lendR [0] (tcr_pick b (p + 1) 3 hb (by omega)) callable_30 (by simp [List.findIdx?_cons, n0, n0']) (by simp [n0, n0']) (by simp) (by simp) ?_
    rintro r o ⟨j, rfl, j0, j1, rfl⟩
    refine ⟨by simp [rdr], by simp, .inl (by simp [List.findIdx?_cons, n0, n0']), fun q hq => ?_⟩
    clear hq
    have hj : IntKind.i64.wrap (97 + j) = 97 + j := wrapi (by have := j1 (by omega); omega)
    by_cases c4 : j = 0
    · simp [c4, n0, n0']
      exact ⟨_, _, ⟨rfl, rfl⟩, by simp, by simp [n0, n0'], .mk 1 [] [], by simp [encRex, encRexL], by simp [Leaf], p + 2, by omega, by simp [n0, n0']⟩
    simp [c4, n0, n0']
    refine TWoH.lendR [0] (tcr_pick b (p + 1 + 1) 3 hb (by omega)) callable_30 (by simp [List.findIdx?_cons, n0, n0']) (by simp [n0, n0']) (by simp) (by simp) ?_
    rintro r o ⟨i, rfl, i0, i1, rfl⟩
    refine ⟨by simp [rdr], by simp, .inl (by simp [List.findIdx?_cons, n0, n0']), fun q hq => ?_⟩
    clear hq
    have hi : IntKind.i64.wrap (97 + i) = 97 + i := wrapi (by have := i1 (by omega); omega)
    simp [n0, n0', hi]
    refine TWoH.callV (tc_l2Byte (97 + i)) callable_64 (by simp [hi]) (by simp) (by simp) (by simp) ?_
    simp [n0, n0', hi]
    exact ⟨_, _, ⟨rfl, rfl⟩, by simp, by simp [n0, n0'], .mk 1 [(97 + i, 97 + i)] [], by simp, by simp [Leaf], p + 1 + 1 + 1, by omega, by simp [n0, n0']⟩
  simp [c0, c1, c2, c3, n0, n0']
  refine TWoH.lendR [0] (tcr_pick b (p + 1) 3 hb (by omega)) callable_30 (by simp [List.findIdx?_cons, n0, n0']) (by simp [n0, n0']) (by simp) (by simp) ?_
  rintro r o ⟨j, rfl, j0, j1, rfl⟩
  refine ⟨by simp [rdr], by simp, .inl (by simp [List.findIdx?_cons, n0, n0']), fun q hq => ?_⟩
  clear hq
  have hj : IntKind.i64.wrap (97 + j) = 97 + j := wrapi (by have := j1 (by omega); omega)
  simp [n0, n0', hj]
  refine TWoH.callV (tc_l2Byte (97 + j)) callable_64 (by simp [hj]) (by simp) (by simp) (by simp) ?_
  simp [n0, n0', hj]
  exact ⟨_, _, ⟨rfl, rfl⟩, by simp, by simp [n0, n0'], .mk 1 [(97 + j, 97 + j)] [], by simp, by simp [Leaf], p + 1 + 1, by omega, by simp [n0, n0']⟩
end Go.Proofs.YtibeeohnjabhkaaGreatDoor.R

open Go Go.Proofs.YtibeeohnjabhkaaGreatDoor.T
namespace Go.Proofs.YtibeeohnjabhkaaGreatDoor.R
set_option maxHeartbeats 4000000
set_option maxRecDepth 100000
set_option linter.unusedSimpArgs false
set_option linter.unusedVariables false
attribute [local simp] bsV bsRows chunk fillT partsT appV makeV rowsOf cellsOf placeOf frzT frz1
def RC (d : Nat) : Nat := 13 * 2 ^ d
theorem RC_succ (d : Nat) : RC (d + 1) = 2 * RC d := by unfold RC; rw [Nat.pow_succ]; omega
theorem RC_pos (d : Nat) : 13 ≤ RC d := by unfold RC; have := Nat.one_le_two_pow (n := d); omega
def KD : List Int := [3, 3, 3, 4, 4, 5, 5, 6, 7]
def Nil : TV := .val (.slice none 0 0)
/-- Where the parts stand while a tree grows. -/
def KidsAt (H : Nat → Option TV) (a c : Nat) (kc : TV) (kids : List Rex) : Prop :=
  (kids = [] ∧ kc = .val (.slice none 0 0)) ∨ ∃ id, kc = .hd id ∧ H id = some (.own 106 (kids.map encRex)) ∧ id ≠ 0 ∧ id ≠ a ∧ id ≠ c
theorem SmL_of : ∀ {l : List Rex}, (∀ x ∈ l, Sm x) → SmL l
  | [], _ => trivial
  | r :: l, h => ⟨h r (by simp), SmL_of fun x hx => h x (by simp [hx])⟩
theorem tcr_l2Rex (d : Nat) : ∀ (b : List UInt8) (p : Nat), d ≤ 10 → b.length ≤ 2000 → p + RC d ≤ 880000000 → TCR Tryz.prog 63 [.pd 0 0 0 0, .val (.int .i64 d)] [rdr b p] (fun r o => ∃ (x : Rex) (p' : Nat), r = .agg (encRex x) ∧ Sm x ∧ p' + 2 ≤ p + RC d ∧ o = [rdr b p']) := by
  refine Nat.strongRecOn d fun d IH => ?_
  intro b p hd hb hp
  have hRC := RC_pos d
  suffices h : TCR Tryz.prog 63 [.pd 0 0 0 0, .val (.int .i64 d)] [rdr b p] (fun r o => ∃ (x : Rex) (p' : Nat), toRo r = .agg (encRex x) ∧ Sm x ∧ p' + 2 ≤ p + RC d ∧ o = [rdr b p']) from
    h.frz.mono fun r o ⟨r0, ⟨x, p', h1, h2⟩, h3⟩ => ⟨x, p', by rw [h3, h1], h2⟩
  refine TCR.enter Tryz.func63 rfl (by simp [Tryz.ntmps63]) rfl (tw_sound (ρ := []) ?_)
  rw [Tryz.ntmps63]
  simp
  refine gall_intro fun a ha => ?_
  have n0 : ¬ a = 0 := fun e => by rw [e] at ha; simp at ha
  have n0' : ¬ 0 = a := fun e => n0 e.symm
  simp [n0, n0']
  by_cases c0 : d ≤ 1
  · have c0i : (d : Int) ≤ 1 := by omega
    simp [c0, c0i, n0, n0']
    refine TWoH.lendR [0] (tcr_l2Leaf b p hb (by omega)) callable_65 (by simp [List.findIdx?_cons, n0, n0']) (by simp [n0, n0']) (by simp) (by simp) ?_
    rintro r o ⟨x, p', rfl, hx, hp', rfl⟩
    refine ⟨by simp [rdr], by simp, .inl (by simp [List.findIdx?_cons, n0, n0']), fun q hq => ?_⟩
    clear hq
    simp [n0, n0']
    exact ⟨_, _, ⟨rfl, rfl⟩, by simp, by simp [n0, n0'], x, by simp, hx.sm, p', by omega, by simp [n0, n0']⟩
  obtain ⟨e, rfl⟩ : ∃ e, d = e + 1 := ⟨d - 1, by omega⟩
  have hRCs := RC_succ e
  have ih := IH e (by omega) b
  have c0' : ¬ ((e : Int) + 1) ≤ 1 := by omega
  simp [c0, c0', n0, n0']
  refine TWoH.lendR [0] (tcr_pick b p 4 hb (by omega)) callable_30 (by simp [List.findIdx?_cons, n0, n0']) (by simp [n0, n0']) (by simp) (by simp) ?_
  rintro r o ⟨k, rfl, k0, k1, rfl⟩
  refine ⟨by simp [rdr], by simp, .inl (by simp [List.findIdx?_cons, n0, n0']), fun q hq => ?_⟩
  clear hq
  by_cases c1 : k = 0
  · simp [c0, c1, n0, n0']
    refine TWoH.lendR [0] (tcr_l2Leaf b (p + 1) hb (by omega)) callable_65 (by simp [List.findIdx?_cons, n0, n0']) (by simp [n0, n0']) (by simp) (by simp) ?_
    rintro r o ⟨x, p', rfl, hx, hp', rfl⟩
    refine ⟨by simp [rdr], by simp, .inl (by simp [List.findIdx?_cons, n0, n0']), fun q hq => ?_⟩
    clear hq
    simp [n0, n0']
    exact ⟨_, _, ⟨rfl, rfl⟩, by simp, by simp [n0, n0'], x, by simp, hx.sm, p', by omega, by simp [n0, n0']⟩
  simp [c0, c1, n0, n0']
  refine gall_intro fun i1 h1 => ?_
  have a0 : ¬ i1 = 0 := fun e => by rw [e] at h1; simp at h1
  have a0' : ¬ 0 = i1 := fun e => a0 e.symm
  have a1 : ¬ i1 = a := fun e => by rw [e] at h1; simp [n0, n0'] at h1
  have a1' : ¬ a = i1 := fun e => a1 e.symm
  clear h1
  simp [n0, n0', a0, a0', a1, a1']
  refine TWoH.turn (Turn.freeze i1 (t := .own 3 (KD.map encI)) (by simp [a0, a0', encI, KD]) ?_)
  refine TWoH.lendR [0] (tcr_num b (p + 1) KD hb (by omega) (by simp [KD]) (by simp [KD])) callable_32 (by simp [a0, a0', List.findIdx?_cons, encI, KD]) (by simp [a0, a0', n0, n0', del]) (by simp) (by simp) ?_
  rintro r o ⟨kd, hkd, rfl, rfl⟩
  have hkd1 : 3 ≤ kd ∧ kd ≤ 7 := by simp [KD] at hkd; omega
  refine ⟨by simp [rdr], by simp, .inl (by simp [a0, a0', List.findIdx?_cons]), fun q hq => ?_⟩
  clear hq
  simp [a0, a0', a1, a1', n0, n0', del]
  refine gall_intro fun c hc => ?_
  have m0 : ¬ c = 0 := fun e => by rw [e] at hc; simp at hc
  have m0' : ¬ 0 = c := fun e => m0 e.symm
  have m1 : ¬ c = a := fun e => by rw [e] at hc; simp [n0, n0', del, a1, a1'] at hc
  have m1' : ¬ a = c := fun e => m1 e.symm
  clear hc
  simp [a0, a0', a1, a1', n0, n0', m0, m0', m1, m1', del]
  refine TWoH.callV (tc_sl2Kids kd) callable_83 (by simp) (by simp) (by simp) (by simp) ?_
  have hkn : 1 ≤ kidsN kd ∧ kidsN kd ≤ 2 := by unfold kidsN; split; omega; split; omega; split; omega; omega
  generalize kidsN kd = kn at hkn
  simp [a0, a0', a1, a1', n0, n0', m0, m0', m1, m1', del]
  refine TWcH.loop [] (fun m st => ∃ (i p' : Nat) (kc : TV) (kids : List Rex), i = m ∧ kids.length + i = kn.toNat ∧ (∀ x ∈ kids, Sm x) ∧ KidsAt st.H a c kc kids ∧ ((kids.length = 0 → p' ≤ p + 2) ∧ (kids.length = 1 → p' ≤ p + RC e) ∧ (kids.length = 2 → p' + 2 ≤ p + 2 * RC e)) ∧ st.σ 0 = .pd 0 0 0 0 ∧ st.H 0 = some (rdr b p') ∧ st.σ 1 = .val (.int .i64 (e + 1 : Nat)) ∧ st.σ 4 = .pd a 0 0 0 ∧ st.H a = some (.box 106 [.val (.int .i64 0), .val (.slice none 0 0), .val (.slice none 0 0)]) ∧ st.σ 6 = .pd c 0 0 0 ∧ st.H c = some (.box 106 [.val (.int .i64 kd), .val (.slice none 0 0), kc]) ∧ st.σ 7 = .val (.int .i64 i)) kn.toNat ⟨kn.toNat, p + 2, .val (.slice none 0 0), [], rfl, by simp, by simp, .inl ⟨rfl, rfl⟩, by simp, by simp [a0, a0', a1, a1', n0, n0', m0, m0', m1, m1', del]; omega⟩ ?_
  rintro m ⟨σ, H⟩ ⟨i, p', kc, kids, rfl, hki, hks, hK, hpk, h0, hH, h1, h4, hA, h6, hC, h7⟩
  simp only at hK h0 hH h1 h4 hA h6 hC h7
  by_cases hi : 0 < i
  case neg =>
    obtain rfl : i = 0 := by omega
    have hSm : Sm (.mk kd [] kids) := by simp only [Sm]; exact ⟨by simp, by omega, SmL_of hks⟩
    have hpe : p' + 2 ≤ p + RC (e + 1) := by omega
    rcases hK with ⟨rfl, rfl⟩ | ⟨id, rfl, hId, q0, q1, q2⟩
    · simp [h0, hH, h1, h4, hA, h6, hC, h7, n0, n0', m0, m0', m1, m1']
      exact ⟨_, _, ⟨rfl, rfl⟩, by simp, by simp [hH, n0, n0', del], .mk kd [] [], by simp [encRex, encRexL], hSm, p', hpe, by simp [hH, n0, n0', del]⟩
    · simp [h0, hH, h1, h4, hA, h6, hC, h7, n0, n0', m0, m0', m1, m1', hId, q0, q1, q2]
      exact ⟨_, _, ⟨rfl, rfl⟩, by simp [← encRexL_eq, noHR_rex], by simp [hH, n0, n0', q0, q0.symm, del], .mk kd [] kids, by simp [encRex, encRexL_eq], hSm, p', hpe, by simp [hH, n0, n0', q0, q0.symm, del]⟩
  simp [h0, hH, h1, h4, hA, h6, hC, h7, hi]
  have hw1 : IntKind.i64.wrap ((i : Int) - 1) = ((i - 1 : Nat) : Int) := by rw [wrapi (by omega)]; omega
  have hwe : IntKind.i64.wrap ((e : Int) + 1 - 1) = e := by rw [wrapi (by omega)]; omega
  have hwe' : IntKind.i64.wrap (e : Int) = e := wrapi (by omega)
  refine TWcH.midB (ρ := []) (fun st => ∃ (x : Rex) (p'' : Nat) (kc : TV), Sm x ∧ p'' + 2 ≤ p' + RC e ∧ KidsAt st.H a c kc (kids ++ [x]) ∧ st.σ 0 = .pd 0 0 0 0 ∧ st.H 0 = some (rdr b p'') ∧ st.σ 1 = .val (.int .i64 (e + 1 : Nat)) ∧ st.σ 4 = .pd a 0 0 0 ∧ st.H a = some (.box 106 [.val (.int .i64 0), .val (.slice none 0 0), .val (.slice none 0 0)]) ∧ st.σ 6 = .pd c 0 0 0 ∧ st.H c = some (.box 106 [.val (.int .i64 kd), .val (.slice none 0 0), kc]) ∧ st.σ 7 = .val (.int .i64 i))
    (.first 0 (.first 2 (.first 3 (.first 4 (.pick 1 (.pick 5 (.pick 6 (.pick 7 (.first 8 (.pick 9 .fin .fin)) .fin) .fin) .fin) (.pick 5 (.pick 1 (.pick 6 (.pick 7 (.first 8 (.pick 9 .fin .fin)) .fin) .fin) (.pick 6 (.pick 1 (.pick 7 (.first 8 (.pick 9 .fin .fin)) .fin) .fin) .fin)) .fin)))))) mixed (by kernel_rfl) ?_ ?_
  case refine_2 =>
    rintro ⟨σ, H⟩ ⟨x, p'', kc, hx, hp'', hK', g0, gH, g1, g4, gA, g6, gC, g7⟩
    simp only at hK' g0 gH g1 g4 gA g6 gC g7
    simp [g0, gH, g1, g4, gA, g6, gC, g7, hw1]
    exact ⟨i - 1, by omega, p'', kc, kids ++ [x], by simp; omega, fun y hy => by rcases List.mem_append.1 hy with h | h; exact hks y h; simp at h; subst h; exact hx, hK', ⟨fun h => by simp at h, fun h => by simp at h; subst h; simp at hpk; omega, fun h => by simp at h; have := hpk.2.1 (by omega); omega⟩, rfl, rfl, rfl⟩
  have hih := ih p' (by omega) hb (by omega)
  have k1 : (kids.length + 1) * 56 ≤ 140737488355328 := by omega
  have k2 : kids.length ≤ 9223372036854775806 := by omega
  rcases hK with ⟨rfl, rfl⟩ | ⟨id, rfl, hId, q0, q1, q2⟩
  · simp [delo, del, encRex, h0, hH, h1, h4, hA, h6, hC, h7, n0, n0', m0, m0', m1, m1', hwe, hwe']
    refine ⟨?_, ?_⟩
    · refine TWoH.lendR [0] hih callable_63 (by simp [delo, del, encRex, h0, hH, h1, h4, hA, h6, hC, h7, n0, n0', m0, m0', m1, m1', hwe, hwe', List.findIdx?_cons]) (by simp [delo, del, encRex, h0, hH, h1, h4, hA, h6, hC, h7, n0, n0', m0, m0', m1, m1', hwe, hwe']) (by simp) (by simp) ?_
      rintro r o ⟨x, p'', rfl, hx, hp'', rfl⟩
      refine ⟨by simp [rdr], by simp, .inl (by simp [delo, del, encRex, h0, hH, h1, h4, hA, h6, hC, h7, n0, n0', m0, m0', m1, m1', hwe, hwe', List.findIdx?_cons]), fun q hq => ?_⟩
      clear hq
      obtain ⟨xk, xs, xl⟩ := x
      simp [-List.map_append, delo, del, encRex, h0, hH, h1, h4, hA, h6, hC, h7, n0, n0', m0, m0', m1, m1', hwe, hwe']
      refine gall_intro fun i2 g2 => ?_
      have u_0 : ¬ i2 = 0 := fun e => by rw [e] at g2; simp [delo, del, encRex, h0, hH, h1, h4, hA, h6, hC, h7, n0, n0', m0, m0', m1, m1', hwe, hwe'] at g2
      have v_0 : ¬ 0 = i2 := fun e => u_0 e.symm
      have u_a : ¬ i2 = a := fun e => by rw [e] at g2; simp [delo, del, encRex, h0, hH, h1, h4, hA, h6, hC, h7, n0, n0', m0, m0', m1, m1', hwe, hwe'] at g2
      have v_a : ¬ a = i2 := fun e => u_a e.symm
      have u_c : ¬ i2 = c := fun e => by rw [e] at g2; simp [delo, del, encRex, h0, hH, h1, h4, hA, h6, hC, h7, n0, n0', m0, m0', m1, m1', hwe, hwe'] at g2
      have v_c : ¬ c = i2 := fun e => u_c e.symm
      simp [-List.map_append, delo, del, encRex, h0, hH, h1, h4, hA, h6, hC, h7, n0, n0', m0, m0', m1, m1', hwe, hwe', u_0, v_0, u_a, v_a, u_c, v_c, k1, k2]
      refine gall_intro fun i3 g3 => ?_
      have y_0 : ¬ i3 = 0 := fun e => by rw [e] at g3; simp [del, delo, del, encRex, h0, hH, h1, h4, hA, h6, hC, h7, n0, n0', m0, m0', m1, m1', hwe, hwe', u_0, v_0, u_a, v_a, u_c, v_c] at g3
      have z_0 : ¬ 0 = i3 := fun e => y_0 e.symm
      have y_a : ¬ i3 = a := fun e => by rw [e] at g3; simp [del, delo, del, encRex, h0, hH, h1, h4, hA, h6, hC, h7, n0, n0', m0, m0', m1, m1', hwe, hwe', u_0, v_0, u_a, v_a, u_c, v_c] at g3
      have z_a : ¬ a = i3 := fun e => y_a e.symm
      have y_c : ¬ i3 = c := fun e => by rw [e] at g3; simp [del, delo, del, encRex, h0, hH, h1, h4, hA, h6, hC, h7, n0, n0', m0, m0', m1, m1', hwe, hwe', u_0, v_0, u_a, v_a, u_c, v_c] at g3
      have z_c : ¬ c = i3 := fun e => y_c e.symm
      have y_i2 : ¬ i3 = i2 := fun e => by rw [e] at g3; simp [del, delo, del, encRex, h0, hH, h1, h4, hA, h6, hC, h7, n0, n0', m0, m0', m1, m1', hwe, hwe', u_0, v_0, u_a, v_a, u_c, v_c] at g3
      have z_i2 : ¬ i2 = i3 := fun e => y_i2 e.symm
      simp [-List.map_append, del, delo, del, encRex, h0, hH, h1, h4, hA, h6, hC, h7, n0, n0', m0, m0', m1, m1', hwe, hwe', u_0, v_0, u_a, v_a, u_c, v_c, y_0, z_0, y_a, z_a, y_c, z_c, y_i2, z_i2]
      exact ⟨.mk xk xs xl, hx, p'', hp'', .inr ⟨i3, rfl, by simp [z_c, y_c, encRex], y_0, y_a, y_c⟩, rfl⟩
    · refine TWoH.lendR [0] hih callable_63 (by simp [delo, del, encRex, h0, hH, h1, h4, hA, h6, hC, h7, n0, n0', m0, m0', m1, m1', hwe, hwe', List.findIdx?_cons]) (by simp [delo, del, encRex, h0, hH, h1, h4, hA, h6, hC, h7, n0, n0', m0, m0', m1, m1', hwe, hwe']) (by simp) (by simp) ?_
      rintro r o ⟨x, p'', rfl, hx, hp'', rfl⟩
      refine ⟨by simp [rdr], by simp, .inl (by simp [delo, del, encRex, h0, hH, h1, h4, hA, h6, hC, h7, n0, n0', m0, m0', m1, m1', hwe, hwe', List.findIdx?_cons]), fun q hq => ?_⟩
      clear hq
      obtain ⟨xk, xs, xl⟩ := x
      simp [-List.map_append, delo, del, encRex, h0, hH, h1, h4, hA, h6, hC, h7, n0, n0', m0, m0', m1, m1', hwe, hwe']
      refine ⟨?_, ?_⟩
      all_goals
        refine gall_intro fun i2 g2 => ?_
        have u_0 : ¬ i2 = 0 := fun e => by rw [e] at g2; simp [delo, del, encRex, h0, hH, h1, h4, hA, h6, hC, h7, n0, n0', m0, m0', m1, m1', hwe, hwe'] at g2
        have v_0 : ¬ 0 = i2 := fun e => u_0 e.symm
        have u_a : ¬ i2 = a := fun e => by rw [e] at g2; simp [delo, del, encRex, h0, hH, h1, h4, hA, h6, hC, h7, n0, n0', m0, m0', m1, m1', hwe, hwe'] at g2
        have v_a : ¬ a = i2 := fun e => u_a e.symm
        have u_c : ¬ i2 = c := fun e => by rw [e] at g2; simp [delo, del, encRex, h0, hH, h1, h4, hA, h6, hC, h7, n0, n0', m0, m0', m1, m1', hwe, hwe'] at g2
        have v_c : ¬ c = i2 := fun e => u_c e.symm
        simp [-List.map_append, delo, del, encRex, h0, hH, h1, h4, hA, h6, hC, h7, n0, n0', m0, m0', m1, m1', hwe, hwe', u_0, v_0, u_a, v_a, u_c, v_c, k1, k2]
        refine gall_intro fun i3 g3 => ?_
        have y_0 : ¬ i3 = 0 := fun e => by rw [e] at g3; simp [del, delo, del, encRex, h0, hH, h1, h4, hA, h6, hC, h7, n0, n0', m0, m0', m1, m1', hwe, hwe', u_0, v_0, u_a, v_a, u_c, v_c] at g3
        have z_0 : ¬ 0 = i3 := fun e => y_0 e.symm
        have y_a : ¬ i3 = a := fun e => by rw [e] at g3; simp [del, delo, del, encRex, h0, hH, h1, h4, hA, h6, hC, h7, n0, n0', m0, m0', m1, m1', hwe, hwe', u_0, v_0, u_a, v_a, u_c, v_c] at g3
        have z_a : ¬ a = i3 := fun e => y_a e.symm
        have y_c : ¬ i3 = c := fun e => by rw [e] at g3; simp [del, delo, del, encRex, h0, hH, h1, h4, hA, h6, hC, h7, n0, n0', m0, m0', m1, m1', hwe, hwe', u_0, v_0, u_a, v_a, u_c, v_c] at g3
        have z_c : ¬ c = i3 := fun e => y_c e.symm
        have y_i2 : ¬ i3 = i2 := fun e => by rw [e] at g3; simp [del, delo, del, encRex, h0, hH, h1, h4, hA, h6, hC, h7, n0, n0', m0, m0', m1, m1', hwe, hwe', u_0, v_0, u_a, v_a, u_c, v_c] at g3
        have z_i2 : ¬ i2 = i3 := fun e => y_i2 e.symm
        simp [-List.map_append, del, delo, del, encRex, h0, hH, h1, h4, hA, h6, hC, h7, n0, n0', m0, m0', m1, m1', hwe, hwe', u_0, v_0, u_a, v_a, u_c, v_c, y_0, z_0, y_a, z_a, y_c, z_c, y_i2, z_i2]
        exact ⟨.mk xk xs xl, hx, p'', hp'', .inr ⟨i3, rfl, by simp [z_c, y_c, encRex], y_0, y_a, y_c⟩, rfl⟩
  · simp [delo, del, encRex, h0, hH, h1, h4, hA, h6, hC, h7, n0, n0', m0, m0', m1, m1', hwe, hwe', hId, q0, q1, q2, q0.symm, q1.symm, q2.symm]
    refine ⟨?_, ?_⟩
    · refine TWoH.lendR [0] hih callable_63 (by simp [delo, del, encRex, h0, hH, h1, h4, hA, h6, hC, h7, n0, n0', m0, m0', m1, m1', hwe, hwe', hId, q0, q1, q2, q0.symm, q1.symm, q2.symm, List.findIdx?_cons]) (by simp [delo, del, encRex, h0, hH, h1, h4, hA, h6, hC, h7, n0, n0', m0, m0', m1, m1', hwe, hwe', hId, q0, q1, q2, q0.symm, q1.symm, q2.symm]) (by simp) (by simp) ?_
      rintro r o ⟨x, p'', rfl, hx, hp'', rfl⟩
      refine ⟨by simp [rdr], by simp, .inl (by simp [delo, del, encRex, h0, hH, h1, h4, hA, h6, hC, h7, n0, n0', m0, m0', m1, m1', hwe, hwe', hId, q0, q1, q2, q0.symm, q1.symm, q2.symm, List.findIdx?_cons]), fun q hq => ?_⟩
      clear hq
      obtain ⟨xk, xs, xl⟩ := x
      simp [-List.map_append, delo, del, encRex, h0, hH, h1, h4, hA, h6, hC, h7, n0, n0', m0, m0', m1, m1', hwe, hwe', hId, q0, q1, q2, q0.symm, q1.symm, q2.symm]
      refine gall_intro fun i2 g2 => ?_
      have u_0 : ¬ i2 = 0 := fun e => by rw [e] at g2; simp [delo, del, encRex, h0, hH, h1, h4, hA, h6, hC, h7, n0, n0', m0, m0', m1, m1', hwe, hwe', hId, q0, q1, q2, q0.symm, q1.symm, q2.symm] at g2
      have v_0 : ¬ 0 = i2 := fun e => u_0 e.symm
      have u_a : ¬ i2 = a := fun e => by rw [e] at g2; simp [delo, del, encRex, h0, hH, h1, h4, hA, h6, hC, h7, n0, n0', m0, m0', m1, m1', hwe, hwe', hId, q0, q1, q2, q0.symm, q1.symm, q2.symm] at g2
      have v_a : ¬ a = i2 := fun e => u_a e.symm
      have u_c : ¬ i2 = c := fun e => by rw [e] at g2; simp [delo, del, encRex, h0, hH, h1, h4, hA, h6, hC, h7, n0, n0', m0, m0', m1, m1', hwe, hwe', hId, q0, q1, q2, q0.symm, q1.symm, q2.symm] at g2
      have v_c : ¬ c = i2 := fun e => u_c e.symm
      have u_id : ¬ i2 = id := fun e => by rw [e] at g2; simp [delo, del, encRex, h0, hH, h1, h4, hA, h6, hC, h7, n0, n0', m0, m0', m1, m1', hwe, hwe', hId, q0, q1, q2, q0.symm, q1.symm, q2.symm] at g2
      have v_id : ¬ id = i2 := fun e => u_id e.symm
      simp [-List.map_append, delo, del, encRex, h0, hH, h1, h4, hA, h6, hC, h7, n0, n0', m0, m0', m1, m1', hwe, hwe', hId, q0, q1, q2, q0.symm, q1.symm, q2.symm, u_0, v_0, u_a, v_a, u_c, v_c, u_id, v_id, k1, k2]
      refine gall_intro fun i3 g3 => ?_
      have y_0 : ¬ i3 = 0 := fun e => by rw [e] at g3; simp [del, delo, del, encRex, h0, hH, h1, h4, hA, h6, hC, h7, n0, n0', m0, m0', m1, m1', hwe, hwe', hId, q0, q1, q2, q0.symm, q1.symm, q2.symm, u_0, v_0, u_a, v_a, u_c, v_c, u_id, v_id] at g3
      have z_0 : ¬ 0 = i3 := fun e => y_0 e.symm
      have y_a : ¬ i3 = a := fun e => by rw [e] at g3; simp [del, delo, del, encRex, h0, hH, h1, h4, hA, h6, hC, h7, n0, n0', m0, m0', m1, m1', hwe, hwe', hId, q0, q1, q2, q0.symm, q1.symm, q2.symm, u_0, v_0, u_a, v_a, u_c, v_c, u_id, v_id] at g3
      have z_a : ¬ a = i3 := fun e => y_a e.symm
      have y_c : ¬ i3 = c := fun e => by rw [e] at g3; simp [del, delo, del, encRex, h0, hH, h1, h4, hA, h6, hC, h7, n0, n0', m0, m0', m1, m1', hwe, hwe', hId, q0, q1, q2, q0.symm, q1.symm, q2.symm, u_0, v_0, u_a, v_a, u_c, v_c, u_id, v_id] at g3
      have z_c : ¬ c = i3 := fun e => y_c e.symm
      have y_i2 : ¬ i3 = i2 := fun e => by rw [e] at g3; simp [del, delo, del, encRex, h0, hH, h1, h4, hA, h6, hC, h7, n0, n0', m0, m0', m1, m1', hwe, hwe', hId, q0, q1, q2, q0.symm, q1.symm, q2.symm, u_0, v_0, u_a, v_a, u_c, v_c, u_id, v_id] at g3
      have z_i2 : ¬ i2 = i3 := fun e => y_i2 e.symm
      simp [-List.map_append, del, delo, del, encRex, h0, hH, h1, h4, hA, h6, hC, h7, n0, n0', m0, m0', m1, m1', hwe, hwe', hId, q0, q1, q2, q0.symm, q1.symm, q2.symm, u_0, v_0, u_a, v_a, u_c, v_c, u_id, v_id, y_0, z_0, y_a, z_a, y_c, z_c, y_i2, z_i2]
      exact ⟨.mk xk xs xl, hx, p'', hp'', .inr ⟨i3, rfl, by simp [z_c, y_c, encRex], y_0, y_a, y_c⟩, rfl⟩
    · refine TWoH.lendR [0] hih callable_63 (by simp [delo, del, encRex, h0, hH, h1, h4, hA, h6, hC, h7, n0, n0', m0, m0', m1, m1', hwe, hwe', hId, q0, q1, q2, q0.symm, q1.symm, q2.symm, List.findIdx?_cons]) (by simp [delo, del, encRex, h0, hH, h1, h4, hA, h6, hC, h7, n0, n0', m0, m0', m1, m1', hwe, hwe', hId, q0, q1, q2, q0.symm, q1.symm, q2.symm]) (by simp) (by simp) ?_
      rintro r o ⟨x, p'', rfl, hx, hp'', rfl⟩
      refine ⟨by simp [rdr], by simp, .inl (by simp [delo, del, encRex, h0, hH, h1, h4, hA, h6, hC, h7, n0, n0', m0, m0', m1, m1', hwe, hwe', hId, q0, q1, q2, q0.symm, q1.symm, q2.symm, List.findIdx?_cons]), fun q hq => ?_⟩
      clear hq
      obtain ⟨xk, xs, xl⟩ := x
      simp [-List.map_append, delo, del, encRex, h0, hH, h1, h4, hA, h6, hC, h7, n0, n0', m0, m0', m1, m1', hwe, hwe', hId, q0, q1, q2, q0.symm, q1.symm, q2.symm]
      refine ⟨?_, ?_⟩
      all_goals
        refine gall_intro fun i2 g2 => ?_
        have u_0 : ¬ i2 = 0 := fun e => by rw [e] at g2; simp [delo, del, encRex, h0, hH, h1, h4, hA, h6, hC, h7, n0, n0', m0, m0', m1, m1', hwe, hwe', hId, q0, q1, q2, q0.symm, q1.symm, q2.symm] at g2
        have v_0 : ¬ 0 = i2 := fun e => u_0 e.symm
        have u_a : ¬ i2 = a := fun e => by rw [e] at g2; simp [delo, del, encRex, h0, hH, h1, h4, hA, h6, hC, h7, n0, n0', m0, m0', m1, m1', hwe, hwe', hId, q0, q1, q2, q0.symm, q1.symm, q2.symm] at g2
        have v_a : ¬ a = i2 := fun e => u_a e.symm
        have u_c : ¬ i2 = c := fun e => by rw [e] at g2; simp [delo, del, encRex, h0, hH, h1, h4, hA, h6, hC, h7, n0, n0', m0, m0', m1, m1', hwe, hwe', hId, q0, q1, q2, q0.symm, q1.symm, q2.symm] at g2
        have v_c : ¬ c = i2 := fun e => u_c e.symm
        have u_id : ¬ i2 = id := fun e => by rw [e] at g2; simp [delo, del, encRex, h0, hH, h1, h4, hA, h6, hC, h7, n0, n0', m0, m0', m1, m1', hwe, hwe', hId, q0, q1, q2, q0.symm, q1.symm, q2.symm] at g2
        have v_id : ¬ id = i2 := fun e => u_id e.symm
        simp [-List.map_append, delo, del, encRex, h0, hH, h1, h4, hA, h6, hC, h7, n0, n0', m0, m0', m1, m1', hwe, hwe', hId, q0, q1, q2, q0.symm, q1.symm, q2.symm, u_0, v_0, u_a, v_a, u_c, v_c, u_id, v_id, k1, k2]
        refine gall_intro fun i3 g3 => ?_
        have y_0 : ¬ i3 = 0 := fun e => by rw [e] at g3; simp [del, delo, del, encRex, h0, hH, h1, h4, hA, h6, hC, h7, n0, n0', m0, m0', m1, m1', hwe, hwe', hId, q0, q1, q2, q0.symm, q1.symm, q2.symm, u_0, v_0, u_a, v_a, u_c, v_c, u_id, v_id] at g3
        have z_0 : ¬ 0 = i3 := fun e => y_0 e.symm
        have y_a : ¬ i3 = a := fun e => by rw [e] at g3; simp [del, delo, del, encRex, h0, hH, h1, h4, hA, h6, hC, h7, n0, n0', m0, m0', m1, m1', hwe, hwe', hId, q0, q1, q2, q0.symm, q1.symm, q2.symm, u_0, v_0, u_a, v_a, u_c, v_c, u_id, v_id] at g3
        have z_a : ¬ a = i3 := fun e => y_a e.symm
        have y_c : ¬ i3 = c := fun e => by rw [e] at g3; simp [del, delo, del, encRex, h0, hH, h1, h4, hA, h6, hC, h7, n0, n0', m0, m0', m1, m1', hwe, hwe', hId, q0, q1, q2, q0.symm, q1.symm, q2.symm, u_0, v_0, u_a, v_a, u_c, v_c, u_id, v_id] at g3
        have z_c : ¬ c = i3 := fun e => y_c e.symm
        have y_i2 : ¬ i3 = i2 := fun e => by rw [e] at g3; simp [del, delo, del, encRex, h0, hH, h1, h4, hA, h6, hC, h7, n0, n0', m0, m0', m1, m1', hwe, hwe', hId, q0, q1, q2, q0.symm, q1.symm, q2.symm, u_0, v_0, u_a, v_a, u_c, v_c, u_id, v_id] at g3
        have z_i2 : ¬ i2 = i3 := fun e => y_i2 e.symm
        simp [-List.map_append, del, delo, del, encRex, h0, hH, h1, h4, hA, h6, hC, h7, n0, n0', m0, m0', m1, m1', hwe, hwe', hId, q0, q1, q2, q0.symm, q1.symm, q2.symm, u_0, v_0, u_a, v_a, u_c, v_c, u_id, v_id, y_0, z_0, y_a, z_a, y_c, z_c, y_i2, z_i2]
        exact ⟨.mk xk xs xl, hx, p'', hp'', .inr ⟨i3, rfl, by simp [z_c, y_c, encRex], y_0, y_a, y_c⟩, rfl⟩
end Go.Proofs.YtibeeohnjabhkaaGreatDoor.R

open Go Go.Proofs.YtibeeohnjabhkaaGreatDoor.T
namespace Go.Proofs.YtibeeohnjabhkaaGreatDoor.R
set_option maxHeartbeats 4000000
set_option maxRecDepth 100000
set_option linter.unusedSimpArgs false
set_option linter.unusedVariables false
attribute [local simp] bsV bsRows chunk fillT partsT appV makeV rowsOf cellsOf placeOf frzT frz1
end Go.Proofs.YtibeeohnjabhkaaGreatDoor.R

open Go Go.Proofs.YtibeeohnjabhkaaGreatDoor.T
namespace Go.Proofs.YtibeeohnjabhkaaGreatDoor.R
set_option maxHeartbeats 4000000
set_option maxRecDepth 100000
set_option linter.unusedSimpArgs false
set_option linter.unusedVariables false
attribute [local simp] bsV bsRows chunk fillT partsT appV makeV rowsOf cellsOf placeOf frzT frz1
theorem upd_none_iff {X : Option TV} {i j : Nat} {t : TV} : ((if i = j then some t else X) = none) = (¬ i = j ∧ X = none) := by
  by_cases e : i = j
  · simp [e]
  · simp [e]
theorem upd_none_iff' {X : Option TV} {i j : Nat} {t : TV} : ((if i = j then some t else X) = none) = (¬ j = i ∧ X = none) := by
  rw [upd_none_iff, eq_iff_iff]
  exact ⟨fun h => ⟨fun e => h.1 e.symm, h.2⟩, fun h => ⟨fun e => h.1 e.symm, h.2⟩⟩
/-- How it stands behind the first lines of l2Copy. -/
def CopyM (k : Int) (s : List (Int × Int)) (l : List Rex) (a : Nat) (st : St) : Prop := ∃ c id, st.σ 3 = .pd c 0 0 0 ∧ st.σ 10 = .hd id ∧ st.σ 1 = .rptr [.val (.int .i64 k), .ro (s.map encS), .ro (encRexL l)] 0 ∧ st.σ 2 = .pd a 0 0 0 ∧
  st.H a = some (.box 106 [.val (.int .i64 0), .val (.slice none 0 0), .val (.slice none 0 0)]) ∧ st.H c = some (.box 106 [.val (.int .i64 k), .hd id, .val (.slice none 0 0)]) ∧ st.H id = some (.own 66 (s.map encS)) ∧ ¬ a = c ∧ ¬ a = id ∧ ¬ c = id
theorem tc_l2CopyS (k : Int) (s : List (Int × Int)) (l : List Rex) (hs : s.length ≤ 1048576) (hl : l.length ≤ 1048576) (ih : ∀ i (h : i < l.length), TC Tryz.prog 77 [.agg (encRex l[i])] [] (.agg (encRex l[i])) []) :
    TC Tryz.prog 77 [.agg (encRex (.mk k s l))] [] (.agg (encRex (.mk k s l))) [] := by
  suffices h : TC Tryz.prog 77 [.agg (encRex (.mk k s l))] [] (.agg [.val (.int .i64 k), .own 66 (s.map encS), if l = [] then .val (.slice none 0 0) else .own 106 (l.map encRex)]) [] by
    have := h.frz
    by_cases c : l = []
    · subst c; simpa [encRex, encRexL] using this
    · simpa [encRex, encRexL_eq, c] using this
  refine TC.enter Tryz.func77 rfl (by simp [Tryz.ntmps77]) rfl (tw_sound (ρ := [1]) ?_)
  rw [Tryz.ntmps77]
  simp [encRex]
  refine gall_intro fun a ha => ?_
  simp
  have k1 : s.length * 16 ≤ 140737488355328 := by omega
  have k2 : s.length ≤ 9223372036854775807 := by omega
  have kr : ∀ (r : List TV) (x x_1 : Int), (x, x_1) ∈ s → encS (x, x_1) = r → r.length = 2 := fun r x y _ e => by rw [← e]; simp [encS]
  refine TWcH.midB (ρ := [1]) (CopyM k s l a)
    (.first 0 (.first 3 (.pick 1 (.pick 2 (.pick 4 (.pick 5 (.first 6 (.pick 7 (.pick 8 .fin .fin) .fin)) (.pick 7 (.pick 5 (.first 6 (.pick 8 .fin .fin)) .fin) .fin)) (.pick 7 (.pick 4 (.pick 5 (.first 6 (.pick 8 .fin .fin)) .fin) .fin) .fin)) (.pick 4 (.pick 2 (.pick 5 (.first 6 (.pick 7 (.pick 8 .fin .fin) .fin)) (.pick 7 (.pick 5 (.first 6 (.pick 8 .fin .fin)) .fin) .fin)) (.pick 7 (.pick 2 (.pick 5 (.first 6 (.pick 8 .fin .fin)) .fin) .fin) .fin)) (.pick 7 (.pick 2 (.pick 4 (.pick 5 (.first 6 (.pick 8 .fin .fin)) .fin) .fin) (.pick 4 (.pick 2 (.pick 5 (.first 6 (.pick 8 .fin .fin)) .fin) .fin) .fin)) .fin))) (.pick 2 (.pick 1 (.pick 4 (.pick 5 (.first 6 (.pick 7 (.pick 8 .fin .fin) .fin)) (.pick 7 (.pick 5 (.first 6 (.pick 8 .fin .fin)) .fin) .fin)) (.pick 7 (.pick 4 (.pick 5 (.first 6 (.pick 8 .fin .fin)) .fin) .fin) .fin)) (.pick 4 (.pick 1 (.pick 5 (.first 6 (.pick 7 (.pick 8 .fin .fin) .fin)) (.pick 7 (.pick 5 (.first 6 (.pick 8 .fin .fin)) .fin) .fin)) (.pick 5 (.pick 1 (.first 6 (.pick 7 (.pick 8 .fin .fin) .fin)) (.pick 7 (.pick 1 (.first 6 (.pick 8 .fin .fin)) .fin) .fin)) (.pick 7 (.pick 1 (.pick 5 (.first 6 (.pick 8 .fin .fin)) .fin) (.pick 5 (.pick 1 (.first 6 (.pick 8 .fin .fin)) .fin) .fin)) .fin))) (.pick 7 (.pick 1 (.pick 4 (.pick 5 (.first 6 (.pick 8 .fin .fin)) .fin) .fin) (.pick 4 (.pick 1 (.pick 5 (.first 6 (.pick 8 .fin .fin)) .fin) (.pick 5 (.pick 1 (.first 6 (.pick 8 .fin .fin)) .fin) .fin)) .fin)) .fin))) (.pick 4 (.pick 1 (.pick 2 (.pick 5 (.first 6 (.pick 7 (.pick 8 .fin .fin) .fin)) (.pick 7 (.pick 5 (.first 6 (.pick 8 .fin .fin)) .fin) .fin)) (.pick 7 (.pick 2 (.pick 5 (.first 6 (.pick 8 .fin .fin)) .fin) .fin) .fin)) (.pick 2 (.pick 1 (.pick 5 (.first 6 (.pick 7 (.pick 8 .fin .fin) .fin)) (.pick 7 (.pick 5 (.first 6 (.pick 8 .fin .fin)) .fin) .fin)) (.pick 5 (.pick 1 (.first 6 (.pick 7 (.pick 8 .fin .fin) .fin)) (.pick 7 (.pick 1 (.first 6 (.pick 8 .fin .fin)) .fin) .fin)) (.pick 7 (.pick 1 (.pick 5 (.first 6 (.pick 8 .fin .fin)) .fin) (.pick 5 (.pick 1 (.first 6 (.pick 8 .fin .fin)) .fin) .fin)) .fin))) (.pick 7 (.pick 1 (.pick 2 (.pick 5 (.first 6 (.pick 8 .fin .fin)) .fin) .fin) (.pick 2 (.pick 1 (.pick 5 (.first 6 (.pick 8 .fin .fin)) .fin) (.pick 5 (.pick 1 (.first 6 (.pick 8 .fin .fin)) .fin) .fin)) .fin)) .fin))) (.pick 7 (.pick 1 (.pick 2 (.pick 4 (.pick 5 (.first 6 (.pick 8 .fin .fin)) .fin) .fin) (.pick 4 (.pick 2 (.pick 5 (.first 6 (.pick 8 .fin .fin)) .fin) .fin) .fin)) (.pick 2 (.pick 1 (.pick 4 (.pick 5 (.first 6 (.pick 8 .fin .fin)) .fin) .fin) (.pick 4 (.pick 1 (.pick 5 (.first 6 (.pick 8 .fin .fin)) .fin) (.pick 5 (.pick 1 (.first 6 (.pick 8 .fin .fin)) .fin) .fin)) .fin)) (.pick 4 (.pick 1 (.pick 2 (.pick 5 (.first 6 (.pick 8 .fin .fin)) .fin) .fin) (.pick 2 (.pick 1 (.pick 5 (.first 6 (.pick 8 .fin .fin)) .fin) (.pick 5 (.pick 1 (.first 6 (.pick 8 .fin .fin)) .fin) .fin)) .fin)) .fin))) .fin)))))) mixed (by kernel_rfl) ?_ ?_
  · simp [k1, k2]
    clear ha ih
    repeat' first
      | refine And.intro ?_ ?_
      | refine gif_intro (fun _ => ?_) (fun c => absurd kr c)
      | (refine gall_intro fun i g => ?_
         have w1 : ¬ a = i := ne_some (by simp [delo, del, *]) g
         have w2 : ¬ i = a := fun e => w1 e.symm
         have g2 := g
         (try simp [upd_none_iff] at g)
         (try simp [upd_none_iff'] at g2)
         simp [k1, k2, delo, del, *])
      | (refine ⟨_, _, rfl, rfl, rfl, rfl, ?_, ?_, ?_, ?_, ?_, ?_⟩ <;> first | (simp [delo, del, *]; done) | skip)
    all_goals skip
  rintro ⟨σ, H⟩ ⟨c, id, h3, h10, h1, h2, hA, hC, hI, n1, n2, n3⟩
  simp only at h3 h10 h1 h2 hA hC hI
  have n1' : ¬ c = a := fun e => n1 e.symm
  have n2' : ¬ id = a := fun e => n2 e.symm
  have n3' : ¬ id = c := fun e => n3 e.symm
  have hle := encRexL_eq l
  rw [hle] at h1
  simp [h3, h1, h2, hA, hC, hI, n1, n2, n3, n1', n2', n3']
  refine TWcH.loop [1] (fun m st => ∃ (i : Nat) (kc : TV), i + m = l.length ∧ ((i = 0 ∧ kc = .val (.slice none 0 0)) ∨ ∃ kd, kc = .hd kd ∧ 0 < i ∧ st.H kd = some (.own 106 ((l.take i).map encRex)) ∧ ¬ kd = a ∧ ¬ kd = c ∧ ¬ kd = id) ∧ st.σ 3 = .pd c 0 0 0 ∧ st.σ 1 = .rptr [.val (.int .i64 k), .ro (s.map encS), .ro (l.map encRex)] 0 ∧ st.σ 2 = .pd a 0 0 0 ∧
    st.H a = some (.box 106 [.val (.int .i64 0), .val (.slice none 0 0), .val (.slice none 0 0)]) ∧ st.H c = some (.box 106 [.val (.int .i64 k), .hd id, kc]) ∧ st.H id = some (.own 66 (s.map encS)) ∧ st.σ 4 = .val (.int .i64 i)) l.length ⟨0, .val (.slice none 0 0), by simp [h3, h1, h2, hA, hC, hI]⟩ ?_
  clear h3 h10 h1 h2 hA hC hI
  clear σ H
  rintro m ⟨σ, H⟩ ⟨i, kc, him, hkc, h3, h1, h2, hA, hC, hI, h4⟩
  simp only at hkc h3 h1 h2 hA hC hI h4
  by_cases hi : i < l.length
  · have hw : IntKind.i64.wrap ((i : Int) + 1) = i + 1 := wrapi (by omega)
    have k3 : (i + 1) * 56 ≤ 140737488355328 := by omega
    have k4 : i ≤ 9223372036854775806 := by omega
    have htl : (l.take i).length = i := by simp; omega
    have htk : l.take (i + 1) = l.take i ++ [l[i]] := by rw [List.take_add_one, List.getElem?_eq_getElem hi]; rfl
    have hih := ih i hi
    obtain ⟨x, hx⟩ : ∃ x, l[i] = x := ⟨_, rfl⟩
    have hat : ∀ h, l[i]'h = x := fun _ => hx
    rw [hx] at hih htk
    obtain ⟨xk, xs, xl⟩ := x
    have htk2 : List.take (i + 1) (List.map encRex l) = (l.take i).map encRex ++ [encRex (.mk xk xs xl)] := by rw [← List.map_take, htk]; simp
    generalize l.take i = L at htl htk2 hkc
    clear htk
    simp [h3, h1, h2, hA, hC, hI, h4, n1, n2, n3, n1', n2', n3', delo, del, encRex, hi, hat, htl, hi, hat]
    refine TWcH.regionD (ρ := [1]) [0, 1, 2, 3, 4, 5, 6, 7, 8, 9, 10, 11] 11 mixed (by kernel_rfl) ?_
    rcases hkc with ⟨e0, rfl⟩ | ⟨kd, rfl, i0, hK, q1, q2, q3⟩
    · obtain rfl : L = [] := List.eq_nil_of_length_eq_zero (by omega)
      simp [h3, h1, h2, hA, hC, hI, h4, n1, n2, n3, n1', n2', n3', delo, del, encRex, hi, hat, htl, hi, hat]
      refine TWqH.callV hih callable_77 (by simp [encRex, noHR_rex]) (by simp) (by simp) (by simp) ?_
      simp [h3, h1, h2, hA, hC, hI, h4, n1, n2, n3, n1', n2', n3', delo, del, encRex, hi, hat, htl, hi, hat]
      refine gall_intro fun i2 g2 => ?_
      have u_a : ¬ i2 = a := fun e => by rw [e] at g2; simp [h3, h1, h2, hA, hC, hI, h4, n1, n2, n3, n1', n2', n3', delo, del, encRex, hi, hat, htl] at g2
      have v_a : ¬ a = i2 := fun e => u_a e.symm
      have u_c : ¬ i2 = c := fun e => by rw [e] at g2; simp [h3, h1, h2, hA, hC, hI, h4, n1, n2, n3, n1', n2', n3', delo, del, encRex, hi, hat, htl] at g2
      have v_c : ¬ c = i2 := fun e => u_c e.symm
      have u_id : ¬ i2 = id := fun e => by rw [e] at g2; simp [h3, h1, h2, hA, hC, hI, h4, n1, n2, n3, n1', n2', n3', delo, del, encRex, hi, hat, htl] at g2
      have v_id : ¬ id = i2 := fun e => u_id e.symm
      simp [-List.map_append, h3, h1, h2, hA, hC, hI, h4, n1, n2, n3, n1', n2', n3', delo, del, encRex, hi, hat, htl, u_a, v_a, u_c, v_c, u_id, v_id, k3, k4]
      refine gall_intro fun i3 g3 => ?_
      have y_a : ¬ i3 = a := fun e => by rw [e] at g3; simp [h3, h1, h2, hA, hC, hI, h4, n1, n2, n3, n1', n2', n3', delo, del, encRex, hi, hat, htl, u_a, v_a, u_c, v_c, u_id, v_id] at g3
      have z_a : ¬ a = i3 := fun e => y_a e.symm
      have y_c : ¬ i3 = c := fun e => by rw [e] at g3; simp [h3, h1, h2, hA, hC, hI, h4, n1, n2, n3, n1', n2', n3', delo, del, encRex, hi, hat, htl, u_a, v_a, u_c, v_c, u_id, v_id] at g3
      have z_c : ¬ c = i3 := fun e => y_c e.symm
      have y_id : ¬ i3 = id := fun e => by rw [e] at g3; simp [h3, h1, h2, hA, hC, hI, h4, n1, n2, n3, n1', n2', n3', delo, del, encRex, hi, hat, htl, u_a, v_a, u_c, v_c, u_id, v_id] at g3
      have z_id : ¬ id = i3 := fun e => y_id e.symm
      have y_i2 : ¬ i3 = i2 := fun e => by rw [e] at g3; simp [h3, h1, h2, hA, hC, hI, h4, n1, n2, n3, n1', n2', n3', delo, del, encRex, hi, hat, htl, u_a, v_a, u_c, v_c, u_id, v_id] at g3
      have z_i2 : ¬ i2 = i3 := fun e => y_i2 e.symm
      simp [-List.map_append, h3, h1, h2, hA, hC, hI, h4, n1, n2, n3, n1', n2', n3', delo, del, encRex, hi, hat, htl, u_a, v_a, u_c, v_c, u_id, v_id, y_a, z_a, y_c, z_c, y_id, z_id, y_i2, z_i2, hw]
      exact ⟨m - 1, by omega, i + 1, by omega, .hd i3, .inr ⟨i3, rfl, by omega, by rw [htk2]; simp [y_c, encRex], y_a, y_c, y_id⟩, rfl, by omega⟩
    · have q1' : ¬ a = kd := fun e => q1 e.symm
      have q2' : ¬ c = kd := fun e => q2 e.symm
      have q3' : ¬ id = kd := fun e => q3 e.symm
      simp [h3, h1, h2, hA, hC, hI, h4, n1, n2, n3, n1', n2', n3', delo, del, encRex, hi, hat, htl, hK, q1, q2, q3, q1', q2', q3', hi, hat]
      refine TWqH.callV hih callable_77 (by simp [encRex, noHR_rex]) (by simp) (by simp) (by simp) ?_
      simp [h3, h1, h2, hA, hC, hI, h4, n1, n2, n3, n1', n2', n3', delo, del, encRex, hi, hat, htl, hK, q1, q2, q3, q1', q2', q3', hi, hat]
      refine gall_intro fun i2 g2 => ?_
      have u_a : ¬ i2 = a := fun e => by rw [e] at g2; simp [h3, h1, h2, hA, hC, hI, h4, n1, n2, n3, n1', n2', n3', delo, del, encRex, hi, hat, htl, hK, q1, q2, q3, q1', q2', q3'] at g2
      have v_a : ¬ a = i2 := fun e => u_a e.symm
      have u_c : ¬ i2 = c := fun e => by rw [e] at g2; simp [h3, h1, h2, hA, hC, hI, h4, n1, n2, n3, n1', n2', n3', delo, del, encRex, hi, hat, htl, hK, q1, q2, q3, q1', q2', q3'] at g2
      have v_c : ¬ c = i2 := fun e => u_c e.symm
      have u_id : ¬ i2 = id := fun e => by rw [e] at g2; simp [h3, h1, h2, hA, hC, hI, h4, n1, n2, n3, n1', n2', n3', delo, del, encRex, hi, hat, htl, hK, q1, q2, q3, q1', q2', q3'] at g2
      have v_id : ¬ id = i2 := fun e => u_id e.symm
      have u_kd : ¬ i2 = kd := fun e => by rw [e] at g2; simp [h3, h1, h2, hA, hC, hI, h4, n1, n2, n3, n1', n2', n3', delo, del, encRex, hi, hat, htl, hK, q1, q2, q3, q1', q2', q3'] at g2
      have v_kd : ¬ kd = i2 := fun e => u_kd e.symm
      simp [-List.map_append, h3, h1, h2, hA, hC, hI, h4, n1, n2, n3, n1', n2', n3', delo, del, encRex, hi, hat, htl, hK, q1, q2, q3, q1', q2', q3', u_a, v_a, u_c, v_c, u_id, v_id, u_kd, v_kd, k3, k4]
      refine gall_intro fun i3 g3 => ?_
      have y_a : ¬ i3 = a := fun e => by rw [e] at g3; simp [h3, h1, h2, hA, hC, hI, h4, n1, n2, n3, n1', n2', n3', delo, del, encRex, hi, hat, htl, hK, q1, q2, q3, q1', q2', q3', u_a, v_a, u_c, v_c, u_id, v_id, u_kd, v_kd] at g3
      have z_a : ¬ a = i3 := fun e => y_a e.symm
      have y_c : ¬ i3 = c := fun e => by rw [e] at g3; simp [h3, h1, h2, hA, hC, hI, h4, n1, n2, n3, n1', n2', n3', delo, del, encRex, hi, hat, htl, hK, q1, q2, q3, q1', q2', q3', u_a, v_a, u_c, v_c, u_id, v_id, u_kd, v_kd] at g3
      have z_c : ¬ c = i3 := fun e => y_c e.symm
      have y_id : ¬ i3 = id := fun e => by rw [e] at g3; simp [h3, h1, h2, hA, hC, hI, h4, n1, n2, n3, n1', n2', n3', delo, del, encRex, hi, hat, htl, hK, q1, q2, q3, q1', q2', q3', u_a, v_a, u_c, v_c, u_id, v_id, u_kd, v_kd] at g3
      have z_id : ¬ id = i3 := fun e => y_id e.symm
      have y_i2 : ¬ i3 = i2 := fun e => by rw [e] at g3; simp [h3, h1, h2, hA, hC, hI, h4, n1, n2, n3, n1', n2', n3', delo, del, encRex, hi, hat, htl, hK, q1, q2, q3, q1', q2', q3', u_a, v_a, u_c, v_c, u_id, v_id, u_kd, v_kd] at g3
      have z_i2 : ¬ i2 = i3 := fun e => y_i2 e.symm
      simp [-List.map_append, h3, h1, h2, hA, hC, hI, h4, n1, n2, n3, n1', n2', n3', delo, del, encRex, hi, hat, htl, hK, q1, q2, q3, q1', q2', q3', u_a, v_a, u_c, v_c, u_id, v_id, u_kd, v_kd, y_a, z_a, y_c, z_c, y_id, z_id, y_i2, z_i2, hw]
      exact ⟨m - 1, by omega, i + 1, by omega, .hd i3, .inr ⟨i3, rfl, by omega, by rw [htk2]; simp [y_c, encRex], y_a, y_c, y_id⟩, rfl, by omega⟩
  · obtain rfl : i = l.length := by omega
    rcases hkc with ⟨e0, rfl⟩ | ⟨kd, rfl, i0, hK, q1, q2, q3⟩
    · obtain rfl : l = [] := List.eq_nil_of_length_eq_zero e0
      simp [h3, h1, h2, hA, hC, hI, h4, n1, n2, n3, n1', n2', n3', delo, del, encRex]
    · have q1' : ¬ a = kd := fun e => q1 e.symm
      have q2' : ¬ c = kd := fun e => q2 e.symm
      have q3' : ¬ id = kd := fun e => q3 e.symm
      have ln : ¬ l = [] := fun e => by subst e; simp at i0
      rw [List.take_length] at hK
      simp [h3, h1, h2, hA, hC, hI, h4, n1, n2, n3, n1', n2', n3', delo, del, encRex, hK, q1, q2, q3, q1', q2', q3', ln]
end Go.Proofs.YtibeeohnjabhkaaGreatDoor.R

open Go Go.Proofs.YtibeeohnjabhkaaGreatDoor.T
namespace Go.Proofs.YtibeeohnjabhkaaGreatDoor.R
set_option maxHeartbeats 4000000
set_option maxRecDepth 100000
set_option linter.unusedSimpArgs false
set_option linter.unusedVariables false
mutual
theorem tc_l2Copy : ∀ (r : Rex), Sm r → TC Tryz.prog 77 [.agg (encRex r)] [] (.agg (encRex r)) []
  | .mk k s l, h => tc_l2CopyS k s l h.1 h.2.1 (tc_l2CopyL l h.2.2)
theorem tc_l2CopyL : ∀ (l : List Rex), SmL l → ∀ i (h : i < l.length), TC Tryz.prog 77 [.agg (encRex l[i])] [] (.agg (encRex l[i])) []
  | r :: l, h, 0, _ => tc_l2Copy r h.1
  | r :: l, h, i + 1, hi => by
    simp only [List.getElem_cons_succ]
    exact tc_l2CopyL l h.2 i (by simpa using hi)
end
end Go.Proofs.YtibeeohnjabhkaaGreatDoor.R

open Go Go.Proofs.YtibeeohnjabhkaaGreatDoor.T
namespace Go.Proofs.YtibeeohnjabhkaaGreatDoor.R
set_option maxHeartbeats 4000000
set_option maxRecDepth 100000
set_option linter.unusedSimpArgs false
set_option linter.unusedVariables false
attribute [local simp] bsV bsRows chunk fillT partsT appV makeV rowsOf cellsOf placeOf frzT frz1
def KB : List Int := [0, 8, 3, 5]
/-- How the box stands in the loops: L says how the parts are held. -/
def BentAt (b : List UInt8) (p1 a c ti N : Nat) (L0 : TV → List Rex → (Nat → Option TV) → Prop) (m : Nat) (st : St) : Prop := ∃ (i : Nat) (yk : Int) (ys : List (Int × Int)) (yl : List Rex) (S L : TV), i + m = N ∧ Sm (.mk yk ys yl) ∧ (S = .ro (ys.map encS) ∨ (ys = [] ∧ S = .val (.slice none 0 0))) ∧ L0 L yl st.H ∧
  st.σ 0 = .pd 0 0 0 0 ∧ st.H 0 = some (rdr b p1) ∧ st.σ 2 = .pd a 0 0 0 ∧ st.H a = some (.box 106 [.val (.int .i64 0), .val (.slice none 0 0), .val (.slice none 0 0)]) ∧ st.σ 3 = .pd c 0 0 0 ∧ st.H c = some (.box 106 [.val (.int .i64 yk), S, L]) ∧ st.σ ti = .val (.int .i64 i)
def LRo : TV → List Rex → (Nat → Option TV) → Prop := fun L yl _ => L = .ro (encRexL yl)
def LAny (a c : Nat) : TV → List Rex → (Nat → Option TV) → Prop := fun L yl H => L = .ro (encRexL yl) ∨ ∃ j rows, L = .hd j ∧ H j = some (.own 106 rows) ∧ roRows rows = encRexL yl ∧ ¬ j = 0 ∧ ¬ j = a ∧ ¬ j = c
theorem bent_turn {b : List UInt8} {p1 a c ti N n : Nat} (n0 : ¬ a = 0) (m0 : ¬ c = 0) (m1 : ¬ c = a) : ∀ m s, BentAt b p1 a c ti N (LAny a c) m s → Turn Tryz.prog n s (BentAt b p1 a c ti N LRo m) := by
  rintro m ⟨σ, H⟩ ⟨i, yk, ys, yl, S, L, him, hy, hS, hL, h0, hH, h2, hA, h3, hC, h4⟩
  simp only at hL h0 hH h2 hA h3 hC h4
  rcases hL with rfl | ⟨j, rows, rfl, hj, hr, q0, q1, q2⟩
  · exact Turn.same ⟨i, yk, ys, yl, S, _, him, hy, hS, rfl, h0, hH, h2, hA, h3, hC, h4⟩
  · have q0' : ¬ 0 = j := fun e => q0 e.symm
    have q1' : ¬ a = j := fun e => q1 e.symm
    have q2' : ¬ c = j := fun e => q2 e.symm
    refine Turn.freezeA j hj ?_
    refine ⟨i, yk, ys, yl, S, .ro (encRexL yl), him, hy, hS, rfl, ?_⟩
    rcases hS with rfl | ⟨_, rfl⟩ <;> simp [h0, hH, h2, hA, h3, hC, h4, del, q0', q1', q2', frzO, rdr, toRo, hr]
end Go.Proofs.YtibeeohnjabhkaaGreatDoor.R

open Go Go.Proofs.YtibeeohnjabhkaaGreatDoor.T
namespace Go.Proofs.YtibeeohnjabhkaaGreatDoor.R
set_option maxHeartbeats 4000000
set_option maxRecDepth 100000
set_option linter.unusedSimpArgs false
set_option linter.unusedVariables false
attribute [local simp] bsV bsRows chunk fillT partsT appV makeV rowsOf cellsOf placeOf frzT frz1
theorem tc_l15Open (b : List UInt8) (hb : b.length ≤ 1048576) : TC Tryz.prog 27 [.ro (b.map encU)] [] (rdr (b.take 2000) 0) [] := by
  refine TC.enter Tryz.func27 rfl (by simp [Tryz.ntmps27]) rfl (tw_sound (ρ := []) ?_)
  rw [Tryz.ntmps27]
  by_cases c : 2000 < b.length
  · have c' : (2000 : Int) < b.length := by omega
    have c2 : 2000 ≤ b.length := by omega
    have c3 : (2000 : Int) ≤ b.length := by omega
    simp [c, c', c2, c3]
    refine gall_intro fun i1 g1 => ?_
    simp [rdr, ← List.map_take]
  · have c' : ¬ (2000 : Int) < b.length := by omega
    have ht : b.take 2000 = b := List.take_of_length_le (by omega)
    simp [c, c']
    refine gall_intro fun i1 g1 => ?_
    simp [rdr, ht]
end Go.Proofs.YtibeeohnjabhkaaGreatDoor.R

open Go Go.Proofs.YtibeeohnjabhkaaGreatDoor.T
namespace Go.Proofs.YtibeeohnjabhkaaGreatDoor.R
set_option maxHeartbeats 4000000
set_option maxRecDepth 100000
set_option linter.unusedSimpArgs false
set_option linter.unusedVariables false
attribute [local simp] bsV bsRows chunk fillT partsT appV makeV rowsOf cellsOf placeOf frzT frz1
def RN : List (List UInt8) := [[105, 100], [110, 117, 109], [111, 112], [115, 112, 97, 99, 101], [107, 101, 121]]
def RulesF (b : List UInt8) (p' i c i3 i4 : Nat) (yk : Int) (ys : List (Int × Int)) (yl : List Rex) (S : TV) (l : List Rule) (st : St) : Prop := st.σ 0 = .pd 0 0 0 0 ∧ st.H 0 = some (rdr b p') ∧ st.σ 3 = .hd i3 ∧ st.H i3 = some (.own 112 (l.map encRule)) ∧ st.σ 4 = .hd i4 ∧ st.H i4 = some (.own 9 (RN.map encT)) ∧ st.σ 5 = .val (.int .i64 i) ∧
  st.σ 6 = .pd c 0 0 0 ∧ st.H c = some (.box 106 [.val (.int .i64 yk), .ro (ys.map encS), .ro (encRexL yl)]) ∧ st.σ 34 = .agg [.val (.int .i64 yk), S, .ro (encRexL yl)]
theorem frz2_rule (i1 i2 : Nat) (t1 t2 : TV) (r : Rule) : List.map (frz1 i2 t2 ∘ frz1 i1 t1) (encRule r) = encRule r := by
  obtain ⟨n, k, s, l⟩ := r
  simp [encRule, encRex]
theorem frz2_T (i1 i2 : Nat) (t1 t2 : TV) (r : List UInt8) : List.map (frz1 i2 t2 ∘ frz1 i1 t1) (encT r) = encT r := by simp [encT]
theorem tcr_l6Rules (b : List UInt8) (p : Nat) (hb : b.length ≤ 2000) (hp : p ≤ 850000000) : TCR Tryz.prog 53 [.pd 0 0 0 0] [rdr b p] (fun r o => ∃ (l : List Rule) (p' : Nat), r = .own 112 (l.map encRule) ∧ (∀ x ∈ l, Sm x.rex ∧ x.name ∈ RN) ∧ 1 ≤ l.length ∧ l.length ≤ 4 ∧ p' ≤ p + 1000 ∧ o = [rdr b p']) := by
  refine TCR.enter Tryz.func53 rfl (by simp [Tryz.ntmps53]) rfl (tw_sound (ρ := []) ?_)
  rw [Tryz.ntmps53]
  simp
  refine gall_intro fun i3 g3 => ?_
  have n0 : ¬ i3 = 0 := fun e => by rw [e] at g3; simp at g3
  have n0' : ¬ 0 = i3 := fun e => n0 e.symm
  clear g3
  simp [n0, n0']
  refine gall_intro fun i4 g4 => ?_
  have m0 : ¬ i4 = 0 := fun e => by rw [e] at g4; simp [n0, n0'] at g4
  have m0' : ¬ 0 = i4 := fun e => m0 e.symm
  have m1 : ¬ i4 = i3 := fun e => by rw [e] at g4; simp [n0, n0'] at g4
  have m1' : ¬ i3 = i4 := fun e => m1 e.symm
  clear g4
  simp [n0, n0', m0, m0', m1, m1']
  refine TWoH.lendR [0] (tcr_pick b p 4 hb (by omega)) callable_30 (by simp [List.findIdx?_cons, n0, n0', m0, m0']) (by simp [n0, n0', m0, m0', m1, m1']) (by simp) (by simp) ?_
  rintro r o ⟨k, rfl, k0, k1, rfl⟩
  refine ⟨by simp [rdr], by simp, .inl (by simp [List.findIdx?_cons, n0, n0', m0, m0']), fun q hq => ?_⟩
  clear hq
  obtain ⟨N, hkN, hk4, hk1⟩ : ∃ N : Nat, 1 + k = (N : Int) ∧ N ≤ 4 ∧ 1 ≤ N := ⟨(1 + k).toNat, by omega, by have := k1 (by omega); omega, by omega⟩
  have hw0 : IntKind.i64.wrap (1 + k) = N := by rw [wrapi (by omega)]; exact hkN
  simp [n0, n0', m0, m0', m1, m1', hw0]
  refine TWcH.loop [] (fun m st => ∃ (i p' i3 : Nat) (l : List Rule), i = m ∧ l.length + i = N ∧ p' ≤ p + 1 + 140 * l.length ∧ (∀ x ∈ l, Sm x.rex ∧ x.name ∈ RN) ∧ i3 ≠ 0 ∧ i3 ≠ i4 ∧ st.σ 0 = .pd 0 0 0 0 ∧ st.H 0 = some (rdr b p') ∧ st.σ 3 = .hd i3 ∧ st.H i3 = some (.own 112 (l.map encRule)) ∧ st.σ 4 = .hd i4 ∧ st.H i4 = some (.own 9 (RN.map encT)) ∧ st.σ 5 = .val (.int .i64 i)) N ⟨N, p + 1, i3, [], rfl, by simp, by simp, by simp, n0, m1', by simp [n0, n0', m0, m0', m1, m1', RN, encT]⟩ ?_
  clear n0 n0' m1 m1' i3
  rintro m ⟨σ, H⟩ ⟨i, p', i3, l, rfl, hli, hpl, hl, n0, m1', h0, hH, h3, hI, h4, hN, h5⟩
  simp only at h0 hH h3 hI h4 hN h5
  have n0' : ¬ 0 = i3 := fun e => n0 e.symm
  have m1 : ¬ i4 = i3 := fun e => m1' e.symm
  by_cases hi : 0 < i
  case neg =>
    obtain rfl : i = 0 := by omega
    simp [h0, hH, h3, hI, h4, hN, h5, n0, n0', m0, m0', m1, m1']
    exact ⟨_, _, ⟨rfl, rfl⟩, by simp, by simp [hH, del, n0, n0'], l, by simp, hl, by omega, by omega, p', by omega, by simp [hH, del, n0, n0']⟩
  have hw1 : IntKind.i64.wrap ((i : Int) - 1) = ((i - 1 : Nat) : Int) := by rw [wrapi (by omega)]; omega
  simp [h0, hH, h3, hI, h4, hN, h5, hi]
  refine TWoH.lendR [0] (tcr_pick b p' 3 hb (by omega)) callable_30 (by simp [h0, List.findIdx?_cons]) (by simp [hH]) (by simp) (by simp) ?_
  rintro r o ⟨k, rfl, k0, k1, rfl⟩
  refine ⟨by simp [rdr], by simp, .inl (by simp [h0, List.findIdx?_cons]), fun q hq => ?_⟩
  clear hq
  have k2 := k1 (by omega)
  obtain ⟨d, hd, hd1⟩ : ∃ d : Nat, 1 + k = (d : Int) ∧ d ≤ 3 := ⟨(1 + k).toNat, by omega, by omega⟩
  have hw : IntKind.i64.wrap (1 + k) = d := by rw [wrapi (by omega)]; exact hd
  have hRC : RC d ≤ 104 := by
    unfold RC
    have : 2 ^ d ≤ 2 ^ 3 := Nat.pow_le_pow_right (by omega) hd1
    omega
  simp [h0, hH, h3, hI, h4, hN, h5, n0, n0', m0, m0', m1, m1', hw]
  refine TWoH.lendR [0] (tcr_l2Rex d b (p' + 1) (by omega) hb (by omega)) callable_63 (by simp [h0, List.findIdx?_cons, hw]) (by simp [hH]) (by simp) (by simp) ?_
  rintro r o ⟨x, p1, rfl, hx, hp1, rfl⟩
  refine ⟨by simp [rdr], by simp, .inl (by simp [h0, List.findIdx?_cons]), fun q hq => ?_⟩
  clear hq
  obtain ⟨xk, xs, xl⟩ := x
  simp [h0, hH, h3, hI, h4, hN, h5, n0, n0', m0, m0', m1, m1', hw, encRex]
  refine gall_intro fun c gc => ?_
  have c0 : ¬ c = 0 := fun e => by rw [e] at gc; simp at gc
  have c0' : ¬ 0 = c := fun e => c0 e.symm
  have c3 : ¬ c = i3 := fun e => by rw [e] at gc; simp [hI, n0, n0'] at gc
  have c3' : ¬ i3 = c := fun e => c3 e.symm
  have c4 : ¬ c = i4 := fun e => by rw [e] at gc; simp [hN, m0, m0'] at gc
  have c4' : ¬ i4 = c := fun e => c4 e.symm
  clear gc
  simp [h0, hH, h3, hI, h4, hN, h5, n0, n0', m0, m0', m1, m1', c0, c0', c3, c3', c4, c4']
  refine TWoH.lendR [0] (tcr_pick b p1 3 hb (by omega)) callable_30 (by simp [h0, List.findIdx?_cons]) (by simp [hH, c0, c0', c3, c3', c4, c4']) (by simp) (by simp) ?_
  rintro r o ⟨k, rfl, k0, k1, rfl⟩
  refine ⟨by simp [rdr], by simp, .inl (by simp [h0, List.findIdx?_cons]), fun q hq => ?_⟩
  clear hq
  by_cases e1 : k = 0
  · simp [h0, hH, h3, hI, h4, hN, h5, n0, n0', m0, m0', m1, m1', c0, c0', c3, c3', c4, c4', e1]
    refine TWoH.lendR [0] (tcr_pick b (p1 + 1) 3 hb (by omega)) callable_30 (by simp [h0, List.findIdx?_cons]) (by simp [hH, c0, c0', c3, c3', c4, c4']) (by simp) (by simp) ?_
    rintro r o ⟨j, rfl, j0, j1, rfl⟩
    refine ⟨by simp [rdr], by simp, .inl (by simp [h0, List.findIdx?_cons]), fun q hq => ?_⟩
    clear hq
    have hj : IntKind.i64.wrap (97 + j) = 97 + j := wrapi (by have := j1 (by omega); omega)
    simp [h0, hH, h3, hI, h4, hN, h5, n0, n0', m0, m0', m1, m1', c0, c0', c3, c3', c4, c4', e1, hj]
    refine TWoH.callV (tc_l2Byte (97 + j)) callable_64 (by simp [hj]) (by simp) (by simp) (by simp) ?_
    simp [h0, hH, h3, hI, h4, hN, h5, n0, n0', m0, m0', m1, m1', c0, c0', c3, c3', c4, c4', e1, hj]
    refine TWoH.lendR [0] (tcr_l2Leaf b (p1 + 1 + 1) hb (by omega)) callable_65 (by simp [h0, List.findIdx?_cons]) (by simp [hH, c0, c0', c3, c3', c4, c4']) (by simp) (by simp) ?_
    rintro r o ⟨y, p2, rfl, hy, hp2, rfl⟩
    refine ⟨by simp [rdr], by simp, .inl (by simp [h0, List.findIdx?_cons]), fun q hq => ?_⟩
    clear hq
    have hz : Sm (.mk 3 [] [.mk 1 [(97 + j, 97 + j)] [], .mk 5 [] [y]]) := by simp only [Sm, SmL]; exact ⟨by simp, by simp, ⟨by simp, by simp, trivial⟩, ⟨by simp, by simp, hy.sm, trivial⟩, trivial⟩
    obtain ⟨yk, ys, yl⟩ := y
    simp [h0, hH, h3, hI, h4, hN, h5, n0, n0', m0, m0', m1, m1', c0, c0', c3, c3', c4, c4', e1, hj, encRex, encRexL]
    refine gall_intro fun q1 w1 => ?_
    have q1_0 : ¬ q1 = 0 := fun e => by rw [e] at w1; simp [h0, hH, h3, hI, h4, hN, h5, n0, n0', m0, m0', m1, m1', c0, c0', c3, c3', c4, c4', e1, hj] at w1
    have q1_0' : ¬ 0 = q1 := fun e => q1_0 e.symm
    have q1_i3 : ¬ q1 = i3 := fun e => by rw [e] at w1; simp [h0, hH, h3, hI, h4, hN, h5, n0, n0', m0, m0', m1, m1', c0, c0', c3, c3', c4, c4', e1, hj] at w1
    have q1_i3' : ¬ i3 = q1 := fun e => q1_i3 e.symm
    have q1_i4 : ¬ q1 = i4 := fun e => by rw [e] at w1; simp [h0, hH, h3, hI, h4, hN, h5, n0, n0', m0, m0', m1, m1', c0, c0', c3, c3', c4, c4', e1, hj] at w1
    have q1_i4' : ¬ i4 = q1 := fun e => q1_i4 e.symm
    have q1_c : ¬ q1 = c := fun e => by rw [e] at w1; simp [h0, hH, h3, hI, h4, hN, h5, n0, n0', m0, m0', m1, m1', c0, c0', c3, c3', c4, c4', e1, hj] at w1
    have q1_c' : ¬ c = q1 := fun e => q1_c e.symm
    simp [h0, hH, h3, hI, h4, hN, h5, n0, n0', m0, m0', m1, m1', c0, c0', c3, c3', c4, c4', e1, hj, q1_0, q1_0', q1_i3, q1_i3', q1_i4, q1_i4', q1_c, q1_c', encRex, encRexL]
    refine gall_intro fun q2 w2 => ?_
    have q2_0 : ¬ q2 = 0 := fun e => by rw [e] at w2; simp [h0, hH, h3, hI, h4, hN, h5, n0, n0', m0, m0', m1, m1', c0, c0', c3, c3', c4, c4', e1, hj, q1_0, q1_0', q1_i3, q1_i3', q1_i4, q1_i4', q1_c, q1_c'] at w2
    have q2_0' : ¬ 0 = q2 := fun e => q2_0 e.symm
    have q2_i3 : ¬ q2 = i3 := fun e => by rw [e] at w2; simp [h0, hH, h3, hI, h4, hN, h5, n0, n0', m0, m0', m1, m1', c0, c0', c3, c3', c4, c4', e1, hj, q1_0, q1_0', q1_i3, q1_i3', q1_i4, q1_i4', q1_c, q1_c'] at w2
    have q2_i3' : ¬ i3 = q2 := fun e => q2_i3 e.symm
    have q2_i4 : ¬ q2 = i4 := fun e => by rw [e] at w2; simp [h0, hH, h3, hI, h4, hN, h5, n0, n0', m0, m0', m1, m1', c0, c0', c3, c3', c4, c4', e1, hj, q1_0, q1_0', q1_i3, q1_i3', q1_i4, q1_i4', q1_c, q1_c'] at w2
    have q2_i4' : ¬ i4 = q2 := fun e => q2_i4 e.symm
    have q2_c : ¬ q2 = c := fun e => by rw [e] at w2; simp [h0, hH, h3, hI, h4, hN, h5, n0, n0', m0, m0', m1, m1', c0, c0', c3, c3', c4, c4', e1, hj, q1_0, q1_0', q1_i3, q1_i3', q1_i4, q1_i4', q1_c, q1_c'] at w2
    have q2_c' : ¬ c = q2 := fun e => q2_c e.symm
    have q2_q1 : ¬ q2 = q1 := fun e => by rw [e] at w2; simp [h0, hH, h3, hI, h4, hN, h5, n0, n0', m0, m0', m1, m1', c0, c0', c3, c3', c4, c4', e1, hj, q1_0, q1_0', q1_i3, q1_i3', q1_i4, q1_i4', q1_c, q1_c'] at w2
    have q2_q1' : ¬ q1 = q2 := fun e => q2_q1 e.symm
    simp [h0, hH, h3, hI, h4, hN, h5, n0, n0', m0, m0', m1, m1', c0, c0', c3, c3', c4, c4', e1, hj, q1_0, q1_0', q1_i3, q1_i3', q1_i4, q1_i4', q1_c, q1_c', q2_0, q2_0', q2_i3, q2_i3', q2_i4, q2_i4', q2_c, q2_c', q2_q1, q2_q1', encRex, encRexL]
    obtain ⟨zl, hzl⟩ : ∃ zl, zl = [Rex.mk 1 [(97 + j, 97 + j)] [], .mk 5 [] [.mk yk ys yl]] := ⟨_, rfl⟩
    rw [← hzl] at hz
    refine TWoH.via (A := RulesF b p2 i c i3 i4 3 [] zl (.val (.slice none 0 0)) l) (Turn.then (Turn.freezeA q1 (t := .own 106 [encRex (.mk yk ys yl)]) (by simp [h0, hH, h3, hI, h4, hN, h5, n0, n0', m0, m0', m1, m1', c0, c0', c3, c3', c4, c4', e1, hj, q1_0, q1_0', q1_i3, q1_i3', q1_i4, q1_i4', q1_c, q1_c', q2_0, q2_0', q2_i3, q2_i3', q2_i4, q2_i4', q2_c, q2_c', q2_q1, q2_q1', encRex]) (Turn.then (Turn.freezeA q2 (t := .own 106 [encRex (.mk 1 [(97 + j, 97 + j)] []), [.val (.int .i64 5), .val (.slice none 0 0), .ro [encRex (.mk yk ys yl)]]]) (by simp [h0, hH, h3, hI, h4, hN, h5, n0, n0', m0, m0', m1, m1', c0, c0', c3, c3', c4, c4', e1, hj, q1_0, q1_0', q1_i3, q1_i3', q1_i4, q1_i4', q1_c, q1_c', q2_0, q2_0', q2_i3, q2_i3', q2_i4, q2_i4', q2_c, q2_c', q2_q1, q2_q1', encRex, encRexL, encS, frzO, del]) (Turn.nrm c (t := .box 106 [.val (.int .i64 3), .val (.slice none 0 0), .ro (encRexL zl)]) (by rw [hzl]; simp [h0, hH, h3, hI, h4, hN, h5, n0, n0', m0, m0', m1, m1', c0, c0', c3, c3', c4, c4', e1, hj, q1_0, q1_0', q1_i3, q1_i3', q1_i4, q1_i4', q1_c, q1_c', q2_0, q2_0', q2_i3, q2_i3', q2_i4, q2_i4', q2_c, q2_c', q2_q1, q2_q1', encRex, encRexL, encS, frzO, del]) (by simp [RulesF, nrmO, nrm1, frzO, rdr, del, h0, hH, h3, hI, h4, hN, h5, n0, n0', m0, m0', m1, m1', c0, c0', c3, c3', c4, c4', e1, hj, q1_0, q1_0', q1_i3, q1_i3', q1_i4, q1_i4', q1_c, q1_c', q2_0, q2_0', q2_i3, q2_i3', q2_i4, q2_i4', q2_c, q2_c', q2_q1, q2_q1']; rw [hzl]; simp [encRex, encRexL, encS, frz2_rule, frz2_T])))))) ?_
    clear hzl
    rintro ⟨σ, H⟩ ⟨f0, fH, f3, fI, f4, fN, f5, f6, fC, f34⟩
    simp only at f0 fH f3 fI f4 fN f5 f6 fC f34
    refine TWoH.callV (tc_sRexOk (.mk 3 [] zl) hz) callable_66 (by simp [f34, encRex, noHR_rex]) (by simp) (by simp) (by simp) ?_
    have hlN : l.length < RN.length := by simp [RN]; omega
    obtain ⟨nm, hnm⟩ : ∃ w, ∀ h, RN[l.length]'h = w := ⟨RN[l.length], fun _ => rfl⟩
    have hnm2 : nm ∈ RN := by rw [← hnm hlN]; exact List.getElem_mem hlN
    have k3 : (l.length + 1) * 72 ≤ 140737488355328 := by omega
    have k4 : l.length ≤ 9223372036854775806 := by omega
    cases cR : rexOk (.mk 3 [] zl)
    · simp [f0, fH, f3, fI, f4, fN, f5, f6, fC]
      refine TWoH.lendR [0] (tcr_l2Leaf b p2 hb (by omega)) callable_65 (by simp [f0, List.findIdx?_cons]) (by simp [fH]) (by simp) (by simp) ?_
      rintro r o ⟨y, p3, rfl, hy, hp3, rfl⟩
      refine ⟨by simp [rdr], by simp, .inl (by simp [f0, List.findIdx?_cons]), fun q hq => ?_⟩
      clear hq
      obtain ⟨yk, ys, yl⟩ := y
      simp [del, delo, f0, fH, f3, fI, f4, fN, f5, f6, fC, n0, n0', m0, m0', m1, m1', c0, c0', c3, c3', c4, c4', encRex]
      refine TWcH.regionD (ρ := []) [0, 1, 2, 3, 4, 5, 6, 7, 8, 9, 10] 11 mixed (by kernel_rfl) ?_
      simp [-List.map_append, del, delo, f0, fH, f3, fI, f4, fN, f5, f6, fC, n0, n0', m0, m0', m1, m1', c0, c0', c3, c3', c4, c4', hlN, hnm, encT, k3, k4, hw1]
      refine gall_intro fun i7 g7 => ?_
      have u_0 : ¬ i7 = 0 := fun e => by rw [e] at g7; simp [del, delo, f0, fH, f3, fI, f4, fN, f5, f6, fC, n0, n0', m0, m0', m1, m1', c0, c0', c3, c3', c4, c4'] at g7
      have v_0 : ¬ 0 = i7 := fun e => u_0 e.symm
      have u_i3 : ¬ i7 = i3 := fun e => by rw [e] at g7; simp [del, delo, f0, fH, f3, fI, f4, fN, f5, f6, fC, n0, n0', m0, m0', m1, m1', c0, c0', c3, c3', c4, c4'] at g7
      have v_i3 : ¬ i3 = i7 := fun e => u_i3 e.symm
      have u_i4 : ¬ i7 = i4 := fun e => by rw [e] at g7; simp [del, delo, f0, fH, f3, fI, f4, fN, f5, f6, fC, n0, n0', m0, m0', m1, m1', c0, c0', c3, c3', c4, c4'] at g7
      have v_i4 : ¬ i4 = i7 := fun e => u_i4 e.symm
      have u_c : ¬ i7 = c := fun e => by rw [e] at g7; simp [del, delo, f0, fH, f3, fI, f4, fN, f5, f6, fC, n0, n0', m0, m0', m1, m1', c0, c0', c3, c3', c4, c4'] at g7
      have v_c : ¬ c = i7 := fun e => u_c e.symm
      simp [-List.map_append, del, delo, f0, fH, f3, fI, f4, fN, f5, f6, fC, n0, n0', m0, m0', m1, m1', c0, c0', c3, c3', c4, c4', hlN, hnm, encT, k3, k4, hw1, u_0, v_0, u_i3, v_i3, u_i4, v_i4, u_c, v_c]
      refine gall_intro fun i8 g8 => ?_
      have y_0 : ¬ i8 = 0 := fun e => by rw [e] at g8; simp [del, delo, f0, fH, f3, fI, f4, fN, f5, f6, fC, n0, n0', m0, m0', m1, m1', c0, c0', c3, c3', c4, c4', u_0, v_0, u_i3, v_i3, u_i4, v_i4, u_c, v_c] at g8
      have z_0 : ¬ 0 = i8 := fun e => y_0 e.symm
      have y_i4 : ¬ i8 = i4 := fun e => by rw [e] at g8; simp [del, delo, f0, fH, f3, fI, f4, fN, f5, f6, fC, n0, n0', m0, m0', m1, m1', c0, c0', c3, c3', c4, c4', u_0, v_0, u_i3, v_i3, u_i4, v_i4, u_c, v_c] at g8
      have z_i4 : ¬ i4 = i8 := fun e => y_i4 e.symm
      simp [-List.map_append, del, delo, f0, fH, f3, fI, f4, fN, f5, f6, fC, n0, n0', m0, m0', m1, m1', c0, c0', c3, c3', c4, c4', hlN, hnm, encT, k3, k4, hw1, u_0, v_0, u_i3, v_i3, u_i4, v_i4, u_c, v_c, y_0, z_0, y_i4, z_i4]
      exact ⟨i - 1, by omega, p3, i8, l ++ [⟨nm, .mk yk ys yl⟩], by simp; omega, by simp; omega, fun x hx' => by rcases List.mem_append.1 hx' with h | h; exact hl x h; simp only [List.mem_singleton] at h; subst h; exact ⟨hy.sm, hnm2⟩, y_0, y_i4, rfl, by simp [encRule, encRex, y_0, z_0], by simp [encRule, encRex], rfl⟩
    · simp [f0, fH, f3, fI, f4, fN, f5, f6, fC]
      refine TWcH.regionD (ρ := []) [0, 1, 2, 3, 4, 5, 6, 7, 8, 9, 10] 11 mixed (by kernel_rfl) ?_
      simp [-List.map_append, del, delo, f0, fH, f3, fI, f4, fN, f5, f6, fC, n0, n0', m0, m0', m1, m1', c0, c0', c3, c3', c4, c4', hlN, hnm, encT, k3, k4, hw1]
      refine gall_intro fun i7 g7 => ?_
      have u_0 : ¬ i7 = 0 := fun e => by rw [e] at g7; simp [del, delo, f0, fH, f3, fI, f4, fN, f5, f6, fC, n0, n0', m0, m0', m1, m1', c0, c0', c3, c3', c4, c4'] at g7
      have v_0 : ¬ 0 = i7 := fun e => u_0 e.symm
      have u_i3 : ¬ i7 = i3 := fun e => by rw [e] at g7; simp [del, delo, f0, fH, f3, fI, f4, fN, f5, f6, fC, n0, n0', m0, m0', m1, m1', c0, c0', c3, c3', c4, c4'] at g7
      have v_i3 : ¬ i3 = i7 := fun e => u_i3 e.symm
      have u_i4 : ¬ i7 = i4 := fun e => by rw [e] at g7; simp [del, delo, f0, fH, f3, fI, f4, fN, f5, f6, fC, n0, n0', m0, m0', m1, m1', c0, c0', c3, c3', c4, c4'] at g7
      have v_i4 : ¬ i4 = i7 := fun e => u_i4 e.symm
      have u_c : ¬ i7 = c := fun e => by rw [e] at g7; simp [del, delo, f0, fH, f3, fI, f4, fN, f5, f6, fC, n0, n0', m0, m0', m1, m1', c0, c0', c3, c3', c4, c4'] at g7
      have v_c : ¬ c = i7 := fun e => u_c e.symm
      simp [-List.map_append, del, delo, f0, fH, f3, fI, f4, fN, f5, f6, fC, n0, n0', m0, m0', m1, m1', c0, c0', c3, c3', c4, c4', hlN, hnm, encT, k3, k4, hw1, u_0, v_0, u_i3, v_i3, u_i4, v_i4, u_c, v_c]
      refine gall_intro fun i8 g8 => ?_
      have y_0 : ¬ i8 = 0 := fun e => by rw [e] at g8; simp [del, delo, f0, fH, f3, fI, f4, fN, f5, f6, fC, n0, n0', m0, m0', m1, m1', c0, c0', c3, c3', c4, c4', u_0, v_0, u_i3, v_i3, u_i4, v_i4, u_c, v_c] at g8
      have z_0 : ¬ 0 = i8 := fun e => y_0 e.symm
      have y_i4 : ¬ i8 = i4 := fun e => by rw [e] at g8; simp [del, delo, f0, fH, f3, fI, f4, fN, f5, f6, fC, n0, n0', m0, m0', m1, m1', c0, c0', c3, c3', c4, c4', u_0, v_0, u_i3, v_i3, u_i4, v_i4, u_c, v_c] at g8
      have z_i4 : ¬ i4 = i8 := fun e => y_i4 e.symm
      simp [-List.map_append, del, delo, f0, fH, f3, fI, f4, fN, f5, f6, fC, n0, n0', m0, m0', m1, m1', c0, c0', c3, c3', c4, c4', hlN, hnm, encT, k3, k4, hw1, u_0, v_0, u_i3, v_i3, u_i4, v_i4, u_c, v_c, y_0, z_0, y_i4, z_i4]
      exact ⟨i - 1, by omega, p2, i8, l ++ [⟨nm, .mk 3 [] zl⟩], by simp; omega, by simp; omega, fun x hx' => by rcases List.mem_append.1 hx' with h | h; exact hl x h; simp only [List.mem_singleton] at h; subst h; exact ⟨hz, hnm2⟩, y_0, y_i4, rfl, by simp [encRule, encRex, y_0, z_0], by simp [encRule, encRex], rfl⟩
  · simp [h0, hH, h3, hI, h4, hN, h5, n0, n0', m0, m0', m1, m1', c0, c0', c3, c3', c4, c4', e1]
    refine TWoH.via (A := RulesF b (p1 + 1) i c i3 i4 xk xs xl (.ro (xs.map encS)) l) (Turn.same (by simp [RulesF, h0, hH, h3, hI, h4, hN, h5, n0, n0', m0, m0', m1, m1', c0, c0', c3, c3', c4, c4'])) ?_
    rintro ⟨σ, H⟩ ⟨f0, fH, f3, fI, f4, fN, f5, f6, fC, f34⟩
    simp only at f0 fH f3 fI f4 fN f5 f6 fC f34
    refine TWoH.callV (tc_sRexOk (.mk xk xs xl) hx) callable_66 (by simp [f34, encRex, noHR_rex]) (by simp) (by simp) (by simp) ?_
    have hlN : l.length < RN.length := by simp [RN]; omega
    obtain ⟨nm, hnm⟩ : ∃ w, ∀ h, RN[l.length]'h = w := ⟨RN[l.length], fun _ => rfl⟩
    have hnm2 : nm ∈ RN := by rw [← hnm hlN]; exact List.getElem_mem hlN
    have k3 : (l.length + 1) * 72 ≤ 140737488355328 := by omega
    have k4 : l.length ≤ 9223372036854775806 := by omega
    cases cR : rexOk (.mk xk xs xl)
    · simp [f0, fH, f3, fI, f4, fN, f5, f6, fC]
      refine TWoH.lendR [0] (tcr_l2Leaf b (p1 + 1) hb (by omega)) callable_65 (by simp [f0, List.findIdx?_cons]) (by simp [fH]) (by simp) (by simp) ?_
      rintro r o ⟨y, p2, rfl, hy, hp2, rfl⟩
      refine ⟨by simp [rdr], by simp, .inl (by simp [f0, List.findIdx?_cons]), fun q hq => ?_⟩
      clear hq
      obtain ⟨yk, ys, yl⟩ := y
      simp [del, delo, f0, fH, f3, fI, f4, fN, f5, f6, fC, n0, n0', m0, m0', m1, m1', c0, c0', c3, c3', c4, c4', encRex]
      refine TWcH.regionD (ρ := []) [0, 1, 2, 3, 4, 5, 6, 7, 8, 9, 10] 11 mixed (by kernel_rfl) ?_
      simp [-List.map_append, del, delo, f0, fH, f3, fI, f4, fN, f5, f6, fC, n0, n0', m0, m0', m1, m1', c0, c0', c3, c3', c4, c4', hlN, hnm, encT, k3, k4, hw1]
      refine gall_intro fun i7 g7 => ?_
      have u_0 : ¬ i7 = 0 := fun e => by rw [e] at g7; simp [del, delo, f0, fH, f3, fI, f4, fN, f5, f6, fC, n0, n0', m0, m0', m1, m1', c0, c0', c3, c3', c4, c4'] at g7
      have v_0 : ¬ 0 = i7 := fun e => u_0 e.symm
      have u_i3 : ¬ i7 = i3 := fun e => by rw [e] at g7; simp [del, delo, f0, fH, f3, fI, f4, fN, f5, f6, fC, n0, n0', m0, m0', m1, m1', c0, c0', c3, c3', c4, c4'] at g7
      have v_i3 : ¬ i3 = i7 := fun e => u_i3 e.symm
      have u_i4 : ¬ i7 = i4 := fun e => by rw [e] at g7; simp [del, delo, f0, fH, f3, fI, f4, fN, f5, f6, fC, n0, n0', m0, m0', m1, m1', c0, c0', c3, c3', c4, c4'] at g7
      have v_i4 : ¬ i4 = i7 := fun e => u_i4 e.symm
      have u_c : ¬ i7 = c := fun e => by rw [e] at g7; simp [del, delo, f0, fH, f3, fI, f4, fN, f5, f6, fC, n0, n0', m0, m0', m1, m1', c0, c0', c3, c3', c4, c4'] at g7
      have v_c : ¬ c = i7 := fun e => u_c e.symm
      simp [-List.map_append, del, delo, f0, fH, f3, fI, f4, fN, f5, f6, fC, n0, n0', m0, m0', m1, m1', c0, c0', c3, c3', c4, c4', hlN, hnm, encT, k3, k4, hw1, u_0, v_0, u_i3, v_i3, u_i4, v_i4, u_c, v_c]
      refine gall_intro fun i8 g8 => ?_
      have y_0 : ¬ i8 = 0 := fun e => by rw [e] at g8; simp [del, delo, f0, fH, f3, fI, f4, fN, f5, f6, fC, n0, n0', m0, m0', m1, m1', c0, c0', c3, c3', c4, c4', u_0, v_0, u_i3, v_i3, u_i4, v_i4, u_c, v_c] at g8
      have z_0 : ¬ 0 = i8 := fun e => y_0 e.symm
      have y_i4 : ¬ i8 = i4 := fun e => by rw [e] at g8; simp [del, delo, f0, fH, f3, fI, f4, fN, f5, f6, fC, n0, n0', m0, m0', m1, m1', c0, c0', c3, c3', c4, c4', u_0, v_0, u_i3, v_i3, u_i4, v_i4, u_c, v_c] at g8
      have z_i4 : ¬ i4 = i8 := fun e => y_i4 e.symm
      simp [-List.map_append, del, delo, f0, fH, f3, fI, f4, fN, f5, f6, fC, n0, n0', m0, m0', m1, m1', c0, c0', c3, c3', c4, c4', hlN, hnm, encT, k3, k4, hw1, u_0, v_0, u_i3, v_i3, u_i4, v_i4, u_c, v_c, y_0, z_0, y_i4, z_i4]
      exact ⟨i - 1, by omega, p2, i8, l ++ [⟨nm, .mk yk ys yl⟩], by simp; omega, by simp; omega, fun x hx' => by rcases List.mem_append.1 hx' with h | h; exact hl x h; simp only [List.mem_singleton] at h; subst h; exact ⟨hy.sm, hnm2⟩, y_0, y_i4, rfl, by simp [encRule, encRex, y_0, z_0], by simp [encRule, encRex], rfl⟩
    · simp [f0, fH, f3, fI, f4, fN, f5, f6, fC]
      refine TWcH.regionD (ρ := []) [0, 1, 2, 3, 4, 5, 6, 7, 8, 9, 10] 11 mixed (by kernel_rfl) ?_
      simp [-List.map_append, del, delo, f0, fH, f3, fI, f4, fN, f5, f6, fC, n0, n0', m0, m0', m1, m1', c0, c0', c3, c3', c4, c4', hlN, hnm, encT, k3, k4, hw1]
      refine gall_intro fun i7 g7 => ?_
      have u_0 : ¬ i7 = 0 := fun e => by rw [e] at g7; simp [del, delo, f0, fH, f3, fI, f4, fN, f5, f6, fC, n0, n0', m0, m0', m1, m1', c0, c0', c3, c3', c4, c4'] at g7
      have v_0 : ¬ 0 = i7 := fun e => u_0 e.symm
      have u_i3 : ¬ i7 = i3 := fun e => by rw [e] at g7; simp [del, delo, f0, fH, f3, fI, f4, fN, f5, f6, fC, n0, n0', m0, m0', m1, m1', c0, c0', c3, c3', c4, c4'] at g7
      have v_i3 : ¬ i3 = i7 := fun e => u_i3 e.symm
      have u_i4 : ¬ i7 = i4 := fun e => by rw [e] at g7; simp [del, delo, f0, fH, f3, fI, f4, fN, f5, f6, fC, n0, n0', m0, m0', m1, m1', c0, c0', c3, c3', c4, c4'] at g7
      have v_i4 : ¬ i4 = i7 := fun e => u_i4 e.symm
      have u_c : ¬ i7 = c := fun e => by rw [e] at g7; simp [del, delo, f0, fH, f3, fI, f4, fN, f5, f6, fC, n0, n0', m0, m0', m1, m1', c0, c0', c3, c3', c4, c4'] at g7
      have v_c : ¬ c = i7 := fun e => u_c e.symm
      simp [-List.map_append, del, delo, f0, fH, f3, fI, f4, fN, f5, f6, fC, n0, n0', m0, m0', m1, m1', c0, c0', c3, c3', c4, c4', hlN, hnm, encT, k3, k4, hw1, u_0, v_0, u_i3, v_i3, u_i4, v_i4, u_c, v_c]
      refine gall_intro fun i8 g8 => ?_
      have y_0 : ¬ i8 = 0 := fun e => by rw [e] at g8; simp [del, delo, f0, fH, f3, fI, f4, fN, f5, f6, fC, n0, n0', m0, m0', m1, m1', c0, c0', c3, c3', c4, c4', u_0, v_0, u_i3, v_i3, u_i4, v_i4, u_c, v_c] at g8
      have z_0 : ¬ 0 = i8 := fun e => y_0 e.symm
      have y_i4 : ¬ i8 = i4 := fun e => by rw [e] at g8; simp [del, delo, f0, fH, f3, fI, f4, fN, f5, f6, fC, n0, n0', m0, m0', m1, m1', c0, c0', c3, c3', c4, c4', u_0, v_0, u_i3, v_i3, u_i4, v_i4, u_c, v_c] at g8
      have z_i4 : ¬ i4 = i8 := fun e => y_i4 e.symm
      simp [-List.map_append, del, delo, f0, fH, f3, fI, f4, fN, f5, f6, fC, n0, n0', m0, m0', m1, m1', c0, c0', c3, c3', c4, c4', hlN, hnm, encT, k3, k4, hw1, u_0, v_0, u_i3, v_i3, u_i4, v_i4, u_c, v_c, y_0, z_0, y_i4, z_i4]
      exact ⟨i - 1, by omega, p1 + 1, i8, l ++ [⟨nm, .mk xk xs xl⟩], by simp; omega, by simp; omega, fun x hx' => by rcases List.mem_append.1 hx' with h | h; exact hl x h; simp only [List.mem_singleton] at h; subst h; exact ⟨hx, hnm2⟩, y_0, y_i4, rfl, by simp [encRule, encRex, y_0, z_0], by simp [encRule, encRex], rfl⟩
end Go.Proofs.YtibeeohnjabhkaaGreatDoor.R

open Go Go.Proofs.YtibeeohnjabhkaaGreatDoor.T
namespace Go.Proofs.YtibeeohnjabhkaaGreatDoor.R
set_option maxHeartbeats 4000000
set_option maxRecDepth 100000
set_option linter.unusedSimpArgs false
set_option linter.unusedVariables false
attribute [local simp] bsV bsRows chunk fillT partsT appV makeV rowsOf cellsOf placeOf
/-- Whether it is so. -/
noncomputable def bP (p : Prop) : Bool := @decide p (Classical.propDecidable p)
theorem bP_pos {p : Prop} (h : p) : bP p = true := by unfold bP; simp [h]
theorem bP_neg {p : Prop} (h : ¬ p) : bP p = false := by unfold bP; simp [h]
@[simp] theorem bP_iff {p : Prop} : bP p = true ↔ p := by unfold bP; simp
theorem take_next {α : Type} {a b : List α} {i : Nat} (hi : i < a.length) (hj : i < b.length) (h : a.take i = b.take i) (he : a[i] = b[i]) : a.take (i + 1) = b.take (i + 1) := by
  rw [List.take_succ_eq_append_getElem hi, List.take_succ_eq_append_getElem hj, h, he]
theorem ne_at {α : Type} {a b : List α} {i : Nat} (hi : i < a.length) (hj : i < b.length) (he : ¬ a[i] = b[i]) : ¬ a = b := fun e => by subst e; exact he rfl
theorem take_all {α : Type} {a b : List α} {i : Nat} (hl : a.length = b.length) (hi : b.length ≤ i) (h : a.take i = b.take i) : a = b := by
  rwa [List.take_of_length_le (by omega), List.take_of_length_le hi] at h
theorem aggS (x y : Int × Int) : aggEq Tryz.prog 66 (encS x) (encS y) = some (decide (x.1 = y.1) && decide (x.2 = y.2)) := by
  simp [aggEq, eqFs, encS]
  rfl
theorem aggT (x y : Tok) : aggEq Tryz.prog 36 (encTok x) (encTok y) = some (decide (x.1 = y.1) && (decide (x.2.1 = y.2.1) && decide (x.2.2 = y.2.2))) := by
  simp [aggEq, eqFs, encTok]
  rfl
theorem tc_sSetSame (a b : List (Int × Int)) (ha : a.length ≤ 1152921504606846976) (hb : b.length ≤ 1152921504606846976) : TC Tryz.prog 104 [.ro (a.map encS), .ro (b.map encS)] [] (.val (.bool (bP (a = b)))) [] := by
  refine TC.enter Tryz.func104 rfl (by simp [Tryz.ntmps104]) rfl (tw_sound (ρ := []) ?_)
  rw [Tryz.ntmps104]
  by_cases hlen : a.length = b.length
  case neg =>
    have h1 : ¬ (a.length : Int) = b.length := by omega
    have h2 : ¬ a = b := fun e => hlen (by rw [e])
    simp [h1, bP_neg h2]
  have h1 : (a.length : Int) = b.length := by omega
  simp [h1]
  refine TWcH.loop [] (fun m st => ∃ i : Nat, i + m = b.length ∧ a.take i = b.take i ∧ st.σ 0 = .ro (a.map encS) ∧ st.σ 1 = .ro (b.map encS) ∧ st.σ 5 = .val (.int .i64 i)) b.length ⟨0, by simp⟩ ?_
  rintro m ⟨σ, H⟩ ⟨i, him, ht, h0, h1', h5⟩
  simp only at h0 h1' h5
  by_cases hi : i < b.length
  case neg =>
    have e : a = b := take_all hlen (by omega) ht
    have hi2 : ¬ i < a.length := by omega
    simp [h0, h1', h5, hi, hi2, bP_pos e]
  have hi2 : i < a.length := by omega
  have hw : IntKind.i64.wrap ((i : Int) + 1) = i + 1 := wrapi (by omega)
  simp [h0, h1', h5, hi, hi2]
  refine TWcH.regionD (ρ := []) [0, 1, 2, 3, 4, 5, 6, 7, 8] 9 mixed (by kernel_rfl) ?_
  simp [h0, h1', h5, hi, hi2, getI hi, getI hi2, aggS]
  refine gif_intro (fun c => ?_) (fun c => ?_)
  · have e : ¬ a = b := ne_at hi2 hi fun e => by rw [e] at c; simp at c
    simp [h0, h1', h5, hi, hi2, bP_neg e]
  · have e : a[i] = b[i] := by
      simp only [not_or, Decidable.not_not] at c
      exact Prod.ext c.1 c.2
    simp [h0, h1', h5, hi, hi2, hw]
    exact ⟨m - 1, by omega, i + 1, by omega, take_next hi2 hi ht e, by omega⟩
theorem tc_sameTok (a b : List Tok) (ha : a.length ≤ 1152921504606846976) (hb : b.length ≤ 1152921504606846976) : TC Tryz.prog 21 [.ro (a.map encTok), .ro (b.map encTok)] [] (.val (.bool (bP (a = b)))) [] := by
  refine TC.enter Tryz.func21 rfl (by simp [Tryz.ntmps21]) rfl (tw_sound (ρ := []) ?_)
  rw [Tryz.ntmps21]
  by_cases hlen : a.length = b.length
  case neg =>
    have h1 : ¬ (a.length : Int) = b.length := by omega
    have h2 : ¬ a = b := fun e => hlen (by rw [e])
    simp [h1, bP_neg h2]
  have h1 : (a.length : Int) = b.length := by omega
  simp [h1]
  refine TWcH.loop [] (fun m st => ∃ i : Nat, i + m = b.length ∧ a.take i = b.take i ∧ st.σ 0 = .ro (a.map encTok) ∧ st.σ 1 = .ro (b.map encTok) ∧ st.σ 12 = .val (.int .i64 b.length) ∧ st.σ 13 = .val (.int .i64 i)) b.length ⟨0, by simp⟩ ?_
  rintro m ⟨σ, H⟩ ⟨i, him, ht, h0, h1', h12, h5⟩
  simp only at h0 h1' h12 h5
  by_cases hi : i < b.length
  case neg =>
    have e : a = b := take_all hlen (by omega) ht
    have hi2 : ¬ i < a.length := by omega
    simp [h0, h1', h12, h5, hi, hi2, bP_pos e]
  have hi2 : i < a.length := by omega
  have hw : IntKind.i64.wrap ((i : Int) + 1) = i + 1 := wrapi (by omega)
  simp [h0, h1', h12, h5, hi, hi2]
  refine TWcH.regionD (ρ := []) [0, 1, 2, 3, 4, 5, 6, 7, 8] 9 mixed (by kernel_rfl) ?_
  simp [h0, h1', h12, h5, hi, hi2, getI hi, getI hi2, aggT]
  refine gif_intro (fun c => ?_) (fun c => ?_)
  · have e : ¬ a = b := ne_at hi2 hi fun e => by rw [e] at c; simp at c
    simp [h0, h1', h12, h5, hi, hi2, bP_neg e]
  · have e : a[i] = b[i] := by
      simp only [not_or, Decidable.not_not] at c
      exact Prod.ext c.1 (Prod.ext c.2.1 c.2.2)
    simp [h0, h1', h12, h5, hi, hi2, hw]
    exact ⟨m - 1, by omega, i + 1, by omega, take_next hi2 hi ht e, by omega⟩
theorem tc_iLexSame (a b : List Tok) (ha : a.length ≤ 1152921504606846976) (hb : b.length ≤ 1152921504606846976) : TC Tryz.prog 8 [.ro (a.map encTok), .ro (b.map encTok)] [] (.val (.bool (bP (a = b)))) [] := by
  refine TC.enter Tryz.func8 rfl (by simp [Tryz.ntmps8]) rfl (tw_sound (ρ := []) ?_)
  rw [Tryz.ntmps8]
  simp
  refine TWoH.callV (tc_sameTok a b ha hb) callable_21 (by simp) (by simp) (by simp) (by simp) ?_
  simp
end Go.Proofs.YtibeeohnjabhkaaGreatDoor.R

open Go Go.Proofs.YtibeeohnjabhkaaGreatDoor.T
namespace Go.Proofs.YtibeeohnjabhkaaGreatDoor.R
set_option maxHeartbeats 4000000
set_option maxRecDepth 100000
set_option linter.unusedSimpArgs false
set_option linter.unusedVariables false
attribute [local simp] bsV bsRows chunk fillT partsT appV makeV rowsOf cellsOf placeOf
theorem SmL_at : ∀ {l : List Rex}, SmL l → ∀ i (h : i < l.length), Sm l[i]
  | r :: l, hs, 0, _ => hs.1
  | r :: l, hs, i + 1, h => by
    simp only [List.getElem_cons_succ]
    exact SmL_at hs.2 i (by simpa using h)
theorem tc_sRexSame0 (k k2 : Int) (s s2 : List (Int × Int)) (l l2 : List Rex) (hs : Sm (.mk k s l)) (hs2 : Sm (.mk k2 s2 l2)) (ih : ∀ i (h : i < l.length) (b : Rex), Sm b → TC Tryz.prog 96 [.agg (encRex l[i]), .agg (encRex b)] [] (.val (.bool (bP (l[i] = b)))) []) :
    TC Tryz.prog 96 [.agg (encRex (.mk k s l)), .agg (encRex (.mk k2 s2 l2))] [] (.val (.bool (bP (Rex.mk k s l = .mk k2 s2 l2)))) [] := by
  have q1 := hs.1
  have q2 := hs2.1
  have q3 := hs.2.1
  have q4 := hs2.2.1
  refine TC.enter Tryz.func96 rfl (by simp [Tryz.ntmps96]) rfl (tw_sound (ρ := [2, 3]) ?_)
  rw [Tryz.ntmps96]
  obtain ⟨R, hR⟩ : ∃ R, bP (Rex.mk k s l = .mk k2 s2 l2) = R := ⟨_, rfl⟩
  have hT : k = k2 → s = s2 → l = l2 → R = true := fun a b c => by rw [← hR]; exact bP_pos (by rw [a, b, c])
  have hF : ¬ (k = k2 ∧ s = s2 ∧ l = l2) → R = false := fun h => by rw [← hR]; exact bP_neg fun e => h (by injection e with a b c; exact ⟨a, b, c⟩)
  rw [hR]
  clear hR
  by_cases hk : k = k2
  case neg =>
    have h2 := hF fun e => hk e.1
    simp [encRex, encRexL_eq, hk, h2]
  simp [encRex, encRexL_eq, hk]
  refine TWoH.callV (tc_sSetSame s s2 (by omega) (by omega)) callable_104 (by simp) (by simp) (by simp) (by simp) ?_
  by_cases hss : s = s2
  case neg =>
    have h2 := hF fun e => hss e.2.1
    simp [hk, bP_neg hss, h2]
  by_cases hlen : l.length = l2.length
  case neg =>
    have h1 : ¬ (l.length : Int) = l2.length := by omega
    have h2 := hF fun e => hlen (by rw [e.2.2])
    simp [hk, bP_pos hss, h1, h2]
  have h1 : (l.length : Int) = l2.length := by omega
  simp [hk, bP_pos hss, h1]
  refine TWcH.loop [2, 3] (fun m st => ∃ i : Nat, i + m = l2.length ∧ l.take i = l2.take i ∧ st.σ 2 = .rptr [.val (.int .i64 k2), .ro (s.map encS), .ro (l.map encRex)] 0 ∧ st.σ 3 = .rptr [.val (.int .i64 k2), .ro (s2.map encS), .ro (l2.map encRex)] 0 ∧ st.σ 5 = .val (.int .i64 i)) l2.length ⟨0, by simp⟩ ?_
  rintro m ⟨σ, H⟩ ⟨i, him, ht, h0, h1', h5⟩
  simp only at h0 h1' h5
  by_cases hi : i < l2.length
  case neg =>
    have e : l = l2 := take_all hlen (by omega) ht
    have hi2 : ¬ i < l.length := by omega
    have e2 := hT hk hss e
    simp [h0, h1', h5, hi, hi2, e2]
  have hi2 : i < l.length := by omega
  have hw : IntKind.i64.wrap ((i : Int) + 1) = i + 1 := wrapi (by omega)
  simp [h0, h1', h5, hi, hi2]
  refine TWcH.regionD (ρ := [2, 3]) [0, 1, 2, 3, 4, 5, 6, 7, 8, 9, 10, 11] 12 mixed (by kernel_rfl) ?_
  simp [h0, h1', h5, hi, hi2, getI hi, getI hi2]
  refine TWqH.callV (ih i hi2 l2[i] (SmL_at hs2.2.2 i hi)) callable_96 (by simp [h0, h1', h5]) (by simp) (by simp) (by simp) ?_
  by_cases c : l[i] = l2[i]
  · simp [h0, h1', h5, hi, hi2, hw, bP_pos c]
    exact ⟨m - 1, by omega, i + 1, by omega, take_next hi2 hi ht c, by omega⟩
  · have e := hF fun e => ne_at hi2 hi c e.2.2
    simp [h0, h1', h5, hi, hi2, e, bP_neg c]
mutual
theorem tc_sRexSame : ∀ (a b : Rex), Sm a → Sm b → TC Tryz.prog 96 [.agg (encRex a), .agg (encRex b)] [] (.val (.bool (bP (a = b)))) []
  | .mk k s l, .mk k2 s2 l2, hs, hs2 => tc_sRexSame0 k k2 s s2 l l2 hs hs2 fun i h b hb => tc_sRexSameL l hs.2.2 i h b hb
theorem tc_sRexSameL : ∀ (l : List Rex), SmL l → ∀ i (h : i < l.length) (b : Rex), Sm b → TC Tryz.prog 96 [.agg (encRex l[i]), .agg (encRex b)] [] (.val (.bool (bP (l[i] = b)))) []
  | r :: l, hs, 0, _, b, hb => tc_sRexSame r b hs.1 hb
  | r :: l, hs, i + 1, h, b, hb => by
    simp only [List.getElem_cons_succ]
    exact tc_sRexSameL l hs.2 i (by simpa using h) b hb
end
end Go.Proofs.YtibeeohnjabhkaaGreatDoor.R

open Go Go.Proofs.YtibeeohnjabhkaaGreatDoor.T
namespace Go.Proofs.YtibeeohnjabhkaaGreatDoor.R
set_option maxHeartbeats 4000000
set_option maxRecDepth 100000
set_option linter.unusedSimpArgs false
set_option linter.unusedVariables false
attribute [local simp] bsV bsRows chunk fillT partsT appV makeV rowsOf cellsOf placeOf
/-- Numbers from k on. -/
def mkInts (k : Int) (n : Nat) : List Int := (List.range n).map fun (i : Nat) => k + (i : Int)
@[simp] theorem mkInts_len (k : Int) (n : Nat) : (mkInts k n).length = n := by simp [mkInts]
theorem mkInts_at {k : Int} {n i : Nat} (h : i < n) : (mkInts k n)[i]? = some (k + i) := by simp [mkInts, h]
def mkBools (k : Int) (n : Nat) : List Bool := (List.range n).map fun (i : Nat) => decide ((k + (i : Int)) % 3 = 0)
@[simp] theorem mkBools_len (k : Int) (n : Nat) : (mkBools k n).length = n := by simp [mkBools]
theorem mkBools_at {k : Int} {n i : Nat} (h : i < n) : (mkBools k n)[i]? = some (decide ((k + (i : Int)) % 3 = 0)) := by simp [mkBools, h]
def sumL {α : Type _} : List (List α) → Nat
  | [] => 0
  | x :: l => x.length + sumL l
theorem sumL_drop {α : Type _} {l : List (List α)} {i : Nat} (h : i < l.length) : sumL (l.drop i) = l[i].length + sumL (l.drop (i + 1)) := by
  conv => lhs; rw [List.drop_eq_getElem_cons h]
  rw [sumL]
theorem sumL_get {α : Type _} {l : List (List α)} {i : Nat} (h : i < l.length) : l[i].length ≤ sumL l := by
  induction l generalizing i with
  | nil => simp at h
  | cons r l ih =>
    cases i with
    | zero => simp [sumL]
    | succ i => simp only [List.getElem_cons_succ, sumL]; have := ih (i := i) (by simpa using h); omega
def costD (d : Dfa) : Nat := 2 * sumL d.parts + sumL d.rows + d.acc.length
theorem ite_neg1' {c : Prop} [Decidable c] {x : Int} (h : ¬ (if c then -1 else x) < 0) : ¬ c ∧ ¬ x < 0 := by
  split at h
  · exact absurd h (by omega)
  · exact ⟨by assumption, h⟩
theorem szN_ok' {n : Nat} {left : Int} (hn : n ≤ 1152921504606846976) (h0 : 0 ≤ left) (h1 : left ≤ 1048576) (h : ¬ szN n left < 0) : (n : Int) ≤ left ∧ szN n left = left - n := by
  have hw : IntKind.i64.wrap (left - n) = left - n := wrapi (by omega)
  unfold szN at h ⊢
  rw [hw] at h ⊢
  split at h
  · exact absurd h (by omega)
  · rename_i h2
    rw [if_neg h2]
    omega
theorem szLoopN_ok : ∀ (ns : List Nat) (left : Int), (∀ n ∈ ns, n ≤ 1152921504606846976) → 0 ≤ left → left ≤ 1048576 → ¬ szLoopN ns left < 0 → (∀ n ∈ ns, n ≤ 1048576) ∧ szLoopN ns left = left - ns.sum
  | [], left, hs, h0, h1, h => by simp [szLoopN]
  | n :: ns, left, hs, h0, h1, h => by
    rw [szLoopN] at h ⊢
    obtain ⟨c1, h⟩ := ite_neg1' h
    rw [if_neg c1]
    obtain ⟨a1, a2⟩ := szN_ok' (hs n (by simp)) h0 h1 c1
    obtain ⟨b1, b2⟩ := szLoopN_ok ns _ (fun q hq => hs q (by simp [hq])) (by omega) (by omega) h
    refine ⟨fun q hq => ?_, by rw [b2, a2]; simp only [List.sum_cons]; omega⟩
    rcases List.mem_cons.1 hq with rfl | hq
    · omega
    · exact b1 q hq
theorem szSSF_ok {ns : List Nat} {left : Int} (hl : ns.length ≤ 1152921504606846976) (hs : ∀ n ∈ ns, n ≤ 1152921504606846976) (h0 : 0 ≤ left) (h1 : left ≤ 1048576) (h : ¬ szSSF ns left < 0) : ns.length ≤ 1048576 ∧ (∀ n ∈ ns, n ≤ 1048576) ∧ szSSF ns left = left - ns.length - ns.sum ∧ 0 ≤ szSSF ns left := by
  have h' := h
  unfold szSSF at h ⊢
  obtain ⟨c1, h⟩ := ite_neg1' h
  rw [if_neg c1]
  have hw : IntKind.i64.wrap (left - ns.length) = left - ns.length := wrapi (by omega)
  rw [hw] at c1 h ⊢
  obtain ⟨b1, b2⟩ := szLoopN_ok ns _ hs (by omega) (by omega) h
  exact ⟨by omega, b1, b2, by omega⟩
theorem sumL_eq {α : Type _} : ∀ l : List (List α), sumL l = (l.map List.length).sum
  | [] => rfl
  | x :: l => by simp [sumL, sumL_eq l]
/-- What a machine that can be read as data is bounded by. -/
structure BDfa (d : Dfa) : Prop where
  parts : d.parts.length ≤ 1152921504606846976
  rows : d.rows.length ≤ 1152921504606846976
  acc : d.acc.length ≤ 1152921504606846976
  part : ∀ x ∈ d.parts, x.length ≤ 1152921504606846976
  row : ∀ x ∈ d.rows, x.length ≤ 1152921504606846976
theorem DSm_of {d : Dfa} (hB : BDfa d) (h : ¬ szDfaF d 1048576 < 0) : DSm d ∧ costD d ≤ 4194304 := by
  unfold szDfaF at h
  simp only at h
  obtain ⟨c1, h⟩ := ite_neg1' h
  obtain ⟨c2, h⟩ := ite_neg1' h
  obtain ⟨c3, h⟩ := ite_neg1' h
  obtain ⟨a1, a2, a3, a4⟩ := szSSF_ok (by simpa using hB.parts) (by simpa using hB.part) (by omega) (by omega) c1
  obtain ⟨b1, b2, b3, b4⟩ := szSSF_ok (by simpa using hB.rows) (by simpa using hB.row) (by omega) (by omega) c2
  obtain ⟨d1, d2⟩ := szN_ok' hB.acc (by omega) (by omega) c3
  simp only [List.length_map] at a1 a3 b1 b3
  refine ⟨⟨a1, b1, by omega, by simpa using a2, by simpa using b2⟩, ?_⟩
  unfold costD
  rw [sumL_eq, sumL_eq]
  omega
end Go.Proofs.YtibeeohnjabhkaaGreatDoor.R
