/- Part 8: what the walk of the code stands on. Conditions: none but those that each theorem states. -/
import Derived.Test.YtibeeohnjabhkaaK7
open Go Go.Proofs.Ytibeeohnjabhkaa.T
namespace Go.Proofs.Ytibeeohnjabhkaa.R
set_option maxHeartbeats 4000000
set_option maxRecDepth 100000
set_option linter.unusedSimpArgs false
set_option linter.unusedVariables false
theorem parts_one {d : Dfa} (ho : DOk d) : 1 ≤ d.parts.length := by
  obtain ⟨k, hk, _⟩ := parts_at ho.parts (b := 0) (by omega)
  omega
theorem not_ok {d : Dfa} (h : DOk d → False) : dfaOk d = false := by
  cases c : dfaOk d
  · rfl
  · exact (h (dok_of c)).elim
theorem rw_set {d : Dfa} (ho : DOk d) (r : List Int) : rw_ ⟨d.parts, d.rows.set 0 r, d.acc⟩ 0 = r := by
  have := ho.one
  unfold rw_
  rw [List.getElem?_set_self (by omega)]; rfl
theorem bad_a {d : Dfa} (ho : DOk d) (r : List Int) : dfaOk ⟨d.parts, d.rows.set 0 ((d.rows.length : Int) :: r), d.acc⟩ = false := not_ok fun h => by
  have := h.ent 0 (by simp; have := ho.one; omega) d.rows.length (by rw [rw_set ho]; simp)
  simp at this
theorem bad_b {d : Dfa} (ho : DOk d) : dfaOk ⟨d.parts, d.rows.set 0 ((rw_ d 0).drop 1), d.acc⟩ = false := not_ok fun h => by
  have h1 := ho.one
  have := h.row 0 (by simp; omega)
  rw [rw_set ho] at this
  have h2 := ho.row 0 (by omega)
  have h3 := parts_one ho
  simp at this
  omega
theorem bad_c {d : Dfa} (ho : DOk d) : dfaOk ⟨d.parts.drop 1, d.rows, d.acc⟩ = false := not_ok fun h => by
  have h1 := ho.one
  have := h.row 0 h1
  have h2 := ho.row 0 h1
  have h3 := parts_one ho
  simp only [rw_, List.length_drop] at this h2
  omega
theorem bad_e {d : Dfa} (ho : DOk d) (x : Int) : dfaOk ⟨d.parts, d.rows, d.acc ++ [x]⟩ = false := not_ok fun h => by
  have h1 := h.acc
  have h2 := ho.acc
  simp at h1
  omega
end Go.Proofs.Ytibeeohnjabhkaa.R

open Go Go.Proofs.Ytibeeohnjabhkaa.T
namespace Go.Proofs.Ytibeeohnjabhkaa.R
set_option maxHeartbeats 8000000
set_option maxRecDepth 100000
set_option linter.unusedSimpArgs false
set_option linter.unusedVariables false
attribute [local simp] bsV bsRows chunk fillT partsT appV makeV rowsOf cellsOf placeOf frzT frz1
theorem tc_FnDfaOk (b : List UInt8) : TC Try.prog 3 [.ro (b.map encU)] [] (.val (.bool true)) [] := by
  refine TC.enter Try.func3 rfl (by simp [Try.ntmps3]) rfl (tw_sound (ρ := []) ?_)
  rw [Try.ntmps3]
  by_cases hb0 : (1048576 : Int) < b.length
  · simp [hb0]
  have hb : b.length ≤ 1048576 := by omega
  simp [hb0]
  refine TWoH.callR (tcr_DrawDfaOk b hb) callable_11 (by simp) ?_
  rintro r o ⟨d, hd, rfl, rfl⟩
  refine ⟨rfl, by simp, .inl (by simp), fun q hq => ?_⟩
  clear hq
  have hs := hd.sm
  have t5 := tc_iDfaOk d hs
  have t6 := tc_sDfaOk d hs
  simp [encDfa]
  refine gall_intro fun c hc => ?_
  clear hc
  simp [encDfa]
  refine TWcH.regionD (ρ := []) [0, 2, 1, 3, 4, 5, 6, 7, 8, 9] 10 mixed (by kernel_rfl) ?_
  simp [encDfa]
  refine TWqH.callV t5 callable_12 (by simp [encDfa]) (by simp) (by simp) (by simp) ?_
  simp [encDfa]
  refine TWqH.callV t6 callable_13 (by simp [encDfa]) (by simp) (by simp) (by simp) ?_
  simp [encDfa]
  refine TWqH.callV t6 callable_13 (by simp [encDfa]) (by simp) (by simp) (by simp) ?_
  by_cases ok : dfaOk d = true
  case neg =>
    simp [ok]
    refine TWcH.regionD (ρ := []) [0, 2, 1, 3, 4, 5] 6 mixed (by kernel_rfl) ?_
    simp [encDfa]
    refine TWqH.callV t5 callable_12 (by simp [encDfa]) (by simp) (by simp) (by simp) ?_
    simp [encDfa]
    refine TWqH.callV t6 callable_13 (by simp [encDfa]) (by simp) (by simp) (by simp) ?_
    simp [encDfa]
  have ho := dok_of ok
  have hmost := ho.most
  have hone := ho.one
  have hacc := ho.acc
  simp [ok]
  refine gall_fresh [c] (by simp) fun c4 f4 => ?_
  simp [frF] at f4
  simp [f4]
  refine gall_fresh [c, c4] (by simp [f4]) fun r4 g4 => ?_
  simp [frF] at g4
  have k1 : d.rows.length * 24 ≤ 140737488355328 := by omega
  have k2 : d.rows.length ≤ 9223372036854775807 := by omega
  have k3 : 0 < d.rows.length := by omega
  simp [f4, g4, k1, k2]
  refine gall_fresh [c, c4, r4] (by simp [f4, g4]) fun s4 h4 => ?_
  simp [frF] at h4
  have hpi : ∀ h, d.rows[0]'h = rw_ d 0 := fun _ => (rw_eq k3).symm
  have hr0 := ho.row 0 k3
  have hp1 := parts_one ho
  have hpl := hs.parts
  have k4 : 0 < (rw_ d 0).length := by omega
  have k5 : (1 : Int) ≤ (rw_ d 0).length := by omega
  simp [f4, g4, h4, del, delo]
  refine TWcH.regionD (ρ := []) [0, 1, 2, 3, 4, 6, 7, 8, 9, 10, 5, 11, 12, 13] 13 mixed (by kernel_rfl) ?_
  simp [f4, g4, h4, k3, del, delo, hpi, encR, k4, k5]
  refine gall_fresh [c, c4, s4] (by simp [f4, g4, h4, del]) fun n4 e4 => ?_
  simp [frF] at e4
  have k6 : (rw_ d 0).length ≤ 1048576 := by omega
  obtain ⟨R, hR⟩ : ∃ R, (rw_ d 0).drop 1 = R := ⟨_, rfl⟩
  have hT : (List.take (rw_ d 0).length (List.map encI (rw_ d 0))).tail = R.map encI := by
    rw [← hR, List.take_of_length_le (by simp), List.drop_one, List.map_tail]
  have hRl : R.length = (rw_ d 0).length - 1 := by rw [← hR]; simp
  have k7 : (1 + R.length) * 8 ≤ 140737488355328 := by omega
  have k8 : 1 + R.length ≤ 9223372036854775807 := by omega
  simp [f4, g4, h4, e4, del, delo, hT, k7, k8]
  refine gall_fresh [c, c4, s4, n4] (by simp [f4, g4, h4, e4, del]) fun m4 l4 => ?_
  simp [frF] at l4
  simp [f4, g4, h4, e4, l4, del, delo, k3]
  refine gall_fresh [c, c4, s4, m4] (by simp [f4, g4, h4, e4, l4, del]) fun c5 f5 => ?_
  simp [frF] at f5
  simp [f4, g4, h4, e4, l4, del, delo, k3, f5]
  refine gall_fresh [c, c4, s4, m4, c5] (by simp [f4, g4, h4, e4, l4, f5, del]) fun r5 g5 => ?_
  simp [frF] at g5
  simp [f4, g4, h4, e4, l4, del, delo, k1, k2, k3, f5, g5]
  refine gall_fresh [c, c4, s4, m4, c5, r5] (by simp [f4, g4, h4, e4, l4, f5, g5, del]) fun s5 h5 => ?_
  simp [frF] at h5
  simp [f4, g4, h4, e4, l4, del, delo, k1, k2, k3, f5, g5, h5]
  refine TWcH.regionD (ρ := []) [0, 1, 2, 3, 4, 5, 6, 7, 8] 8 mixed (by kernel_rfl) ?_
  simp [f4, g4, h4, e4, l4, del, delo, k3, f5, g5, h5, hpi, encR, k4, k5, hT]
  have hp2 : (1 : Int) ≤ d.parts.length := by omega
  have q1 : d.acc.length * 8 ≤ 140737488355328 := by omega
  have q2 : d.acc.length ≤ 9223372036854775807 := by omega
  refine gall_fresh [c, c4, s4, m4, c5, s5] (by simp [f4, g4, h4, e4, l4, f5, g5, h5, del]) fun c6 f6 => ?_
  simp [frF] at f6
  simp [f4, g4, h4, e4, l4, del, delo, k3, f5, g5, h5, f6, hp2]
  refine gall_fresh [c, c4, s4, m4, c5, s5, c6] (by simp [f4, g4, h4, e4, l4, f5, g5, h5, f6, del]) fun c7 f7 => ?_
  simp [frF] at f7
  simp [f4, g4, h4, e4, l4, del, delo, k3, f5, g5, h5, f6, f7, hp2]
  refine gall_fresh [c, c4, s4, m4, c5, s5, c6, c7] (by simp [f4, g4, h4, e4, l4, f5, g5, h5, f6, f7, del]) fun r7 g7 => ?_
  simp [frF] at g7
  simp [f4, g4, h4, e4, l4, del, delo, k3, f5, g5, h5, f6, f7, g7, q1, q2]
  refine gall_fresh [c, c4, s4, m4, c5, s5, c6, c7, r7] (by simp [f4, g4, h4, e4, l4, f5, g5, h5, f6, f7, g7, del]) fun s7 h7 => ?_
  simp [frF] at h7
  simp [f4, g4, h4, e4, l4, del, delo, k3, f5, g5, h5, f6, f7, g7, h7]
  refine gall_fresh [c, c4, s4, m4, c5, s5, c6, c7, s7] (by simp [f4, g4, h4, e4, l4, f5, g5, h5, f6, f7, g7, h7, del]) fun z7 j7 => ?_
  simp [frF] at j7
  have q3 : (d.acc.length + 1) * 8 ≤ 140737488355328 := by omega
  have q4 : d.acc.length + 1 ≤ 9223372036854775807 := by omega
  simp [f4, g4, h4, e4, l4, del, delo, k3, f5, g5, h5, f6, f7, g7, h7, j7, q3, q4]
  refine gall_fresh [c, c4, s4, m4, c5, s5, c6, c7, s7, z7] (by simp [f4, g4, h4, e4, l4, f5, g5, h5, f6, f7, g7, h7, j7, del]) fun w7 i7 => ?_
  simp [frF] at i7
  simp [f4, g4, h4, e4, l4, del, delo, k3, f5, g5, h5, f6, f7, g7, h7, j7, i7]
  obtain ⟨RA, hRA⟩ : ∃ RA, d.rows.set 0 ((d.rows.length : Int) :: R) = RA := ⟨_, rfl⟩
  obtain ⟨RB, hRB⟩ : ∃ RB, d.rows.set 0 R = RB := ⟨_, rfl⟩
  have hA : (List.map (fun x => [TV.ro (List.map encI x)]) d.rows).set 0 [TV.ro (encI ↑d.rows.length :: List.map encI R)] = RA.map encR := by rw [← hRA, List.map_set]; rfl
  have hB : (List.map (fun x => [TV.ro (List.map encI x)]) d.rows).set 0 [TV.ro (List.map encI R)] = RB.map encR := by rw [← hRB, List.map_set]; rfl
  obtain ⟨AE, hAE⟩ : ∃ AE, d.acc ++ [0] = AE := ⟨_, rfl⟩
  have hE : d.acc.map encI ++ [[TV.val (Value.int .i64 0)]] = AE.map encI := by rw [← hAE]; simp [encI]
  have hPT : (List.take d.parts.length (List.map encP d.parts)).tail = (List.map encP d.parts).tail := by rw [List.take_of_length_le (by simp)]
  have fI : ∀ (j : Nat) (r : TV) (x : Int), (encI x).map (frz1 j r) = encI x := fun j r x => by simp [encI, frz1]
  refine TWoH.via (A := fun st => st.σ 74 = .agg (encDfa ⟨d.parts, RA, d.acc⟩) ∧ st.σ 4 = .pd c4 0 0 0 ∧ st.H c4 = some (.box 27 (encDfa ⟨d.parts, RA, d.acc⟩)) ∧ st.σ 5 = .pd c5 0 0 0 ∧ st.H c5 = some (.box 27 (encDfa ⟨d.parts, RB, d.acc⟩)) ∧ st.σ 6 = .pd c6 0 0 0 ∧ st.H c6 = some (.box 27 (encDfa ⟨d.parts.drop 1, d.rows, d.acc⟩)) ∧ st.σ 7 = .pd c7 0 0 0 ∧ st.H c7 = some (.box 27 (encDfa ⟨d.parts, d.rows, AE⟩)))
    (Turn.then (Turn.freezeA m4 (t := .own 3 (((d.rows.length : Int) :: R).map encI)) (by simp [f4, g4, h4, e4, l4, del, delo, k3, f5, g5, h5, f6, f7, g7, h7, j7, i7, encI])
    (Turn.then (Turn.freezeA s4 (t := .own 25 ((RA).map encR)) (by simp [f4, g4, h4, e4, l4, del, delo, k3, f5, g5, h5, f6, f7, g7, h7, j7, i7, frzO, frz1, encR, List.map_set, Function.comp_def, hA, hB, hE])
    (Turn.then (Turn.freezeA s5 (t := .own 25 ((RB).map encR)) (by simp [f4, g4, h4, e4, l4, del, delo, k3, f5, g5, h5, f6, f7, g7, h7, j7, i7, frzO, frz1, encR, List.map_set, Function.comp_def, hA, hB, hE])
    (Turn.freezeA w7 (t := .own 3 ((AE).map encI)) (by simp [f4, g4, h4, e4, l4, del, delo, k3, f5, g5, h5, f6, f7, g7, h7, j7, i7, frzO, fI, Function.comp_def, hE]) ?_))))))) ?_
  · simp [f4, g4, h4, e4, l4, del, delo, k3, f5, g5, h5, f6, f7, g7, h7, j7, i7, frzO, frz1, frzT, encDfa, hPT]
  clear f4 g4 h4 e4 l4 f5 g5 h5 f6 f7 g7 h7 j7 i7
  rintro ⟨σ, H⟩ ⟨x1, x2, x3, x4, x5, x6, x7, x8, x9⟩
  simp only at x1 x2 x3 x4 x5 x6 x7 x8 x9
  have sa : DSm ⟨d.parts, RA, d.acc⟩ := ⟨hs.parts, by rw [← hRA]; simpa using hs.rows, hs.acc, hs.part, fun x hx => by
    rw [← hRA] at hx
    rcases List.mem_or_eq_of_mem_set hx with hx | hx
    · exact hs.row x hx
    · subst hx; simp; omega⟩
  have sb : DSm ⟨d.parts, RB, d.acc⟩ := ⟨hs.parts, by rw [← hRB]; simpa using hs.rows, hs.acc, hs.part, fun x hx => by
    rw [← hRB] at hx
    rcases List.mem_or_eq_of_mem_set hx with hx | hx
    · exact hs.row x hx
    · subst hx; omega⟩
  have sc : DSm ⟨d.parts.drop 1, d.rows, d.acc⟩ := ⟨by simp; omega, hs.rows, hs.acc, fun x hx => hs.part x (List.mem_of_mem_drop hx), hs.row⟩
  have se : DSm ⟨d.parts, d.rows, AE⟩ := ⟨hs.parts, hs.rows, by rw [← hAE]; simp; omega, hs.part, hs.row⟩
  have ta := tc_iDfaOk _ sa
  have tb := tc_iDfaOk _ sb
  have tc := tc_iDfaOk _ sc
  have te := tc_iDfaOk _ se
  have tr := tc_iDfaRun _ sa [] (by simp)
  have na : dfaOk ⟨d.parts, RA, d.acc⟩ = false := by rw [← hRA]; exact bad_a ho R
  rw [na] at ta
  rw [show dfaOk ⟨d.parts, RB, d.acc⟩ = false by rw [← hRB, ← hR]; exact bad_b ho] at tb
  rw [bad_c ho] at tc
  rw [show dfaOk ⟨d.parts, d.rows, AE⟩ = false by rw [← hAE]; exact bad_e ho 0] at te
  rw [show runF ⟨d.parts, RA, d.acc⟩ [] = -1 by unfold runF; rw [na]; rfl] at tr
  generalize (⟨d.parts, RA, d.acc⟩ : Dfa) = da at ta tr x1 x3
  generalize (⟨d.parts, RB, d.acc⟩ : Dfa) = db at tb x5
  generalize (⟨d.parts.drop 1, d.rows, d.acc⟩ : Dfa) = dc at tc x7
  generalize (⟨d.parts, d.rows, AE⟩ : Dfa) = de at te x9
  refine TWoH.callV ta callable_12 (by simp [x1, encDfa]) (by simp) (by simp) (by simp) ?_
  simp [x1, x2, x3, x4, x5, x6, x7, x8, x9, encDfa]
  refine TWoH.callV tb callable_12 (by simp [encDfa]) (by simp) (by simp) (by simp) ?_
  simp [x1, x2, x3, x4, x5, x6, x7, x8, x9, encDfa]
  refine TWoH.callV tc callable_12 (by simp [encDfa]) (by simp) (by simp) (by simp) ?_
  simp [x1, x2, x3, x4, x5, x6, x7, x8, x9, encDfa]
  refine TWoH.callV te callable_12 (by simp [encDfa]) (by simp) (by simp) (by simp) ?_
  simp [x1, x2, x3, x4, x5, x6, x7, x8, x9, encDfa]
  refine TWoH.callV tr callable_14 (by simp [encDfa]) (by simp) (by simp) (by simp) ?_
  simp [x1, x2, x3, x4, x5, x6, x7, x8, x9, encDfa]
end Go.Proofs.Ytibeeohnjabhkaa.R
