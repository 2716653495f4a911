/- Part 7: what the walk of the code stands on. Conditions: none but those that each theorem states. -/
import Derived.Test.YtibeeohnjabhkaaGreatDoorK6
open Go Go.Proofs.YtibeeohnjabhkaaGreatDoor.T
namespace Go.Proofs.YtibeeohnjabhkaaGreatDoor.R
set_option maxHeartbeats 8000000
set_option maxRecDepth 100000
set_option linter.unusedSimpArgs false
set_option linter.unusedVariables false
attribute [local simp] bsV bsRows chunk fillT partsT appV makeV rowsOf cellsOf placeOf frzT frz1
structure GW (d : Dfa) : Prop where
  rows : 1 ≤ d.rows.length ∧ d.rows.length ≤ 40
  acc : d.acc.length = d.rows.length
  parts : 1 ≤ d.parts.length ∧ d.parts.length ≤ 65536
  part : ∀ x ∈ d.parts, x.length ≤ 256
  row : ∀ r ∈ d.rows, 1 ≤ r.length ∧ r.length ≤ 65536
theorem GD.weak {d : Dfa} (h : GD d) : GW d := ⟨h.rows, h.acc, h.parts, h.part, fun r hr => by rw [h.row r hr]; exact h.parts⟩
def macO (d : Dfa) : TV := .agg [.ro (d.parts.map encP), .own 25 (d.rows.map oR), .own 3 (d.acc.map encI)]
theorem over {H : Nat → Option TV} {q k : Nat} {t : TV} (hk : ∀ j, k ≤ j → H j = none) (h : H q = some t) : q < k := Nat.lt_of_not_le fun e => by rw [hk q e] at h; cases h
theorem rsm_names {l : List Rule} (hl : ∀ x ∈ l, Sm x.rex ∧ x.name ∈ RN) (h4 : l.length ≤ 4) : RSm l := ⟨by omega, fun r hr => ⟨(hl r hr).1, by have := (hl r hr).2; simp [RN] at this; rcases this with h | h | h | h | h <;> rw [h] <;> simp⟩⟩
theorem tcr_l7Any (b : List UInt8) (p : Nat) (hb : b.length ≤ 2000) (hp : p ≤ 800000000) : TCR Tryz.prog 44 [.pd 0 0 0 0] [rdr b p] (fun r o => ∃ (d : Dfa) (p' : Nat), GW d ∧ r = macO d ∧ p' ≤ p + 1100 ∧ o = [rdr b p']) := by
  refine TCR.enter Tryz.func44 rfl (by simp [Tryz.ntmps44]) rfl (tw_sound (ρ := []) ?_)
  rw [Tryz.ntmps44]
  simp
  refine gall_fresh [0] (by simp) fun q2 f2 => ?_
  simp [frF] at f2
  simp [f2]
  refine TWoH.lendR [0] (tcr_l6Rules b p hb (by omega)) callable_53 (by simp [List.findIdx?_cons, f2]) (by simp [f2]) (by simp) (by simp) ?_
  rintro r o ⟨l, p1, rfl, hl, h1, h4, hp1, rfl⟩
  refine ⟨by simp [rdr], by simp, .inl (by simp [List.findIdx?_cons, f2]), fun q hq => ?_⟩
  have l2 : q2 < q := over hq (t := .box 27 [.val (.slice none 0 0), .val (.slice none 0 0), .val (.slice none 0 0)]) (by simp [f2])
  have fq : (¬ q = 0 ∧ ¬ 0 = q) ∧ (¬ q = q2 ∧ ¬ q2 = q) := by omega
  clear hq l2
  simp [f2, fq]
  refine TWoH.turn (Turn.freeze q (t := .own 112 (l.map encRule)) (by simp [f2, fq]) ?_)
  refine TWoH.callR (tcr_DfaOf l (rsm_names hl h4)) callable_52 (by simp) ?_
  rintro r o ⟨rfl, ⟨d, hd, rfl⟩ | rfl⟩
  · refine ⟨rfl, by simp, .inl (by simp), fun k hk => ?_⟩
    have l2 : q2 < k := over hk (t := .box 27 [.val (.slice none 0 0), .val (.slice none 0 0), .val (.slice none 0 0)]) (by simp [f2, fq, del])
    have fk : (¬ k = 0 ∧ ¬ 0 = k) ∧ (¬ k = q2 ∧ ¬ q2 = k) ∧ (¬ k + 1 = 0 ∧ ¬ 0 = k + 1) ∧ (¬ k + 1 = q2 ∧ ¬ q2 = k + 1) := by omega
    clear hk l2
    simp [f2, fq, fk, del]
    refine gall_fresh [0, q2, k, k + 1] (by simp [f2, fq, fk, del]) fun c3 f3 => ?_
    simp [frF] at f3
    simp [f2, fq, fk, f3, del]
    refine TWoH.lendR [0] (tcr_pick b p1 2 hb (by omega)) callable_30 (by simp [List.findIdx?_cons, f2, fq, fk, f3]) (by simp [f2, fq, fk, f3, del]) (by simp) (by simp) ?_
    rintro r o ⟨n, rfl, n0, n1, rfl⟩
    refine ⟨by simp [rdr], by simp, .inl (by simp [List.findIdx?_cons, f2, fq, fk, f3]), fun q' hq => ?_⟩
    clear hq
    by_cases cn : n = 0
    · simp [f2, fq, fk, f3, del, cn]
      exact ⟨_, _, ⟨rfl, rfl⟩, by simp, by simp [f2, fq, fk, f3, del], d, hd.weak, by simp [macO], p1 + 1, by omega, by simp [f2, fq, fk, f3, del]⟩
    · simp [f2, fq, fk, f3, del, cn]
      refine gall_fresh [0, q2] (by simp [f2, fq, fk, f3]) fun a1 e1 => ?_
      simp [frF] at e1
      simp [f2, fq, fk, f3, e1]
      refine gall_fresh [0, q2, a1] (by simp [f2, fq, fk, f3, e1]) fun a2 e2 => ?_
      simp [frF] at e2
      simp [f2, fq, fk, f3, e1, e2]
      refine gall_fresh [0, q2, a1, a2] (by simp [f2, fq, fk, f3, e1, e2]) fun a3 e3 => ?_
      simp [frF] at e3
      simp [f2, fq, fk, f3, e1, e2, e3]
      refine TWoH.turn (Turn.then (Turn.freezeA a1 (t := .own 66 ([(97, 97)].map encS)) (by simp [f2, fq, fk, f3, e1, e2, e3, encS]) (Turn.then (Turn.freezeA a2 (t := .own 66 ([(98, 98)].map encS)) (by simp [f2, fq, fk, f3, e1, e2, e3, encS, frzO, del]) (Turn.freezeA a3 (t := .own 63 ([[(97, 97)], [(98, 98)]].map encP)) (by simp [f2, fq, fk, f3, e1, e2, e3, encS, encP, frzO, del]) ?_)))))
      have tsp := tc_SetPartsR [[(97, 97)], [(98, 98)]] (by intro s hs; simp at hs; rcases hs with rfl | rfl <;> simp [setOk, setOkP, okX]) (by simp)
      have hpi : PI (cutAll [[(97, 97)], [(98, 98)]]) := PI.cutAll _ PI.all
      have hps := sorted_len hpi
      have hpo := sorted_each hpi
      generalize sortTo (cutAll [[(97, 97)], [(98, 98)]]) 256 = ps at tsp hps hpo
      refine TWoH.callV tsp callable_54 (by simp [f2, fq, fk, f3, e1, e2, e3, encS, encP]) (by simp) (by simp) (by simp [f2, fq, fk, f3, e1, e2, e3]) ?_
      simp [f2, fq, fk, f3, e1, e2, e3, del, frzO]
      refine gall_fresh [0, q2] (by simp [f2, fq, fk, f3, e1, e2, e3, del, frzO, rdr]) fun c5 e5 => ?_
      simp [frF] at e5
      simp [f2, fq, fk, f3, e1, e2, e3, e5, del, frzO]
      refine TWoH.lendR [0] (tcr_pick b (p1 + 1) 6 hb (by omega)) callable_30 (by simp [List.findIdx?_cons, f2, fq, fk, f3, e1, e2, e3, e5]) (by simp [f2, fq, fk, f3, e1, e2, e3, e5, del, frzO, rdr]) (by simp) (by simp) ?_
      rintro r o ⟨n, rfl, n0, n1, rfl⟩
      refine ⟨by simp [rdr], by simp, .inl (by simp [List.findIdx?_cons, f2, fq, fk, f3, e1, e2, e3, e5]), fun q hq => ?_⟩
      clear hq
      obtain ⟨N, hN, hN6, hN1⟩ : ∃ N : Nat, 1 + n = (N : Int) ∧ N ≤ 6 ∧ 1 ≤ N := ⟨(1 + n).toNat, by omega, by have := n1 (by omega); omega, by omega⟩
      have hwN : IntKind.i64.wrap (1 + n) = N := by rw [wrapi (by omega)]; exact hN
      simp [f2, fq, fk, f3, e1, e2, e3, e5, del, frzO, hwN]
      have fc2 : (¬ q2 = 0 ∧ ¬ 0 = q2) ∧ (¬ c5 = 0 ∧ ¬ 0 = c5) ∧ (¬ c5 = q2 ∧ ¬ q2 = c5) := by simp [e5, f2]
      refine TWcH.loopT [] (fun m st => ∃ (i pp : Nat) (rows : List (List Int)) (acc : List Int) (cells : List TV), i + m = N ∧ pp ≤ p + 1002 + 4 * i ∧ rows.length = i ∧ acc.length = i ∧ (∀ r ∈ rows, r.length = 3) ∧ st.σ 0 = .pd 0 0 0 0 ∧ st.H 0 = some (rdr b pp) ∧ st.σ 2 = .pd q2 0 0 0 ∧ st.H q2 = some (.box 27 [.val (.slice none 0 0), .val (.slice none 0 0), .val (.slice none 0 0)]) ∧ st.σ 5 = .pd c5 0 0 0 ∧ st.σ 6 = .val (.int .i64 N) ∧ st.σ 7 = .val (.int .i64 i) ∧ st.H c5 = some (.box 27 (.ro (ps.map encP) :: cells)) ∧
          ((i = 0 ∧ cells = [.val (.slice none 0 0), .val (.slice none 0 0)]) ∨ ∃ k1 k2 q10 row rows', cells = [.hd k1, .hd k2] ∧ rows = rows' ++ [row] ∧ st.H k1 = some (.own 25 (rows'.map oR ++ [[.hd q10]])) ∧ st.H q10 = some (.own 3 (row.map encI)) ∧ st.H k2 = some (.own 3 (acc.map encI)) ∧ ¬ q10 = k2))
        (fun m st => ∃ (i pp k1 k2 : Nat) (rows : List (List Int)) (acc : List Int), i + m = N ∧ pp ≤ p + 1002 + 4 * i ∧ rows.length = i ∧ acc.length = i ∧ (∀ r ∈ rows, r.length = 3) ∧ st.σ 0 = .pd 0 0 0 0 ∧ st.H 0 = some (rdr b pp) ∧ st.σ 2 = .pd q2 0 0 0 ∧ st.H q2 = some (.box 27 [.val (.slice none 0 0), .val (.slice none 0 0), .val (.slice none 0 0)]) ∧ st.σ 5 = .pd c5 0 0 0 ∧ st.σ 6 = .val (.int .i64 N) ∧ st.σ 7 = .val (.int .i64 i) ∧ st.H c5 = some (.box 27 [.ro (ps.map encP), .hd k1, .hd k2]) ∧ st.H k1 = some (.own 25 (rows.map oR)) ∧ st.H k2 = some (.own 3 (acc.map encI))) N
        ⟨0, (p1 + 1) + 1, [], [], _, by simp, by omega, rfl, rfl, by simp, by simp [f2, fq, fk, f3, e1, e2, e3, e5, del, frzO], by simp [f2, fq, fk, f3, e1, e2, e3, e5, del, frzO], by simp [f2, fq, fk, f3, e1, e2, e3, e5, del, frzO], by simp [f2, fq, fk, f3, e1, e2, e3, e5, del, frzO], by simp [f2, fq, fk, f3, e1, e2, e3, e5, del, frzO], by simp [f2, fq, fk, f3, e1, e2, e3, e5, del, frzO], by simp [f2, fq, fk, f3, e1, e2, e3, e5, del, frzO], by simp [f2, fq, fk, f3, e1, e2, e3, e5, del, frzO], .inl ⟨rfl, rfl⟩⟩ ?_ ?_
      · clear fq fk f3 e1 e2 e3 e5
        rintro m ⟨σ, H⟩ ⟨i, pp, rows, acc, cells, him, hpp, hrl, hal, hrr, h0, H0, h2, H2, h5, h6, h7, Hc, hcase⟩
        simp only at h0 H0 h2 H2 h5 h6 h7 Hc hcase
        rcases hcase with ⟨rfl, rfl⟩ | ⟨k1, k2, q10, row, rows', rfl, rfl, K1, Q10, K2, hne⟩
        · obtain rfl : rows = [] := List.eq_nil_of_length_eq_zero hrl
          obtain rfl : acc = [] := List.eq_nil_of_length_eq_zero hal
          refine Turn.then (Turn.nilC c5 1 25 27 (cs := [.ro (ps.map encP), .val (.slice none 0 0), .val (.slice none 0 0)]) Hc (by simp) fun k1 n1 e1 => Turn.nilC c5 2 3 27 (cs := [.ro (ps.map encP), .hd k1, .val (.slice none 0 0)]) (by simp) (by simp) fun k2 n2 e2 => ?_)
          simp only at n1 n2
          have a1 : ¬ k1 = 0 := fun e => by rw [e, H0] at n1; cases n1
          have a2 : ¬ k1 = q2 := fun e => by rw [e, H2] at n1; cases n1
          have a1' : ¬ 0 = k1 := fun e => a1 e.symm
          have a2' : ¬ q2 = k1 := fun e => a2 e.symm
          have b0 : ¬ k2 = k1 := fun e => by rw [e] at n2; simp [e1] at n2
          have b1 : ¬ k2 = 0 := fun e => by rw [e] at n2; simp [e1, fc2, H0, a1'] at n2
          have b2 : ¬ k2 = q2 := fun e => by rw [e] at n2; simp [e1, fc2, H2, a2'] at n2
          have b0' : ¬ k1 = k2 := fun e => b0 e.symm
          have b1' : ¬ 0 = k2 := fun e => b1 e.symm
          have b2' : ¬ q2 = k2 := fun e => b2 e.symm
          have e1' : ¬ c5 = k1 := fun e => e1 e.symm
          have e2' : ¬ c5 = k2 := fun e => e2 e.symm
          exact ⟨0, pp, k1, k2, [], [], him, hpp, rfl, rfl, by simp, h0, by simp [a1', b1', fc2, H0], h2, by simp [a2', b2', fc2, H2], h5, h6, h7, by simp, by simp [a1, e1, b0'], by simp [e2]⟩
        · have g1 := ne_of K1 Q10 (by simp)
          have g2 := ne_of K1 H0 (by simp [rdr])
          have g3 := ne_of K1 H2 (by simp)
          have g4 := ne_of K1 Hc (by simp)
          have g5 := ne_of K1 K2 (by simp)
          have g6 := ne_of Q10 H0 (by simp [rdr])
          have g7 := ne_of Q10 H2 (by simp)
          have g8 := ne_of Q10 Hc (by simp)
          have hne' : ¬ k2 = q10 := fun e => hne e.symm
          refine Turn.shift (Shift.fold1x k1 q10 25 rows'.length 0 (rows'.map oR ++ [[.hd q10]]) [.hd q10] (.own 3 (row.map encI)) g1.1 K1 (by simp) (by simp) Q10) ?_
          exact ⟨i, pp, k1, k2, rows' ++ [row], acc, him, hpp, hrl, hal, hrr, h0, by simp [del, g2, g6, H0], h2, by simp [del, g3, g7, H2], h5, h6, h7, by simp [del, g4, g8, Hc], by simp [oR], by simp [del, g5, hne, hne', K2]⟩
      · clear fq fk f3 e1 e2 e3 e5
        rintro m ⟨σ, H⟩ ⟨i, pp, k1, k2, rows, acc, him, hpp, hrl, hal, hrr, h0, H0, h2, H2, h5, h6, h7, Hc, K1, K2⟩
        simp only at h0 H0 h2 H2 h5 h6 h7 Hc K1 K2
        have g2 := ne_of K1 H0 (by simp [rdr])
        have g3 := ne_of K1 H2 (by simp)
        have g4 := ne_of K1 Hc (by simp)
        have g5 := ne_of K1 K2 (by simp)
        have g6 := ne_of K2 H0 (by simp [rdr])
        have g7 := ne_of K2 H2 (by simp)
        have g8 := ne_of K2 Hc (by simp)
        by_cases hi : i < N
        case neg =>
          obtain rfl : i = N := by omega
          simp [h0, H0, h2, H2, h5, h6, h7, Hc, K1, K2, fc2, g2, g3, g4, g5, g6, g7, g8]
          exact ⟨_, _, ⟨rfl, rfl⟩, by simp, by simp [H0, fc2, g2, g6, del], ⟨ps, rows, acc⟩, ⟨⟨by simp only; omega, by simp only; omega⟩, by simp only; omega, hps, fun x hx => setOk_len (hpo x hx), fun r hr => by have := hrr r hr; omega⟩, by simp [macO], pp, by omega, by simp [H0, fc2, g2, g6, del]⟩
        have hw : IntKind.i64.wrap ((i : Int) + 1) = i + 1 := wrapi (by omega)
        have hwN1 : IntKind.i64.wrap ((N : Int) + 1) = N + 1 := wrapi (by omega)
        simp [h0, H0, h2, H2, h5, h6, h7, Hc, K1, K2, fc2, g2, g3, g4, g5, g6, g7, g8, hi]
        refine gall_fresh [0, q2, c5, k1, k2] (by simp [H0, H2, Hc, K1, K2]) fun q10 f10 => ?_
        simp [frF] at f10
        simp [h0, H0, h2, H2, h5, h6, h7, Hc, K1, K2, fc2, g2, g3, g4, g5, g6, g7, g8, hi, f10]
        refine TWcH.loop [] (fun m' st => ∃ (j pp q10 : Nat) (row : List Int), j + m' = 3 ∧ pp ≤ p + 1002 + 4 * i + j ∧ row.length = j ∧ (¬ q10 = k2 ∧ ¬ k2 = q10) ∧ st.σ 0 = .pd 0 0 0 0 ∧ st.H 0 = some (rdr b pp) ∧ st.σ 2 = .pd q2 0 0 0 ∧ st.H q2 = some (.box 27 [.val (.slice none 0 0), .val (.slice none 0 0), .val (.slice none 0 0)]) ∧ st.σ 5 = .pd c5 0 0 0 ∧ st.σ 6 = .val (.int .i64 N) ∧ st.σ 7 = .val (.int .i64 i) ∧ st.σ 8 = .hd q10 ∧ st.H q10 = some (.own 3 (row.map encI)) ∧ st.σ 9 = .val (.int .i64 j) ∧ st.H c5 = some (.box 27 [.ro (ps.map encP), .hd k1, .hd k2]) ∧ st.H k1 = some (.own 25 (rows.map oR)) ∧ st.H k2 = some (.own 3 (acc.map encI))) 3
          ⟨0, pp, q10, [], by simp, by omega, rfl, by simp [f10], by simp [h0, H0, h2, H2, h5, h6, h7, Hc, K1, K2, fc2, g2, g3, g4, g5, g6, g7, g8, hi, f10]⟩ ?_
        clear h0 H0 h2 H2 h5 h6 h7 Hc K1 K2 f10 hpp q10 pp
        clear σ H
        rintro m' ⟨σ, H⟩ ⟨j, pp, q10, row, hjm, hpp, hrj, f10, h0, H0, h2, H2, h5, h6, h7, h8, H10, h9, Hc, K1, K2⟩
        simp only at h0 H0 h2 H2 h5 h6 h7 h8 H10 h9 Hc K1 K2
        have n1 := ne_of H10 H0 (by simp [rdr])
        have n2 := ne_of H10 H2 (by simp)
        have n3 := ne_of H10 Hc (by simp)
        have n4 := ne_of H10 K1 (by simp)
        by_cases hj : j < 3
        case pos =>
          have hj2 : (j : Int) < 3 := by omega
          have hwj : IntKind.i64.wrap ((j : Int) + 1) = j + 1 := wrapi (by omega)
          have r1 : (row.length + 1) * 8 ≤ 140737488355328 := by omega
          have r2 : row.length ≤ 9223372036854775806 := by omega
          simp [h0, H0, h2, H2, h5, h6, h7, Hc, K1, K2, fc2, g2, g3, g4, g5, g6, g7, g8, hi, f10, h8, h9, H10, n1, n2, n3, n4, hj2, hwN1]
          refine TWoH.lendR [0] (tcr_pick b pp (N + 1) hb (by omega)) callable_30 (by simp [List.findIdx?_cons, h0, H0, h2, H2, h5, h6, h7, Hc, K1, K2, fc2, g2, g3, g4, g5, g6, g7, g8, hi, f10, h8, h9, H10, n1, n2, n3, n4, hwN1]) (by simp [h0, H0, h2, H2, h5, h6, h7, Hc, K1, K2, fc2, g2, g3, g4, g5, g6, g7, g8, hi, f10, h8, h9, H10, n1, n2, n3, n4]) (by simp) (by simp) ?_
          rintro r o ⟨n, rfl, n0, n1', rfl⟩
          refine ⟨by simp [rdr], by simp, .inl (by simp [List.findIdx?_cons, h0, H0, h2, H2, h5, h6, h7, Hc, K1, K2, fc2, g2, g3, g4, g5, g6, g7, g8, hi, f10, h8, h9, H10, n1, n2, n3, n4]), fun q' hq => ?_⟩
          clear hq
          generalize hz : IntKind.i64.wrap (n - 1) = z
          simp [h0, H0, h2, H2, h5, h6, h7, Hc, K1, K2, fc2, g2, g3, g4, g5, g6, g7, g8, hi, f10, h8, h9, H10, n1, n2, n3, n4, hj2, hwN1, hz]
          refine gall_fresh [0, q2, c5, k1, k2, q10] (by simp [h0, H0, h2, H2, h5, h6, h7, Hc, K1, K2, fc2, g2, g3, g4, g5, g6, g7, g8, hi, f10, h8, h9, H10, n1, n2, n3, n4]) fun i1 fi1 => ?_
          simp [frF] at fi1
          simp [-List.map_append, h0, H0, h2, H2, h5, h6, h7, Hc, K1, K2, fc2, g2, g3, g4, g5, g6, g7, g8, hi, f10, h8, h9, H10, n1, n2, n3, n4, hj2, hz, fi1, r1, r2]
          refine gall_fresh [0, q2, c5, k1, k2] (by simp [h0, H0, h2, H2, h5, h6, h7, Hc, K1, K2, fc2, g2, g3, g4, g5, g6, g7, g8, hi, f10, h8, h9, H10, n1, n2, n3, n4, fi1, delo, del]) fun i2 fi2 => ?_
          simp [frF] at fi2
          simp [-List.map_append, h0, H0, h2, H2, h5, h6, h7, Hc, K1, K2, fc2, g2, g3, g4, g5, g6, g7, g8, hi, f10, h8, h9, H10, n1, n2, n3, n4, hj2, hz, fi1, fi2, delo, del, hwj]
          exact ⟨m' - 1, by omega, j + 1, by omega, pp + 1, by omega, i2, row ++ [z], by simp; omega, by simp [fi2], by simp [-List.map_append, h0, H0, h2, H2, h5, h6, h7, Hc, K1, K2, fc2, g2, g3, g4, g5, g6, g7, g8, hi, f10, h8, h9, H10, n1, n2, n3, n4, fi1, fi2]; try simp [encI]⟩
        simp [h0, H0, h2, H2, h5, h6, h7, Hc, K1, K2, fc2, g2, g3, g4, g5, g6, g7, g8, hi, f10, h8, h9, H10, n1, n2, n3, n4, (show ¬ (j : Int) < 3 by omega)]
        have k3b : (rows.length + 1) * 24 ≤ 140737488355328 := by omega
        have k4b : rows.length ≤ 9223372036854775806 := by omega
        have k5b : (acc.length + 1) * 8 ≤ 140737488355328 := by omega
        have k6b : acc.length ≤ 9223372036854775806 := by omega
        refine gall_fresh [0, q2, c5, k1, k2, q10] (by simp [h0, H0, h2, H2, h5, h6, h7, Hc, K1, K2, fc2, g2, g3, g4, g5, g6, g7, g8, hi, f10, h8, h9, H10, n1, n2, n3, n4]) fun i1 fi1 => ?_
        simp [frF] at fi1
        simp [-List.map_append, h0, H0, h2, H2, h5, h6, h7, Hc, K1, K2, fc2, g2, g3, g4, g5, g6, g7, g8, hi, f10, h8, h9, H10, n1, n2, n3, n4, fi1, k3b, k4b]
        refine gall_fresh [0, q2, c5, k2, q10] (by simp [h0, H0, h2, H2, h5, h6, h7, Hc, K1, K2, fc2, g2, g3, g4, g5, g6, g7, g8, hi, f10, h8, h9, H10, n1, n2, n3, n4, fi1, delo, del]) fun i2 fi2 => ?_
        simp [frF] at fi2
        simp [-List.map_append, h0, H0, h2, H2, h5, h6, h7, Hc, K1, K2, fc2, g2, g3, g4, g5, g6, g7, g8, hi, f10, h8, h9, H10, n1, n2, n3, n4, fi1, fi2, delo, del]
        refine TWcH.midB (ρ := []) (fun st => ∃ (x : Int) (i4 : Nat), st.σ 0 = .pd 0 0 0 0 ∧ st.H 0 = some (rdr b (pp + 1)) ∧ st.σ 2 = .pd q2 0 0 0 ∧ st.H q2 = some (.box 27 [.val (.slice none 0 0), .val (.slice none 0 0), .val (.slice none 0 0)]) ∧ st.σ 5 = .pd c5 0 0 0 ∧ st.σ 6 = .val (.int .i64 N) ∧ st.σ 7 = .val (.int .i64 i) ∧ st.H c5 = some (.box 27 [.ro (ps.map encP), .hd i2, .hd i4]) ∧ st.H i2 = some (.own 25 (rows.map oR ++ [[.hd q10]])) ∧ st.H q10 = some (.own 3 (row.map encI)) ∧ st.H i4 = some (.own 3 ((acc ++ [x]).map encI)) ∧ ¬ q10 = i4)
          (.first 0 (.first 2 (.pick 1 (.pick 3 (.pick 4 (.pick 5 (.pick 6 (.first 7 (.pick 8 .fin .fin)) .fin) .fin) .fin) .fin) (.pick 3 (.pick 1 (.pick 4 (.pick 5 (.pick 6 (.first 7 (.pick 8 .fin .fin)) .fin) .fin) .fin) (.pick 4 (.pick 1 (.pick 5 (.pick 6 (.first 7 (.pick 8 .fin .fin)) .fin) .fin) (.pick 5 (.pick 1 (.pick 6 (.first 7 (.pick 8 .fin .fin)) .fin) .fin) .fin)) .fin)) .fin)))) mixed (by kernel_rfl) ?_ ?_
        case refine_2 =>
          rintro ⟨σ, H⟩ ⟨x, i4, h0, H0, h2, H2, h5, h6, h7, Hc, I2, Q10, I4, hne⟩
          simp only at h0 H0 h2 H2 h5 h6 h7 Hc I2 Q10 I4
          simp [-List.map_append, h0, H0, h2, H2, h5, h6, h7, Hc, I2, Q10, I4, hw]
          have hrr2 : ∀ r ∈ rows ++ [row], r.length = 3 := by
            intro r hr
            rcases List.mem_append.1 hr with h | h
            · exact hrr r h
            · simp only [List.mem_singleton] at h; subst h; omega
          exact ⟨m - 1, by omega, i + 1, by omega, pp + 1, by omega, rows ++ [row], by simp; omega, acc ++ [x], by simp; omega, hrr2, rfl, by simp, i2, i4, ⟨rfl, rfl⟩, q10, row, rows, rfl, I2, Q10, by simpa using I4, hne⟩
        simp [-List.map_append, h0, H0, h2, H2, h5, h6, h7, Hc, K1, K2, fc2, g2, g3, g4, g5, g6, g7, g8, hi, f10, h8, h9, H10, n1, n2, n3, n4, fi1, fi2, delo, del]
        refine ⟨?_, ?_⟩
        · refine gall_fresh [0, q2, c5, k2, q10, i2] (by simp [h0, H0, h2, H2, h5, h6, h7, Hc, K1, K2, fc2, g2, g3, g4, g5, g6, g7, g8, hi, f10, h8, h9, H10, n1, n2, n3, n4, fi1, fi2, delo, del]) fun i3 fi3 => ?_
          simp [frF] at fi3
          simp [-List.map_append, h0, H0, h2, H2, h5, h6, h7, Hc, K1, K2, fc2, g2, g3, g4, g5, g6, g7, g8, hi, f10, h8, h9, H10, n1, n2, n3, n4, fi1, fi2, fi3, delo, del]
          refine TWoH.turn (Turn.freeze i3 (t := .own 3 (([-1, -1, 0, 1] : List Int).map encI)) (by simp [encI, h0, H0, h2, H2, h5, h6, h7, Hc, K1, K2, fc2, g2, g3, g4, g5, g6, g7, g8, hi, f10, h8, h9, H10, n1, n2, n3, n4, fi1, fi2, fi3, delo, del]) ?_)
          refine TWoH.lendR [0] (tcr_num b pp [-1, -1, 0, 1] hb (by omega) (by simp) (by simp)) callable_32 (by simp [List.findIdx?_cons, h0, H0, h2, H2, h5, h6, h7, Hc, K1, K2, fc2, g2, g3, g4, g5, g6, g7, g8, hi, f10, h8, h9, H10, n1, n2, n3, n4, fi1, fi2, fi3, delo, del, encI]) (by simp [h0, H0, h2, H2, h5, h6, h7, Hc, K1, K2, fc2, g2, g3, g4, g5, g6, g7, g8, hi, f10, h8, h9, H10, n1, n2, n3, n4, fi1, fi2, fi3, delo, del]) (by simp) (by simp) ?_
          rintro r o ⟨x, hx, rfl, rfl⟩
          refine ⟨by simp [rdr], by simp, .inl (by simp [List.findIdx?_cons, h0, H0, h2, H2, h5, h6, h7, Hc, K1, K2, fc2, g2, g3, g4, g5, g6, g7, g8, hi, f10, h8, h9, H10, n1, n2, n3, n4, fi1, fi2, fi3, delo, del]), fun q' hq => ?_⟩
          clear hq
          simp [-List.map_append, h0, H0, h2, H2, h5, h6, h7, Hc, K1, K2, fc2, g2, g3, g4, g5, g6, g7, g8, hi, f10, h8, h9, H10, n1, n2, n3, n4, fi1, fi2, fi3, delo, del]
          refine gall_fresh [0, q2, c5, k2, q10, i2] (by simp [h0, H0, h2, H2, h5, h6, h7, Hc, K1, K2, fc2, g2, g3, g4, g5, g6, g7, g8, hi, f10, h8, h9, H10, n1, n2, n3, n4, fi1, fi2, fi3, delo, del]) fun i5 fi5 => ?_
          simp [frF] at fi5
          simp [-List.map_append, h0, H0, h2, H2, h5, h6, h7, Hc, K1, K2, fc2, g2, g3, g4, g5, g6, g7, g8, hi, f10, h8, h9, H10, n1, n2, n3, n4, fi1, fi2, fi3, fi5, delo, del, k5b, k6b]
          refine gall_fresh [0, q2, c5, q10, i2] (by simp [h0, H0, h2, H2, h5, h6, h7, Hc, K1, K2, fc2, g2, g3, g4, g5, g6, g7, g8, hi, f10, h8, h9, H10, n1, n2, n3, n4, fi1, fi2, fi3, fi5, delo, del]) fun i6 fi6 => ?_
          simp [frF] at fi6
          simp [-List.map_append, h0, H0, h2, H2, h5, h6, h7, Hc, K1, K2, fc2, g2, g3, g4, g5, g6, g7, g8, hi, f10, h8, h9, H10, n1, n2, n3, n4, fi1, fi2, fi3, fi5, fi6, delo, del]
          first | rfl | simp [encI]
        · refine gall_fresh [0, q2, c5, k2, q10, i2] (by simp [h0, H0, h2, H2, h5, h6, h7, Hc, K1, K2, fc2, g2, g3, g4, g5, g6, g7, g8, hi, f10, h8, h9, H10, n1, n2, n3, n4, fi1, fi2, delo, del]) fun i3 fi3 => ?_
          simp [frF] at fi3
          simp [-List.map_append, h0, H0, h2, H2, h5, h6, h7, Hc, K1, K2, fc2, g2, g3, g4, g5, g6, g7, g8, hi, f10, h8, h9, H10, n1, n2, n3, n4, fi1, fi2, fi3, delo, del]
          refine ⟨?_, ?_⟩
          · refine TWoH.turn (Turn.freeze i3 (t := .own 3 (([-1, -1, 0, 1] : List Int).map encI)) (by simp [encI, h0, H0, h2, H2, h5, h6, h7, Hc, K1, K2, fc2, g2, g3, g4, g5, g6, g7, g8, hi, f10, h8, h9, H10, n1, n2, n3, n4, fi1, fi2, fi3, delo, del]) ?_)
            refine TWoH.lendR [0] (tcr_num b pp [-1, -1, 0, 1] hb (by omega) (by simp) (by simp)) callable_32 (by simp [List.findIdx?_cons, h0, H0, h2, H2, h5, h6, h7, Hc, K1, K2, fc2, g2, g3, g4, g5, g6, g7, g8, hi, f10, h8, h9, H10, n1, n2, n3, n4, fi1, fi2, fi3, delo, del, encI]) (by simp [h0, H0, h2, H2, h5, h6, h7, Hc, K1, K2, fc2, g2, g3, g4, g5, g6, g7, g8, hi, f10, h8, h9, H10, n1, n2, n3, n4, fi1, fi2, fi3, delo, del]) (by simp) (by simp) ?_
            rintro r o ⟨x, hx, rfl, rfl⟩
            refine ⟨by simp [rdr], by simp, .inl (by simp [List.findIdx?_cons, h0, H0, h2, H2, h5, h6, h7, Hc, K1, K2, fc2, g2, g3, g4, g5, g6, g7, g8, hi, f10, h8, h9, H10, n1, n2, n3, n4, fi1, fi2, fi3, delo, del]), fun q' hq => ?_⟩
            clear hq
            simp [-List.map_append, h0, H0, h2, H2, h5, h6, h7, Hc, K1, K2, fc2, g2, g3, g4, g5, g6, g7, g8, hi, f10, h8, h9, H10, n1, n2, n3, n4, fi1, fi2, fi3, delo, del]
            refine gall_fresh [0, q2, c5, k2, q10, i2] (by simp [h0, H0, h2, H2, h5, h6, h7, Hc, K1, K2, fc2, g2, g3, g4, g5, g6, g7, g8, hi, f10, h8, h9, H10, n1, n2, n3, n4, fi1, fi2, fi3, delo, del]) fun i5 fi5 => ?_
            simp [frF] at fi5
            simp [-List.map_append, h0, H0, h2, H2, h5, h6, h7, Hc, K1, K2, fc2, g2, g3, g4, g5, g6, g7, g8, hi, f10, h8, h9, H10, n1, n2, n3, n4, fi1, fi2, fi3, fi5, delo, del, k5b, k6b]
            refine gall_fresh [0, q2, c5, q10, i2] (by simp [h0, H0, h2, H2, h5, h6, h7, Hc, K1, K2, fc2, g2, g3, g4, g5, g6, g7, g8, hi, f10, h8, h9, H10, n1, n2, n3, n4, fi1, fi2, fi3, fi5, delo, del]) fun i6 fi6 => ?_
            simp [frF] at fi6
            simp [-List.map_append, h0, H0, h2, H2, h5, h6, h7, Hc, K1, K2, fc2, g2, g3, g4, g5, g6, g7, g8, hi, f10, h8, h9, H10, n1, n2, n3, n4, fi1, fi2, fi3, fi5, fi6, delo, del]
            first | rfl | simp [encI]
          · refine TWoH.turn (Turn.freeze i3 (t := .own 3 (([-1, -1, 0, 1] : List Int).map encI)) (by simp [encI, h0, H0, h2, H2, h5, h6, h7, Hc, K1, K2, fc2, g2, g3, g4, g5, g6, g7, g8, hi, f10, h8, h9, H10, n1, n2, n3, n4, fi1, fi2, fi3, delo, del]) ?_)
            refine TWoH.lendR [0] (tcr_num b pp [-1, -1, 0, 1] hb (by omega) (by simp) (by simp)) callable_32 (by simp [List.findIdx?_cons, h0, H0, h2, H2, h5, h6, h7, Hc, K1, K2, fc2, g2, g3, g4, g5, g6, g7, g8, hi, f10, h8, h9, H10, n1, n2, n3, n4, fi1, fi2, fi3, delo, del, encI]) (by simp [h0, H0, h2, H2, h5, h6, h7, Hc, K1, K2, fc2, g2, g3, g4, g5, g6, g7, g8, hi, f10, h8, h9, H10, n1, n2, n3, n4, fi1, fi2, fi3, delo, del]) (by simp) (by simp) ?_
            rintro r o ⟨x, hx, rfl, rfl⟩
            refine ⟨by simp [rdr], by simp, .inl (by simp [List.findIdx?_cons, h0, H0, h2, H2, h5, h6, h7, Hc, K1, K2, fc2, g2, g3, g4, g5, g6, g7, g8, hi, f10, h8, h9, H10, n1, n2, n3, n4, fi1, fi2, fi3, delo, del]), fun q' hq => ?_⟩
            clear hq
            simp [-List.map_append, h0, H0, h2, H2, h5, h6, h7, Hc, K1, K2, fc2, g2, g3, g4, g5, g6, g7, g8, hi, f10, h8, h9, H10, n1, n2, n3, n4, fi1, fi2, fi3, delo, del]
            refine ⟨?_, ?_⟩
            · refine gall_fresh [0, q2, c5, k2, q10, i2] (by simp [h0, H0, h2, H2, h5, h6, h7, Hc, K1, K2, fc2, g2, g3, g4, g5, g6, g7, g8, hi, f10, h8, h9, H10, n1, n2, n3, n4, fi1, fi2, fi3, delo, del]) fun i5 fi5 => ?_
              simp [frF] at fi5
              simp [-List.map_append, h0, H0, h2, H2, h5, h6, h7, Hc, K1, K2, fc2, g2, g3, g4, g5, g6, g7, g8, hi, f10, h8, h9, H10, n1, n2, n3, n4, fi1, fi2, fi3, fi5, delo, del, k5b, k6b]
              refine gall_fresh [0, q2, c5, q10, i2] (by simp [h0, H0, h2, H2, h5, h6, h7, Hc, K1, K2, fc2, g2, g3, g4, g5, g6, g7, g8, hi, f10, h8, h9, H10, n1, n2, n3, n4, fi1, fi2, fi3, fi5, delo, del]) fun i6 fi6 => ?_
              simp [frF] at fi6
              simp [-List.map_append, h0, H0, h2, H2, h5, h6, h7, Hc, K1, K2, fc2, g2, g3, g4, g5, g6, g7, g8, hi, f10, h8, h9, H10, n1, n2, n3, n4, fi1, fi2, fi3, fi5, fi6, delo, del]
              first | rfl | simp [encI]
            · refine gall_fresh [0, q2, c5, k2, q10, i2] (by simp [h0, H0, h2, H2, h5, h6, h7, Hc, K1, K2, fc2, g2, g3, g4, g5, g6, g7, g8, hi, f10, h8, h9, H10, n1, n2, n3, n4, fi1, fi2, fi3, delo, del]) fun i5 fi5 => ?_
              simp [frF] at fi5
              simp [-List.map_append, h0, H0, h2, H2, h5, h6, h7, Hc, K1, K2, fc2, g2, g3, g4, g5, g6, g7, g8, hi, f10, h8, h9, H10, n1, n2, n3, n4, fi1, fi2, fi3, fi5, delo, del, k5b, k6b]
              refine gall_fresh [0, q2, c5, q10, i2] (by simp [h0, H0, h2, H2, h5, h6, h7, Hc, K1, K2, fc2, g2, g3, g4, g5, g6, g7, g8, hi, f10, h8, h9, H10, n1, n2, n3, n4, fi1, fi2, fi3, fi5, delo, del]) fun i6 fi6 => ?_
              simp [frF] at fi6
              simp [-List.map_append, h0, H0, h2, H2, h5, h6, h7, Hc, K1, K2, fc2, g2, g3, g4, g5, g6, g7, g8, hi, f10, h8, h9, H10, n1, n2, n3, n4, fi1, fi2, fi3, fi5, fi6, delo, del]
              first | rfl | simp [encI]
  · refine ⟨rfl, by simp, .inl (by simp), fun k hk => ?_⟩
    clear hk
    simp [f2, fq, del]
    refine gall_fresh [0, q2] (by simp [f2, fq, del]) fun c3 f3 => ?_
    simp [frF] at f3
    simp [f2, fq, f3, del]
    refine gall_fresh [0, q2] (by simp [f2, fq, f3]) fun a1 e1 => ?_
    simp [frF] at e1
    simp [f2, fq, f3, e1]
    refine gall_fresh [0, q2, a1] (by simp [f2, fq, f3, e1]) fun a2 e2 => ?_
    simp [frF] at e2
    simp [f2, fq, f3, e1, e2]
    refine gall_fresh [0, q2, a1, a2] (by simp [f2, fq, f3, e1, e2]) fun a3 e3 => ?_
    simp [frF] at e3
    simp [f2, fq, f3, e1, e2, e3]
    refine TWoH.turn (Turn.then (Turn.freezeA a1 (t := .own 66 ([(97, 97)].map encS)) (by simp [f2, fq, f3, e1, e2, e3, encS]) (Turn.then (Turn.freezeA a2 (t := .own 66 ([(98, 98)].map encS)) (by simp [f2, fq, f3, e1, e2, e3, encS, frzO, del]) (Turn.freezeA a3 (t := .own 63 ([[(97, 97)], [(98, 98)]].map encP)) (by simp [f2, fq, f3, e1, e2, e3, encS, encP, frzO, del]) ?_)))))
    have tsp := tc_SetPartsR [[(97, 97)], [(98, 98)]] (by intro s hs; simp at hs; rcases hs with rfl | rfl <;> simp [setOk, setOkP, okX]) (by simp)
    have hpi : PI (cutAll [[(97, 97)], [(98, 98)]]) := PI.cutAll _ PI.all
    have hps := sorted_len hpi
    have hpo := sorted_each hpi
    generalize sortTo (cutAll [[(97, 97)], [(98, 98)]]) 256 = ps at tsp hps hpo
    refine TWoH.callV tsp callable_54 (by simp [f2, fq, f3, e1, e2, e3, encS, encP]) (by simp) (by simp) (by simp [f2, fq, f3, e1, e2, e3]) ?_
    simp [f2, fq, f3, e1, e2, e3, del, frzO]
    refine gall_fresh [0, q2] (by simp [f2, fq, f3, e1, e2, e3, del, frzO, rdr]) fun c5 e5 => ?_
    simp [frF] at e5
    simp [f2, fq, f3, e1, e2, e3, e5, del, frzO]
    refine TWoH.lendR [0] (tcr_pick b p1 6 hb (by omega)) callable_30 (by simp [List.findIdx?_cons, f2, fq, f3, e1, e2, e3, e5]) (by simp [f2, fq, f3, e1, e2, e3, e5, del, frzO, rdr]) (by simp) (by simp) ?_
    rintro r o ⟨n, rfl, n0, n1, rfl⟩
    refine ⟨by simp [rdr], by simp, .inl (by simp [List.findIdx?_cons, f2, fq, f3, e1, e2, e3, e5]), fun q hq => ?_⟩
    clear hq
    obtain ⟨N, hN, hN6, hN1⟩ : ∃ N : Nat, 1 + n = (N : Int) ∧ N ≤ 6 ∧ 1 ≤ N := ⟨(1 + n).toNat, by omega, by have := n1 (by omega); omega, by omega⟩
    have hwN : IntKind.i64.wrap (1 + n) = N := by rw [wrapi (by omega)]; exact hN
    simp [f2, fq, f3, e1, e2, e3, e5, del, frzO, hwN]
    have fc2 : (¬ q2 = 0 ∧ ¬ 0 = q2) ∧ (¬ c5 = 0 ∧ ¬ 0 = c5) ∧ (¬ c5 = q2 ∧ ¬ q2 = c5) := by simp [e5, f2]
    refine TWcH.loopT [] (fun m st => ∃ (i pp : Nat) (rows : List (List Int)) (acc : List Int) (cells : List TV), i + m = N ∧ pp ≤ p + 1002 + 4 * i ∧ rows.length = i ∧ acc.length = i ∧ (∀ r ∈ rows, r.length = 3) ∧ st.σ 0 = .pd 0 0 0 0 ∧ st.H 0 = some (rdr b pp) ∧ st.σ 2 = .pd q2 0 0 0 ∧ st.H q2 = some (.box 27 [.val (.slice none 0 0), .val (.slice none 0 0), .val (.slice none 0 0)]) ∧ st.σ 5 = .pd c5 0 0 0 ∧ st.σ 6 = .val (.int .i64 N) ∧ st.σ 7 = .val (.int .i64 i) ∧ st.H c5 = some (.box 27 (.ro (ps.map encP) :: cells)) ∧
        ((i = 0 ∧ cells = [.val (.slice none 0 0), .val (.slice none 0 0)]) ∨ ∃ k1 k2 q10 row rows', cells = [.hd k1, .hd k2] ∧ rows = rows' ++ [row] ∧ st.H k1 = some (.own 25 (rows'.map oR ++ [[.hd q10]])) ∧ st.H q10 = some (.own 3 (row.map encI)) ∧ st.H k2 = some (.own 3 (acc.map encI)) ∧ ¬ q10 = k2))
      (fun m st => ∃ (i pp k1 k2 : Nat) (rows : List (List Int)) (acc : List Int), i + m = N ∧ pp ≤ p + 1002 + 4 * i ∧ rows.length = i ∧ acc.length = i ∧ (∀ r ∈ rows, r.length = 3) ∧ st.σ 0 = .pd 0 0 0 0 ∧ st.H 0 = some (rdr b pp) ∧ st.σ 2 = .pd q2 0 0 0 ∧ st.H q2 = some (.box 27 [.val (.slice none 0 0), .val (.slice none 0 0), .val (.slice none 0 0)]) ∧ st.σ 5 = .pd c5 0 0 0 ∧ st.σ 6 = .val (.int .i64 N) ∧ st.σ 7 = .val (.int .i64 i) ∧ st.H c5 = some (.box 27 [.ro (ps.map encP), .hd k1, .hd k2]) ∧ st.H k1 = some (.own 25 (rows.map oR)) ∧ st.H k2 = some (.own 3 (acc.map encI))) N
      ⟨0, p1 + 1, [], [], _, by simp, by omega, rfl, rfl, by simp, by simp [f2, fq, f3, e1, e2, e3, e5, del, frzO], by simp [f2, fq, f3, e1, e2, e3, e5, del, frzO], by simp [f2, fq, f3, e1, e2, e3, e5, del, frzO], by simp [f2, fq, f3, e1, e2, e3, e5, del, frzO], by simp [f2, fq, f3, e1, e2, e3, e5, del, frzO], by simp [f2, fq, f3, e1, e2, e3, e5, del, frzO], by simp [f2, fq, f3, e1, e2, e3, e5, del, frzO], by simp [f2, fq, f3, e1, e2, e3, e5, del, frzO], .inl ⟨rfl, rfl⟩⟩ ?_ ?_
    · clear fq f3 e1 e2 e3 e5
      rintro m ⟨σ, H⟩ ⟨i, pp, rows, acc, cells, him, hpp, hrl, hal, hrr, h0, H0, h2, H2, h5, h6, h7, Hc, hcase⟩
      simp only at h0 H0 h2 H2 h5 h6 h7 Hc hcase
      rcases hcase with ⟨rfl, rfl⟩ | ⟨k1, k2, q10, row, rows', rfl, rfl, K1, Q10, K2, hne⟩
      · obtain rfl : rows = [] := List.eq_nil_of_length_eq_zero hrl
        obtain rfl : acc = [] := List.eq_nil_of_length_eq_zero hal
        refine Turn.then (Turn.nilC c5 1 25 27 (cs := [.ro (ps.map encP), .val (.slice none 0 0), .val (.slice none 0 0)]) Hc (by simp) fun k1 n1 e1 => Turn.nilC c5 2 3 27 (cs := [.ro (ps.map encP), .hd k1, .val (.slice none 0 0)]) (by simp) (by simp) fun k2 n2 e2 => ?_)
        simp only at n1 n2
        have a1 : ¬ k1 = 0 := fun e => by rw [e, H0] at n1; cases n1
        have a2 : ¬ k1 = q2 := fun e => by rw [e, H2] at n1; cases n1
        have a1' : ¬ 0 = k1 := fun e => a1 e.symm
        have a2' : ¬ q2 = k1 := fun e => a2 e.symm
        have b0 : ¬ k2 = k1 := fun e => by rw [e] at n2; simp [e1] at n2
        have b1 : ¬ k2 = 0 := fun e => by rw [e] at n2; simp [e1, fc2, H0, a1'] at n2
        have b2 : ¬ k2 = q2 := fun e => by rw [e] at n2; simp [e1, fc2, H2, a2'] at n2
        have b0' : ¬ k1 = k2 := fun e => b0 e.symm
        have b1' : ¬ 0 = k2 := fun e => b1 e.symm
        have b2' : ¬ q2 = k2 := fun e => b2 e.symm
        have e1' : ¬ c5 = k1 := fun e => e1 e.symm
        have e2' : ¬ c5 = k2 := fun e => e2 e.symm
        exact ⟨0, pp, k1, k2, [], [], him, hpp, rfl, rfl, by simp, h0, by simp [a1', b1', fc2, H0], h2, by simp [a2', b2', fc2, H2], h5, h6, h7, by simp, by simp [a1, e1, b0'], by simp [e2]⟩
      · have g1 := ne_of K1 Q10 (by simp)
        have g2 := ne_of K1 H0 (by simp [rdr])
        have g3 := ne_of K1 H2 (by simp)
        have g4 := ne_of K1 Hc (by simp)
        have g5 := ne_of K1 K2 (by simp)
        have g6 := ne_of Q10 H0 (by simp [rdr])
        have g7 := ne_of Q10 H2 (by simp)
        have g8 := ne_of Q10 Hc (by simp)
        have hne' : ¬ k2 = q10 := fun e => hne e.symm
        refine Turn.shift (Shift.fold1x k1 q10 25 rows'.length 0 (rows'.map oR ++ [[.hd q10]]) [.hd q10] (.own 3 (row.map encI)) g1.1 K1 (by simp) (by simp) Q10) ?_
        exact ⟨i, pp, k1, k2, rows' ++ [row], acc, him, hpp, hrl, hal, hrr, h0, by simp [del, g2, g6, H0], h2, by simp [del, g3, g7, H2], h5, h6, h7, by simp [del, g4, g8, Hc], by simp [oR], by simp [del, g5, hne, hne', K2]⟩
    · clear fq f3 e1 e2 e3 e5
      rintro m ⟨σ, H⟩ ⟨i, pp, k1, k2, rows, acc, him, hpp, hrl, hal, hrr, h0, H0, h2, H2, h5, h6, h7, Hc, K1, K2⟩
      simp only at h0 H0 h2 H2 h5 h6 h7 Hc K1 K2
      have g2 := ne_of K1 H0 (by simp [rdr])
      have g3 := ne_of K1 H2 (by simp)
      have g4 := ne_of K1 Hc (by simp)
      have g5 := ne_of K1 K2 (by simp)
      have g6 := ne_of K2 H0 (by simp [rdr])
      have g7 := ne_of K2 H2 (by simp)
      have g8 := ne_of K2 Hc (by simp)
      by_cases hi : i < N
      case neg =>
        obtain rfl : i = N := by omega
        simp [h0, H0, h2, H2, h5, h6, h7, Hc, K1, K2, fc2, g2, g3, g4, g5, g6, g7, g8]
        exact ⟨_, _, ⟨rfl, rfl⟩, by simp, by simp [H0, fc2, g2, g6, del], ⟨ps, rows, acc⟩, ⟨⟨by simp only; omega, by simp only; omega⟩, by simp only; omega, hps, fun x hx => setOk_len (hpo x hx), fun r hr => by have := hrr r hr; omega⟩, by simp [macO], pp, by omega, by simp [H0, fc2, g2, g6, del]⟩
      have hw : IntKind.i64.wrap ((i : Int) + 1) = i + 1 := wrapi (by omega)
      have hwN1 : IntKind.i64.wrap ((N : Int) + 1) = N + 1 := wrapi (by omega)
      simp [h0, H0, h2, H2, h5, h6, h7, Hc, K1, K2, fc2, g2, g3, g4, g5, g6, g7, g8, hi]
      refine gall_fresh [0, q2, c5, k1, k2] (by simp [H0, H2, Hc, K1, K2]) fun q10 f10 => ?_
      simp [frF] at f10
      simp [h0, H0, h2, H2, h5, h6, h7, Hc, K1, K2, fc2, g2, g3, g4, g5, g6, g7, g8, hi, f10]
      refine TWcH.loop [] (fun m' st => ∃ (j pp q10 : Nat) (row : List Int), j + m' = 3 ∧ pp ≤ p + 1002 + 4 * i + j ∧ row.length = j ∧ (¬ q10 = k2 ∧ ¬ k2 = q10) ∧ st.σ 0 = .pd 0 0 0 0 ∧ st.H 0 = some (rdr b pp) ∧ st.σ 2 = .pd q2 0 0 0 ∧ st.H q2 = some (.box 27 [.val (.slice none 0 0), .val (.slice none 0 0), .val (.slice none 0 0)]) ∧ st.σ 5 = .pd c5 0 0 0 ∧ st.σ 6 = .val (.int .i64 N) ∧ st.σ 7 = .val (.int .i64 i) ∧ st.σ 8 = .hd q10 ∧ st.H q10 = some (.own 3 (row.map encI)) ∧ st.σ 9 = .val (.int .i64 j) ∧ st.H c5 = some (.box 27 [.ro (ps.map encP), .hd k1, .hd k2]) ∧ st.H k1 = some (.own 25 (rows.map oR)) ∧ st.H k2 = some (.own 3 (acc.map encI))) 3
        ⟨0, pp, q10, [], by simp, by omega, rfl, by simp [f10], by simp [h0, H0, h2, H2, h5, h6, h7, Hc, K1, K2, fc2, g2, g3, g4, g5, g6, g7, g8, hi, f10]⟩ ?_
      clear h0 H0 h2 H2 h5 h6 h7 Hc K1 K2 f10 hpp q10 pp
      clear σ H
      rintro m' ⟨σ, H⟩ ⟨j, pp, q10, row, hjm, hpp, hrj, f10, h0, H0, h2, H2, h5, h6, h7, h8, H10, h9, Hc, K1, K2⟩
      simp only at h0 H0 h2 H2 h5 h6 h7 h8 H10 h9 Hc K1 K2
      have n1 := ne_of H10 H0 (by simp [rdr])
      have n2 := ne_of H10 H2 (by simp)
      have n3 := ne_of H10 Hc (by simp)
      have n4 := ne_of H10 K1 (by simp)
      by_cases hj : j < 3
      case pos =>
        have hj2 : (j : Int) < 3 := by omega
        have hwj : IntKind.i64.wrap ((j : Int) + 1) = j + 1 := wrapi (by omega)
        have r1 : (row.length + 1) * 8 ≤ 140737488355328 := by omega
        have r2 : row.length ≤ 9223372036854775806 := by omega
        simp [h0, H0, h2, H2, h5, h6, h7, Hc, K1, K2, fc2, g2, g3, g4, g5, g6, g7, g8, hi, f10, h8, h9, H10, n1, n2, n3, n4, hj2, hwN1]
        refine TWoH.lendR [0] (tcr_pick b pp (N + 1) hb (by omega)) callable_30 (by simp [List.findIdx?_cons, h0, H0, h2, H2, h5, h6, h7, Hc, K1, K2, fc2, g2, g3, g4, g5, g6, g7, g8, hi, f10, h8, h9, H10, n1, n2, n3, n4, hwN1]) (by simp [h0, H0, h2, H2, h5, h6, h7, Hc, K1, K2, fc2, g2, g3, g4, g5, g6, g7, g8, hi, f10, h8, h9, H10, n1, n2, n3, n4]) (by simp) (by simp) ?_
        rintro r o ⟨n, rfl, n0, n1', rfl⟩
        refine ⟨by simp [rdr], by simp, .inl (by simp [List.findIdx?_cons, h0, H0, h2, H2, h5, h6, h7, Hc, K1, K2, fc2, g2, g3, g4, g5, g6, g7, g8, hi, f10, h8, h9, H10, n1, n2, n3, n4]), fun q' hq => ?_⟩
        clear hq
        generalize hz : IntKind.i64.wrap (n - 1) = z
        simp [h0, H0, h2, H2, h5, h6, h7, Hc, K1, K2, fc2, g2, g3, g4, g5, g6, g7, g8, hi, f10, h8, h9, H10, n1, n2, n3, n4, hj2, hwN1, hz]
        refine gall_fresh [0, q2, c5, k1, k2, q10] (by simp [h0, H0, h2, H2, h5, h6, h7, Hc, K1, K2, fc2, g2, g3, g4, g5, g6, g7, g8, hi, f10, h8, h9, H10, n1, n2, n3, n4]) fun i1 fi1 => ?_
        simp [frF] at fi1
        simp [-List.map_append, h0, H0, h2, H2, h5, h6, h7, Hc, K1, K2, fc2, g2, g3, g4, g5, g6, g7, g8, hi, f10, h8, h9, H10, n1, n2, n3, n4, hj2, hz, fi1, r1, r2]
        refine gall_fresh [0, q2, c5, k1, k2] (by simp [h0, H0, h2, H2, h5, h6, h7, Hc, K1, K2, fc2, g2, g3, g4, g5, g6, g7, g8, hi, f10, h8, h9, H10, n1, n2, n3, n4, fi1, delo, del]) fun i2 fi2 => ?_
        simp [frF] at fi2
        simp [-List.map_append, h0, H0, h2, H2, h5, h6, h7, Hc, K1, K2, fc2, g2, g3, g4, g5, g6, g7, g8, hi, f10, h8, h9, H10, n1, n2, n3, n4, hj2, hz, fi1, fi2, delo, del, hwj]
        exact ⟨m' - 1, by omega, j + 1, by omega, pp + 1, by omega, i2, row ++ [z], by simp; omega, by simp [fi2], by simp [-List.map_append, h0, H0, h2, H2, h5, h6, h7, Hc, K1, K2, fc2, g2, g3, g4, g5, g6, g7, g8, hi, f10, h8, h9, H10, n1, n2, n3, n4, fi1, fi2]; try simp [encI]⟩
      simp [h0, H0, h2, H2, h5, h6, h7, Hc, K1, K2, fc2, g2, g3, g4, g5, g6, g7, g8, hi, f10, h8, h9, H10, n1, n2, n3, n4, (show ¬ (j : Int) < 3 by omega)]
      have k3b : (rows.length + 1) * 24 ≤ 140737488355328 := by omega
      have k4b : rows.length ≤ 9223372036854775806 := by omega
      have k5b : (acc.length + 1) * 8 ≤ 140737488355328 := by omega
      have k6b : acc.length ≤ 9223372036854775806 := by omega
      refine gall_fresh [0, q2, c5, k1, k2, q10] (by simp [h0, H0, h2, H2, h5, h6, h7, Hc, K1, K2, fc2, g2, g3, g4, g5, g6, g7, g8, hi, f10, h8, h9, H10, n1, n2, n3, n4]) fun i1 fi1 => ?_
      simp [frF] at fi1
      simp [-List.map_append, h0, H0, h2, H2, h5, h6, h7, Hc, K1, K2, fc2, g2, g3, g4, g5, g6, g7, g8, hi, f10, h8, h9, H10, n1, n2, n3, n4, fi1, k3b, k4b]
      refine gall_fresh [0, q2, c5, k2, q10] (by simp [h0, H0, h2, H2, h5, h6, h7, Hc, K1, K2, fc2, g2, g3, g4, g5, g6, g7, g8, hi, f10, h8, h9, H10, n1, n2, n3, n4, fi1, delo, del]) fun i2 fi2 => ?_
      simp [frF] at fi2
      simp [-List.map_append, h0, H0, h2, H2, h5, h6, h7, Hc, K1, K2, fc2, g2, g3, g4, g5, g6, g7, g8, hi, f10, h8, h9, H10, n1, n2, n3, n4, fi1, fi2, delo, del]
      refine TWcH.midB (ρ := []) (fun st => ∃ (x : Int) (i4 : Nat), st.σ 0 = .pd 0 0 0 0 ∧ st.H 0 = some (rdr b (pp + 1)) ∧ st.σ 2 = .pd q2 0 0 0 ∧ st.H q2 = some (.box 27 [.val (.slice none 0 0), .val (.slice none 0 0), .val (.slice none 0 0)]) ∧ st.σ 5 = .pd c5 0 0 0 ∧ st.σ 6 = .val (.int .i64 N) ∧ st.σ 7 = .val (.int .i64 i) ∧ st.H c5 = some (.box 27 [.ro (ps.map encP), .hd i2, .hd i4]) ∧ st.H i2 = some (.own 25 (rows.map oR ++ [[.hd q10]])) ∧ st.H q10 = some (.own 3 (row.map encI)) ∧ st.H i4 = some (.own 3 ((acc ++ [x]).map encI)) ∧ ¬ q10 = i4)
        (.first 0 (.first 2 (.pick 1 (.pick 3 (.pick 4 (.pick 5 (.pick 6 (.first 7 (.pick 8 .fin .fin)) .fin) .fin) .fin) .fin) (.pick 3 (.pick 1 (.pick 4 (.pick 5 (.pick 6 (.first 7 (.pick 8 .fin .fin)) .fin) .fin) .fin) (.pick 4 (.pick 1 (.pick 5 (.pick 6 (.first 7 (.pick 8 .fin .fin)) .fin) .fin) (.pick 5 (.pick 1 (.pick 6 (.first 7 (.pick 8 .fin .fin)) .fin) .fin) .fin)) .fin)) .fin)))) mixed (by kernel_rfl) ?_ ?_
      case refine_2 =>
        rintro ⟨σ, H⟩ ⟨x, i4, h0, H0, h2, H2, h5, h6, h7, Hc, I2, Q10, I4, hne⟩
        simp only at h0 H0 h2 H2 h5 h6 h7 Hc I2 Q10 I4
        simp [-List.map_append, h0, H0, h2, H2, h5, h6, h7, Hc, I2, Q10, I4, hw]
        have hrr2 : ∀ r ∈ rows ++ [row], r.length = 3 := by
          intro r hr
          rcases List.mem_append.1 hr with h | h
          · exact hrr r h
          · simp only [List.mem_singleton] at h; subst h; omega
        exact ⟨m - 1, by omega, i + 1, by omega, pp + 1, by omega, rows ++ [row], by simp; omega, acc ++ [x], by simp; omega, hrr2, rfl, by simp, i2, i4, ⟨rfl, rfl⟩, q10, row, rows, rfl, I2, Q10, by simpa using I4, hne⟩
      simp [-List.map_append, h0, H0, h2, H2, h5, h6, h7, Hc, K1, K2, fc2, g2, g3, g4, g5, g6, g7, g8, hi, f10, h8, h9, H10, n1, n2, n3, n4, fi1, fi2, delo, del]
      refine ⟨?_, ?_⟩
      · refine gall_fresh [0, q2, c5, k2, q10, i2] (by simp [h0, H0, h2, H2, h5, h6, h7, Hc, K1, K2, fc2, g2, g3, g4, g5, g6, g7, g8, hi, f10, h8, h9, H10, n1, n2, n3, n4, fi1, fi2, delo, del]) fun i3 fi3 => ?_
        simp [frF] at fi3
        simp [-List.map_append, h0, H0, h2, H2, h5, h6, h7, Hc, K1, K2, fc2, g2, g3, g4, g5, g6, g7, g8, hi, f10, h8, h9, H10, n1, n2, n3, n4, fi1, fi2, fi3, delo, del]
        refine TWoH.turn (Turn.freeze i3 (t := .own 3 (([-1, -1, 0, 1] : List Int).map encI)) (by simp [encI, h0, H0, h2, H2, h5, h6, h7, Hc, K1, K2, fc2, g2, g3, g4, g5, g6, g7, g8, hi, f10, h8, h9, H10, n1, n2, n3, n4, fi1, fi2, fi3, delo, del]) ?_)
        refine TWoH.lendR [0] (tcr_num b pp [-1, -1, 0, 1] hb (by omega) (by simp) (by simp)) callable_32 (by simp [List.findIdx?_cons, h0, H0, h2, H2, h5, h6, h7, Hc, K1, K2, fc2, g2, g3, g4, g5, g6, g7, g8, hi, f10, h8, h9, H10, n1, n2, n3, n4, fi1, fi2, fi3, delo, del, encI]) (by simp [h0, H0, h2, H2, h5, h6, h7, Hc, K1, K2, fc2, g2, g3, g4, g5, g6, g7, g8, hi, f10, h8, h9, H10, n1, n2, n3, n4, fi1, fi2, fi3, delo, del]) (by simp) (by simp) ?_
        rintro r o ⟨x, hx, rfl, rfl⟩
        refine ⟨by simp [rdr], by simp, .inl (by simp [List.findIdx?_cons, h0, H0, h2, H2, h5, h6, h7, Hc, K1, K2, fc2, g2, g3, g4, g5, g6, g7, g8, hi, f10, h8, h9, H10, n1, n2, n3, n4, fi1, fi2, fi3, delo, del]), fun q' hq => ?_⟩
        clear hq
        simp [-List.map_append, h0, H0, h2, H2, h5, h6, h7, Hc, K1, K2, fc2, g2, g3, g4, g5, g6, g7, g8, hi, f10, h8, h9, H10, n1, n2, n3, n4, fi1, fi2, fi3, delo, del]
        refine gall_fresh [0, q2, c5, k2, q10, i2] (by simp [h0, H0, h2, H2, h5, h6, h7, Hc, K1, K2, fc2, g2, g3, g4, g5, g6, g7, g8, hi, f10, h8, h9, H10, n1, n2, n3, n4, fi1, fi2, fi3, delo, del]) fun i5 fi5 => ?_
        simp [frF] at fi5
        simp [-List.map_append, h0, H0, h2, H2, h5, h6, h7, Hc, K1, K2, fc2, g2, g3, g4, g5, g6, g7, g8, hi, f10, h8, h9, H10, n1, n2, n3, n4, fi1, fi2, fi3, fi5, delo, del, k5b, k6b]
        refine gall_fresh [0, q2, c5, q10, i2] (by simp [h0, H0, h2, H2, h5, h6, h7, Hc, K1, K2, fc2, g2, g3, g4, g5, g6, g7, g8, hi, f10, h8, h9, H10, n1, n2, n3, n4, fi1, fi2, fi3, fi5, delo, del]) fun i6 fi6 => ?_
        simp [frF] at fi6
        simp [-List.map_append, h0, H0, h2, H2, h5, h6, h7, Hc, K1, K2, fc2, g2, g3, g4, g5, g6, g7, g8, hi, f10, h8, h9, H10, n1, n2, n3, n4, fi1, fi2, fi3, fi5, fi6, delo, del]
        first | rfl | simp [encI]
      · refine gall_fresh [0, q2, c5, k2, q10, i2] (by simp [h0, H0, h2, H2, h5, h6, h7, Hc, K1, K2, fc2, g2, g3, g4, g5, g6, g7, g8, hi, f10, h8, h9, H10, n1, n2, n3, n4, fi1, fi2, delo, del]) fun i3 fi3 => ?_
        simp [frF] at fi3
        simp [-List.map_append, h0, H0, h2, H2, h5, h6, h7, Hc, K1, K2, fc2, g2, g3, g4, g5, g6, g7, g8, hi, f10, h8, h9, H10, n1, n2, n3, n4, fi1, fi2, fi3, delo, del]
        refine ⟨?_, ?_⟩
        · refine TWoH.turn (Turn.freeze i3 (t := .own 3 (([-1, -1, 0, 1] : List Int).map encI)) (by simp [encI, h0, H0, h2, H2, h5, h6, h7, Hc, K1, K2, fc2, g2, g3, g4, g5, g6, g7, g8, hi, f10, h8, h9, H10, n1, n2, n3, n4, fi1, fi2, fi3, delo, del]) ?_)
          refine TWoH.lendR [0] (tcr_num b pp [-1, -1, 0, 1] hb (by omega) (by simp) (by simp)) callable_32 (by simp [List.findIdx?_cons, h0, H0, h2, H2, h5, h6, h7, Hc, K1, K2, fc2, g2, g3, g4, g5, g6, g7, g8, hi, f10, h8, h9, H10, n1, n2, n3, n4, fi1, fi2, fi3, delo, del, encI]) (by simp [h0, H0, h2, H2, h5, h6, h7, Hc, K1, K2, fc2, g2, g3, g4, g5, g6, g7, g8, hi, f10, h8, h9, H10, n1, n2, n3, n4, fi1, fi2, fi3, delo, del]) (by simp) (by simp) ?_
          rintro r o ⟨x, hx, rfl, rfl⟩
          refine ⟨by simp [rdr], by simp, .inl (by simp [List.findIdx?_cons, h0, H0, h2, H2, h5, h6, h7, Hc, K1, K2, fc2, g2, g3, g4, g5, g6, g7, g8, hi, f10, h8, h9, H10, n1, n2, n3, n4, fi1, fi2, fi3, delo, del]), fun q' hq => ?_⟩
          clear hq
          simp [-List.map_append, h0, H0, h2, H2, h5, h6, h7, Hc, K1, K2, fc2, g2, g3, g4, g5, g6, g7, g8, hi, f10, h8, h9, H10, n1, n2, n3, n4, fi1, fi2, fi3, delo, del]
          refine gall_fresh [0, q2, c5, k2, q10, i2] (by simp [h0, H0, h2, H2, h5, h6, h7, Hc, K1, K2, fc2, g2, g3, g4, g5, g6, g7, g8, hi, f10, h8, h9, H10, n1, n2, n3, n4, fi1, fi2, fi3, delo, del]) fun i5 fi5 => ?_
          simp [frF] at fi5
          simp [-List.map_append, h0, H0, h2, H2, h5, h6, h7, Hc, K1, K2, fc2, g2, g3, g4, g5, g6, g7, g8, hi, f10, h8, h9, H10, n1, n2, n3, n4, fi1, fi2, fi3, fi5, delo, del, k5b, k6b]
          refine gall_fresh [0, q2, c5, q10, i2] (by simp [h0, H0, h2, H2, h5, h6, h7, Hc, K1, K2, fc2, g2, g3, g4, g5, g6, g7, g8, hi, f10, h8, h9, H10, n1, n2, n3, n4, fi1, fi2, fi3, fi5, delo, del]) fun i6 fi6 => ?_
          simp [frF] at fi6
          simp [-List.map_append, h0, H0, h2, H2, h5, h6, h7, Hc, K1, K2, fc2, g2, g3, g4, g5, g6, g7, g8, hi, f10, h8, h9, H10, n1, n2, n3, n4, fi1, fi2, fi3, fi5, fi6, delo, del]
          first | rfl | simp [encI]
        · refine TWoH.turn (Turn.freeze i3 (t := .own 3 (([-1, -1, 0, 1] : List Int).map encI)) (by simp [encI, h0, H0, h2, H2, h5, h6, h7, Hc, K1, K2, fc2, g2, g3, g4, g5, g6, g7, g8, hi, f10, h8, h9, H10, n1, n2, n3, n4, fi1, fi2, fi3, delo, del]) ?_)
          refine TWoH.lendR [0] (tcr_num b pp [-1, -1, 0, 1] hb (by omega) (by simp) (by simp)) callable_32 (by simp [List.findIdx?_cons, h0, H0, h2, H2, h5, h6, h7, Hc, K1, K2, fc2, g2, g3, g4, g5, g6, g7, g8, hi, f10, h8, h9, H10, n1, n2, n3, n4, fi1, fi2, fi3, delo, del, encI]) (by simp [h0, H0, h2, H2, h5, h6, h7, Hc, K1, K2, fc2, g2, g3, g4, g5, g6, g7, g8, hi, f10, h8, h9, H10, n1, n2, n3, n4, fi1, fi2, fi3, delo, del]) (by simp) (by simp) ?_
          rintro r o ⟨x, hx, rfl, rfl⟩
          refine ⟨by simp [rdr], by simp, .inl (by simp [List.findIdx?_cons, h0, H0, h2, H2, h5, h6, h7, Hc, K1, K2, fc2, g2, g3, g4, g5, g6, g7, g8, hi, f10, h8, h9, H10, n1, n2, n3, n4, fi1, fi2, fi3, delo, del]), fun q' hq => ?_⟩
          clear hq
          simp [-List.map_append, h0, H0, h2, H2, h5, h6, h7, Hc, K1, K2, fc2, g2, g3, g4, g5, g6, g7, g8, hi, f10, h8, h9, H10, n1, n2, n3, n4, fi1, fi2, fi3, delo, del]
          refine ⟨?_, ?_⟩
          · refine gall_fresh [0, q2, c5, k2, q10, i2] (by simp [h0, H0, h2, H2, h5, h6, h7, Hc, K1, K2, fc2, g2, g3, g4, g5, g6, g7, g8, hi, f10, h8, h9, H10, n1, n2, n3, n4, fi1, fi2, fi3, delo, del]) fun i5 fi5 => ?_
            simp [frF] at fi5
            simp [-List.map_append, h0, H0, h2, H2, h5, h6, h7, Hc, K1, K2, fc2, g2, g3, g4, g5, g6, g7, g8, hi, f10, h8, h9, H10, n1, n2, n3, n4, fi1, fi2, fi3, fi5, delo, del, k5b, k6b]
            refine gall_fresh [0, q2, c5, q10, i2] (by simp [h0, H0, h2, H2, h5, h6, h7, Hc, K1, K2, fc2, g2, g3, g4, g5, g6, g7, g8, hi, f10, h8, h9, H10, n1, n2, n3, n4, fi1, fi2, fi3, fi5, delo, del]) fun i6 fi6 => ?_
            simp [frF] at fi6
            simp [-List.map_append, h0, H0, h2, H2, h5, h6, h7, Hc, K1, K2, fc2, g2, g3, g4, g5, g6, g7, g8, hi, f10, h8, h9, H10, n1, n2, n3, n4, fi1, fi2, fi3, fi5, fi6, delo, del]
            first | rfl | simp [encI]
          · refine gall_fresh [0, q2, c5, k2, q10, i2] (by simp [h0, H0, h2, H2, h5, h6, h7, Hc, K1, K2, fc2, g2, g3, g4, g5, g6, g7, g8, hi, f10, h8, h9, H10, n1, n2, n3, n4, fi1, fi2, fi3, delo, del]) fun i5 fi5 => ?_
            simp [frF] at fi5
            simp [-List.map_append, h0, H0, h2, H2, h5, h6, h7, Hc, K1, K2, fc2, g2, g3, g4, g5, g6, g7, g8, hi, f10, h8, h9, H10, n1, n2, n3, n4, fi1, fi2, fi3, fi5, delo, del, k5b, k6b]
            refine gall_fresh [0, q2, c5, q10, i2] (by simp [h0, H0, h2, H2, h5, h6, h7, Hc, K1, K2, fc2, g2, g3, g4, g5, g6, g7, g8, hi, f10, h8, h9, H10, n1, n2, n3, n4, fi1, fi2, fi3, fi5, delo, del]) fun i6 fi6 => ?_
            simp [frF] at fi6
            simp [-List.map_append, h0, H0, h2, H2, h5, h6, h7, Hc, K1, K2, fc2, g2, g3, g4, g5, g6, g7, g8, hi, f10, h8, h9, H10, n1, n2, n3, n4, fi1, fi2, fi3, fi5, fi6, delo, del]
            first | rfl | simp [encI]
end Go.Proofs.YtibeeohnjabhkaaGreatDoor.R

open Go Go.Proofs.YtibeeohnjabhkaaGreatDoor.T
namespace Go.Proofs.YtibeeohnjabhkaaGreatDoor.R
set_option maxHeartbeats 8000000
set_option maxRecDepth 100000
set_option linter.unusedSimpArgs false
set_option linter.unusedVariables false
attribute [local simp] bsV bsRows chunk fillT partsT appV makeV rowsOf cellsOf placeOf frzT frz1
structure DB (d : Dfa) : Prop where
  sm : DSm d
  rows : d.rows.length ≤ 40
theorem DB.of {ps : List (List (Int × Int))} {rows : List (List Int)} {acc : List Int} (h1 : ps.length ≤ 65536) (h2 : ∀ x ∈ ps, x.length ≤ 256) (h3 : rows.length ≤ 40) (h4 : ∀ r ∈ rows, 1 ≤ r.length ∧ r.length ≤ 65536) (h5 : acc.length ≤ 40) : DB ⟨ps, rows, acc⟩ :=
  ⟨⟨by simp only; omega, by simp only; omega, by simp only; omega, fun x hx => by have := h2 x hx; omega, fun x hx => by have := h4 x hx; omega⟩, h3⟩
theorem tcr_l7Bent (b : List UInt8) (p : Nat) (hb : b.length ≤ 2000) (hp : p ≤ 790000000) : TCR Tryz.prog 28 [.pd 0 0 0 0] [rdr b p] (fun r o => ∃ (d : Dfa) (p' : Nat), DB d ∧ toRo r = .agg (encDfa d) ∧ p' ≤ p + 1110 ∧ o = [rdr b p']) := by
  refine TCR.enter Tryz.func28 rfl (by simp [Tryz.ntmps28]) rfl (TWc.postT (tw_sound (ρ := []) ?_))
  rw [Tryz.ntmps28]
  simp
  refine gall_fresh [0] (by simp) fun q2 f2 => ?_
  simp [frF] at f2
  simp [f2]
  refine TWoH.lendR [0] (tcr_l7Any b p hb (by omega)) callable_44 (by simp [List.findIdx?_cons, f2]) (by simp [f2]) (by simp) (by simp) ?_
  rintro r o ⟨d, p1, hd, rfl, hp1, rfl⟩
  refine ⟨by simp [rdr], by simp [macO], .inl (by simp [List.findIdx?_cons, f2]), fun k hk => ?_⟩
  have l2 : q2 < k := over hk (t := .box 27 [.val (.slice none 0 0), .val (.slice none 0 0), .val (.slice none 0 0)]) (by simp [f2])
  have fk : (¬ k = 0 ∧ ¬ 0 = k) ∧ (¬ k = q2 ∧ ¬ q2 = k) ∧ (¬ k + 1 = 0 ∧ ¬ 0 = k + 1) ∧ (¬ k + 1 = q2 ∧ ¬ q2 = k + 1) := by omega
  clear hk l2
  obtain ⟨ps, rows, acc⟩ := d
  simp [f2, fk, macO]
  refine gall_fresh [0, q2, k, k + 1] (by simp [f2, fk]) fun c3 f3 => ?_
  simp [frF] at f3
  simp [f2, fk, f3]
  refine TWoH.lendR [0] (tcr_pick b p1 48 hb (by omega)) callable_30 (by simp [List.findIdx?_cons, f2, fk, f3]) (by simp [f2, fk, f3]) (by simp) (by simp) ?_
  rintro r o ⟨n, rfl, n0, n1, rfl⟩
  refine ⟨by simp [rdr], by simp, .inl (by simp [List.findIdx?_cons, f2, fk, f3]), fun q' hq => ?_⟩
  clear hq
  obtain ⟨⟨dr1, dr2⟩, da, ⟨dp1, dp2⟩, dpt, drw⟩ := hd
  simp only at dr1 dr2 da dp1 dp2 dpt drw
  by_cases e0 : n = 0
  · simp [f2, fk, f3, e0]
    refine Turn.zr q2 (t := .box 27 [.ro (ps.map encP), .sl k 1 0 0, .hd (k + 1)]) (by simp [f2, fk, f3, del]) ?_
    simp [f2, fk, f3, e0, del, zrO, zr1]
    exact ⟨_, _, ⟨rfl, rfl⟩, by simp, by simp [f2, fk, f3, del], ⟨ps, [], acc⟩, DB.of dp2 dpt (by simp) (by simp) (by omega), by simp [encDfa], p1 + 1, by omega, by simp [f2, fk, f3, del]⟩
  by_cases e1 : n = 1
  · simp [f2, fk, f3, e0, e1]
    refine TWcH.midB (ρ := []) (fun st => ∃ (x : Int), st.σ 0 = .pd 0 0 0 0 ∧ st.H 0 = some (rdr b (p1 + 2)) ∧ st.σ 2 = .pd q2 0 0 0 ∧ st.H q2 = some (.box 27 [.val (.slice none 0 0), .val (.slice none 0 0), .val (.slice none 0 0)]) ∧ st.σ 3 = .pd c3 0 0 0 ∧ st.H c3 = some (.box 27 [.ro (ps.map encP), .hd k, .hd (k + 1)]) ∧ st.H k = some (.own 25 (rows.map oR)) ∧ st.H (k + 1) = some (.own 3 ((acc.set 0 x).map encI)))
      (.first 0 (.first 2 (.pick 1 (.pick 3 (.pick 4 (.first 5 (.pick 6 .fin .fin)) .fin) .fin) (.pick 3 (.pick 1 (.pick 4 (.first 5 (.pick 6 .fin .fin)) .fin) (.pick 4 (.pick 1 (.first 5 (.pick 6 .fin .fin)) .fin) .fin)) .fin)))) mixed (by kernel_rfl) ?_ ?_
    case refine_2 =>
      rintro ⟨σ, H⟩ ⟨x, h0, H0, h2, H2, h3, Hc, K1, K2⟩
      simp only at h0 H0 h2 H2 h3 Hc K1 K2
      have hA : (acc.set 0 x).length ≤ 40 := by simp; omega
      generalize acc.set 0 x = A at K2 hA
      simp [h0, H0, h2, H2, h3, Hc, K1, K2, f2, fk, f3]
      refine Turn.same ?_
      simp [h0, H0, h2, H2, h3, Hc, K1, K2, f2, fk, f3, del]
      exact ⟨_, _, ⟨rfl, rfl⟩, by simp, by simp [f2, fk, f3, del, H0], ⟨ps, rows, A⟩, DB.of dp2 dpt dr2 drw hA, by simp [encDfa], p1 + 2, by omega, by simp [f2, fk, f3, del, H0]⟩
    simp [f2, fk, f3, e0, e1]
    have hal : 0 < acc.length := by omega
    refine ⟨?_, ?_⟩
    · refine gall_fresh [0, q2, c3, k, k + 1] (by simp [f2, fk, f3]) fun i3 fi3 => ?_
      simp [frF] at fi3
      simp [f2, fk, f3, fi3]
      refine TWoH.turn (Turn.freeze i3 (t := .own 3 (([-2, 5] : List Int).map encI)) (by simp [encI, f2, fk, f3, fi3]) ?_)
      refine TWoH.lendR [0] (tcr_num b (p1 + 1) [-2, 5] hb (by omega) (by simp) (by simp)) callable_32 (by simp [List.findIdx?_cons, f2, fk, f3, fi3, encI]) (by simp [f2, fk, f3, fi3, del]) (by simp) (by simp) ?_
      rintro r o ⟨x, hx, rfl, rfl⟩
      refine ⟨by simp [rdr], by simp, .inl (by simp [List.findIdx?_cons, f2, fk, f3, fi3]), fun q' hq => ?_⟩
      clear hq
      simp [f2, fk, f3, fi3, del, hal]
      exact ⟨x, by simp [encI]⟩
    · refine gall_fresh [0, q2, c3, k, k + 1] (by simp [f2, fk, f3]) fun i3 fi3 => ?_
      simp [frF] at fi3
      simp [f2, fk, f3, fi3]
      refine ⟨?_, ?_⟩
      · refine TWoH.turn (Turn.freeze i3 (t := .own 3 (([-2, 5] : List Int).map encI)) (by simp [encI, f2, fk, f3, fi3]) ?_)
        refine TWoH.lendR [0] (tcr_num b (p1 + 1) [-2, 5] hb (by omega) (by simp) (by simp)) callable_32 (by simp [List.findIdx?_cons, f2, fk, f3, fi3, encI]) (by simp [f2, fk, f3, fi3, del]) (by simp) (by simp) ?_
        rintro r o ⟨x, hx, rfl, rfl⟩
        refine ⟨by simp [rdr], by simp, .inl (by simp [List.findIdx?_cons, f2, fk, f3, fi3]), fun q' hq => ?_⟩
        clear hq
        simp [f2, fk, f3, fi3, del, hal]
        exact ⟨x, by simp [encI]⟩
      · refine TWoH.turn (Turn.freeze i3 (t := .own 3 (([-2, 5] : List Int).map encI)) (by simp [encI, f2, fk, f3, fi3]) ?_)
        refine TWoH.lendR [0] (tcr_num b (p1 + 1) [-2, 5] hb (by omega) (by simp) (by simp)) callable_32 (by simp [List.findIdx?_cons, f2, fk, f3, fi3, encI]) (by simp [f2, fk, f3, fi3, del]) (by simp) (by simp) ?_
        rintro r o ⟨x, hx, rfl, rfl⟩
        refine ⟨by simp [rdr], by simp, .inl (by simp [List.findIdx?_cons, f2, fk, f3, fi3]), fun q' hq => ?_⟩
        clear hq
        simp [f2, fk, f3, fi3, del, hal]
        exact ⟨x, by simp [encI]⟩
  by_cases e2 : n = 2
  · obtain ⟨row, rows', rfl⟩ : ∃ row rows', rows = row :: rows' := by cases rows with
      | nil => simp at dr1
      | cons a l => exact ⟨a, l, rfl⟩
    simp [f2, fk, f3, e0, e1, e2]
    refine TWc.unfold1 (id := k) (E := 25) (E1 := 3) (r := 0) (c1 := 0) (rows := (row :: rows').map oR) (rows1 := row.map encI) (row := oR row) (by simp [f2, fk, f3]) (by simp) (by simp [oR]) fun k9 H' h9 n9 a9 b9 c9 => ?_
    have n9' : ¬ k9 = k := fun e => n9 e.symm
    have u0 : ¬ k9 = 0 := fun e => by rw [e] at h9; simp [f2, fk, f3] at h9
    have u2 : ¬ k9 = q2 := fun e => by rw [e] at h9; simp [f2, fk, f3] at h9
    have u3 : ¬ k9 = c3 := fun e => by rw [e] at h9; simp [f2, fk, f3] at h9
    have u1 : ¬ k9 = k + 1 := fun e => by rw [e] at h9; simp [f2, fk, f3] at h9
    have v0 : ¬ 0 = k9 := fun e => u0 e.symm
    have v2 : ¬ q2 = k9 := fun e => u2 e.symm
    have v3 : ¬ c3 = k9 := fun e => u3 e.symm
    have v1 : ¬ k + 1 = k9 := fun e => u1 e.symm
    have H0 : H' 0 = some (rdr b (p1 + 1)) := by rw [c9 0 (by simp [f2, fk, f3]) v0]; simp [f2, fk, f3]
    have H2 : H' q2 = some (.box 27 [.val (.slice none 0 0), .val (.slice none 0 0), .val (.slice none 0 0)]) := by rw [c9 q2 (by simp [f2, fk, f3]) v2]; simp [f2, fk, f3]
    have H3 : H' c3 = some (.box 27 [.ro (ps.map encP), .hd k, .hd (k + 1)]) := by rw [c9 c3 (by simp [f2, fk, f3]) v3]; simp [f2, fk, f3]
    have H4 : H' (k + 1) = some (.own 3 (acc.map encI)) := by rw [c9 (k + 1) (by simp [f2, fk, f3]) v1]; simp [f2, fk, f3]
    clear c9 h9
    simp [oR] at a9
    have hrow := drw row (by simp)
    have hrw : 0 < row.length := by omega
    refine TWcH.regionD (ρ := []) [0, 1, 2, 3, 4, 5, 6, 7, 8] 8 mixed (by kernel_rfl) ?_
    simp [f2, fk, f3, n9, n9', u0, u1, u2, u3, v0, v1, v2, v3, H0, H2, H3, H4, a9, b9, hrw]
    generalize hN : (rows'.length : Int) + 1 = NN
    refine Turn.shift (Shift.fold1x k k9 25 0 0 ([.hd k9] :: rows'.map oR) [.hd k9] (.own 3 ((row.set 0 NN).map encI)) n9 (by simp [f2, fk, f3, n9, n9', u0, u1, u2, u3, v0, v1, v2, v3, H0, H2, H3, H4, a9, b9, hrw]) (by simp) (by simp) (by simp [f2, fk, f3, n9, n9', u0, u1, u2, u3, v0, v1, v2, v3, H0, H2, H3, H4, a9, b9, hrw, encI])) ?_
    have hlr : 1 ≤ (row.set 0 NN).length ∧ (row.set 0 NN).length ≤ 65536 := by simp; omega
    generalize row.set 0 NN = row2 at hlr
    simp [f2, fk, f3, n9, n9', u0, u1, u2, u3, v0, v1, v2, v3, H0, H2, H3, H4, a9, b9, hrw, del]
    exact ⟨_, _, ⟨rfl, rfl⟩, by simp, by simp [f2, fk, f3, n9, n9', u0, u1, u2, u3, v0, v1, v2, v3, H0, H2, H3, H4, a9, b9, hrw, del], ⟨ps, row2 :: rows', acc⟩, DB.of dp2 dpt (by simpa using dr2) (by intro r hr; rcases List.mem_cons.1 hr with h | h; exact h ▸ hlr; exact drw r (by simp [h])) (by omega), by simp [encDfa, oR, encR], p1 + 1, by omega, by simp [f2, fk, f3, n9, n9', u0, u1, u2, u3, v0, v1, v2, v3, H0, H2, H3, H4, a9, b9, hrw, del]⟩
  by_cases e3 : n = 3
  · have hp1' : (1 : Int) ≤ ps.length := by omega
    have et : (List.take ps.length (ps.map encP)).tail = ps.tail.map encP := by rw [List.take_of_length_le (by simp), List.map_tail]
    have htl : ∀ x ∈ ps.tail, x.length ≤ 256 := fun x hx => dpt x (List.mem_of_mem_tail hx)
    have htn : ps.tail.length ≤ 65536 := by simp; omega
    generalize ps.tail = pt at et htl htn
    simp [f2, fk, f3, e0, e1, e2, e3, hp1', et]
    refine Turn.same ?_
    simp [f2, fk, f3, del]
    exact ⟨_, _, ⟨rfl, rfl⟩, by simp, by simp [f2, fk, f3, del], ⟨pt, rows, acc⟩, DB.of htn htl dr2 drw (by omega), by simp [encDfa], p1 + 1, by omega, by simp [f2, fk, f3, del]⟩
  · simp [f2, fk, f3, e0, e1, e2, e3]
    refine Turn.same ?_
    simp [f2, fk, f3, del]
    exact ⟨_, _, ⟨rfl, rfl⟩, by simp, by simp [f2, fk, f3, del], ⟨ps, rows, acc⟩, DB.of dp2 dpt dr2 drw (by omega), by simp [encDfa], p1 + 1, by omega, by simp [f2, fk, f3, del]⟩
end Go.Proofs.YtibeeohnjabhkaaGreatDoor.R

open Go Go.Proofs.YtibeeohnjabhkaaGreatDoor.T
namespace Go.Proofs.YtibeeohnjabhkaaGreatDoor.R
set_option maxHeartbeats 8000000
set_option maxRecDepth 100000
set_option linter.unusedSimpArgs false
set_option linter.unusedVariables false
attribute [local simp] bsV bsRows chunk fillT partsT appV makeV rowsOf cellsOf placeOf frzT frz1
theorem tcr_l7BentR (b : List UInt8) (p : Nat) (hb : b.length ≤ 2000) (hp : p ≤ 790000000) : TCR Tryz.prog 28 [.pd 0 0 0 0] [rdr b p] (fun r o => ∃ (d : Dfa) (p' : Nat), DB d ∧ r = .agg (encDfa d) ∧ p' ≤ p + 1110 ∧ o = [rdr b p']) := by
  have h := (tcr_l7Bent b p hb hp).frz
  refine h.mono ?_
  rintro r o ⟨r0, ⟨d, p', h1, h2, h3, rfl⟩, rfl⟩
  exact ⟨d, p', h1, h2, h3, rfl⟩
end Go.Proofs.YtibeeohnjabhkaaGreatDoor.R

open Go Go.Proofs.YtibeeohnjabhkaaGreatDoor.T
namespace Go.Proofs.YtibeeohnjabhkaaGreatDoor.R
set_option maxHeartbeats 8000000
set_option maxRecDepth 100000
set_option linter.unusedSimpArgs false
set_option linter.unusedVariables false
attribute [local simp] bsV bsRows chunk fillT partsT appV makeV rowsOf cellsOf placeOf frzT frz1
end Go.Proofs.YtibeeohnjabhkaaGreatDoor.R
