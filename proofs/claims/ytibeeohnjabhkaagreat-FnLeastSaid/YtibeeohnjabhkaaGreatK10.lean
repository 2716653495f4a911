/- Part 10: what the walk of the code stands on. Conditions: none but those that each theorem states. -/
import Derived.Test.YtibeeohnjabhkaaGreatK9
open Go Go.Proofs.YtibeeohnjabhkaaGreat.T
namespace Go.Proofs.YtibeeohnjabhkaaGreat.R
set_option maxHeartbeats 8000000
set_option maxRecDepth 100000
set_option linter.unusedSimpArgs false
set_option linter.unusedVariables false
attribute [local simp] bsV bsRows chunk fillT partsT appV makeV rowsOf cellsOf placeOf frzT frz1
def J70 (d : Dfa) (c2 c3 p r a : Nat) (m : Nat) (st : St) : Prop := ∃ i : Nat, i + m = d.rows.length ∧ st.σ 2 = .pd c2 0 0 0 ∧ st.σ 3 = .pd c3 0 0 0 ∧ st.σ 17 = .val (.int .i64 d.rows.length) ∧ st.σ 18 = .val (.int .i64 i) ∧ st.H c2 = some (.box 27 [.val (.slice none 0 0), .val (.slice none 0 0), .val (.slice none 0 0)]) ∧ st.H c3 = some (.box 27 [.hd p, .hd r, .hd a]) ∧ st.H a = some (.own 3 (d.acc.map encI)) ∧ st.H p = some (.own 46 (d.parts.map oP)) ∧ st.H r = some (.own 25 ((d.rows.take i).map oR ++ (d.rows.drop i).map encR))
theorem tc_dfaCopy (d : Dfa) (hs : CSm d) : TC Tryz.prog 17 [.agg (encDfa d)] [] (.agg (oDfa d)) [] := by
  refine TC.enter Tryz.func17 rfl (by simp [Tryz.ntmps17]) rfl (tw_sound (ρ := [1]) ?_)
  rw [Tryz.ntmps17]
  have ha := hs.acc
  have hp := hs.parts
  have hr := hs.rows
  have t1 := tc_setsCopy d.parts hp hs.part
  have t2 := tc_copiedInts d.rows (by omega)
  have t3 := tc_copiedInt d.acc (by omega)
  simp [encDfa]
  refine gall_intro fun c2 g2 => ?_
  clear g2
  simp
  refine TWcH.midB (ρ := []) (fun st => ∃ c3 p r a, frF c3 [c2] ∧ frF p [c2, c3] ∧ frF r [c2, c3, p] ∧ frF a [c2, c3, p, r] ∧ st.σ 2 = .pd c2 0 0 0 ∧ st.σ 3 = .pd c3 0 0 0 ∧ st.H c2 = some (.box 27 [.val (.slice none 0 0), .val (.slice none 0 0), .val (.slice none 0 0)]) ∧ st.H c3 = some (.box 27 [.hd p, .hd r, .hd a]) ∧ st.H a = some (.own 3 (d.acc.map encI)) ∧ st.H p = some (.own 46 (d.parts.map oP)) ∧ st.H r = some (.own 25 (d.rows.map encR)))
    (.first 0 (.first 3 (.first 6 (.pick 1 (.pick 2 (.pick 4 (.pick 5 (.pick 7 (.pick 8 (.first 9 (.pick 10 (.pick 11 .fin .fin) .fin)) (.pick 10 (.pick 8 (.first 9 (.pick 11 .fin .fin)) .fin) .fin)) (.pick 10 (.pick 7 (.pick 8 (.first 9 (.pick 11 .fin .fin)) .fin) .fin) .fin)) (.pick 7 (.pick 5 (.pick 8 (.first 9 (.pick 10 (.pick 11 .fin .fin) .fin)) (.pick 10 (.pick 8 (.first 9 (.pick 11 .fin .fin)) .fin) .fin)) (.pick 10 (.pick 5 (.pick 8 (.first 9 (.pick 11 .fin .fin)) .fin) .fin) .fin)) (.pick 10 (.pick 5 (.pick 7 (.pick 8 (.first 9 (.pick 11 .fin .fin)) .fin) .fin) (.pick 7 (.pick 5 (.pick 8 (.first 9 (.pick 11 .fin .fin)) .fin) .fin) .fin)) .fin))) (.pick 7 (.pick 4 (.pick 5 (.pick 8 (.first 9 (.pick 10 (.pick 11 .fin .fin) .fin)) (.pick 10 (.pick 8 (.first 9 (.pick 11 .fin .fin)) .fin) .fin)) (.pick 10 (.pick 5 (.pick 8 (.first 9 (.pick 11 .fin .fin)) .fin) .fin) .fin)) (.pick 10 (.pick 4 (.pick 5 (.pick 8 (.first 9 (.pick 11 .fin .fin)) .fin) .fin) .fin) .fin)) (.pick 10 (.pick 4 (.pick 5 (.pick 7 (.pick 8 (.first 9 (.pick 11 .fin .fin)) .fin) .fin) (.pick 7 (.pick 5 (.pick 8 (.first 9 (.pick 11 .fin .fin)) .fin) .fin) .fin)) (.pick 7 (.pick 4 (.pick 5 (.pick 8 (.first 9 (.pick 11 .fin .fin)) .fin) .fin) .fin) .fin)) .fin))) (.pick 4 (.pick 2 (.pick 5 (.pick 7 (.pick 8 (.first 9 (.pick 10 (.pick 11 .fin .fin) .fin)) (.pick 10 (.pick 8 (.first 9 (.pick 11 .fin .fin)) .fin) .fin)) (.pick 10 (.pick 7 (.pick 8 (.first 9 (.pick 11 .fin .fin)) .fin) .fin) .fin)) (.pick 7 (.pick 5 (.pick 8 (.first 9 (.pick 10 (.pick 11 .fin .fin) .fin)) (.pick 10 (.pick 8 (.first 9 (.pick 11 .fin .fin)) .fin) .fin)) (.pick 10 (.pick 5 (.pick 8 (.first 9 (.pick 11 .fin .fin)) .fin) .fin) .fin)) (.pick 10 (.pick 5 (.pick 7 (.pick 8 (.first 9 (.pick 11 .fin .fin)) .fin) .fin) (.pick 7 (.pick 5 (.pick 8 (.first 9 (.pick 11 .fin .fin)) .fin) .fin) .fin)) .fin))) (.pick 7 (.pick 2 (.pick 5 (.pick 8 (.first 9 (.pick 10 (.pick 11 .fin .fin) .fin)) (.pick 10 (.pick 8 (.first 9 (.pick 11 .fin .fin)) .fin) .fin)) (.pick 10 (.pick 5 (.pick 8 (.first 9 (.pick 11 .fin .fin)) .fin) .fin) .fin)) (.pick 10 (.pick 2 (.pick 5 (.pick 8 (.first 9 (.pick 11 .fin .fin)) .fin) .fin) .fin) .fin)) (.pick 10 (.pick 2 (.pick 5 (.pick 7 (.pick 8 (.first 9 (.pick 11 .fin .fin)) .fin) .fin) (.pick 7 (.pick 5 (.pick 8 (.first 9 (.pick 11 .fin .fin)) .fin) .fin) .fin)) (.pick 7 (.pick 2 (.pick 5 (.pick 8 (.first 9 (.pick 11 .fin .fin)) .fin) .fin) .fin) .fin)) .fin))) (.pick 7 (.pick 2 (.pick 4 (.pick 5 (.pick 8 (.first 9 (.pick 10 (.pick 11 .fin .fin) .fin)) (.pick 10 (.pick 8 (.first 9 (.pick 11 .fin .fin)) .fin) .fin)) (.pick 10 (.pick 5 (.pick 8 (.first 9 (.pick 11 .fin .fin)) .fin) .fin) .fin)) (.pick 10 (.pick 4 (.pick 5 (.pick 8 (.first 9 (.pick 11 .fin .fin)) .fin) .fin) .fin) .fin)) (.pick 4 (.pick 2 (.pick 5 (.pick 8 (.first 9 (.pick 10 (.pick 11 .fin .fin) .fin)) (.pick 10 (.pick 8 (.first 9 (.pick 11 .fin .fin)) .fin) .fin)) (.pick 10 (.pick 5 (.pick 8 (.first 9 (.pick 11 .fin .fin)) .fin) .fin) .fin)) (.pick 10 (.pick 2 (.pick 5 (.pick 8 (.first 9 (.pick 11 .fin .fin)) .fin) .fin) .fin) .fin)) (.pick 10 (.pick 2 (.pick 4 (.pick 5 (.pick 8 (.first 9 (.pick 11 .fin .fin)) .fin) .fin) .fin) (.pick 4 (.pick 2 (.pick 5 (.pick 8 (.first 9 (.pick 11 .fin .fin)) .fin) .fin) .fin) .fin)) .fin))) (.pick 10 (.pick 2 (.pick 4 (.pick 5 (.pick 7 (.pick 8 (.first 9 (.pick 11 .fin .fin)) .fin) .fin) (.pick 7 (.pick 5 (.pick 8 (.first 9 (.pick 11 .fin .fin)) .fin) .fin) .fin)) (.pick 7 (.pick 4 (.pick 5 (.pick 8 (.first 9 (.pick 11 .fin .fin)) .fin) .fin) .fin) .fin)) (.pick 4 (.pick 2 (.pick 5 (.pick 7 (.pick 8 (.first 9 (.pick 11 .fin .fin)) .fin) .fin) (.pick 7 (.pick 5 (.pick 8 (.first 9 (.pick 11 .fin .fin)) .fin) .fin) .fin)) (.pick 7 (.pick 2 (.pick 5 (.pick 8 (.first 9 (.pick 11 .fin .fin)) .fin) .fin) .fin) .fin)) (.pick 7 (.pick 2 (.pick 4 (.pick 5 (.pick 8 (.first 9 (.pick 11 .fin .fin)) .fin) .fin) .fin) (.pick 4 (.pick 2 (.pick 5 (.pick 8 (.first 9 (.pick 11 .fin .fin)) .fin) .fin) .fin) .fin)) .fin))) .fin)))) (.pick 4 (.pick 1 (.pick 2 (.pick 5 (.pick 7 (.pick 8 (.first 9 (.pick 10 (.pick 11 .fin .fin) .fin)) (.pick 10 (.pick 8 (.first 9 (.pick 11 .fin .fin)) .fin) .fin)) (.pick 10 (.pick 7 (.pick 8 (.first 9 (.pick 11 .fin .fin)) .fin) .fin) .fin)) (.pick 7 (.pick 5 (.pick 8 (.first 9 (.pick 10 (.pick 11 .fin .fin) .fin)) (.pick 10 (.pick 8 (.first 9 (.pick 11 .fin .fin)) .fin) .fin)) (.pick 10 (.pick 5 (.pick 8 (.first 9 (.pick 11 .fin .fin)) .fin) .fin) .fin)) (.pick 10 (.pick 5 (.pick 7 (.pick 8 (.first 9 (.pick 11 .fin .fin)) .fin) .fin) (.pick 7 (.pick 5 (.pick 8 (.first 9 (.pick 11 .fin .fin)) .fin) .fin) .fin)) .fin))) (.pick 7 (.pick 2 (.pick 5 (.pick 8 (.first 9 (.pick 10 (.pick 11 .fin .fin) .fin)) (.pick 10 (.pick 8 (.first 9 (.pick 11 .fin .fin)) .fin) .fin)) (.pick 10 (.pick 5 (.pick 8 (.first 9 (.pick 11 .fin .fin)) .fin) .fin) .fin)) (.pick 10 (.pick 2 (.pick 5 (.pick 8 (.first 9 (.pick 11 .fin .fin)) .fin) .fin) .fin) .fin)) (.pick 10 (.pick 2 (.pick 5 (.pick 7 (.pick 8 (.first 9 (.pick 11 .fin .fin)) .fin) .fin) (.pick 7 (.pick 5 (.pick 8 (.first 9 (.pick 11 .fin .fin)) .fin) .fin) .fin)) (.pick 7 (.pick 2 (.pick 5 (.pick 8 (.first 9 (.pick 11 .fin .fin)) .fin) .fin) .fin) .fin)) .fin))) (.pick 7 (.pick 1 (.pick 2 (.pick 5 (.pick 8 (.first 9 (.pick 10 (.pick 11 .fin .fin) .fin)) (.pick 10 (.pick 8 (.first 9 (.pick 11 .fin .fin)) .fin) .fin)) (.pick 10 (.pick 5 (.pick 8 (.first 9 (.pick 11 .fin .fin)) .fin) .fin) .fin)) (.pick 10 (.pick 2 (.pick 5 (.pick 8 (.first 9 (.pick 11 .fin .fin)) .fin) .fin) .fin) .fin)) (.pick 10 (.pick 1 (.pick 2 (.pick 5 (.pick 8 (.first 9 (.pick 11 .fin .fin)) .fin) .fin) .fin) .fin) .fin)) (.pick 10 (.pick 1 (.pick 2 (.pick 5 (.pick 7 (.pick 8 (.first 9 (.pick 11 .fin .fin)) .fin) .fin) (.pick 7 (.pick 5 (.pick 8 (.first 9 (.pick 11 .fin .fin)) .fin) .fin) .fin)) (.pick 7 (.pick 2 (.pick 5 (.pick 8 (.first 9 (.pick 11 .fin .fin)) .fin) .fin) .fin) .fin)) (.pick 7 (.pick 1 (.pick 2 (.pick 5 (.pick 8 (.first 9 (.pick 11 .fin .fin)) .fin) .fin) .fin) .fin) .fin)) .fin))) (.pick 7 (.pick 1 (.pick 2 (.pick 4 (.pick 5 (.pick 8 (.first 9 (.pick 10 (.pick 11 .fin .fin) .fin)) (.pick 10 (.pick 8 (.first 9 (.pick 11 .fin .fin)) .fin) .fin)) (.pick 10 (.pick 5 (.pick 8 (.first 9 (.pick 11 .fin .fin)) .fin) .fin) .fin)) (.pick 10 (.pick 4 (.pick 5 (.pick 8 (.first 9 (.pick 11 .fin .fin)) .fin) .fin) .fin) .fin)) (.pick 4 (.pick 2 (.pick 5 (.pick 8 (.first 9 (.pick 10 (.pick 11 .fin .fin) .fin)) (.pick 10 (.pick 8 (.first 9 (.pick 11 .fin .fin)) .fin) .fin)) (.pick 10 (.pick 5 (.pick 8 (.first 9 (.pick 11 .fin .fin)) .fin) .fin) .fin)) (.pick 10 (.pick 2 (.pick 5 (.pick 8 (.first 9 (.pick 11 .fin .fin)) .fin) .fin) .fin) .fin)) (.pick 10 (.pick 2 (.pick 4 (.pick 5 (.pick 8 (.first 9 (.pick 11 .fin .fin)) .fin) .fin) .fin) (.pick 4 (.pick 2 (.pick 5 (.pick 8 (.first 9 (.pick 11 .fin .fin)) .fin) .fin) .fin) .fin)) .fin))) (.pick 4 (.pick 1 (.pick 2 (.pick 5 (.pick 8 (.first 9 (.pick 10 (.pick 11 .fin .fin) .fin)) (.pick 10 (.pick 8 (.first 9 (.pick 11 .fin .fin)) .fin) .fin)) (.pick 10 (.pick 5 (.pick 8 (.first 9 (.pick 11 .fin .fin)) .fin) .fin) .fin)) (.pick 10 (.pick 2 (.pick 5 (.pick 8 (.first 9 (.pick 11 .fin .fin)) .fin) .fin) .fin) .fin)) (.pick 10 (.pick 1 (.pick 2 (.pick 5 (.pick 8 (.first 9 (.pick 11 .fin .fin)) .fin) .fin) .fin) .fin) .fin)) (.pick 10 (.pick 1 (.pick 2 (.pick 4 (.pick 5 (.pick 8 (.first 9 (.pick 11 .fin .fin)) .fin) .fin) .fin) (.pick 4 (.pick 2 (.pick 5 (.pick 8 (.first 9 (.pick 11 .fin .fin)) .fin) .fin) .fin) .fin)) (.pick 4 (.pick 1 (.pick 2 (.pick 5 (.pick 8 (.first 9 (.pick 11 .fin .fin)) .fin) .fin) .fin) .fin) .fin)) .fin))) (.pick 10 (.pick 1 (.pick 2 (.pick 4 (.pick 5 (.pick 7 (.pick 8 (.first 9 (.pick 11 .fin .fin)) .fin) .fin) (.pick 7 (.pick 5 (.pick 8 (.first 9 (.pick 11 .fin .fin)) .fin) .fin) .fin)) (.pick 7 (.pick 4 (.pick 5 (.pick 8 (.first 9 (.pick 11 .fin .fin)) .fin) .fin) .fin) .fin)) (.pick 4 (.pick 2 (.pick 5 (.pick 7 (.pick 8 (.first 9 (.pick 11 .fin .fin)) .fin) .fin) (.pick 7 (.pick 5 (.pick 8 (.first 9 (.pick 11 .fin .fin)) .fin) .fin) .fin)) (.pick 7 (.pick 2 (.pick 5 (.pick 8 (.first 9 (.pick 11 .fin .fin)) .fin) .fin) .fin) .fin)) (.pick 7 (.pick 2 (.pick 4 (.pick 5 (.pick 8 (.first 9 (.pick 11 .fin .fin)) .fin) .fin) .fin) (.pick 4 (.pick 2 (.pick 5 (.pick 8 (.first 9 (.pick 11 .fin .fin)) .fin) .fin) .fin) .fin)) .fin))) (.pick 4 (.pick 1 (.pick 2 (.pick 5 (.pick 7 (.pick 8 (.first 9 (.pick 11 .fin .fin)) .fin) .fin) (.pick 7 (.pick 5 (.pick 8 (.first 9 (.pick 11 .fin .fin)) .fin) .fin) .fin)) (.pick 7 (.pick 2 (.pick 5 (.pick 8 (.first 9 (.pick 11 .fin .fin)) .fin) .fin) .fin) .fin)) (.pick 7 (.pick 1 (.pick 2 (.pick 5 (.pick 8 (.first 9 (.pick 11 .fin .fin)) .fin) .fin) .fin) .fin) .fin)) (.pick 7 (.pick 1 (.pick 2 (.pick 4 (.pick 5 (.pick 8 (.first 9 (.pick 11 .fin .fin)) .fin) .fin) .fin) (.pick 4 (.pick 2 (.pick 5 (.pick 8 (.first 9 (.pick 11 .fin .fin)) .fin) .fin) .fin) .fin)) (.pick 4 (.pick 1 (.pick 2 (.pick 5 (.pick 8 (.first 9 (.pick 11 .fin .fin)) .fin) .fin) .fin) .fin) .fin)) .fin))) .fin))))))) mixed (by kernel_rfl) ?_ ?_
  case refine_1 =>
    simp
    repeat' (refine And.intro ?_ ?_)
    all_goals first
      | (refine gall_fresh [c2] (by simp) fun x1 g1 => ?_; simp [frF] at g1; simp [g1])
      | (refine TWoH.call t1 callable_39 (by simp) (by simp) (by simp) fun x1 hk => ?_; have g1 := frF_ge hk [c2] (by simp); clear hk; simp [frF] at g1; simp [g1])
    repeat' (refine And.intro ?_ ?_)
    all_goals first
      | (refine gall_fresh [c2, x1] (by simp [g1]) fun x2 g2 => ?_; simp [frF] at g2; simp [g1, g2])
      | (refine TWoH.call t1 callable_39 (by simp) (by simp) (by simp) fun x2 hk => ?_; have g2 := frF_ge hk [c2, x1] (by simp [g1]); clear hk; simp [frF] at g2; simp [g1, g2])
      | (refine TWoH.call t2 callable_40 (by simp) (by simp) (by simp) fun x2 hk => ?_; have g2 := frF_ge hk [c2, x1] (by simp [g1]); clear hk; simp [frF] at g2; simp [g1, g2])
    repeat' (refine And.intro ?_ ?_)
    all_goals first
      | (refine gall_fresh [c2, x1, x2] (by simp [g1, g2]) fun x3 g3 => ?_; simp [frF] at g3; simp [g1, g2, g3])
      | (refine TWoH.call t2 callable_40 (by simp) (by simp) (by simp) fun x3 hk => ?_; have g3 := frF_ge hk [c2, x1, x2] (by simp [g1, g2]); clear hk; simp [frF] at g3; simp [g1, g2, g3])
      | (refine TWoH.call t3 callable_41 (by simp) (by simp) (by simp) fun x3 hk => ?_; have g3 := frF_ge hk [c2, x1, x2] (by simp [g1, g2]); clear hk; simp [frF] at g3; simp [g1, g2, g3])
    repeat' (refine And.intro ?_ ?_)
    all_goals first
      | (refine gall_fresh [c2, x1, x2, x3] (by simp [g1, g2, g3]) fun x4 g4 => ?_; simp [frF] at g4; simp [g1, g2, g3, g4, frF])
      | (refine TWoH.call t3 callable_41 (by simp) (by simp) (by simp) fun x4 hk => ?_; have g4 := frF_ge hk [c2, x1, x2, x3] (by simp [g1, g2, g3]); clear hk; simp [frF] at g4; simp [g1, g2, g3, g4, frF])
    all_goals first
      | exact ⟨x4, by simp [g1, g2, g3, g4], x1, by simp [g1, g2, g3, g4], x2, by simp [g1, g2, g3, g4], x3, by simp [g1, g2, g3, g4], rfl, by simp [g1, g2, g3, g4]⟩
      | exact ⟨x3, by simp [g1, g2, g3, g4], x1, by simp [g1, g2, g3, g4], x2, by simp [g1, g2, g3, g4], x4, by simp [g1, g2, g3, g4], rfl, by simp [g1, g2, g3, g4]⟩
      | exact ⟨x2, by simp [g1, g2, g3, g4], x1, by simp [g1, g2, g3, g4], x3, by simp [g1, g2, g3, g4], x4, by simp [g1, g2, g3, g4], rfl, by simp [g1, g2, g3, g4]⟩
      | exact ⟨x1, by simp [g1, g2, g3, g4], x2, by simp [g1, g2, g3, g4], x3, by simp [g1, g2, g3, g4], x4, by simp [g1, g2, g3, g4], rfl, by simp [g1, g2, g3, g4]⟩
  case refine_2 =>
    rintro ⟨σ, H⟩ ⟨c3, p, r, a, f3, fp, fr, fa, h2, h3, H2, H3, Ha, Hp, Hr⟩
    simp only at h2 h3 H2 H3 Ha Hp Hr
    simp [frF] at f3 fp fr fa
    simp [h2, h3, H2, H3, Ha, Hp, Hr]
    refine TWcH.loopT [] (fun m st => Turn Tryz.prog 33 st (J70 d c2 c3 p r a m)) (J70 d c2 c3 p r a) d.rows.length (Turn.same ⟨0, by simp [h2, h3, H2, H3, Ha, Hp, Hr]⟩) (fun m s h => h) ?_
    clear h2 h3 H2 H3 Ha Hp Hr
    rintro m ⟨σ, H⟩ ⟨i, him, h2, h3, h17, h18, H2, H3, Ha, Hp, Hr⟩
    simp only at h2 h3 h17 h18 H2 H3 Ha Hp Hr
    by_cases hi : i < d.rows.length
    · have hw : IntKind.i64.wrap ((i : Int) + 1) = i + 1 := wrapi (by omega)
      have hx := hs.row _ (List.getElem_mem hi)
      have hat := half_at (f := oR) (g := encR) hi
      have hset := half_set (f := oR) (g := encR) hi
      have hln := half_len (f := oR) (g := encR) (Nat.le_of_lt hi)
      generalize (d.rows.take i).map oR ++ (d.rows.drop i).map encR = M at Hr hat hset hln
      simp [h2, h3, h17, h18, H2, H3, Hr, hi]
      refine TWcH.regionD (ρ := []) [0, 1, 2, 3, 4, 5, 6, 7, 8, 9, 10] 10 mixed (by kernel_rfl) ?_
      simp [h2, h3, h17, h18, H2, H3, Hr, hi, hln, hat, encR]
      refine TWqH.call (tc_copiedInt d.rows[i] (by omega)) callable_41 (by simp) (by simp) (by simp) fun k hk => ?_
      have fk := frF_ge hk [c2, c3, p, r, a] (by simp [H2, H3, Hp, Hr, Ha])
      clear hk
      simp [frF] at fk
      simp [h2, h3, h17, h18, H2, H3, Ha, Hp, Hr, hi, hln, hat, encR, f3, fp, fr, fa, fk, hw]
      refine ⟨m - 1, by omega, Turn.shift (Shift.fold1x r k 25 i 0 (M.set i [.hd k]) [.hd k] (.own 3 (d.rows[i].map encI)) (by simp [fk]) (by simp [fk]) (by simp [hln, hi]) rfl (by simp [fk])) ⟨i + 1, by omega, ?_⟩⟩
      have hset' : M.set i [TV.own 3 (d.rows[i].map encI)] = List.map oR (List.take (i + 1) d.rows) ++ List.map encR (List.drop (i + 1) d.rows) := hset
      simp [h2, h3, h17, h18, H2, H3, Ha, Hp, Hr, f3, fp, fr, fa, fk, hset', del]
    · obtain rfl : i = d.rows.length := by omega
      simp only [List.take_length, List.drop_length, List.map_nil, List.append_nil] at Hr
      simp [h2, h3, h17, h18, H2, H3, Ha, Hp, Hr, f3, fp, fr, fa, del, oDfa]
end Go.Proofs.YtibeeohnjabhkaaGreat.R

open Go Go.Proofs.YtibeeohnjabhkaaGreat.T
namespace Go.Proofs.YtibeeohnjabhkaaGreat.R
set_option maxHeartbeats 8000000
set_option maxRecDepth 100000
set_option linter.unusedSimpArgs false
set_option linter.unusedVariables false
attribute [local simp] bsV bsRows chunk fillT partsT appV makeV rowsOf cellsOf placeOf frzT frz1
def encKn (ks : List Int) (s : Nat) : List TV := encI (kn ks s)
def encN (s : Nat) : List TV := encI (s : Int)
def encAc (d : Dfa) (s : Nat) : List TV := encI (ac_ d s)
@[simp] theorem roRows_kn (ks : List Int) (l : List Nat) : roRows (l.map (encKn ks)) = l.map (encKn ks) := by induction l <;> simp [*, encKn, encI]
@[simp] theorem noHR_kn (ks : List Int) (l : List Nat) : noHR (l.map (encKn ks)) = true := by induction l <;> simp [*, encKn, encI]
@[simp] theorem noHR_ac (d : Dfa) (l : List Nat) : noHR (l.map (encAc d)) = true := by induction l <;> simp [*, encAc, encI]
theorem find_kn {ks : List Int} {fs : List Nat} {x : Int} : (fs.map (kn ks)).findIdx? (fun y => decide (y = x)) = findK ks fs x := by
  rw [List.findIdx?_map]; rfl
def J74 (d : Dfa) (ks : List Int) (c4 c5 : Nat) (m : Nat) (st : St) : Prop := ∃ (i o f R A : Nat), i + m = 40 ∧ i ≤ (bfsTo d ks i).1.length ∧ st.σ 1 = .ro (ks.map encI) ∧ st.σ 2 = .rptr (encDfa d) 0 ∧ st.σ 4 = .pd c4 0 0 0 ∧ st.σ 5 = .pd c5 0 0 0 ∧ st.σ 6 = .hd o ∧ st.σ 7 = .hd f ∧ st.σ 8 = .val (.int .i64 i) ∧ frF o [c4, c5] ∧ frF f [c4, c5, o] ∧ frF R [c4, c5, o, f] ∧ frF A [c4, c5, o, f, R] ∧ st.H c4 = some (.box 27 [.val (.slice none 0 0), .val (.slice none 0 0), .val (.slice none 0 0)]) ∧ st.H c5 = some (.box 27 [.ro (d.parts.map encP), .hd R, .hd A]) ∧ st.H o = some (.own 3 ((bfsTo d ks i).1.map (encKn ks))) ∧ st.H f = some (.own 3 ((bfsTo d ks i).1.map encN)) ∧ st.H R = some (.own 25 ((bfsTo d ks i).2.map oR)) ∧ st.H A = some (.own 3 (((bfsTo d ks i).1.take i).map (encAc d)))
theorem tc_l8Of0 (d : Dfa) (hs : DSm d) (ho : DOk d) (ks : List Int) (hk : ks.length = d.rows.length) (h0 : 0 ≤ kn ks 0) (x : Dfa) (hx : x = leastB d ks) : TC Tryz.prog 24 [.agg (encDfa d), .ro (ks.map encI)] [] (.agg [.ro (d.parts.map encP), .own 25 (x.rows.map oR), .own 3 (x.acc.map encI)]) [] := by
  refine TC.enter Tryz.func24 rfl (by simp [Tryz.ntmps24]) rfl (tw_sound (ρ := [2]) ?_)
  rw [Tryz.ntmps24]
  have hone := ho.one
  have hmost := ho.most
  have hacc := ho.acc
  have hpl := hs.parts
  have kz : 0 < ks.length := by omega
  have hkz : ∀ h, ks[0]'h = kn ks 0 := fun h => (kn_eq h).symm
  simp [encDfa]
  refine gall_intro fun c4 g4 => ?_
  clear g4
  simp
  refine gall_fresh [c4] (by simp) fun c5 f5 => ?_
  simp [frF] at f5
  simp [f5, kz, hkz, encI]
  refine gall_fresh [c4, c5] (by simp [f5]) fun o fo => ?_
  simp [frF] at fo
  simp [f5, fo, kz, hkz, encI]
  refine gall_fresh [c4, c5, o] (by simp [f5, fo]) fun f ff => ?_
  simp [frF] at ff
  simp [f5, fo, ff]
  refine TWcH.turn (Turn.then (Turn.nilC c5 1 25 27 (cs := [.ro (d.parts.map encP), .val (.slice none 0 0), .val (.slice none 0 0)]) (by simp [f5, fo, ff]) (by simp) fun R hR0 hR1 => ?_))
  have fR := frF_of hR0 [c4, c5, o, f] (by simp [f5, fo, ff])
  clear hR0 hR1
  simp [frF] at fR
  refine Turn.nilC c5 2 3 27 (cs := [.ro (d.parts.map encP), .hd R, .val (.slice none 0 0)]) (by simp [f5, fo, ff, fR]) (by simp) fun A hA0 hA1 => ?_
  have fA := frF_of hA0 [c4, c5, o, f, R] (by simp [f5, fo, ff, fR])
  clear hA0 hA1
  simp [frF] at fA
  refine TWcH.loopT [] (fun m st => Turn Tryz.prog 94 st (J74 d ks c4 c5 m)) (J74 d ks c4 c5) 40 (Turn.same ⟨0, o, f, R, A, by simp [f5, fo, ff, fR, fA, frF, encDfa, bfsTo, encKn, encN, encI]⟩) (fun m s h => h) ?_
  clear fo ff fR fA o f R A
  rintro m ⟨σ, H⟩ ⟨i, o, f, R, A, him, hil, h1, h2, h4, h5, h6, h7, h8, fo, ff, fR, fA, H4, H5, Ho, Hf, HR, HA⟩
  simp only [encDfa] at h1 h2 h4 h5 h6 h7 h8 H4 H5 Ho Hf HR HA
  simp [frF] at fo ff fR fA
  obtain ⟨b1, b2, b3⟩ := bfs_inv ho h0 i
  have hbl := b1.len
  by_cases hi : i < (bfsTo d ks i).1.length
  · obtain ⟨s, hsi⟩ : ∃ s, (bfsTo d ks i).1[i]? = some s := ⟨_, List.getElem?_eq_getElem hi⟩
    have hsr := (b1.rng s (List.mem_of_getElem? hsi)).1
    have hsucc := bfsTo_succ hsi
    generalize hFS : (bfsTo d ks i).1 = FS at *
    generalize hRS : (bfsTo d ks i).2 = RS at *
    have hrl := ho.row s hsr
    have hw8 : IntKind.i64.wrap ((i : Int) + 1) = i + 1 := wrapi (by omega)
    simp [h1, h2, h4, h5, h6, h7, h8, H4, H5, Ho, Hf, HR, HA, hi]
    refine gall_fresh [c4, c5, o, f, R, A] (by simp [H4, H5, Ho, Hf, HR, HA]) fun w0 fw0 => ?_
    simp [frF] at fw0
    simp [h1, h2, h4, h5, h6, h7, h8, H4, H5, Ho, Hf, HR, HA, f5, fo, ff, fR, fA, fw0]
    refine TWcH.loop [53, 64, 68, 72] (fun m' st => ∃ (k w o f : Nat), k + m' = d.parts.length ∧ st.σ 1 = .ro (ks.map encI) ∧ st.σ 2 = .rptr (encDfa d) 0 ∧ st.σ 4 = .pd c4 0 0 0 ∧ st.σ 5 = .pd c5 0 0 0 ∧ st.σ 6 = .hd o ∧ st.σ 7 = .hd f ∧ st.σ 8 = .val (.int .i64 i) ∧ st.σ 9 = .hd w ∧ st.σ 10 = .val (.int .i64 k) ∧ frF o [c4, c5, R, A] ∧ frF f [c4, c5, R, A, o] ∧ frF w [c4, c5, R, A, o, f] ∧ st.H c4 = some (.box 27 [.val (.slice none 0 0), .val (.slice none 0 0), .val (.slice none 0 0)]) ∧ st.H c5 = some (.box 27 [.ro (d.parts.map encP), .hd R, .hd A]) ∧ st.H o = some (.own 3 ((rowK ks ((rw_ d s).take k) FS).1.map (encKn ks))) ∧ st.H f = some (.own 3 ((rowK ks ((rw_ d s).take k) FS).1.map encN)) ∧ st.H w = some (.own 3 ((rowK ks ((rw_ d s).take k) FS).2.map encI)) ∧ st.H R = some (.own 25 (RS.map oR)) ∧ st.H A = some (.own 3 ((FS.take i).map (encAc d))))
      d.parts.length ⟨0, w0, o, f, by simp [h1, h2, h4, h5, h6, h7, h8, H4, H5, Ho, Hf, HR, HA, f5, fo, ff, fR, fA, fw0, frF, encDfa, rowK]⟩ ?_
    clear h1 h2 h4 h5 h6 h7 h8 H4 H5 Ho Hf HR HA fw0 fo ff w0
    rintro m' ⟨σ, H⟩ ⟨k, w, o, f, hkm, g1, g2, g4, g5, g6, g7, g8, g9, g10, fo, ff, fw, G4, G5, Go, Gf, Gw, GR, GA⟩
    simp only [encDfa] at g1 g2 g4 g5 g6 g7 g8 g9 g10 G4 G5 Go Gf Gw GR GA
    simp [frF] at fo ff fw
    obtain ⟨r1, r2, r3, z, r4⟩ := b1.row ho hsr (min k (rw_ d s).length) (by omega)
    by_cases hk : k < d.parts.length
    · have hkr : k < (rw_ d s).length := by omega
      rw [show min k (rw_ d s).length = k by omega] at r1 r2 r3 r4
      have hst := rowK_succ (ks := ks) (fs := FS) hkr
      have hFi : ((rowK ks ((rw_ d s).take k) FS).1)[i]? = some s := by rw [r4, List.getElem?_append_left hi]; exact hsi
      have hil2 : i < (rowK ks ((rw_ d s).take k) FS).1.length := (List.getElem?_eq_some_iff.1 hFi).1
      have hFa : ∀ h, (rowK ks ((rw_ d s).take k) FS).1[i]'h = s := fun h => (List.getElem?_eq_some_iff.1 hFi).2
      have hfl := r1.len
      generalize (rowK ks ((rw_ d s).take k) FS).1 = FK at *
      generalize (rowK ks ((rw_ d s).take k) FS).2 = RK at *
      obtain ⟨t, hat⟩ : ∃ t, ∀ h, (rw_ d s)[k]'h = t := ⟨(rw_ d s)[k]'hkr, fun _ => rfl⟩
      have hent := ho.ent s hsr t (by rw [← hat hkr]; exact List.getElem_mem hkr)
      rw [hat] at hst
      have hr' : ∀ h, d.rows[s]'h = rw_ d s := fun _ => (rw_eq hsr).symm
      have hw10 : IntKind.i64.wrap ((k : Int) + 1) = k + 1 := wrapi (by omega)
      have q1 : (RK.length + 1) * 8 ≤ 140737488355328 := by omega
      have q2 : RK.length ≤ 9223372036854775806 := by omega
      have q3 : (FK.length + 1) * 8 ≤ 140737488355328 := by omega
      have q4 : FK.length ≤ 9223372036854775806 := by omega
      have hkd : TC Tryz.prog 48 [.ro (ks.map encI), .val (.int .i64 t)] [] (.val (.int .i64 (kd ks t))) [] := tc_l8Kind ks t (by omega)
      simp [g1, g2, g4, g5, g6, g7, g8, g9, g10, G4, G5, Go, Gf, Gw, GR, GA, hk]
      refine TWcH.regionD (ρ := []) [0, 1, 2, 3, 4, 5, 6, 7, 8, 9, 10, 11] 12 mixed (by kernel_rfl) ?_
      simp [g1, g2, g4, g5, g6, g7, g8, g9, g10, G4, G5, Go, Gf, Gw, GR, GA, hk, hil2, hFa, encN, encI, hsr, hr', encR, hkr, hat]
      refine TWoH.callV hkd callable_48 (by simp [g1]) (by simp) (by simp) (by simp) ?_
      by_cases c : kd ks t < 0
      · have hst2 : stepB ks FK t = (FK, -1) := by unfold stepB; rw [if_pos c]
        rw [hst2] at hst
        simp [g1, g2, g4, g5, g6, g7, g8, g9, g10, G4, G5, Go, Gf, Gw, GR, GA, hk, c, q1, q2]
        refine gall_fresh [c4, c5, R, A, o, f, w] (by simp [G4, G5, Go, Gf, Gw, GR, GA]) fun w2 fw2 => ?_
        simp [frF] at fw2
        simp [g1, g2, g4, g5, g6, g7, g8, g9, g10, G4, G5, Go, Gf, Gw, GR, GA, f5, fR, fA, fo, ff, fw, fw2, q1, q2, del, delo, hw10]
        exact ⟨m' - 1, by omega, k + 1, by omega, rfl, by omega, by simp [frF, fo], by simp [frF, ff, fo], by simp [frF, fw2], by rw [hst], by rw [hst], by rw [hst]; simp [encI]⟩
      · have ht0 : ¬ t < 0 := fun x => c (by unfold kd; rw [if_pos x]; decide)
        have hkk : kd ks t = kn ks t.toNat := by unfold kd; rw [if_neg ht0]
        have htn : ((t.toNat : Nat) : Int) = t := by omega
        have hEK : List.map encI (List.map (kn ks) FK) = List.map (encKn ks) FK := by rw [List.map_map]; rfl
        have hfd : TC Tryz.prog 49 [.ro (FK.map (encKn ks)), .val (.int .i64 (kd ks t))] [] (.val (.int .i64 (placeI (findK ks FK (kd ks t))))) [] := by
          have := tc_l8Find (FK.map (kn ks)) (kd ks t) (by simp; omega)
          rwa [find_kn, hEK] at this
        simp [g1, g2, g4, g5, g6, g7, g8, g9, g10, G4, G5, Go, Gf, Gw, GR, GA, hk, c]
        refine TWoH.callV hfd callable_49 (by simp [g1, g2, g4, g5, g6, g7, g8, g9, g10, G4, G5, Go, Gf, Gw, GR, GA]) (by simp) (by simp) (by simp) ?_
        cases hj : findK ks FK (kd ks t) with
        | some j =>
          have hst2 : stepB ks FK t = (FK, (j : Int)) := by unfold stepB; rw [if_neg c, hj]
          rw [hst2] at hst
          have hj0 : ¬ (j : Int) < 0 := by omega
          simp [g1, g2, g4, g5, g6, g7, g8, g9, g10, G4, G5, Go, Gf, Gw, GR, GA, hk, placeI, hj0, q1, q2]
          refine gall_fresh [c4, c5, R, A, o, f, w] (by simp [G4, G5, Go, Gf, Gw, GR, GA]) fun w2 fw2 => ?_
          simp [frF] at fw2
          simp [g1, g2, g4, g5, g6, g7, g8, g9, g10, G4, G5, Go, Gf, Gw, GR, GA, f5, fR, fA, fo, ff, fw, fw2, del, delo, hw10]
          exact ⟨m' - 1, by omega, k + 1, by omega, rfl, by omega, by simp [frF, fo], by simp [frF, ff, fo], by simp [frF, fw2], by rw [hst], by rw [hst], by rw [hst]; simp [encI]⟩
        | none =>
          have hst2 : stepB ks FK t = (FK ++ [t.toNat], (FK.length : Int)) := by unfold stepB; rw [if_neg c, hj]
          rw [hst2] at hst
          simp [g1, g2, g4, g5, g6, g7, g8, g9, g10, G4, G5, Go, Gf, Gw, GR, GA, hk, placeI, q3, q4]
          refine gall_fresh [c4, c5, R, A, o, f, w] (by simp [G4, G5, Go, Gf, Gw, GR, GA]) fun o2 fo2 => ?_
          simp [frF] at fo2
          simp [g1, g2, g4, g5, g6, g7, g8, g9, g10, G4, G5, Go, Gf, Gw, GR, GA, f5, fR, fA, fo, ff, fw, fo2, del, delo, q3, q4]
          refine gall_fresh [c4, c5, R, A, o2, f, w] (by simp [g1, g2, g4, g5, g6, g7, g8, g9, g10, G4, G5, Go, Gf, Gw, GR, GA, f5, fR, fA, fo, ff, fw, fo2, del]) fun f2 ff2 => ?_
          simp [frF] at ff2
          simp [g1, g2, g4, g5, g6, g7, g8, g9, g10, G4, G5, Go, Gf, Gw, GR, GA, f5, fR, fA, fo, ff, fw, fo2, ff2, del, delo, q1, q2]
          refine gall_fresh [c4, c5, R, A, o2, f2, w] (by simp [g1, g2, g4, g5, g6, g7, g8, g9, g10, G4, G5, Go, Gf, Gw, GR, GA, f5, fR, fA, fo, ff, fw, fo2, ff2, del]) fun w2 fw2 => ?_
          simp [frF] at fw2
          simp [g1, g2, g4, g5, g6, g7, g8, g9, g10, G4, G5, Go, Gf, Gw, GR, GA, f5, fR, fA, fo, ff, fw, fo2, ff2, fw2, del, delo, hw10]
          exact ⟨m' - 1, by omega, k + 1, by omega, rfl, by omega, by simp [frF, fo2], by simp [frF, ff2, fo2], by simp [frF, fw2], by rw [hst]; simp [encKn, encI, hkk], by rw [hst]; simp [encN, encI]; omega, by rw [hst]; simp [encI]⟩
    · have hkl : k = (rw_ d s).length := by omega
      rw [show min k (rw_ d s).length = k by omega] at r1 r2 r3 r4
      rw [hkl, List.take_length] at Go Gf Gw r1 r2 r3 r4
      rw [hkl] at g10
      have hFi : ((rowK ks (rw_ d s) FS).1)[i]? = some s := by rw [r4, List.getElem?_append_left hi]; exact hsi
      have hil2 : i < (rowK ks (rw_ d s) FS).1.length := (List.getElem?_eq_some_iff.1 hFi).1
      have hFa : ∀ h, (rowK ks (rw_ d s) FS).1[i]'h = s := fun h => (List.getElem?_eq_some_iff.1 hFi).2
      have hRS : RS.length = i := b2 (by omega)
      have hta : (rowK ks (rw_ d s) FS).1.take (i + 1) = FS.take i ++ [s] := by
        rw [r4, List.take_append_of_le_length (by omega), List.take_succ_eq_append_getElem hi]
        rw [List.getElem?_eq_getElem hi] at hsi
        rw [Option.some.inj hsi]
      generalize (rowK ks (rw_ d s) FS).1 = FL at *
      generalize (rowK ks (rw_ d s) FS).2 = RL at *
      have has : s < d.acc.length := by omega
      have hpa : ∀ h, d.acc[s]'h = ac_ d s := fun _ => (ac_eq has).symm
      have q5 : (i + 1) * 24 ≤ 140737488355328 := by omega
      have q6 : i ≤ 9223372036854775806 := by omega
      have q7 : (i + 1) * 8 ≤ 140737488355328 := by omega
      have hmin : min i FS.length = i := by omega
      have hrlk : ¬ (rw_ d s).length < d.parts.length := by omega
      simp [g1, g2, g4, g5, g6, g7, g8, g9, g10, G4, G5, Go, Gf, Gw, GR, GA, hrlk]
      refine gall_fresh [c4, c5, R, A, o, f, w] (by simp [G4, G5, Go, Gf, Gw, GR, GA]) fun e fe => ?_
      simp [frF] at fe
      simp [g1, g2, g4, g5, g6, g7, g8, g9, g10, G4, G5, Go, Gf, Gw, GR, GA, f5, fR, fA, fo, ff, fw, fe, del, delo, hRS, q5, q6]
      refine gall_fresh [c4, c5, R, A, o, f, w, e] (by simp [G4, G5, Go, Gf, Gw, GR, GA, fe]) fun n fn => ?_
      simp [frF] at fn
      simp [g1, g2, g4, g5, g6, g7, g8, g9, g10, G4, G5, Go, Gf, Gw, GR, GA, f5, fR, fA, fo, ff, fw, fe, fn, del, delo]
      refine TWcH.regionD (ρ := [90]) [0, 1, 2, 3, 4, 5, 6, 7, 8, 9, 10, 11, 12, 13] 13 mixed (by kernel_rfl) ?_
      simp [g1, g2, g4, g5, g6, g7, g8, g9, g10, G4, G5, Go, Gf, Gw, GR, GA, f5, fR, fA, fo, ff, fw, fe, fn, del, delo, hil2, hFa, encN, encI, has, hpa, hmin, q7, q6]
      refine gall_fresh [c4, c5, A, o, f, w, e, n] (by simp [g1, g2, g4, g5, g6, g7, g8, g9, g10, G4, G5, Go, Gf, Gw, GR, GA, f5, fR, fA, fo, ff, fw, fe, fn, del]) fun A2 fA2 => ?_
      simp [frF] at fA2
      simp [g1, g2, g4, g5, g6, g7, g8, g9, g10, G4, G5, Go, Gf, Gw, GR, GA, f5, fR, fA, fo, ff, fw, fe, fn, fA2, del, delo, hw8]
      refine ⟨m - 1, by omega, Turn.shift (Shift.fold1x n w 25 i 0 (RS.map oR ++ [[.hd w]]) [.hd w] (.own 3 (RL.map encI)) (by simp [fn]) (by simp [g1, g2, g4, g5, g6, g7, g8, g9, g10, G4, G5, Go, Gf, Gw, GR, GA, f5, fR, fA, fo, ff, fw, fe, fn, fA2, del, delo]) (by rw [List.getElem?_append_right (by simp; omega)]; simp [hRS]) rfl (by simp [g1, g2, g4, g5, g6, g7, g8, g9, g10, G4, G5, Go, Gf, Gw, GR, GA, f5, fR, fA, fo, ff, fw, fe, fn, fA2, del, delo])) ⟨i + 1, o, f, n, A2, by omega, ?_⟩⟩
      have hset : (RS.map oR ++ [[TV.hd w]]).set i [TV.own 3 (RL.map encI)] = (RS ++ [RL]).map oR := by
        rw [List.set_append_right _ _ (by simp; omega)]
        simp [hRS, oR]
      rw [hsucc]
      simp [g1, g2, g4, g5, g6, g7, g8, g9, g10, G4, G5, Go, Gf, Gw, GR, GA, f5, fR, fA, fo, ff, fw, fe, fn, fA2, del, delo, frF, hset, hta, encDfa]
      exact ⟨by omega, rfl⟩
  · have hL : leastB d ks = ⟨d.parts, (bfsTo d ks i).2, (bfsTo d ks i).1.map (ac_ d)⟩ := by unfold leastB; rw [bfsEnd_of (i := i) (by omega) (by omega)]
    rw [hL] at hx
    subst hx
    rw [List.take_of_length_le (by omega)] at HA
    generalize (bfsTo d ks i).1 = FS at *
    generalize (bfsTo d ks i).2 = RS at *
    clear b1 b2 b3
    simp [h1, h2, h4, h5, h6, h7, h8, H4, H5, Ho, Hf, HR, HA, hi, f5, fo, ff, fR, fA, del]
    exact fun a _ => rfl
theorem tc_l8Of (d : Dfa) (hs : DSm d) (ho : DOk d) (ks : List Int) (hk : ks.length = d.rows.length) (h0 : 0 ≤ kn ks 0) (x : Dfa) (hx : x = leastB d ks) : TC Tryz.prog 24 [.agg (encDfa d), .ro (ks.map encI)] [] (.agg (encDfa x)) [] := by
  have := (tc_l8Of0 d hs ho ks hk h0 x hx).frz
  have hp : x.parts = d.parts := by rw [hx]; unfold leastB; rfl
  clear hx
  rw [← hp] at this
  simpa [encDfa] using this
end Go.Proofs.YtibeeohnjabhkaaGreat.R

open Go Go.Proofs.YtibeeohnjabhkaaGreat.T
namespace Go.Proofs.YtibeeohnjabhkaaGreat.R
set_option maxHeartbeats 8000000
set_option maxRecDepth 100000
set_option linter.unusedSimpArgs false
set_option linter.unusedVariables false
attribute [local simp] bsV bsRows chunk fillT partsT appV makeV rowsOf cellsOf placeOf frzT frz1
@[simp] theorem roRows_N (l : List Nat) : roRows (l.map encN) = l.map encN := by induction l <;> simp [*, encN, encI]
@[simp] theorem noHR_N (l : List Nat) : noHR (l.map encN) = true := by induction l <;> simp [*, encN, encI]
theorem noHR_oRf (f : List Int → List Int) (l : List (List Int)) : noHR (l.map fun r => oR (f r)) = true := by
  simp only [oR]
  induction l with
  | nil => simp
  | cons a l ih => simp [ih]
theorem tc_sSetJoinR (p q : List (Int × Int)) (hp : p.length ≤ 1152921504606846976) (hq : q.length ≤ 1152921504606846976) : TC Tryz.prog 47 [.ro (p.map encS), .ro (q.map encS)] [] (.ro ((joinS p q).map encS)) [] := by
  have := (tc_sSetJoinB p q hp hq).frz
  simpa using this
def J73a (d : Dfa) (c2 c3 : Nat) (m : Nat) (st : St) : Prop := ∃ (k cs P R : Nat), k + m = d.parts.length ∧ st.σ 1 = .rptr (encDfa d) 0 ∧ st.σ 2 = .pd c2 0 0 0 ∧ st.σ 3 = .pd c3 0 0 0 ∧ st.σ 4 = .hd cs ∧ st.σ 5 = .val (.int .i64 k) ∧ frF cs [c2, c3] ∧ frF P [c2, c3, cs] ∧ frF R [c2, c3, cs, P] ∧ st.H c2 = some (.box 27 [.val (.slice none 0 0), .val (.slice none 0 0), .val (.slice none 0 0)]) ∧ st.H c3 = some (.box 27 [.hd P, .hd R, .ro (d.acc.map encI)]) ∧ st.H cs = some (.own 3 ((mergeTo d.rows d.parts k).1.map encN)) ∧ st.H P = some (.own 46 ((mergeTo d.rows d.parts k).2.map encP)) ∧ st.H R = some (.own 25 [])
def J73b (d : Dfa) (CS : List Nat) (QS : List (List (Int × Int))) (c2 c3 cs P : Nat) (m : Nat) (st : St) : Prop := ∃ (i R : Nat), i + m = d.rows.length ∧ st.σ 1 = .rptr (encDfa d) 0 ∧ st.σ 2 = .pd c2 0 0 0 ∧ st.σ 3 = .pd c3 0 0 0 ∧ st.σ 4 = .hd cs ∧ st.σ 8 = .val (.int .i64 i) ∧ frF R [c2, c3, cs, P] ∧ st.H c2 = some (.box 27 [.val (.slice none 0 0), .val (.slice none 0 0), .val (.slice none 0 0)]) ∧ st.H c3 = some (.box 27 [.hd P, .hd R, .ro (d.acc.map encI)]) ∧ st.H cs = some (.own 3 (CS.map encN)) ∧ st.H P = some (.own 46 (QS.map encP)) ∧ st.H R = some (.own 25 ((d.rows.take i).map fun r => oR (CS.map fun c => (r[c]?).getD 0)))
theorem tc_l8Merge0 (d : Dfa) (hs : DSm d) (h40 : d.rows.length ≤ 40) (hrow : ∀ r ∈ d.rows, r.length = d.parts.length) (x : Dfa) (hx : x = mergeM d) : TC Tryz.prog 23 [.agg (encDfa d)] [] (.agg [.own 46 (x.parts.map encP), .own 25 (x.rows.map oR), .ro (d.acc.map encI)]) [] := by
  refine TC.enter Tryz.func23 rfl (by simp [Tryz.ntmps23]) rfl (tw_sound (ρ := [1]) ?_)
  rw [Tryz.ntmps23]
  have hpl := hs.parts
  simp [encDfa]
  refine gall_intro fun c2 g2 => ?_
  clear g2
  simp
  refine gall_fresh [c2] (by simp) fun c3 f3 => ?_
  simp [frF] at f3
  simp [f3]
  refine gall_fresh [c2, c3] (by simp [f3]) fun cs fc => ?_
  simp [frF] at fc
  simp [f3, fc]
  refine TWcH.turn (Turn.then (Turn.nilC c3 0 46 27 (cs := [.val (.slice none 0 0), .val (.slice none 0 0), .ro (d.acc.map encI)]) (by simp [f3, fc]) (by simp) fun P hP0 hP1 => ?_))
  have fP := frF_of hP0 [c2, c3, cs] (by simp [f3, fc])
  clear hP0 hP1
  simp [frF] at fP
  refine Turn.nilC c3 1 25 27 (cs := [.hd P, .val (.slice none 0 0), .ro (d.acc.map encI)]) (by simp [f3, fc, fP]) (by simp) fun R hR0 hR1 => ?_
  have fR := frF_of hR0 [c2, c3, cs, P] (by simp [f3, fc, fP])
  clear hR0 hR1
  simp [frF] at fR
  refine TWcH.loop [44, 53] (J73a d c2 c3) d.parts.length ⟨0, cs, P, R, by simp [f3, fc, fP, fR, frF, encDfa, mergeTo]⟩ ?_
  clear fc fP fR cs P R
  rintro m ⟨σ, H⟩ ⟨k, cs, P, R, hkm, h1, h2, h3, h4, h5, fc, fP, fR, H2, H3, Hc, HP, HR⟩
  simp only [encDfa] at h1 h2 h3 h4 h5 H2 H3 Hc HP HR
  simp [frF] at fc fP fR
  by_cases hk : k < d.parts.length
  · have hinv := merge_inv (rows := d.rows) hs.part k (by omega)
    have hnext : mergeTo d.rows d.parts (k + 1) = stepM d.rows d.parts (mergeTo d.rows d.parts k) k := rfl
    unfold stepM at hnext
    have i1 := hinv.len
    have i2 := hinv.lek
    have i3 := hinv.rng
    have i4 := hinv.sm
    clear hinv
    generalize (mergeTo d.rows d.parts k).1 = CS at *
    generalize (mergeTo d.rows d.parts k).2 = QS at *
    have hw5 : IntKind.i64.wrap ((k : Int) + 1) = k + 1 := wrapi (by omega)
    have hpt : ∀ h, d.parts[k]'h = pt d.parts k := fun _ => (pt_eq hk).symm
    have hptl : (pt d.parts k).length ≤ 1048576 := by rw [pt_eq hk]; exact hs.part _ (List.getElem_mem hk)
    simp [h1, h2, h3, h4, h5, H2, H3, Hc, HP, HR, hk]
    refine TWcH.loop [] (fun m' st => ∃ (i : Nat) (at_ : Int), (if at_ < 0 then i + m' = CS.length + 1 ∧ i ≤ CS.length ∧ at_ = -1 ∧ ∀ j (hj : j < i) (hl : j < CS.length), colE d.rows CS[j] k = false else m' = 0 ∧ at_ = placeI (CS.findIdx? fun c => colE d.rows c k)) ∧ st.σ 1 = .rptr (encDfa d) 0 ∧ st.σ 2 = .pd c2 0 0 0 ∧ st.σ 3 = .pd c3 0 0 0 ∧ st.σ 4 = .hd cs ∧ st.σ 5 = .val (.int .i64 k) ∧ st.σ 6 = .val (.int .i64 at_) ∧ st.σ 7 = .val (.int .i64 i) ∧ st.H c2 = some (.box 27 [.val (.slice none 0 0), .val (.slice none 0 0), .val (.slice none 0 0)]) ∧ st.H c3 = some (.box 27 [.hd P, .hd R, .ro (d.acc.map encI)]) ∧ st.H cs = some (.own 3 (CS.map encN)) ∧ st.H P = some (.own 46 (QS.map encP)) ∧ st.H R = some (.own 25 [])) (CS.length + 1) ⟨0, -1, by simp [h1, h2, h3, h4, h5, H2, H3, Hc, HP, HR, encDfa]⟩ ?_
    clear h1 h2 h3 h4 h5 H2 H3 Hc HP HR
    rintro m' ⟨σ, H⟩ ⟨i, at_, hat, h1, h2, h3, h4, h5, h6, h7, H2, H3, Hc, HP, HR⟩
    simp only [encDfa] at h1 h2 h3 h4 h5 h6 h7 H2 H3 Hc HP HR
    by_cases ca : at_ < 0
    case' pos =>
      rw [if_pos ca] at hat
      obtain ⟨him, hil, hae, hno⟩ := hat
      subst hae
      by_cases hi : i < CS.length
      case' pos =>
        have hck := i3 _ (List.getElem_mem hi)
        have t1 := tc_l8Column d hs CS[i] k (fun r hr => by rw [hrow r hr]; omega) (fun r hr => by rw [hrow r hr]; omega)
        have hw7 : IntKind.i64.wrap ((i : Int) + 1) = i + 1 := wrapi (by omega)
        simp [h1, h2, h3, h4, h5, h6, h7, H2, H3, Hc, HP, HR, hi]
        refine TWcH.regionD (ρ := [1]) [0, 1, 2, 3, 4, 5, 6] 6 mixed (by kernel_rfl) ?_
        simp [h1, h2, h3, h4, h5, h6, h7, H2, H3, Hc, HP, HR, hi, encN, encI]
        refine TWoH.callV t1 callable_46 (by simp [encDfa]) (by simp) (by simp) (by simp) ?_
        cases hc : colE d.rows CS[i] k
        · simp [h1, h2, h3, h4, h5, h6, h7, H2, H3, Hc, HP, HR, hi, hw7]
          have hno' : ∀ j, j < i + 1 → ∀ hl : j < CS.length, colE d.rows CS[j] k = false := fun j hj hl => by
            by_cases e : j = i
            · subst e; exact hc
            · exact hno j (by omega) hl
          exact ⟨m' - 1, by omega, i + 1, -1, by rw [if_pos (by decide)]; exact ⟨by omega, by omega, rfl, hno'⟩, rfl, rfl, by omega⟩
        · simp [h1, h2, h3, h4, h5, h6, h7, H2, H3, Hc, HP, HR, hi, hw7]
          exact ⟨0, by omega, i + 1, (i : Int), by rw [if_neg (by omega)]; exact ⟨rfl, by rw [findI_at hi hc fun j hj => hno j hj (by omega)]; rfl⟩, rfl, rfl, by omega⟩
      case' neg =>
        have hnone : (CS.findIdx? fun c => colE d.rows c k) = none := findI_none fun j hj => hno j (by omega) hj
        rw [hnone] at hnext
        simp only at hnext
        have q1 : (CS.length + 1) * 8 ≤ 140737488355328 := by omega
        have q2 : CS.length ≤ 9223372036854775806 := Nat.le_trans i2 (Nat.le_trans (Nat.le_of_lt hk) (Nat.le_trans hpl (by decide)))
        have q3 : (QS.length + 1) * 24 ≤ 140737488355328 := by omega
        have q4 : QS.length ≤ 9223372036854775806 := by rw [i1]; exact q2
        simp [h1, h2, h3, h4, h5, h6, h7, H2, H3, Hc, HP, HR, hi, q1, q2]
        refine gall_fresh [c2, c3, cs, P, R] (by simp [H2, H3, Hc, HP, HR]) fun cs2 fc2 => ?_
        simp [frF] at fc2
        simp [h1, h2, h3, h4, h5, h6, h7, H2, H3, Hc, HP, HR, f3, fc, fP, fR, fc2, del, delo]
        refine TWcH.regionD (ρ := [53]) [0, 1, 2, 3, 4, 5, 6, 7, 8, 9, 10] 10 mixed (by kernel_rfl) ?_
        simp [h1, h2, h3, h4, h5, h6, h7, H2, H3, Hc, HP, HR, f3, fc, fP, fR, fc2, del, delo, hk, hpt, encP, q3, q4]
        refine gall_fresh [c2, c3, cs2, P, R] (by simp [H2, H3, Hc, HP, HR, f3, fc, fP, fR, fc2, del]) fun P2 fP2 => ?_
        simp [frF] at fP2
        simp [h1, h2, h3, h4, h5, h6, h7, H2, H3, Hc, HP, HR, f3, fc, fP, fR, fc2, fP2, del, delo, hw5]
        exact ⟨m - 1, by omega, k + 1, cs2, P2, R, by omega, by simp [h1, h2, h3, h4, h5, h6, h7, H2, H3, Hc, HP, HR, f3, fc, fP, fR, fc2, fP2, frF, hnext, encDfa, encN, encI, encP, del]⟩
    case' neg =>
      rw [if_neg ca] at hat
      obtain ⟨rfl, hae⟩ := hat
      cases hfi : CS.findIdx? fun c => colE d.rows c k with
      | none => rw [hfi] at hae; simp [placeI] at hae; omega
      | some j =>
        rw [hfi] at hae hnext
        simp only [placeI] at hae
        subst hae
        simp only at hnext
        obtain ⟨hj, _, _⟩ := List.findIdx?_eq_some_iff_getElem.1 hfi
        have hjq : j < QS.length := by omega
        have hqj : QS[j].length ≤ 1048576 := i4 _ (List.getElem_mem hjq)
        have t2 := tc_sSetJoinR QS[j] (pt d.parts k) (by omega) (by omega)
        rw [List.getElem?_eq_getElem hjq, Option.getD_some] at hnext
        have hj0 : ¬ (j : Int) < 0 := by omega
        by_cases hi : i < CS.length
        all_goals
          simp [h1, h2, h3, h4, h5, h6, h7, H2, H3, Hc, HP, HR, hi, hj0]
          refine TWcH.regionD (ρ := []) [0, 1, 2, 3, 4, 5, 6, 7, 8, 9, 10, 11, 12, 13, 14, 15] 15 mixed (by kernel_rfl) ?_
          simp [h1, h2, h3, h4, h5, h6, h7, H2, H3, Hc, HP, HR, hjq, hk, hpt, encP]
          refine TWqH.callV t2 callable_47 (by simp) (by simp) (by simp) (by simp) ?_
          simp [h1, h2, h3, h4, h5, h6, h7, H2, H3, Hc, HP, HR, f3, fc, fP, fR, hjq, hw5]
          exact ⟨m - 1, by omega, k + 1, cs, P, R, by omega, by simp [h1, h2, h3, h4, h5, h6, h7, H2, H3, Hc, HP, HR, f3, fc, fP, fR, frF, hnext, encDfa, List.map_set, encP]⟩
  · obtain rfl : k = d.parts.length := by omega
    have hinv := merge_inv (rows := d.rows) hs.part d.parts.length (Nat.le_refl _)
    have hM : mergeM d = ⟨(mergeTo d.rows d.parts d.parts.length).2, d.rows.map fun r => (mergeTo d.rows d.parts d.parts.length).1.map fun c => (r[c]?).getD 0, d.acc⟩ := rfl
    rw [hM] at hx
    have i2 := hinv.lek
    have i3 := hinv.rng
    clear hinv hM
    generalize (mergeTo d.rows d.parts d.parts.length).1 = CS at *
    generalize (mergeTo d.rows d.parts d.parts.length).2 = QS at *
    subst hx
    simp [h1, h2, h3, h4, h5, H2, H3, Hc, HP, HR]
    refine TWcH.loopT [] (fun m st => Turn Tryz.prog 106 st (J73b d CS QS c2 c3 cs P m)) (J73b d CS QS c2 c3 cs P) d.rows.length (Turn.same ⟨0, R, by simp [h1, h2, h3, h4, h5, H2, H3, Hc, HP, HR, f3, fc, fP, fR, frF, encDfa]⟩) (fun m s h => h) ?_
    clear h1 h2 h3 h4 h5 H2 H3 Hc HP HR fR R hk hkm
    rintro m ⟨σ, H⟩ ⟨i, R, him, h1, h2, h3, h4, h8, fR, H2, H3, Hc, HP, HR⟩
    simp only [encDfa] at h1 h2 h3 h4 h8 H2 H3 Hc HP HR
    simp [frF] at fR
    by_cases hi : i < d.rows.length
    · have hw8 : IntKind.i64.wrap ((i : Int) + 1) = i + 1 := wrapi (by omega)
      have hrl := hrow _ (List.getElem_mem hi)
      simp [h1, h2, h3, h4, h8, H2, H3, Hc, HP, HR, hi]
      refine gall_fresh [c2, c3, cs, P, R] (by simp [H2, H3, Hc, HP, HR]) fun w0 fw0 => ?_
      simp [frF] at fw0
      simp [h1, h2, h3, h4, h8, H2, H3, Hc, HP, HR, f3, fc, fP, fR, fw0]
      refine TWcH.loop [97] (fun m' st => ∃ (j w : Nat), j + m' = CS.length ∧ st.σ 1 = .rptr (encDfa d) 0 ∧ st.σ 2 = .pd c2 0 0 0 ∧ st.σ 3 = .pd c3 0 0 0 ∧ st.σ 4 = .hd cs ∧ st.σ 8 = .val (.int .i64 i) ∧ st.σ 9 = .hd w ∧ st.σ 10 = .val (.int .i64 j) ∧ frF w [c2, c3, cs, P, R] ∧ st.H c2 = some (.box 27 [.val (.slice none 0 0), .val (.slice none 0 0), .val (.slice none 0 0)]) ∧ st.H c3 = some (.box 27 [.hd P, .hd R, .ro (d.acc.map encI)]) ∧ st.H cs = some (.own 3 (CS.map encN)) ∧ st.H P = some (.own 46 (QS.map encP)) ∧ st.H R = some (.own 25 ((d.rows.take i).map fun r => oR (CS.map fun c => (r[c]?).getD 0))) ∧ st.H w = some (.own 3 ((CS.take j).map fun c => encI ((d.rows[i][c]?).getD 0)))) CS.length ⟨0, w0, by simp [h1, h2, h3, h4, h8, H2, H3, Hc, HP, HR, f3, fc, fP, fR, fw0, frF, encDfa]⟩ ?_
      clear h1 h2 h3 h4 h8 H2 H3 Hc HP HR fw0 w0
      rintro m' ⟨σ, H⟩ ⟨j, w, hjm, h1, h2, h3, h4, h8, h9, h10, fw, H2, H3, Hc, HP, HR, Hw⟩
      simp only [encDfa] at h1 h2 h3 h4 h8 h9 h10 H2 H3 Hc HP HR Hw
      simp [frF] at fw
      by_cases hj : j < CS.length
      · have hcj := i3 _ (List.getElem_mem hj)
        have hcr : CS[j] < d.rows[i].length := by omega
        have hw10 : IntKind.i64.wrap ((j : Int) + 1) = j + 1 := wrapi (by omega)
        have hmin : min j CS.length = j := by omega
        have q1 : (j + 1) * 8 ≤ 140737488355328 := by omega
        have q2 : j ≤ 9223372036854775806 := Nat.le_trans (Nat.le_of_lt hj) (Nat.le_trans i2 (Nat.le_trans hpl (by decide)))
        simp [h1, h2, h3, h4, h8, h9, h10, H2, H3, Hc, HP, HR, Hw, hj]
        refine TWcH.regionD (ρ := [97]) [0, 1, 2, 3, 4, 5, 6, 7, 8, 9, 10, 11, 12, 13, 14] 15 mixed (by kernel_rfl) ?_
        simp [h1, h2, h3, h4, h8, h9, h10, H2, H3, Hc, HP, HR, Hw, hj, hi, getI hi, getI hj, encN, encR, encI, hcr, getI hcr, hmin, q1, q2]
        refine gall_fresh [c2, c3, cs, P, R, w] (by simp [H2, H3, Hc, HP, HR, Hw]) fun w2 fw2 => ?_
        simp [frF] at fw2
        simp [h1, h2, h3, h4, h8, h9, h10, H2, H3, Hc, HP, HR, Hw, f3, fc, fP, fR, fw, fw2, del, delo, hw10]
        refine ⟨m' - 1, by omega, j + 1, by omega, by simp [encDfa], by omega, by simp [frF, fw2], ?_⟩
        rw [List.take_succ_eq_append_getElem (by simpa using hj)]
        simp [encI, getI hcr]
      · have hjl : j = CS.length := by omega
        subst hjl
        rw [List.take_length] at Hw
        have hmin : min i d.rows.length = i := by omega
        have q5 : (i + 1) * 24 ≤ 140737488355328 := by omega
        have q6 : i ≤ 9223372036854775806 := Nat.le_trans (Nat.le_of_lt hi) (Nat.le_trans h40 (by decide))
        simp [h1, h2, h3, h4, h8, h9, h10, H2, H3, Hc, HP, HR, Hw]
        refine gall_fresh [c2, c3, cs, P, R, w] (by simp [H2, H3, Hc, HP, HR, Hw]) fun e fe => ?_
        simp [frF] at fe
        simp [h1, h2, h3, h4, h8, h9, h10, H2, H3, Hc, HP, HR, Hw, f3, fc, fP, fR, fw, fe, del, delo, hmin, q5, q6]
        refine gall_fresh [c2, c3, cs, P, R, w, e] (by simp [H2, H3, Hc, HP, HR, Hw, fe]) fun n fn => ?_
        simp [frF] at fn
        simp [h1, h2, h3, h4, h8, h9, h10, H2, H3, Hc, HP, HR, Hw, f3, fc, fP, fR, fw, fe, fn, del, delo, hw8]
        have hRl : ((d.rows.take i).map fun r => oR (CS.map fun c => (r[c]?).getD 0)).length = i := by simp; omega
        have hset : (((d.rows.take i).map fun r => oR (CS.map fun c => (r[c]?).getD 0)) ++ [[TV.hd w]]).set i [TV.own 3 (CS.map fun c => encI ((d.rows[i][c]?).getD 0))] = (d.rows.take (i + 1)).map fun r => oR (CS.map fun c => (r[c]?).getD 0) := by
          rw [List.set_append_right _ _ (by omega), hRl, Nat.sub_self, List.take_succ_eq_append_getElem hi, List.map_append]
          simp [oR, Function.comp_def]
        refine ⟨m - 1, by omega, Turn.shift (Shift.fold1x n w 25 i 0 (((d.rows.take i).map fun r => oR (CS.map fun c => (r[c]?).getD 0)) ++ [[.hd w]]) [.hd w] (.own 3 (CS.map fun c => encI ((d.rows[i][c]?).getD 0))) (by simp [fn]) (by simp [h1, h2, h3, h4, h8, h9, h10, H2, H3, Hc, HP, HR, Hw, f3, fc, fP, fR, fw, fe, fn, del, delo]) (by rw [List.getElem?_append_right (by omega), hRl]; simp) rfl (by simp [h1, h2, h3, h4, h8, h9, h10, H2, H3, Hc, HP, HR, Hw, f3, fc, fP, fR, fw, fe, fn, del, delo])) ⟨i + 1, n, by omega, ?_⟩⟩
        generalize ((d.rows.take i).map fun r => oR (CS.map fun c => (r[c]?).getD 0)) ++ [[TV.hd w]] = MM at hset
        simp [h1, h2, h3, h4, h8, h9, h10, H2, H3, Hc, HP, HR, Hw, f3, fc, fP, fR, fw, fe, fn, del, delo, frF, hset, encDfa]
    · obtain rfl : i = d.rows.length := by omega
      rw [List.take_length] at HR
      simp [h1, h2, h3, h4, h8, H2, H3, Hc, HP, HR, f3, fc, fP, fR, del]
      exact noHR_oRf _ d.rows
theorem tc_l8Merge (d : Dfa) (hs : DSm d) (h40 : d.rows.length ≤ 40) (hrow : ∀ r ∈ d.rows, r.length = d.parts.length) (x : Dfa) (hx : x = mergeM d) : TC Tryz.prog 23 [.agg (encDfa d)] [] (.agg (encDfa x)) [] := by
  have := (tc_l8Merge0 d hs h40 hrow x hx).frz
  have hp : x.acc = d.acc := by rw [hx]; rfl
  clear hx
  rw [← hp] at this
  simpa [encDfa] using this
end Go.Proofs.YtibeeohnjabhkaaGreat.R

open Go Go.Proofs.YtibeeohnjabhkaaGreat.T
namespace Go.Proofs.YtibeeohnjabhkaaGreat.R
set_option maxHeartbeats 8000000
set_option maxRecDepth 100000
set_option linter.unusedSimpArgs false
set_option linter.unusedVariables false
attribute [local simp] bsV bsRows chunk fillT partsT appV makeV rowsOf cellsOf placeOf frzT frz1
theorem tc_l7CopyR (d : Dfa) (hs : DSm d) : TC Tryz.prog 21 [.agg (encDfa d)] [] (.agg (encDfa d)) [] := by
  have := (tc_l7Copy d (CSm.of hs)).frz
  simpa [encDfa, oDfa] using this
theorem tc_l8KindsR (d : Dfa) (hs : DSm d) (ho : DOk d) (k0 : List Int) (hk0 : IsKinds d k0) : TC Tryz.prog 22 [.agg (encDfa d)] [] (.ro (k0.map encI)) [] := by
  have := (tc_l8Kinds d hs ho k0 hk0).frz
  simpa using this
theorem mergeM_sm {d : Dfa} (hs : DSm d) (h40 : d.rows.length ≤ 40) : DSm (mergeM d) := by
  have h := merge_inv (rows := d.rows) hs.part d.parts.length (Nat.le_refl _)
  have hp := hs.parts
  have h1 := h.len
  have h2 := h.lek
  refine ⟨?_, ?_, hs.acc, h.sm, fun r hr => ?_⟩
  · show (mergeTo d.rows d.parts d.parts.length).2.length ≤ 1048576
    omega
  · show (d.rows.map _).length ≤ 1048576
    simp; omega
  · obtain ⟨r0, _, rfl⟩ := List.mem_map.1 hr
    simp; omega
theorem leastB_sm {d : Dfa} (hs : DSm d) (ho : DOk d) {ks : List Int} (h0 : 0 ≤ kn ks 0) : DSm (leastB d ks) ∧ (leastB d ks).rows.length ≤ 40 ∧ (∀ r ∈ (leastB d ks).rows, r.length = (leastB d ks).parts.length) ∧ (leastB d ks).acc.length = (leastB d ks).rows.length := by
  have hm := ho.most
  have hp := hs.parts
  obtain ⟨L, hL1, hL2⟩ : ∃ L, L = (bfsTo d ks 40).1.length ∧ L ≤ 40 := ⟨_, rfl, by have := (bfs_inv ho h0 40).1.len; omega⟩
  obtain ⟨i, hi, hi2⟩ : ∃ i, i ≤ 40 ∧ (bfsTo d ks i).1.length = i := by
    -- the least place that the list does not pass
    have step : ∀ n, n ≤ 40 → (∃ i, i ≤ n ∧ (bfsTo d ks i).1.length = i) ∨ n < (bfsTo d ks n).1.length
      := by
        intro n
        induction n with
        | zero => intro _; right; simp [bfsTo]
        | succ n ih =>
          intro hn
          rcases ih (by omega) with ⟨i, h1, h2⟩ | h
          · exact .inl ⟨i, by omega, h2⟩
          · obtain ⟨b1, _, _⟩ := bfs_inv ho h0 n
            have hsi := List.getElem?_eq_getElem h
            have hr := b1.rng _ (List.getElem_mem h)
            obtain ⟨_, _, _, z, b4⟩ := b1.row ho hr.1 (rw_ d (bfsTo d ks n).1[n]).length (Nat.le_refl _)
            rw [List.take_length] at b4
            have : (bfsTo d ks (n + 1)).1.length = (bfsTo d ks n).1.length + z.length := by rw [bfsTo_succ hsi]; simp only; rw [b4, List.length_append]
            by_cases c : (bfsTo d ks (n + 1)).1.length = n + 1
            · exact .inl ⟨n + 1, by omega, c⟩
            · right; omega
    rcases step 40 (by omega) with h | h
    · exact h
    · have := (bfs_inv ho h0 40).1.len
      omega
  have e := bfsEnd_of (d := d) (ks := ks) (i := i) (by omega) hi
  have hB : leastB d ks = ⟨d.parts, (bfsTo d ks i).2, (bfsTo d ks i).1.map (ac_ d)⟩ := by unfold leastB; rw [e]
  obtain ⟨b1, b2, b3⟩ := bfs_inv ho h0 i
  have b2 := b2 (by omega)
  have hp := hs.parts
  rw [hB]
  generalize (bfsTo d ks i).1 = FS at *
  generalize (bfsTo d ks i).2 = RS at *
  refine ⟨⟨hs.parts, by simp only; omega, by simp; omega, hs.part, fun r hr => by rw [(b3 r hr).1]; exact hp⟩, by simp only; omega, fun r hr => (b3 r hr).1, by simp; omega⟩
theorem tc_sLeastOf (d : Dfa) (hs : DSm d) (m : Dfa) (hm : leastR d m) : TC Tryz.prog 7 [.agg (encDfa d)] [] (.agg (encDfa m)) [] := by
  refine TC.enter Tryz.func7 rfl (by simp [Tryz.ntmps7]) rfl (TWc.postT (tw_sound (ρ := [1, 18, 19, 20, 21, 22]) ?_))
  rw [Tryz.ntmps7]
  simp [encDfa]
  refine gall_intro fun c2 g2 => ?_
  clear g2
  simp
  refine TWoH.callV (tc_sDfaOk d hs) callable_8 (by simp [encDfa]) (by simp) (by simp) (by simp) ?_
  unfold leastR at hm
  by_cases ok : dfaOk d = true
  case neg =>
    rw [if_neg ok] at hm
    subst hm
    simp [ok]
    refine Turn.nrm c2 (t := .box 27 [.val (.slice none 0 0), .val (.slice none 0 0), .val (.slice none 0 0)]) (by simp) ?_
    simp [nrmO, nrm1]
  rw [if_pos ok] at hm
  obtain ⟨ks, hks, rfl⟩ := hm
  have ho := dok_of ok
  have hkl : ks.length = d.rows.length := by obtain ⟨R, L, _, _, rfl⟩ := hks; exact numb_len R L _
  have hone := ho.one
  have kz : 0 < ks.length := by omega
  have hkz : ∀ h, ks[0]'h = kn ks 0 := fun h => (kn_eq h).symm
  simp [ok]
  refine TWoH.callV (tc_l7CopyR d hs) callable_21 (by simp [encDfa]) (by simp) (by simp) (by simp) ?_
  simp [encDfa]
  refine gall_fresh [c2] (by simp) fun c3 f3 => ?_
  simp [frF] at f3
  simp [f3]
  refine TWoH.callV (tc_l8KindsR d hs ho ks hks) callable_22 (by simp [encDfa]) (by simp) (by simp) (by simp) ?_
  by_cases c : kn ks 0 < 0
  · have e : leastF d ks = ⟨[[(0, 255)]], [[-1]], [-1]⟩ := by unfold leastF; rw [if_pos c]
    rw [e]
    simp [f3, kz, hkz, encI, c]
    refine Turn.same ?_
    simp [f3, encP, encR, encI, encS, del]
  · have e : leastF d ks = mergeM (leastB d ks) := by unfold leastF; rw [if_neg c]
    rw [e]
    obtain ⟨s1, s2, s3, s4⟩ := leastB_sm hs ho (ks := ks) (by omega)
    have s5 := mergeM_sm s1 s2
    obtain ⟨x, hx⟩ : ∃ x, x = leastB d ks := ⟨_, rfl⟩
    rw [← hx] at s1 s2 s3 s5 ⊢
    obtain ⟨y, hy⟩ : ∃ y, y = mergeM x := ⟨_, rfl⟩
    rw [← hy] at s5 ⊢
    simp [f3, kz, hkz, encI, c]
    refine TWoH.callV (tc_l8Of d hs ho ks hkl (by omega) x hx) callable_24 (by simp [encDfa, encI, f3]) (by simp) (by simp) (by simp) ?_
    simp [encDfa]
    refine TWoH.callV (tc_l8Merge x s1 s2 s3 y hy) callable_23 (by simp [encDfa]) (by simp) (by simp) (by simp) ?_
    simp [encDfa]
    refine TWoH.callV (tc_l7CopyR y s5) callable_21 (by simp [encDfa]) (by simp) (by simp) (by simp) ?_
    simp [encDfa, f3]
    refine Turn.same ?_
    simp [f3, encDfa, del]
end Go.Proofs.YtibeeohnjabhkaaGreat.R

open Go Go.Proofs.YtibeeohnjabhkaaGreat.T
namespace Go.Proofs.YtibeeohnjabhkaaGreat.R
set_option maxHeartbeats 8000000
set_option maxRecDepth 100000
set_option linter.unusedSimpArgs false
set_option linter.unusedVariables false
attribute [local simp] bsV bsRows chunk fillT partsT appV makeV rowsOf cellsOf placeOf frzT frz1
theorem tc_iSetJoinR (p q : List (Int × Int)) (hp : p.length ≤ 1048576) (hq : q.length ≤ 1048576) : TC Tryz.prog 42 [.ro (p.map encS), .ro (q.map encS)] [] (.ro ((joinS p q).map encS)) [] := by
  have := (tc_iSetJoin p q hp hq).frz
  simpa using this
theorem colE_iff {rows : List (List Int)} {a b : Nat} : colE rows a b = true ↔ ∀ r ∈ rows, (r[a]?).getD 0 = (r[b]?).getD 0 := by
  unfold colE; rw [List.all_eq_true]; simp
theorem colE_both {rows : List (List Int)} {a b k : Nat} (h1 : colE rows a k = true) (h2 : colE rows b k = true) : colE rows a b = true := by
  rw [colE_iff] at *
  intro r hr
  rw [h1 r hr, h2 r hr]
theorem merge_dist {rows : List (List Int)} {ps : List (List (Int × Int))} : ∀ k, (mergeTo rows ps k).1.Pairwise fun a b => colE rows a b = false
  | 0 => by simp [mergeTo]
  | k + 1 => by
    have ih := merge_dist (rows := rows) (ps := ps) k
    show (stepM rows ps (mergeTo rows ps k) k).1.Pairwise _
    unfold stepM
    cases e : (mergeTo rows ps k).1.findIdx? (fun c => colE rows c k) with
    | some i => exact ih
    | none =>
      rw [List.findIdx?_eq_none_iff] at e
      simp only
      rw [List.pairwise_append]
      exact ⟨ih, by simp, fun a ha b hb => by simp only [List.mem_singleton] at hb; subst hb; simpa using e a ha⟩
theorem merge_ne {rows : List (List Int)} {ps : List (List (Int × Int))} : ∀ k, 1 ≤ k → (mergeTo rows ps k).1 ≠ []
  | 0, h => by omega
  | k + 1, _ => by
    show (stepM rows ps (mergeTo rows ps k) k).1 ≠ []
    unfold stepM
    cases e : (mergeTo rows ps k).1.findIdx? (fun c => colE rows c k) with
    | some i =>
      simp only
      intro h
      rw [h] at e
      simp at e
    | none => simp
/-- Where the last alike column stands: it is the first. -/
theorem last_first {rows : List (List Int)} {CS : List Nat} {k : Nat} (hd : CS.Pairwise fun a b => colE rows a b = false) {j : Nat} (hj : j < CS.length) (h : colE rows CS[j] k = true) : (CS.findIdx? fun c => colE rows c k) = some j :=
  findI_at hj h fun i hi => by
    cases e : colE rows (CS[i]'(by omega)) k
    · rfl
    · have h1 := colE_both e h
      have h2 := (List.pairwise_iff_getElem.1 hd) i j (by omega) hj hi
      rw [h1] at h2; cases h2
def cellR (CS : List Nat) (r : List Int) : List TV := if CS = [] then [.val (.slice none 0 0)] else oR (CS.map fun c => (r[c]?).getD 0)
theorem cellR_nil (r : List Int) : cellR [] r = [.val (.slice none 0 0)] := rfl
theorem cellR_own {CS : List Nat} (h : CS ≠ []) (r : List Int) : cellR CS r = [.own 3 (CS.map fun c => encI ((r[c]?).getD 0))] := by
  unfold cellR; rw [if_neg h]; simp [oR, Function.comp_def]
def J71 (d : Dfa) (c2 c3 : Nat) (m : Nat) (st : St) : Prop := ∃ (k cs P R : Nat), k + m = d.parts.length ∧ st.σ 1 = .rptr (encDfa d) 0 ∧ st.σ 2 = .pd c2 0 0 0 ∧ st.σ 3 = .pd c3 0 0 0 ∧ st.σ 4 = .hd cs ∧ st.σ 23 = .ro (d.parts.map encP) ∧ st.σ 24 = .val (.int .i64 d.parts.length) ∧ st.σ 25 = .val (.int .i64 k) ∧ frF cs [c2, c3] ∧ frF P [c2, c3, cs] ∧ frF R [c2, c3, cs, P] ∧ st.H c2 = some (.box 27 [.val (.slice none 0 0), .val (.slice none 0 0), .val (.slice none 0 0)]) ∧ st.H c3 = some (.box 27 [.hd P, .hd R, .ro (d.acc.map encI)]) ∧ st.H cs = some (.own 3 ((mergeTo d.rows d.parts k).1.map encN)) ∧ st.H P = some (.own 46 ((mergeTo d.rows d.parts k).2.map encP)) ∧ st.H R = some (.own 25 (d.rows.map (cellR (mergeTo d.rows d.parts k).1)))
def B71 (d : Dfa) (c2 c3 k cs P R : Nat) (CS : List Nat) (QS : List (List (Int × Int))) (st : St) : Prop := st.σ 1 = .rptr (encDfa d) 0 ∧ st.σ 2 = .pd c2 0 0 0 ∧ st.σ 3 = .pd c3 0 0 0 ∧ st.σ 4 = .hd cs ∧ st.σ 5 = .val (.int .i64 k) ∧ st.σ 6 = .ro ((pt d.parts k).map encS) ∧ st.σ 23 = .ro (d.parts.map encP) ∧ st.σ 24 = .val (.int .i64 d.parts.length) ∧ st.σ 25 = .val (.int .i64 k) ∧ st.H c2 = some (.box 27 [.val (.slice none 0 0), .val (.slice none 0 0), .val (.slice none 0 0)]) ∧ st.H c3 = some (.box 27 [.hd P, .hd R, .ro (d.acc.map encI)]) ∧ st.H cs = some (.own 3 (CS.map encN)) ∧ st.H P = some (.own 46 (QS.map encP)) ∧ st.H R = some (.own 25 (d.rows.map (cellR CS)))
def J71r (d : Dfa) (c2 c3 k cs P R : Nat) (CS : List Nat) (QS : List (List (Int × Int))) (m : Nat) (st : St) : Prop := ∃ r : Nat, r + m = d.rows.length ∧ st.σ 1 = .rptr (encDfa d) 0 ∧ st.σ 2 = .pd c2 0 0 0 ∧ st.σ 3 = .pd c3 0 0 0 ∧ st.σ 4 = .hd cs ∧ st.σ 5 = .val (.int .i64 k) ∧ st.σ 23 = .ro (d.parts.map encP) ∧ st.σ 24 = .val (.int .i64 d.parts.length) ∧ st.σ 25 = .val (.int .i64 k) ∧ st.σ 84 = .ro (d.rows.map encR) ∧ st.σ 85 = .val (.int .i64 d.rows.length) ∧ st.σ 86 = .val (.int .i64 r) ∧ st.H c2 = some (.box 27 [.val (.slice none 0 0), .val (.slice none 0 0), .val (.slice none 0 0)]) ∧ st.H c3 = some (.box 27 [.hd P, .hd R, .ro (d.acc.map encI)]) ∧ st.H cs = some (.own 3 ((CS ++ [k]).map encN)) ∧ st.H P = some (.own 46 ((QS ++ [pt d.parts k]).map encP)) ∧ st.H R = some (.own 25 ((d.rows.take r).map (cellR (CS ++ [k])) ++ (d.rows.drop r).map (cellR CS)))
theorem tc_merged0 (d : Dfa) (hs : DSm d) (h40 : d.rows.length ≤ 40) (hrow : ∀ r ∈ d.rows, r.length = d.parts.length) (hne : 1 ≤ d.parts.length) (x : Dfa) (hx : x = mergeM d) : TC Tryz.prog 18 [.agg (encDfa d)] [] (.agg [.own 46 (x.parts.map encP), .own 25 (x.rows.map oR), .ro (d.acc.map encI)]) [] := by
  refine TC.enter Tryz.func18 rfl (by simp [Tryz.ntmps18]) rfl (tw_sound (ρ := [1]) ?_)
  rw [Tryz.ntmps18]
  have hpl := hs.parts
  simp [encDfa]
  refine gall_intro fun c2 g2 => ?_
  clear g2
  have k1 : (24 : Int) * d.rows.length ≤ 281474976710656 := by omega
  have k2 : (d.rows.length : Int) ≤ 9223372036854775807 := by omega
  simp
  refine TWcH.midB (ρ := []) (fun st => ∃ c3 R, frF c3 [c2] ∧ frF R [c2, c3] ∧ st.σ 1 = .rptr (encDfa d) 0 ∧ st.σ 2 = .pd c2 0 0 0 ∧ st.σ 3 = .pd c3 0 0 0 ∧ st.H c2 = some (.box 27 [.val (.slice none 0 0), .val (.slice none 0 0), .val (.slice none 0 0)]) ∧ st.H c3 = some (.box 27 [.val (.slice none 0 0), .hd R, .ro (d.acc.map encI)]) ∧ st.H R = some (.own 25 (List.replicate d.rows.length [.val (.slice none 0 0)])))
    (.first 0 (.first 2 (.pick 1 (.pick 3 (.first 4 (.pick 5 (.first 6 (.pick 7 (.pick 8 .fin .fin) .fin)) (.pick 7 (.pick 5 (.first 6 (.pick 8 .fin .fin)) .fin) .fin))) (.pick 7 (.pick 3 (.first 4 (.pick 5 (.first 6 (.pick 8 .fin .fin)) .fin)) .fin) .fin)) (.pick 3 (.first 4 (.pick 1 (.pick 5 (.first 6 (.pick 7 (.pick 8 .fin .fin) .fin)) (.pick 7 (.pick 5 (.first 6 (.pick 8 .fin .fin)) .fin) .fin)) (.pick 5 (.pick 1 (.first 6 (.pick 7 (.pick 8 .fin .fin) .fin)) (.pick 7 (.pick 1 (.first 6 (.pick 8 .fin .fin)) .fin) .fin)) (.pick 7 (.pick 1 (.pick 5 (.first 6 (.pick 8 .fin .fin)) .fin) (.pick 5 (.pick 1 (.first 6 (.pick 8 .fin .fin)) .fin) .fin)) .fin)))) (.pick 7 (.pick 1 (.pick 3 (.first 4 (.pick 5 (.first 6 (.pick 8 .fin .fin)) .fin)) .fin) (.pick 3 (.first 4 (.pick 1 (.pick 5 (.first 6 (.pick 8 .fin .fin)) .fin) (.pick 5 (.pick 1 (.first 6 (.pick 8 .fin .fin)) .fin) .fin))) .fin)) .fin))))) mixed (by kernel_rfl) ?_ ?_
  case refine_1 =>
    simp [k1, k2]
    repeat' (refine And.intro ?_ ?_)
    all_goals
      refine gall_fresh [c2] (by simp) fun x1 g1 => ?_
      simp [frF] at g1
      simp [g1, k1, k2]
    repeat' (refine And.intro ?_ ?_)
    all_goals
      refine gall_fresh [c2, x1] (by simp [g1]) fun x2 g2 => ?_
      simp [frF] at g2
      simp [g1, g2, k1, k2, frF, encDfa]
    all_goals first
      | exact ⟨x1, by simp [g1, g2], x2, by simp [g1, g2], rfl, by simp [g1, g2]⟩
      | exact ⟨x2, by simp [g1, g2], x1, by simp [g1, g2], rfl, by simp [g1, g2]⟩
  case refine_2 =>
    clear k1 k2
    rintro ⟨σ, H⟩ ⟨c3, R, f3, fR, h1, h2, h3, H2, H3, HR⟩
    simp only [encDfa] at h1 h2 h3 H2 H3 HR
    simp [frF] at f3 fR
    simp [h1, h2, h3, H2, H3, HR]
    have hrep : List.replicate d.rows.length [TV.val (.slice none 0 0)] = d.rows.map (cellR []) := by
      apply List.ext_getElem <;> simp [cellR_nil]
    rw [hrep] at HR
    refine TWcH.turn (Turn.then (Turn.nil 4 3 (by simp) fun cs hc0 => ?_))
    have fc := frF_of hc0 [c2, c3, R] (by simp [H2, H3, HR])
    clear hc0
    simp [frF] at fc
    refine Turn.nilC c3 0 46 27 (cs := [.val (.slice none 0 0), .hd R, .ro (d.acc.map encI)]) (by simp [H3, fc]) (by simp) fun P hP0 hP1 => ?_
    have fP := frF_of hP0 [c2, c3, R, cs] (by simp [H2, H3, HR, fc])
    clear hP0 hP1
    simp [frF] at fP
    refine TWcH.loop [75, 80] (J71 d c2 c3) d.parts.length ⟨0, cs, P, R, by simp [h1, h2, h3, H2, H3, HR, f3, fc, fP, fR, frF, encDfa, mergeTo]⟩ ?_
    clear h1 h2 h3 H2 H3 HR fc fP fR cs P R hrep
    rintro m ⟨σ, H⟩ ⟨k, cs, P, R, hkm, h1, h2, h3, h4, h23, h24, h25, fc, fP, fR, H2, H3, Hc, HP, HR⟩
    simp only [encDfa] at h1 h2 h3 h4 h23 h24 h25 H2 H3 Hc HP HR
    simp [frF] at fc fP fR
    by_cases hk : k < d.parts.length
    · have hinv := merge_inv (rows := d.rows) hs.part k (by omega)
      have hdist := merge_dist (rows := d.rows) (ps := d.parts) k
      have hnext : mergeTo d.rows d.parts (k + 1) = stepM d.rows d.parts (mergeTo d.rows d.parts k) k := rfl
      unfold stepM at hnext
      have i1 := hinv.len
      have i2 := hinv.lek
      have i3 := hinv.rng
      have i4 := hinv.sm
      clear hinv
      generalize (mergeTo d.rows d.parts k).1 = CS at *
      generalize (mergeTo d.rows d.parts k).2 = QS at *
      have hw25 : IntKind.i64.wrap ((k : Int) + 1) = k + 1 := wrapi (by omega)
      have hpt : ∀ h, d.parts[k]'h = pt d.parts k := fun _ => (pt_eq hk).symm
      have hptl : (pt d.parts k).length ≤ 1048576 := by rw [pt_eq hk]; exact hs.part _ (List.getElem_mem hk)
      simp [h1, h2, h3, h4, h23, h24, h25, H2, H3, Hc, HP, HR, hk, hpt, encP]
      refine TWcH.loop [] (fun m' st => ∃ (i : Nat) (at_ : Int), i + m' = CS.length ∧ ((at_ = -1 ∧ ∀ j (hj : j < i) (hl : j < CS.length), colE d.rows CS[j] k = false) ∨ ∃ j, at_ = (j : Nat) ∧ j < CS.length ∧ (CS.findIdx? fun c => colE d.rows c k) = some j) ∧ st.σ 7 = .val (.int .i64 at_) ∧ st.σ 30 = .hd cs ∧ st.σ 31 = .val (.int .i64 CS.length) ∧ st.σ 32 = .val (.int .i64 i) ∧ B71 d c2 c3 k cs P R CS QS st) CS.length ⟨0, -1, by simp [B71, h1, h2, h3, h4, h23, h24, h25, H2, H3, Hc, HP, HR, encDfa, encP]⟩ ?_
      clear h1 h2 h3 h4 h23 h24 h25 H2 H3 Hc HP HR
      rintro m' ⟨σ, H⟩ ⟨i, at_, him, hat, h7, h30, h31, h32, hB⟩
      by_cases hi : i < CS.length
      · have hB' := hB
        obtain ⟨h1, h2, h3, h4, h5, h6, h23, h24, h25, H2, H3, Hc, HP, HR⟩ := hB'
        simp only [encDfa] at h1 h2 h3 h4 h5 h6 h23 h24 h25 H2 H3 Hc HP HR h7 h30 h31 h32
        have hw32 : IntKind.i64.wrap ((i : Int) + 1) = i + 1 := wrapi (by omega)
        have hck := i3 _ (List.getElem_mem hi)
        simp [h1, h2, h3, h4, h5, h6, h23, h24, h25, H2, H3, Hc, HP, HR, h7, h30, h31, h32, hi, encN, encI]
        refine TWcH.loop [] (fun m'' st => ∃ r : Nat, r + m'' = d.rows.length ∧ st.σ 7 = .val (.int .i64 at_) ∧ st.σ 8 = .val (.int .i64 i) ∧ st.σ 9 = .val (.int .i64 CS[i]) ∧ st.σ 10 = .val (.bool (colE (d.rows.take r) CS[i] k)) ∧ st.σ 30 = .hd cs ∧ st.σ 31 = .val (.int .i64 CS.length) ∧ st.σ 32 = .val (.int .i64 i) ∧ st.σ 38 = .ro (d.rows.map encR) ∧ st.σ 39 = .val (.int .i64 d.rows.length) ∧ st.σ 40 = .val (.int .i64 r) ∧ B71 d c2 c3 k cs P R CS QS st) d.rows.length ⟨0, by simp [B71, h1, h2, h3, h4, h5, h6, h23, h24, h25, H2, H3, Hc, HP, HR, h7, h30, h31, h32, encDfa, colE, encN, encI]⟩ ?_
        clear h1 h2 h3 h4 h5 h6 h23 h24 h25 H2 H3 Hc HP HR h7 h30 h31 h32 hB
        rintro m'' ⟨σ, H⟩ ⟨r, hrm, h7, h8, h9, h10, h30, h31, h32, h38, h39, h40, hB⟩
        simp only at h7 h8 h9 h10 h30 h31 h32 h38 h39 h40
        have hB' := hB
        obtain ⟨h1, h2, h3, h4, h5, h6, h23, h24, h25, H2, H3, Hc, HP, HR⟩ := hB'
        simp only [encDfa] at h1 h2 h3 h4 h5 h6 h23 h24 h25 H2 H3 Hc HP HR
        by_cases hr : r < d.rows.length
        · have hw40 : IntKind.i64.wrap ((r : Int) + 1) = r + 1 := wrapi (by omega)
          have hrl := hrow _ (List.getElem_mem hr)
          have q1 : CS[i] < d.rows[r].length := by omega
          have q2 : k < d.rows[r].length := by omega
          have hcs : colE (d.rows.take (r + 1)) CS[i] k = (colE (d.rows.take r) CS[i] k && decide (d.rows[r][CS[i]] = d.rows[r][k])) := by
            unfold colE
            rw [List.take_succ_eq_append_getElem hr, List.all_append]
            simp [getI q1, getI q2]
          simp [h1, h2, h3, h4, h5, h6, h23, h24, h25, H2, H3, Hc, HP, HR, h7, h8, h9, h10, h30, h31, h32, h38, h39, h40, hr, getI hr, encR]
          refine TWcH.regionD (ρ := []) [0, 1, 2, 3, 4, 5, 6, 7, 8, 9, 10, 11, 12] 13 mixed (by kernel_rfl) ?_
          cases hc : colE (d.rows.take r) CS[i] k
          · rw [hc] at h10 hcs
            simp [h1, h2, h3, h4, h5, h6, h23, h24, h25, H2, H3, Hc, HP, HR, h7, h8, h9, h10, h30, h31, h32, h38, h39, h40, hr, getI hr, encR, encI, hw40]
            exact ⟨m'' - 1, by omega, r + 1, by omega, by rw [hcs]; simp, by omega, by simp [B71, h1, h2, h3, h4, h5, h6, h23, h24, h25, H2, H3, Hc, HP, HR, encDfa]⟩
          · rw [hc] at h10 hcs
            simp [h1, h2, h3, h4, h5, h6, h23, h24, h25, H2, H3, Hc, HP, HR, h7, h8, h9, h10, h30, h31, h32, h38, h39, h40, hr, getI hr, encR, encI, q1, q2, hw40]
            exact ⟨m'' - 1, by omega, r + 1, by omega, by rw [hcs]; simp, by omega, by simp [B71, h1, h2, h3, h4, h5, h6, h23, h24, h25, H2, H3, Hc, HP, HR, encDfa]⟩
        · rw [List.take_of_length_le (by omega)] at h10
          have hrn : ¬ (r : Int) < d.rows.length := by omega
          cases hc : colE d.rows CS[i] k
          · rw [hc] at h10
            simp [h1, h2, h3, h4, h5, h6, h23, h24, h25, H2, H3, Hc, HP, HR, h7, h8, h9, h10, h30, h31, h32, h38, h39, h40, hr, hrn, hw32]
            refine ⟨m' - 1, by omega, i + 1, by omega, at_, ?_, rfl, by omega, by simp [B71, h1, h2, h3, h4, h5, h6, h23, h24, h25, H2, H3, Hc, HP, HR, encDfa]⟩
            rcases hat with ⟨e, hno⟩ | h
            · refine .inl ⟨e, fun j hj hl => ?_⟩
              by_cases e : j = i
              · subst e; exact hc
              · exact hno j (by omega) hl
            · obtain ⟨j, e1, e2, e3⟩ := h
              exact .inr ⟨j, e1, e2, e3⟩
          · rw [hc] at h10
            simp [h1, h2, h3, h4, h5, h6, h23, h24, h25, H2, H3, Hc, HP, HR, h7, h8, h9, h10, h30, h31, h32, h38, h39, h40, hr, hrn, hw32]
            exact ⟨m' - 1, by omega, i + 1, by omega, (i : Int), .inr ⟨i, rfl, hi, last_first hdist hi hc⟩, rfl, by omega, by simp [B71, h1, h2, h3, h4, h5, h6, h23, h24, h25, H2, H3, Hc, HP, HR, encDfa]⟩
      · have hB' := hB
        obtain ⟨h1, h2, h3, h4, h5, h6, h23, h24, h25, H2, H3, Hc, HP, HR⟩ := hB'
        simp only [encDfa] at h1 h2 h3 h4 h5 h6 h23 h24 h25 H2 H3 Hc HP HR h7 h30 h31 h32
        have hin : ¬ (i : Int) < CS.length := by omega
        rcases hat with ⟨rfl, hno⟩ | ⟨j, rfl, hj, hfi⟩
        · have hnone : (CS.findIdx? fun c => colE d.rows c k) = none := findI_none fun j hj => hno j (by omega) hj
          rw [hnone] at hnext
          simp only at hnext
          have q1 : (CS.length + 1) * 8 ≤ 140737488355328 := by omega
          have q2 : CS.length ≤ 9223372036854775806 := Nat.le_trans i2 (Nat.le_trans (Nat.le_of_lt hk) (Nat.le_trans hpl (by decide)))
          have q3 : (QS.length + 1) * 24 ≤ 140737488355328 := by omega
          have q4 : QS.length ≤ 9223372036854775806 := by rw [i1]; exact q2
          simp [h1, h2, h3, h4, h5, h6, h23, h24, h25, H2, H3, Hc, HP, HR, h7, h30, h31, h32, hi, hin, q1, q2]
          refine gall_fresh [c2, c3, cs, P, R] (by simp [H2, H3, Hc, HP, HR]) fun cs2 fc2 => ?_
          simp [frF] at fc2
          simp [h1, h2, h3, h4, h5, h6, h23, h24, h25, H2, H3, Hc, HP, HR, f3, fc, fP, fR, fc2, del, delo, q3, q4]
          refine gall_fresh [c2, c3, cs2, P, R] (by simp [H2, H3, Hc, HP, HR, f3, fc, fP, fR, fc2, del]) fun P2 fP2 => ?_
          simp [frF] at fP2
          simp [h1, h2, h3, h4, h5, h6, h23, h24, h25, H2, H3, Hc, HP, HR, f3, fc, fP, fR, fc2, fP2, del, delo]
          have hcs : CS.map encN ++ [[TV.val (.int .i64 (k : Int))]] = (CS ++ [k]).map encN := by simp [encN, encI]
          have hps : QS.map encP ++ [[TV.ro ((pt d.parts k).map encS)]] = (QS ++ [pt d.parts k]).map encP := by simp [encP]
          refine TWcH.loopT [] (fun m st => Turn Tryz.prog 109 st (J71r d c2 c3 k cs2 P2 R CS QS m)) (J71r d c2 c3 k cs2 P2 R CS QS) d.rows.length (Turn.same ⟨0, by simp [h1, h2, h3, h4, h5, h6, h23, h24, h25, H2, H3, Hc, HP, HR, f3, fc, fP, fR, fc2, fP2, del, delo, encDfa, ← hcs, ← hps, encP]⟩) (fun m s h => h) ?_
          clear h1 h2 h3 h4 h5 h6 h23 h24 h25 H2 H3 Hc HP HR h7 h30 h31 h32 hB
          rintro m' ⟨σ, H⟩ ⟨r, hrm, h1, h2, h3, h4, h5, h23, h24, h25, h84, h85, h86, H2, H3, Hc, HP, HR⟩
          simp only [encDfa] at h1 h2 h3 h4 h5 h23 h24 h25 h84 h85 h86 H2 H3 Hc HP HR
          by_cases hr : r < d.rows.length
          · have hw86 : IntKind.i64.wrap ((r : Int) + 1) = r + 1 := wrapi (by omega)
            have hrl := hrow _ (List.getElem_mem hr)
            have hkr : k < d.rows[r].length := by omega
            have hat := half_at (f := cellR (CS ++ [k])) (g := cellR CS) hr
            have hset := half_set (f := cellR (CS ++ [k])) (g := cellR CS) hr
            have hln := half_len (f := cellR (CS ++ [k])) (g := cellR CS) (Nat.le_of_lt hr)
            rw [cellR_own (by simp)] at hset
            generalize (d.rows.take r).map (cellR (CS ++ [k])) ++ (d.rows.drop r).map (cellR CS) = M at HR hat hset hln
            have hrM : r < M.length := by omega
            simp [h1, h2, h3, h4, h5, h23, h24, h25, h84, h85, h86, H2, H3, Hc, HP, HR, hr, getI hr, encR]
            by_cases hCS : CS = []
            · have hat2 : ∀ h, M[r]'h = [.val (.slice none 0 0)] := fun h => by rw [hat h, hCS]; rfl
              refine TWcH.regionD (ρ := [103]) [0, 1, 2, 3, 4, 5, 6, 7, 8, 9, 10, 11, 12, 13, 14, 15] 15 mixed (by kernel_rfl) ?_
              simp [h1, h2, h3, h4, h5, h23, h24, h25, h84, h85, h86, H2, H3, Hc, HP, HR, hr, getI hr, hrM, hat2, hkr, getI hkr, encI]
              refine gall_fresh [c2, c3, cs2, P2, R] (by simp [H2, H3, Hc, HP, HR]) fun e fe => ?_
              simp [frF] at fe
              simp [h1, h2, h3, h4, h5, h23, h24, h25, h84, h85, h86, H2, H3, Hc, HP, HR, f3, fc, fP, fR, fc2, fP2, fe, del, delo, hrM, hat2, hw86]
              have hset2 : M.set r [TV.own 3 [[TV.val (.int .i64 d.rows[r][k])]]] = (d.rows.take (r + 1)).map (cellR (CS ++ [k])) ++ (d.rows.drop (r + 1)).map (cellR CS) := by
                rw [← hset, hCS]; simp [encI, getI hkr]
              refine ⟨m' - 1, by omega, Turn.shift (Shift.fold1x R e 25 r 0 (M.set r [.hd e]) [.hd e] (.own 3 [[TV.val (.int .i64 d.rows[r][k])]]) (by simp [fe]) (by simp [fe]) (by simp [hrM]) rfl (by simp [fe])) ⟨r + 1, by omega, ?_⟩⟩
              generalize hgo : (d.rows.take (r + 1)).map (cellR (CS ++ [k])) ++ (d.rows.drop (r + 1)).map (cellR CS) = GO at hset2
              simp only [hgo]
              simp [h1, h2, h3, h4, h5, h23, h24, h25, h84, h85, h86, H2, H3, Hc, HP, HR, f3, fc, fP, fR, fc2, fP2, fe, del, hset2, encDfa]
            · have hat2 : ∀ h, M[r]'h = [.own 3 (CS.map fun c => encI ((d.rows[r][c]?).getD 0))] := fun h => by rw [hat h, cellR_own hCS]
              refine TWc.unfold1 (id := R) (E := 25) (E1 := 3) (r := r) (c1 := 0) (rows := M) (rows1 := CS.map fun c => encI ((d.rows[r][c]?).getD 0)) (row := [.own 3 (CS.map fun c => encI ((d.rows[r][c]?).getD 0))]) HR (by rw [List.getElem?_eq_getElem hrM, hat2]) rfl fun k9 H' h9 n9 a9 b9 c9 => ?_
              have u2 : ¬ k9 = c2 := fun e => by rw [e] at h9; simp [H2] at h9
              have u3 : ¬ k9 = c3 := fun e => by rw [e] at h9; simp [H3] at h9
              have uc : ¬ k9 = cs2 := fun e => by rw [e] at h9; simp [Hc] at h9
              have uP : ¬ k9 = P2 := fun e => by rw [e] at h9; simp [HP] at h9
              have u9 : ((¬ k9 = c2 ∧ ¬ c2 = k9) ∧ (¬ k9 = c3 ∧ ¬ c3 = k9)) ∧ ((¬ k9 = cs2 ∧ ¬ cs2 = k9) ∧ (¬ k9 = P2 ∧ ¬ P2 = k9)) ∧ (¬ k9 = R ∧ ¬ R = k9) := ⟨⟨⟨u2, fun e => u2 e.symm⟩, u3, fun e => u3 e.symm⟩, ⟨⟨uc, fun e => uc e.symm⟩, uP, fun e => uP e.symm⟩, fun e => n9 e.symm, n9⟩
              have K2 : H' c2 = some (.box 27 [.val (.slice none 0 0), .val (.slice none 0 0), .val (.slice none 0 0)]) := by rw [c9 c2 (by simp [fR]) (by simp [u9])]; exact H2
              have K3 : H' c3 = some (.box 27 [.hd P2, .hd R, .ro (d.acc.map encI)]) := by rw [c9 c3 (by simp [fR]) (by simp [u9])]; exact H3
              have Kc : H' cs2 = some (.own 3 ((CS ++ [k]).map encN)) := by rw [c9 cs2 (by simp [fc2]) (by simp [u9])]; exact Hc
              have KP : H' P2 = some (.own 46 ((QS ++ [pt d.parts k]).map encP)) := by rw [c9 P2 (by simp [fP2]) (by simp [u9])]; exact HP
              clear c9 h9 H2 H3 Hc HP HR u2 u3 uc uP n9
              simp only [List.set_cons_zero] at a9
              generalize hrow9 : (CS.map fun c => encI ((d.rows[r][c]?).getD 0)) = W9 at *
              have hw9 : W9.length = CS.length := by rw [← hrow9]; simp
              refine TWcH.regionD (ρ := [103]) [0, 1, 2, 3, 4, 5, 6, 7, 8, 9, 10, 11, 12, 13, 14, 15] 15 mixed (by kernel_rfl) ?_
              simp [h1, h2, h3, h4, h5, h23, h24, h25, h84, h85, h86, K2, K3, Kc, KP, a9, b9, u9, hr, getI hr, hrM, hkr, getI hkr, encI, hw9, q1, q2]
              refine gall_fresh [c2, c3, cs2, P2, R, k9] (by simp [K2, K3, Kc, KP, a9, b9]) fun e fe => ?_
              simp [frF] at fe
              simp [h1, h2, h3, h4, h5, h23, h24, h25, h84, h85, h86, K2, K3, Kc, KP, a9, b9, f3, fc, fP, fR, fc2, fP2, u9, fe, del, delo, hrM, hw86]
              have hset2 : M.set r [TV.own 3 (W9 ++ [[TV.val (.int .i64 d.rows[r][k])]])] = (d.rows.take (r + 1)).map (cellR (CS ++ [k])) ++ (d.rows.drop (r + 1)).map (cellR CS) := by
                rw [← hset, ← hrow9]; simp [encI, getI hkr]
              refine ⟨m' - 1, by omega, Turn.shift (Shift.fold1x R e 25 r 0 (M.set r [.hd e]) [.hd e] (.own 3 (W9 ++ [[TV.val (.int .i64 d.rows[r][k])]])) (by simp [fe]) (by simp [fe, u9]) (by simp [hrM]) rfl (by simp [fe, u9])) ⟨r + 1, by omega, ?_⟩⟩
              generalize hgo : (d.rows.take (r + 1)).map (cellR (CS ++ [k])) ++ (d.rows.drop (r + 1)).map (cellR CS) = GO at hset2
              simp only [hgo]
              simp [h1, h2, h3, h4, h5, h23, h24, h25, h84, h85, h86, K2, K3, Kc, KP, a9, b9, f3, fc, fP, fR, fc2, fP2, u9, fe, del, hset2, encDfa]
          · obtain rfl : r = d.rows.length := by omega
            simp only [List.take_length, List.drop_length, List.map_nil, List.append_nil] at HR
            simp [h1, h2, h3, h4, h5, h23, h24, h25, h84, h85, h86, H2, H3, Hc, HP, HR, hw25]
            exact ⟨m - 1, by omega, k + 1, cs2, P2, R, by omega, by simp [h1, h2, h3, h4, h5, h23, h24, h25, h84, h85, h86, H2, H3, Hc, HP, HR, f3, fc, fP, fR, fc2, fP2, frF, hnext, encDfa]⟩
        · rw [hfi] at hnext
          simp only at hnext
          have hjq : j < QS.length := by omega
          have hqj : QS[j].length ≤ 1048576 := i4 _ (List.getElem_mem hjq)
          have t2 := tc_iSetJoinR QS[j] (pt d.parts k) hqj hptl
          rw [List.getElem?_eq_getElem hjq, Option.getD_some] at hnext
          simp [h1, h2, h3, h4, h5, h6, h23, h24, h25, H2, H3, Hc, HP, HR, h7, h30, h31, h32, hi, hin]
          refine TWcH.regionD (ρ := []) [0, 1, 2, 3, 4, 5, 6, 7, 8, 9, 10, 11] 11 mixed (by kernel_rfl) ?_
          simp [h1, h2, h3, h4, h5, h6, h23, h24, h25, H2, H3, Hc, HP, HR, h7, hjq, encP]
          refine TWqH.callV t2 callable_42 (by simp) (by simp) (by simp) (by simp) ?_
          simp [h1, h2, h3, h4, h5, h6, h23, h24, h25, H2, H3, Hc, HP, HR, f3, fc, fP, fR, h7, hjq, hw25]
          exact ⟨m - 1, by omega, k + 1, cs, P, R, by omega, by simp [h1, h2, h3, h4, h5, h6, h23, h24, h25, H2, H3, Hc, HP, HR, f3, fc, fP, fR, frF, hnext, encDfa, List.map_set, encP]⟩
    · obtain rfl : k = d.parts.length := by omega
      have hM : mergeM d = ⟨(mergeTo d.rows d.parts d.parts.length).2, d.rows.map fun r => (mergeTo d.rows d.parts d.parts.length).1.map fun c => (r[c]?).getD 0, d.acc⟩ := rfl
      rw [hM] at hx
      have hne2 := merge_ne (rows := d.rows) (ps := d.parts) d.parts.length hne
      clear hM
      generalize (mergeTo d.rows d.parts d.parts.length).1 = CS at *
      generalize (mergeTo d.rows d.parts d.parts.length).2 = QS at *
      subst hx
      have hR2 : d.rows.map (cellR CS) = (d.rows.map fun r => CS.map fun c => (r[c]?).getD 0).map oR := by
        rw [List.map_map]
        apply List.map_congr_left
        intro r _
        simp only [cellR, if_neg hne2, Function.comp]
      rw [hR2] at HR
      simp only
      generalize (d.rows.map fun r => CS.map fun c => (r[c]?).getD 0) = RR at *
      simp [h1, h2, h3, h4, h23, h24, h25, H2, H3, Hc, HP, HR, f3, fc, fP, fR, del]
theorem tc_merged (d : Dfa) (hs : DSm d) (h40 : d.rows.length ≤ 40) (hrow : ∀ r ∈ d.rows, r.length = d.parts.length) (hne : 1 ≤ d.parts.length) (x : Dfa) (hx : x = mergeM d) : TC Tryz.prog 18 [.agg (encDfa d)] [] (.agg (encDfa x)) [] := by
  have := (tc_merged0 d hs h40 hrow hne x hx).frz
  have hp : x.acc = d.acc := by rw [hx]; rfl
  clear hx
  rw [← hp] at this
  simpa [encDfa] using this
end Go.Proofs.YtibeeohnjabhkaaGreat.R

open Go Go.Proofs.YtibeeohnjabhkaaGreat.T
open Go.MapKept (IsKey)
namespace Go.Proofs.YtibeeohnjabhkaaGreat.R
set_option maxHeartbeats 8000000
set_option maxRecDepth 100000
set_option linter.unusedSimpArgs false
set_option linter.unusedVariables false
attribute [local simp] bsV bsRows chunk fillT partsT appV makeV rowsOf cellsOf placeOf frzT frz1
theorem tc_iKindsR (d : Dfa) (hs : DSm d) (ho : DOk d) (k0 : List Int) (hk0 : IsKinds d k0) : TC Tryz.prog 16 [.agg (encDfa d)] [] (.ro (k0.map encI)) [] := by
  have := (tc_iKinds d hs ho k0 hk0).frz
  simpa using this
theorem tc_dfaCopyR (d : Dfa) (hs : DSm d) : TC Tryz.prog 17 [.agg (encDfa d)] [] (.agg (encDfa d)) [] := by
  have := (tc_dfaCopy d (CSm.of hs)).frz
  simpa [encDfa, oDfa] using this
/-- The map of the numbers of kinds. -/
def kvsF (ks : List Int) (fs : List Nat) : List (Value × Value) := (List.range fs.length).map fun j => (.int .i64 (kn ks (fs.getD j 0)), .int .i64 (j : Int))
theorem kvsF_app {ks : List Int} {fs : List Nat} {t : Nat} : kvsF ks (fs ++ [t]) = kvsF ks fs ++ [(.int .i64 (kn ks t), .int .i64 (fs.length : Int))] := by
  unfold kvsF
  rw [List.length_append, List.length_singleton, List.range_succ, List.map_append]
  congr 1
  · apply List.map_congr_left
    intro j hj
    have := List.mem_range.1 hj
    rw [List.getD_eq_getElem?_getD, List.getD_eq_getElem?_getD, List.getElem?_append_left this]
  · simp
theorem kvsF_mem {ks : List Int} {fs : List Nat} {q : Value × Value} (h : q ∈ kvsF ks fs) : ∃ j, ∃ hj : j < fs.length, q = (.int .i64 (kn ks fs[j]), .int .i64 (j : Int)) := by
  unfold kvsF at h
  obtain ⟨j, hj, rfl⟩ := List.mem_map.1 h
  have := List.mem_range.1 hj
  exact ⟨j, this, by rw [List.getD_eq_getElem?_getD, List.getElem?_eq_getElem this]; rfl⟩
theorem kvsF_of {ks : List Int} {fs : List Nat} {j : Nat} (hj : j < fs.length) : ((.int .i64 (kn ks fs[j]), .int .i64 (j : Int)) : Value × Value) ∈ kvsF ks fs := by
  unfold kvsF
  exact List.mem_map.2 ⟨j, List.mem_range.2 hj, by rw [List.getD_eq_getElem?_getD, List.getElem?_eq_getElem hj]; rfl⟩
theorem kvsF_hit {ks : List Int} {fs : List Nat} {x : Int} {j : Nat} (hn : fs.Pairwise fun a b => kn ks a ≠ kn ks b) (h : findK ks fs x = some j) : (∃ q ∈ kvsF ks fs, q.1 = .int .i64 x) ∧ ∀ q ∈ kvsF ks fs, q.1 = .int .i64 x → q.2 = .int .i64 (j : Int) := by
  obtain ⟨hj, e⟩ := findK_some h
  refine ⟨⟨_, kvsF_of hj, by rw [e]⟩, fun q hq he => ?_⟩
  obtain ⟨i, hi, rfl⟩ := kvsF_mem hq
  simp only [Value.int.injEq, true_and] at he ⊢
  have h2 := List.pairwise_iff_getElem.1 hn
  rcases Nat.lt_trichotomy i j with c | c | c
  · exact absurd (he.trans e.symm) (h2 i j hi hj c)
  · rw [c]
  · exact absurd (e.trans he.symm) (h2 j i hj hi c)
theorem kvsF_miss {ks : List Int} {fs : List Nat} {x : Int} (h : findK ks fs x = none) : ∀ q ∈ kvsF ks fs, q.1 ≠ .int .i64 x := by
  intro q hq he
  obtain ⟨j, hj, rfl⟩ := kvsF_mem hq
  simp only [Value.int.injEq, true_and] at he
  exact findK_none h _ (List.getElem_mem hj) he
theorem int3 : KLaw Tryz.prog 3 (IsKey (.int .i64)) := KLaw.plain Tryz.underlying3
theorem kvsF_key {ks : List Int} {fs : List Nat} : ∀ q ∈ kvsF ks fs, IsKey (.int .i64) q.1 := by
  intro q hq
  obtain ⟨j, hj, rfl⟩ := kvsF_mem hq
  exact rfl
end Go.Proofs.YtibeeohnjabhkaaGreat.R

open Go Go.Proofs.YtibeeohnjabhkaaGreat.T
open Go.MapKept (IsKey)
namespace Go.Proofs.YtibeeohnjabhkaaGreat.R
set_option maxHeartbeats 8000000
set_option maxRecDepth 100000
set_option linter.unusedSimpArgs false
set_option linter.unusedVariables false
attribute [local simp] bsV bsRows chunk fillT partsT appV makeV rowsOf cellsOf placeOf frzT frz1
theorem findK_new {ks : List Int} {fs : List Nat} {x : Int} {t : Nat} (h : findK ks fs x = none) (ht : kn ks t = x) : findK ks (fs ++ [t]) x = some fs.length := by
  unfold findK
  refine findI_at (by simp) (by simp [ht]) fun j hj => ?_
  rw [List.getElem_append_left hj]
  simp [findK_none h _ (List.getElem_mem hj)]
def J40 (d : Dfa) (ks : List Int) (c2 c6 mp : Nat) (m : Nat) (st : St) : Prop := ∃ (i f R A : Nat), i + m = 40 ∧ i ≤ (bfsTo d ks i).1.length ∧ st.σ 1 = .rptr (encDfa d) 0 ∧ st.σ 2 = .pd c2 0 0 0 ∧ st.σ 3 = .ro (ks.map encI) ∧ st.σ 4 = .hd mp ∧ st.σ 5 = .hd f ∧ st.σ 6 = .pd c6 0 0 0 ∧ st.σ 7 = .val (.int .i64 i) ∧ frF f [c2, c6, mp] ∧ frF R [c2, c6, mp, f] ∧ frF A [c2, c6, mp, f, R] ∧ st.H c2 = some (.box 27 [.val (.slice none 0 0), .val (.slice none 0 0), .val (.slice none 0 0)]) ∧ st.H c6 = some (.box 27 [.ro (d.parts.map encP), .hd R, .hd A]) ∧ st.H mp = some (.mp 47 (kvsF ks (bfsTo d ks i).1)) ∧ st.H f = some (.own 3 ((bfsTo d ks i).1.map encN)) ∧ st.H R = some (.own 25 ((bfsTo d ks i).2.map oR)) ∧ st.H A = some (.own 3 (((bfsTo d ks i).1.take i).map (encAc d)))
theorem tc_iLeastOf (d : Dfa) (hs : DSm d) (m : Dfa) (hm : leastR d m) : TC Tryz.prog 5 [.agg (encDfa d)] [] (.agg (encDfa m)) [] := by
  refine TC.enter Tryz.func5 rfl (by simp [Tryz.ntmps5]) rfl (TWc.postT (tw_sound (ρ := [1, 24, 25, 26, 27, 28]) ?_))
  rw [Tryz.ntmps5]
  have hpl := hs.parts
  simp [encDfa]
  refine gall_intro fun c2 g2 => ?_
  clear g2
  simp
  refine TWoH.callV (tc_iDfaOk d hs) callable_10 (by simp [encDfa]) (by simp) (by simp) (by simp) ?_
  unfold leastR at hm
  by_cases ok : dfaOk d = true
  case neg =>
    rw [if_neg ok] at hm
    subst hm
    simp [ok]
    refine Turn.nrm c2 (t := .box 27 [.val (.slice none 0 0), .val (.slice none 0 0), .val (.slice none 0 0)]) (by simp) ?_
    simp [nrmO, nrm1]
  rw [if_pos ok] at hm
  obtain ⟨ks, hks, rfl⟩ := hm
  have ho := dok_of ok
  have hkl : ks.length = d.rows.length := by obtain ⟨R, L, _, _, rfl⟩ := hks; exact numb_len R L _
  have hone := ho.one
  have hmost := ho.most
  have hacc := ho.acc
  have kz : 0 < ks.length := by omega
  have hkz : ∀ h, ks[0]'h = kn ks 0 := fun h => (kn_eq h).symm
  simp [ok]
  refine TWoH.callV (tc_iKindsR d hs ho ks hks) callable_16 (by simp [encDfa]) (by simp) (by simp) (by simp) ?_
  by_cases c : kn ks 0 < 0
  · have e : leastF d ks = ⟨[[(0, 255)]], [[-1]], [-1]⟩ := by unfold leastF; rw [if_pos c]
    rw [e]
    simp [kz, hkz, encI, c]
    refine Turn.same ?_
    simp [encP, encR, encI, encS, encDfa, del]
  · have e : leastF d ks = mergeM (leastB d ks) := by unfold leastF; rw [if_neg c]
    rw [e]
    obtain ⟨s1, s2, s3, s4⟩ := leastB_sm hs ho (ks := ks) (by omega)
    have s5 := mergeM_sm s1 s2
    have sp : (leastB d ks).parts = d.parts := by unfold leastB; rfl
    obtain ⟨x, hx⟩ : ∃ x, x = leastB d ks := ⟨_, rfl⟩
    rw [← hx] at s1 s2 s3 s5 sp ⊢
    obtain ⟨y, hy⟩ : ∃ y, y = mergeM x := ⟨_, rfl⟩
    rw [← hy] at s5 ⊢
    simp [kz, hkz, encI, c]
    refine TWoH.makeMap fun mp hmp => ?_
    have fm := frF_of hmp [c2] (by simp)
    clear hmp
    simp [frF] at fm
    simp [fm, kz, hkz, encI]
    refine TWoH.insert mp [] (.int .i64 (kn ks 0)) (.int .i64 0) int3 Tryz.underlying47 (by simp) (by simp [fm]) (by simp) rfl (by simp) (by simp) (by simp) ?_
    simp [fm]
    refine gall_fresh [c2, mp] (by simp [fm]) fun f ff => ?_
    simp [frF] at ff
    simp [fm, ff]
    refine gall_fresh [c2, mp, f] (by simp [fm, ff]) fun c6 f6 => ?_
    simp [frF] at f6
    simp [fm, ff, f6]
    refine TWcH.turn (Turn.then (Turn.nilC c6 1 25 27 (cs := [.ro (d.parts.map encP), .val (.slice none 0 0), .val (.slice none 0 0)]) (by simp [fm, ff, f6]) (by simp) fun R hR0 hR1 => ?_))
    have fR := frF_of hR0 [c2, c6, mp, f] (by simp [fm, ff, f6])
    clear hR0 hR1
    simp [frF] at fR
    refine Turn.nilC c6 2 3 27 (cs := [.ro (d.parts.map encP), .hd R, .val (.slice none 0 0)]) (by simp [fm, ff, f6, fR]) (by simp) fun A hA0 hA1 => ?_
    have fA := frF_of hA0 [c2, c6, mp, f, R] (by simp [fm, ff, f6, fR])
    clear hA0 hA1
    simp [frF] at fA
    refine TWcH.loopT [] (fun m st => Turn Tryz.prog 132 st (J40 d ks c2 c6 mp m)) (J40 d ks c2 c6 mp) 40 (Turn.same ⟨0, f, R, A, by simp [fm, ff, f6, fR, fA, frF, encDfa, bfsTo, encN, encI, kvsF]⟩) (fun m s h => h) ?_
    clear ff fR fA R A
    rintro m ⟨σ, H⟩ ⟨i, f, R, A, him, hil, h1, h2, h3, h4, h5, h6, h7, ff, fR, fA, H2, H6, Hm, Hf, HR, HA⟩
    simp only [encDfa] at h1 h2 h3 h4 h5 h6 h7 H2 H6 Hm Hf HR HA
    simp [frF] at ff fR fA
    obtain ⟨b1, b2, b3⟩ := bfs_inv ho (ks := ks) (by omega) i
    have hbl := b1.len
    by_cases hi : i < (bfsTo d ks i).1.length
    · obtain ⟨s, hsi⟩ : ∃ s, (bfsTo d ks i).1[i]? = some s := ⟨_, List.getElem?_eq_getElem hi⟩
      have hsr := (b1.rng s (List.mem_of_getElem? hsi)).1
      have hsucc := bfsTo_succ hsi
      generalize hFS : (bfsTo d ks i).1 = FS at *
      generalize hRS : (bfsTo d ks i).2 = RS at *
      have hrl := ho.row s hsr
      have hw7 : IntKind.i64.wrap ((i : Int) + 1) = i + 1 := wrapi (by omega)
      have k1 : 8 * (d.parts.length : Int) ≤ 281474976710656 := by omega
      have k2 : (d.parts.length : Int) ≤ 9223372036854775807 := by omega
      simp [h1, h2, h3, h4, h5, h6, h7, H2, H6, Hm, Hf, HR, HA, hi, k1, k2]
      clear k1 k2
      refine gall_fresh [c2, c6, mp, f, R, A] (by simp [H2, H6, Hm, Hf, HR, HA]) fun w fw => ?_
      simp [frF] at fw
      simp [h1, h2, h3, h4, h5, h6, h7, H2, H6, Hm, Hf, HR, HA, fm, f6, ff, fR, fA, fw]
      refine TWcH.loop [98] (fun m' st => ∃ (k f : Nat), k + m' = d.parts.length ∧ st.σ 1 = .rptr (encDfa d) 0 ∧ st.σ 2 = .pd c2 0 0 0 ∧ st.σ 3 = .ro (ks.map encI) ∧ st.σ 4 = .hd mp ∧ st.σ 5 = .hd f ∧ st.σ 6 = .pd c6 0 0 0 ∧ st.σ 7 = .val (.int .i64 i) ∧ st.σ 8 = .hd w ∧ st.σ 51 = .val (.int .i64 d.parts.length) ∧ st.σ 52 = .val (.int .i64 k) ∧ frF f [c2, c6, mp, R, A, w] ∧ st.H c2 = some (.box 27 [.val (.slice none 0 0), .val (.slice none 0 0), .val (.slice none 0 0)]) ∧ st.H c6 = some (.box 27 [.ro (d.parts.map encP), .hd R, .hd A]) ∧ st.H mp = some (.mp 47 (kvsF ks (rowK ks ((rw_ d s).take k) FS).1)) ∧ st.H f = some (.own 3 ((rowK ks ((rw_ d s).take k) FS).1.map encN)) ∧ st.H w = some (.own 3 (((rowK ks ((rw_ d s).take k) FS).2 ++ List.replicate (d.parts.length - k) 0).map encI)) ∧ st.H R = some (.own 25 (RS.map oR)) ∧ st.H A = some (.own 3 ((FS.take i).map (encAc d))))
        d.parts.length ⟨0, f, by simp [h1, h2, h3, h4, h5, h6, h7, H2, H6, Hm, Hf, HR, HA, fm, f6, ff, fR, fA, fw, frF, encDfa, rowK, encI]⟩ ?_
      clear h1 h2 h3 h4 h5 h6 h7 H2 H6 Hm Hf HR HA ff
      rintro m' ⟨σ, H⟩ ⟨k, f, hkm, g1, g2, g3, g4, g5, g6, g7, g8, g51, g52, ff, G2, G6, Gm, Gf, Gw, GR, GA⟩
      simp only [encDfa] at g1 g2 g3 g4 g5 g6 g7 g8 g51 g52 G2 G6 Gm Gf Gw GR GA
      simp [frF] at ff
      obtain ⟨r1, r2, r3, z, r4⟩ := b1.row ho hsr (min k (rw_ d s).length) (by omega)
      by_cases hk : k < d.parts.length
      · have hkr : k < (rw_ d s).length := by omega
        rw [show min k (rw_ d s).length = k by omega] at r1 r2 r3 r4
        have hst := rowK_succ (ks := ks) (fs := FS) hkr
        have hFi : ((rowK ks ((rw_ d s).take k) FS).1)[i]? = some s := by rw [r4, List.getElem?_append_left hi]; exact hsi
        have hil2 : i < (rowK ks ((rw_ d s).take k) FS).1.length := (List.getElem?_eq_some_iff.1 hFi).1
        have hFa : ∀ h, (rowK ks ((rw_ d s).take k) FS).1[i]'h = s := fun h => (List.getElem?_eq_some_iff.1 hFi).2
        have hfl := r1.len
        have r1n := (b1.row ho hsr (k + 1) (by omega)).1
        generalize (rowK ks ((rw_ d s).take k) FS).1 = FK at *
        generalize (rowK ks ((rw_ d s).take k) FS).2 = RK at *
        obtain ⟨t, hat⟩ : ∃ t, ∀ h, (rw_ d s)[k]'h = t := ⟨(rw_ d s)[k]'hkr, fun _ => rfl⟩
        have hent := ho.ent s hsr t (by rw [← hat hkr]; exact List.getElem_mem hkr)
        rw [hat] at hst
        have hr' : ∀ h, d.rows[s]'h = rw_ d s := fun _ => (rw_eq hsr).symm
        have hw52 : IntKind.i64.wrap ((k : Int) + 1) = k + 1 := wrapi (by omega)
        have q3 : (FK.length + 1) * 8 ≤ 140737488355328 := by omega
        have q4 : FK.length ≤ 9223372036854775806 := by omega
        obtain ⟨Z, hZ⟩ : ∃ Z : List Int, Z = List.replicate (d.parts.length - (k + 1)) 0 := ⟨_, rfl⟩
        have hrep : List.replicate (d.parts.length - k) (0 : Int) = 0 :: Z := by rw [hZ, show d.parts.length - k = (d.parts.length - (k + 1)) + 1 by omega, List.replicate_succ]
        obtain ⟨W, hW⟩ : ∃ W : Int → List (List TV), W = fun v => (RK ++ v :: Z).map encI := ⟨_, rfl⟩
        have hWs : ∀ v x, (W v).set k [TV.val (.int .i64 x)] = W x := fun v x => by
          rw [hW]; simp only; rw [show [TV.val (.int .i64 x)] = encI x from rfl, ← List.map_set, List.set_append_right _ _ (by omega), r2, Nat.sub_self, List.set_cons_zero]
        have hWl : ∀ v, (W v).length = d.parts.length := fun v => by rw [hW, hZ]; simp; omega
        have hWe : ∀ x, W x = (RK ++ [x] ++ Z).map encI := fun x => by rw [hW]; simp
        rw [hrep] at Gw
        have hG0 : (RK ++ 0 :: Z).map encI = W 0 := by rw [hW]
        rw [hG0] at Gw
        have hkW : ∀ v, k < (W v).length := fun v => by rw [hWl]; exact hk
        have hWk : ∀ v h, (W v)[k]'h = [TV.val (.int .i64 v)] := fun v h => by
          have : (W v)[k]? = some (encI v) := by rw [hW]; simp only; rw [List.getElem?_map, List.getElem?_append_right (by omega), r2, Nat.sub_self]; rfl
          rw [List.getElem?_eq_getElem h] at this; exact Option.some.inj this
        simp [g1, g2, g3, g4, g5, g6, g7, g8, g51, g52, G2, G6, Gm, Gf, Gw, GR, GA, hk, hWl, hWs, hWk]
        refine TWcH.regionD (ρ := []) [0, 1, 2, 3, 4, 5, 6, 7, 8, 9, 10, 11] 12 mixed (by kernel_rfl) ?_
        by_cases ct : t < 0
        · have hkd : kd ks t < 0 := by unfold kd; rw [if_pos ct]; decide
          have hst2 : stepB ks FK t = (FK, -1) := by unfold stepB; rw [if_pos hkd]
          rw [hst2] at hst
          simp [g1, g2, g3, g4, g5, g6, g7, g8, g51, g52, G2, G6, Gm, Gf, Gw, GR, GA, fm, f6, fR, fA, ff, fw, hk, hil2, hFa, encN, encI, hsr, hr', encR, hkr, hat, ct, hw52]
          exact ⟨m' - 1, by omega, k + 1, by omega, rfl, by omega, by simp [frF, ff], by rw [hst], by rw [hst], by rw [hst, hWe, hZ]; simp [encI]⟩
        · have ht0 : 0 ≤ t := by omega
          have htl : t.toNat < ks.length := by omega
          have htl2 : t < ks.length := by omega
          have hkk : kd ks t = kn ks t.toNat := by unfold kd; rw [if_neg ct]
          have hka : ∀ h, ks[t.toNat]'h = kn ks t.toNat := fun h => (kn_eq h).symm
          by_cases ck : kn ks t.toNat < 0
          · have hst2 : stepB ks FK t = (FK, -1) := by unfold stepB; rw [hkk, if_pos ck]
            rw [hst2] at hst
            simp [g1, g2, g3, g4, g5, g6, g7, g8, g51, g52, G2, G6, Gm, Gf, Gw, GR, GA, fm, f6, fR, fA, ff, fw, hk, hil2, hFa, encN, encI, hsr, hr', encR, hkr, hat, ct, ht0, htl, htl2, hka, ck, hw52]
            exact ⟨m' - 1, by omega, k + 1, by omega, rfl, by omega, by simp [frF, ff], by rw [hst], by rw [hst], by rw [hst, hWe, hZ]; simp [encI]⟩
          · simp [g1, g2, g3, g4, g5, g6, g7, g8, g51, g52, G2, G6, Gm, Gf, Gw, GR, GA, fm, f6, fR, fA, ff, fw, hk, hil2, hFa, encN, encI, hsr, hr', encR, hkr, hat, ct, ht0, htl, htl2, hka, ck, hw52]
            cases hj : findK ks FK (kn ks t.toNat) with
            | some j =>
              have hst2 : stepB ks FK t = (FK, (j : Int)) := by unfold stepB; rw [hkk, if_neg ck, hj]
              rw [hst2] at hst
              obtain ⟨q1, q2⟩ := kvsF_hit r1.nod hj
              refine TWoH.lookupHit mp (kvsF ks FK) (.int .i64 (kn ks t.toNat)) (.int .i64 j) int3 Tryz.underlying47 (by simp [g1, g2, g3, g4, g5, g6, g7, g8, g51, g52, G2, G6, Gm, Gf, Gw, GR, GA, fm, f6, fR, fA, ff, fw, hk, hWl, hWs, hWk]) (by simp [g1, g2, g3, g4, g5, g6, g7, g8, g51, g52, G2, G6, Gm, Gf, Gw, GR, GA, fm, f6, fR, fA, ff, fw, hk, hWl, hWs, hWk]) (by simp) rfl kvsF_key q1 q2 ?_
              simp [g1, g2, g3, g4, g5, g6, g7, g8, g51, g52, G2, G6, Gm, Gf, Gw, GR, GA, fm, f6, fR, fA, ff, fw, hk, hWl, hWs, hWk, encI, hka, htl, htl2, ht0]
              refine TWoH.lookupHit mp (kvsF ks FK) (.int .i64 (kn ks t.toNat)) (.int .i64 j) int3 Tryz.underlying47 (by simp [g1, g2, g3, g4, g5, g6, g7, g8, g51, g52, G2, G6, Gm, Gf, Gw, GR, GA, fm, f6, fR, fA, ff, fw, hk, hWl, hWs, hWk]) (by simp [g1, g2, g3, g4, g5, g6, g7, g8, g51, g52, G2, G6, Gm, Gf, Gw, GR, GA, fm, f6, fR, fA, ff, fw, hk, hWl, hWs, hWk]) (by simp) rfl kvsF_key q1 q2 ?_
              simp [g1, g2, g3, g4, g5, g6, g7, g8, g51, g52, G2, G6, Gm, Gf, Gw, GR, GA, fm, f6, fR, fA, ff, fw, hk, hWl, hWs, hWk, hw52]
              exact ⟨m' - 1, by omega, k + 1, by omega, rfl, by omega, by simp [frF, ff], by rw [hst], by rw [hst], by rw [hst, hWe, hZ]; simp [encI]⟩
            | none =>
              have hst2 : stepB ks FK t = (FK ++ [t.toNat], (FK.length : Int)) := by unfold stepB; rw [hkk, if_neg ck, hj]
              rw [hst2] at hst
              rw [hst] at r1n
              obtain ⟨q1, q2⟩ := kvsF_hit r1n.nod (findK_new hj rfl)
              refine TWoH.lookupMiss mp (kvsF ks FK) (.int .i64 (kn ks t.toNat)) (.int .i64 0) int3 Tryz.underlying47 (by kernel_rfl) (by simp [g1, g2, g3, g4, g5, g6, g7, g8, g51, g52, G2, G6, Gm, Gf, Gw, GR, GA, fm, f6, fR, fA, ff, fw, hk, hWl, hWs, hWk]) (by simp [g1, g2, g3, g4, g5, g6, g7, g8, g51, g52, G2, G6, Gm, Gf, Gw, GR, GA, fm, f6, fR, fA, ff, fw, hk, hWl, hWs, hWk]) (by simp) rfl kvsF_key (kvsF_miss hj) ?_
              simp [g1, g2, g3, g4, g5, g6, g7, g8, g51, g52, G2, G6, Gm, Gf, Gw, GR, GA, fm, f6, fR, fA, ff, fw, hk, hWl, hWs, hWk, encI, hka, htl, htl2, ht0]
              refine TWoH.mapUpdate mp (kvsF ks FK) (.int .i64 (kn ks t.toNat)) (.int .i64 FK.length) int3 Tryz.underlying47 (by simp [g1, g2, g3, g4, g5, g6, g7, g8, g51, g52, G2, G6, Gm, Gf, Gw, GR, GA, fm, f6, fR, fA, ff, fw, hk, hWl, hWs, hWk]) (by simp [g1, g2, g3, g4, g5, g6, g7, g8, g51, g52, G2, G6, Gm, Gf, Gw, GR, GA, fm, f6, fR, fA, ff, fw, hk, hWl, hWs, hWk]) (by simp) rfl kvsF_key (kvsF_miss hj) (by simp) ?_
              rw [← kvsF_app]
              simp [g1, g2, g3, g4, g5, g6, g7, g8, g51, g52, G2, G6, Gm, Gf, Gw, GR, GA, fm, f6, fR, fA, ff, fw, hk, hWl, hWs, hWk, encI, hka, htl, htl2, ht0, q3, q4]
              refine gall_fresh [c2, c6, mp, f, R, A, w] (by simp [g1, g2, g3, g4, g5, g6, g7, g8, g51, g52, G2, G6, Gm, Gf, Gw, GR, GA, fm, f6, fR, fA, ff, fw, hk, hWl, hWs, hWk]) fun f2 ff2 => ?_
              simp [frF] at ff2
              simp [g1, g2, g3, g4, g5, g6, g7, g8, g51, g52, G2, G6, Gm, Gf, Gw, GR, GA, fm, f6, fR, fA, ff, fw, hk, hWl, hWs, hWk, ff2, encI, hka, htl, htl2, ht0, del, delo]
              refine TWoH.lookupHit mp (kvsF ks (FK ++ [t.toNat])) (.int .i64 (kn ks t.toNat)) (.int .i64 FK.length) int3 Tryz.underlying47 (by simp [g1, g2, g3, g4, g5, g6, g7, g8, g51, g52, G2, G6, Gm, Gf, Gw, GR, GA, fm, f6, fR, fA, ff, fw, hk, hWl, hWs, hWk, ff2]) (by simp [g1, g2, g3, g4, g5, g6, g7, g8, g51, g52, G2, G6, Gm, Gf, Gw, GR, GA, fm, f6, fR, fA, ff, fw, hk, hWl, hWs, hWk, ff2]) (by simp) rfl kvsF_key q1 q2 ?_
              simp [g1, g2, g3, g4, g5, g6, g7, g8, g51, g52, G2, G6, Gm, Gf, Gw, GR, GA, fm, f6, fR, fA, ff, fw, hk, hWl, hWs, hWk, ff2, hw52]
              exact ⟨m' - 1, by omega, k + 1, by omega, rfl, by omega, by simp [frF, ff2], by rw [hst], by rw [hst]; simp [encN, encI]; omega, by rw [hst, hWe, hZ]; simp [encI]⟩
      · have hkl : k = (rw_ d s).length := by omega
        rw [show min k (rw_ d s).length = k by omega] at r1 r2 r3 r4
        rw [hkl, List.take_length] at Gm Gf Gw r1 r2 r3 r4
        rw [show d.parts.length - (rw_ d s).length = 0 by omega] at Gw
        rw [hkl] at g52
        have hFi : ((rowK ks (rw_ d s) FS).1)[i]? = some s := by rw [r4, List.getElem?_append_left hi]; exact hsi
        have hil2 : i < (rowK ks (rw_ d s) FS).1.length := (List.getElem?_eq_some_iff.1 hFi).1
        have hFa : ∀ h, (rowK ks (rw_ d s) FS).1[i]'h = s := fun h => (List.getElem?_eq_some_iff.1 hFi).2
        have hRS : RS.length = i := b2 (by omega)
        have hta : (rowK ks (rw_ d s) FS).1.take (i + 1) = FS.take i ++ [s] := by
          rw [r4, List.take_append_of_le_length (by omega), List.take_succ_eq_append_getElem hi]
          rw [List.getElem?_eq_getElem hi] at hsi
          rw [Option.some.inj hsi]
        generalize (rowK ks (rw_ d s) FS).1 = FL at *
        generalize (rowK ks (rw_ d s) FS).2 = RL at *
        have has : s < d.acc.length := by omega
        have hpa : ∀ h, d.acc[s]'h = ac_ d s := fun _ => (ac_eq has).symm
        have q5 : (i + 1) * 24 ≤ 140737488355328 := by omega
        have q6 : i ≤ 9223372036854775806 := by omega
        have q7 : (i + 1) * 8 ≤ 140737488355328 := by omega
        have hmin : min i FS.length = i := by omega
        have hrlk : ¬ (rw_ d s).length < d.parts.length := by omega
        simp only [List.replicate_zero, List.append_nil] at Gw
        simp [g1, g2, g3, g4, g5, g6, g7, g8, g51, g52, G2, G6, Gm, Gf, Gw, GR, GA, hrlk]
        refine gall_fresh [c2, c6, mp, f, R, A, w] (by simp [G2, G6, Gm, Gf, Gw, GR, GA]) fun e fe => ?_
        simp [frF] at fe
        simp [g1, g2, g3, g4, g5, g6, g7, g8, g51, g52, G2, G6, Gm, Gf, Gw, GR, GA, fm, f6, ff, fR, fA, fw, fe, del, delo, hRS, q5, q6]
        refine gall_fresh [c2, c6, mp, f, R, A, w, e] (by simp [G2, G6, Gm, Gf, Gw, GR, GA, fe]) fun n fn => ?_
        simp [frF] at fn
        simp [g1, g2, g3, g4, g5, g6, g7, g8, g51, g52, G2, G6, Gm, Gf, Gw, GR, GA, fm, f6, ff, fR, fA, fw, fe, fn, del, delo]
        refine TWcH.regionD (ρ := [126]) [0, 1, 2, 3, 4, 5, 6, 7, 8, 9, 10, 11, 12, 13] 13 mixed (by kernel_rfl) ?_
        simp [g1, g2, g3, g4, g5, g6, g7, g8, g51, g52, G2, G6, Gm, Gf, Gw, GR, GA, fm, f6, ff, fR, fA, fw, fe, fn, del, delo, hil2, hFa, encN, encI, has, hpa, hmin, q7, q6]
        refine gall_fresh [c2, c6, mp, f, A, w, e, n] (by simp [g1, g2, g3, g4, g5, g6, g7, g8, g51, g52, G2, G6, Gm, Gf, Gw, GR, GA, fm, f6, ff, fR, fA, fw, fe, fn, del]) fun A2 fA2 => ?_
        simp [frF] at fA2
        simp [g1, g2, g3, g4, g5, g6, g7, g8, g51, g52, G2, G6, Gm, Gf, Gw, GR, GA, fm, f6, ff, fR, fA, fw, fe, fn, fA2, del, delo, hw7]
        refine ⟨m - 1, by omega, Turn.shift (Shift.fold1x n w 25 i 0 (RS.map oR ++ [[.hd w]]) [.hd w] (.own 3 (RL.map encI)) (by simp [fn]) (by simp [g1, g2, g3, g4, g5, g6, g7, g8, g51, g52, G2, G6, Gm, Gf, Gw, GR, GA, fm, f6, ff, fR, fA, fw, fe, fn, fA2, del, delo]) (by rw [List.getElem?_append_right (by simp; omega)]; simp [hRS]) rfl (by simp [g1, g2, g3, g4, g5, g6, g7, g8, g51, g52, G2, G6, Gm, Gf, Gw, GR, GA, fm, f6, ff, fR, fA, fw, fe, fn, fA2, del, delo])) ⟨i + 1, f, n, A2, by omega, ?_⟩⟩
        have hset : (RS.map oR ++ [[TV.hd w]]).set i [TV.own 3 (RL.map encI)] = (RS ++ [RL]).map oR := by
          rw [List.set_append_right _ _ (by simp; omega)]
          simp [hRS, oR]
        rw [hsucc]
        simp [g1, g2, g3, g4, g5, g6, g7, g8, g51, g52, G2, G6, Gm, Gf, Gw, GR, GA, fm, f6, ff, fR, fA, fw, fe, fn, fA2, del, delo, frF, hset, hta, encDfa]
        exact ⟨by omega, rfl⟩
    · have hL : leastB d ks = ⟨d.parts, (bfsTo d ks i).2, (bfsTo d ks i).1.map (ac_ d)⟩ := by unfold leastB; rw [bfsEnd_of (i := i) (by omega) (by omega)]
      have hne : 1 ≤ d.parts.length := by
        obtain ⟨k, hk, _⟩ := parts_at ho.parts (b := 0) (by omega)
        omega
      rw [hL] at hx
      rw [List.take_of_length_le (by omega)] at HA
      have hAE : List.map (encAc d) (bfsTo d ks i).1 = x.acc.map encI := by rw [hx, List.map_map]; rfl
      have hRE : (bfsTo d ks i).2.map oR = x.rows.map oR := by rw [hx]
      rw [hAE] at HA
      rw [hRE] at HR
      rw [← sp] at H6 hne
      generalize (bfsTo d ks i).1 = FS at *
      clear b1 b2 b3 hx hAE hRE hL
      simp [h1, h2, h3, h4, h5, h6, h7, H2, H6, Hm, Hf, HR, HA, hi, fm, f6, ff, fR, fA, del]
      refine TWoH.turn (Turn.then (Turn.freezeA R (t := .own 25 (x.rows.map oR)) (by simp [h1, h2, h3, h4, h5, h6, h7, H2, H6, Hm, Hf, HR, HA, hi, fm, f6, ff, fR, fA]) (Turn.freezeA A (t := .own 3 (x.acc.map encI)) (by simp [h1, h2, h3, h4, h5, h6, h7, H2, H6, Hm, Hf, HR, HA, hi, fm, f6, ff, fR, fA, frzO, del, encI]) ?_)))
      simp [h1, h2, h3, h4, h5, h6, h7, H2, H6, Hm, Hf, HR, HA, hi, fm, f6, ff, fR, fA, frzO, del]
      refine TWoH.callV (tc_merged x s1 s2 s3 hne y hy) callable_18 (by simp [encDfa, fA]) (by simp [fA]) (by simp [fA]) (by simp [fA]) ?_
      simp [h1, h2, h3, h4, h5, h6, h7, H2, H6, Hm, Hf, HR, HA, hi, fm, f6, ff, fR, fA, frzO, del]
      refine TWoH.callV (tc_dfaCopyR y s5) callable_17 (by simp [encDfa]) (by simp) (by simp) (by simp) ?_
      simp [h1, h2, h3, h4, h5, h6, h7, H2, H6, Hm, Hf, HR, HA, hi, fm, f6, ff, fR, fA, frzO, del, encDfa]
      refine Turn.same ?_
      simp [h1, h2, h3, h4, h5, h6, h7, H2, H6, Hm, Hf, HR, HA, hi, fm, f6, ff, fR, fA, del, closeL]
end Go.Proofs.YtibeeohnjabhkaaGreat.R
