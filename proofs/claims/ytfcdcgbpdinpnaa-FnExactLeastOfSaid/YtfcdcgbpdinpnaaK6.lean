/- Part 6: what the walk of the code stands on. Conditions: none but those that each theorem states. -/
import Derived.Test.YtfcdcgbpdinpnaaK5
open Go Go.Proofs.Ytfcdcgbpdinpnaa.T
namespace Go.Proofs.Ytfcdcgbpdinpnaa.R
set_option maxHeartbeats 8000000
set_option maxRecDepth 100000
set_option linter.unusedSimpArgs false
set_option linter.unusedVariables false
attribute [local simp] bsV bsRows chunk fillT partsT appV makeV rowsOf cellsOf placeOf frzT frz1
theorem tc_iSetJoinR (p q : List (Int × Int)) (hp : p.length ≤ 1048576) (hq : q.length ≤ 1048576) : TC Try.prog 51 [.ro (p.map encS), .ro (q.map encS)] [] (.ro ((joinS p q).map encS)) [] := by
  have := (tc_iSetJoin p q hp hq).frz
  simpa using this
theorem colE_iff {rows : List (List Int)} {a b : Nat} : colE rows a b = true ↔ ∀ r ∈ rows, (r[a]?).getD 0 = (r[b]?).getD 0 := by
  unfold colE; rw [List.all_eq_true]; simp
theorem colE_both {rows : List (List Int)} {a b k : Nat} (h1 : colE rows a k = true) (h2 : colE rows b k = true) : colE rows a b = true := by
  rw [colE_iff] at *
  intro r hr
  rw [h1 r hr, h2 r hr]
theorem merge_dist {rows : List (List Int)} {ps : List (List (Int × Int))} : ∀ k, (mergeTo rows ps k).1.Pairwise fun a b => colE rows a b = false
  | 0 => by simp [mergeTo]
  | k + 1 => by
    have ih := merge_dist (rows := rows) (ps := ps) k
    show (stepM rows ps (mergeTo rows ps k) k).1.Pairwise _
    unfold stepM
    cases e : (mergeTo rows ps k).1.findIdx? (fun c => colE rows c k) with
    | some i => exact ih
    | none =>
      rw [List.findIdx?_eq_none_iff] at e
      simp only
      rw [List.pairwise_append]
      exact ⟨ih, by simp, fun a ha b hb => by simp only [List.mem_singleton] at hb; subst hb; simpa using e a ha⟩
theorem merge_ne {rows : List (List Int)} {ps : List (List (Int × Int))} : ∀ k, 1 ≤ k → (mergeTo rows ps k).1 ≠ []
  | 0, h => by omega
  | k + 1, _ => by
    show (stepM rows ps (mergeTo rows ps k) k).1 ≠ []
    unfold stepM
    cases e : (mergeTo rows ps k).1.findIdx? (fun c => colE rows c k) with
    | some i =>
      simp only
      intro h
      rw [h] at e
      simp at e
    | none => simp
/-- Where the last alike column stands: it is the first. -/
theorem last_first {rows : List (List Int)} {CS : List Nat} {k : Nat} (hd : CS.Pairwise fun a b => colE rows a b = false) {j : Nat} (hj : j < CS.length) (h : colE rows CS[j] k = true) : (CS.findIdx? fun c => colE rows c k) = some j :=
  findI_at hj h fun i hi => by
    cases e : colE rows (CS[i]'(by omega)) k
    · rfl
    · have h1 := colE_both e h
      have h2 := (List.pairwise_iff_getElem.1 hd) i j (by omega) hj hi
      rw [h1] at h2; cases h2
def cellR (CS : List Nat) (r : List Int) : List TV := if CS = [] then [.val (.slice none 0 0)] else oR (CS.map fun c => (r[c]?).getD 0)
theorem cellR_nil (r : List Int) : cellR [] r = [.val (.slice none 0 0)] := rfl
theorem cellR_own {CS : List Nat} (h : CS ≠ []) (r : List Int) : cellR CS r = [.own 3 (CS.map fun c => encI ((r[c]?).getD 0))] := by
  unfold cellR; rw [if_neg h]; simp [oR, Function.comp_def]
def J71 (d : Dfa) (c2 c3 : Nat) (m : Nat) (st : St) : Prop := ∃ (k cs P R : Nat), k + m = d.parts.length ∧ st.σ 1 = .rptr (encDfa d) 0 ∧ st.σ 2 = .pd c2 0 0 0 ∧ st.σ 3 = .pd c3 0 0 0 ∧ st.σ 4 = .hd cs ∧ st.σ 23 = .ro (d.parts.map encP) ∧ st.σ 24 = .val (.int .i64 d.parts.length) ∧ st.σ 25 = .val (.int .i64 k) ∧ frF cs [c2, c3] ∧ frF P [c2, c3, cs] ∧ frF R [c2, c3, cs, P] ∧ st.H c2 = some (.box 30 [.val (.slice none 0 0), .val (.slice none 0 0), .val (.slice none 0 0)]) ∧ st.H c3 = some (.box 30 [.hd P, .hd R, .ro (d.acc.map encI)]) ∧ st.H cs = some (.own 3 ((mergeTo d.rows d.parts k).1.map encN)) ∧ st.H P = some (.own 43 ((mergeTo d.rows d.parts k).2.map encP)) ∧ st.H R = some (.own 24 (d.rows.map (cellR (mergeTo d.rows d.parts k).1)))
def B71 (d : Dfa) (c2 c3 k cs P R : Nat) (CS : List Nat) (QS : List (List (Int × Int))) (st : St) : Prop := st.σ 1 = .rptr (encDfa d) 0 ∧ st.σ 2 = .pd c2 0 0 0 ∧ st.σ 3 = .pd c3 0 0 0 ∧ st.σ 4 = .hd cs ∧ st.σ 5 = .val (.int .i64 k) ∧ st.σ 6 = .ro ((pt d.parts k).map encS) ∧ st.σ 23 = .ro (d.parts.map encP) ∧ st.σ 24 = .val (.int .i64 d.parts.length) ∧ st.σ 25 = .val (.int .i64 k) ∧ st.H c2 = some (.box 30 [.val (.slice none 0 0), .val (.slice none 0 0), .val (.slice none 0 0)]) ∧ st.H c3 = some (.box 30 [.hd P, .hd R, .ro (d.acc.map encI)]) ∧ st.H cs = some (.own 3 (CS.map encN)) ∧ st.H P = some (.own 43 (QS.map encP)) ∧ st.H R = some (.own 24 (d.rows.map (cellR CS)))
def J71r (d : Dfa) (c2 c3 k cs P R : Nat) (CS : List Nat) (QS : List (List (Int × Int))) (m : Nat) (st : St) : Prop := ∃ r : Nat, r + m = d.rows.length ∧ st.σ 1 = .rptr (encDfa d) 0 ∧ st.σ 2 = .pd c2 0 0 0 ∧ st.σ 3 = .pd c3 0 0 0 ∧ st.σ 4 = .hd cs ∧ st.σ 5 = .val (.int .i64 k) ∧ st.σ 23 = .ro (d.parts.map encP) ∧ st.σ 24 = .val (.int .i64 d.parts.length) ∧ st.σ 25 = .val (.int .i64 k) ∧ st.σ 84 = .ro (d.rows.map encR) ∧ st.σ 85 = .val (.int .i64 d.rows.length) ∧ st.σ 86 = .val (.int .i64 r) ∧ st.H c2 = some (.box 30 [.val (.slice none 0 0), .val (.slice none 0 0), .val (.slice none 0 0)]) ∧ st.H c3 = some (.box 30 [.hd P, .hd R, .ro (d.acc.map encI)]) ∧ st.H cs = some (.own 3 ((CS ++ [k]).map encN)) ∧ st.H P = some (.own 43 ((QS ++ [pt d.parts k]).map encP)) ∧ st.H R = some (.own 24 ((d.rows.take r).map (cellR (CS ++ [k])) ++ (d.rows.drop r).map (cellR CS)))
theorem tc_merged0 (d : Dfa) (hs : DSm d) (h40 : d.rows.length ≤ 40) (hrow : ∀ r ∈ d.rows, r.length = d.parts.length) (hne : 1 ≤ d.parts.length) (x : Dfa) (hx : x = mergeM d) : TC Try.prog 25 [.agg (encDfa d)] [] (.agg [.own 43 (x.parts.map encP), .own 24 (x.rows.map oR), .ro (d.acc.map encI)]) [] := by
  refine TC.enter Try.func25 rfl (by simp [Try.ntmps25]) rfl (tw_sound (ρ := [1]) ?_)
  rw [Try.ntmps25]
  have hpl := hs.parts
  simp [encDfa]
  refine gall_intro fun c2 g2 => ?_
  clear g2
  have k1 : (24 : Int) * d.rows.length ≤ 281474976710656 := by omega
  have k2 : (d.rows.length : Int) ≤ 9223372036854775807 := by omega
  simp
  refine TWcH.midB (ρ := []) (fun st => ∃ c3 R, frF c3 [c2] ∧ frF R [c2, c3] ∧ st.σ 1 = .rptr (encDfa d) 0 ∧ st.σ 2 = .pd c2 0 0 0 ∧ st.σ 3 = .pd c3 0 0 0 ∧ st.H c2 = some (.box 30 [.val (.slice none 0 0), .val (.slice none 0 0), .val (.slice none 0 0)]) ∧ st.H c3 = some (.box 30 [.val (.slice none 0 0), .hd R, .ro (d.acc.map encI)]) ∧ st.H R = some (.own 24 (List.replicate d.rows.length [.val (.slice none 0 0)])))
    (.first 0 (.first 2 (.pick 1 (.pick 3 (.first 4 (.pick 5 (.first 6 (.pick 7 (.pick 8 .fin .fin) .fin)) (.pick 7 (.pick 5 (.first 6 (.pick 8 .fin .fin)) .fin) .fin))) (.pick 7 (.pick 3 (.first 4 (.pick 5 (.first 6 (.pick 8 .fin .fin)) .fin)) .fin) .fin)) (.pick 3 (.first 4 (.pick 1 (.pick 5 (.first 6 (.pick 7 (.pick 8 .fin .fin) .fin)) (.pick 7 (.pick 5 (.first 6 (.pick 8 .fin .fin)) .fin) .fin)) (.pick 5 (.pick 1 (.first 6 (.pick 7 (.pick 8 .fin .fin) .fin)) (.pick 7 (.pick 1 (.first 6 (.pick 8 .fin .fin)) .fin) .fin)) (.pick 7 (.pick 1 (.pick 5 (.first 6 (.pick 8 .fin .fin)) .fin) (.pick 5 (.pick 1 (.first 6 (.pick 8 .fin .fin)) .fin) .fin)) .fin)))) (.pick 7 (.pick 1 (.pick 3 (.first 4 (.pick 5 (.first 6 (.pick 8 .fin .fin)) .fin)) .fin) (.pick 3 (.first 4 (.pick 1 (.pick 5 (.first 6 (.pick 8 .fin .fin)) .fin) (.pick 5 (.pick 1 (.first 6 (.pick 8 .fin .fin)) .fin) .fin))) .fin)) .fin))))) mixed (by kernel_rfl) ?_ ?_
  case refine_1 =>
    simp [k1, k2]
    repeat' (refine And.intro ?_ ?_)
    all_goals
      refine gall_fresh [c2] (by simp) fun x1 g1 => ?_
      simp [frF] at g1
      simp [g1, k1, k2]
    repeat' (refine And.intro ?_ ?_)
    all_goals
      refine gall_fresh [c2, x1] (by simp [g1]) fun x2 g2 => ?_
      simp [frF] at g2
      simp [g1, g2, k1, k2, frF, encDfa]
    all_goals first
      | exact ⟨x1, by simp [g1, g2], x2, by simp [g1, g2], rfl, by simp [g1, g2]⟩
      | exact ⟨x2, by simp [g1, g2], x1, by simp [g1, g2], rfl, by simp [g1, g2]⟩
  case refine_2 =>
    clear k1 k2
    rintro ⟨σ, H⟩ ⟨c3, R, f3, fR, h1, h2, h3, H2, H3, HR⟩
    simp only [encDfa] at h1 h2 h3 H2 H3 HR
    simp [frF] at f3 fR
    simp [h1, h2, h3, H2, H3, HR]
    have hrep : List.replicate d.rows.length [TV.val (.slice none 0 0)] = d.rows.map (cellR []) := by
      apply List.ext_getElem <;> simp [cellR_nil]
    rw [hrep] at HR
    refine TWcH.turn (Turn.then (Turn.nil 4 3 (by simp) fun cs hc0 => ?_))
    have fc := frF_of hc0 [c2, c3, R] (by simp [H2, H3, HR])
    clear hc0
    simp [frF] at fc
    refine Turn.nilC c3 0 43 30 (cs := [.val (.slice none 0 0), .hd R, .ro (d.acc.map encI)]) (by simp [H3, fc]) (by simp) fun P hP0 hP1 => ?_
    have fP := frF_of hP0 [c2, c3, R, cs] (by simp [H2, H3, HR, fc])
    clear hP0 hP1
    simp [frF] at fP
    refine TWcH.loop [75, 80] (J71 d c2 c3) d.parts.length ⟨0, cs, P, R, by simp [h1, h2, h3, H2, H3, HR, f3, fc, fP, fR, frF, encDfa, mergeTo]⟩ ?_
    clear h1 h2 h3 H2 H3 HR fc fP fR cs P R hrep
    rintro m ⟨σ, H⟩ ⟨k, cs, P, R, hkm, h1, h2, h3, h4, h23, h24, h25, fc, fP, fR, H2, H3, Hc, HP, HR⟩
    simp only [encDfa] at h1 h2 h3 h4 h23 h24 h25 H2 H3 Hc HP HR
    simp [frF] at fc fP fR
    by_cases hk : k < d.parts.length
    · have hinv := merge_inv (rows := d.rows) hs.part k (by omega)
      have hdist := merge_dist (rows := d.rows) (ps := d.parts) k
      have hnext : mergeTo d.rows d.parts (k + 1) = stepM d.rows d.parts (mergeTo d.rows d.parts k) k := rfl
      unfold stepM at hnext
      have i1 := hinv.len
      have i2 := hinv.lek
      have i3 := hinv.rng
      have i4 := hinv.sm
      clear hinv
      generalize (mergeTo d.rows d.parts k).1 = CS at *
      generalize (mergeTo d.rows d.parts k).2 = QS at *
      have hw25 : IntKind.i64.wrap ((k : Int) + 1) = k + 1 := wrapi (by omega)
      have hpt : ∀ h, d.parts[k]'h = pt d.parts k := fun _ => (pt_eq hk).symm
      have hptl : (pt d.parts k).length ≤ 1048576 := by rw [pt_eq hk]; exact hs.part _ (List.getElem_mem hk)
      simp [h1, h2, h3, h4, h23, h24, h25, H2, H3, Hc, HP, HR, hk, hpt, encP]
      refine TWcH.loop [] (fun m' st => ∃ (i : Nat) (at_ : Int), i + m' = CS.length ∧ ((at_ = -1 ∧ ∀ j (hj : j < i) (hl : j < CS.length), colE d.rows CS[j] k = false) ∨ ∃ j, at_ = (j : Nat) ∧ j < CS.length ∧ (CS.findIdx? fun c => colE d.rows c k) = some j) ∧ st.σ 7 = .val (.int .i64 at_) ∧ st.σ 30 = .hd cs ∧ st.σ 31 = .val (.int .i64 CS.length) ∧ st.σ 32 = .val (.int .i64 i) ∧ B71 d c2 c3 k cs P R CS QS st) CS.length ⟨0, -1, by simp [B71, h1, h2, h3, h4, h23, h24, h25, H2, H3, Hc, HP, HR, encDfa, encP]⟩ ?_
      clear h1 h2 h3 h4 h23 h24 h25 H2 H3 Hc HP HR
      rintro m' ⟨σ, H⟩ ⟨i, at_, him, hat, h7, h30, h31, h32, hB⟩
      by_cases hi : i < CS.length
      · have hB' := hB
        obtain ⟨h1, h2, h3, h4, h5, h6, h23, h24, h25, H2, H3, Hc, HP, HR⟩ := hB'
        simp only [encDfa] at h1 h2 h3 h4 h5 h6 h23 h24 h25 H2 H3 Hc HP HR h7 h30 h31 h32
        have hw32 : IntKind.i64.wrap ((i : Int) + 1) = i + 1 := wrapi (by omega)
        have hck := i3 _ (List.getElem_mem hi)
        simp [h1, h2, h3, h4, h5, h6, h23, h24, h25, H2, H3, Hc, HP, HR, h7, h30, h31, h32, hi, encN, encI]
        refine TWcH.loop [] (fun m'' st => ∃ r : Nat, r + m'' = d.rows.length ∧ st.σ 7 = .val (.int .i64 at_) ∧ st.σ 8 = .val (.int .i64 i) ∧ st.σ 9 = .val (.int .i64 CS[i]) ∧ st.σ 10 = .val (.bool (colE (d.rows.take r) CS[i] k)) ∧ st.σ 30 = .hd cs ∧ st.σ 31 = .val (.int .i64 CS.length) ∧ st.σ 32 = .val (.int .i64 i) ∧ st.σ 38 = .ro (d.rows.map encR) ∧ st.σ 39 = .val (.int .i64 d.rows.length) ∧ st.σ 40 = .val (.int .i64 r) ∧ B71 d c2 c3 k cs P R CS QS st) d.rows.length ⟨0, by simp [B71, h1, h2, h3, h4, h5, h6, h23, h24, h25, H2, H3, Hc, HP, HR, h7, h30, h31, h32, encDfa, colE, encN, encI]⟩ ?_
        clear h1 h2 h3 h4 h5 h6 h23 h24 h25 H2 H3 Hc HP HR h7 h30 h31 h32 hB
        rintro m'' ⟨σ, H⟩ ⟨r, hrm, h7, h8, h9, h10, h30, h31, h32, h38, h39, h40, hB⟩
        simp only at h7 h8 h9 h10 h30 h31 h32 h38 h39 h40
        have hB' := hB
        obtain ⟨h1, h2, h3, h4, h5, h6, h23, h24, h25, H2, H3, Hc, HP, HR⟩ := hB'
        simp only [encDfa] at h1 h2 h3 h4 h5 h6 h23 h24 h25 H2 H3 Hc HP HR
        by_cases hr : r < d.rows.length
        · have hw40 : IntKind.i64.wrap ((r : Int) + 1) = r + 1 := wrapi (by omega)
          have hrl := hrow _ (List.getElem_mem hr)
          have q1 : CS[i] < d.rows[r].length := by omega
          have q2 : k < d.rows[r].length := by omega
          have hcs : colE (d.rows.take (r + 1)) CS[i] k = (colE (d.rows.take r) CS[i] k && decide (d.rows[r][CS[i]] = d.rows[r][k])) := by
            unfold colE
            rw [List.take_succ_eq_append_getElem hr, List.all_append]
            simp [getI q1, getI q2]
          simp [h1, h2, h3, h4, h5, h6, h23, h24, h25, H2, H3, Hc, HP, HR, h7, h8, h9, h10, h30, h31, h32, h38, h39, h40, hr, getI hr, encR]
          refine TWcH.regionD (ρ := []) [0, 1, 2, 3, 4, 5, 6, 7, 8, 9, 10, 11, 12] 13 mixed (by kernel_rfl) ?_
          cases hc : colE (d.rows.take r) CS[i] k
          · rw [hc] at h10 hcs
            simp [h1, h2, h3, h4, h5, h6, h23, h24, h25, H2, H3, Hc, HP, HR, h7, h8, h9, h10, h30, h31, h32, h38, h39, h40, hr, getI hr, encR, encI, hw40]
            exact ⟨m'' - 1, by omega, r + 1, by omega, by rw [hcs]; simp, by omega, by simp [B71, h1, h2, h3, h4, h5, h6, h23, h24, h25, H2, H3, Hc, HP, HR, encDfa]⟩
          · rw [hc] at h10 hcs
            simp [h1, h2, h3, h4, h5, h6, h23, h24, h25, H2, H3, Hc, HP, HR, h7, h8, h9, h10, h30, h31, h32, h38, h39, h40, hr, getI hr, encR, encI, q1, q2, hw40]
            exact ⟨m'' - 1, by omega, r + 1, by omega, by rw [hcs]; simp, by omega, by simp [B71, h1, h2, h3, h4, h5, h6, h23, h24, h25, H2, H3, Hc, HP, HR, encDfa]⟩
        · rw [List.take_of_length_le (by omega)] at h10
          have hrn : ¬ (r : Int) < d.rows.length := by omega
          cases hc : colE d.rows CS[i] k
          · rw [hc] at h10
            simp [h1, h2, h3, h4, h5, h6, h23, h24, h25, H2, H3, Hc, HP, HR, h7, h8, h9, h10, h30, h31, h32, h38, h39, h40, hr, hrn, hw32]
            refine ⟨m' - 1, by omega, i + 1, by omega, at_, ?_, rfl, by omega, by simp [B71, h1, h2, h3, h4, h5, h6, h23, h24, h25, H2, H3, Hc, HP, HR, encDfa]⟩
            rcases hat with ⟨e, hno⟩ | h
            · refine .inl ⟨e, fun j hj hl => ?_⟩
              by_cases e : j = i
              · subst e; exact hc
              · exact hno j (by omega) hl
            · obtain ⟨j, e1, e2, e3⟩ := h
              exact .inr ⟨j, e1, e2, e3⟩
          · rw [hc] at h10
            simp [h1, h2, h3, h4, h5, h6, h23, h24, h25, H2, H3, Hc, HP, HR, h7, h8, h9, h10, h30, h31, h32, h38, h39, h40, hr, hrn, hw32]
            exact ⟨m' - 1, by omega, i + 1, by omega, (i : Int), .inr ⟨i, rfl, hi, last_first hdist hi hc⟩, rfl, by omega, by simp [B71, h1, h2, h3, h4, h5, h6, h23, h24, h25, H2, H3, Hc, HP, HR, encDfa]⟩
      · have hB' := hB
        obtain ⟨h1, h2, h3, h4, h5, h6, h23, h24, h25, H2, H3, Hc, HP, HR⟩ := hB'
        simp only [encDfa] at h1 h2 h3 h4 h5 h6 h23 h24 h25 H2 H3 Hc HP HR h7 h30 h31 h32
        have hin : ¬ (i : Int) < CS.length := by omega
        rcases hat with ⟨rfl, hno⟩ | ⟨j, rfl, hj, hfi⟩
        · have hnone : (CS.findIdx? fun c => colE d.rows c k) = none := findI_none fun j hj => hno j (by omega) hj
          rw [hnone] at hnext
          simp only at hnext
          have q1 : (CS.length + 1) * 8 ≤ 140737488355328 := by omega
          have q2 : CS.length ≤ 9223372036854775806 := Nat.le_trans i2 (Nat.le_trans (Nat.le_of_lt hk) (Nat.le_trans hpl (by decide)))
          have q3 : (QS.length + 1) * 24 ≤ 140737488355328 := by omega
          have q4 : QS.length ≤ 9223372036854775806 := by rw [i1]; exact q2
          simp [h1, h2, h3, h4, h5, h6, h23, h24, h25, H2, H3, Hc, HP, HR, h7, h30, h31, h32, hi, hin, q1, q2]
          refine gall_fresh [c2, c3, cs, P, R] (by simp [H2, H3, Hc, HP, HR]) fun cs2 fc2 => ?_
          simp [frF] at fc2
          simp [h1, h2, h3, h4, h5, h6, h23, h24, h25, H2, H3, Hc, HP, HR, f3, fc, fP, fR, fc2, del, delo, q3, q4]
          refine gall_fresh [c2, c3, cs2, P, R] (by simp [H2, H3, Hc, HP, HR, f3, fc, fP, fR, fc2, del]) fun P2 fP2 => ?_
          simp [frF] at fP2
          simp [h1, h2, h3, h4, h5, h6, h23, h24, h25, H2, H3, Hc, HP, HR, f3, fc, fP, fR, fc2, fP2, del, delo]
          have hcs : CS.map encN ++ [[TV.val (.int .i64 (k : Int))]] = (CS ++ [k]).map encN := by simp [encN, encI]
          have hps : QS.map encP ++ [[TV.ro ((pt d.parts k).map encS)]] = (QS ++ [pt d.parts k]).map encP := by simp [encP]
          refine TWcH.loopT [] (fun m st => Turn Try.prog 109 st (J71r d c2 c3 k cs2 P2 R CS QS m)) (J71r d c2 c3 k cs2 P2 R CS QS) d.rows.length (Turn.same ⟨0, by simp [h1, h2, h3, h4, h5, h6, h23, h24, h25, H2, H3, Hc, HP, HR, f3, fc, fP, fR, fc2, fP2, del, delo, encDfa, ← hcs, ← hps, encP]⟩) (fun m s h => h) ?_
          clear h1 h2 h3 h4 h5 h6 h23 h24 h25 H2 H3 Hc HP HR h7 h30 h31 h32 hB
          rintro m' ⟨σ, H⟩ ⟨r, hrm, h1, h2, h3, h4, h5, h23, h24, h25, h84, h85, h86, H2, H3, Hc, HP, HR⟩
          simp only [encDfa] at h1 h2 h3 h4 h5 h23 h24 h25 h84 h85 h86 H2 H3 Hc HP HR
          by_cases hr : r < d.rows.length
          · have hw86 : IntKind.i64.wrap ((r : Int) + 1) = r + 1 := wrapi (by omega)
            have hrl := hrow _ (List.getElem_mem hr)
            have hkr : k < d.rows[r].length := by omega
            have hat := half_at (f := cellR (CS ++ [k])) (g := cellR CS) hr
            have hset := half_set (f := cellR (CS ++ [k])) (g := cellR CS) hr
            have hln := half_len (f := cellR (CS ++ [k])) (g := cellR CS) (Nat.le_of_lt hr)
            rw [cellR_own (by simp)] at hset
            generalize (d.rows.take r).map (cellR (CS ++ [k])) ++ (d.rows.drop r).map (cellR CS) = M at HR hat hset hln
            have hrM : r < M.length := by omega
            simp [h1, h2, h3, h4, h5, h23, h24, h25, h84, h85, h86, H2, H3, Hc, HP, HR, hr, getI hr, encR]
            by_cases hCS : CS = []
            · have hat2 : ∀ h, M[r]'h = [.val (.slice none 0 0)] := fun h => by rw [hat h, hCS]; rfl
              refine TWcH.regionD (ρ := [103]) [0, 1, 2, 3, 4, 5, 6, 7, 8, 9, 10, 11, 12, 13, 14, 15] 15 mixed (by kernel_rfl) ?_
              simp [h1, h2, h3, h4, h5, h23, h24, h25, h84, h85, h86, H2, H3, Hc, HP, HR, hr, getI hr, hrM, hat2, hkr, getI hkr, encI]
              refine gall_fresh [c2, c3, cs2, P2, R] (by simp [H2, H3, Hc, HP, HR]) fun e fe => ?_
              simp [frF] at fe
              simp [h1, h2, h3, h4, h5, h23, h24, h25, h84, h85, h86, H2, H3, Hc, HP, HR, f3, fc, fP, fR, fc2, fP2, fe, del, delo, hrM, hat2, hw86]
              have hset2 : M.set r [TV.own 3 [[TV.val (.int .i64 d.rows[r][k])]]] = (d.rows.take (r + 1)).map (cellR (CS ++ [k])) ++ (d.rows.drop (r + 1)).map (cellR CS) := by
                rw [← hset, hCS]; simp [encI, getI hkr]
              refine ⟨m' - 1, by omega, Turn.shift (Shift.fold1x R e 24 r 0 (M.set r [.hd e]) [.hd e] (.own 3 [[TV.val (.int .i64 d.rows[r][k])]]) (by simp [fe]) (by simp [fe]) (by simp [hrM]) rfl (by simp [fe])) ⟨r + 1, by omega, ?_⟩⟩
              generalize hgo : (d.rows.take (r + 1)).map (cellR (CS ++ [k])) ++ (d.rows.drop (r + 1)).map (cellR CS) = GO at hset2
              simp only [hgo]
              simp [h1, h2, h3, h4, h5, h23, h24, h25, h84, h85, h86, H2, H3, Hc, HP, HR, f3, fc, fP, fR, fc2, fP2, fe, del, hset2, encDfa]
            · have hat2 : ∀ h, M[r]'h = [.own 3 (CS.map fun c => encI ((d.rows[r][c]?).getD 0))] := fun h => by rw [hat h, cellR_own hCS]
              refine TWc.unfold1 (id := R) (E := 24) (E1 := 3) (r := r) (c1 := 0) (rows := M) (rows1 := CS.map fun c => encI ((d.rows[r][c]?).getD 0)) (row := [.own 3 (CS.map fun c => encI ((d.rows[r][c]?).getD 0))]) HR (by rw [List.getElem?_eq_getElem hrM, hat2]) rfl fun k9 H' h9 n9 a9 b9 c9 => ?_
              have u2 : ¬ k9 = c2 := fun e => by rw [e] at h9; simp [H2] at h9
              have u3 : ¬ k9 = c3 := fun e => by rw [e] at h9; simp [H3] at h9
              have uc : ¬ k9 = cs2 := fun e => by rw [e] at h9; simp [Hc] at h9
              have uP : ¬ k9 = P2 := fun e => by rw [e] at h9; simp [HP] at h9
              have u9 : ((¬ k9 = c2 ∧ ¬ c2 = k9) ∧ (¬ k9 = c3 ∧ ¬ c3 = k9)) ∧ ((¬ k9 = cs2 ∧ ¬ cs2 = k9) ∧ (¬ k9 = P2 ∧ ¬ P2 = k9)) ∧ (¬ k9 = R ∧ ¬ R = k9) := ⟨⟨⟨u2, fun e => u2 e.symm⟩, u3, fun e => u3 e.symm⟩, ⟨⟨uc, fun e => uc e.symm⟩, uP, fun e => uP e.symm⟩, fun e => n9 e.symm, n9⟩
              have K2 : H' c2 = some (.box 30 [.val (.slice none 0 0), .val (.slice none 0 0), .val (.slice none 0 0)]) := by rw [c9 c2 (by simp [fR]) (by simp [u9])]; exact H2
              have K3 : H' c3 = some (.box 30 [.hd P2, .hd R, .ro (d.acc.map encI)]) := by rw [c9 c3 (by simp [fR]) (by simp [u9])]; exact H3
              have Kc : H' cs2 = some (.own 3 ((CS ++ [k]).map encN)) := by rw [c9 cs2 (by simp [fc2]) (by simp [u9])]; exact Hc
              have KP : H' P2 = some (.own 43 ((QS ++ [pt d.parts k]).map encP)) := by rw [c9 P2 (by simp [fP2]) (by simp [u9])]; exact HP
              clear c9 h9 H2 H3 Hc HP HR u2 u3 uc uP n9
              simp only [List.set_cons_zero] at a9
              generalize hrow9 : (CS.map fun c => encI ((d.rows[r][c]?).getD 0)) = W9 at *
              have hw9 : W9.length = CS.length := by rw [← hrow9]; simp
              refine TWcH.regionD (ρ := [103]) [0, 1, 2, 3, 4, 5, 6, 7, 8, 9, 10, 11, 12, 13, 14, 15] 15 mixed (by kernel_rfl) ?_
              simp [h1, h2, h3, h4, h5, h23, h24, h25, h84, h85, h86, K2, K3, Kc, KP, a9, b9, u9, hr, getI hr, hrM, hkr, getI hkr, encI, hw9, q1, q2]
              refine gall_fresh [c2, c3, cs2, P2, R, k9] (by simp [K2, K3, Kc, KP, a9, b9]) fun e fe => ?_
              simp [frF] at fe
              simp [h1, h2, h3, h4, h5, h23, h24, h25, h84, h85, h86, K2, K3, Kc, KP, a9, b9, f3, fc, fP, fR, fc2, fP2, u9, fe, del, delo, hrM, hw86]
              have hset2 : M.set r [TV.own 3 (W9 ++ [[TV.val (.int .i64 d.rows[r][k])]])] = (d.rows.take (r + 1)).map (cellR (CS ++ [k])) ++ (d.rows.drop (r + 1)).map (cellR CS) := by
                rw [← hset, ← hrow9]; simp [encI, getI hkr]
              refine ⟨m' - 1, by omega, Turn.shift (Shift.fold1x R e 24 r 0 (M.set r [.hd e]) [.hd e] (.own 3 (W9 ++ [[TV.val (.int .i64 d.rows[r][k])]])) (by simp [fe]) (by simp [fe, u9]) (by simp [hrM]) rfl (by simp [fe, u9])) ⟨r + 1, by omega, ?_⟩⟩
              generalize hgo : (d.rows.take (r + 1)).map (cellR (CS ++ [k])) ++ (d.rows.drop (r + 1)).map (cellR CS) = GO at hset2
              simp only [hgo]
              simp [h1, h2, h3, h4, h5, h23, h24, h25, h84, h85, h86, K2, K3, Kc, KP, a9, b9, f3, fc, fP, fR, fc2, fP2, u9, fe, del, hset2, encDfa]
          · obtain rfl : r = d.rows.length := by omega
            simp only [List.take_length, List.drop_length, List.map_nil, List.append_nil] at HR
            simp [h1, h2, h3, h4, h5, h23, h24, h25, h84, h85, h86, H2, H3, Hc, HP, HR, hw25]
            exact ⟨m - 1, by omega, k + 1, cs2, P2, R, by omega, by simp [h1, h2, h3, h4, h5, h23, h24, h25, h84, h85, h86, H2, H3, Hc, HP, HR, f3, fc, fP, fR, fc2, fP2, frF, hnext, encDfa]⟩
        · rw [hfi] at hnext
          simp only at hnext
          have hjq : j < QS.length := by omega
          have hqj : QS[j].length ≤ 1048576 := i4 _ (List.getElem_mem hjq)
          have t2 := tc_iSetJoinR QS[j] (pt d.parts k) hqj hptl
          rw [List.getElem?_eq_getElem hjq, Option.getD_some] at hnext
          simp [h1, h2, h3, h4, h5, h6, h23, h24, h25, H2, H3, Hc, HP, HR, h7, h30, h31, h32, hi, hin]
          refine TWcH.regionD (ρ := []) [0, 1, 2, 3, 4, 5, 6, 7, 8, 9, 10, 11] 11 mixed (by kernel_rfl) ?_
          simp [h1, h2, h3, h4, h5, h6, h23, h24, h25, H2, H3, Hc, HP, HR, h7, hjq, encP]
          refine TWqH.callV t2 callable_51 (by simp) (by simp) (by simp) (by simp) ?_
          simp [h1, h2, h3, h4, h5, h6, h23, h24, h25, H2, H3, Hc, HP, HR, f3, fc, fP, fR, h7, hjq, hw25]
          exact ⟨m - 1, by omega, k + 1, cs, P, R, by omega, by simp [h1, h2, h3, h4, h5, h6, h23, h24, h25, H2, H3, Hc, HP, HR, f3, fc, fP, fR, frF, hnext, encDfa, List.map_set, encP]⟩
    · obtain rfl : k = d.parts.length := by omega
      have hM : mergeM d = ⟨(mergeTo d.rows d.parts d.parts.length).2, d.rows.map fun r => (mergeTo d.rows d.parts d.parts.length).1.map fun c => (r[c]?).getD 0, d.acc⟩ := rfl
      rw [hM] at hx
      have hne2 := merge_ne (rows := d.rows) (ps := d.parts) d.parts.length hne
      clear hM
      generalize (mergeTo d.rows d.parts d.parts.length).1 = CS at *
      generalize (mergeTo d.rows d.parts d.parts.length).2 = QS at *
      subst hx
      have hR2 : d.rows.map (cellR CS) = (d.rows.map fun r => CS.map fun c => (r[c]?).getD 0).map oR := by
        rw [List.map_map]
        apply List.map_congr_left
        intro r _
        simp only [cellR, if_neg hne2, Function.comp]
      rw [hR2] at HR
      simp only
      generalize (d.rows.map fun r => CS.map fun c => (r[c]?).getD 0) = RR at *
      simp [h1, h2, h3, h4, h23, h24, h25, H2, H3, Hc, HP, HR, f3, fc, fP, fR, del]
theorem tc_merged (d : Dfa) (hs : DSm d) (h40 : d.rows.length ≤ 40) (hrow : ∀ r ∈ d.rows, r.length = d.parts.length) (hne : 1 ≤ d.parts.length) (x : Dfa) (hx : x = mergeM d) : TC Try.prog 25 [.agg (encDfa d)] [] (.agg (encDfa x)) [] := by
  have := (tc_merged0 d hs h40 hrow hne x hx).frz
  have hp : x.acc = d.acc := by rw [hx]; rfl
  clear hx
  rw [← hp] at this
  simpa [encDfa] using this
end Go.Proofs.Ytfcdcgbpdinpnaa.R

open Go Go.Proofs.Ytfcdcgbpdinpnaa.T
open Go.MapKept (IsKey)
namespace Go.Proofs.Ytfcdcgbpdinpnaa.R
set_option maxHeartbeats 8000000
set_option maxRecDepth 100000
set_option linter.unusedSimpArgs false
set_option linter.unusedVariables false
attribute [local simp] bsV bsRows chunk fillT partsT appV makeV rowsOf cellsOf placeOf frzT frz1
theorem tc_iKindsR (d : Dfa) (hs : DSm d) (ho : DOk d) (k0 : List Int) (hk0 : IsKinds d k0) : TC Try.prog 23 [.agg (encDfa d)] [] (.ro (k0.map encI)) [] := by
  have := (tc_iKinds d hs ho k0 hk0).frz
  simpa using this
theorem tc_dfaCopyR (d : Dfa) (hs : DSm d) : TC Try.prog 24 [.agg (encDfa d)] [] (.agg (encDfa d)) [] := by
  have := (tc_dfaCopy d (CSm.of hs)).frz
  simpa [encDfa, oDfa] using this
/-- The map of the numbers of kinds. -/
def kvsF (ks : List Int) (fs : List Nat) : List (Value × Value) := (List.range fs.length).map fun j => (.int .i64 (kn ks (fs.getD j 0)), .int .i64 (j : Int))
theorem kvsF_app {ks : List Int} {fs : List Nat} {t : Nat} : kvsF ks (fs ++ [t]) = kvsF ks fs ++ [(.int .i64 (kn ks t), .int .i64 (fs.length : Int))] := by
  unfold kvsF
  rw [List.length_append, List.length_singleton, List.range_succ, List.map_append]
  congr 1
  · apply List.map_congr_left
    intro j hj
    have := List.mem_range.1 hj
    rw [List.getD_eq_getElem?_getD, List.getD_eq_getElem?_getD, List.getElem?_append_left this]
  · simp
theorem kvsF_mem {ks : List Int} {fs : List Nat} {q : Value × Value} (h : q ∈ kvsF ks fs) : ∃ j, ∃ hj : j < fs.length, q = (.int .i64 (kn ks fs[j]), .int .i64 (j : Int)) := by
  unfold kvsF at h
  obtain ⟨j, hj, rfl⟩ := List.mem_map.1 h
  have := List.mem_range.1 hj
  exact ⟨j, this, by rw [List.getD_eq_getElem?_getD, List.getElem?_eq_getElem this]; rfl⟩
theorem kvsF_of {ks : List Int} {fs : List Nat} {j : Nat} (hj : j < fs.length) : ((.int .i64 (kn ks fs[j]), .int .i64 (j : Int)) : Value × Value) ∈ kvsF ks fs := by
  unfold kvsF
  exact List.mem_map.2 ⟨j, List.mem_range.2 hj, by rw [List.getD_eq_getElem?_getD, List.getElem?_eq_getElem hj]; rfl⟩
theorem kvsF_hit {ks : List Int} {fs : List Nat} {x : Int} {j : Nat} (hn : fs.Pairwise fun a b => kn ks a ≠ kn ks b) (h : findK ks fs x = some j) : (∃ q ∈ kvsF ks fs, q.1 = .int .i64 x) ∧ ∀ q ∈ kvsF ks fs, q.1 = .int .i64 x → q.2 = .int .i64 (j : Int) := by
  obtain ⟨hj, e⟩ := findK_some h
  refine ⟨⟨_, kvsF_of hj, by rw [e]⟩, fun q hq he => ?_⟩
  obtain ⟨i, hi, rfl⟩ := kvsF_mem hq
  simp only [Value.int.injEq, true_and] at he ⊢
  have h2 := List.pairwise_iff_getElem.1 hn
  rcases Nat.lt_trichotomy i j with c | c | c
  · exact absurd (he.trans e.symm) (h2 i j hi hj c)
  · rw [c]
  · exact absurd (e.trans he.symm) (h2 j i hj hi c)
theorem kvsF_miss {ks : List Int} {fs : List Nat} {x : Int} (h : findK ks fs x = none) : ∀ q ∈ kvsF ks fs, q.1 ≠ .int .i64 x := by
  intro q hq he
  obtain ⟨j, hj, rfl⟩ := kvsF_mem hq
  simp only [Value.int.injEq, true_and] at he
  exact findK_none h _ (List.getElem_mem hj) he
theorem int3 : KLaw Try.prog 3 (IsKey (.int .i64)) := KLaw.plain Try.underlying3
theorem kvsF_key {ks : List Int} {fs : List Nat} : ∀ q ∈ kvsF ks fs, IsKey (.int .i64) q.1 := by
  intro q hq
  obtain ⟨j, hj, rfl⟩ := kvsF_mem hq
  exact rfl
end Go.Proofs.Ytfcdcgbpdinpnaa.R

open Go Go.Proofs.Ytfcdcgbpdinpnaa.T
open Go.MapKept (IsKey)
namespace Go.Proofs.Ytfcdcgbpdinpnaa.R
set_option maxHeartbeats 8000000
set_option maxRecDepth 100000
set_option linter.unusedSimpArgs false
set_option linter.unusedVariables false
attribute [local simp] bsV bsRows chunk fillT partsT appV makeV rowsOf cellsOf placeOf frzT frz1
theorem findK_new {ks : List Int} {fs : List Nat} {x : Int} {t : Nat} (h : findK ks fs x = none) (ht : kn ks t = x) : findK ks (fs ++ [t]) x = some fs.length := by
  unfold findK
  refine findI_at (by simp) (by simp [ht]) fun j hj => ?_
  rw [List.getElem_append_left hj]
  simp [findK_none h _ (List.getElem_mem hj)]
def J40 (d : Dfa) (ks : List Int) (c2 c6 mp : Nat) (m : Nat) (st : St) : Prop := ∃ (i f R A : Nat), i + m = 40 ∧ i ≤ (bfsTo d ks i).1.length ∧ st.σ 1 = .rptr (encDfa d) 0 ∧ st.σ 2 = .pd c2 0 0 0 ∧ st.σ 3 = .ro (ks.map encI) ∧ st.σ 4 = .hd mp ∧ st.σ 5 = .hd f ∧ st.σ 6 = .pd c6 0 0 0 ∧ st.σ 7 = .val (.int .i64 i) ∧ frF f [c2, c6, mp] ∧ frF R [c2, c6, mp, f] ∧ frF A [c2, c6, mp, f, R] ∧ st.H c2 = some (.box 30 [.val (.slice none 0 0), .val (.slice none 0 0), .val (.slice none 0 0)]) ∧ st.H c6 = some (.box 30 [.ro (d.parts.map encP), .hd R, .hd A]) ∧ st.H mp = some (.mp 48 (kvsF ks (bfsTo d ks i).1)) ∧ st.H f = some (.own 3 ((bfsTo d ks i).1.map encN)) ∧ st.H R = some (.own 24 ((bfsTo d ks i).2.map oR)) ∧ st.H A = some (.own 3 (((bfsTo d ks i).1.take i).map (encAc d)))
theorem tc_iLeastOf (d : Dfa) (hs : DSm d) (m : Dfa) (hm : leastR d m) : TC Try.prog 7 [.agg (encDfa d)] [] (.agg (encDfa m)) [] := by
  refine TC.enter Try.func7 rfl (by simp [Try.ntmps7]) rfl (TWc.postT (tw_sound (ρ := [1, 24, 25, 26, 27, 28]) ?_))
  rw [Try.ntmps7]
  have hpl := hs.parts
  simp [encDfa]
  refine gall_intro fun c2 g2 => ?_
  clear g2
  simp
  refine TWoH.callV (tc_iDfaOk d hs) callable_22 (by simp [encDfa]) (by simp) (by simp) (by simp) ?_
  unfold leastR at hm
  by_cases ok : dfaOk d = true
  case neg =>
    rw [if_neg ok] at hm
    subst hm
    simp [ok]
    refine Turn.nrm c2 (t := .box 30 [.val (.slice none 0 0), .val (.slice none 0 0), .val (.slice none 0 0)]) (by simp) ?_
    simp [nrmO, nrm1]
  rw [if_pos ok] at hm
  obtain ⟨ks, hks, rfl⟩ := hm
  have ho := dok_of ok
  have hkl : ks.length = d.rows.length := by obtain ⟨R, L, _, _, rfl⟩ := hks; exact numb_len R L _
  have hone := ho.one
  have hmost := ho.most
  have hacc := ho.acc
  have kz : 0 < ks.length := by omega
  have hkz : ∀ h, ks[0]'h = kn ks 0 := fun h => (kn_eq h).symm
  simp [ok]
  refine TWoH.callV (tc_iKindsR d hs ho ks hks) callable_23 (by simp [encDfa]) (by simp) (by simp) (by simp) ?_
  by_cases c : kn ks 0 < 0
  · have e : leastF d ks = ⟨[[(0, 255)]], [[-1]], [-1]⟩ := by unfold leastF; rw [if_pos c]
    rw [e]
    simp [kz, hkz, encI, c]
    refine Turn.same ?_
    simp [encP, encR, encI, encS, encDfa, del]
  · have e : leastF d ks = mergeM (leastB d ks) := by unfold leastF; rw [if_neg c]
    rw [e]
    obtain ⟨s1, s2, s3, s4⟩ := leastB_sm hs ho (ks := ks) (by omega)
    have s5 := mergeM_sm s1 s2
    have sp : (leastB d ks).parts = d.parts := by unfold leastB; rfl
    obtain ⟨x, hx⟩ : ∃ x, x = leastB d ks := ⟨_, rfl⟩
    rw [← hx] at s1 s2 s3 s5 sp ⊢
    obtain ⟨y, hy⟩ : ∃ y, y = mergeM x := ⟨_, rfl⟩
    rw [← hy] at s5 ⊢
    simp [kz, hkz, encI, c]
    refine TWoH.makeMap fun mp hmp => ?_
    have fm := frF_of hmp [c2] (by simp)
    clear hmp
    simp [frF] at fm
    simp [fm, kz, hkz, encI]
    refine TWoH.insert mp [] (.int .i64 (kn ks 0)) (.int .i64 0) int3 Try.underlying48 (by simp) (by simp [fm]) (by simp) rfl (by simp) (by simp) (by simp) ?_
    simp [fm]
    refine gall_fresh [c2, mp] (by simp [fm]) fun f ff => ?_
    simp [frF] at ff
    simp [fm, ff]
    refine gall_fresh [c2, mp, f] (by simp [fm, ff]) fun c6 f6 => ?_
    simp [frF] at f6
    simp [fm, ff, f6]
    refine TWcH.turn (Turn.then (Turn.nilC c6 1 24 30 (cs := [.ro (d.parts.map encP), .val (.slice none 0 0), .val (.slice none 0 0)]) (by simp [fm, ff, f6]) (by simp) fun R hR0 hR1 => ?_))
    have fR := frF_of hR0 [c2, c6, mp, f] (by simp [fm, ff, f6])
    clear hR0 hR1
    simp [frF] at fR
    refine Turn.nilC c6 2 3 30 (cs := [.ro (d.parts.map encP), .hd R, .val (.slice none 0 0)]) (by simp [fm, ff, f6, fR]) (by simp) fun A hA0 hA1 => ?_
    have fA := frF_of hA0 [c2, c6, mp, f, R] (by simp [fm, ff, f6, fR])
    clear hA0 hA1
    simp [frF] at fA
    refine TWcH.loopT [] (fun m st => Turn Try.prog 132 st (J40 d ks c2 c6 mp m)) (J40 d ks c2 c6 mp) 40 (Turn.same ⟨0, f, R, A, by simp [fm, ff, f6, fR, fA, frF, encDfa, bfsTo, encN, encI, kvsF]⟩) (fun m s h => h) ?_
    clear ff fR fA R A
    rintro m ⟨σ, H⟩ ⟨i, f, R, A, him, hil, h1, h2, h3, h4, h5, h6, h7, ff, fR, fA, H2, H6, Hm, Hf, HR, HA⟩
    simp only [encDfa] at h1 h2 h3 h4 h5 h6 h7 H2 H6 Hm Hf HR HA
    simp [frF] at ff fR fA
    obtain ⟨b1, b2, b3⟩ := bfs_inv ho (ks := ks) (by omega) i
    have hbl := b1.len
    by_cases hi : i < (bfsTo d ks i).1.length
    · obtain ⟨s, hsi⟩ : ∃ s, (bfsTo d ks i).1[i]? = some s := ⟨_, List.getElem?_eq_getElem hi⟩
      have hsr := (b1.rng s (List.mem_of_getElem? hsi)).1
      have hsucc := bfsTo_succ hsi
      generalize hFS : (bfsTo d ks i).1 = FS at *
      generalize hRS : (bfsTo d ks i).2 = RS at *
      have hrl := ho.row s hsr
      have hw7 : IntKind.i64.wrap ((i : Int) + 1) = i + 1 := wrapi (by omega)
      have k1 : 8 * (d.parts.length : Int) ≤ 281474976710656 := by omega
      have k2 : (d.parts.length : Int) ≤ 9223372036854775807 := by omega
      simp [h1, h2, h3, h4, h5, h6, h7, H2, H6, Hm, Hf, HR, HA, hi, k1, k2]
      clear k1 k2
      refine gall_fresh [c2, c6, mp, f, R, A] (by simp [H2, H6, Hm, Hf, HR, HA]) fun w fw => ?_
      simp [frF] at fw
      simp [h1, h2, h3, h4, h5, h6, h7, H2, H6, Hm, Hf, HR, HA, fm, f6, ff, fR, fA, fw]
      refine TWcH.loop [98] (fun m' st => ∃ (k f : Nat), k + m' = d.parts.length ∧ st.σ 1 = .rptr (encDfa d) 0 ∧ st.σ 2 = .pd c2 0 0 0 ∧ st.σ 3 = .ro (ks.map encI) ∧ st.σ 4 = .hd mp ∧ st.σ 5 = .hd f ∧ st.σ 6 = .pd c6 0 0 0 ∧ st.σ 7 = .val (.int .i64 i) ∧ st.σ 8 = .hd w ∧ st.σ 51 = .val (.int .i64 d.parts.length) ∧ st.σ 52 = .val (.int .i64 k) ∧ frF f [c2, c6, mp, R, A, w] ∧ st.H c2 = some (.box 30 [.val (.slice none 0 0), .val (.slice none 0 0), .val (.slice none 0 0)]) ∧ st.H c6 = some (.box 30 [.ro (d.parts.map encP), .hd R, .hd A]) ∧ st.H mp = some (.mp 48 (kvsF ks (rowK ks ((rw_ d s).take k) FS).1)) ∧ st.H f = some (.own 3 ((rowK ks ((rw_ d s).take k) FS).1.map encN)) ∧ st.H w = some (.own 3 (((rowK ks ((rw_ d s).take k) FS).2 ++ List.replicate (d.parts.length - k) 0).map encI)) ∧ st.H R = some (.own 24 (RS.map oR)) ∧ st.H A = some (.own 3 ((FS.take i).map (encAc d))))
        d.parts.length ⟨0, f, by simp [h1, h2, h3, h4, h5, h6, h7, H2, H6, Hm, Hf, HR, HA, fm, f6, ff, fR, fA, fw, frF, encDfa, rowK, encI]⟩ ?_
      clear h1 h2 h3 h4 h5 h6 h7 H2 H6 Hm Hf HR HA ff
      rintro m' ⟨σ, H⟩ ⟨k, f, hkm, g1, g2, g3, g4, g5, g6, g7, g8, g51, g52, ff, G2, G6, Gm, Gf, Gw, GR, GA⟩
      simp only [encDfa] at g1 g2 g3 g4 g5 g6 g7 g8 g51 g52 G2 G6 Gm Gf Gw GR GA
      simp [frF] at ff
      obtain ⟨r1, r2, r3, z, r4⟩ := b1.row ho hsr (min k (rw_ d s).length) (by omega)
      by_cases hk : k < d.parts.length
      · have hkr : k < (rw_ d s).length := by omega
        rw [show min k (rw_ d s).length = k by omega] at r1 r2 r3 r4
        have hst := rowK_succ (ks := ks) (fs := FS) hkr
        have hFi : ((rowK ks ((rw_ d s).take k) FS).1)[i]? = some s := by rw [r4, List.getElem?_append_left hi]; exact hsi
        have hil2 : i < (rowK ks ((rw_ d s).take k) FS).1.length := (List.getElem?_eq_some_iff.1 hFi).1
        have hFa : ∀ h, (rowK ks ((rw_ d s).take k) FS).1[i]'h = s := fun h => (List.getElem?_eq_some_iff.1 hFi).2
        have hfl := r1.len
        have r1n := (b1.row ho hsr (k + 1) (by omega)).1
        generalize (rowK ks ((rw_ d s).take k) FS).1 = FK at *
        generalize (rowK ks ((rw_ d s).take k) FS).2 = RK at *
        obtain ⟨t, hat⟩ : ∃ t, ∀ h, (rw_ d s)[k]'h = t := ⟨(rw_ d s)[k]'hkr, fun _ => rfl⟩
        have hent := ho.ent s hsr t (by rw [← hat hkr]; exact List.getElem_mem hkr)
        rw [hat] at hst
        have hr' : ∀ h, d.rows[s]'h = rw_ d s := fun _ => (rw_eq hsr).symm
        have hw52 : IntKind.i64.wrap ((k : Int) + 1) = k + 1 := wrapi (by omega)
        have q3 : (FK.length + 1) * 8 ≤ 140737488355328 := by omega
        have q4 : FK.length ≤ 9223372036854775806 := by omega
        obtain ⟨Z, hZ⟩ : ∃ Z : List Int, Z = List.replicate (d.parts.length - (k + 1)) 0 := ⟨_, rfl⟩
        have hrep : List.replicate (d.parts.length - k) (0 : Int) = 0 :: Z := by rw [hZ, show d.parts.length - k = (d.parts.length - (k + 1)) + 1 by omega, List.replicate_succ]
        obtain ⟨W, hW⟩ : ∃ W : Int → List (List TV), W = fun v => (RK ++ v :: Z).map encI := ⟨_, rfl⟩
        have hWs : ∀ v x, (W v).set k [TV.val (.int .i64 x)] = W x := fun v x => by
          rw [hW]; simp only; rw [show [TV.val (.int .i64 x)] = encI x from rfl, ← List.map_set, List.set_append_right _ _ (by omega), r2, Nat.sub_self, List.set_cons_zero]
        have hWl : ∀ v, (W v).length = d.parts.length := fun v => by rw [hW, hZ]; simp; omega
        have hWe : ∀ x, W x = (RK ++ [x] ++ Z).map encI := fun x => by rw [hW]; simp
        rw [hrep] at Gw
        have hG0 : (RK ++ 0 :: Z).map encI = W 0 := by rw [hW]
        rw [hG0] at Gw
        have hkW : ∀ v, k < (W v).length := fun v => by rw [hWl]; exact hk
        have hWk : ∀ v h, (W v)[k]'h = [TV.val (.int .i64 v)] := fun v h => by
          have : (W v)[k]? = some (encI v) := by rw [hW]; simp only; rw [List.getElem?_map, List.getElem?_append_right (by omega), r2, Nat.sub_self]; rfl
          rw [List.getElem?_eq_getElem h] at this; exact Option.some.inj this
        simp [g1, g2, g3, g4, g5, g6, g7, g8, g51, g52, G2, G6, Gm, Gf, Gw, GR, GA, hk, hWl, hWs, hWk]
        refine TWcH.regionD (ρ := []) [0, 1, 2, 3, 4, 5, 6, 7, 8, 9, 10, 11] 12 mixed (by kernel_rfl) ?_
        by_cases ct : t < 0
        · have hkd : kd ks t < 0 := by unfold kd; rw [if_pos ct]; decide
          have hst2 : stepB ks FK t = (FK, -1) := by unfold stepB; rw [if_pos hkd]
          rw [hst2] at hst
          simp [g1, g2, g3, g4, g5, g6, g7, g8, g51, g52, G2, G6, Gm, Gf, Gw, GR, GA, fm, f6, fR, fA, ff, fw, hk, hil2, hFa, encN, encI, hsr, hr', encR, hkr, hat, ct, hw52]
          exact ⟨m' - 1, by omega, k + 1, by omega, rfl, by omega, by simp [frF, ff], by rw [hst], by rw [hst], by rw [hst, hWe, hZ]; simp [encI]⟩
        · have ht0 : 0 ≤ t := by omega
          have htl : t.toNat < ks.length := by omega
          have htl2 : t < ks.length := by omega
          have hkk : kd ks t = kn ks t.toNat := by unfold kd; rw [if_neg ct]
          have hka : ∀ h, ks[t.toNat]'h = kn ks t.toNat := fun h => (kn_eq h).symm
          by_cases ck : kn ks t.toNat < 0
          · have hst2 : stepB ks FK t = (FK, -1) := by unfold stepB; rw [hkk, if_pos ck]
            rw [hst2] at hst
            simp [g1, g2, g3, g4, g5, g6, g7, g8, g51, g52, G2, G6, Gm, Gf, Gw, GR, GA, fm, f6, fR, fA, ff, fw, hk, hil2, hFa, encN, encI, hsr, hr', encR, hkr, hat, ct, ht0, htl, htl2, hka, ck, hw52]
            exact ⟨m' - 1, by omega, k + 1, by omega, rfl, by omega, by simp [frF, ff], by rw [hst], by rw [hst], by rw [hst, hWe, hZ]; simp [encI]⟩
          · simp [g1, g2, g3, g4, g5, g6, g7, g8, g51, g52, G2, G6, Gm, Gf, Gw, GR, GA, fm, f6, fR, fA, ff, fw, hk, hil2, hFa, encN, encI, hsr, hr', encR, hkr, hat, ct, ht0, htl, htl2, hka, ck, hw52]
            cases hj : findK ks FK (kn ks t.toNat) with
            | some j =>
              have hst2 : stepB ks FK t = (FK, (j : Int)) := by unfold stepB; rw [hkk, if_neg ck, hj]
              rw [hst2] at hst
              obtain ⟨q1, q2⟩ := kvsF_hit r1.nod hj
              refine TWoH.lookupHit mp (kvsF ks FK) (.int .i64 (kn ks t.toNat)) (.int .i64 j) int3 Try.underlying48 (by simp [g1, g2, g3, g4, g5, g6, g7, g8, g51, g52, G2, G6, Gm, Gf, Gw, GR, GA, fm, f6, fR, fA, ff, fw, hk, hWl, hWs, hWk]) (by simp [g1, g2, g3, g4, g5, g6, g7, g8, g51, g52, G2, G6, Gm, Gf, Gw, GR, GA, fm, f6, fR, fA, ff, fw, hk, hWl, hWs, hWk]) (by simp) rfl kvsF_key q1 q2 ?_
              simp [g1, g2, g3, g4, g5, g6, g7, g8, g51, g52, G2, G6, Gm, Gf, Gw, GR, GA, fm, f6, fR, fA, ff, fw, hk, hWl, hWs, hWk, encI, hka, htl, htl2, ht0]
              refine TWoH.lookupHit mp (kvsF ks FK) (.int .i64 (kn ks t.toNat)) (.int .i64 j) int3 Try.underlying48 (by simp [g1, g2, g3, g4, g5, g6, g7, g8, g51, g52, G2, G6, Gm, Gf, Gw, GR, GA, fm, f6, fR, fA, ff, fw, hk, hWl, hWs, hWk]) (by simp [g1, g2, g3, g4, g5, g6, g7, g8, g51, g52, G2, G6, Gm, Gf, Gw, GR, GA, fm, f6, fR, fA, ff, fw, hk, hWl, hWs, hWk]) (by simp) rfl kvsF_key q1 q2 ?_
              simp [g1, g2, g3, g4, g5, g6, g7, g8, g51, g52, G2, G6, Gm, Gf, Gw, GR, GA, fm, f6, fR, fA, ff, fw, hk, hWl, hWs, hWk, hw52]
              exact ⟨m' - 1, by omega, k + 1, by omega, rfl, by omega, by simp [frF, ff], by rw [hst], by rw [hst], by rw [hst, hWe, hZ]; simp [encI]⟩
            | none =>
              have hst2 : stepB ks FK t = (FK ++ [t.toNat], (FK.length : Int)) := by unfold stepB; rw [hkk, if_neg ck, hj]
              rw [hst2] at hst
              rw [hst] at r1n
              obtain ⟨q1, q2⟩ := kvsF_hit r1n.nod (findK_new hj rfl)
              refine TWoH.lookupMiss mp (kvsF ks FK) (.int .i64 (kn ks t.toNat)) (.int .i64 0) int3 Try.underlying48 (by kernel_rfl) (by simp [g1, g2, g3, g4, g5, g6, g7, g8, g51, g52, G2, G6, Gm, Gf, Gw, GR, GA, fm, f6, fR, fA, ff, fw, hk, hWl, hWs, hWk]) (by simp [g1, g2, g3, g4, g5, g6, g7, g8, g51, g52, G2, G6, Gm, Gf, Gw, GR, GA, fm, f6, fR, fA, ff, fw, hk, hWl, hWs, hWk]) (by simp) rfl kvsF_key (kvsF_miss hj) ?_
              simp [g1, g2, g3, g4, g5, g6, g7, g8, g51, g52, G2, G6, Gm, Gf, Gw, GR, GA, fm, f6, fR, fA, ff, fw, hk, hWl, hWs, hWk, encI, hka, htl, htl2, ht0]
              refine TWoH.mapUpdate mp (kvsF ks FK) (.int .i64 (kn ks t.toNat)) (.int .i64 FK.length) int3 Try.underlying48 (by simp [g1, g2, g3, g4, g5, g6, g7, g8, g51, g52, G2, G6, Gm, Gf, Gw, GR, GA, fm, f6, fR, fA, ff, fw, hk, hWl, hWs, hWk]) (by simp [g1, g2, g3, g4, g5, g6, g7, g8, g51, g52, G2, G6, Gm, Gf, Gw, GR, GA, fm, f6, fR, fA, ff, fw, hk, hWl, hWs, hWk]) (by simp) rfl kvsF_key (kvsF_miss hj) (by simp) ?_
              rw [← kvsF_app]
              simp [g1, g2, g3, g4, g5, g6, g7, g8, g51, g52, G2, G6, Gm, Gf, Gw, GR, GA, fm, f6, fR, fA, ff, fw, hk, hWl, hWs, hWk, encI, hka, htl, htl2, ht0, q3, q4]
              refine gall_fresh [c2, c6, mp, f, R, A, w] (by simp [g1, g2, g3, g4, g5, g6, g7, g8, g51, g52, G2, G6, Gm, Gf, Gw, GR, GA, fm, f6, fR, fA, ff, fw, hk, hWl, hWs, hWk]) fun f2 ff2 => ?_
              simp [frF] at ff2
              simp [g1, g2, g3, g4, g5, g6, g7, g8, g51, g52, G2, G6, Gm, Gf, Gw, GR, GA, fm, f6, fR, fA, ff, fw, hk, hWl, hWs, hWk, ff2, encI, hka, htl, htl2, ht0, del, delo]
              refine TWoH.lookupHit mp (kvsF ks (FK ++ [t.toNat])) (.int .i64 (kn ks t.toNat)) (.int .i64 FK.length) int3 Try.underlying48 (by simp [g1, g2, g3, g4, g5, g6, g7, g8, g51, g52, G2, G6, Gm, Gf, Gw, GR, GA, fm, f6, fR, fA, ff, fw, hk, hWl, hWs, hWk, ff2]) (by simp [g1, g2, g3, g4, g5, g6, g7, g8, g51, g52, G2, G6, Gm, Gf, Gw, GR, GA, fm, f6, fR, fA, ff, fw, hk, hWl, hWs, hWk, ff2]) (by simp) rfl kvsF_key q1 q2 ?_
              simp [g1, g2, g3, g4, g5, g6, g7, g8, g51, g52, G2, G6, Gm, Gf, Gw, GR, GA, fm, f6, fR, fA, ff, fw, hk, hWl, hWs, hWk, ff2, hw52]
              exact ⟨m' - 1, by omega, k + 1, by omega, rfl, by omega, by simp [frF, ff2], by rw [hst], by rw [hst]; simp [encN, encI]; omega, by rw [hst, hWe, hZ]; simp [encI]⟩
      · have hkl : k = (rw_ d s).length := by omega
        rw [show min k (rw_ d s).length = k by omega] at r1 r2 r3 r4
        rw [hkl, List.take_length] at Gm Gf Gw r1 r2 r3 r4
        rw [show d.parts.length - (rw_ d s).length = 0 by omega] at Gw
        rw [hkl] at g52
        have hFi : ((rowK ks (rw_ d s) FS).1)[i]? = some s := by rw [r4, List.getElem?_append_left hi]; exact hsi
        have hil2 : i < (rowK ks (rw_ d s) FS).1.length := (List.getElem?_eq_some_iff.1 hFi).1
        have hFa : ∀ h, (rowK ks (rw_ d s) FS).1[i]'h = s := fun h => (List.getElem?_eq_some_iff.1 hFi).2
        have hRS : RS.length = i := b2 (by omega)
        have hta : (rowK ks (rw_ d s) FS).1.take (i + 1) = FS.take i ++ [s] := by
          rw [r4, List.take_append_of_le_length (by omega), List.take_succ_eq_append_getElem hi]
          rw [List.getElem?_eq_getElem hi] at hsi
          rw [Option.some.inj hsi]
        generalize (rowK ks (rw_ d s) FS).1 = FL at *
        generalize (rowK ks (rw_ d s) FS).2 = RL at *
        have has : s < d.acc.length := by omega
        have hpa : ∀ h, d.acc[s]'h = ac_ d s := fun _ => (ac_eq has).symm
        have q5 : (i + 1) * 24 ≤ 140737488355328 := by omega
        have q6 : i ≤ 9223372036854775806 := by omega
        have q7 : (i + 1) * 8 ≤ 140737488355328 := by omega
        have hmin : min i FS.length = i := by omega
        have hrlk : ¬ (rw_ d s).length < d.parts.length := by omega
        simp only [List.replicate_zero, List.append_nil] at Gw
        simp [g1, g2, g3, g4, g5, g6, g7, g8, g51, g52, G2, G6, Gm, Gf, Gw, GR, GA, hrlk]
        refine gall_fresh [c2, c6, mp, f, R, A, w] (by simp [G2, G6, Gm, Gf, Gw, GR, GA]) fun e fe => ?_
        simp [frF] at fe
        simp [g1, g2, g3, g4, g5, g6, g7, g8, g51, g52, G2, G6, Gm, Gf, Gw, GR, GA, fm, f6, ff, fR, fA, fw, fe, del, delo, hRS, q5, q6]
        refine gall_fresh [c2, c6, mp, f, R, A, w, e] (by simp [G2, G6, Gm, Gf, Gw, GR, GA, fe]) fun n fn => ?_
        simp [frF] at fn
        simp [g1, g2, g3, g4, g5, g6, g7, g8, g51, g52, G2, G6, Gm, Gf, Gw, GR, GA, fm, f6, ff, fR, fA, fw, fe, fn, del, delo]
        refine TWcH.regionD (ρ := [126]) [0, 1, 2, 3, 4, 5, 6, 7, 8, 9, 10, 11, 12, 13] 13 mixed (by kernel_rfl) ?_
        simp [g1, g2, g3, g4, g5, g6, g7, g8, g51, g52, G2, G6, Gm, Gf, Gw, GR, GA, fm, f6, ff, fR, fA, fw, fe, fn, del, delo, hil2, hFa, encN, encI, has, hpa, hmin, q7, q6]
        refine gall_fresh [c2, c6, mp, f, A, w, e, n] (by simp [g1, g2, g3, g4, g5, g6, g7, g8, g51, g52, G2, G6, Gm, Gf, Gw, GR, GA, fm, f6, ff, fR, fA, fw, fe, fn, del]) fun A2 fA2 => ?_
        simp [frF] at fA2
        simp [g1, g2, g3, g4, g5, g6, g7, g8, g51, g52, G2, G6, Gm, Gf, Gw, GR, GA, fm, f6, ff, fR, fA, fw, fe, fn, fA2, del, delo, hw7]
        refine ⟨m - 1, by omega, Turn.shift (Shift.fold1x n w 24 i 0 (RS.map oR ++ [[.hd w]]) [.hd w] (.own 3 (RL.map encI)) (by simp [fn]) (by simp [g1, g2, g3, g4, g5, g6, g7, g8, g51, g52, G2, G6, Gm, Gf, Gw, GR, GA, fm, f6, ff, fR, fA, fw, fe, fn, fA2, del, delo]) (by rw [List.getElem?_append_right (by simp; omega)]; simp [hRS]) rfl (by simp [g1, g2, g3, g4, g5, g6, g7, g8, g51, g52, G2, G6, Gm, Gf, Gw, GR, GA, fm, f6, ff, fR, fA, fw, fe, fn, fA2, del, delo])) ⟨i + 1, f, n, A2, by omega, ?_⟩⟩
        have hset : (RS.map oR ++ [[TV.hd w]]).set i [TV.own 3 (RL.map encI)] = (RS ++ [RL]).map oR := by
          rw [List.set_append_right _ _ (by simp; omega)]
          simp [hRS, oR]
        rw [hsucc]
        simp [g1, g2, g3, g4, g5, g6, g7, g8, g51, g52, G2, G6, Gm, Gf, Gw, GR, GA, fm, f6, ff, fR, fA, fw, fe, fn, fA2, del, delo, frF, hset, hta, encDfa]
        exact ⟨by omega, rfl⟩
    · have hL : leastB d ks = ⟨d.parts, (bfsTo d ks i).2, (bfsTo d ks i).1.map (ac_ d)⟩ := by unfold leastB; rw [bfsEnd_of (i := i) (by omega) (by omega)]
      have hne : 1 ≤ d.parts.length := by
        obtain ⟨k, hk, _⟩ := parts_at ho.parts (b := 0) (by omega)
        omega
      rw [hL] at hx
      rw [List.take_of_length_le (by omega)] at HA
      have hAE : List.map (encAc d) (bfsTo d ks i).1 = x.acc.map encI := by rw [hx, List.map_map]; rfl
      have hRE : (bfsTo d ks i).2.map oR = x.rows.map oR := by rw [hx]
      rw [hAE] at HA
      rw [hRE] at HR
      rw [← sp] at H6 hne
      generalize (bfsTo d ks i).1 = FS at *
      clear b1 b2 b3 hx hAE hRE hL
      simp [h1, h2, h3, h4, h5, h6, h7, H2, H6, Hm, Hf, HR, HA, hi, fm, f6, ff, fR, fA, del]
      refine TWoH.turn (Turn.then (Turn.freezeA R (t := .own 24 (x.rows.map oR)) (by simp [h1, h2, h3, h4, h5, h6, h7, H2, H6, Hm, Hf, HR, HA, hi, fm, f6, ff, fR, fA]) (Turn.freezeA A (t := .own 3 (x.acc.map encI)) (by simp [h1, h2, h3, h4, h5, h6, h7, H2, H6, Hm, Hf, HR, HA, hi, fm, f6, ff, fR, fA, frzO, del, encI]) ?_)))
      simp [h1, h2, h3, h4, h5, h6, h7, H2, H6, Hm, Hf, HR, HA, hi, fm, f6, ff, fR, fA, frzO, del]
      refine TWoH.callV (tc_merged x s1 s2 s3 hne y hy) callable_25 (by simp [encDfa, fA]) (by simp [fA]) (by simp [fA]) (by simp [fA]) ?_
      simp [h1, h2, h3, h4, h5, h6, h7, H2, H6, Hm, Hf, HR, HA, hi, fm, f6, ff, fR, fA, frzO, del]
      refine TWoH.callV (tc_dfaCopyR y s5) callable_24 (by simp [encDfa]) (by simp) (by simp) (by simp) ?_
      simp [h1, h2, h3, h4, h5, h6, h7, H2, H6, Hm, Hf, HR, HA, hi, fm, f6, ff, fR, fA, frzO, del, encDfa]
      refine Turn.same ?_
      simp [h1, h2, h3, h4, h5, h6, h7, H2, H6, Hm, Hf, HR, HA, hi, fm, f6, ff, fR, fA, del, closeL]
end Go.Proofs.Ytfcdcgbpdinpnaa.R

open Go Go.Proofs.Ytfcdcgbpdinpnaa.T
open Go.MapKept (IsKey)
namespace Go.Proofs.Ytfcdcgbpdinpnaa.R
set_option maxHeartbeats 8000000
set_option maxRecDepth 100000
set_option linter.unusedSimpArgs false
set_option linter.unusedVariables false
attribute [local simp] bsV bsRows chunk fillT partsT appV makeV rowsOf cellsOf placeOf frzT frz1
theorem tc_iLeastOfO (d : Dfa) (hs : DSm d) (m : Dfa) (hm : leastR d m) : TC Try.prog 7 [.agg (encDfa d)] [] (.agg (oDfa m)) [] := by
  refine TC.enter Try.func7 rfl (by simp [Try.ntmps7]) rfl (TWc.postT (tw_sound (ρ := [1]) ?_))
  rw [Try.ntmps7]
  have hpl := hs.parts
  simp [encDfa]
  refine gall_intro fun c2 g2 => ?_
  clear g2
  simp
  refine TWoH.callV (tc_iDfaOk d hs) callable_22 (by simp [encDfa]) (by simp) (by simp) (by simp) ?_
  unfold leastR at hm
  by_cases ok : dfaOk d = true
  case neg =>
    rw [if_neg ok] at hm
    subst hm
    simp [ok]
    refine Turn.then (Turn.nilC c2 0 43 30 (cs := [.val (.slice none 0 0), .val (.slice none 0 0), .val (.slice none 0 0)]) (by simp) (by simp) fun k1 n1 e1 => ?_)
    refine Turn.then (Turn.nilC c2 1 24 30 (cs := [.hd k1, .val (.slice none 0 0), .val (.slice none 0 0)]) (by simp) (by simp) fun k2 n2 e2 => ?_)
    refine Turn.nilC c2 2 3 30 (cs := [.hd k1, .hd k2, .val (.slice none 0 0)]) (by simp) (by simp) fun k3 n3 e3 => ?_
    have g1 : ¬ c2 = k1 := fun e => e1 e.symm
    have f2 : ¬ k2 = k1 ∧ ¬ k2 = c2 := ⟨fun e => by rw [e] at n2; simp [e1, g1] at n2, e2⟩
    have g2 : ¬ k1 = k2 := fun e => f2.1 e.symm
    have g3 : ¬ c2 = k2 := fun e => e2 e.symm
    have f3 : ¬ k3 = k2 ∧ ¬ k3 = k1 := ⟨fun e => by rw [e] at n3; simp [f2, g1, g2, g3] at n3, fun e => by rw [e] at n3; simp [e1, f2, g1, g2, g3] at n3⟩
    have g4 : ¬ c2 = k3 := fun e => e3 e.symm
    have g5 : ¬ k2 = k3 := fun e => f3.1 e.symm
    have g6 : ¬ k1 = k3 := fun e => f3.2 e.symm
    simp [oDfa, e1, e2, e3, f2, f3, g1, g2, g3, g4, g5, g6, del, closeL]
  rw [if_pos ok] at hm
  obtain ⟨ks, hks, rfl⟩ := hm
  have ho := dok_of ok
  have hkl : ks.length = d.rows.length := by obtain ⟨R, L, _, _, rfl⟩ := hks; exact numb_len R L _
  have hone := ho.one
  have hmost := ho.most
  have hacc := ho.acc
  have kz : 0 < ks.length := by omega
  have hkz : ∀ h, ks[0]'h = kn ks 0 := fun h => (kn_eq h).symm
  simp [ok]
  refine TWoH.callV (tc_iKindsR d hs ho ks hks) callable_23 (by simp [encDfa]) (by simp) (by simp) (by simp) ?_
  by_cases c : kn ks 0 < 0
  · have e : leastF d ks = ⟨[[(0, 255)]], [[-1]], [-1]⟩ := by unfold leastF; rw [if_pos c]
    rw [e]
    simp [kz, hkz, encI, c]
    refine gall_fresh [c2] (by simp) fun k1 f1 => ?_
    simp [frF] at f1
    simp [f1]
    refine gall_fresh [c2, k1] (by simp [f1]) fun k2 f2 => ?_
    simp [frF] at f2
    simp [f1, f2]
    refine gall_fresh [c2, k1, k2] (by simp [f1, f2]) fun k3 f3 => ?_
    simp [frF] at f3
    simp [f1, f2, f3]
    refine gall_fresh [c2, k1, k2, k3] (by simp [f1, f2, f3]) fun k4 f4 => ?_
    simp [frF] at f4
    simp [f1, f2, f3, f4]
    refine gall_fresh [c2, k1, k2, k3, k4] (by simp [f1, f2, f3, f4]) fun k5 f5 => ?_
    simp [frF] at f5
    simp [f1, f2, f3, f4, f5]
    refine Turn.then (Turn.shift (Shift.fold1x k2 k1 43 0 0 [[.hd k1]] [.hd k1] (.own 42 [encS (0, 255)]) (by simp [f2]) (by simp [f1, f2, f3, f4, f5]) rfl rfl (by simp [f1, f2, f3, f4, f5, encS])) ?_)
    refine Turn.shift (Shift.fold1x k4 k3 24 0 0 [[.hd k3]] [.hd k3] (.own 3 [encI (-1)]) (by simp [f4]) (by simp [f1, f2, f3, f4, f5, del]) rfl rfl (by simp [f1, f2, f3, f4, f5, del, encI])) ?_
    simp [f1, f2, f3, f4, f5, oDfa, oP, oR, del, encS, encI, closeL]
  · have e : leastF d ks = mergeM (leastB d ks) := by unfold leastF; rw [if_neg c]
    rw [e]
    obtain ⟨s1, s2, s3, s4⟩ := leastB_sm hs ho (ks := ks) (by omega)
    have s5 := mergeM_sm s1 s2
    have sp : (leastB d ks).parts = d.parts := by unfold leastB; rfl
    obtain ⟨x, hx⟩ : ∃ x, x = leastB d ks := ⟨_, rfl⟩
    rw [← hx] at s1 s2 s3 s5 sp ⊢
    obtain ⟨y, hy⟩ : ∃ y, y = mergeM x := ⟨_, rfl⟩
    rw [← hy] at s5 ⊢
    simp [kz, hkz, encI, c]
    refine TWoH.makeMap fun mp hmp => ?_
    have fm := frF_of hmp [c2] (by simp)
    clear hmp
    simp [frF] at fm
    simp [fm, kz, hkz, encI]
    refine TWoH.insert mp [] (.int .i64 (kn ks 0)) (.int .i64 0) int3 Try.underlying48 (by simp) (by simp [fm]) (by simp) rfl (by simp) (by simp) (by simp) ?_
    simp [fm]
    refine gall_fresh [c2, mp] (by simp [fm]) fun f ff => ?_
    simp [frF] at ff
    simp [fm, ff]
    refine gall_fresh [c2, mp, f] (by simp [fm, ff]) fun c6 f6 => ?_
    simp [frF] at f6
    simp [fm, ff, f6]
    refine TWcH.turn (Turn.then (Turn.nilC c6 1 24 30 (cs := [.ro (d.parts.map encP), .val (.slice none 0 0), .val (.slice none 0 0)]) (by simp [fm, ff, f6]) (by simp) fun R hR0 hR1 => ?_))
    have fR := frF_of hR0 [c2, c6, mp, f] (by simp [fm, ff, f6])
    clear hR0 hR1
    simp [frF] at fR
    refine Turn.nilC c6 2 3 30 (cs := [.ro (d.parts.map encP), .hd R, .val (.slice none 0 0)]) (by simp [fm, ff, f6, fR]) (by simp) fun A hA0 hA1 => ?_
    have fA := frF_of hA0 [c2, c6, mp, f, R] (by simp [fm, ff, f6, fR])
    clear hA0 hA1
    simp [frF] at fA
    refine TWcH.loopT [] (fun m st => Turn Try.prog 132 st (J40 d ks c2 c6 mp m)) (J40 d ks c2 c6 mp) 40 (Turn.same ⟨0, f, R, A, by simp [fm, ff, f6, fR, fA, frF, encDfa, bfsTo, encN, encI, kvsF]⟩) (fun m s h => h) ?_
    clear ff fR fA R A
    rintro m ⟨σ, H⟩ ⟨i, f, R, A, him, hil, h1, h2, h3, h4, h5, h6, h7, ff, fR, fA, H2, H6, Hm, Hf, HR, HA⟩
    simp only [encDfa] at h1 h2 h3 h4 h5 h6 h7 H2 H6 Hm Hf HR HA
    simp [frF] at ff fR fA
    obtain ⟨b1, b2, b3⟩ := bfs_inv ho (ks := ks) (by omega) i
    have hbl := b1.len
    by_cases hi : i < (bfsTo d ks i).1.length
    · obtain ⟨s, hsi⟩ : ∃ s, (bfsTo d ks i).1[i]? = some s := ⟨_, List.getElem?_eq_getElem hi⟩
      have hsr := (b1.rng s (List.mem_of_getElem? hsi)).1
      have hsucc := bfsTo_succ hsi
      generalize hFS : (bfsTo d ks i).1 = FS at *
      generalize hRS : (bfsTo d ks i).2 = RS at *
      have hrl := ho.row s hsr
      have hw7 : IntKind.i64.wrap ((i : Int) + 1) = i + 1 := wrapi (by omega)
      have k1 : 8 * (d.parts.length : Int) ≤ 281474976710656 := by omega
      have k2 : (d.parts.length : Int) ≤ 9223372036854775807 := by omega
      simp [h1, h2, h3, h4, h5, h6, h7, H2, H6, Hm, Hf, HR, HA, hi, k1, k2]
      clear k1 k2
      refine gall_fresh [c2, c6, mp, f, R, A] (by simp [H2, H6, Hm, Hf, HR, HA]) fun w fw => ?_
      simp [frF] at fw
      simp [h1, h2, h3, h4, h5, h6, h7, H2, H6, Hm, Hf, HR, HA, fm, f6, ff, fR, fA, fw]
      refine TWcH.loop [98] (fun m' st => ∃ (k f : Nat), k + m' = d.parts.length ∧ st.σ 1 = .rptr (encDfa d) 0 ∧ st.σ 2 = .pd c2 0 0 0 ∧ st.σ 3 = .ro (ks.map encI) ∧ st.σ 4 = .hd mp ∧ st.σ 5 = .hd f ∧ st.σ 6 = .pd c6 0 0 0 ∧ st.σ 7 = .val (.int .i64 i) ∧ st.σ 8 = .hd w ∧ st.σ 51 = .val (.int .i64 d.parts.length) ∧ st.σ 52 = .val (.int .i64 k) ∧ frF f [c2, c6, mp, R, A, w] ∧ st.H c2 = some (.box 30 [.val (.slice none 0 0), .val (.slice none 0 0), .val (.slice none 0 0)]) ∧ st.H c6 = some (.box 30 [.ro (d.parts.map encP), .hd R, .hd A]) ∧ st.H mp = some (.mp 48 (kvsF ks (rowK ks ((rw_ d s).take k) FS).1)) ∧ st.H f = some (.own 3 ((rowK ks ((rw_ d s).take k) FS).1.map encN)) ∧ st.H w = some (.own 3 (((rowK ks ((rw_ d s).take k) FS).2 ++ List.replicate (d.parts.length - k) 0).map encI)) ∧ st.H R = some (.own 24 (RS.map oR)) ∧ st.H A = some (.own 3 ((FS.take i).map (encAc d))))
        d.parts.length ⟨0, f, by simp [h1, h2, h3, h4, h5, h6, h7, H2, H6, Hm, Hf, HR, HA, fm, f6, ff, fR, fA, fw, frF, encDfa, rowK, encI]⟩ ?_
      clear h1 h2 h3 h4 h5 h6 h7 H2 H6 Hm Hf HR HA ff
      rintro m' ⟨σ, H⟩ ⟨k, f, hkm, g1, g2, g3, g4, g5, g6, g7, g8, g51, g52, ff, G2, G6, Gm, Gf, Gw, GR, GA⟩
      simp only [encDfa] at g1 g2 g3 g4 g5 g6 g7 g8 g51 g52 G2 G6 Gm Gf Gw GR GA
      simp [frF] at ff
      obtain ⟨r1, r2, r3, z, r4⟩ := b1.row ho hsr (min k (rw_ d s).length) (by omega)
      by_cases hk : k < d.parts.length
      · have hkr : k < (rw_ d s).length := by omega
        rw [show min k (rw_ d s).length = k by omega] at r1 r2 r3 r4
        have hst := rowK_succ (ks := ks) (fs := FS) hkr
        have hFi : ((rowK ks ((rw_ d s).take k) FS).1)[i]? = some s := by rw [r4, List.getElem?_append_left hi]; exact hsi
        have hil2 : i < (rowK ks ((rw_ d s).take k) FS).1.length := (List.getElem?_eq_some_iff.1 hFi).1
        have hFa : ∀ h, (rowK ks ((rw_ d s).take k) FS).1[i]'h = s := fun h => (List.getElem?_eq_some_iff.1 hFi).2
        have hfl := r1.len
        have r1n := (b1.row ho hsr (k + 1) (by omega)).1
        generalize (rowK ks ((rw_ d s).take k) FS).1 = FK at *
        generalize (rowK ks ((rw_ d s).take k) FS).2 = RK at *
        obtain ⟨t, hat⟩ : ∃ t, ∀ h, (rw_ d s)[k]'h = t := ⟨(rw_ d s)[k]'hkr, fun _ => rfl⟩
        have hent := ho.ent s hsr t (by rw [← hat hkr]; exact List.getElem_mem hkr)
        rw [hat] at hst
        have hr' : ∀ h, d.rows[s]'h = rw_ d s := fun _ => (rw_eq hsr).symm
        have hw52 : IntKind.i64.wrap ((k : Int) + 1) = k + 1 := wrapi (by omega)
        have q3 : (FK.length + 1) * 8 ≤ 140737488355328 := by omega
        have q4 : FK.length ≤ 9223372036854775806 := by omega
        obtain ⟨Z, hZ⟩ : ∃ Z : List Int, Z = List.replicate (d.parts.length - (k + 1)) 0 := ⟨_, rfl⟩
        have hrep : List.replicate (d.parts.length - k) (0 : Int) = 0 :: Z := by rw [hZ, show d.parts.length - k = (d.parts.length - (k + 1)) + 1 by omega, List.replicate_succ]
        obtain ⟨W, hW⟩ : ∃ W : Int → List (List TV), W = fun v => (RK ++ v :: Z).map encI := ⟨_, rfl⟩
        have hWs : ∀ v x, (W v).set k [TV.val (.int .i64 x)] = W x := fun v x => by
          rw [hW]; simp only; rw [show [TV.val (.int .i64 x)] = encI x from rfl, ← List.map_set, List.set_append_right _ _ (by omega), r2, Nat.sub_self, List.set_cons_zero]
        have hWl : ∀ v, (W v).length = d.parts.length := fun v => by rw [hW, hZ]; simp; omega
        have hWe : ∀ x, W x = (RK ++ [x] ++ Z).map encI := fun x => by rw [hW]; simp
        rw [hrep] at Gw
        have hG0 : (RK ++ 0 :: Z).map encI = W 0 := by rw [hW]
        rw [hG0] at Gw
        have hkW : ∀ v, k < (W v).length := fun v => by rw [hWl]; exact hk
        have hWk : ∀ v h, (W v)[k]'h = [TV.val (.int .i64 v)] := fun v h => by
          have : (W v)[k]? = some (encI v) := by rw [hW]; simp only; rw [List.getElem?_map, List.getElem?_append_right (by omega), r2, Nat.sub_self]; rfl
          rw [List.getElem?_eq_getElem h] at this; exact Option.some.inj this
        simp [g1, g2, g3, g4, g5, g6, g7, g8, g51, g52, G2, G6, Gm, Gf, Gw, GR, GA, hk, hWl, hWs, hWk]
        refine TWcH.regionD (ρ := []) [0, 1, 2, 3, 4, 5, 6, 7, 8, 9, 10, 11] 12 mixed (by kernel_rfl) ?_
        by_cases ct : t < 0
        · have hkd : kd ks t < 0 := by unfold kd; rw [if_pos ct]; decide
          have hst2 : stepB ks FK t = (FK, -1) := by unfold stepB; rw [if_pos hkd]
          rw [hst2] at hst
          simp [g1, g2, g3, g4, g5, g6, g7, g8, g51, g52, G2, G6, Gm, Gf, Gw, GR, GA, fm, f6, fR, fA, ff, fw, hk, hil2, hFa, encN, encI, hsr, hr', encR, hkr, hat, ct, hw52]
          exact ⟨m' - 1, by omega, k + 1, by omega, rfl, by omega, by simp [frF, ff], by rw [hst], by rw [hst], by rw [hst, hWe, hZ]; simp [encI]⟩
        · have ht0 : 0 ≤ t := by omega
          have htl : t.toNat < ks.length := by omega
          have htl2 : t < ks.length := by omega
          have hkk : kd ks t = kn ks t.toNat := by unfold kd; rw [if_neg ct]
          have hka : ∀ h, ks[t.toNat]'h = kn ks t.toNat := fun h => (kn_eq h).symm
          by_cases ck : kn ks t.toNat < 0
          · have hst2 : stepB ks FK t = (FK, -1) := by unfold stepB; rw [hkk, if_pos ck]
            rw [hst2] at hst
            simp [g1, g2, g3, g4, g5, g6, g7, g8, g51, g52, G2, G6, Gm, Gf, Gw, GR, GA, fm, f6, fR, fA, ff, fw, hk, hil2, hFa, encN, encI, hsr, hr', encR, hkr, hat, ct, ht0, htl, htl2, hka, ck, hw52]
            exact ⟨m' - 1, by omega, k + 1, by omega, rfl, by omega, by simp [frF, ff], by rw [hst], by rw [hst], by rw [hst, hWe, hZ]; simp [encI]⟩
          · simp [g1, g2, g3, g4, g5, g6, g7, g8, g51, g52, G2, G6, Gm, Gf, Gw, GR, GA, fm, f6, fR, fA, ff, fw, hk, hil2, hFa, encN, encI, hsr, hr', encR, hkr, hat, ct, ht0, htl, htl2, hka, ck, hw52]
            cases hj : findK ks FK (kn ks t.toNat) with
            | some j =>
              have hst2 : stepB ks FK t = (FK, (j : Int)) := by unfold stepB; rw [hkk, if_neg ck, hj]
              rw [hst2] at hst
              obtain ⟨q1, q2⟩ := kvsF_hit r1.nod hj
              refine TWoH.lookupHit mp (kvsF ks FK) (.int .i64 (kn ks t.toNat)) (.int .i64 j) int3 Try.underlying48 (by simp [g1, g2, g3, g4, g5, g6, g7, g8, g51, g52, G2, G6, Gm, Gf, Gw, GR, GA, fm, f6, fR, fA, ff, fw, hk, hWl, hWs, hWk]) (by simp [g1, g2, g3, g4, g5, g6, g7, g8, g51, g52, G2, G6, Gm, Gf, Gw, GR, GA, fm, f6, fR, fA, ff, fw, hk, hWl, hWs, hWk]) (by simp) rfl kvsF_key q1 q2 ?_
              simp [g1, g2, g3, g4, g5, g6, g7, g8, g51, g52, G2, G6, Gm, Gf, Gw, GR, GA, fm, f6, fR, fA, ff, fw, hk, hWl, hWs, hWk, encI, hka, htl, htl2, ht0]
              refine TWoH.lookupHit mp (kvsF ks FK) (.int .i64 (kn ks t.toNat)) (.int .i64 j) int3 Try.underlying48 (by simp [g1, g2, g3, g4, g5, g6, g7, g8, g51, g52, G2, G6, Gm, Gf, Gw, GR, GA, fm, f6, fR, fA, ff, fw, hk, hWl, hWs, hWk]) (by simp [g1, g2, g3, g4, g5, g6, g7, g8, g51, g52, G2, G6, Gm, Gf, Gw, GR, GA, fm, f6, fR, fA, ff, fw, hk, hWl, hWs, hWk]) (by simp) rfl kvsF_key q1 q2 ?_
              simp [g1, g2, g3, g4, g5, g6, g7, g8, g51, g52, G2, G6, Gm, Gf, Gw, GR, GA, fm, f6, fR, fA, ff, fw, hk, hWl, hWs, hWk, hw52]
              exact ⟨m' - 1, by omega, k + 1, by omega, rfl, by omega, by simp [frF, ff], by rw [hst], by rw [hst], by rw [hst, hWe, hZ]; simp [encI]⟩
            | none =>
              have hst2 : stepB ks FK t = (FK ++ [t.toNat], (FK.length : Int)) := by unfold stepB; rw [hkk, if_neg ck, hj]
              rw [hst2] at hst
              rw [hst] at r1n
              obtain ⟨q1, q2⟩ := kvsF_hit r1n.nod (findK_new hj rfl)
              refine TWoH.lookupMiss mp (kvsF ks FK) (.int .i64 (kn ks t.toNat)) (.int .i64 0) int3 Try.underlying48 (by kernel_rfl) (by simp [g1, g2, g3, g4, g5, g6, g7, g8, g51, g52, G2, G6, Gm, Gf, Gw, GR, GA, fm, f6, fR, fA, ff, fw, hk, hWl, hWs, hWk]) (by simp [g1, g2, g3, g4, g5, g6, g7, g8, g51, g52, G2, G6, Gm, Gf, Gw, GR, GA, fm, f6, fR, fA, ff, fw, hk, hWl, hWs, hWk]) (by simp) rfl kvsF_key (kvsF_miss hj) ?_
              simp [g1, g2, g3, g4, g5, g6, g7, g8, g51, g52, G2, G6, Gm, Gf, Gw, GR, GA, fm, f6, fR, fA, ff, fw, hk, hWl, hWs, hWk, encI, hka, htl, htl2, ht0]
              refine TWoH.mapUpdate mp (kvsF ks FK) (.int .i64 (kn ks t.toNat)) (.int .i64 FK.length) int3 Try.underlying48 (by simp [g1, g2, g3, g4, g5, g6, g7, g8, g51, g52, G2, G6, Gm, Gf, Gw, GR, GA, fm, f6, fR, fA, ff, fw, hk, hWl, hWs, hWk]) (by simp [g1, g2, g3, g4, g5, g6, g7, g8, g51, g52, G2, G6, Gm, Gf, Gw, GR, GA, fm, f6, fR, fA, ff, fw, hk, hWl, hWs, hWk]) (by simp) rfl kvsF_key (kvsF_miss hj) (by simp) ?_
              rw [← kvsF_app]
              simp [g1, g2, g3, g4, g5, g6, g7, g8, g51, g52, G2, G6, Gm, Gf, Gw, GR, GA, fm, f6, fR, fA, ff, fw, hk, hWl, hWs, hWk, encI, hka, htl, htl2, ht0, q3, q4]
              refine gall_fresh [c2, c6, mp, f, R, A, w] (by simp [g1, g2, g3, g4, g5, g6, g7, g8, g51, g52, G2, G6, Gm, Gf, Gw, GR, GA, fm, f6, fR, fA, ff, fw, hk, hWl, hWs, hWk]) fun f2 ff2 => ?_
              simp [frF] at ff2
              simp [g1, g2, g3, g4, g5, g6, g7, g8, g51, g52, G2, G6, Gm, Gf, Gw, GR, GA, fm, f6, fR, fA, ff, fw, hk, hWl, hWs, hWk, ff2, encI, hka, htl, htl2, ht0, del, delo]
              refine TWoH.lookupHit mp (kvsF ks (FK ++ [t.toNat])) (.int .i64 (kn ks t.toNat)) (.int .i64 FK.length) int3 Try.underlying48 (by simp [g1, g2, g3, g4, g5, g6, g7, g8, g51, g52, G2, G6, Gm, Gf, Gw, GR, GA, fm, f6, fR, fA, ff, fw, hk, hWl, hWs, hWk, ff2]) (by simp [g1, g2, g3, g4, g5, g6, g7, g8, g51, g52, G2, G6, Gm, Gf, Gw, GR, GA, fm, f6, fR, fA, ff, fw, hk, hWl, hWs, hWk, ff2]) (by simp) rfl kvsF_key q1 q2 ?_
              simp [g1, g2, g3, g4, g5, g6, g7, g8, g51, g52, G2, G6, Gm, Gf, Gw, GR, GA, fm, f6, fR, fA, ff, fw, hk, hWl, hWs, hWk, ff2, hw52]
              exact ⟨m' - 1, by omega, k + 1, by omega, rfl, by omega, by simp [frF, ff2], by rw [hst], by rw [hst]; simp [encN, encI]; omega, by rw [hst, hWe, hZ]; simp [encI]⟩
      · have hkl : k = (rw_ d s).length := by omega
        rw [show min k (rw_ d s).length = k by omega] at r1 r2 r3 r4
        rw [hkl, List.take_length] at Gm Gf Gw r1 r2 r3 r4
        rw [show d.parts.length - (rw_ d s).length = 0 by omega] at Gw
        rw [hkl] at g52
        have hFi : ((rowK ks (rw_ d s) FS).1)[i]? = some s := by rw [r4, List.getElem?_append_left hi]; exact hsi
        have hil2 : i < (rowK ks (rw_ d s) FS).1.length := (List.getElem?_eq_some_iff.1 hFi).1
        have hFa : ∀ h, (rowK ks (rw_ d s) FS).1[i]'h = s := fun h => (List.getElem?_eq_some_iff.1 hFi).2
        have hRS : RS.length = i := b2 (by omega)
        have hta : (rowK ks (rw_ d s) FS).1.take (i + 1) = FS.take i ++ [s] := by
          rw [r4, List.take_append_of_le_length (by omega), List.take_succ_eq_append_getElem hi]
          rw [List.getElem?_eq_getElem hi] at hsi
          rw [Option.some.inj hsi]
        generalize (rowK ks (rw_ d s) FS).1 = FL at *
        generalize (rowK ks (rw_ d s) FS).2 = RL at *
        have has : s < d.acc.length := by omega
        have hpa : ∀ h, d.acc[s]'h = ac_ d s := fun _ => (ac_eq has).symm
        have q5 : (i + 1) * 24 ≤ 140737488355328 := by omega
        have q6 : i ≤ 9223372036854775806 := by omega
        have q7 : (i + 1) * 8 ≤ 140737488355328 := by omega
        have hmin : min i FS.length = i := by omega
        have hrlk : ¬ (rw_ d s).length < d.parts.length := by omega
        simp only [List.replicate_zero, List.append_nil] at Gw
        simp [g1, g2, g3, g4, g5, g6, g7, g8, g51, g52, G2, G6, Gm, Gf, Gw, GR, GA, hrlk]
        refine gall_fresh [c2, c6, mp, f, R, A, w] (by simp [G2, G6, Gm, Gf, Gw, GR, GA]) fun e fe => ?_
        simp [frF] at fe
        simp [g1, g2, g3, g4, g5, g6, g7, g8, g51, g52, G2, G6, Gm, Gf, Gw, GR, GA, fm, f6, ff, fR, fA, fw, fe, del, delo, hRS, q5, q6]
        refine gall_fresh [c2, c6, mp, f, R, A, w, e] (by simp [G2, G6, Gm, Gf, Gw, GR, GA, fe]) fun n fn => ?_
        simp [frF] at fn
        simp [g1, g2, g3, g4, g5, g6, g7, g8, g51, g52, G2, G6, Gm, Gf, Gw, GR, GA, fm, f6, ff, fR, fA, fw, fe, fn, del, delo]
        refine TWcH.regionD (ρ := [126]) [0, 1, 2, 3, 4, 5, 6, 7, 8, 9, 10, 11, 12, 13] 13 mixed (by kernel_rfl) ?_
        simp [g1, g2, g3, g4, g5, g6, g7, g8, g51, g52, G2, G6, Gm, Gf, Gw, GR, GA, fm, f6, ff, fR, fA, fw, fe, fn, del, delo, hil2, hFa, encN, encI, has, hpa, hmin, q7, q6]
        refine gall_fresh [c2, c6, mp, f, A, w, e, n] (by simp [g1, g2, g3, g4, g5, g6, g7, g8, g51, g52, G2, G6, Gm, Gf, Gw, GR, GA, fm, f6, ff, fR, fA, fw, fe, fn, del]) fun A2 fA2 => ?_
        simp [frF] at fA2
        simp [g1, g2, g3, g4, g5, g6, g7, g8, g51, g52, G2, G6, Gm, Gf, Gw, GR, GA, fm, f6, ff, fR, fA, fw, fe, fn, fA2, del, delo, hw7]
        refine ⟨m - 1, by omega, Turn.shift (Shift.fold1x n w 24 i 0 (RS.map oR ++ [[.hd w]]) [.hd w] (.own 3 (RL.map encI)) (by simp [fn]) (by simp [g1, g2, g3, g4, g5, g6, g7, g8, g51, g52, G2, G6, Gm, Gf, Gw, GR, GA, fm, f6, ff, fR, fA, fw, fe, fn, fA2, del, delo]) (by rw [List.getElem?_append_right (by simp; omega)]; simp [hRS]) rfl (by simp [g1, g2, g3, g4, g5, g6, g7, g8, g51, g52, G2, G6, Gm, Gf, Gw, GR, GA, fm, f6, ff, fR, fA, fw, fe, fn, fA2, del, delo])) ⟨i + 1, f, n, A2, by omega, ?_⟩⟩
        have hset : (RS.map oR ++ [[TV.hd w]]).set i [TV.own 3 (RL.map encI)] = (RS ++ [RL]).map oR := by
          rw [List.set_append_right _ _ (by simp; omega)]
          simp [hRS, oR]
        rw [hsucc]
        simp [g1, g2, g3, g4, g5, g6, g7, g8, g51, g52, G2, G6, Gm, Gf, Gw, GR, GA, fm, f6, ff, fR, fA, fw, fe, fn, fA2, del, delo, frF, hset, hta, encDfa]
        exact ⟨by omega, rfl⟩
    · have hL : leastB d ks = ⟨d.parts, (bfsTo d ks i).2, (bfsTo d ks i).1.map (ac_ d)⟩ := by unfold leastB; rw [bfsEnd_of (i := i) (by omega) (by omega)]
      have hne : 1 ≤ d.parts.length := by
        obtain ⟨k, hk, _⟩ := parts_at ho.parts (b := 0) (by omega)
        omega
      rw [hL] at hx
      rw [List.take_of_length_le (by omega)] at HA
      have hAE : List.map (encAc d) (bfsTo d ks i).1 = x.acc.map encI := by rw [hx, List.map_map]; rfl
      have hRE : (bfsTo d ks i).2.map oR = x.rows.map oR := by rw [hx]
      rw [hAE] at HA
      rw [hRE] at HR
      rw [← sp] at H6 hne
      generalize (bfsTo d ks i).1 = FS at *
      clear b1 b2 b3 hx hAE hRE hL
      simp [h1, h2, h3, h4, h5, h6, h7, H2, H6, Hm, Hf, HR, HA, hi, fm, f6, ff, fR, fA, del]
      refine TWoH.turn (Turn.then (Turn.freezeA R (t := .own 24 (x.rows.map oR)) (by simp [h1, h2, h3, h4, h5, h6, h7, H2, H6, Hm, Hf, HR, HA, hi, fm, f6, ff, fR, fA]) (Turn.freezeA A (t := .own 3 (x.acc.map encI)) (by simp [h1, h2, h3, h4, h5, h6, h7, H2, H6, Hm, Hf, HR, HA, hi, fm, f6, ff, fR, fA, frzO, del, encI]) ?_)))
      simp [h1, h2, h3, h4, h5, h6, h7, H2, H6, Hm, Hf, HR, HA, hi, fm, f6, ff, fR, fA, frzO, del]
      refine TWoH.callV (tc_merged x s1 s2 s3 hne y hy) callable_25 (by simp [encDfa, fA]) (by simp [fA]) (by simp [fA]) (by simp [fA]) ?_
      simp [h1, h2, h3, h4, h5, h6, h7, H2, H6, Hm, Hf, HR, HA, hi, fm, f6, ff, fR, fA, frzO, del]
      refine TWoH.call (tc_dfaCopy y (CSm.of s5)) callable_24 (by simp [encDfa]) (by simp) (by simp) fun x0 hx0 => ?_
      have y0 := frF_of (hx0 x0 (Nat.le_refl _)) [c2] (by simp [H2, f6, ff, fR, fA, fm, frzO, del])
      have y1 := frF_of (hx0 (x0 + 1) (by omega)) [c2] (by simp [H2, f6, ff, fR, fA, fm, frzO, del])
      have y2 := frF_of (hx0 (x0 + 2) (by omega)) [c2] (by simp [H2, f6, ff, fR, fA, fm, frzO, del])
      simp only [frF] at y0 y1 y2
      have yo : ¬ x0 = x0 + 1 ∧ ¬ x0 = x0 + 2 ∧ ¬ x0 + 1 = x0 + 2 ∧ ¬ x0 + 1 = x0 ∧ ¬ x0 + 2 = x0 ∧ ¬ x0 + 2 = x0 + 1 := by omega
      have e2 : x0 + 1 + 1 = x0 + 2 := rfl
      clear hx0
      simp [oDfa, e2, y0, y1, y2, yo, h1, h2, h3, h4, h5, h6, h7, H2, H6, Hm, Hf, HR, HA, hi, fm, f6, ff, fR, fA, frzO, del, encDfa]
      refine Turn.same ?_
      simp [oDfa, e2, y0, y1, y2, yo, h1, h2, h3, h4, h5, h6, h7, H2, H6, Hm, Hf, HR, HA, hi, fm, f6, ff, fR, fA, del, closeL]
end Go.Proofs.Ytfcdcgbpdinpnaa.R

open Go Go.Proofs.Ytfcdcgbpdinpnaa.T
namespace Go.Proofs.Ytfcdcgbpdinpnaa.R
set_option maxHeartbeats 8000000
set_option maxRecDepth 100000
set_option linter.unusedSimpArgs false
set_option linter.unusedVariables false
attribute [local simp] bsV bsRows chunk fillT partsT appV makeV rowsOf cellsOf placeOf
def mkSpans (k : Int) (n : Nat) : List (Int × Int) := (List.range n).map fun (i : Nat) => (k + 2 * (i : Int), k + 2 * (i : Int) + 1)
@[simp] theorem mkSpans_len (k : Int) (n : Nat) : (mkSpans k n).length = n := by simp [mkSpans]
theorem mkSpans_at {k : Int} {n i : Nat} (h : i < n) : (mkSpans k n)[i]? = some (k + 2 * (i : Int), k + 2 * (i : Int) + 1) := by simp [mkSpans, h]
theorem tc_markSpanSx (l : List (Int × Int)) (k : Int) (h0 : 0 ≤ k) (hk : k + 2 * l.length ≤ 1152921504606846976) : TC Try.prog 53 [.hd 0, .val (.int .i64 k)] [.own 42 (l.map encS)] (.val (.int .i64 (k + 2 * l.length))) [.own 42 ((mkSpans k l.length).map encS)] := by
  refine TC.enter Try.func53 rfl (by simp [Try.ntmps53]) rfl (tw_sound (ρ := []) ?_)
  rw [Try.ntmps53]
  simp
  refine TWcH.loop [] (fun m s => ∃ (i : Nat) (l' : List (Int × Int)), i + m = l.length ∧ l'.length = l.length ∧ (∀ j, j < i → l'[j]? = some (k + 2 * (j : Int), k + 2 * (j : Int) + 1)) ∧ s.σ 0 = .hd 0 ∧ s.σ 1 = .val (.int .i64 (k + 2 * i)) ∧ s.σ 5 = .val (.int .i64 i) ∧ s.H 0 = some (.own 42 (l'.map encS))) l.length ⟨0, l, by simp⟩ ?_
  rintro m ⟨σ, H⟩ ⟨i, l', him, hl', hat, g0, g1, g5, gH⟩
  simp only at g0 g1 g5 gH
  by_cases hi : i < l.length
  · have hw : IntKind.i64.wrap ((i : Int) + 1) = i + 1 := wrapi (by omega)
    have e1 : IntKind.i64.wrap (k + 2 * i + 1) = k + 2 * i + 1 := wrapi (by omega)
    have e2 : IntKind.i64.wrap (k + 2 * i + 1 + 1) = k + 2 * i + 2 := by rw [wrapi (by omega)]; omega
    have hi' : i < l'.length := by omega
    simp [g0, g1, g5, gH, hi, hi', hl', hw, e1, e2, encS]
    refine ⟨m - 1, by omega, i + 1, by omega, l'.set i (k + 2 * i, k + 2 * i + 1), by simp [hl'], fun j hj => ?_, by omega, by omega, by rw [List.map_set]; simp [encS]⟩
    by_cases e : j = i
    · subst e; rw [List.getElem?_set_self hi']
    · rw [List.getElem?_set_ne (by omega)]; exact hat j (by omega)
  · obtain rfl : i = l.length := by omega
    have hfin : l' = mkSpans k l.length := by
      apply List.ext_getElem?
      intro j
      by_cases c : j < l.length
      · rw [hat j c, mkSpans_at c]
      · rw [List.getElem?_eq_none (by omega), List.getElem?_eq_none (by simp; omega)]
    rw [hfin] at gH
    simp [g0, g1, g5, gH, hl']
    exact ⟨_, _, ⟨rfl, rfl⟩, by simp, by simp [gH]⟩
theorem tc_heldSpanS (n : Nat) (k : Int) (h0 : 0 ≤ k) (hk : k + 2 * n ≤ 1152921504606846976) : TC Try.prog 54 [.ro ((mkSpans k n).map encS), .val (.int .i64 k)] [] (.val (.int .i64 (k + 2 * n))) [] := by
  refine TC.enter Try.func54 rfl (by simp [Try.ntmps54]) rfl (tw_sound (ρ := []) ?_)
  rw [Try.ntmps54]
  simp
  refine TWcH.loop [] (fun m s => ∃ i : Nat, i + m = n ∧ s.σ 0 = .ro ((mkSpans k n).map encS) ∧ s.σ 1 = .val (.int .i64 (k + 2 * i)) ∧ s.σ 5 = .val (.int .i64 i)) n ⟨0, by simp⟩ ?_
  rintro m ⟨σ, H⟩ ⟨i, him, g0, g1, g5⟩
  simp only at g0 g1 g5
  by_cases hi : i < n
  · have hw : IntKind.i64.wrap ((i : Int) + 1) = i + 1 := wrapi (by omega)
    have e1 : IntKind.i64.wrap (k + 2 * i + 1) = k + 2 * i + 1 := wrapi (by omega)
    have e2 : IntKind.i64.wrap (k + 2 * i + 1 + 1) = k + 2 * i + 2 := by rw [wrapi (by omega)]; omega
    have hat : ∀ h, (mkSpans k n)[i]'h = (k + 2 * (i : Int), k + 2 * (i : Int) + 1) := fun h => by simp [mkSpans]
    simp [g0, g1, g5, hi, hw, e1, e2, hat, encS]
    exact ⟨m - 1, by omega, i + 1, by omega, by omega, by omega⟩
  · obtain rfl : i = n := by omega
    simp [g0, g1, g5]
theorem sumL_take {α : Type _} : ∀ {l : List (List α)} {i : Nat} (h : i < l.length), sumL (l.take (i + 1)) = sumL (l.take i) + l[i].length
  | x :: l, 0, h => by simp [sumL]
  | x :: l, i + 1, h => by
    have := sumL_take (l := l) (i := i) (by simpa using h)
    simp [sumL] at this ⊢; omega
theorem sumL_take_le {α : Type _} : ∀ (l : List (List α)) (i : Nat), sumL (l.take i) ≤ sumL l
  | [], i => by simp [sumL]
  | x :: l, 0 => by simp [sumL]
  | x :: l, i + 1 => by
    have := sumL_take_le l i
    simp [sumL]; exact this
def lenAt {α : Type _} (l : List (List α)) (j : Nat) : Nat := ((l[j]?).getD []).length
theorem lenAt_eq {α : Type _} {l : List (List α)} {j : Nat} (h : j < l.length) : lenAt l j = l[j].length := by unfold lenAt; rw [List.getElem?_eq_getElem h]; rfl
/-- The marked rows. -/
def mkSS (k : Int) (l : List (List (Int × Int))) : List (List (Int × Int)) := (List.range l.length).map fun (j : Nat) => mkSpans (k + 2 * sumL (l.take j)) (lenAt l j)
def mkII (k : Int) (l : List (List Int)) : List (List Int) := (List.range l.length).map fun (j : Nat) => mkInts (k + sumL (l.take j)) (lenAt l j)
@[simp] theorem mkSS_len (k : Int) (l : List (List (Int × Int))) : (mkSS k l).length = l.length := by simp [mkSS]
@[simp] theorem mkII_len (k : Int) (l : List (List Int)) : (mkII k l).length = l.length := by simp [mkII]
theorem tc_markSS (l : List (List (Int × Int))) (k : Int) (h0 : 0 ≤ k) (hk : k + 2 * sumL l ≤ 1152921504606846976) (hl : l.length ≤ 1048576) : TC Try.prog 29 [.hd 0, .val (.int .i64 k)] [.own 43 (l.map oP)] (.val (.int .i64 (k + 2 * sumL l))) [.own 43 ((mkSS k l).map oP)] := by
  refine TC.enter Try.func29 rfl (by simp [Try.ntmps29]) rfl (tw_sound (ρ := []) ?_)
  rw [Try.ntmps29]
  simp
  refine TWcH.loopS [] (fun m s => ∃ (i : Nat) (l' : List (List (Int × Int))) (a : Int), i + m = l.length ∧ l'.length = l.length ∧ (∀ j, i ≤ j → l'[j]? = l[j]?) ∧ (∀ j, j < i → l'[j]? = some (mkSpans (k + 2 * sumL (l.take j)) (lenAt l j))) ∧ s.σ 0 = .hd 0 ∧ s.σ 1 = .val (.int .i64 a) ∧ s.σ 5 = .val (.int .i64 i) ∧ s.H 0 = some (.own 43 (l'.map oP)) ∧ a = k + 2 * sumL (l.take i)) l.length ⟨0, l, k, by simp [sumL]⟩ ?_
  rintro m ⟨σ, H⟩ ⟨i, l', a, him, hl', hsame, hmk, g0, g1, g5, gH, ha⟩
  simp only at g0 g1 g5 gH
  by_cases hi : i < l.length
  · have hw : IntKind.i64.wrap ((i : Int) + 1) = i + 1 := wrapi (by omega)
    have hi' : i < l'.length := by omega
    have hst := sumL_take hi
    have hsl := sumL_take_le l (i + 1)
    have hla := lenAt_eq hi
    have hli := hsame i (Nat.le_refl _)
    rw [getI hi] at hli
    generalize hx : l[i] = x at hli hst hla
    refine TWc.unfold1 (E1 := 42) (rows1 := x.map encS) (c1 := 0) (row := oP x) gH (by rw [List.getElem?_map, hli]; rfl) (by simp [oP]) fun k1 H' n1 d1 eH e1 e3 => ?_
    simp only at n1 eH e1 e3
    refine tw_sound (ρ := []) ?_
    have hd1 : ¬ k1 = 0 := fun e => d1 e.symm
    simp [g0, g1, g5, eH, hi, hi', hl', oP]
    refine TWoH.lendR [k1] ((tc_markSpanSx x a (by omega) (by omega)).toR (R := fun r o => r = .val (.int .i64 (a + 2 * x.length)) ∧ o = [.own 42 ((mkSpans a x.length).map encS)]) ⟨rfl, rfl⟩) callable_53 (by simp) (by simp [e1, d1, hd1]) (by simp) (by simp) ?_
    rintro r o ⟨rfl, rfl⟩
    refine ⟨by simp, by simp, .inl (by simp), fun q hq => ?_⟩
    simp [g0, g1, g5, eH, e1, hi, hi', hl', oP, d1, hd1, hw]
    refine ⟨m - 1, by omega, _, Shift.fold1x 0 k1 43 i 0 ((l'.map oP).set i [.hd k1]) [.hd k1] (.own 42 ((mkSpans a x.length).map encS)) d1 (by simp [hd1, d1, eH, oP]) (by simp [hi']) (by simp) (by simp [hd1, d1]), i + 1, by omega, l'.set i (mkSpans a x.length), by simp [hl'], ?_, ?_, ?_⟩
    · intro j hj
      rw [List.getElem?_set_ne (by omega)]
      exact hsame j (by omega)
    · intro j hj
      by_cases e : j = i
      · subst e; rw [List.getElem?_set_self hi', ha, hla]
      · rw [List.getElem?_set_ne (by omega)]; exact hmk j (by omega)
    · simp [g0, g5, hw, List.map_set, oP]
      omega
  · obtain rfl : i = l.length := by omega
    refine tw_sound (ρ := []) ?_
    have hfin : l' = mkSS k l := by
      apply List.ext_getElem?
      intro j
      by_cases c : j < l.length
      · rw [hmk j c]; simp [mkSS, c]
      · rw [List.getElem?_eq_none (by omega), List.getElem?_eq_none (by simp; omega)]
    rw [List.take_length] at ha
    rw [hfin] at gH
    subst ha
    simp [g0, g1, g5, gH, hl']
    refine ⟨_, _, ⟨rfl, rfl⟩, ?_⟩
    repeat' refine And.intro ?_ ?_
    all_goals first | rfl | (simp; done) | (simp [gH]; done) | omega | (simp; omega)
theorem tc_heldSS (l : List (List (Int × Int))) (k : Int) (h0 : 0 ≤ k) (hk : k + 2 * sumL l ≤ 1152921504606846976) (hl : l.length ≤ 1048576) : TC Try.prog 32 [.ro ((mkSS k l).map encP), .val (.int .i64 k)] [] (.val (.int .i64 (k + 2 * sumL l))) [] := by
  refine TC.enter Try.func32 rfl (by simp [Try.ntmps32]) rfl (tw_sound (ρ := []) ?_)
  rw [Try.ntmps32]
  simp
  refine TWcH.loop [] (fun m s => ∃ (i : Nat) (a : Int), i + m = l.length ∧ s.σ 0 = .ro ((mkSS k l).map encP) ∧ s.σ 1 = .val (.int .i64 a) ∧ s.σ 5 = .val (.int .i64 i) ∧ a = k + 2 * sumL (l.take i)) l.length ⟨0, k, by simp [sumL]⟩ ?_
  rintro m ⟨σ, H⟩ ⟨i, a, him, g0, g1, g5, ha⟩
  simp only at g0 g1 g5
  by_cases hi : i < l.length
  · have hw : IntKind.i64.wrap ((i : Int) + 1) = i + 1 := wrapi (by omega)
    have hst := sumL_take hi
    have hsl := sumL_take_le l (i + 1)
    have hla := lenAt_eq hi
    have hat : ∀ h, (mkSS k l)[i]'h = mkSpans a l[i].length := fun h => by simp [mkSS, ha, hla]
    have hneg : ¬ (a + 2 * (l[i].length : Int)) < 0 := by omega
    simp [g0, g1, g5, hi, hw, hat, encP]
    refine TWoH.callV (tc_heldSpanS l[i].length a (by omega) (by omega)) callable_54 (by simp) (by simp) (by simp) (by simp) ?_
    simp [g0, g1, g5, hi, hw, hneg]
    exact ⟨m - 1, by omega, i + 1, by omega, by omega, by omega⟩
  · obtain rfl : i = l.length := by omega
    rw [List.take_length] at ha
    subst ha
    simp [g0, g1, g5]
theorem tc_markII (l : List (List Int)) (k : Int) (h0 : 0 ≤ k) (hk : k + sumL l ≤ 1152921504606846976) (hl : l.length ≤ 1048576) : TC Try.prog 30 [.hd 0, .val (.int .i64 k)] [.own 24 (l.map oR)] (.val (.int .i64 (k + sumL l))) [.own 24 ((mkII k l).map oR)] := by
  refine TC.enter Try.func30 rfl (by simp [Try.ntmps30]) rfl (tw_sound (ρ := []) ?_)
  rw [Try.ntmps30]
  simp
  refine TWcH.loopS [] (fun m s => ∃ (i : Nat) (l' : List (List Int)) (a : Int), i + m = l.length ∧ l'.length = l.length ∧ (∀ j, i ≤ j → l'[j]? = l[j]?) ∧ (∀ j, j < i → l'[j]? = some (mkInts (k + sumL (l.take j)) (lenAt l j))) ∧ s.σ 0 = .hd 0 ∧ s.σ 1 = .val (.int .i64 a) ∧ s.σ 5 = .val (.int .i64 i) ∧ s.H 0 = some (.own 24 (l'.map oR)) ∧ a = k + sumL (l.take i)) l.length ⟨0, l, k, by simp [sumL]⟩ ?_
  rintro m ⟨σ, H⟩ ⟨i, l', a, him, hl', hsame, hmk, g0, g1, g5, gH, ha⟩
  simp only at g0 g1 g5 gH
  by_cases hi : i < l.length
  · have hw : IntKind.i64.wrap ((i : Int) + 1) = i + 1 := wrapi (by omega)
    have hi' : i < l'.length := by omega
    have hst := sumL_take hi
    have hsl := sumL_take_le l (i + 1)
    have hla := lenAt_eq hi
    have hli := hsame i (Nat.le_refl _)
    rw [getI hi] at hli
    generalize hx : l[i] = x at hli hst hla
    refine TWc.unfold1 (E1 := 3) (rows1 := x.map encI) (c1 := 0) (row := oR x) gH (by rw [List.getElem?_map, hli]; rfl) (by simp [oR]) fun k1 H' n1 d1 eH e1 e3 => ?_
    simp only at n1 eH e1 e3
    refine tw_sound (ρ := []) ?_
    have hd1 : ¬ k1 = 0 := fun e => d1 e.symm
    simp [g0, g1, g5, eH, hi, hi', hl', oR]
    refine TWoH.lendR [k1] ((tc_mark43 x a (by omega) (by omega)).toR (R := fun r o => r = .val (.int .i64 (a + x.length)) ∧ o = [.own 3 ((mkInts a x.length).map encI)]) ⟨rfl, rfl⟩) callable_31 (by simp) (by simp [e1, d1, hd1]) (by simp) (by simp) ?_
    rintro r o ⟨rfl, rfl⟩
    refine ⟨by simp, by simp, .inl (by simp), fun q hq => ?_⟩
    simp [g0, g1, g5, eH, e1, hi, hi', hl', oR, d1, hd1, hw]
    refine ⟨m - 1, by omega, _, Shift.fold1x 0 k1 24 i 0 ((l'.map oR).set i [.hd k1]) [.hd k1] (.own 3 ((mkInts a x.length).map encI)) d1 (by simp [hd1, d1, eH, oR]) (by simp [hi']) (by simp) (by simp [hd1, d1]), i + 1, by omega, l'.set i (mkInts a x.length), by simp [hl'], ?_, ?_, ?_⟩
    · intro j hj
      rw [List.getElem?_set_ne (by omega)]
      exact hsame j (by omega)
    · intro j hj
      by_cases e : j = i
      · subst e; rw [List.getElem?_set_self hi', ha, hla]
      · rw [List.getElem?_set_ne (by omega)]; exact hmk j (by omega)
    · simp [g0, g5, hw, List.map_set, oR]
      omega
  · obtain rfl : i = l.length := by omega
    refine tw_sound (ρ := []) ?_
    have hfin : l' = mkII k l := by
      apply List.ext_getElem?
      intro j
      by_cases c : j < l.length
      · rw [hmk j c]; simp [mkII, c]
      · rw [List.getElem?_eq_none (by omega), List.getElem?_eq_none (by simp; omega)]
    rw [List.take_length] at ha
    rw [hfin] at gH
    subst ha
    simp [g0, g1, g5, gH, hl']
    refine ⟨_, _, ⟨rfl, rfl⟩, ?_⟩
    repeat' refine And.intro ?_ ?_
    all_goals first | rfl | (simp; done) | (simp [gH]; done) | omega | (simp; omega)
theorem tc_heldII (l : List (List Int)) (k : Int) (h0 : 0 ≤ k) (hk : k + sumL l ≤ 1152921504606846976) (hl : l.length ≤ 1048576) : TC Try.prog 33 [.ro ((mkII k l).map encR), .val (.int .i64 k)] [] (.val (.int .i64 (k + sumL l))) [] := by
  refine TC.enter Try.func33 rfl (by simp [Try.ntmps33]) rfl (tw_sound (ρ := []) ?_)
  rw [Try.ntmps33]
  simp
  refine TWcH.loop [] (fun m s => ∃ (i : Nat) (a : Int), i + m = l.length ∧ s.σ 0 = .ro ((mkII k l).map encR) ∧ s.σ 1 = .val (.int .i64 a) ∧ s.σ 5 = .val (.int .i64 i) ∧ a = k + sumL (l.take i)) l.length ⟨0, k, by simp [sumL]⟩ ?_
  rintro m ⟨σ, H⟩ ⟨i, a, him, g0, g1, g5, ha⟩
  simp only at g0 g1 g5
  by_cases hi : i < l.length
  · have hw : IntKind.i64.wrap ((i : Int) + 1) = i + 1 := wrapi (by omega)
    have hst := sumL_take hi
    have hsl := sumL_take_le l (i + 1)
    have hla := lenAt_eq hi
    have hat : ∀ h, (mkII k l)[i]'h = mkInts a l[i].length := fun h => by simp [mkII, ha, hla]
    have hneg : ¬ (a + (l[i].length : Int)) < 0 := by omega
    simp [g0, g1, g5, hi, hw, hat, encR]
    refine TWoH.callV (tc_held44 l[i].length a (by omega) (by omega)) callable_34 (by simp) (by simp) (by simp) (by simp) ?_
    simp [g0, g1, g5, hi, hw, hneg]
    exact ⟨m - 1, by omega, i + 1, by omega, by omega, by omega⟩
  · obtain rfl : i = l.length := by omega
    rw [List.take_length] at ha
    subst ha
    simp [g0, g1, g5]
def mkDfa (k : Int) (d : Dfa) : Dfa := ⟨mkSS k d.parts, mkII (k + 2 * sumL d.parts) d.rows, mkInts (k + 2 * sumL d.parts + sumL d.rows) d.acc.length⟩
theorem tc_markDfaX (d : Dfa) (hs : DSm d) (k : Int) (h0 : 0 ≤ k) (hk : k + costD d ≤ 1152921504606846976) : TC Try.prog 9 [.agg [.hd 0, .hd 1, .hd 2], .val (.int .i64 k)] (oDfa d) (.val (.int .i64 (k + costD d))) (oDfa (mkDfa k d)) := by
  unfold costD at *
  refine TC.enter Try.func9 rfl (by simp [Try.ntmps9]) rfl (tw_sound (ρ := [2]) ?_)
  rw [Try.ntmps9]
  simp [oDfa]
  refine TWoH.lend [0] (tc_markSS d.parts k (by omega) (by omega) hs.parts) callable_29 (by simp) (by simp) (by simp) (by simp) (by simp) (by simp) (.inl (by simp)) fun q hq => ?_
  simp
  refine TWoH.lend [1] (tc_markII d.rows (k + 2 * sumL d.parts) (by omega) (by omega) hs.rows) callable_30 (by simp) (by simp) (by simp) (by simp) (by simp) (by simp) (.inl (by simp)) fun q hq => ?_
  simp
  refine TWoH.lend [2] (tc_mark43 d.acc (k + 2 * sumL d.parts + sumL d.rows) (by omega) (by omega)) callable_31 (by simp) (by simp) (by simp) (by simp) (by simp) (by simp) (.inl (by simp)) fun q hq => ?_
  simp
  refine ⟨_, _, ⟨rfl, rfl⟩, ?_⟩
  repeat' refine And.intro ?_ ?_
  all_goals first | rfl | (simp; done) | omega | (simp; omega) | (simp [show List.range 3 = [0, 1, 2] from rfl, mkDfa]; done)
theorem tc_heldDfa (d : Dfa) (hs : DSm d) (k : Int) (h0 : 0 ≤ k) (hk : k + costD d ≤ 1152921504606846976) : TC Try.prog 10 [.agg (encDfa (mkDfa k d)), .val (.int .i64 k)] [] (.val (.int .i64 (k + costD d))) [] := by
  unfold costD at *
  refine TC.enter Try.func10 rfl (by simp [Try.ntmps10]) rfl (tw_sound (ρ := [2]) ?_)
  rw [Try.ntmps10]
  have n1 : ¬ (k + 2 * (sumL d.parts : Int)) < 0 := by omega
  have n2 : ¬ (k + 2 * (sumL d.parts : Int) + sumL d.rows) < 0 := by omega
  have n3 : ¬ (k + 2 * (sumL d.parts : Int) + sumL d.rows + d.acc.length) < 0 := by omega
  simp [encDfa, mkDfa]
  refine TWoH.callV (tc_heldSS d.parts k (by omega) (by omega) hs.parts) callable_32 (by simp) (by simp) (by simp) (by simp) ?_
  simp [n1]
  have h2 := tc_heldII d.rows (k + 2 * sumL d.parts) (by omega) (by omega) hs.rows
  refine TWoH.callV h2 callable_33 (by simp) (by simp) (by simp) (by simp) ?_
  simp [n2]
  refine TWoH.callV (tc_held44 d.acc.length (k + 2 * sumL d.parts + sumL d.rows) (by omega) (by omega)) callable_34 (by simp) (by simp) (by simp) (by simp) ?_
  simp [n3]
  omega
end Go.Proofs.Ytfcdcgbpdinpnaa.R

open Go Go.Proofs.Ytfcdcgbpdinpnaa.T
namespace Go.Proofs.Ytfcdcgbpdinpnaa.R
set_option maxHeartbeats 16000000
set_option maxRecDepth 100000
set_option linter.unusedSimpArgs false
set_option linter.unusedVariables false
attribute [local simp] bsV bsRows chunk fillT partsT appV makeV rowsOf cellsOf placeOf frzT frz1
theorem leastR_exY (d : Dfa) : ∃ m, leastR d m := by
  unfold leastR
  by_cases ok : dfaOk d = true
  · obtain ⟨ks, hk⟩ := isKinds_ex d
    simp only [if_pos ok]; exact ⟨_, ks, hk, rfl⟩
  · simp only [if_neg ok]; exact ⟨_, rfl⟩
theorem leastR_smY {d m : Dfa} (hs : DSm d) (h : leastR d m) : DSm m := by
  unfold leastR at h
  by_cases ok : dfaOk d = true
  · rw [if_pos ok] at h
    obtain ⟨ks, hk, rfl⟩ := h
    unfold leastF
    by_cases c : kn ks 0 < 0
    · rw [if_pos c]
      exact ⟨by simp, by simp, by simp, fun x hx => by simp at hx; subst hx; simp, fun x hx => by simp at hx; subst hx; simp⟩
    · rw [if_neg c]
      obtain ⟨s1, s2, _, _⟩ := leastB_sm hs (dok_of ok) (ks := ks) (by omega)
      exact mergeM_sm s1 s2
  · rw [if_neg ok] at h
    subst h
    exact ⟨by simp, by simp, by simp, fun x hx => by simp at hx, fun x hx => by simp at hx⟩
theorem sumL_max {α : Type _} {N : Nat} : ∀ l : List (List α), (∀ x ∈ l, x.length ≤ N) → sumL l ≤ N * l.length
  | [], _ => by simp [sumL]
  | x :: l, h => by
    have h1 := h x (by simp)
    have h2 := sumL_max l fun y hy => h y (by simp [hy])
    simp only [sumL, List.length_cons, Nat.mul_succ]; omega
theorem costD_max {m : Dfa} (hs : DSm m) : costD m ≤ 1099511627776000 := by
  unfold costD
  have h1 := sumL_max m.parts hs.part
  have h2 := sumL_max m.rows hs.row
  have h3 := hs.parts
  have h4 := hs.rows
  have h5 := hs.acc
  have h6 : 1048576 * m.parts.length ≤ 1048576 * 1048576 := Nat.mul_le_mul_left _ h3
  have h7 : 1048576 * m.rows.length ≤ 1048576 * 1048576 := Nat.mul_le_mul_left _ h4
  omega
theorem tc_FnExactLeastOf (d : Dfa) (hB : BDfa d) : TC Try.prog 3 [.agg (encDfa d)] [] (.val (.bool true)) [] := by
  refine TC.enter Try.func3 rfl (by simp [Try.ntmps3]) rfl (tw_sound (ρ := [1]) ?_)
  rw [Try.ntmps3]
  simp
  refine TWoH.callV (tc_szDfa d hB.parts hB.rows 1048576) callable_4 (by simp) (by simp) (by simp) (by simp) ?_
  simp
  refine gif_intro (fun c2 => ?_) (fun c2 => ?_) <;> simp [c2]
  obtain ⟨hs, hcost⟩ := DSm_of hB c2
  obtain ⟨m, hm⟩ := leastR_exY d
  have hsm := leastR_smY hs hm
  have hcm := costD_max hsm
  have hto := tc_toDfa d hs
  refine TWoH.callV hto callable_6 (by simp) (by simp) (by simp) (by simp) ?_
  simp
  refine TWoH.callV (tc_sLeastOf d hs m hm) callable_5 (by simp [encDfa]) (by simp) (by simp) (by simp) ?_
  simp [encDfa]
  refine gall_intro fun w hw => ?_
  clear hw
  simp
  refine TWoH.call (tc_toDfaO d hs) callable_6 (by simp [encDfa]) (by simp) (by simp) fun x hx => ?_
  have x0 := frF_of (hx x (Nat.le_refl _)) [w] (by simp)
  have x1 := frF_of (hx (x + 1) (by omega)) [w] (by simp)
  have x2 := frF_of (hx (x + 2) (by omega)) [w] (by simp)
  simp only [frF, and_true] at x0 x1 x2
  have xo : ¬ x = x + 1 ∧ ¬ x = x + 2 ∧ ¬ x + 1 = x + 2 ∧ ¬ x + 1 = x ∧ ¬ x + 2 = x ∧ ¬ x + 2 = x + 1 := by omega
  have xe : x + 1 + 1 = x + 2 := rfl
  clear hx
  have D1 := And.intro x0 (And.intro x1 (And.intro x2 xo))
  clear x0 x1 x2 xo
  simp [oDfa, xe, D1]
  refine gall_fresh [w, x, x + 1, x + 2] (by simp [D1]) fun c5 f5 => ?_
  simp [frF] at f5
  have D2 := And.intro D1 f5
  clear D1 f5
  simp [oDfa, xe, D2]
  have hto2 := tc_iLeastOfO d hs m hm
  refine TWoH.call hto2 callable_7 (by simp [D2, encDfa, xe]) (by simp [oDfa]) (by simp [oDfa]) fun g hg => ?_
  have g0 := frF_of (hg g (Nat.le_refl _)) [w, x, x + 1, x + 2, c5] (by simp [D2])
  have g1 := frF_of (hg (g + 1) (by omega)) [w, x, x + 1, x + 2, c5] (by simp [D2])
  have g2 := frF_of (hg (g + 2) (by omega)) [w, x, x + 1, x + 2, c5] (by simp [D2])
  simp only [frF, and_true] at g0 g1 g2
  have go : ¬ g = g + 1 ∧ ¬ g = g + 2 ∧ ¬ g + 1 = g + 2 ∧ ¬ g + 1 = g ∧ ¬ g + 2 = g ∧ ¬ g + 2 = g + 1 := by omega
  have ge : g + 1 + 1 = g + 2 := rfl
  clear hg
  have D3 := And.intro D2 (And.intro g0 (And.intro g1 (And.intro g2 go)))
  clear D2 g0 g1 g2 go
  simp [oDfa, xe, ge, D3]
  refine gall_fresh [w, x, x + 1, x + 2, c5, g, g + 1, g + 2] (by simp [D3]) fun c6 f6 => ?_
  simp [frF] at f6
  have D4 := And.intro D3 f6
  clear D3 f6
  simp [oDfa, xe, ge, D4]
  have heq := tc_eqDfa m hsm
  refine TWoH.callV heq callable_8 (by simp [D4, encDfa, xe, ge]) (by simp) (by simp) (by simp) ?_
  simp [xe, ge, D4]
  refine TWcH.regionD (ρ := []) [0, 1, 2, 3, 4] 5 mixed (by kernel_rfl) ?_
  simp [xe, ge, D4]
  refine TWqH.callV hto callable_6 (by simp [encDfa]) (by simp) (by simp) (by simp) ?_
  simp [xe, ge, D4]
  refine TWqH.callV (tc_eqDfa d hs) callable_8 (by simp [D4, encDfa, xe, ge]) (by simp) (by simp) (by simp) ?_
  simp [xe, ge, D4]
  refine TWoH.lendR [x, x + 1, x + 2] (tcr_markDfa d hs 1 (by omega) (by omega)) callable_9 (by simp [D4, xe, ge, List.findIdx?_cons]) (by simp [D4, xe, ge, oDfa]) (by simp) (by simp) ?_
  rintro r o ⟨rfl, d', rfl⟩
  refine ⟨by simp [oDfa], by simp, .inl (by simp [D4, xe, ge, List.findIdx?_cons]), fun q hq => ?_⟩
  clear hq
  have b3 : ¬ (1 + (costD d : Int)) < 0 := by omega
  simp [oDfa, xe, ge, D4, b3]
  refine TWoH.callV heq callable_8 (by simp [D4, encDfa, xe, ge]) (by simp) (by simp) (by simp) ?_
  simp [xe, ge, D4]
  refine TWoH.lend [g, g + 1, g + 2] (tc_markDfaX m hsm 1 (by omega) (by omega)) callable_9 (by simp [D4, xe, ge, List.findIdx?_cons]) (by simp [D4, xe, ge, oDfa]) (by simp) (by simp [oDfa]) (by simp [oDfa]) (by simp [oDfa]) (.inl (by simp)) fun q hq => ?_
  clear hq
  have b4 : ¬ (1 + (costD m : Int)) < 0 := by omega
  simp [oDfa, xe, ge, D4]
  have hheld := tc_heldDfa m hsm 1 (by omega) (by omega)
  refine TWoH.callV hheld callable_10 (by simp [D4, encDfa, xe, ge]) (by simp) (by simp) (by simp) ?_
  simp [xe, ge, D4, b4]
  refine TWoH.callV hto callable_6 (by simp [encDfa]) (by simp) (by simp) (by simp) ?_
  simp [xe, ge, D4]
  refine TWoH.call hto2 callable_7 (by simp [D4, encDfa, xe]) (by simp [oDfa]) (by simp [oDfa]) fun h hh => ?_
  have h0 := frF_of (hh h (Nat.le_refl _)) [w, g, g + 1, g + 2, c6] (by simp [D4])
  have h1 := frF_of (hh (h + 1) (by omega)) [w, g, g + 1, g + 2, c6] (by simp [D4])
  have h2 := frF_of (hh (h + 2) (by omega)) [w, g, g + 1, g + 2, c6] (by simp [D4])
  simp only [frF, and_true] at h0 h1 h2
  have ho : ¬ h = h + 1 ∧ ¬ h = h + 2 ∧ ¬ h + 1 = h + 2 ∧ ¬ h + 1 = h ∧ ¬ h + 2 = h ∧ ¬ h + 2 = h + 1 := by omega
  have he : h + 1 + 1 = h + 2 := rfl
  clear hh
  have D5 := And.intro D4 (And.intro h0 (And.intro h1 (And.intro h2 ho)))
  clear D4 h0 h1 h2 ho
  simp [oDfa, xe, ge, he, D5]
  refine gall_fresh [w, g, g + 1, g + 2, c6, h, h + 1, h + 2] (by simp [D5]) fun c10 f10 => ?_
  simp [frF] at f10
  have D6 := And.intro D5 f10
  clear D5 f10
  simp [oDfa, xe, ge, he, D6]
  refine TWoH.callV heq callable_8 (by simp [D6, encDfa, xe, ge, he]) (by simp) (by simp) (by simp) ?_
  simp [xe, ge, he, D6]
  refine TWoH.callV hheld callable_10 (by simp [D6, encDfa, xe, ge, he]) (by simp) (by simp) (by simp) ?_
  simp [xe, ge, he, D6, b4]
end Go.Proofs.Ytfcdcgbpdinpnaa.R
