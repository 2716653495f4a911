/- FnExactRulesFirst, part 2: for every input that can be read as data the law returns true and its arguments read as before. Conditions: none but those that each theorem states. -/
import Derived.Test.YtigmibfacllhmaaRows
import Derived.Test.YtigmibfacllhmaaK1
import Derived.Below
import Derived.Carry
import Derived.ChangeArms
import Derived.ChangeOld
import Derived.ChangeSlices
import Derived.DataReads
import Derived.Deep.Slices
import Derived.KernelRfl
import Derived.Laws.AppendOwn
import Derived.Laws.BytesString
import Derived.Laws.CopyRow
import Derived.Laws.MakeOwn
import Derived.Laws.OwnMore
import Derived.Laws.Rows
import Derived.Laws.Strings
import Derived.Laws.StructEq
import Derived.Maps.AppendAt
import Derived.OpenShut
import Derived.OrdersHeld
import Derived.ProofKit
import Derived.ShutString
import Derived.SizedLaws
import Derived.StillTail
import Derived.WalkKit
open Go Go.Proofs.Ytigmibfacllhmaa.T
namespace Go.Proofs.Ytigmibfacllhmaa.R
set_option maxHeartbeats 4000000
set_option maxRecDepth 100000
set_option linter.unusedSimpArgs false
set_option linter.unusedVariables false
theorem ne_some {H : Nat → Option TV} {i j : Nat} (h : (H i).isSome = true) (h' : H j = none) : ¬ i = j := fun e => by rw [e, h'] at h; cases h
def tabS (G : List UInt8 → Bool) (t : List UInt8) (q i0 : Nat) (x y : Nat) : Bool := decide (x ≤ y ∧ y ≤ t.length ∧ (y - x < q ∨ (y - x = q ∧ x < i0))) && G (piece t x y)
def noT : Nat → Nat → Bool := fun _ _ => false
theorem tabS_zero {G : List UInt8 → Bool} {t : List UInt8} : tabL (fun _ _ => false) = tabL (tabS G t 0 0) := tab_congr fun i j _ _ => by simp [tabS]
theorem tabS_next {G : List UInt8 → Bool} {t : List UInt8} {q i : Nat} (h : t.length < i + q) : tabL (tabS G t q i) = tabL (tabS G t (q + 1) 0) := tab_congr fun x y _ _ => by
  unfold tabS
  congr 1
  rw [decide_eq_decide]; omega
theorem tabS_all {G : List UInt8 → Bool} {t : List UInt8} {q : Nat} (h : t.length < q) : tabL (tabS G t q 0) = tabL (tabF G t) := tab_congr fun x y _ _ => by
  unfold tabS tabF
  congr 1
  rw [decide_eq_decide]; omega
theorem tabS_set {G : List UInt8 → Bool} {t : List UInt8} {q i : Nat} (h : i + q ≤ t.length) : updT (tabS G t q i) i (i + q) (G (piece t i (i + q))) = tabS G t q (i + 1) := by
  funext x y
  unfold updT
  by_cases e : x = i ∧ y = i + q
  · obtain ⟨rfl, rfl⟩ := e
    rw [if_pos ⟨rfl, rfl⟩, tabS, show decide _ = true from decide_eq_true (by omega)]; rfl
  · rw [if_neg e]
    unfold tabS
    congr 1
    rw [decide_eq_decide]; omega
theorem tabF_at {f : List UInt8 → Bool} {t : List UInt8} {i j : Nat} (h : i ≤ j) (h' : j ≤ t.length) : tabF f t i j = f (piece t i j) := by simp [tabF, h, h']
theorem tabS_at {G : List UInt8 → Bool} {t : List UInt8} {q i x y : Nat} (h : x ≤ y) (h' : y ≤ t.length) (h2 : y - x < q) : tabS G t q i x y = G (piece t x y) := by simp [tabS, h, h', h2]
def catP (fa fb : List UInt8 → Bool) (t : List UInt8) (i q o : Nat) : Bool := (List.range o).any fun x => fa (piece t i (i + x)) && fb (piece t (i + x) (i + q))
theorem catP_succ {fa fb : List UInt8 → Bool} {t : List UInt8} {i q o : Nat} : catP fa fb t i q (o + 1) = (catP fa fb t i q o || (fa (piece t i (i + o)) && fb (piece t (i + o) (i + q)))) := by
  simp [catP, List.range_succ]
theorem piece_take {t : List UInt8} {i q x : Nat} (h : x ≤ q) : (piece t i (i + q)).take x = piece t i (i + x) := by
  simp only [piece, List.drop_take, List.take_take]
  congr 1; omega
theorem piece_drop {t : List UInt8} {i q x : Nat} : (piece t i (i + q)).drop x = piece t (i + x) (i + q) := by
  simp only [piece, List.drop_drop]
theorem catP_all {fa fb : List UInt8 → Bool} {t : List UInt8} {i q : Nat} (h : i + q ≤ t.length) : catP fa fb t i q (q + 1) = catF fa fb (piece t i (i + q)) 0 := by
  have hl : (piece t i (i + q)).length = q := by simp [piece]; omega
  unfold catP catF
  rw [hl, Nat.sub_zero, ← List.range_eq_range']
  rw [Bool.eq_iff_iff, List.any_eq_true, List.any_eq_true]
  constructor
  · rintro ⟨x, hx, h1⟩
    have := List.mem_range.1 hx
    exact ⟨x, hx, by rw [piece_take (by omega), piece_drop]; exact h1⟩
  · rintro ⟨x, hx, h1⟩
    have := List.mem_range.1 hx
    exact ⟨x, hx, by rw [piece_take (by omega), piece_drop] at h1; exact h1⟩
def starP (f : List UInt8 → Bool) (t : List UInt8) (i q o : Nat) : Bool := decide (q = 0) || (List.range o).any fun x => f (piece t i (i + 1 + x)) && starF f (piece t (i + 1 + x) (i + q))
theorem starP_succ {f : List UInt8 → Bool} {t : List UInt8} {i q o : Nat} : starP f t i q (o + 1) = (starP f t i q o || (f (piece t i (i + 1 + o)) && starF f (piece t (i + 1 + o) (i + q)))) := by
  simp [starP, List.range_succ, Bool.or_assoc]
theorem starP_all {f : List UInt8 → Bool} {t : List UInt8} {i q : Nat} (h : i + q ≤ t.length) : starP f t i q q = starF f (piece t i (i + q)) := by
  have hl : (piece t i (i + q)).length = q := by simp [piece]; omega
  rw [starF_first, hl]
  unfold starP
  congr 1
  rw [Bool.eq_iff_iff, List.any_eq_true, List.any_eq_true]
  constructor
  · rintro ⟨x, hx, h1⟩
    have := List.mem_range.1 hx
    exact ⟨x, hx, by rw [piece_take (by omega), piece_drop, show i + (x + 1) = i + 1 + x by omega]; exact h1⟩
  · rintro ⟨x, hx, h1⟩
    have := List.mem_range.1 hx
    exact ⟨x, hx, by rw [piece_take (by omega), piece_drop, show i + (x + 1) = i + 1 + x by omega] at h1; exact h1⟩
theorem tc_pieces : ∀ (d : Nat) (r : Rex) (t : List UInt8), Sm r → formF d r = true → t.length ≤ 12 → TC Try.prog 117 [.agg (encRex r), .val (.string (bs t))] [] (.agg (tabL (tabF (isF d r) t))) []
  | 0, r, t, hs, hf, ht => by simp [formF] at hf
  | d + 1, .mk k s l, t, hs, hf, ht => by
    refine TC.enter Try.func117 rfl (by simp [Try.ntmps117]) rfl (tw_sound (ρ := [2]) ?_)
    rw [Try.ntmps117]
    simp [encRex, encRexL_eq]
    refine gall_intro fun a ha => ?_
    simp
    refine gall_intro fun c hc => ?_
    have hca : ¬ c = a := fun e => by simp [e] at hc
    have hac : ¬ a = c := fun e => hca e.symm
    simp [hca, hac]
    have hlen : l.length ≤ 2 := by rcases form_kids hf with ⟨_, rfl⟩ | ⟨_, _, rfl, _⟩ | ⟨_, _, _, rfl, _⟩ <;> simp
    refine TWcH.loop [] (fun m s' => ∃ i, i + m = l.length ∧ s'.σ 1 = .val (.string (bs t)) ∧ s'.σ 2 = .rptr [.val (.int .i64 k), .ro (s.map encS), .ro (l.map encRex)] 0 ∧ s'.σ 4 = .pd a 0 0 0 ∧ s'.σ 5 = .pd c 0 0 0 ∧ s'.σ 19 = .ro (l.map encRex) ∧ s'.σ 20 = .val (.int .i64 l.length) ∧ s'.σ 21 = .val (.int .i64 i) ∧ s'.H a = some (.box 136 (tabL noT)) ∧
      ∃ A B, s'.H c = some (.box 153 (tabL A ++ tabL B)) ∧ (∀ x, l[0]? = some x → 0 < i → A = tabF (isF d x) t) ∧ (∀ x, l[1]? = some x → 1 < i → B = tabF (isF d x) t)) l.length ⟨0, by simp [hac]; exact ⟨rfl, _, _, rfl⟩⟩ ?_
    rintro m ⟨σ, H⟩ ⟨i, him, h1, h2, h4, h5, h19, h20, h21, hA, A, B, hC, hfA, hfB⟩
    simp only at h1 h2 h4 h5 h19 h20 h21 hA hC
    by_cases hi : i < l.length
    · have hw := hw1 hi (by omega)
      simp [h1, h2, h4, h5, h19, h20, h21, getI hi, hi]
      refine gall_intro fun b hb => ?_
      have hbc : ¬ c = b := fun e => by simp [← e, hC] at hb
      have hba : ¬ a = b := fun e => by simp [← e, hA] at hb
      have hcb : ¬ b = c := fun e => hbc e.symm
      simp [h1, h2, h4, h5, h19, h20, h21, getI hi, hi]
      refine TWoH.callV (tc_pieces d l[i] t (SmL.get hs.2.2 hi) (formF_kid hf hi) ht) callable_117 (by simp [h1]) (by simp) (by simp) (by simp) ?_
      rcases (show i = 0 ∨ i = 1 by omega) with rfl | rfl
      · simp [h1, h2, h4, h5, h19, h20, h21, hi, hC, hbc, hba, hcb, two_set0]
        exact ⟨m - 1, by omega, 1, by omega, by rw [wrapi (by omega)]; rfl, by rw [if_neg hac]; exact hA, _, B, rfl, fun _ => rfl, fun x _ h => by omega⟩
      · simp [h1, h2, h4, h5, h19, h20, h21, hi, hC, hbc, hba, hcb]
        exact ⟨m - 1, by omega, 2, by omega, by rw [wrapi (by omega)]; rfl, by rw [if_neg hac]; exact hA, A, tabF (isF d l[1]) t, by rw [List.drop_eq_nil_of_le (by simp), List.append_nil], fun x hx _ => hfA x hx (by omega), fun _ => rfl⟩
    · obtain rfl : i = l.length := by omega
      simp [h1, h2, h4, h5, h19, h20, h21]
      refine TWcH.midB (ρ := []) (fun s' => ∃ x y, s'.σ 1 = .val (.string (bs t)) ∧ s'.σ 2 = .rptr [.val (.int .i64 k), .ro (s.map encS), .ro (l.map encRex)] 0 ∧ s'.σ 4 = .pd a 0 0 0 ∧ s'.σ 8 = .pd x 0 0 0 ∧ s'.σ 9 = .pd y 0 0 0 ∧ s'.H a = some (.box 136 (tabL noT)) ∧ s'.H x = some (.box 136 (tabL A)) ∧ s'.H y = some (.box 136 (tabL B)))
        (.first 0 (.first 2 (.pick 1 (.pick 3 (.pick 4 (.pick 5 (.pick 6 (.pick 7 .fin .fin) .fin) .fin) (.pick 5 (.pick 4 (.pick 6 (.pick 7 .fin .fin) .fin) .fin) .fin)) (.pick 4 (.pick 3 (.pick 5 (.pick 6 (.pick 7 .fin .fin) .fin) .fin) (.pick 5 (.pick 3 (.pick 6 (.pick 7 .fin .fin) .fin) (.pick 6 (.pick 3 (.pick 7 .fin .fin) .fin) .fin)) .fin)) (.pick 5 (.pick 3 (.pick 4 (.pick 6 (.pick 7 .fin .fin) .fin) .fin) (.pick 4 (.pick 3 (.pick 6 (.pick 7 .fin .fin) .fin) (.pick 6 (.pick 3 (.pick 7 .fin .fin) .fin) .fin)) .fin)) .fin))) (.pick 3 (.pick 1 (.pick 4 (.pick 5 (.pick 6 (.pick 7 .fin .fin) .fin) .fin) (.pick 5 (.pick 4 (.pick 6 (.pick 7 .fin .fin) .fin) .fin) .fin)) (.pick 4 (.pick 1 (.pick 5 (.pick 6 (.pick 7 .fin .fin) .fin) .fin) (.pick 5 (.pick 1 (.pick 6 (.pick 7 .fin .fin) .fin) .fin) .fin)) (.pick 5 (.pick 1 (.pick 4 (.pick 6 (.pick 7 .fin .fin) .fin) .fin) (.pick 4 (.pick 1 (.pick 6 (.pick 7 .fin .fin) .fin) .fin) .fin)) .fin))) (.pick 4 (.pick 1 (.pick 3 (.pick 5 (.pick 6 (.pick 7 .fin .fin) .fin) .fin) (.pick 5 (.pick 3 (.pick 6 (.pick 7 .fin .fin) .fin) (.pick 6 (.pick 3 (.pick 7 .fin .fin) .fin) .fin)) .fin)) (.pick 3 (.pick 1 (.pick 5 (.pick 6 (.pick 7 .fin .fin) .fin) .fin) (.pick 5 (.pick 1 (.pick 6 (.pick 7 .fin .fin) .fin) .fin) .fin)) (.pick 5 (.pick 1 (.pick 3 (.pick 6 (.pick 7 .fin .fin) .fin) (.pick 6 (.pick 3 (.pick 7 .fin .fin) .fin) .fin)) (.pick 3 (.pick 1 (.pick 6 (.pick 7 .fin .fin) .fin) .fin) .fin)) .fin))) (.pick 5 (.pick 1 (.pick 3 (.pick 4 (.pick 6 (.pick 7 .fin .fin) .fin) .fin) (.pick 4 (.pick 3 (.pick 6 (.pick 7 .fin .fin) .fin) (.pick 6 (.pick 3 (.pick 7 .fin .fin) .fin) .fin)) .fin)) (.pick 3 (.pick 1 (.pick 4 (.pick 6 (.pick 7 .fin .fin) .fin) .fin) (.pick 4 (.pick 1 (.pick 6 (.pick 7 .fin .fin) .fin) .fin) .fin)) (.pick 4 (.pick 1 (.pick 3 (.pick 6 (.pick 7 .fin .fin) .fin) (.pick 6 (.pick 3 (.pick 7 .fin .fin) .fin) .fin)) (.pick 3 (.pick 1 (.pick 6 (.pick 7 .fin .fin) .fin) .fin) .fin)) .fin))) .fin)))))) mixed (by kernel_rfl) ?_ ?_
      · simp [h1, h2, h4, h5, hA, hC, two_fst]
        repeat' (refine And.intro ?_ ?_)
        all_goals
          refine gall_intro fun x hx => ?_
          have n1 : ¬ c = x := ne_some (by simp [hC]) hx
          have n2 : ¬ a = x := ne_some (by simp [hA]) hx
          have n1' : ¬ x = c := fun e => n1 e.symm
          have n2' : ¬ x = a := fun e => n2 e.symm
          simp [h1, h2, h4, h5, hA, hC, two_fst, two_snd, n1, n1', n2, n2']
          repeat' (refine And.intro ?_ ?_)
        all_goals
          refine gall_intro fun y hy => ?_
          have m0 : ¬ x = y := ne_some (by simp [hC]) hy
          have m0' : ¬ y = x := fun e => m0 e.symm
          have m1 : ¬ c = y := ne_some (by simp [hC, n1, n1']) hy
          have m2 : ¬ a = y := ne_some (by simp [hA, n2, n2']) hy
          have m1' : ¬ y = c := fun e => m1 e.symm
          have m2' : ¬ y = a := fun e => m2 e.symm
          simp [h1, h2, h4, h5, hA, hC, two_fst, two_snd, n1, n1', n2, n2', m0, m0', m1, m1', m2, m2']
      · rintro ⟨σ, H⟩ ⟨x, y, h1, h2, h4, h8, h9, hA, hx, hy⟩
        simp only at h1 h2 h4 h8 h9 hA hx hy
        simp [h1]
        refine gall_intro fun z hz => ?_
        have nx : ¬ x = z := ne_some (by simp [hx]) hz
        have ny : ¬ y = z := ne_some (by simp [hy]) hz
        have na : ¬ a = z := ne_some (by simp [hA]) hz
        have nx' : ¬ z = x := fun e => nx e.symm
        have ny' : ¬ z = y := fun e => ny e.symm
        have na' : ¬ z = a := fun e => na e.symm
        simp [h1, h2, h4, h8, h9]
        refine TWcH.loop [] (fun m s' => ∃ q, q + m = t.length + 1 ∧ s'.σ 1 = .val (.string (bs t)) ∧ s'.σ 2 = .rptr [.val (.int .i64 k), .ro (s.map encS), .ro (l.map encRex)] 0 ∧ s'.σ 4 = .pd a 0 0 0 ∧ s'.σ 8 = .pd x 0 0 0 ∧ s'.σ 9 = .pd y 0 0 0 ∧ s'.σ 10 = .val (.int .i64 t.length) ∧ s'.σ 11 = .pd z 0 0 0 ∧ s'.σ 12 = .val (.int .i64 q) ∧ s'.H a = some (.box 136 (tabL noT)) ∧ s'.H x = some (.box 136 (tabL A)) ∧ s'.H y = some (.box 136 (tabL B)) ∧ s'.H z = some (.box 136 (tabL (tabS (isF (d + 1) (.mk k s l)) t q 0)))) (t.length + 1) ⟨0, by simp [h1, h2, h4, h8, h9, hA, hx, hy, nx, ny, na]; exact tabS_zero⟩ ?_
        rintro m ⟨σ, H⟩ ⟨q, hm, h1, h2, h4, h8, h9, h10, h11, h12, hA, hx, hy, hz⟩
        simp only at h1 h2 h4 h8 h9 h10 h11 h12 hA hx hy hz
        by_cases hq : q ≤ t.length
        · have hw := hw1 (show q < 13 by omega) (by omega)
          simp [h1, h2, h4, h8, h9, h10, h11, h12, hq]
          refine TWcH.loop [] (fun m' s' => ∃ i, i + q + m' = t.length + 1 ∧ s'.σ 1 = .val (.string (bs t)) ∧ s'.σ 2 = .rptr [.val (.int .i64 k), .ro (s.map encS), .ro (l.map encRex)] 0 ∧ s'.σ 4 = .pd a 0 0 0 ∧ s'.σ 8 = .pd x 0 0 0 ∧ s'.σ 9 = .pd y 0 0 0 ∧ s'.σ 10 = .val (.int .i64 t.length) ∧ s'.σ 11 = .pd z 0 0 0 ∧ s'.σ 12 = .val (.int .i64 q) ∧ s'.σ 13 = .val (.int .i64 i) ∧ s'.H a = some (.box 136 (tabL noT)) ∧ s'.H x = some (.box 136 (tabL A)) ∧ s'.H y = some (.box 136 (tabL B)) ∧ s'.H z = some (.box 136 (tabL (tabS (isF (d + 1) (.mk k s l)) t q i)))) (t.length + 1 - q) ⟨0, by simp [h1, h2, h4, h8, h9, h10, h11, h12, hA, hx, hy, hz]; omega⟩ ?_
          rintro m' ⟨σ, H⟩ ⟨i, hm', g1, g2, g4, g8, g9, g10, g11, g12, g13, gA, gx', gy', gz⟩
          simp only at g1 g2 g4 g8 g9 g10 g11 g12 g13 gA gx' gy' gz
          have hwq : IntKind.i64.wrap ((i : Int) + q) = (i : Int) + q := wrapi (by omega)
          by_cases hi : i + q ≤ t.length
          · have hi' : (i : Int) + q ≤ t.length := by omega
            have hwi := hw1 (show i < 13 by omega) (by omega)
            have lt1 : i < 13 := by omega
            have lt2 : i + q < 13 := by omega
            have set_z := fun b => set_tab (T := tabS (isF (d + 1) (.mk k s l)) t q i) lt1 lt2 b
            have b1 : i * 13 + (i + q) + 1 ≤ 169 := by omega
            have j13 : (i : Int) + q < 13 := by omega
            have i13 : (i : Int) < 13 := by omega
            have j0 : (0 : Int) ≤ (i : Int) + q := by omega
            have jn : ((i : Int) + q).toNat = i + q := by omega
            have fin : ∀ b, b = isF (d + 1) (.mk k s l) (piece t i (i + q)) → ∃ m'', m'' < m' ∧ ∃ i', i' + q + m'' = t.length + 1 ∧ (i : Int) + 1 = (i' : Int) ∧ tabL (updT (tabS (isF (d + 1) (.mk k s l)) t q i) i (i + q) b) = tabL (tabS (isF (d + 1) (.mk k s l)) t q i') := fun b hb => ⟨m' - 1, by omega, i + 1, by omega, by omega, by rw [hb, tabS_set hi]⟩
            have hpl : (piece t i (i + q)).length = q := by simp [piece]; omega
            have hiq : i + q ≤ t.length := hi
            have hAt : ∀ f : List UInt8 → Bool, tabF f t i (i + q) = f (piece t i (i + q)) := fun f => tabF_at (by omega) hi
            rcases form_kids hf with ⟨hk, rfl⟩ | ⟨ra, hk, rfl, fa⟩ | ⟨ra, rb, hk, rfl, fa, fb⟩
            · rcases hk with rfl | rfl
              · by_cases hq1 : q = 1
                · subst hq1
                  have hit : i < t.length := by omega
                  have hpe : piece t i (i + 1) = [t[i]] := by
                    simp only [piece, List.drop_take, show i + 1 - i = 1 by omega]
                    rw [List.drop_eq_getElem_cons hit]; rfl
                  have hsl : s.length ≤ 1152921504606846976 := by have := hs.1; omega
                  have e1 : (i : Int) + 1 ≤ t.length := by omega
                  have e2 : ((i : Int) + 1).toNat = i + 1 := by omega
                  have e3 : (i : Int) + 1 < 13 := by omega
                  have e4 : (0 : Int) ≤ (i : Int) + 1 := by omega
                  have e5 : (i : Int) < t.length := by omega
                  simp [g1, g2, g4, g8, g9, g10, g11, g12, g13, gA, gx', gy', gz, hwq, hi', hwi, i13, j13, j0, jn, b1, nx', ny', na', nx, ny, na, cut_tab lt1 lt2, set_z, e1, e2, e3, e4, e5]
                  refine TWcH.regionD (ρ := []) [0, 1, 2, 3, 4, 5, 6, 7, 8, 9, 10, 11] 12 mixed (by kernel_rfl) ?_
                  simp [g1, g2, g4, g8, g9, g10, g11, g12, g13, gA, gx', gy', gz, hwq, hi', hwi, i13, j13, j0, jn, b1, nx', ny', na', nx, ny, na, cut_tab lt1 lt2, set_z, e1, e2, e3, e4, e5, getI hit, hit]
                  refine TWqH.callV (tc_iSetHas s t[i].toNat hsl) callable_135 (by simp [g1, g2, g4, g8, g9, g10, g11, g12, g13, gA, gx', gy', gz, hwq, hi', hwi, i13, j13, j0, jn, b1, nx', ny', na', nx, ny, na, cut_tab lt1 lt2, set_z, e1, e2, e3, e4, e5]) (by simp) (by simp) (by simp) ?_
                  simp [g1, g2, g4, g8, g9, g10, g11, g12, g13, gA, gx', gy', gz, hwq, hi', hwi, i13, j13, j0, jn, b1, nx', ny', na', nx, ny, na, cut_tab lt1 lt2, set_z, e1, e2, e3, e4, e5]
                  exact fin _ (by rw [hpe]; simp [isF])
                · have hq1' : ¬ ((q : Int) = 1) := by omega
                  simp [g1, g2, g4, g8, g9, g10, g11, g12, g13, gA, gx', gy', gz, hwq, hi', hwi, i13, j13, j0, jn, b1, nx', ny', na', nx, ny, na, cut_tab lt1 lt2, set_z]
                  refine TWcH.regionD (ρ := []) [0, 1, 2, 3, 4, 5, 6, 7, 8, 9, 10, 11] 12 mixed (by kernel_rfl) ?_
                  simp [g1, g2, g4, g8, g9, g10, g11, g12, g13, gA, gx', gy', gz, hwq, hi', hwi, i13, j13, j0, jn, b1, nx', ny', na', nx, ny, na, cut_tab lt1 lt2, set_z, hq1, hq1']
                  exact fin _ (by simp [isF, hpl, hq1])
              · simp [g1, g2, g4, g8, g9, g10, g11, g12, g13, gA, gx', gy', gz, hwq, hi', hwi, i13, j13, j0, jn, b1, nx', ny', na', nx, ny, na, cut_tab lt1 lt2, set_z]
                exact fin _ (by simp [isF, ← List.length_eq_zero_iff, hpl])
            · obtain rfl : A = tabF (isF d ra) t := hfA ra rfl (by simp)
              rcases hk with rfl | rfl
              · simp [g1, g2, g4, g8, g9, g10, g11, g12, g13, gA, gx', gy', gz, hwq, hi', hwi, i13, j13, j0, jn, b1, nx', ny', na', nx, ny, na, cut_tab lt1 lt2, set_z]
                refine TWcH.loop [] (fun m3 s' => ∃ o, o + m3 = q ∧ s'.σ 1 = .val (.string (bs t)) ∧ s'.σ 2 = .rptr [.val (.int .i64 5), .ro (s.map encS), .ro ([ra].map encRex)] 0 ∧ s'.σ 4 = .pd a 0 0 0 ∧ s'.σ 8 = .pd x 0 0 0 ∧ s'.σ 9 = .pd y 0 0 0 ∧ s'.σ 10 = .val (.int .i64 t.length) ∧ s'.σ 11 = .pd z 0 0 0 ∧ s'.σ 12 = .val (.int .i64 q) ∧ s'.σ 13 = .val (.int .i64 i) ∧ s'.σ 14 = .val (.int .i64 ((i : Int) + q)) ∧ s'.σ 17 = .val (.int .i64 (i + 1 + o : Nat)) ∧ s'.σ 15 = .val (.bool (starP (isF d ra) t i q o)) ∧ s'.H a = some (.box 136 (tabL noT)) ∧ s'.H x = some (.box 136 (tabL (tabF (isF d ra) t))) ∧ s'.H y = some (.box 136 (tabL B)) ∧ s'.H z = some (.box 136 (tabL (tabS (isF (d + 1) (.mk 5 s [ra])) t q i)))) q ⟨0, by simp [g1, g2, g4, g8, g9, g10, g11, g12, g13, gA, gx', gy', gz, hwq, hi', hwi, i13, j13, j0, jn, b1, nx', ny', na', nx, ny, na, cut_tab lt1 lt2, set_z, starP]⟩ ?_
                rintro m3 ⟨σ, H⟩ ⟨o, ho, f1, f2, f4, f8, f9, f10, f11, f12, f13, f14, fk, f15, fA, fx, fy, fz⟩
                simp only at f1 f2 f4 f8 f9 f10 f11 f12 f13 f14 fk f15 fA fx fy fz
                by_cases hoq : o < q
                · have k1 : (i : Int) + 1 + o ≤ (i : Int) + q := by omega
                  have k2 : (i : Int) + 1 + o < 13 := by omega
                  have k3 : (0 : Int) ≤ (i : Int) + 1 + o := by omega
                  have k4 : ((i : Int) + 1 + o).toNat = i + 1 + o := by omega
                  have k5 : i * 13 + (i + 1 + o) + 1 ≤ 169 := by omega
                  have k6 : (i + 1 + o) * 13 + (i + q) + 1 ≤ 169 := by omega
                  have k7 : IntKind.i64.wrap ((i : Int) + 1 + o + 1) = (i : Int) + 1 + o + 1 := wrapi (by omega)
                  have k8 : tabF (isF d ra) t i (i + 1 + o) = isF d ra (piece t i (i + 1 + o)) := tabF_at (by omega) (by omega)
                  have k9 : tabS (isF (d + 1) (.mk 5 s [ra])) t q i (i + 1 + o) (i + q) = starF (isF d ra) (piece t (i + 1 + o) (i + q)) := by
                    rw [tabS_at (by omega) (by omega) (by omega)]; simp [isF]
                  have k10 : i + 1 + o < 13 := by omega
                  simp [f1, f2, f4, f8, f9, f10, f11, f12, f13, f14, fk, f15, fA, fx, fy, fz, hwq, hi', hwi, i13, j13, j0, jn, b1, nx', ny', na', nx, ny, na, k1, k2, k3, k4, k5, k6, k7]
                  refine gif_intro (fun c1 => ?_) (fun c1 => ?_) <;> simp [f1, f2, f4, f8, f9, f10, f11, f12, f13, f14, fk, f15, fA, fx, fy, fz, hwq, hi', hwi, i13, j13, j0, jn, b1, nx', ny', na', nx, ny, na, k1, k2, k3, k4, k5, k6, k7, c1, cut_tab lt1 k10, k8]
                  · exact ⟨m3 - 1, by omega, o + 1, by omega, by omega, by rw [starP_succ, c1]; rfl⟩
                  · refine gif_intro (fun c2 => ?_) (fun c2 => ?_) <;> simp [f1, f2, f4, f8, f9, f10, f11, f12, f13, f14, fk, f15, fA, fx, fy, fz, hwq, hi', hwi, i13, j13, j0, jn, b1, nx', ny', na', nx, ny, na, k1, k2, k3, k4, k5, k6, k7, c1, c2, cut_tab k10 lt2, k8, k9]
                    · exact ⟨m3 - 1, by omega, o + 1, by omega, by omega, by rw [starP_succ, Bool.eq_false_iff.2 c1, c2]; rfl⟩
                    · exact ⟨m3 - 1, by omega, o + 1, by omega, by omega, by rw [starP_succ, Bool.eq_false_iff.2 c1, Bool.eq_false_iff.2 c2]; rfl⟩
                · obtain rfl : o = q := by omega
                  have k1 : ¬ ((i : Int) + 1 + o ≤ (i : Int) + o) := by omega
                  simp [f1, f2, f4, f8, f9, f10, f11, f12, f13, f14, fk, f15, fA, fx, fy, fz, hwq, hi', hwi, i13, j13, j0, jn, b1, nx', ny', na', nx, ny, na, k1, set_z]
                  exact fin _ (by rw [starP_all hiq]; simp [isF])
              · simp [g1, g2, g4, g8, g9, g10, g11, g12, g13, gA, gx', gy', gz, hwq, hi', hwi, i13, j13, j0, jn, b1, nx', ny', na', nx, ny, na, cut_tab lt1 lt2, set_z]
                exact fin _ (by rw [hAt]; simp [isF])
            · obtain rfl : A = tabF (isF d ra) t := hfA ra rfl (by simp)
              obtain rfl : B = tabF (isF d rb) t := hfB rb rfl (by simp)
              rcases hk with rfl | rfl | rfl
              · simp [g1, g2, g4, g8, g9, g10, g11, g12, g13, gA, gx', gy', gz, hwq, hi', hwi, i13, j13, j0, jn, b1, nx', ny', na', nx, ny, na, cut_tab lt1 lt2, set_z]
                refine TWcH.loop [] (fun m3 s' => ∃ o, o + m3 = q + 1 ∧ s'.σ 1 = .val (.string (bs t)) ∧ s'.σ 2 = .rptr [.val (.int .i64 3), .ro (s.map encS), .ro ([ra, rb].map encRex)] 0 ∧ s'.σ 4 = .pd a 0 0 0 ∧ s'.σ 8 = .pd x 0 0 0 ∧ s'.σ 9 = .pd y 0 0 0 ∧ s'.σ 10 = .val (.int .i64 t.length) ∧ s'.σ 11 = .pd z 0 0 0 ∧ s'.σ 12 = .val (.int .i64 q) ∧ s'.σ 13 = .val (.int .i64 i) ∧ s'.σ 14 = .val (.int .i64 ((i : Int) + q)) ∧ s'.σ 16 = .val (.int .i64 (i + o : Nat)) ∧ s'.σ 15 = .val (.bool (catP (isF d ra) (isF d rb) t i q o)) ∧ s'.H a = some (.box 136 (tabL noT)) ∧ s'.H x = some (.box 136 (tabL (tabF (isF d ra) t))) ∧ s'.H y = some (.box 136 (tabL (tabF (isF d rb) t))) ∧ s'.H z = some (.box 136 (tabL (tabS (isF (d + 1) (.mk 3 s [ra, rb])) t q i)))) (q + 1) ⟨0, by simp [g1, g2, g4, g8, g9, g10, g11, g12, g13, gA, gx', gy', gz, hwq, hi', hwi, i13, j13, j0, jn, b1, nx', ny', na', nx, ny, na, cut_tab lt1 lt2, set_z, catP]⟩ ?_
                rintro m3 ⟨σ, H⟩ ⟨o, ho, f1, f2, f4, f8, f9, f10, f11, f12, f13, f14, fk, f15, fA, fx, fy, fz⟩
                simp only at f1 f2 f4 f8 f9 f10 f11 f12 f13 f14 fk f15 fA fx fy fz
                by_cases hoq : o ≤ q
                · have k1 : (i : Int) + o ≤ (i : Int) + q := by omega
                  have k2 : (i : Int) + o < 13 := by omega
                  have k3 : (0 : Int) ≤ (i : Int) + o := by omega
                  have k4 : ((i : Int) + o).toNat = i + o := by omega
                  have k5 : i * 13 + (i + o) + 1 ≤ 169 := by omega
                  have k6 : (i + o) * 13 + (i + q) + 1 ≤ 169 := by omega
                  have k7 : IntKind.i64.wrap ((i : Int) + o + 1) = (i : Int) + o + 1 := wrapi (by omega)
                  have k8 : tabF (isF d ra) t i (i + o) = isF d ra (piece t i (i + o)) := tabF_at (by omega) (by omega)
                  have k9 : tabF (isF d rb) t (i + o) (i + q) = isF d rb (piece t (i + o) (i + q)) := tabF_at (by omega) (by omega)
                  have k10 : i + o < 13 := by omega
                  simp [f1, f2, f4, f8, f9, f10, f11, f12, f13, f14, fk, f15, fA, fx, fy, fz, hwq, hi', hwi, i13, j13, j0, jn, b1, nx', ny', na', nx, ny, na, k1, k2, k3, k4, k5, k6, k7]
                  refine gif_intro (fun c1 => ?_) (fun c1 => ?_) <;> simp [f1, f2, f4, f8, f9, f10, f11, f12, f13, f14, fk, f15, fA, fx, fy, fz, hwq, hi', hwi, i13, j13, j0, jn, b1, nx', ny', na', nx, ny, na, k1, k2, k3, k4, k5, k6, k7, c1, cut_tab lt1 k10, k8]
                  · exact ⟨m3 - 1, by omega, o + 1, by omega, by omega, by rw [catP_succ, c1]; rfl⟩
                  · refine gif_intro (fun c2 => ?_) (fun c2 => ?_) <;> simp [f1, f2, f4, f8, f9, f10, f11, f12, f13, f14, fk, f15, fA, fx, fy, fz, hwq, hi', hwi, i13, j13, j0, jn, b1, nx', ny', na', nx, ny, na, k1, k2, k3, k4, k5, k6, k7, c1, c2, cut_tab k10 lt2, k8, k9]
                    · exact ⟨m3 - 1, by omega, o + 1, by omega, by omega, by rw [catP_succ, Bool.eq_false_iff.2 c1, c2]; rfl⟩
                    · exact ⟨m3 - 1, by omega, o + 1, by omega, by omega, by rw [catP_succ, Bool.eq_false_iff.2 c1, Bool.eq_false_iff.2 c2]; rfl⟩
                · obtain rfl : o = q + 1 := by omega
                  have k1 : ¬ ((i : Int) + ((q : Int) + 1) ≤ (i : Int) + q) := by omega
                  simp [f1, f2, f4, f8, f9, f10, f11, f12, f13, f14, fk, f15, fA, fx, fy, fz, hwq, hi', hwi, i13, j13, j0, jn, b1, nx', ny', na', nx, ny, na, k1, set_z]
                  exact fin _ (by rw [catP_all hiq]; simp [isF])
              · simp [g1, g2, g4, g8, g9, g10, g11, g12, g13, gA, gx', gy', gz, hwq, hi', hwi, i13, j13, j0, jn, b1, nx', ny', na', nx, ny, na, cut_tab lt1 lt2, set_z]
                refine gif_intro (fun c1 => ?_) (fun c1 => ?_) <;> simp [g1, g2, g4, g8, g9, g10, g11, g12, g13, gA, gx', gy', gz, hwq, hi', hwi, i13, j13, j0, jn, b1, nx', ny', na', nx, ny, na, cut_tab lt1 lt2, set_z, c1]
                · exact fin _ (by rw [hAt] at c1; simp [isF, c1])
                · exact fin _ (by rw [hAt] at c1 ⊢; simp [isF, Bool.eq_false_iff.2 c1])
              · simp [g1, g2, g4, g8, g9, g10, g11, g12, g13, gA, gx', gy', gz, hwq, hi', hwi, i13, j13, j0, jn, b1, nx', ny', na', nx, ny, na, cut_tab lt1 lt2, set_z]
                refine gif_intro (fun c1 => ?_) (fun c1 => ?_) <;> simp [g1, g2, g4, g8, g9, g10, g11, g12, g13, gA, gx', gy', gz, hwq, hi', hwi, i13, j13, j0, jn, b1, nx', ny', na', nx, ny, na, cut_tab lt1 lt2, set_z, c1]
                · exact fin _ (by rw [hAt] at c1 ⊢; simp [isF, c1])
                · exact fin _ (by rw [hAt] at c1; simp [isF, Bool.eq_false_iff.2 c1])
          · have hi' : ¬ ((i : Int) + q ≤ t.length) := by omega
            simp [g1, g2, g4, g8, g9, g10, g11, g12, g13, gA, gx', gy', gz, hwq, hi', hw]
            exact ⟨m - 1, by omega, q + 1, by omega, by omega, tabS_next (by omega)⟩
        · simp [h1, h2, h4, h8, h9, h10, h11, h12, hA, hx, hy, hz, hq, na, na']
          rw [tabS_all (by omega)]
end Go.Proofs.Ytigmibfacllhmaa.R

open Go Go.Proofs.Ytigmibfacllhmaa.T
namespace Go.Proofs.Ytigmibfacllhmaa.R
set_option maxHeartbeats 4000000
set_option maxRecDepth 100000
set_option linter.unusedSimpArgs false
set_option linter.unusedVariables false
theorem row0 {T : Nat → Nat → Bool} {j : Nat} (hj : j < 13) : ((tabL T).take 13)[j]? = some (.val (.bool (T 0 j))) := by
  rw [List.getElem?_take_of_lt hj]
  have := get_tab (T := T) (i := 0) (by omega) hj
  rwa [Nat.zero_mul, Nat.zero_add] at this
theorem row0' {T : Nat → Nat → Bool} {j : Nat} (hj : j < 13) : (tabL T)[j]? = some (.val (.bool (T 0 j))) := by
  have := get_tab (T := T) (i := 0) (by omega) hj
  rwa [Nat.zero_mul, Nat.zero_add] at this
def matchIs (r : Rex) (t : List UInt8) : Bool := rexOk r && decide (t.length ≤ 12) && isF 8 r t
theorem tc_iMatchIs (r : Rex) (t : List UInt8) (hs : Sm r) : TC Try.prog 79 [.agg (encRex r), .val (.string (bs t))] [] (.val (.bool (matchIs r t))) [] := by
  refine TC.enter Try.func79 rfl (by simp [Try.ntmps79]) rfl (tw_sound (ρ := [2]) ?_)
  rw [Try.ntmps79]
  simp
  refine TWoH.callV (tc_iRexOk r hs) callable_116 (by simp) (by simp) (by simp) (by simp) ?_
  simp
  refine gif_intro (fun c1 => ?_) (fun c1 => ?_) <;> simp [c1]
  case refine_2 => simp [matchIs, c1]
  refine TWoH.callV (tc_iMatchWord t) callable_78 (by simp) (by simp) (by simp) (by simp) ?_
  simp [c1]
  refine gif_intro (fun c2 => ?_) (fun c2 => ?_) <;> simp [c1, c2]
  case refine_2 => simp [matchIs, c2]
  have hf : formF 8 r = true := by simp only [rexOk, Bool.and_eq_true] at c1; exact c1.1
  refine TWoH.callV (tc_pieces 8 r t hs hf c2) callable_117 (by simp) (by simp) (by simp) (by simp) ?_
  have e13 : (t.length : Int) < 13 := by omega
  have h0 : tabF (isF 8 r) t 0 t.length = isF 8 r t := by rw [tabF_at (by omega) (by omega)]; simp [piece]
  simp [c1, c2, partTV, e13, row0 (show t.length < 13 by omega), row0' (show t.length < 13 by omega), h0, matchIs]
theorem tc_iRulesFirst (l : List Rule) (t : List UInt8) (hs : RSm l) : TC Try.prog 27 [.ro (l.map encRule), .val (.string (bs t))] [] (.val (.int .i64 (rulesFirst l t))) [] := by
  refine TC.enter Try.func27 rfl (by simp [Try.ntmps27]) rfl (tw_sound (ρ := []) ?_)
  rw [Try.ntmps27]
  simp
  refine TWoH.callV (tc_iRulesOk l hs) callable_77 (by simp) (by simp) (by simp) (by simp) ?_
  simp
  refine gif_intro (fun c1 => ?_) (fun c1 => ?_) <;> simp [c1]
  case refine_2 => simp [rulesFirst, c1]
  refine TWoH.callV (tc_iMatchWord t) callable_78 (by simp) (by simp) (by simp) (by simp) ?_
  simp
  refine gif_intro (fun c2 => ?_) (fun c2 => ?_) <;> simp [c2]
  case refine_2 => simp [rulesFirst, c2]
  have hr : rulesFirst l t = firstF l t 0 := by simp [rulesFirst, c1, c2]
  refine TWcH.loop [] (fun m s => ∃ i, i + m = l.length ∧ s.σ 1 = .val (.string (bs t)) ∧ s.σ 15 = .ro (l.map encRule) ∧ s.σ 16 = .val (.int .i64 l.length) ∧ s.σ 17 = .val (.int .i64 i) ∧ firstF l t 0 = firstF l t i) l.length ⟨0, by simp⟩ ?_
  rintro m ⟨σ, H⟩ ⟨i, him, h1, h15, h16, h17, hh⟩
  simp only at h1 h15 h16 h17
  by_cases hi : i < l.length
  · rw [firstF_next hi] at hh
    have hw := hw1 hi (by have := hs.1; omega)
    have hsi := hs.2 _ (List.getElem_mem hi)
    have hm : matchIs l[i].rex t = isF 8 l[i].rex t := by
      have h2 : rexOk l[i].rex = true := by
        simp only [rulesOk, okFrom, Bool.and_eq_true, List.all_eq_true, List.mem_range'_1] at c1
        have h1 := c1.2 i (by omega)
        simp only [ruleAt, getI hi, Bool.and_eq_true] at h1
        exact h1.1.2
      simp [matchIs, h2, c2]
    simp [h1, h15, h16, h17, getI hi, hi]
    refine gall_intro fun a ha => ?_
    simp [h1, h15, h16, h17, getI hi, hi, encRule]
    refine TWoH.callV (tc_iMatchIs l[i].rex t hsi.1) callable_79 (by simp [h1]) (by simp) (by simp) (by simp) ?_
    rw [hm]
    simp [h1, h15, h16, h17, getI hi, hi, encRule]
    refine gif_intro (fun c3 => ?_) (fun c3 => ?_) <;> simp [h1, h15, h16, h17, getI hi, hi, encRule, c3, hw]
    · rw [hr, hh, if_pos c3]
    · exact ⟨m - 1, by omega, i + 1, by omega, by omega, by rw [hh, if_neg c3]⟩
  · simp [h1, h15, h16, h17, hi]
    rw [hr, hh, firstF_end hi]
end Go.Proofs.Ytigmibfacllhmaa.R

open Go Go.Proofs.Ytigmibfacllhmaa.T
namespace Go.Proofs.Ytigmibfacllhmaa.R
set_option linter.unusedSimpArgs false
set_option linter.unusedVariables false
theorem szN_ok {n : Nat} {left : Int} (hn : n ≤ 1152921504606846976) (h0 : 0 ≤ left) (h1 : left ≤ 1048576) (h : ¬ szN n left < 0) : (n : Int) ≤ left ∧ szN n left = left - n := by
  have hw : IntKind.i64.wrap (left - n) = left - n := wrapi (by omega)
  unfold szN at h ⊢
  rw [hw] at h ⊢
  split at h
  · exact absurd h (by omega)
  · rename_i h2
    rw [if_neg h2]
    omega
def BSpan (x : Int × Int) : Prop := (Lit.int .i64 x.1).wf = true ∧ (Lit.int .i64 x.2).wf = true
theorem rdSpan (n : Nat) : RdT Try.prog n 146 encS BSpan :=
  ((RdT.struct (sz := 2) Try.underlying146 rfl (by kernel_rfl) (FsT.cons (sz := 1) (sz' := 1) (RdT.int n Try.underlying3) rfl (by kernel_rfl) (FsT.one (RdT.int n Try.underlying3) rfl (by kernel_rfl)))).le (Nat.le_succ n)).iso id fun x hx => ⟨rfl, hx⟩
theorem rdRex : ∀ n, RdT Try.prog n 93 encRex Small
  | 0 => RdT.zero
  | n + 1 => by
    have ih := rdRex n
    refine (RdT.struct (sz := 1 + (1 + 1)) Try.underlying93 rfl (by kernel_rfl) (FsT.cons (sz := 1) (sz' := 1 + 1) (RdT.int n Try.underlying3) rfl (by kernel_rfl)
      (FsT.cons (sz := 1) (sz' := 1) ((RdT.slice (b := 16) (rdSpan n) Try.underlying90 (by kernel_rfl)).le (Nat.le_succ n)) rfl (by kernel_rfl)
        (FsT.one ((RdT.slice (b := 56) ih Try.underlying91 (by kernel_rfl)).le (Nat.le_succ n)) rfl (by kernel_rfl))))).iso (fun x => Rex.mk x.1 x.2.1 x.2.2) fun x hx => ⟨by simp [encRex, encRexL_eq], ?_⟩
    obtain ⟨_, ⟨h1, _⟩, h2, h3⟩ := hx
    have hr : reachBytes = 140737488351232 := rfl
    have key : ∀ l : List Rex, (∀ r ∈ l, Small r) → SmallL l := by
      intro l
      induction l with
      | nil => intro _; exact trivial
      | cons r l ih => intro h; exact ⟨h r (by simp), ih fun q hq => h q (by simp [hq])⟩
    exact ⟨by omega, by omega, key _ h3⟩
def BRule (r : Rule) : Prop := r.name.length ≤ 1152921504606846976 ∧ Small r.rex
theorem rdRule (n : Nat) : RdT Try.prog n 95 encRule BRule := by
  refine ((RdT.struct (sz := 1 + 3) Try.underlying95 rfl (by kernel_rfl) (FsT.cons (sz := 1) (sz' := 3) (RdT.string n Try.underlying9) rfl (by kernel_rfl) (FsT.one (rdRex n) rfl (by kernel_rfl)))).le (Nat.le_succ n)).iso (fun x => Rule.mk x.1 x.2) fun x hx => ⟨by simp [encRule], ?_⟩
  have hr : reachBytes = 140737488351232 := rfl
  exact ⟨by have := hx.1; simp only; omega, hx.2⟩
def BRules (l : List Rule) : Prop := l.length ≤ 1152921504606846976 ∧ ∀ r ∈ l, BRule r
theorem rdRules (n : Nat) : RdT Try.prog n 41 (fun l : List Rule => [.ro (l.map encRule)]) BRules := by
  refine ((RdT.slice (b := 72) (rdRule n) Try.underlying41 (by kernel_rfl)).le (Nat.le_succ n)).imp fun x hx => ⟨?_, hx.2⟩
  have hr : reachBytes = 140737488351232 := rfl
  have := hx.1
  omega
end Go.Proofs.Ytigmibfacllhmaa.R

open Go Go.Proofs.Ytigmibfacllhmaa.T
namespace Go.Proofs.Ytigmibfacllhmaa.R
set_option linter.unusedSimpArgs false
set_option linter.unusedVariables false
theorem ite_neg1 {c : Prop} [Decidable c] {x : Int} (h : ¬ (if c then -1 else x) < 0) : ¬ c ∧ ¬ x < 0 := by
  split at h
  · exact absurd h (by omega)
  · exact ⟨by assumption, h⟩
mutual
theorem szRex_ok : ∀ (r : Rex) (left : Int), Small r → 0 ≤ left → left ≤ 1048576 → ¬ szRexF r left < 0 → Sm r ∧ szRexF r left ≤ left
  | .mk k s l, left, hs, h0, h1, h => by
    rw [szRexF_eq] at h ⊢
    obtain ⟨c1, h⟩ := ite_neg1 h
    obtain ⟨c2, h⟩ := ite_neg1 h
    rw [if_neg c1, if_neg c2]
    obtain ⟨a1, a2⟩ := szN_ok hs.1 h0 h1 c1
    have hw : IntKind.i64.wrap (szN s.length left - l.length) = szN s.length left - l.length := wrapi (by have := hs.2.1; omega)
    unfold szRexSF at c2 ⊢
    obtain ⟨c3, c4⟩ := ite_neg1 c2
    rw [if_neg c3]
    rw [hw] at c3 c4 ⊢
    obtain ⟨b1, b2⟩ := szLoop_ok l _ hs.2.2 (by omega) (by omega) c4
    exact ⟨⟨by omega, by omega, b1⟩, by omega⟩
theorem szLoop_ok : ∀ (l : List Rex) (left : Int), SmallL l → 0 ≤ left → left ≤ 1048576 → ¬ szLoopF l left < 0 → SmL l ∧ szLoopF l left ≤ left
  | [], left, hs, h0, h1, h => ⟨trivial, by simp [szLoopF]⟩
  | r :: l, left, hs, h0, h1, h => by
    rw [szLoopF] at h ⊢
    obtain ⟨c1, h⟩ := ite_neg1 h
    rw [if_neg c1]
    obtain ⟨a1, a2⟩ := szRex_ok r left hs.1 h0 h1 c1
    obtain ⟨b1, b2⟩ := szLoop_ok l _ hs.2 (by omega) (by omega) h
    exact ⟨⟨a1, b1⟩, by omega⟩
end
theorem szRules_ok : ∀ (l : List Rule) (left : Int), (∀ r ∈ l, BRule r) → 0 ≤ left → left ≤ 1048576 → ¬ szRulesLoop l left < 0 → ∀ r ∈ l, Sm r.rex ∧ r.name.length ≤ 1048576
  | [], left, hs, h0, h1, h => by intro r hr; cases hr
  | r :: l, left, hs, h0, h1, h => by
    rw [szRulesLoop] at h
    obtain ⟨c1, h⟩ := ite_neg1 h
    have hb := hs r (by simp)
    unfold szRuleF at c1
    obtain ⟨c2, c3⟩ := ite_neg1 c1
    obtain ⟨c4, c5⟩ := ite_neg1 c3
    obtain ⟨a1, a2⟩ := szN_ok hb.1 h0 h1 c2
    obtain ⟨b1, b2⟩ := szRex_ok r.rex _ hb.2 (by omega) (by omega) c4
    have e : szRuleF r left = szRexF r.rex (szN r.name.length left) := by unfold szRuleF; rw [if_neg c2, if_neg c4]
    rw [e] at h
    have := szRules_ok l _ (fun q hq => hs q (by simp [hq])) (by omega) (by omega) h
    intro q hq
    rcases List.mem_cons.1 hq with rfl | hq
    · exact ⟨b1, by omega⟩
    · exact this q hq
theorem RSm_of {l : List Rule} (hB : BRules l) (h : ¬ szRulesF l 1048576 < 0) : RSm l := by
  unfold szRulesF at h
  obtain ⟨c1, h⟩ := ite_neg1 h
  have hw : IntKind.i64.wrap ((1048576 : Int) - l.length) = (1048576 : Int) - l.length := wrapi (by have := hB.1; omega)
  rw [hw] at c1 h
  exact ⟨by omega, szRules_ok l _ hB.2 (by omega) (by omega) h⟩
set_option maxHeartbeats 4000000
set_option maxRecDepth 100000
/-- The law as a whole answers true. -/
theorem tc_law4 (l : List Rule) (t : List UInt8) (hB : BRules l) : TC Try.prog 7 [.ro (l.map encRule), .val (.string (bs t))] [] (.val (.bool true)) [] := by
  refine TC.enter Try.func7 rfl (by simp [Try.ntmps7]) rfl (tw_sound (ρ := []) ?_)
  rw [Try.ntmps7]
  simp
  refine gif_intro (fun c1 => ?_) (fun c1 => ?_) <;> simp [c1]
  refine TWoH.callV (tc_szRuleS l hB.1 (fun r hr => (hB.2 r hr).2) 1048576) callable_24 (by simp) (by simp) (by simp) (by simp) ?_
  simp
  refine gif_intro (fun c2 => ?_) (fun c2 => ?_) <;> simp [c2]
  have hs := RSm_of hB c2
  have hto := tc_toRuleS l hs.1 fun r hr => (hs.2 r hr).1
  refine TWoH.callV hto callable_26 (by simp) (by simp) (by simp) (by simp) ?_
  simp
  refine TWoH.callV (tc_sRulesFirst l t hs) callable_25 (by simp) (by simp) (by simp) (by simp) ?_
  simp
  refine TWoH.callV hto callable_26 (by simp) (by simp) (by simp) (by simp) ?_
  simp
  refine TWoH.callV (tc_iRulesFirst l t hs) callable_27 (by simp) (by simp) (by simp) (by simp) ?_
  simp
  refine TWoH.callV hto callable_26 (by simp) (by simp) (by simp) (by simp) ?_
  simp
  refine TWoH.callV (tc_eqRuleS l hs) callable_28 (by simp) (by simp) (by simp) (by simp) ?_
  simp
end Go.Proofs.Ytigmibfacllhmaa.R

namespace Go.Proofs.Ytigmibfacllhmaa.fnExactRulesFirst
open Go.Proofs.Ytigmibfacllhmaa.R Go.ChangeShapes Go.WideShapes Go.ChangeAt Go.RowKit Go.Proofs.Ytigmibfacllhmaa.T
open Go.ChangeMaps (open_string shut_string)
set_option linter.unusedVariables false
set_option linter.unusedSimpArgs false
theorem own : ownKnob Try.prog.godebug = none := by kernel_rfl
theorem laidOut : laidOutB Try.prog = true := by kernel_rfl
set_option maxRecDepth 100000 in
theorem lifted (os : Os) (started : os.Started) (H : Type) (enc : TypeId × Value → H) :
    ReturnsInHanded {} Try.checked os 7 .any (Rows.fnExactRulesFirstSpec.pre6 enc Try.prog Try.f7 Rows.fnExactRulesFirstRow.domain false) (Rows.fnExactRulesFirstSpec.post enc Try.prog Try.f7 false true false false) := by
  refine returnsInHanded_of_change_sized (C := Try.checked) own started (by kernel_rfl) Try.func7
    (ChangeSpec.witness6 (enc := enc) (C := Try.checked) false ⟨#[], #[.slice none 0 0, .string ByteArray.empty], []⟩ 8 (by kernel_rfl) (by kernel_rfl) (by kernel_rfl) (by kernel_rfl)) ?_
  intro W base args ds gs before hval0 hW hcnd hsz0 _
  have hsz : (DataW.weightsEach Try.prog (Try.f7.params.toList ++ Rows.fnExactRulesFirstSpec.plain.varTypes Try.prog) (ds ++ gs)).all (· ≤ reachBytes) = true := hsz0
  have hval : ∀ (j : Nat) t v, Try.f7.params[j]? = some t → args[j]? = some v → Value.okWide Try.prog W .any base t v := hval0
  have hW' := hW
  obtain ⟨p, q, hA0, hV, rfl, hfz, hnd⟩ := hW
  have hA : DataW.TrodAll enc Try.prog W 0 (fun _ => true) true Try.f7.params.toList args.toList ds p := hA0
  rw [Try.params7] at hA hval hsz
  obtain ⟨v0, vs0, d0, ds0, p0, q0, hargs, rfl, rfl, h0, r0⟩ := trodAll_cons hA
  obtain ⟨v1, vs1, d1, ds1, p1, q1, rfl, rfl, rfl, h1, r1⟩ := trodAll_cons r0
  obtain ⟨rfl, rfl, rfl⟩ := trodAll_nil r1
  obtain rfl : args = #[v0, v1] := by cases args; simp_all
  obtain ⟨rfl, rfl⟩ := trodVars_none hV
  have z0 : ∀ q ∈ d0.weights Try.prog 41, q ≤ reachBytes := fun q hq => by simpa using List.all_eq_true.1 hsz q (DataW.weights_mem_each (j := 0) rfl rfl q hq)
  have k0 := h0
  have lt0 : ∀ x ∈ p0, x.block < W.heap.size := by obtain ⟨m, hm⟩ := k0; exact DataW.trod_lt m _ _ _ hm
  obtain ⟨x0, hx0, y0⟩ := RdT.arg (fun n => rdRules n) h0 z0
  obtain ⟨a0, len0, cap0, rfl⟩ := okWide_slice Try.underlying41 (hval 0 41 v0 rfl rfl)
  obtain ⟨a1, rfl, rfl, rfl, y1⟩ := open_string Try.underlying9 (hval 1 9 v1 rfl rfl) h1
  clear hA0 hval0 hsz0 hsz
  have ha : RepL Try.prog (eW W) [.ro (x0.map encRule), .val (.string (bs a1.data.toList))] [.slice a0 len0 cap0, .string a1] noF := by
    have hx : RepL Try.prog (eW W) [.ro (x0.map encRule)] [.slice a0 len0 cap0] noF := hx0
    have h2 : RepL Try.prog (eW W) [.val (.string (bs a1.data.toList))] [.string a1] noF := repL_one.2 (by rw [← bs_eq]; simp [Rep, emp_noF])
    have := RepL.append hx h2 (fun b m m' x _ => x.elim)
    have en' : Uni noF noF = noF := by funext b m; simp [Uni, noF]
    rw [en'] at this
    exact this
  refine ((tc_law4 x0 a1.data.toList y0).law ha).mono fun e W' ⟨he, bel⟩ => ?_
  subst he
  exact ⟨_, rfl, _, _, _, [], _, [], hW', trodAll_mk1 (shut_bool Try.underlying4 _), (trodAll_cons_mk (Below.trod laidOut (by kernel_rfl) (of_decide_eq_true (by kernel_rfl)) k0 bel lt0) (trodAll_cons_mk (shut_string Try.underlying9 y1) trodAll_mk0)), rfl, bel.frame _, fun h => by cases h⟩
theorem over : Rows.fnExactRulesFirstRow.holds Try.pinned (OpenSpec.ofChange Rows.fnExactRulesFirstSpec) :=
  OpenClaim.holds_of_wide 7 Try.f7 rfl rfl rfl rfl rfl rfl rfl ⟨rfl, rfl, rfl, rfl, rfl⟩ rfl rfl rfl rfl rfl (by kernel_rfl) Try.func7 (by kernel_rfl)
    (of_decide_eq_true (by kernel_rfl)) (by unfold Func.isWrapper; first | (rw [if_pos (by decide +kernel)]; kernel_rfl) | (rw [if_neg (by decide +kernel)]; exact ⟨rfl, rfl⟩))
    (fun os started H enc _ => lifted os started H enc)
theorem proved : Rows.FnExactRulesFirstSaid := over
end Go.Proofs.Ytigmibfacllhmaa.fnExactRulesFirst
namespace Go.Proofs.Ytigmibfacllhmaa
theorem fnExactRulesFirst_holds : Rows.FnExactRulesFirstSaid := fnExactRulesFirst.proved
end Go.Proofs.Ytigmibfacllhmaa
