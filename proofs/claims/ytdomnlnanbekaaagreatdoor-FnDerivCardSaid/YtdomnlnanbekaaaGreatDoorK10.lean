/- Part 10: what the walk of the code stands on. Conditions: none but those that each theorem states. -/
import Derived.Test.YtdomnlnanbekaaaGreatDoorK9
open Go Go.Proofs.YtdomnlnanbekaaaGreatDoor.T
namespace Go.Proofs.YtdomnlnanbekaaaGreatDoor.R
set_option maxHeartbeats 4000000
set_option maxRecDepth 100000
set_option linter.unusedSimpArgs false
set_option linter.unusedVariables false
attribute [local simp] bsV bsRows chunk fillT partsT appV makeV rowsOf cellsOf placeOf
theorem tc_isNothing (x : Rx) : TC Tryz.prog 172 [.agg (encX x)] [] (.val (.bool (isNo x))) [] := by
  refine TC.enter Tryz.func172 rfl (by simp [Tryz.ntmps172]) rfl (tw_sound (ρ := [1]) ?_)
  rw [Tryz.ntmps172]
  simp [encX_eq, kind_no]
  by_cases c : x.kind = 1 <;> simp [c, kind_no]
theorem tc_isAll (x : Rx) : TC Tryz.prog 175 [.agg (encX x)] [] (.val (.bool (isAll x))) [] := by
  refine TC.enter Tryz.func175 rfl (by simp [Tryz.ntmps175]) rfl (tw_sound (ρ := [1]) ?_)
  rw [Tryz.ntmps175]
  cases x with
  | not a =>
    simp [encX_eq (.not a), Rx.kind, Rx.kids, Rx.span]
    refine TWoH.callV (tc_isNothing a) callable_172 (by simp) (by simp) (by simp) (by simp) ?_
    simp [isAll]
  | _ => simp [encX_eq, Rx.kind, isAll]
theorem tc_nothing : TC Tryz.prog 152 [] [] (.agg (encX (.set []))) [] := by
  refine frzX (r0 := .agg [.val (.int .i64 1), .val (.slice none 0 0), .val (.slice none 0 0)]) ?_ (by simp [X_set])
  refine TC.enter Tryz.func152 rfl (by simp [Tryz.ntmps152]) rfl (tw_sound (ρ := []) ?_)
  rw [Tryz.ntmps152]
  simp
  refine gall_intro fun i g => ?_
  simp
def two (k : Int) (a b : Rx) : List TV := [.val (.int .i64 k), .ro [], .ro [encX a, encX b]]
theorem tc_two0 (k : Int) (a b : Rx) : TC Tryz.prog 173 [.val (.int .i64 k), .agg (encX a), .agg (encX b)] [] (.agg (two k a b)) [] := by
  have h : TC Tryz.prog 173 [.val (.int .i64 k), .agg (encX a), .agg (encX b)] [] (.agg [.val (.int .i64 k), .val (.slice none 0 0), .own 37 [encX a, encX b]]) [] := by
    refine TC.enter Tryz.func173 rfl (by simp [Tryz.ntmps173]) rfl (tw_sound (ρ := [4, 5]) ?_)
    rw [Tryz.ntmps173]
    simp
    refine gall_intro fun i g => ?_
    simp [encX_eq a, encX_eq b]
    refine gall_fresh [i] (by simp) fun j fj => ?_
    simp [frF] at fj
    simp [fj]
    exact ⟨(encX_eq a).symm, (encX_eq b).symm⟩
  have := h.frz
  simpa [two, roL_X] using this
theorem tc_two (k : Int) (hk : k = 4 ∨ k = 6) (a b : Rx) : TC Tryz.prog 173 [.val (.int .i64 k), .agg (encX a), .agg (encX b)] [] (.agg (encX (mk2 k a b))) [] := by
  have := tc_two0 k a b
  rcases hk with rfl | rfl
  · simpa [mk2, X_or, two] using this
  · simpa [mk2, X_and, two] using this
theorem tc_two3 (a b : Rx) : TC Tryz.prog 173 [.val (.int .i64 3), .agg (encX a), .agg (encX b)] [] (.agg (encX (.cat a b))) [] := by
  have := tc_two0 3 a b
  simpa [X_cat, two] using this
theorem tc_normStar (x : Rx) : TC Tryz.prog 134 [.agg (encX x)] [] (.agg (encX (starX x))) [] := by
  by_cases hs : ∃ a, x = .star a
  · obtain ⟨a, rfl⟩ := hs
    refine TC.enter Tryz.func134 rfl (by simp [Tryz.ntmps134]) rfl (tw_sound (ρ := [1]) ?_)
    rw [Tryz.ntmps134]
    simp
    refine gall_intro fun i g => ?_
    simp [starX, encX_eq (.star a), Rx.kind, Rx.kids, Rx.span]
  have k5 : ¬ x.kind = 5 := fun e => by cases x <;> simp [Rx.kind] at e; exact hs ⟨_, rfl⟩
  have hst : starX x = if x = .emp ∨ isNo x = true then .emp else .star x := by cases x <;> first | rfl | exact absurd ⟨_, rfl⟩ hs
  rw [hst]
  have k2 : x = .emp ↔ x.kind = 2 := by cases x <;> simp [Rx.kind]
  by_cases c2 : x.kind = 2
  · rw [if_pos (.inl (k2.2 c2))]
    refine frzX (r0 := .agg [.val (.int .i64 2), .val (.slice none 0 0), .val (.slice none 0 0)]) ?_ (by simp [encX_eq, Rx.kind, Rx.kids, Rx.span])
    refine TC.enter Tryz.func134 rfl (by simp [Tryz.ntmps134]) rfl (tw_sound (ρ := [1]) ?_)
    rw [Tryz.ntmps134]
    simp
    refine gall_intro fun i g => ?_
    simp [encX_eq x, k5, c2]
  by_cases c1 : isNo x = true
  · rw [if_pos (.inr c1)]
    refine frzX (r0 := .agg [.val (.int .i64 2), .val (.slice none 0 0), .val (.slice none 0 0)]) ?_ (by simp [encX_eq, Rx.kind, Rx.kids, Rx.span])
    refine TC.enter Tryz.func134 rfl (by simp [Tryz.ntmps134]) rfl (tw_sound (ρ := [1]) ?_)
    rw [Tryz.ntmps134]
    simp
    refine gall_intro fun i g => ?_
    simp [encX_eq x, k5, c2]
    refine TWoH.callV (tc_isNothing x) callable_172 (by simp [encX_eq x]) (by simp) (by simp) (by simp) ?_
    simp [c1]
  · rw [if_neg (by rw [k2]; exact fun e => e.elim c2 c1)]
    refine frzX (r0 := .agg [.val (.int .i64 5), .val (.slice none 0 0), .own 37 [encX x]]) ?_ (by simp [encX_eq (.star x), Rx.kind, Rx.kids, Rx.span, roL_X])
    refine TC.enter Tryz.func134 rfl (by simp [Tryz.ntmps134]) rfl (tw_sound (ρ := [1]) ?_)
    rw [Tryz.ntmps134]
    simp
    refine gall_intro fun i g => ?_
    simp [encX_eq x, k5, c2]
    refine TWoH.callV (tc_isNothing x) callable_172 (by simp [encX_eq x]) (by simp) (by simp) (by simp) ?_
    simp [c1, encX_eq x]
    refine gall_fresh [i] (by simp) fun j fj => ?_
    simp [frF] at fj
    simp [fj]
    exact (encX_eq x).symm
theorem tc_normNot (x : Rx) : TC Tryz.prog 135 [.agg (encX x)] [] (.agg (encX (notX x))) [] := by
  by_cases hs : ∃ a, x = .not a
  · obtain ⟨a, rfl⟩ := hs
    refine TC.enter Tryz.func135 rfl (by simp [Tryz.ntmps135]) rfl (tw_sound (ρ := [1]) ?_)
    rw [Tryz.ntmps135]
    simp
    refine gall_intro fun i g => ?_
    simp [notX, encX_eq (.not a), Rx.kind, Rx.kids, Rx.span]
  have k7 : ¬ x.kind = 7 := fun e => by cases x <;> simp [Rx.kind] at e; exact hs ⟨_, rfl⟩
  have hst : notX x = .not x := by cases x <;> first | rfl | exact absurd ⟨_, rfl⟩ hs
  rw [hst]
  refine frzX (r0 := .agg [.val (.int .i64 7), .val (.slice none 0 0), .own 37 [encX x]]) ?_ (by simp [encX_eq (.not x), Rx.kind, Rx.kids, Rx.span, roL_X])
  refine TC.enter Tryz.func135 rfl (by simp [Tryz.ntmps135]) rfl (tw_sound (ρ := [1]) ?_)
  rw [Tryz.ntmps135]
  simp
  refine gall_intro fun i g => ?_
  simp [encX_eq x, k7]
  refine gall_fresh [i] (by simp) fun j fj => ?_
  simp [frF] at fj
  simp [fj]
  exact (encX_eq x).symm
theorem tc_normCat0 (a b : Rx) (ih : ∀ x y, a = .cat x y → (∀ b, TC Tryz.prog 131 [.agg (encX x), .agg (encX b)] [] (.agg (encX (catX x b))) []) ∧ (∀ b, TC Tryz.prog 131 [.agg (encX y), .agg (encX b)] [] (.agg (encX (catX y b))) [])) : TC Tryz.prog 131 [.agg (encX a), .agg (encX b)] [] (.agg (encX (catX a b))) [] := by
  refine TC.enter Tryz.func131 rfl (by simp [Tryz.ntmps131]) rfl (tw_sound (ρ := [2, 3]) ?_)
  rw [Tryz.ntmps131]
  simp
  refine gall_intro fun i g => ?_
  simp
  refine TWoH.callV (tc_isNothing a) callable_172 (by simp) (by simp) (by simp) (by simp) ?_
  cases ha : isNo a
  case true =>
    rw [catX_no (by simp [ha])]
    simp
    refine TWoH.callV tc_nothing callable_152 (by simp) (by simp) (by simp) (by simp) ?_
    simp
  simp
  refine TWoH.callV (tc_isNothing b) callable_172 (by simp) (by simp) (by simp) (by simp) ?_
  cases hb : isNo b
  case true =>
    rw [catX_no (by simp [hb])]
    simp
    refine TWoH.callV tc_nothing callable_152 (by simp) (by simp) (by simp) (by simp) ?_
    simp
  have ea := encX_eq a
  have eb := encX_eq b
  by_cases c2 : a.kind = 2
  · obtain rfl := (kind_emp a).2 c2
    rw [catX_l hb]
    simp [X_emp]
  by_cases c1 : b.kind = 2
  · obtain rfl := (kind_emp b).2 c1
    rw [catX_r ha]
    simp [X_emp, ea, c2]
  by_cases c3 : a.kind = 3
  · obtain ⟨x, y, rfl⟩ := no_kind c3
    obtain ⟨ihx, ihy⟩ := ih x y rfl
    rw [catX_c hb (fun e => c1 ((kind_emp b).1 e))]
    simp [X_cat, eb, c1]
    refine TWcH.regionD (ρ := [2, 3]) [0, 1, 2, 3, 4, 5, 6, 7, 8, 9, 10, 11] 11 mixed (by kernel_rfl) ?_
    simp [X_cat, eb]
    refine TWqH.callV (ihy b) callable_131 (by simp [eb]) (by simp) (by simp) (by simp) ?_
    simp
    refine TWqH.callV (ihx (catX y b)) callable_131 (by simp) (by simp) (by simp) (by simp) ?_
    simp
  · rw [catX_o ha hb (fun e => c1 ((kind_emp b).1 e)) c2 c3]
    simp [ea, eb, c1, c2, c3]
    refine TWoH.callV (tc_two3 a b) callable_173 (by simp [ea, eb]) (by simp) (by simp) (by simp) ?_
    simp
theorem tc_normCat : ∀ (a b : Rx), TC Tryz.prog 131 [.agg (encX a), .agg (encX b)] [] (.agg (encX (catX a b))) [] := by
  intro a
  induction a with
  | cat x y ihx ihy => intro b; exact tc_normCat0 _ b fun x' y' e => by cases e; exact ⟨ihx, ihy⟩
  | _ => intro b; exact tc_normCat0 _ b fun x' y' e => by cases e
end Go.Proofs.YtdomnlnanbekaaaGreatDoor.R

open Go Go.Proofs.YtdomnlnanbekaaaGreatDoor.T
namespace Go.Proofs.YtdomnlnanbekaaaGreatDoor.R
set_option maxHeartbeats 8000000
set_option maxRecDepth 100000
set_option linter.unusedSimpArgs false
set_option linter.unusedVariables false
attribute [local simp] bsV bsRows chunk fillT partsT appV makeV rowsOf cellsOf placeOf
theorem X_mk2' {k : Int} (hk : k = 4 ∨ k = 6) (a b : Rx) : encX (mk2 k a b) = [.val (.int .i64 k), .ro [], .ro [encX a, encX b]] := by
  rcases hk with rfl | rfl
  · simp [mk2, X_or]
  · simp [mk2, X_and]
theorem tc_joined (k : Int) (hk : k = 4 ∨ k = 6) : ∀ (n : Nat) (x : Rx), x.sz ≤ n → ∀ l : List Rx, l.length + x.sz ≤ 1000000000 → TC Tryz.prog 189 [.val (.int .i64 k), .agg (encX x), .hd 0] [.own 37 (l.map encX)] (.own 37 ((l ++ listX k x).map encX)) [.any]
  | 0, x, hn, _, _ => by have := x.sz_pos; omega
  | n + 1, x, hn, l, hl => by
    refine TC.enter Tryz.func189 rfl (by simp [Tryz.ntmps189]) rfl (tw_sound (ρ := [4, 13]) ?_)
    rw [Tryz.ntmps189]
    by_cases hx : x.kind = k
    · obtain ⟨a, b, rfl⟩ := kind_mk2 hk hx
      rw [sz_mk2] at hn hl
      have la := listX_len k a
      have lb := listX_len k b
      have iha := tc_joined k hk n a (by omega) l (by omega)
      have ihb := tc_joined k hk n b (by omega) (l ++ listX k a) (by simp only [List.length_append]; omega)
      simp [X_mk2' hk]
      refine TWcH.regionB (ρ := [4, 13]) (.first 0 (.first 1 (.first 5 (.first 6 (.first 10 (.pick 2 (.first 3 (.pick 4 (.pick 7 (.first 8 (.pick 9 (.pick 11 (.pick 12 (.first 13 .fin) .fin) .fin) .fin)) .fin) (.pick 7 (.first 8 (.pick 4 (.pick 9 (.pick 11 (.pick 12 (.first 13 .fin) .fin) .fin) .fin) (.pick 9 (.pick 4 (.pick 11 (.pick 12 (.first 13 .fin) .fin) .fin) (.pick 11 (.pick 4 (.pick 12 (.first 13 .fin) .fin) .fin) .fin)) .fin))) .fin))) (.pick 7 (.first 8 (.pick 2 (.first 3 (.pick 4 (.pick 9 (.pick 11 (.pick 12 (.first 13 .fin) .fin) .fin) .fin) (.pick 9 (.pick 4 (.pick 11 (.pick 12 (.first 13 .fin) .fin) .fin) (.pick 11 (.pick 4 (.pick 12 (.first 13 .fin) .fin) .fin) .fin)) .fin))) (.pick 9 (.pick 2 (.first 3 (.pick 4 (.pick 11 (.pick 12 (.first 13 .fin) .fin) .fin) (.pick 11 (.pick 4 (.pick 12 (.first 13 .fin) .fin) .fin) .fin))) (.pick 11 (.pick 2 (.first 3 (.pick 4 (.pick 12 (.first 13 .fin) .fin) .fin)) .fin) .fin)) .fin))) .fin))))))) mixed (by kernel_rfl) ?_
      simp
      repeat' first
        | refine And.intro ?_ ?_
        | (refine TWoH.lend [q] ihb callable_189 (by simp [-List.map_append]) (by simp [-List.map_append]) (by simp) (by simp [-List.map_append]) (by simp [isObjA]) (by simp [-List.map_append]) (.inl (by simp)) fun q2 hq2 => ?_
           clear hq2
           simp [-List.map_append])
        | (refine TWoH.lend [0] iha callable_189 (by simp) (by simp) (by simp) (by simp) (by simp [isObjA]) (by simp [-List.map_append]) (.inl (by simp)) fun q hq => ?_
           clear hq
           simp [-List.map_append])
      all_goals
        refine ⟨_, _, ⟨rfl, rfl⟩, by rw [listX_mk2 hk], by simp [-List.map_append], ?_⟩
        have hx : ∀ (A B : Option TV) (p q : Prop) [Decidable p] [Decidable q], ((if p then none else if p then A else if q then none else if q then B else none : Option TV)).getD TV.any = TV.any := by intro A B p q _ _; by_cases hp : p <;> by_cases hq : q <;> simp [hp, hq]
        simp only [del, Go.Proofs.YtdomnlnanbekaaaGreatDoor.T.upd]
        exact hx _ _ _ _
    · have ex := encX_eq x
      have hsp := x.sz_pos
      have k1 : (l.length + 1) * 56 ≤ 140737488355328 := by omega
      have k2 : l.length ≤ 9223372036854775806 := by omega
      simp [ex, hx, k1, k2]
      refine gall_fresh [0] (by simp) fun i g => ?_
      simp [frF] at g
      simp [listX_ne_kind hk hx, ex, g, k1, k2]
      exact ⟨_, _, ⟨rfl, rfl⟩, by simp, by simp [noHR_ap], by simp [delo, del, Go.Proofs.YtdomnlnanbekaaaGreatDoor.T.upd, g]⟩
theorem chainX_drop {k : Int} {l : List Rx} {i : Nat} (h : i + 1 < l.length) : chainX k (l.drop i) = mk2 k l[i] (chainX k (l.drop (i + 1))) := by
  rw [List.drop_eq_getElem_cons (by omega : i < l.length)]
  obtain ⟨y, t, e⟩ : ∃ y t, l.drop (i + 1) = y :: t := by
    cases c : l.drop (i + 1) with
    | nil => have := congrArg List.length c; simp at this; omega
    | cons y t => exact ⟨y, t, rfl⟩
  rw [e]; rfl
theorem tc_chain (l : List Rx) (k : Int) (hk : k = 4 ∨ k = 6) (hl : l ≠ []) (hlen : l.length ≤ 1000000000) : TC Tryz.prog 176 [.val (.int .i64 k), .ro (l.map encX)] [] (.agg (encX (chainX k l))) [] := by
  have hp : 0 < l.length := List.length_pos_iff.2 hl
  refine TC.enter Tryz.func176 rfl (by simp [Tryz.ntmps176]) rfl (tw_sound (ρ := []) ?_)
  rw [Tryz.ntmps176]
  have w1 : IntKind.i64.wrap ((l.length : Int) - 1) = ((l.length - 1 : Nat) : Int) := by rw [wrapi (by omega)]; omega
  have w2 : IntKind.i64.wrap ((l.length : Int) - 2) = (l.length : Int) - 2 := wrapi (by omega)
  have hi1 : l.length - 1 < l.length := by omega
  obtain ⟨y, hy⟩ : ∃ y, ∀ h, l[l.length - 1]'h = y := ⟨l[l.length - 1], fun _ => rfl⟩
  simp
  refine gall_intro fun c0 g0 => ?_
  clear g0
  simp [w1, w2, hp, hi1, hy]
  refine gall_fresh [c0] (by simp) fun c1 f1 => ?_
  simp [frF] at f1
  simp [f1]
  have e0 : chainX k (l.drop (l.length - 1)) = y := by rw [List.drop_eq_getElem_cons hi1, show l.length - 1 + 1 = l.length from by omega, List.drop_length, hy]; rfl
  refine TWcH.loop [] (fun m st => m + 1 ≤ l.length ∧ st.σ 0 = .val (.int .i64 k) ∧ st.σ 1 = .ro (l.map encX) ∧ st.σ 4 = .pd c0 0 0 0 ∧ st.σ 5 = .pd c1 0 0 0 ∧ st.σ 6 = .val (.int .i64 ((m : Int) - 1)) ∧ st.H c0 = some (.box 37 [.val (.int .i64 0), .val (.slice none 0 0), .val (.slice none 0 0)]) ∧ st.H c1 = some (.box 37 (encX (chainX k (l.drop m))))) (l.length - 1) ⟨by omega, by simp, by simp, by simp, by simp, by simp; omega, by simp [f1], by simp [f1, e0]⟩ ?_
  rintro m ⟨σ, H⟩ ⟨hm, h0, h1, h4, h5, h6, hA, hC⟩
  simp only at h0 h1 h4 h5 h6 hA hC
  by_cases hi : 1 ≤ m
  case neg =>
    obtain rfl : m = 0 := by omega
    rw [List.drop_zero] at hC
    simp [h0, h1, h4, hA, h5, h6, hC, f1]
  have q1 : (1 : Int) ≤ (m : Int) := by omega
  have q2 : ((m : Int) - 1) < l.length := by omega
  have q3 : ((m : Int) - 1).toNat = m - 1 := by omega
  have q4 : m - 1 < l.length := by omega
  have q5 : IntKind.i64.wrap ((m : Int) - 1 - 1) = ((m - 1 : Nat) : Int) - 1 := by rw [wrapi (by omega)]; omega
  have hst := chainX_drop (k := k) (l := l) (i := m - 1) (by omega)
  have e : m - 1 + 1 = m := by omega
  simp only [e] at hst
  obtain ⟨z, hz⟩ : ∃ z, chainX k (l.drop m) = z := ⟨_, rfl⟩
  obtain ⟨x, hx⟩ : ∃ x, ∀ h, l[m - 1]'h = x := ⟨l[m - 1], fun _ => rfl⟩
  rw [hz, hx] at hst
  rw [hz] at hC
  have ex := encX_eq x
  have ez := encX_eq z
  simp [h0, h1, h4, hA, h5, h6, hC, f1, q1, q2, q3, q4, hx]
  refine TWcH.regionD (ρ := []) [0, 1, 2, 3, 4, 5, 6, 7] 7 mixed (by kernel_rfl) ?_
  simp [h0, h1, h4, hA, h5, h6, hC, f1, q1, q2, q3, q4, hx]
  refine TWqH.callV (tc_two k hk x z) callable_173 (by simp) (by simp) (by simp) (by simp) ?_
  simp [h0, h1, h4, hA, h5, h6, hC, f1, q1, q2, q3, q4, q5, hx]
  exact ⟨m - 1, by omega, by omega, by simp [hA, f1], by rw [hst, List.drop_eq_nil_of_le (by simp), List.append_nil]⟩
end Go.Proofs.YtdomnlnanbekaaaGreatDoor.R

open Go Go.Proofs.YtdomnlnanbekaaaGreatDoor.T
namespace Go.Proofs.YtdomnlnanbekaaaGreatDoor.R
set_option maxHeartbeats 8000000
set_option maxRecDepth 100000
set_option linter.unusedSimpArgs false
set_option linter.unusedVariables false
attribute [local simp] bsV bsRows chunk fillT partsT appV makeV rowsOf cellsOf placeOf
def meetS (p q : List (Int × Int)) : List (Int × Int) := if setOk p = true ∧ setOk q = true then spansF (meetF p q) else []
theorem tc_iSetMeet (p q : List (Int × Int)) (hp : p.length ≤ 1048576) (hq : q.length ≤ 1048576) : TC Tryz.prog 190 [.ro (p.map encSp), .ro (q.map encSp)] [] (.own 118 ((meetS p q).map encSp)) [] := by
  refine TC.enter Tryz.func190 rfl (by simp [Tryz.ntmps190]) rfl (TWc.postT (tw_sound (ρ := []) ?_))
  rw [Tryz.ntmps190]
  simp
  refine TWoH.callV (tc_iSetOk p (by omega)) callable_126 (by simp) (by simp) (by simp) (by simp) ?_
  unfold meetS
  by_cases ho : setOk p = true
  case neg =>
    simp [ho]
    refine Turn.nil 4 118 (by simp) fun id hid => ?_
    simp
  simp [ho]
  refine TWoH.callV (tc_iSetOk q (by omega)) callable_126 (by simp) (by simp) (by simp) (by simp) ?_
  by_cases ho' : setOk q = true
  case neg =>
    simp [ho']
    refine Turn.nil 4 118 (by simp) fun id hid => ?_
    simp
  simp [ho']
  refine TWoH.callV (tc_bitsOf p (by omega)) callable_113 (by simp) (by simp) (by simp) (by simp) ?_
  simp
  refine TWoH.callV (tc_bitsOf q (by omega)) callable_113 (by simp) (by simp) (by simp) (by simp) ?_
  simp
  refine gall_intro fun a ha => ?_
  clear ha
  simp
  refine gall_fresh [a] (by simp) fun c fc => ?_
  simp [frF] at fc
  simp [fc]
  refine TWcH.loop [] (fun m s => ∃ i : Nat, i + m = 256 ∧ s.σ 5 = .pd a 0 0 0 ∧ s.σ 6 = .pd c 0 0 0 ∧ s.σ 20 = .val (.int .i64 i) ∧ s.H a = some (.box 126 (bitsT fun b => if b < i then meetF p q b else hasS p b)) ∧ s.H c = some (.box 126 (bitsT fun b => hasS q b))) 256 ⟨0, by simp [fc]⟩ ?_
  rintro m ⟨σ, H⟩ ⟨i, him, h5, h6, h20, hA, hC⟩
  simp only at h5 h6 h20 hA hC
  by_cases hi : i < 256
  · have hw : IntKind.i64.wrap ((i : Int) + 1) = i + 1 := wrapi (by omega)
    have hi2 : (i : Int) < 256 := by omega
    have hi3 : i ≤ 255 := by omega
    have hnew : (fun b => if b = i then meetF p q i else if b < i then meetF p q b else hasS p b) = fun b => if b < i + 1 then meetF p q b else hasS p b := by
      funext b
      by_cases e : b = i
      · subst e; simp
      · by_cases e2 : b < i
        · simp [e, e2, show b < i + 1 by omega]
        · simp [e, e2, show ¬ b < i + 1 by omega]
    by_cases c1 : hasS p i = true
    · have hj : meetF p q i = hasS q i := by simp [meetF, c1]
      rw [hj] at hnew
      simp [h5, h6, h20, hA, hC, hi, hi2, hi3, fc, bitsT_cut hi, bitsT_at', bitsT_at hi, partTV, c1, bitsT_put hi, hw]
      exact ⟨m - 1, by omega, i + 1, by omega, by omega, by rw [← hnew]⟩
    · have hj : meetF p q i = false := by simp [meetF, c1]
      rw [hj] at hnew
      simp [h5, h6, h20, hA, hC, hi, hi2, hi3, fc, bitsT_cut hi, bitsT_at', bitsT_at hi, partTV, c1, bitsT_put hi, hw]
      exact ⟨m - 1, by omega, i + 1, by omega, by omega, by rw [← hnew]; apply bitsT_congr; intro b _; by_cases e : b = i <;> simp [e]⟩
  · obtain rfl : i = 256 := by omega
    have he : bitsT (fun b => if b < 256 then meetF p q b else hasS p b) = bitsT (meetF p q) := bitsT_congr fun b hb => by simp [hb]
    rw [he] at hA
    simp [h5, h6, h20, hA, hC, fc]
    refine TWoH.call (tc_spans (meetF p q)) callable_138 (by simp [hA, argTL_bits]) (by simp) (by simp) fun k hk => ?_
    simp [ho, ho']
    exact Turn.same (by simp)
theorem tc_iSetMeetR (p q : List (Int × Int)) (ho : setOk p = true) (ho' : setOk q = true) : TC Tryz.prog 190 [.ro (p.map encSp), .ro (q.map encSp)] [] (.ro ((spansF (meetF p q)).map encSp)) [] := by
  have := (tc_iSetMeet p q (by have := setOk_len ho; omega) (by have := setOk_len ho'; omega)).frz
  simpa [meetS, ho, ho'] using this
theorem tc_iSetJoinF (p q : List (Int × Int)) (ho : setOk p = true) (ho' : setOk q = true) : TC Tryz.prog 150 [.ro (p.map encSp), .ro (q.map encSp)] [] (.ro ((spansF (joinF p q)).map encSp)) [] := by
  have := (tc_iSetJoin p q (by have := setOk_len ho; omega) (by have := setOk_len ho'; omega)).frz
  have e : joinB p q = joinF p q := rfl
  simpa [joinS, ho, ho', e] using this
end Go.Proofs.YtdomnlnanbekaaaGreatDoor.R

open Go Go.Proofs.YtdomnlnanbekaaaGreatDoor.T Go.MapKept
namespace Go.Proofs.YtdomnlnanbekaaaGreatDoor.R
set_option maxHeartbeats 8000000
set_option maxRecDepth 100000
set_option linter.unusedSimpArgs false
set_option linter.unusedVariables false
attribute [local simp] bsV bsRows chunk fillT partsT appV makeV rowsOf cellsOf placeOf frzT frz1
def setBox (s : List (Int × Int)) : TV := .box 37 (encX (.set s))
/-- Where all have been gathered. -/
def BagA (k : Int) (all : List Rx) (st : St) : Prop := ∃ q c8, ¬ c8 = q ∧ ¬ q = c8 ∧ st.σ 0 = .val (.int .i64 k) ∧ st.σ 7 = .val (.slice none 0 0) ∧ st.σ 8 = .pd c8 0 0 0 ∧ st.H c8 = some (setBox []) ∧ st.σ 9 = .val (.bool false) ∧ st.σ 28 = .hd q ∧ st.H q = some (.own 37 (all.map encX)) ∧ st.σ 29 = .val (.int .i64 all.length) ∧ st.σ 30 = .val (.int .i64 0)
theorem setAcc_snoc (k : Int) (x : Rx) : ∀ (l : List Rx) (s : Option (List (Int × Int))), setAcc k s (l ++ [x]) = if x.kind = 1 then some (acc1 k (setAcc k s l) x) else setAcc k s l
  | [], s => by simp only [List.nil_append, setAcc_cons]; rfl
  | y :: l, s => by
    rw [List.cons_append, setAcc_cons, setAcc_cons]
    by_cases c : y.kind = 1
    · rw [if_pos c, if_pos c, setAcc_snoc k x l]
    · rw [if_neg c, if_neg c, setAcc_snoc k x l]
/-- The first loop: what is no set, and the one set. -/
def BagB (k : Int) (all : List Rx) (q c8 : Nat) (m : Nat) (st : St) : Prop := ∃ i o, i + m = all.length ∧ ¬ o = q ∧ ¬ o = c8 ∧ ¬ q = o ∧ ¬ c8 = o ∧ st.σ 0 = .val (.int .i64 k) ∧ st.σ 7 = .hd o ∧ st.H o = some (.own 37 (((all.take i).filter fun x => !isSet x).map encX)) ∧ st.σ 8 = .pd c8 0 0 0 ∧ st.H c8 = some (setBox ((setAcc k none (all.take i)).getD [])) ∧ st.σ 9 = .val (.bool (setAcc k none (all.take i)).isSome) ∧ st.σ 28 = .hd q ∧ st.H q = some (.own 37 (all.map encX)) ∧ st.σ 29 = .val (.int .i64 all.length) ∧ st.σ 30 = .val (.int .i64 i)
/-- Where the texts begin. -/
def BagC (k : Int) (all : List Rx) (st : St) : Prop := ∃ o, st.σ 7 = .hd o ∧ st.H o = some (.own 37 ((othersX k all).map encX))
theorem repL_vals3 {P : Program} {e : Env} {a b c : Value} : RepL P e [.val a, .val b, .val c] [a, b, c] noF := by
  have hv : ∀ u : Value, Rep P e (.val u) u noF := fun u => by simp only [Rep]; exact ⟨emp_noF, trivial⟩
  have hnil : RepL P e [] [] noF := by simp only [RepL]; exact ⟨trivial, emp_noF⟩
  have hcons : ∀ (u : Value) (ts : List TV) (us : List Value), RepL P e ts us noF → RepL P e (.val u :: ts) (u :: us) noF := fun u ts us h => by
    simp only [RepL]
    exact ⟨u, us, noF, noF, rfl, hv u, h, .of_emp emp_noF emp_noF emp_noF⟩
  exact hcons _ _ _ (hcons _ _ _ (hcons _ _ _ hnil))
def kvsX (D : List Rx) : List (Value × TV) := D.map fun x => (Value.string (bs (textX x)), TV.agg (encX x))
theorem strL : KLaw Tryz.prog 9 (IsKey .string) := KLaw.plain Tryz.underlying9
theorem tc_sortStr (xs : List (List UInt8)) (hl : xs.length ≤ 1152921504606846976) : TC Tryz.prog 192 [.hd 0] [.own 9 (xs.map encT)] (.tup []) [.own 9 ((sortT xs).map encT)] := tc_sortStrings_of laysS 9 (by simp) xs hl
theorem bs_inj {a b : List UInt8} (h : bs a = bs b) : a = b := by
  have := congrArg (fun x : ByteArray => x.data.toList) h
  exact this
theorem kvsX_key (D : List Rx) : ∀ q ∈ kvsX D, IsKey .string q.1 := by
  intro q hq
  obtain ⟨x, _, rfl⟩ := List.mem_map.1 hq
  exact trivial
theorem kvsX_in {D : List Rx} {x : Rx} (h : x ∈ D) : ∃ q ∈ kvsX D, q.1 = Value.string (bs (textX x)) := ⟨_, List.mem_map.2 ⟨x, h, rfl⟩, rfl⟩
theorem kvsX_at {D : List Rx} {x : Rx} (hD : ∀ y ∈ D, y.ok) (hx : x.ok) : ∀ q ∈ kvsX D, q.1 = Value.string (bs (textX x)) → q.2 = TV.agg (encX x) := by
  intro q hq e
  obtain ⟨y, hy, rfl⟩ := List.mem_map.1 hq
  simp only [Value.string.injEq] at e
  rw [textX_inj (hD y hy) hx (bs_inj e)]
theorem kvsX_not {D : List Rx} {x : Rx} (hD : ∀ y ∈ D, y.ok) (hx : x.ok) (h : x ∉ D) : ∀ q ∈ kvsX D, q.1 ≠ Value.string (bs (textX x)) := by
  intro q hq e
  obtain ⟨y, hy, rfl⟩ := List.mem_map.1 hq
  simp only [Value.string.injEq] at e
  rw [textX_inj (hD y hy) hx (bs_inj e)] at hy
  exact h hy
/-- The second loop: each text once. -/
def BagD (O : List Rx) (mp o : Nat) (m : Nat) (st : St) : Prop := ∃ i ky D, i + m = O.length ∧ D = (O.take i).foldl onceX [] ∧ D.length ≤ i ∧ (∀ x ∈ D, x ∈ O) ∧ st.σ 12 = .hd mp ∧ st.H mp = some (.mp 179 (mpr (kvsX D))) ∧ st.σ 13 = .hd ky ∧ st.H ky = some (.own 9 ((D.map textX).map encT)) ∧ st.σ 84 = .hd o ∧ st.H o = some (.own 37 (O.map encX)) ∧ st.σ 85 = .val (.int .i64 O.length) ∧ st.σ 86 = .val (.int .i64 i) ∧ ¬ ky = mp ∧ ¬ mp = ky ∧ ¬ ky = o ∧ ¬ o = ky
/-- The third: what is put out. -/
def BagE (D B : List Rx) (mp ky : Nat) (m : Nat) (st : St) : Prop := ∃ i ou, i + m = B.length ∧ st.σ 12 = .hd mp ∧ st.H mp = some (.mp 179 (mpr (kvsX D))) ∧ st.σ 110 = .hd ky ∧ st.H ky = some (.own 9 ((B.map textX).map encT)) ∧ st.σ 111 = .val (.int .i64 B.length) ∧ st.σ 112 = .val (.int .i64 i) ∧ st.σ 19 = .hd ou ∧ st.H ou = some (.own 37 ((B.take i).map encX)) ∧ ¬ ou = mp ∧ ¬ mp = ou ∧ ¬ ou = ky ∧ ¬ ky = ou
theorem tc_bag (k : Int) (hk : k = 4 ∨ k = 6) (a b : Rx) (ha : a.ok) (hb : b.ok) (hs : a.sz + b.sz ≤ 100000000) : TC Tryz.prog 174 [.val (.int .i64 k), .agg (encX a), .agg (encX b)] [] (.own 37 ((bagX k a b).map encX)) [] := by
  have la := listX_len k a
  have lb := listX_len k b
  have ta := tc_joined k hk a.sz a (Nat.le_refl _) [] (by simp; omega)
  have tb := tc_joined k hk b.sz b (Nat.le_refl _) (listX k a) (by omega)
  simp only [List.map_nil, List.nil_append] at ta
  refine TC.enter Tryz.func174 rfl (by simp [Tryz.ntmps174]) rfl (tw_sound (ρ := [4, 5, 46, 81, 102, 120]) ?_)
  rw [Tryz.ntmps174]
  have ea := encX_eq a
  have eb := encX_eq b
  simp
  refine gall_intro fun c8 g8 => ?_
  clear g8
  simp
  refine TWcH.turn (Turn.nrm c8 (t := .box 37 [.val (.int .i64 1), .val (.slice none 0 0), .val (.slice none 0 0)]) (by simp) ?_)
  simp [nrmO, nrm1]
  refine TWcH.midB (ρ := [4, 5, 46, 81, 102, 120]) (BagA k (listX k a ++ listX k b)) (.first 0 (.first 2 (.first 7 (.pick 1 (.pick 3 (.pick 4 (.pick 5 (.first 6 .fin) .fin) .fin) .fin) (.pick 3 (.pick 1 (.pick 4 (.pick 5 (.first 6 .fin) .fin) .fin) (.pick 4 (.pick 1 (.pick 5 (.first 6 .fin) .fin) .fin) .fin)) .fin))))) mixed (by kernel_rfl) ?_ ?_
  · simp
    repeat' first
      | refine And.intro ?_ ?_
      | (refine TWoH.lend [q] tb callable_189 (by simp [-List.map_append]) (by simp [-List.map_append]) (by simp) (by simp [-List.map_append]) (by simp [isObjA]) (by simp [-List.map_append]) (.inl (by simp)) fun q2 hq2 => ?_
         have f2 := frF_ge hq2 [c8] (by simp [fq])
         clear hq2
         simp [frF] at f2
         simp [-List.map_append, fq, f2])
      | (refine TWoH.lendN 37 [.val (.int .i64 k), .agg (encX a)] [] (by simp) ta callable_189 (fun id _ => by simp) (by simp) (fun id _ => .inl (by simp)) fun q hq => ?_
         have fq := frF_ge hq [c8] (by simp)
         clear hq
         simp [frF] at fq
         simp [fq])
    all_goals exact ⟨q2, c8, by simp [f2], by simp [f2], by simp, by simp, by simp, by simp [setBox, X_set, fq, f2], by simp, by simp, by simp [fq, f2], by simp, by simp⟩
  have hall : ∀ x ∈ listX k a ++ listX k b, x.ok ∧ x.sz ≤ 100000000 := fun x hx => by
    rcases List.mem_append.1 hx with hx | hx
    · exact ⟨listX_ok ha x hx, by have := listX_wt (k := k) a; have := wt_mem hx; omega⟩
    · exact ⟨listX_ok hb x hx, by have := listX_wt (k := k) b; have := wt_mem hx; omega⟩
  have hal : (listX k a ++ listX k b).length ≤ 100000000 := by rw [List.length_append]; omega
  rw [bagX_others]
  clear ta tb ea eb la lb
  generalize listX k a ++ listX k b = all at *
  rintro ⟨σ, H⟩ ⟨q, c8, n1, n2, h0, h7, h8, H8, h9, h28, Hq, h29, h30⟩
  simp only at h0 h7 h8 H8 h9 h28 Hq h29 h30
  simp
  refine TWcH.turn (Turn.nil 7 37 (by simp [h7]) fun o ho => ?_)
  have fo := frF_of ho [q, c8] (by simp [Hq, H8])
  clear ho
  simp [frF] at fo
  simp
  refine TWcH.loop [4, 5, 46, 81, 102, 120] (BagB k all q c8) all.length ⟨0, o, by simp, by simp [fo], by simp [fo], by simp [fo], by simp [fo], by simp [h0], by simp, by simp, by simp [h8], by simp [H8, fo, setAcc], by simp [h9, setAcc], by simp [h28], by simp [Hq, fo], by simp [h29], by simp [h30]⟩ ?_
  clear h0 h7 h8 H8 h9 h28 Hq h29 h30 fo
  clear σ H o
  rintro m ⟨σ, H⟩ ⟨i, o, him, no1, no2, no3, no4, h0, h7, Ho, h8, H8, h9, h28, Hq, h29, h30⟩
  simp only at h0 h7 Ho h8 H8 h9 h28 Hq h29 h30
  by_cases hi : i < all.length
  · have hw : IntKind.i64.wrap ((i : Int) + 1) = i + 1 := wrapi (by omega)
    have hxm := hall _ (List.getElem_mem hi)
    have hsn := setAcc_snoc k all[i] (all.take i) none
    rw [← List.take_succ_eq_append_getElem hi] at hsn
    have hfl : (all.take (i + 1)).filter (fun x => !isSet x) = (all.take i).filter (fun x => !isSet x) ++ (if all[i].kind = 1 then [] else [all[i]]) := by
      rw [List.take_succ_eq_append_getElem hi, List.filter_append]
      by_cases c : all[i].kind = 1 <;> simp [isSet, c]
    have hok : ∀ p, setAcc k none (all.take i) = some p → setOk p = true := acc_ok _ none (fun x hx => (hall x (List.mem_of_mem_take hx)).1) (fun p e => by cases e)
    obtain ⟨x, hx⟩ : ∃ x, ∀ h, all[i]'h = x := ⟨all[i], fun _ => rfl⟩
    rw [hx] at hxm hsn hfl
    have hflen : ((all.take i).filter fun x => !isSet x).length ≤ 100000000 := by
      have h1 := List.length_filter_le (fun x => !isSet x) (all.take i)
      rw [List.length_take] at h1; omega
    generalize hO : (all.take i).filter (fun x => !isSet x) = O at *
    generalize hA : setAcc k none (all.take i) = A at *
    have k1 : (O.length + 1) * 56 ≤ 140737488355328 := by omega
    have k2 : O.length ≤ 9223372036854775806 := by omega
    simp [h0, h7, Ho, h8, H8, h9, h28, Hq, h29, h30, hi, hx]
    refine gall_fresh [q, c8, o] (by simp [Hq, H8, Ho]) fun c fc => ?_
    simp [frF] at fc
    have ex := encX_eq x
    by_cases c1 : x.kind = 1
    case neg =>
      rw [if_neg c1] at hsn hfl
      simp [h0, h7, Ho, h8, H8, h9, h28, Hq, h29, h30, hi, hx, ex, c1, fc, no1, no2, no3, no4, k1, k2]
      refine gall_fresh [q, c8, o, c] (by simp [Hq, H8, Ho, fc]) fun o2 fo2 => ?_
      simp [frF] at fo2
      simp [h0, h7, Ho, h8, H8, h9, h28, Hq, h29, h30, hi, hx, ex, c1, fc, fo2, no1, no2, no3, no4, k1, k2, hw]
      exact ⟨m - 1, by omega, i + 1, o2, by omega, by simp [fo2], by simp [fo2], by simp [fo2], by simp [fo2], by simp [h0], by simp, by rw [hfl]; simp [ex], by simp [h8], by rw [hsn]; simp [H8, fo2, fc, delo, del, no1, no2, no3, no4], by rw [hsn]; simp [h9], by simp [h28], by simp [Hq, fo2, fc, delo, del, no1, no2, no3, no4], by simp [h29], by simp⟩
    rw [if_pos c1] at hsn hfl
    rw [List.append_nil] at hfl
    obtain ⟨s, rfl⟩ : ∃ s, x = .set s := by cases x <;> simp [Rx.kind] at c1; exact ⟨_, rfl⟩
    have hso : setOk s = true := hxm.1
    cases A with
    | none =>
      have e1 : acc1 k none (.set s) = s := rfl
      rw [e1] at hsn
      simp [h0, h7, Ho, h8, H8, h9, h28, Hq, h29, h30, hi, hx, ex, Rx.kind, Rx.span, Rx.kids, fc, no1, no2, no3, no4, setBox, X_set, hw]
      exact ⟨m - 1, by omega, i + 1, o, by omega, no1, no2, no3, no4, by simp [h0], by simp [h7], by rw [hfl]; simp [Ho, fc, no1, no2, no3, no4], by simp [h8], by rw [hsn]; simp [H8, fc, no1, no2, no3, no4, setBox, X_set], by rw [hsn]; simp, by simp [h28], by simp [Hq, fc, no1, no2, no3, no4, n1, n2], by simp [h29], by simp⟩
    | some p =>
      have hpo := hok p rfl
      rcases hk with rfl | rfl
      · have e1 : acc1 4 (some p) (.set s) = spansF (joinF p s) := rfl
        rw [e1] at hsn
        simp [h0, h7, Ho, h8, H8, h9, h28, Hq, h29, h30, hi, hx, ex, Rx.kind, Rx.span, Rx.kids, fc, no1, no2, no3, no4, setBox, X_set, hw]
        refine TWoH.callV (tc_iSetJoinF p s hpo hso) callable_150 (by simp) (by simp) (by simp) (by simp) ?_
        simp [h0, h7, Ho, h8, H8, h9, h28, Hq, h29, h30, hi, hx, ex, Rx.kind, Rx.span, Rx.kids, fc, no1, no2, no3, no4, setBox, X_set, hw]
        exact ⟨m - 1, by omega, i + 1, o, by omega, no1, no2, no3, no4, by simp [h0], by simp [h7], by rw [hfl]; simp [Ho, fc, no1, no2, no3, no4], by simp [h8], by rw [hsn]; simp [H8, fc, no1, no2, no3, no4, setBox, X_set], by rw [hsn]; simp [h9], by simp [h28], by simp [Hq, fc, no1, no2, no3, no4, n1, n2], by simp [h29], by simp⟩
      · have e1 : acc1 6 (some p) (.set s) = spansF (meetF p s) := rfl
        rw [e1] at hsn
        simp [h0, h7, Ho, h8, H8, h9, h28, Hq, h29, h30, hi, hx, ex, Rx.kind, Rx.span, Rx.kids, fc, no1, no2, no3, no4, setBox, X_set, hw]
        refine TWoH.callV (tc_iSetMeetR p s hpo hso) callable_190 (by simp) (by simp) (by simp) (by simp) ?_
        simp [h0, h7, Ho, h8, H8, h9, h28, Hq, h29, h30, hi, hx, ex, Rx.kind, Rx.span, Rx.kids, fc, no1, no2, no3, no4, setBox, X_set, hw]
        exact ⟨m - 1, by omega, i + 1, o, by omega, no1, no2, no3, no4, by simp [h0], by simp [h7], by rw [hfl]; simp [Ho, fc, no1, no2, no3, no4], by simp [h8], by rw [hsn]; simp [H8, fc, no1, no2, no3, no4, setBox, X_set], by rw [hsn]; simp [h9], by simp [h28], by simp [Hq, fc, no1, no2, no3, no4, n1, n2], by simp [h29], by simp⟩
  obtain rfl : i = all.length := by omega
  rw [List.take_length] at Ho H8 h9
  clear him Hq h28
  refine' (fun (key : ∀ st : St, BagC k all st → TWoH Tryz.prog 124 _ _ Hd.mk st) => ?main) ?key
  case main =>
    by_cases hA : setAcc k none all = none
    · rw [hA] at H8 h9
      simp [h0, h7, Ho, h8, H8, h9, h29, h30]
      refine key _ ?_
      exact ⟨o, by simp [h7], by simp [othersX, finX, hA, Ho]⟩
    obtain ⟨s, hs2⟩ : ∃ s, setAcc k none all = some s := by
      cases e : setAcc k none all with
      | none => exact absurd e hA
      | some s => exact ⟨s, rfl⟩
    rw [hs2] at H8 h9
    have hoX : othersX k all = all.filter (fun x => !isSet x) ++ (if s ≠ [] ∨ k = 6 ∨ all.filter (fun x => !isSet x) = [] then [.set s] else []) := by
      unfold othersX finX; rw [hs2]
    have hflen : (all.filter fun x => !isSet x).length ≤ 100000000 := by
      have h1 := List.length_filter_le (fun x => !isSet x) all
      omega
    generalize all.filter (fun x => !isSet x) = O at *
    have k1 : (O.length + 1) * 56 ≤ 140737488355328 := by omega
    have k2 : O.length ≤ 9223372036854775806 := by omega
    simp [h0, h7, Ho, h8, H8, h9, h29, h30, setBox]
    refine TWoH.callV (tc_isNothing (.set s)) callable_172 (by simp) (by simp) (by simp) (by simp) ?_
    by_cases e1 : s = []
    · subst e1
      have e0 : isNo (.set []) = true := rfl
      rcases hk with rfl | rfl
      · by_cases e3 : O = []
        · subst e3
          simp [h0, h7, Ho, h8, H8, h9, h29, h30, setBox, X_set, e0]
          refine gall_fresh [c8, o] (by simp [H8, Ho]) fun o2 fo2 => ?_
          simp [frF] at fo2
          simp [h0, h7, Ho, h8, H8, h9, h29, h30, setBox, X_set, e0, fo2]
          refine key _ ?_
          exact ⟨o2, by simp, by rw [hoX]; simp [X_set]⟩
        · have e4 : 0 < O.length := List.length_pos_iff.2 e3
          simp [h0, h7, Ho, h8, H8, h9, h29, h30, setBox, X_set, e0, e4]
          refine key _ ?_
          exact ⟨o, by simp [h7], by rw [hoX]; simp [e3, Ho]⟩
      · simp [h0, h7, Ho, h8, H8, h9, h29, h30, setBox, X_set, e0, k1, k2]
        refine gall_fresh [c8, o] (by simp [H8, Ho]) fun o2 fo2 => ?_
        simp [frF] at fo2
        simp [h0, h7, Ho, h8, H8, h9, h29, h30, setBox, X_set, e0, fo2, k1, k2]
        refine key _ ?_
        exact ⟨o2, by simp, by rw [hoX]; simp [X_set]⟩
    · have e0 : isNo (.set s) = false := by cases s; exact absurd rfl e1; rfl
      simp [h0, h7, Ho, h8, H8, h9, h29, h30, setBox, X_set, e0, k1, k2]
      refine gall_fresh [c8, o] (by simp [H8, Ho]) fun o2 fo2 => ?_
      simp [frF] at fo2
      simp [h0, h7, Ho, h8, H8, h9, h29, h30, setBox, X_set, e0, fo2, k1, k2]
      refine key _ ?_
      exact ⟨o2, by simp, by rw [hoX]; simp [e1, X_set]⟩
  case key =>
    have hoall := others_ok (k := k) fun x hx => (hall x hx).1
    have hfin : ∀ x ∈ finX k all, ∃ s, x = .set s := by
      intro x hx
      unfold finX at hx
      split at hx
      · cases hx
      · split at hx
        · exact ⟨_, List.mem_singleton.1 hx⟩
        · cases hx
    have hfl1 : (finX k all).length ≤ 1 := by
      unfold finX
      split
      · simp
      · split <;> simp
    have hosz : ∀ x ∈ othersX k all, x.sz ≤ 100000000 := by
      intro x hx
      rcases List.mem_append.1 hx with hx | hx
      · exact (hall x (List.mem_filter.1 hx).1).2
      · obtain ⟨s, rfl⟩ := hfin x hx
        simp [Rx.sz]
    have holen : (othersX k all).length ≤ 100000001 := by
      have h1 := List.length_filter_le (fun x => !isSet x) all
      unfold othersX
      rw [List.length_append]; omega
    clear hfin hfl1
    clear h0 h7 Ho h8 H8 h9 h29 h30 hi no1 no2 no3 no4 n1 n2
    clear σ H o
    rintro ⟨σ, H⟩ ⟨o, h7, Ho⟩
    simp only at h7 Ho
    generalize othersX k all = O at *
    refine TWoH.makeMap fun mp hmp => ?_
    have fm := frF_of hmp [o] (by simp [Ho])
    clear hmp
    simp [frF] at fm
    simp [h7, Ho, fm]
    refine TWcH.turn (Turn.nil 13 9 (by simp) fun ky hky => ?_)
    have fk := frF_of hky [mp, o] (by simp [Ho, fm])
    clear hky
    simp [frF] at fk
    simp
    refine TWcH.loop [4, 5, 46, 81, 102, 120] (BagD O mp o) O.length ⟨0, ky, [], by simp, by simp, by simp, by simp, by simp, by simp [kvsX, fk, fm], by simp, by simp, by simp [h7], by simp [Ho, fk, fm], by simp, by simp, by simp [fk], by simp [fk], by simp [fk], by simp [fk]⟩ ?_
    clear h7 Ho fk ky
    clear σ H
    rintro m ⟨σ, H⟩ ⟨i, ky, D, him, hD, hDl, hDO, h12, Hm, h13, Hk, h84, Ho, h85, h86, nk1, nk2, nk3, nk4⟩
    simp only at h12 Hm h13 Hk h84 Ho h85 h86
    by_cases hi : i < O.length
    · have hw : IntKind.i64.wrap ((i : Int) + 1) = i + 1 := wrapi (by omega)
      have hxm := List.getElem_mem hi
      have hxo := hoall _ hxm
      have hxs := hosz _ hxm
      have hDn : (O.take (i + 1)).foldl onceX [] = onceX D O[i] := by
        rw [List.take_succ_eq_append_getElem hi, List.foldl_append, ← hD]; rfl
      obtain ⟨x, hx⟩ : ∃ x, ∀ h, O[i]'h = x := ⟨O[i], fun _ => rfl⟩
      rw [hx] at hxm hxo hxs hDn
      have hDok : ∀ y ∈ D, y.ok := fun y hy => hoall y (hDO y hy)
      have ex := encX_eq x
      have tt := tc_textOf x hxo hxs
      have k1 : (D.length + 1) * 16 ≤ 140737488355328 := by omega
      have k2 : D.length ≤ 9223372036854775806 := by omega
      simp [h12, Hm, h13, Hk, h84, Ho, h85, h86, nk1, nk2, nk3, nk4, hi, hx, fm]
      refine gall_fresh [mp, ky, o] (by simp [Hm, Hk, Ho]) fun c fc => ?_
      simp [frF] at fc
      simp [h12, Hm, h13, Hk, h84, Ho, h85, h86, nk1, nk2, nk3, nk4, hi, hx, fc, fm]
      refine TWoH.callV tt callable_191 (by simp) (by simp) (by simp) (by simp) ?_
      simp [h12, Hm, h13, Hk, h84, Ho, h85, h86, nk1, nk2, nk3, nk4, hi, hx, fc, fm]
      by_cases hin : x ∈ D
      · have hDn2 : onceX D x = D := by unfold onceX; rw [if_pos hin]
        refine TWoH.lookupHitT (tv := .agg (encX x)) mp (kvsX D) (.string (bs (textX x))) strL Tryz.underlying179 (by simp [h12]) (by simp [Hm, fc]) (by simp) trivial (kvsX_key D) (kvsX_in hin) (kvsX_at hDok hxo) ?_
        simp [h12, Hm, h13, Hk, h84, Ho, h85, h86, nk1, nk2, nk3, nk4, hi, hx, fc, fm]
        refine gall_fresh [mp, ky, o, c] (by simp [Hm, Hk, Ho, fc]) fun c2 fc2 => ?_
        simp [frF] at fc2
        simp [h12, Hm, h13, Hk, h84, Ho, h85, h86, nk1, nk2, nk3, nk4, hi, hx, fc, fc2, fm]
        refine TWoH.mapUpdateOldT mp (kvsX D) (.string (bs (textX x))) (.agg (encX x)) Tryz.underlying9 Tryz.underlying179 (by simp [h12]) (by simp [Hm, fc, fc2]) (by simp) trivial (kvsX_key D) (kvsX_in hin) (by simp [fc, fc2]) (kvsX_at hDok hxo) ?_
        simp [h12, Hm, h13, Hk, h84, Ho, h85, h86, nk1, nk2, nk3, nk4, hi, hx, fc, fc2, fm, hw]
        exact ⟨m - 1, by omega, i + 1, ky, D, by omega, by rw [hDn, hDn2], by omega, hDO, by simp [h12], by simp, by simp [h13], by simp [Hk, fc, fc2, nk1, nk2], by simp [h84], by simp [Ho, fc, fc2, fm], by simp [h85], by simp, nk1, nk2, nk3, nk4⟩
      · have hDn2 : onceX D x = D ++ [x] := by unfold onceX; rw [if_neg hin]
        refine TWoH.lookupMissZ (.agg [.val (.int .i64 0), .val (.slice none 0 0), .val (.slice none 0 0)]) mp (kvsX D) (.string (bs (textX x))) (.agg #[.int .i64 0, .slice none 0 0, .slice none 0 0]) strL Tryz.underlying179 (by kernel_rfl) (fun e => by simp only [Rep]; exact ⟨_, rfl, repL_vals3, by simp [Ones, Value.oneCell']⟩) (by simp [h12]) (by simp [Hm, fc]) (by simp) trivial (kvsX_key D) (kvsX_not hDok hxo hin) ?_
        simp [h12, Hm, h13, Hk, h84, Ho, h85, h86, nk1, nk2, nk3, nk4, hi, hx, fc, fm]
        refine gall_fresh [mp, ky, o, c] (by simp [Hm, Hk, Ho, fc]) fun c2 fc2 => ?_
        simp [frF] at fc2
        simp [h12, Hm, h13, Hk, h84, Ho, h85, h86, nk1, nk2, nk3, nk4, hi, hx, fc, fc2, fm, k1, k2]
        refine gall_fresh [mp, ky, o, c, c2] (by simp [Hm, Hk, Ho, fc, fc2]) fun y2 fy => ?_
        simp [frF] at fy
        simp [h12, Hm, h13, Hk, h84, Ho, h85, h86, nk1, nk2, nk3, nk4, hi, hx, fc, fc2, fm, fy, k1, k2, delo, del]
        refine TWoH.mapUpdateNewT mp (kvsX D) (.string (bs (textX x))) (.agg (encX x)) strL Tryz.underlying179 (by simp [h12]) (by simp [Hm, fc, fc2, fy, delo, del, nk1, nk2]) (by simp) trivial (kvsX_key D) (kvsX_not hDok hxo hin) (by simp [fc, fc2, fy, delo, del]) ?_
        simp [h12, Hm, h13, Hk, h84, Ho, h85, h86, nk1, nk2, nk3, nk4, hi, hx, fc, fc2, fm, fy, hw]
        exact ⟨m - 1, by omega, i + 1, y2, D ++ [x], by omega, by rw [hDn, hDn2], by simp; omega, by
          intro y hy
          rcases List.mem_append.1 hy with hy | hy
          · exact hDO y hy
          · rw [List.mem_singleton.1 hy]; exact hxm, by simp [h12], by simp [kvsX], by simp, by simp [fy, encT], by simp [h84], by simp [Ho, fc, fc2, fm, fy, delo, del, nk3, nk4], by simp [h85], by simp, by simp [fy], by simp [fy], by simp [fy], by simp [fy]⟩
    obtain rfl : i = O.length := by omega
    rw [List.take_length] at hD
    obtain ⟨bl1, bl2⟩ := bag_law hoall
    rw [← hD] at bl1 bl2
    have hDok : ∀ y ∈ D, y.ok := fun y hy => hoall y (hDO y hy)
    clear hD
    generalize O.foldl putX [] = B at *
    have hBl : B.length ≤ 100000001 := by
      have h1 := congrArg List.length bl1
      rw [sortT_len, List.length_map, List.length_map] at h1
      omega
    simp [h12, Hm, h13, Hk, h84, Ho, h85, h86, nk1, nk2, nk3, nk4, fm]
    refine TWoH.lend [ky] (tc_sortStr (D.map textX) (by simp; omega)) callable_192 (by simp [h13]) (by simp [Hk]) (by simp) (by simp [-List.map_map]) (by simp [isObjA]) (by simp [-List.map_map]) (.inl (by simp [h13])) fun z hz => ?_
    clear hz
    rw [bl1]
    simp [-List.map_map, h12, Hm, h13, Hk, nk1, nk2]
    refine TWcH.turn (Turn.nil 19 37 (by simp) fun ou hou => ?_)
    have fu := frF_of hou [mp, ky] (by simp [Hm, nk1, nk2])
    clear hou
    simp [frF] at fu
    simp
    refine TWcH.loop [4, 5, 46, 81, 102, 120] (BagE D B mp ky) B.length ⟨0, ou, by simp, by simp [h12], by simp [Hm, fu, nk1, nk2], by simp [h13], by simp [fu], by simp, by simp, by simp, by simp, by simp [fu], by simp [fu], by simp [fu], by simp [fu]⟩ ?_
    clear h12 Hm h13 Hk h84 Ho h85 h86 fu ou
    clear σ H
    rintro m ⟨σ, H⟩ ⟨i, ou, him, h12, Hm, h110, Hk, h111, h112, h19, Hu, nu1, nu2, nu3, nu4⟩
    simp only at h12 Hm h110 Hk h111 h112 h19 Hu
    by_cases hi : i < B.length
    · have hw : IntKind.i64.wrap ((i : Int) + 1) = i + 1 := wrapi (by omega)
      have hxm := (bl2 _).1 (List.getElem_mem hi)
      have htk := List.take_succ_eq_append_getElem hi
      have hkx : ∀ h, (B.map textX)[i]'h = textX B[i] := fun h => by simp
      obtain ⟨x, hx⟩ : ∃ x, ∀ h, B[i]'h = x := ⟨B[i], fun _ => rfl⟩
      rw [hx] at hxm htk
      have ex := encX_eq x
      have k1 : (i + 1) * 56 ≤ 140737488355328 := by omega
      have k2 : i ≤ 9223372036854775806 := by omega
      have hmin : min i B.length = i := by omega
      simp [h12, Hm, h110, Hk, h111, h112, h19, Hu, nu1, nu2, nu3, nu4, nk1, nk2, hi, hx, encT]
      refine TWoH.lookupHitT (tv := .agg (encX x)) mp (kvsX D) (.string (bs (textX x))) strL Tryz.underlying179 (by simp [h12]) (by simp [Hm]) (by simp) trivial (kvsX_key D) (kvsX_in hxm) (kvsX_at hDok (hDok _ hxm)) ?_
      simp [h12, Hm, h110, Hk, h111, h112, h19, Hu, nu1, nu2, nu3, nu4, nk1, nk2, hi, hx, ex, k1, k2, hmin]
      refine gall_fresh [mp, ky, ou] (by simp [Hm, Hk, Hu]) fun u2 fu2 => ?_
      simp [frF] at fu2
      simp [h12, Hm, h110, Hk, h111, h112, h19, Hu, nu1, nu2, nu3, nu4, nk1, nk2, hi, hx, ex, k1, k2, hmin, fu2, hw]
      exact ⟨m - 1, by omega, i + 1, u2, by omega, by simp [h12], by simp [Hm, fu2, delo, del, nu1, nu2], by simp [h110], by simp [Hk, fu2, delo, del, nu3, nu4], by simp [h111], by simp, by simp, by rw [htk]; simp [ex], by simp [fu2], by simp [fu2], by simp [fu2], by simp [fu2]⟩
    obtain rfl : i = B.length := by omega
    rw [List.take_length] at Hu
    simp [h12, Hm, h110, Hk, h111, h112, h19, Hu]
end Go.Proofs.YtdomnlnanbekaaaGreatDoor.R

open Go Go.Proofs.YtdomnlnanbekaaaGreatDoor.T
namespace Go.Proofs.YtdomnlnanbekaaaGreatDoor.R
set_option maxHeartbeats 8000000
set_option maxRecDepth 100000
set_option linter.unusedSimpArgs false
set_option linter.unusedVariables false
attribute [local simp] bsV bsRows chunk fillT partsT appV makeV rowsOf cellsOf placeOf frzT frz1
theorem tc_bagR (k : Int) (hk : k = 4 ∨ k = 6) (a b : Rx) (ha : a.ok) (hb : b.ok) (hs : a.sz + b.sz ≤ 100000000) : TC Tryz.prog 174 [.val (.int .i64 k), .agg (encX a), .agg (encX b)] [] (.ro ((bagX k a b).map encX)) [] := by
  have := (tc_bag k hk a b ha hb hs).frz
  simpa using this
theorem tc_normOr (a b : Rx) (ha : a.ok) (hb : b.ok) (hs : a.sz + b.sz ≤ 100000000) : TC Tryz.prog 132 [.agg (encX a), .agg (encX b)] [] (.agg (encX (orX a b))) [] := by
  have hbo := bagX_ok (k := 4) ha hb
  have hbl := wt_len (bagX 4 a b)
  have hne := bagX_ne (k := 4) (a := a) (b := b)
  refine TC.enter Tryz.func132 rfl (by simp [Tryz.ntmps132]) rfl (tw_sound (ρ := [2, 3]) ?_)
  rw [Tryz.ntmps132]
  simp
  refine gall_intro fun c gc => ?_
  clear gc
  simp
  refine TWoH.callV (tc_bagR 4 (.inl rfl) a b ha hb hs) callable_174 (by simp) (by simp) (by simp) (by simp) ?_
  unfold orX
  generalize bagX 4 a b = l at hbo hbl hne
  simp
  refine TWcH.loop [2, 3] (fun m st => ∃ i : Nat, i + m = l.length ∧ (l.take i).find? isAll = none ∧ st.σ 4 = .pd c 0 0 0 ∧ st.H c = some (.box 37 [.val (.int .i64 0), .val (.slice none 0 0), .val (.slice none 0 0)]) ∧ st.σ 5 = .ro (l.map encX) ∧ st.σ 11 = .ro (l.map encX) ∧ st.σ 12 = .val (.int .i64 l.length) ∧ st.σ 13 = .val (.int .i64 i)) l.length ⟨0, by simp⟩ ?_
  rintro m ⟨σ, H⟩ ⟨i, him, hf, h4, hC, h5, h11, h12, h13⟩
  simp only at h4 hC h5 h11 h12 h13
  by_cases hi : i < l.length
  case neg =>
    rw [List.take_of_length_le (by omega)] at hf
    rw [hf]
    simp [h4, hC, h5, h11, h12, h13, hi]
    refine TWoH.callV (tc_chain l 4 (.inl rfl) hne (by omega)) callable_176 (by simp [h5]) (by simp) (by simp) (by simp) ?_
    simp [h4, hC, h5]
  have hw : IntKind.i64.wrap ((i : Int) + 1) = i + 1 := wrapi (by omega)
  obtain ⟨x, hx⟩ : ∃ x, ∀ h, l[i]'h = x := ⟨l[i], fun _ => rfl⟩
  simp [h4, hC, h5, h11, h12, h13, hi, hx]
  refine gall_fresh [c] (by simp [hC]) fun c7 f7 => ?_
  simp [frF] at f7
  simp [h4, hC, h5, h11, h12, h13, hi, hx, f7]
  refine TWoH.callV (tc_isAll x) callable_175 (by simp) (by simp) (by simp) (by simp) ?_
  by_cases c1 : isAll x = true
  · rw [find_some_take hi hf (by rw [hx]; exact c1), hx hi]
    simp [h4, hC, h5, h11, h12, h13, hi, hx, f7, c1]
  · simp [h4, hC, h5, h11, h12, h13, hi, hx, f7, c1, hw]
    exact ⟨m - 1, by omega, i + 1, by omega, fun y hy => by have := List.find?_eq_none.1 (find_none_take hi hf (by rw [hx]; simpa using c1)) y hy; simpa using this, by omega⟩
theorem tc_normAnd (a b : Rx) (ha : a.ok) (hb : b.ok) (hs : a.sz + b.sz ≤ 100000000) : TC Tryz.prog 133 [.agg (encX a), .agg (encX b)] [] (.agg (encX (andX a b))) [] := by
  have hbo := bagX_ok (k := 6) ha hb
  have hbl := wt_len (bagX 6 a b)
  have hne := bagX_ne (k := 6) (a := a) (b := b)
  unfold andX
  refine TC.enter Tryz.func133 rfl (by simp [Tryz.ntmps133]) rfl (tw_sound (ρ := [2, 3, 26]) ?_)
  rw [Tryz.ntmps133]
  simp
  refine gall_intro fun c gc => ?_
  clear gc
  simp
  refine TWoH.callV (tc_bagR 6 (.inr rfl) a b ha hb hs) callable_174 (by simp) (by simp) (by simp) (by simp) ?_
  generalize bagX 6 a b = l at hbo hbl hne
  simp
  refine TWcH.turn (Turn.nil 6 37 (by simp) fun v hv => ?_)
  have fv := frF_of hv [c] (by simp)
  clear hv
  simp [frF] at fv
  simp
  refine TWcH.loop [2, 3, 26] (fun m st => ∃ i v : Nat, i + m = l.length ∧ (l.take i).any isNo = false ∧ st.σ 4 = .pd c 0 0 0 ∧ st.H c = some (.box 37 [.val (.int .i64 0), .val (.slice none 0 0), .val (.slice none 0 0)]) ∧ st.σ 5 = .ro (l.map encX) ∧ st.σ 12 = .ro (l.map encX) ∧ st.σ 13 = .val (.int .i64 l.length) ∧ st.σ 14 = .val (.int .i64 i) ∧ st.σ 6 = .hd v ∧ st.H v = some (.own 37 (((l.take i).filter fun x => !isAll x).map encX)) ∧ ¬ v = c ∧ ¬ c = v) l.length ⟨0, v, by simp, by simp, by simp, by simp [fv], by simp, by simp, by simp, by simp, by simp, by simp, by simp [fv], by simp [fv]⟩ ?_
  clear fv
  clear v
  rintro m ⟨σ, H⟩ ⟨i, v, him, hf, h4, hC, h5, h12, h13, h14, h6, hV, nvc, nvc'⟩
  simp only at h4 hC h5 h12 h13 h14 h6 hV
  by_cases hi : i < l.length
  case neg =>
    rw [List.take_of_length_le (by omega)] at hf hV
    have hA : andL l = if l.filter (fun x => !isAll x) = [] then l.headD .emp else chainX 6 (l.filter fun x => !isAll x) := by unfold andL; rw [if_neg (by rw [hf]; simp)]
    rw [hA]
    have hfl : (l.filter fun x => !isAll x).length ≤ l.length := List.length_filter_le _ _
    obtain ⟨F, hF⟩ : ∃ F, l.filter (fun x => !isAll x) = F := ⟨_, rfl⟩
    rw [hF] at hV hfl ⊢
    by_cases hF0 : F = []
    · subst hF0
      obtain ⟨x, l2, rfl⟩ : ∃ x l2, l = x :: l2 := by
        cases l with
        | nil => exact absurd rfl hne
        | cons x l2 => exact ⟨x, l2, rfl⟩
      have hi2 : ¬ (i : Int) < l2.length + 1 := by simp only [List.length_cons] at hi; omega
      have z1 : (0 : Int) < l2.length + 1 := by omega
      simp [h4, hC, h5, h12, h13, h14, h6, hV, nvc, nvc', hi2, z1]
    · have hFl : ¬ (F.length : Int) = 0 := by have := List.length_pos_iff.2 hF0; omega
      simp [h4, hC, h5, h12, h13, h14, h6, hV, nvc, nvc', hi, hF0]
      refine TWoH.turn (Turn.freeze v (t := .own 37 (F.map encX)) (by simp [hV]) ?_)
      refine TWoH.callV (tc_chain F 6 (.inr rfl) hF0 (by omega)) callable_176 (by simp [h6]) (by simp) (by simp) (by simp) ?_
      simp [h4, hC, h5, h6, hV, nvc, nvc', del]
      rw [if_neg hF0]
  have hw : IntKind.i64.wrap ((i : Int) + 1) = i + 1 := wrapi (by omega)
  obtain ⟨x, hx⟩ : ∃ x, ∀ h, l[i]'h = x := ⟨l[i], fun _ => rfl⟩
  have hstep : l.take (i + 1) = l.take i ++ [x] := by rw [List.take_succ_eq_append_getElem hi, hx]
  have hxm : x ∈ l := by rw [← hx hi]; exact List.getElem_mem hi
  have ex := encX_eq x
  simp [h4, hC, h5, h12, h13, h14, h6, hV, nvc, nvc', hi, hx]
  refine gall_fresh [c, v] (by simp [hC, hV]) fun c8 f8 => ?_
  simp [frF] at f8
  simp [h4, hC, h5, h12, h13, h14, h6, hV, nvc, nvc', hi, hx, f8]
  refine TWoH.callV (tc_isNothing x) callable_172 (by simp) (by simp) (by simp) (by simp) ?_
  by_cases c1 : isNo x = true
  · have hA : andL l = .set [] := by unfold andL; rw [if_pos (List.any_eq_true.2 ⟨x, hxm, c1⟩)]
    rw [hA]
    simp [h4, hC, h5, h12, h13, h14, h6, hV, nvc, nvc', hi, hx, f8, c1]
    refine TWoH.callV tc_nothing callable_152 (by simp) (by simp) (by simp) (by simp) ?_
    simp [h4, hC, h5, f8]
  have c1' : isNo x = false := by simpa using c1
  simp [h4, hC, h5, h12, h13, h14, h6, hV, nvc, nvc', hi, hx, f8, c1]
  refine TWoH.callV (tc_isAll x) callable_175 (by simp) (by simp) (by simp) (by simp) ?_
  by_cases c2 : isAll x = true
  · simp [h4, hC, h5, h12, h13, h14, h6, hV, nvc, nvc', hi, hx, f8, c2, hw]
    exact ⟨m - 1, by omega, i + 1, by omega, fun y hy => by
        rw [hstep] at hy
        rcases List.mem_append.1 hy with hy | hy
        · have := List.any_eq_false.1 hf y hy; simpa using this
        · simp only [List.mem_singleton] at hy; subst hy; exact c1', by omega, by rw [hstep, List.filter_append]; simp [c2]⟩
  · have hfl : ((l.take i).filter fun x => !isAll x).length ≤ l.length := by
      have h1 := List.length_filter_le (fun x => !isAll x) (l.take i)
      have h2 : (l.take i).length ≤ l.length := by simp; omega
      omega
    have hfe : (l.take (i + 1)).filter (fun x => !isAll x) = (l.take i).filter (fun x => !isAll x) ++ [x] := by
      rw [hstep, List.filter_append]; simp [c2]
    generalize (l.take i).filter (fun x => !isAll x) = F at *
    have k1 : (F.length + 1) * 56 ≤ 140737488355328 := by omega
    have k2 : F.length ≤ 9223372036854775806 := by omega
    simp [h4, hC, h5, h12, h13, h14, h6, hV, nvc, nvc', hi, hx, f8, c2, k1, k2, ex]
    refine gall_fresh [c, v, c8] (by simp [hC, hV, f8]) fun w fw => ?_
    simp [frF] at fw
    simp [h4, hC, h5, h12, h13, h14, h6, hV, nvc, nvc', hi, hx, f8, c2, fw, hw]
    exact ⟨m - 1, by omega, i + 1, by omega, fun y hy => by
        rw [hstep] at hy
        rcases List.mem_append.1 hy with hy | hy
        · have := List.any_eq_false.1 hf y hy; simpa using this
        · simp only [List.mem_singleton] at hy; subst hy; exact c1', by simp [hC, fw, f8, delo, del, nvc, nvc'], by omega, by rw [hfe]; simp [ex]⟩
end Go.Proofs.YtdomnlnanbekaaaGreatDoor.R

open Go Go.Proofs.YtdomnlnanbekaaaGreatDoor.T
namespace Go.Proofs.YtdomnlnanbekaaaGreatDoor.R
set_option maxHeartbeats 8000000
set_option maxRecDepth 100000
set_option linter.unusedSimpArgs false
set_option linter.unusedVariables false
attribute [local simp] bsV bsRows chunk fillT partsT appV makeV rowsOf cellsOf placeOf frzT frz1
theorem tc_norm0 (x : Rx) (hok : x.ok) (hsz : x.sz ≤ 1000000) (ih : ∀ i (h : i < x.kids.length), TC Tryz.prog 64 [.agg (encX x.kids[i])] [] (.agg (encX (normX x.kids[i]))) []) : TC Tryz.prog 64 [.agg (encX x)] [] (.agg (encX (normX x))) [] := by
  have hkl := kids_len x
  have ex := encX_eq x
  refine TC.enter Tryz.func64 rfl (by simp [Tryz.ntmps64]) rfl (tw_sound (ρ := [1, 16]) ?_)
  rw [Tryz.ntmps64]
  simp
  refine gall_intro fun c gc => ?_
  clear gc
  simp [ex]
  refine TWcH.turn (Turn.nil 3 37 (by simp) fun v hv => ?_)
  have fv := frF_of hv [c] (by simp)
  clear hv
  simp [frF] at fv
  simp
  refine TWcH.loop [1, 16] (fun m st => ∃ i v : Nat, i + m = x.kids.length ∧ st.σ 1 = .rptr [.val (.int .i64 x.kind), .ro (x.span.map encSp), .ro (x.kids.map encX)] 0 ∧ st.σ 2 = .pd c 0 0 0 ∧ st.H c = some (.box 37 [.val (.int .i64 0), .val (.slice none 0 0), .val (.slice none 0 0)]) ∧ st.σ 3 = .hd v ∧ st.H v = some (.own 37 (((x.kids.take i).map normX).map encX)) ∧ st.σ 7 = .ro (x.kids.map encX) ∧ st.σ 8 = .val (.int .i64 x.kids.length) ∧ st.σ 9 = .val (.int .i64 i) ∧ ¬ v = c ∧ ¬ c = v) x.kids.length ⟨0, v, by simp, by simp, by simp, by simp [fv], by simp, by simp, by simp, by simp, by simp, by simp [fv], by simp [fv]⟩ ?_
  clear fv
  clear v
  rintro m ⟨σ, H⟩ ⟨i, v, him, h1, h2, hC, h3, hV, h7, h8, h9, nv, nv'⟩
  simp only at h1 h2 hC h3 hV h7 h8 h9
  by_cases hi : i < x.kids.length
  case neg =>
    obtain rfl : i = x.kids.length := by omega
    rw [List.take_length] at hV
    cases x with
    | set s => simp [h1, h2, hC, h3, hV, h7, h8, h9, nv, nv', Rx.kind, Rx.span, Rx.kids, normX, X_set]
    | emp => simp [h1, h2, hC, h3, hV, h7, h8, h9, nv, nv', Rx.kind, Rx.span, Rx.kids, normX, X_emp]
    | star a =>
      simp [h1, h2, hC, h3, hV, h7, h8, h9, nv, nv', Rx.kind, Rx.span, Rx.kids]
      refine TWoH.callV (tc_normStar (normX a)) callable_134 (by simp) (by simp) (by simp) (by simp) ?_
      simp [h1, h2, hC, normX]
    | not a =>
      simp [h1, h2, hC, h3, hV, h7, h8, h9, nv, nv', Rx.kind, Rx.span, Rx.kids]
      refine TWoH.callV (tc_normNot (normX a)) callable_135 (by simp) (by simp) (by simp) (by simp) ?_
      simp [h1, h2, hC, normX]
    | cat a b =>
      simp [h1, h2, hC, h3, hV, h7, h8, h9, nv, nv', Rx.kind, Rx.span, Rx.kids]
      refine TWcH.turn (Turn.freeze v (t := .own 37 [encX (normX a), encX (normX b)]) (by simp [hV, Rx.kids]) ?_)
      refine TWcH.regionD (ρ := [1, 16]) [0, 1, 2, 3, 4, 5, 6, 7] 7 mixed (by kernel_rfl) ?_
      simp [h1, h2, hC, h3, hV, nv, nv', del, roL_X]
      refine TWqH.callV (tc_normCat (normX a) (normX b)) callable_131 (by simp) (by simp) (by simp) (by simp) ?_
      simp [h1, h2, hC, normX, del, nv, nv']
    | or a b =>
      have h1' := normX_ok hok.1
      have h2' := normX_ok hok.2
      simp only [Rx.sz] at hsz
      simp [h1, h2, hC, h3, hV, h7, h8, h9, nv, nv', Rx.kind, Rx.span, Rx.kids]
      refine TWcH.turn (Turn.freeze v (t := .own 37 [encX (normX a), encX (normX b)]) (by simp [hV, Rx.kids]) ?_)
      refine TWcH.regionD (ρ := [1, 16]) [0, 1, 2, 3, 4, 5, 6, 7] 7 mixed (by kernel_rfl) ?_
      simp [h1, h2, hC, h3, hV, nv, nv', del, roL_X]
      refine TWqH.callV (tc_normOr (normX a) (normX b) h1'.1 h2'.1 (by omega)) callable_132 (by simp) (by simp) (by simp) (by simp) ?_
      simp [h1, h2, hC, normX, del, nv, nv']
    | and a b =>
      have h1' := normX_ok hok.1
      have h2' := normX_ok hok.2
      simp only [Rx.sz] at hsz
      simp [h1, h2, hC, h3, hV, h7, h8, h9, nv, nv', Rx.kind, Rx.span, Rx.kids]
      refine TWcH.turn (Turn.freeze v (t := .own 37 [encX (normX a), encX (normX b)]) (by simp [hV, Rx.kids]) ?_)
      refine TWcH.regionD (ρ := [1, 16]) [0, 1, 2, 3, 4, 5, 6, 7] 7 mixed (by kernel_rfl) ?_
      simp [h1, h2, hC, h3, hV, nv, nv', del, roL_X]
      refine TWqH.callV (tc_normAnd (normX a) (normX b) h1'.1 h2'.1 (by omega)) callable_133 (by simp) (by simp) (by simp) (by simp) ?_
      simp [h1, h2, hC, normX, del, nv, nv']
  have hw : IntKind.i64.wrap ((i : Int) + 1) = i + 1 := wrapi (by omega)
  have hih := ih i hi
  have htk : (x.kids.take (i + 1)).map normX = (x.kids.take i).map normX ++ [normX x.kids[i]] := by
    rw [List.take_succ_eq_append_getElem hi, List.map_append]; rfl
  obtain ⟨y, hy⟩ : ∃ y, ∀ h, x.kids[i]'h = y := ⟨x.kids[i], fun _ => rfl⟩
  rw [hy] at hih htk
  have ey := encX_eq (normX y)
  have hml : ((x.kids.take i).map normX).length = i := by simp; omega
  generalize (x.kids.take i).map normX = F at *
  have k1 : (F.length + 1) * 56 ≤ 140737488355328 := by omega
  have k2 : F.length ≤ 9223372036854775806 := by omega
  simp [h1, h2, hC, h3, hV, h7, h8, h9, nv, nv', hi, hy]
  refine gall_fresh [c, v] (by simp [hC, hV]) fun c5 f5 => ?_
  simp [frF] at f5
  simp [h1, h2, hC, h3, hV, h7, h8, h9, nv, nv', hi, hy, f5]
  refine TWoH.callV hih callable_64 (by simp) (by simp) (by simp) (by simp) ?_
  simp [h1, h2, hC, h3, hV, h7, h8, h9, nv, nv', hi, hy, f5, ey, k1, k2]
  refine gall_fresh [c, v, c5] (by simp [hC, hV, f5]) fun w fw => ?_
  simp [frF] at fw
  simp [h1, h2, hC, h3, hV, h7, h8, h9, nv, nv', hi, hy, f5, ey, k1, k2, fw, hw]
  exact ⟨m - 1, by omega, i + 1, by omega, by simp [hC, fw, f5, delo, del, nv, nv'], by rw [← List.map_take, ← List.map_map, htk]; simp [ey], by omega⟩
theorem tc_norm : ∀ (x : Rx), x.ok → x.sz ≤ 1000000 → TC Tryz.prog 64 [.agg (encX x)] [] (.agg (encX (normX x))) []
  | x, hok, hsz => tc_norm0 x hok hsz fun i hi => by
    have hm := List.getElem_mem hi
    have h1 := kids_sz hm
    exact tc_norm x.kids[i] (kids_ok hok hm) (by omega)
termination_by x => x.sz
decreasing_by exact h1
theorem tc_null : ∀ (x : Rx), TC Tryz.prog 108 [.agg (encX x)] [] (.val (.bool (nullX x))) [] := by
  intro x
  induction x with
  | set s =>
    refine TC.enter Tryz.func108 rfl (by simp [Tryz.ntmps108]) rfl (tw_sound (ρ := [1]) ?_)
    rw [Tryz.ntmps108]
    simp [X_set, nullX]
  | emp =>
    refine TC.enter Tryz.func108 rfl (by simp [Tryz.ntmps108]) rfl (tw_sound (ρ := [1]) ?_)
    rw [Tryz.ntmps108]
    simp [X_emp, nullX]
  | star a _ =>
    refine TC.enter Tryz.func108 rfl (by simp [Tryz.ntmps108]) rfl (tw_sound (ρ := [1]) ?_)
    rw [Tryz.ntmps108]
    simp [X_star, nullX]
  | not a iha =>
    refine TC.enter Tryz.func108 rfl (by simp [Tryz.ntmps108]) rfl (tw_sound (ρ := [1]) ?_)
    rw [Tryz.ntmps108]
    simp [X_not]
    refine TWoH.callV iha callable_108 (by simp) (by simp) (by simp) (by simp) ?_
    simp [nullX]
  | cat a b iha ihb =>
    refine TC.enter Tryz.func108 rfl (by simp [Tryz.ntmps108]) rfl (tw_sound (ρ := [1]) ?_)
    rw [Tryz.ntmps108]
    simp [X_cat]
    refine TWoH.callV iha callable_108 (by simp) (by simp) (by simp) (by simp) ?_
    cases c : nullX a
    · simp [nullX, c]

    · simp [nullX, c]
      refine TWoH.callV ihb callable_108 (by simp) (by simp) (by simp) (by simp) ?_
      simp [c]
  | and a b iha ihb =>
    refine TC.enter Tryz.func108 rfl (by simp [Tryz.ntmps108]) rfl (tw_sound (ρ := [1]) ?_)
    rw [Tryz.ntmps108]
    simp [X_and]
    refine TWoH.callV iha callable_108 (by simp) (by simp) (by simp) (by simp) ?_
    cases c : nullX a
    · simp [nullX, c]

    · simp [nullX, c]
      refine TWoH.callV ihb callable_108 (by simp) (by simp) (by simp) (by simp) ?_
      simp [c]
  | or a b iha ihb =>
    refine TC.enter Tryz.func108 rfl (by simp [Tryz.ntmps108]) rfl (tw_sound (ρ := [1]) ?_)
    rw [Tryz.ntmps108]
    simp [X_or]
    refine TWoH.callV iha callable_108 (by simp) (by simp) (by simp) (by simp) ?_
    cases c : nullX a
    · simp [nullX, c]
      refine TWoH.callV ihb callable_108 (by simp) (by simp) (by simp) (by simp) ?_
      simp [c]
    · simp [nullX, c]

theorem tc_deriv : ∀ (x : Rx) (b : Int), x.ok → x.sz * x.sz ≤ 10000000 → TC Tryz.prog 98 [.agg (encX x), .val (.int .i64 b)] [] (.agg (encX (byX x b))) [] := by
  intro x
  induction x with
  | set s =>
    intro b h hs
    have hl := setOk_len h
    by_cases c1 : hasS s b = true
    · have e : byX (.set s) b = .emp := by unfold byX; rw [if_pos c1]
      rw [e]
      refine frzX (r0 := .agg [.val (.int .i64 2), .val (.slice none 0 0), .val (.slice none 0 0)]) ?_ (by simp [X_emp])
      refine TC.enter Tryz.func98 rfl (by simp [Tryz.ntmps98]) rfl (tw_sound (ρ := [2]) ?_)
      rw [Tryz.ntmps98]
      simp
      refine gall_intro fun c gc => ?_
      simp [X_set]
      refine TWoH.callV (tc_iSetHas s b (by omega)) callable_46 (by simp) (by simp) (by simp) (by simp) ?_
      simp [c1]
    · have e : byX (.set s) b = .set [] := by unfold byX; rw [if_neg c1]
      rw [e]
      refine TC.enter Tryz.func98 rfl (by simp [Tryz.ntmps98]) rfl (tw_sound (ρ := [2]) ?_)
      rw [Tryz.ntmps98]
      simp
      refine gall_intro fun c gc => ?_
      simp [X_set]
      refine TWoH.callV (tc_iSetHas s b (by omega)) callable_46 (by simp) (by simp) (by simp) (by simp) ?_
      simp [c1]
      refine TWoH.callV tc_nothing callable_152 (by simp) (by simp) (by simp) (by simp) ?_
      simp
  | emp =>
      intro b h hs
      have e : byX .emp b = .set [] := rfl
      rw [e]
      refine TC.enter Tryz.func98 rfl (by simp [Tryz.ntmps98]) rfl (tw_sound (ρ := [2]) ?_)
      rw [Tryz.ntmps98]
      simp
      refine gall_intro fun c gc => ?_
      simp [X_emp]
      refine TWoH.callV tc_nothing callable_152 (by simp) (by simp) (by simp) (by simp) ?_
      simp
  | or x y ihx ihy =>
    intro b h hs
    simp only [Rx.sz] at hs
    have p1 := x.sz_pos
    have p2 := y.sz_pos
    have e1 : x.sz * x.sz ≤ (x.sz + y.sz + 1) * (x.sz + y.sz + 1) := Nat.mul_le_mul (by omega) (by omega)
    have e2 : y.sz * y.sz ≤ (x.sz + y.sz + 1) * (x.sz + y.sz + 1) := Nat.mul_le_mul (by omega) (by omega)
    have h1 := byX_ok b h.1
    have h2 := byX_ok b h.2
    refine TC.enter Tryz.func98 rfl (by simp [Tryz.ntmps98]) rfl (tw_sound (ρ := [2]) ?_)
    rw [Tryz.ntmps98]
    simp
    refine gall_intro fun c gc => ?_
    simp [X_or]
    refine TWcH.regionD (ρ := [2]) [0, 1, 2, 3, 4, 6, 7, 8, 9, 10, 5, 11, 12, 13] 13 mixed (by kernel_rfl) ?_
    simp
    refine TWqH.callV (ihx b h.1 (by omega)) callable_98 (by simp) (by simp) (by simp) (by simp) ?_
    simp
    refine TWqH.callV (ihy b h.2 (by omega)) callable_98 (by simp) (by simp) (by simp) (by simp) ?_
    simp
    refine TWqH.callV (tc_normOr (byX x b) (byX y b) h1.1 h2.1 (by omega)) callable_132 (by simp) (by simp) (by simp) (by simp) ?_
    simp [byX]
  | and x y ihx ihy =>
    intro b h hs
    simp only [Rx.sz] at hs
    have p1 := x.sz_pos
    have p2 := y.sz_pos
    have e1 : x.sz * x.sz ≤ (x.sz + y.sz + 1) * (x.sz + y.sz + 1) := Nat.mul_le_mul (by omega) (by omega)
    have e2 : y.sz * y.sz ≤ (x.sz + y.sz + 1) * (x.sz + y.sz + 1) := Nat.mul_le_mul (by omega) (by omega)
    have h1 := byX_ok b h.1
    have h2 := byX_ok b h.2
    refine TC.enter Tryz.func98 rfl (by simp [Tryz.ntmps98]) rfl (tw_sound (ρ := [2]) ?_)
    rw [Tryz.ntmps98]
    simp
    refine gall_intro fun c gc => ?_
    simp [X_and]
    refine TWcH.regionD (ρ := [2]) [0, 1, 2, 3, 4, 6, 7, 8, 9, 10, 5, 11, 12, 13] 13 mixed (by kernel_rfl) ?_
    simp
    refine TWqH.callV (ihx b h.1 (by omega)) callable_98 (by simp) (by simp) (by simp) (by simp) ?_
    simp
    refine TWqH.callV (ihy b h.2 (by omega)) callable_98 (by simp) (by simp) (by simp) (by simp) ?_
    simp
    refine TWqH.callV (tc_normAnd (byX x b) (byX y b) h1.1 h2.1 (by omega)) callable_133 (by simp) (by simp) (by simp) (by simp) ?_
    simp [byX]
  | star x ihx =>
    intro b h hs
    simp only [Rx.sz] at hs
    have e1 : x.sz * x.sz ≤ (x.sz + 1) * (x.sz + 1) := Nat.mul_le_mul (by omega) (by omega)
    refine TC.enter Tryz.func98 rfl (by simp [Tryz.ntmps98]) rfl (tw_sound (ρ := [2]) ?_)
    rw [Tryz.ntmps98]
    simp
    refine gall_intro fun c gc => ?_
    simp [X_star]
    refine TWcH.regionD (ρ := [2]) [0, 1, 2, 3, 4, 6, 5, 7, 8] 8 mixed (by kernel_rfl) ?_
    simp
    refine TWqH.callV (ihx b h (by omega)) callable_98 (by simp) (by simp) (by simp) (by simp) ?_
    simp
    refine TWqH.callV (tc_normCat (byX x b) (.star x)) callable_131 (by simp [X_star]) (by simp) (by simp) (by simp) ?_
    simp [byX]
  | not x ihx =>
    intro b h hs
    simp only [Rx.sz] at hs
    have e1 : x.sz * x.sz ≤ (x.sz + 1) * (x.sz + 1) := Nat.mul_le_mul (by omega) (by omega)
    refine TC.enter Tryz.func98 rfl (by simp [Tryz.ntmps98]) rfl (tw_sound (ρ := [2]) ?_)
    rw [Tryz.ntmps98]
    simp
    refine gall_intro fun c gc => ?_
    simp [X_not]
    refine TWoH.callV (ihx b h (by omega)) callable_98 (by simp) (by simp) (by simp) (by simp) ?_
    simp
    refine TWoH.callV (tc_normNot (byX x b)) callable_135 (by simp) (by simp) (by simp) (by simp) ?_
    simp [byX]
  | cat x y ihx ihy =>
    intro b h hs
    simp only [Rx.sz] at hs
    have p1 := x.sz_pos
    have p2 := y.sz_pos
    have e1 : x.sz * x.sz ≤ (x.sz + y.sz + 1) * (x.sz + y.sz + 1) := Nat.mul_le_mul (by omega) (by omega)
    have e2 : y.sz * y.sz ≤ (x.sz + y.sz + 1) * (x.sz + y.sz + 1) := Nat.mul_le_mul (by omega) (by omega)
    have e3 : 1 * y.sz ≤ (x.sz + y.sz + 1) * (x.sz + y.sz + 1) := Nat.mul_le_mul (by omega) (by omega)
    have h1 := byX_ok b h.1
    have h2 := byX_ok b h.2
    have h3 := catX_ok h1.1 h.2
    have h4 := catX_sz (byX x b) y
    have tx := ihx b h.1 (by omega)
    have ty := ihy b h.2 (by omega)
    have tc := tc_normCat (byX x b) y
    refine TC.enter Tryz.func98 rfl (by simp [Tryz.ntmps98]) rfl (tw_sound (ρ := [2]) ?_)
    rw [Tryz.ntmps98]
    simp
    refine gall_intro fun c gc => ?_
    simp [X_cat]
    obtain ⟨z, hz⟩ : ∃ z, catX (byX x b) y = z := ⟨_, rfl⟩
    have ez := encX_eq z
    rw [hz] at tc h3 h4
    refine TWcH.midB (ρ := [2]) (ByM x y b c z) (.first 0 (.first 4 (.first 6 (.pick 1 (.first 2 (.pick 3 (.pick 5 (.pick 7 (.first 8 (.pick 9 (.pick 10 (.pick 11 (.pick 12 .fin .fin) .fin) (.pick 11 (.pick 10 (.pick 12 .fin .fin) .fin) .fin)) (.pick 11 (.pick 9 (.pick 10 (.pick 12 .fin .fin) .fin) .fin) .fin))) (.pick 11 (.pick 7 (.first 8 (.pick 9 (.pick 10 (.pick 12 .fin .fin) .fin) .fin)) .fin) .fin)) (.pick 7 (.first 8 (.pick 5 (.pick 9 (.pick 10 (.pick 11 (.pick 12 .fin .fin) .fin) (.pick 11 (.pick 10 (.pick 12 .fin .fin) .fin) .fin)) (.pick 11 (.pick 9 (.pick 10 (.pick 12 .fin .fin) .fin) .fin) .fin)) (.pick 9 (.pick 5 (.pick 10 (.pick 11 (.pick 12 .fin .fin) .fin) (.pick 11 (.pick 10 (.pick 12 .fin .fin) .fin) .fin)) (.pick 11 (.pick 5 (.pick 10 (.pick 12 .fin .fin) .fin) .fin) .fin)) (.pick 11 (.pick 5 (.pick 9 (.pick 10 (.pick 12 .fin .fin) .fin) .fin) (.pick 9 (.pick 5 (.pick 10 (.pick 12 .fin .fin) .fin) .fin) .fin)) .fin)))) (.pick 11 (.pick 5 (.pick 7 (.first 8 (.pick 9 (.pick 10 (.pick 12 .fin .fin) .fin) .fin)) .fin) (.pick 7 (.first 8 (.pick 5 (.pick 9 (.pick 10 (.pick 12 .fin .fin) .fin) .fin) (.pick 9 (.pick 5 (.pick 10 (.pick 12 .fin .fin) .fin) .fin) .fin))) .fin)) .fin))) (.pick 7 (.first 8 (.pick 3 (.pick 5 (.pick 9 (.pick 10 (.pick 11 (.pick 12 .fin .fin) .fin) (.pick 11 (.pick 10 (.pick 12 .fin .fin) .fin) .fin)) (.pick 11 (.pick 9 (.pick 10 (.pick 12 .fin .fin) .fin) .fin) .fin)) (.pick 9 (.pick 5 (.pick 10 (.pick 11 (.pick 12 .fin .fin) .fin) (.pick 11 (.pick 10 (.pick 12 .fin .fin) .fin) .fin)) (.pick 11 (.pick 5 (.pick 10 (.pick 12 .fin .fin) .fin) .fin) .fin)) (.pick 11 (.pick 5 (.pick 9 (.pick 10 (.pick 12 .fin .fin) .fin) .fin) (.pick 9 (.pick 5 (.pick 10 (.pick 12 .fin .fin) .fin) .fin) .fin)) .fin))) (.pick 9 (.pick 3 (.pick 5 (.pick 10 (.pick 11 (.pick 12 .fin .fin) .fin) (.pick 11 (.pick 10 (.pick 12 .fin .fin) .fin) .fin)) (.pick 11 (.pick 5 (.pick 10 (.pick 12 .fin .fin) .fin) .fin) .fin)) (.pick 11 (.pick 3 (.pick 5 (.pick 10 (.pick 12 .fin .fin) .fin) .fin) .fin) .fin)) (.pick 11 (.pick 3 (.pick 5 (.pick 9 (.pick 10 (.pick 12 .fin .fin) .fin) .fin) (.pick 9 (.pick 5 (.pick 10 (.pick 12 .fin .fin) .fin) .fin) .fin)) (.pick 9 (.pick 3 (.pick 5 (.pick 10 (.pick 12 .fin .fin) .fin) .fin) .fin) .fin)) .fin)))) (.pick 11 (.pick 3 (.pick 5 (.pick 7 (.first 8 (.pick 9 (.pick 10 (.pick 12 .fin .fin) .fin) .fin)) .fin) (.pick 7 (.first 8 (.pick 5 (.pick 9 (.pick 10 (.pick 12 .fin .fin) .fin) .fin) (.pick 9 (.pick 5 (.pick 10 (.pick 12 .fin .fin) .fin) .fin) .fin))) .fin)) (.pick 7 (.first 8 (.pick 3 (.pick 5 (.pick 9 (.pick 10 (.pick 12 .fin .fin) .fin) .fin) (.pick 9 (.pick 5 (.pick 10 (.pick 12 .fin .fin) .fin) .fin) .fin)) (.pick 9 (.pick 3 (.pick 5 (.pick 10 (.pick 12 .fin .fin) .fin) .fin) .fin) .fin))) .fin)) .fin)))) (.pick 7 (.first 8 (.pick 1 (.first 2 (.pick 3 (.pick 5 (.pick 9 (.pick 10 (.pick 11 (.pick 12 .fin .fin) .fin) (.pick 11 (.pick 10 (.pick 12 .fin .fin) .fin) .fin)) (.pick 11 (.pick 9 (.pick 10 (.pick 12 .fin .fin) .fin) .fin) .fin)) (.pick 9 (.pick 5 (.pick 10 (.pick 11 (.pick 12 .fin .fin) .fin) (.pick 11 (.pick 10 (.pick 12 .fin .fin) .fin) .fin)) (.pick 11 (.pick 5 (.pick 10 (.pick 12 .fin .fin) .fin) .fin) .fin)) (.pick 11 (.pick 5 (.pick 9 (.pick 10 (.pick 12 .fin .fin) .fin) .fin) (.pick 9 (.pick 5 (.pick 10 (.pick 12 .fin .fin) .fin) .fin) .fin)) .fin))) (.pick 9 (.pick 3 (.pick 5 (.pick 10 (.pick 11 (.pick 12 .fin .fin) .fin) (.pick 11 (.pick 10 (.pick 12 .fin .fin) .fin) .fin)) (.pick 11 (.pick 5 (.pick 10 (.pick 12 .fin .fin) .fin) .fin) .fin)) (.pick 11 (.pick 3 (.pick 5 (.pick 10 (.pick 12 .fin .fin) .fin) .fin) .fin) .fin)) (.pick 11 (.pick 3 (.pick 5 (.pick 9 (.pick 10 (.pick 12 .fin .fin) .fin) .fin) (.pick 9 (.pick 5 (.pick 10 (.pick 12 .fin .fin) .fin) .fin) .fin)) (.pick 9 (.pick 3 (.pick 5 (.pick 10 (.pick 12 .fin .fin) .fin) .fin) .fin) .fin)) .fin)))) (.pick 9 (.pick 1 (.first 2 (.pick 3 (.pick 5 (.pick 10 (.pick 11 (.pick 12 .fin .fin) .fin) (.pick 11 (.pick 10 (.pick 12 .fin .fin) .fin) .fin)) (.pick 11 (.pick 5 (.pick 10 (.pick 12 .fin .fin) .fin) .fin) .fin)) (.pick 11 (.pick 3 (.pick 5 (.pick 10 (.pick 12 .fin .fin) .fin) .fin) .fin) .fin))) (.pick 11 (.pick 1 (.first 2 (.pick 3 (.pick 5 (.pick 10 (.pick 12 .fin .fin) .fin) .fin) .fin)) .fin) .fin)) (.pick 11 (.pick 1 (.first 2 (.pick 3 (.pick 5 (.pick 9 (.pick 10 (.pick 12 .fin .fin) .fin) .fin) (.pick 9 (.pick 5 (.pick 10 (.pick 12 .fin .fin) .fin) .fin) .fin)) (.pick 9 (.pick 3 (.pick 5 (.pick 10 (.pick 12 .fin .fin) .fin) .fin) .fin) .fin))) (.pick 9 (.pick 1 (.first 2 (.pick 3 (.pick 5 (.pick 10 (.pick 12 .fin .fin) .fin) .fin) .fin)) .fin) .fin)) .fin)))) (.pick 11 (.pick 1 (.first 2 (.pick 3 (.pick 5 (.pick 7 (.first 8 (.pick 9 (.pick 10 (.pick 12 .fin .fin) .fin) .fin)) .fin) (.pick 7 (.first 8 (.pick 5 (.pick 9 (.pick 10 (.pick 12 .fin .fin) .fin) .fin) (.pick 9 (.pick 5 (.pick 10 (.pick 12 .fin .fin) .fin) .fin) .fin))) .fin)) (.pick 7 (.first 8 (.pick 3 (.pick 5 (.pick 9 (.pick 10 (.pick 12 .fin .fin) .fin) .fin) (.pick 9 (.pick 5 (.pick 10 (.pick 12 .fin .fin) .fin) .fin) .fin)) (.pick 9 (.pick 3 (.pick 5 (.pick 10 (.pick 12 .fin .fin) .fin) .fin) .fin) .fin))) .fin))) (.pick 7 (.first 8 (.pick 1 (.first 2 (.pick 3 (.pick 5 (.pick 9 (.pick 10 (.pick 12 .fin .fin) .fin) .fin) (.pick 9 (.pick 5 (.pick 10 (.pick 12 .fin .fin) .fin) .fin) .fin)) (.pick 9 (.pick 3 (.pick 5 (.pick 10 (.pick 12 .fin .fin) .fin) .fin) .fin) .fin))) (.pick 9 (.pick 1 (.first 2 (.pick 3 (.pick 5 (.pick 10 (.pick 12 .fin .fin) .fin) .fin) .fin)) .fin) .fin))) .fin)) .fin)))))) mixed (by kernel_rfl) ?_ ?_
    · simp
      clear ihx ihy ty
      repeat' first
        | refine And.intro ?_ ?_
        | (refine TWoH.callV tx callable_98 (by simp) (by simp) (by simp) (by simp) ?_
           simp)
        | (refine TWoH.callV tc callable_131 (by simp) (by simp) (by simp) (by simp) ?_
           simp)
        | (refine gall_fresh [c] (by simp) fun d fd => ?_
           simp [frF] at fd
           simp [fd])
        | (refine ⟨_, rfl, ?_⟩
           refine ⟨rfl, rfl, rfl, by simp [fd], by simp [fd], fd.2⟩)
      all_goals skip
    rintro ⟨σ, H⟩ ⟨d, s5, s2, s1, s4, hC, hD, ncd⟩
    simp only at s5 s2 s1 s4 hC hD
    have ncd' : ¬ d = c := fun e => ncd e.symm
    simp [s5, s2, s1, s4, hC, hD, ncd, ncd']
    refine TWoH.callV (tc_null x) callable_108 (by simp) (by simp) (by simp) (by simp) ?_
    cases cn : nullX x
    · have e : byX (.cat x y) b = z := by
        have e0 : byX (.cat x y) b = if nullX x = true then orX (catX (byX x b) y) (byX y b) else catX (byX x b) y := rfl
        rw [e0, if_neg (by rw [cn]; simp), hz]
      rw [e]
      simp [s5, s2, s1, s4, hC, hD, ncd, ncd', cn, ez]
    · have e : byX (.cat x y) b = orX z (byX y b) := by
        have e0 : byX (.cat x y) b = if nullX x = true then orX (catX (byX x b) y) (byX y b) else catX (byX x b) y := rfl
        rw [e0, if_pos cn, hz]
      rw [e]
      simp [s5, s2, s1, s4, hC, hD, ncd, ncd', cn]
      refine TWcH.regionD (ρ := [2]) [0, 1, 2, 3, 4, 5, 6, 7, 8] 8 mixed (by kernel_rfl) ?_
      simp [s5, s2, s1, s4, hC, hD, ncd, ncd', cn, ez]
      refine TWqH.callV ty callable_98 (by simp) (by simp) (by simp) (by simp) ?_
      simp [s5, s2, s1, s4, hC, hD, ncd, ncd', cn, ez]
      refine TWqH.callV (tc_normOr z (byX y b) h3 h2.1 (by omega)) callable_132 (by simp [ez]) (by simp) (by simp) (by simp) ?_
      simp [s5, s2, s1, s4, hC, hD, ncd, ncd', cn, ez]
end Go.Proofs.YtdomnlnanbekaaaGreatDoor.R

open Go Go.Proofs.YtdomnlnanbekaaaGreatDoor.T
namespace Go.Proofs.YtdomnlnanbekaaaGreatDoor.R
set_option maxHeartbeats 16000000
set_option maxRecDepth 100000
set_option linter.unusedSimpArgs false
set_option linter.unusedVariables false
attribute [local simp] bsV bsRows chunk fillT partsT appV makeV rowsOf cellsOf placeOf frzT frz1
def szS (l : List Rx) : Nat := (l.map Rx.sz).sum
theorem szS_take {l : List Rx} {i : Nat} (hi : i < l.length) : szS (l.take (i + 1)) = szS (l.take i) + l[i].sz := by
  unfold szS; rw [List.take_succ_eq_append_getElem hi, List.map_append, List.sum_append]; simp
theorem sz_eq (x : Rx) : x.sz = 1 + szS x.kids := by cases x <;> simp [Rx.sz, Rx.kids, szS] <;> omega
theorem szS_le (l : List Rx) (i : Nat) : szS (l.take i) ≤ szS l := by
  have : szS l = szS (l.take i) + szS (l.drop i) := by
    unfold szS; rw [← List.sum_append, ← List.map_append, List.take_append_drop]
  omega
theorem tc_manyParts0 (x : Rx) (hsz : x.sz ≤ 1000000000) (ih : ∀ i (h : i < x.kids.length), TC Tryz.prog 106 [.agg (encX x.kids[i])] [] (.val (.int .i64 x.kids[i].sz)) []) : TC Tryz.prog 106 [.agg (encX x)] [] (.val (.int .i64 x.sz)) [] := by
  have ex := encX_eq x
  have hkl := kids_len x
  have hse := sz_eq x
  refine TC.enter Tryz.func106 rfl (by simp [Tryz.ntmps106]) rfl (tw_sound (ρ := [1]) ?_)
  rw [Tryz.ntmps106]
  simp [ex]
  refine TWcH.loop [1] (fun m st => ∃ i : Nat, i + m = x.kids.length ∧ st.σ 3 = .val (.int .i64 ((1 + szS (x.kids.take i) : Nat) : Int)) ∧ st.σ 7 = .ro (x.kids.map encX) ∧ st.σ 8 = .val (.int .i64 x.kids.length) ∧ st.σ 9 = .val (.int .i64 i)) x.kids.length ⟨0, by simp [szS]⟩ ?_
  rintro m ⟨σ, H⟩ ⟨i, him, h3, h7, h8, h9⟩
  simp only at h3 h7 h8 h9
  by_cases hi : i < x.kids.length
  case neg =>
    obtain rfl : i = x.kids.length := by omega
    rw [List.take_length, ← hse] at h3
    simp [h3, h7, h8, h9]
  have hw : IntKind.i64.wrap ((i : Int) + 1) = i + 1 := wrapi (by omega)
  have hih := ih i hi
  have hst := szS_take hi
  have hle := szS_le x.kids (i + 1)
  obtain ⟨y, hy⟩ : ∃ y, ∀ h, x.kids[i]'h = y := ⟨x.kids[i], fun _ => rfl⟩
  rw [hy] at hih hst
  generalize szS (x.kids.take i) = A at *
  have hw2 : IntKind.i64.wrap (1 + (A : Int) + y.sz) = 1 + A + y.sz := wrapi (by omega)
  simp [h3, h7, h8, h9, hi, hy]
  refine gall_intro fun c gc => ?_
  clear gc
  simp [h3, h7, h8, h9, hi, hy]
  refine TWoH.callV hih callable_106 (by simp) (by simp) (by simp) (by simp) ?_
  simp [h3, h7, h8, h9, hi, hy, hw, hw2]
  exact ⟨m - 1, by omega, i + 1, by omega, by omega, by omega⟩
theorem tc_manyParts : ∀ (x : Rx), x.sz ≤ 1000000000 → TC Tryz.prog 106 [.agg (encX x)] [] (.val (.int .i64 x.sz)) []
  | x, hsz => tc_manyParts0 x hsz fun i hi => by
    have hm := List.getElem_mem hi
    have h1 := kids_sz hm
    exact tc_manyParts x.kids[i] (by omega)
termination_by x => x.sz
decreasing_by exact h1
theorem tc_copiedRex (l : List Rx) (hl : l.length ≤ 1048576) : TC Tryz.prog 151 [.ro (l.map encX)] [] (.own 37 (l.map encX)) [] := by
  refine TC.enter Tryz.func151 rfl (by simp [Tryz.ntmps151]) rfl (TWc.postT (tw_sound (ρ := []) ?_))
  rw [Tryz.ntmps151]
  simp
  refine gif_intro (fun c1 => ?_) (fun c1 => ?_) <;> simp [c1]
  · refine Turn.nil 2 37 (by simp) fun id hid => ?_
    simp [List.eq_nil_of_length_eq_zero (show l.length = 0 by simpa using c1)]
  have k1 : (56 : Int) * l.length ≤ 281474976710656 := by omega
  have k2 : (l.length : Int) ≤ 9223372036854775807 := by omega
  simp [k1, k2]
  refine gall_intro fun id hid => ?_
  simp
  refine TWoH.copy id (List.replicate l.length [.val (.int .i64 0), .val (.slice none 0 0), .val (.slice none 0 0)]) (l.map encX) Tryz.underlying35 (by simp) ?_ ?_ ?_ (rl_X l) ?_ ?_
  all_goals simp
  exact Turn.same (by simp)
theorem tc_copiedSpanR (l : List (Int × Int)) (hl : l.length ≤ 1048576) : TC Tryz.prog 130 [.ro (l.map encSp)] [] (.ro (l.map encSp)) [] := by
  have := (tc_copiedSpan l hl).frz
  simpa using this
/-- A copy under way: the box and its own kids. -/
def CopA (x : Rx) (c : Nat) (st : St) : Prop := ∃ c3 q, ¬ c3 = c ∧ ¬ c = c3 ∧ ¬ q = c ∧ ¬ c = q ∧ ¬ c3 = q ∧ ¬ q = c3 ∧ st.σ 2 = .pd c 0 0 0 ∧ st.H c = some (.box 37 [.val (.int .i64 0), .val (.slice none 0 0), .val (.slice none 0 0)]) ∧ st.σ 3 = .pd c3 0 0 0 ∧ st.H c3 = some (.box 37 [.val (.int .i64 x.kind), .ro (x.span.map encSp), .hd q]) ∧ st.H q = some (.own 37 (x.kids.map encX))
theorem tc_rexCopy0 (x : Rx) (hok : x.ok) (ih : ∀ i (h : i < x.kids.length), TC Tryz.prog 97 [.agg (encX x.kids[i])] [] (.agg (encX x.kids[i])) []) : TC Tryz.prog 97 [.agg (encX x)] [] (.agg (encX x)) [] := by
  have ex := encX_eq x
  have hkl := kids_len x
  have hsl : x.span.length ≤ 1048576 := by
    cases x <;> simp [Rx.span]
    have := setOk_len hok; omega
  have ts := tc_copiedSpanR x.span hsl
  have tk := tc_copiedRex x.kids (by omega)
  suffices h : TC Tryz.prog 97 [.agg (encX x)] [] (.agg [.val (.int .i64 x.kind), .ro (x.span.map encSp), .own 37 (x.kids.map encX)]) [] by
    have := h.frz
    rw [ex] at this ⊢
    simpa using this
  refine TC.enter Tryz.func97 rfl (by simp [Tryz.ntmps97]) rfl (tw_sound (ρ := [1]) ?_)
  rw [Tryz.ntmps97]
  simp [ex]
  refine gall_intro fun c gc => ?_
  clear gc
  simp
  refine TWcH.midB (ρ := [1]) (CopA x c) (.first 0 (.first 2 (.first 5 (.pick 1 (.pick 3 (.pick 4 (.pick 6 (.pick 7 (.first 8 (.pick 9 (.pick 10 .fin .fin) .fin)) (.pick 9 (.pick 7 (.first 8 (.pick 10 .fin .fin)) .fin) .fin)) (.pick 9 (.pick 6 (.pick 7 (.first 8 (.pick 10 .fin .fin)) .fin) .fin) .fin)) (.pick 6 (.pick 4 (.pick 7 (.first 8 (.pick 9 (.pick 10 .fin .fin) .fin)) (.pick 9 (.pick 7 (.first 8 (.pick 10 .fin .fin)) .fin) .fin)) (.pick 9 (.pick 4 (.pick 7 (.first 8 (.pick 10 .fin .fin)) .fin) .fin) .fin)) (.pick 9 (.pick 4 (.pick 6 (.pick 7 (.first 8 (.pick 10 .fin .fin)) .fin) .fin) (.pick 6 (.pick 4 (.pick 7 (.first 8 (.pick 10 .fin .fin)) .fin) .fin) .fin)) .fin))) (.pick 6 (.pick 3 (.pick 4 (.pick 7 (.first 8 (.pick 9 (.pick 10 .fin .fin) .fin)) (.pick 9 (.pick 7 (.first 8 (.pick 10 .fin .fin)) .fin) .fin)) (.pick 9 (.pick 4 (.pick 7 (.first 8 (.pick 10 .fin .fin)) .fin) .fin) .fin)) (.pick 9 (.pick 3 (.pick 4 (.pick 7 (.first 8 (.pick 10 .fin .fin)) .fin) .fin) .fin) .fin)) (.pick 9 (.pick 3 (.pick 4 (.pick 6 (.pick 7 (.first 8 (.pick 10 .fin .fin)) .fin) .fin) (.pick 6 (.pick 4 (.pick 7 (.first 8 (.pick 10 .fin .fin)) .fin) .fin) .fin)) (.pick 6 (.pick 3 (.pick 4 (.pick 7 (.first 8 (.pick 10 .fin .fin)) .fin) .fin) .fin) .fin)) .fin))) (.pick 3 (.pick 1 (.pick 4 (.pick 6 (.pick 7 (.first 8 (.pick 9 (.pick 10 .fin .fin) .fin)) (.pick 9 (.pick 7 (.first 8 (.pick 10 .fin .fin)) .fin) .fin)) (.pick 9 (.pick 6 (.pick 7 (.first 8 (.pick 10 .fin .fin)) .fin) .fin) .fin)) (.pick 6 (.pick 4 (.pick 7 (.first 8 (.pick 9 (.pick 10 .fin .fin) .fin)) (.pick 9 (.pick 7 (.first 8 (.pick 10 .fin .fin)) .fin) .fin)) (.pick 9 (.pick 4 (.pick 7 (.first 8 (.pick 10 .fin .fin)) .fin) .fin) .fin)) (.pick 9 (.pick 4 (.pick 6 (.pick 7 (.first 8 (.pick 10 .fin .fin)) .fin) .fin) (.pick 6 (.pick 4 (.pick 7 (.first 8 (.pick 10 .fin .fin)) .fin) .fin) .fin)) .fin))) (.pick 4 (.pick 1 (.pick 6 (.pick 7 (.first 8 (.pick 9 (.pick 10 .fin .fin) .fin)) (.pick 9 (.pick 7 (.first 8 (.pick 10 .fin .fin)) .fin) .fin)) (.pick 9 (.pick 6 (.pick 7 (.first 8 (.pick 10 .fin .fin)) .fin) .fin) .fin)) (.pick 6 (.pick 1 (.pick 7 (.first 8 (.pick 9 (.pick 10 .fin .fin) .fin)) (.pick 9 (.pick 7 (.first 8 (.pick 10 .fin .fin)) .fin) .fin)) (.pick 7 (.pick 1 (.first 8 (.pick 9 (.pick 10 .fin .fin) .fin)) (.pick 9 (.pick 1 (.first 8 (.pick 10 .fin .fin)) .fin) .fin)) (.pick 9 (.pick 1 (.pick 7 (.first 8 (.pick 10 .fin .fin)) .fin) (.pick 7 (.pick 1 (.first 8 (.pick 10 .fin .fin)) .fin) .fin)) .fin))) (.pick 9 (.pick 1 (.pick 6 (.pick 7 (.first 8 (.pick 10 .fin .fin)) .fin) .fin) (.pick 6 (.pick 1 (.pick 7 (.first 8 (.pick 10 .fin .fin)) .fin) (.pick 7 (.pick 1 (.first 8 (.pick 10 .fin .fin)) .fin) .fin)) .fin)) .fin))) (.pick 6 (.pick 1 (.pick 4 (.pick 7 (.first 8 (.pick 9 (.pick 10 .fin .fin) .fin)) (.pick 9 (.pick 7 (.first 8 (.pick 10 .fin .fin)) .fin) .fin)) (.pick 9 (.pick 4 (.pick 7 (.first 8 (.pick 10 .fin .fin)) .fin) .fin) .fin)) (.pick 4 (.pick 1 (.pick 7 (.first 8 (.pick 9 (.pick 10 .fin .fin) .fin)) (.pick 9 (.pick 7 (.first 8 (.pick 10 .fin .fin)) .fin) .fin)) (.pick 7 (.pick 1 (.first 8 (.pick 9 (.pick 10 .fin .fin) .fin)) (.pick 9 (.pick 1 (.first 8 (.pick 10 .fin .fin)) .fin) .fin)) (.pick 9 (.pick 1 (.pick 7 (.first 8 (.pick 10 .fin .fin)) .fin) (.pick 7 (.pick 1 (.first 8 (.pick 10 .fin .fin)) .fin) .fin)) .fin))) (.pick 9 (.pick 1 (.pick 4 (.pick 7 (.first 8 (.pick 10 .fin .fin)) .fin) .fin) (.pick 4 (.pick 1 (.pick 7 (.first 8 (.pick 10 .fin .fin)) .fin) (.pick 7 (.pick 1 (.first 8 (.pick 10 .fin .fin)) .fin) .fin)) .fin)) .fin))) (.pick 9 (.pick 1 (.pick 4 (.pick 6 (.pick 7 (.first 8 (.pick 10 .fin .fin)) .fin) .fin) (.pick 6 (.pick 4 (.pick 7 (.first 8 (.pick 10 .fin .fin)) .fin) .fin) .fin)) (.pick 4 (.pick 1 (.pick 6 (.pick 7 (.first 8 (.pick 10 .fin .fin)) .fin) .fin) (.pick 6 (.pick 1 (.pick 7 (.first 8 (.pick 10 .fin .fin)) .fin) (.pick 7 (.pick 1 (.first 8 (.pick 10 .fin .fin)) .fin) .fin)) .fin)) (.pick 6 (.pick 1 (.pick 4 (.pick 7 (.first 8 (.pick 10 .fin .fin)) .fin) .fin) (.pick 4 (.pick 1 (.pick 7 (.first 8 (.pick 10 .fin .fin)) .fin) (.pick 7 (.pick 1 (.first 8 (.pick 10 .fin .fin)) .fin) .fin)) .fin)) .fin))) .fin)))) (.pick 6 (.pick 1 (.pick 3 (.pick 4 (.pick 7 (.first 8 (.pick 9 (.pick 10 .fin .fin) .fin)) (.pick 9 (.pick 7 (.first 8 (.pick 10 .fin .fin)) .fin) .fin)) (.pick 9 (.pick 4 (.pick 7 (.first 8 (.pick 10 .fin .fin)) .fin) .fin) .fin)) (.pick 9 (.pick 3 (.pick 4 (.pick 7 (.first 8 (.pick 10 .fin .fin)) .fin) .fin) .fin) .fin)) (.pick 3 (.pick 1 (.pick 4 (.pick 7 (.first 8 (.pick 9 (.pick 10 .fin .fin) .fin)) (.pick 9 (.pick 7 (.first 8 (.pick 10 .fin .fin)) .fin) .fin)) (.pick 9 (.pick 4 (.pick 7 (.first 8 (.pick 10 .fin .fin)) .fin) .fin) .fin)) (.pick 4 (.pick 1 (.pick 7 (.first 8 (.pick 9 (.pick 10 .fin .fin) .fin)) (.pick 9 (.pick 7 (.first 8 (.pick 10 .fin .fin)) .fin) .fin)) (.pick 7 (.pick 1 (.first 8 (.pick 9 (.pick 10 .fin .fin) .fin)) (.pick 9 (.pick 1 (.first 8 (.pick 10 .fin .fin)) .fin) .fin)) (.pick 9 (.pick 1 (.pick 7 (.first 8 (.pick 10 .fin .fin)) .fin) (.pick 7 (.pick 1 (.first 8 (.pick 10 .fin .fin)) .fin) .fin)) .fin))) (.pick 9 (.pick 1 (.pick 4 (.pick 7 (.first 8 (.pick 10 .fin .fin)) .fin) .fin) (.pick 4 (.pick 1 (.pick 7 (.first 8 (.pick 10 .fin .fin)) .fin) (.pick 7 (.pick 1 (.first 8 (.pick 10 .fin .fin)) .fin) .fin)) .fin)) .fin))) (.pick 9 (.pick 1 (.pick 3 (.pick 4 (.pick 7 (.first 8 (.pick 10 .fin .fin)) .fin) .fin) .fin) (.pick 3 (.pick 1 (.pick 4 (.pick 7 (.first 8 (.pick 10 .fin .fin)) .fin) .fin) (.pick 4 (.pick 1 (.pick 7 (.first 8 (.pick 10 .fin .fin)) .fin) (.pick 7 (.pick 1 (.first 8 (.pick 10 .fin .fin)) .fin) .fin)) .fin)) .fin)) .fin))) (.pick 9 (.pick 1 (.pick 3 (.pick 4 (.pick 6 (.pick 7 (.first 8 (.pick 10 .fin .fin)) .fin) .fin) (.pick 6 (.pick 4 (.pick 7 (.first 8 (.pick 10 .fin .fin)) .fin) .fin) .fin)) (.pick 6 (.pick 3 (.pick 4 (.pick 7 (.first 8 (.pick 10 .fin .fin)) .fin) .fin) .fin) .fin)) (.pick 3 (.pick 1 (.pick 4 (.pick 6 (.pick 7 (.first 8 (.pick 10 .fin .fin)) .fin) .fin) (.pick 6 (.pick 4 (.pick 7 (.first 8 (.pick 10 .fin .fin)) .fin) .fin) .fin)) (.pick 4 (.pick 1 (.pick 6 (.pick 7 (.first 8 (.pick 10 .fin .fin)) .fin) .fin) (.pick 6 (.pick 1 (.pick 7 (.first 8 (.pick 10 .fin .fin)) .fin) (.pick 7 (.pick 1 (.first 8 (.pick 10 .fin .fin)) .fin) .fin)) .fin)) (.pick 6 (.pick 1 (.pick 4 (.pick 7 (.first 8 (.pick 10 .fin .fin)) .fin) .fin) (.pick 4 (.pick 1 (.pick 7 (.first 8 (.pick 10 .fin .fin)) .fin) (.pick 7 (.pick 1 (.first 8 (.pick 10 .fin .fin)) .fin) .fin)) .fin)) .fin))) (.pick 6 (.pick 1 (.pick 3 (.pick 4 (.pick 7 (.first 8 (.pick 10 .fin .fin)) .fin) .fin) .fin) (.pick 3 (.pick 1 (.pick 4 (.pick 7 (.first 8 (.pick 10 .fin .fin)) .fin) .fin) (.pick 4 (.pick 1 (.pick 7 (.first 8 (.pick 10 .fin .fin)) .fin) (.pick 7 (.pick 1 (.first 8 (.pick 10 .fin .fin)) .fin) .fin)) .fin)) .fin)) .fin))) .fin))))))) mixed (by kernel_rfl) ?_ ?_
  · simp
    repeat' first
      | refine And.intro ?_ ?_
      | (refine TWoH.callV ts callable_130 (by simp) (by simp) (by simp) (by simp) ?_
         simp)
      | (refine TWoH.call tk callable_151 (by simp) (by simp) (.inl (by simp)) fun q hq => ?_
         have fq := frF_ge hq [c, c3] (by simp [f3])
         clear hq
         simp [frF] at fq
         simp [f3, fq])
      | (refine TWoH.call tk callable_151 (by simp) (by simp) (.inl (by simp)) fun q hq => ?_
         have fq := frF_ge hq [c] (by simp)
         clear hq
         simp [frF] at fq
         simp [fq])
      | (refine gall_fresh [c, q] (by simp [fq]) fun c3 f3 => ?_
         simp [frF] at f3
         simp [fq, f3])
      | (refine gall_fresh [c] (by simp) fun c3 f3 => ?_
         simp [frF] at f3
         simp [f3])
    all_goals exact ⟨c3, q, by simp [f3, fq], by simp [f3, fq], by simp [f3, fq], by simp [f3, fq], by simp [f3, fq], by simp [f3, fq], by simp, by simp [f3, fq], by simp, by simp [f3, fq], by simp [f3, fq]⟩
  rintro ⟨σ, H⟩ ⟨c3, q, n1, n2, n3, n4, n5, n6, h2, hC, h3, h3C, hQ⟩
  simp only at h2 hC h3 h3C hQ
  simp [h2, hC, h3, h3C, hQ]
  refine TWcH.loop [1] (fun m st => ∃ i : Nat, i + m = x.kids.length ∧ st.σ 2 = .pd c 0 0 0 ∧ st.H c = some (.box 37 [.val (.int .i64 0), .val (.slice none 0 0), .val (.slice none 0 0)]) ∧ st.σ 3 = .pd c3 0 0 0 ∧ st.H c3 = some (.box 37 [.val (.int .i64 x.kind), .ro (x.span.map encSp), .hd q]) ∧ st.H q = some (.own 37 (x.kids.map encX)) ∧ st.σ 16 = .val (.int .i64 x.kids.length) ∧ st.σ 17 = .val (.int .i64 i)) x.kids.length ⟨0, by simp [h2, hC, h3, h3C, hQ]⟩ ?_
  clear h2 hC h3 h3C hQ
  clear σ H
  rintro m ⟨σ, H⟩ ⟨i, him, h2, hC, h3, h3C, hQ, h16, h17⟩
  simp only at h2 hC h3 h3C hQ h16 h17
  by_cases hi : i < x.kids.length
  case neg =>
    simp [h2, hC, h3, h3C, hQ, h16, h17, hi, n1, n2, n3, n4, n5, n6]
  have hw : IntKind.i64.wrap ((i : Int) + 1) = i + 1 := wrapi (by omega)
  have hih := ih i hi
  have hset : (x.kids.map encX).set i (encX x.kids[i]) = x.kids.map encX := by
    rw [← List.map_set, List.set_getElem_self]
  obtain ⟨y, hy⟩ : ∃ y, ∀ h, x.kids[i]'h = y := ⟨x.kids[i], fun _ => rfl⟩
  rw [hy] at hih hset
  simp [h2, hC, h3, h3C, hQ, h16, h17, hi, n1, n2, n3, n4, n5, n6]
  refine TWcH.regionD (ρ := [1]) [0, 1, 2, 3, 4, 5, 6, 7, 8, 9, 10] 10 mixed (by kernel_rfl) ?_
  simp [h2, hC, h3, h3C, hQ, h16, h17, hi, hy, n1, n2, n3, n4, n5, n6]
  refine TWqH.callV hih callable_97 (by simp) (by simp) (by simp) (by simp) ?_
  simp [h2, hC, h3, h3C, hQ, h16, h17, hi, hy, n1, n2, n3, n4, n5, n6, hw, hset]
  exact ⟨m - 1, by omega, i + 1, by omega, by rw [List.drop_eq_nil_of_le (by simp), List.append_nil, hset], by omega⟩
theorem tc_rexCopy : ∀ (x : Rx), x.ok → TC Tryz.prog 97 [.agg (encX x)] [] (.agg (encX x)) []
  | x, hok => tc_rexCopy0 x hok fun i hi => by
    have hm := List.getElem_mem hi
    have h1 := kids_sz hm
    exact tc_rexCopy x.kids[i] (kids_ok hok hm)
termination_by x => x.sz
decreasing_by exact h1
end Go.Proofs.YtdomnlnanbekaaaGreatDoor.R

open Go Go.Proofs.YtdomnlnanbekaaaGreatDoor.T
namespace Go.Proofs.YtdomnlnanbekaaaGreatDoor.R
set_option maxHeartbeats 8000000
set_option maxRecDepth 100000
set_option linter.unusedSimpArgs false
set_option linter.unusedVariables false
attribute [local simp] bsV bsRows chunk fillT partsT appV makeV rowsOf cellsOf placeOf frzT frz1
def numsD : List Int := [97, 98, 99, 48, 0, 255, -1, 256]
theorem tcr_DrawDerivBy (b : List UInt8) (hb : b.length ≤ 1048576) : TCR Tryz.prog 29 [.ro (b.map encU)] [] (fun r o => ∃ (x : Rex) (i : Int), r = .tup [.agg (encRex x), .val (.int .i64 i)] ∧ Sm x ∧ i ∈ numsD ∧ o = []) := by
  refine TCR.enter Tryz.func29 rfl (by simp [Tryz.ntmps29]) rfl (tw_sound (ρ := [12]) ?_)
  rw [Tryz.ntmps29]
  have hbt : (b.take 2000).length ≤ 2000 := by simp; omega
  simp
  refine gall_intro fun c2 g2 => ?_
  clear g2
  simp
  refine TWoH.call (tc_l15Open b hb) callable_61 (by simp) (by simp [rdr, ← List.map_take]) (by simp) fun q hq => ?_
  have fq := frF_ge hq [c2] (by simp)
  clear hq
  simp [frF] at fq
  simp [rdr, fq]
  refine TWoH.lendR [q] (tcr_l2Bent (b.take 2000) 0 hbt (by omega)) callable_71 (by simp [List.findIdx?_cons, fq]) (by simp [rdr, fq]) (by simp) (by simp) ?_
  rintro r o ⟨x, p1, rfl, hx, hp1, rfl⟩
  refine ⟨by simp [rdr], by simp, .inl (by simp [List.findIdx?_cons, fq]), fun q2 hq2 => ?_⟩
  clear hq2
  simp [fq]
  refine gall_fresh [c2, q] (by simp [fq]) fun c5 f5 => ?_
  simp [frF] at f5
  simp [fq, f5]
  refine TWcH.regionB (ρ := [12]) (.first 1 (.pick 0 (.pick 2 (.pick 3 (.pick 4 (.first 5 .fin) .fin) .fin) .fin) (.pick 2 (.pick 0 (.pick 3 (.pick 4 (.first 5 .fin) .fin) .fin) (.pick 3 (.pick 0 (.pick 4 (.first 5 .fin) .fin) .fin) .fin)) .fin))) mixed (by kernel_rfl) ?_
  simp [fq, f5]
  repeat' first
    | refine And.intro ?_ ?_
    | (refine TWoH.lendR [q] (tcr_num (b.take 2000) p1 numsD hbt (by omega) (by simp [numsD]) (by simp [numsD])) callable_74 (by simp [List.findIdx?_cons, fq, f5, encIn, numsD]) (by simp [fq, f5]) (by simp) (by simp) ?_
       rintro r o ⟨i, hi, rfl, rfl⟩
       refine ⟨by simp [rdr], by simp, .inl (by simp [List.findIdx?_cons, fq, f5]), fun q' hq => ?_⟩
       clear hq
       simp [fq, f5])
  all_goals exact ⟨x, i, ⟨rfl, rfl⟩, hx, hi⟩
def numsA : List Int := [40, 20, 5, 1, 0, 100]
theorem tcr_DrawDerivAll (b : List UInt8) (hb : b.length ≤ 1048576) : TCR Tryz.prog 40 [.ro (b.map encU)] [] (fun r o => ∃ (x : Rex) (i : Int), r = .tup [.agg (encRex x), .val (.int .i64 i)] ∧ Sm x ∧ i ∈ numsA ∧ o = []) := by
  refine TCR.enter Tryz.func40 rfl (by simp [Tryz.ntmps40]) rfl (tw_sound (ρ := [12]) ?_)
  rw [Tryz.ntmps40]
  have hbt : (b.take 2000).length ≤ 2000 := by simp; omega
  simp
  refine gall_intro fun c2 g2 => ?_
  clear g2
  simp
  refine TWoH.call (tc_l15Open b hb) callable_61 (by simp) (by simp [rdr, ← List.map_take]) (by simp) fun q hq => ?_
  have fq := frF_ge hq [c2] (by simp)
  clear hq
  simp [frF] at fq
  simp [rdr, fq]
  refine TWoH.lendR [q] (tcr_l2Bent (b.take 2000) 0 hbt (by omega)) callable_71 (by simp [List.findIdx?_cons, fq]) (by simp [rdr, fq]) (by simp) (by simp) ?_
  rintro r o ⟨x, p1, rfl, hx, hp1, rfl⟩
  refine ⟨by simp [rdr], by simp, .inl (by simp [List.findIdx?_cons, fq]), fun q2 hq2 => ?_⟩
  clear hq2
  simp [fq]
  refine gall_fresh [c2, q] (by simp [fq]) fun c5 f5 => ?_
  simp [frF] at f5
  simp [fq, f5]
  refine TWcH.regionB (ρ := [12]) (.first 1 (.pick 0 (.pick 2 (.pick 3 (.pick 4 (.first 5 .fin) .fin) .fin) .fin) (.pick 2 (.pick 0 (.pick 3 (.pick 4 (.first 5 .fin) .fin) .fin) (.pick 3 (.pick 0 (.pick 4 (.first 5 .fin) .fin) .fin) .fin)) .fin))) mixed (by kernel_rfl) ?_
  simp [fq, f5]
  repeat' first
    | refine And.intro ?_ ?_
    | (refine TWoH.lendR [q] (tcr_num (b.take 2000) p1 numsA hbt (by omega) (by simp [numsA]) (by simp [numsA])) callable_74 (by simp [List.findIdx?_cons, fq, f5, encIn, numsA]) (by simp [fq, f5]) (by simp) (by simp) ?_
       rintro r o ⟨i, hi, rfl, rfl⟩
       refine ⟨by simp [rdr], by simp, .inl (by simp [List.findIdx?_cons, fq, f5]), fun q' hq => ?_⟩
       clear hq
       simp [fq, f5])
  all_goals exact ⟨x, i, ⟨rfl, rfl⟩, hx, hi⟩
theorem tcr_l15ManyA (u : List UInt8) (n0 : Nat) (hn : n0 ≤ 101) (hu : u.length = 1) : TCR Tryz.prog 73 [.val (.string (bs u)), .val (.int .i64 n0)] [] (fun r o => ∃ w : List UInt8, r = .val (.string (bs w)) ∧ w.length ≤ 202 ∧ o = []) := by
  refine TCR.enter Tryz.func73 rfl (by simp [Tryz.ntmps73]) rfl (tw_sound (ρ := []) ?_)
  rw [Tryz.ntmps73]
  simp
  refine TWcH.loop [] (fun m st => ∃ (s w : List UInt8), m ≤ 101 ∧ w.length + s.length * m ≤ 202 ∧ s.length ≤ 404 ∧ st.σ 0 = .val (.string (bs s)) ∧ st.σ 1 = .val (.int .i64 m) ∧ st.σ 5 = .val (.string (bs w))) n0 ⟨u, [], by omega, by rw [hu]; simp; omega, by omega, by simp⟩ ?_
  rintro m ⟨σ, H⟩ ⟨s, w, hm, hL, hsl, h0, h1, h5⟩
  simp only at h0 h1 h5
  by_cases hz : 0 < m
  · have e2 : Int.tmod (m : Int) 2 = (m % 2 : Nat) := by
      rw [Int.tmod_eq_emod_of_nonneg (by omega)]; omega
    have e3 : Int.tdiv (m : Int) 2 = (m / 2 : Nat) := by
      rw [Int.tdiv_eq_ediv_of_nonneg (by omega)]; omega
    have hw2 : IntKind.i64.wrap ((m / 2 : Nat) : Int) = (m / 2 : Nat) := wrapi (by omega)
    have hmul : s.length ≤ s.length * m := Nat.le_mul_of_pos_right _ hz
    have hsplit : s.length * m = s.length * (m / 2) + s.length * (m / 2) + s.length * (m % 2) := by
      rw [← Nat.mul_add, ← Nat.mul_add]; congr 1; omega
    have k1 : ¬ (9223372036854775807 : Int) < (s.length : Int) + s.length := by omega
    have k2 : ¬ (9223372036854775807 : Int) < (w.length : Int) + s.length := by omega
    rcases Nat.mod_two_eq_zero_or_one m with e | e
    · simp [h0, h1, h5, hz, e2, e, e3, hw2, k1, k2]
      refine ⟨m / 2, by omega, by omega, s ++ s, w, ?_, by rw [List.length_append]; omega, rfl, by rw [show (m : Int) / 2 = ((m / 2 : Nat) : Int) by omega]; exact hw2, rfl⟩
      rw [e] at hsplit
      simp only [List.length_append, Nat.add_mul]
      omega
    · simp [h0, h1, h5, hz, e2, e, e3, hw2, k1, k2]
      refine ⟨m / 2, by omega, by omega, s ++ s, w ++ s, ?_, by rw [List.length_append]; omega, rfl, by rw [show (m : Int) / 2 = ((m / 2 : Nat) : Int) by omega]; exact hw2, rfl⟩
      rw [e] at hsplit
      simp only [List.length_append, Nat.add_mul]
      omega
  · obtain rfl : m = 0 := by omega
    simp [h0, h1, h5]
    exact ⟨w, rfl, by omega⟩
theorem tcr_DrawMatchIs (b : List UInt8) (hb : b.length ≤ 1048576) : TCR Tryz.prog 16 [.ro (b.map encU)] [] (fun r o => ∃ (x : Rex) (w : List UInt8), r = .tup [.agg (encRex x), .val (.string (bs w))] ∧ Sm x ∧ w.length ≤ 202 ∧ o = []) := by
  refine TCR.enter Tryz.func16 rfl (by simp [Tryz.ntmps16]) rfl (tw_sound (ρ := [15]) ?_)
  rw [Tryz.ntmps16]
  have hbt : (b.take 2000).length ≤ 2000 := by simp; omega
  simp
  refine gall_intro fun c2 g2 => ?_
  clear g2
  simp
  refine TWoH.call (tc_l15Open b hb) callable_61 (by simp) (by simp [rdr, ← List.map_take]) (by simp) fun q hq => ?_
  have fq := frF_ge hq [c2] (by simp)
  clear hq
  simp [frF] at fq
  simp [rdr, fq]
  refine TWoH.lendR [q] (tcr_l2Bent (b.take 2000) 0 hbt (by omega)) callable_71 (by simp [List.findIdx?_cons, fq]) (by simp [rdr, fq]) (by simp) (by simp) ?_
  rintro r o ⟨x, p1, rfl, hx, hp1, rfl⟩
  refine ⟨by simp [rdr], by simp, .inl (by simp [List.findIdx?_cons, fq]), fun q2 hq2 => ?_⟩
  clear hq2
  simp [fq]
  refine gall_fresh [c2, q] (by simp [fq]) fun c5 f5 => ?_
  simp [frF] at f5
  simp [fq, f5]
  refine TWoH.lendR [q] (tcr_pick (b.take 2000) p1 30 hbt (by omega)) callable_72 (by simp [List.findIdx?_cons, fq, f5]) (by simp [fq, f5]) (by simp) (by simp) ?_
  rintro r o ⟨k1, rfl, k10, k11, rfl⟩
  refine ⟨by simp [rdr], by simp, .inl (by simp [List.findIdx?_cons, fq, f5]), fun q5 hq5 => ?_⟩
  clear hq5
  by_cases c1 : k1 = 0
  · subst c1
    simp [fq, f5]
    refine TWcH.regionB (ρ := [15]) (.first 1 (.pick 0 (.pick 2 (.pick 3 (.pick 4 (.pick 5 (.first 6 .fin) .fin) .fin) .fin) .fin) (.pick 2 (.pick 0 (.pick 3 (.pick 4 (.pick 5 (.first 6 .fin) .fin) .fin) .fin) (.pick 3 (.pick 0 (.pick 4 (.pick 5 (.first 6 .fin) .fin) .fin) (.pick 4 (.pick 0 (.pick 5 (.first 6 .fin) .fin) .fin) .fin)) .fin)) .fin))) mixed (by kernel_rfl) ?_
    simp [fq, f5]
    repeat' first
      | refine And.intro ?_ ?_
      | (refine TWoH.lendR [q] (tcr_num (b.take 2000) (p1 + 1) [12, 13] hbt (by omega) (by simp) (by simp)) callable_74 (by simp [List.findIdx?_cons, fq, f5, encIn]) (by simp [fq, f5]) (by simp) (by simp) ?_
         rintro r o ⟨i, hi, rfl, rfl⟩
         have hi2 : i = ((i.toNat : Nat) : Int) ∧ i.toNat ≤ 13 := by
           simp only [List.mem_cons, List.not_mem_nil, or_false] at hi
           omega
         rw [hi2.1]
         refine ⟨by simp [rdr], by simp, .inl (by simp [List.findIdx?_cons, fq, f5]), fun q' hq => ?_⟩
         clear hq
         simp [fq, f5])
      | (refine TWoH.callR (tcr_l15ManyA [97] i.toNat (by omega) rfl) callable_73 (by simp) ?_
         rintro r o ⟨w, rfl, hw, rfl⟩
         refine ⟨rfl, by simp, .inl (by simp), fun q' hq => ?_⟩
         clear hq
         simp [fq, f5])
    all_goals exact ⟨x, w, ⟨rfl, rfl⟩, hx, hw⟩
  · simp [fq, f5, c1]
    refine TWcH.regionB (ρ := [15]) (.first 1 (.pick 0 (.pick 2 (.pick 3 (.first 4 .fin) .fin) .fin) (.pick 2 (.pick 0 (.pick 3 (.first 4 .fin) .fin) .fin) .fin))) mixed (by kernel_rfl) ?_
    simp [fq, f5]
    repeat' first
      | refine And.intro ?_ ?_
      | (refine TWoH.lendR [q] (tcr_l3Word (b.take 2000) (p1 + 1) 6 hbt (by omega) (by omega)) callable_75 (by simp [List.findIdx?_cons, fq, f5]) (by simp [fq, f5]) (by simp) (by simp) ?_
         rintro r o ⟨w, p2, rfl, hw, hwb, hp2, rfl⟩
         refine ⟨by simp [rdr], by simp, .inl (by simp [List.findIdx?_cons, fq, f5]), fun q' hq => ?_⟩
         clear hq
         simp [fq, f5])
    all_goals exact ⟨x, w, ⟨rfl, rfl⟩, hx, by omega⟩
theorem tcr_DrawDerivText (b : List UInt8) (hb : b.length ≤ 1048576) : TCR Tryz.prog 35 [.ro (b.map encU)] [] (fun r o => ∃ (x : Rex) (w : List UInt8), r = .tup [.agg (encRex x), .val (.string (bs w))] ∧ Sm x ∧ w.length ≤ 202 ∧ o = []) := by
  refine TCR.enter Tryz.func35 rfl (by simp [Tryz.ntmps35]) rfl (tw_sound (ρ := []) ?_)
  rw [Tryz.ntmps35]
  simp
  refine gall_intro fun c2 g2 => ?_
  clear g2
  simp
  refine TWoH.callR (tcr_DrawMatchIs b hb) callable_16 (by simp) ?_
  rintro r o ⟨x, w, rfl, hx, hw, rfl⟩
  refine ⟨rfl, by simp, .inl (by simp), fun q' hq => ?_⟩
  clear hq
  simp
  exact ⟨x, w, ⟨rfl, rfl⟩, hx, hw⟩
end Go.Proofs.YtdomnlnanbekaaaGreatDoor.R

open Go Go.Proofs.YtdomnlnanbekaaaGreatDoor.T
namespace Go.Proofs.YtdomnlnanbekaaaGreatDoor.R
set_option maxHeartbeats 8000000
set_option maxRecDepth 100000
set_option linter.unusedSimpArgs false
set_option linter.unusedVariables false
attribute [local simp] bsV bsRows chunk fillT partsT appV makeV rowsOf cellsOf placeOf
theorem rx_of {r : Rex} (h : rexOk r = true) : ∃ x : Rx, x.rex = r ∧ x.ok ∧ x.sz ≤ 24 := by
  simp only [rexOk, Bool.and_eq_true, decide_eq_true_eq] at h
  obtain ⟨x, hx1, hx2⟩ := formF_rx 8 _ h.1
  refine ⟨x, hx1, hx2, ?_⟩
  have := h.2
  rw [← hx1, manyN_rex] at this
  omega
noncomputable def rxOf (r : Rex) : Rx := open Classical in if h : ∃ x : Rx, x.rex = r ∧ x.ok ∧ x.sz ≤ 24 then Classical.choose h else .emp
theorem rxOf_of {r : Rex} (h : rexOk r = true) : (rxOf r).rex = r ∧ (rxOf r).ok ∧ (rxOf r).sz ≤ 24 := by
  unfold rxOf
  rw [dif_pos (rx_of h)]
  exact Classical.choose_spec (rx_of h)
def rex0 : Rex := .mk 0 [] []
/-- What is left of a pattern behind a byte. -/
noncomputable def dBy (r : Rex) (b : Int) : Rex := if rexOk r = true ∧ 0 ≤ b ∧ b ≤ 255 then (byX (normX (rxOf r)) b).rex else rex0
theorem enc0 : encRex rex0 = [.val (.int .i64 0), .ro [], .ro []] := by simp [rex0, encRex, encRexL]
theorem frz0 {f : FuncId} {args : List TV} (h : TC Tryz.prog f args [] (.agg [.val (.int .i64 0), .val (.slice none 0 0), .val (.slice none 0 0)]) []) : TC Tryz.prog f args [] (.agg (encRex rex0)) [] := by
  have := h.frz
  rw [enc0]
  simpa using this
theorem Sm0 : Sm rex0 := by simp [rex0, Sm, SmL]
theorem dBy_Sm (r : Rex) (b : Int) : Sm (dBy r b) := by
  unfold dBy
  split
  · rename_i h
    obtain ⟨h1, h2, h3⟩ := rxOf_of h.1
    exact Rx.sm _ (byX_ok b (normX_ok h2).1).1
  · exact Sm0
theorem tc_sDerivBy (r : Rex) (b : Int) (hs : Sm r) : TC Tryz.prog 32 [.agg (encRex r), .val (.int .i64 b)] [] (.agg (encRex (dBy r b))) [] := by
  have hok := tc_sRexOk r hs
  by_cases c1 : rexOk r = true ∧ 0 ≤ b ∧ b ≤ 255
  · obtain ⟨h1, h2, h3⟩ := rxOf_of c1.1
    have e : dBy r b = (byX (normX (rxOf r)) b).rex := if_pos c1
    rw [e]
    have cp := tc_l2Copy r hs
    have hn := normX_ok h2
    have hb := byX_ok b hn.1
    have hsz : (normX (rxOf r)).sz * (normX (rxOf r)).sz ≤ 24 * 24 := Nat.mul_le_mul (by omega) (by omega)
    have d1 := tc_l4Norm (rxOf r) h2 (by omega)
    have d2 := tc_l5By (normX (rxOf r)) b hn.1 (by omega)
    have d3 := tc_l2Copy _ (Rx.sm _ hb.1)
    unfold encX at d1 d2
    rw [h1] at d1
    generalize (normX (rxOf r)).rex = N at *
    generalize (byX (normX (rxOf r)) b).rex = D at *
    refine TC.enter Tryz.func32 rfl (by simp [Tryz.ntmps32]) rfl (tw_sound (ρ := [2]) ?_)
    rw [Tryz.ntmps32]
    have q1 : ¬ b < 0 := by omega
    have q2 : ¬ 255 < b := by omega
    simp
    refine gall_intro fun c gc => ?_
    simp
    refine TWoH.callV hok callable_33 (by simp) (by simp) (by simp) (by simp) ?_
    simp [c1.1, q1, q2]
    refine TWoH.callV cp callable_100 (by simp) (by simp) (by simp) (by simp) ?_
    simp
    refine TWoH.callV d1 callable_102 (by simp) (by simp) (by simp) (by simp) ?_
    simp
    refine TWoH.callV d2 callable_101 (by simp) (by simp) (by simp) (by simp) ?_
    simp
    refine TWoH.callV d3 callable_100 (by simp) (by simp) (by simp) (by simp) ?_
    simp
  · have e : dBy r b = rex0 := if_neg c1
    rw [e]
    refine frz0 ?_
    refine TC.enter Tryz.func32 rfl (by simp [Tryz.ntmps32]) rfl (tw_sound (ρ := [2]) ?_)
    rw [Tryz.ntmps32]
    simp
    refine gall_intro fun c gc => ?_
    simp
    refine TWoH.callV hok callable_33 (by simp) (by simp) (by simp) (by simp) ?_
    by_cases c2 : rexOk r = true
    · by_cases c3 : b < 0
      · simp [c2, c3]
      · have c4 : 255 < b := by
          rcases Int.lt_or_le 255 b with h | h
          · exact h
          · exact absurd ⟨c2, by omega, h⟩ c1
        simp [c2, c3, c4]
    · simp [c2]
theorem tc_iDerivBy (r : Rex) (b : Int) (hs : Sm r) : TC Tryz.prog 30 [.agg (encRex r), .val (.int .i64 b)] [] (.agg (encRex (dBy r b))) [] := by
  have hok := tc_iRexOk r hs
  have hin := tc_in b 0 255
  by_cases c1 : rexOk r = true ∧ 0 ≤ b ∧ b ≤ 255
  · obtain ⟨h1, h2, h3⟩ := rxOf_of c1.1
    have e : dBy r b = (byX (normX (rxOf r)) b).rex := if_pos c1
    rw [e]
    have hn := normX_ok h2
    have hb := byX_ok b hn.1
    have hsz : (normX (rxOf r)).sz * (normX (rxOf r)).sz ≤ 24 * 24 := Nat.mul_le_mul (by omega) (by omega)
    have d1 := tc_norm (rxOf r) h2 (by omega)
    have d2 := tc_deriv (normX (rxOf r)) b hn.1 (by omega)
    have d3 := tc_rexCopy _ hb.1
    unfold encX at d1 d2 d3
    rw [h1] at d1
    generalize (normX (rxOf r)).rex = N at *
    generalize (byX (normX (rxOf r)) b).rex = D at *
    refine TC.enter Tryz.func30 rfl (by simp [Tryz.ntmps30]) rfl (tw_sound (ρ := [2]) ?_)
    rw [Tryz.ntmps30]
    simp
    refine gall_intro fun c gc => ?_
    simp
    refine TWoH.callV hok callable_34 (by simp) (by simp) (by simp) (by simp) ?_
    simp [c1.1]
    refine TWoH.callV hin callable_96 (by simp) (by simp) (by simp) (by simp) ?_
    simp [c1.2.1, c1.2.2]
    refine TWoH.callV d1 callable_64 (by simp) (by simp) (by simp) (by simp) ?_
    simp
    refine TWoH.callV d2 callable_98 (by simp) (by simp) (by simp) (by simp) ?_
    simp
    refine TWoH.callV d3 callable_97 (by simp) (by simp) (by simp) (by simp) ?_
    simp
  · have e : dBy r b = rex0 := if_neg c1
    rw [e]
    refine frz0 ?_
    refine TC.enter Tryz.func30 rfl (by simp [Tryz.ntmps30]) rfl (tw_sound (ρ := [2]) ?_)
    rw [Tryz.ntmps30]
    simp
    refine gall_intro fun c gc => ?_
    simp
    refine TWoH.callV hok callable_34 (by simp) (by simp) (by simp) (by simp) ?_
    by_cases c2 : rexOk r = true
    · have c3 : ¬ (0 ≤ b ∧ b ≤ 255) := fun h => c1 ⟨c2, h⟩
      simp [c2]
      refine TWoH.callV hin callable_96 (by simp) (by simp) (by simp) (by simp) ?_
      simp [c3]
    · simp [c2]
end Go.Proofs.YtdomnlnanbekaaaGreatDoor.R
