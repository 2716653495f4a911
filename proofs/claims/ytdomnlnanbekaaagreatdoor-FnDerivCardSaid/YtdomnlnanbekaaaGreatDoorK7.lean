/- Part 7: what the walk of the code stands on. Conditions: none but those that each theorem states. -/
import Derived.Test.YtdomnlnanbekaaaGreatDoorK6
open Go Go.Proofs.YtdomnlnanbekaaaGreatDoor.T
namespace Go.Proofs.YtdomnlnanbekaaaGreatDoor.R
set_option maxHeartbeats 4000000
set_option maxRecDepth 100000
set_option linter.unusedSimpArgs false
set_option linter.unusedVariables false
attribute [local simp] bsV bsRows chunk fillT partsT appV makeV rowsOf cellsOf placeOf frzT frz1
theorem tc_l4Norm : ∀ (x : Rx), x.ok → x.sz ≤ 10000000 → TC Tryz.prog 102 [.agg (encX x)] [] (.agg (encX (normX x))) [] := by
  intro x
  induction x with
  | cat a b iha ihb =>
    intro h hs
    simp only [Rx.sz] at hs
    have h1 := normX_ok h.1
    have h2 := normX_ok h.2
    refine TC.enter Tryz.func102 rfl (by simp [Tryz.ntmps102]) rfl (tw_sound (ρ := [1]) ?_)
    rw [Tryz.ntmps102]
    simp
    refine gall_intro fun c gc => ?_
    simp [X_cat]
    refine TWcH.regionD (ρ := [1]) [0, 1, 2, 3, 5, 6, 7, 8, 4, 9, 10, 11] 11 mixed (by kernel_rfl) ?_
    simp
    refine TWqH.callV (iha h.1 (by omega)) callable_102 (by simp) (by simp) (by simp) (by simp) ?_
    simp
    refine TWqH.callV (ihb h.2 (by omega)) callable_102 (by simp) (by simp) (by simp) (by simp) ?_
    simp
    refine TWqH.callV (tc_l4Cat (normX a) (normX b)) callable_154 (by simp) (by simp) (by simp) (by simp) ?_
    simp [normX]
  | or a b iha ihb =>
    intro h hs
    simp only [Rx.sz] at hs
    have h1 := normX_ok h.1
    have h2 := normX_ok h.2
    refine TC.enter Tryz.func102 rfl (by simp [Tryz.ntmps102]) rfl (tw_sound (ρ := [1]) ?_)
    rw [Tryz.ntmps102]
    simp
    refine gall_intro fun c gc => ?_
    simp [X_or]
    refine TWcH.regionD (ρ := [1]) [0, 1, 2, 3, 5, 6, 7, 8, 4, 9, 10, 11] 11 mixed (by kernel_rfl) ?_
    simp
    refine TWqH.callV (iha h.1 (by omega)) callable_102 (by simp) (by simp) (by simp) (by simp) ?_
    simp
    refine TWqH.callV (ihb h.2 (by omega)) callable_102 (by simp) (by simp) (by simp) (by simp) ?_
    simp
    refine TWqH.callV (tc_l4Or (normX a) (normX b) h1.1 h2.1 (by omega)) callable_156 (by simp) (by simp) (by simp) (by simp) ?_
    simp [normX]
  | and a b iha ihb =>
    intro h hs
    simp only [Rx.sz] at hs
    have h1 := normX_ok h.1
    have h2 := normX_ok h.2
    refine TC.enter Tryz.func102 rfl (by simp [Tryz.ntmps102]) rfl (tw_sound (ρ := [1]) ?_)
    rw [Tryz.ntmps102]
    simp
    refine gall_intro fun c gc => ?_
    simp [X_and]
    refine TWcH.regionD (ρ := [1]) [0, 1, 2, 3, 5, 6, 7, 8, 4, 9, 10, 11] 11 mixed (by kernel_rfl) ?_
    simp
    refine TWqH.callV (iha h.1 (by omega)) callable_102 (by simp) (by simp) (by simp) (by simp) ?_
    simp
    refine TWqH.callV (ihb h.2 (by omega)) callable_102 (by simp) (by simp) (by simp) (by simp) ?_
    simp
    refine TWqH.callV (tc_l4And (normX a) (normX b) h1.1 h2.1 (by omega)) callable_157 (by simp) (by simp) (by simp) (by simp) ?_
    simp [normX]
  | star a iha =>
    intro h hs
    simp only [Rx.sz] at hs
    refine TC.enter Tryz.func102 rfl (by simp [Tryz.ntmps102]) rfl (tw_sound (ρ := [1]) ?_)
    rw [Tryz.ntmps102]
    simp
    refine gall_intro fun c gc => ?_
    simp [X_star]
    refine TWoH.callV (iha h (by omega)) callable_102 (by simp) (by simp) (by simp) (by simp) ?_
    simp
    refine TWoH.callV (tc_l4Star (normX a)) callable_159 (by simp) (by simp) (by simp) (by simp) ?_
    simp [normX]
  | not a iha =>
    intro h hs
    simp only [Rx.sz] at hs
    refine TC.enter Tryz.func102 rfl (by simp [Tryz.ntmps102]) rfl (tw_sound (ρ := [1]) ?_)
    rw [Tryz.ntmps102]
    simp
    refine gall_intro fun c gc => ?_
    simp [X_not]
    refine TWoH.callV (iha h (by omega)) callable_102 (by simp) (by simp) (by simp) (by simp) ?_
    simp
    refine TWoH.callV (tc_l4Not (normX a)) callable_158 (by simp) (by simp) (by simp) (by simp) ?_
    simp [normX]
  | set s =>
    intro h hs
    refine TC.enter Tryz.func102 rfl (by simp [Tryz.ntmps102]) rfl (tw_sound (ρ := [1]) ?_)
    rw [Tryz.ntmps102]
    simp
    refine gall_intro fun c gc => ?_
    simp [X_set, normX]
  | emp =>
    intro h hs
    refine TC.enter Tryz.func102 rfl (by simp [Tryz.ntmps102]) rfl (tw_sound (ρ := [1]) ?_)
    rw [Tryz.ntmps102]
    simp
    refine gall_intro fun c gc => ?_
    simp [X_emp, normX]
def nullX : Rx → Bool
  | .set _ => false
  | .emp => true
  | .cat a b => nullX a && nullX b
  | .or a b => nullX a || nullX b
  | .star _ => true
  | .and a b => nullX a && nullX b
  | .not a => !nullX a
theorem tc_l2Null : ∀ (x : Rx), TC Tryz.prog 155 [.agg (encX x)] [] (.val (.bool (nullX x))) [] := by
  intro x
  induction x with
  | set s =>
    refine TC.enter Tryz.func155 rfl (by simp [Tryz.ntmps155]) rfl (tw_sound (ρ := [1]) ?_)
    rw [Tryz.ntmps155]
    simp [X_set, nullX]
  | emp =>
    refine TC.enter Tryz.func155 rfl (by simp [Tryz.ntmps155]) rfl (tw_sound (ρ := [1]) ?_)
    rw [Tryz.ntmps155]
    simp [X_emp, nullX]
  | star a _ =>
    refine TC.enter Tryz.func155 rfl (by simp [Tryz.ntmps155]) rfl (tw_sound (ρ := [1]) ?_)
    rw [Tryz.ntmps155]
    simp [X_star, nullX]
  | not a iha =>
    refine TC.enter Tryz.func155 rfl (by simp [Tryz.ntmps155]) rfl (tw_sound (ρ := [1]) ?_)
    rw [Tryz.ntmps155]
    simp [X_not]
    refine TWoH.callV iha callable_155 (by simp) (by simp) (by simp) (by simp) ?_
    simp [nullX]
  | cat a b iha ihb =>
    refine TC.enter Tryz.func155 rfl (by simp [Tryz.ntmps155]) rfl (tw_sound (ρ := [1]) ?_)
    rw [Tryz.ntmps155]
    simp [X_cat]
    refine TWoH.callV iha callable_155 (by simp) (by simp) (by simp) (by simp) ?_
    cases c : nullX a
    · simp [nullX, c]

    · simp [nullX, c]
      refine TWoH.callV ihb callable_155 (by simp) (by simp) (by simp) (by simp) ?_
      simp [c]
  | and a b iha ihb =>
    refine TC.enter Tryz.func155 rfl (by simp [Tryz.ntmps155]) rfl (tw_sound (ρ := [1]) ?_)
    rw [Tryz.ntmps155]
    simp [X_and]
    refine TWoH.callV iha callable_155 (by simp) (by simp) (by simp) (by simp) ?_
    cases c : nullX a
    · simp [nullX, c]

    · simp [nullX, c]
      refine TWoH.callV ihb callable_155 (by simp) (by simp) (by simp) (by simp) ?_
      simp [c]
  | or a b iha ihb =>
    refine TC.enter Tryz.func155 rfl (by simp [Tryz.ntmps155]) rfl (tw_sound (ρ := [1]) ?_)
    rw [Tryz.ntmps155]
    simp [X_or]
    refine TWoH.callV iha callable_155 (by simp) (by simp) (by simp) (by simp) ?_
    cases c : nullX a
    · simp [nullX, c]
      refine TWoH.callV ihb callable_155 (by simp) (by simp) (by simp) (by simp) ?_
      simp [c]
    · simp [nullX, c]

def byX : Rx → Int → Rx
  | .set s, b => if hasS s b = true then .emp else .set []
  | .emp, _ => .set []
  | .cat x y, b => if nullX x = true then orX (catX (byX x b) y) (byX y b) else catX (byX x b) y
  | .or x y, b => orX (byX x b) (byX y b)
  | .and x y, b => andX (byX x b) (byX y b)
  | .star x, b => catX (byX x b) (.star x)
  | .not x, b => notX (byX x b)
theorem byX_ok : ∀ {x : Rx} (b : Int), x.ok → (byX x b).ok ∧ (byX x b).sz ≤ x.sz * x.sz := by
  intro x
  induction x with
  | set s => intro b h; unfold byX; split <;> simp [Rx.ok, Rx.sz, setOk, setOkP]
  | emp => intro b h; simp [byX, Rx.ok, Rx.sz, setOk, setOkP]
  | cat x y ihx ihy =>
    intro b h
    have h1 := ihx b h.1
    have h2 := ihy b h.2
    have h3 := catX_ok h1.1 h.2
    have h4 := catX_sz (byX x b) y
    have p1 := x.sz_pos
    have p2 := y.sz_pos
    have e : (x.sz + y.sz + 1) * (x.sz + y.sz + 1) = x.sz * x.sz + y.sz * y.sz + 2 * (x.sz * y.sz) + 2 * x.sz + 2 * y.sz + 1 := by
      simp only [Nat.add_mul, Nat.mul_add, Nat.mul_comm y.sz x.sz]; omega
    unfold byX
    split
    · have := orX_sz h3 h2.1
      exact ⟨orX_ok h3 h2.1, by simp only [Rx.sz]; rw [e]; omega⟩
    · exact ⟨h3, by simp only [Rx.sz]; rw [e]; omega⟩
  | or x y ihx ihy =>
    intro b h
    have h1 := ihx b h.1
    have h2 := ihy b h.2
    have e : (x.sz + y.sz + 1) * (x.sz + y.sz + 1) = x.sz * x.sz + y.sz * y.sz + 2 * (x.sz * y.sz) + 2 * x.sz + 2 * y.sz + 1 := by
      simp only [Nat.add_mul, Nat.mul_add, Nat.mul_comm y.sz x.sz]; omega
    have := orX_sz h1.1 h2.1
    exact ⟨orX_ok h1.1 h2.1, by simp only [byX, Rx.sz]; rw [e]; omega⟩
  | and x y ihx ihy =>
    intro b h
    have h1 := ihx b h.1
    have h2 := ihy b h.2
    have e : (x.sz + y.sz + 1) * (x.sz + y.sz + 1) = x.sz * x.sz + y.sz * y.sz + 2 * (x.sz * y.sz) + 2 * x.sz + 2 * y.sz + 1 := by
      simp only [Nat.add_mul, Nat.mul_add, Nat.mul_comm y.sz x.sz]; omega
    have := andX_sz h1.1 h2.1
    exact ⟨andX_ok h1.1 h2.1, by simp only [byX, Rx.sz]; rw [e]; omega⟩
  | star x ihx =>
    intro b h
    have h1 := ihx b h
    have p1 := x.sz_pos
    have h4 := catX_sz (byX x b) (.star x)
    have e : (x.sz + 1) * (x.sz + 1) = x.sz * x.sz + 2 * x.sz + 1 := by simp only [Nat.add_mul, Nat.mul_add]; omega
    exact ⟨catX_ok h1.1 h, by simp only [byX, Rx.sz] at *; rw [e]; omega⟩
  | not x ihx =>
    intro b h
    have h1 := ihx b h
    have h4 := notX_sz (byX x b)
    have e : (x.sz + 1) * (x.sz + 1) = x.sz * x.sz + 2 * x.sz + 1 := by simp only [Nat.add_mul, Nat.mul_add]; omega
    exact ⟨notX_ok h1.1, by simp only [byX, Rx.sz]; rw [e]; omega⟩
/-- How it stands where the derivative of one behind the other goes on. -/
def ByM (x y : Rx) (b : Int) (a : Nat) (z : Rx) (st : St) : Prop := ∃ c, st.σ 5 = .pd c 0 0 0 ∧ st.σ 2 = .rptr [.val (.int .i64 3), .ro [], .ro [encX x, encX y]] 0 ∧ st.σ 1 = .val (.int .i64 b) ∧ st.σ 4 = .pd a 0 0 0 ∧ st.H a = some (.box 37 [.val (.int .i64 0), .val (.slice none 0 0), .val (.slice none 0 0)]) ∧ st.H c = some (.box 37 (encX z)) ∧ ¬ a = c
theorem tc_l5By : ∀ (x : Rx) (b : Int), x.ok → x.sz * x.sz ≤ 10000000 → TC Tryz.prog 101 [.agg (encX x), .val (.int .i64 b)] [] (.agg (encX (byX x b))) [] := by
  intro x
  induction x with
  | set s =>
    intro b h hs
    have hl := setOk_len h
    by_cases c1 : hasS s b = true
    · have e : byX (.set s) b = .emp := by unfold byX; rw [if_pos c1]
      rw [e]
      refine frzX (r0 := .agg [.val (.int .i64 2), .val (.slice none 0 0), .val (.slice none 0 0)]) ?_ (by simp [X_emp])
      refine TC.enter Tryz.func101 rfl (by simp [Tryz.ntmps101]) rfl (tw_sound (ρ := [2]) ?_)
      rw [Tryz.ntmps101]
      simp
      refine gall_intro fun c gc => ?_
      simp [X_set]
      refine TWoH.callV (tc_sSetHas s b (by omega)) callable_153 (by simp) (by simp) (by simp) (by simp) ?_
      simp [c1]
    · have e : byX (.set s) b = .set [] := by unfold byX; rw [if_neg c1]
      rw [e]
      refine frzX (r0 := .agg [.val (.int .i64 1), .val (.slice none 0 0), .val (.slice none 0 0)]) ?_ (by simp [X_set])
      refine TC.enter Tryz.func101 rfl (by simp [Tryz.ntmps101]) rfl (tw_sound (ρ := [2]) ?_)
      rw [Tryz.ntmps101]
      simp
      refine gall_intro fun c gc => ?_
      simp [X_set]
      refine TWoH.callV (tc_sSetHas s b (by omega)) callable_153 (by simp) (by simp) (by simp) (by simp) ?_
      simp [c1]
  | emp =>
      intro b h hs
      refine frzX (r0 := .agg [.val (.int .i64 1), .val (.slice none 0 0), .val (.slice none 0 0)]) ?_ (by simp [X_set, byX])
      refine TC.enter Tryz.func101 rfl (by simp [Tryz.ntmps101]) rfl (tw_sound (ρ := [2]) ?_)
      rw [Tryz.ntmps101]
      simp
      refine gall_intro fun c gc => ?_
      simp [X_emp]
  | or x y ihx ihy =>
    intro b h hs
    simp only [Rx.sz] at hs
    have p1 := x.sz_pos
    have p2 := y.sz_pos
    have e1 : x.sz * x.sz ≤ (x.sz + y.sz + 1) * (x.sz + y.sz + 1) := Nat.mul_le_mul (by omega) (by omega)
    have e2 : y.sz * y.sz ≤ (x.sz + y.sz + 1) * (x.sz + y.sz + 1) := Nat.mul_le_mul (by omega) (by omega)
    have h1 := byX_ok b h.1
    have h2 := byX_ok b h.2
    refine TC.enter Tryz.func101 rfl (by simp [Tryz.ntmps101]) rfl (tw_sound (ρ := [2]) ?_)
    rw [Tryz.ntmps101]
    simp
    refine gall_intro fun c gc => ?_
    simp [X_or]
    refine TWcH.regionD (ρ := [2]) [0, 1, 2, 3, 4, 6, 7, 8, 9, 10, 5, 11, 12, 13] 13 mixed (by kernel_rfl) ?_
    simp
    refine TWqH.callV (ihx b h.1 (by omega)) callable_101 (by simp) (by simp) (by simp) (by simp) ?_
    simp
    refine TWqH.callV (ihy b h.2 (by omega)) callable_101 (by simp) (by simp) (by simp) (by simp) ?_
    simp
    refine TWqH.callV (tc_l4Or (byX x b) (byX y b) h1.1 h2.1 (by omega)) callable_156 (by simp) (by simp) (by simp) (by simp) ?_
    simp [byX]
  | and x y ihx ihy =>
    intro b h hs
    simp only [Rx.sz] at hs
    have p1 := x.sz_pos
    have p2 := y.sz_pos
    have e1 : x.sz * x.sz ≤ (x.sz + y.sz + 1) * (x.sz + y.sz + 1) := Nat.mul_le_mul (by omega) (by omega)
    have e2 : y.sz * y.sz ≤ (x.sz + y.sz + 1) * (x.sz + y.sz + 1) := Nat.mul_le_mul (by omega) (by omega)
    have h1 := byX_ok b h.1
    have h2 := byX_ok b h.2
    refine TC.enter Tryz.func101 rfl (by simp [Tryz.ntmps101]) rfl (tw_sound (ρ := [2]) ?_)
    rw [Tryz.ntmps101]
    simp
    refine gall_intro fun c gc => ?_
    simp [X_and]
    refine TWcH.regionD (ρ := [2]) [0, 1, 2, 3, 4, 6, 7, 8, 9, 10, 5, 11, 12, 13] 13 mixed (by kernel_rfl) ?_
    simp
    refine TWqH.callV (ihx b h.1 (by omega)) callable_101 (by simp) (by simp) (by simp) (by simp) ?_
    simp
    refine TWqH.callV (ihy b h.2 (by omega)) callable_101 (by simp) (by simp) (by simp) (by simp) ?_
    simp
    refine TWqH.callV (tc_l4And (byX x b) (byX y b) h1.1 h2.1 (by omega)) callable_157 (by simp) (by simp) (by simp) (by simp) ?_
    simp [byX]
  | star x ihx =>
    intro b h hs
    simp only [Rx.sz] at hs
    have e1 : x.sz * x.sz ≤ (x.sz + 1) * (x.sz + 1) := Nat.mul_le_mul (by omega) (by omega)
    refine TC.enter Tryz.func101 rfl (by simp [Tryz.ntmps101]) rfl (tw_sound (ρ := [2]) ?_)
    rw [Tryz.ntmps101]
    simp
    refine gall_intro fun c gc => ?_
    simp [X_star]
    refine TWcH.regionD (ρ := [2]) [0, 1, 2, 3, 4, 6, 5, 7, 8] 8 mixed (by kernel_rfl) ?_
    simp
    refine TWqH.callV (ihx b h (by omega)) callable_101 (by simp) (by simp) (by simp) (by simp) ?_
    simp
    refine TWqH.callV (tc_l4Cat (byX x b) (.star x)) callable_154 (by simp [X_star]) (by simp) (by simp) (by simp) ?_
    simp [byX]
  | not x ihx =>
    intro b h hs
    simp only [Rx.sz] at hs
    have e1 : x.sz * x.sz ≤ (x.sz + 1) * (x.sz + 1) := Nat.mul_le_mul (by omega) (by omega)
    refine TC.enter Tryz.func101 rfl (by simp [Tryz.ntmps101]) rfl (tw_sound (ρ := [2]) ?_)
    rw [Tryz.ntmps101]
    simp
    refine gall_intro fun c gc => ?_
    simp [X_not]
    refine TWoH.callV (ihx b h (by omega)) callable_101 (by simp) (by simp) (by simp) (by simp) ?_
    simp
    refine TWoH.callV (tc_l4Not (byX x b)) callable_158 (by simp) (by simp) (by simp) (by simp) ?_
    simp [byX]
  | cat x y ihx ihy =>
    intro b h hs
    simp only [Rx.sz] at hs
    have p1 := x.sz_pos
    have p2 := y.sz_pos
    have e1 : x.sz * x.sz ≤ (x.sz + y.sz + 1) * (x.sz + y.sz + 1) := Nat.mul_le_mul (by omega) (by omega)
    have e2 : y.sz * y.sz ≤ (x.sz + y.sz + 1) * (x.sz + y.sz + 1) := Nat.mul_le_mul (by omega) (by omega)
    have e3 : 1 * y.sz ≤ (x.sz + y.sz + 1) * (x.sz + y.sz + 1) := Nat.mul_le_mul (by omega) (by omega)
    have h1 := byX_ok b h.1
    have h2 := byX_ok b h.2
    have h3 := catX_ok h1.1 h.2
    have h4 := catX_sz (byX x b) y
    have tx := ihx b h.1 (by omega)
    have ty := ihy b h.2 (by omega)
    have tc := tc_l4Cat (byX x b) y
    refine TC.enter Tryz.func101 rfl (by simp [Tryz.ntmps101]) rfl (tw_sound (ρ := [2]) ?_)
    rw [Tryz.ntmps101]
    simp
    refine gall_intro fun c gc => ?_
    simp [X_cat]
    obtain ⟨z, hz⟩ : ∃ z, catX (byX x b) y = z := ⟨_, rfl⟩
    have ez := encX_eq z
    rw [hz] at tc h3 h4
    refine TWcH.midB (ρ := [2]) (ByM x y b c z) (.first 0 (.first 4 (.first 6 (.pick 1 (.first 2 (.pick 3 (.pick 5 (.pick 7 (.first 8 (.pick 9 (.pick 10 (.pick 11 (.pick 12 .fin .fin) .fin) (.pick 11 (.pick 10 (.pick 12 .fin .fin) .fin) .fin)) (.pick 11 (.pick 9 (.pick 10 (.pick 12 .fin .fin) .fin) .fin) .fin))) (.pick 11 (.pick 7 (.first 8 (.pick 9 (.pick 10 (.pick 12 .fin .fin) .fin) .fin)) .fin) .fin)) (.pick 7 (.first 8 (.pick 5 (.pick 9 (.pick 10 (.pick 11 (.pick 12 .fin .fin) .fin) (.pick 11 (.pick 10 (.pick 12 .fin .fin) .fin) .fin)) (.pick 11 (.pick 9 (.pick 10 (.pick 12 .fin .fin) .fin) .fin) .fin)) (.pick 9 (.pick 5 (.pick 10 (.pick 11 (.pick 12 .fin .fin) .fin) (.pick 11 (.pick 10 (.pick 12 .fin .fin) .fin) .fin)) (.pick 11 (.pick 5 (.pick 10 (.pick 12 .fin .fin) .fin) .fin) .fin)) (.pick 11 (.pick 5 (.pick 9 (.pick 10 (.pick 12 .fin .fin) .fin) .fin) (.pick 9 (.pick 5 (.pick 10 (.pick 12 .fin .fin) .fin) .fin) .fin)) .fin)))) (.pick 11 (.pick 5 (.pick 7 (.first 8 (.pick 9 (.pick 10 (.pick 12 .fin .fin) .fin) .fin)) .fin) (.pick 7 (.first 8 (.pick 5 (.pick 9 (.pick 10 (.pick 12 .fin .fin) .fin) .fin) (.pick 9 (.pick 5 (.pick 10 (.pick 12 .fin .fin) .fin) .fin) .fin))) .fin)) .fin))) (.pick 7 (.first 8 (.pick 3 (.pick 5 (.pick 9 (.pick 10 (.pick 11 (.pick 12 .fin .fin) .fin) (.pick 11 (.pick 10 (.pick 12 .fin .fin) .fin) .fin)) (.pick 11 (.pick 9 (.pick 10 (.pick 12 .fin .fin) .fin) .fin) .fin)) (.pick 9 (.pick 5 (.pick 10 (.pick 11 (.pick 12 .fin .fin) .fin) (.pick 11 (.pick 10 (.pick 12 .fin .fin) .fin) .fin)) (.pick 11 (.pick 5 (.pick 10 (.pick 12 .fin .fin) .fin) .fin) .fin)) (.pick 11 (.pick 5 (.pick 9 (.pick 10 (.pick 12 .fin .fin) .fin) .fin) (.pick 9 (.pick 5 (.pick 10 (.pick 12 .fin .fin) .fin) .fin) .fin)) .fin))) (.pick 9 (.pick 3 (.pick 5 (.pick 10 (.pick 11 (.pick 12 .fin .fin) .fin) (.pick 11 (.pick 10 (.pick 12 .fin .fin) .fin) .fin)) (.pick 11 (.pick 5 (.pick 10 (.pick 12 .fin .fin) .fin) .fin) .fin)) (.pick 11 (.pick 3 (.pick 5 (.pick 10 (.pick 12 .fin .fin) .fin) .fin) .fin) .fin)) (.pick 11 (.pick 3 (.pick 5 (.pick 9 (.pick 10 (.pick 12 .fin .fin) .fin) .fin) (.pick 9 (.pick 5 (.pick 10 (.pick 12 .fin .fin) .fin) .fin) .fin)) (.pick 9 (.pick 3 (.pick 5 (.pick 10 (.pick 12 .fin .fin) .fin) .fin) .fin) .fin)) .fin)))) (.pick 11 (.pick 3 (.pick 5 (.pick 7 (.first 8 (.pick 9 (.pick 10 (.pick 12 .fin .fin) .fin) .fin)) .fin) (.pick 7 (.first 8 (.pick 5 (.pick 9 (.pick 10 (.pick 12 .fin .fin) .fin) .fin) (.pick 9 (.pick 5 (.pick 10 (.pick 12 .fin .fin) .fin) .fin) .fin))) .fin)) (.pick 7 (.first 8 (.pick 3 (.pick 5 (.pick 9 (.pick 10 (.pick 12 .fin .fin) .fin) .fin) (.pick 9 (.pick 5 (.pick 10 (.pick 12 .fin .fin) .fin) .fin) .fin)) (.pick 9 (.pick 3 (.pick 5 (.pick 10 (.pick 12 .fin .fin) .fin) .fin) .fin) .fin))) .fin)) .fin)))) (.pick 7 (.first 8 (.pick 1 (.first 2 (.pick 3 (.pick 5 (.pick 9 (.pick 10 (.pick 11 (.pick 12 .fin .fin) .fin) (.pick 11 (.pick 10 (.pick 12 .fin .fin) .fin) .fin)) (.pick 11 (.pick 9 (.pick 10 (.pick 12 .fin .fin) .fin) .fin) .fin)) (.pick 9 (.pick 5 (.pick 10 (.pick 11 (.pick 12 .fin .fin) .fin) (.pick 11 (.pick 10 (.pick 12 .fin .fin) .fin) .fin)) (.pick 11 (.pick 5 (.pick 10 (.pick 12 .fin .fin) .fin) .fin) .fin)) (.pick 11 (.pick 5 (.pick 9 (.pick 10 (.pick 12 .fin .fin) .fin) .fin) (.pick 9 (.pick 5 (.pick 10 (.pick 12 .fin .fin) .fin) .fin) .fin)) .fin))) (.pick 9 (.pick 3 (.pick 5 (.pick 10 (.pick 11 (.pick 12 .fin .fin) .fin) (.pick 11 (.pick 10 (.pick 12 .fin .fin) .fin) .fin)) (.pick 11 (.pick 5 (.pick 10 (.pick 12 .fin .fin) .fin) .fin) .fin)) (.pick 11 (.pick 3 (.pick 5 (.pick 10 (.pick 12 .fin .fin) .fin) .fin) .fin) .fin)) (.pick 11 (.pick 3 (.pick 5 (.pick 9 (.pick 10 (.pick 12 .fin .fin) .fin) .fin) (.pick 9 (.pick 5 (.pick 10 (.pick 12 .fin .fin) .fin) .fin) .fin)) (.pick 9 (.pick 3 (.pick 5 (.pick 10 (.pick 12 .fin .fin) .fin) .fin) .fin) .fin)) .fin)))) (.pick 9 (.pick 1 (.first 2 (.pick 3 (.pick 5 (.pick 10 (.pick 11 (.pick 12 .fin .fin) .fin) (.pick 11 (.pick 10 (.pick 12 .fin .fin) .fin) .fin)) (.pick 11 (.pick 5 (.pick 10 (.pick 12 .fin .fin) .fin) .fin) .fin)) (.pick 11 (.pick 3 (.pick 5 (.pick 10 (.pick 12 .fin .fin) .fin) .fin) .fin) .fin))) (.pick 11 (.pick 1 (.first 2 (.pick 3 (.pick 5 (.pick 10 (.pick 12 .fin .fin) .fin) .fin) .fin)) .fin) .fin)) (.pick 11 (.pick 1 (.first 2 (.pick 3 (.pick 5 (.pick 9 (.pick 10 (.pick 12 .fin .fin) .fin) .fin) (.pick 9 (.pick 5 (.pick 10 (.pick 12 .fin .fin) .fin) .fin) .fin)) (.pick 9 (.pick 3 (.pick 5 (.pick 10 (.pick 12 .fin .fin) .fin) .fin) .fin) .fin))) (.pick 9 (.pick 1 (.first 2 (.pick 3 (.pick 5 (.pick 10 (.pick 12 .fin .fin) .fin) .fin) .fin)) .fin) .fin)) .fin)))) (.pick 11 (.pick 1 (.first 2 (.pick 3 (.pick 5 (.pick 7 (.first 8 (.pick 9 (.pick 10 (.pick 12 .fin .fin) .fin) .fin)) .fin) (.pick 7 (.first 8 (.pick 5 (.pick 9 (.pick 10 (.pick 12 .fin .fin) .fin) .fin) (.pick 9 (.pick 5 (.pick 10 (.pick 12 .fin .fin) .fin) .fin) .fin))) .fin)) (.pick 7 (.first 8 (.pick 3 (.pick 5 (.pick 9 (.pick 10 (.pick 12 .fin .fin) .fin) .fin) (.pick 9 (.pick 5 (.pick 10 (.pick 12 .fin .fin) .fin) .fin) .fin)) (.pick 9 (.pick 3 (.pick 5 (.pick 10 (.pick 12 .fin .fin) .fin) .fin) .fin) .fin))) .fin))) (.pick 7 (.first 8 (.pick 1 (.first 2 (.pick 3 (.pick 5 (.pick 9 (.pick 10 (.pick 12 .fin .fin) .fin) .fin) (.pick 9 (.pick 5 (.pick 10 (.pick 12 .fin .fin) .fin) .fin) .fin)) (.pick 9 (.pick 3 (.pick 5 (.pick 10 (.pick 12 .fin .fin) .fin) .fin) .fin) .fin))) (.pick 9 (.pick 1 (.first 2 (.pick 3 (.pick 5 (.pick 10 (.pick 12 .fin .fin) .fin) .fin) .fin)) .fin) .fin))) .fin)) .fin)))))) mixed (by kernel_rfl) ?_ ?_
    · simp
      clear ihx ihy ty
      repeat' first
        | refine And.intro ?_ ?_
        | (refine TWoH.callV tx callable_101 (by simp) (by simp) (by simp) (by simp) ?_
           simp)
        | (refine TWoH.callV tc callable_154 (by simp) (by simp) (by simp) (by simp) ?_
           simp)
        | (refine gall_fresh [c] (by simp) fun d fd => ?_
           simp [frF] at fd
           simp [fd])
        | (refine ⟨_, rfl, ?_⟩
           refine ⟨rfl, rfl, rfl, by simp [fd], by simp [fd], fd.2⟩)
      all_goals skip
    rintro ⟨σ, H⟩ ⟨d, s5, s2, s1, s4, hC, hD, ncd⟩
    simp only at s5 s2 s1 s4 hC hD
    have ncd' : ¬ d = c := fun e => ncd e.symm
    simp [s5, s2, s1, s4, hC, hD, ncd, ncd']
    refine TWoH.callV (tc_l2Null x) callable_155 (by simp) (by simp) (by simp) (by simp) ?_
    cases cn : nullX x
    · have e : byX (.cat x y) b = z := by
        have e0 : byX (.cat x y) b = if nullX x = true then orX (catX (byX x b) y) (byX y b) else catX (byX x b) y := rfl
        rw [e0, if_neg (by rw [cn]; simp), hz]
      rw [e]
      simp [s5, s2, s1, s4, hC, hD, ncd, ncd', cn, ez]
    · have e : byX (.cat x y) b = orX z (byX y b) := by
        have e0 : byX (.cat x y) b = if nullX x = true then orX (catX (byX x b) y) (byX y b) else catX (byX x b) y := rfl
        rw [e0, if_pos cn, hz]
      rw [e]
      simp [s5, s2, s1, s4, hC, hD, ncd, ncd', cn]
      refine TWcH.regionD (ρ := [2]) [0, 1, 2, 3, 4, 5, 6, 7, 8] 8 mixed (by kernel_rfl) ?_
      simp [s5, s2, s1, s4, hC, hD, ncd, ncd', cn, ez]
      refine TWqH.callV ty callable_101 (by simp) (by simp) (by simp) (by simp) ?_
      simp [s5, s2, s1, s4, hC, hD, ncd, ncd', cn, ez]
      refine TWqH.callV (tc_l4Or z (byX y b) h3 h2.1 (by omega)) callable_156 (by simp [ez]) (by simp) (by simp) (by simp) ?_
      simp [s5, s2, s1, s4, hC, hD, ncd, ncd', cn, ez]
end Go.Proofs.YtdomnlnanbekaaaGreatDoor.R

open Go Go.Proofs.YtdomnlnanbekaaaGreatDoor.T
namespace Go.Proofs.YtdomnlnanbekaaaGreatDoor.R
set_option maxHeartbeats 4000000
set_option maxRecDepth 100000
set_option linter.unusedSimpArgs false
set_option linter.unusedVariables false
attribute [local simp] bsV bsRows chunk fillT partsT appV makeV rowsOf cellsOf placeOf frzT frz1
/-- How many parts there are, down to some depth. -/
def manyD : Nat → Rx → Nat
  | 0, _ => 1
  | d + 1, .cat a b => 1 + manyD d a + manyD d b
  | d + 1, .or a b => 1 + manyD d a + manyD d b
  | d + 1, .and a b => 1 + manyD d a + manyD d b
  | d + 1, .star a => 1 + manyD d a
  | d + 1, .not a => 1 + manyD d a
  | _ + 1, _ => 1
theorem manyD_le : ∀ (d : Nat) (x : Rx), manyD d x ≤ x.sz
  | 0, x => by simp [manyD]; exact x.sz_pos
  | d + 1, x => by
    cases x with
    | cat a b => have := manyD_le d a; have := manyD_le d b; simp only [manyD, Rx.sz]; omega
    | or a b => have := manyD_le d a; have := manyD_le d b; simp only [manyD, Rx.sz]; omega
    | and a b => have := manyD_le d a; have := manyD_le d b; simp only [manyD, Rx.sz]; omega
    | star a => have := manyD_le d a; simp only [manyD, Rx.sz]; omega
    | not a => have := manyD_le d a; simp only [manyD, Rx.sz]; omega
    | _ => simp [manyD, Rx.sz]
theorem manyD_ge : ∀ (d : Nat) (x : Rx), min x.sz (d + 1) ≤ manyD d x
  | 0, x => by simp [manyD]; omega
  | d + 1, x => by
    cases x with
    | cat a b => have := manyD_ge d a; have := manyD_ge d b; simp only [manyD, Rx.sz]; omega
    | or a b => have := manyD_ge d a; have := manyD_ge d b; simp only [manyD, Rx.sz]; omega
    | and a b => have := manyD_ge d a; have := manyD_ge d b; simp only [manyD, Rx.sz]; omega
    | star a => have := manyD_ge d a; simp only [manyD, Rx.sz]; omega
    | not a => have := manyD_ge d a; simp only [manyD, Rx.sz]; omega
    | _ => simp [manyD, Rx.sz]
theorem manyD_kids (d : Nat) (x : Rx) : manyD (d + 1) x = 1 + (x.kids.map (manyD d)).sum := by
  cases x <;> simp [manyD, Rx.kids] <;> omega
theorem manyD_kids' (d : Nat) (x : Rx) : manyD d x = 1 + if d = 0 then 0 else (x.kids.map (manyD (d - 1))).sum := by
  cases d with
  | zero => simp [manyD]
  | succ d => rw [manyD_kids]; simp
theorem tc_Many : ∀ (d : Nat) (x : Rx), d ≤ 1000 → x.sz ≤ 1000000000 → TC Tryz.prog 104 [.agg (encX x), .val (.int .i64 d)] [] (.val (.int .i64 (manyD d x))) []
  | d, x, hd, hs => by
    have ex := encX_eq x
    refine TC.enter Tryz.func104 rfl (by simp [Tryz.ntmps104]) rfl (tw_sound (ρ := [2]) ?_)
    rw [Tryz.ntmps104]
    simp [ex]
    refine TWcH.loop [2] (fun m st => ∃ i : Nat, i + m = x.kids.length ∧ (i = 0 ∨ 0 < d) ∧ st.σ 1 = .val (.int .i64 d) ∧ st.σ 2 = .rptr [.val (.int .i64 x.kind), .ro (x.span.map encSp), .ro (x.kids.map encX)] 0 ∧ st.σ 5 = .val (.int .i64 ((1 + ((x.kids.take i).map (manyD (d - 1))).sum : Nat) : Int)) ∧ st.σ 6 = .val (.int .i64 i)) x.kids.length ⟨0, by simp⟩ ?_
    rintro m ⟨σ, H⟩ ⟨i, him, hi0, h1, h2, h5, h6⟩
    simp only at h1 h2 h5 h6
    by_cases hi : i < x.kids.length
    case neg =>
      rw [List.take_of_length_le (by omega)] at h5
      have hD := manyD_kids' d x
      by_cases hd0 : d = 0
      · have hi1 : i = 0 := by omega
        have hk : x.kids = [] := List.eq_nil_of_length_eq_zero (by omega)
        rw [hk] at h5
        have hi' : ¬ (i : Int) < 0 := by omega
        rw [if_pos hd0] at hD
        simp [h1, h2, h5, h6, hk, hi', hD]
      · rw [if_neg hd0] at hD
        simp [h1, h2, h5, h6, hi, hD]
    obtain ⟨y, hy⟩ : ∃ y, ∀ h, x.kids[i]'h = y := ⟨x.kids[i], fun _ => rfl⟩
    have hym : y ∈ x.kids := by rw [← hy hi]; exact List.getElem_mem hi
    by_cases hd0 : d = 0
    · have hi1 : i = 0 := by omega
      subst hd0 hi1
      have hD : manyD 0 x = 1 := rfl
      simp [h1, h2, h5, h6, hi, hD]
    obtain ⟨e, rfl⟩ : ∃ e, d = e + 1 := ⟨d - 1, by omega⟩
    have hyz := kids_sz hym
    have hkl := kids_len x
    have hw : IntKind.i64.wrap ((i : Int) + 1) = i + 1 := wrapi (by omega)
    have hwe : IntKind.i64.wrap (e : Int) = e := wrapi (by omega)
    have e0 : (0 : Int) < (e : Int) + 1 := by omega
    have ey := encX_eq y
    have hsum : ((x.kids.take (i + 1)).map (manyD e)).sum = ((x.kids.take i).map (manyD e)).sum + manyD e y := by
      rw [List.take_succ_eq_append_getElem hi, hy]; simp
    have hle : 1 + ((x.kids.take (i + 1)).map (manyD e)).sum ≤ 1000000000 := by
      have h3 := manyD_le (e + 1) x
      rw [manyD_kids] at h3
      have h4 : (x.kids.map (manyD e)).sum = ((x.kids.take (i + 1)).map (manyD e)).sum + ((x.kids.drop (i + 1)).map (manyD e)).sum := by
        conv => lhs; rw [← List.take_append_drop (i + 1) x.kids]
        rw [List.map_append, List.sum_append]
      omega
    rw [hsum] at hle
    have hw2 : IntKind.i64.wrap (1 + (((x.kids.take i).map (manyD e)).sum : Int) + (manyD e y : Int)) = 1 + (((x.kids.take i).map (manyD e)).sum : Int) + (manyD e y : Int) := wrapi (by omega)
    simp only [Nat.add_sub_cancel] at h5
    generalize hS : ((x.kids.take i).map (manyD e)).sum = S at *
    simp [h1, h2, h5, h6, hi, e0, hy, ey, hwe]
    refine TWoH.callV (tc_Many e y (by omega) (by omega)) callable_104 (by simp [ey, hwe]) (by simp) (by simp) (by simp) ?_
    simp [h1, h2, h5, h6, hi, e0, hy, ey, hwe, hw, hw2]
    exact ⟨m - 1, by omega, i + 1, by omega, by rw [← List.map_take, hsum]; omega, by omega⟩
theorem tc_l5Big (x : Rx) (hs : x.sz ≤ 1000000000) : TC Tryz.prog 107 [.agg (encX x)] [] (.val (.bool (decide (120 < x.sz)))) [] := by
  have h1 := manyD_le 1000 x
  have h2 := manyD_ge 1000 x
  have e : decide ((120 : Int) < (manyD 1000 x : Int)) = decide (120 < x.sz) := by rw [Bool.eq_iff_iff]; simp; omega
  refine TC.enter Tryz.func107 rfl (by simp [Tryz.ntmps107]) rfl (tw_sound (ρ := [1]) ?_)
  rw [Tryz.ntmps107]
  simp
  refine TWoH.callV (tc_Many 1000 x (by omega) hs) callable_104 (by simp) (by simp) (by simp) (by simp) ?_
  simp
  omega
def goneX (v : List Rx) : Bool := v.all isNo
def bigX (v : List Rx) : Bool := v.any fun x => decide (120 < x.sz)
def vecX (v : List Rx) (b : Int) : List Rx := v.map fun x => byX x b
def accX (v : List Rx) : Int := match v.findIdx? nullX with
  | some i => i
  | none => -1
def atX (all : List (List Rx)) (v : List Rx) : Int := match all.findIdx? (fun u => decide (u = v)) with
  | some i => i
  | none => -1
theorem take_all1 {α : Type} {p : α → Bool} {l : List α} {i : Nat} (hi : i < l.length) {x : α} (hx : ∀ h, l[i]'h = x) (h : (l.take i).all p = true) (hp : p x = true) : (l.take (i + 1)).all p = true := by
  rw [List.take_succ_eq_append_getElem hi, hx, List.all_append, h]; simp [hp]
theorem take_any1 {α : Type} {p : α → Bool} {l : List α} {i : Nat} (hi : i < l.length) {x : α} (hx : ∀ h, l[i]'h = x) (h : (l.take i).any p = false) (hp : p x = false) : (l.take (i + 1)).any p = false := by
  rw [List.take_succ_eq_append_getElem hi, hx, List.any_append, h]; simp [hp]
theorem find_take1 {α : Type} {p : α → Bool} {l : List α} {i : Nat} (hi : i < l.length) {x : α} (hx : ∀ h, l[i]'h = x) (h : (l.take i).any p = false) (hp : p x = true) : l.findIdx? p = some i := by
  rw [List.findIdx?_eq_some_iff_getElem]
  refine ⟨hi, by rw [hx]; exact hp, fun j hj => ?_⟩
  have h2 := List.any_eq_false.1 h l[j] (by rw [List.mem_take_iff_getElem]; exact ⟨j, by omega, rfl⟩)
  exact h2
theorem find_take0 {α : Type} {p : α → Bool} {l : List α} (h : l.any p = false) : l.findIdx? p = none := by
  rw [List.findIdx?_eq_none_iff]
  intro x hx
  have := List.any_eq_false.1 h x hx
  simpa using this
def VOk (v : List Rx) : Prop := v.length ≤ 1000 ∧ ∀ x ∈ v, x.ok ∧ x.sz ≤ 20000
theorem VOk.at {v : List Rx} (h : VOk v) {i : Nat} (hi : i < v.length) {x : Rx} (hx : ∀ h, v[i]'h = x) : x.ok ∧ x.sz ≤ 20000 := by rw [← hx hi]; exact h.2 _ (List.getElem_mem hi)
theorem tc_l7Gone (v : List Rx) (hv : VOk v) : TC Tryz.prog 142 [.ro (v.map encX)] [] (.val (.bool (goneX v))) [] := by
  have hl := hv.1
  refine TC.enter Tryz.func142 rfl (by simp [Tryz.ntmps142]) rfl (tw_sound (ρ := []) ?_)
  rw [Tryz.ntmps142]
  simp
  refine TWcH.loop [] (fun m st => ∃ i : Nat, i + m = v.length ∧ (v.take i).all isNo = true ∧ st.σ 0 = .ro (v.map encX) ∧ st.σ 3 = .val (.int .i64 i)) v.length ⟨0, by simp⟩ ?_
  rintro m ⟨σ, H⟩ ⟨i, him, hf, h0, h3⟩
  simp only at h0 h3
  by_cases hi : i < v.length
  case neg =>
    rw [List.take_of_length_le (by omega)] at hf
    simp only [goneX, hf]
    simp [h0, h3, hi]
  have hw : IntKind.i64.wrap ((i : Int) + 1) = i + 1 := wrapi (by omega)
  obtain ⟨x, hx⟩ : ∃ x, ∀ h, v[i]'h = x := ⟨v[i], fun _ => rfl⟩
  have ex := encX_eq x
  simp [h0, h3, hi, hx, ex]
  refine TWoH.callV (tc_l4No x) callable_177 (by simp [ex]) (by simp) (by simp) (by simp) ?_
  by_cases c : isNo x = true
  · have := take_all1 hi hx hf c
    simp [h0, h3, hi, c, hw]
    exact ⟨m - 1, by omega, i + 1, by omega, by simpa using this, by omega⟩
  · have hg : goneX v = false := by
      unfold goneX
      rw [List.all_eq_false]
      exact ⟨x, by rw [← hx hi]; exact List.getElem_mem hi, c⟩
    simp [h0, h3, hi, c, hg]
theorem tc_l7Big (v : List Rx) (hv : VOk v) : TC Tryz.prog 143 [.ro (v.map encX)] [] (.val (.bool (bigX v))) [] := by
  have hl := hv.1
  refine TC.enter Tryz.func143 rfl (by simp [Tryz.ntmps143]) rfl (tw_sound (ρ := []) ?_)
  rw [Tryz.ntmps143]
  simp
  refine TWcH.loop [] (fun m st => ∃ i : Nat, i + m = v.length ∧ (v.take i).any (fun x => decide (120 < x.sz)) = false ∧ st.σ 0 = .ro (v.map encX) ∧ st.σ 3 = .val (.int .i64 i)) v.length ⟨0, by simp⟩ ?_
  rintro m ⟨σ, H⟩ ⟨i, him, hf, h0, h3⟩
  simp only at h0 h3
  by_cases hi : i < v.length
  case neg =>
    rw [List.take_of_length_le (by omega)] at hf
    simp only [bigX, hf]
    simp [h0, h3, hi]
  have hw : IntKind.i64.wrap ((i : Int) + 1) = i + 1 := wrapi (by omega)
  obtain ⟨x, hx⟩ : ∃ x, ∀ h, v[i]'h = x := ⟨v[i], fun _ => rfl⟩
  have hxo := hv.at hi hx
  have ex := encX_eq x
  simp [h0, h3, hi, hx, ex]
  refine TWoH.callV (tc_l5Big x (by omega)) callable_107 (by simp [ex]) (by simp) (by simp) (by simp) ?_
  by_cases c : 120 < x.sz
  · have hg : bigX v = true := List.any_eq_true.2 ⟨x, by rw [← hx hi]; exact List.getElem_mem hi, by simpa using c⟩
    simp [h0, h3, hi, c, hg]
  · have := take_any1 hi hx hf (by simpa using c)
    simp [h0, h3, hi, c, hw]
    exact ⟨m - 1, by omega, i + 1, by omega, by simpa using this, by omega⟩
theorem tc_l7Acc (v : List Rx) (hv : VOk v) : TC Tryz.prog 144 [.ro (v.map encX)] [] (.val (.int .i64 (accX v))) [] := by
  have hl := hv.1
  refine TC.enter Tryz.func144 rfl (by simp [Tryz.ntmps144]) rfl (tw_sound (ρ := []) ?_)
  rw [Tryz.ntmps144]
  simp
  refine TWcH.loop [] (fun m st => ∃ i : Nat, i + m = v.length ∧ (v.take i).any nullX = false ∧ st.σ 0 = .ro (v.map encX) ∧ st.σ 3 = .val (.int .i64 i)) v.length ⟨0, by simp⟩ ?_
  rintro m ⟨σ, H⟩ ⟨i, him, hf, h0, h3⟩
  simp only at h0 h3
  by_cases hi : i < v.length
  case neg =>
    rw [List.take_of_length_le (by omega)] at hf
    have hg : accX v = -1 := by unfold accX; rw [find_take0 hf]
    rw [hg]
    simp [h0, h3, hi]
  have hw : IntKind.i64.wrap ((i : Int) + 1) = i + 1 := wrapi (by omega)
  obtain ⟨x, hx⟩ : ∃ x, ∀ h, v[i]'h = x := ⟨v[i], fun _ => rfl⟩
  have ex := encX_eq x
  simp [h0, h3, hi, hx, ex]
  refine TWoH.callV (tc_l2Null x) callable_155 (by simp [ex]) (by simp) (by simp) (by simp) ?_
  by_cases c : nullX x = true
  · have hg : accX v = i := by unfold accX; rw [find_take1 hi hx hf c]
    simp [h0, h3, hi, c, hg]
  · have := take_any1 hi hx hf (by simpa using c)
    simp [h0, h3, hi, c, hw]
    exact ⟨m - 1, by omega, i + 1, by omega, by simpa using this, by omega⟩
theorem tc_l7Vec (v : List Rx) (b : Int) (hl : v.length ≤ 1000) (hv : ∀ x ∈ v, x.ok ∧ x.sz ≤ 140) : TC Tryz.prog 140 [.ro (v.map encX), .val (.int .i64 b)] [] (.own 37 ((vecX v b).map encX)) [] := by
  suffices h : TCR Tryz.prog 140 [.ro (v.map encX), .val (.int .i64 b)] [] (fun r o => r = .own 37 ((vecX v b).map encX) ∧ o = []) from h.toTC
  refine TCR.enter Tryz.func140 rfl (by simp [Tryz.ntmps140]) rfl (tw_sound (ρ := []) ?_)
  rw [Tryz.ntmps140]
  simp
  refine gall_intro fun q0 g0 => ?_
  simp
  refine TWcH.loop [] (fun m st => ∃ i q : Nat, i + m = v.length ∧ st.σ 0 = .ro (v.map encX) ∧ st.σ 1 = .val (.int .i64 b) ∧ st.σ 5 = .hd q ∧ st.H q = some (.own 37 ((vecX (v.take i) b).map encX)) ∧ st.σ 6 = .val (.int .i64 i)) v.length ⟨0, q0, by simp [vecX]⟩ ?_
  rintro m ⟨σ, H⟩ ⟨i, q, him, h0, h1, h5, hQ, h6⟩
  simp only at h0 h1 h5 hQ h6
  by_cases hi : i < v.length
  case neg =>
    rw [List.take_of_length_le (by omega)] at hQ
    simp [h0, h1, h5, hQ, h6, hi]
    skip
  have hw : IntKind.i64.wrap ((i : Int) + 1) = i + 1 := wrapi (by omega)
  obtain ⟨x, hx⟩ : ∃ x, ∀ h, v[i]'h = x := ⟨v[i], fun _ => rfl⟩
  have hxo : x.ok ∧ x.sz ≤ 140 := by rw [← hx hi]; exact hv _ (List.getElem_mem hi)
  have hsq : x.sz * x.sz ≤ 140 * 140 := Nat.mul_le_mul hxo.2 hxo.2
  have ex := encX_eq x
  have hstep : vecX (v.take (i + 1)) b = vecX (v.take i) b ++ [byX x b] := by
    unfold vecX
    rw [List.take_succ_eq_append_getElem hi, hx, List.map_append]; rfl
  have hvl : (vecX (v.take i) b).length = i := by unfold vecX; simp; omega
  generalize vecX (v.take i) b = V at hQ hstep hvl
  obtain ⟨z, hz⟩ : ∃ z, byX x b = z := ⟨_, rfl⟩
  have tb := tc_l5By x b hxo.1 (by omega)
  rw [hz] at tb hstep
  have ez := encX_eq z
  have k1 : (V.length + 1) * 56 ≤ 140737488355328 := by omega
  have k2 : V.length ≤ 9223372036854775806 := by omega
  simp [h0, h1, h5, hQ, h6, hi, hx, ex]
  refine TWoH.callV tb callable_101 (by simp [ex, h1]) (by simp) (by simp) (by simp) ?_
  simp [h0, h1, h5, hQ, h6, hi, hx, ex, ez]
  refine gall_fresh [q] (by simp [hQ]) fun j fj => ?_
  simp [frF] at fj
  simp [-List.map_append, h0, h1, h5, hQ, h6, hi, hx, ex, ez, fj, k1, k2]
  refine gall_intro fun j2 g2 => ?_
  simp [-List.map_append, h0, h1, h5, hQ, h6, hi, hx, ex, ez, fj, hw]
  exact ⟨m - 1, by omega, i + 1, by omega, by rw [hstep]; simp [ez], by omega⟩
end Go.Proofs.YtdomnlnanbekaaaGreatDoor.R

open Go Go.Proofs.YtdomnlnanbekaaaGreatDoor.T
namespace Go.Proofs.YtdomnlnanbekaaaGreatDoor.R
set_option maxHeartbeats 4000000
set_option maxRecDepth 100000
set_option linter.unusedSimpArgs false
set_option linter.unusedVariables false
attribute [local simp] bsV bsRows chunk fillT partsT appV makeV rowsOf cellsOf placeOf frzT frz1
def encV (u : List Rx) : List TV := [.ro (u.map encX)]
@[simp] theorem len_encV (r : List Rx) : (encV r).length = 1 := by simp [encV]
@[simp] theorem take_encV (r : List Rx) : (encV r).take 1 = encV r := by simp [encV]
@[simp] theorem plain_encV (r : List Rx) : (encV r).all TV.plain = true := by simp [encV]
@[simp] theorem pc_encV (r : List Rx) : (encV r).all TV.pc = true := by simp [encV, TV.pc, TV.cell, Value.oneCell']
@[simp] theorem noH_encV (r : List Rx) : noHL (encV r) = true := by simp [encV]
@[simp] theorem roL_encV (r : List Rx) : roL (encV r) = encV r := by simp [encV]
@[simp] theorem noHR_encV (l : List (List Rx)) : noHR (l.map encV) = true := by induction l <;> simp [*]
@[simp] theorem roRows_encV (l : List (List Rx)) : roRows (l.map encV) = l.map encV := by induction l <;> simp [*]
theorem bP_rex (x y : Rx) : bP (x.rex = y.rex) = decide (x = y) := by
  by_cases h : x = y
  · subst h; rw [bP_pos rfl]; simp
  · rw [bP_neg (fun e => h (Rx.rex_inj x y e))]; simp [h]
theorem tc_RexSameX (x y : Rx) (hx : x.ok) (hy : y.ok) : TC Tryz.prog 165 [.agg (encX x), .agg (encX y)] [] (.val (.bool (decide (x = y)))) [] := by
  have := tc_sRexSame x.rex y.rex (x.sm hx) (y.sm hy)
  rw [bP_rex] at this
  exact this
theorem tc_l7At (all : List (List Rx)) (v : List Rx) (hv : VOk v) (hall : ∀ u ∈ all, u.length = v.length ∧ VOk u) (hl : all.length ≤ 1000) : TC Tryz.prog 141 [.ro (all.map encV), .ro (v.map encX)] [] (.val (.int .i64 (atX all v))) [] := by
  have hvl := hv.1
  refine TC.enter Tryz.func141 rfl (by simp [Tryz.ntmps141]) rfl (tw_sound (ρ := []) ?_)
  rw [Tryz.ntmps141]
  simp
  refine TWcH.loop [] (fun m st => ∃ i : Nat, i + m = all.length ∧ (all.take i).any (fun u => decide (u = v)) = false ∧ st.σ 0 = .ro (all.map encV) ∧ st.σ 1 = .ro (v.map encX) ∧ st.σ 5 = .val (.int .i64 i)) all.length ⟨0, by simp⟩ ?_
  rintro m ⟨σ, H⟩ ⟨i, him, hf, h0, h1, h5⟩
  simp only at h0 h1 h5
  by_cases hi : i < all.length
  case neg =>
    rw [List.take_of_length_le (by omega)] at hf
    have hg : atX all v = -1 := by unfold atX; rw [find_take0 hf]
    rw [hg]
    simp [h0, h1, h5, hi]
  have hw : IntKind.i64.wrap ((i : Int) + 1) = i + 1 := wrapi (by omega)
  obtain ⟨u, hu⟩ : ∃ u, ∀ h, all[i]'h = u := ⟨all[i], fun _ => rfl⟩
  have hum : u ∈ all := by rw [← hu hi]; exact List.getElem_mem hi
  obtain ⟨hul, huo⟩ := hall u hum
  simp [h0, h1, h5, hi, hu]
  refine TWcH.loop [] (fun m' st => ∃ (k : Nat) (b : Bool), k + m' = v.length ∧ (b = true → u.take k = v.take k) ∧ (b = false → ¬ u = v) ∧ st.σ 0 = .ro (all.map encV) ∧ st.σ 1 = .ro (v.map encX) ∧ st.σ 5 = .val (.int .i64 i) ∧ st.σ 6 = .val (.bool b) ∧ st.σ 7 = .val (.int .i64 k)) v.length ⟨0, true, by simp, by simp, by simp, by simp [h0, h1, h5]⟩ ?_
  clear h0 h1 h5
  clear σ H
  rintro m' ⟨σ, H⟩ ⟨k, b, hkm, hbt, hbf, h0, h1, h5, h6, h7⟩
  simp only at h0 h1 h5 h6 h7
  have hwk : IntKind.i64.wrap ((k : Int) + 1) = k + 1 := wrapi (by omega)
  cases b with
  | false =>
    have hne := hbf rfl
    have := take_any1 (p := fun u => decide (u = v)) hi hu hf (by simpa using hne)
    by_cases hk : k < v.length
    · simp [h0, h1, h5, h6, h7, hk, hw]
      exact ⟨m - 1, by omega, i + 1, by omega, by simpa using this, by omega⟩
    · simp [h0, h1, h5, h6, h7, hk, hw]
      exact ⟨m - 1, by omega, i + 1, by omega, by simpa using this, by omega⟩
  | true =>
    by_cases hk : k < v.length
    case neg =>
      have he : u = v := take_all hul (by omega) (hbt rfl)
      have hg : atX all v = i := by unfold atX; rw [find_take1 (p := fun u => decide (u = v)) hi hu hf (by simpa using he)]
      rw [hg]
      simp [h0, h1, h5, h6, h7, hk]
    have hk2 : k < u.length := by omega
    obtain ⟨x, hx⟩ : ∃ x, ∀ h, u[k]'h = x := ⟨u[k], fun _ => rfl⟩
    obtain ⟨y, hy⟩ : ∃ y, ∀ h, v[k]'h = y := ⟨v[k], fun _ => rfl⟩
    have hxo := huo.at hk2 hx
    have hyo := hv.at hk hy
    have ex := encX_eq x
    have ey := encX_eq y
    simp [h0, h1, h5, h6, h7, hk, hk2]
    refine TWcH.regionD (ρ := []) [0, 1, 2, 3, 4, 5, 6, 7, 8, 9, 10, 11, 12] 13 mixed (by kernel_rfl) ?_
    simp [h0, h1, h5, h6, h7, hi, hu, hk, hk2, hx, hy, ex, ey, encV]
    refine TWqH.callV (tc_RexSameX x y hxo.1 hyo.1) callable_165 (by simp [ex, ey]) (by simp) (by simp) (by simp) ?_
    simp [h0, h1, h5, h6, h7, hwk, encV]
    refine ⟨m' - 1, by omega, k + 1, by omega, ?_⟩
    by_cases c : x = y
    · exact .inr ⟨take_next hk2 hk (hbt rfl) (by rw [hx, hy]; exact c), c, by omega⟩
    · exact .inl ⟨ne_at hk2 hk (by rw [hx, hy]; exact c), c, by omega⟩
end Go.Proofs.YtdomnlnanbekaaaGreatDoor.R

open Go Go.Proofs.YtdomnlnanbekaaaGreatDoor.T
namespace Go.Proofs.YtdomnlnanbekaaaGreatDoor.R
set_option maxHeartbeats 4000000
set_option maxRecDepth 100000
set_option linter.unusedSimpArgs false
set_option linter.unusedVariables false
attribute [local simp] bsV bsRows chunk fillT partsT appV makeV rowsOf cellsOf placeOf frzT frz1
theorem hasS_app (l m : List (Int × Int)) (b : Int) : hasS (l ++ m) b = (hasS l b || hasS m b) := by simp [hasS]
theorem spansTo_has (f : Nat → Bool) : ∀ n : Nat, n ≤ 256 → ∀ x : Nat, hasS (spansTo f n) x = (decide (x < n) && f x)
  | 0, _, x => by simp [spansTo, hasS]
  | n + 1, hn, x => by
    have ih := spansTo_has f n (by omega) x
    unfold spansTo
    by_cases c : f n = true
    · rw [if_pos c]
      have hok := spansTo_ok f n (by omega)
      have e1 : (decide (x < n + 1) && f x) = (hasS (spansTo f n) x || hasS [((n : Int), (n : Int))] x) := by
        rw [ih]
        simp only [hasS, List.any_cons, List.any_nil, Bool.or_false]
        by_cases e : x = n
        · subst e; simp [c]
        · have : (decide (x < n + 1)) = decide (x < n) := by rw [decide_eq_decide]; omega
          rw [this]
          simp
          intro h1 h2; omega
      rw [e1]
      unfold addB
      rcases List.eq_nil_or_concat (spansTo f n) with e | ⟨l, s, e⟩
      · rw [e]; simp [hasS]
      · simp only [List.concat_eq_append] at e
        rw [e] at hok ⊢
        have hl : (l ++ [s]).getLast? = some s := by simp
        rw [hl]
        simp only
        split
        · rename_i hs
          have e2 : (l ++ [s]).set ((l ++ [s]).length - 1) (s.1, (n : Int)) = l ++ [(s.1, (n : Int))] := by simp
          rw [e2, hasS_app, hasS_app, Bool.or_assoc]
          congr 1
          have h1 := hok.1
          unfold setOk at h1
          rw [setOkP_app] at h1
          simp only [Bool.and_eq_true, okX, decide_eq_true_eq] at h1
          have h2 := h1.2.2.2.1
          rw [Bool.eq_iff_iff]
          simp [hasS]
          omega
        · rw [hasS_app]
    · rw [if_neg c, ih, Bool.eq_iff_iff]
      simp
      intro hx
      constructor
      · intro h; omega
      · intro h
        rcases Nat.lt_succ_iff_lt_or_eq.1 h with h | h
        · exact h
        · subst h; exact absurd hx c
theorem spansF_has (f : Nat → Bool) {x : Nat} (hx : x < 256) : hasS (spansF f) x = f x := by
  rw [spansF, spansTo_has f 256 (by omega)]; simp [hx]
theorem countP_split (f g : Nat → Bool) : ∀ l : List Nat, l.countP f = l.countP (fun b => f b && g b) + l.countP (fun b => f b && !g b)
  | [] => by simp
  | x :: l => by
    have := countP_split f g l
    simp only [List.countP_cons]
    cases f x <;> cases g x <;> simp <;> omega
theorem countP_cong {f g : Nat → Bool} {l : List Nat} (h : ∀ x ∈ l, f x = g x) : l.countP f = l.countP g := List.countP_congr fun x hx => by rw [h x hx]
def restF (p s : List (Int × Int)) : List (Int × Int) := spansF (meetF p (spansF (notF s)))
theorem size_cut (p s : List (Int × Int)) : sizeS p = sizeS (spansF (meetF p s)) + sizeS (restF p s) := by
  unfold sizeS restF
  rw [countP_split (fun b : Nat => hasS p b) (fun b : Nat => hasS s b)]
  congr 1
  · refine countP_cong fun x hx => ?_
    rw [spansF_has _ (by simpa using hx)]; rfl
  · refine countP_cong fun x hx => ?_
    rw [spansF_has _ (by simpa using hx)]
    simp only [meetF]
    rw [spansF_has _ (by simpa using hx)]; rfl
theorem size_pos {f : Nat → Bool} (h : spansF f ≠ []) : 1 ≤ sizeS (spansF f) := by
  have : ¬ ∀ i, i < 256 → f i = false := fun e => h ((spansTo_nil 256).2 e)
  have h2 : ∃ i, i < 256 ∧ f i = true := by
    apply Classical.byContradiction
    intro e
    refine this fun i hi => ?_
    cases c : f i with
    | false => rfl
    | true => exact absurd ⟨i, hi, c⟩ e
  obtain ⟨i, hi, hc⟩ := h2
  unfold sizeS
  exact List.countP_pos_iff.2 ⟨i, by simpa using hi, by rw [spansF_has f hi]; exact hc⟩
def keepS (q : List (Int × Int)) : List (List (Int × Int)) := if q = [] then [] else [q]
def partF (s p : List (Int × Int)) : List (List (Int × Int)) := keepS (spansF (meetF p s)) ++ keepS (restF p s)
def partsF (ps : List (List (Int × Int))) (s : List (Int × Int)) : List (List (Int × Int)) := ps.flatMap (partF s)
def sumS (ps : List (List (Int × Int))) : Nat := (ps.map sizeS).sum
structure PI (ps : List (List (Int × Int))) : Prop where
  each : ∀ p ∈ ps, setOk p = true ∧ 1 ≤ sizeS p
  sum : sumS ps ≤ 256
  zero : ∃ p ∈ ps, hasS p (0 : Nat) = true
theorem sizeS_nil : sizeS [] = 0 := by simp [sizeS, hasS]
theorem sum_keep (q : List (Int × Int)) : sumS (keepS q) = sizeS q := by
  unfold keepS; split
  · rename_i h; rw [h, sizeS_nil]; rfl
  · simp [sumS]
theorem sum_app (a b : List (List (Int × Int))) : sumS (a ++ b) = sumS a + sumS b := by simp [sumS]
theorem sum_parts (s : List (Int × Int)) : ∀ ps, sumS (partsF ps s) = sumS ps
  | [] => rfl
  | p :: ps => by
    have := sum_parts s ps
    simp only [partsF, List.flatMap_cons] at this ⊢
    rw [sum_app, this, partF, sum_app, sum_keep, sum_keep]
    have := size_cut p s
    simp only [sumS, List.map_cons, List.sum_cons]; omega
theorem len_sum : ∀ ps : List (List (Int × Int)), (∀ p ∈ ps, setOk p = true ∧ 1 ≤ sizeS p) → ps.length ≤ sumS ps
  | [], _ => by simp
  | p :: ps, h => by
    have := len_sum ps fun q hq => h q (by simp [hq])
    have := (h p (by simp)).2
    simp only [sumS, List.map_cons, List.sum_cons, List.length_cons] at *; omega
theorem PI.len {ps : List (List (Int × Int))} (h : PI ps) : ps.length ≤ 256 := by
  have := len_sum ps h.each; have := h.sum; omega
theorem keep_each {f : Nat → Bool} {q : List (Int × Int)} (h : q ∈ keepS (spansF f)) : setOk q = true ∧ 1 ≤ sizeS q := by
  unfold keepS at h
  split at h
  · cases h
  · rename_i hn
    simp only [List.mem_singleton] at h
    subst h
    exact ⟨spansF_ok f, size_pos hn⟩
theorem each_parts {ps : List (List (Int × Int))} {s : List (Int × Int)} {q : List (Int × Int)} (h : q ∈ partsF ps s) : setOk q = true ∧ 1 ≤ sizeS q := by
  simp only [partsF, List.mem_flatMap, partF, List.mem_append] at h
  obtain ⟨p, _, h | h⟩ := h
  · exact keep_each h
  · exact keep_each h
theorem PI.cut {ps : List (List (Int × Int))} (h : PI ps) (s : List (Int × Int)) : PI (partsF ps s) := by
  refine ⟨fun q hq => each_parts hq, by rw [sum_parts]; exact h.sum, ?_⟩
  obtain ⟨p, hp, h0⟩ := h.zero
  have ne : ∀ f : Nat → Bool, f 0 = true → spansF f ≠ [] := fun f hf e => by
    have := (spansTo_nil 256).1 e 0 (by omega)
    rw [hf] at this; cases this
  by_cases c : hasS s (0 : Nat) = true
  · have e : meetF p s 0 = true := by simp only [meetF, h0, c]; rfl
    refine ⟨spansF (meetF p s), ?_, by rw [spansF_has _ (by omega)]; exact e⟩
    simp only [partsF, List.mem_flatMap, partF, List.mem_append]
    exact ⟨p, hp, .inl (by unfold keepS; rw [if_neg (ne _ e)]; simp)⟩
  · have e : meetF p (spansF (notF s)) 0 = true := by
      simp only [meetF, h0]
      rw [spansF_has _ (by omega)]
      simp only [notF, c]
      rfl
    refine ⟨restF p s, ?_, by rw [restF, spansF_has _ (by omega)]; exact e⟩
    simp only [partsF, List.mem_flatMap, partF, List.mem_append]
    exact ⟨p, hp, .inr (by unfold keepS restF; rw [if_neg (ne _ e)]; simp)⟩
theorem PI.take_len {ps : List (List (Int × Int))} (h : PI ps) (s : List (Int × Int)) (i : Nat) : (partsF (ps.take i) s).length ≤ 256 := by
  have h1 := len_sum (partsF (ps.take i) s) fun q hq => each_parts hq
  rw [sum_parts] at h1
  have h2 : sumS ps = sumS (ps.take i) + sumS (ps.drop i) := by rw [← sum_app, List.take_append_drop]
  have := h.sum
  omega
theorem tc_MeetR (p q : List (Int × Int)) (ho : setOk p = true) (ho' : setOk q = true) : TC Tryz.prog 184 [.ro (p.map encSp), .ro (q.map encSp)] [] (.ro ((spansF (meetF p q)).map encSp)) [] := by
  have := (tc_sSetMeet p q (by have := setOk_len ho; omega) (by have := setOk_len ho'; omega) ho ho').frz
  simpa using this
theorem tc_NotR (p : List (Int × Int)) (ho : setOk p = true) : TC Tryz.prog 185 [.ro (p.map encSp)] [] (.ro ((spansF (notF p)).map encSp)) [] := by
  have := (tc_sSetNot p (by have := setOk_len ho; omega) ho).frz
  simpa using this
end Go.Proofs.YtdomnlnanbekaaaGreatDoor.R

open Go Go.Proofs.YtdomnlnanbekaaaGreatDoor.T
namespace Go.Proofs.YtdomnlnanbekaaaGreatDoor.R
set_option maxHeartbeats 4000000
set_option maxRecDepth 100000
set_option linter.unusedSimpArgs false
set_option linter.unusedVariables false
attribute [local simp] bsV bsRows chunk fillT partsT appV makeV rowsOf cellsOf placeOf frzT frz1
theorem cut_facts {ps : List (List (Int × Int))} {s p : List (Int × Int)} (hp : PI ps) (hs : setOk s = true) {i : Nat} (hi : i < ps.length) (hx : ∀ h, ps[i]'h = p) : ∃ A N B : List (Int × Int),
    TC Tryz.prog 184 [.ro (p.map encSp), .ro (s.map encSp)] [] (.ro (A.map encSp)) [] ∧ TC Tryz.prog 185 [.ro (s.map encSp)] [] (.ro (N.map encSp)) [] ∧ TC Tryz.prog 184 [.ro (p.map encSp), .ro (N.map encSp)] [] (.ro (B.map encSp)) [] ∧
    partsF (ps.take (i + 1)) s = partsF (ps.take i) s ++ (keepS A ++ keepS B) ∧ (partsF (ps.take i) s).length ≤ 256 := by
  have hpo : setOk p = true := by rw [← hx hi]; exact (hp.each _ (List.getElem_mem hi)).1
  refine ⟨_, _, _, tc_MeetR p s hpo hs, tc_NotR s hs, tc_MeetR p (spansF (notF s)) hpo (spansF_ok _), ?_, hp.take_len s i⟩
  unfold partsF
  rw [List.take_succ_eq_append_getElem hi, hx, List.flatMap_append, List.flatMap_singleton]
  rfl
theorem tc_l1Parts (ps : List (List (Int × Int))) (s : List (Int × Int)) (hp : PI ps) (hs : setOk s = true) : TC Tryz.prog 163 [.ro (ps.map encP), .ro (s.map encSp)] [] (.own 34 ((partsF ps s).map encP)) [] := by
  have hpl := hp.len
  suffices h : TCR Tryz.prog 163 [.ro (ps.map encP), .ro (s.map encSp)] [] (fun r o => r = .own 34 ((partsF ps s).map encP) ∧ o = []) from h.toTC
  refine TCR.enter Tryz.func163 rfl (by simp [Tryz.ntmps163]) rfl (tw_sound (ρ := []) ?_)
  rw [Tryz.ntmps163]
  simp
  refine gall_intro fun q0 g0 => ?_
  simp
  refine TWcH.loop [] (fun m st => ∃ i q : Nat, i + m = ps.length ∧ st.σ 0 = .ro (ps.map encP) ∧ st.σ 1 = .ro (s.map encSp) ∧ st.σ 5 = .hd q ∧ st.H q = some (.own 34 ((partsF (ps.take i) s).map encP)) ∧ st.σ 6 = .val (.int .i64 i)) ps.length ⟨0, q0, by simp [partsF]⟩ ?_
  rintro m ⟨σ, H⟩ ⟨i, q, him, h0, h1, h5, hQ, h6⟩
  simp only at h0 h1 h5 hQ h6
  by_cases hi : i < ps.length
  case neg =>
    rw [List.take_of_length_le (by omega)] at hQ
    simp [h0, h1, h5, hQ, h6, hi]
    skip
  have hw : IntKind.i64.wrap ((i : Int) + 1) = i + 1 := wrapi (by omega)
  obtain ⟨p, hx⟩ : ∃ p, ∀ h, ps[i]'h = p := ⟨ps[i], fun _ => rfl⟩
  have hpo : setOk p = true := by rw [← hx hi]; exact (hp.each _ (List.getElem_mem hi)).1
  obtain ⟨A, N, B, t1, t2, t3, hstep, hvl⟩ := cut_facts hp hs hi hx
  generalize partsF (ps.take i) s = V at hQ hstep hvl
  have k1 : (V.length + 1) * 24 ≤ 140737488355328 := by omega
  have k2 : V.length ≤ 9223372036854775806 := by omega
  have k3 : (V.length + 1 + 1) * 24 ≤ 140737488355328 := Nat.le_trans (Nat.mul_le_mul_right 24 (Nat.add_le_add_right (Nat.add_le_add_right hvl 1) 1)) (by simp)
  have k4 : V.length ≤ 9223372036854775805 := Nat.le_trans hvl (by simp)
  simp [h0, h1, h5, hQ, h6, hi, hx, encP]
  refine TWoH.callV t1 callable_184 (by simp [h1]) (by simp) (by simp) (by simp) ?_
  simp [h0, h1, h5, hQ, h6, hi, hx, encP]
  refine TWcH.regionD (ρ := []) [0, 1, 2, 3, 4, 5, 6, 7] 8 mixed (by kernel_rfl) ?_
  simp [h0, h1, h5, hQ, h6, hi, hx, encP]
  refine TWqH.callV t2 callable_185 (by simp [h1]) (by simp) (by simp) (by simp) ?_
  simp [h0, h1, h5, hQ, h6, hi, hx, encP]
  refine TWqH.callV t3 callable_184 (by simp [h1]) (by simp) (by simp) (by simp) ?_
  simp [h0, h1, h5, hQ, h6, hi, hx, encP]
  have kA : keepS A = if A = [] then [] else [A] := rfl
  have kB : keepS B = if B = [] then [] else [B] := rfl
  by_cases cA : A = []
  · have lA : ¬ 0 < A.length := by simp [cA]
    rw [if_pos cA] at kA
    rw [kA, List.nil_append] at hstep
    by_cases cB : B = []
    · have lB : ¬ 0 < B.length := by simp [cB]
      rw [if_pos cB] at kB
      rw [kB, List.append_nil] at hstep
      simp [h0, h1, h5, hQ, h6, hi, lA, lB, hw]
      exact ⟨m - 1, by omega, i + 1, by omega, by rw [hstep], by omega⟩
    · have lB : 0 < B.length := List.length_pos_iff.2 cB
      rw [if_neg cB] at kB
      rw [kB] at hstep
      simp [h0, h1, h5, hQ, h6, hi, lA, lB, hw]
      refine gall_fresh [q] (by simp [hQ]) fun j fj => ?_
      simp [frF] at fj
      simp [-List.map_append, h0, h1, h5, hQ, h6, hi, hx, fj, k1, k2, lA, lB, hw]
      refine gall_intro fun j2 g2 => ?_
      simp [-List.map_append, h0, h1, h5, hQ, h6, hi, hx, fj, hw]
      exact ⟨m - 1, by omega, i + 1, by omega, by rw [hstep]; simp [encP], by omega⟩
  · have lA : 0 < A.length := List.length_pos_iff.2 cA
    rw [if_neg cA] at kA
    rw [kA] at hstep
    simp [h0, h1, h5, hQ, h6, hi, lA, hw]
    refine gall_fresh [q] (by simp [hQ]) fun j fj => ?_
    simp [frF] at fj
    simp [-List.map_append, h0, h1, h5, hQ, h6, hi, hx, fj, k1, k2, lA, hw]
    refine gall_intro fun j2 g2 => ?_
    by_cases cB : B = []
    · have lB : ¬ 0 < B.length := by simp [cB]
      rw [if_pos cB] at kB
      rw [kB, List.append_nil] at hstep
      simp [-List.map_append, h0, h1, h5, hQ, h6, hi, hx, fj, hw, lB]
      exact ⟨m - 1, by omega, i + 1, by omega, by rw [hstep]; simp [encP], by omega⟩
    · have lB : 0 < B.length := List.length_pos_iff.2 cB
      rw [if_neg cB] at kB
      rw [kB] at hstep
      simp [-List.map_append, h0, h1, h5, hQ, h6, hi, hx, fj, hw, lB]
      refine gall_fresh [j2] (by simp) fun j3 f3 => ?_
      simp [frF] at f3
      simp [-List.map_append, h0, h1, h5, hQ, h6, hi, hx, fj, f3, k3, k4, hw, lB]
      refine gall_intro fun j4 g4 => ?_
      simp [-List.map_append, h0, h1, h5, hQ, h6, hi, hx, fj, f3, hw, lB]
      exact ⟨m - 1, by omega, i + 1, by omega, by rw [hstep]; simp [encP], by omega⟩
end Go.Proofs.YtdomnlnanbekaaaGreatDoor.R

open Go Go.Proofs.YtdomnlnanbekaaaGreatDoor.T
namespace Go.Proofs.YtdomnlnanbekaaaGreatDoor.R
set_option maxHeartbeats 4000000
set_option maxRecDepth 100000
set_option linter.unusedSimpArgs false
set_option linter.unusedVariables false
attribute [local simp] bsV bsRows chunk fillT partsT appV makeV rowsOf cellsOf placeOf frzT frz1
def atB (b : Nat) (p : List (Int × Int)) : Bool := decide (firstS p = (b : Int))
def sortTo (ps : List (List (Int × Int))) (b : Nat) : List (List (Int × Int)) := (List.range b).flatMap fun b => ps.filter (atB b)
theorem sortTo_succ (ps : List (List (Int × Int))) (b : Nat) : sortTo ps (b + 1) = sortTo ps b ++ ps.filter (atB b) := by
  unfold sortTo; rw [List.range_succ, List.flatMap_append, List.flatMap_singleton]
theorem sortTo_len (ps : List (List (Int × Int))) : ∀ b, (sortTo ps b).length ≤ b * ps.length
  | 0 => by simp [sortTo]
  | b + 1 => by
    rw [sortTo_succ, List.length_append]
    have := sortTo_len ps b
    have := List.length_filter_le (atB b) ps
    rw [Nat.succ_mul]; omega
theorem tc_l1Sort (ps : List (List (Int × Int))) (hp : PI ps) : TC Tryz.prog 164 [.ro (ps.map encP)] [] (.own 34 ((sortTo ps 256).map encP)) [] := by
  have hpl := hp.len
  suffices h : TCR Tryz.prog 164 [.ro (ps.map encP)] [] (fun r o => r = .own 34 ((sortTo ps 256).map encP) ∧ o = []) from h.toTC
  refine TCR.enter Tryz.func164 rfl (by simp [Tryz.ntmps164]) rfl (tw_sound (ρ := []) ?_)
  rw [Tryz.ntmps164]
  simp
  refine gall_intro fun q0 g0 => ?_
  simp
  refine TWcH.loop [] (fun m st => ∃ b q : Nat, b + m = 256 ∧ st.σ 0 = .ro (ps.map encP) ∧ st.σ 3 = .hd q ∧ st.H q = some (.own 34 ((sortTo ps b).map encP)) ∧ st.σ 4 = .val (.int .i64 b)) 256 ⟨0, q0, by simp [sortTo]⟩ ?_
  rintro m ⟨σ, H⟩ ⟨b, q, hbm, h0, h3, hQ, h4⟩
  simp only at h0 h3 hQ h4
  by_cases hb : b < 256
  case neg =>
    obtain rfl : b = 256 := by omega
    simp [h0, h3, hQ, h4]
    skip
  have hwb : IntKind.i64.wrap ((b : Int) + 1) = b + 1 := wrapi (by omega)
  have hb2 : (b : Int) < 256 := by omega
  have hsl := sortTo_len ps b
  have hsq : b * ps.length ≤ 256 * 256 := Nat.mul_le_mul (by omega) hpl
  have hss := sortTo_succ ps b
  generalize sortTo ps b = S at hQ hsl hss
  simp [h0, h3, hQ, h4, hb2]
  refine TWcH.loop [] (fun m' st => ∃ i q : Nat, i + m' = ps.length ∧ st.σ 0 = .ro (ps.map encP) ∧ st.σ 3 = .hd q ∧ st.H q = some (.own 34 ((S ++ (ps.take i).filter (atB b)).map encP)) ∧ st.σ 4 = .val (.int .i64 b) ∧ st.σ 5 = .val (.int .i64 i)) ps.length ⟨0, q, by simp [h0, h3, hQ, h4]⟩ ?_
  clear h0 h3 hQ h4 q g0
  clear σ H
  rintro m' ⟨σ, H⟩ ⟨i, q, him, h0, h3, hQ, h4, h5⟩
  simp only at h0 h3 hQ h4 h5
  by_cases hi : i < ps.length
  case neg =>
    rw [List.take_of_length_le (by omega)] at hQ
    simp [-List.map_append, h0, h3, hQ, h4, h5, hi, hwb]
    exact ⟨m - 1, by omega, b + 1, by omega, by rw [hss], by omega⟩
  have hw : IntKind.i64.wrap ((i : Int) + 1) = i + 1 := wrapi (by omega)
  obtain ⟨p, hx⟩ : ∃ p, ∀ h, ps[i]'h = p := ⟨ps[i], fun _ => rfl⟩
  have hpo : setOk p = true := by rw [← hx hi]; exact (hp.each _ (List.getElem_mem hi)).1
  have hpz := setOk_len hpo
  have hstep : (ps.take (i + 1)).filter (atB b) = (ps.take i).filter (atB b) ++ (if atB b p = true then [p] else []) := by
    rw [List.take_succ_eq_append_getElem hi, hx, List.filter_append]; simp [List.filter_cons]
  have hfl : ((ps.take i).filter (atB b)).length ≤ 256 := by
    have := List.length_filter_le (atB b) (ps.take i)
    simp only [List.length_take] at this; omega
  generalize (ps.take i).filter (atB b) = V at hQ hstep hfl
  have k1 : (S.length + V.length + 1) * 24 ≤ 140737488355328 := by omega
  have k2 : S.length + V.length ≤ 9223372036854775806 := by omega
  simp [-List.map_append, h0, h3, hQ, h4, h5, hi, hx, encP]
  refine TWoH.callV (tc_sSetFirst p (by omega)) callable_111 (by simp [h0]) (by simp) (by simp) (by simp) ?_
  by_cases c : firstS p = (b : Int)
  · have ha : atB b p = true := by simpa [atB] using c
    rw [if_pos ha] at hstep
    simp [-List.map_append, h0, h3, hQ, h4, h5, hi, hx, c, encP]
    refine gall_fresh [q] (by simp [hQ]) fun j fj => ?_
    simp [frF] at fj
    simp [-List.map_append, h0, h3, hQ, h4, h5, hi, hx, c, fj, k1, k2]
    refine gall_intro fun j2 g2 => ?_
    simp [-List.map_append, h0, h3, hQ, h4, h5, hi, hx, fj, hw]
    exact ⟨m' - 1, by omega, i + 1, by omega, by rw [hstep]; simp [encP], by omega⟩
  · have ha : ¬ atB b p = true := by simpa [atB] using c
    rw [if_neg ha, List.append_nil] at hstep
    simp [-List.map_append, h0, h3, hQ, h4, h5, hi, hx, c, hw]
    exact ⟨m' - 1, by omega, i + 1, by omega, by rw [hstep], by omega⟩
theorem sorted_each {ps : List (List (Int × Int))} (hp : PI ps) : ∀ p ∈ sortTo ps 256, setOk p = true := by
  intro p h
  simp only [sortTo, List.mem_flatMap, List.mem_filter] at h
  obtain ⟨b, _, h, _⟩ := h
  exact (hp.each p h).1
theorem sorted_len {ps : List (List (Int × Int))} (hp : PI ps) : 1 ≤ (sortTo ps 256).length ∧ (sortTo ps 256).length ≤ 65536 := by
  refine ⟨?_, Nat.le_trans (sortTo_len ps 256) (Nat.mul_le_mul_left 256 hp.len)⟩
  obtain ⟨p, hp1, h0⟩ := hp.zero
  have hf : firstS p = 0 := by
    unfold firstS
    rw [firstG_next (by omega)]
    simp only [h0, if_true]
    rfl
  have : p ∈ sortTo ps 256 := by
    simp only [sortTo, List.mem_flatMap, List.mem_filter]
    exact ⟨0, by simp, hp1, by simp [atB, hf]⟩
  exact List.length_pos_of_mem this
end Go.Proofs.YtdomnlnanbekaaaGreatDoor.R

open Go Go.Proofs.YtdomnlnanbekaaaGreatDoor.T
namespace Go.Proofs.YtdomnlnanbekaaaGreatDoor.R
set_option maxHeartbeats 4000000
set_option maxRecDepth 100000
set_option linter.unusedSimpArgs false
set_option linter.unusedVariables false
attribute [local simp] bsV bsRows chunk fillT partsT appV makeV rowsOf cellsOf placeOf frzT frz1
def cutAll (ss : List (List (Int × Int))) : List (List (Int × Int)) := ss.foldl partsF [[(0, 255)]]
theorem size_all : sizeS [(0, 255)] = 256 := by
  unfold sizeS
  rw [show (List.range 256).countP (fun b : Nat => hasS [(0, 255)] b) = (List.range 256).countP (fun _ => true) from countP_cong fun x hx => by
    have := List.mem_range.1 hx
    simp [hasS]; omega]
  simp
theorem PI.all : PI [[(0, 255)]] := by
  refine ⟨?_, by simp [sumS, size_all], ⟨[(0, 255)], List.mem_singleton.2 rfl, by simp [hasS]⟩⟩
  intro p hp
  simp only [List.mem_singleton] at hp
  subst hp
  exact ⟨by simp [setOk, setOkP, okX], by rw [size_all]; omega⟩
theorem PI.cutAll : ∀ (ss : List (List (Int × Int))) {ps : List (List (Int × Int))}, PI ps → PI (ss.foldl partsF ps)
  | [], _, h => h
  | s :: ss, _, h => PI.cutAll ss (h.cut s)
theorem tc_l1PartsR (ps : List (List (Int × Int))) (s : List (Int × Int)) (hp : PI ps) (hs : setOk s = true) : TC Tryz.prog 163 [.ro (ps.map encP), .ro (s.map encSp)] [] (.ro ((partsF ps s).map encP)) [] := by
  have := (tc_l1Parts ps s hp hs).frz
  simpa using this
theorem tc_sSetParts (ss : List (List (Int × Int))) (hs : ∀ s ∈ ss, setOk s = true) (hl : ss.length ≤ 1048576) : TC Tryz.prog 109 [.ro (ss.map encP)] [] (.own 34 ((sortTo (cutAll ss) 256).map encP)) [] := by
  refine TC.enter Tryz.func109 rfl (by simp [Tryz.ntmps109]) rfl (tw_sound (ρ := []) ?_)
  rw [Tryz.ntmps109]
  simp
  refine gall_intro fun q0 g0 => ?_
  simp
  refine gall_fresh [q0] (by simp) fun q1 f1 => ?_
  simp [frF] at f1
  simp [f1]
  refine TWcH.turn (Turn.then (Turn.freezeA q0 (t := .own 118 ([(0, 255)].map encSp)) (by simp [encSp, f1]) (Turn.freezeA q1 (t := .own 34 ([[(0, 255)]].map encP)) (by simp [encSp, encP, f1, frzO]) ?_)))
  refine TWcH.loop [] (fun m st => ∃ i : Nat, i + m = ss.length ∧ st.σ 0 = .ro (ss.map encP) ∧ st.σ 3 = .ro ((cutAll (ss.take i)).map encP) ∧ st.σ 4 = .val (.int .i64 i)) ss.length ⟨0, by simp [cutAll, encP, encSp, f1, frzO]⟩ ?_
  rintro m ⟨σ, H⟩ ⟨i, him, h0, h3, h4⟩
  simp only at h0 h3 h4
  have hp : PI (cutAll (ss.take i)) := PI.cutAll _ PI.all
  by_cases hi : i < ss.length
  case neg =>
    rw [List.take_of_length_le (by omega)] at h3 hp
    generalize cutAll ss = V at *
    simp [h0, h3, h4, hi]
    refine TWoH.call (tc_l1Sort V hp) callable_164 (by simp [h3]) (by simp) (by simp) fun k hk => ?_
    simp
  have hw : IntKind.i64.wrap ((i : Int) + 1) = i + 1 := wrapi (by omega)
  obtain ⟨s, hx⟩ : ∃ s, ∀ h, ss[i]'h = s := ⟨ss[i], fun _ => rfl⟩
  have hso : setOk s = true := by rw [← hx hi]; exact hs _ (List.getElem_mem hi)
  have hsz := setOk_len hso
  have hstep : cutAll (ss.take (i + 1)) = partsF (cutAll (ss.take i)) s := by
    unfold cutAll
    rw [List.take_succ_eq_append_getElem hi, hx, List.foldl_append]; rfl
  have tp := tc_l1PartsR _ s hp hso
  rw [← hstep] at tp
  generalize cutAll (ss.take i) = V at *
  generalize hW : cutAll (ss.take (i + 1)) = W at *
  simp [h0, h3, h4, hi, hx, encP]
  refine TWoH.callV (tc_sSetOk s (by omega)) callable_161 (by simp [h0]) (by simp) (by simp) (by simp) ?_
  simp [h0, h3, h4, hi, hx, hso, encP]
  refine TWoH.callV tp callable_163 (by simp [h0, h3]) (by simp) (by simp) (by simp) ?_
  simp [h0, h3, h4, hi, hx, hso, hw]
  exact ⟨m - 1, by omega, i + 1, by omega, by rw [hW], by omega⟩
end Go.Proofs.YtdomnlnanbekaaaGreatDoor.R

open Go Go.Proofs.YtdomnlnanbekaaaGreatDoor.T
namespace Go.Proofs.YtdomnlnanbekaaaGreatDoor.R
set_option maxHeartbeats 4000000
set_option maxRecDepth 100000
set_option linter.unusedSimpArgs false
set_option linter.unusedVariables false
attribute [local simp] bsV bsRows chunk fillT partsT appV makeV rowsOf cellsOf placeOf frzT frz1
def setsX : Rx → List (List (Int × Int))
  | .set s => [s]
  | .emp => []
  | .cat a b | .or a b | .and a b => setsX a ++ setsX b
  | .star a | .not a => setsX a
theorem setsX_eq (x : Rx) : setsX x = (if x.kind = 1 then [x.span] else []) ++ x.kids.flatMap setsX := by cases x <;> simp [setsX, Rx.kind, Rx.span, Rx.kids]
theorem setsX_len : ∀ x : Rx, (setsX x).length ≤ x.sz := by
  intro x
  induction x with
  | set s => simp [setsX, Rx.sz]
  | emp => simp [setsX]
  | cat a b iha ihb => simp only [setsX, List.length_append, Rx.sz]; omega
  | or a b iha ihb => simp only [setsX, List.length_append, Rx.sz]; omega
  | and a b iha ihb => simp only [setsX, List.length_append, Rx.sz]; omega
  | star a iha => simp only [setsX, Rx.sz]; omega
  | not a iha => simp only [setsX, Rx.sz]; omega
theorem setsX_ok : ∀ x : Rx, x.ok → ∀ s ∈ setsX x, setOk s = true := by
  intro x
  induction x with
  | set s => intro h t ht; simp only [setsX, List.mem_singleton] at ht; subst ht; exact h
  | emp => intro h t ht; simp [setsX] at ht
  | cat a b iha ihb => intro h t ht; simp only [setsX, List.mem_append] at ht; exact ht.elim (iha h.1 t) (ihb h.2 t)
  | or a b iha ihb => intro h t ht; simp only [setsX, List.mem_append] at ht; exact ht.elim (iha h.1 t) (ihb h.2 t)
  | and a b iha ihb => intro h t ht; simp only [setsX, List.mem_append] at ht; exact ht.elim (iha h.1 t) (ihb h.2 t)
  | star a iha => intro h t ht; exact iha h t ht
  | not a iha => intro h t ht; exact iha h t ht
theorem tc_l2Sets : ∀ (x : Rx), x.ok → x.sz ≤ 1000000 → TC Tryz.prog 110 [.agg (encX x)] [] (.ro ((setsX x).map encP)) []
  | x, ho, hs => by
    have ex := encX_eq x
    suffices h : TCR Tryz.prog 110 [.agg (encX x)] [] (fun r o => r = .own 34 ((setsX x).map encP) ∧ o = []) by
      have := h.toTC.frz
      simpa using this
    refine TCR.enter Tryz.func110 rfl (by simp [Tryz.ntmps110]) rfl (tw_sound (ρ := [1]) ?_)
    rw [Tryz.ntmps110]
    simp [ex]
    refine gall_intro fun q0 g0 => ?_
    simp
    have hspl : x.span.length ≤ 256 := by
      cases x with
      | set s => exact setOk_len ho
      | _ => simp [Rx.span]
    by_cases c : x.kind = 1
    · obtain ⟨s, rfl⟩ : ∃ s, x = .set s := by cases x <;> simp [Rx.kind] at c; exact ⟨_, rfl⟩
      simp only [Rx.kind, Rx.span, Rx.kids] at *
      simp
      refine gall_fresh [q0] (by simp) fun j1 f1 => ?_
      simp [frF] at f1
      simp [-List.map_append, f1]
      have k1 : s.length * 16 ≤ 140737488355328 := by omega
      have k2 : s.length ≤ 9223372036854775807 := by omega
      have hr : ∀ (r : List TV) (x y : Int), (x, y) ∈ s → encSp (x, y) = r → r.length = 2 := by rintro r x y _ rfl; simp [encSp]
      simp [k1, k2]
      refine gif_intro (fun _ => ?_) (fun c => absurd hr c)
      refine gall_intro fun j2 g2 => ?_
      have f2 : ¬ j2 = q0 ∧ ¬ q0 = j2 := by
        have : ¬ j2 = q0 := fun e => by rw [e] at g2; simp [f1, delo, del] at g2
        exact ⟨this, fun e => this e.symm⟩
      simp [-List.map_append, f1, f2]
      refine gall_fresh [q0, j2] (by simp [f1, f2, delo, del]) fun j3 f3 => ?_
      simp [frF] at f3
      simp [-List.map_append, f1, f2, f3, delo, del]
      refine gall_intro fun j4 g4 => ?_
      have f4 : ¬ j4 = j2 ∧ ¬ j2 = j4 := by
        have : ¬ j4 = j2 := fun e => by rw [e] at g4; simp [f1, f2, f3, delo, del] at g4
        exact ⟨this, fun e => this e.symm⟩
      simp [-List.map_append, f1, f2, f3, f4, delo, del]
      refine TWcH.turn (Turn.freezeA j2 (t := .own 118 (s.map encSp)) (by simp [f1, f2, f3, f4, delo, del]) ?_)
      refine TWcH.loop [1] (fun m st => m = 0 ∧ st.σ 1 = .rptr [.val (.int .i64 1), .ro (s.map encSp), .ro []] 0 ∧ st.σ 3 = .hd j4 ∧ st.H j4 = some (.own 34 [encP s]) ∧ st.σ 4 = .val (.int .i64 0)) 0 ⟨rfl, by simp [f1, f2, f3, f4, frzO, encP, delo, del]⟩ ?_
      rintro m ⟨σ, H⟩ ⟨rfl, h1, h3, hQ, h4⟩
      simp only at h1 h3 hQ h4
      simp [h1, h3, hQ, h4, setsX]
    · simp [c]
      refine TWcH.loop [1] (fun m st => ∃ i q : Nat, i + m = x.kids.length ∧ st.σ 1 = .rptr [.val (.int .i64 x.kind), .ro (x.span.map encSp), .ro (x.kids.map encX)] 0 ∧ st.σ 3 = .hd q ∧ st.H q = some (.own 34 (((x.kids.take i).flatMap setsX).map encP)) ∧ st.σ 4 = .val (.int .i64 i)) x.kids.length ⟨0, q0, by simp⟩ ?_
      rintro m ⟨σ, H⟩ ⟨i, q, him, h1, h3, hQ, h4⟩
      simp only at h1 h3 hQ h4
      by_cases hi : i < x.kids.length
      case neg =>
        rw [List.take_of_length_le (by omega)] at hQ
        have he := setsX_eq x
        rw [if_neg c, List.nil_append] at he
        rw [← he] at hQ
        simp [h1, h3, hQ, h4, hi]
        skip
      obtain ⟨y, hy⟩ : ∃ y, ∀ h, x.kids[i]'h = y := ⟨x.kids[i], fun _ => rfl⟩
      have hym : y ∈ x.kids := by rw [← hy hi]; exact List.getElem_mem hi
      have hyz := kids_sz hym
      have hkl := kids_len x
      have hyo : y.ok := kids_ok ho hym
      have hw : IntKind.i64.wrap ((i : Int) + 1) = i + 1 := wrapi (by omega)
      have ey := encX_eq y
      have hstep : (x.kids.take (i + 1)).flatMap setsX = (x.kids.take i).flatMap setsX ++ setsX y := by
        rw [List.take_succ_eq_append_getElem hi, hy, List.flatMap_append, List.flatMap_singleton]
      have hVl : ((x.kids.take (i + 1)).flatMap setsX).length ≤ 1000000 := by
        have h3 := setsX_len x
        rw [setsX_eq x, if_neg c, List.nil_append] at h3
        have h4 : (x.kids.flatMap setsX).length = ((x.kids.take (i + 1)).flatMap setsX).length + ((x.kids.drop (i + 1)).flatMap setsX).length := by
          conv => lhs; rw [← List.take_append_drop (i + 1) x.kids]
          rw [List.flatMap_append, List.length_append]
        omega
      rw [hstep, List.length_append] at hVl
      have ty := tc_l2Sets y hyo (by omega)
      generalize (x.kids.take i).flatMap setsX = V at hQ hstep hVl
      generalize setsX y = W at ty hstep hVl
      have k1 : (V.length + W.length) * 24 ≤ 140737488355328 := by omega
      have k2 : V.length + W.length ≤ 9223372036854775807 := by omega
      simp [-List.map_append, h1, h3, hQ, h4, hi, hy, ey]
      refine TWoH.callV ty callable_110 (by simp [ey]) (by simp) (by simp) (by simp) ?_
      simp [-List.map_append, h1, h3, hQ, h4, hi, hy, ey, k1, k2]
      have hr : ∀ (r : List TV) (x : List (Int × Int)), x ∈ W → encP x = r → r.length = 1 := by rintro r x _ rfl; simp
      refine gall_intro fun j2 g2 => ?_
      simp [-List.map_append, h1, h3, hQ, h4, hi, hy, ey, hr, hw]
      exact ⟨m - 1, by omega, i + 1, by omega, by rw [hstep]; simp, by omega⟩
termination_by x => x.sz
end Go.Proofs.YtdomnlnanbekaaaGreatDoor.R

open Go Go.Proofs.YtdomnlnanbekaaaGreatDoor.T
namespace Go.Proofs.YtdomnlnanbekaaaGreatDoor.R
set_option maxHeartbeats 8000000
set_option maxRecDepth 100000
set_option linter.unusedSimpArgs false
set_option linter.unusedVariables false
attribute [local simp] bsV bsRows chunk fillT partsT appV makeV rowsOf cellsOf placeOf frzT frz1
theorem ne_of {H : Nat → Option TV} {i j : Nat} {t u : TV} (h : H i = some t) (h' : H j = some u) (hne : t ≠ u) : ¬ i = j ∧ ¬ j = i := by
  have : ¬ i = j := fun e => by rw [e, h'] at h; exact hne (Option.some.inj h).symm
  exact ⟨this, fun e => this e.symm⟩
structure GD (d : Dfa) : Prop where
  rows : 1 ≤ d.rows.length ∧ d.rows.length ≤ 40
  acc : d.acc.length = d.rows.length
  parts : 1 ≤ d.parts.length ∧ d.parts.length ≤ 65536
  part : ∀ x ∈ d.parts, x.length ≤ 256
  row : ∀ r ∈ d.rows, r.length = d.parts.length
theorem tc_SetPartsR (ss : List (List (Int × Int))) (hs : ∀ s ∈ ss, setOk s = true) (hl : ss.length ≤ 1048576) : TC Tryz.prog 109 [.ro (ss.map encP)] [] (.ro ((sortTo (cutAll ss) 256).map encP)) [] := by
  have := (tc_sSetParts ss hs hl).frz
  simpa using this
theorem tc_l7VecR (v : List Rx) (b : Int) (hl : v.length ≤ 1000) (hv : ∀ x ∈ v, x.ok ∧ x.sz ≤ 140) : TC Tryz.prog 140 [.ro (v.map encX), .val (.int .i64 b)] [] (.ro ((vecX v b).map encX)) [] := by
  have := (tc_l7Vec v b hl hv).frz
  simpa using this
def VV (n : Nat) (all : List (List Rx)) : Prop := ∀ u ∈ all, u.length = n ∧ ∀ x ∈ u, x.ok ∧ x.sz ≤ 140
def OfR (r : TV) (o : List TV) : Prop := o = [] ∧ ((∃ d : Dfa, GD d ∧ r = .tup [.agg [.ro (d.parts.map encP), .own 27 (d.rows.map oR), .own 3 (d.acc.map encIn)], .val (.bool true)]) ∨ r = .tup [.agg [.val (.slice none 0 0), .val (.slice none 0 0), .val (.slice none 0 0)], .val (.bool false)])
theorem tcr_l7Of (l : List Rule) (xs : List Rx) (hlx : l.map Rule.rex = xs.map Rx.rex) (hl : xs.length ≤ 5) (hx : ∀ x ∈ xs, x.ok ∧ x.sz ≤ 24) : TCR Tryz.prog 68 [.ro (l.map encRule)] [] OfR := by
  have hll : l.length = xs.length := by have := congrArg List.length hlx; simpa using this
  refine TCR.enter Tryz.func68 rfl (by simp [Tryz.ntmps68]) rfl (tw_sound (ρ := []) ?_)
  rw [Tryz.ntmps68]
  simp
  refine gall_intro fun q2 g2 => ?_
  simp
  refine gall_fresh [q2] (by simp) fun q4 f4 => ?_
  simp [frF] at f4
  simp [f4]
  refine gall_fresh [q2, q4] (by simp [f4]) fun q5 f5 => ?_
  simp [frF] at f5
  simp [f4, f5]
  refine TWcH.loop [] (fun m st => ∃ (i q4 q5 : Nat), i + m = l.length ∧ (¬ q4 = q5 ∧ ¬ q5 = q4) ∧ st.σ 0 = .ro (l.map encRule) ∧ st.σ 2 = .pd q2 0 0 0 ∧ st.H q2 = some (.box 29 [.val (.slice none 0 0), .val (.slice none 0 0), .val (.slice none 0 0)]) ∧ st.σ 4 = .hd q4 ∧ st.H q4 = some (.own 34 (((xs.take i).flatMap setsX).map encP)) ∧ st.σ 5 = .hd q5 ∧ st.H q5 = some (.own 37 (((xs.take i).map normX).map encX)) ∧ st.σ 6 = .val (.int .i64 i)) l.length ⟨0, q4, q5, by simp [f4, f5]⟩ ?_
  clear f4 f5 q4 q5 g2
  rintro m ⟨σ, H⟩ ⟨i, q4, q5, him, f45, h0, h2, H2, h4, H4, h5, H5, h6⟩
  simp only at h0 h2 H2 h4 H4 h5 H5 h6
  have f24 := ne_of H2 H4 (by simp)
  have f25 := ne_of H2 H5 (by simp)
  have hsl : ∀ zs : List Rx, (∀ x ∈ zs, x ∈ xs) → (zs.flatMap setsX).length ≤ 24 * zs.length := by
    intro zs
    induction zs with
    | nil => simp
    | cons z zs ih =>
      intro hz
      have h1 := ih fun x hx => hz x (by simp [hx])
      have h2 := setsX_len z
      have h3 := (hx z (hz z (by simp))).2
      simp only [List.flatMap_cons, List.length_append, List.length_cons]; omega
  have hso : ∀ s ∈ xs.flatMap setsX, setOk s = true := by
    intro s hs
    obtain ⟨x, hx1, hx2⟩ := List.mem_flatMap.1 hs
    exact setsX_ok x (hx x hx1).1 s hx2
  have hnv : ∀ x ∈ xs.map normX, x.ok ∧ x.sz ≤ 140 := by
    intro x h
    obtain ⟨y, hy, rfl⟩ := List.mem_map.1 h
    have := normX_ok (hx y hy).1
    have := (hx y hy).2
    exact ⟨by simp_all, by omega⟩
  by_cases hi : i < l.length
  case pos =>
    have hi' : i < xs.length := by omega
    have hw : IntKind.i64.wrap ((i : Int) + 1) = i + 1 := wrapi (by omega)
    obtain ⟨r, hr⟩ : ∃ r, ∀ h, l[i]'h = r := ⟨l[i], fun _ => rfl⟩
    obtain ⟨x, hxi⟩ : ∃ x, ∀ h, xs[i]'h = x := ⟨xs[i], fun _ => rfl⟩
    have hrx : r.rex = x.rex := by
      have := congrArg (fun z => z[i]?) hlx
      simpa [hi, hi', hr, hxi] using this
    have hxo : x.ok ∧ x.sz ≤ 24 := by rw [← hxi hi']; exact hx _ (List.getElem_mem hi')
    have her : encRule r = .val (.string (bs r.name)) :: encX x := by simp [encRule, hrx, encX]
    have ex := encX_eq x
    have hst1 : (xs.take (i + 1)).flatMap setsX = (xs.take i).flatMap setsX ++ setsX x := by
      rw [List.take_succ_eq_append_getElem hi', hxi, List.flatMap_append, List.flatMap_singleton]
    have hst2 : (xs.take (i + 1)).map normX = (xs.take i).map normX ++ [normX x] := by
      rw [List.take_succ_eq_append_getElem hi', hxi, List.map_append]; rfl
    have hst3 : (xs.take (i + 1)).map (encX ∘ normX) = ((xs.take i).map normX).map encX ++ [encX (normX x)] := by rw [← List.map_map, hst2]; simp
    have hb1 := hsl (xs.take i) fun x h => List.mem_of_mem_take h
    have hb2 : ((xs.take i).map normX).length ≤ 5 := by simp; omega
    have hb3 : (xs.take i).length ≤ 5 := by simp; omega
    have ts := tc_l2Sets x hxo.1 (by omega)
    have tcp : TC Tryz.prog 100 [.agg (encX x)] [] (.agg (encX x)) [] := tc_l2Copy x.rex (x.sm hxo.1)
    have tn := tc_l4Norm x hxo.1 (by omega)
    have hW := setsX_len x
    generalize (xs.take i).flatMap setsX = V at H4 hst1 hb1
    generalize (xs.take i).map normX = U at H5 hst2 hst3 hb2
    generalize setsX x = W at ts hst1 hW
    generalize normX x = z at tn hst2 hst3
    have ez := encX_eq z
    have k1 : (V.length + W.length) * 24 ≤ 140737488355328 := by omega
    have k2 : V.length + W.length ≤ 9223372036854775807 := by omega
    have k3 : (U.length + 1) * 56 ≤ 140737488355328 := by omega
    have k4 : U.length ≤ 9223372036854775806 := by omega
    have hrl : ∀ (r : List TV) (x : List (Int × Int)), x ∈ W → encP x = r → r.length = 1 := by rintro r x _ rfl; simp
    simp [-List.map_append, h0, h2, H2, h4, H4, h5, H5, h6, hi, hr, her, ex, f45, f24, f25]
    refine TWoH.callV ts callable_110 (by simp [ex]) (by simp) (by simp) (by simp) ?_
    simp [-List.map_append, h0, h2, H2, h4, H4, h5, H5, h6, hi, hr, her, ex, f45, f24, f25, k1, k2]
    refine gall_fresh [q2, q5] (by simp [delo, del, H2, H5, f45, f24, f25]) fun j fj => ?_
    simp [frF] at fj
    simp [-List.map_append, h0, h2, H2, h4, H4, h5, H5, h6, hi, hr, her, ex, f45, f24, f25, fj, delo, del]
    refine TWoH.callV tcp callable_100 (by simp [ex]) (by simp) (by simp) (by simp) ?_
    simp [-List.map_append, h0, h2, H2, h4, H4, h5, H5, h6, hi, hr, her, ex, f45, f24, f25, fj, delo, del]
    refine TWoH.callV tn callable_102 (by simp [ex]) (by simp) (by simp) (by simp) ?_
    simp [-List.map_append, h0, h2, H2, h4, H4, h5, H5, h6, hi, hr, her, ex, ez, f45, f24, f25, fj, delo, del]
    refine gall_fresh [q2, q5, j] (by simp [delo, del, H2, H5, f45, f24, f25, fj]) fun j2 fj2 => ?_
    simp [frF] at fj2
    simp [-List.map_append, h0, h2, H2, h4, H4, h5, H5, h6, hi, hr, her, ex, ez, f45, f24, f25, fj, fj2, delo, del, k3, k4]
    refine gall_fresh [q2, j] (by simp [delo, del, H2, H5, f45, f24, f25, fj, fj2]) fun j3 fj3 => ?_
    simp [frF] at fj3
    simp [-List.map_append, h0, h2, H2, h4, H4, h5, H5, h6, hi, hr, her, ex, ez, f45, f24, f25, fj, fj2, fj3, delo, del, hw]
    exact ⟨m - 1, by omega, i + 1, by omega, j, j3, by simp [fj3], by rw [hst1, ← List.map_take, hst3]; simp [-List.map_map, fj3, ez, delo, del, H2, fj, fj2, f45, f24, f25]; try omega⟩
  case neg =>
    rw [List.take_of_length_le (by omega)] at H4 H5
    have hsx := hsl xs fun x h => h
    have hnl : (xs.map normX).length = xs.length := by simp
    have hpi : PI (cutAll (xs.flatMap setsX)) := PI.cutAll _ PI.all
    have hps := sorted_len hpi
    have hpo := sorted_each hpi
    have tsp := tc_SetPartsR (xs.flatMap setsX) hso (by omega)
    generalize xs.flatMap setsX = SS at H4 hsx hso hpi hps hpo tsp
    generalize sortTo (cutAll SS) 256 = ps at hps hpo tsp
    generalize xs.map normX = v0 at H5 hnv hnl
    simp [-List.map_append, h0, h2, H2, h4, H4, h5, H5, h6, hi]
    refine TWoH.turn (Turn.freeze q4 (t := .own 34 (SS.map encP)) (by simp [H4, f24, f45]) ?_)
    refine TWoH.callV tsp callable_109 (by simp [h4, H4]) (by simp) (by simp) (by simp) ?_
    simp [-List.map_append, h0, h2, H2, h4, H4, h5, H5, h6, hi, f45, f24, f25]
    refine gall_fresh [q2, q5] (by simp [H2, H5, f45, f24, f25]) fun c fc => ?_
    simp [frF] at fc
    simp [-List.map_append, h0, h2, H2, h4, H4, h5, H5, h6, hi, fc, f45, f24, f25]
    refine gall_fresh [q2, q5, c] (by simp [H2, H5, fc, f45, f24, f25]) fun q8 f8 => ?_
    simp [frF] at f8
    simp [-List.map_append, h0, h2, H2, h4, H4, h5, H5, h6, hi, fc, f8, f45, f24, f25]
    refine TWcH.turn (Turn.freezeA q5 (t := .own 37 (v0.map encX)) (by simp [H5, f25, fc, f8, f45, f24]) ?_)
    have fc2 : ¬ q2 = c ∧ ¬ c = q2 := by simp [fc]
    refine TWcH.loopT [] (fun m st => ∃ (s q8 : Nat) (all : List (List Rx)) (rows : List (List Int)) (acc : List Int) (cells : List TV), s + m = 40 ∧ s ≤ all.length ∧ 1 ≤ all.length ∧ all.length ≤ 40 ∧ VV v0.length all ∧ rows.length = s ∧ acc.length = s ∧ (∀ r ∈ rows, r.length = ps.length) ∧ st.σ 2 = .pd q2 0 0 0 ∧ st.H q2 = some (.box 29 [.val (.slice none 0 0), .val (.slice none 0 0), .val (.slice none 0 0)]) ∧ st.σ 7 = .pd c 0 0 0 ∧ st.σ 8 = .hd q8 ∧ st.H q8 = some (.own 35 (all.map encV)) ∧ st.σ 9 = .val (.int .i64 s) ∧ st.H c = some (.box 29 (.ro (ps.map encP) :: cells)) ∧
        ((s = 0 ∧ cells = [.val (.slice none 0 0), .val (.slice none 0 0)]) ∨ ∃ k1 k2 q10 row rows', cells = [.hd k1, .hd k2] ∧ rows = rows' ++ [row] ∧ st.H k1 = some (.own 27 (rows'.map oR ++ [[.hd q10]])) ∧ st.H q10 = some (.own 3 (row.map encIn)) ∧ st.H k2 = some (.own 3 (acc.map encIn)) ∧ ¬ q10 = k2))
      (fun m st => ∃ (s q8 k1 k2 : Nat) (all : List (List Rx)) (rows : List (List Int)) (acc : List Int), s + m = 40 ∧ s ≤ all.length ∧ 1 ≤ all.length ∧ all.length ≤ 40 ∧ VV v0.length all ∧ rows.length = s ∧ acc.length = s ∧ (∀ r ∈ rows, r.length = ps.length) ∧ st.σ 2 = .pd q2 0 0 0 ∧ st.H q2 = some (.box 29 [.val (.slice none 0 0), .val (.slice none 0 0), .val (.slice none 0 0)]) ∧ st.σ 7 = .pd c 0 0 0 ∧ st.σ 8 = .hd q8 ∧ st.H q8 = some (.own 35 (all.map encV)) ∧ st.σ 9 = .val (.int .i64 s) ∧ st.H c = some (.box 29 [.ro (ps.map encP), .hd k1, .hd k2]) ∧
        st.H k1 = some (.own 27 (rows.map oR)) ∧ st.H k2 = some (.own 3 (acc.map encIn))) 40 ⟨0, q8, [v0], [], [], _, by simp [VV], by simp, by simp, by simp, by simpa [VV] using hnv, rfl, rfl, by simp, by simp [frzO, h2, fc, f8, H2, H5, f45, f24, f25], by simp [frzO, h2, fc, f8, H2, H5, f45, f24, f25], by simp [frzO, h2, fc, f8, H2, H5, f45, f24, f25], by simp [frzO, h2, fc, f8, H2, H5, f45, f24, f25], by simp [frzO, h2, fc, f8, H2, H5, f45, f24, f25, encV], by simp [frzO, h2, fc, f8, H2, H5, f45, f24, f25], by simp [frzO, h2, fc, f8, H2, H5, f45, f24, f25], .inl ⟨rfl, rfl⟩⟩ ?_ ?_
    · clear h0 h2 H2 h4 H4 h5 H5 h6 f8 f45 f24 f25
      clear fc
      rintro m ⟨σ, H⟩ ⟨s, q8, all, rows, acc, cells, hsm, hsa, ha1, ha40, hvv, hrl, hal, hrr, h2, H2, h7, h8, H8, h9, Hc, hcase⟩
      simp only at h2 H2 h7 h8 H8 h9 Hc hcase
      have n28 := ne_of H2 H8 (by simp)
      have n2c : ¬ q2 = c ∧ ¬ c = q2 := fc2
      have nc8 := ne_of Hc H8 (by simp)
      rcases hcase with ⟨rfl, rfl⟩ | ⟨k1, k2, q10, row, rows', rfl, rfl, K1, Q10, K2, hne⟩
      · obtain rfl : rows = [] := List.eq_nil_of_length_eq_zero hrl
        obtain rfl : acc = [] := List.eq_nil_of_length_eq_zero hal
        refine Turn.then (Turn.nilC c 1 27 29 (cs := [.ro (ps.map encP), .val (.slice none 0 0), .val (.slice none 0 0)]) Hc (by simp) fun k1 n1 e1 => Turn.nilC c 2 3 29 (cs := [.ro (ps.map encP), .hd k1, .val (.slice none 0 0)]) (by simp) (by simp) fun k2 n2 e2 => ?_)
        simp only at n1 n2
        have a1 : ¬ k1 = q8 := fun e => by rw [e, H8] at n1; cases n1
        have a2 : ¬ k1 = q2 := fun e => by rw [e, H2] at n1; cases n1
        have a1' : ¬ q8 = k1 := fun e => a1 e.symm
        have a2' : ¬ q2 = k1 := fun e => a2 e.symm
        have b0 : ¬ k2 = k1 := fun e => by rw [e] at n2; simp [e1] at n2
        have b1 : ¬ k2 = q8 := fun e => by rw [e] at n2; simp [e1, nc8, H8, a1'] at n2
        have b2 : ¬ k2 = q2 := fun e => by rw [e] at n2; simp [e1, n2c, H2, a2'] at n2
        have b0' : ¬ k1 = k2 := fun e => b0 e.symm
        have b1' : ¬ q8 = k2 := fun e => b1 e.symm
        have b2' : ¬ q2 = k2 := fun e => b2 e.symm
        have e1' : ¬ c = k1 := fun e => e1 e.symm
        have e2' : ¬ c = k2 := fun e => e2 e.symm
        exact ⟨0, q8, k1, k2, all, [], [], hsm, hsa, ha1, ha40, hvv, rfl, rfl, by simp, h2, by simp [a2', b2', n2c, H2], h7, h8, by simp [a1', b1', nc8, H8], h9, by simp, by simp [a1, e1, b0', n2c], by simp [e2]⟩
      · have g1 := ne_of K1 Q10 (by simp)
        have g2 := ne_of K1 H8 (by simp)
        have g3 := ne_of K1 H2 (by simp)
        have g4 := ne_of K1 Hc (by simp)
        have g5 := ne_of K1 K2 (by simp)
        have g6 := ne_of Q10 H8 (by simp)
        have g7 := ne_of Q10 H2 (by simp)
        have g8 := ne_of Q10 Hc (by simp)
        have hne' : ¬ k2 = q10 := fun e => hne e.symm
        refine Turn.shift (Shift.fold1x k1 q10 27 rows'.length 0 (rows'.map oR ++ [[.hd q10]]) [.hd q10] (.own 3 (row.map encIn)) g1.1 K1 (by simp) (by simp) Q10) ?_
        exact ⟨s, q8, k1, k2, all, rows' ++ [row], acc, hsm, hsa, ha1, ha40, hvv, hrl, hal, hrr, h2, by simp [del, g3, g7, H2], h7, h8, by simp [del, g2, g6, H8], h9, by simp [del, g4, g8, Hc], by simp [oR], by simp [del, g5, hne, hne', K2]⟩
    · clear h0 h2 H2 h4 H4 h5 H5 h6 f8 f45 f24 f25
      clear fc
      rintro m ⟨σ, H⟩ ⟨s, q8, k1, k2, all, rows, acc, hsm, hsa, ha1, ha40, hvv, hrl, hal, hrr, h2, H2, h7, h8, H8, h9, Hc, K1, K2⟩
      simp only at h2 H2 h7 h8 H8 h9 Hc K1 K2
      have n28 := ne_of H2 H8 (by simp)
      have nc8 := ne_of Hc H8 (by simp)
      have g2 := ne_of K1 H8 (by simp)
      have g3 := ne_of K1 H2 (by simp)
      have g4 := ne_of K1 Hc (by simp)
      have g5 := ne_of K1 K2 (by simp)
      have g6 := ne_of K2 H8 (by simp)
      have g7 := ne_of K2 H2 (by simp)
      have g8 := ne_of K2 Hc (by simp)
      by_cases hs : s < all.length
      case neg =>
        obtain rfl : s = all.length := by omega
        simp [h2, H2, h7, h8, H8, h9, Hc, K1, K2, fc2, n28, nc8, g2, g3, g4, g5, g6, g7, g8]
        exact ⟨rfl, .inl ⟨⟨ps, rows, acc⟩, ⟨⟨by simp only; omega, by simp only; omega⟩, by simp only; omega, hps, fun x hx => setOk_len (hpo x hx), hrr⟩, rfl⟩⟩
      have hw : IntKind.i64.wrap ((s : Int) + 1) = s + 1 := wrapi (by omega)
      simp [h2, H2, h7, h8, H8, h9, Hc, K1, K2, fc2, n28, nc8, g2, g3, g4, g5, g6, g7, g8, hs]
      refine gall_fresh [q2, c, q8, k1, k2] (by simp [H2, Hc, H8, K1, K2]) fun q10 f10 => ?_
      simp [frF] at f10
      simp [h2, H2, h7, h8, H8, h9, Hc, K1, K2, fc2, n28, nc8, g2, g3, g4, g5, g6, g7, g8, hs, f10]
      refine TWcH.loop [] (fun m' st => ∃ (k q8 q10 : Nat) (all : List (List Rx)) (row : List Int), k + m' = ps.length ∧ row.length = k ∧ s < all.length ∧ all.length ≤ 40 ∧ VV v0.length all ∧ (¬ q10 = k2 ∧ ¬ k2 = q10) ∧ st.σ 2 = .pd q2 0 0 0 ∧ st.H q2 = some (.box 29 [.val (.slice none 0 0), .val (.slice none 0 0), .val (.slice none 0 0)]) ∧ st.σ 7 = .pd c 0 0 0 ∧ st.σ 8 = .hd q8 ∧ st.H q8 = some (.own 35 (all.map encV)) ∧ st.σ 9 = .val (.int .i64 s) ∧ st.σ 10 = .hd q10 ∧ st.H q10 = some (.own 3 (row.map encIn)) ∧ st.σ 11 = .val (.int .i64 k) ∧ st.H c = some (.box 29 [.ro (ps.map encP), .hd k1, .hd k2]) ∧
        st.H k1 = some (.own 27 (rows.map oR)) ∧ st.H k2 = some (.own 3 (acc.map encIn))) ps.length ⟨0, q8, q10, all, [], by simp, rfl, hs, ha40, hvv, by simp [f10], by simp [h2, H2, h7, h8, H8, h9, Hc, K1, K2, fc2, n28, nc8, g2, g3, g4, g5, g6, g7, g8, hs, f10]⟩ ?_
      clear h2 H2 h7 h8 H8 h9 Hc K1 K2 f10 hvv hs ha40 ha1 hsa n28 nc8 g2 g6 q10 q8
      clear all
      clear σ H
      rintro m' ⟨σ, H⟩ ⟨k, q8, q10, all, row, hkm, hrk, hs, ha40, hvv, f10, h2, H2, h7, h8, H8, h9, h10, H10, h11, Hc, K1, K2⟩
      simp only at h2 H2 h7 h8 H8 h9 h10 H10 h11 Hc K1 K2
      have n28 := ne_of H2 H8 (by simp)
      have nc8 := ne_of Hc H8 (by simp)
      have g2 := ne_of K1 H8 (by simp)
      have g6 := ne_of K2 H8 (by simp)
      have n1 := ne_of H10 H8 (by simp)
      have n2 := ne_of H10 H2 (by simp)
      have n3 := ne_of H10 Hc (by simp)
      have n4 := ne_of H10 K1 (by simp)
      by_cases hk : k < ps.length
      case neg =>
        simp [h2, H2, h7, h8, H8, h9, h10, H10, h11, Hc, K1, K2, fc2, n28, nc8, g2, g3, g4, g5, g6, g7, g8, f10, n1, n2, n3, n4, hs, hk]
        obtain ⟨w, hwv⟩ : ∃ w, ∀ h, all[s]'h = w := ⟨all[s], fun _ => rfl⟩
        have hw1 := hvv w (by rw [← hwv hs]; exact List.getElem_mem hs)
        have hwo : VOk w := ⟨by omega, fun y hy => ⟨(hw1.2 y hy).1, by have := (hw1.2 y hy).2; omega⟩⟩
        have tac := tc_l7Acc w hwo
        generalize accX w = B at tac
        have k3b : (rows.length + 1) * 24 ≤ 140737488355328 := by omega
        have k4b : rows.length ≤ 9223372036854775806 := by omega
        have k5b : (acc.length + 1) * 8 ≤ 140737488355328 := by omega
        have k6b : acc.length ≤ 9223372036854775806 := by omega
        refine gall_fresh [q2, c, q8, k1, k2, q10] (by simp [H2, Hc, H8, K1, K2, H10]) fun i1 fi1 => ?_
        simp [frF] at fi1
        simp [-List.map_append, h2, H2, h7, h8, H8, h9, h10, H10, h11, Hc, K1, K2, fc2, n28, nc8, g2, g3, g4, g5, g6, g7, g8, f10, n1, n2, n3, n4, hs, hk, fi1, k3b, k4b]
        refine gall_fresh [q2, c, q8, k2, q10] (by simp [h2, H2, h7, h8, H8, h9, h10, H10, h11, Hc, K1, K2, fc2, n28, nc8, g2, g3, g4, g5, g6, g7, g8, f10, n1, n2, n3, n4, hs, hk, fi1, delo, del]) fun i2 fi2 => ?_
        simp [frF] at fi2
        simp [-List.map_append, h2, H2, h7, h8, H8, h9, h10, H10, h11, Hc, K1, K2, fc2, n28, nc8, g2, g3, g4, g5, g6, g7, g8, f10, n1, n2, n3, n4, hs, hk, fi1, fi2, delo, del]
        refine TWcH.regionD (ρ := []) [0, 1, 2, 3, 4, 5, 6, 7, 8, 9, 10] 10 mixed (by kernel_rfl) ?_
        simp [-List.map_append, h2, H2, h7, h8, H8, h9, h10, H10, h11, Hc, K1, K2, fc2, n28, nc8, g2, g3, g4, g5, g6, g7, g8, f10, n1, n2, n3, n4, hs, hk, fi1, fi2, delo, del, hwv, encV]
        refine TWqH.callV tac callable_144 (by simp) (by simp) (by simp) (by simp) ?_
        simp [-List.map_append, h2, H2, h7, h8, H8, h9, h10, H10, h11, Hc, K1, K2, fc2, n28, nc8, g2, g3, g4, g5, g6, g7, g8, f10, n1, n2, n3, n4, hs, hk, fi1, fi2, delo, del]
        refine gall_fresh [q2, c, q8, k2, q10, i2] (by simp [h2, H2, h7, h8, H8, h9, h10, H10, h11, Hc, K1, K2, fc2, n28, nc8, g2, g3, g4, g5, g6, g7, g8, f10, n1, n2, n3, n4, hs, hk, fi1, fi2, delo, del]) fun i3 fi3 => ?_
        simp [frF] at fi3
        simp [-List.map_append, h2, H2, h7, h8, H8, h9, h10, H10, h11, Hc, K1, K2, fc2, n28, nc8, g2, g3, g4, g5, g6, g7, g8, f10, n1, n2, n3, n4, hs, hk, fi1, fi2, fi3, delo, del, k5b, k6b]
        refine gall_fresh [q2, c, q8, q10, i2] (by simp [h2, H2, h7, h8, H8, h9, h10, H10, h11, Hc, K1, K2, fc2, n28, nc8, g2, g3, g4, g5, g6, g7, g8, f10, n1, n2, n3, n4, hs, hk, fi1, fi2, fi3, delo, del]) fun i4 fi4 => ?_
        simp [frF] at fi4
        simp [-List.map_append, h2, H2, h7, h8, H8, h9, h10, H10, h11, Hc, K1, K2, fc2, n28, nc8, g2, g3, g4, g5, g6, g7, g8, f10, n1, n2, n3, n4, hs, hk, fi1, fi2, fi3, fi4, delo, del, hw]
        have hrr2 : ∀ r ∈ rows ++ [row], r.length = ps.length := by
          intro r hr
          rcases List.mem_append.1 hr with h | h
          · exact hrr r h
          · simp only [List.mem_singleton] at h; subst h; omega
        refine ⟨m - 1, by omega, s + 1, by omega, q8, all, by omega, by omega, ha40, hvv, rows ++ [row], by simp; omega, acc ++ [B], by simp; omega, hrr2, by simp [-List.map_append, h2, H2, h7, h8, H8, h9, h10, H10, h11, Hc, K1, K2, fc2, n28, nc8, g2, g3, g4, g5, g6, g7, g8, f10, n1, n2, n3, n4, hs, hk, fi1, fi2, fi3, fi4, delo, del], ?_⟩
        simp [-List.map_append, h2, H2, h7, h8, H8, h9, h10, H10, h11, Hc, K1, K2, fc2, n28, nc8, g2, g3, g4, g5, g6, g7, g8, f10, n1, n2, n3, n4, hs, hk, fi1, fi2, fi3, fi4, delo, del]
        exact ⟨i2, i4, ⟨rfl, rfl⟩, q10, row, rows, ⟨rfl, rfl⟩, by simp [-List.map_append, h2, H2, h7, h8, H8, h9, h10, H10, h11, Hc, K1, K2, fc2, n28, nc8, g2, g3, g4, g5, g6, g7, g8, f10, n1, n2, n3, n4, hs, hk, fi1, fi2, fi3, fi4, delo, del]; try simp [encIn]⟩
      have hwk : IntKind.i64.wrap ((k : Int) + 1) = k + 1 := wrapi (by omega)
      obtain ⟨p, hp⟩ : ∃ p, ∀ h, ps[k]'h = p := ⟨ps[k], fun _ => rfl⟩
      have hpp : setOk p = true := by rw [← hp hk]; exact hpo _ (List.getElem_mem hk)
      have hpl := setOk_len hpp
      obtain ⟨u, hu⟩ : ∃ u, ∀ h, all[s]'h = u := ⟨all[s], fun _ => rfl⟩
      have huv : u.length = v0.length ∧ ∀ x ∈ u, x.ok ∧ x.sz ≤ 140 := by rw [← hu hs]; exact hvv _ (List.getElem_mem hs)
      have hxv : VOk (vecX u (firstS p)) := by
        refine ⟨by simp [vecX]; omega, fun x h => ?_⟩
        obtain ⟨y, hy, rfl⟩ := List.mem_map.1 h
        have h1 := huv.2 y hy
        have h2 := byX_ok (firstS p) h1.1
        have h3 : y.sz * y.sz ≤ 140 * 140 := Nat.mul_le_mul h1.2 h1.2
        exact ⟨h2.1, by omega⟩
      have hxl : (vecX u (firstS p)).length = v0.length := by simp [vecX]; omega
      have tv := tc_l7VecR u (firstS p) (by omega) huv.2
      generalize vecX u (firstS p) = x at tv hxv hxl
      have hall : ∀ w ∈ all, w.length = x.length ∧ VOk w := fun w hw => ⟨by have := (hvv w hw).1; omega, by have := (hvv w hw).1; omega, fun y hy => ⟨((hvv w hw).2 y hy).1, by have := ((hvv w hw).2 y hy).2; omega⟩⟩
      have ta := tc_l7At all x hxv hall (by omega)
      have ha : atX all x < all.length := by
        unfold atX
        split
        · rename_i i hi
          have := (List.findIdx?_eq_some_iff_getElem.1 hi).1
          omega
        · omega
      have tg := tc_l7Gone x hxv
      have tb := tc_l7Big x hxv
      generalize atX all x = A at ta ha
      simp [h2, H2, h7, h8, H8, h9, h10, H10, h11, Hc, K1, K2, fc2, n28, nc8, g2, g3, g4, g5, g6, g7, g8, f10, n1, n2, n3, n4, hs, hk, hp, hu, encP]
      refine TWcH.regionD (ρ := []) [0, 1, 2, 3, 4, 5, 6, 7, 8, 9, 10, 11] 12 mixed (by kernel_rfl) ?_
      simp [h2, H2, h7, h8, H8, h9, h10, H10, h11, Hc, K1, K2, fc2, n28, nc8, g2, g3, g4, g5, g6, g7, g8, f10, n1, n2, n3, n4, hs, hk, hp, hu, encP, encV]
      refine TWqH.callV (tc_sSetFirst p (by omega)) callable_111 (by simp) (by simp) (by simp) (by simp) ?_
      simp [h2, H2, h7, h8, H8, h9, h10, H10, h11, Hc, K1, K2, fc2, n28, nc8, g2, g3, g4, g5, g6, g7, g8, f10, n1, n2, n3, n4, hs, hk, hp, hu, encP, encV]
      refine TWqH.callV tv callable_140 (by simp) (by simp) (by simp) (by simp) ?_
      simp [h2, H2, h7, h8, H8, h9, h10, H10, h11, Hc, K1, K2, fc2, n28, nc8, g2, g3, g4, g5, g6, g7, g8, f10, n1, n2, n3, n4, hs, hk, hp, hu]
      refine TWoH.callV ta callable_141 (by simp [h2, H2, h7, h8, H8, h9, h10, H10, h11, Hc, K1, K2, fc2, n28, nc8, g2, g3, g4, g5, g6, g7, g8, f10, n1, n2, n3, n4, hs, hk, hp, hu]) (by simp) (by simp) (by simp) ?_
      have k1b : (row.length + 1) * 8 ≤ 140737488355328 := by omega
      have k2b : row.length ≤ 9223372036854775806 := by omega
      by_cases cA : A < 0
      · simp [h2, H2, h7, h8, H8, h9, h10, H10, h11, Hc, K1, K2, fc2, n28, nc8, g2, g3, g4, g5, g6, g7, g8, f10, n1, n2, n3, n4, hs, hk, hp, hu, cA]
        refine TWoH.callV tg callable_142 (by simp) (by simp) (by simp) (by simp) ?_
        by_cases cg : goneX x = true
        · simp [h2, H2, h7, h8, H8, h9, h10, H10, h11, Hc, K1, K2, fc2, n28, nc8, g2, g3, g4, g5, g6, g7, g8, f10, n1, n2, n3, n4, hs, hk, hp, hu, cA, cg]
          refine TWoH.callV tg callable_142 (by simp) (by simp) (by simp) (by simp) ?_
          simp [h2, H2, h7, h8, H8, h9, h10, H10, h11, Hc, K1, K2, fc2, n28, nc8, g2, g3, g4, g5, g6, g7, g8, f10, n1, n2, n3, n4, hs, hk, hp, hu, cA, cg]
          refine gall_fresh [q2, c, k1, k2, q8, q10] (by simp [H2, Hc, K1, K2, H8, H10]) fun j fj => ?_
          simp [frF] at fj
          simp [-List.map_append, h2, H2, h7, h8, H8, h9, h10, H10, h11, Hc, K1, K2, fc2, n28, nc8, g2, g3, g4, g5, g6, g7, g8, f10, n1, n2, n3, n4, hs, hk, hp, hu, cA, cg, fj, k1b, k2b]
          refine gall_fresh [q2, c, k1, k2, q8] (by simp [h2, H2, h7, h8, H8, h9, h10, H10, h11, Hc, K1, K2, fc2, n28, nc8, g2, g3, g4, g5, g6, g7, g8, f10, n1, n2, n3, n4, hs, hk, hp, hu, fj, delo, del]) fun j2 fj2 => ?_
          simp [frF] at fj2
          simp [-List.map_append, h2, H2, h7, h8, H8, h9, h10, H10, h11, Hc, K1, K2, fc2, n28, nc8, g2, g3, g4, g5, g6, g7, g8, f10, n1, n2, n3, n4, hs, hk, hp, hu, cA, cg, fj, fj2, hwk, delo, del]
          exact ⟨m' - 1, by omega, k + 1, by omega, q8, j2, all, row ++ [-1], by simp; omega, hs, ha40, hvv, by simp [fj2], by simp [-List.map_append, h2, H2, h7, h8, H8, h9, h10, H10, h11, Hc, K1, K2, fc2, n28, nc8, g2, g3, g4, g5, g6, g7, g8, f10, n1, n2, n3, n4, hs, hk, hp, hu, fj, fj2]; simp [encIn]⟩
        · simp [h2, H2, h7, h8, H8, h9, h10, H10, h11, Hc, K1, K2, fc2, n28, nc8, g2, g3, g4, g5, g6, g7, g8, f10, n1, n2, n3, n4, hs, hk, hp, hu, cA, cg]
          by_cases c40 : 40 ≤ all.length
          · have c40' : (40 : Int) ≤ all.length := by omega
            simp [h2, H2, h7, h8, H8, h9, h10, H10, h11, Hc, K1, K2, fc2, n28, nc8, g2, g3, g4, g5, g6, g7, g8, f10, n1, n2, n3, n4, hs, hk, hp, hu, cA, cg, c40']
            exact ⟨rfl, .inr rfl⟩
          have c40' : ¬ (40 : Int) ≤ all.length := by omega
          simp [h2, H2, h7, h8, H8, h9, h10, H10, h11, Hc, K1, K2, fc2, n28, nc8, g2, g3, g4, g5, g6, g7, g8, f10, n1, n2, n3, n4, hs, hk, hp, hu, cA, cg, c40']
          refine TWoH.callV tb callable_143 (by simp) (by simp) (by simp) (by simp) ?_
          by_cases cb : bigX x = true
          · simp [h2, H2, h7, h8, H8, h9, h10, H10, h11, Hc, K1, K2, fc2, n28, nc8, g2, g3, g4, g5, g6, g7, g8, f10, n1, n2, n3, n4, hs, hk, hp, hu, cA, cg, cb]
            exact ⟨rfl, .inr rfl⟩
          have hx120 : ∀ y ∈ x, y.ok ∧ y.sz ≤ 140 := by
            intro y hy
            refine ⟨(hxv.2 y hy).1, ?_⟩
            have h1 : bigX x = false := by simpa using cb
            have h2 := List.any_eq_false.1 h1 y hy
            simp only [decide_eq_true_eq] at h2
            omega
          have k3b : (all.length + 1) * 24 ≤ 140737488355328 := by omega
          have k4b : all.length ≤ 9223372036854775806 := by omega
          simp [-List.map_append, h2, H2, h7, h8, H8, h9, h10, H10, h11, Hc, K1, K2, fc2, n28, nc8, g2, g3, g4, g5, g6, g7, g8, f10, n1, n2, n3, n4, hs, hk, hp, hu, cA, cg, cb]
          refine gall_fresh [q2, c, k1, k2, q8, q10] (by simp [H2, Hc, K1, K2, H8, H10]) fun i1 fi1 => ?_
          simp [frF] at fi1
          simp [-List.map_append, h2, H2, h7, h8, H8, h9, h10, H10, h11, Hc, K1, K2, fc2, n28, nc8, g2, g3, g4, g5, g6, g7, g8, f10, n1, n2, n3, n4, hs, hk, hp, hu, cA, cg, cb, fi1, k3b, k4b]
          refine gall_fresh [q2, c, k1, k2, q10] (by simp [h2, H2, h7, h8, H8, h9, h10, H10, h11, Hc, K1, K2, fc2, n28, nc8, g2, g3, g4, g5, g6, g7, g8, f10, n1, n2, n3, n4, hs, hk, hp, hu, fi1, delo, del]) fun i2 fi2 => ?_
          simp [frF] at fi2
          simp [-List.map_append, h2, H2, h7, h8, H8, h9, h10, H10, h11, Hc, K1, K2, fc2, n28, nc8, g2, g3, g4, g5, g6, g7, g8, f10, n1, n2, n3, n4, hs, hk, hp, hu, cA, cg, cb, fi1, fi2, delo, del]
          refine TWoH.callV tg callable_142 (by simp) (by simp) (by simp) (by simp) ?_
          simp [-List.map_append, h2, H2, h7, h8, H8, h9, h10, H10, h11, Hc, K1, K2, fc2, n28, nc8, g2, g3, g4, g5, g6, g7, g8, f10, n1, n2, n3, n4, hs, hk, hp, hu, cA, cg, cb, fi1, fi2, delo, del]
          refine gall_fresh [q2, c, k1, k2, i2, q10] (by simp [h2, H2, h7, h8, H8, h9, h10, H10, h11, Hc, K1, K2, fc2, n28, nc8, g2, g3, g4, g5, g6, g7, g8, f10, n1, n2, n3, n4, hs, hk, hp, hu, fi1, fi2, delo, del]) fun j fj => ?_
          simp [frF] at fj
          simp [-List.map_append, h2, H2, h7, h8, H8, h9, h10, H10, h11, Hc, K1, K2, fc2, n28, nc8, g2, g3, g4, g5, g6, g7, g8, f10, n1, n2, n3, n4, hs, hk, hp, hu, cA, cg, cb, fi1, fi2, fj, k1b, k2b, delo, del]
          refine gall_fresh [q2, c, k1, k2, i2] (by simp [h2, H2, h7, h8, H8, h9, h10, H10, h11, Hc, K1, K2, fc2, n28, nc8, g2, g3, g4, g5, g6, g7, g8, f10, n1, n2, n3, n4, hs, hk, hp, hu, fi1, fi2, fj, delo, del]) fun j2 fj2 => ?_
          simp [frF] at fj2
          simp [-List.map_append, h2, H2, h7, h8, H8, h9, h10, H10, h11, Hc, K1, K2, fc2, n28, nc8, g2, g3, g4, g5, g6, g7, g8, f10, n1, n2, n3, n4, hs, hk, hp, hu, cA, cg, cb, fi1, fi2, fj, fj2, hwk, delo, del]
          have hvx : VV v0.length (all ++ [x]) := by
            intro w hw
            rcases List.mem_append.1 hw with h | h
            · exact hvv w h
            · simp only [List.mem_singleton] at h
              subst h
              exact ⟨hxl, hx120⟩
          exact ⟨m' - 1, by omega, k + 1, by omega, i2, j2, all ++ [x], row ++ [(all.length : Int)], by simp; omega, by simp; omega, by simp; omega, hvx, by simp [fj2], by simp [-List.map_append, h2, H2, h7, h8, H8, h9, h10, H10, h11, Hc, K1, K2, fc2, n28, nc8, g2, g3, g4, g5, g6, g7, g8, f10, n1, n2, n3, n4, hs, hk, hp, hu, fi1, fi2, fj, fj2]; simp [encIn, encV]⟩
      · simp [h2, H2, h7, h8, H8, h9, h10, H10, h11, Hc, K1, K2, fc2, n28, nc8, g2, g3, g4, g5, g6, g7, g8, f10, n1, n2, n3, n4, hs, hk, hp, hu, cA]
        refine TWoH.callV tg callable_142 (by simp) (by simp) (by simp) (by simp) ?_
        by_cases cg : goneX x = true
        · simp [h2, H2, h7, h8, H8, h9, h10, H10, h11, Hc, K1, K2, fc2, n28, nc8, g2, g3, g4, g5, g6, g7, g8, f10, n1, n2, n3, n4, hs, hk, hp, hu, cA, cg]
          refine gall_fresh [q2, c, k1, k2, q8, q10] (by simp [H2, Hc, K1, K2, H8, H10]) fun j fj => ?_
          simp [frF] at fj
          simp [-List.map_append, h2, H2, h7, h8, H8, h9, h10, H10, h11, Hc, K1, K2, fc2, n28, nc8, g2, g3, g4, g5, g6, g7, g8, f10, n1, n2, n3, n4, hs, hk, hp, hu, cA, cg, fj, k1b, k2b]
          refine gall_fresh [q2, c, k1, k2, q8] (by simp [h2, H2, h7, h8, H8, h9, h10, H10, h11, Hc, K1, K2, fc2, n28, nc8, g2, g3, g4, g5, g6, g7, g8, f10, n1, n2, n3, n4, hs, hk, hp, hu, fj, delo, del]) fun j2 fj2 => ?_
          simp [frF] at fj2
          simp [-List.map_append, h2, H2, h7, h8, H8, h9, h10, H10, h11, Hc, K1, K2, fc2, n28, nc8, g2, g3, g4, g5, g6, g7, g8, f10, n1, n2, n3, n4, hs, hk, hp, hu, cA, cg, fj, fj2, hwk, delo, del]
          exact ⟨m' - 1, by omega, k + 1, by omega, q8, j2, all, row ++ [-1], by simp; omega, hs, ha40, hvv, by simp [fj2], by simp [-List.map_append, h2, H2, h7, h8, H8, h9, h10, H10, h11, Hc, K1, K2, fc2, n28, nc8, g2, g3, g4, g5, g6, g7, g8, f10, n1, n2, n3, n4, hs, hk, hp, hu, fj, fj2]; simp [encIn]⟩
        · simp [h2, H2, h7, h8, H8, h9, h10, H10, h11, Hc, K1, K2, fc2, n28, nc8, g2, g3, g4, g5, g6, g7, g8, f10, n1, n2, n3, n4, hs, hk, hp, hu, cA, cg]
          refine gall_fresh [q2, c, k1, k2, q8, q10] (by simp [H2, Hc, K1, K2, H8, H10]) fun j fj => ?_
          simp [frF] at fj
          simp [-List.map_append, h2, H2, h7, h8, H8, h9, h10, H10, h11, Hc, K1, K2, fc2, n28, nc8, g2, g3, g4, g5, g6, g7, g8, f10, n1, n2, n3, n4, hs, hk, hp, hu, cA, cg, fj, k1b, k2b]
          refine gall_fresh [q2, c, k1, k2, q8] (by simp [h2, H2, h7, h8, H8, h9, h10, H10, h11, Hc, K1, K2, fc2, n28, nc8, g2, g3, g4, g5, g6, g7, g8, f10, n1, n2, n3, n4, hs, hk, hp, hu, fj, delo, del]) fun j2 fj2 => ?_
          simp [frF] at fj2
          simp [-List.map_append, h2, H2, h7, h8, H8, h9, h10, H10, h11, Hc, K1, K2, fc2, n28, nc8, g2, g3, g4, g5, g6, g7, g8, f10, n1, n2, n3, n4, hs, hk, hp, hu, cA, cg, fj, fj2, hwk, delo, del]
          exact ⟨m' - 1, by omega, k + 1, by omega, q8, j2, all, row ++ [A], by simp; omega, hs, ha40, hvv, by simp [fj2], by simp [-List.map_append, h2, H2, h7, h8, H8, h9, h10, H10, h11, Hc, K1, K2, fc2, n28, nc8, g2, g3, g4, g5, g6, g7, g8, f10, n1, n2, n3, n4, hs, hk, hp, hu, fj, fj2]; simp [encIn]⟩
end Go.Proofs.YtdomnlnanbekaaaGreatDoor.R

open Go Go.Proofs.YtdomnlnanbekaaaGreatDoor.T
namespace Go.Proofs.YtdomnlnanbekaaaGreatDoor.R
set_option maxHeartbeats 8000000
set_option maxRecDepth 100000
set_option linter.unusedSimpArgs false
set_option linter.unusedVariables false
attribute [local simp] bsV bsRows chunk fillT partsT appV makeV rowsOf cellsOf placeOf frzT frz1
theorem rules_rx {l : List Rule} (h : rulesOk l = true) : ∃ xs : List Rx, l.map Rule.rex = xs.map Rx.rex ∧ xs.length ≤ 5 ∧ ∀ x ∈ xs, x.ok ∧ x.sz ≤ 24 := by
  have h5 : l.length ≤ 5 := by simp only [rulesOk, Bool.and_eq_true, decide_eq_true_eq] at h; exact h.1.2
  have he : ∀ r ∈ l, ∃ x : Rx, x.rex = r.rex ∧ x.ok ∧ x.sz ≤ 24 := by
    intro r hr
    obtain ⟨i, hi, rfl⟩ := List.getElem_of_mem hr
    have hx := rulesOk_rex h hi
    simp only [rexOk, Bool.and_eq_true, decide_eq_true_eq] at hx
    obtain ⟨x, hx1, hx2⟩ := formF_rx 8 _ hx.1
    refine ⟨x, hx1, hx2, ?_⟩
    have := hx.2
    rw [← hx1, manyN_rex] at this
    omega
  clear h
  have : ∃ xs : List Rx, l.map Rule.rex = xs.map Rx.rex ∧ ∀ x ∈ xs, x.ok ∧ x.sz ≤ 24 := by
    clear h5
    induction l with
    | nil => exact ⟨[], rfl, by simp⟩
    | cons r l ih =>
      obtain ⟨xs, h1, h2⟩ := ih fun r hr => he r (by simp [hr])
      obtain ⟨x, h3, h4⟩ := he r (by simp)
      refine ⟨x :: xs, by simp [h1, h3], fun y hy => ?_⟩
      rcases List.mem_cons.1 hy with e | e
      · subst e; exact h4
      · exact h2 y e
  obtain ⟨xs, h1, h2⟩ := this
  exact ⟨xs, h1, by have := congrArg List.length h1; simp at this; omega, h2⟩
theorem tcr_DfaOf (l : List Rule) (hs : RSm l) : TCR Tryz.prog 14 [.ro (l.map encRule)] [] OfR := by
  refine TCR.enter Tryz.func14 rfl (by simp [Tryz.ntmps14]) rfl (tw_sound (ρ := []) ?_)
  rw [Tryz.ntmps14]
  simp
  refine gall_intro fun q2 g2 => ?_
  simp
  refine TWoH.callV (tc_sRulesOk l hs) callable_67 (by simp) (by simp) (by simp) (by simp) ?_
  by_cases c : rulesOk l = true
  · obtain ⟨xs, h1, h2, h3⟩ := rules_rx c
    simp [c]
    refine TWoH.callR (tcr_l7Of l xs h1 h2 h3) callable_68 (by simp) ?_
    rintro r o ⟨rfl, ⟨d, hd, rfl⟩ | rfl⟩
    · refine ⟨rfl, by simp, .inl (by simp), fun k hk => ?_⟩
      have hlt : q2 < k := Nat.lt_of_not_le fun h => by have := hk q2 h; simp at this
      have a1 : ¬ k = q2 := by omega
      have a2 : ¬ q2 = k := by omega
      have a3 : ¬ k + 1 = q2 := by omega
      have a4 : ¬ q2 = k + 1 := by omega
      clear hk hlt
      simp [a1, a2, a3, a4]
      exact ⟨rfl, .inl ⟨d, hd, rfl⟩⟩
    · refine ⟨rfl, by simp, .inl (by simp), fun k hk => ?_⟩
      clear hk
      simp
      exact ⟨rfl, .inr rfl⟩
  · simp [c]
    exact ⟨rfl, .inr rfl⟩
end Go.Proofs.YtdomnlnanbekaaaGreatDoor.R

open Go Go.Proofs.YtdomnlnanbekaaaGreatDoor.T
namespace Go.Proofs.YtdomnlnanbekaaaGreatDoor.R
set_option maxHeartbeats 8000000
set_option maxRecDepth 100000
set_option linter.unusedSimpArgs false
set_option linter.unusedVariables false
attribute [local simp] bsV bsRows chunk fillT partsT appV makeV rowsOf cellsOf placeOf frzT frz1
structure GW (d : Dfa) : Prop where
  rows : 1 ≤ d.rows.length ∧ d.rows.length ≤ 40
  acc : d.acc.length = d.rows.length
  parts : 1 ≤ d.parts.length ∧ d.parts.length ≤ 65536
  part : ∀ x ∈ d.parts, x.length ≤ 256
  row : ∀ r ∈ d.rows, 1 ≤ r.length ∧ r.length ≤ 65536
theorem GD.weak {d : Dfa} (h : GD d) : GW d := ⟨h.rows, h.acc, h.parts, h.part, fun r hr => by rw [h.row r hr]; exact h.parts⟩
def macO (d : Dfa) : TV := .agg [.ro (d.parts.map encP), .own 27 (d.rows.map oR), .own 3 (d.acc.map encIn)]
theorem over {H : Nat → Option TV} {q k : Nat} {t : TV} (hk : ∀ j, k ≤ j → H j = none) (h : H q = some t) : q < k := Nat.lt_of_not_le fun e => by rw [hk q e] at h; cases h
theorem rsm_names {l : List Rule} (hl : ∀ x ∈ l, Sm x.rex ∧ x.name ∈ RN) (h4 : l.length ≤ 4) : RSm l := ⟨by omega, fun r hr => ⟨(hl r hr).1, by have := (hl r hr).2; simp [RN] at this; rcases this with h | h | h | h | h <;> rw [h] <;> simp⟩⟩
end Go.Proofs.YtdomnlnanbekaaaGreatDoor.R
