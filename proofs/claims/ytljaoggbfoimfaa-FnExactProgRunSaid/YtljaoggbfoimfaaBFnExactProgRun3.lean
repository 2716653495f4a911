/- FnExactProgRun, part 4 of 4: the functions that it reaches as plain Lean functions, that the program's functions compute them, and what they come to. Conditions: stated at each theorem. -/
import Derived.Test.YtljaoggbfoimfaaRows
import Derived.WalkKit
import Derived.ProofKit
import Derived.OpenShut
import Derived.ShutString
import Derived.ChangeOld
import Derived.Below
import Derived.SizedLaws
import Derived.Carry
import Derived.Test.YtljaoggbfoimfaaBFnExactProgRun0
import Derived.Test.YtljaoggbfoimfaaBFnExactProgRun1
import Derived.Test.YtljaoggbfoimfaaBFnExactProgRun2
/- The functions of the seat as plain Lean functions, and that the program's functions compute them. Conditions: stated at each theorem. -/
namespace Go.Proofs.Ytljaoggbfoimfaa.P
open Go.RowKit Go.Proofs.YtljaoggbfoimfaaW.PrintWords Go.Proofs.YtljaoggbfoimfaaW.PrintLast Go.Proofs.YtljaoggbfoimfaaW.PrintMore
attribute [local go_sem] max2_int min2_int max_two min_two max_three min_three max_four min_four   -- for this text's walks alone
set_option linter.unusedVariables false
set_option linter.unusedSimpArgs false

attribute [local go_sem high] eqA71
/-! ### spec_LexSame: function 17 -/
def spec_LexSame.l0 : Nat → List (S71) → List (S71) → Int → Option (Bool)
  | 0, _, _, _ => none
  | k + 1, x0, x1, x5 => if x5 < (x0.length : Int) then (if 0 ≤ x5 then (if x5 < (x1.length : Int) then (if (!(((rd_T71 x0 x5).f0) == ((rd_T71 x1 x5).f0)) || (!(((rd_T71 x0 x5).f1) == ((rd_T71 x1 x5).f1)) || (!(((rd_T71 x0 x5).f2) == ((rd_T71 x1 x5).f2))))) = true then (some false) else (spec_LexSame.l0 k x0 x1 (wrap64 (x5 + 1)))) else (none)) else (none)) else (some true)
def spec_LexSame.f (k : Nat) (l0 : List (S71)) (l1 : List (S71)) : Option (Bool) := if (l0.length : Int) = (l1.length : Int) then (spec_LexSame.l0 k l0 l1 0) else (some false)
theorem spec_LexSame.mono_l : ∀ k, (∀ y0 y1 y2, LeO (spec_LexSame.l0 k y0 y1 y2) (spec_LexSame.l0 (k + 1) y0 y1 y2))
  | 0 => fun _ _ _ r h => by simp [spec_LexSame.l0] at h
  | k + 1 => by
    have ih0 := spec_LexSame.mono_l k
    · intro y0 y1 y2
      unfold spec_LexSame.l0
      repeat' first
      | (with_reducible exact ih0 _ _ _)
      | (with_reducible exact LeO.refl _)
      | (with_reducible exact LeO.none _)
      | (with_reducible refine LeO.ite ?_ ?_)
      | (with_reducible refine LeO.bind ?_ (fun _ => ?_))
      | exact ih0 _ _ _
      | exact LeO.none _
      | refine LeO.ite ?_ ?_
      | refine LeO.bind ?_ (fun _ => ?_)
theorem spec_LexSame.mono : ∀ a0 a1 k, LeO (spec_LexSame.f k a0 a1) (spec_LexSame.f (k + 1) a0 a1) := by
  intro a0 a1 k
  have ih0 := spec_LexSame.mono_l k
  unfold spec_LexSame.f
  repeat' first
      | (with_reducible exact ih0 _ _ _)
      | (with_reducible exact LeO.refl _)
      | (with_reducible exact LeO.none _)
      | (with_reducible refine LeO.ite ?_ ?_)
      | (with_reducible refine LeO.bind ?_ (fun _ => ?_))
      | exact ih0 _ _ _
      | exact LeO.none _
      | refine LeO.ite ?_ ?_
      | refine LeO.bind ?_ (fun _ => ?_)
set_option maxHeartbeats 8000000 in
set_option maxRecDepth 100000 in
theorem spec_LexSame.calls (k : Nat) (A0 : Option Addr) (c0 : Nat) (l0 : List (S71)) (A1 : Option Addr) (c1 : Nat) (l1 : List (S71)) (r : Bool) (w : World) (hr0 : Kd.C k71 w A0 l0.length l0) (hc0 : l0.length ≤ c0) (hr1 : Kd.C k71 w A1 l1.length l1) (hc1 : l1.length ≤ c1) (h : spec_LexSame.f k l0 l1 = some r) :
    Calls Try.prog 17 #[.slice A0 l0.length c0, .slice A1 l1.length c1] w fun e w' => e = .returned (.bool r) ∧ Drawn0 w w' := by
  have hu71 := Try.underlying71
  have HR0 := Aside0.mk hr0
  have HC0 := Aside0.mk hc0
  clear hr0 hc0
  have HR1 := Aside0.mk hr1
  have HC1 := Aside0.mk hc1
  clear hr1 hc1
  have H : (if (l0.length : Int) = (l1.length : Int) then (spec_LexSame.l0 k l0 l1 0) else (some false)) = some r := h
  clear h
  by_cases c3 : (l0.length : Int) = (l1.length : Int)
  · rw [if_pos c3] at H
    have c3b0 : ((l0.length : Int) == (l1.length : Int)) = true := beq_iff_eq.mpr c3
    have c3b1 : ((l0.length : Int) != (l1.length : Int)) = false := bne_eq_false_iff_eq.mpr c3
    have c3b2 : (l0.length == l1.length) = true := by first | simpa using c3 | (simp at c3 ⊢; omega)
    clear c3
    have H' := Aside0.mk H
    clear H
    go_enter Try.func17, Try.ntmps17
    go_wp2
    repeat (go_quiet (fail); try go_wp2)
    go_loopg [5] k (fun kq v5 w' => ∃ (x5_1 : Int), v5 = .int .i64 x5_1 ∧ Aside0 (spec_LexSame.l0 kq l0 l1 x5_1 = some r) ∧ Aside0 (kq ≤ k) ∧ Drawn0 w w')
    case atStart => exact ⟨(0), (by first | rfl | (simp; done) | (simp [*]; done)), H', ⟨Nat.le_refl _⟩, by repeat (first | exact Drawn0.refl _ | apply Drawn0.step)⟩
    case round =>
      clear H'
      try clear c1
      try clear p2
      try clear c3
      try clear c3b0
      try clear c3b1
      try clear c3b2
      obtain ⟨x5_1, rfl, HA, HK1, ⟨m1, rfl⟩⟩ := hrel
      cases gk with
      | zero => exact absurd HA.out (by simp [spec_LexSame.l0])
      | succ k1 =>
        have H := HA.out
        clear HA
        simp only [spec_LexSame.l0] at H
        by_cases c4 : x5_1 < (l0.length : Int)
        · rw [if_pos c4] at H
          have c4b0 : decide (x5_1 < (l0.length : Int)) = true := decide_eq_true c4
          clear c4
          by_cases c5 : 0 ≤ x5_1
          · rw [if_pos c5] at H
            have c5b0 : decide (0 ≤ x5_1) = true := decide_eq_true c5
            clear c5
            by_cases c6 : x5_1 < (l1.length : Int)
            · rw [if_pos c6] at H
              have c6b0 : decide (x5_1 < (l1.length : Int)) = true := decide_eq_true c6
              clear c6
              by_cases c7 : (!(((rd_T71 l0 x5_1).f0) == ((rd_T71 l1 x5_1).f0)) || (!(((rd_T71 l0 x5_1).f1) == ((rd_T71 l1 x5_1).f1)) || (!(((rd_T71 l0 x5_1).f2) == ((rd_T71 l1 x5_1).f2))))) = true
              · rw [if_pos c7] at H
                have c7b0 : (!(((rd_T71 l0 x5_1).f0) == ((rd_T71 l1 x5_1).f0)) || (!(((rd_T71 l0 x5_1).f1) == ((rd_T71 l1 x5_1).f1)) || (!(((rd_T71 l0 x5_1).f2) == ((rd_T71 l1 x5_1).f2))))) = true := c7
                clear c7
                obtain rfl := Option.some.inj H
                have p105 : 0 ≤ (x5_1 : Int) := of_decide_eq_true (by first | (with_reducible assumption) | assumption)
                have q105 : x5_1 < (l0.length : Int) := of_decide_eq_true (by first | (with_reducible assumption) | assumption)
                obtain ⟨ad105, e105, hx105_0, hx105_1, hx105_2⟩ := at_T71 HR0.out x5_1 p105 q105
                cases e105
                replace p105 := eq_true p105
                replace q105 := eq_true q105
                have p106 : 0 ≤ (x5_1 : Int) := of_decide_eq_true (by first | (with_reducible assumption) | assumption)
                have q106 : x5_1 < (l1.length : Int) := of_decide_eq_true (by first | (with_reducible assumption) | assumption)
                obtain ⟨ad106, e106, hx106_0, hx106_1, hx106_2⟩ := at_T71 HR1.out x5_1 p106 q106
                cases e106
                replace p106 := eq_true p106
                replace q106 := eq_true q106
                go_wp2
                repeat (go_quiet (fail); try go_wp2)
                go_ret
                exact ⟨by first | rfl | (simp; done) | (simp [*]; done), by repeat (first | exact Drawn0.refl _ | apply Drawn0.step)⟩
              · rw [if_neg c7] at H
                have c7b0 : (!(((rd_T71 l0 x5_1).f0) == ((rd_T71 l1 x5_1).f0)) || (!(((rd_T71 l0 x5_1).f1) == ((rd_T71 l1 x5_1).f1)) || (!(((rd_T71 l0 x5_1).f2) == ((rd_T71 l1 x5_1).f2))))) = false := by simpa using c7
                clear c7
                have H' := Aside0.mk H
                clear H
                have p105 : 0 ≤ (x5_1 : Int) := of_decide_eq_true (by first | (with_reducible assumption) | assumption)
                have q105 : x5_1 < (l0.length : Int) := of_decide_eq_true (by first | (with_reducible assumption) | assumption)
                obtain ⟨ad105, e105, hx105_0, hx105_1, hx105_2⟩ := at_T71 HR0.out x5_1 p105 q105
                cases e105
                replace p105 := eq_true p105
                replace q105 := eq_true q105
                have p106 : 0 ≤ (x5_1 : Int) := of_decide_eq_true (by first | (with_reducible assumption) | assumption)
                have q106 : x5_1 < (l1.length : Int) := of_decide_eq_true (by first | (with_reducible assumption) | assumption)
                obtain ⟨ad106, e106, hx106_0, hx106_1, hx106_2⟩ := at_T71 HR1.out x5_1 p106 q106
                cases e106
                replace p106 := eq_true p106
                replace q106 := eq_true q106
                go_wp2
                repeat (go_quiet (fail); try go_wp2)
                go_roundg k1
                case measure => have := HK1.out; omega
                case rel => exact ⟨(wrap64 (x5_1 + 1)), (by first | rfl | (simp; done) | (simp [*]; done)), H', ⟨by have := HK1.out; omega⟩, by repeat (first | exact Drawn0.refl _ | apply Drawn0.step)⟩
            · rw [if_neg c6] at H
              exact absurd H (by simp)
          · rw [if_neg c5] at H
            exact absurd H (by simp)
        · rw [if_neg c4] at H
          have c4b0 : decide (x5_1 < (l0.length : Int)) = false := decide_eq_false c4
          clear c4
          obtain rfl := Option.some.inj H
          go_wp2
          repeat (go_quiet (fail); try go_wp2)
          go_ret
          exact ⟨by first | rfl | (simp; done) | (simp [*]; done), by repeat (first | exact Drawn0.refl _ | apply Drawn0.step)⟩
  · rw [if_neg c3] at H
    have c3b0 : ((l0.length : Int) == (l1.length : Int)) = false := beq_eq_false_iff_ne.mpr c3
    have c3b1 : ((l0.length : Int) != (l1.length : Int)) = true := bne_iff_ne.mpr c3
    have c3b2 : (l0.length == l1.length) = false := by first | simpa using c3 | (simp at c3 ⊢; omega)
    obtain rfl := Option.some.inj H
    go_enter Try.func17, Try.ntmps17
    go_wp2
    repeat (go_quiet (fail); try go_wp2)
    go_ret
    exact ⟨by first | rfl | (simp; done) | (simp [*]; done), by repeat (first | exact Drawn0.refl _ | apply Drawn0.step)⟩

end Go.Proofs.Ytljaoggbfoimfaa.P

/- The functions of the seat as plain Lean functions, and that the program's functions compute them. Conditions: stated at each theorem. -/
namespace Go.Proofs.Ytljaoggbfoimfaa.P
open Go.RowKit Go.Proofs.YtljaoggbfoimfaaW.PrintWords Go.Proofs.YtljaoggbfoimfaaW.PrintLast Go.Proofs.YtljaoggbfoimfaaW.PrintMore
attribute [local go_sem] max2_int min2_int max_two min_two max_three min_three max_four min_four   -- for this text's walks alone
set_option linter.unusedVariables false
set_option linter.unusedSimpArgs false

attribute [local go_sem high] eqA71
/-! ### impl_same_impl_Token: function 53 -/
def impl_same_impl_Token.l0 : Nat → List (S71) → List (S71) → Int → Int → Option (Bool)
  | 0, _, _, _, _ => none
  | k + 1, x0, x1, x12, x13 => if x13 < x12 then (if 0 ≤ x13 then (if x13 < (x0.length : Int) then (if x13 < (x1.length : Int) then (if (!(((rd_T71 x0 x13).f0) == ((rd_T71 x1 x13).f0)) || (!(((rd_T71 x0 x13).f1) == ((rd_T71 x1 x13).f1)) || (!(((rd_T71 x0 x13).f2) == ((rd_T71 x1 x13).f2))))) = true then (some false) else (impl_same_impl_Token.l0 k x0 x1 x12 (wrap64 (x13 + 1)))) else (none)) else (none)) else (none)) else (some true)
def impl_same_impl_Token.f (k : Nat) (l0 : List (S71)) (l1 : List (S71)) : Option (Bool) := if (l0.length : Int) = (l1.length : Int) then (impl_same_impl_Token.l0 k l0 l1 (l0.length : Int) 0) else (some false)
theorem impl_same_impl_Token.mono_l : ∀ k, (∀ y0 y1 y2 y3, LeO (impl_same_impl_Token.l0 k y0 y1 y2 y3) (impl_same_impl_Token.l0 (k + 1) y0 y1 y2 y3))
  | 0 => fun _ _ _ _ r h => by simp [impl_same_impl_Token.l0] at h
  | k + 1 => by
    have ih0 := impl_same_impl_Token.mono_l k
    · intro y0 y1 y2 y3
      unfold impl_same_impl_Token.l0
      repeat' first
      | (with_reducible exact ih0 _ _ _ _)
      | (with_reducible exact LeO.refl _)
      | (with_reducible exact LeO.none _)
      | (with_reducible refine LeO.ite ?_ ?_)
      | (with_reducible refine LeO.bind ?_ (fun _ => ?_))
      | exact ih0 _ _ _ _
      | exact LeO.none _
      | refine LeO.ite ?_ ?_
      | refine LeO.bind ?_ (fun _ => ?_)
theorem impl_same_impl_Token.mono : ∀ a0 a1 k, LeO (impl_same_impl_Token.f k a0 a1) (impl_same_impl_Token.f (k + 1) a0 a1) := by
  intro a0 a1 k
  have ih0 := impl_same_impl_Token.mono_l k
  unfold impl_same_impl_Token.f
  repeat' first
      | (with_reducible exact ih0 _ _ _ _)
      | (with_reducible exact LeO.refl _)
      | (with_reducible exact LeO.none _)
      | (with_reducible refine LeO.ite ?_ ?_)
      | (with_reducible refine LeO.bind ?_ (fun _ => ?_))
      | exact ih0 _ _ _ _
      | exact LeO.none _
      | refine LeO.ite ?_ ?_
      | refine LeO.bind ?_ (fun _ => ?_)
set_option maxHeartbeats 8000000 in
set_option maxRecDepth 100000 in
theorem impl_same_impl_Token.calls (k : Nat) (A0 : Option Addr) (c0 : Nat) (l0 : List (S71)) (A1 : Option Addr) (c1 : Nat) (l1 : List (S71)) (r : Bool) (w : World) (hr0 : Kd.C k71 w A0 l0.length l0) (hc0 : l0.length ≤ c0) (hr1 : Kd.C k71 w A1 l1.length l1) (hc1 : l1.length ≤ c1) (h : impl_same_impl_Token.f k l0 l1 = some r) :
    Calls Try.prog 53 #[.slice A0 l0.length c0, .slice A1 l1.length c1] w fun e w' => e = .returned (.bool r) ∧ Drawn0 w w' := by
  have hu71 := Try.underlying71
  have HR0 := Aside0.mk hr0
  have HC0 := Aside0.mk hc0
  clear hr0 hc0
  have HR1 := Aside0.mk hr1
  have HC1 := Aside0.mk hc1
  clear hr1 hc1
  have H : (if (l0.length : Int) = (l1.length : Int) then (impl_same_impl_Token.l0 k l0 l1 (l0.length : Int) 0) else (some false)) = some r := h
  clear h
  by_cases c3 : (l0.length : Int) = (l1.length : Int)
  · rw [if_pos c3] at H
    have c3b0 : ((l0.length : Int) == (l1.length : Int)) = true := beq_iff_eq.mpr c3
    have c3b1 : ((l0.length : Int) != (l1.length : Int)) = false := bne_eq_false_iff_eq.mpr c3
    have c3b2 : (l0.length == l1.length) = true := by first | simpa using c3 | (simp at c3 ⊢; omega)
    clear c3
    have H' := Aside0.mk H
    clear H
    go_enter Try.func53, Try.ntmps53
    go_wp2
    repeat (go_quiet (fail); try go_wp2)
    go_loopg [13] k (fun kq v13 w' => ∃ (x13_1 : Int), v13 = .int .i64 x13_1 ∧ Aside0 (impl_same_impl_Token.l0 kq l0 l1 (l0.length : Int) x13_1 = some r) ∧ Aside0 (kq ≤ k) ∧ Drawn0 w w')
    case atStart => exact ⟨(0), (by first | rfl | (simp; done) | (simp [*]; done)), H', ⟨Nat.le_refl _⟩, by repeat (first | exact Drawn0.refl _ | apply Drawn0.step)⟩
    case round =>
      clear H'
      try clear c1
      try clear p2
      try clear c3
      try clear c3b0
      try clear c3b1
      try clear c3b2
      obtain ⟨x13_1, rfl, HA, HK1, ⟨m1, rfl⟩⟩ := hrel
      cases gk with
      | zero => exact absurd HA.out (by simp [impl_same_impl_Token.l0])
      | succ k1 =>
        have H := HA.out
        clear HA
        simp only [impl_same_impl_Token.l0] at H
        by_cases c4 : x13_1 < (l0.length : Int)
        · rw [if_pos c4] at H
          have c4b0 : decide (x13_1 < (l0.length : Int)) = true := decide_eq_true c4
          clear c4
          by_cases c5 : 0 ≤ x13_1
          · rw [if_pos c5] at H
            have c5b0 : decide (0 ≤ x13_1) = true := decide_eq_true c5
            clear c5
            by_cases c6 : x13_1 < (l0.length : Int)
            · rw [if_pos c6] at H
              have c6b0 : decide (x13_1 < (l0.length : Int)) = true := decide_eq_true c6
              clear c6
              by_cases c7 : x13_1 < (l1.length : Int)
              · rw [if_pos c7] at H
                have c7b0 : decide (x13_1 < (l1.length : Int)) = true := decide_eq_true c7
                clear c7
                by_cases c8 : (!(((rd_T71 l0 x13_1).f0) == ((rd_T71 l1 x13_1).f0)) || (!(((rd_T71 l0 x13_1).f1) == ((rd_T71 l1 x13_1).f1)) || (!(((rd_T71 l0 x13_1).f2) == ((rd_T71 l1 x13_1).f2))))) = true
                · rw [if_pos c8] at H
                  have c8b0 : (!(((rd_T71 l0 x13_1).f0) == ((rd_T71 l1 x13_1).f0)) || (!(((rd_T71 l0 x13_1).f1) == ((rd_T71 l1 x13_1).f1)) || (!(((rd_T71 l0 x13_1).f2) == ((rd_T71 l1 x13_1).f2))))) = true := c8
                  clear c8
                  obtain rfl := Option.some.inj H
                  have p118 : 0 ≤ (x13_1 : Int) := of_decide_eq_true (by first | (with_reducible assumption) | assumption)
                  have q118 : x13_1 < (l0.length : Int) := of_decide_eq_true (by first | (with_reducible assumption) | assumption)
                  obtain ⟨ad118, e118, hx118_0, hx118_1, hx118_2⟩ := at_T71 HR0.out x13_1 p118 q118
                  cases e118
                  replace p118 := eq_true p118
                  replace q118 := eq_true q118
                  have p119 : 0 ≤ (x13_1 : Int) := of_decide_eq_true (by first | (with_reducible assumption) | assumption)
                  have q119 : x13_1 < (l1.length : Int) := of_decide_eq_true (by first | (with_reducible assumption) | assumption)
                  obtain ⟨ad119, e119, hx119_0, hx119_1, hx119_2⟩ := at_T71 HR1.out x13_1 p119 q119
                  cases e119
                  replace p119 := eq_true p119
                  replace q119 := eq_true q119
                  go_wp2
                  repeat (go_quiet (fail); try go_wp2)
                  go_ret
                  exact ⟨by first | rfl | (simp; done) | (simp [*]; done), by repeat (first | exact Drawn0.refl _ | apply Drawn0.step)⟩
                · rw [if_neg c8] at H
                  have c8b0 : (!(((rd_T71 l0 x13_1).f0) == ((rd_T71 l1 x13_1).f0)) || (!(((rd_T71 l0 x13_1).f1) == ((rd_T71 l1 x13_1).f1)) || (!(((rd_T71 l0 x13_1).f2) == ((rd_T71 l1 x13_1).f2))))) = false := by simpa using c8
                  clear c8
                  have H' := Aside0.mk H
                  clear H
                  have p118 : 0 ≤ (x13_1 : Int) := of_decide_eq_true (by first | (with_reducible assumption) | assumption)
                  have q118 : x13_1 < (l0.length : Int) := of_decide_eq_true (by first | (with_reducible assumption) | assumption)
                  obtain ⟨ad118, e118, hx118_0, hx118_1, hx118_2⟩ := at_T71 HR0.out x13_1 p118 q118
                  cases e118
                  replace p118 := eq_true p118
                  replace q118 := eq_true q118
                  have p119 : 0 ≤ (x13_1 : Int) := of_decide_eq_true (by first | (with_reducible assumption) | assumption)
                  have q119 : x13_1 < (l1.length : Int) := of_decide_eq_true (by first | (with_reducible assumption) | assumption)
                  obtain ⟨ad119, e119, hx119_0, hx119_1, hx119_2⟩ := at_T71 HR1.out x13_1 p119 q119
                  cases e119
                  replace p119 := eq_true p119
                  replace q119 := eq_true q119
                  go_wp2
                  repeat (go_quiet (fail); try go_wp2)
                  go_roundg k1
                  case measure => have := HK1.out; omega
                  case rel => exact ⟨(wrap64 (x13_1 + 1)), (by first | rfl | (simp; done) | (simp [*]; done)), H', ⟨by have := HK1.out; omega⟩, by repeat (first | exact Drawn0.refl _ | apply Drawn0.step)⟩
              · rw [if_neg c7] at H
                exact absurd H (by simp)
            · rw [if_neg c6] at H
              exact absurd H (by simp)
          · rw [if_neg c5] at H
            exact absurd H (by simp)
        · rw [if_neg c4] at H
          have c4b0 : decide (x13_1 < (l0.length : Int)) = false := decide_eq_false c4
          clear c4
          obtain rfl := Option.some.inj H
          go_wp2
          repeat (go_quiet (fail); try go_wp2)
          go_ret
          exact ⟨by first | rfl | (simp; done) | (simp [*]; done), by repeat (first | exact Drawn0.refl _ | apply Drawn0.step)⟩
  · rw [if_neg c3] at H
    have c3b0 : ((l0.length : Int) == (l1.length : Int)) = false := beq_eq_false_iff_ne.mpr c3
    have c3b1 : ((l0.length : Int) != (l1.length : Int)) = true := bne_iff_ne.mpr c3
    have c3b2 : (l0.length == l1.length) = false := by first | simpa using c3 | (simp at c3 ⊢; omega)
    obtain rfl := Option.some.inj H
    go_enter Try.func53, Try.ntmps53
    go_wp2
    repeat (go_quiet (fail); try go_wp2)
    go_ret
    exact ⟨by first | rfl | (simp; done) | (simp [*]; done), by repeat (first | exact Drawn0.refl _ | apply Drawn0.step)⟩

end Go.Proofs.Ytljaoggbfoimfaa.P

/- The functions of the seat as plain Lean functions, and that the program's functions compute them. Conditions: stated at each theorem. -/
namespace Go.Proofs.Ytljaoggbfoimfaa.P
open Go.RowKit Go.Proofs.YtljaoggbfoimfaaW.PrintWords Go.Proofs.YtljaoggbfoimfaaW.PrintLast Go.Proofs.YtljaoggbfoimfaaW.PrintMore
attribute [local go_sem] max2_int min2_int max_two min_two max_three min_three max_four min_four   -- for this text's walks alone
set_option linter.unusedVariables false
set_option linter.unusedSimpArgs false

/-! ### impl_LexSame: function 19 -/
def impl_LexSame.f (k : Nat) (l0 : List (S71)) (l1 : List (S71)) : Option (Bool) := (impl_same_impl_Token.f k l0 l1).bind fun t120 => (some t120)
theorem impl_LexSame.mono : ∀ a0 a1 k, LeO (impl_LexSame.f k a0 a1) (impl_LexSame.f (k + 1) a0 a1) := by
  intro a0 a1 k
  unfold impl_LexSame.f
  repeat' first
      | (with_reducible exact impl_same_impl_Token.mono _ _ _)
      | (with_reducible exact LeO.refl _)
      | (with_reducible exact LeO.none _)
      | (with_reducible refine LeO.ite ?_ ?_)
      | (with_reducible refine LeO.bind ?_ (fun _ => ?_))
      | exact impl_same_impl_Token.mono _ _ _
      | exact LeO.none _
      | refine LeO.ite ?_ ?_
      | refine LeO.bind ?_ (fun _ => ?_)
set_option maxHeartbeats 8000000 in
set_option maxRecDepth 100000 in
theorem impl_LexSame.calls (k : Nat) (A0 : Option Addr) (c0 : Nat) (l0 : List (S71)) (A1 : Option Addr) (c1 : Nat) (l1 : List (S71)) (r : Bool) (w : World) (hr0 : Kd.C k71 w A0 l0.length l0) (hc0 : l0.length ≤ c0) (hr1 : Kd.C k71 w A1 l1.length l1) (hc1 : l1.length ≤ c1) (h : impl_LexSame.f k l0 l1 = some r) :
    Calls Try.prog 19 #[.slice A0 l0.length c0, .slice A1 l1.length c1] w fun e w' => e = .returned (.bool r) ∧ Drawn0 w w' := by
  have HR0 := Aside0.mk hr0
  have HC0 := Aside0.mk hc0
  clear hr0 hc0
  have HR1 := Aside0.mk hr1
  have HC1 := Aside0.mk hc1
  clear hr1 hc1
  have H : ((impl_same_impl_Token.f k l0 l1).bind fun t120 => (some t120)) = some r := h
  clear h
  replace H := Option.bind_eq_some_iff.mp H
  obtain ⟨t120, A30, H⟩ := H
  replace H : (some t120) = some r := H
  have A3 := Aside0.mk A30
  clear A30
  obtain rfl := Option.some.inj H
  go_enter Try.func19, Try.ntmps19
  go_wp2_with (first | ((with_reducible refine gate_callee (f := 53) rfl ?_); refine goesL_ (some 7) rfl rfl Try.func53 (by kernel_rfl) rfl #[.slice A0 l0.length c0, .slice A1 l1.length c1] rfl (by (try simp only [List.map_toArray, List.map_cons, List.map_nil]); first | done | rfl | (simp only [List.length_drop, List.length_take]; rfl)) ?_; (with_reducible refine (impl_same_impl_Token.calls k _ _ l0 _ _ l1 t120 _ ?side1 ?side2 ?side3 ?side4 A3.out).mono ?_); (case side1 => repeat (first | exact HR0.out | (with_reducible refine Kd.C_alloc ?_ _) | (with_reducible refine Kd.C_drewN ?_ _) | (with_reducible refine Kd.C_drew ?_))); (case side2 => exact HC0.out); (case side3 => repeat (first | exact HR1.out | (with_reducible refine Kd.C_alloc ?_ _) | (with_reducible refine Kd.C_drewN ?_ _) | (with_reducible refine Kd.C_drew ?_))); (case side4 => exact HC1.out); rintro e w' ⟨rfl, ⟨nd, rfl⟩⟩; refine ⟨_, rfl, ?_⟩))
  go_ret
  exact ⟨by first | rfl | (simp; done) | (simp [*]; done), by repeat (first | exact Drawn0.refl _ | apply Drawn0.step)⟩

end Go.Proofs.Ytljaoggbfoimfaa.P

/- The functions of the seat as plain Lean functions, and that the program's functions compute them. Conditions: stated at each theorem. -/
namespace Go.Proofs.Ytljaoggbfoimfaa.P
open Go.RowKit Go.Proofs.YtljaoggbfoimfaaW.PrintWords Go.Proofs.YtljaoggbfoimfaaW.PrintLast Go.Proofs.YtljaoggbfoimfaaW.PrintMore
attribute [local go_sem] max2_int min2_int max_two min_two max_three min_three max_four min_four   -- for this text's walks alone
set_option linter.unusedVariables false
set_option linter.unusedSimpArgs false

/-! ### laws_szTokenS: function 16 -/
def laws_szTokenS.f (l0 : List (S73)) (a1 : Int) : Option (Int) := if (wrap64 (a1 - (l0.length : Int))) < 0 then (some (-1)) else (some (wrap64 (a1 - (l0.length : Int))))
set_option maxHeartbeats 8000000 in
set_option maxRecDepth 100000 in
theorem laws_szTokenS.calls (A0 : Option Addr) (c0 : Nat) (l0 : List (S73)) (a1 : Int) (r : Int) (w : World) (hr0 : Kd.C k73 w A0 l0.length l0) (hc0 : l0.length ≤ c0) (h : laws_szTokenS.f l0 a1 = some r) :
    Calls Try.prog 16 #[.slice A0 l0.length c0, .int .i64 a1] w fun e w' => e = .returned (.int .i64 r) ∧ Drawn0 w w' := by
  have HR0 := Aside0.mk hr0
  have HC0 := Aside0.mk hc0
  clear hr0 hc0
  have H : (if (wrap64 (a1 - (l0.length : Int))) < 0 then (some (-1)) else (some (wrap64 (a1 - (l0.length : Int))))) = some r := h
  clear h
  by_cases c3 : (wrap64 (a1 - (l0.length : Int))) < 0
  · rw [if_pos c3] at H
    have c3b0 : decide ((wrap64 (a1 - (l0.length : Int))) < 0) = true := decide_eq_true c3
    clear c3
    obtain rfl := Option.some.inj H
    go_enter Try.func16, Try.ntmps16
    go_wp2
    go_ret
    exact ⟨by first | rfl | (simp; done) | (simp [*]; done), by repeat (first | exact Drawn0.refl _ | apply Drawn0.step)⟩
  · rw [if_neg c3] at H
    have c3b0 : decide ((wrap64 (a1 - (l0.length : Int))) < 0) = false := decide_eq_false c3
    clear c3
    obtain rfl := Option.some.inj H
    go_enter Try.func16, Try.ntmps16
    go_wp2
    go_ret
    exact ⟨by first | rfl | (simp; done) | (simp [*]; done), by repeat (first | exact Drawn0.refl _ | apply Drawn0.step)⟩

end Go.Proofs.Ytljaoggbfoimfaa.P

/- Plain lemmas on lists of flat structs: conversions, comparisons, sizes. Conditions: a list's length is within the reach. -/
set_option linter.unusedVariables false
set_option linter.unusedSimpArgs false
namespace Go.Proofs.Ytljaoggbfoimfaa.P
open Go.Proofs.YtljaoggbfoimfaaW.PrintWords Go.RowKit
/-! ### Token -/
def toToken (x : S73) : S71 := ⟨x.f0, x.f1, x.f2⟩
theorem toTokenS_ev (xs : List S73) (hn : xs.length * 24 ≤ 140737488351232) : Ev (fun k => laws_toTokenS.f k xs) (xs.map toToken) := by
  refine Ev.congr (f := fun k => laws_toTokenS.l0 k xs (List.replicate xs.length z71) 0) (fun k => ?_) ?_
  · show laws_toTokenS.f k xs = _
    unfold laws_toTokenS.f
    rw [if_pos (by omega), if_pos (by rw [Int.toNat_natCast]; omega), Int.toNat_natCast]
  · refine fill_ev (fun k r i => laws_toTokenS.l0 k xs r i) xs toToken (fun k r hr => ?_) (fun i h => ⟨0, fun k r _ hr => ?_⟩) _ (by simp)
    · show laws_toTokenS.l0 (k + 1) xs r _ = _
      simp only [laws_toTokenS.l0]
      rw [if_neg (by omega)]
    · show laws_toTokenS.l0 (k + 1) xs r _ = laws_toTokenS.l0 k xs _ _
      simp only [laws_toTokenS.l0, laws_toToken.f]
      rw [if_pos (by omega), if_pos (by omega), Option.bind_some, if_pos (by omega), wrap_nat (by omega), Int.toNat_natCast]
      unfold rd_T73
      rw [getD_at h]
      rfl
theorem spec_LexSame_ev (xs ys : List S71) (hn : xs.length * 24 ≤ 140737488351232) : Ev (fun k => spec_LexSame.f k xs ys) (yes (xs = ys)) := by
  by_cases hl : xs.length = ys.length
  · refine Ev.congr (f := fun k => spec_LexSame.l0 k xs ys 0) (fun k => ?_) ?_
    · show spec_LexSame.f k xs ys = _
      unfold spec_LexSame.f
      rw [if_pos (by omega)]
    · refine all2_ev (fun k i => spec_LexSame.l0 k xs ys i) xs ys hl (fun k => ?_) (fun i h h' => ⟨0, fun k _ => ⟨fun he => ?_, fun he => ?_⟩⟩)
      · show spec_LexSame.l0 (k + 1) xs ys _ = _
        simp only [spec_LexSame.l0]
        rw [if_neg (by omega)]
      · show spec_LexSame.l0 (k + 1) xs ys _ = spec_LexSame.l0 k xs ys _
        simp only [spec_LexSame.l0]
        rw [if_pos (by omega), if_pos (by omega), if_pos (by omega), wrap_nat (by omega)]
        unfold rd_T71
        rw [getD_at h, getD_at h', he]
        simp
      · show spec_LexSame.l0 (k + 1) xs ys _ = _
        simp only [spec_LexSame.l0]
        rw [if_pos (by omega), if_pos (by omega), if_pos (by omega)]
        unfold rd_T71
        rw [getD_at h, getD_at h']
        have hne : ¬ (xs[i].f0 = ys[i].f0 ∧ xs[i].f1 = ys[i].f1 ∧ xs[i].f2 = ys[i].f2) := fun ⟨e0, e1, e2⟩ => he (by cases hx : xs[i]; cases hy : ys[i]; simp_all)
        by_cases e0 : xs[i].f0 = ys[i].f0 <;> by_cases e1 : xs[i].f1 = ys[i].f1 <;> by_cases e2 : xs[i].f2 = ys[i].f2 <;> simp_all
  · refine (Ev.congr (f := fun _ => some false) (fun k => ?_) (Ev.now false)).eqs (yes_neg fun h => hl (by rw [h])).symm
    show spec_LexSame.f k xs ys = _
    unfold spec_LexSame.f
    rw [if_neg (by omega)]
theorem impl_same_impl_Token_ev (xs ys : List S71) (hn : xs.length * 24 ≤ 140737488351232) : Ev (fun k => impl_same_impl_Token.f k xs ys) (yes (xs = ys)) := by
  by_cases hl : xs.length = ys.length
  · refine Ev.congr (f := fun k => impl_same_impl_Token.l0 k xs ys (xs.length : Int) 0) (fun k => ?_) ?_
    · show impl_same_impl_Token.f k xs ys = _
      unfold impl_same_impl_Token.f
      rw [if_pos (by omega)]
    · refine all2_ev (fun k i => impl_same_impl_Token.l0 k xs ys (xs.length : Int) i) xs ys hl (fun k => ?_) (fun i h h' => ⟨0, fun k _ => ⟨fun he => ?_, fun he => ?_⟩⟩)
      · show impl_same_impl_Token.l0 (k + 1) xs ys (xs.length : Int) _ = _
        simp only [impl_same_impl_Token.l0]
        rw [if_neg (by omega)]
      · show impl_same_impl_Token.l0 (k + 1) xs ys (xs.length : Int) _ = impl_same_impl_Token.l0 k xs ys (xs.length : Int) _
        simp only [impl_same_impl_Token.l0]
        rw [if_pos (by omega), if_pos (by omega), if_pos (by omega), if_pos (by omega), wrap_nat (by omega)]
        unfold rd_T71
        rw [getD_at h, getD_at h', he]
        simp
      · show impl_same_impl_Token.l0 (k + 1) xs ys (xs.length : Int) _ = _
        simp only [impl_same_impl_Token.l0]
        rw [if_pos (by omega), if_pos (by omega), if_pos (by omega), if_pos (by omega)]
        unfold rd_T71
        rw [getD_at h, getD_at h']
        have hne : ¬ (xs[i].f0 = ys[i].f0 ∧ xs[i].f1 = ys[i].f1 ∧ xs[i].f2 = ys[i].f2) := fun ⟨e0, e1, e2⟩ => he (by cases hx : xs[i]; cases hy : ys[i]; simp_all)
        by_cases e0 : xs[i].f0 = ys[i].f0 <;> by_cases e1 : xs[i].f1 = ys[i].f1 <;> by_cases e2 : xs[i].f2 = ys[i].f2 <;> simp_all
  · refine (Ev.congr (f := fun _ => some false) (fun k => ?_) (Ev.now false)).eqs (yes_neg fun h => hl (by rw [h])).symm
    show impl_same_impl_Token.f k xs ys = _
    unfold impl_same_impl_Token.f
    rw [if_neg (by omega)]
theorem impl_LexSame_ev (xs ys : List S71) (hn : xs.length * 24 ≤ 140737488351232) : Ev (fun k => impl_LexSame.f k xs ys) (yes (xs = ys)) := by
  refine (impl_same_impl_Token_ev xs ys hn).bind (f := fun _ t => some t) (Ev.now _)
theorem laws_eqTokenS_ev (xs ys : List S71) (hn : xs.length * 24 ≤ 140737488351232) : Ev (fun k => laws_eqTokenS.f k xs ys) (yes (xs = ys)) := by
  by_cases hl : xs.length = ys.length
  · refine Ev.congr (f := fun k => laws_eqTokenS.l0 k xs ys 0) (fun k => ?_) ?_
    · show laws_eqTokenS.f k xs ys = _
      unfold laws_eqTokenS.f
      rw [if_pos (by omega)]
    · refine all2_ev (fun k i => laws_eqTokenS.l0 k xs ys i) xs ys hl (fun k => ?_) (fun i h h' => ⟨0, fun k _ => ⟨fun he => ?_, fun he => ?_⟩⟩)
      · show laws_eqTokenS.l0 (k + 1) xs ys _ = _
        simp only [laws_eqTokenS.l0]
        rw [if_neg (by omega)]
      · show laws_eqTokenS.l0 (k + 1) xs ys _ = laws_eqTokenS.l0 k xs ys _
        simp only [laws_eqTokenS.l0, laws_eqToken.f]
        rw [if_pos (by omega), if_pos (by omega), if_pos (by omega), wrap_nat (by omega)]
        unfold rd_T71
        rw [getD_at h, getD_at h', he]
        simp
      · show laws_eqTokenS.l0 (k + 1) xs ys _ = _
        simp only [laws_eqTokenS.l0, laws_eqToken.f]
        rw [if_pos (by omega), if_pos (by omega), if_pos (by omega)]
        unfold rd_T71
        rw [getD_at h, getD_at h']
        have hne : ¬ (xs[i].f0 = ys[i].f0 ∧ xs[i].f1 = ys[i].f1 ∧ xs[i].f2 = ys[i].f2) := fun ⟨e0, e1, e2⟩ => he (by cases hx : xs[i]; cases hy : ys[i]; simp_all)
        by_cases e0 : xs[i].f0 = ys[i].f0 <;> by_cases e1 : xs[i].f1 = ys[i].f1 <;> by_cases e2 : xs[i].f2 = ys[i].f2 <;> simp_all
  · refine (Ev.congr (f := fun _ => some false) (fun k => ?_) (Ev.now false)).eqs (yes_neg fun h => hl (by rw [h])).symm
    show laws_eqTokenS.f k xs ys = _
    unfold laws_eqTokenS.f
    rw [if_neg (by omega)]
theorem szTokenS_some (xs : List S73) (a : Int) : ∃ v, laws_szTokenS.f xs a = some v := by
  unfold laws_szTokenS.f
  split <;> exact ⟨_, rfl⟩
end Go.Proofs.Ytljaoggbfoimfaa.P

/- The law's marks on lists of Token: each field is given the next number; what was marked is held. Conditions: the numbers stay small. -/
set_option linter.unusedVariables false
set_option linter.unusedSimpArgs false
namespace Go.Proofs.Ytljaoggbfoimfaa.P
open Go.Proofs.YtljaoggbfoimfaaW.PrintWords Go.RowKit

def markedToken (m : Int) (i : Nat) : S71 := ⟨m + 3 * (i : Int), m + 3 * (i : Int) + 1, m + 3 * (i : Int) + 2⟩
theorem markTokenS_ev (xs : List S71) (m : Int) (h0 : 0 ≤ m) (hm : m ≤ 1000000000) (hn : xs.length ≤ 100000000) : Ev (fun k => laws_markTokenS.f k xs m) (m + 3 * (xs.length : Int), (List.range xs.length).map (markedToken m)) := by
  unfold laws_markTokenS.f
  have h := mark_ev (fun k r i => laws_markTokenS.l0 k r (m + 3 * i) i) xs.length (markedToken m) (fun r => (m + 3 * (xs.length : Int), r))
    (fun k r hr => by
      show laws_markTokenS.l0 (k + 1) r _ _ = _
      simp only [laws_markTokenS.l0]
      rw [if_neg (by omega)])
    (fun i hi k r hr => by
      show laws_markTokenS.l0 (k + 1) r _ _ = laws_markTokenS.l0 k _ _ _
      have e1 : wrap64 (m + 3 * (i : Int) + 1) = m + 3 * (i : Int) + 1 := by unfold wrap64; omega
      have e2 : wrap64 (m + 3 * (i : Int) + 1 + 1) = m + 3 * (i : Int) + 2 := by unfold wrap64; omega
      have e3 : wrap64 (m + 3 * (i : Int) + 2 + 1) = m + 3 * (i : Int) + 3 := by unfold wrap64; omega
      have hi' : i < r.length := by omega
      simp only [laws_markTokenS.l0, e1, e2, e3, Option.bind_some]
      rw [if_pos (by omega), if_pos (by omega), wrap_nat (by omega)]
      unfold rd_T71
      simp only [Int.toNat_natCast]
      have g : ∀ (l : List S71) (x z : S71), i < l.length → (l.set i x).getD i z = x := fun l x z hl => by simp [List.getD_eq_getElem?_getD, hl]
      simp only [g, List.length_set, hi', List.set_set]
      have e0 : m + 3 * (i : Int) + 3 = m + 3 * ((i + 1 : Nat) : Int) := by omega
      rw [e0]
      rfl) xs rfl
  simpa using h
theorem heldTokenS_ev (n : Nat) (m : Int) (h0 : 0 ≤ m) (hm : m ≤ 1000000000) (hn : n ≤ 100000000) : Ev (fun k => laws_heldTokenS.f k ((List.range n).map (markedToken m)) m) (m + 3 * (n : Int)) := by
  unfold laws_heldTokenS.f
  have h := run_ev (fun k (s : Int) i => laws_heldTokenS.l0 k ((List.range n).map (markedToken m)) s i) n (fun i => m + 3 * (i : Int)) (m + 3 * (n : Int))
    (fun k => by
      show laws_heldTokenS.l0 (k + 1) _ _ _ = _
      simp only [laws_heldTokenS.l0]
      rw [if_neg (by simp)])
    (fun i hi k => by
      show laws_heldTokenS.l0 (k + 1) _ _ _ = laws_heldTokenS.l0 k _ _ _
      have e1 : wrap64 (m + 3 * (i : Int) + 1) = m + 3 * (i : Int) + 1 := by unfold wrap64; omega
      have e2 : wrap64 (m + 3 * (i : Int) + 1 + 1) = m + 3 * (i : Int) + 2 := by unfold wrap64; omega
      have e3 : wrap64 (m + 3 * (i : Int) + 2 + 1) = m + 3 * (i : Int) + 3 := by unfold wrap64; omega
      have hl : i < ((List.range n).map (markedToken m)).length := by simpa using hi
      have e0 : m + 3 * (i : Int) + 3 = m + 3 * ((i + 1 : Nat) : Int) := by omega
      simp only [laws_heldTokenS.l0, e1, e2, e3]
      rw [if_pos (by simpa using hi), if_pos (by omega), wrap_nat (by omega)]
      unfold rd_T71
      rw [getD_at hl]
      simp only [List.getElem_map, List.getElem_range]
      unfold markedToken
      simp only [if_true, e0])
  simpa using h
end Go.Proofs.Ytljaoggbfoimfaa.P

/- The law's marks on lists of Ins: each field is given the next number; what was marked is held. Conditions: the numbers stay small. -/
set_option linter.unusedVariables false
set_option linter.unusedSimpArgs false
namespace Go.Proofs.Ytljaoggbfoimfaa.P
open Go.Proofs.YtljaoggbfoimfaaW.PrintWords Go.RowKit

def markedIns (m : Int) (i : Nat) : S76 := ⟨m + 4 * (i : Int), m + 4 * (i : Int) + 1, m + 4 * (i : Int) + 2, m + 4 * (i : Int) + 3⟩
theorem markInsS_ev (xs : List S76) (m : Int) (h0 : 0 ≤ m) (hm : m ≤ 1000000000) (hn : xs.length ≤ 100000000) : Ev (fun k => laws_markInsS.f k xs m) (m + 4 * (xs.length : Int), (List.range xs.length).map (markedIns m)) := by
  unfold laws_markInsS.f
  have h := mark_ev (fun k r i => laws_markInsS.l0 k r (m + 4 * i) i) xs.length (markedIns m) (fun r => (m + 4 * (xs.length : Int), r))
    (fun k r hr => by
      show laws_markInsS.l0 (k + 1) r _ _ = _
      simp only [laws_markInsS.l0]
      rw [if_neg (by omega)])
    (fun i hi k r hr => by
      show laws_markInsS.l0 (k + 1) r _ _ = laws_markInsS.l0 k _ _ _
      have e1 : wrap64 (m + 4 * (i : Int) + 1) = m + 4 * (i : Int) + 1 := by unfold wrap64; omega
      have e2 : wrap64 (m + 4 * (i : Int) + 1 + 1) = m + 4 * (i : Int) + 2 := by unfold wrap64; omega
      have e3 : wrap64 (m + 4 * (i : Int) + 2 + 1) = m + 4 * (i : Int) + 3 := by unfold wrap64; omega
      have e4 : wrap64 (m + 4 * (i : Int) + 3 + 1) = m + 4 * (i : Int) + 4 := by unfold wrap64; omega
      have hi' : i < r.length := by omega
      simp only [laws_markInsS.l0, e1, e2, e3, e4, Option.bind_some]
      rw [if_pos (by omega), if_pos (by omega), wrap_nat (by omega)]
      unfold rd_T76
      simp only [Int.toNat_natCast]
      have g : ∀ (l : List S76) (x z : S76), i < l.length → (l.set i x).getD i z = x := fun l x z hl => by simp [List.getD_eq_getElem?_getD, hl]
      simp only [g, List.length_set, hi', List.set_set]
      have e0 : m + 4 * (i : Int) + 4 = m + 4 * ((i + 1 : Nat) : Int) := by omega
      rw [e0]
      rfl) xs rfl
  simpa using h
end Go.Proofs.Ytljaoggbfoimfaa.P

/- FnExactProgRun, the plain statement: running a program over a text gives the same tokens and end in the program and the reference; what is marked is held. Conditions: the list's length and the text's size are within the reach. -/
set_option linter.unusedVariables false
set_option linter.unusedSimpArgs false
namespace Go.Proofs.Ytljaoggbfoimfaa.Pure
open Go.RowKit Go.Proofs.Ytljaoggbfoimfaa.P Go.Proofs.YtljaoggbfoimfaaW.PrintWords Go.Proofs.YtljaoggbfoimfaaW.PrintLast

theorem FnExactProgRun : FnExactProgRun.Said := by
  intro l0 a1 h0 h1
  have hl0 := h0.1
  rw [show reachBytes = 140737488351232 from rfl] at hl0
  apply Ev.rounds
  unfold laws_FnExactProgRun.f
  by_cases c1 : (a1.size : Int) > 1048576
  · simp only [if_pos c1]; exact Ev.now _
  simp only [if_neg c1]
  by_cases c0 : (1048576 : Int) - (l0.length : Int) < 0
  · have e0 : laws_szInsS.f l0 1048576 = some (-1) := by
      unfold laws_szInsS.f
      have hw : wrap64 (1048576 - (l0.length : Int)) = 1048576 - (l0.length : Int) := by unfold wrap64; omega
      rw [hw, if_pos c0]
    simp only [e0, Option.bind_some]
    exact Ev.now _
  have e0 : laws_szInsS.f l0 1048576 = some (1048576 - (l0.length : Int)) := by
    unfold laws_szInsS.f
    have hw : wrap64 (1048576 - (l0.length : Int)) = 1048576 - (l0.length : Int) := by unfold wrap64; omega
    rw [hw, if_neg c0]
  simp only [e0, Option.bind_some, if_neg c0]
  have a0 := toInsS_ev l0 hl0
  have b0 : (l0.map toIns).length * 32 ≤ 140737488351232 := by rw [List.length_map]; exact hl0
  obtain ⟨⟨r, e⟩, hi, hs, hr⟩ := ProgRun_ev (l0.map toIns) b0 a1
  have hr' : (r.length : Int) ≤ 200 := hr
  have bt := laws_eqTokenS_ev r r (by omega)
  rw [yes_pos rfl] at bt
  have bi := laws_eqInsS_ev (l0.map toIns) (l0.map toIns) b0
  rw [yes_pos rfl] at bi
  have mi := markInsS_ev (l0.map toIns) 1 (by omega) (by omega) (by simp; omega)
  have mt := markTokenS_ev r 1 (by omega) (by omega) (by omega)
  have ht := heldTokenS_ev r.length 1 (by omega) (by omega) (by omega)
  refine Ev.bind a0 (Ev.bind hs (Ev.bind a0 (Ev.bind hi (Ev.bind bt ?_))))
  simp only [if_true, bne_self_eq_false]
  refine Ev.succ ?_
  simp only [laws_FnExactProgRun.j0, Bool.false_eq_true, if_false]
  refine Ev.bind a0 (Ev.bind bi ?_)
  simp only [if_true]
  refine Ev.bind mi ?_
  simp only [if_neg (show ¬ (1 + 4 * ((l0.map toIns).length : Int)) < 0 by omega)]
  refine Ev.bind bt ?_
  simp only [if_true, bne_self_eq_false]
  refine Ev.succ ?_
  simp only [laws_FnExactProgRun.j1, Bool.false_eq_true, if_false]
  refine Ev.bind mt (Ev.bind ht ?_)
  simp only [if_neg (show ¬ (1 + 3 * (r.length : Int)) < 0 by omega), if_true]
  refine Ev.bind a0 (Ev.bind hi (Ev.bind bt ?_))
  simp only [if_true, bne_self_eq_false]
  refine Ev.succ ?_
  simp only [laws_FnExactProgRun.j2, Bool.false_eq_true, if_false]
  refine Ev.bind ht ?_
  simp only [if_neg (show ¬ (1 + 3 * (r.length : Int)) < 0 by omega), if_true]
  exact Ev.now _
end Go.Proofs.Ytljaoggbfoimfaa.Pure

/- FnExactProgRun: for every input that can be read as data the law returns true and its arguments read as before. Conditions: those of the given row, no other. -/
namespace Go.Proofs.Ytljaoggbfoimfaa.fnExactProgRun
open Go.ChangeShapes Go.WideShapes Go.ChangeAt Go.RowKit Go.Proofs.Ytljaoggbfoimfaa.Rd Go.Proofs.Ytljaoggbfoimfaa.Pure.FnExactProgRun Go.Proofs.Ytljaoggbfoimfaa.P Go.Proofs.YtljaoggbfoimfaaW.PrintWords Go.Proofs.YtljaoggbfoimfaaW.PrintLast
open Go.ChangeMaps (open_string shut_string)
set_option linter.unusedVariables false
set_option linter.unusedSimpArgs false
theorem own : ownKnob Try.prog.godebug = none := by kernel_rfl
theorem laidOut : laidOutB Try.prog = true := by kernel_rfl
set_option maxRecDepth 100000 in
theorem lifted (os : Os) (started : os.Started) (H : Type) (enc : TypeId × Value → H) :
    ReturnsInHanded {} Try.checked os 10 .any (Rows.fnExactProgRunSpec.pre6 enc Try.prog Try.f10 Rows.fnExactProgRunRow.domain false) (Rows.fnExactProgRunSpec.post enc Try.prog Try.f10 false true false false) := by
  refine returnsInHanded_of_change_sized (C := Try.checked) own started (by kernel_rfl) Try.func10
    (ChangeSpec.witness6 (enc := enc) (C := Try.checked) false ⟨#[], #[.slice none 0 0, .string ByteArray.empty], []⟩ 8 (by kernel_rfl) (by kernel_rfl) (by kernel_rfl) (by kernel_rfl)) ?_
  intro W base args ds gs before hval0 hW hcnd hsz0 _
  have hsz : (DataW.weightsEach Try.prog (Try.f10.params.toList ++ Rows.fnExactProgRunSpec.plain.varTypes Try.prog) (ds ++ gs)).all (· ≤ reachBytes) = true := hsz0
  have hval : ∀ (j : Nat) t v, Try.f10.params[j]? = some t → args[j]? = some v → Value.okWide Try.prog W .any base t v := hval0
  have hW' := hW
  obtain ⟨p, q, hA0, hV, rfl, hfz, hnd⟩ := hW
  have hA : DataW.TrodAll enc Try.prog W 0 (fun _ => true) true Try.f10.params.toList args.toList ds p := hA0
  rw [Try.params10] at hA hval hsz
  obtain ⟨v0, vs0, d0, ds0, p0, q0, hargs, rfl, rfl, h0, r0⟩ := trodAll_cons hA
  obtain ⟨v1, vs1, d1, ds1, p1, q1, rfl, rfl, rfl, h1, r1⟩ := trodAll_cons r0
  obtain ⟨rfl, rfl, rfl⟩ := trodAll_nil r1
  obtain rfl : args = #[v0, v1] := by cases args; simp_all
  obtain ⟨rfl, rfl⟩ := trodVars_none hV
  have z0 : ∀ q ∈ d0.weights Try.prog 29, q ≤ reachBytes := fun q hq => by simpa using List.all_eq_true.1 hsz q (DataW.weights_mem_each (j := 0) rfl rfl q hq)
  have k0 := h0
  have lt0 : ∀ x ∈ p0, x.block < W.heap.size := by obtain ⟨m, hm⟩ := k0; exact DataW.trod_lt m _ _ _ hm
  obtain ⟨x0, hx0, y0⟩ : ∃ x0 : (List S78), (Kd.slice 78 k78).K W x0 v0.cells.toList ∧ (x0.length * 32 ≤ reachBytes ∧ ∀ y2 ∈ x0, B78 y2) := Rd.arg (fun n => ((Rd.slice (b := 32) (rd78 _) Try.underlying29 (by kernel_rfl) (by kernel_rfl)).le (Nat.le_succ _))) h0 z0
  obtain ⟨a0, len0, cap0, rfl⟩ := okWide_slice Try.underlying29 (hval 0 29 v0 rfl rfl)
  obtain ⟨A0, c0, hcs0, hc0, hr0⟩ := hx0
  obtain ⟨rfl, rfl, rfl⟩ : a0 = A0 ∧ len0 = x0.length ∧ cap0 = c0 := by simpa [Value.cells] using hcs0
  obtain ⟨a1, rfl, rfl, rfl, y1⟩ := open_string Try.underlying9 (hval 1 9 v1 rfl rfl) h1
  have w1 : a1.size ≤ reachBytes := by
    have z := sized_string hsz (j := 1) (t := 9) rfl rfl
    rw [Array.length_toList] at z
    exact z
  clear hA0 hval0 hsz0 hsz
  obtain ⟨k, hk⟩ := Pure.FnExactProgRun x0 a1 y0 w1
  refine (laws_FnExactProgRun.calls k a0 cap0 x0 a1 true W hr0 hc0 rfl hk).mono fun e W' ⟨he, bel0⟩ => ?_
  have bel : Below W.heap.size W W' := bel0
  subst he
  exact ⟨_, rfl, _, _, _, [], _, [], hW', trodAll_mk1 (shut_bool Try.underlying4 _), (trodAll_cons_mk (Below.trod laidOut (by kernel_rfl) (of_decide_eq_true (by kernel_rfl)) k0 bel lt0) (trodAll_cons_mk (shut_string Try.underlying9 y1) trodAll_mk0)), rfl, bel.frame _, fun h => by cases h⟩
theorem over : Rows.fnExactProgRunRow.holds Try.pinned (OpenSpec.ofChange Rows.fnExactProgRunSpec) :=
  OpenClaim.holds_of_wide 10 Try.f10 rfl rfl rfl rfl rfl rfl rfl ⟨rfl, rfl, rfl, rfl, rfl⟩ rfl rfl rfl rfl rfl (by kernel_rfl) Try.func10 (by kernel_rfl)
    (of_decide_eq_true (by kernel_rfl)) (by unfold Func.isWrapper; first | (rw [if_pos (by decide +kernel)]; kernel_rfl) | (rw [if_neg (by decide +kernel)]; exact ⟨rfl, rfl⟩))
    (fun os started H enc _ => lifted os started H enc)
theorem proved : Rows.FnExactProgRunSaid := over
end Go.Proofs.Ytljaoggbfoimfaa.fnExactProgRun
namespace Go.Proofs.Ytljaoggbfoimfaa
/-- The row, under a short name, for the claim. -/
theorem fnExactProgRun_holds : Rows.FnExactProgRunSaid := fnExactProgRun.proved
end Go.Proofs.Ytljaoggbfoimfaa
