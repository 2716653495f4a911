/- FnExactRulesSame, part 4 of 4: the functions that it reaches as plain Lean functions, that the program's functions compute them, and what they come to. Conditions: stated at each theorem. -/
import Derived.Test.YtljaoggbfoimfaaRows
import Derived.WalkKit
import Derived.ProofKit
import Derived.OpenShut
import Derived.ShutString
import Derived.ChangeOld
import Derived.Below
import Derived.SizedLaws
import Derived.Carry
import Derived.Test.YtljaoggbfoimfaaBFnExactRulesSame0
import Derived.Test.YtljaoggbfoimfaaBFnExactRulesSame1
import Derived.Test.YtljaoggbfoimfaaBFnExactRulesSame2
/- Trees of kinds: conversion, size and comparison. Conditions: each list in them is within the reach. -/
set_option linter.unusedVariables false
set_option linter.unusedSimpArgs false
namespace Go.Proofs.Ytljaoggbfoimfaa.P
open Go.Proofs.YtljaoggbfoimfaaW.PrintWords Go.RowKit

/-- Each list in the tree is within the reach. -/
inductive RexL : S86 → Prop | mk (x : S86) : x.f1.length * 16 ≤ 140737488351232 → x.f2.length * 56 ≤ 140737488351232 → (∀ c ∈ x.f2, RexL c) → RexL x
inductive RexB : S92 → Prop | mk (x : S92) : x.f1.length * 16 ≤ 140737488351232 → x.f2.length * 56 ≤ 140737488351232 → (∀ c ∈ x.f2, RexB c) → RexB x
theorem size_lt {x : S92} {l : List S92} (h : x ∈ l) : SizeOf.sizeOf x < 1 + SizeOf.sizeOf l := by
  have := List.sizeOf_lt_of_mem h
  omega
theorem kid_lt (x : S92) : SizeOf.sizeOf x.f2 < SizeOf.sizeOf x := by
  cases x
  simp only [S92.mk.sizeOf_spec]
  omega
theorem kid_ltL (x : S86) : SizeOf.sizeOf x.f2 < SizeOf.sizeOf x := by
  cases x
  simp only [S86.mk.sizeOf_spec]
  omega

theorem toRex_ex : ∀ x : S86, RexL x → ∃ y : S92, RexB y ∧ Ev (fun k => laws_toRex.f k x.f0 x.f1 x.f2) (y.f0, y.f1, y.f2)
  | x, .mk _ h1 h2 h3 => by
    have hs := toSpanS_ev x.f1 h1
    have hk : ∃ ys : List S92, ys.length = x.f2.length ∧ (∀ y ∈ ys, RexB y) ∧ Ev (fun k => laws_toRexS.f k x.f2) ys := by
      obtain ⟨ys, hl, hm, hE⟩ := fill_ex (fun k r i => laws_toRexS.l0 k x.f2 r i) x.f2 (fun a b => RexB b)
        (fun k r hr => by
          show laws_toRexS.l0 (k + 1) x.f2 r _ = _
          simp only [laws_toRexS.l0]
          rw [if_neg (by omega)])
        (fun i h => by
          have hm : x.f2[i] ∈ x.f2 := List.getElem_mem h
          have : SizeOf.sizeOf x.f2[i] < SizeOf.sizeOf x := Nat.lt_trans (List.sizeOf_lt_of_mem hm) (kid_ltL x)
          obtain ⟨y, hy, K, hK⟩ := toRex_ex x.f2[i] (h3 _ hm)
          dsimp only at hK
          refine ⟨y, hy, K, fun k r hk hr => ?_⟩
          show laws_toRexS.l0 (k + 1) x.f2 r _ = laws_toRexS.l0 k x.f2 _ _
          simp only [laws_toRexS.l0]
          unfold rd_T86
          rw [if_pos (by omega), if_pos (by omega), getD_at h, hK k hk, Option.bind_some, if_pos (by omega), wrap_nat (by omega), Int.toNat_natCast]
          have he : (⟨y.f0, y.f1, y.f2⟩ : S92) = y := by cases y; rfl
          simp only [he])
        (List.replicate x.f2.length z92) (by simp)
      refine ⟨ys, hl, fun y hy => by obtain ⟨_, _, hb⟩ := hm y hy; exact hb, Ev.step (f := fun k => laws_toRexS.l0 k x.f2 (List.replicate x.f2.length z92) 0) (fun k => ?_) hE⟩
      simp only [laws_toRexS.f]
      rw [if_pos (by omega), if_pos (by rw [Int.toNat_natCast]; omega), Int.toNat_natCast]
    obtain ⟨ys, hl, hB, hE⟩ := hk
    refine ⟨⟨x.f0, x.f1.map toSpan, ys⟩, .mk _ (by simpa using h1) (by simpa [hl] using h2) hB, Ev.succ ?_⟩
    simp only [laws_toRex.f]
    exact Ev.bind hs (Ev.bind hE (Ev.now _))
termination_by x => SizeOf.sizeOf x

theorem szRex_ex : ∀ x : S86, RexL x → ∀ a : Int, ∃ v, Ev (fun k => laws_szRex.f k x.f0 x.f1 x.f2 a) v
  | x, .mk _ h1 h2 h3 => fun a => by
    obtain ⟨v0, e0⟩ := szSpanS_some x.f1 a
    have hk : ∀ b : Int, ∃ v, Ev (fun k => laws_szRexS.f k x.f2 b) v := by
      intro b
      by_cases c : wrap64 (b - (x.f2.length : Int)) < 0
      · refine ⟨-1, Ev.ofSucc (g := fun k => laws_szRexS.f k x.f2 b) (fun k => ?_)⟩
        simp only [laws_szRexS.f]; rw [if_pos c]
      · obtain ⟨v, hv⟩ := walk_ex (fun k s i => laws_szRexS.l0 k x.f2 s i) x.f2.length
          (fun s => ⟨s, Ev.ofSucc (g := fun k => laws_szRexS.l0 k x.f2 s _) (fun k => by simp only [laws_szRexS.l0]; rw [if_neg (by omega)])⟩)
          (fun i h s => by
            have hm : x.f2[i] ∈ x.f2 := List.getElem_mem h
            have : SizeOf.sizeOf x.f2[i] < SizeOf.sizeOf x := Nat.lt_trans (List.sizeOf_lt_of_mem hm) (kid_ltL x)
            obtain ⟨y, hy⟩ := szRex_ex x.f2[i] (h3 _ hm) s
            obtain ⟨K, hK⟩ := hy
            dsimp only at hK
            by_cases cy : y < 0
            · refine .inl ⟨-1, Ev.late (g := fun k => laws_szRexS.l0 k x.f2 s (i : Int)) (f := fun _ => some (-1)) ⟨K, fun k hk => ?_⟩ (Ev.now _)⟩
              simp only [laws_szRexS.l0]
              unfold rd_T86
              rw [if_pos (by omega), if_pos (by omega), getD_at h, hK k hk, Option.bind_some, if_pos cy]
            · refine .inr ⟨y, K, fun k hk => ?_⟩
              show laws_szRexS.l0 (k + 1) x.f2 s _ = laws_szRexS.l0 k x.f2 _ _
              simp only [laws_szRexS.l0]
              unfold rd_T86
              rw [if_pos (by omega), if_pos (by omega), getD_at h, hK k hk, Option.bind_some, if_neg cy, wrap_nat (by omega)])
          (wrap64 (b - (x.f2.length : Int)))
        refine ⟨v, Ev.succ ?_⟩
        simp only [laws_szRexS.f, if_neg c]; exact hv
    by_cases c0 : v0 < 0
    · refine ⟨-1, Ev.ofSucc (g := fun k => laws_szRex.f k x.f0 x.f1 x.f2 a) (fun k => ?_)⟩
      simp only [laws_szRex.f, e0, Option.bind_some, if_pos c0]
    · obtain ⟨v1, h1⟩ := hk v0
      by_cases c1 : v1 < 0
      · refine ⟨-1, Ev.succ ?_⟩
        simp only [laws_szRex.f, e0, Option.bind_some, if_neg c0]
        refine Ev.bind h1 ?_
        simp only [if_pos c1]; exact Ev.now _
      · refine ⟨v1, Ev.succ ?_⟩
        simp only [laws_szRex.f, e0, Option.bind_some, if_neg c0]
        refine Ev.bind h1 ?_
        simp only [if_neg c1]; exact Ev.now _
termination_by x => SizeOf.sizeOf x

theorem rex_ext {x y : S92} : x = y ↔ x.f0 = y.f0 ∧ x.f1 = y.f1 ∧ x.f2 = y.f2 := by
  cases x; cases y; simp


theorem impl_RexSame_ev : ∀ x : S92, RexB x → ∀ y : S92, Ev (fun k => impl_RexSame.f k x.f0 x.f1 x.f2 y.f0 y.f1 y.f2) (yes (x = y))
  | x, .mk _ h1 h2 h3 => fun y => by
    have jt : Ev (fun k => impl_RexSame.j0 k true x.f0 x.f1 x.f2 y.f0 y.f1 y.f2) false := Ev.ofSucc (g := fun k => impl_RexSame.j0 k true x.f0 x.f1 x.f2 y.f0 y.f1 y.f2) fun k => by simp [impl_RexSame.j0]
    by_cases c0 : x.f0 = y.f0
    · have hs := impl_same_impl_Span_ev x.f1 y.f1 h1
      by_cases c1 : x.f1 = y.f1
      · by_cases c2 : x.f2.length = y.f2.length
        · refine Ev.succ ?_
          simp only [impl_RexSame.f, if_pos c0]
          refine Ev.bind hs ?_
          simp only [yes_pos c1, if_true]
          rw [show ((x.f2.length : Int) != (y.f2.length : Int)) = false by simp [c2]]
          refine Ev.succ ?_
          simp only [impl_RexSame.j0, Bool.false_eq_true, if_false]
          refine (all2_ev (fun k i => impl_RexSame.l0 k (x.f2.length : Int) i x.f0 x.f1 x.f2 y.f0 y.f1 y.f2) x.f2 y.f2 c2 (fun k => ?_) (fun i h h' => ?_)).eqs (yes_congr ?_)
          · show impl_RexSame.l0 (k + 1) (x.f2.length : Int) _ _ _ _ _ _ _ = _
            simp only [impl_RexSame.l0]; rw [if_neg (by omega)]
          · have hm : x.f2[i] ∈ x.f2 := List.getElem_mem h
            have : SizeOf.sizeOf x.f2[i] < SizeOf.sizeOf x := Nat.lt_trans (List.sizeOf_lt_of_mem hm) (kid_lt x)
            obtain ⟨K, hK⟩ := impl_RexSame_ev x.f2[i] (h3 _ hm) y.f2[i]
            dsimp only at hK
            refine ⟨K, fun k hk => ?_⟩
            show (_ → impl_RexSame.l0 (k + 1) (x.f2.length : Int) _ _ _ _ _ _ _ = impl_RexSame.l0 k (x.f2.length : Int) _ _ _ _ _ _ _) ∧ (_ → impl_RexSame.l0 (k + 1) (x.f2.length : Int) _ _ _ _ _ _ _ = _)
            have e : impl_RexSame.l0 (k + 1) (x.f2.length : Int) (i : Int) x.f0 x.f1 x.f2 y.f0 y.f1 y.f2 = if yes (x.f2[i] = y.f2[i]) = true then impl_RexSame.l0 k (x.f2.length : Int) ((i + 1 : Nat) : Int) x.f0 x.f1 x.f2 y.f0 y.f1 y.f2 else some false := by
              simp only [impl_RexSame.l0]
              unfold rd_T92
              rw [if_pos (by omega), if_pos (by omega), if_pos (by omega), if_pos (by omega), getD_at h, getD_at h', hK k hk, Option.bind_some, wrap_nat (by omega)]
            rw [e]
            exact ⟨fun he => by rw [yes_pos he, if_pos rfl], fun he => by rw [yes_neg he, if_neg (by simp)]⟩
          · rw [rex_ext (x := x) (y := y)]; exact ⟨fun h => ⟨c0, c1, h⟩, fun h => h.2.2⟩
        · refine (Ev.succ ?_ : Ev _ false).eqs (yes_neg fun h => c2 (by rw [h])).symm
          simp only [impl_RexSame.f, if_pos c0]
          refine Ev.bind hs ?_
          simp only [yes_pos c1, if_true]
          rw [show ((x.f2.length : Int) != (y.f2.length : Int)) = true by simp; omega]
          exact jt
      · refine (Ev.succ ?_ : Ev _ false).eqs (yes_neg fun h => c1 (by rw [h])).symm
        simp only [impl_RexSame.f, if_pos c0]
        refine Ev.bind hs ?_
        simp only [yes_neg c1, Bool.false_eq_true, if_false]
        exact jt
    · refine (Ev.succ ?_ : Ev _ false).eqs (yes_neg fun h => c0 (by rw [h])).symm
      simp only [impl_RexSame.f, if_neg c0]
      exact jt
termination_by x => SizeOf.sizeOf x


theorem spec_RexSame_ev : ∀ x : S92, RexB x → ∀ y : S92, Ev (fun k => spec_RexSame.f k x.f0 x.f1 x.f2 y.f0 y.f1 y.f2) (yes (x = y))
  | x, .mk _ h1 h2 h3 => fun y => by
    have jt : Ev (fun k => spec_RexSame.j0 k true x.f0 x.f1 x.f2 y.f0 y.f1 y.f2) false := Ev.ofSucc (g := fun k => spec_RexSame.j0 k true x.f0 x.f1 x.f2 y.f0 y.f1 y.f2) fun k => by simp [spec_RexSame.j0]
    by_cases c0 : x.f0 = y.f0
    · have hs := spec_SetSame_ev x.f1 y.f1 h1
      by_cases c1 : x.f1 = y.f1
      · by_cases c2 : x.f2.length = y.f2.length
        · refine Ev.succ ?_
          simp only [spec_RexSame.f, if_pos c0]
          refine Ev.bind hs ?_
          simp only [yes_pos c1, if_true]
          rw [show ((x.f2.length : Int) != (y.f2.length : Int)) = false by simp [c2]]
          refine Ev.succ ?_
          simp only [spec_RexSame.j0, Bool.false_eq_true, if_false]
          refine (all2_ev (fun k i => spec_RexSame.l0 k i x.f0 x.f1 x.f2 y.f0 y.f1 y.f2) x.f2 y.f2 c2 (fun k => ?_) (fun i h h' => ?_)).eqs (yes_congr ?_)
          · show spec_RexSame.l0 (k + 1) _ _ _ _ _ _ _ = _
            simp only [spec_RexSame.l0]; rw [if_neg (by omega)]
          · have hm : x.f2[i] ∈ x.f2 := List.getElem_mem h
            have : SizeOf.sizeOf x.f2[i] < SizeOf.sizeOf x := Nat.lt_trans (List.sizeOf_lt_of_mem hm) (kid_lt x)
            obtain ⟨K, hK⟩ := spec_RexSame_ev x.f2[i] (h3 _ hm) y.f2[i]
            dsimp only at hK
            refine ⟨K, fun k hk => ?_⟩
            show (_ → spec_RexSame.l0 (k + 1) _ _ _ _ _ _ _ = spec_RexSame.l0 k _ _ _ _ _ _ _) ∧ (_ → spec_RexSame.l0 (k + 1) _ _ _ _ _ _ _ = _)
            have e : spec_RexSame.l0 (k + 1) (i : Int) x.f0 x.f1 x.f2 y.f0 y.f1 y.f2 = if yes (x.f2[i] = y.f2[i]) = true then spec_RexSame.l0 k ((i + 1 : Nat) : Int) x.f0 x.f1 x.f2 y.f0 y.f1 y.f2 else some false := by
              simp only [spec_RexSame.l0]
              unfold rd_T92
              rw [if_pos (by omega), if_pos (by omega), if_pos (by omega), getD_at h, getD_at h', hK k hk, Option.bind_some, wrap_nat (by omega)]
            rw [e]
            exact ⟨fun he => by rw [yes_pos he, if_pos rfl], fun he => by rw [yes_neg he, if_neg (by simp)]⟩
          · rw [rex_ext (x := x) (y := y)]; exact ⟨fun h => ⟨c0, c1, h⟩, fun h => h.2.2⟩
        · refine (Ev.succ ?_ : Ev _ false).eqs (yes_neg fun h => c2 (by rw [h])).symm
          simp only [spec_RexSame.f, if_pos c0]
          refine Ev.bind hs ?_
          simp only [yes_pos c1, if_true]
          rw [show ((x.f2.length : Int) != (y.f2.length : Int)) = true by simp; omega]
          exact jt
      · refine (Ev.succ ?_ : Ev _ false).eqs (yes_neg fun h => c1 (by rw [h])).symm
        simp only [spec_RexSame.f, if_pos c0]
        refine Ev.bind hs ?_
        simp only [yes_neg c1, Bool.false_eq_true, if_false]
        exact jt
    · refine (Ev.succ ?_ : Ev _ false).eqs (yes_neg fun h => c0 (by rw [h])).symm
      simp only [spec_RexSame.f, if_neg c0]
      exact jt
termination_by x => SizeOf.sizeOf x


theorem eqRex_ev : ∀ x : S92, RexB x → ∀ y : S92, Ev (fun k => laws_eqRex.f k x.f0 x.f1 x.f2 y.f0 y.f1 y.f2) (yes (x = y))
  | x, .mk _ h1 h2 h3 => fun y => by
    by_cases c0 : x.f0 = y.f0
    · have hs := laws_eqSpanS_ev x.f1 y.f1 h1
      by_cases c1 : x.f1 = y.f1
      · have hk : Ev (fun k => laws_eqRexS.f k x.f2 y.f2) (yes (x.f2 = y.f2)) := by
          by_cases c2 : x.f2.length = y.f2.length
          · refine Ev.succ ?_
            simp only [laws_eqRexS.f, if_pos (show (x.f2.length : Int) = (y.f2.length : Int) by omega)]
            refine all2_ev (fun k i => laws_eqRexS.l0 k x.f2 y.f2 i) x.f2 y.f2 c2 (fun k => ?_) (fun i h h' => ?_)
            · show laws_eqRexS.l0 (k + 1) _ _ _ = _
              simp only [laws_eqRexS.l0]; rw [if_neg (by omega)]
            · have hm : x.f2[i] ∈ x.f2 := List.getElem_mem h
              have : SizeOf.sizeOf x.f2[i] < SizeOf.sizeOf x := Nat.lt_trans (List.sizeOf_lt_of_mem hm) (kid_lt x)
              obtain ⟨K, hK⟩ := eqRex_ev x.f2[i] (h3 _ hm) y.f2[i]
              dsimp only at hK
              refine ⟨K, fun k hk => ?_⟩
              show (_ → laws_eqRexS.l0 (k + 1) _ _ _ = laws_eqRexS.l0 k _ _ _) ∧ (_ → laws_eqRexS.l0 (k + 1) _ _ _ = _)
              have e : laws_eqRexS.l0 (k + 1) x.f2 y.f2 (i : Int) = if yes (x.f2[i] = y.f2[i]) = true then laws_eqRexS.l0 k x.f2 y.f2 ((i + 1 : Nat) : Int) else some false := by
                simp only [laws_eqRexS.l0]
                unfold rd_T92
                rw [if_pos (by omega), if_pos (by omega), if_pos (by omega), getD_at h, getD_at h', hK k hk, Option.bind_some, wrap_nat (by omega)]
              rw [e]
              exact ⟨fun he => by rw [yes_pos he, if_pos rfl], fun he => by rw [yes_neg he, if_neg (by simp)]⟩
          · refine (Ev.ofSucc (g := fun k => laws_eqRexS.f k x.f2 y.f2) (r := false) fun k => ?_).eqs (yes_neg fun h => c2 (by rw [h])).symm
            simp only [laws_eqRexS.f]; rw [if_neg (by omega)]
        refine Ev.succ ?_
        simp only [laws_eqRex.f, if_pos c0]
        refine Ev.bind hs ?_
        simp only [yes_pos c1, if_true]
        refine Ev.bind hk ?_
        by_cases c2 : x.f2 = y.f2
        · simp only [yes_pos c2, if_true]; rw [yes_pos (rex_ext.2 ⟨c0, c1, c2⟩)]; exact Ev.now _
        · simp only [yes_neg c2, Bool.false_eq_true, if_false]; rw [yes_neg (fun h => c2 (by rw [h]))]; exact Ev.now _
      · refine (Ev.succ ?_ : Ev _ false).eqs (yes_neg fun h => c1 (by rw [h])).symm
        simp only [laws_eqRex.f, if_pos c0]
        refine Ev.bind hs ?_
        simp only [yes_neg c1, Bool.false_eq_true, if_false]
        exact Ev.now _
    · refine (Ev.ofSucc (g := fun k => laws_eqRex.f k x.f0 x.f1 x.f2 y.f0 y.f1 y.f2) (r := false) fun k => ?_).eqs (yes_neg fun h => c0 (by rw [h])).symm
      simp only [laws_eqRex.f, if_neg c0]
termination_by x => SizeOf.sizeOf x
end Go.Proofs.Ytljaoggbfoimfaa.P

/- Rules: conversion, size and comparison. Conditions: each list in them is within the reach. -/
set_option linter.unusedVariables false
set_option linter.unusedSimpArgs false
namespace Go.Proofs.Ytljaoggbfoimfaa.P
open Go.Proofs.YtljaoggbfoimfaaW.PrintWords Go.RowKit

def RuleL (x : S88) : Prop := RexL x.f1
def RuleB (x : S94) : Prop := RexB x.f1
theorem toRuleS_ex (xs : List S88) (hn : xs.length * 72 ≤ 140737488351232) (h : ∀ x ∈ xs, RuleL x) : ∃ ys : List S94, ys.length = xs.length ∧ (∀ y ∈ ys, RuleB y) ∧ Ev (fun k => laws_toRuleS.f k xs) ys := by
  obtain ⟨ys, hl, hm, hE⟩ := fill_ex (fun k r i => laws_toRuleS.l0 k xs r i) xs (fun a b => RuleB b)
    (fun k r hr => by
      show laws_toRuleS.l0 (k + 1) xs r _ = _
      simp only [laws_toRuleS.l0]
      rw [if_neg (by omega)])
    (fun i hi => by
      obtain ⟨y, hy, K, hK⟩ := toRex_ex xs[i].f1 (h _ (List.getElem_mem hi))
      dsimp only at hK
      refine ⟨⟨xs[i].f0, y⟩, hy, K, fun k r hk hr => ?_⟩
      show laws_toRuleS.l0 (k + 1) xs r _ = laws_toRuleS.l0 k xs _ _
      simp only [laws_toRuleS.l0, laws_toRule.f]
      unfold rd_T88
      rw [if_pos (by omega), if_pos (by omega), getD_at hi, hK k hk, Option.bind_some, Option.bind_some, if_pos (by omega), wrap_nat (by omega), Int.toNat_natCast]
      have he : (⟨y.f0, y.f1, y.f2⟩ : S92) = y := by cases y; rfl
      simp only [he])
    (List.replicate xs.length z94) (by simp)
  refine ⟨ys, hl, fun y hy => by obtain ⟨_, _, hb⟩ := hm y hy; exact hb, Ev.congr (f := fun k => laws_toRuleS.l0 k xs (List.replicate xs.length z94) 0) (fun k => ?_) hE⟩
  show laws_toRuleS.f k xs = _
  unfold laws_toRuleS.f
  rw [if_pos (by omega), if_pos (by rw [Int.toNat_natCast]; omega), Int.toNat_natCast]
theorem szRuleS_ex (xs : List S88) (hn : xs.length * 72 ≤ 140737488351232) (h : ∀ x ∈ xs, RuleL x) (a : Int) : ∃ v, Ev (fun k => laws_szRuleS.f k xs a) v := by
  unfold laws_szRuleS.f
  by_cases c : wrap64 (a - (xs.length : Int)) < 0
  · simp only [if_pos c]; exact ⟨_, Ev.now _⟩
  simp only [if_neg c]
  refine walk_ex (fun k s i => laws_szRuleS.l0 k xs s i) xs.length
    (fun s => ⟨s, Ev.ofSucc (g := fun k => laws_szRuleS.l0 k xs s _) (fun k => by simp only [laws_szRuleS.l0]; rw [if_neg (by omega)])⟩)
    (fun i hi s => ?_) _
  have hr : ∃ y, Ev (fun k => laws_szRule.f k xs[i].f0 xs[i].f1.f0 xs[i].f1.f1 xs[i].f1.f2 s) y := by
    unfold laws_szRule.f
    by_cases c0 : wrap64 (s - (xs[i].f0.size : Int)) < 0
    · simp only [if_pos c0]; exact ⟨_, Ev.now _⟩
    simp only [if_neg c0]
    obtain ⟨y, hy⟩ := szRex_ex xs[i].f1 (h _ (List.getElem_mem hi)) (wrap64 (s - (xs[i].f0.size : Int)))
    by_cases c1 : y < 0
    · exact ⟨-1, Ev.bind hy (by simp only [if_pos c1]; exact Ev.now _)⟩
    · exact ⟨y, Ev.bind hy (by simp only [if_neg c1]; exact Ev.now _)⟩
  obtain ⟨y, hy⟩ := hr
  obtain ⟨K, hK⟩ := hy
  dsimp only at hK
  by_cases cy : y < 0
  · refine .inl ⟨-1, Ev.late (g := fun k => laws_szRuleS.l0 k xs s (i : Int)) (f := fun _ => some (-1)) ⟨K, fun k hk => ?_⟩ (Ev.now _)⟩
    simp only [laws_szRuleS.l0]
    unfold rd_T88
    rw [if_pos (by omega), if_pos (by omega), getD_at hi, hK k hk, Option.bind_some, if_pos cy]
  · refine .inr ⟨y, K, fun k hk => ?_⟩
    show laws_szRuleS.l0 (k + 1) xs s _ = laws_szRuleS.l0 k xs _ _
    simp only [laws_szRuleS.l0]
    unfold rd_T88
    rw [if_pos (by omega), if_pos (by omega), getD_at hi, hK k hk, Option.bind_some, if_neg cy, wrap_nat (by omega)]
theorem rule_ext {x y : S94} : x = y ↔ x.f0 = y.f0 ∧ x.f1 = y.f1 := by
  cases x; cases y; simp
theorem laws_eqRuleS_ev (xs ys : List S94) (hn : xs.length * 72 ≤ 140737488351232) (h : ∀ x ∈ xs, RuleB x) : Ev (fun k => laws_eqRuleS.f k xs ys) (yes (xs = ys)) := by
  unfold laws_eqRuleS.f
  by_cases hl : xs.length = ys.length
  · simp only [show (xs.length : Int) = (ys.length : Int) from by omega, if_true]
    refine all2_ev (fun k i => laws_eqRuleS.l0 k xs ys i) xs ys hl (fun k => ?_) (fun i hi h' => ?_)
    · show laws_eqRuleS.l0 (k + 1) xs ys _ = _
      simp only [laws_eqRuleS.l0]; rw [if_neg (by omega)]
    · obtain ⟨K, hK⟩ := eqRex_ev xs[i].f1 (h _ (List.getElem_mem hi)) ys[i].f1
      dsimp only at hK
      refine ⟨K, fun k hk => ?_⟩
      show (_ → laws_eqRuleS.l0 (k + 1) xs ys _ = laws_eqRuleS.l0 k xs ys _) ∧ (_ → laws_eqRuleS.l0 (k + 1) xs ys _ = _)
      have e : laws_eqRuleS.l0 (k + 1) xs ys (i : Int) = if yes (xs[i] = ys[i]) = true then laws_eqRuleS.l0 k xs ys ((i + 1 : Nat) : Int) else some false := by
        simp only [laws_eqRuleS.l0, laws_eqRule.f]
        unfold rd_T94
        rw [if_pos (by omega), if_pos (by omega), if_pos (by omega), getD_at hi, getD_at h', hK k hk, Option.bind_some, wrap_nat (by omega)]
        by_cases c0 : xs[i].f0 = ys[i].f0
        · rw [if_pos (bytes_same.2 c0)]
          by_cases c1 : xs[i].f1 = ys[i].f1
          · rw [yes_pos c1, yes_pos (rule_ext.2 ⟨c0, c1⟩)]; rfl
          · rw [yes_neg c1, yes_neg (fun h => c1 (by rw [h]))]; rfl
        · rw [if_neg (fun h => c0 (bytes_same.1 h)), yes_neg (fun h => c0 (by rw [h]))]; rfl
      rw [e]
      exact ⟨fun he => by rw [yes_pos he, if_pos rfl], fun he => by rw [yes_neg he, if_neg (by simp)]⟩
  · simp only [if_neg (show ¬ (xs.length : Int) = (ys.length : Int) from by omega)]
    exact (Ev.now false).eqs (yes_neg fun h => hl (by rw [h])).symm
end Go.Proofs.Ytljaoggbfoimfaa.P

/- Rules compared by the program and by the reference: alike. Conditions: each list in them is within the reach. -/
set_option linter.unusedVariables false
set_option linter.unusedSimpArgs false
namespace Go.Proofs.Ytljaoggbfoimfaa.P
open Go.Proofs.YtljaoggbfoimfaaW.PrintWords Go.RowKit

theorem impl_RulesSame_ev (xs ys : List S94) (hn : xs.length * 72 ≤ 140737488351232) (h : ∀ x ∈ xs, RuleB x) : Ev (fun k => impl_RulesSame.f k xs ys) (yes (xs = ys)) := by
  unfold impl_RulesSame.f
  by_cases hl : xs.length = ys.length
  · simp only [if_pos (show (xs.length : Int) = (ys.length : Int) from by omega)]
    refine all2_ev (fun k i => impl_RulesSame.l0 k xs ys (xs.length : Int) i) xs ys hl (fun k => ?_) (fun i hi h' => ?_)
    · show impl_RulesSame.l0 (k + 1) xs ys (xs.length : Int) _ = _
      simp only [impl_RulesSame.l0]; rw [if_neg (by omega)]
    · obtain ⟨K, hK⟩ := impl_RexSame_ev xs[i].f1 (h _ (List.getElem_mem hi)) ys[i].f1
      dsimp only at hK
      refine ⟨K, fun k hk => ?_⟩
      show (_ → impl_RulesSame.l0 (k + 1) xs ys (xs.length : Int) _ = impl_RulesSame.l0 k xs ys (xs.length : Int) _) ∧ (_ → impl_RulesSame.l0 (k + 1) xs ys (xs.length : Int) _ = _)
      have e : impl_RulesSame.l0 (k + 1) xs ys (xs.length : Int) (i : Int) = if yes (xs[i] = ys[i]) = true then impl_RulesSame.l0 k xs ys (xs.length : Int) ((i + 1 : Nat) : Int) else some false := by
        simp only [impl_RulesSame.l0]
        unfold rd_T94
        rw [if_pos (by omega), if_pos (by omega), if_pos (by omega), if_pos (by omega), getD_at hi, getD_at h', hK k hk, Option.bind_some, wrap_nat (by omega)]
        by_cases c0 : xs[i].f0 = ys[i].f0
        · rw [if_pos (bytes_same.2 c0)]
          by_cases c1 : xs[i].f1 = ys[i].f1
          · rw [yes_pos c1, yes_pos (rule_ext.2 ⟨c0, c1⟩)]
          · rw [yes_neg c1, yes_neg (fun h => c1 (by rw [h]))]
        · rw [if_neg (fun h => c0 (bytes_same.1 h)), yes_neg (fun h => c0 (by rw [h]))]; rfl
      rw [e]
      exact ⟨fun he => by rw [yes_pos he, if_pos rfl], fun he => by rw [yes_neg he, if_neg (by simp)]⟩
  · simp only [if_neg (show ¬ (xs.length : Int) = (ys.length : Int) from by omega)]
    exact (Ev.now false).eqs (yes_neg fun h => hl (by rw [h])).symm

theorem spec_RulesSame_ev (xs ys : List S94) (hn : xs.length * 72 ≤ 140737488351232) (h : ∀ x ∈ xs, RuleB x) : Ev (fun k => spec_RulesSame.f k xs ys) (yes (xs = ys)) := by
  unfold spec_RulesSame.f
  by_cases hl : xs.length = ys.length
  · simp only [if_pos (show (xs.length : Int) = (ys.length : Int) from by omega)]
    refine all2_ev (fun k i => spec_RulesSame.l0 k xs ys i) xs ys hl (fun k => ?_) (fun i hi h' => ?_)
    · show spec_RulesSame.l0 (k + 1) xs ys _ = _
      simp only [spec_RulesSame.l0]; rw [if_neg (by omega)]
    · obtain ⟨K, hK⟩ := spec_RexSame_ev xs[i].f1 (h _ (List.getElem_mem hi)) ys[i].f1
      dsimp only at hK
      refine ⟨K, fun k hk => ?_⟩
      show (_ → spec_RulesSame.l0 (k + 1) xs ys _ = spec_RulesSame.l0 k xs ys _) ∧ (_ → spec_RulesSame.l0 (k + 1) xs ys _ = _)
      have e : spec_RulesSame.l0 (k + 1) xs ys (i : Int) = if yes (xs[i] = ys[i]) = true then spec_RulesSame.l0 k xs ys ((i + 1 : Nat) : Int) else some false := by
        simp only [spec_RulesSame.l0]
        unfold rd_T94
        rw [if_pos (by omega), if_pos (by omega), if_pos (by omega), getD_at hi, getD_at h', hK k hk, Option.bind_some, wrap_nat (by omega)]
        by_cases c0 : xs[i].f0 = ys[i].f0
        · rw [if_pos (bytes_same.2 c0)]
          by_cases c1 : xs[i].f1 = ys[i].f1
          · rw [yes_pos c1, yes_pos (rule_ext.2 ⟨c0, c1⟩)]
          · rw [yes_neg c1, yes_neg (fun h => c1 (by rw [h]))]
        · rw [if_neg (fun h => c0 (bytes_same.1 h)), yes_neg (fun h => c0 (by rw [h]))]; rfl
      rw [e]
      exact ⟨fun he => by rw [yes_pos he, if_pos rfl], fun he => by rw [yes_neg he, if_neg (by simp)]⟩
  · simp only [if_neg (show ¬ (xs.length : Int) = (ys.length : Int) from by omega)]
    exact (Ev.now false).eqs (yes_neg fun h => hl (by rw [h])).symm
end Go.Proofs.Ytljaoggbfoimfaa.P

/- FnExactRulesSame, the plain statement: the program and the reference compare rules alike. Conditions: the arguments' lists are within the reach. -/
set_option linter.unusedVariables false
set_option linter.unusedSimpArgs false
namespace Go.Proofs.Ytljaoggbfoimfaa.Pure
open Go.RowKit Go.Proofs.Ytljaoggbfoimfaa.P Go.Proofs.YtljaoggbfoimfaaW.PrintWords Go.Proofs.YtljaoggbfoimfaaW.PrintLast
namespace FnExactRulesSame
theorem rexL {x : S86} (h : B86 x) : RexL x := by
  induction h with
  | mk x h0 h1 h2 h3 ih =>
    rw [show reachBytes = 140737488351232 from rfl] at h1 h2
    exact .mk x h1.1 h2 ih
end FnExactRulesSame

theorem FnExactRulesSame : FnExactRulesSame.Said := by
  intro l0 l1 h0 h1
  have hl0 := h0.1
  have hl1 := h1.1
  rw [show reachBytes = 140737488351232 from rfl] at hl0 hl1
  have hr0 : ∀ x ∈ l0, RuleL x := fun x hx => FnExactRulesSame.rexL (h0.2 x hx).2
  have hr1 : ∀ x ∈ l1, RuleL x := fun x hx => FnExactRulesSame.rexL (h1.2 x hx).2
  apply Ev.rounds
  unfold laws_FnExactRulesSame.f
  obtain ⟨v0, e0⟩ := szRuleS_ex l0 hl0 hr0 1048576
  refine Ev.bind e0 ?_
  by_cases c0 : v0 < 0
  · simp only [if_pos c0]; exact Ev.now _
  simp only [if_neg c0]
  obtain ⟨v1, e1⟩ := szRuleS_ex l1 hl1 hr1 v0
  refine Ev.bind e1 ?_
  by_cases c1 : v1 < 0
  · simp only [if_pos c1]; exact Ev.now _
  simp only [if_neg c1]
  obtain ⟨y0, n0, b0, a0⟩ := toRuleS_ex l0 hl0 hr0
  obtain ⟨y1, n1, b1, a1⟩ := toRuleS_ex l1 hl1 hr1
  rw [← n0] at hl0
  rw [← n1] at hl1
  refine Ev.bind a0 (Ev.bind a1 (Ev.bind (spec_RulesSame_ev _ _ hl0 b0) (Ev.bind a0 (Ev.bind a1 (Ev.bind (impl_RulesSame_ev _ _ hl0 b0) ?_)))))
  simp only [bne_self_eq_false, Bool.false_eq_true, if_false]
  refine Ev.bind a0 (Ev.bind (laws_eqRuleS_ev _ _ hl0 b0) ?_)
  simp only [yes_pos, if_true]
  refine Ev.bind a1 (Ev.bind (laws_eqRuleS_ev _ _ hl1 b1) ?_)
  simp only [yes_pos, if_true]
  exact Ev.now _
end Go.Proofs.Ytljaoggbfoimfaa.Pure

/- FnExactRulesSame: for every input that can be read as data the law returns true and its arguments read as before. Conditions: those of the given row, no other. -/
namespace Go.Proofs.Ytljaoggbfoimfaa.fnExactRulesSame
open Go.ChangeShapes Go.WideShapes Go.ChangeAt Go.RowKit Go.Proofs.Ytljaoggbfoimfaa.Rd Go.Proofs.Ytljaoggbfoimfaa.Pure.FnExactRulesSame Go.Proofs.Ytljaoggbfoimfaa.P Go.Proofs.YtljaoggbfoimfaaW.PrintWords Go.Proofs.YtljaoggbfoimfaaW.PrintLast
open Go.ChangeMaps (open_string shut_string)
set_option linter.unusedVariables false
set_option linter.unusedSimpArgs false
theorem own : ownKnob Try.prog.godebug = none := by kernel_rfl
theorem laidOut : laidOutB Try.prog = true := by kernel_rfl
set_option maxRecDepth 100000 in
theorem lifted (os : Os) (started : os.Started) (H : Type) (enc : TypeId × Value → H) :
    ReturnsInHanded {} Try.checked os 8 .any (Rows.fnExactRulesSameSpec.pre6 enc Try.prog Try.f8 Rows.fnExactRulesSameRow.domain false) (Rows.fnExactRulesSameSpec.post enc Try.prog Try.f8 false true false false) := by
  refine returnsInHanded_of_change_sized (C := Try.checked) own started (by kernel_rfl) Try.func8
    (ChangeSpec.witness6 (enc := enc) (C := Try.checked) false ⟨#[], #[.slice none 0 0, .slice none 0 0], []⟩ 8 (by kernel_rfl) (by kernel_rfl) (by kernel_rfl) (by kernel_rfl)) ?_
  intro W base args ds gs before hval0 hW hcnd hsz0 _
  have hsz : (DataW.weightsEach Try.prog (Try.f8.params.toList ++ Rows.fnExactRulesSameSpec.plain.varTypes Try.prog) (ds ++ gs)).all (· ≤ reachBytes) = true := hsz0
  have hval : ∀ (j : Nat) t v, Try.f8.params[j]? = some t → args[j]? = some v → Value.okWide Try.prog W .any base t v := hval0
  have hW' := hW
  obtain ⟨p, q, hA0, hV, rfl, hfz, hnd⟩ := hW
  have hA : DataW.TrodAll enc Try.prog W 0 (fun _ => true) true Try.f8.params.toList args.toList ds p := hA0
  rw [Try.params8] at hA hval hsz
  obtain ⟨v0, vs0, d0, ds0, p0, q0, hargs, rfl, rfl, h0, r0⟩ := trodAll_cons hA
  obtain ⟨v1, vs1, d1, ds1, p1, q1, rfl, rfl, rfl, h1, r1⟩ := trodAll_cons r0
  obtain ⟨rfl, rfl, rfl⟩ := trodAll_nil r1
  obtain rfl : args = #[v0, v1] := by cases args; simp_all
  obtain ⟨rfl, rfl⟩ := trodVars_none hV
  have z0 : ∀ q ∈ d0.weights Try.prog 40, q ≤ reachBytes := fun q hq => by simpa using List.all_eq_true.1 hsz q (DataW.weights_mem_each (j := 0) rfl rfl q hq)
  have k0 := h0
  have lt0 : ∀ x ∈ p0, x.block < W.heap.size := by obtain ⟨m, hm⟩ := k0; exact DataW.trod_lt m _ _ _ hm
  obtain ⟨x0, hx0, y0⟩ : ∃ x0 : (List S88), (Kd.slice 88 k88).K W x0 v0.cells.toList ∧ (x0.length * 72 ≤ reachBytes ∧ ∀ y2 ∈ x0, B88 y2) := Rd.arg (fun n => ((Rd.slice (b := 72) (rd88 _) Try.underlying40 (by kernel_rfl) (by kernel_rfl)).le (Nat.le_succ _))) h0 z0
  obtain ⟨a0, len0, cap0, rfl⟩ := okWide_slice Try.underlying40 (hval 0 40 v0 rfl rfl)
  obtain ⟨A0, c0, hcs0, hc0, hr0⟩ := hx0
  obtain ⟨rfl, rfl, rfl⟩ : a0 = A0 ∧ len0 = x0.length ∧ cap0 = c0 := by simpa [Value.cells] using hcs0
  have z1 : ∀ q ∈ d1.weights Try.prog 40, q ≤ reachBytes := fun q hq => by simpa using List.all_eq_true.1 hsz q (DataW.weights_mem_each (j := 1) rfl rfl q hq)
  have k1 := h1
  have lt1 : ∀ x ∈ p1, x.block < W.heap.size := by obtain ⟨m, hm⟩ := k1; exact DataW.trod_lt m _ _ _ hm
  obtain ⟨x1, hx1, y1⟩ : ∃ x1 : (List S88), (Kd.slice 88 k88).K W x1 v1.cells.toList ∧ (x1.length * 72 ≤ reachBytes ∧ ∀ y2 ∈ x1, B88 y2) := Rd.arg (fun n => ((Rd.slice (b := 72) (rd88 _) Try.underlying40 (by kernel_rfl) (by kernel_rfl)).le (Nat.le_succ _))) h1 z1
  obtain ⟨a1, len1, cap1, rfl⟩ := okWide_slice Try.underlying40 (hval 1 40 v1 rfl rfl)
  obtain ⟨A1, c1, hcs1, hc1, hr1⟩ := hx1
  obtain ⟨rfl, rfl, rfl⟩ : a1 = A1 ∧ len1 = x1.length ∧ cap1 = c1 := by simpa [Value.cells] using hcs1
  clear hA0 hval0 hsz0 hsz
  obtain ⟨k, hk⟩ := Pure.FnExactRulesSame x0 x1 y0 y1
  refine (laws_FnExactRulesSame.calls k a0 cap0 x0 a1 cap1 x1 true W hr0 hc0 hr1 hc1 rfl hk).mono fun e W' ⟨he, bel0⟩ => ?_
  have bel : Below W.heap.size W W' := bel0
  subst he
  exact ⟨_, rfl, _, _, _, [], _, [], hW', trodAll_mk1 (shut_bool Try.underlying4 _), (trodAll_cons_mk (Below.trod laidOut (by kernel_rfl) (of_decide_eq_true (by kernel_rfl)) k0 bel lt0) (trodAll_cons_mk (Below.trod laidOut (by kernel_rfl) (of_decide_eq_true (by kernel_rfl)) k1 bel lt1) trodAll_mk0)), rfl, bel.frame _, fun h => by cases h⟩
theorem over : Rows.fnExactRulesSameRow.holds Try.pinned (OpenSpec.ofChange Rows.fnExactRulesSameSpec) :=
  OpenClaim.holds_of_wide 8 Try.f8 rfl rfl rfl rfl rfl rfl rfl ⟨rfl, rfl, rfl, rfl, rfl⟩ rfl rfl rfl rfl rfl (by kernel_rfl) Try.func8 (by kernel_rfl)
    (of_decide_eq_true (by kernel_rfl)) (by unfold Func.isWrapper; first | (rw [if_pos (by decide +kernel)]; kernel_rfl) | (rw [if_neg (by decide +kernel)]; exact ⟨rfl, rfl⟩))
    (fun os started H enc _ => lifted os started H enc)
theorem proved : Rows.FnExactRulesSameSaid := over
end Go.Proofs.Ytljaoggbfoimfaa.fnExactRulesSame
namespace Go.Proofs.Ytljaoggbfoimfaa
/-- The row, under a short name, for the claim. -/
theorem fnExactRulesSame_holds : Rows.FnExactRulesSameSaid := fnExactRulesSame.proved
end Go.Proofs.Ytljaoggbfoimfaa
