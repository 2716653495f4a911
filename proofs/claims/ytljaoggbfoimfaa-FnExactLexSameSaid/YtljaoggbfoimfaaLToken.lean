/- Plain lemmas on lists of flat structs: conversions, comparisons, sizes. Conditions: a list's length is within the reach. -/
import Derived.Test.YtljaoggbfoimfaaEv
import Derived.Test.YtljaoggbfoimfaaPlawstoTokenS
import Derived.Test.YtljaoggbfoimfaaPlawseqTokenS
import Derived.Test.YtljaoggbfoimfaaPspecLexSame
import Derived.Test.YtljaoggbfoimfaaPimplLexSame
import Derived.Test.YtljaoggbfoimfaaPlawsszTokenS
set_option linter.unusedVariables false
set_option linter.unusedSimpArgs false
namespace Go.Proofs.Ytljaoggbfoimfaa.P
open Go.Proofs.YtljaoggbfoimfaaW.PrintWords Go.RowKit
/-! ### Token -/
def toToken (x : S73) : S71 := ⟨x.f0, x.f1, x.f2⟩
theorem toTokenS_ev (xs : List S73) (hn : xs.length * 24 ≤ 140737488351232) : Ev (fun k => laws_toTokenS.f k xs) (xs.map toToken) := by
  refine Ev.congr (f := fun k => laws_toTokenS.l0 k xs (List.replicate xs.length z71) 0) (fun k => ?_) ?_
  · show laws_toTokenS.f k xs = _
    unfold laws_toTokenS.f
    rw [if_pos (by omega), if_pos (by rw [Int.toNat_natCast]; omega), Int.toNat_natCast]
  · refine fill_ev (fun k r i => laws_toTokenS.l0 k xs r i) xs toToken (fun k r hr => ?_) (fun i h => ⟨0, fun k r _ hr => ?_⟩) _ (by simp)
    · show laws_toTokenS.l0 (k + 1) xs r _ = _
      simp only [laws_toTokenS.l0]
      rw [if_neg (by omega)]
    · show laws_toTokenS.l0 (k + 1) xs r _ = laws_toTokenS.l0 k xs _ _
      simp only [laws_toTokenS.l0, laws_toToken.f]
      rw [if_pos (by omega), if_pos (by omega), Option.bind_some, if_pos (by omega), wrap_nat (by omega), Int.toNat_natCast]
      unfold rd_T73
      rw [getD_at h]
      rfl
theorem spec_LexSame_ev (xs ys : List S71) (hn : xs.length * 24 ≤ 140737488351232) : Ev (fun k => spec_LexSame.f k xs ys) (yes (xs = ys)) := by
  by_cases hl : xs.length = ys.length
  · refine Ev.congr (f := fun k => spec_LexSame.l0 k xs ys 0) (fun k => ?_) ?_
    · show spec_LexSame.f k xs ys = _
      unfold spec_LexSame.f
      rw [if_pos (by omega)]
    · refine all2_ev (fun k i => spec_LexSame.l0 k xs ys i) xs ys hl (fun k => ?_) (fun i h h' => ⟨0, fun k _ => ⟨fun he => ?_, fun he => ?_⟩⟩)
      · show spec_LexSame.l0 (k + 1) xs ys _ = _
        simp only [spec_LexSame.l0]
        rw [if_neg (by omega)]
      · show spec_LexSame.l0 (k + 1) xs ys _ = spec_LexSame.l0 k xs ys _
        simp only [spec_LexSame.l0]
        rw [if_pos (by omega), if_pos (by omega), if_pos (by omega), wrap_nat (by omega)]
        unfold rd_T71
        rw [getD_at h, getD_at h', he]
        simp
      · show spec_LexSame.l0 (k + 1) xs ys _ = _
        simp only [spec_LexSame.l0]
        rw [if_pos (by omega), if_pos (by omega), if_pos (by omega)]
        unfold rd_T71
        rw [getD_at h, getD_at h']
        have hne : ¬ (xs[i].f0 = ys[i].f0 ∧ xs[i].f1 = ys[i].f1 ∧ xs[i].f2 = ys[i].f2) := fun ⟨e0, e1, e2⟩ => he (by cases hx : xs[i]; cases hy : ys[i]; simp_all)
        by_cases e0 : xs[i].f0 = ys[i].f0 <;> by_cases e1 : xs[i].f1 = ys[i].f1 <;> by_cases e2 : xs[i].f2 = ys[i].f2 <;> simp_all
  · refine (Ev.congr (f := fun _ => some false) (fun k => ?_) (Ev.now false)).eqs (yes_neg fun h => hl (by rw [h])).symm
    show spec_LexSame.f k xs ys = _
    unfold spec_LexSame.f
    rw [if_neg (by omega)]
theorem impl_same_impl_Token_ev (xs ys : List S71) (hn : xs.length * 24 ≤ 140737488351232) : Ev (fun k => impl_same_impl_Token.f k xs ys) (yes (xs = ys)) := by
  by_cases hl : xs.length = ys.length
  · refine Ev.congr (f := fun k => impl_same_impl_Token.l0 k xs ys (xs.length : Int) 0) (fun k => ?_) ?_
    · show impl_same_impl_Token.f k xs ys = _
      unfold impl_same_impl_Token.f
      rw [if_pos (by omega)]
    · refine all2_ev (fun k i => impl_same_impl_Token.l0 k xs ys (xs.length : Int) i) xs ys hl (fun k => ?_) (fun i h h' => ⟨0, fun k _ => ⟨fun he => ?_, fun he => ?_⟩⟩)
      · show impl_same_impl_Token.l0 (k + 1) xs ys (xs.length : Int) _ = _
        simp only [impl_same_impl_Token.l0]
        rw [if_neg (by omega)]
      · show impl_same_impl_Token.l0 (k + 1) xs ys (xs.length : Int) _ = impl_same_impl_Token.l0 k xs ys (xs.length : Int) _
        simp only [impl_same_impl_Token.l0]
        rw [if_pos (by omega), if_pos (by omega), if_pos (by omega), if_pos (by omega), wrap_nat (by omega)]
        unfold rd_T71
        rw [getD_at h, getD_at h', he]
        simp
      · show impl_same_impl_Token.l0 (k + 1) xs ys (xs.length : Int) _ = _
        simp only [impl_same_impl_Token.l0]
        rw [if_pos (by omega), if_pos (by omega), if_pos (by omega), if_pos (by omega)]
        unfold rd_T71
        rw [getD_at h, getD_at h']
        have hne : ¬ (xs[i].f0 = ys[i].f0 ∧ xs[i].f1 = ys[i].f1 ∧ xs[i].f2 = ys[i].f2) := fun ⟨e0, e1, e2⟩ => he (by cases hx : xs[i]; cases hy : ys[i]; simp_all)
        by_cases e0 : xs[i].f0 = ys[i].f0 <;> by_cases e1 : xs[i].f1 = ys[i].f1 <;> by_cases e2 : xs[i].f2 = ys[i].f2 <;> simp_all
  · refine (Ev.congr (f := fun _ => some false) (fun k => ?_) (Ev.now false)).eqs (yes_neg fun h => hl (by rw [h])).symm
    show impl_same_impl_Token.f k xs ys = _
    unfold impl_same_impl_Token.f
    rw [if_neg (by omega)]
theorem impl_LexSame_ev (xs ys : List S71) (hn : xs.length * 24 ≤ 140737488351232) : Ev (fun k => impl_LexSame.f k xs ys) (yes (xs = ys)) := by
  refine (impl_same_impl_Token_ev xs ys hn).bind (f := fun _ t => some t) (Ev.now _)
theorem laws_eqTokenS_ev (xs ys : List S71) (hn : xs.length * 24 ≤ 140737488351232) : Ev (fun k => laws_eqTokenS.f k xs ys) (yes (xs = ys)) := by
  by_cases hl : xs.length = ys.length
  · refine Ev.congr (f := fun k => laws_eqTokenS.l0 k xs ys 0) (fun k => ?_) ?_
    · show laws_eqTokenS.f k xs ys = _
      unfold laws_eqTokenS.f
      rw [if_pos (by omega)]
    · refine all2_ev (fun k i => laws_eqTokenS.l0 k xs ys i) xs ys hl (fun k => ?_) (fun i h h' => ⟨0, fun k _ => ⟨fun he => ?_, fun he => ?_⟩⟩)
      · show laws_eqTokenS.l0 (k + 1) xs ys _ = _
        simp only [laws_eqTokenS.l0]
        rw [if_neg (by omega)]
      · show laws_eqTokenS.l0 (k + 1) xs ys _ = laws_eqTokenS.l0 k xs ys _
        simp only [laws_eqTokenS.l0, laws_eqToken.f]
        rw [if_pos (by omega), if_pos (by omega), if_pos (by omega), wrap_nat (by omega)]
        unfold rd_T71
        rw [getD_at h, getD_at h', he]
        simp
      · show laws_eqTokenS.l0 (k + 1) xs ys _ = _
        simp only [laws_eqTokenS.l0, laws_eqToken.f]
        rw [if_pos (by omega), if_pos (by omega), if_pos (by omega)]
        unfold rd_T71
        rw [getD_at h, getD_at h']
        have hne : ¬ (xs[i].f0 = ys[i].f0 ∧ xs[i].f1 = ys[i].f1 ∧ xs[i].f2 = ys[i].f2) := fun ⟨e0, e1, e2⟩ => he (by cases hx : xs[i]; cases hy : ys[i]; simp_all)
        by_cases e0 : xs[i].f0 = ys[i].f0 <;> by_cases e1 : xs[i].f1 = ys[i].f1 <;> by_cases e2 : xs[i].f2 = ys[i].f2 <;> simp_all
  · refine (Ev.congr (f := fun _ => some false) (fun k => ?_) (Ev.now false)).eqs (yes_neg fun h => hl (by rw [h])).symm
    show laws_eqTokenS.f k xs ys = _
    unfold laws_eqTokenS.f
    rw [if_neg (by omega)]
theorem szTokenS_some (xs : List S73) (a : Int) : ∃ v, laws_szTokenS.f xs a = some v := by
  unfold laws_szTokenS.f
  split <;> exact ⟨_, rfl⟩
end Go.Proofs.Ytljaoggbfoimfaa.P
