/- Plain lemmas on lists of flat structs: conversions, comparisons, sizes. Conditions: a list's length is within the reach. -/
import Derived.Test.YtljaoggbfoimfaaEv
import Derived.Test.YtljaoggbfoimfaaPlawstoInsS
import Derived.Test.YtljaoggbfoimfaaPlawseqInsS
import Derived.Test.YtljaoggbfoimfaaPspecProgSame
import Derived.Test.YtljaoggbfoimfaaPimplProgSame
import Derived.Test.YtljaoggbfoimfaaPlawsszInsS
set_option linter.unusedVariables false
set_option linter.unusedSimpArgs false
namespace Go.Proofs.Ytljaoggbfoimfaa.P
open Go.Proofs.YtljaoggbfoimfaaW.PrintWords Go.RowKit
/-! ### Ins -/
def toIns (x : S78) : S76 := ⟨x.f0, x.f1, x.f2, x.f3⟩
theorem toInsS_ev (xs : List S78) (hn : xs.length * 32 ≤ 140737488351232) : Ev (fun k => laws_toInsS.f k xs) (xs.map toIns) := by
  refine Ev.congr (f := fun k => laws_toInsS.l0 k xs (List.replicate xs.length z76) 0) (fun k => ?_) ?_
  · show laws_toInsS.f k xs = _
    unfold laws_toInsS.f
    rw [if_pos (by omega), if_pos (by rw [Int.toNat_natCast]; omega), Int.toNat_natCast]
  · refine fill_ev (fun k r i => laws_toInsS.l0 k xs r i) xs toIns (fun k r hr => ?_) (fun i h => ⟨0, fun k r _ hr => ?_⟩) _ (by simp)
    · show laws_toInsS.l0 (k + 1) xs r _ = _
      simp only [laws_toInsS.l0]
      rw [if_neg (by omega)]
    · show laws_toInsS.l0 (k + 1) xs r _ = laws_toInsS.l0 k xs _ _
      simp only [laws_toInsS.l0, laws_toIns.f]
      rw [if_pos (by omega), if_pos (by omega), Option.bind_some, if_pos (by omega), wrap_nat (by omega), Int.toNat_natCast]
      unfold rd_T78
      rw [getD_at h]
      rfl
theorem spec_ProgSame_ev (xs ys : List S76) (hn : xs.length * 32 ≤ 140737488351232) : Ev (fun k => spec_ProgSame.f k xs ys) (yes (xs = ys)) := by
  by_cases hl : xs.length = ys.length
  · refine Ev.congr (f := fun k => spec_ProgSame.l0 k xs ys 0) (fun k => ?_) ?_
    · show spec_ProgSame.f k xs ys = _
      unfold spec_ProgSame.f
      rw [if_pos (by omega)]
    · refine all2_ev (fun k i => spec_ProgSame.l0 k xs ys i) xs ys hl (fun k => ?_) (fun i h h' => ⟨0, fun k _ => ⟨fun he => ?_, fun he => ?_⟩⟩)
      · show spec_ProgSame.l0 (k + 1) xs ys _ = _
        simp only [spec_ProgSame.l0]
        rw [if_neg (by omega)]
      · show spec_ProgSame.l0 (k + 1) xs ys _ = spec_ProgSame.l0 k xs ys _
        simp only [spec_ProgSame.l0]
        rw [if_pos (by omega), if_pos (by omega), if_pos (by omega), wrap_nat (by omega)]
        unfold rd_T76
        rw [getD_at h, getD_at h', he]
        simp
      · show spec_ProgSame.l0 (k + 1) xs ys _ = _
        simp only [spec_ProgSame.l0]
        rw [if_pos (by omega), if_pos (by omega), if_pos (by omega)]
        unfold rd_T76
        rw [getD_at h, getD_at h']
        have hne : ¬ (xs[i].f0 = ys[i].f0 ∧ xs[i].f1 = ys[i].f1 ∧ xs[i].f2 = ys[i].f2 ∧ xs[i].f3 = ys[i].f3) := fun ⟨e0, e1, e2, e3⟩ => he (by cases hx : xs[i]; cases hy : ys[i]; simp_all)
        by_cases e0 : xs[i].f0 = ys[i].f0 <;> by_cases e1 : xs[i].f1 = ys[i].f1 <;> by_cases e2 : xs[i].f2 = ys[i].f2 <;> by_cases e3 : xs[i].f3 = ys[i].f3 <;> simp_all
  · refine (Ev.congr (f := fun _ => some false) (fun k => ?_) (Ev.now false)).eqs (yes_neg fun h => hl (by rw [h])).symm
    show spec_ProgSame.f k xs ys = _
    unfold spec_ProgSame.f
    rw [if_neg (by omega)]
theorem impl_same_impl_Ins_ev (xs ys : List S76) (hn : xs.length * 32 ≤ 140737488351232) : Ev (fun k => impl_same_impl_Ins.f k xs ys) (yes (xs = ys)) := by
  by_cases hl : xs.length = ys.length
  · refine Ev.congr (f := fun k => impl_same_impl_Ins.l0 k xs ys (xs.length : Int) 0) (fun k => ?_) ?_
    · show impl_same_impl_Ins.f k xs ys = _
      unfold impl_same_impl_Ins.f
      rw [if_pos (by omega)]
    · refine all2_ev (fun k i => impl_same_impl_Ins.l0 k xs ys (xs.length : Int) i) xs ys hl (fun k => ?_) (fun i h h' => ⟨0, fun k _ => ⟨fun he => ?_, fun he => ?_⟩⟩)
      · show impl_same_impl_Ins.l0 (k + 1) xs ys (xs.length : Int) _ = _
        simp only [impl_same_impl_Ins.l0]
        rw [if_neg (by omega)]
      · show impl_same_impl_Ins.l0 (k + 1) xs ys (xs.length : Int) _ = impl_same_impl_Ins.l0 k xs ys (xs.length : Int) _
        simp only [impl_same_impl_Ins.l0]
        rw [if_pos (by omega), if_pos (by omega), if_pos (by omega), if_pos (by omega), wrap_nat (by omega)]
        unfold rd_T76
        rw [getD_at h, getD_at h', he]
        simp
      · show impl_same_impl_Ins.l0 (k + 1) xs ys (xs.length : Int) _ = _
        simp only [impl_same_impl_Ins.l0]
        rw [if_pos (by omega), if_pos (by omega), if_pos (by omega), if_pos (by omega)]
        unfold rd_T76
        rw [getD_at h, getD_at h']
        have hne : ¬ (xs[i].f0 = ys[i].f0 ∧ xs[i].f1 = ys[i].f1 ∧ xs[i].f2 = ys[i].f2 ∧ xs[i].f3 = ys[i].f3) := fun ⟨e0, e1, e2, e3⟩ => he (by cases hx : xs[i]; cases hy : ys[i]; simp_all)
        by_cases e0 : xs[i].f0 = ys[i].f0 <;> by_cases e1 : xs[i].f1 = ys[i].f1 <;> by_cases e2 : xs[i].f2 = ys[i].f2 <;> by_cases e3 : xs[i].f3 = ys[i].f3 <;> simp_all
  · refine (Ev.congr (f := fun _ => some false) (fun k => ?_) (Ev.now false)).eqs (yes_neg fun h => hl (by rw [h])).symm
    show impl_same_impl_Ins.f k xs ys = _
    unfold impl_same_impl_Ins.f
    rw [if_neg (by omega)]
theorem impl_ProgSame_ev (xs ys : List S76) (hn : xs.length * 32 ≤ 140737488351232) : Ev (fun k => impl_ProgSame.f k xs ys) (yes (xs = ys)) := by
  refine (impl_same_impl_Ins_ev xs ys hn).bind (f := fun _ t => some t) (Ev.now _)
theorem laws_eqInsS_ev (xs ys : List S76) (hn : xs.length * 32 ≤ 140737488351232) : Ev (fun k => laws_eqInsS.f k xs ys) (yes (xs = ys)) := by
  by_cases hl : xs.length = ys.length
  · refine Ev.congr (f := fun k => laws_eqInsS.l0 k xs ys 0) (fun k => ?_) ?_
    · show laws_eqInsS.f k xs ys = _
      unfold laws_eqInsS.f
      rw [if_pos (by omega)]
    · refine all2_ev (fun k i => laws_eqInsS.l0 k xs ys i) xs ys hl (fun k => ?_) (fun i h h' => ⟨0, fun k _ => ⟨fun he => ?_, fun he => ?_⟩⟩)
      · show laws_eqInsS.l0 (k + 1) xs ys _ = _
        simp only [laws_eqInsS.l0]
        rw [if_neg (by omega)]
      · show laws_eqInsS.l0 (k + 1) xs ys _ = laws_eqInsS.l0 k xs ys _
        simp only [laws_eqInsS.l0, laws_eqIns.f]
        rw [if_pos (by omega), if_pos (by omega), if_pos (by omega), wrap_nat (by omega)]
        unfold rd_T76
        rw [getD_at h, getD_at h', he]
        simp
      · show laws_eqInsS.l0 (k + 1) xs ys _ = _
        simp only [laws_eqInsS.l0, laws_eqIns.f]
        rw [if_pos (by omega), if_pos (by omega), if_pos (by omega)]
        unfold rd_T76
        rw [getD_at h, getD_at h']
        have hne : ¬ (xs[i].f0 = ys[i].f0 ∧ xs[i].f1 = ys[i].f1 ∧ xs[i].f2 = ys[i].f2 ∧ xs[i].f3 = ys[i].f3) := fun ⟨e0, e1, e2, e3⟩ => he (by cases hx : xs[i]; cases hy : ys[i]; simp_all)
        by_cases e0 : xs[i].f0 = ys[i].f0 <;> by_cases e1 : xs[i].f1 = ys[i].f1 <;> by_cases e2 : xs[i].f2 = ys[i].f2 <;> by_cases e3 : xs[i].f3 = ys[i].f3 <;> simp_all
  · refine (Ev.congr (f := fun _ => some false) (fun k => ?_) (Ev.now false)).eqs (yes_neg fun h => hl (by rw [h])).symm
    show laws_eqInsS.f k xs ys = _
    unfold laws_eqInsS.f
    rw [if_neg (by omega)]
theorem szInsS_some (xs : List S78) (a : Int) : ∃ v, laws_szInsS.f xs a = some v := by
  unfold laws_szInsS.f
  split <;> exact ⟨_, rfl⟩
end Go.Proofs.Ytljaoggbfoimfaa.P
