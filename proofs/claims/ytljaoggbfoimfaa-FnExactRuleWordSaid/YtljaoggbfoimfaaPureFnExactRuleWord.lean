/- For every text the program's RuleWord and the reference's RuleWord answer the same. Condition: none but the model's bound on a text's size. -/
import Derived.Test.YtljaoggbfoimfaaPFnExactRuleWordx1
namespace Go.Proofs.Ytljaoggbfoimfaa.Pure
open Go.RowKit Go.Proofs.Ytljaoggbfoimfaa.PFnExactRuleWord Go.Proofs.YtljaoggbfoimfaaW.PrintWords Go.Proofs.YtljaoggbfoimfaaW.PrintLast

theorem ruleWord_bt (s : ByteArray) (i : Int) : 0 ≤ bt s i ∧ bt s i < 256 := by
  have := bt_range s i
  omega

theorem ruleWord_loops (s : ByteArray) (hn : s.size ≤ 140737488351232) (d : Nat) : ∀ (k : Nat) (i : Int), 0 ≤ i → i ≤ s.size → (s.size : Int) - i = d → d < k →
    ∃ r, spec_RuleWord.l0 k s i = some r ∧ impl_RuleWord.l0 k s i = some r := by
  induction d with
  | zero =>
    intro k i h0 h1 hd hk
    obtain ⟨k, rfl⟩ : ∃ m, k = m + 1 := ⟨k - 1, by omega⟩
    have hge : ¬ i < (s.size : Int) := by omega
    simp only [spec_RuleWord.l0, impl_RuleWord.l0, impl_in.f]
    rw [if_neg hge, if_neg hge]
    by_cases h : (s.size : Int) > 0
    · rw [if_pos h, if_pos (by omega)]; exact ⟨_, rfl, rfl⟩
    · rw [if_neg h, if_neg (by omega)]; exact ⟨_, rfl, rfl⟩
  | succ d ih =>
    intro k i h0 h1 hd hk
    obtain ⟨k, rfl⟩ : ∃ m, k = m + 1 := ⟨k - 1, by omega⟩
    have hlt : i < (s.size : Int) := by omega
    obtain ⟨hb0, hb1⟩ := ruleWord_bt s i
    have hw : wrap64 (bt s i) = bt s i := by unfold wrap64; omega
    have hi : wrap64 (i + 1) = i + 1 := by unfold wrap64; omega
    obtain ⟨r, e1, e2⟩ := ih k (i + 1) (by omega) (by omega) (by omega) (by omega)
    simp only [spec_RuleWord.l0, impl_RuleWord.l0, impl_in.f]
    rw [if_pos hlt, if_pos hlt, if_pos h0, if_pos h0, hw, hi]
    by_cases ha : bt s i < 97
    · have hb : ¬ bt s i ≥ 97 := by omega
      rw [if_pos ha, if_neg hb]; exact ⟨false, rfl, rfl⟩
    · have hb : bt s i ≥ 97 := by omega
      rw [if_neg ha, if_pos hb]
      by_cases hz : bt s i > 122
      · have : ¬ bt s i ≤ 122 := by omega
        rw [if_pos hz]; refine ⟨false, rfl, ?_⟩
        simp [this]
      · have : bt s i ≤ 122 := by omega
        rw [if_neg hz]; refine ⟨r, e1, ?_⟩
        simp [this, e2]

theorem FnExactRuleWord : laws_FnExactRuleWord.Pure := by
  intro s hn
  obtain ⟨r, e1, e2⟩ := ruleWord_loops s hn s.size (s.size + 1) 0 (by omega) (by omega) (by omega) (by omega)
  refine ⟨s.size + 1, ?_⟩
  unfold laws_FnExactRuleWord.f spec_RuleWord.f impl_RuleWord.f
  rw [e1, e2]
  by_cases h : (s.size : Int) > 1048576
  · rw [if_pos h]
  · rw [if_neg h]; simp

end Go.Proofs.Ytljaoggbfoimfaa.Pure
