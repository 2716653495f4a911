/- Programs: when one is right, and what running one at a place comes to: the program's functions and the reference's answer alike. Conditions: stated at each. -/
import Derived.Test.YtljaoggbfoimfaaLIns
import Derived.Test.YtljaoggbfoimfaaPimplProgAt
import Derived.Test.YtljaoggbfoimfaaPspecProgAt
set_option linter.unusedVariables false
set_option linter.unusedSimpArgs false
namespace Go.Proofs.Ytljaoggbfoimfaa.P
open Go.Proofs.YtljaoggbfoimfaaW.PrintWords Go.RowKit

abbrev insAt (p : List S76) (i : Int) : S76 := rd_T76 p i
def DoorP (p : List S76) (i : Int) : Prop := 0 ≤ i ∧ i < (p.length : Int) ∧ ((insAt p i).f0 = 2 ∨ ((insAt p i).f0 = 1 ∧ i + 1 < (p.length : Int) ∧ (insAt p (i + 1)).f0 = 2))
def InsP (p : List S76) (i : Int) : Prop :=
  ((insAt p i).f0 = 1 ∧ 0 ≤ (insAt p i).f1 ∧ (insAt p i).f1 ≤ 4 ∧ (insAt p i).f2 = 0 ∧ (insAt p i).f3 = 0 ∧ DoorP p i) ∨
  (((insAt p i).f0 = 2 ∨ (insAt p i).f0 = 4) ∧ (insAt p i).f1 = 0 ∧ (insAt p i).f2 = 0 ∧ (insAt p i).f3 = 0) ∨
  ((insAt p i).f0 = 3 ∧ 0 ≤ (insAt p i).f1 ∧ (insAt p i).f1 ≤ (insAt p i).f2 ∧ (insAt p i).f2 ≤ 255 ∧ DoorP p (insAt p i).f3)
def ProgP (p : List S76) : Prop := 1 ≤ p.length ∧ p.length ≤ 1500 ∧ DoorP p 0 ∧ (insAt p ((p.length : Int) - 1)).f0 = 4 ∧ ∀ i : Nat, i < p.length → InsP p i

theorem in_f (a b c : Int) : impl_in.f a b c = some (yes (b ≤ a ∧ a ≤ c)) := by
  unfold impl_in.f
  by_cases h : a ≥ b
  · rw [if_pos h]
    by_cases h2 : a ≤ c
    · rw [decide_eq_true h2, yes_pos ⟨h, h2⟩]
    · rw [decide_eq_false h2, yes_neg (fun x => h2 x.2)]
  · rw [if_neg h, yes_neg (fun x => h x.1)]

theorem door_spec (p : List S76) (hn : p.length * 32 ≤ 140737488351232) (i : Int) (h0 : 0 ≤ i) (h1 : i < (p.length : Int)) : spec_l10Door.f p i = some (yes (DoorP p i)) := by
  have hw : wrap64 (i + 1) = i + 1 := by unfold wrap64; omega
  unfold spec_l10Door.f
  rw [if_pos h0, if_pos h1, hw]
  by_cases c1 : (rd_T76 p i).f0 = 1
  · rw [if_pos c1]
    by_cases c2 : i + 1 < (p.length : Int)
    · rw [if_pos c2, if_pos (by omega)]
      by_cases c3 : (rd_T76 p (i + 1)).f0 = 2
      · rw [yes_pos ⟨h0, h1, .inr ⟨c1, c2, c3⟩⟩]; simp [c3]
      · rw [yes_neg]
        · simp [c3]
        · rintro ⟨_, _, h | ⟨_, _, h⟩⟩
          · rw [c1] at h; omega
          · exact c3 h
    · rw [if_neg c2, yes_neg]
      rintro ⟨_, _, h | ⟨_, h, _⟩⟩
      · rw [c1] at h; omega
      · exact c2 h
  · rw [if_neg c1]
    by_cases c3 : (rd_T76 p i).f0 = 2
    · rw [yes_pos ⟨h0, h1, .inl c3⟩]; simp [c3]
    · rw [yes_neg]
      · simp [c3]
      · rintro ⟨_, _, h | ⟨h, _, _⟩⟩
        · exact c3 h
        · exact c1 h
theorem door_impl (p : List S76) (hn : p.length * 32 ≤ 140737488351232) (i : Int) : impl_door.f p i = some (yes (DoorP p i)) := by
  have hw1 : wrap64 ((p.length : Int) - 1) = (p.length : Int) - 1 := by unfold wrap64; omega
  unfold impl_door.f
  rw [in_f, Option.bind_some, hw1]
  by_cases h : 0 ≤ i ∧ i ≤ (p.length : Int) - 1
  · obtain ⟨h0, h1⟩ := h
    have hw : wrap64 (i + 1) = i + 1 := by unfold wrap64; omega
    rw [yes_pos ⟨h0, h1⟩, if_pos rfl, if_pos h0, if_pos (by omega), hw]
    by_cases c3 : (rd_T76 p i).f0 = 2
    · rw [if_pos c3, yes_pos ⟨h0, by omega, .inl c3⟩]
    · rw [if_neg c3]
      by_cases c1 : (rd_T76 p i).f0 = 1
      · rw [if_pos c1]
        by_cases c2 : i + 1 < (p.length : Int)
        · rw [if_pos c2, if_pos (by omega)]
          by_cases c4 : (rd_T76 p (i + 1)).f0 = 2
          · rw [yes_pos ⟨h0, by omega, .inr ⟨c1, c2, c4⟩⟩]; simp [c4]
          · rw [yes_neg]
            · simp [c4]
            · rintro ⟨_, _, h | ⟨_, _, h⟩⟩
              · exact c3 h
              · exact c4 h
        · rw [if_neg c2, yes_neg]
          rintro ⟨_, _, h | ⟨_, h, _⟩⟩
          · exact c3 h
          · exact c2 h
      · rw [if_neg c1, yes_neg]
        rintro ⟨_, _, h | ⟨h, _, _⟩⟩
        · exact c3 h
        · exact c1 h
  · rw [yes_neg h, yes_neg]
    · simp
    · rintro ⟨h1, h2, _⟩
      exact h ⟨h1, by omega⟩

theorem ins_impl (p : List S76) (hn : p.length * 32 ≤ 140737488351232) (k : Nat) (i : Nat) (h : i < p.length) : impl_insOk.f (k + 1) p (i : Int) = some (yes (InsP p i)) := by
  unfold impl_insOk.f
  rw [if_pos (by omega), if_pos (by omega)]
  simp only [impl_insOk.j0, in_f, door_impl p hn, Option.bind_some]
  generalize hx : rd_T76 p (i : Int) = x
  have hI : InsP p i ↔ ((x.f0 = 1 ∧ 0 ≤ x.f1 ∧ x.f1 ≤ 4 ∧ x.f2 = 0 ∧ x.f3 = 0 ∧ DoorP p i) ∨ ((x.f0 = 2 ∨ x.f0 = 4) ∧ x.f1 = 0 ∧ x.f2 = 0 ∧ x.f3 = 0) ∨ (x.f0 = 3 ∧ 0 ≤ x.f1 ∧ x.f1 ≤ x.f2 ∧ x.f2 ≤ 255 ∧ DoorP p x.f3)) := by
    unfold InsP insAt; rw [hx]
  rw [yes_congr hI]
  by_cases c1 : x.f0 = 1
  · rw [if_pos c1]
    by_cases c2 : 0 ≤ x.f1 ∧ x.f1 ≤ 4
    · rw [yes_pos c2, if_pos rfl]
      by_cases c3 : x.f2 = 0
      · rw [if_pos c3]
        by_cases c4 : x.f3 = 0
        · rw [if_pos c4]; congr 1; apply yes_congr
          constructor
          · intro hd; exact .inl ⟨c1, c2.1, c2.2, c3, c4, hd⟩
          · rintro (h | h | h)
            · exact h.2.2.2.2.2
            · omega
            · omega
        · rw [if_neg c4, yes_neg]; omega
      · rw [if_neg c3, yes_neg]; omega
    · rw [yes_neg c2, if_neg (by simp), yes_neg]; omega
  · rw [if_neg c1]
    by_cases c2 : x.f0 = 2
    · rw [if_pos c2, if_pos (by simp [c2])]
      by_cases c3 : x.f1 = 0
      · rw [if_pos c3]
        by_cases c4 : x.f2 = 0
        · rw [if_pos c4]
          by_cases c5 : x.f3 = 0
          · rw [yes_pos (.inr (.inl ⟨.inl c2, c3, c4, c5⟩))]; simp [c5]
          · rw [yes_neg (by omega)]; simp [c5]
        · rw [if_neg c4, yes_neg]; omega
      · rw [if_neg c3, yes_neg]; omega
    · rw [if_neg c2]
      by_cases c6 : x.f0 = 4
      · rw [if_pos (by simp [c6])]
        by_cases c3 : x.f1 = 0
        · rw [if_pos c3]
          by_cases c4 : x.f2 = 0
          · rw [if_pos c4]
            by_cases c5 : x.f3 = 0
            · rw [yes_pos (.inr (.inl ⟨.inr c6, c3, c4, c5⟩))]; simp [c5]
            · rw [yes_neg (by omega)]; simp [c5]
          · rw [if_neg c4, yes_neg]; omega
        · rw [if_neg c3, yes_neg]; omega
      · rw [if_neg (by simpa using c6)]
        by_cases c7 : x.f0 = 3
        · rw [if_pos c7]
          by_cases c8 : x.f1 ≥ 0
          · rw [if_pos c8]
            by_cases c9 : x.f1 ≤ x.f2
            · rw [if_pos c9]
              by_cases c10 : x.f2 ≤ 255
              · rw [if_pos c10]; congr 1; apply yes_congr
                constructor
                · intro hd; exact .inr (.inr ⟨c7, c8, c9, c10, hd⟩)
                · rintro (h | h | h)
                  · omega
                  · omega
                  · exact h.2.2.2.2
              · rw [if_neg c10, yes_neg]; omega
            · rw [if_neg c9, yes_neg]; omega
          · rw [if_neg c8, yes_neg]; omega
        · rw [if_neg c7, yes_neg]; omega

theorem ins_spec (k : Nat) (a b c d n : Int) : spec_l10Ins.f (k + 1) a b c d n = some (yes ((a = 1 ∧ 0 ≤ b ∧ b ≤ 4 ∧ c = 0 ∧ d = 0) ∨ ((a = 2 ∨ a = 4) ∧ b = 0 ∧ c = 0 ∧ d = 0) ∨ (a = 3 ∧ 0 ≤ b ∧ b ≤ c ∧ c ≤ 255 ∧ 0 ≤ d ∧ d < n))) := by
  unfold spec_l10Ins.f
  simp only [spec_l10Ins.j0]
  by_cases c1 : a = 1
  · rw [if_pos c1]
    by_cases c2 : b ≥ 0
    · rw [if_pos c2]
      by_cases c3 : b < 5
      · rw [if_pos c3]
        by_cases c4 : c = 0
        · rw [if_pos c4]
          by_cases c5 : d = 0
          · rw [yes_pos (by omega)]; simp [c5]
          · rw [yes_neg (by omega)]; simp [c5]
        · rw [if_neg c4, yes_neg]; omega
      · rw [if_neg c3, yes_neg]; omega
    · rw [if_neg c2, yes_neg]; omega
  · rw [if_neg c1]
    have fin : (if b = 0 then if c = 0 then some (d == 0) else some false else some false) = some (yes (b = 0 ∧ c = 0 ∧ d = 0)) := by
      by_cases c3 : b = 0
      · rw [if_pos c3]
        by_cases c4 : c = 0
        · rw [if_pos c4]
          by_cases c5 : d = 0
          · rw [yes_pos (by omega)]; simp [c5]
          · rw [yes_neg (by omega)]; simp [c5]
        · rw [if_neg c4, yes_neg]; omega
      · rw [if_neg c3, yes_neg]; omega
    by_cases c2 : a = 2
    · rw [if_pos c2, if_pos (by simp [c2]), fin]; congr 1; apply yes_congr; omega
    · rw [if_neg c2]
      by_cases c6 : a = 4
      · rw [if_pos (by simp [c6]), fin]; congr 1; apply yes_congr; omega
      · rw [if_neg (by simpa using c6)]
        by_cases c7 : a = 3
        · rw [if_pos c7]
          by_cases c8 : b ≥ 0
          · rw [if_pos c8]
            by_cases c9 : b ≤ c
            · rw [if_pos c9]
              by_cases c10 : c ≤ 255
              · rw [if_pos c10]
                by_cases c11 : d ≥ 0
                · rw [if_pos c11, yes_decide]; congr 1; apply yes_congr; omega
                · rw [if_neg c11, yes_neg]; omega
              · rw [if_neg c10, yes_neg]; omega
            · rw [if_neg c9, yes_neg]; omega
          · rw [if_neg c8, yes_neg]; omega
        · rw [if_neg c7, yes_neg]; omega

theorem impl_ProgOk_ev (p : List S76) (hn : p.length * 32 ≤ 140737488351232) : Ev (fun k => impl_ProgOk.f k p) (yes (ProgP p)) := by
  have hw1 : wrap64 ((p.length : Int) - 1) = (p.length : Int) - 1 := by unfold wrap64; omega
  unfold impl_ProgOk.f
  simp only [in_f, door_impl p hn, Option.bind_some, hw1]
  have jt : Ev (fun k => impl_ProgOk.j0 k p true) false := Ev.ofSucc (g := fun k => impl_ProgOk.j0 k p true) fun k => by simp [impl_ProgOk.j0]
  by_cases c1 : 1 ≤ (p.length : Int) ∧ (p.length : Int) ≤ 1500
  · simp only [yes_pos c1, if_true]
    by_cases c2 : DoorP p 0
    · simp only [yes_pos c2, if_true]
      simp only [if_pos (show (0 : Int) ≤ (p.length : Int) - 1 by omega), if_pos (show (p.length : Int) - 1 < (p.length : Int) by omega)]
      by_cases c3 : (rd_T76 p ((p.length : Int) - 1)).f0 = 4
      · rw [show ((rd_T76 p ((p.length : Int) - 1)).f0 != 4) = false by simp [c3]]
        refine Ev.succ ?_
        simp only [impl_ProgOk.j0, Bool.false_eq_true, if_false]
        refine (all_ev (fun k i => impl_ProgOk.l0 k p (p.length : Int) i) p.length (fun i => InsP p i) (fun k => ?_) (fun i hi => ⟨1, fun k hk => ?_⟩)).eqs (yes_congr ?_)
        · show impl_ProgOk.l0 (k + 1) p _ _ = _
          simp only [impl_ProgOk.l0]; rw [if_neg (by omega)]
        · obtain ⟨k, rfl⟩ : ∃ m, k = m + 1 := ⟨k - 1, by omega⟩
          show (_ → impl_ProgOk.l0 (k + 1 + 1) p _ _ = impl_ProgOk.l0 (k + 1) p _ _) ∧ (_ → impl_ProgOk.l0 (k + 1 + 1) p _ _ = _)
          rw [impl_ProgOk.l0, if_pos (by omega), ins_impl p hn k i hi, Option.bind_some, wrap_nat (by omega)]
          exact ⟨fun h => by rw [yes_pos h, if_pos rfl], fun h => by rw [yes_neg h, if_neg (by simp)]⟩
        · exact ⟨fun h => ⟨by omega, by omega, c2, c3, h⟩, fun h => h.2.2.2.2⟩
      · rw [show ((rd_T76 p ((p.length : Int) - 1)).f0 != 4) = true by simp [c3]]
        exact jt.eqs (yes_neg fun h => c3 h.2.2.2.1).symm
    · simp only [yes_neg c2, Bool.false_eq_true, if_false]
      exact jt.eqs (yes_neg fun h => c2 h.2.2.1).symm
  · simp only [yes_neg c1, Bool.false_eq_true, if_false]
    exact jt.eqs (yes_neg fun h => c1 ⟨by have := h.1; omega, by have := h.2.1; omega⟩).symm

theorem spec_ProgOk_ev (p : List S76) (hn : p.length * 32 ≤ 140737488351232) : Ev (fun k => spec_ProgOk.f k p) (yes (ProgP p)) := by
  have hw1 : wrap64 ((p.length : Int) - 1) = (p.length : Int) - 1 := by unfold wrap64; omega
  unfold spec_ProgOk.f
  simp only [hw1]
  have jt : Ev (fun k => spec_ProgOk.j0 k p true) false := Ev.ofSucc (g := fun k => spec_ProgOk.j0 k p true) fun k => by simp [spec_ProgOk.j0]
  by_cases c0 : (p.length : Int) < 1
  · simp only [if_pos c0]
    exact jt.eqs (yes_neg fun h => by have := h.1; omega).symm
  simp only [if_neg c0]
  by_cases c1 : (p.length : Int) > 1500
  · simp only [if_pos c1]
    exact jt.eqs (yes_neg fun h => by have := h.2.1; omega).symm
  simp only [if_neg c1]
  simp only [door_spec p hn 0 (by omega) (by omega), Option.bind_some]
  by_cases c2 : DoorP p 0
  · simp only [yes_pos c2, if_true]
    simp only [if_pos (show (0 : Int) ≤ (p.length : Int) - 1 by omega), if_pos (show (p.length : Int) - 1 < (p.length : Int) by omega)]
    by_cases c3 : (rd_T76 p ((p.length : Int) - 1)).f0 = 4
    · rw [show ((rd_T76 p ((p.length : Int) - 1)).f0 != 4) = false by simp [c3]]
      refine Ev.succ ?_
      simp only [spec_ProgOk.j0, Bool.false_eq_true, if_false]
      refine (all_ev (fun k i => spec_ProgOk.l0 k p i) p.length (fun i => InsP p i) (fun k => ?_) (fun i hi => ⟨1, fun k hk => ?_⟩)).eqs (yes_congr ?_)
      · show spec_ProgOk.l0 (k + 1) p _ = _
        simp only [spec_ProgOk.l0]; rw [if_neg (by omega)]
      · obtain ⟨k, rfl⟩ : ∃ m, k = m + 1 := ⟨k - 1, by omega⟩
        show (_ → spec_ProgOk.l0 (k + 1 + 1) p _ = spec_ProgOk.l0 (k + 1) p _) ∧ (_ → spec_ProgOk.l0 (k + 1 + 1) p _ = _)
        rw [spec_ProgOk.l0, if_pos (by omega), if_pos (by omega), ins_spec, Option.bind_some, wrap_nat (by omega), door_spec p hn i (by omega) (by omega)]
        simp only [Option.bind_some]
        generalize hx : rd_T76 p (i : Int) = x
        have hI : InsP p i ↔ ((x.f0 = 1 ∧ 0 ≤ x.f1 ∧ x.f1 ≤ 4 ∧ x.f2 = 0 ∧ x.f3 = 0 ∧ DoorP p i) ∨ ((x.f0 = 2 ∨ x.f0 = 4) ∧ x.f1 = 0 ∧ x.f2 = 0 ∧ x.f3 = 0) ∨ (x.f0 = 3 ∧ 0 ≤ x.f1 ∧ x.f1 ≤ x.f2 ∧ x.f2 ≤ 255 ∧ DoorP p x.f3)) := by
          unfold InsP insAt; rw [hx]
        rw [hI]
        have hD : DoorP p x.f3 → 0 ≤ x.f3 ∧ x.f3 < (p.length : Int) := fun h => ⟨h.1, h.2.1⟩
        by_cases q : (x.f0 = 1 ∧ 0 ≤ x.f1 ∧ x.f1 ≤ 4 ∧ x.f2 = 0 ∧ x.f3 = 0) ∨ ((x.f0 = 2 ∨ x.f0 = 4) ∧ x.f1 = 0 ∧ x.f2 = 0 ∧ x.f3 = 0) ∨ (x.f0 = 3 ∧ 0 ≤ x.f1 ∧ x.f1 ≤ x.f2 ∧ x.f2 ≤ 255 ∧ 0 ≤ x.f3 ∧ x.f3 < (p.length : Int))
        · rw [yes_pos q, if_pos rfl]
          by_cases c3 : x.f0 = 3
          · rw [if_pos c3, door_spec p hn x.f3 (by omega) (by omega), Option.bind_some]
            by_cases d3 : DoorP p x.f3
            · rw [yes_pos d3, if_pos rfl, if_neg (by omega)]
              exact ⟨fun _ => rfl, fun h => absurd (.inr (.inr ⟨c3, by omega, by omega, by omega, d3⟩)) h⟩
            · rw [yes_neg d3, if_neg (by simp)]
              refine ⟨fun h => ?_, fun _ => rfl⟩
              rcases h with h | h | h
              · omega
              · omega
              · exact absurd h.2.2.2.2 d3
          · rw [if_neg c3]
            by_cases c1 : x.f0 = 1
            · rw [if_pos c1]
              by_cases d1 : DoorP p i
              · rw [yes_pos d1, if_pos rfl]
                exact ⟨fun _ => rfl, fun h => absurd (.inl ⟨c1, by omega, by omega, by omega, by omega, d1⟩) h⟩
              · rw [yes_neg d1, if_neg (by simp)]
                refine ⟨fun h => ?_, fun _ => rfl⟩
                rcases h with h | h | h
                · exact absurd h.2.2.2.2.2 d1
                · omega
                · omega
            · rw [if_neg c1]
              exact ⟨fun _ => rfl, fun h => absurd (.inr (.inl (by omega))) h⟩
        · rw [yes_neg q, if_neg (by simp)]
          refine ⟨fun h => absurd ?_ q, fun _ => rfl⟩
          rcases h with h | h | h
          · exact .inl ⟨h.1, h.2.1, h.2.2.1, h.2.2.2.1, h.2.2.2.2.1⟩
          · exact .inr (.inl h)
          · exact .inr (.inr ⟨h.1, h.2.1, h.2.2.1, h.2.2.2.1, hD h.2.2.2.2⟩)
      · exact ⟨fun h => ⟨by omega, by omega, c2, c3, h⟩, fun h => h.2.2.2.2⟩
    · rw [show ((rd_T76 p ((p.length : Int) - 1)).f0 != 4) = true by simp [c3]]
      exact jt.eqs (yes_neg fun h => c3 h.2.2.2.1).symm
  · simp only [yes_neg c2, Bool.false_eq_true, if_false]
    exact jt.eqs (yes_neg fun h => c2 h.2.2.1).symm

/-! ### running -/
theorem insP_at {p : List S76} (h : ProgP p) (i : Int) (h0 : 0 ≤ i) (h1 : i < (p.length : Int)) : InsP p i := by
  have := h.2.2.2.2 i.toNat (by omega)
  rwa [Int.toNat_of_nonneg h0] at this
theorem run_same {p : List S76} (hp : ProgP p) (t : ByteArray) (at_ : Int) : ∀ (k : Nat) (rule tt i b st pc : Int), 0 ≤ pc → spec_l10At.l0 k p t at_ rule tt i b st pc = impl_progAt.l0 k p t at_ rule tt st i b pc
  | 0, _, _, _, _, _, _, _ => rfl
  | k + 1, rule, tt, i, b, st, pc, h0 => by
    have ih := run_same hp t at_ k
    simp only [spec_l10At.l0, impl_progAt.l0, in_f, Option.bind_some]
    by_cases h1 : pc < (p.length : Int)
    · have hl := hp.2.1
      have hw : wrap64 (pc + 1) = pc + 1 := by unfold wrap64; omega
      have hI := insP_at hp pc h0 h1
      unfold InsP insAt at hI
      rw [if_pos h1, if_pos h1, if_pos h0, if_pos h0, hw]
      generalize hx : rd_T76 p pc = x at hI ⊢
      by_cases c1 : x.f0 = 1
      · rw [if_pos c1, if_pos c1, ih _ _ _ _ _ _ (by omega), ih _ _ _ _ _ _ (by omega)]
      · rw [if_neg c1, if_neg c1]
        by_cases c2 : x.f0 = 2
        · rw [if_pos c2, if_pos c2, ih _ _ _ _ _ _ (by omega)]
        · rw [if_neg c2, if_neg c2]
          by_cases c3 : x.f0 = 3
          · have hd : DoorP p x.f3 := by
              rcases hI with h | h | h
              · omega
              · omega
              · exact h.2.2.2.2
            have h30 := hd.1
            have h31 := hd.2.1
            have hw3 : wrap64 (wrap64 (x.f3 - 1) + 1) = x.f3 := by unfold wrap64; omega
            rw [if_pos c3, if_pos c3, hw3, ih _ _ _ _ _ _ (by omega), ih _ _ _ _ _ _ (by omega)]
            by_cases d1 : b ≥ x.f1
            · rw [if_pos d1]
              by_cases d2 : b ≤ x.f2
              · rw [if_pos d2, yes_pos ⟨d1, d2⟩, if_pos rfl]
              · rw [if_neg d2, yes_neg (fun h => d2 h.2), if_neg (by simp)]
            · rw [if_neg d1, yes_neg (fun h => d1 h.1), if_neg (by simp)]
          · rw [if_neg c3, if_neg c3]
            have c4 : x.f0 = 4 := by
              rcases hI with h | h | h <;> omega
            rw [if_pos c4]
    · rw [if_neg h1, if_neg h1]

theorem run_some {p : List S76} (hp : ProgP p) (t : ByteArray) (ht : t.size ≤ 200) (at_ : Int) : ∀ (N : Nat) (fresh : Bool) (d : Nat) (rule tt i b st pc : Int), 0 ≤ pc → pc ≤ (p.length : Int) → 0 ≤ i → i ≤ (t.size : Int) → (d : Int) = (t.size : Int) - i →
    (fresh = true → pc < (p.length : Int) ∧ DoorP p pc) → d * (2 * p.length + 2) + (if fresh = true then 0 else p.length + 1) + (p.length - pc.toNat) < N → ∃ r, Ev (fun k => impl_progAt.l0 k p t at_ rule tt st i b pc) r
  | 0, _, _, _, _, _, _, _, _, _, _, _, _, _, _, h => absurd h (Nat.not_lt_zero _)
  | N + 1, fresh, d, rule, tt, i, b, st, pc, h0, h1, hi0, hi1, hd, hf, hN => by
    have ih := run_some hp t ht at_ N
    have hl := hp.2.1
    by_cases h2 : pc < (p.length : Int)
    · have hw : wrap64 (pc + 1) = pc + 1 := by unfold wrap64; omega
      have hI := insP_at hp pc h0 h2
      unfold InsP insAt at hI
      have step : ∀ {g : Nat → Option (Int × Int × Int)}, (∀ k, impl_progAt.l0 (k + 1) p t at_ rule tt st i b pc = g k) → (∃ r, Ev g r) → ∃ r, Ev (fun k => impl_progAt.l0 k p t at_ rule tt st i b pc) r := fun hg ⟨r, hr⟩ => ⟨r, Ev.step hg hr⟩
      by_cases c1 : (rd_T76 p pc).f0 = 1
      · have hf' : fresh = true → pc + 1 < (p.length : Int) ∧ DoorP p (pc + 1) := by
          intro h
          obtain ⟨_, _, _, h4⟩ := hf h
          rcases h4 with h4 | ⟨_, h5, h6⟩
          · unfold insAt at h4; omega
          · exact ⟨h5, by omega, h5, .inl h6⟩
        have hNN : d * (2 * p.length + 2) + (if fresh = true then 0 else p.length + 1) + (p.length - (pc + 1).toNat) < N := by omega
        by_cases c2 : i > at_
        · refine step (fun k => ?_) (ih fresh d (rd_T76 p pc).f1 i i b (wrap64 (st + 1)) (pc + 1) (by omega) (by omega) hi0 hi1 hd hf' hNN)
          simp only [impl_progAt.l0]
          rw [if_pos h2, if_pos h0, if_pos c1, if_pos c2, hw]
        · refine step (fun k => ?_) (ih fresh d rule tt i b (wrap64 (st + 1)) (pc + 1) (by omega) (by omega) hi0 hi1 hd hf' hNN)
          simp only [impl_progAt.l0]
          rw [if_pos h2, if_pos h0, if_pos c1, if_neg c2, hw]
      · by_cases c2 : (rd_T76 p pc).f0 = 2
        · by_cases c3 : i ≥ (t.size : Int)
          · refine step (g := fun _ => some (rule, tt, wrap64 (st + 1))) (fun k => ?_) ⟨_, Ev.now _⟩
            simp only [impl_progAt.l0]
            rw [if_pos h2, if_pos h0, if_neg c1, if_pos c2, if_pos c3]
          · obtain ⟨d, rfl⟩ : ∃ m, d = m + 1 := ⟨d - 1, by omega⟩
            have hm : (d + 1) * (2 * p.length + 2) = d * (2 * p.length + 2) + (2 * p.length + 2) := Nat.succ_mul _ _
            have hwi : wrap64 (i + 1) = i + 1 := by unfold wrap64; omega
            refine step (fun k => ?_) (ih false d rule tt (i + 1) (wrap64 (bt t i)) (wrap64 (st + 1)) (pc + 1) (by omega) (by omega) (by omega) (by omega) (by omega) (fun h => by cases h) (by
              rw [if_neg (by simp)]
              split at hN <;> omega))
            simp only [impl_progAt.l0]
            rw [if_pos h2, if_pos h0, if_neg c1, if_pos c2, if_neg c3, if_pos hi0, if_pos (by omega), hw, hwi]
        · have hnf : fresh = false := by
            rcases Bool.eq_false_or_eq_true fresh with h | h
            · obtain ⟨_, _, _, h4⟩ := hf h
              unfold insAt at h4; omega
            · exact h
          subst hnf
          rw [if_neg (by simp)] at hN
          by_cases c3 : (rd_T76 p pc).f0 = 3
          · have hd3 : DoorP p (rd_T76 p pc).f3 := by
              rcases hI with h | h | h
              · omega
              · omega
              · exact h.2.2.2.2
            have h30 := hd3.1
            have h31 := hd3.2.1
            have hw3 : wrap64 (wrap64 ((rd_T76 p pc).f3 - 1) + 1) = (rd_T76 p pc).f3 := by unfold wrap64; omega
            by_cases c4 : (rd_T76 p pc).f1 ≤ b ∧ b ≤ (rd_T76 p pc).f2
            · refine step (fun k => ?_) (ih true d rule tt i b (wrap64 (st + 1)) (rd_T76 p pc).f3 h30 (by omega) hi0 hi1 hd (fun _ => ⟨h31, hd3⟩) (by rw [if_pos rfl]; omega))
              simp only [impl_progAt.l0, in_f, Option.bind_some]
              rw [if_pos h2, if_pos h0, if_neg c1, if_neg c2, if_pos c3, yes_pos c4, if_pos rfl, hw3]
            · refine step (fun k => ?_) (ih false d rule tt i b (wrap64 (st + 1)) (pc + 1) (by omega) (by omega) hi0 hi1 hd (fun h => by cases h) (by rw [if_neg (by simp)]; omega))
              simp only [impl_progAt.l0, in_f, Option.bind_some]
              rw [if_pos h2, if_pos h0, if_neg c1, if_neg c2, if_pos c3, yes_neg c4, if_neg (by simp), hw]
          · have c4 : (rd_T76 p pc).f0 = 4 := by rcases hI with h | h | h <;> omega
            refine step (g := fun _ => some (rule, tt, wrap64 (st + 1))) (fun k => ?_) ⟨_, Ev.now _⟩
            simp only [impl_progAt.l0]
            rw [if_pos h2, if_pos h0, if_neg c1, if_neg c2, if_neg c3, if_pos c4]
    · refine ⟨(rule, tt, st), Ev.ofSucc (g := fun k => impl_progAt.l0 k p t at_ rule tt st i b pc) (fun k => ?_)⟩
      simp only [impl_progAt.l0]; rw [if_neg h2]

/-- What running a program at a place comes tt, for both. -/
theorem progAt_ev {p : List S76} (hp : ProgP p) (t : ByteArray) (ht : t.size ≤ 200) (a : Int) (h0 : 0 ≤ a) (h1 : a ≤ (t.size : Int)) : ∃ r, Ev (fun k => impl_progAt.f k p t a) r ∧ Ev (fun k => spec_l10At.f k p t a) r := by
  obtain ⟨r, hr⟩ := run_some hp t ht a _ false ((t.size : Int) - a).toNat (-1) a a (-1) 0 0 (by omega) (by omega) h0 h1 (by omega) (fun h => by cases h) (Nat.lt_succ_self _)
  refine ⟨r, hr, ?_⟩
  unfold spec_l10At.f
  simp only [run_same hp t a _ _ _ _ _ _ _ (show (0 : Int) ≤ 0 by omega)]
  exact hr
theorem ProgAt_ev (p : List S76) (hn : p.length * 32 ≤ 140737488351232) (t : ByteArray) (a : Int) : ∃ r, Ev (fun k => impl_ProgAt.f k p t a) r ∧ Ev (fun k => spec_ProgAt.f k p t a) r := by
  have hI := impl_ProgOk_ev p hn
  have hS := spec_ProgOk_ev p hn
  have e0 : (∃ r : Int × Int × Int, Ev (fun k => if yes (ProgP p) = true then (if (t.size : Int) > 200 then (some ((-1), a, 0)) else ((impl_in.f a 0 (t.size : Int)).bind fun t247 => (if t247 = true then ((impl_progAt.f k p t a).bind fun bt248 => (some (bt248.1, bt248.2.1, bt248.2.2))) else (some ((-1), a, 0))))) else (some ((-1), a, 0))) r ∧
      Ev (fun k => if yes (ProgP p) = true then (if (t.size : Int) > 200 then (some ((-1), a, 0)) else (if a < 0 then (some ((-1), a, 0)) else (if a > (t.size : Int) then (some ((-1), a, 0)) else ((spec_l10At.f k p t a).bind fun bt240 => (some (bt240.1, bt240.2.1, bt240.2.2)))))) else (some ((-1), a, 0))) r) := by
    by_cases c0 : ProgP p
    · simp only [yes_pos c0, if_true]
      by_cases c1 : (t.size : Int) > 200
      · simp only [if_pos c1]; exact ⟨_, Ev.now _, Ev.now _⟩
      · simp only [if_neg c1, in_f, Option.bind_some]
        by_cases c2 : 0 ≤ a ∧ a ≤ (t.size : Int)
        · simp only [yes_pos c2, if_true, if_neg (show ¬ a < 0 by omega), if_neg (show ¬ a > (t.size : Int) by omega)]
          obtain ⟨r, h1, h2⟩ := progAt_ev c0 t (by omega) a c2.1 c2.2
          exact ⟨_, Ev.bind h1 (Ev.now _), Ev.bind h2 (Ev.now _)⟩
        · simp only [yes_neg c2, Bool.false_eq_true, if_false]
          refine ⟨_, Ev.now _, ?_⟩
          by_cases c3 : a < 0
          · simp only [if_pos c3]; exact Ev.now _
          · simp only [if_neg c3, if_pos (show a > (t.size : Int) by omega)]; exact Ev.now _
    · simp only [yes_neg c0, Bool.false_eq_true, if_false]
      exact ⟨_, Ev.now _, Ev.now _⟩
  obtain ⟨r, h1, h2⟩ := e0
  exact ⟨r, Ev.bind hI h1, Ev.bind hS h2⟩
end Go.Proofs.Ytljaoggbfoimfaa.P
