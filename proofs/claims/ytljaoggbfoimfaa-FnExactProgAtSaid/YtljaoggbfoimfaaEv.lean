/- Plain lemmas on functions with rounds: what a loop over a list comes to. Conditions: stated at each. -/
import Derived.Test.YtljaoggbfoimfaaWWords
set_option linter.unusedVariables false
set_option linter.unusedSimpArgs false
namespace Go.Proofs.Ytljaoggbfoimfaa.P
open Go.Proofs.YtljaoggbfoimfaaW.PrintWords Go.RowKit

/-- Is it so, as a Bool. -/
noncomputable def yes (p : Prop) : Bool := @decide p (Classical.propDecidable p)
theorem yes_pos {p : Prop} (h : p) : yes p = true := by unfold yes; exact @decide_eq_true p (Classical.propDecidable p) h
theorem yes_neg {p : Prop} (h : ¬ p) : yes p = false := by unfold yes; exact @decide_eq_false p (Classical.propDecidable p) h
theorem yes_iff {p : Prop} : yes p = true ↔ p := by
  constructor
  · intro h
    by_cases hp : p
    · exact hp
    · rw [yes_neg hp] at h; cases h
  · exact yes_pos
theorem yes_congr {p q : Prop} (h : p ↔ q) : yes p = yes q := by rw [propext h]
theorem yes_bool (b : Bool) : yes (b = true) = b := by
  cases b
  · exact yes_neg (by simp)
  · exact yes_pos rfl
theorem yes_decide (p : Prop) [Decidable p] : decide p = yes p := by
  by_cases h : p
  · rw [yes_pos h, decide_eq_true h]
  · rw [yes_neg h, decide_eq_false h]

end Go.Proofs.Ytljaoggbfoimfaa.P
namespace Go.Proofs.YtljaoggbfoimfaaW.PrintWords
theorem Ev.succ {α : Type} {g : Nat → Option α} {r : α} (h : Ev (fun k => g (k + 1)) r) : Ev g r := by
  obtain ⟨K, hK⟩ := h
  refine ⟨K + 1, fun k hk => ?_⟩
  obtain ⟨m, rfl⟩ : ∃ m, k = m + 1 := ⟨k - 1, by omega⟩
  exact hK m (by omega)
theorem Ev.late {α : Type} {g f : Nat → Option α} {r : α} (h : ∃ K, ∀ k, K ≤ k → g (k + 1) = f k) (k : Ev f r) : Ev g r := by
  obtain ⟨K, hK⟩ := h
  obtain ⟨K', hK'⟩ := k
  refine ⟨max K K' + 1, fun k hk => ?_⟩
  obtain ⟨m, rfl⟩ : ∃ m, k = m + 1 := ⟨k - 1, by omega⟩
  rw [hK m (by omega), hK' m (by omega)]
theorem Ev.eqs {α : Type} {g : Nat → Option α} {r q : α} (h : Ev g r) (e : r = q) : Ev g q := e ▸ h
theorem Ev.ofEq {α : Type} {g : Nat → Option α} {r : α} (h : ∀ k, g k = some r) : Ev g r := ⟨0, fun k _ => h k⟩
theorem Ev.ofSucc {α : Type} {g : Nat → Option α} {r : α} (h : ∀ k, g (k + 1) = some r) : Ev g r := Ev.succ (Ev.ofEq h)
theorem Ev.one {α : Type} {g : Nat → Option α} {r q : α} (h : Ev g r) (k : Ev g q) : r = q := by
  obtain ⟨K, hK⟩ := h
  obtain ⟨K', hK'⟩ := k
  have h1 := hK (max K K') (by omega)
  rw [hK' _ (by omega)] at h1
  exact (Option.some.inj h1).symm
theorem Ev.eqn {α : Type} {g : Nat → Option α} {r : α} (h : Ev g r) : ∃ K, ∀ k, K ≤ k → g k = some r := h
/-- Ev as rewriting below a bind: what stands first is told. -/
theorem Ev.first {α β : Type} {g : Nat → Option α} {f : Nat → α → Option β} {a : α} {r : β} (h : Ev g a) (k : Ev (fun n => f n a) r) : Ev (fun n => (g n).bind (f n)) r := Ev.bind h k

end Go.Proofs.YtljaoggbfoimfaaW.PrintWords
namespace Go.Proofs.Ytljaoggbfoimfaa.P
open Go.Proofs.YtljaoggbfoimfaaW.PrintWords Go.RowKit
theorem wrap_nat {i : Nat} (h : i < 9000000000000000000) : wrap64 ((i : Int) + 1) = ((i + 1 : Nat) : Int) := by unfold wrap64; omega
theorem wrap_id {i : Int} (h0 : -9000000000000000000 ≤ i) (h : i < 9000000000000000000) : wrap64 i = i := by unfold wrap64; omega

/-- Two lists held against one another, place by place. -/
theorem all2_ev {α : Type} (L : Nat → Int → Option Bool) (xs ys : List α) (hl : xs.length = ys.length)
    (hend : ∀ k, L (k + 1) (xs.length : Int) = some true)
    (hstep : ∀ (i : Nat) (h : i < xs.length) (h' : i < ys.length), ∃ K, ∀ k, K ≤ k → (xs[i] = ys[i] → L (k + 1) (i : Int) = L k ((i + 1 : Nat) : Int)) ∧ (xs[i] ≠ ys[i] → L (k + 1) (i : Int) = some false)) :
    Ev (fun k => L k 0) (yes (xs = ys)) := by
  have key : ∀ d i : Nat, i + d = xs.length → Ev (fun k => L k (i : Int)) (yes (xs.drop i = ys.drop i)) := by
    intro d
    induction d with
    | zero =>
      intro i hi
      have h0 : i = xs.length := by omega
      subst h0
      rw [yes_pos (by rw [List.drop_of_length_le (Nat.le_refl _), List.drop_of_length_le (by omega)])]
      exact Ev.ofSucc (g := fun k => L k (xs.length : Int)) hend
    | succ d ih =>
      intro i hi
      have h1 : i < xs.length := by omega
      have h2 : i < ys.length := by omega
      obtain ⟨K, hK⟩ := hstep i h1 h2
      rw [List.drop_eq_getElem_cons h1, List.drop_eq_getElem_cons h2]
      by_cases he : xs[i] = ys[i]
      · refine (Ev.late (g := fun k => L k (i : Int)) ⟨K, fun k hk => (hK k hk).1 he⟩ (ih (i + 1) (by omega))).eqs (yes_congr ?_)
        rw [List.cons_eq_cons]
        exact ⟨fun h => ⟨he, h⟩, fun h => h.2⟩
      · refine (Ev.late (g := fun k => L k (i : Int)) (f := fun _ => some false) ⟨K, fun k hk => (hK k hk).2 he⟩ (Ev.now false)).eqs (yes_neg ?_).symm
        rw [List.cons_eq_cons]
        exact fun h => he h.1
  exact (key xs.length 0 (by omega)).eqs (by simp)

/-- A list that is filled place by place. -/
theorem fill_ev {α β : Type} (L : Nat → List β → Int → Option (List β)) (xs : List α) (f : α → β)
    (hend : ∀ k r, r.length = xs.length → L (k + 1) r (xs.length : Int) = some r)
    (hstep : ∀ (i : Nat) (h : i < xs.length), ∃ K, ∀ k r, K ≤ k → r.length = xs.length → L (k + 1) r (i : Int) = L k (r.set i (f xs[i])) ((i + 1 : Nat) : Int))
    (r0 : List β) (h0 : r0.length = xs.length) : Ev (fun k => L k r0 0) (xs.map f) := by
  have key : ∀ d i : Nat, i + d = xs.length → ∀ r : List β, r.length = xs.length → (∀ j (h : j < xs.length), j < i → r[j]? = some (f xs[j])) → Ev (fun k => L k r (i : Int)) (xs.map f) := by
    intro d
    induction d with
    | zero =>
      intro i hi r hr hj
      have h0 : i = xs.length := by omega
      subst h0
      refine (Ev.ofSucc (g := fun k => L k r (xs.length : Int)) (fun k => hend k r hr)).eqs ?_
      apply List.ext_getElem?
      intro j
      rcases Nat.lt_or_ge j xs.length with h | h
      · rw [hj j h h]; simp [List.getElem?_eq_getElem h]
      · rw [List.getElem?_eq_none (by omega), List.getElem?_eq_none (by simpa using h)]
    | succ d ih =>
      intro i hi r hr hj
      have h1 : i < xs.length := by omega
      obtain ⟨K, hK⟩ := hstep i h1
      refine Ev.late (g := fun k => L k r (i : Int)) ⟨K, fun k hk => hK k r hk hr⟩ (ih (i + 1) (by omega) _ (by simpa using hr) (fun j h hlt => ?_))
      rcases Nat.lt_or_ge j i with h2 | h2
      · rw [List.getElem?_set_ne (by omega)]; exact hj j h h2
      · have : j = i := by omega
        subst this
        rw [List.getElem?_set_self (by omega)]
  exact key xs.length 0 (by omega) r0 h0 (fun j _ h => by omega)

/-- A loop that goes over a list's places with a state. -/
theorem over_ev {α σ β : Type} (L : Nat → σ → Int → Option β) (xs : List α) (step : Nat → σ → α → σ) (fin : σ → β)
    (hend : ∀ s, Ev (fun k => L k s (xs.length : Int)) (fin s))
    (hstep : ∀ (i : Nat) (h : i < xs.length) (s : σ), ∃ K, ∀ k, K ≤ k → L (k + 1) s (i : Int) = L k (step i s xs[i]) ((i + 1 : Nat) : Int))
    (s : σ) : ∃ r, Ev (fun k => L k s 0) r := by
  have key : ∀ d i : Nat, i + d = xs.length → ∀ s, ∃ r, Ev (fun k => L k s (i : Int)) r := by
    intro d
    induction d with
    | zero =>
      intro i hi s
      have h0 : i = xs.length := by omega
      subst h0
      exact ⟨_, hend s⟩
    | succ d ih =>
      intro i hi s
      have h1 : i < xs.length := by omega
      obtain ⟨r, hr⟩ := ih (i + 1) (by omega) (step i s xs[i])
      exact ⟨r, Ev.late (g := fun k => L k s (i : Int)) (hstep i h1 s) hr⟩
  exact key xs.length 0 (by omega) s
/-- A loop that asks every place. -/
theorem all_ev (L : Nat → Int → Option Bool) (n : Nat) (Q : Nat → Prop) (hend : ∀ k, L (k + 1) (n : Int) = some true)
    (hstep : ∀ (i : Nat), i < n → ∃ K, ∀ k, K ≤ k → (Q i → L (k + 1) (i : Int) = L k ((i + 1 : Nat) : Int)) ∧ (¬ Q i → L (k + 1) (i : Int) = some false)) :
    Ev (fun k => L k 0) (yes (∀ i, i < n → Q i)) := by
  have key : ∀ d i : Nat, i + d = n → Ev (fun k => L k (i : Int)) (yes (∀ j, i ≤ j → j < n → Q j)) := by
    intro d
    induction d with
    | zero =>
      intro i hi
      have h0 : i = n := by omega
      subst h0
      rw [yes_pos (fun j h1 h2 => by omega)]
      exact Ev.ofSucc (g := fun k => L k (i : Int)) hend
    | succ d ih =>
      intro i hi
      have h1 : i < n := by omega
      obtain ⟨K, hK⟩ := hstep i h1
      by_cases he : Q i
      · refine (Ev.late (g := fun k => L k (i : Int)) ⟨K, fun k hk => (hK k hk).1 he⟩ (ih (i + 1) (by omega))).eqs (yes_congr ?_)
        constructor
        · intro h j hj hn
          rcases Nat.lt_or_ge i j with h2 | h2
          · exact h j (by omega) hn
          · have : j = i := by omega
            subst this; exact he
        · exact fun h j hj hn => h j (by omega) hn
      · refine (Ev.late (g := fun k => L k (i : Int)) (f := fun _ => some false) ⟨K, fun k hk => (hK k hk).2 he⟩ (Ev.now false)).eqs (yes_neg fun h => he (h i (Nat.le_refl _) h1)).symm
  exact (key n 0 (by omega)).eqs (yes_congr ⟨fun h i hi => h i (Nat.zero_le _) hi, fun h j _ hj => h j hj⟩)
theorem getD_at {α : Type} {xs : List α} {z : α} {i : Nat} (h : i < xs.length) : xs.getD (i : Int).toNat z = xs[i] := by
  simp [List.getD_eq_getElem?_getD, List.getElem?_eq_getElem h]
end Go.Proofs.Ytljaoggbfoimfaa.P
