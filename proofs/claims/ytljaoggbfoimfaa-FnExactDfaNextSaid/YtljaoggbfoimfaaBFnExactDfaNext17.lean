/- FnExactDfaNext, part 18 of 18: the functions that it reaches as plain Lean functions, that the program's functions compute them, and what they come to. Conditions: stated at each theorem. -/
import Derived.Test.YtljaoggbfoimfaaRows
import Derived.WalkKit
import Derived.ProofKit
import Derived.OpenShut
import Derived.ShutString
import Derived.ChangeOld
import Derived.Below
import Derived.SizedLaws
import Derived.Carry
import Derived.Test.YtljaoggbfoimfaaBFnExactDfaNext13
import Derived.Test.YtljaoggbfoimfaaBFnExactDfaNext16
set_option linter.unusedVariables false
set_option linter.unusedSimpArgs false
namespace Go.Proofs.Ytljaoggbfoimfaa.P
open Go.Proofs.YtljaoggbfoimfaaW.PrintWords Go.RowKit Go.Proofs.Ytljaoggbfoimfaa.Arr
abbrev partAt (x : List (List S115)) (i : Nat) : List S115 := rd_L11 x (i : Int)
theorem partAt_of {x : List (List S115)} {i : Nat} (h : i < x.length) : partAt x i = x[i] := by
  unfold partAt rd_L11
  exact getD_at h
theorem partAt_le {x : List (List S115)} (hx : ∀ p ∈ x, p.length * 16 ≤ 140737488351232) {i : Nat} (h : i < x.length) : (partAt x i).length * 16 ≤ 140737488351232 := by
  rw [partAt_of h]; exact hx _ (List.getElem_mem h)
noncomputable def anyI (x : List (List S115)) (i : Nat) (b : Nat) : Bool := yes (∃ j, j < i ∧ HasP (partAt x j) (b : Int))
theorem anyI_zero (x : List (List S115)) (b : Nat) : anyI x 0 b = false := yes_neg fun ⟨_, h, _⟩ => by omega
theorem anyI_succ (x : List (List S115)) (i b : Nat) : anyI x (i + 1) b = (anyI x i b || hasB (partAt x i) (b : Int)) := by
  unfold anyI hasB
  by_cases h1 : ∃ j, j < i ∧ HasP (partAt x j) (b : Int)
  · rw [yes_pos h1, Bool.true_or]
    obtain ⟨j, hj, h⟩ := h1
    exact yes_pos ⟨j, by omega, h⟩
  · rw [yes_neg h1, Bool.false_or]
    apply yes_congr
    constructor
    · rintro ⟨j, hj, h⟩
      rcases Nat.lt_or_ge j i with h2 | h2
      · exact absurd ⟨j, h2, h⟩ h1
      · have : j = i := by omega
        subst this; exact h
    · exact fun h => ⟨i, by omega, h⟩
def PartQ (x : List (List S115)) (i : Nat) : Prop :=
  SetP (partAt x i) ∧ (partAt x i).length ≠ 0 ∧ (0 < i → (spanAt (partAt x (i - 1)) 0).f0 < (spanAt (partAt x i) 0).f0) ∧ ∀ j, j < i → ¬ Meets (partAt x i) (partAt x j)
def RowQ (n m : Nat) (row : List Int) (a : Int) : Prop := row.length = n ∧ -1 ≤ a ∧ a ≤ 4 ∧ ∀ k, k < row.length → -1 ≤ rd row (k : Int) ∧ rd row (k : Int) < (m : Int)
def RowsP (x : List (List S115)) (r : List (List Int)) (a : List Int) : Prop :=
  1 ≤ r.length ∧ r.length ≤ 40 ∧ a.length = r.length ∧ ∀ i, i < r.length → RowQ x.length r.length (rd_L14 r (i : Int)) (rd a (i : Int))
noncomputable def cntI (x : List (List S115)) (i : Nat) : Nat := cnt (anyI x i) 256
def DfaP (x : List (List S115)) (r : List (List Int)) (a : List Int) : Prop := (∀ i, i < x.length → PartQ x i) ∧ cntI x x.length = 256 ∧ RowsP x r a
theorem cntI_zero (x : List (List S115)) : cntI x 0 = 0 := by
  unfold cntI
  have : ∀ n, cnt (anyI x 0) n = 0 := by
    intro n
    induction n with
    | zero => rfl
    | succ n ih => unfold cnt; rw [ih, anyI_zero]; rfl
  exact this 256
theorem cntI_succ (x : List (List S115)) (i : Nat) (h : ∀ j, j < i → ¬ Meets (partAt x i) (partAt x j)) : cntI x (i + 1) = cntI x i + cnt (fun b : Nat => hasB (partAt x i) (b : Int)) 256 := by
  unfold cntI
  rw [← cnt_or]
  · congr 1
    funext b
    exact anyI_succ x i b
  · rintro b hb ⟨h1, h2⟩
    obtain ⟨j, hj, h3⟩ := yes_iff.1 h1
    exact h j hj ⟨b, hb, yes_iff.1 h2, h3⟩
theorem cntI_le (x : List (List S115)) (i : Nat) : cntI x i ≤ 256 := cnt_le _ _
theorem impl_rows_ev {x : List (List S115)} {r : List (List Int)} {a : List Int} (d : DfaB x r a) (ha : a.length = r.length) :
    Ev (fun k => impl_DfaOk.l2 k r (r.length : Int) 0 x r a) (yes (∀ i, i < r.length → RowQ x.length r.length (rd_L14 r (i : Int)) (rd a (i : Int)))) := by
  have hr0 := d.r0
  have hx0 := d.p0
  have key := loop_ev (fun k (_ : Unit) i => impl_DfaOk.l2 k r (r.length : Int) i x r a) r.length (fun _ => ()) (fun i => RowQ x.length r.length (rd_L14 r (i : Int)) (rd a (i : Int))) false
    (fun i hi _ => by
      obtain ⟨row, hrow⟩ : ∃ y, y = rd_L14 r (i : Int) := ⟨_, rfl⟩
      have hrl : row.length * 8 ≤ 140737488351232 := by
        rw [hrow]; unfold rd_L14; rw [getD_at hi]; exact d.r1 _ (List.getElem_mem hi)
      have inner := loop_ev (fun k (_ : Unit) q => impl_DfaOk.l3 k r (r.length : Int) (i : Int) row (row.length : Int) q x r a) row.length (fun _ => ()) (fun q => -1 ≤ rd row (q : Int) ∧ rd row (q : Int) < (r.length : Int)) false
        (fun q hq _ => by
          have hw : wrap64 ((r.length : Int) - 1) = (r.length : Int) - 1 := wrap_id (by omega) (by omega)
          constructor
          · intro hQ s hs
            refine Ev.late (g := fun k => impl_DfaOk.l3 k r (r.length : Int) (i : Int) row (row.length : Int) (q : Int) x r a) ⟨0, fun k _ => ?_⟩ hs
            simp only [impl_DfaOk.l3, impl_in.f]
            rw [if_pos (by omega), if_pos (by omega), if_pos (by omega), if_pos (show rd row (q : Int) ≥ -1 from hQ.1), Option.bind_some, decide_eq_true (show rd row (q : Int) ≤ wrap64 ((r.length : Int) - 1) by rw [hw]; omega), if_pos rfl, wrap_nat (by omega)]
          · intro hQ
            refine Ev.ofSucc (g := fun k => impl_DfaOk.l3 k r (r.length : Int) (i : Int) row (row.length : Int) (q : Int) x r a) (fun k => ?_)
            simp only [impl_DfaOk.l3, impl_in.f]
            rw [if_pos (by omega), if_pos (by omega), if_pos (by omega), hw]
            by_cases c : rd row (q : Int) ≥ -1
            · rw [if_pos c, Option.bind_some, decide_eq_false (fun h => hQ ⟨c, by omega⟩), if_neg (by simp)]
            · rw [if_neg c, Option.bind_some, if_neg (by simp)])
      show (RowQ x.length r.length (rd_L14 r (i : Int)) (rd a (i : Int)) → _) ∧ (¬ RowQ x.length r.length (rd_L14 r (i : Int)) (rd a (i : Int)) → _)
      rw [← hrow]
      have bad : Ev (fun k => impl_DfaOk.j6 k row r (r.length : Int) (i : Int) true x r a) false := Ev.ofSucc (g := fun k => impl_DfaOk.j6 k row r (r.length : Int) (i : Int) true x r a) (fun k => by simp only [impl_DfaOk.j6, ↓reduceIte])
      have good : ∀ s, Ev (fun k => impl_DfaOk.l3 k r (r.length : Int) (i : Int) row (row.length : Int) 0 x r a) s → Ev (fun k => impl_DfaOk.j6 k row r (r.length : Int) (i : Int) false x r a) s := fun s hs => Ev.late (g := fun k => impl_DfaOk.j6 k row r (r.length : Int) (i : Int) false x r a) ⟨0, fun k _ => by simp only [impl_DfaOk.j6]; rw [if_neg (by simp)]⟩ hs
      have ask : ∀ s, Ev (fun k => impl_DfaOk.j6 k row r (r.length : Int) (i : Int) (!(yes (-1 ≤ rd a (i : Int) ∧ rd a (i : Int) ≤ 4))) x r a) s → row.length = x.length → Ev (fun k => impl_DfaOk.l2 k r (r.length : Int) (i : Int) x r a) s := by
        intro s hs hl
        refine Ev.late (g := fun k => impl_DfaOk.l2 k r (r.length : Int) (i : Int) x r a) ⟨0, fun k _ => ?_⟩ hs
        simp only [impl_DfaOk.l2, impl_in.f]
        rw [← hrow, if_pos (by omega), if_pos (by omega), if_pos (by omega), if_pos (by omega), if_pos (by omega)]
        by_cases c : rd a (i : Int) ≥ -1
        · rw [if_pos c, Option.bind_some]
          by_cases c2 : rd a (i : Int) ≤ 4
          · rw [decide_eq_true c2, yes_pos ⟨c, c2⟩]
          · rw [decide_eq_false c2, yes_neg fun h => c2 h.2]
        · rw [if_neg c, Option.bind_some, yes_neg fun h => c h.1]
      constructor
      · intro hQ s hs
        obtain ⟨h1, h2, h3, h4⟩ := hQ
        refine ask s ?_ h1
        rw [yes_pos ⟨h2, h3⟩]
        refine good s (inner.1 h4 s ?_)
        refine Ev.late (g := fun k => impl_DfaOk.l3 k r (r.length : Int) (i : Int) row (row.length : Int) (row.length : Int) x r a) ⟨0, fun k _ => ?_⟩ hs
        simp only [impl_DfaOk.l3]
        rw [if_neg (by omega), wrap_nat (by omega)]
      · intro hQ
        by_cases h1 : row.length = x.length
        · refine ask false ?_ h1
          by_cases h2 : -1 ≤ rd a (i : Int) ∧ rd a (i : Int) ≤ 4
          · rw [yes_pos h2]
            refine good false (inner.2 ?_)
            refine Classical.byContradiction fun hn => hQ ⟨h1, h2.1, h2.2, fun k hk => Classical.byContradiction fun hk2 => hn ⟨k, hk, hk2⟩⟩
          · rw [yes_neg h2]; exact bad
        · refine Ev.late (g := fun k => impl_DfaOk.l2 k r (r.length : Int) (i : Int) x r a) ⟨0, fun k _ => ?_⟩ bad
          simp only [impl_DfaOk.l2]
          rw [← hrow, if_pos (by omega), if_pos (by omega), if_pos (by omega), if_neg (by omega)])
  by_cases h : ∀ i, i < r.length → RowQ x.length r.length (rd_L14 r (i : Int)) (rd a (i : Int))
  · rw [yes_pos h]
    exact key.1 h true (Ev.ofSucc (g := fun k => impl_DfaOk.l2 k r (r.length : Int) (r.length : Int) x r a) (fun k => by simp only [impl_DfaOk.l2]; rw [if_neg (by omega)]))
  · rw [yes_neg h]
    exact key.2 (Classical.byContradiction fun hn => h fun i hi => Classical.byContradiction fun hk => hn ⟨i, hi, hk⟩)
theorem impl_tail_ev {x : List (List S115)} {r : List (List Int)} {a : List Int} (d : DfaB x r a) (last : Int) (m : Nat) (al : List Bool) :
    Ev (fun k => impl_DfaOk.l0 k last (m : Int) x (x.length : Int) (x.length : Int) x r a al) (yes (m = 256 ∧ RowsP x r a)) := by
  have hr0 := d.r0
  have ha0 := d.a0
  have bad : Ev (fun k => impl_DfaOk.j4 k true x r a) false := Ev.ofSucc (g := fun k => impl_DfaOk.j4 k true x r a) (fun k => by simp only [impl_DfaOk.j4, ↓reduceIte])
  by_cases c1 : m = 256
  · by_cases c2 : 1 ≤ r.length ∧ r.length ≤ 40
    · have e0 : ∀ k, impl_DfaOk.l0 (k + 1) last (m : Int) x (x.length : Int) (x.length : Int) x r a al = impl_DfaOk.j4 k ((a.length : Int) != (r.length : Int)) x r a := by
        intro k
        simp only [impl_DfaOk.l0, impl_in.f]
        rw [if_neg (by omega), if_pos (by omega), if_pos (by omega), Option.bind_some, decide_eq_true (by omega), if_pos rfl]
      refine Ev.late (g := fun k => impl_DfaOk.l0 k last (m : Int) x (x.length : Int) (x.length : Int) x r a al) ⟨0, fun k _ => e0 k⟩ ?_
      by_cases c3 : a.length = r.length
      · have hne : ((a.length : Int) != (r.length : Int)) = false := by rw [c3]; simp
        rw [hne]
        refine Ev.late (g := fun k => impl_DfaOk.j4 k false x r a) (f := fun k => impl_DfaOk.l2 k r (r.length : Int) 0 x r a) ⟨0, fun k _ => by simp only [impl_DfaOk.j4]; rw [if_neg (by simp)]⟩ ?_
        refine (impl_rows_ev d c3).eqs (yes_congr ⟨fun h => ⟨c1, c2.1, c2.2, c3, h⟩, fun h => h.2.2.2.2⟩)
      · have hne : ((a.length : Int) != (r.length : Int)) = true := by rw [bne_iff_ne]; omega
        rw [hne, yes_neg fun h => c3 h.2.2.2.1]
        exact bad
    · rw [yes_neg fun h => c2 ⟨h.2.1, h.2.2.1⟩]
      refine Ev.late (g := fun k => impl_DfaOk.l0 k last (m : Int) x (x.length : Int) (x.length : Int) x r a al) ⟨0, fun k _ => ?_⟩ bad
      simp only [impl_DfaOk.l0, impl_in.f]
      rw [if_neg (by omega), if_pos (by omega)]
      by_cases c : (r.length : Int) ≥ 1
      · rw [if_pos c, Option.bind_some, decide_eq_false (by omega), if_neg (by simp)]
      · rw [if_neg c, Option.bind_some, if_neg (by simp)]
  · rw [yes_neg fun h => c1 h.1]
    refine Ev.late (g := fun k => impl_DfaOk.l0 k last (m : Int) x (x.length : Int) (x.length : Int) x r a al) ⟨0, fun k _ => ?_⟩ bad
    simp only [impl_DfaOk.l0]
    rw [if_neg (by omega), if_neg (by omega)]
theorem repl_map (n : Nat) : List.replicate n false = (List.range n).map (fun _ : Nat => false) := by
  apply List.ext_getElem
  · simp
  · intro i h1 h2; simp
noncomputable def allI (x : List (List S115)) (i : Nat) : List Bool := (List.range 256).map fun b : Nat => anyI x i b
noncomputable def allJ (x : List (List S115)) (i b : Nat) : List Bool := (List.range 256).map fun c : Nat => anyI x i c || (decide (c < b) && hasB (partAt x i) (c : Int))
theorem allI_zero (x : List (List S115)) : List.replicate 256 false = allI x 0 := by
  rw [repl_map]; unfold allI
  congr 1
  funext b
  rw [anyI_zero]
theorem allJ_zero (x : List (List S115)) (i : Nat) : allJ x i 0 = allI x i := by
  unfold allJ allI
  congr 1
  funext c
  simp
theorem allJ_end (x : List (List S115)) (i : Nat) : allJ x i 256 = allI x (i + 1) := by
  unfold allJ allI
  apply List.map_congr_left
  intro c hc
  rw [List.mem_range] at hc
  rw [anyI_succ, decide_eq_true hc, Bool.true_and]
theorem allJ_yes (x : List (List S115)) (i b : Nat) (hb : b < 256) (h : hasB (partAt x i) (b : Int) = true) : setB 256 (allJ x i b) (b : Int) true = allJ x i (b + 1) := by
  unfold setB
  rw [padB_self _ _ (by unfold allJ; rw [List.length_map, List.length_range]), Int.toNat_natCast]
  apply List.ext_getElem
  · unfold allJ; rw [List.length_set, List.length_map, List.length_map]
  · intro c h1 h2
    unfold allJ at h1 h2 ⊢
    rw [List.getElem_set]
    simp only [List.getElem_map, List.getElem_range]
    by_cases hc : b = c
    · subst hc
      rw [if_pos rfl, h, decide_eq_true (Nat.lt_succ_self _), Bool.true_and, Bool.or_true]
    · rw [if_neg hc]
      congr 2
      by_cases h3 : c < b
      · rw [decide_eq_true h3, decide_eq_true (show c < b + 1 by omega)]
      · rw [decide_eq_false h3, decide_eq_false (show ¬ c < b + 1 by omega)]
theorem allJ_no (x : List (List S115)) (i b : Nat) (h : hasB (partAt x i) (b : Int) = false) : allJ x i b = allJ x i (b + 1) := by
  unfold allJ
  congr 1
  funext c
  congr 1
  by_cases hc : b = c
  · subst hc; rw [h, Bool.and_false, Bool.and_false]
  · congr 1
    by_cases h3 : c < b
    · rw [decide_eq_true h3, decide_eq_true (show c < b + 1 by omega)]
    · rw [decide_eq_false h3, decide_eq_false (show ¬ c < b + 1 by omega)]
noncomputable def lastI (x : List (List S115)) : Nat → Int
  | 0 => -1
  | i + 1 => (spanAt (partAt x i) 0).f0
theorem impl_parts_ev {x : List (List S115)} {r : List (List Int)} {a : List Int} (d : DfaB x r a) :
    ((∀ i, i < x.length → PartQ x i) → ∀ s, Ev (fun k => impl_DfaOk.l0 k (lastI x x.length) (cntI x x.length : Nat) x (x.length : Int) (x.length : Int) x r a (allI x x.length)) s → Ev (fun k => impl_DfaOk.f k x r a) s) ∧
    ((∃ i, i < x.length ∧ ¬ PartQ x i) → Ev (fun k => impl_DfaOk.f k x r a) false) := by
  have hx0 := d.p0
  have hf : ∀ k, impl_DfaOk.f k x r a = impl_DfaOk.l0 k (lastI x 0) (cntI x 0 : Nat) x (x.length : Int) 0 x r a (allI x 0) := by
    intro k
    unfold impl_DfaOk.f
    rw [← allI_zero, cntI_zero]
    rfl
  simp only [hf]
  refine loop_ev (fun k (s : Int × Nat × List Bool) i => impl_DfaOk.l0 k s.1 (s.2.1 : Int) x (x.length : Int) i x r a s.2.2) x.length (fun i => (lastI x i, cntI x i, allI x i)) (PartQ x) false (fun i hi hbelow => ?_)
  obtain ⟨p, hp⟩ : ∃ y, y = partAt x i := ⟨_, rfl⟩
  have hpl : p.length * 16 ≤ 140737488351232 := by rw [hp]; exact partAt_le d.p1 hi
  obtain ⟨K0, hK0⟩ := impl_SetOk_ev p hpl
  obtain ⟨K1, hK1⟩ := impl_bitsOf_ev p hpl
  dsimp only at hK0 hK1
  have hrd : rd_L11 x (i : Int) = p := hp.symm
  show (PartQ x i → ∀ s, Ev (fun k => impl_DfaOk.l0 k (lastI x (i + 1)) (cntI x (i + 1) : Nat) x (x.length : Int) ((i + 1 : Nat) : Int) x r a (allI x (i + 1))) s → Ev (fun k => impl_DfaOk.l0 k (lastI x i) (cntI x i : Nat) x (x.length : Int) (i : Int) x r a (allI x i)) s) ∧ (¬ PartQ x i → Ev (fun k => impl_DfaOk.l0 k (lastI x i) (cntI x i : Nat) x (x.length : Int) (i : Int) x r a (allI x i)) false)
  have bad : Ev (fun k => impl_DfaOk.j1 k (cntI x i : Nat) p x (x.length : Int) (i : Int) true x r a (allI x i)) false := Ev.ofSucc (g := fun k => impl_DfaOk.j1 k (cntI x i : Nat) p x (x.length : Int) (i : Int) true x r a (allI x i)) (fun k => by simp only [impl_DfaOk.j1, ↓reduceIte])
  by_cases c1 : SetP p
  · by_cases c2 : p.length = 0
    · refine ⟨fun hQ => absurd (hp ▸ c2) hQ.2.1, fun _ => ?_⟩
      refine Ev.late (g := fun k => impl_DfaOk.l0 k (lastI x i) (cntI x i : Nat) x (x.length : Int) (i : Int) x r a (allI x i)) ⟨K0, fun k hk => ?_⟩ bad
      simp only [impl_DfaOk.l0]
      rw [hrd, if_pos (by omega), if_pos (by omega), if_pos (by omega), hK0 k hk, Option.bind_some, yes_pos c1, if_pos rfl, if_pos (by omega)]
    · have hlast : ((spanAt p 0).f0 ≤ lastI x i) ↔ ¬ (0 < i → (spanAt (partAt x (i - 1)) 0).f0 < (spanAt p 0).f0) := by
        cases i with
        | zero =>
          obtain ⟨q1, _⟩ := c1 0 (by omega)
          have q1' : 0 ≤ (spanAt p 0).f0 := q1
          show (spanAt p 0).f0 ≤ -1 ↔ _
          exact ⟨fun h => by omega, fun h => absurd (fun h0 => absurd h0 (Nat.lt_irrefl 0)) h⟩
        | succ i =>
          show (spanAt p 0).f0 ≤ (spanAt (partAt x i) 0).f0 ↔ _
          have e : i + 1 - 1 = i := rfl
          rw [e]
          exact ⟨fun h h2 => by have := h2 (Nat.succ_pos _); omega, fun h => by
            rcases Int.lt_or_le (spanAt (partAt x i) 0).f0 (spanAt p 0).f0 with h3 | h3
            · exact absurd (fun _ => h3) h
            · exact h3⟩
      have toJ : ∀ s, Ev (fun k => impl_DfaOk.j1 k (cntI x i : Nat) p x (x.length : Int) (i : Int) (decide ((spanAt p 0).f0 ≤ lastI x i)) x r a (allI x i)) s → Ev (fun k => impl_DfaOk.l0 k (lastI x i) (cntI x i : Nat) x (x.length : Int) (i : Int) x r a (allI x i)) s := by
        intro s hs
        refine Ev.late (g := fun k => impl_DfaOk.l0 k (lastI x i) (cntI x i : Nat) x (x.length : Int) (i : Int) x r a (allI x i)) ⟨K0, fun k hk => ?_⟩ hs
        simp only [impl_DfaOk.l0]
        rw [hrd, if_pos (by omega), if_pos (by omega), if_pos (by omega), hK0 k hk, Option.bind_some, yes_pos c1, if_pos rfl, if_neg (by omega), if_pos (by omega)]
      by_cases c3 : (spanAt p 0).f0 ≤ lastI x i
      · refine ⟨fun hQ => absurd (hp ▸ hQ.2.2.1) (hlast.1 c3), fun _ => toJ false ?_⟩
        rw [decide_eq_true c3]; exact bad
      · have c3' : 0 < i → (spanAt (partAt x (i - 1)) 0).f0 < (spanAt p 0).f0 := Classical.byContradiction fun h => c3 (hlast.2 h)
        have hcn := cntI_le x i
        have inner := loop_ev (fun k (s : Nat × List Bool) b => impl_DfaOk.l1 k (spanAt p 0).f0 (s.1 : Int) x (x.length : Int) (i : Int) (bitsL p) b x r a s.2) 256 (fun b => (cntI x i + cnt (fun c : Nat => hasB p (c : Int)) b, allJ x i b)) (fun b => ¬ (hasB p (b : Int) = true ∧ anyI x i b = true)) false
          (fun b hb _ => by
            have hcb := cnt_le (fun c : Nat => hasB p (c : Int)) b
            have hg := getB_bitsL p b hb
            have hg2 : getB (allJ x i b) (b : Int) = anyI x i b := by
              unfold allJ
              rw [getB_map _ b hb, decide_eq_false (Nat.lt_irrefl _), Bool.false_and, Bool.or_false]
            show (¬ (hasB p (b : Int) = true ∧ anyI x i b = true) → ∀ s, Ev (fun k => impl_DfaOk.l1 k (spanAt p 0).f0 ((cntI x i + (cnt (fun c : Nat => hasB p (c : Int)) b + (if hasB p (b : Int) = true then 1 else 0)) : Nat) : Int) x (x.length : Int) (i : Int) (bitsL p) ((b + 1 : Nat) : Int) x r a (allJ x i (b + 1))) s → Ev (fun k => impl_DfaOk.l1 k (spanAt p 0).f0 ((cntI x i + cnt (fun c : Nat => hasB p (c : Int)) b : Nat) : Int) x (x.length : Int) (i : Int) (bitsL p) (b : Int) x r a (allJ x i b)) s) ∧ (¬ ¬ (hasB p (b : Int) = true ∧ anyI x i b = true) → Ev (fun k => impl_DfaOk.l1 k (spanAt p 0).f0 ((cntI x i + cnt (fun c : Nat => hasB p (c : Int)) b : Nat) : Int) x (x.length : Int) (i : Int) (bitsL p) (b : Int) x r a (allJ x i b)) false)
            by_cases hh : hasB p (b : Int) = true
            · have to3 : ∀ s, Ev (fun k => impl_DfaOk.j3 k (spanAt p 0).f0 ((cntI x i + cnt (fun c : Nat => hasB p (c : Int)) b : Nat) : Int) (b : Int) true x (x.length : Int) (i : Int) (bitsL p) (b : Int) (anyI x i b) x r a (allJ x i b)) s → Ev (fun k => impl_DfaOk.l1 k (spanAt p 0).f0 ((cntI x i + cnt (fun c : Nat => hasB p (c : Int)) b : Nat) : Int) x (x.length : Int) (i : Int) (bitsL p) (b : Int) x r a (allJ x i b)) s := by
                intro s hs
                refine Ev.late (g := fun k => impl_DfaOk.l1 k (spanAt p 0).f0 ((cntI x i + cnt (fun c : Nat => hasB p (c : Int)) b : Nat) : Int) x (x.length : Int) (i : Int) (bitsL p) (b : Int) x r a (allJ x i b)) ⟨0, fun k _ => ?_⟩ hs
                simp only [impl_DfaOk.l1]
                rw [if_pos (by omega), if_pos (by omega), hg, hh, if_pos rfl, hg2]
              constructor
              · intro hq s hs
                have ha : anyI x i b = false := Bool.eq_false_iff.2 fun h => hq ⟨hh, h⟩
                refine to3 s ?_
                rw [ha]
                rw [if_pos hh] at hs
                refine Ev.late (g := fun k => impl_DfaOk.j3 k (spanAt p 0).f0 ((cntI x i + cnt (fun c : Nat => hasB p (c : Int)) b : Nat) : Int) (b : Int) true x (x.length : Int) (i : Int) (bitsL p) (b : Int) false x r a (allJ x i b)) ⟨0, fun k _ => ?_⟩ hs
                simp only [impl_DfaOk.j3]
                rw [if_neg (by simp), if_pos trivial, if_pos (by omega), if_pos (by omega), wrap_nat (by omega), wrap_nat (by omega), allJ_yes x i b hb (hp ▸ hh), Nat.add_assoc]
              · intro hq
                have ha : anyI x i b = true := (Classical.not_not.1 hq).2
                refine to3 false ?_
                rw [ha]
                exact Ev.ofSucc (g := fun k => impl_DfaOk.j3 k (spanAt p 0).f0 ((cntI x i + cnt (fun c : Nat => hasB p (c : Int)) b : Nat) : Int) (b : Int) true x (x.length : Int) (i : Int) (bitsL p) (b : Int) true x r a (allJ x i b)) (fun k => by simp only [impl_DfaOk.j3, ↓reduceIte])
            · have hh' : hasB p (b : Int) = false := Bool.eq_false_iff.2 hh
              refine ⟨fun _ s hs => ?_, fun hq => absurd (Classical.not_not.1 hq).1 hh⟩
              rw [if_neg hh, Nat.add_zero] at hs
              refine Ev.late (g := fun k => impl_DfaOk.l1 k (spanAt p 0).f0 ((cntI x i + cnt (fun c : Nat => hasB p (c : Int)) b : Nat) : Int) x (x.length : Int) (i : Int) (bitsL p) (b : Int) x r a (allJ x i b)) (f := fun k => impl_DfaOk.j3 k (spanAt p 0).f0 ((cntI x i + cnt (fun c : Nat => hasB p (c : Int)) b : Nat) : Int) (b : Int) false x (x.length : Int) (i : Int) (bitsL p) (b : Int) false x r a (allJ x i b)) ⟨0, fun k _ => ?_⟩ ?_
              · simp only [impl_DfaOk.l1]
                rw [if_pos (by omega), if_pos (by omega), hg, hh', if_neg (by simp)]
              · refine Ev.late (g := fun k => impl_DfaOk.j3 k (spanAt p 0).f0 ((cntI x i + cnt (fun c : Nat => hasB p (c : Int)) b : Nat) : Int) (b : Int) false x (x.length : Int) (i : Int) (bitsL p) (b : Int) false x r a (allJ x i b)) ⟨0, fun k _ => ?_⟩ hs
                simp only [impl_DfaOk.j3]
                rw [if_neg (by simp), if_neg (by simp), wrap_nat (by omega), allJ_no x i b (hp ▸ hh')])
        have toL : ∀ s, Ev (fun k => impl_DfaOk.l1 k (spanAt p 0).f0 (cntI x i : Nat) x (x.length : Int) (i : Int) (bitsL p) 0 x r a (allI x i)) s → Ev (fun k => impl_DfaOk.l0 k (lastI x i) (cntI x i : Nat) x (x.length : Int) (i : Int) x r a (allI x i)) s := by
          intro s hs
          refine toJ s ?_
          rw [decide_eq_false c3]
          refine Ev.late (g := fun k => impl_DfaOk.j1 k (cntI x i : Nat) p x (x.length : Int) (i : Int) false x r a (allI x i)) ⟨K1, fun k hk => ?_⟩ hs
          simp only [impl_DfaOk.j1]
          rw [if_neg (by simp), if_pos (by omega), hK1 k hk, Option.bind_some]
        dsimp only at inner
        have hc0 : cnt (fun c : Nat => hasB p (c : Int)) 0 = 0 := by unfold cnt; rfl
        rw [hc0, Nat.add_zero, allJ_zero] at inner
        constructor
        · intro hQ s hs
          refine toL s (inner.1 (fun b hb ⟨h1, h2⟩ => ?_) s ?_)
          · obtain ⟨j, hj, h3⟩ := yes_iff.1 h2
            exact hQ.2.2.2 j hj ⟨b, hb, hp ▸ yes_iff.1 h1, h3⟩
          · refine Ev.late (g := fun k => impl_DfaOk.l1 k (spanAt p 0).f0 ((cntI x i + cnt (fun c : Nat => hasB p (c : Int)) 256 : Nat) : Int) x (x.length : Int) (i : Int) (bitsL p) (256 : Nat) x r a (allJ x i 256)) ⟨0, fun k _ => ?_⟩ hs
            simp only [impl_DfaOk.l1]
            rw [if_neg (by omega), wrap_nat (by omega), allJ_end, cntI_succ x i hQ.2.2.2, ← hp]
            show _ = impl_DfaOk.l0 k (spanAt (partAt x i) 0).f0 _ _ _ _ _ _ _ _
            rw [← hp]
        · intro hQ
          refine toL false (inner.2 ?_)
          refine Classical.byContradiction fun hn => hQ ⟨hp ▸ c1, hp ▸ c2, hp ▸ c3', fun j hj ⟨b, hb, h1, h2⟩ => hn ⟨b, hb, fun hq => hq ⟨yes_pos (hp ▸ h1), yes_pos ⟨j, hj, h2⟩⟩⟩⟩
  · refine ⟨fun hQ => absurd (hp ▸ hQ.1) c1, fun _ => ?_⟩
    refine Ev.late (g := fun k => impl_DfaOk.l0 k (lastI x i) (cntI x i : Nat) x (x.length : Int) (i : Int) x r a (allI x i)) ⟨K0, fun k hk => ?_⟩ bad
    simp only [impl_DfaOk.l0]
    rw [hrd, if_pos (by omega), if_pos (by omega), if_pos (by omega), hK0 k hk, Option.bind_some, yes_neg c1, if_neg (by simp)]
theorem impl_DfaOk_ev {x : List (List S115)} {r : List (List Int)} {a : List Int} (d : DfaB x r a) : Ev (fun k => impl_DfaOk.f k x r a) (yes (DfaP x r a)) := by
  by_cases h : ∀ i, i < x.length → PartQ x i
  · refine (impl_parts_ev d).1 h _ ((impl_tail_ev d _ _ _).eqs (yes_congr ⟨fun h2 => ⟨h, h2⟩, fun h2 => h2.2⟩))
  · rw [yes_neg fun h2 => h h2.1]
    exact (impl_parts_ev d).2 (Classical.byContradiction fun hn => h fun i hi => Classical.byContradiction fun hq => hn ⟨i, hi, hq⟩)
end Go.Proofs.Ytljaoggbfoimfaa.P

set_option linter.unusedVariables false
set_option linter.unusedSimpArgs false
namespace Go.Proofs.Ytljaoggbfoimfaa.P
open Go.Proofs.YtljaoggbfoimfaaW.PrintWords Go.RowKit Go.Proofs.Ytljaoggbfoimfaa.Arr
theorem spec_l7Parts_ev {x : List (List S115)} (hx0 : x.length * 24 ≤ 140737488351232) (hx1 : ∀ p ∈ x, p.length * 16 ≤ 140737488351232) : Ev (fun k => spec_l7Parts.f k x) (yes ((∀ i, i < x.length → PartQ x i) ∧ cntI x x.length = 256)) := by
  have hf : ∀ k, spec_l7Parts.f k x = spec_l7Parts.l0 k x (cntI x 0 : Nat) 0 := by
    intro k
    unfold spec_l7Parts.f
    rw [cntI_zero]
    rfl
  simp only [hf]
  have key := loop_ev (fun k (s : Nat) i => spec_l7Parts.l0 k x (s : Int) i) x.length (fun i => cntI x i) (PartQ x) false (fun i hi hbelow => by
    obtain ⟨p, hp⟩ : ∃ y, y = partAt x i := ⟨_, rfl⟩
    have hpl : p.length * 16 ≤ 140737488351232 := by rw [hp]; exact partAt_le hx1 hi
    obtain ⟨K0, hK0⟩ := spec_SetOk_ev p hpl
    dsimp only at hK0
    have hrd : rd_L11 x (i : Int) = p := hp.symm
    show (PartQ x i → ∀ s, Ev (fun k => spec_l7Parts.l0 k x (cntI x (i + 1) : Nat) ((i + 1 : Nat) : Int)) s → Ev (fun k => spec_l7Parts.l0 k x (cntI x i : Nat) (i : Int)) s) ∧ (¬ PartQ x i → Ev (fun k => spec_l7Parts.l0 k x (cntI x i : Nat) (i : Int)) false)
    have bad : Ev (fun k => spec_l7Parts.j1 k x (cntI x i : Nat) (i : Int) true) false := Ev.ofSucc (g := fun k => spec_l7Parts.j1 k x (cntI x i : Nat) (i : Int) true) (fun k => by simp only [spec_l7Parts.j1, ↓reduceIte])
    by_cases c1 : SetP p
    · by_cases c2 : p.length = 0
      · refine ⟨fun hQ => absurd (hp ▸ c2) hQ.2.1, fun _ => ?_⟩
        refine Ev.late (g := fun k => spec_l7Parts.l0 k x (cntI x i : Nat) (i : Int)) ⟨K0, fun k hk => ?_⟩ bad
        simp only [spec_l7Parts.l0]
        rw [hrd, if_pos (by omega), if_pos (by omega), hK0 k hk, Option.bind_some, yes_pos c1, if_pos rfl, if_pos (by omega)]
      · obtain ⟨K2, hK2⟩ := spec_SetFirst_ev hpl c1 c2
        dsimp only at hK2
        have toJ : ∃ b : Bool, (b = true ↔ ¬ (0 < i → (spanAt (partAt x (i - 1)) 0).f0 < (spanAt p 0).f0)) ∧ ∀ s, Ev (fun k => spec_l7Parts.j1 k x (cntI x i : Nat) (i : Int) b) s → Ev (fun k => spec_l7Parts.l0 k x (cntI x i : Nat) (i : Int)) s := by
          cases i with
          | zero =>
            refine ⟨false, ⟨fun h => by simp at h, fun h => absurd (fun h0 => absurd h0 (Nat.lt_irrefl 0)) h⟩, fun s hs => ?_⟩
            refine Ev.late (g := fun k => spec_l7Parts.l0 k x (cntI x 0 : Nat) ((0 : Nat) : Int)) ⟨K0, fun k hk => ?_⟩ hs
            simp only [spec_l7Parts.l0]
            rw [hrd, if_pos (by omega), if_pos (by omega), hK0 k hk, Option.bind_some, yes_pos c1, if_pos rfl, if_neg (by omega), if_neg (by omega)]
          | succ i =>
            have hb := hbelow i (Nat.lt_succ_self i)
            obtain ⟨K3, hK3⟩ := spec_SetFirst_ev (partAt_le hx1 (show i < x.length by omega)) hb.1 hb.2.1
            dsimp only at hK3
            refine ⟨decide ((spanAt p 0).f0 ≤ (spanAt (partAt x i) 0).f0), ?_, fun s hs => ?_⟩
            · rw [decide_eq_true_iff]
              have e : i + 1 - 1 = i := rfl
              rw [e]
              exact ⟨fun h h2 => by have := h2 (Nat.succ_pos _); omega, fun h => by
                rcases Int.lt_or_le (spanAt (partAt x i) 0).f0 (spanAt p 0).f0 with h3 | h3
                · exact absurd (fun _ => h3) h
                · exact h3⟩
            · refine Ev.late (g := fun k => spec_l7Parts.l0 k x (cntI x (i + 1) : Nat) ((i + 1 : Nat) : Int)) ⟨max K0 (max K2 K3), fun k hk => ?_⟩ hs
              have hw : wrap64 (((i + 1 : Nat) : Int) - 1) = (i : Int) := by rw [wrap_id (by omega) (by omega)]; omega
              have h3 : spec_SetFirst.f k (rd_L11 x (i : Int)) = some (spanAt (partAt x i) 0).f0 := hK3 k (by omega)
              simp only [spec_l7Parts.l0]
              rw [hrd, if_pos (by omega), if_pos (by omega), hK0 k (by omega), Option.bind_some, yes_pos c1, if_pos rfl, if_neg (by omega), if_pos (by omega), hK2 k (by omega), Option.bind_some, hw, if_pos (by omega), if_pos (by omega), h3, Option.bind_some]
        obtain ⟨b, hb, toJ⟩ := toJ
        by_cases c3 : 0 < i → (spanAt (partAt x (i - 1)) 0).f0 < (spanAt p 0).f0
        · have hbf : b = false := Bool.eq_false_iff.2 fun h => hb.1 h c3
          have hcn := cntI_le x i
          have inner := loop_ev (fun k (_ : Unit) j => spec_l7Parts.l1 k x (cntI x i : Nat) (i : Int) j) i (fun _ => ()) (fun j => ¬ Meets p (partAt x j)) false (fun j hj _ => by
            have hq := hbelow j hj
            obtain ⟨m, ⟨K4, hK4⟩, hm⟩ := spec_SetMeet_ne hpl (partAt_le hx1 (show j < x.length by omega)) c1 hq.1
            dsimp only at hK4
            have h4 : ∀ k, K4 ≤ k → spec_SetMeet.f k p (rd_L11 x (j : Int)) = some m := hK4
            constructor
            · intro hn s hs
              have hm0 : m = [] := Classical.byContradiction fun h => hn (hm.1 h)
              refine Ev.late (g := fun k => spec_l7Parts.l1 k x (cntI x i : Nat) (i : Int) (j : Int)) ⟨K4, fun k hk => ?_⟩ hs
              simp only [spec_l7Parts.l1]
              rw [hrd, if_pos (by omega), if_pos (by omega), if_pos (by omega), if_pos (by omega), if_pos (by omega), h4 k hk, Option.bind_some, hm0, if_neg (by simp), wrap_nat (by omega)]
            · intro hn
              have hm0 : m ≠ [] := hm.2 (Classical.not_not.1 hn)
              have hml : 0 < m.length := List.length_pos_iff.2 hm0
              refine Ev.succ (g := fun k => spec_l7Parts.l1 k x (cntI x i : Nat) (i : Int) (j : Int)) ⟨K4, fun k hk => ?_⟩
              simp only [spec_l7Parts.l1]
              rw [hrd, if_pos (by omega), if_pos (by omega), if_pos (by omega), if_pos (by omega), if_pos (by omega), h4 k hk, Option.bind_some, if_pos (by omega)])
          have toL : ∀ s, Ev (fun k => spec_l7Parts.l1 k x (cntI x i : Nat) (i : Int) 0) s → Ev (fun k => spec_l7Parts.l0 k x (cntI x i : Nat) (i : Int)) s := by
            intro s hs
            refine toJ s ?_
            rw [hbf]
            refine Ev.late (g := fun k => spec_l7Parts.j1 k x (cntI x i : Nat) (i : Int) false) ⟨0, fun k _ => ?_⟩ hs
            simp only [spec_l7Parts.j1]
            rw [if_neg (by simp)]
          obtain ⟨K5, hK5⟩ := spec_SetSize_ev p hpl
          dsimp only at hK5
          constructor
          · intro hQ s hs
            refine toL s (inner.1 (fun j hj => hp ▸ hQ.2.2.2 j hj) s ?_)
            refine Ev.late (g := fun k => spec_l7Parts.l1 k x (cntI x i : Nat) (i : Int) (i : Int)) ⟨K5, fun k hk => ?_⟩ hs
            have hcl := cnt_le (fun b : Nat => hasB p (b : Int)) 256
            have hcs := cntI_succ x i hQ.2.2.2
            rw [← hp] at hcs
            simp only [spec_l7Parts.l1]
            rw [hrd, if_neg (by omega), if_pos (by omega), if_pos (by omega), hK5 k hk, Option.bind_some, wrap_nat (by omega), wrap_id (by omega) (by omega), hcs, Int.natCast_add (cntI x i)]
          · intro hQ
            refine toL false (inner.2 ?_)
            exact Classical.byContradiction fun hn => hQ ⟨hp ▸ c1, hp ▸ c2, hp ▸ c3, fun j hj hm => hn ⟨j, hj, fun h => h (hp ▸ hm)⟩⟩
        · refine ⟨fun hQ => absurd (hp ▸ hQ.2.2.1) c3, fun _ => toJ false ?_⟩
          rw [hb.2 c3]; exact bad
    · refine ⟨fun hQ => absurd (hp ▸ hQ.1) c1, fun _ => ?_⟩
      refine Ev.late (g := fun k => spec_l7Parts.l0 k x (cntI x i : Nat) (i : Int)) ⟨K0, fun k hk => ?_⟩ bad
      simp only [spec_l7Parts.l0]
      rw [hrd, if_pos (by omega), if_pos (by omega), hK0 k hk, Option.bind_some, yes_neg c1, if_neg (by simp)])
  by_cases h : ∀ i, i < x.length → PartQ x i
  · refine key.1 h _ (Ev.ofSucc (g := fun k => spec_l7Parts.l0 k x (cntI x x.length : Nat) (x.length : Int)) (fun k => ?_))
    simp only [spec_l7Parts.l0]
    rw [if_neg (by omega)]
    by_cases c : cntI x x.length = 256
    · rw [yes_pos ⟨h, c⟩, c]; rfl
    · rw [yes_neg fun h2 => c h2.2]
      congr 1
      rw [beq_eq_false_iff_ne]
      omega
  · rw [yes_neg fun h2 => h h2.1]
    exact key.2 (Classical.byContradiction fun hn => h fun i hi => Classical.byContradiction fun hq => hn ⟨i, hi, hq⟩)
theorem spec_rows_ev {x : List (List S115)} {r : List (List Int)} {a : List Int} (d : DfaB x r a) (ha : a.length = r.length) :
    Ev (fun k => spec_DfaOk.l0 k 0 x r a) (yes (∀ i, i < r.length → RowQ x.length r.length (rd_L14 r (i : Int)) (rd a (i : Int)))) := by
  have hr0 := d.r0
  have hx0 := d.p0
  have key := loop_ev (fun k (_ : Unit) i => spec_DfaOk.l0 k i x r a) r.length (fun _ => ()) (fun i => RowQ x.length r.length (rd_L14 r (i : Int)) (rd a (i : Int))) false
    (fun i hi _ => by
      obtain ⟨row, hrow⟩ : ∃ y, y = rd_L14 r (i : Int) := ⟨_, rfl⟩
      have hrl : row.length * 8 ≤ 140737488351232 := by
        rw [hrow]; unfold rd_L14; rw [getD_at hi]; exact d.r1 _ (List.getElem_mem hi)
      have inner := loop_ev (fun k (_ : Unit) q => spec_DfaOk.l1 k (i : Int) q x r a) row.length (fun _ => ()) (fun q => -1 ≤ rd row (q : Int) ∧ rd row (q : Int) < (r.length : Int)) false
        (fun q hq _ => by
          constructor
          · intro hQ s hs
            refine Ev.late (g := fun k => spec_DfaOk.l1 k (i : Int) (q : Int) x r a) ⟨0, fun k _ => ?_⟩ hs
            simp only [spec_DfaOk.l1]
            rw [← hrow, if_pos (by omega), if_pos (by omega), if_pos (by omega), if_pos (by omega), if_neg (by omega), if_neg (by omega), wrap_nat (by omega)]
          · intro hQ
            refine Ev.ofSucc (g := fun k => spec_DfaOk.l1 k (i : Int) (q : Int) x r a) (fun k => ?_)
            simp only [spec_DfaOk.l1]
            rw [← hrow, if_pos (by omega), if_pos (by omega), if_pos (by omega), if_pos (by omega)]
            by_cases c : rd row (q : Int) < -1
            · rw [if_pos c]
            · rw [if_neg c, if_pos (by omega)])
      show (RowQ x.length r.length (rd_L14 r (i : Int)) (rd a (i : Int)) → _) ∧ (¬ RowQ x.length r.length (rd_L14 r (i : Int)) (rd a (i : Int)) → _)
      rw [← hrow]
      have bad : Ev (fun k => spec_DfaOk.j2 k (i : Int) true x r a) false := Ev.ofSucc (g := fun k => spec_DfaOk.j2 k (i : Int) true x r a) (fun k => by simp only [spec_DfaOk.j2, ↓reduceIte])
      have good : ∀ s, Ev (fun k => spec_DfaOk.l1 k (i : Int) 0 x r a) s → Ev (fun k => spec_DfaOk.j2 k (i : Int) false x r a) s := fun s hs => Ev.late (g := fun k => spec_DfaOk.j2 k (i : Int) false x r a) ⟨0, fun k _ => by simp only [spec_DfaOk.j2]; rw [if_neg (by simp)]⟩ hs
      have ask : ∀ s, Ev (fun k => spec_DfaOk.j2 k (i : Int) (!(yes (-1 ≤ rd a (i : Int) ∧ rd a (i : Int) ≤ 4))) x r a) s → row.length = x.length → Ev (fun k => spec_DfaOk.l0 k (i : Int) x r a) s := by
        intro s hs hl
        refine Ev.late (g := fun k => spec_DfaOk.l0 k (i : Int) x r a) ⟨0, fun k _ => ?_⟩ hs
        simp only [spec_DfaOk.l0]
        rw [← hrow, if_pos (by omega), if_pos (by omega), if_pos (by omega), if_pos (by omega)]
        by_cases c : rd a (i : Int) < -1
        · rw [if_pos c, yes_neg fun h => by omega]; rfl
        · rw [if_neg c]
          by_cases c2 : rd a (i : Int) ≥ 5
          · rw [decide_eq_true c2, yes_neg fun h => by omega]; rfl
          · rw [decide_eq_false c2, yes_pos ⟨by omega, by omega⟩]; rfl
      constructor
      · intro hQ s hs
        obtain ⟨h1, h2, h3, h4⟩ := hQ
        refine ask s ?_ h1
        rw [yes_pos ⟨h2, h3⟩]
        refine good s (inner.1 h4 s ?_)
        refine Ev.late (g := fun k => spec_DfaOk.l1 k (i : Int) (row.length : Int) x r a) ⟨0, fun k _ => ?_⟩ hs
        simp only [spec_DfaOk.l1]
        rw [← hrow, if_pos (by omega), if_pos (by omega), if_neg (by omega), wrap_nat (by omega)]
      · intro hQ
        by_cases h1 : row.length = x.length
        · refine ask false ?_ h1
          by_cases h2 : -1 ≤ rd a (i : Int) ∧ rd a (i : Int) ≤ 4
          · rw [yes_pos h2]
            refine good false (inner.2 ?_)
            refine Classical.byContradiction fun hn => hQ ⟨h1, h2.1, h2.2, fun k hk => Classical.byContradiction fun hk2 => hn ⟨k, hk, hk2⟩⟩
          · rw [yes_neg h2]; exact bad
        · refine Ev.late (g := fun k => spec_DfaOk.l0 k (i : Int) x r a) ⟨0, fun k _ => ?_⟩ bad
          simp only [spec_DfaOk.l0]
          rw [← hrow, if_pos (by omega), if_pos (by omega), if_neg (by omega)])
  by_cases h : ∀ i, i < r.length → RowQ x.length r.length (rd_L14 r (i : Int)) (rd a (i : Int))
  · rw [yes_pos h]
    exact key.1 h true (Ev.ofSucc (g := fun k => spec_DfaOk.l0 k (r.length : Int) x r a) (fun k => by simp only [spec_DfaOk.l0]; rw [if_neg (by omega)]))
  · rw [yes_neg h]
    exact key.2 (Classical.byContradiction fun hn => h fun i hi => Classical.byContradiction fun hk => hn ⟨i, hi, hk⟩)
theorem spec_DfaOk_ev {x : List (List S115)} {r : List (List Int)} {a : List Int} (d : DfaB x r a) : Ev (fun k => spec_DfaOk.f k x r a) (yes (DfaP x r a)) := by
  have hr0 := d.r0
  have ha0 := d.a0
  have bad : Ev (fun k => spec_DfaOk.j0 k true x r a) false := Ev.ofSucc (g := fun k => spec_DfaOk.j0 k true x r a) (fun k => by simp only [spec_DfaOk.j0, ↓reduceIte])
  unfold spec_DfaOk.f
  refine Ev.bind (spec_l7Parts_ev d.p0 d.p1) ?_
  by_cases c0 : (∀ i, i < x.length → PartQ x i) ∧ cntI x x.length = 256
  · simp only [yes_pos c0, ↓reduceIte]
    by_cases c1 : (r.length : Int) < 1
    · simp only [if_pos c1]
      rw [yes_neg fun h => by have := h.2.2.1; omega]; exact bad
    simp only [if_neg c1]
    by_cases c2 : (r.length : Int) > 40
    · simp only [if_pos c2]
      rw [yes_neg fun h => by have := h.2.2.2.1; omega]; exact bad
    simp only [if_neg c2]
    by_cases c3 : a.length = r.length
    · have hne : ((a.length : Int) != (r.length : Int)) = false := by rw [c3]; simp
      rw [hne]
      refine Ev.late (g := fun k => spec_DfaOk.j0 k false x r a) (f := fun k => spec_DfaOk.l0 k 0 x r a) ⟨0, fun k _ => by simp only [spec_DfaOk.j0]; rw [if_neg (by simp)]⟩ ?_
      exact (spec_rows_ev d c3).eqs (yes_congr ⟨fun h => ⟨c0.1, c0.2, by omega, by omega, c3, h⟩, fun h => h.2.2.2.2.2⟩)
    · have hne : ((a.length : Int) != (r.length : Int)) = true := by rw [bne_iff_ne]; omega
      rw [hne, yes_neg fun h => c3 h.2.2.2.2.1]
      exact bad
  · simp only [yes_neg c0, Bool.false_eq_true, ↓reduceIte]
    rw [yes_neg fun h => c0 ⟨h.1, h.2.1⟩]; exact bad
end Go.Proofs.Ytljaoggbfoimfaa.P

set_option linter.unusedVariables false
set_option linter.unusedSimpArgs false
namespace Go.Proofs.Ytljaoggbfoimfaa.P
open Go.Proofs.YtljaoggbfoimfaaW.PrintWords Go.RowKit
def IsPart (x : List (List S115)) (b : Int) (i : Nat) : Prop := i < x.length ∧ HasP (partAt x i) b ∧ ∀ j, j < i → ¬ HasP (partAt x j) b
theorem part_or (x : List (List S115)) (b : Int) : (∃ i, IsPart x b i) ∨ ∀ i, i < x.length → ¬ HasP (partAt x i) b := by
  by_cases h : ∃ i, i < x.length ∧ HasP (partAt x i) b
  · left
    have key : ∀ n i, i ≤ n → i < x.length → HasP (partAt x i) b → ∃ i, IsPart x b i := by
      intro n
      induction n with
      | zero => exact fun i h0 h1 h2 => ⟨i, h1, h2, fun j hj => by omega⟩
      | succ n ih =>
        intro i h0 h1 h2
        by_cases hb : ∃ j, j < i ∧ HasP (partAt x j) b
        · obtain ⟨j, hj, hj2⟩ := hb
          exact ih j (by omega) (by omega) hj2
        · exact ⟨i, h1, h2, fun j hj hj2 => hb ⟨j, hj, hj2⟩⟩
    obtain ⟨i, h1, h2⟩ := h
    exact key i i (Nat.le_refl _) h1 h2
  · exact .inr fun i hi hp => h ⟨i, hi, hp⟩
theorem DfaP.row {x : List (List S115)} {r : List (List Int)} {a : List Int} (h : DfaP x r a) {i : Nat} (hi : i < r.length) : (rd_L14 r (i : Int)).length = x.length := (h.2.2.2.2.2 i hi).1
theorem spec_l7Next_ev {x : List (List S115)} {r : List (List Int)} {a : List Int} (d : DfaB x r a) (h : DfaP x r a) (s : Nat) (hs : s < r.length) (b : Int) :
    (∀ i, IsPart x b i → Ev (fun k => spec_l7Next.f k x r a (s : Int) b) (rd (rd_L14 r (s : Int)) (i : Int))) ∧ ((∀ i, i < x.length → ¬ HasP (partAt x i) b) → Ev (fun k => spec_l7Next.f k x r a (s : Int) b) (-1)) := by
  have hx0 := d.p0
  have hl := h.row hs
  unfold spec_l7Next.f
  constructor
  · rintro i ⟨hi, hp, hno⟩
    refine (scan_ev (fun k j => spec_l7Next.l0 k (s : Int) b j x r a) (i + 1) (fun j => j = i) _ (fun j hj hij => ?_) (fun j hj hij => ?_)).1 ⟨i, Nat.lt_succ_self i, rfl⟩
    · subst hij
      obtain ⟨K, hK⟩ := spec_SetHas_ev (partAt x j) (partAt_le d.p1 hi) b
      dsimp only at hK
      refine Ev.succ (g := fun k => spec_l7Next.l0 k (s : Int) b (j : Int) x r a) ⟨K, fun k hk => ?_⟩
      simp only [spec_l7Next.l0]
      rw [if_pos (by omega), if_pos (by omega), hK k hk, Option.bind_some]
      unfold hasB
      rw [yes_pos hp, if_pos rfl, if_pos (by omega), if_pos (by omega), if_pos (by omega)]
    · obtain ⟨K, hK⟩ := spec_SetHas_ev (partAt x j) (partAt_le d.p1 (show j < x.length by omega)) b
      dsimp only at hK
      refine ⟨K, fun k hk => ?_⟩
      simp only [spec_l7Next.l0]
      rw [if_pos (by omega), if_pos (by omega), hK k hk, Option.bind_some, wrap_nat (by omega)]
      unfold hasB
      rw [yes_neg (hno j (by omega)), if_neg (by simp)]
  · intro hno
    refine (scan_ev (fun k j => spec_l7Next.l0 k (s : Int) b j x r a) x.length (fun j => False) (-1) (fun j hj hij => hij.elim) (fun j hj _ => ?_)).2 (fun j _ h => h) _ ?_
    · obtain ⟨K, hK⟩ := spec_SetHas_ev (partAt x j) (partAt_le d.p1 hj) b
      dsimp only at hK
      refine ⟨K, fun k hk => ?_⟩
      simp only [spec_l7Next.l0]
      rw [if_pos (by omega), if_pos (by omega), hK k hk, Option.bind_some, wrap_nat (by omega)]
      unfold hasB
      rw [yes_neg (hno j hj), if_neg (by simp)]
    · exact Ev.ofSucc (g := fun k => spec_l7Next.l0 k (s : Int) b (x.length : Int) x r a) (fun k => by simp only [spec_l7Next.l0]; rw [if_neg (by omega)])
theorem impl_loop_ev {x : List (List S115)} {r : List (List Int)} {a : List Int} (d : DfaB x r a) (h : DfaP x r a) (s : Nat) (hs : s < r.length) (b : Int) :
    (∀ i, IsPart x b i → Ev (fun k => impl_DfaNext.l0 k (s : Int) b x (x.length : Int) 0 x r a) (rd (rd_L14 r (s : Int)) (i : Int))) ∧ ((∀ i, i < x.length → ¬ HasP (partAt x i) b) → Ev (fun k => impl_DfaNext.l0 k (s : Int) b x (x.length : Int) 0 x r a) (-1)) := by
  have hx0 := d.p0
  have hl := h.row hs
  constructor
  · rintro i ⟨hi, hp, hno⟩
    refine (scan_ev (fun k j => impl_DfaNext.l0 k (s : Int) b x (x.length : Int) j x r a) (i + 1) (fun j => j = i) _ (fun j hj hij => ?_) (fun j hj hij => ?_)).1 ⟨i, Nat.lt_succ_self i, rfl⟩
    · subst hij
      obtain ⟨K, hK⟩ := impl_SetHas_ev (partAt x j) (partAt_le d.p1 hi) b
      dsimp only at hK
      refine Ev.succ (g := fun k => impl_DfaNext.l0 k (s : Int) b x (x.length : Int) (j : Int) x r a) ⟨K, fun k hk => ?_⟩
      simp only [impl_DfaNext.l0]
      rw [if_pos (by omega), if_pos (by omega), if_pos (by omega), hK k hk, Option.bind_some]
      unfold hasB
      rw [yes_pos hp, if_pos rfl, if_pos (by omega), if_pos (by omega), if_pos (by omega)]
    · obtain ⟨K, hK⟩ := impl_SetHas_ev (partAt x j) (partAt_le d.p1 (show j < x.length by omega)) b
      dsimp only at hK
      refine ⟨K, fun k hk => ?_⟩
      simp only [impl_DfaNext.l0]
      rw [if_pos (by omega), if_pos (by omega), if_pos (by omega), hK k hk, Option.bind_some, wrap_nat (by omega)]
      unfold hasB
      rw [yes_neg (hno j (by omega)), if_neg (by simp)]
  · intro hno
    refine (scan_ev (fun k j => impl_DfaNext.l0 k (s : Int) b x (x.length : Int) j x r a) x.length (fun j => False) (-1) (fun j hj hij => hij.elim) (fun j hj _ => ?_)).2 (fun j _ h => h) _ ?_
    · obtain ⟨K, hK⟩ := impl_SetHas_ev (partAt x j) (partAt_le d.p1 hj) b
      dsimp only at hK
      refine ⟨K, fun k hk => ?_⟩
      simp only [impl_DfaNext.l0]
      rw [if_pos (by omega), if_pos (by omega), if_pos (by omega), hK k hk, Option.bind_some, wrap_nat (by omega)]
      unfold hasB
      rw [yes_neg (hno j hj), if_neg (by simp)]
    · exact Ev.ofSucc (g := fun k => impl_DfaNext.l0 k (s : Int) b x (x.length : Int) (x.length : Int) x r a) (fun k => by simp only [impl_DfaNext.l0]; rw [if_neg (by omega)])
theorem DfaNext_both {x : List (List S115)} {r : List (List Int)} {a : List Int} (d : DfaB x r a) (s b : Int) : ∃ v, Ev (fun k => spec_DfaNext.f k x r a s b) v ∧ Ev (fun k => impl_DfaNext.f k x r a s b) v := by
  have hr0 := d.r0
  have stop : Ev (fun k => impl_DfaNext.j0 k s b true x r a) (-1) := Ev.ofSucc (g := fun k => impl_DfaNext.j0 k s b true x r a) (fun k => by simp only [impl_DfaNext.j0, ↓reduceIte])
  have hw : wrap64 ((r.length : Int) - 1) = (r.length : Int) - 1 := wrap_id (by omega) (by omega)
  unfold spec_DfaNext.f impl_DfaNext.f
  by_cases h : DfaP x r a
  · by_cases c1 : s < 0
    · refine ⟨-1, Ev.bind (spec_DfaOk_ev d) ?_, Ev.bind (impl_DfaOk_ev d) ?_⟩
      · simp only [yes_pos h, ↓reduceIte, if_pos c1]; exact Ev.now _
      · simp only [yes_pos h, ↓reduceIte, impl_in.f, if_neg (show ¬ s ≥ 0 by omega), Option.bind_some, Bool.false_eq_true]; exact stop
    by_cases c2 : s ≥ (r.length : Int)
    · refine ⟨-1, Ev.bind (spec_DfaOk_ev d) ?_, Ev.bind (impl_DfaOk_ev d) ?_⟩
      · simp only [yes_pos h, ↓reduceIte, if_neg c1, if_pos c2]; exact Ev.now _
      · simp only [yes_pos h, ↓reduceIte, impl_in.f, if_pos (show s ≥ 0 by omega), Option.bind_some, hw, decide_eq_false (show ¬ s ≤ (r.length : Int) - 1 by omega), Bool.false_eq_true]; exact stop
    obtain ⟨n, rfl⟩ : ∃ n : Nat, s = (n : Int) := ⟨s.toNat, by omega⟩
    have hn : n < r.length := by omega
    have toJ : ∀ v, (0 ≤ b ∧ b ≤ 255 → Ev (fun k => impl_DfaNext.l0 k (n : Int) b x (x.length : Int) 0 x r a) v) → (¬ (0 ≤ b ∧ b ≤ 255) → v = -1) → Ev (fun k => (impl_in.f (n : Int) 0 (wrap64 ((r.length : Int) - 1))).bind fun t298 => (if t298 = true then ((impl_in.f b 0 255).bind fun t299 => (impl_DfaNext.j0 k (n : Int) b (!t299) x r a)) else (impl_DfaNext.j0 k (n : Int) b true x r a))) v := by
      intro v hv hv2
      simp only [impl_in.f, if_pos (show (n : Int) ≥ 0 by omega), Option.bind_some, hw, decide_eq_true (show (n : Int) ≤ (r.length : Int) - 1 by omega), ↓reduceIte]
      by_cases c3 : b ≥ 0
      · simp only [if_pos c3, Option.bind_some]
        by_cases c4 : b ≤ 255
        · simp only [decide_eq_true c4, Bool.not_true]
          refine Ev.late (g := fun k => impl_DfaNext.j0 k (n : Int) b false x r a) ⟨0, fun k _ => ?_⟩ (hv ⟨c3, c4⟩)
          simp only [impl_DfaNext.j0]; rw [if_neg (by simp)]
        · simp only [decide_eq_false c4, Bool.not_false]; rw [hv2 (fun h => c4 h.2)]; exact stop
      · simp only [if_neg c3, Option.bind_some, Bool.not_false]; rw [hv2 (fun h => c3 h.1)]; exact stop
    rcases part_or x b with ⟨i, hi⟩ | hno
    · refine ⟨rd (rd_L14 r (n : Int)) (i : Int), Ev.bind (spec_DfaOk_ev d) ?_, Ev.bind (impl_DfaOk_ev d) ?_⟩
      · simp only [yes_pos h, ↓reduceIte, if_neg c1, if_neg c2]
        exact Ev.bind ((spec_l7Next_ev d h n hn b).1 i hi) (Ev.now _)
      · simp only [yes_pos h, ↓reduceIte]
        refine toJ _ (fun _ => (impl_loop_ev d h n hn b).1 i hi) (fun hb => ?_)
        have := (h.1 i hi.1).1.range hi.2.1
        omega
    · refine ⟨-1, Ev.bind (spec_DfaOk_ev d) ?_, Ev.bind (impl_DfaOk_ev d) ?_⟩
      · simp only [yes_pos h, ↓reduceIte, if_neg c1, if_neg c2]
        exact Ev.bind ((spec_l7Next_ev d h n hn b).2 hno) (Ev.now _)
      · simp only [yes_pos h, ↓reduceIte]
        exact toJ _ (fun _ => (impl_loop_ev d h n hn b).2 hno) (fun _ => rfl)
  · refine ⟨-1, Ev.bind (spec_DfaOk_ev d) ?_, Ev.bind (impl_DfaOk_ev d) ?_⟩
    · simp only [yes_neg h, Bool.false_eq_true, ↓reduceIte]; exact Ev.now _
    · simp only [yes_neg h, Bool.false_eq_true, ↓reduceIte]; exact stop
end Go.Proofs.Ytljaoggbfoimfaa.P
namespace Go.Proofs.Ytljaoggbfoimfaa.Pure
open Go.Proofs.Ytljaoggbfoimfaa.P Go.Proofs.YtljaoggbfoimfaaW.PrintWords Go.RowKit
theorem FnExactDfaNext : FnExactDfaNext.Said := by
  intro p r a s b h0 h1 h2
  have hr : reachBytes = 140737488351232 := rfl
  have d0 : DfaL p r a := ⟨hr ▸ h0.1, fun x hx => hr ▸ (h0.2 x hx).1, hr ▸ h1.1, fun x hx => hr ▸ (h1.2 x hx).1, hr ▸ h2.1⟩
  intros
  apply Ev.rounds
  unfold laws_FnExactDfaNext.f
  obtain ⟨v0, e0⟩ := szDfa_ex d0 1048576
  refine Ev.bind e0 ?_
  by_cases c0 : v0 < 0
  · simp only [if_pos c0]; exact Ev.now _
  simp only [if_neg c0]
  have a0 := toDfa_ev d0
  obtain ⟨v, e1, e2⟩ := DfaNext_both d0.to s b
  refine Ev.bind a0 (Ev.bind e1 (Ev.bind a0 (Ev.bind e2 ?_)))
  simp only [↓reduceIte]
  refine Ev.bind a0 (Ev.bind (laws_eqDfa_ev d0.to _ _ _) ?_)
  simp only [yes_pos, and_self, if_true]
  exact Ev.now _
end Go.Proofs.Ytljaoggbfoimfaa.Pure

namespace Go.Proofs.Ytljaoggbfoimfaa.fnExactDfaNext
open Go.ChangeShapes Go.WideShapes Go.ChangeAt Go.RowKit Go.Proofs.Ytljaoggbfoimfaa.Rd Go.Proofs.Ytljaoggbfoimfaa.Pure.FnExactDfaNext Go.Proofs.Ytljaoggbfoimfaa.P Go.Proofs.YtljaoggbfoimfaaW.PrintWords Go.Proofs.YtljaoggbfoimfaaW.PrintLast
open Go.ChangeMaps (open_string shut_string)
set_option linter.unusedVariables false
set_option linter.unusedSimpArgs false
theorem own : ownKnob Try.prog.godebug = none := by kernel_rfl
theorem laidOut : laidOutB Try.prog = true := by kernel_rfl
set_option maxRecDepth 100000 in
theorem lifted (os : Os) (started : os.Started) (H : Type) (enc : TypeId × Value → H) :
    ReturnsInHanded {} Try.checked os 13 .any (Rows.fnExactDfaNextSpec.pre6 enc Try.prog Try.f13 Rows.fnExactDfaNextRow.domain false) (Rows.fnExactDfaNextSpec.post enc Try.prog Try.f13 false true false false) := by
  refine returnsInHanded_of_change_sized (C := Try.checked) own started (by kernel_rfl) Try.func13
    (ChangeSpec.witness6 (enc := enc) (C := Try.checked) false ⟨#[], #[.agg #[.slice none 0 0, .slice none 0 0, .slice none 0 0], .int .i64 0, .int .i64 0], []⟩ 8 (by kernel_rfl) (by kernel_rfl) (by kernel_rfl) (by kernel_rfl)) ?_
  intro W base args ds gs before hval0 hW hcnd hsz0 _
  have hsz : (DataW.weightsEach Try.prog (Try.f13.params.toList ++ Rows.fnExactDfaNextSpec.plain.varTypes Try.prog) (ds ++ gs)).all (· ≤ reachBytes) = true := hsz0
  have hval : ∀ (j : Nat) t v, Try.f13.params[j]? = some t → args[j]? = some v → Value.okWide Try.prog W .any base t v := hval0
  have hW' := hW
  obtain ⟨p, q, hA0, hV, rfl, hfz, hnd⟩ := hW
  have hA : DataW.TrodAll enc Try.prog W 0 (fun _ => true) true Try.f13.params.toList args.toList ds p := hA0
  rw [Try.params13] at hA hval hsz
  obtain ⟨v0, vs0, d0, ds0, p0, q0, hargs, rfl, rfl, h0, r0⟩ := trodAll_cons hA
  obtain ⟨v1, vs1, d1, ds1, p1, q1, rfl, rfl, rfl, h1, r1⟩ := trodAll_cons r0
  obtain ⟨v2, vs2, d2, ds2, p2, q2, rfl, rfl, rfl, h2, r2⟩ := trodAll_cons r1
  obtain ⟨rfl, rfl, rfl⟩ := trodAll_nil r2
  obtain rfl : args = #[v0, v1, v2] := by cases args; simp_all
  obtain ⟨rfl, rfl⟩ := trodVars_none hV
  have z0 : ∀ q ∈ d0.weights Try.prog 50, q ≤ reachBytes := fun q hq => by simpa using List.all_eq_true.1 hsz q (DataW.weights_mem_each (j := 0) rfl rfl q hq)
  have k0 := h0
  have lt0 : ∀ x ∈ p0, x.block < W.heap.size := by obtain ⟨m, hm⟩ := k0; exact DataW.trod_lt m _ _ _ hm
  obtain ⟨x0, hx0, y0⟩ : ∃ x0 : (List (List S131)) × (List (List Int)) × (List Int), ((Kd.pair (Kd.slice 83 (Kd.slice 131 k131)) (Kd.pair (Kd.slice 48 (Kd.slice 3 (Kd.int .i64))) (Kd.slice 3 (Kd.int .i64))))).K W x0 v0.cells.toList ∧ ((x0.1.length * 24 ≤ reachBytes ∧ ∀ y4 ∈ x0.1, (y4.length * 16 ≤ reachBytes ∧ ∀ y2 ∈ y4, B131 y2))) ∧ (((x0.2.1.length * 24 ≤ reachBytes ∧ ∀ y6 ∈ x0.2.1, (y6.length * 8 ≤ reachBytes ∧ ∀ y2 ∈ y6, (Lit.int .i64 y2).wf = true))) ∧ (((x0.2.2.length * 8 ≤ reachBytes ∧ ∀ y6 ∈ x0.2.2, (Lit.int .i64 y6).wf = true)))) := Rd.arg (fun n => (Rd.struct Try.underlying50 rfl (by kernel_rfl) (Fs.cons ((Rd.slice (b := 24) ((Rd.slice (b := 16) (rd131 _) Try.underlying83 (by kernel_rfl) (by kernel_rfl)).le (Nat.le_succ _)) Try.underlying46 (by kernel_rfl) (by kernel_rfl)).le (Nat.le_succ _)) rfl (by kernel_rfl) (Fs.cons ((Rd.slice (b := 24) ((Rd.slice (b := 8) (Rd.int _ Try.underlying3) Try.underlying48 (by kernel_rfl) (by kernel_rfl)).le (Nat.le_succ _)) Try.underlying47 (by kernel_rfl) (by kernel_rfl)).le (Nat.le_succ _)) rfl (by kernel_rfl) (Fs.one ((Rd.slice (b := 8) (Rd.int _ Try.underlying3) Try.underlying48 (by kernel_rfl) (by kernel_rfl)).le (Nat.le_succ _)) rfl (by kernel_rfl))))).le (Nat.le_succ n)) h0 z0
  obtain ⟨cs0, rfl, hcs0⟩ := okWide_struct Try.underlying50 (hval 0 50 v0 rfl rfl)
  obtain ⟨e0_0, r0_0, he0, q0_0, e0_1, r0_1, rfl, q0_1, q0_2⟩ := hx0
  obtain ⟨A0_0, c0_0, rfl, hc0_0, hr0_0⟩ := q0_0
  obtain ⟨A0_1, c0_1, rfl, hc0_1, hr0_1⟩ := q0_1
  obtain ⟨A0_2, c0_2, rfl, hc0_2, hr0_2⟩ := q0_2
  obtain rfl : cs0 = #[.slice A0_0 x0.1.length c0_0, .slice A0_1 x0.2.1.length c0_1, .slice A0_2 x0.2.2.length c0_2] := by cases cs0; simpa [Value.cells] using he0
  obtain ⟨a1, rfl, rfl, rfl, w1⟩ := open_int Try.underlying3 (hval 1 3 v1 rfl rfl) h1
  obtain ⟨a2, rfl, rfl, rfl, w2⟩ := open_int Try.underlying3 (hval 2 3 v2 rfl rfl) h2
  clear hA0 hval0 hsz0 hsz
  obtain ⟨k, hk⟩ := Pure.FnExactDfaNext x0.1 x0.2.1 x0.2.2 a1 a2 y0.1 y0.2.1 y0.2.2 w1 w2
  refine (laws_FnExactDfaNext.calls k A0_0 c0_0 x0.1 A0_1 c0_1 x0.2.1 A0_2 c0_2 x0.2.2 a1 a2 true W hr0_0 hc0_0 hr0_1 hc0_1 hr0_2 hc0_2 rfl hk).mono fun e W' ⟨he, bel0⟩ => ?_
  have bel : Below W.heap.size W W' := bel0
  subst he
  exact ⟨_, rfl, _, _, _, [], _, [], hW', trodAll_mk1 (shut_bool Try.underlying4 _), (trodAll_cons_mk (Below.trod laidOut (by kernel_rfl) (of_decide_eq_true (by kernel_rfl)) k0 bel lt0) (trodAll_cons_mk (shut_int Try.underlying3 w1) (trodAll_cons_mk (shut_int Try.underlying3 w2) trodAll_mk0))), rfl, bel.frame _, fun h => by cases h⟩
theorem over : Rows.fnExactDfaNextRow.holds Try.pinned (OpenSpec.ofChange Rows.fnExactDfaNextSpec) :=
  OpenClaim.holds_of_wide 13 Try.f13 rfl rfl rfl rfl rfl rfl rfl ⟨rfl, rfl, rfl, rfl, rfl⟩ rfl rfl rfl rfl rfl (by kernel_rfl) Try.func13 (by kernel_rfl)
    (of_decide_eq_true (by kernel_rfl)) (by unfold Func.isWrapper; first | (rw [if_pos (by decide +kernel)]; kernel_rfl) | (rw [if_neg (by decide +kernel)]; exact ⟨rfl, rfl⟩))
    (fun os started H enc _ => lifted os started H enc)
theorem proved : Rows.FnExactDfaNextSaid := over
end Go.Proofs.Ytljaoggbfoimfaa.fnExactDfaNext
namespace Go.Proofs.Ytljaoggbfoimfaa
theorem fnExactDfaNext_holds : Rows.FnExactDfaNextSaid := fnExactDfaNext.proved
end Go.Proofs.Ytljaoggbfoimfaa
