/- FnExactDfaRun, part 17 of 17: the functions that it reaches as plain Lean functions, that the program's functions compute them, and what they come to. Conditions: stated at each theorem. -/
import Derived.Test.YtigmibfacllhmaaRows
import Derived.WalkKit
import Derived.ProofKit
import Derived.OpenShut
import Derived.ShutString
import Derived.ChangeOld
import Derived.Below
import Derived.SizedLaws
import Derived.Carry
import Derived.Test.YtigmibfacllhmaaBFnExactDfaRun12
import Derived.Test.YtigmibfacllhmaaBFnExactDfaRun15
set_option linter.unusedVariables false
set_option linter.unusedSimpArgs false
namespace Go.Proofs.Ytigmibfacllhmaa.P
open Go.Proofs.YtigmibfacllhmaaW.PrintWords Go.RowKit Go.Proofs.Ytigmibfacllhmaa.Arr
theorem spec_l7Parts_ev {x : List (List S117)} (hx0 : x.length * 24 ≤ 140737488351232) (hx1 : ∀ p ∈ x, p.length * 16 ≤ 140737488351232) : Ev (fun k => spec_l7Parts.f k x) (yes ((∀ i, i < x.length → PartQ x i) ∧ cntI x x.length = 256)) := by
  have hf : ∀ k, spec_l7Parts.f k x = spec_l7Parts.l0 k x (cntI x 0 : Nat) 0 := by
    intro k
    unfold spec_l7Parts.f
    rw [cntI_zero]
    rfl
  simp only [hf]
  have key := loop_ev (fun k (s : Nat) i => spec_l7Parts.l0 k x (s : Int) i) x.length (fun i => cntI x i) (PartQ x) false (fun i hi hbelow => by
    obtain ⟨p, hp⟩ : ∃ y, y = partAt x i := ⟨_, rfl⟩
    have hpl : p.length * 16 ≤ 140737488351232 := by rw [hp]; exact partAt_le hx1 hi
    obtain ⟨K0, hK0⟩ := spec_SetOk_ev p hpl
    dsimp only at hK0
    have hrd : rd_L6 x (i : Int) = p := hp.symm
    show (PartQ x i → ∀ s, Ev (fun k => spec_l7Parts.l0 k x (cntI x (i + 1) : Nat) ((i + 1 : Nat) : Int)) s → Ev (fun k => spec_l7Parts.l0 k x (cntI x i : Nat) (i : Int)) s) ∧ (¬ PartQ x i → Ev (fun k => spec_l7Parts.l0 k x (cntI x i : Nat) (i : Int)) false)
    have bad : Ev (fun k => spec_l7Parts.j1 k x (cntI x i : Nat) (i : Int) true) false := Ev.ofSucc (g := fun k => spec_l7Parts.j1 k x (cntI x i : Nat) (i : Int) true) (fun k => by simp only [spec_l7Parts.j1, ↓reduceIte])
    by_cases c1 : SetP p
    · by_cases c2 : p.length = 0
      · refine ⟨fun hQ => absurd (hp ▸ c2) hQ.2.1, fun _ => ?_⟩
        refine Ev.late (g := fun k => spec_l7Parts.l0 k x (cntI x i : Nat) (i : Int)) ⟨K0, fun k hk => ?_⟩ bad
        simp only [spec_l7Parts.l0]
        rw [hrd, if_pos (by omega), if_pos (by omega), hK0 k hk, Option.bind_some, yes_pos c1, if_pos rfl, if_pos (by omega)]
      · obtain ⟨K2, hK2⟩ := spec_SetFirst_ev hpl c1 c2
        dsimp only at hK2
        have toJ : ∃ b : Bool, (b = true ↔ ¬ (0 < i → (spanAt (partAt x (i - 1)) 0).f0 < (spanAt p 0).f0)) ∧ ∀ s, Ev (fun k => spec_l7Parts.j1 k x (cntI x i : Nat) (i : Int) b) s → Ev (fun k => spec_l7Parts.l0 k x (cntI x i : Nat) (i : Int)) s := by
          cases i with
          | zero =>
            refine ⟨false, ⟨fun h => by simp at h, fun h => absurd (fun h0 => absurd h0 (Nat.lt_irrefl 0)) h⟩, fun s hs => ?_⟩
            refine Ev.late (g := fun k => spec_l7Parts.l0 k x (cntI x 0 : Nat) ((0 : Nat) : Int)) ⟨K0, fun k hk => ?_⟩ hs
            simp only [spec_l7Parts.l0]
            rw [hrd, if_pos (by omega), if_pos (by omega), hK0 k hk, Option.bind_some, yes_pos c1, if_pos rfl, if_neg (by omega), if_neg (by omega)]
          | succ i =>
            have hb := hbelow i (Nat.lt_succ_self i)
            obtain ⟨K3, hK3⟩ := spec_SetFirst_ev (partAt_le hx1 (show i < x.length by omega)) hb.1 hb.2.1
            dsimp only at hK3
            refine ⟨decide ((spanAt p 0).f0 ≤ (spanAt (partAt x i) 0).f0), ?_, fun s hs => ?_⟩
            · rw [decide_eq_true_iff]
              have e : i + 1 - 1 = i := rfl
              rw [e]
              exact ⟨fun h h2 => by have := h2 (Nat.succ_pos _); omega, fun h => by
                rcases Int.lt_or_le (spanAt (partAt x i) 0).f0 (spanAt p 0).f0 with h3 | h3
                · exact absurd (fun _ => h3) h
                · exact h3⟩
            · refine Ev.late (g := fun k => spec_l7Parts.l0 k x (cntI x (i + 1) : Nat) ((i + 1 : Nat) : Int)) ⟨max K0 (max K2 K3), fun k hk => ?_⟩ hs
              have hw : wrap64 (((i + 1 : Nat) : Int) - 1) = (i : Int) := by rw [wrap_id (by omega) (by omega)]; omega
              have h3 : spec_SetFirst.f k (rd_L6 x (i : Int)) = some (spanAt (partAt x i) 0).f0 := hK3 k (by omega)
              simp only [spec_l7Parts.l0]
              rw [hrd, if_pos (by omega), if_pos (by omega), hK0 k (by omega), Option.bind_some, yes_pos c1, if_pos rfl, if_neg (by omega), if_pos (by omega), hK2 k (by omega), Option.bind_some, hw, if_pos (by omega), if_pos (by omega), h3, Option.bind_some]
        obtain ⟨b, hb, toJ⟩ := toJ
        by_cases c3 : 0 < i → (spanAt (partAt x (i - 1)) 0).f0 < (spanAt p 0).f0
        · have hbf : b = false := Bool.eq_false_iff.2 fun h => hb.1 h c3
          have hcn := cntI_le x i
          have inner := loop_ev (fun k (_ : Unit) j => spec_l7Parts.l1 k x (cntI x i : Nat) (i : Int) j) i (fun _ => ()) (fun j => ¬ Meets p (partAt x j)) false (fun j hj _ => by
            have hq := hbelow j hj
            obtain ⟨m, ⟨K4, hK4⟩, hm⟩ := spec_SetMeet_ne hpl (partAt_le hx1 (show j < x.length by omega)) c1 hq.1
            dsimp only at hK4
            have h4 : ∀ k, K4 ≤ k → spec_SetMeet.f k p (rd_L6 x (j : Int)) = some m := hK4
            constructor
            · intro hn s hs
              have hm0 : m = [] := Classical.byContradiction fun h => hn (hm.1 h)
              refine Ev.late (g := fun k => spec_l7Parts.l1 k x (cntI x i : Nat) (i : Int) (j : Int)) ⟨K4, fun k hk => ?_⟩ hs
              simp only [spec_l7Parts.l1]
              rw [hrd, if_pos (by omega), if_pos (by omega), if_pos (by omega), if_pos (by omega), if_pos (by omega), h4 k hk, Option.bind_some, hm0, if_neg (by simp), wrap_nat (by omega)]
            · intro hn
              have hm0 : m ≠ [] := hm.2 (Classical.not_not.1 hn)
              have hml : 0 < m.length := List.length_pos_iff.2 hm0
              refine Ev.succ (g := fun k => spec_l7Parts.l1 k x (cntI x i : Nat) (i : Int) (j : Int)) ⟨K4, fun k hk => ?_⟩
              simp only [spec_l7Parts.l1]
              rw [hrd, if_pos (by omega), if_pos (by omega), if_pos (by omega), if_pos (by omega), if_pos (by omega), h4 k hk, Option.bind_some, if_pos (by omega)])
          have toL : ∀ s, Ev (fun k => spec_l7Parts.l1 k x (cntI x i : Nat) (i : Int) 0) s → Ev (fun k => spec_l7Parts.l0 k x (cntI x i : Nat) (i : Int)) s := by
            intro s hs
            refine toJ s ?_
            rw [hbf]
            refine Ev.late (g := fun k => spec_l7Parts.j1 k x (cntI x i : Nat) (i : Int) false) ⟨0, fun k _ => ?_⟩ hs
            simp only [spec_l7Parts.j1]
            rw [if_neg (by simp)]
          obtain ⟨K5, hK5⟩ := spec_SetSize_ev p hpl
          dsimp only at hK5
          constructor
          · intro hQ s hs
            refine toL s (inner.1 (fun j hj => hp ▸ hQ.2.2.2 j hj) s ?_)
            refine Ev.late (g := fun k => spec_l7Parts.l1 k x (cntI x i : Nat) (i : Int) (i : Int)) ⟨K5, fun k hk => ?_⟩ hs
            have hcl := cnt_le (fun b : Nat => hasB p (b : Int)) 256
            have hcs := cntI_succ x i hQ.2.2.2
            rw [← hp] at hcs
            simp only [spec_l7Parts.l1]
            rw [hrd, if_neg (by omega), if_pos (by omega), if_pos (by omega), hK5 k hk, Option.bind_some, wrap_nat (by omega), wrap_id (by omega) (by omega), hcs, Int.natCast_add (cntI x i)]
          · intro hQ
            refine toL false (inner.2 ?_)
            exact Classical.byContradiction fun hn => hQ ⟨hp ▸ c1, hp ▸ c2, hp ▸ c3, fun j hj hm => hn ⟨j, hj, fun h => h (hp ▸ hm)⟩⟩
        · refine ⟨fun hQ => absurd (hp ▸ hQ.2.2.1) c3, fun _ => toJ false ?_⟩
          rw [hb.2 c3]; exact bad
    · refine ⟨fun hQ => absurd (hp ▸ hQ.1) c1, fun _ => ?_⟩
      refine Ev.late (g := fun k => spec_l7Parts.l0 k x (cntI x i : Nat) (i : Int)) ⟨K0, fun k hk => ?_⟩ bad
      simp only [spec_l7Parts.l0]
      rw [hrd, if_pos (by omega), if_pos (by omega), hK0 k hk, Option.bind_some, yes_neg c1, if_neg (by simp)])
  by_cases h : ∀ i, i < x.length → PartQ x i
  · refine key.1 h _ (Ev.ofSucc (g := fun k => spec_l7Parts.l0 k x (cntI x x.length : Nat) (x.length : Int)) (fun k => ?_))
    simp only [spec_l7Parts.l0]
    rw [if_neg (by omega)]
    by_cases c : cntI x x.length = 256
    · rw [yes_pos ⟨h, c⟩, c]; rfl
    · rw [yes_neg fun h2 => c h2.2]
      congr 1
      rw [beq_eq_false_iff_ne]
      omega
  · rw [yes_neg fun h2 => h h2.1]
    exact key.2 (Classical.byContradiction fun hn => h fun i hi => Classical.byContradiction fun hq => hn ⟨i, hi, hq⟩)
theorem spec_rows_ev {x : List (List S117)} {r : List (List Int)} {a : List Int} (d : DfaB x r a) (ha : a.length = r.length) :
    Ev (fun k => spec_DfaOk.l0 k 0 x r a) (yes (∀ i, i < r.length → RowQ x.length r.length (rd_L3 r (i : Int)) (rd a (i : Int)))) := by
  have hr0 := d.r0
  have hx0 := d.p0
  have key := loop_ev (fun k (_ : Unit) i => spec_DfaOk.l0 k i x r a) r.length (fun _ => ()) (fun i => RowQ x.length r.length (rd_L3 r (i : Int)) (rd a (i : Int))) false
    (fun i hi _ => by
      obtain ⟨row, hrow⟩ : ∃ y, y = rd_L3 r (i : Int) := ⟨_, rfl⟩
      have hrl : row.length * 8 ≤ 140737488351232 := by
        rw [hrow]; unfold rd_L3; rw [getD_at hi]; exact d.r1 _ (List.getElem_mem hi)
      have inner := loop_ev (fun k (_ : Unit) q => spec_DfaOk.l1 k (i : Int) q x r a) row.length (fun _ => ()) (fun q => -1 ≤ rd row (q : Int) ∧ rd row (q : Int) < (r.length : Int)) false
        (fun q hq _ => by
          constructor
          · intro hQ s hs
            refine Ev.late (g := fun k => spec_DfaOk.l1 k (i : Int) (q : Int) x r a) ⟨0, fun k _ => ?_⟩ hs
            simp only [spec_DfaOk.l1]
            rw [← hrow, if_pos (by omega), if_pos (by omega), if_pos (by omega), if_pos (by omega), if_neg (by omega), if_neg (by omega), wrap_nat (by omega)]
          · intro hQ
            refine Ev.ofSucc (g := fun k => spec_DfaOk.l1 k (i : Int) (q : Int) x r a) (fun k => ?_)
            simp only [spec_DfaOk.l1]
            rw [← hrow, if_pos (by omega), if_pos (by omega), if_pos (by omega), if_pos (by omega)]
            by_cases c : rd row (q : Int) < -1
            · rw [if_pos c]
            · rw [if_neg c, if_pos (by omega)])
      show (RowQ x.length r.length (rd_L3 r (i : Int)) (rd a (i : Int)) → _) ∧ (¬ RowQ x.length r.length (rd_L3 r (i : Int)) (rd a (i : Int)) → _)
      rw [← hrow]
      have bad : Ev (fun k => spec_DfaOk.j2 k (i : Int) true x r a) false := Ev.ofSucc (g := fun k => spec_DfaOk.j2 k (i : Int) true x r a) (fun k => by simp only [spec_DfaOk.j2, ↓reduceIte])
      have good : ∀ s, Ev (fun k => spec_DfaOk.l1 k (i : Int) 0 x r a) s → Ev (fun k => spec_DfaOk.j2 k (i : Int) false x r a) s := fun s hs => Ev.late (g := fun k => spec_DfaOk.j2 k (i : Int) false x r a) ⟨0, fun k _ => by simp only [spec_DfaOk.j2]; rw [if_neg (by simp)]⟩ hs
      have ask : ∀ s, Ev (fun k => spec_DfaOk.j2 k (i : Int) (!(yes (-1 ≤ rd a (i : Int) ∧ rd a (i : Int) ≤ 4))) x r a) s → row.length = x.length → Ev (fun k => spec_DfaOk.l0 k (i : Int) x r a) s := by
        intro s hs hl
        refine Ev.late (g := fun k => spec_DfaOk.l0 k (i : Int) x r a) ⟨0, fun k _ => ?_⟩ hs
        simp only [spec_DfaOk.l0]
        rw [← hrow, if_pos (by omega), if_pos (by omega), if_pos (by omega), if_pos (by omega)]
        by_cases c : rd a (i : Int) < -1
        · rw [if_pos c, yes_neg fun h => by omega]; rfl
        · rw [if_neg c]
          by_cases c2 : rd a (i : Int) ≥ 5
          · rw [decide_eq_true c2, yes_neg fun h => by omega]; rfl
          · rw [decide_eq_false c2, yes_pos ⟨by omega, by omega⟩]; rfl
      constructor
      · intro hQ s hs
        obtain ⟨h1, h2, h3, h4⟩ := hQ
        refine ask s ?_ h1
        rw [yes_pos ⟨h2, h3⟩]
        refine good s (inner.1 h4 s ?_)
        refine Ev.late (g := fun k => spec_DfaOk.l1 k (i : Int) (row.length : Int) x r a) ⟨0, fun k _ => ?_⟩ hs
        simp only [spec_DfaOk.l1]
        rw [← hrow, if_pos (by omega), if_pos (by omega), if_neg (by omega), wrap_nat (by omega)]
      · intro hQ
        by_cases h1 : row.length = x.length
        · refine ask false ?_ h1
          by_cases h2 : -1 ≤ rd a (i : Int) ∧ rd a (i : Int) ≤ 4
          · rw [yes_pos h2]
            refine good false (inner.2 ?_)
            refine Classical.byContradiction fun hn => hQ ⟨h1, h2.1, h2.2, fun k hk => Classical.byContradiction fun hk2 => hn ⟨k, hk, hk2⟩⟩
          · rw [yes_neg h2]; exact bad
        · refine Ev.late (g := fun k => spec_DfaOk.l0 k (i : Int) x r a) ⟨0, fun k _ => ?_⟩ bad
          simp only [spec_DfaOk.l0]
          rw [← hrow, if_pos (by omega), if_pos (by omega), if_neg (by omega)])
  by_cases h : ∀ i, i < r.length → RowQ x.length r.length (rd_L3 r (i : Int)) (rd a (i : Int))
  · rw [yes_pos h]
    exact key.1 h true (Ev.ofSucc (g := fun k => spec_DfaOk.l0 k (r.length : Int) x r a) (fun k => by simp only [spec_DfaOk.l0]; rw [if_neg (by omega)]))
  · rw [yes_neg h]
    exact key.2 (Classical.byContradiction fun hn => h fun i hi => Classical.byContradiction fun hk => hn ⟨i, hi, hk⟩)
theorem spec_DfaOk_ev {x : List (List S117)} {r : List (List Int)} {a : List Int} (d : DfaB x r a) : Ev (fun k => spec_DfaOk.f k x r a) (yes (DfaP x r a)) := by
  have hr0 := d.r0
  have ha0 := d.a0
  have bad : Ev (fun k => spec_DfaOk.j0 k true x r a) false := Ev.ofSucc (g := fun k => spec_DfaOk.j0 k true x r a) (fun k => by simp only [spec_DfaOk.j0, ↓reduceIte])
  unfold spec_DfaOk.f
  refine Ev.bind (spec_l7Parts_ev d.p0 d.p1) ?_
  by_cases c0 : (∀ i, i < x.length → PartQ x i) ∧ cntI x x.length = 256
  · simp only [yes_pos c0, ↓reduceIte]
    by_cases c1 : (r.length : Int) < 1
    · simp only [if_pos c1]
      rw [yes_neg fun h => by have := h.2.2.1; omega]; exact bad
    simp only [if_neg c1]
    by_cases c2 : (r.length : Int) > 40
    · simp only [if_pos c2]
      rw [yes_neg fun h => by have := h.2.2.2.1; omega]; exact bad
    simp only [if_neg c2]
    by_cases c3 : a.length = r.length
    · have hne : ((a.length : Int) != (r.length : Int)) = false := by rw [c3]; simp
      rw [hne]
      refine Ev.late (g := fun k => spec_DfaOk.j0 k false x r a) (f := fun k => spec_DfaOk.l0 k 0 x r a) ⟨0, fun k _ => by simp only [spec_DfaOk.j0]; rw [if_neg (by simp)]⟩ ?_
      exact (spec_rows_ev d c3).eqs (yes_congr ⟨fun h => ⟨c0.1, c0.2, by omega, by omega, c3, h⟩, fun h => h.2.2.2.2.2⟩)
    · have hne : ((a.length : Int) != (r.length : Int)) = true := by rw [bne_iff_ne]; omega
      rw [hne, yes_neg fun h => c3 h.2.2.2.2.1]
      exact bad
  · simp only [yes_neg c0, Bool.false_eq_true, ↓reduceIte]
    rw [yes_neg fun h => c0 ⟨h.1, h.2.1⟩]; exact bad
end Go.Proofs.Ytigmibfacllhmaa.P

set_option linter.unusedVariables false
set_option linter.unusedSimpArgs false
namespace Go.Proofs.Ytigmibfacllhmaa.P
open Go.Proofs.YtigmibfacllhmaaW.PrintWords Go.RowKit
def IsPart (x : List (List S117)) (b : Int) (i : Nat) : Prop := i < x.length ∧ HasP (partAt x i) b ∧ ∀ j, j < i → ¬ HasP (partAt x j) b
theorem part_or (x : List (List S117)) (b : Int) : (∃ i, IsPart x b i) ∨ ∀ i, i < x.length → ¬ HasP (partAt x i) b := by
  by_cases h : ∃ i, i < x.length ∧ HasP (partAt x i) b
  · left
    have key : ∀ n i, i ≤ n → i < x.length → HasP (partAt x i) b → ∃ i, IsPart x b i := by
      intro n
      induction n with
      | zero => exact fun i h0 h1 h2 => ⟨i, h1, h2, fun j hj => by omega⟩
      | succ n ih =>
        intro i h0 h1 h2
        by_cases hb : ∃ j, j < i ∧ HasP (partAt x j) b
        · obtain ⟨j, hj, hj2⟩ := hb
          exact ih j (by omega) (by omega) hj2
        · exact ⟨i, h1, h2, fun j hj hj2 => hb ⟨j, hj, hj2⟩⟩
    obtain ⟨i, h1, h2⟩ := h
    exact key i i (Nat.le_refl _) h1 h2
  · exact .inr fun i hi hp => h ⟨i, hi, hp⟩
theorem DfaP.row {x : List (List S117)} {r : List (List Int)} {a : List Int} (h : DfaP x r a) {i : Nat} (hi : i < r.length) : (rd_L3 r (i : Int)).length = x.length := (h.2.2.2.2.2 i hi).1
theorem spec_l7Next_ev {x : List (List S117)} {r : List (List Int)} {a : List Int} (d : DfaB x r a) (h : DfaP x r a) (s : Nat) (hs : s < r.length) (b : Int) :
    (∀ i, IsPart x b i → Ev (fun k => spec_l7Next.f k x r a (s : Int) b) (rd (rd_L3 r (s : Int)) (i : Int))) ∧ ((∀ i, i < x.length → ¬ HasP (partAt x i) b) → Ev (fun k => spec_l7Next.f k x r a (s : Int) b) (-1)) := by
  have hx0 := d.p0
  have hl := h.row hs
  unfold spec_l7Next.f
  constructor
  · rintro i ⟨hi, hp, hno⟩
    refine (scan_ev (fun k j => spec_l7Next.l0 k (s : Int) b j x r a) (i + 1) (fun j => j = i) _ (fun j hj hij => ?_) (fun j hj hij => ?_)).1 ⟨i, Nat.lt_succ_self i, rfl⟩
    · subst hij
      obtain ⟨K, hK⟩ := spec_SetHas_ev (partAt x j) (partAt_le d.p1 hi) b
      dsimp only at hK
      refine Ev.succ (g := fun k => spec_l7Next.l0 k (s : Int) b (j : Int) x r a) ⟨K, fun k hk => ?_⟩
      simp only [spec_l7Next.l0]
      rw [if_pos (by omega), if_pos (by omega), hK k hk, Option.bind_some]
      unfold hasB
      rw [yes_pos hp, if_pos rfl, if_pos (by omega), if_pos (by omega), if_pos (by omega)]
    · obtain ⟨K, hK⟩ := spec_SetHas_ev (partAt x j) (partAt_le d.p1 (show j < x.length by omega)) b
      dsimp only at hK
      refine ⟨K, fun k hk => ?_⟩
      simp only [spec_l7Next.l0]
      rw [if_pos (by omega), if_pos (by omega), hK k hk, Option.bind_some, wrap_nat (by omega)]
      unfold hasB
      rw [yes_neg (hno j (by omega)), if_neg (by simp)]
  · intro hno
    refine (scan_ev (fun k j => spec_l7Next.l0 k (s : Int) b j x r a) x.length (fun j => False) (-1) (fun j hj hij => hij.elim) (fun j hj _ => ?_)).2 (fun j _ h => h) _ ?_
    · obtain ⟨K, hK⟩ := spec_SetHas_ev (partAt x j) (partAt_le d.p1 hj) b
      dsimp only at hK
      refine ⟨K, fun k hk => ?_⟩
      simp only [spec_l7Next.l0]
      rw [if_pos (by omega), if_pos (by omega), hK k hk, Option.bind_some, wrap_nat (by omega)]
      unfold hasB
      rw [yes_neg (hno j hj), if_neg (by simp)]
    · exact Ev.ofSucc (g := fun k => spec_l7Next.l0 k (s : Int) b (x.length : Int) x r a) (fun k => by simp only [spec_l7Next.l0]; rw [if_neg (by omega)])
theorem cnt_full (f : Nat → Bool) : ∀ n, cnt f n = n → ∀ b, b < n → f b = true
  | 0, _, b, hb => by omega
  | n + 1, h, b, hb => by
    have h1 := cnt_le f n
    unfold cnt at h
    by_cases c : f n = true
    · rw [if_pos c] at h
      rcases Nat.lt_or_ge b n with h2 | h2
      · exact cnt_full f n (by omega) b h2
      · have : b = n := by omega
        subst this; exact c
    · rw [if_neg c] at h; omega
theorem DfaP.part {x : List (List S117)} {r : List (List Int)} {a : List Int} (h : DfaP x r a) {b : Nat} (hb : b < 256) : ∃ i, IsPart x (b : Int) i := by
  rcases part_or x (b : Int) with hp | hno
  · exact hp
  · have := cnt_full _ 256 h.2.1 b hb
    obtain ⟨j, hj, hp⟩ := yes_iff.1 this
    exact absurd hp (hno j hj)
theorem DfaP.apart {x : List (List S117)} {r : List (List Int)} {a : List Int} (h : DfaP x r a) {i j : Nat} (hi : i < x.length) (hj : j < i) {b : Nat} (hb : b < 256) (h1 : HasP (partAt x i) (b : Int)) : ¬ HasP (partAt x j) (b : Int) :=
  fun h2 => (h.1 i hi).2.2.2 j hj ⟨b, hb, h1, h2⟩
theorem loop_rel {σ β : Type} (L : Nat → σ → Int → Option β) (n : Nat) (Rl : Nat → σ → Prop) (s0 : σ) (h0 : Rl 0 s0)
    (hstep : ∀ i, i < n → ∀ s, Rl i s → ∃ s', Rl (i + 1) s' ∧ ∀ r, Ev (fun k => L k s' ((i + 1 : Nat) : Int)) r → Ev (fun k => L k s (i : Int)) r) :
    ∃ s, Rl n s ∧ ∀ r, Ev (fun k => L k s (n : Int)) r → Ev (fun k => L k s0 0) r := by
  have key : ∀ i, i ≤ n → ∃ s, Rl i s ∧ ∀ r, Ev (fun k => L k s (i : Int)) r → Ev (fun k => L k s0 0) r := by
    intro i
    induction i with
    | zero => exact fun _ => ⟨s0, h0, fun r h => h⟩
    | succ i ih =>
      intro hi
      obtain ⟨s, hs, h⟩ := ih (by omega)
      obtain ⟨s', hs', h'⟩ := hstep i (by omega) s hs
      exact ⟨s', hs', fun r hr => h r (h' r hr)⟩
  exact key n (Nat.le_refl _)
end Go.Proofs.Ytigmibfacllhmaa.P

set_option linter.unusedVariables false
set_option linter.unusedSimpArgs false
namespace Go.Proofs.Ytigmibfacllhmaa.P
open Go.Proofs.YtigmibfacllhmaaW.PrintWords Go.RowKit Go.Proofs.Ytigmibfacllhmaa.Arr
theorem rd_padI (n : Nat) (l : List Int) (b : Nat) (hb : b < n) : rd (padI n l) (b : Int) = rd l (b : Int) := by
  simp [rd, padI, hb]
theorem length_setA (out : List (List Int)) (s b v : Int) : (setA out s b v).length = out.length := by simp [setA]
theorem rd_setA (out : List (List Int)) (s b : Nat) (v : Int) (hs : s < out.length) (hb : b < 256) (s' b' : Nat) (hb' : b' < 256) :
    rd (rdA (setA out (s : Int) (b : Int) v) (s' : Int)) (b' : Int) = if s' = s ∧ b' = b then v else rd (rdA out (s' : Int)) (b' : Int) := by
  unfold setA rdA
  simp only [Int.toNat_natCast]
  by_cases c : s' = s
  · subst c
    have e1 : ∀ y : List Int, (out.set s' y).getD s' [] = y := by
      intro y
      rw [List.getD_eq_getElem?_getD, List.getElem?_set_self hs]; rfl
    rw [e1]
    by_cases c2 : b' = b
    · subst c2
      rw [if_pos ⟨rfl, rfl⟩]
      unfold rd
      rw [Int.toNat_natCast, List.getD_eq_getElem?_getD, List.getElem?_set_self (by simp [padI]; exact hb')]; rfl
    · have e2 := rd_padI 256 (out.getD s' []) b' hb'
      rw [if_neg (fun h => c2 h.2), ← e2]
      unfold rd
      rw [Int.toNat_natCast, List.getD_eq_getElem?_getD, List.getElem?_set_ne (fun h => c2 h.symm), ← List.getD_eq_getElem?_getD]
  · rw [if_neg (fun h => c h.1)]
    have e1 : ∀ y : List Int, (out.set s y).getD s' [] = out.getD s' [] := by
      intro y
      rw [List.getD_eq_getElem?_getD, List.getElem?_set_ne (fun h => c h.symm), ← List.getD_eq_getElem?_getD]
    rw [e1]
abbrev rowAt (r : List (List Int)) (s : Nat) : List Int := rd_L3 r (s : Int)
def TabP (x : List (List S117)) (r : List (List Int)) (t : List (List Int)) : Prop :=
  t.length = r.length ∧ ∀ s : Nat, s < r.length → ∀ b : Nat, b < 256 → ∀ i : Nat, IsPart x (b : Int) i → rd (rdA t (s : Int)) (b : Int) = rd (rowAt r s) (i : Int)
theorem impl_table_ev {x : List (List S117)} {r : List (List Int)} {a : List Int} (d : DfaB x r a) (h : DfaP x r a) : ∃ t, Ev (fun k => impl_table.f k x r a) t ∧ TabP x r t := by
  have hx0 := d.p0
  have hr0 := d.r0
  have hr40 := h.2.2.2.1
  unfold impl_table.f
  simp only [if_pos (show r.length ≤ 137438953472 by omega)]
  have key := loop_rel (fun k out i => impl_table.l0 k out i x r a) x.length (fun i out => out.length = r.length ∧ ∀ s : Nat, s < r.length → ∀ b : Nat, b < 256 → ∀ j : Nat, j < i → HasP (partAt x j) (b : Int) → rd (rdA out (s : Int)) (b : Int) = rd (rowAt r s) (j : Int)) (List.replicate r.length []) ⟨List.length_replicate .., fun s _ b _ j hj => by omega⟩
    (fun i hi out hout => by
      obtain ⟨hl, hv⟩ := hout
      obtain ⟨K0, hK0⟩ := impl_bitsOf_ev (partAt x i) (partAt_le d.p1 hi)
      dsimp only at hK0
      have hb := loop_rel (fun k out b => impl_table.l1 k out (i : Int) (bitsL (partAt x i)) b x r a) 256 (fun b out => out.length = r.length ∧ (∀ s : Nat, s < r.length → ∀ b : Nat, b < 256 → ∀ j : Nat, j < i → HasP (partAt x j) (b : Int) → rd (rdA out (s : Int)) (b : Int) = rd (rowAt r s) (j : Int)) ∧ ∀ s : Nat, s < r.length → ∀ c : Nat, c < b → HasP (partAt x i) (c : Int) → rd (rdA out (s : Int)) (c : Int) = rd (rowAt r s) (i : Int)) out ⟨hl, hv, fun s _ c hc => by omega⟩
        (fun b hb out hout => by
          obtain ⟨hl, hv, hw⟩ := hout
          have hg := getB_bitsL (partAt x i) b hb
          by_cases c : HasP (partAt x i) (b : Int)
          · have hgt : getB (bitsL (partAt x i)) (b : Int) = true := by rw [hg]; exact yes_pos c
            obtain ⟨out', ⟨hl', hv', hw', hs'⟩, hE⟩ := loop_rel (fun k out s => impl_table.l2 k out (i : Int) (bitsL (partAt x i)) (b : Int) true s x r a) r.length (fun s out => out.length = r.length ∧ (∀ s : Nat, s < r.length → ∀ b : Nat, b < 256 → ∀ j : Nat, j < i → HasP (partAt x j) (b : Int) → rd (rdA out (s : Int)) (b : Int) = rd (rowAt r s) (j : Int)) ∧ (∀ s : Nat, s < r.length → ∀ c : Nat, c < b → HasP (partAt x i) (c : Int) → rd (rdA out (s : Int)) (c : Int) = rd (rowAt r s) (i : Int)) ∧ ∀ s' : Nat, s' < s → rd (rdA out (s' : Int)) (b : Int) = rd (rowAt r s') (i : Int)) out ⟨hl, hv, hw, fun s' hs' => by omega⟩
              (fun s hs out hout => by
                obtain ⟨hl, hv, hw, hs2⟩ := hout
                have hrow : (rd_L3 r (s : Int)).length = x.length := h.row hs
                refine ⟨setA out (s : Int) (b : Int) (rd (rowAt r s) (i : Int)), ⟨by rw [length_setA]; exact hl, ?_, ?_, ?_⟩, fun q hq => ?_⟩
                · intro s1 hs1 b1 hb1 j hj hp
                  rw [rd_setA out s b _ (by omega) hb s1 b1 hb1, if_neg (fun he => by
                    obtain ⟨_, rfl⟩ := he
                    exact h.apart hi hj hb1 c hp)]
                  exact hv s1 hs1 b1 hb1 j hj hp
                · intro s1 hs1 c1 hc1 hp
                  rw [rd_setA out s b _ (by omega) hb s1 c1 (by omega), if_neg (fun he => by omega)]
                  exact hw s1 hs1 c1 hc1 hp
                · intro s1 hs1
                  rw [rd_setA out s b _ (by omega) hb s1 b hb]
                  by_cases c2 : s1 = s
                  · subst c2; rw [if_pos ⟨rfl, rfl⟩]
                  · rw [if_neg (fun he => c2 he.1)]; exact hs2 s1 (by omega)
                · refine Ev.late (g := fun k => impl_table.l2 k out (i : Int) (bitsL (partAt x i)) (b : Int) true (s : Int) x r a) ⟨0, fun k _ => ?_⟩ hq
                  simp only [impl_table.l2]
                  rw [if_pos (by omega), if_pos trivial, if_pos (by omega), if_pos (by omega), wrap_nat (by omega)])
            refine ⟨out', ⟨hl', hv', fun s hs c1 hc1 hp => ?_⟩, fun q hq => ?_⟩
            · rcases Nat.lt_or_ge c1 b with h2 | h2
              · exact hw' s hs c1 h2 hp
              · have : c1 = b := by omega
                subst this; exact hs' s hs
            · refine Ev.late (g := fun k => impl_table.l1 k out (i : Int) (bitsL (partAt x i)) (b : Int) x r a) ⟨0, fun k _ => ?_⟩ (hE q (Ev.late (g := fun k => impl_table.l2 k out' (i : Int) (bitsL (partAt x i)) (b : Int) true (r.length : Int) x r a) ⟨0, fun k _ => ?_⟩ hq))
              · simp only [impl_table.l1]
                rw [if_pos (by omega), if_pos (by omega), hgt]
              · simp only [impl_table.l2]
                rw [if_neg (by omega), wrap_nat (by omega)]
          · have hgf : getB (bitsL (partAt x i)) (b : Int) = false := by rw [hg]; exact yes_neg c
            obtain ⟨out', rfl, hE⟩ := loop_rel (fun k out s => impl_table.l2 k out (i : Int) (bitsL (partAt x i)) (b : Int) false s x r a) r.length (fun _ o => o = out) out rfl
              (fun s hs o ho => ⟨o, ho, fun q hq => by
                refine Ev.late (g := fun k => impl_table.l2 k o (i : Int) (bitsL (partAt x i)) (b : Int) false (s : Int) x r a) ⟨0, fun k _ => ?_⟩ hq
                simp only [impl_table.l2]
                rw [if_pos (by omega), if_neg (by simp), wrap_nat (by omega)]⟩)
            refine ⟨out', ⟨hl, hv, fun s hs c1 hc1 hp => ?_⟩, fun q hq => ?_⟩
            · rcases Nat.lt_or_ge c1 b with h2 | h2
              · exact hw s hs c1 h2 hp
              · have : c1 = b := by omega
                subst this; exact absurd hp c
            · refine Ev.late (g := fun k => impl_table.l1 k out' (i : Int) (bitsL (partAt x i)) (b : Int) x r a) ⟨0, fun k _ => ?_⟩ (hE q (Ev.late (g := fun k => impl_table.l2 k out' (i : Int) (bitsL (partAt x i)) (b : Int) false (r.length : Int) x r a) ⟨0, fun k _ => ?_⟩ hq))
              · simp only [impl_table.l1]
                rw [if_pos (by omega), if_pos (by omega), hgf]
              · simp only [impl_table.l2]
                rw [if_neg (by omega), wrap_nat (by omega)])
      obtain ⟨out', ⟨hl', hv', hw'⟩, hE⟩ := hb
      refine ⟨out', ⟨hl', fun s hs b hb j hj hp => ?_⟩, fun q hq => ?_⟩
      · rcases Nat.lt_or_ge j i with h2 | h2
        · exact hv' s hs b hb j h2 hp
        · have : j = i := by omega
          subst this; exact hw' s hs b hb hp
      · refine Ev.late (g := fun k => impl_table.l0 k out (i : Int) x r a) ⟨K0, fun k hk => ?_⟩ (hE q (Ev.late (g := fun k => impl_table.l1 k out' (i : Int) (bitsL (partAt x i)) ((256 : Nat) : Int) x r a) ⟨0, fun k _ => ?_⟩ hq))
        · simp only [impl_table.l0]
          rw [if_pos (by omega), if_pos (by omega)]
          show (impl_bitsOf.f k (partAt x i)).bind _ = _
          rw [hK0 k hk, Option.bind_some]
        · simp only [impl_table.l1]
          rw [if_neg (by omega), wrap_nat (by omega)])
  obtain ⟨t, ⟨hl, hv⟩, hE⟩ := key
  refine ⟨t, hE t (Ev.ofSucc (g := fun k => impl_table.l0 k t (x.length : Int) x r a) (fun k => by simp only [impl_table.l0]; rw [if_neg (by omega)])), hl, fun s hs b hb i hi => hv s hs b hb i hi.1 hi.2.1⟩
end Go.Proofs.Ytigmibfacllhmaa.P

set_option linter.unusedVariables false
set_option linter.unusedSimpArgs false
namespace Go.Proofs.Ytigmibfacllhmaa.P
open Go.Proofs.YtigmibfacllhmaaW.PrintWords Go.RowKit Go.Proofs.Ytigmibfacllhmaa.Arr
theorem bt_nat (s : ByteArray) (i : Int) : ∃ b : Nat, b < 256 ∧ bt s i = (b : Int) := by
  obtain ⟨h0, h1⟩ := bt_range s i
  exact ⟨(bt s i).toNat, by omega, by omega⟩
theorem DfaP.entry {x : List (List S117)} {r : List (List Int)} {a : List Int} (h : DfaP x r a) {s i : Nat} (hs : s < r.length) (hi : i < x.length) : -1 ≤ rd (rowAt r s) (i : Int) ∧ rd (rowAt r s) (i : Int) < (r.length : Int) := by
  have hr := h.2.2.2.2.2 s hs
  have hl : (rowAt r s).length = x.length := hr.1
  exact hr.2.2.2 i (by show i < (rowAt r s).length; omega)
theorem step_both {x : List (List S117)} {r : List (List Int)} {a : List Int} {t : List (List Int)} (d : DfaB x r a) (h : DfaP x r a) (ht : TabP x r t) {s b : Nat} (hs : s < r.length) (hb : b < 256) :
    Ev (fun k => spec_l7Next.f k x r a (s : Int) (b : Int)) (rd (rdA t (s : Int)) (b : Int)) ∧ -1 ≤ rd (rdA t (s : Int)) (b : Int) ∧ rd (rdA t (s : Int)) (b : Int) < (r.length : Int) := by
  obtain ⟨i, hi⟩ := h.part hb
  rw [ht.2 s hs b hb i hi]
  exact ⟨(spec_l7Next_ev d h s hs (b : Int)).1 i hi, h.entry hs hi.1⟩
theorem Run_both {x : List (List S117)} {r : List (List Int)} {a : List Int} {t : List (List Int)} (d : DfaB x r a) (h : DfaP x r a) (ht : TabP x r t) (w : ByteArray) (hw : w.size ≤ 1048576) :
    ∃ v, Ev (fun k => spec_l7Run.l0 k w 0 0 x r a) v ∧ Ev (fun k => impl_DfaRun.l0 k w t 0 0) v ∧ -1 ≤ v ∧ v < (r.length : Int) := by
  have h1 := h.2.2.1
  have key : ∀ d2 i : Nat, i + d2 = w.size → ∀ s : Int, -1 ≤ s → s < (r.length : Int) → ∃ v, Ev (fun k => spec_l7Run.l0 k w s (i : Int) x r a) v ∧ Ev (fun k => impl_DfaRun.l0 k w t s (i : Int)) v ∧ -1 ≤ v ∧ v < (r.length : Int) := by
    intro d2
    induction d2 with
    | zero =>
      intro i hi s hs0 hs1
      refine ⟨s, Ev.ofSucc (g := fun k => spec_l7Run.l0 k w s (i : Int) x r a) (fun k => ?_), Ev.ofSucc (g := fun k => impl_DfaRun.l0 k w t s (i : Int)) (fun k => ?_), hs0, hs1⟩
      · simp only [spec_l7Run.l0]; rw [if_neg (by omega)]
      · simp only [impl_DfaRun.l0]; rw [if_neg (by omega)]
    | succ d2 ih =>
      intro i hi s hs0 hs1
      by_cases c : s ≥ 0
      · obtain ⟨n, rfl⟩ : ∃ n : Nat, s = (n : Int) := ⟨s.toNat, by omega⟩
        obtain ⟨b, hb, hbt⟩ := bt_nat w (i : Int)
        obtain ⟨⟨K, hK⟩, e0, e1⟩ := step_both d h ht (show n < r.length by omega) hb
        dsimp only at hK
        obtain ⟨v, g1, g2, g3⟩ := ih (i + 1) (by omega) _ e0 e1
        have htl := ht.1
        refine ⟨v, Ev.late (g := fun k => spec_l7Run.l0 k w (n : Int) (i : Int) x r a) ⟨K, fun k hk => ?_⟩ g1, Ev.late (g := fun k => impl_DfaRun.l0 k w t (n : Int) (i : Int)) ⟨0, fun k _ => ?_⟩ g2, g3⟩
        · simp only [spec_l7Run.l0]
          rw [if_pos (by omega), if_pos c, if_pos (by omega), hbt, wrap_id (by omega) (by omega), hK k hk, Option.bind_some, wrap_nat (by omega)]
        · simp only [impl_DfaRun.l0]
          rw [if_pos (by omega), if_pos c, if_pos (by omega), if_pos (by omega), if_pos (by omega), hbt, if_pos (by omega), if_pos (by omega), wrap_nat (by omega)]
      · refine ⟨s, Ev.ofSucc (g := fun k => spec_l7Run.l0 k w s (i : Int) x r a) (fun k => ?_), Ev.ofSucc (g := fun k => impl_DfaRun.l0 k w t s (i : Int)) (fun k => ?_), hs0, hs1⟩
        · simp only [spec_l7Run.l0]; rw [if_pos (by omega), if_neg c]
        · simp only [impl_DfaRun.l0]; rw [if_pos (by omega), if_neg c]
  exact key w.size 0 (by omega) 0 (by omega) (by omega)
theorem DfaRun_both {x : List (List S117)} {r : List (List Int)} {a : List Int} (d : DfaB x r a) (w : ByteArray) (hw : w.size ≤ 1048576) :
    ∃ v, Ev (fun k => spec_DfaRun.f k x r a w) v ∧ Ev (fun k => impl_DfaRun.f k x r a w) v ∧ (v = -1 ∨ DfaP x r a ∧ -1 ≤ v ∧ v < (r.length : Int)) := by
  unfold spec_DfaRun.f impl_DfaRun.f
  by_cases h : DfaP x r a
  · obtain ⟨t, ht, hT⟩ := impl_table_ev d h
    obtain ⟨v, g1, g2, g3⟩ := Run_both d h hT w hw
    refine ⟨v, Ev.bind (spec_DfaOk_ev d) ?_, Ev.bind (impl_DfaOk_ev d) ?_, .inr ⟨h, g3⟩⟩
    · simp only [yes_pos h, ↓reduceIte]
      unfold spec_l7Run.f
      exact Ev.bind g1 (Ev.now _)
    · simp only [yes_pos h, ↓reduceIte]
      exact Ev.bind ht g2
  · refine ⟨-1, Ev.bind (spec_DfaOk_ev d) ?_, Ev.bind (impl_DfaOk_ev d) ?_, .inl rfl⟩
    · simp only [yes_neg h, Bool.false_eq_true, ↓reduceIte]; exact Ev.now _
    · simp only [yes_neg h, Bool.false_eq_true, ↓reduceIte]; exact Ev.now _
end Go.Proofs.Ytigmibfacllhmaa.P

set_option linter.unusedVariables false
set_option linter.unusedSimpArgs false
namespace Go.Proofs.Ytigmibfacllhmaa.Pure
open Go.Proofs.Ytigmibfacllhmaa.P Go.Proofs.YtigmibfacllhmaaW.PrintWords Go.RowKit
theorem FnExactDfaRun : FnExactDfaRun.Said := by
  intro p r a w h0 h1 h2
  have hr : reachBytes = 140737488351232 := rfl
  have d0 : DfaL p r a := ⟨hr ▸ h0.1, fun x hx => hr ▸ (h0.2 x hx).1, hr ▸ h1.1, fun x hx => hr ▸ (h1.2 x hx).1, hr ▸ h2.1⟩
  intros
  apply Ev.rounds
  unfold laws_FnExactDfaRun.f
  by_cases cw : (w.size : Int) > 1048576
  · simp only [if_pos cw]; exact Ev.now _
  simp only [if_neg cw]
  obtain ⟨v0, e0⟩ := szDfa_ex d0 1048576
  refine Ev.bind e0 ?_
  by_cases c0 : v0 < 0
  · simp only [if_pos c0]; exact Ev.now _
  simp only [if_neg c0]
  have a0 := toDfa_ev d0
  obtain ⟨v, e1, e2, _⟩ := DfaRun_both d0.to w (by omega)
  refine Ev.bind a0 (Ev.bind e1 (Ev.bind a0 (Ev.bind e2 ?_)))
  simp only [↓reduceIte]
  refine Ev.bind a0 (Ev.bind (laws_eqDfa_ev d0.to _ _ _) ?_)
  simp only [yes_pos, and_self, if_true]
  exact Ev.now _
end Go.Proofs.Ytigmibfacllhmaa.Pure

namespace Go.Proofs.Ytigmibfacllhmaa.fnExactDfaRun
open Go.ChangeShapes Go.WideShapes Go.ChangeAt Go.RowKit Go.Proofs.Ytigmibfacllhmaa.Rd Go.Proofs.Ytigmibfacllhmaa.Pure.FnExactDfaRun Go.Proofs.Ytigmibfacllhmaa.P Go.Proofs.YtigmibfacllhmaaW.PrintWords Go.Proofs.YtigmibfacllhmaaW.PrintLast
open Go.ChangeMaps (open_string shut_string)
set_option linter.unusedVariables false
set_option linter.unusedSimpArgs false
theorem own : ownKnob Try.prog.godebug = none := by kernel_rfl
theorem laidOut : laidOutB Try.prog = true := by kernel_rfl
set_option maxRecDepth 100000 in
theorem lifted (os : Os) (started : os.Started) (H : Type) (enc : TypeId × Value → H) :
    ReturnsInHanded {} Try.checked os 3 .any (Rows.fnExactDfaRunSpec.pre6 enc Try.prog Try.f3 Rows.fnExactDfaRunRow.domain false) (Rows.fnExactDfaRunSpec.post enc Try.prog Try.f3 false true false false) := by
  refine returnsInHanded_of_change_sized (C := Try.checked) own started (by kernel_rfl) Try.func3
    (ChangeSpec.witness6 (enc := enc) (C := Try.checked) false ⟨#[], #[.agg #[.slice none 0 0, .slice none 0 0, .slice none 0 0], .string ByteArray.empty], []⟩ 8 (by kernel_rfl) (by kernel_rfl) (by kernel_rfl) (by kernel_rfl)) ?_
  intro W base args ds gs before hval0 hW hcnd hsz0 _
  have hsz : (DataW.weightsEach Try.prog (Try.f3.params.toList ++ Rows.fnExactDfaRunSpec.plain.varTypes Try.prog) (ds ++ gs)).all (· ≤ reachBytes) = true := hsz0
  have hval : ∀ (j : Nat) t v, Try.f3.params[j]? = some t → args[j]? = some v → Value.okWide Try.prog W .any base t v := hval0
  have hW' := hW
  obtain ⟨p, q, hA0, hV, rfl, hfz, hnd⟩ := hW
  have hA : DataW.TrodAll enc Try.prog W 0 (fun _ => true) true Try.f3.params.toList args.toList ds p := hA0
  rw [Try.params3] at hA hval hsz
  obtain ⟨v0, vs0, d0, ds0, p0, q0, hargs, rfl, rfl, h0, r0⟩ := trodAll_cons hA
  obtain ⟨v1, vs1, d1, ds1, p1, q1, rfl, rfl, rfl, h1, r1⟩ := trodAll_cons r0
  obtain ⟨rfl, rfl, rfl⟩ := trodAll_nil r1
  obtain rfl : args = #[v0, v1] := by cases args; simp_all
  obtain ⟨rfl, rfl⟩ := trodVars_none hV
  have z0 : ∀ q ∈ d0.weights Try.prog 26, q ≤ reachBytes := fun q hq => by simpa using List.all_eq_true.1 hsz q (DataW.weights_mem_each (j := 0) rfl rfl q hq)
  have k0 := h0
  have lt0 : ∀ x ∈ p0, x.block < W.heap.size := by obtain ⟨m, hm⟩ := k0; exact DataW.trod_lt m _ _ _ hm
  obtain ⟨x0, hx0, y0⟩ : ∃ x0 : (List (List S146)) × (List (List Int)) × (List Int), ((Kd.pair (Kd.slice 90 (Kd.slice 146 k146)) (Kd.pair (Kd.slice 24 (Kd.slice 3 (Kd.int .i64))) (Kd.slice 3 (Kd.int .i64))))).K W x0 v0.cells.toList ∧ ((x0.1.length * 24 ≤ reachBytes ∧ ∀ y4 ∈ x0.1, (y4.length * 16 ≤ reachBytes ∧ ∀ y2 ∈ y4, B146 y2))) ∧ (((x0.2.1.length * 24 ≤ reachBytes ∧ ∀ y6 ∈ x0.2.1, (y6.length * 8 ≤ reachBytes ∧ ∀ y2 ∈ y6, (Lit.int .i64 y2).wf = true))) ∧ (((x0.2.2.length * 8 ≤ reachBytes ∧ ∀ y6 ∈ x0.2.2, (Lit.int .i64 y6).wf = true)))) := Rd.arg (fun n => (Rd.struct Try.underlying26 rfl (by kernel_rfl) (Fs.cons ((Rd.slice (b := 24) ((Rd.slice (b := 16) (rd146 _) Try.underlying90 (by kernel_rfl) (by kernel_rfl)).le (Nat.le_succ _)) Try.underlying22 (by kernel_rfl) (by kernel_rfl)).le (Nat.le_succ _)) rfl (by kernel_rfl) (Fs.cons ((Rd.slice (b := 24) ((Rd.slice (b := 8) (Rd.int _ Try.underlying3) Try.underlying24 (by kernel_rfl) (by kernel_rfl)).le (Nat.le_succ _)) Try.underlying23 (by kernel_rfl) (by kernel_rfl)).le (Nat.le_succ _)) rfl (by kernel_rfl) (Fs.one ((Rd.slice (b := 8) (Rd.int _ Try.underlying3) Try.underlying24 (by kernel_rfl) (by kernel_rfl)).le (Nat.le_succ _)) rfl (by kernel_rfl))))).le (Nat.le_succ n)) h0 z0
  obtain ⟨cs0, rfl, hcs0⟩ := okWide_struct Try.underlying26 (hval 0 26 v0 rfl rfl)
  obtain ⟨e0_0, r0_0, he0, q0_0, e0_1, r0_1, rfl, q0_1, q0_2⟩ := hx0
  obtain ⟨A0_0, c0_0, rfl, hc0_0, hr0_0⟩ := q0_0
  obtain ⟨A0_1, c0_1, rfl, hc0_1, hr0_1⟩ := q0_1
  obtain ⟨A0_2, c0_2, rfl, hc0_2, hr0_2⟩ := q0_2
  obtain rfl : cs0 = #[.slice A0_0 x0.1.length c0_0, .slice A0_1 x0.2.1.length c0_1, .slice A0_2 x0.2.2.length c0_2] := by cases cs0; simpa [Value.cells] using he0
  obtain ⟨a1, rfl, rfl, rfl, y1⟩ := open_string Try.underlying9 (hval 1 9 v1 rfl rfl) h1
  have w1 : a1.size ≤ reachBytes := by
    have z := sized_string hsz (j := 1) (t := 9) rfl rfl
    rw [Array.length_toList] at z
    exact z
  clear hA0 hval0 hsz0 hsz
  obtain ⟨k, hk⟩ := Pure.FnExactDfaRun x0.1 x0.2.1 x0.2.2 a1 y0.1 y0.2.1 y0.2.2 w1
  refine (laws_FnExactDfaRun.calls k A0_0 c0_0 x0.1 A0_1 c0_1 x0.2.1 A0_2 c0_2 x0.2.2 a1 true W hr0_0 hc0_0 hr0_1 hc0_1 hr0_2 hc0_2 rfl hk).mono fun e W' ⟨he, bel0⟩ => ?_
  have bel : Below W.heap.size W W' := bel0
  subst he
  exact ⟨_, rfl, _, _, _, [], _, [], hW', trodAll_mk1 (shut_bool Try.underlying4 _), (trodAll_cons_mk (Below.trod laidOut (by kernel_rfl) (of_decide_eq_true (by kernel_rfl)) k0 bel lt0) (trodAll_cons_mk (shut_string Try.underlying9 y1) trodAll_mk0)), rfl, bel.frame _, fun h => by cases h⟩
theorem over : Rows.fnExactDfaRunRow.holds Try.pinned (OpenSpec.ofChange Rows.fnExactDfaRunSpec) :=
  OpenClaim.holds_of_wide 3 Try.f3 rfl rfl rfl rfl rfl rfl rfl ⟨rfl, rfl, rfl, rfl, rfl⟩ rfl rfl rfl rfl rfl (by kernel_rfl) Try.func3 (by kernel_rfl)
    (of_decide_eq_true (by kernel_rfl)) (by unfold Func.isWrapper; first | (rw [if_pos (by decide +kernel)]; kernel_rfl) | (rw [if_neg (by decide +kernel)]; exact ⟨rfl, rfl⟩))
    (fun os started H enc _ => lifted os started H enc)
theorem proved : Rows.FnExactDfaRunSaid := over
end Go.Proofs.Ytigmibfacllhmaa.fnExactDfaRun
namespace Go.Proofs.Ytigmibfacllhmaa
theorem fnExactDfaRun_holds : Rows.FnExactDfaRunSaid := fnExactDfaRun.proved
end Go.Proofs.Ytigmibfacllhmaa
