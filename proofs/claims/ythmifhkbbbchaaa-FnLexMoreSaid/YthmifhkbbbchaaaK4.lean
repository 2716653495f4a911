/- FnLexMore, part 4: what the walk of the code stands on. Conditions: none but those that each theorem states. -/
import Derived.Test.YthmifhkbbbchaaaK3
open Go Go.Proofs.Ythmifhkbbbchaaa.T
namespace Go.Proofs.Ythmifhkbbbchaaa.R
set_option maxHeartbeats 4000000
set_option maxRecDepth 100000
set_option linter.unusedSimpArgs false
set_option linter.unusedVariables false
attribute [local simp] bsV bsRows chunk fillT partsT appV makeV rowsOf cellsOf placeOf frzT frz1
def KB : List Int := [0, 8, 3, 5]
/-- How the box stands in the loops: L says how the parts are held. -/
def BentAt (b : List UInt8) (p1 a c ti N : Nat) (L0 : TV → List Rex → (Nat → Option TV) → Prop) (m : Nat) (st : St) : Prop := ∃ (i : Nat) (yk : Int) (ys : List (Int × Int)) (yl : List Rex) (S L : TV), i + m = N ∧ Sm (.mk yk ys yl) ∧ (S = .ro (ys.map encS) ∨ (ys = [] ∧ S = .val (.slice none 0 0))) ∧ L0 L yl st.H ∧
  st.σ 0 = .pd 0 0 0 0 ∧ st.H 0 = some (rdr b p1) ∧ st.σ 2 = .pd a 0 0 0 ∧ st.H a = some (.box 29 [.val (.int .i64 0), .val (.slice none 0 0), .val (.slice none 0 0)]) ∧ st.σ 3 = .pd c 0 0 0 ∧ st.H c = some (.box 29 [.val (.int .i64 yk), S, L]) ∧ st.σ ti = .val (.int .i64 i)
def LRo : TV → List Rex → (Nat → Option TV) → Prop := fun L yl _ => L = .ro (encRexL yl)
def LAny (a c : Nat) : TV → List Rex → (Nat → Option TV) → Prop := fun L yl H => L = .ro (encRexL yl) ∨ ∃ j rows, L = .hd j ∧ H j = some (.own 29 rows) ∧ roRows rows = encRexL yl ∧ ¬ j = 0 ∧ ¬ j = a ∧ ¬ j = c
theorem bent_turn {b : List UInt8} {p1 a c ti N n : Nat} (n0 : ¬ a = 0) (m0 : ¬ c = 0) (m1 : ¬ c = a) : ∀ m s, BentAt b p1 a c ti N (LAny a c) m s → Turn Try.prog n s (BentAt b p1 a c ti N LRo m) := by
  rintro m ⟨σ, H⟩ ⟨i, yk, ys, yl, S, L, him, hy, hS, hL, h0, hH, h2, hA, h3, hC, h4⟩
  simp only at hL h0 hH h2 hA h3 hC h4
  rcases hL with rfl | ⟨j, rows, rfl, hj, hr, q0, q1, q2⟩
  · exact Turn.same ⟨i, yk, ys, yl, S, _, him, hy, hS, rfl, h0, hH, h2, hA, h3, hC, h4⟩
  · have q0' : ¬ 0 = j := fun e => q0 e.symm
    have q1' : ¬ a = j := fun e => q1 e.symm
    have q2' : ¬ c = j := fun e => q2 e.symm
    refine Turn.freezeA j hj ?_
    refine ⟨i, yk, ys, yl, S, .ro (encRexL yl), him, hy, hS, rfl, ?_⟩
    rcases hS with rfl | ⟨_, rfl⟩ <;> simp [h0, hH, h2, hA, h3, hC, h4, del, q0', q1', q2', frzO, rdr, toRo, hr]
theorem tcr_l2Bent (b : List UInt8) (p : Nat) (hb : b.length ≤ 2000) (hp : p ≤ 860000000) : TCR Try.prog 24 [.pd 0 0 0 0] [rdr b p] (fun r o => ∃ (x : Rex) (p' : Nat), r = .agg (encRex x) ∧ Sm x ∧ p' ≤ p + 400 ∧ o = [rdr b p']) := by
  suffices h : TCR Try.prog 24 [.pd 0 0 0 0] [rdr b p] (fun r o => ∃ (x : Rex) (p' : Nat), toRo r = .agg (encRex x) ∧ Sm x ∧ p' ≤ p + 400 ∧ o = [rdr b p']) from
    h.frz.mono fun r o ⟨r0, ⟨x, p', h1, h2⟩, h3⟩ => ⟨x, p', by rw [h3, h1], h2⟩
  refine TCR.enter Try.func24 rfl (by simp [Try.ntmps24]) rfl (tw_sound (ρ := []) ?_)
  rw [Try.ntmps24]
  simp
  refine gall_intro fun a ha => ?_
  have n0 : ¬ a = 0 := fun e => by rw [e] at ha; simp at ha
  have n0' : ¬ 0 = a := fun e => n0 e.symm
  clear ha
  simp [n0, n0']
  refine TWoH.lendR [0] (tcr_l2Some b p hb (by omega)) callable_44 (by simp [List.findIdx?_cons, n0, n0']) (by simp [n0, n0']) (by simp) (by simp) ?_
  rintro r o ⟨x, p1, rfl, hx, hp1, rfl⟩
  refine ⟨by simp [rdr], by simp, .inl (by simp [List.findIdx?_cons, n0, n0']), fun q hq => ?_⟩
  clear hq
  obtain ⟨xk, xs, xl⟩ := x
  have hx1 := hx
  simp only [Sm] at hx1
  simp [n0, n0', encRex]
  refine gall_intro fun c hc => ?_
  have m0 : ¬ c = 0 := fun e => by rw [e] at hc; simp at hc
  have m0' : ¬ 0 = c := fun e => m0 e.symm
  have m1 : ¬ c = a := fun e => by rw [e] at hc; simp [n0, n0'] at hc
  have m1' : ¬ a = c := fun e => m1 e.symm
  clear hc
  simp [n0, n0', m0, m0', m1, m1']
  refine TWoH.lendR [0] (tcr_pick b p1 48 hb (by omega)) callable_42 (by simp [List.findIdx?_cons, n0, n0', m0, m0']) (by simp [n0, n0', m0, m0', m1, m1']) (by simp) (by simp) ?_
  rintro r o ⟨k, rfl, k0, k1, rfl⟩
  refine ⟨by simp [rdr], by simp, .inl (by simp [List.findIdx?_cons, n0, n0', m0, m0']), fun q hq => ?_⟩
  clear hq
  by_cases c0 : k = 0
  · simp [c0, n0, n0', m0, m0', m1, m1']
    refine gall_intro fun i1 g1 => ?_
    have a0 : ¬ i1 = 0 := fun e => by rw [e] at g1; simp at g1
    have a0' : ¬ 0 = i1 := fun e => a0 e.symm
    have a1 : ¬ i1 = a := fun e => by rw [e] at g1; simp [n0, n0', m0, m0', m1, m1'] at g1
    have a1' : ¬ a = i1 := fun e => a1 e.symm
    have a2 : ¬ i1 = c := fun e => by rw [e] at g1; simp [n0, n0', m0, m0', m1, m1'] at g1
    have a2' : ¬ c = i1 := fun e => a2 e.symm
    clear g1
    simp [n0, n0', m0, m0', m1, m1', a0, a0', a1, a1', a2, a2']
    refine TWoH.turn (Turn.freeze i1 (t := .own 3 (KB.map encI)) (by simp [a0, a0', encI, KB]) ?_)
    refine TWoH.lendR [0] (tcr_num b (p1 + 1) KB hb (by omega) (by simp [KB]) (by simp [KB])) callable_45 (by simp [a0, a0', List.findIdx?_cons, encI, KB]) (by simp [a0, a0', n0, n0', m0, m0', del]) (by simp) (by simp) ?_
    rintro r o ⟨kd, hkd, rfl, rfl⟩
    refine ⟨by simp [rdr], by simp, .inl (by simp [a0, a0', List.findIdx?_cons]), fun q hq => ?_⟩
    clear hq
    simp [n0, n0', m0, m0', m1, m1', a0, a0', a1, a1', a2, a2', del]
    exact ⟨_, _, ⟨rfl, rfl⟩, by simp [noHR_rex], by simp [n0, n0', m0, m0', m1, m1', a0, a0', a1, a1', a2, a2', del], .mk kd xs xl, by simp [encRex], by simp only [Sm]; exact hx1, p1 + 2, by omega, by simp [n0, n0', m0, m0', m1, m1', a0, a0', a1, a1', a2, a2', del]⟩
  by_cases c1 : k = 1
  · simp [c0, c1, n0, n0', m0, m0', m1, m1']
    refine gall_intro fun i1 g1 => ?_
    have a0 : ¬ i1 = 0 := fun e => by rw [e] at g1; simp at g1
    have a0' : ¬ 0 = i1 := fun e => a0 e.symm
    have a1 : ¬ i1 = a := fun e => by rw [e] at g1; simp [n0, n0', m0, m0', m1, m1'] at g1
    have a1' : ¬ a = i1 := fun e => a1 e.symm
    have a2 : ¬ i1 = c := fun e => by rw [e] at g1; simp [n0, n0', m0, m0', m1, m1'] at g1
    have a2' : ¬ c = i1 := fun e => a2 e.symm
    clear g1
    simp [n0, n0', m0, m0', m1, m1', a0, a0', a1, a1', a2, a2', del]
    exact ⟨_, _, ⟨rfl, rfl⟩, by simp [noHR_rex], by simp [n0, n0', m0, m0', m1, m1', a0, a0', a1, a1', a2, a2', del], .mk xk [(5, 4)] xl, by simp [encRex, encS], by simp only [Sm]; exact ⟨by simp, hx1.2⟩, p1 + 1, by omega, by simp [n0, n0', m0, m0', m1, m1', a0, a0', a1, a1', a2, a2', del]⟩
  by_cases c2 : k = 2
  · simp [c0, c1, c2, n0, n0', m0, m0', m1, m1']
    refine TWcH.loopT [] (BentAt b (p1 + 1) a c 4 9 (LAny a c)) (BentAt b (p1 + 1) a c 4 9 LRo) 9 ⟨0, xk, xs, xl, .ro (xs.map encS), .ro (encRexL xl), by simp, hx, .inl rfl, .inl rfl, by simp [n0, n0', m0, m0', m1, m1']⟩ (bent_turn n0 m0 m1) ?_
    rintro m ⟨σ, H⟩ ⟨i, yk, ys, yl, S, L, him, hy, hS, rfl, h0, hH, h2, hA, h3, hC, h4⟩
    simp only at h0 hH h2 hA h3 hC h4
    have hy1 := hy
    simp only [Sm] at hy1
    by_cases hi : i < 9
    case neg =>
      have hi2 : ¬ (i : Int) < 9 := by omega
      rcases hS with rfl | ⟨rfl, rfl⟩ <;> simp [h0, hH, h2, hA, h3, hC, h4, hi, hi2, n0, n0', m0, m0', m1, m1']
      · exact ⟨_, _, ⟨rfl, rfl⟩, by simp [noHR_rex], by simp [hH, n0, n0', m0, m0', m1, m1', del], .mk yk ys yl, by simp [encRex], hy, p1 + 1, by omega, by simp [hH, n0, n0', m0, m0', m1, m1', del]⟩
      · exact ⟨_, _, ⟨rfl, rfl⟩, by simp [noHR_rex], by simp [hH, n0, n0', m0, m0', m1, m1', del], .mk yk [] yl, by simp [encRex], hy, p1 + 1, by omega, by simp [hH, n0, n0', m0, m0', m1, m1', del]⟩
    have hi2 : (i : Int) < 9 := by omega
    have hw : IntKind.i64.wrap ((i : Int) + 1) = i + 1 := wrapi (by omega)
    rcases hS with rfl | ⟨rfl, rfl⟩ <;> simp [h0, hH, h2, hA, h3, hC, h4, hi, hi2, n0, n0', m0, m0', m1, m1']
    all_goals
      refine gall_intro fun i1 g1 => ?_
      have a0 : ¬ i1 = 0 := fun e => by rw [e] at g1; simp [hH] at g1
      have a0' : ¬ 0 = i1 := fun e => a0 e.symm
      have a1 : ¬ i1 = a := fun e => by rw [e] at g1; simp [hA] at g1
      have a1' : ¬ a = i1 := fun e => a1 e.symm
      have a2 : ¬ i1 = c := fun e => by rw [e] at g1; simp [hC] at g1
      have a2' : ¬ c = i1 := fun e => a2 e.symm
      simp [h0, hH, h2, hA, h3, hC, h4, hw, n0, n0', m0, m0', m1, m1', a0, a0', a1, a1', a2, a2']
    · exact ⟨m - 1, by omega, i + 1, 5, [], [.mk yk ys yl], .val (.slice none 0 0), .hd i1, by omega, by simp only [Sm, SmL]; exact ⟨by simp, by simp, hy1, trivial⟩, .inr ⟨rfl, rfl⟩, .inr ⟨i1, [[.val (.int .i64 yk), .ro (ys.map encS), .ro (encRexL yl)]], rfl, by simp [n0, n0', m0, m0', m1, m1', a0, a0', a1, a1', a2, a2'], by simp [encRexL, encRex], a0, a1, a2⟩, by simp [h0], by simp [hH, n0, n0', m0, m0', m1, m1', a0, a0', a1, a1', a2, a2'], by simp [h2], by simp [hA, n0, n0', m0, m0', m1, m1', a0, a0', a1, a1', a2, a2'], by simp [h3], by simp [hC, n0, n0', m0, m0', m1, m1', a0, a0', a1, a1', a2, a2'], by simp⟩
    · exact ⟨m - 1, by omega, i + 1, 5, [], [.mk yk [] yl], .val (.slice none 0 0), .hd i1, by omega, by simp only [Sm, SmL]; exact ⟨by simp, by simp, hy1, trivial⟩, .inr ⟨rfl, rfl⟩, .inr ⟨i1, [[.val (.int .i64 yk), .val (.slice none 0 0), .ro (encRexL yl)]], rfl, by simp [n0, n0', m0, m0', m1, m1', a0, a0', a1, a1', a2, a2'], by simp [encRexL, encRex], a0, a1, a2⟩, by simp [h0], by simp [hH, n0, n0', m0, m0', m1, m1', a0, a0', a1, a1', a2, a2'], by simp [h2], by simp [hA, n0, n0', m0, m0', m1, m1', a0, a0', a1, a1', a2, a2'], by simp [h3], by simp [hC, n0, n0', m0, m0', m1, m1', a0, a0', a1, a1', a2, a2'], by simp⟩
  by_cases c3 : k = 3
  · simp [c0, c1, c2, c3, n0, n0', m0, m0', m1, m1']
    refine TWcH.loopT [] (BentAt b (p1 + 1) a c 5 5 (LAny a c)) (BentAt b (p1 + 1) a c 5 5 LRo) 5 ⟨0, xk, xs, xl, .ro (xs.map encS), .ro (encRexL xl), by simp, hx, .inl rfl, .inl rfl, by simp [n0, n0', m0, m0', m1, m1']⟩ (bent_turn n0 m0 m1) ?_
    rintro m ⟨σ, H⟩ ⟨i, yk, ys, yl, S, L, him, hy, hS, rfl, h0, hH, h2, hA, h3, hC, h5⟩
    simp only at h0 hH h2 hA h3 hC h5
    have hy1 := hy
    simp only [Sm] at hy1
    by_cases hi : i < 5
    case neg =>
      have hi2 : ¬ (i : Int) < 5 := by omega
      rcases hS with rfl | ⟨rfl, rfl⟩ <;> simp [h0, hH, h2, hA, h3, hC, h5, hi, hi2, n0, n0', m0, m0', m1, m1']
      · exact ⟨_, _, ⟨rfl, rfl⟩, by simp [noHR_rex], by simp [hH, n0, n0', m0, m0', m1, m1', del], .mk yk ys yl, by simp [encRex], hy, p1 + 1, by omega, by simp [hH, n0, n0', m0, m0', m1, m1', del]⟩
      · exact ⟨_, _, ⟨rfl, rfl⟩, by simp [noHR_rex], by simp [hH, n0, n0', m0, m0', m1, m1', del], .mk yk [] yl, by simp [encRex], hy, p1 + 1, by omega, by simp [hH, n0, n0', m0, m0', m1, m1', del]⟩
    have hi2 : (i : Int) < 5 := by omega
    have hw : IntKind.i64.wrap ((i : Int) + 1) = i + 1 := wrapi (by omega)
    rcases hS with rfl | ⟨rfl, rfl⟩ <;> simp [h0, hH, h2, hA, h3, hC, h5, hi, hi2, n0, n0', m0, m0', m1, m1']
    · refine TWcH.regionD (ρ := []) [0, 1, 2, 3, 4, 5] 5 mixed (by kernel_rfl) ?_
      simp [h0, hH, h2, hA, h3, hC, h5, hi, hi2, n0, n0', m0, m0', m1, m1']
      refine TWqH.callV (tc_l2Copy _ hy) callable_46 (by simp [h0, hH, h2, hA, h3, hC, h5, n0, n0', m0, m0', m1, m1', encRex, noHR_rex]) (by simp) (by simp) (by simp) ?_
      simp [h0, hH, h2, hA, h3, hC, h5, hi, hi2, n0, n0', m0, m0', m1, m1', encRex]
      refine gall_intro fun i1 g1 => ?_
      have a0 : ¬ i1 = 0 := fun e => by rw [e] at g1; simp [hH] at g1
      have a0' : ¬ 0 = i1 := fun e => a0 e.symm
      have a1 : ¬ i1 = a := fun e => by rw [e] at g1; simp [hA] at g1
      have a1' : ¬ a = i1 := fun e => a1 e.symm
      have a2 : ¬ i1 = c := fun e => by rw [e] at g1; simp [hC] at g1
      have a2' : ¬ c = i1 := fun e => a2 e.symm
      simp [h0, hH, h2, hA, h3, hC, h5, hw, n0, n0', m0, m0', m1, m1', a0, a0', a1, a1', a2, a2', encRex]
      exact ⟨m - 1, by omega, i + 1, 3, [], [.mk yk ys yl, .mk yk ys yl], .val (.slice none 0 0), .hd i1, by omega, by simp only [Sm, SmL]; exact ⟨by simp, by simp, hy1, hy1, trivial⟩, .inr ⟨rfl, rfl⟩, .inr ⟨i1, [[.val (.int .i64 yk), .ro (ys.map encS), .ro (encRexL yl)], encRex (.mk yk ys yl)], rfl, by simp [encRex, n0, n0', m0, m0', m1, m1', a0, a0', a1, a1', a2, a2'], by simp [encRexL, encRex], a0, a1, a2⟩, by simp [h0], by simp [hH, n0, n0', m0, m0', m1, m1', a0, a0', a1, a1', a2, a2'], by simp [h2], by simp [hA, n0, n0', m0, m0', m1, m1', a0, a0', a1, a1', a2, a2'], by simp [h3], by simp [hC, n0, n0', m0, m0', m1, m1', a0, a0', a1, a1', a2, a2'], by simp⟩
    · refine TWcH.regionD (ρ := []) [0, 1, 2, 3, 4, 5] 5 mixed (by kernel_rfl) ?_
      simp [h0, hH, h2, hA, h3, hC, h5, hi, hi2, n0, n0', m0, m0', m1, m1']
      refine TWqH.callV (tc_l2Copy _ hy) callable_46 (by simp [h0, hH, h2, hA, h3, hC, h5, n0, n0', m0, m0', m1, m1', encRex, noHR_rex]) (by simp) (by simp) (by simp) ?_
      simp [h0, hH, h2, hA, h3, hC, h5, hi, hi2, n0, n0', m0, m0', m1, m1', encRex]
      refine gall_intro fun i1 g1 => ?_
      have a0 : ¬ i1 = 0 := fun e => by rw [e] at g1; simp [hH] at g1
      have a0' : ¬ 0 = i1 := fun e => a0 e.symm
      have a1 : ¬ i1 = a := fun e => by rw [e] at g1; simp [hA] at g1
      have a1' : ¬ a = i1 := fun e => a1 e.symm
      have a2 : ¬ i1 = c := fun e => by rw [e] at g1; simp [hC] at g1
      have a2' : ¬ c = i1 := fun e => a2 e.symm
      simp [h0, hH, h2, hA, h3, hC, h5, hw, n0, n0', m0, m0', m1, m1', a0, a0', a1, a1', a2, a2', encRex]
      exact ⟨m - 1, by omega, i + 1, 3, [], [.mk yk [] yl, .mk yk [] yl], .val (.slice none 0 0), .hd i1, by omega, by simp only [Sm, SmL]; exact ⟨by simp, by simp, hy1, hy1, trivial⟩, .inr ⟨rfl, rfl⟩, .inr ⟨i1, [[.val (.int .i64 yk), .val (.slice none 0 0), .ro (encRexL yl)], encRex (.mk yk [] yl)], rfl, by simp [encRex, n0, n0', m0, m0', m1, m1', a0, a0', a1, a1', a2, a2'], by simp [encRexL, encRex], a0, a1, a2⟩, by simp [h0], by simp [hH, n0, n0', m0, m0', m1, m1', a0, a0', a1, a1', a2, a2'], by simp [h2], by simp [hA, n0, n0', m0, m0', m1, m1', a0, a0', a1, a1', a2, a2'], by simp [h3], by simp [hC, n0, n0', m0, m0', m1, m1', a0, a0', a1, a1', a2, a2'], by simp⟩
  simp [c0, c1, c2, c3, n0, n0', m0, m0', m1, m1']
  exact ⟨_, _, ⟨rfl, rfl⟩, by simp [noHR_rex], by simp [n0, n0', m0, m0', m1, m1', del], .mk xk xs xl, by simp [encRex], hx, p1 + 1, by omega, by simp [n0, n0', m0, m0', m1, m1', del]⟩
end Go.Proofs.Ythmifhkbbbchaaa.R

open Go Go.Proofs.Ythmifhkbbbchaaa.T
namespace Go.Proofs.Ythmifhkbbbchaaa.R
set_option maxHeartbeats 4000000
set_option maxRecDepth 100000
set_option linter.unusedSimpArgs false
set_option linter.unusedVariables false
attribute [local simp] bsV bsRows chunk fillT partsT appV makeV rowsOf cellsOf placeOf frzT frz1
theorem tc_l15Open (b : List UInt8) (hb : b.length ≤ 1048576) : TC Try.prog 21 [.ro (b.map encU)] [] (rdr (b.take 2000) 0) [] := by
  refine TC.enter Try.func21 rfl (by simp [Try.ntmps21]) rfl (tw_sound (ρ := []) ?_)
  rw [Try.ntmps21]
  by_cases c : 2000 < b.length
  · have c' : (2000 : Int) < b.length := by omega
    have c2 : 2000 ≤ b.length := by omega
    have c3 : (2000 : Int) ≤ b.length := by omega
    simp [c, c', c2, c3]
    refine gall_intro fun i1 g1 => ?_
    simp [rdr, ← List.map_take]
  · have c' : ¬ (2000 : Int) < b.length := by omega
    have ht : b.take 2000 = b := List.take_of_length_le (by omega)
    simp [c, c']
    refine gall_intro fun i1 g1 => ?_
    simp [rdr, ht]
theorem tcr_DrawRexOk (b : List UInt8) (hb : b.length ≤ 1048576) : TCR Try.prog 7 [.ro (b.map encU)] [] (fun r o => ∃ x : Rex, r = .agg (encRex x) ∧ Sm x ∧ o = []) := by
  refine TCR.enter Try.func7 rfl (by simp [Try.ntmps7]) rfl (tw_sound (ρ := []) ?_)
  rw [Try.ntmps7]
  simp
  refine gall_intro fun a ha => ?_
  simp
  refine TWoH.call (tc_l15Open b hb) callable_21 (by simp) (by simp [rdr, ← List.map_take]) (by simp) fun q hq => ?_
  have q1 := fun e : a = q => (by have := hq q (Nat.le_refl _); rw [← e] at this; simp at this : False)
  have q1' : ¬ q = a := fun e => q1 e.symm
  have q1 : ¬ a = q := q1
  clear hq
  simp [rdr, q1, q1']
  refine TWoH.lendR [q] (tcr_l2Bent (b.take 2000) 0 (by simp; omega) (by omega)) callable_24 (by simp [List.findIdx?_cons, q1, q1']) (by simp [rdr, q1, q1']) (by simp) (by simp) ?_
  rintro r o ⟨x, p', rfl, hx, _, rfl⟩
  refine ⟨by simp [rdr], by simp, .inl (by simp [List.findIdx?_cons]), fun q2 hq2 => ?_⟩
  clear hq2
  simp [q1, q1']
  exact ⟨x, rfl, hx⟩
end Go.Proofs.Ythmifhkbbbchaaa.R

open Go Go.Proofs.Ythmifhkbbbchaaa.T
namespace Go.Proofs.Ythmifhkbbbchaaa.R
set_option maxHeartbeats 4000000
set_option maxRecDepth 100000
set_option linter.unusedSimpArgs false
set_option linter.unusedVariables false
attribute [local simp] bsV bsRows chunk fillT partsT appV makeV rowsOf cellsOf placeOf frzT frz1
def RN : List (List UInt8) := [[105, 100], [110, 117, 109], [111, 112], [115, 112, 97, 99, 101], [107, 101, 121]]
def RulesF (b : List UInt8) (p' i c i3 i4 : Nat) (yk : Int) (ys : List (Int × Int)) (yl : List Rex) (S : TV) (l : List Rule) (st : St) : Prop := st.σ 0 = .pd 0 0 0 0 ∧ st.H 0 = some (rdr b p') ∧ st.σ 3 = .hd i3 ∧ st.H i3 = some (.own 35 (l.map encRule)) ∧ st.σ 4 = .hd i4 ∧ st.H i4 = some (.own 9 (RN.map encT)) ∧ st.σ 5 = .val (.int .i64 i) ∧
  st.σ 6 = .pd c 0 0 0 ∧ st.H c = some (.box 29 [.val (.int .i64 yk), .ro (ys.map encS), .ro (encRexL yl)]) ∧ st.σ 34 = .agg [.val (.int .i64 yk), S, .ro (encRexL yl)]
theorem frz2_rule (i1 i2 : Nat) (t1 t2 : TV) (r : Rule) : List.map (frz1 i2 t2 ∘ frz1 i1 t1) (encRule r) = encRule r := by
  obtain ⟨n, k, s, l⟩ := r
  simp [encRule, encRex]
theorem frz2_T (i1 i2 : Nat) (t1 t2 : TV) (r : List UInt8) : List.map (frz1 i2 t2 ∘ frz1 i1 t1) (encT r) = encT r := by simp [encT]
theorem tcr_l6Rules (b : List UInt8) (p : Nat) (hb : b.length ≤ 2000) (hp : p ≤ 850000000) : TCR Try.prog 41 [.pd 0 0 0 0] [rdr b p] (fun r o => ∃ (l : List Rule) (p' : Nat), r = .own 35 (l.map encRule) ∧ (∀ x ∈ l, Sm x.rex ∧ x.name ∈ RN) ∧ 1 ≤ l.length ∧ l.length ≤ 4 ∧ p' ≤ p + 1000 ∧ o = [rdr b p']) := by
  refine TCR.enter Try.func41 rfl (by simp [Try.ntmps41]) rfl (tw_sound (ρ := []) ?_)
  rw [Try.ntmps41]
  simp
  refine gall_intro fun i3 g3 => ?_
  have n0 : ¬ i3 = 0 := fun e => by rw [e] at g3; simp at g3
  have n0' : ¬ 0 = i3 := fun e => n0 e.symm
  clear g3
  simp [n0, n0']
  refine gall_intro fun i4 g4 => ?_
  have m0 : ¬ i4 = 0 := fun e => by rw [e] at g4; simp [n0, n0'] at g4
  have m0' : ¬ 0 = i4 := fun e => m0 e.symm
  have m1 : ¬ i4 = i3 := fun e => by rw [e] at g4; simp [n0, n0'] at g4
  have m1' : ¬ i3 = i4 := fun e => m1 e.symm
  clear g4
  simp [n0, n0', m0, m0', m1, m1']
  refine TWoH.lendR [0] (tcr_pick b p 4 hb (by omega)) callable_42 (by simp [List.findIdx?_cons, n0, n0', m0, m0']) (by simp [n0, n0', m0, m0', m1, m1']) (by simp) (by simp) ?_
  rintro r o ⟨k, rfl, k0, k1, rfl⟩
  refine ⟨by simp [rdr], by simp, .inl (by simp [List.findIdx?_cons, n0, n0', m0, m0']), fun q hq => ?_⟩
  clear hq
  obtain ⟨N, hkN, hk4, hk1⟩ : ∃ N : Nat, 1 + k = (N : Int) ∧ N ≤ 4 ∧ 1 ≤ N := ⟨(1 + k).toNat, by omega, by have := k1 (by omega); omega, by omega⟩
  have hw0 : IntKind.i64.wrap (1 + k) = N := by rw [wrapi (by omega)]; exact hkN
  simp [n0, n0', m0, m0', m1, m1', hw0]
  refine TWcH.loop [] (fun m st => ∃ (i p' i3 : Nat) (l : List Rule), i = m ∧ l.length + i = N ∧ p' ≤ p + 1 + 140 * l.length ∧ (∀ x ∈ l, Sm x.rex ∧ x.name ∈ RN) ∧ i3 ≠ 0 ∧ i3 ≠ i4 ∧ st.σ 0 = .pd 0 0 0 0 ∧ st.H 0 = some (rdr b p') ∧ st.σ 3 = .hd i3 ∧ st.H i3 = some (.own 35 (l.map encRule)) ∧ st.σ 4 = .hd i4 ∧ st.H i4 = some (.own 9 (RN.map encT)) ∧ st.σ 5 = .val (.int .i64 i)) N ⟨N, p + 1, i3, [], rfl, by simp, by simp, by simp, n0, m1', by simp [n0, n0', m0, m0', m1, m1', RN, encT]⟩ ?_
  clear n0 n0' m1 m1' i3
  rintro m ⟨σ, H⟩ ⟨i, p', i3, l, rfl, hli, hpl, hl, n0, m1', h0, hH, h3, hI, h4, hN, h5⟩
  simp only at h0 hH h3 hI h4 hN h5
  have n0' : ¬ 0 = i3 := fun e => n0 e.symm
  have m1 : ¬ i4 = i3 := fun e => m1' e.symm
  by_cases hi : 0 < i
  case neg =>
    obtain rfl : i = 0 := by omega
    simp [h0, hH, h3, hI, h4, hN, h5, n0, n0', m0, m0', m1, m1']
    exact ⟨_, _, ⟨rfl, rfl⟩, by simp, by simp [hH, del, n0, n0'], l, by simp, hl, by omega, by omega, p', by omega, by simp [hH, del, n0, n0']⟩
  have hw1 : IntKind.i64.wrap ((i : Int) - 1) = ((i - 1 : Nat) : Int) := by rw [wrapi (by omega)]; omega
  simp [h0, hH, h3, hI, h4, hN, h5, hi]
  refine TWoH.lendR [0] (tcr_pick b p' 3 hb (by omega)) callable_42 (by simp [h0, List.findIdx?_cons]) (by simp [hH]) (by simp) (by simp) ?_
  rintro r o ⟨k, rfl, k0, k1, rfl⟩
  refine ⟨by simp [rdr], by simp, .inl (by simp [h0, List.findIdx?_cons]), fun q hq => ?_⟩
  clear hq
  have k2 := k1 (by omega)
  obtain ⟨d, hd, hd1⟩ : ∃ d : Nat, 1 + k = (d : Int) ∧ d ≤ 3 := ⟨(1 + k).toNat, by omega, by omega⟩
  have hw : IntKind.i64.wrap (1 + k) = d := by rw [wrapi (by omega)]; exact hd
  have hRC : RC d ≤ 104 := by
    unfold RC
    have : 2 ^ d ≤ 2 ^ 3 := Nat.pow_le_pow_right (by omega) hd1
    omega
  simp [h0, hH, h3, hI, h4, hN, h5, n0, n0', m0, m0', m1, m1', hw]
  refine TWoH.lendR [0] (tcr_l2Rex d b (p' + 1) (by omega) hb (by omega)) callable_58 (by simp [h0, List.findIdx?_cons, hw]) (by simp [hH]) (by simp) (by simp) ?_
  rintro r o ⟨x, p1, rfl, hx, hp1, rfl⟩
  refine ⟨by simp [rdr], by simp, .inl (by simp [h0, List.findIdx?_cons]), fun q hq => ?_⟩
  clear hq
  obtain ⟨xk, xs, xl⟩ := x
  simp [h0, hH, h3, hI, h4, hN, h5, n0, n0', m0, m0', m1, m1', hw, encRex]
  refine gall_intro fun c gc => ?_
  have c0 : ¬ c = 0 := fun e => by rw [e] at gc; simp at gc
  have c0' : ¬ 0 = c := fun e => c0 e.symm
  have c3 : ¬ c = i3 := fun e => by rw [e] at gc; simp [hI, n0, n0'] at gc
  have c3' : ¬ i3 = c := fun e => c3 e.symm
  have c4 : ¬ c = i4 := fun e => by rw [e] at gc; simp [hN, m0, m0'] at gc
  have c4' : ¬ i4 = c := fun e => c4 e.symm
  clear gc
  simp [h0, hH, h3, hI, h4, hN, h5, n0, n0', m0, m0', m1, m1', c0, c0', c3, c3', c4, c4']
  refine TWoH.lendR [0] (tcr_pick b p1 3 hb (by omega)) callable_42 (by simp [h0, List.findIdx?_cons]) (by simp [hH, c0, c0', c3, c3', c4, c4']) (by simp) (by simp) ?_
  rintro r o ⟨k, rfl, k0, k1, rfl⟩
  refine ⟨by simp [rdr], by simp, .inl (by simp [h0, List.findIdx?_cons]), fun q hq => ?_⟩
  clear hq
  by_cases e1 : k = 0
  · simp [h0, hH, h3, hI, h4, hN, h5, n0, n0', m0, m0', m1, m1', c0, c0', c3, c3', c4, c4', e1]
    refine TWoH.lendR [0] (tcr_pick b (p1 + 1) 3 hb (by omega)) callable_42 (by simp [h0, List.findIdx?_cons]) (by simp [hH, c0, c0', c3, c3', c4, c4']) (by simp) (by simp) ?_
    rintro r o ⟨j, rfl, j0, j1, rfl⟩
    refine ⟨by simp [rdr], by simp, .inl (by simp [h0, List.findIdx?_cons]), fun q hq => ?_⟩
    clear hq
    have hj : IntKind.i64.wrap (97 + j) = 97 + j := wrapi (by have := j1 (by omega); omega)
    simp [h0, hH, h3, hI, h4, hN, h5, n0, n0', m0, m0', m1, m1', c0, c0', c3, c3', c4, c4', e1, hj]
    refine TWoH.callV (tc_l2Byte (97 + j)) callable_59 (by simp [hj]) (by simp) (by simp) (by simp) ?_
    simp [h0, hH, h3, hI, h4, hN, h5, n0, n0', m0, m0', m1, m1', c0, c0', c3, c3', c4, c4', e1, hj]
    refine TWoH.lendR [0] (tcr_l2Leaf b (p1 + 1 + 1) hb (by omega)) callable_60 (by simp [h0, List.findIdx?_cons]) (by simp [hH, c0, c0', c3, c3', c4, c4']) (by simp) (by simp) ?_
    rintro r o ⟨y, p2, rfl, hy, hp2, rfl⟩
    refine ⟨by simp [rdr], by simp, .inl (by simp [h0, List.findIdx?_cons]), fun q hq => ?_⟩
    clear hq
    have hz : Sm (.mk 3 [] [.mk 1 [(97 + j, 97 + j)] [], .mk 5 [] [y]]) := by simp only [Sm, SmL]; exact ⟨by simp, by simp, ⟨by simp, by simp, trivial⟩, ⟨by simp, by simp, hy.sm, trivial⟩, trivial⟩
    obtain ⟨yk, ys, yl⟩ := y
    simp [h0, hH, h3, hI, h4, hN, h5, n0, n0', m0, m0', m1, m1', c0, c0', c3, c3', c4, c4', e1, hj, encRex, encRexL]
    refine gall_intro fun q1 w1 => ?_
    have q1_0 : ¬ q1 = 0 := fun e => by rw [e] at w1; simp [h0, hH, h3, hI, h4, hN, h5, n0, n0', m0, m0', m1, m1', c0, c0', c3, c3', c4, c4', e1, hj] at w1
    have q1_0' : ¬ 0 = q1 := fun e => q1_0 e.symm
    have q1_i3 : ¬ q1 = i3 := fun e => by rw [e] at w1; simp [h0, hH, h3, hI, h4, hN, h5, n0, n0', m0, m0', m1, m1', c0, c0', c3, c3', c4, c4', e1, hj] at w1
    have q1_i3' : ¬ i3 = q1 := fun e => q1_i3 e.symm
    have q1_i4 : ¬ q1 = i4 := fun e => by rw [e] at w1; simp [h0, hH, h3, hI, h4, hN, h5, n0, n0', m0, m0', m1, m1', c0, c0', c3, c3', c4, c4', e1, hj] at w1
    have q1_i4' : ¬ i4 = q1 := fun e => q1_i4 e.symm
    have q1_c : ¬ q1 = c := fun e => by rw [e] at w1; simp [h0, hH, h3, hI, h4, hN, h5, n0, n0', m0, m0', m1, m1', c0, c0', c3, c3', c4, c4', e1, hj] at w1
    have q1_c' : ¬ c = q1 := fun e => q1_c e.symm
    simp [h0, hH, h3, hI, h4, hN, h5, n0, n0', m0, m0', m1, m1', c0, c0', c3, c3', c4, c4', e1, hj, q1_0, q1_0', q1_i3, q1_i3', q1_i4, q1_i4', q1_c, q1_c', encRex, encRexL]
    refine gall_intro fun q2 w2 => ?_
    have q2_0 : ¬ q2 = 0 := fun e => by rw [e] at w2; simp [h0, hH, h3, hI, h4, hN, h5, n0, n0', m0, m0', m1, m1', c0, c0', c3, c3', c4, c4', e1, hj, q1_0, q1_0', q1_i3, q1_i3', q1_i4, q1_i4', q1_c, q1_c'] at w2
    have q2_0' : ¬ 0 = q2 := fun e => q2_0 e.symm
    have q2_i3 : ¬ q2 = i3 := fun e => by rw [e] at w2; simp [h0, hH, h3, hI, h4, hN, h5, n0, n0', m0, m0', m1, m1', c0, c0', c3, c3', c4, c4', e1, hj, q1_0, q1_0', q1_i3, q1_i3', q1_i4, q1_i4', q1_c, q1_c'] at w2
    have q2_i3' : ¬ i3 = q2 := fun e => q2_i3 e.symm
    have q2_i4 : ¬ q2 = i4 := fun e => by rw [e] at w2; simp [h0, hH, h3, hI, h4, hN, h5, n0, n0', m0, m0', m1, m1', c0, c0', c3, c3', c4, c4', e1, hj, q1_0, q1_0', q1_i3, q1_i3', q1_i4, q1_i4', q1_c, q1_c'] at w2
    have q2_i4' : ¬ i4 = q2 := fun e => q2_i4 e.symm
    have q2_c : ¬ q2 = c := fun e => by rw [e] at w2; simp [h0, hH, h3, hI, h4, hN, h5, n0, n0', m0, m0', m1, m1', c0, c0', c3, c3', c4, c4', e1, hj, q1_0, q1_0', q1_i3, q1_i3', q1_i4, q1_i4', q1_c, q1_c'] at w2
    have q2_c' : ¬ c = q2 := fun e => q2_c e.symm
    have q2_q1 : ¬ q2 = q1 := fun e => by rw [e] at w2; simp [h0, hH, h3, hI, h4, hN, h5, n0, n0', m0, m0', m1, m1', c0, c0', c3, c3', c4, c4', e1, hj, q1_0, q1_0', q1_i3, q1_i3', q1_i4, q1_i4', q1_c, q1_c'] at w2
    have q2_q1' : ¬ q1 = q2 := fun e => q2_q1 e.symm
    simp [h0, hH, h3, hI, h4, hN, h5, n0, n0', m0, m0', m1, m1', c0, c0', c3, c3', c4, c4', e1, hj, q1_0, q1_0', q1_i3, q1_i3', q1_i4, q1_i4', q1_c, q1_c', q2_0, q2_0', q2_i3, q2_i3', q2_i4, q2_i4', q2_c, q2_c', q2_q1, q2_q1', encRex, encRexL]
    obtain ⟨zl, hzl⟩ : ∃ zl, zl = [Rex.mk 1 [(97 + j, 97 + j)] [], .mk 5 [] [.mk yk ys yl]] := ⟨_, rfl⟩
    rw [← hzl] at hz
    refine TWoH.via (A := RulesF b p2 i c i3 i4 3 [] zl (.val (.slice none 0 0)) l) (Turn.then (Turn.freezeA q1 (t := .own 29 [encRex (.mk yk ys yl)]) (by simp [h0, hH, h3, hI, h4, hN, h5, n0, n0', m0, m0', m1, m1', c0, c0', c3, c3', c4, c4', e1, hj, q1_0, q1_0', q1_i3, q1_i3', q1_i4, q1_i4', q1_c, q1_c', q2_0, q2_0', q2_i3, q2_i3', q2_i4, q2_i4', q2_c, q2_c', q2_q1, q2_q1', encRex]) (Turn.then (Turn.freezeA q2 (t := .own 29 [encRex (.mk 1 [(97 + j, 97 + j)] []), [.val (.int .i64 5), .val (.slice none 0 0), .ro [encRex (.mk yk ys yl)]]]) (by simp [h0, hH, h3, hI, h4, hN, h5, n0, n0', m0, m0', m1, m1', c0, c0', c3, c3', c4, c4', e1, hj, q1_0, q1_0', q1_i3, q1_i3', q1_i4, q1_i4', q1_c, q1_c', q2_0, q2_0', q2_i3, q2_i3', q2_i4, q2_i4', q2_c, q2_c', q2_q1, q2_q1', encRex, encRexL, encS, frzO, del]) (Turn.nrm c (t := .box 29 [.val (.int .i64 3), .val (.slice none 0 0), .ro (encRexL zl)]) (by rw [hzl]; simp [h0, hH, h3, hI, h4, hN, h5, n0, n0', m0, m0', m1, m1', c0, c0', c3, c3', c4, c4', e1, hj, q1_0, q1_0', q1_i3, q1_i3', q1_i4, q1_i4', q1_c, q1_c', q2_0, q2_0', q2_i3, q2_i3', q2_i4, q2_i4', q2_c, q2_c', q2_q1, q2_q1', encRex, encRexL, encS, frzO, del]) (by simp [RulesF, nrmO, nrm1, frzO, rdr, del, h0, hH, h3, hI, h4, hN, h5, n0, n0', m0, m0', m1, m1', c0, c0', c3, c3', c4, c4', e1, hj, q1_0, q1_0', q1_i3, q1_i3', q1_i4, q1_i4', q1_c, q1_c', q2_0, q2_0', q2_i3, q2_i3', q2_i4, q2_i4', q2_c, q2_c', q2_q1, q2_q1']; rw [hzl]; simp [encRex, encRexL, encS, frz2_rule, frz2_T])))))) ?_
    clear hzl
    rintro ⟨σ, H⟩ ⟨f0, fH, f3, fI, f4, fN, f5, f6, fC, f34⟩
    simp only at f0 fH f3 fI f4 fN f5 f6 fC f34
    refine TWoH.callV (tc_sRexOk (.mk 3 [] zl) hz) callable_11 (by simp [f34, encRex, noHR_rex]) (by simp) (by simp) (by simp) ?_
    have hlN : l.length < RN.length := by simp [RN]; omega
    obtain ⟨nm, hnm⟩ : ∃ w, ∀ h, RN[l.length]'h = w := ⟨RN[l.length], fun _ => rfl⟩
    have hnm2 : nm ∈ RN := by rw [← hnm hlN]; exact List.getElem_mem hlN
    have k3 : (l.length + 1) * 72 ≤ 140737488355328 := by omega
    have k4 : l.length ≤ 9223372036854775806 := by omega
    cases cR : rexOk (.mk 3 [] zl)
    · simp [f0, fH, f3, fI, f4, fN, f5, f6, fC]
      refine TWoH.lendR [0] (tcr_l2Leaf b p2 hb (by omega)) callable_60 (by simp [f0, List.findIdx?_cons]) (by simp [fH]) (by simp) (by simp) ?_
      rintro r o ⟨y, p3, rfl, hy, hp3, rfl⟩
      refine ⟨by simp [rdr], by simp, .inl (by simp [f0, List.findIdx?_cons]), fun q hq => ?_⟩
      clear hq
      obtain ⟨yk, ys, yl⟩ := y
      simp [del, delo, f0, fH, f3, fI, f4, fN, f5, f6, fC, n0, n0', m0, m0', m1, m1', c0, c0', c3, c3', c4, c4', encRex]
      refine TWcH.regionD (ρ := []) [0, 1, 2, 3, 4, 5, 6, 7, 8, 9, 10] 11 mixed (by kernel_rfl) ?_
      simp [-List.map_append, del, delo, f0, fH, f3, fI, f4, fN, f5, f6, fC, n0, n0', m0, m0', m1, m1', c0, c0', c3, c3', c4, c4', hlN, hnm, encT, k3, k4, hw1]
      refine gall_intro fun i7 g7 => ?_
      have u_0 : ¬ i7 = 0 := fun e => by rw [e] at g7; simp [del, delo, f0, fH, f3, fI, f4, fN, f5, f6, fC, n0, n0', m0, m0', m1, m1', c0, c0', c3, c3', c4, c4'] at g7
      have v_0 : ¬ 0 = i7 := fun e => u_0 e.symm
      have u_i3 : ¬ i7 = i3 := fun e => by rw [e] at g7; simp [del, delo, f0, fH, f3, fI, f4, fN, f5, f6, fC, n0, n0', m0, m0', m1, m1', c0, c0', c3, c3', c4, c4'] at g7
      have v_i3 : ¬ i3 = i7 := fun e => u_i3 e.symm
      have u_i4 : ¬ i7 = i4 := fun e => by rw [e] at g7; simp [del, delo, f0, fH, f3, fI, f4, fN, f5, f6, fC, n0, n0', m0, m0', m1, m1', c0, c0', c3, c3', c4, c4'] at g7
      have v_i4 : ¬ i4 = i7 := fun e => u_i4 e.symm
      have u_c : ¬ i7 = c := fun e => by rw [e] at g7; simp [del, delo, f0, fH, f3, fI, f4, fN, f5, f6, fC, n0, n0', m0, m0', m1, m1', c0, c0', c3, c3', c4, c4'] at g7
      have v_c : ¬ c = i7 := fun e => u_c e.symm
      simp [-List.map_append, del, delo, f0, fH, f3, fI, f4, fN, f5, f6, fC, n0, n0', m0, m0', m1, m1', c0, c0', c3, c3', c4, c4', hlN, hnm, encT, k3, k4, hw1, u_0, v_0, u_i3, v_i3, u_i4, v_i4, u_c, v_c]
      refine gall_intro fun i8 g8 => ?_
      have y_0 : ¬ i8 = 0 := fun e => by rw [e] at g8; simp [del, delo, f0, fH, f3, fI, f4, fN, f5, f6, fC, n0, n0', m0, m0', m1, m1', c0, c0', c3, c3', c4, c4', u_0, v_0, u_i3, v_i3, u_i4, v_i4, u_c, v_c] at g8
      have z_0 : ¬ 0 = i8 := fun e => y_0 e.symm
      have y_i4 : ¬ i8 = i4 := fun e => by rw [e] at g8; simp [del, delo, f0, fH, f3, fI, f4, fN, f5, f6, fC, n0, n0', m0, m0', m1, m1', c0, c0', c3, c3', c4, c4', u_0, v_0, u_i3, v_i3, u_i4, v_i4, u_c, v_c] at g8
      have z_i4 : ¬ i4 = i8 := fun e => y_i4 e.symm
      simp [-List.map_append, del, delo, f0, fH, f3, fI, f4, fN, f5, f6, fC, n0, n0', m0, m0', m1, m1', c0, c0', c3, c3', c4, c4', hlN, hnm, encT, k3, k4, hw1, u_0, v_0, u_i3, v_i3, u_i4, v_i4, u_c, v_c, y_0, z_0, y_i4, z_i4]
      exact ⟨i - 1, by omega, p3, i8, l ++ [⟨nm, .mk yk ys yl⟩], by simp; omega, by simp; omega, fun x hx' => by rcases List.mem_append.1 hx' with h | h; exact hl x h; simp only [List.mem_singleton] at h; subst h; exact ⟨hy.sm, hnm2⟩, y_0, y_i4, rfl, by simp [encRule, encRex, y_0, z_0], by simp [encRule, encRex], rfl⟩
    · simp [f0, fH, f3, fI, f4, fN, f5, f6, fC]
      refine TWcH.regionD (ρ := []) [0, 1, 2, 3, 4, 5, 6, 7, 8, 9, 10] 11 mixed (by kernel_rfl) ?_
      simp [-List.map_append, del, delo, f0, fH, f3, fI, f4, fN, f5, f6, fC, n0, n0', m0, m0', m1, m1', c0, c0', c3, c3', c4, c4', hlN, hnm, encT, k3, k4, hw1]
      refine gall_intro fun i7 g7 => ?_
      have u_0 : ¬ i7 = 0 := fun e => by rw [e] at g7; simp [del, delo, f0, fH, f3, fI, f4, fN, f5, f6, fC, n0, n0', m0, m0', m1, m1', c0, c0', c3, c3', c4, c4'] at g7
      have v_0 : ¬ 0 = i7 := fun e => u_0 e.symm
      have u_i3 : ¬ i7 = i3 := fun e => by rw [e] at g7; simp [del, delo, f0, fH, f3, fI, f4, fN, f5, f6, fC, n0, n0', m0, m0', m1, m1', c0, c0', c3, c3', c4, c4'] at g7
      have v_i3 : ¬ i3 = i7 := fun e => u_i3 e.symm
      have u_i4 : ¬ i7 = i4 := fun e => by rw [e] at g7; simp [del, delo, f0, fH, f3, fI, f4, fN, f5, f6, fC, n0, n0', m0, m0', m1, m1', c0, c0', c3, c3', c4, c4'] at g7
      have v_i4 : ¬ i4 = i7 := fun e => u_i4 e.symm
      have u_c : ¬ i7 = c := fun e => by rw [e] at g7; simp [del, delo, f0, fH, f3, fI, f4, fN, f5, f6, fC, n0, n0', m0, m0', m1, m1', c0, c0', c3, c3', c4, c4'] at g7
      have v_c : ¬ c = i7 := fun e => u_c e.symm
      simp [-List.map_append, del, delo, f0, fH, f3, fI, f4, fN, f5, f6, fC, n0, n0', m0, m0', m1, m1', c0, c0', c3, c3', c4, c4', hlN, hnm, encT, k3, k4, hw1, u_0, v_0, u_i3, v_i3, u_i4, v_i4, u_c, v_c]
      refine gall_intro fun i8 g8 => ?_
      have y_0 : ¬ i8 = 0 := fun e => by rw [e] at g8; simp [del, delo, f0, fH, f3, fI, f4, fN, f5, f6, fC, n0, n0', m0, m0', m1, m1', c0, c0', c3, c3', c4, c4', u_0, v_0, u_i3, v_i3, u_i4, v_i4, u_c, v_c] at g8
      have z_0 : ¬ 0 = i8 := fun e => y_0 e.symm
      have y_i4 : ¬ i8 = i4 := fun e => by rw [e] at g8; simp [del, delo, f0, fH, f3, fI, f4, fN, f5, f6, fC, n0, n0', m0, m0', m1, m1', c0, c0', c3, c3', c4, c4', u_0, v_0, u_i3, v_i3, u_i4, v_i4, u_c, v_c] at g8
      have z_i4 : ¬ i4 = i8 := fun e => y_i4 e.symm
      simp [-List.map_append, del, delo, f0, fH, f3, fI, f4, fN, f5, f6, fC, n0, n0', m0, m0', m1, m1', c0, c0', c3, c3', c4, c4', hlN, hnm, encT, k3, k4, hw1, u_0, v_0, u_i3, v_i3, u_i4, v_i4, u_c, v_c, y_0, z_0, y_i4, z_i4]
      exact ⟨i - 1, by omega, p2, i8, l ++ [⟨nm, .mk 3 [] zl⟩], by simp; omega, by simp; omega, fun x hx' => by rcases List.mem_append.1 hx' with h | h; exact hl x h; simp only [List.mem_singleton] at h; subst h; exact ⟨hz, hnm2⟩, y_0, y_i4, rfl, by simp [encRule, encRex, y_0, z_0], by simp [encRule, encRex], rfl⟩
  · simp [h0, hH, h3, hI, h4, hN, h5, n0, n0', m0, m0', m1, m1', c0, c0', c3, c3', c4, c4', e1]
    refine TWoH.via (A := RulesF b (p1 + 1) i c i3 i4 xk xs xl (.ro (xs.map encS)) l) (Turn.same (by simp [RulesF, h0, hH, h3, hI, h4, hN, h5, n0, n0', m0, m0', m1, m1', c0, c0', c3, c3', c4, c4'])) ?_
    rintro ⟨σ, H⟩ ⟨f0, fH, f3, fI, f4, fN, f5, f6, fC, f34⟩
    simp only at f0 fH f3 fI f4 fN f5 f6 fC f34
    refine TWoH.callV (tc_sRexOk (.mk xk xs xl) hx) callable_11 (by simp [f34, encRex, noHR_rex]) (by simp) (by simp) (by simp) ?_
    have hlN : l.length < RN.length := by simp [RN]; omega
    obtain ⟨nm, hnm⟩ : ∃ w, ∀ h, RN[l.length]'h = w := ⟨RN[l.length], fun _ => rfl⟩
    have hnm2 : nm ∈ RN := by rw [← hnm hlN]; exact List.getElem_mem hlN
    have k3 : (l.length + 1) * 72 ≤ 140737488355328 := by omega
    have k4 : l.length ≤ 9223372036854775806 := by omega
    cases cR : rexOk (.mk xk xs xl)
    · simp [f0, fH, f3, fI, f4, fN, f5, f6, fC]
      refine TWoH.lendR [0] (tcr_l2Leaf b (p1 + 1) hb (by omega)) callable_60 (by simp [f0, List.findIdx?_cons]) (by simp [fH]) (by simp) (by simp) ?_
      rintro r o ⟨y, p2, rfl, hy, hp2, rfl⟩
      refine ⟨by simp [rdr], by simp, .inl (by simp [f0, List.findIdx?_cons]), fun q hq => ?_⟩
      clear hq
      obtain ⟨yk, ys, yl⟩ := y
      simp [del, delo, f0, fH, f3, fI, f4, fN, f5, f6, fC, n0, n0', m0, m0', m1, m1', c0, c0', c3, c3', c4, c4', encRex]
      refine TWcH.regionD (ρ := []) [0, 1, 2, 3, 4, 5, 6, 7, 8, 9, 10] 11 mixed (by kernel_rfl) ?_
      simp [-List.map_append, del, delo, f0, fH, f3, fI, f4, fN, f5, f6, fC, n0, n0', m0, m0', m1, m1', c0, c0', c3, c3', c4, c4', hlN, hnm, encT, k3, k4, hw1]
      refine gall_intro fun i7 g7 => ?_
      have u_0 : ¬ i7 = 0 := fun e => by rw [e] at g7; simp [del, delo, f0, fH, f3, fI, f4, fN, f5, f6, fC, n0, n0', m0, m0', m1, m1', c0, c0', c3, c3', c4, c4'] at g7
      have v_0 : ¬ 0 = i7 := fun e => u_0 e.symm
      have u_i3 : ¬ i7 = i3 := fun e => by rw [e] at g7; simp [del, delo, f0, fH, f3, fI, f4, fN, f5, f6, fC, n0, n0', m0, m0', m1, m1', c0, c0', c3, c3', c4, c4'] at g7
      have v_i3 : ¬ i3 = i7 := fun e => u_i3 e.symm
      have u_i4 : ¬ i7 = i4 := fun e => by rw [e] at g7; simp [del, delo, f0, fH, f3, fI, f4, fN, f5, f6, fC, n0, n0', m0, m0', m1, m1', c0, c0', c3, c3', c4, c4'] at g7
      have v_i4 : ¬ i4 = i7 := fun e => u_i4 e.symm
      have u_c : ¬ i7 = c := fun e => by rw [e] at g7; simp [del, delo, f0, fH, f3, fI, f4, fN, f5, f6, fC, n0, n0', m0, m0', m1, m1', c0, c0', c3, c3', c4, c4'] at g7
      have v_c : ¬ c = i7 := fun e => u_c e.symm
      simp [-List.map_append, del, delo, f0, fH, f3, fI, f4, fN, f5, f6, fC, n0, n0', m0, m0', m1, m1', c0, c0', c3, c3', c4, c4', hlN, hnm, encT, k3, k4, hw1, u_0, v_0, u_i3, v_i3, u_i4, v_i4, u_c, v_c]
      refine gall_intro fun i8 g8 => ?_
      have y_0 : ¬ i8 = 0 := fun e => by rw [e] at g8; simp [del, delo, f0, fH, f3, fI, f4, fN, f5, f6, fC, n0, n0', m0, m0', m1, m1', c0, c0', c3, c3', c4, c4', u_0, v_0, u_i3, v_i3, u_i4, v_i4, u_c, v_c] at g8
      have z_0 : ¬ 0 = i8 := fun e => y_0 e.symm
      have y_i4 : ¬ i8 = i4 := fun e => by rw [e] at g8; simp [del, delo, f0, fH, f3, fI, f4, fN, f5, f6, fC, n0, n0', m0, m0', m1, m1', c0, c0', c3, c3', c4, c4', u_0, v_0, u_i3, v_i3, u_i4, v_i4, u_c, v_c] at g8
      have z_i4 : ¬ i4 = i8 := fun e => y_i4 e.symm
      simp [-List.map_append, del, delo, f0, fH, f3, fI, f4, fN, f5, f6, fC, n0, n0', m0, m0', m1, m1', c0, c0', c3, c3', c4, c4', hlN, hnm, encT, k3, k4, hw1, u_0, v_0, u_i3, v_i3, u_i4, v_i4, u_c, v_c, y_0, z_0, y_i4, z_i4]
      exact ⟨i - 1, by omega, p2, i8, l ++ [⟨nm, .mk yk ys yl⟩], by simp; omega, by simp; omega, fun x hx' => by rcases List.mem_append.1 hx' with h | h; exact hl x h; simp only [List.mem_singleton] at h; subst h; exact ⟨hy.sm, hnm2⟩, y_0, y_i4, rfl, by simp [encRule, encRex, y_0, z_0], by simp [encRule, encRex], rfl⟩
    · simp [f0, fH, f3, fI, f4, fN, f5, f6, fC]
      refine TWcH.regionD (ρ := []) [0, 1, 2, 3, 4, 5, 6, 7, 8, 9, 10] 11 mixed (by kernel_rfl) ?_
      simp [-List.map_append, del, delo, f0, fH, f3, fI, f4, fN, f5, f6, fC, n0, n0', m0, m0', m1, m1', c0, c0', c3, c3', c4, c4', hlN, hnm, encT, k3, k4, hw1]
      refine gall_intro fun i7 g7 => ?_
      have u_0 : ¬ i7 = 0 := fun e => by rw [e] at g7; simp [del, delo, f0, fH, f3, fI, f4, fN, f5, f6, fC, n0, n0', m0, m0', m1, m1', c0, c0', c3, c3', c4, c4'] at g7
      have v_0 : ¬ 0 = i7 := fun e => u_0 e.symm
      have u_i3 : ¬ i7 = i3 := fun e => by rw [e] at g7; simp [del, delo, f0, fH, f3, fI, f4, fN, f5, f6, fC, n0, n0', m0, m0', m1, m1', c0, c0', c3, c3', c4, c4'] at g7
      have v_i3 : ¬ i3 = i7 := fun e => u_i3 e.symm
      have u_i4 : ¬ i7 = i4 := fun e => by rw [e] at g7; simp [del, delo, f0, fH, f3, fI, f4, fN, f5, f6, fC, n0, n0', m0, m0', m1, m1', c0, c0', c3, c3', c4, c4'] at g7
      have v_i4 : ¬ i4 = i7 := fun e => u_i4 e.symm
      have u_c : ¬ i7 = c := fun e => by rw [e] at g7; simp [del, delo, f0, fH, f3, fI, f4, fN, f5, f6, fC, n0, n0', m0, m0', m1, m1', c0, c0', c3, c3', c4, c4'] at g7
      have v_c : ¬ c = i7 := fun e => u_c e.symm
      simp [-List.map_append, del, delo, f0, fH, f3, fI, f4, fN, f5, f6, fC, n0, n0', m0, m0', m1, m1', c0, c0', c3, c3', c4, c4', hlN, hnm, encT, k3, k4, hw1, u_0, v_0, u_i3, v_i3, u_i4, v_i4, u_c, v_c]
      refine gall_intro fun i8 g8 => ?_
      have y_0 : ¬ i8 = 0 := fun e => by rw [e] at g8; simp [del, delo, f0, fH, f3, fI, f4, fN, f5, f6, fC, n0, n0', m0, m0', m1, m1', c0, c0', c3, c3', c4, c4', u_0, v_0, u_i3, v_i3, u_i4, v_i4, u_c, v_c] at g8
      have z_0 : ¬ 0 = i8 := fun e => y_0 e.symm
      have y_i4 : ¬ i8 = i4 := fun e => by rw [e] at g8; simp [del, delo, f0, fH, f3, fI, f4, fN, f5, f6, fC, n0, n0', m0, m0', m1, m1', c0, c0', c3, c3', c4, c4', u_0, v_0, u_i3, v_i3, u_i4, v_i4, u_c, v_c] at g8
      have z_i4 : ¬ i4 = i8 := fun e => y_i4 e.symm
      simp [-List.map_append, del, delo, f0, fH, f3, fI, f4, fN, f5, f6, fC, n0, n0', m0, m0', m1, m1', c0, c0', c3, c3', c4, c4', hlN, hnm, encT, k3, k4, hw1, u_0, v_0, u_i3, v_i3, u_i4, v_i4, u_c, v_c, y_0, z_0, y_i4, z_i4]
      exact ⟨i - 1, by omega, p1 + 1, i8, l ++ [⟨nm, .mk xk xs xl⟩], by simp; omega, by simp; omega, fun x hx' => by rcases List.mem_append.1 hx' with h | h; exact hl x h; simp only [List.mem_singleton] at h; subst h; exact ⟨hx, hnm2⟩, y_0, y_i4, rfl, by simp [encRule, encRex, y_0, z_0], by simp [encRule, encRex], rfl⟩
end Go.Proofs.Ythmifhkbbbchaaa.R

open Go Go.Proofs.Ythmifhkbbbchaaa.T
namespace Go.Proofs.Ythmifhkbbbchaaa.R
set_option maxHeartbeats 4000000
set_option maxRecDepth 100000
set_option linter.unusedSimpArgs false
set_option linter.unusedVariables false
attribute [local simp] bsV bsRows chunk fillT partsT appV makeV rowsOf cellsOf placeOf frzT frz1
def RNB : List (List UInt8) := RN ++ [[], [65], [116, 111, 111, 108, 111, 110, 103]]
def RN3 : List (List UInt8) := [[], [65], [116, 111, 111, 108, 111, 110, 103]]
theorem noHR_app : ∀ a b : List (List TV), noHR (a ++ b) = (noHR a && noHR b)
  | [], b => by simp
  | x :: a, b => by simp [noHR_app a b, Bool.and_assoc]
theorem tcr_l6Bent (b : List UInt8) (p : Nat) (hb : b.length ≤ 2000) (hp : p ≤ 840000000) : TCR Try.prog 22 [.pd 0 0 0 0] [rdr b p] (fun r o => ∃ (l : List Rule) (p' : Nat), r = .own 35 (l.map encRule) ∧ (∀ x ∈ l, Sm x.rex ∧ x.name ∈ RNB) ∧ l.length ≤ 5 ∧ p' ≤ p + 1500 ∧ o = [rdr b p']) := by
  refine TCR.enter Try.func22 rfl (by simp [Try.ntmps22]) rfl (tw_sound (ρ := []) ?_)
  rw [Try.ntmps22]
  simp
  refine TWoH.lendR [0] (tcr_l6Rules b p hb (by omega)) callable_41 (by simp [List.findIdx?_cons]) (by simp) (by simp) (by simp) ?_
  rintro r o ⟨l, p1, rfl, hl, hl1, hl4, hp1, rfl⟩
  have hnl : noHR (l.map encRule) = true := by clear hl hl1 hl4; induction l <;> simp [*]
  refine ⟨by simp [rdr], by simp [hnl], .inl (by simp [List.findIdx?_cons]), fun q hq => ?_⟩
  have fq := frF_ge hq [0] (by simp)
  clear hq
  simp [frF] at fq
  simp [fq]
  refine TWoH.lendR [0] (tcr_pick b p1 48 hb (by omega)) callable_42 (by simp [List.findIdx?_cons, fq]) (by simp [fq]) (by simp) (by simp) ?_
  rintro r o ⟨k, rfl, k0, k1, rfl⟩
  refine ⟨by simp [rdr], by simp, .inl (by simp [List.findIdx?_cons, fq]), fun q2 hq2 => ?_⟩
  clear hq2
  have hN : ∀ x ∈ l, Sm x.rex ∧ x.name ∈ RNB := fun x hx => ⟨(hl x hx).1, List.mem_append_left _ (hl x hx).2⟩
  by_cases c0 : k = 0
  · simp [c0, fq]
    refine gall_fresh [0, q] (by simp [fq]) fun a fa => ?_
    simp [frF] at fa
    simp [fq, fa]
    exact ⟨_, _, ⟨rfl, rfl⟩, by simp, by simp [fq, fa], [], by simp, by simp, by simp, p1 + 1, by omega, by simp [fq, fa]⟩
  obtain ⟨⟨nm, xk, xs, xl⟩, l2, rfl⟩ : ∃ x l2, l = x :: l2 := by
    cases l with
    | nil => simp at hl1
    | cons x l2 => exact ⟨x, l2, rfl⟩
  simp only [List.length_cons] at hl1 hl4
  have hx0 := hN ⟨nm, .mk xk xs xl⟩ (by simp)
  have hN2 : ∀ x ∈ l2, Sm x.rex ∧ x.name ∈ RNB := fun x hx => hN x (by simp [hx])
  have z1 : (0 : Int) < l2.length + 1 := by omega
  by_cases c1 : k = 1
  · simp [c0, c1, fq]
    refine gall_fresh [0, q] (by simp [fq]) fun a fa => ?_
    simp [frF] at fa
    simp [fq, fa]
    refine TWoH.turn (Turn.freeze a (t := .own 9 (RN3.map encT)) (by simp [fa, fq, encT, RN3]) ?_)
    refine TWoH.lendR [0] (tcr_of b (p1 + 1) RN3 hb (by omega) (by simp [RN3]) (by simp [RN3])) callable_43 (by simp [fq, fa, encT, RN3, List.findIdx?_cons]) (by simp [fq, fa, del]) (by simp) (by simp) ?_
    rintro r o ⟨x, hx, rfl, rfl⟩
    refine ⟨by simp [rdr], by simp, .inl (by simp [fq, fa, List.findIdx?_cons]), fun q2 hq2 => ?_⟩
    clear hq2
    simp [fq, fa, del, encRule, encRex, z1]
    exact ⟨_, _, ⟨rfl, rfl⟩, by simp [noHR_rex], by simp [fq, fa, del], ⟨x, .mk xk xs xl⟩ :: l2, by simp [encRule, encRex], by simp; exact ⟨⟨hx0.1, List.mem_append_right _ hx⟩, hN2⟩, by simp; omega, p1 + 2, by omega, by simp [fq, fa, del]⟩
  by_cases c2 : k = 2
  · have k3 : (l2.length + 1 + 1) * 72 ≤ 140737488355328 := by omega
    have k4 : l2.length ≤ 9223372036854775805 := by omega
    simp [c0, c1, c2, fq, encRule, encRex, z1]
    refine gall_fresh [0, q] (by simp [fq]) fun a fa => ?_
    simp [frF] at fa
    simp [fq, fa, k3, k4]
    refine gall_fresh [0, a] (by simp [fq, fa]) fun c fc => ?_
    simp [frF] at fc
    simp [fq, fa, fc]
    have hnl2 := hnl
    simp only [List.map_cons, noHR, Bool.and_eq_true] at hnl2
    exact ⟨_, _, ⟨rfl, rfl⟩, by simp [noHR_rex, noHR_app, hnl2.2], by simp [fq, fa, fc, del, delo], ⟨nm, .mk xk xs xl⟩ :: l2 ++ [⟨nm, .mk xk xs xl⟩], by simp [encRule, encRex], by intro x hx; simp only [List.mem_append, List.mem_singleton] at hx; rcases hx with hx | hx; exact hN x hx; subst hx; exact hx0, by simp; omega, p1 + 1, by omega, by simp [fq, fa, fc, del, delo]⟩
  by_cases c3 : k = 3
  · simp [c0, c1, c2, c3, fq, encRule, encRex, z1]
    refine TWoH.lendR [0] (tcr_l2Bent b (p1 + 1) hb (by omega)) callable_24 (by simp [List.findIdx?_cons, fq]) (by simp [fq]) (by simp) (by simp) ?_
    rintro r o ⟨⟨yk, ys, yl⟩, p2, rfl, hy, hp2, rfl⟩
    refine ⟨by simp [rdr], by simp, .inl (by simp [fq, List.findIdx?_cons]), fun q2 hq2 => ?_⟩
    clear hq2
    simp [fq, del, encRule, encRex, z1]
    exact ⟨_, _, ⟨rfl, rfl⟩, by simp [noHR_rex], by simp [fq, del], ⟨nm, .mk yk ys yl⟩ :: l2, by simp [encRule, encRex], by simp; exact ⟨⟨hy, hx0.2⟩, hN2⟩, by simp; omega, p2, by omega, by simp [fq, del]⟩
  simp [c0, c1, c2, c3, fq]
  exact ⟨_, _, ⟨rfl, rfl⟩, by simp [noHR_rex], by simp [fq, del], ⟨nm, .mk xk xs xl⟩ :: l2, by simp [encRule, encRex], by simp; exact ⟨hx0, hN2⟩, by simp; omega, p1 + 1, by omega, by simp [fq, del]⟩
end Go.Proofs.Ythmifhkbbbchaaa.R

open Go Go.Proofs.Ythmifhkbbbchaaa.T
namespace Go.Proofs.Ythmifhkbbbchaaa.R
set_option maxHeartbeats 4000000
set_option maxRecDepth 100000
set_option linter.unusedSimpArgs false
set_option linter.unusedVariables false
attribute [local simp] bsV bsRows chunk fillT partsT appV makeV rowsOf cellsOf placeOf frzT frz1
def RB (l : List Rule) : Prop := (∀ x ∈ l, Sm x.rex ∧ x.name ∈ RNB) ∧ l.length ≤ 5
theorem RNB_len {n : List UInt8} (h : n ∈ RNB) : n.length ≤ 7 := by
  simp only [RNB, RN, List.mem_append, List.mem_cons, List.not_mem_nil, or_false] at h
  rcases h with (h | h | h | h | h) | h | h | h <;> subst h <;> simp
theorem RB.sm {l : List Rule} (h : RB l) : RSm l := ⟨by have := h.2; omega, fun r hr => ⟨(h.1 r hr).1, by have := RNB_len (h.1 r hr).2; omega⟩⟩
theorem tcr_DrawRulesFirst (b : List UInt8) (hb : b.length ≤ 1048576) : TCR Try.prog 6 [.ro (b.map encU)] [] (fun r o => ∃ (l : List Rule) (w : List UInt8), r = .tup [.own 35 (l.map encRule), .val (.string (bs w))] ∧ RB l ∧ w.length ≤ 5 ∧ (∀ c ∈ w, c ∈ WB) ∧ o = []) := by
  refine TCR.enter Try.func6 rfl (by simp [Try.ntmps6]) rfl (tw_sound (ρ := []) ?_)
  rw [Try.ntmps6]
  simp
  refine TWoH.call (tc_l15Open b hb) callable_21 (by simp) (by simp [rdr, ← List.map_take]) (by simp) fun q hq => ?_
  clear hq
  simp [rdr]
  refine TWoH.lendR [q] (tcr_l6Bent (b.take 2000) 0 (by simp; omega) (by omega)) callable_22 (by simp [List.findIdx?_cons]) (by simp [rdr]) (by simp) (by simp) ?_
  rintro r o ⟨l, p1, rfl, hl, hl5, hp1, rfl⟩
  have hnl := noHR_rule l
  refine ⟨by simp [rdr], by simp [hnl], .inl (by simp [List.findIdx?_cons]), fun q2 hq2 => ?_⟩
  have fq := frF_ge hq2 [q] (by simp)
  clear hq2
  simp [frF] at fq
  simp [fq]
  refine TWoH.lendR [q] (tcr_l3Word (b.take 2000) p1 5 (by simp; omega) (by omega) (by omega)) callable_23 (by simp [List.findIdx?_cons, fq]) (by simp [fq]) (by simp) (by simp) ?_
  rintro r o ⟨w, p2, rfl, hw, hwb, hp2, rfl⟩
  refine ⟨by simp [rdr], by simp, .inl (by simp [List.findIdx?_cons, fq]), fun q3 hq3 => ?_⟩
  clear hq3
  simp [fq]
  exact ⟨l, w, ⟨rfl, rfl⟩, ⟨hl, hl5⟩, hw, hwb⟩
theorem tcr_DrawLexMeans (b : List UInt8) (hb : b.length ≤ 1048576) : TCR Try.prog 17 [.ro (b.map encU)] [] (fun r o => ∃ (l : List Rule) (w : List UInt8), r = .tup [.own 35 (l.map encRule), .val (.string (bs w))] ∧ RB l ∧ w.length ≤ 8 ∧ (∀ c ∈ w, c ∈ WB) ∧ o = []) := by
  refine TCR.enter Try.func17 rfl (by simp [Try.ntmps17]) rfl (tw_sound (ρ := []) ?_)
  rw [Try.ntmps17]
  simp
  refine TWoH.call (tc_l15Open b hb) callable_21 (by simp) (by simp [rdr, ← List.map_take]) (by simp) fun q hq => ?_
  clear hq
  simp [rdr]
  refine TWoH.lendR [q] (tcr_l6Bent (b.take 2000) 0 (by simp; omega) (by omega)) callable_22 (by simp [List.findIdx?_cons]) (by simp [rdr]) (by simp) (by simp) ?_
  rintro r o ⟨l, p1, rfl, hl, hl5, hp1, rfl⟩
  have hnl := noHR_rule l
  refine ⟨by simp [rdr], by simp [hnl], .inl (by simp [List.findIdx?_cons]), fun q2 hq2 => ?_⟩
  have fq := frF_ge hq2 [q] (by simp)
  clear hq2
  simp [frF] at fq
  simp [fq]
  refine TWoH.lendR [q] (tcr_l3Word (b.take 2000) p1 8 (by simp; omega) (by omega) (by omega)) callable_23 (by simp [List.findIdx?_cons, fq]) (by simp [fq]) (by simp) (by simp) ?_
  rintro r o ⟨w, p2, rfl, hw, hwb, hp2, rfl⟩
  refine ⟨by simp [rdr], by simp, .inl (by simp [List.findIdx?_cons, fq]), fun q3 hq3 => ?_⟩
  clear hq3
  simp [fq]
  exact ⟨l, w, ⟨rfl, rfl⟩, ⟨hl, hl5⟩, hw, hwb⟩
def RS (l : List Rule) : Prop := l.length ≤ 5 ∧ ∀ x ∈ l, Sm x.rex ∧ x.name.length ≤ 8
theorem RB.rs {l : List Rule} (h : RB l) : RS l := ⟨h.2, fun x hx => ⟨(h.1 x hx).1, by have := RNB_len (h.1 x hx).2; omega⟩⟩
theorem RS.sm {l : List Rule} (h : RS l) : RSm l := ⟨by have := h.1; omega, fun r hr => ⟨(h.2 r hr).1, by have := (h.2 r hr).2; omega⟩⟩
theorem tcr_DrawRulesSame (b : List UInt8) (hb : b.length ≤ 1048576) : TCR Try.prog 14 [.ro (b.map encU)] [] (fun r o => ∃ (l l2 : List Rule), r = .tup [.own 35 (l.map encRule), .own 35 (l2.map encRule)] ∧ RS l ∧ RS l2 ∧ o = []) := by
  refine TCR.enter Try.func14 rfl (by simp [Try.ntmps14]) rfl (tw_sound (ρ := []) ?_)
  rw [Try.ntmps14]
  simp
  refine TWoH.call (tc_l15Open b hb) callable_21 (by simp) (by simp [rdr, ← List.map_take]) (by simp) fun q hq => ?_
  clear hq
  simp [rdr]
  refine TWoH.lendR [q] (tcr_l6Bent (b.take 2000) 0 (by simp; omega) (by omega)) callable_22 (by simp [List.findIdx?_cons]) (by simp [rdr]) (by simp) (by simp) ?_
  rintro r o ⟨l, p1, rfl, hl, hl5, hp1, rfl⟩
  have hnl := noHR_rule l
  refine ⟨by simp [rdr], by simp [hnl], .inl (by simp [List.findIdx?_cons]), fun q2 hq2 => ?_⟩
  have fq := frF_ge hq2 [q] (by simp)
  clear hq2
  simp [frF] at fq
  simp [fq]
  refine TWoH.call (tc_l15Open b hb) callable_21 (by simp) (by simp [rdr, ← List.map_take]) (by simp) fun q3 hq3 => ?_
  have f3 := frF_ge hq3 [q, q2] (by simp [fq])
  clear hq3
  simp [frF] at f3
  simp [rdr]
  refine TWoH.lendR [q3] (tcr_l6Bent (b.take 2000) 0 (by simp; omega) (by omega)) callable_22 (by simp [List.findIdx?_cons]) (by simp [rdr]) (by simp) (by simp) ?_
  rintro r o ⟨m, p2, rfl, hm, hm5, hp2, rfl⟩
  have hnm := noHR_rule m
  refine ⟨by simp [rdr], by simp [hnm], .inl (by simp [List.findIdx?_cons]), fun q4 hq4 => ?_⟩
  have f4 := frF_ge hq4 [q, q2, q3] (by simp [fq, f3])
  clear hq4
  simp [frF] at f4
  cases b with
  | nil =>
    simp [fq, f3, f4]
    exact ⟨l, m, ⟨rfl, rfl⟩, RB.rs ⟨hl, hl5⟩, RB.rs ⟨hm, hm5⟩⟩
  | cons c b' =>
    have y1 : (0 : Int) < b'.length + 1 := by omega
    by_cases c1 : (c.toNat : Int).tmod 2 = 1
    · cases m with
      | nil =>
        simp [fq, f3, f4, y1, encU, c1]
        exact ⟨l, [], ⟨rfl, rfl⟩, RB.rs ⟨hl, hl5⟩, RB.rs ⟨hm, hm5⟩⟩
      | cons x m' =>
        obtain ⟨nm, xk, xs, xl⟩ := x
        have z1 : (0 : Int) < m'.length + 1 := by omega
        have z0 := RNB_len (hm ⟨nm, .mk xk xs xl⟩ (by simp)).2
        have z2 : ¬ (9223372036854775807 : Int) < nm.length + 1 := by simp only at z0; omega
        simp [fq, f3, f4, y1, encU, c1, z1, z2, encRule, encRex]
        refine ⟨l, ⟨nm ++ [120], .mk xk xs xl⟩ :: m', ⟨rfl, by simp [encRule, encRex]⟩, RB.rs ⟨hl, hl5⟩, by simpa using hm5, fun y hy => ?_⟩
        rcases List.mem_cons.1 hy with rfl | hy
        · exact ⟨(hm ⟨nm, .mk xk xs xl⟩ (by simp)).1, by simp only at z0; simp; omega⟩
        · exact ⟨(hm y (by simp [hy])).1, by have := RNB_len (hm y (by simp [hy])).2; omega⟩
    · simp [fq, f3, f4, y1, encU, c1]
      exact ⟨l, m, ⟨rfl, rfl⟩, RB.rs ⟨hl, hl5⟩, RB.rs ⟨hm, hm5⟩⟩
end Go.Proofs.Ythmifhkbbbchaaa.R

open Go Go.Proofs.Ythmifhkbbbchaaa.T
namespace Go.Proofs.Ythmifhkbbbchaaa.R
set_option maxHeartbeats 4000000
set_option maxRecDepth 100000
set_option linter.unusedSimpArgs false
set_option linter.unusedVariables false
attribute [local simp] bsV bsRows chunk fillT partsT appV makeV rowsOf cellsOf placeOf
/-- Whether it is so. -/
noncomputable def bP (p : Prop) : Bool := @decide p (Classical.propDecidable p)
theorem bP_pos {p : Prop} (h : p) : bP p = true := by unfold bP; simp [h]
theorem bP_neg {p : Prop} (h : ¬ p) : bP p = false := by unfold bP; simp [h]
@[simp] theorem bP_iff {p : Prop} : bP p = true ↔ p := by unfold bP; simp
theorem take_next {α : Type} {a b : List α} {i : Nat} (hi : i < a.length) (hj : i < b.length) (h : a.take i = b.take i) (he : a[i] = b[i]) : a.take (i + 1) = b.take (i + 1) := by
  rw [List.take_succ_eq_append_getElem hi, List.take_succ_eq_append_getElem hj, h, he]
theorem ne_at {α : Type} {a b : List α} {i : Nat} (hi : i < a.length) (hj : i < b.length) (he : ¬ a[i] = b[i]) : ¬ a = b := fun e => by subst e; exact he rfl
theorem take_all {α : Type} {a b : List α} {i : Nat} (hl : a.length = b.length) (hi : b.length ≤ i) (h : a.take i = b.take i) : a = b := by
  rwa [List.take_of_length_le (by omega), List.take_of_length_le hi] at h
theorem aggS (x y : Int × Int) : aggEq Try.prog 47 (encS x) (encS y) = some (decide (x.1 = y.1) && decide (x.2 = y.2)) := by
  simp [aggEq, eqFs, encS]
  rfl
theorem aggT (x y : Tok) : aggEq Try.prog 64 (encTok x) (encTok y) = some (decide (x.1 = y.1) && (decide (x.2.1 = y.2.1) && decide (x.2.2 = y.2.2))) := by
  simp [aggEq, eqFs, encTok]
  rfl
theorem tc_sameSpan (a b : List (Int × Int)) (ha : a.length ≤ 1152921504606846976) (hb : b.length ≤ 1152921504606846976) : TC Try.prog 55 [.ro (a.map encS), .ro (b.map encS)] [] (.val (.bool (bP (a = b)))) [] := by
  refine TC.enter Try.func55 rfl (by simp [Try.ntmps55]) rfl (tw_sound (ρ := []) ?_)
  rw [Try.ntmps55]
  by_cases hlen : a.length = b.length
  case neg =>
    have h1 : ¬ (a.length : Int) = b.length := by omega
    have h2 : ¬ a = b := fun e => hlen (by rw [e])
    simp [h1, bP_neg h2]
  have h1 : (a.length : Int) = b.length := by omega
  simp [h1]
  refine TWcH.loop [] (fun m st => ∃ i : Nat, i + m = b.length ∧ a.take i = b.take i ∧ st.σ 0 = .ro (a.map encS) ∧ st.σ 1 = .ro (b.map encS) ∧ st.σ 12 = .val (.int .i64 b.length) ∧ st.σ 13 = .val (.int .i64 i)) b.length ⟨0, by simp⟩ ?_
  rintro m ⟨σ, H⟩ ⟨i, him, ht, h0, h1', h12, h5⟩
  simp only at h0 h1' h12 h5
  by_cases hi : i < b.length
  case neg =>
    have e : a = b := take_all hlen (by omega) ht
    have hi2 : ¬ i < a.length := by omega
    simp [h0, h1', h12, h5, hi, hi2, bP_pos e]
  have hi2 : i < a.length := by omega
  have hw : IntKind.i64.wrap ((i : Int) + 1) = i + 1 := wrapi (by omega)
  simp [h0, h1', h12, h5, hi, hi2]
  refine TWcH.regionD (ρ := []) [0, 1, 2, 3, 4, 5, 6, 7, 8] 9 mixed (by kernel_rfl) ?_
  simp [h0, h1', h12, h5, hi, hi2, getI hi, getI hi2, aggS]
  refine gif_intro (fun c => ?_) (fun c => ?_)
  · have e : ¬ a = b := ne_at hi2 hi fun e => by rw [e] at c; simp at c
    simp [h0, h1', h12, h5, hi, hi2, bP_neg e]
  · have e : a[i] = b[i] := by
      simp only [not_or, Decidable.not_not] at c
      exact Prod.ext c.1 c.2
    simp [h0, h1', h12, h5, hi, hi2, hw]
    exact ⟨m - 1, by omega, i + 1, by omega, take_next hi2 hi ht e, by omega⟩
theorem tc_sSetSame (a b : List (Int × Int)) (ha : a.length ≤ 1152921504606846976) (hb : b.length ≤ 1152921504606846976) : TC Try.prog 56 [.ro (a.map encS), .ro (b.map encS)] [] (.val (.bool (bP (a = b)))) [] := by
  refine TC.enter Try.func56 rfl (by simp [Try.ntmps56]) rfl (tw_sound (ρ := []) ?_)
  rw [Try.ntmps56]
  by_cases hlen : a.length = b.length
  case neg =>
    have h1 : ¬ (a.length : Int) = b.length := by omega
    have h2 : ¬ a = b := fun e => hlen (by rw [e])
    simp [h1, bP_neg h2]
  have h1 : (a.length : Int) = b.length := by omega
  simp [h1]
  refine TWcH.loop [] (fun m st => ∃ i : Nat, i + m = b.length ∧ a.take i = b.take i ∧ st.σ 0 = .ro (a.map encS) ∧ st.σ 1 = .ro (b.map encS) ∧ st.σ 5 = .val (.int .i64 i)) b.length ⟨0, by simp⟩ ?_
  rintro m ⟨σ, H⟩ ⟨i, him, ht, h0, h1', h5⟩
  simp only at h0 h1' h5
  by_cases hi : i < b.length
  case neg =>
    have e : a = b := take_all hlen (by omega) ht
    have hi2 : ¬ i < a.length := by omega
    simp [h0, h1', h5, hi, hi2, bP_pos e]
  have hi2 : i < a.length := by omega
  have hw : IntKind.i64.wrap ((i : Int) + 1) = i + 1 := wrapi (by omega)
  simp [h0, h1', h5, hi, hi2]
  refine TWcH.regionD (ρ := []) [0, 1, 2, 3, 4, 5, 6, 7, 8] 9 mixed (by kernel_rfl) ?_
  simp [h0, h1', h5, hi, hi2, getI hi, getI hi2, aggS]
  refine gif_intro (fun c => ?_) (fun c => ?_)
  · have e : ¬ a = b := ne_at hi2 hi fun e => by rw [e] at c; simp at c
    simp [h0, h1', h5, hi, hi2, bP_neg e]
  · have e : a[i] = b[i] := by
      simp only [not_or, Decidable.not_not] at c
      exact Prod.ext c.1 c.2
    simp [h0, h1', h5, hi, hi2, hw]
    exact ⟨m - 1, by omega, i + 1, by omega, take_next hi2 hi ht e, by omega⟩
theorem tc_sameTok (a b : List Tok) (ha : a.length ≤ 1152921504606846976) (hb : b.length ≤ 1152921504606846976) : TC Try.prog 40 [.ro (a.map encTok), .ro (b.map encTok)] [] (.val (.bool (bP (a = b)))) [] := by
  refine TC.enter Try.func40 rfl (by simp [Try.ntmps40]) rfl (tw_sound (ρ := []) ?_)
  rw [Try.ntmps40]
  by_cases hlen : a.length = b.length
  case neg =>
    have h1 : ¬ (a.length : Int) = b.length := by omega
    have h2 : ¬ a = b := fun e => hlen (by rw [e])
    simp [h1, bP_neg h2]
  have h1 : (a.length : Int) = b.length := by omega
  simp [h1]
  refine TWcH.loop [] (fun m st => ∃ i : Nat, i + m = b.length ∧ a.take i = b.take i ∧ st.σ 0 = .ro (a.map encTok) ∧ st.σ 1 = .ro (b.map encTok) ∧ st.σ 12 = .val (.int .i64 b.length) ∧ st.σ 13 = .val (.int .i64 i)) b.length ⟨0, by simp⟩ ?_
  rintro m ⟨σ, H⟩ ⟨i, him, ht, h0, h1', h12, h5⟩
  simp only at h0 h1' h12 h5
  by_cases hi : i < b.length
  case neg =>
    have e : a = b := take_all hlen (by omega) ht
    have hi2 : ¬ i < a.length := by omega
    simp [h0, h1', h12, h5, hi, hi2, bP_pos e]
  have hi2 : i < a.length := by omega
  have hw : IntKind.i64.wrap ((i : Int) + 1) = i + 1 := wrapi (by omega)
  simp [h0, h1', h12, h5, hi, hi2]
  refine TWcH.regionD (ρ := []) [0, 1, 2, 3, 4, 5, 6, 7, 8] 9 mixed (by kernel_rfl) ?_
  simp [h0, h1', h12, h5, hi, hi2, getI hi, getI hi2, aggT]
  refine gif_intro (fun c => ?_) (fun c => ?_)
  · have e : ¬ a = b := ne_at hi2 hi fun e => by rw [e] at c; simp at c
    simp [h0, h1', h12, h5, hi, hi2, bP_neg e]
  · have e : a[i] = b[i] := by
      simp only [not_or, Decidable.not_not] at c
      exact Prod.ext c.1 (Prod.ext c.2.1 c.2.2)
    simp [h0, h1', h12, h5, hi, hi2, hw]
    exact ⟨m - 1, by omega, i + 1, by omega, take_next hi2 hi ht e, by omega⟩
theorem tc_iLexSame (a b : List Tok) (ha : a.length ≤ 1152921504606846976) (hb : b.length ≤ 1152921504606846976) : TC Try.prog 20 [.ro (a.map encTok), .ro (b.map encTok)] [] (.val (.bool (bP (a = b)))) [] := by
  refine TC.enter Try.func20 rfl (by simp [Try.ntmps20]) rfl (tw_sound (ρ := []) ?_)
  rw [Try.ntmps20]
  simp
  refine TWoH.callV (tc_sameTok a b ha hb) callable_40 (by simp) (by simp) (by simp) (by simp) ?_
  simp
end Go.Proofs.Ythmifhkbbbchaaa.R

open Go Go.Proofs.Ythmifhkbbbchaaa.T
namespace Go.Proofs.Ythmifhkbbbchaaa.R
set_option maxHeartbeats 4000000
set_option maxRecDepth 100000
set_option linter.unusedSimpArgs false
set_option linter.unusedVariables false
attribute [local simp] bsV bsRows chunk fillT partsT appV makeV rowsOf cellsOf placeOf
theorem SmL_at : ∀ {l : List Rex}, SmL l → ∀ i (h : i < l.length), Sm l[i]
  | r :: l, hs, 0, _ => hs.1
  | r :: l, hs, i + 1, h => by
    simp only [List.getElem_cons_succ]
    exact SmL_at hs.2 i (by simpa using h)
theorem tc_iRexSame0 (k k2 : Int) (s s2 : List (Int × Int)) (l l2 : List Rex) (hs : Sm (.mk k s l)) (hs2 : Sm (.mk k2 s2 l2)) (ih : ∀ i (h : i < l.length) (b : Rex), Sm b → TC Try.prog 35 [.agg (encRex l[i]), .agg (encRex b)] [] (.val (.bool (bP (l[i] = b)))) []) :
    TC Try.prog 35 [.agg (encRex (.mk k s l)), .agg (encRex (.mk k2 s2 l2))] [] (.val (.bool (bP (Rex.mk k s l = .mk k2 s2 l2)))) [] := by
  have q1 := hs.1
  have q2 := hs2.1
  have q3 := hs.2.1
  have q4 := hs2.2.1
  refine TC.enter Try.func35 rfl (by simp [Try.ntmps35]) rfl (tw_sound (ρ := [2, 3]) ?_)
  rw [Try.ntmps35]
  obtain ⟨R, hR⟩ : ∃ R, bP (Rex.mk k s l = .mk k2 s2 l2) = R := ⟨_, rfl⟩
  have hT : k = k2 → s = s2 → l = l2 → R = true := fun a b c => by rw [← hR]; exact bP_pos (by rw [a, b, c])
  have hF : ¬ (k = k2 ∧ s = s2 ∧ l = l2) → R = false := fun h => by rw [← hR]; exact bP_neg fun e => h (by injection e with a b c; exact ⟨a, b, c⟩)
  rw [hR]
  clear hR
  by_cases hk : k = k2
  case neg =>
    have h2 := hF fun e => hk e.1
    simp [encRex, encRexL_eq, hk, h2]
  simp [encRex, encRexL_eq, hk]
  refine TWoH.callV (tc_sameSpan s s2 (by omega) (by omega)) callable_55 (by simp) (by simp) (by simp) (by simp) ?_
  by_cases hss : s = s2
  case neg =>
    have h2 := hF fun e => hss e.2.1
    simp [hk, bP_neg hss, h2]
  by_cases hlen : l.length = l2.length
  case neg =>
    have h1 : ¬ (l.length : Int) = l2.length := by omega
    have h2 := hF fun e => hlen (by rw [e.2.2])
    simp [hk, bP_pos hss, h1, h2]
  have h1 : (l.length : Int) = l2.length := by omega
  simp [hk, bP_pos hss, h1]
  refine TWcH.loop [2, 3] (fun m st => ∃ i : Nat, i + m = l2.length ∧ l.take i = l2.take i ∧ st.σ 2 = .rptr [.val (.int .i64 k2), .ro (s.map encS), .ro (l.map encRex)] 0 ∧ st.σ 3 = .rptr [.val (.int .i64 k2), .ro (s2.map encS), .ro (l2.map encRex)] 0 ∧ st.σ 30 = .val (.int .i64 l2.length) ∧ st.σ 31 = .val (.int .i64 i)) l2.length ⟨0, by simp⟩ ?_
  rintro m ⟨σ, H⟩ ⟨i, him, ht, h0, h1', h30, h5⟩
  simp only at h0 h1' h30 h5
  by_cases hi : i < l2.length
  case neg =>
    have e : l = l2 := take_all hlen (by omega) ht
    have hi2 : ¬ i < l.length := by omega
    have e2 := hT hk hss e
    simp [h0, h1', h30, h5, hi, hi2, e2]
  have hi2 : i < l.length := by omega
  have hw : IntKind.i64.wrap ((i : Int) + 1) = i + 1 := wrapi (by omega)
  simp [h0, h1', h30, h5, hi, hi2]
  refine TWcH.regionD (ρ := [2, 3]) [0, 1, 2, 3, 4, 5, 6, 7, 8, 9, 10, 11] 12 mixed (by kernel_rfl) ?_
  simp [h0, h1', h30, h5, hi, hi2, getI hi, getI hi2]
  refine TWqH.callV (ih i hi2 l2[i] (SmL_at hs2.2.2 i hi)) callable_35 (by simp [h0, h1', h30, h5]) (by simp) (by simp) (by simp) ?_
  by_cases c : l[i] = l2[i]
  · simp [h0, h1', h30, h5, hi, hi2, hw, bP_pos c]
    exact ⟨m - 1, by omega, i + 1, by omega, take_next hi2 hi ht c, by omega⟩
  · have e := hF fun e => ne_at hi2 hi c e.2.2
    simp [h0, h1', h30, h5, hi, hi2, e, bP_neg c]
mutual
theorem tc_iRexSame : ∀ (a b : Rex), Sm a → Sm b → TC Try.prog 35 [.agg (encRex a), .agg (encRex b)] [] (.val (.bool (bP (a = b)))) []
  | .mk k s l, .mk k2 s2 l2, hs, hs2 => tc_iRexSame0 k k2 s s2 l l2 hs hs2 fun i h b hb => tc_iRexSameL l hs.2.2 i h b hb
theorem tc_iRexSameL : ∀ (l : List Rex), SmL l → ∀ i (h : i < l.length) (b : Rex), Sm b → TC Try.prog 35 [.agg (encRex l[i]), .agg (encRex b)] [] (.val (.bool (bP (l[i] = b)))) []
  | r :: l, hs, 0, _, b, hb => tc_iRexSame r b hs.1 hb
  | r :: l, hs, i + 1, h, b, hb => by
    simp only [List.getElem_cons_succ]
    exact tc_iRexSameL l hs.2 i (by simpa using h) b hb
end
theorem tc_sRexSame0 (k k2 : Int) (s s2 : List (Int × Int)) (l l2 : List Rex) (hs : Sm (.mk k s l)) (hs2 : Sm (.mk k2 s2 l2)) (ih : ∀ i (h : i < l.length) (b : Rex), Sm b → TC Try.prog 36 [.agg (encRex l[i]), .agg (encRex b)] [] (.val (.bool (bP (l[i] = b)))) []) :
    TC Try.prog 36 [.agg (encRex (.mk k s l)), .agg (encRex (.mk k2 s2 l2))] [] (.val (.bool (bP (Rex.mk k s l = .mk k2 s2 l2)))) [] := by
  have q1 := hs.1
  have q2 := hs2.1
  have q3 := hs.2.1
  have q4 := hs2.2.1
  refine TC.enter Try.func36 rfl (by simp [Try.ntmps36]) rfl (tw_sound (ρ := [2, 3]) ?_)
  rw [Try.ntmps36]
  obtain ⟨R, hR⟩ : ∃ R, bP (Rex.mk k s l = .mk k2 s2 l2) = R := ⟨_, rfl⟩
  have hT : k = k2 → s = s2 → l = l2 → R = true := fun a b c => by rw [← hR]; exact bP_pos (by rw [a, b, c])
  have hF : ¬ (k = k2 ∧ s = s2 ∧ l = l2) → R = false := fun h => by rw [← hR]; exact bP_neg fun e => h (by injection e with a b c; exact ⟨a, b, c⟩)
  rw [hR]
  clear hR
  by_cases hk : k = k2
  case neg =>
    have h2 := hF fun e => hk e.1
    simp [encRex, encRexL_eq, hk, h2]
  simp [encRex, encRexL_eq, hk]
  refine TWoH.callV (tc_sSetSame s s2 (by omega) (by omega)) callable_56 (by simp) (by simp) (by simp) (by simp) ?_
  by_cases hss : s = s2
  case neg =>
    have h2 := hF fun e => hss e.2.1
    simp [hk, bP_neg hss, h2]
  by_cases hlen : l.length = l2.length
  case neg =>
    have h1 : ¬ (l.length : Int) = l2.length := by omega
    have h2 := hF fun e => hlen (by rw [e.2.2])
    simp [hk, bP_pos hss, h1, h2]
  have h1 : (l.length : Int) = l2.length := by omega
  simp [hk, bP_pos hss, h1]
  refine TWcH.loop [2, 3] (fun m st => ∃ i : Nat, i + m = l2.length ∧ l.take i = l2.take i ∧ st.σ 2 = .rptr [.val (.int .i64 k2), .ro (s.map encS), .ro (l.map encRex)] 0 ∧ st.σ 3 = .rptr [.val (.int .i64 k2), .ro (s2.map encS), .ro (l2.map encRex)] 0 ∧ st.σ 5 = .val (.int .i64 i)) l2.length ⟨0, by simp⟩ ?_
  rintro m ⟨σ, H⟩ ⟨i, him, ht, h0, h1', h5⟩
  simp only at h0 h1' h5
  by_cases hi : i < l2.length
  case neg =>
    have e : l = l2 := take_all hlen (by omega) ht
    have hi2 : ¬ i < l.length := by omega
    have e2 := hT hk hss e
    simp [h0, h1', h5, hi, hi2, e2]
  have hi2 : i < l.length := by omega
  have hw : IntKind.i64.wrap ((i : Int) + 1) = i + 1 := wrapi (by omega)
  simp [h0, h1', h5, hi, hi2]
  refine TWcH.regionD (ρ := [2, 3]) [0, 1, 2, 3, 4, 5, 6, 7, 8, 9, 10, 11] 12 mixed (by kernel_rfl) ?_
  simp [h0, h1', h5, hi, hi2, getI hi, getI hi2]
  refine TWqH.callV (ih i hi2 l2[i] (SmL_at hs2.2.2 i hi)) callable_36 (by simp [h0, h1', h5]) (by simp) (by simp) (by simp) ?_
  by_cases c : l[i] = l2[i]
  · simp [h0, h1', h5, hi, hi2, hw, bP_pos c]
    exact ⟨m - 1, by omega, i + 1, by omega, take_next hi2 hi ht c, by omega⟩
  · have e := hF fun e => ne_at hi2 hi c e.2.2
    simp [h0, h1', h5, hi, hi2, e, bP_neg c]
mutual
theorem tc_sRexSame : ∀ (a b : Rex), Sm a → Sm b → TC Try.prog 36 [.agg (encRex a), .agg (encRex b)] [] (.val (.bool (bP (a = b)))) []
  | .mk k s l, .mk k2 s2 l2, hs, hs2 => tc_sRexSame0 k k2 s s2 l l2 hs hs2 fun i h b hb => tc_sRexSameL l hs.2.2 i h b hb
theorem tc_sRexSameL : ∀ (l : List Rex), SmL l → ∀ i (h : i < l.length) (b : Rex), Sm b → TC Try.prog 36 [.agg (encRex l[i]), .agg (encRex b)] [] (.val (.bool (bP (l[i] = b)))) []
  | r :: l, hs, 0, _, b, hb => tc_sRexSame r b hs.1 hb
  | r :: l, hs, i + 1, h, b, hb => by
    simp only [List.getElem_cons_succ]
    exact tc_sRexSameL l hs.2 i (by simpa using h) b hb
end
theorem tc_iRulesSame (a b : List Rule) (ha : RSm a) (hb : RSm b) : TC Try.prog 15 [.ro (a.map encRule), .ro (b.map encRule)] [] (.val (.bool (bP (a = b)))) [] := by
  have q1 := ha.1
  have q2 := hb.1
  refine TC.enter Try.func15 rfl (by simp [Try.ntmps15]) rfl (tw_sound (ρ := []) ?_)
  rw [Try.ntmps15]
  by_cases hlen : a.length = b.length
  case neg =>
    have h1 : ¬ (a.length : Int) = b.length := by omega
    have h2 : ¬ a = b := fun e => hlen (by rw [e])
    simp [h1, bP_neg h2]
  have h1 : (a.length : Int) = b.length := by omega
  simp [h1]
  refine TWcH.loop [] (fun m st => ∃ i : Nat, i + m = b.length ∧ a.take i = b.take i ∧ st.σ 0 = .ro (a.map encRule) ∧ st.σ 1 = .ro (b.map encRule) ∧ st.σ 12 = .val (.int .i64 b.length) ∧ st.σ 13 = .val (.int .i64 i)) b.length ⟨0, by simp⟩ ?_
  rintro m ⟨σ, H⟩ ⟨i, him, ht, h0, h1', h12, h5⟩
  simp only at h0 h1' h12 h5
  by_cases hi : i < b.length
  case neg =>
    have e : a = b := take_all hlen (by omega) ht
    have hi2 : ¬ i < a.length := by omega
    simp [h0, h1', h12, h5, hi, hi2, bP_pos e]
  have hi2 : i < a.length := by omega
  have hw : IntKind.i64.wrap ((i : Int) + 1) = i + 1 := wrapi (by omega)
  simp [h0, h1', h12, h5, hi, hi2]
  refine TWcH.regionD (ρ := []) [0, 1, 2, 3, 4, 5, 6, 7, 8, 9, 10, 11, 12, 13, 14, 15, 16, 17, 18, 19, 20, 21, 22, 23, 24] 25 mixed (by kernel_rfl) ?_
  obtain ⟨x, hx⟩ : ∃ x, ∀ h, a[i]'h = x := ⟨a[i], fun _ => rfl⟩
  obtain ⟨y, hy⟩ : ∃ y, ∀ h, b[i]'h = y := ⟨b[i], fun _ => rfl⟩
  have sx : Sm x.rex := by rw [← hx hi2]; exact (ha.2 _ (List.getElem_mem hi2)).1
  have sy : Sm y.rex := by rw [← hy hi]; exact (hb.2 _ (List.getElem_mem hi)).1
  simp [h0, h1', h12, h5, hi, hi2, getI hi, getI hi2, hx, hy, encRule]
  obtain ⟨xn, xr⟩ := x
  obtain ⟨yn, yr⟩ := y
  by_cases c1 : xn = yn
  case neg =>
    have e : ¬ a = b := ne_at hi2 hi (by rw [hx, hy]; exact fun e => c1 (by injection e))
    simp [h0, h1', h12, h5, hi, hi2, c1, bP_neg e]
  simp [h0, h1', h12, h5, hi, hi2, getI hi, getI hi2, hx, hy, encRule, c1]
  refine TWqH.callV (tc_iRexSame xr yr sx sy) callable_35 (by simp [h0, h1', h12, h5]) (by simp) (by simp) (by simp) ?_
  by_cases c2 : xr = yr
  · simp [h0, h1', h12, h5, hi, hi2, hw, bP_pos c2]
    exact ⟨m - 1, by omega, i + 1, by omega, take_next hi2 hi ht (by rw [hx, hy, c1, c2]), by omega⟩
  · have e : ¬ a = b := ne_at hi2 hi (by rw [hx, hy]; exact fun e => c2 (by injection e))
    simp [h0, h1', h12, h5, hi, hi2, bP_neg e, bP_neg c2]
theorem tc_sRulesSame (a b : List Rule) (ha : RSm a) (hb : RSm b) : TC Try.prog 16 [.ro (a.map encRule), .ro (b.map encRule)] [] (.val (.bool (bP (a = b)))) [] := by
  have q1 := ha.1
  have q2 := hb.1
  refine TC.enter Try.func16 rfl (by simp [Try.ntmps16]) rfl (tw_sound (ρ := []) ?_)
  rw [Try.ntmps16]
  by_cases hlen : a.length = b.length
  case neg =>
    have h1 : ¬ (a.length : Int) = b.length := by omega
    have h2 : ¬ a = b := fun e => hlen (by rw [e])
    simp [h1, bP_neg h2]
  have h1 : (a.length : Int) = b.length := by omega
  simp [h1]
  refine TWcH.loop [] (fun m st => ∃ i : Nat, i + m = b.length ∧ a.take i = b.take i ∧ st.σ 0 = .ro (a.map encRule) ∧ st.σ 1 = .ro (b.map encRule) ∧ st.σ 5 = .val (.int .i64 i)) b.length ⟨0, by simp⟩ ?_
  rintro m ⟨σ, H⟩ ⟨i, him, ht, h0, h1', h5⟩
  simp only at h0 h1' h5
  by_cases hi : i < b.length
  case neg =>
    have e : a = b := take_all hlen (by omega) ht
    have hi2 : ¬ i < a.length := by omega
    simp [h0, h1', h5, hi, hi2, bP_pos e]
  have hi2 : i < a.length := by omega
  have hw : IntKind.i64.wrap ((i : Int) + 1) = i + 1 := wrapi (by omega)
  simp [h0, h1', h5, hi, hi2]
  refine TWcH.regionD (ρ := []) [0, 1, 2, 3, 4, 5, 6, 7, 8, 9, 10, 11, 12, 13, 14, 15, 16, 17, 18, 19, 20, 21, 22, 23, 24] 25 mixed (by kernel_rfl) ?_
  obtain ⟨x, hx⟩ : ∃ x, ∀ h, a[i]'h = x := ⟨a[i], fun _ => rfl⟩
  obtain ⟨y, hy⟩ : ∃ y, ∀ h, b[i]'h = y := ⟨b[i], fun _ => rfl⟩
  have sx : Sm x.rex := by rw [← hx hi2]; exact (ha.2 _ (List.getElem_mem hi2)).1
  have sy : Sm y.rex := by rw [← hy hi]; exact (hb.2 _ (List.getElem_mem hi)).1
  simp [h0, h1', h5, hi, hi2, getI hi, getI hi2, hx, hy, encRule]
  obtain ⟨xn, xr⟩ := x
  obtain ⟨yn, yr⟩ := y
  by_cases c1 : xn = yn
  case neg =>
    have e : ¬ a = b := ne_at hi2 hi (by rw [hx, hy]; exact fun e => c1 (by injection e))
    simp [h0, h1', h5, hi, hi2, c1, bP_neg e]
  simp [h0, h1', h5, hi, hi2, getI hi, getI hi2, hx, hy, encRule, c1]
  refine TWqH.callV (tc_sRexSame xr yr sx sy) callable_36 (by simp [h0, h1', h5]) (by simp) (by simp) (by simp) ?_
  by_cases c2 : xr = yr
  · simp [h0, h1', h5, hi, hi2, hw, bP_pos c2]
    exact ⟨m - 1, by omega, i + 1, by omega, take_next hi2 hi ht (by rw [hx, hy, c1, c2]), by omega⟩
  · have e : ¬ a = b := ne_at hi2 hi (by rw [hx, hy]; exact fun e => c2 (by injection e))
    simp [h0, h1', h5, hi, hi2, bP_neg e, bP_neg c2]
end Go.Proofs.Ythmifhkbbbchaaa.R

open Go Go.Proofs.Ythmifhkbbbchaaa.T
namespace Go.Proofs.Ythmifhkbbbchaaa.R
set_option maxHeartbeats 4000000
set_option maxRecDepth 100000
set_option linter.unusedSimpArgs false
set_option linter.unusedVariables false
attribute [local simp] bsV bsRows chunk fillT partsT appV makeV rowsOf cellsOf placeOf frzT frz1
/-- What the number of the first rule says. -/
theorem firstF_says (l : List Rule) (t : List UInt8) : ∀ (k i : Nat), i + k = l.length → (firstF l t i = -1 ∧ ∀ j (h : j < l.length), i ≤ j → isF 8 l[j].rex t = false) ∨ (∃ n : Nat, firstF l t i = n ∧ i ≤ n ∧ ∃ h : n < l.length, isF 8 l[n].rex t = true ∧ ∀ j (h : j < l.length), i ≤ j → j < n → isF 8 l[j].rex t = false)
  | 0, i, hk => .inl ⟨firstF_end (by omega), fun j h h2 => by omega⟩
  | k + 1, i, hk => by
    have hi : i < l.length := by omega
    rw [firstF_next hi]
    cases c : isF 8 l[i].rex t
    · rw [if_neg (by simp)]
      rcases firstF_says l t k (i + 1) (by omega) with ⟨h1, h2⟩ | ⟨n, h1, h2, h3, h4, h5⟩
      · refine .inl ⟨h1, fun j h h3 => ?_⟩
        by_cases e : i = j
        · subst e; exact c
        · exact h2 j h (by omega)
      · refine .inr ⟨n, h1, by omega, h3, h4, fun j h h6 h7 => ?_⟩
        by_cases e : i = j
        · subst e; exact c
        · exact h5 j h (by omega) h7
    · rw [if_pos rfl]
      exact .inr ⟨i, rfl, by omega, hi, c, fun j h h1 h2 => by omega⟩
theorem matchIs_of {l : List Rule} {t : List UInt8} (hr : rulesOk l = true) (ht : t.length ≤ 12) {i : Nat} (hi : i < l.length) : matchIs l[i].rex t = isF 8 l[i].rex t := by
  have h1 : rexOk l[i].rex = true := by
    simp only [rulesOk, okFrom, Bool.and_eq_true, List.all_eq_true, List.mem_range'_1] at hr
    have h1 := hr.2 i (by omega)
    simp only [ruleAt, getI hi, Bool.and_eq_true] at h1
    exact h1.1.2
  simp [matchIs, h1, ht]
theorem tc_FnRulesFirst (b : List UInt8) : TC Try.prog 4 [.ro (b.map encU)] [] (.val (.bool true)) [] := by
  refine TC.enter Try.func4 rfl (by simp [Try.ntmps4]) rfl (tw_sound (ρ := []) ?_)
  rw [Try.ntmps4]
  by_cases hb0 : (1048576 : Int) < b.length
  · simp [hb0]
  have hb : b.length ≤ 1048576 := by omega
  simp [hb0]
  refine TWoH.callR (tcr_DrawRulesFirst b hb) callable_6 (by simp) ?_
  rintro r o ⟨l, w, rfl, hl, hw, hwb, rfl⟩
  have hnl := noHR_rule l
  refine ⟨rfl, by simp [hnl], .inl (by simp), fun q hq => ?_⟩
  clear hq
  have hroo : roRows (l.map encRule) = l.map encRule := by simp
  simp
  refine TWoH.callV (tc_iRulesFirst l w hl.sm) callable_8 (by simp [hnl, hroo]) (by simp) (by simp) (by simp) ?_
  simp
  refine TWoH.callR (tcr_DrawRulesSame b hb) callable_14 (by simp) ?_
  rintro r o ⟨m1, m2, rfl, hm1, hm2, rfl⟩
  have hn1 := noHR_rule m1
  have hn2 := noHR_rule m2
  refine ⟨rfl, by simp [hn1, hn2], .inl (by simp), fun q2 hq2 => ?_⟩
  have f2 := frF_ge hq2 [q] (by simp)
  have f3 := frF_of (hq2 (q2 + 1) (by omega)) [q] (by simp)
  clear hq2
  simp [frF] at f2 f3
  have f4 : ¬ q2 = q2 + 1 := by omega
  have f5 : ¬ q2 + 1 = q2 := by omega
  have hro1 : roRows (m1.map encRule) = m1.map encRule := by simp
  have hro2 : roRows (m2.map encRule) = m2.map encRule := by simp
  simp [f2, f3, f4, f5]
  refine TWoH.callV (tc_sRulesFirst l w hl.sm) callable_9 (by simp [f2, f3, f4, f5, hnl, hroo]) (by simp) (by simp) (by simp) ?_
  simp [f2, f3, f4, f5]
  refine TWoH.callV (tc_iRulesSame m1 m2 hm1.sm hm2.sm) callable_15 (by simp [f2, f3, f4, f5, hn1, hn2, hro1, hro2]) (by simp) (by simp) (by simp) ?_
  simp [f2, f3, f4, f5]
  refine TWoH.callV (tc_sRulesSame m1 m2 hm1.sm hm2.sm) callable_16 (by simp [f2, f3, f4, f5, hn1, hn2, hro1, hro2]) (by simp) (by simp) (by simp) ?_
  simp [f2, f3, f4, f5]
  refine TWoH.callV (tc_iRulesSame m1 m1 hm1.sm hm1.sm) callable_15 (by simp [f2, f3, f4, f5, hn1, hn2, hro1, hro2]) (by simp) (by simp) (by simp) ?_
  have e0 : bP (m1 = m1) = true := bP_pos rfl
  simp [f2, f3, f4, f5, e0]
  refine TWoH.callV (tc_sRulesOk l hl.sm) callable_10 (by simp [f2, f3, f4, f5, hnl, hroo]) (by simp) (by simp) (by simp) ?_
  cases hok : rulesOk l
  · simp [f2, f3, f4, f5, rulesFirst, hok]
  have hlen := hl.2
  have hn : rulesFirst l w = firstF l w 0 := by unfold rulesFirst; rw [if_pos ⟨hok, by omega⟩]
  have hsay := firstF_says l w l.length 0 (by omega)
  rw [← hn] at hsay
  obtain ⟨n, hn2⟩ : ∃ n, rulesFirst l w = n := ⟨_, rfl⟩
  rw [hn2] at hsay
  simp [f2, f3, f4, f5, hn2]
  refine TWcH.loop [] (fun m st => ∃ i : Nat, i + m = l.length ∧ st.σ 3 = .hd q ∧ st.H q = some (.own 35 (l.map encRule)) ∧ st.σ 4 = .val (.string (bs w)) ∧ st.σ 5 = .val (.int .i64 n) ∧ st.σ 8 = .val (.int .i64 i)) l.length ⟨0, by simp [f2, f3, f4, f5]⟩ ?_
  rintro m ⟨σ, H⟩ ⟨i, him, h3, hH, h4, h5, h8⟩
  simp only at h3 hH h4 h5 h8
  by_cases hi : i < l.length
  case neg =>
    have hn1 : -1 ≤ n ∧ n < l.length := by rcases hsay with ⟨h, _⟩ | ⟨k, h1, _, h2, _⟩ <;> omega
    simp [h3, hH, h4, h5, h8, hi, hn1.1, hn1.2]
  have hw8 : IntKind.i64.wrap ((i : Int) + 1) = i + 1 := wrapi (by omega)
  obtain ⟨⟨xn, ⟨xk, xs, xl⟩⟩, hx⟩ : ∃ x, ∀ h, l[i]'h = x := ⟨l[i], fun _ => rfl⟩
  have sx : Sm (.mk xk xs xl) := by have := (hl.1 _ (List.getElem_mem hi)).1; rw [hx] at this; exact this
  have hm := matchIs_of hok (t := w) (by omega) hi
  have hf1 : (i : Int) = n → isF 8 l[i].rex w = true := by
    rcases hsay with ⟨h, _⟩ | ⟨k, h1, _, h2, h3, _⟩
    · intro e; omega
    · intro e; obtain rfl : k = i := by omega
      exact h3
  have hf2 : n < 0 ∨ (i : Int) < n → isF 8 l[i].rex w = false := by
    rcases hsay with ⟨h, h1⟩ | ⟨k, h1, _, h2, _, h3⟩
    · intro _; exact h1 i hi (by omega)
    · intro e; exact h3 i hi (by omega) (by omega)
  rw [hx] at hm hf1 hf2
  simp only at hm hf1 hf2
  simp [h3, hH, h4, h5, h8, hi, getI hi, hx, encRule, encRex]
  refine TWoH.callV (tc_iMatchIs (.mk xk xs xl) w sx) callable_13 (by simp [h4, encRex, noHR_rex]) (by simp) (by simp) (by simp) ?_
  rw [hm]
  cases c : isF 8 (.mk xk xs xl) w
  · have g1 : ¬ (i : Int) = n := fun e => by rw [hf1 e] at c; cases c
    simp [h3, hH, h4, h5, h8, hi, c, g1, hw8]
    exact ⟨m - 1, by omega, i + 1, by omega, rfl⟩
  · have g2 : ¬ (n < 0 ∨ (i : Int) < n) := fun e => by rw [hf2 e] at c; cases c
    have g3 : ¬ n < 0 := fun e => g2 (.inl e)
    have g4 : ¬ (i : Int) < n := fun e => g2 (.inr e)
    by_cases g1 : (i : Int) = n
    · simp [h3, hH, h4, h5, h8, hi, c, g1, g3, hw8]
      exact ⟨m - 1, by omega, i + 1, by omega, by simp [← g1, hw8]⟩
    · simp [h3, hH, h4, h5, h8, hi, c, g1, g3, g4, hw8]
      exact ⟨m - 1, by omega, i + 1, by omega, rfl⟩
end Go.Proofs.Ythmifhkbbbchaaa.R

open Go Go.Proofs.Ythmifhkbbbchaaa.T
namespace Go.Proofs.Ythmifhkbbbchaaa.R
theorem rdByte (n : Nat) : RdT Try.prog n 5 encU (fun _ => True) := by
  refine (RdT.int (k := .u8) n Try.underlying5).iso (fun x => UInt8.ofNat x.toNat) fun x hx => ⟨?_, trivial⟩
  have e1 : IntKind.u8.signed = false := rfl
  have e2 : IntKind.u8.bits = 8 := rfl
  simp [Lit.wf, IntKind.min, IntKind.max, e1, e2] at hx
  simp only [encU]
  have : ((UInt8.ofNat x.toNat).toNat : Int) = x := by
    rw [UInt8.toNat_ofNat']
    omega
  rw [this]
theorem rdBytes (n : Nat) : RdT Try.prog n 22 (fun l : List UInt8 => [.ro (l.map encU)]) (fun _ => True) := by
  exact ((RdT.slice (b := 1) (rdByte n) Try.underlying22 (by kernel_rfl)).le (Nat.le_succ n)).imp fun x hx => trivial
end Go.Proofs.Ythmifhkbbbchaaa.R

open Go Go.Proofs.Ythmifhkbbbchaaa.T
namespace Go.Proofs.Ythmifhkbbbchaaa.R
set_option maxHeartbeats 4000000
set_option maxRecDepth 100000
set_option linter.unusedSimpArgs false
set_option linter.unusedVariables false
attribute [local simp] bsV bsRows chunk fillT partsT appV makeV rowsOf cellsOf placeOf frzT frz1
theorem rulesOk_iff (l : List Rule) : rulesOk l = true ↔ (1 ≤ l.length ∧ l.length ≤ 5) ∧ ∀ i (h : i < l.length), wordOk l[i].name = true ∧ rexOk l[i].rex = true ∧ ∀ j (h2 : j < i), ¬ l[j].name = l[i].name := by
  simp only [rulesOk, okFrom, Bool.and_eq_true, decide_eq_true_eq, List.all_eq_true, List.mem_range'_1]
  refine and_congr Iff.rfl ⟨fun h i hi => ?_, fun h i hi => ?_⟩
  · have h1 := h i (by omega)
    simp only [ruleAt, getI hi, Bool.and_eq_true, newN, List.all_eq_true, List.mem_range'_1, decide_eq_true_eq] at h1
    refine ⟨h1.1.1, h1.1.2, fun j hj => ?_⟩
    have h2 := h1.2 j (by omega)
    simpa [nm, getI hi, getI (show j < l.length by omega)] using h2
  · have hi : i < l.length := by omega
    obtain ⟨h1, h2, h3⟩ := h i hi
    simp only [ruleAt, getI hi, Bool.and_eq_true, newN, List.all_eq_true, List.mem_range'_1, decide_eq_true_eq]
    refine ⟨⟨h1, h2⟩, fun j hj => ?_⟩
    have h4 := h3 j (by omega)
    simpa [nm, getI hi, getI (show j < l.length by omega)] using h4
theorem rulesOk_more {l : List Rule} {e : Rule} (h : rulesOk l = true) (h5 : ¬ l.length = 5) (hw : wordOk e.name = true) (hr : rexOk e.rex = true) (hn : ∀ x ∈ l, ¬ x.name = e.name) : rulesOk (l ++ [e]) = true := by
  rw [rulesOk_iff] at h ⊢
  refine ⟨by simp; omega, fun i hi => ?_⟩
  simp only [List.length_append, List.length_cons, List.length_nil] at hi
  by_cases hil : i < l.length
  · simp only [List.getElem_append_left hil]
    obtain ⟨h1, h2, h3⟩ := h.2 i hil
    refine ⟨h1, h2, fun j hj => ?_⟩
    rw [List.getElem_append_left (by omega)]
    exact h3 j hj
  · obtain rfl : i = l.length := by omega
    simp only [List.getElem_concat_length]
    refine ⟨hw, hr, fun j hj => ?_⟩
    rw [List.getElem_append_left hj]
    exact hn _ (List.getElem_mem hj)
theorem firstF_app (l : List Rule) (e : Rule) (t : List UInt8) : ∀ (k i : Nat), i + k = l.length → firstF (l ++ [e]) t i = if firstF l t i < 0 then (if isF 8 e.rex t = true then (l.length : Int) else -1) else firstF l t i
  | 0, i, hk => by
    obtain rfl : i = l.length := by omega
    rw [firstF_next (by simp), firstF_end (l := l) (by omega), firstF_end (by simp)]
    simp
  | k + 1, i, hk => by
    have hi : i < l.length := by omega
    rw [firstF_next (show i < (l ++ [e]).length by simp; omega), firstF_next hi, List.getElem_append_left hi, firstF_app l e t k (i + 1) (by omega)]
    by_cases c : isF 8 l[i].rex t = true
    · rw [if_pos c, if_pos c, if_neg (by omega)]
    · rw [if_neg c, if_neg c]

theorem RNB_zz {n : List UInt8} (h : n ∈ RNB) : ¬ n = [122, 122] := by
  simp only [RNB, RN, List.mem_append, List.mem_cons, List.not_mem_nil, or_false] at h
  rcases h with (h | h | h | h | h) | h | h | h <;> subst h <;> simp
def zz : List UInt8 := [122, 122]
/-- With one more rule behind. -/
def MoreM (l : List Rule) (w : List UInt8) (x : Rex) (n : Int) (q c : Nat) (st : St) : Prop := ∃ i, st.σ 9 = .hd i ∧ st.σ 5 = .hd q ∧ st.H q = some (.own 35 (l.map encRule)) ∧ st.σ 6 = .val (.string (bs w)) ∧ st.σ 7 = .pd c 0 0 0 ∧ st.H c = some (.box 29 (encRex x)) ∧ st.σ 8 = .val (.int .i64 n) ∧
   st.H i = some (.own 35 ((l ++ [Rule.mk zz x]).map encRule)) ∧ ¬ q = c ∧ ¬ i = q ∧ ¬ i = c
def MoreN (l lX : List Rule) (w : List UInt8) (x y : Rex) (n m : Int) (q c i : Nat) (st : St) : Prop := ∃ k, st.σ 11 = .hd k ∧ st.σ 5 = .hd q ∧ st.H q = some (.own 35 (l.map encRule)) ∧ st.σ 6 = .val (.string (bs w)) ∧ st.σ 7 = .pd c 0 0 0 ∧ st.H c = some (.box 29 (encRex x)) ∧ st.σ 8 = .val (.int .i64 n) ∧
  st.σ 9 = .hd i ∧ st.H i = some (.own 35 (lX.map encRule)) ∧ st.σ 10 = .val (.int .i64 m) ∧ st.H k = some (.own 35 ((l ++ [Rule.mk zz y]).map encRule)) ∧ ¬ k = q ∧ ¬ k = c ∧ ¬ k = i
theorem tc_FnRulesMore (b b2 : List UInt8) : TC Try.prog 3 [.ro (b.map encU), .ro (b2.map encU)] [] (.val (.bool true)) [] := by
  refine TC.enter Try.func3 rfl (by simp [Try.ntmps3]) rfl (tw_sound (ρ := []) ?_)
  rw [Try.ntmps3]
  by_cases hb0 : (1048576 : Int) < b.length
  · simp [hb0]
  have hb : b.length ≤ 1048576 := by omega
  by_cases hb1 : (1048576 : Int) < b2.length
  · simp [hb0, hb1]
  have hb2 : b2.length ≤ 1048576 := by omega
  simp [hb0, hb1]
  refine TWoH.callR (tcr_DrawRulesFirst b hb) callable_6 (by simp) ?_
  rintro r o ⟨l, w, rfl, hl, hw, hwb, rfl⟩
  have hnl := noHR_rule l
  refine ⟨rfl, by simp [hnl], .inl (by simp), fun q hq => ?_⟩
  clear hq
  have hroo : roRows (l.map encRule) = l.map encRule := by simp
  simp
  refine TWoH.callR (tcr_DrawRexOk b2 hb2) callable_7 (by simp) ?_
  rintro r o ⟨⟨xk, xs, xl⟩, rfl, hx, rfl⟩
  refine ⟨rfl, by simp [encRex, noHR_rex], .inl (by simp), fun q2 hq2 => ?_⟩
  clear hq2
  simp [encRex]
  refine gall_fresh [q] (by simp) fun c fc => ?_
  simp [frF] at fc
  simp [fc]
  refine TWoH.callV (tc_iRulesFirst l w hl.sm) callable_8 (by simp [fc, hnl, hroo]) (by simp) (by simp) (by simp) ?_
  simp [fc]
  refine TWoH.callV (tc_sRulesFirst l w hl.sm) callable_9 (by simp [fc, hnl, hroo]) (by simp) (by simp) (by simp) ?_
  simp [fc]
  refine TWoH.callV (tc_sRulesOk l hl.sm) callable_10 (by simp [fc, hnl, hroo]) (by simp) (by simp) (by simp) ?_
  have fin : ∀ {A : Prop}, A → A := fun a => a
  cases hok : rulesOk l
  · simp [fc]
    refine TWoH.callV (tc_sRulesFirst l w hl.sm) callable_9 (by simp [fc, hnl, hroo]) (by simp) (by simp) (by simp) ?_
    simp [fc]
  by_cases h5 : l.length = 5
  · have h5' : (l.length : Int) = 5 := by omega
    simp [fc, h5']
    refine TWoH.callV (tc_sRulesFirst l w hl.sm) callable_9 (by simp [fc, hnl, hroo]) (by simp) (by simp) (by simp) ?_
    simp [fc]
  have h5' : ¬ (l.length : Int) = 5 := by omega
  simp [fc, h5']
  refine TWoH.callV (tc_sRexOk (.mk xk xs xl) hx) callable_11 (by simp [fc, encRex, noHR_rex]) (by simp) (by simp) (by simp) ?_
  cases hrx : rexOk (.mk xk xs xl)
  · simp [fc]
    refine TWoH.callV (tc_sRulesFirst l w hl.sm) callable_9 (by simp [fc, hnl, hroo]) (by simp) (by simp) (by simp) ?_
    simp [fc]
  simp [fc]
  have hlen := hl.2
  have k1 : (l.length + 1) * 72 ≤ 140737488355328 := by omega
  have k2 : l.length ≤ 9223372036854775806 := by omega
  have k3 : l.length * 72 ≤ 140737488355328 := by omega
  have k4 : l.length ≤ 9223372036854775807 := by omega
  refine TWcH.midB (ρ := []) (MoreM l w (.mk xk xs xl) (rulesFirst l w) q c) (.first 1 (.pick 0 (.pick 2 (.pick 3 (.first 4 (.pick 5 (.pick 6 (.first 7 .fin) .fin) .fin)) .fin) (.pick 3 (.first 4 (.pick 2 (.pick 5 (.pick 6 (.first 7 .fin) .fin) .fin) (.pick 5 (.pick 2 (.pick 6 (.first 7 .fin) .fin) .fin) .fin))) .fin)) (.pick 3 (.first 4 (.pick 0 (.pick 2 (.pick 5 (.pick 6 (.first 7 .fin) .fin) .fin) (.pick 5 (.pick 2 (.pick 6 (.first 7 .fin) .fin) .fin) .fin)) (.pick 5 (.pick 0 (.pick 2 (.pick 6 (.first 7 .fin) .fin) .fin) .fin) .fin))) .fin))) mixed (by kernel_rfl) ?_ ?_
  · have fq := fc.2
    have fc1 := fc.1
    simp [k1, k2, k3, k4, fc]
    clear fc hb0 hb1
    repeat' first
      | refine And.intro ?_ ?_
      | refine gif_intro (fun _ => ?_) (fun e => absurd (by simp [*]) e)
      | (refine gall_intro fun i g => ?_
         have g2 := g
         have g3 := frF_of g [q, c] (by simp [delo, del, *])
         simp [frF] at g3
         (try simp [upd_none_iff, delo, del] at g)
         (try simp [upd_none_iff', delo, del] at g2)
         simp [delo, del, *])
      | (refine ⟨_, rfl, ?_⟩
         refine ⟨by simp, by simp [delo, del, *], by simp, by simp, by simp [delo, del, encRex, *], by simp, by simp [delo, del, encRule, encRex, zz, *], by simp [*], by simp [*], by simp [*]⟩)
  rintro ⟨σ, H⟩ ⟨i, h9, h5q, hQ, h6, h7, hC, h8, hI, n1, n2, n3⟩
  simp only at h9 h5q hQ h6 h7 hC h8 hI
  have hzn : ∀ x ∈ l, ¬ x.name = zz := fun x hx => RNB_zz (hl.1 x hx).2
  have hX1 : rulesOk (l ++ [Rule.mk zz (.mk xk xs xl)]) = true := rulesOk_more hok h5 (show wordOk zz = true by decide) hrx hzn
  have hXs : RSm (l ++ [Rule.mk zz (.mk xk xs xl)]) := ⟨by simp; omega, fun r hr => by
    rcases List.mem_append.1 hr with hr | hr
    · exact hl.sm.2 r hr
    · simp only [List.mem_singleton] at hr; subst hr; exact ⟨hx, by simp [zz]⟩⟩
  have hnX := noHR_rule (l ++ [Rule.mk zz (.mk xk xs xl)])
  have hrX : roRows ((l ++ [Rule.mk zz (.mk xk xs xl)]).map encRule) = (l ++ [Rule.mk zz (.mk xk xs xl)]).map encRule := roRows_rules _
  have hne : 1 ≤ l.length := ((rulesOk_iff l).1 hok).1.1
  obtain ⟨⟨yn, ⟨yk, ys, yl⟩⟩, l2, hyl⟩ : ∃ y l2, l = y :: l2 := by
    cases l with
    | nil => simp at hne
    | cons y l2 => exact ⟨y, l2, rfl⟩
  have hyr : rexOk (.mk yk ys yl) = true := by
    have := (((rulesOk_iff l).1 hok).2 0 (by omega)).2.1
    subst hyl; exact this
  have hys : Sm (.mk yk ys yl) := (hl.1 ⟨yn, .mk yk ys yl⟩ (by rw [hyl]; simp)).1
  have hY1 : rulesOk (l ++ [Rule.mk zz (.mk yk ys yl)]) = true := rulesOk_more hok h5 (show wordOk zz = true by decide) hyr hzn
  have hYs : RSm (l ++ [Rule.mk zz (.mk yk ys yl)]) := ⟨by simp; omega, fun r hr => by
    rcases List.mem_append.1 hr with hr | hr
    · exact hl.sm.2 r hr
    · simp only [List.mem_singleton] at hr; subst hr; exact ⟨hys, by simp [zz]⟩⟩
  have hnY := noHR_rule (l ++ [Rule.mk zz (.mk yk ys yl)])
  have hrY : roRows ((l ++ [Rule.mk zz (.mk yk ys yl)]).map encRule) = (l ++ [Rule.mk zz (.mk yk ys yl)]).map encRule := roRows_rules _
  have n1' : ¬ c = q := fun e => n1 e.symm
  have n2' : ¬ q = i := fun e => n2 e.symm
  have n3' : ¬ c = i := fun e => n3 e.symm
  obtain ⟨lX, hlX⟩ : ∃ x, x = l ++ [Rule.mk zz (.mk xk xs xl)] := ⟨_, rfl⟩
  rw [← hlX] at hI hX1 hXs hnX hrX
  simp [h9, h5q, hQ, h6, h7, hC, h8, hI]
  refine TWoH.callV (tc_iRulesFirst lX w hXs) callable_8 (by simp [h9, h6, hI, hnX, hrX]) (by simp) (by simp) (by simp) ?_
  simp [h9, h5q, hQ, h6, h7, hC, h8, hI]
  refine TWcH.midB (ρ := []) (MoreN l lX w (.mk xk xs xl) (.mk yk ys yl) (rulesFirst l w) (rulesFirst lX w) q c i) (.first 1 (.first 3 (.first 4 (.first 5 (.pick 0 (.pick 2 (.pick 6 (.first 7 (.pick 8 (.pick 9 (.first 10 .fin) .fin) .fin)) .fin) (.pick 6 (.first 7 (.pick 2 (.pick 8 (.pick 9 (.first 10 .fin) .fin) .fin) (.pick 8 (.pick 2 (.pick 9 (.first 10 .fin) .fin) .fin) .fin))) .fin)) (.pick 6 (.first 7 (.pick 0 (.pick 2 (.pick 8 (.pick 9 (.first 10 .fin) .fin) .fin) (.pick 8 (.pick 2 (.pick 9 (.first 10 .fin) .fin) .fin) .fin)) (.pick 8 (.pick 0 (.pick 2 (.pick 9 (.first 10 .fin) .fin) .fin) .fin) .fin))) .fin)))))) mixed (by kernel_rfl) ?_ ?_
  · have hl0 : ∀ h, l[0]'h = ⟨yn, .mk yk ys yl⟩ := fun _ => by subst hyl; rfl
    have p0 : 0 < l.length := by omega
    have p1 : (0 : Int) < l.length := by omega
    clear hyl
    generalize rulesFirst l w = n at *
    generalize rulesFirst lX w = m at *
    simp [k1, k2, k3, k4, h9, h5q, hQ, h6, h7, hC, h8, hI, p0, p1, hl0, encRule, encRex]
    clear hb hb2 hok hlen hl hw hwb hnl hroo hX1 hXs hY1 hYs hnX hrX hnY hrY hyr hys hzn h5 h5' hne fin fc hx hrx
    clear hlX
    repeat' first
      | refine And.intro ?_ ?_
      | refine gif_intro (fun _ => ?_) (fun e => absurd (by simp [*]) e)
      | (refine gall_intro fun v g => ?_
         have g2 := g
         have g3 := frF_of g [q, c, i] (by simp [delo, del, *])
         simp only [frF, and_true] at g3
         (try simp only [delo, del, upd_at, upd_none_iff] at g)
         (try simp only [delo, del, upd_at, upd_none_iff'] at g2)
         simp [delo, del, encRule, encRex, *])
      | (refine ⟨_, rfl, ?_⟩
         refine ⟨by simp [*], by simp [delo, del, *], by simp [*], by simp [*], by simp [delo, del, encRex, *], by simp [*], by simp [*], by simp [delo, del, *], by simp [*], by simp [delo, del, encRule, encRex, zz, *], by simp [*], by simp [*], by simp [*]⟩)
  rintro ⟨σ, H⟩ ⟨k, h11, h5q, hQ, h6, h7, hC, h8, h9, hI, h10, hK, m1, m2, m3⟩
  simp only at h11 h5q hQ h6 h7 hC h8 h9 hI h10 hK
  obtain ⟨lY, hlY⟩ : ∃ x, x = l ++ [Rule.mk zz (.mk yk ys yl)] := ⟨_, rfl⟩
  rw [← hlY] at hK hY1 hYs hnY hrY
  have hw12 : w.length ≤ 12 := by omega
  have en : rulesFirst l w = firstF l w 0 := by unfold rulesFirst; rw [if_pos ⟨hok, hw12⟩]
  have eX : rulesFirst lX w = if rulesFirst l w < 0 then (if isF 8 (.mk xk xs xl) w = true then (l.length : Int) else -1) else rulesFirst l w := by
    rw [en]; unfold rulesFirst; rw [if_pos ⟨hX1, hw12⟩, hlX]; exact firstF_app l _ w l.length 0 (by omega)
  have eY : rulesFirst lY w = rulesFirst l w := by
    have := firstF_app l (Rule.mk zz (.mk yk ys yl)) w l.length 0 (by omega)
    rw [← hlY, ← en] at this
    have e2 : rulesFirst lY w = firstF lY w 0 := by unfold rulesFirst; rw [if_pos ⟨hY1, hw12⟩]
    rw [e2, this]
    by_cases c : rulesFirst l w < 0
    · rcases firstF_says l w l.length 0 (by omega) with ⟨h1, h2⟩ | ⟨n, h1, _⟩
      · have h3 := h2 0 (by omega) (by omega)
        have h4 : isF 8 (.mk yk ys yl) w = false := by subst hyl; exact h3
        rw [if_pos c, h4, en, h1]; simp
      · rw [en, h1] at c; omega
    · rw [if_neg c]
  have emx : matchIs (.mk xk xs xl) w = isF 8 (.mk xk xs xl) w := by simp [matchIs, hrx, hw12]
  have elow : rulesFirst l w < 0 ∨ (0 : Int) ≤ rulesFirst l w := by omega
  simp [h11, h5q, hQ, h6, h7, hC, h8, h9, hI, h10, hK]
  refine TWoH.callV (tc_iRulesOk lX hXs) callable_12 (by simp [h9, hI, hnX, hrX]) (by simp) (by simp) (by simp) ?_
  rw [hX1]
  generalize hm : rulesFirst lX w = m at *
  generalize hn : rulesFirst l w = n at *
  by_cases c : 0 ≤ n
  · have c2 : ¬ n < 0 := by omega
    rw [if_neg c2] at eX
    simp [h11, h5q, hQ, h6, h7, hC, h8, h9, hI, h10, hK, c, c2, eX]
    refine TWoH.callV (tc_iRulesFirst lY w hYs) callable_8 (by simp [h11, h6, hK, hnY, hrY]) (by simp) (by simp) (by simp) ?_
    simp [h11, h5q, hQ, h6, h7, hC, h8, h9, hI, h10, hK, c, c2, eY]
  · have c2 : n < 0 := by omega
    rw [if_pos c2] at eX
    simp [h11, h5q, hQ, h6, h7, hC, h8, h9, hI, h10, hK, c, c2, encRex]
    refine TWoH.callV (tc_iMatchIs (.mk xk xs xl) w hx) callable_13 (by simp [h6, encRex, noHR_rex]) (by simp) (by simp) (by simp) ?_
    rw [emx]
    have e3 : decide (m = (l.length : Int)) = isF 8 (.mk xk xs xl) w := by
      rw [eX]
      cases isF 8 (.mk xk xs xl) w
      · simp
      · simp
    simp [h11, h5q, hQ, h6, h7, hC, h8, h9, hI, h10, hK, c, c2, e3]
    refine TWoH.callV (tc_iRulesFirst lY w hYs) callable_8 (by simp [h11, h6, hK, hnY, hrY]) (by simp) (by simp) (by simp) ?_
    simp [h11, h5q, hQ, h6, h7, hC, h8, h9, hI, h10, hK, c, c2, eY]
end Go.Proofs.Ythmifhkbbbchaaa.R

open Go Go.Proofs.Ythmifhkbbbchaaa.T
namespace Go.Proofs.Ythmifhkbbbchaaa.R
set_option linter.unusedSimpArgs false
set_option linter.unusedVariables false
/-- One rule more, of which no piece is longer than nothing, changes nothing. -/
theorem longF_small {G : List UInt8 → Bool} {t : List UInt8} {p : Nat} (h : ∀ u, u ≠ [] → (∀ c ∈ u, c ∈ t) → G u = false) : ∀ k : Nat, p + k ≤ t.length + 1 → longF G t p k ≤ 0
  | 0, _ => by simp [longF]
  | k + 1, hk => by
    have ih := longF_small (p := p) h k (by omega)
    rw [longF]
    split
    · rename_i c
      by_cases e : k = 0
      · subst e; simp
      · rw [h] at c
        · cases c
        · intro e2
          have := congrArg List.length e2
          simp [piece] at this
          omega
        · intro x hx
          unfold piece at hx
          exact List.mem_of_mem_take (List.mem_of_mem_drop hx)
    · exact ih
theorem bestGo_app (t : List UInt8) (p : Nat) (e : Rule) (he : matchLong e.rex t p ≤ 0) : ∀ (l : List Rule) (i : Nat) (b : Int) (m : Nat), bestGo t p (l ++ [e]) i b m = bestGo t p l i b m
  | [], i, b, m => by
    simp only [List.nil_append, bestGo]
    rw [if_neg (by omega)]
  | r :: l, i, b, m => by
    simp only [List.cons_append, bestGo]
    split
    · exact bestGo_app t p e he l _ _ _
    · exact bestGo_app t p e he l _ _ _
theorem toksF_app (l : List Rule) (t : List UInt8) (e : Rule) (he : ∀ p, p ≤ t.length → matchLong e.rex t p ≤ 0) : ∀ (k p : Nat), t.length ≤ p + k → toksF (l ++ [e]) t p = toksF l t p
  | 0, p, hk => by rw [toksF_end (by omega), toksF_end (by omega)]
  | k + 1, p, hk => by
    by_cases hp : p < t.length
    · have hb : bestF (l ++ [e]) t p = bestF l t p := bestGo_app t p e (he p (by omega)) l 0 (-1) 0
      by_cases c : 0 ≤ (bestF l t p).1 ∧ 0 < (bestF l t p).2
      · rw [toksF_next hp (by rw [hb]; exact c.1) (by rw [hb]; exact c.2), toksF_next hp c.1 c.2, hb, toksF_app l t e he k _ (by omega)]
      · rw [toksF_end (by rw [hb]; exact fun h => c h.2), toksF_end (fun h => c h.2)]
    · rw [toksF_end (by omega), toksF_end (by omega)]
def zz1 : Rule := ⟨[122, 122], .mk 1 [(1, 2)] []⟩
def zz2 : Rule := ⟨[122, 122], .mk 2 [] []⟩
theorem zz2_small (t : List UInt8) (p : Nat) (hp : p ≤ t.length) : matchLong zz2.rex t p ≤ 0 := by
  refine longF_small (fun u hu _ => ?_) _ (by omega)
  show isF 8 (.mk 2 [] []) u = false
  simp [isF, hu]
theorem zz1_small (t : List UInt8) (ht : ∀ c ∈ t, c ∈ WB) (p : Nat) (hp : p ≤ t.length) : matchLong zz1.rex t p ≤ 0 := by
  refine longF_small (fun u hu hm => ?_) _ (by omega)
  show isF 8 (.mk 1 [(1, 2)] []) u = false
  cases u with
  | nil => exact absurd rfl hu
  | cons c u =>
    have := ht c (hm c (by simp))
    simp only [WB, List.mem_cons, List.not_mem_nil, or_false] at this
    simp only [isF, List.headD_cons]
    rcases this with h | h | h | h | h | h | h <;> subst h <;> simp [hasS]
end Go.Proofs.Ythmifhkbbbchaaa.R

open Go Go.Proofs.Ythmifhkbbbchaaa.T
namespace Go.Proofs.Ythmifhkbbbchaaa.R
set_option maxHeartbeats 4000000
set_option maxRecDepth 100000
set_option linter.unusedSimpArgs false
set_option linter.unusedVariables false
attribute [local simp] bsV bsRows chunk fillT partsT appV makeV rowsOf cellsOf placeOf frzT frz1
@[simp] theorem bP_True : bP True = true := bP_pos trivial
@[simp] theorem bP_False : bP False = false := bP_neg id
theorem frz_rule (i1 : Nat) (t1 : TV) (r : Rule) : List.map (frz1 i1 t1) (encRule r) = encRule r := by
  obtain ⟨n, k, s, l⟩ := r
  simp [encRule, encRex]
theorem frz_tok (i1 : Nat) (t1 : TV) (r : Tok) : List.map (frz1 i1 t1) (encTok r) = encTok r := by simp [encTok]
theorem nrm_rule (r : Rule) : List.map nrm1 (encRule r) = encRule r := by
  obtain ⟨n, k, s, l⟩ := r
  simp [encRule, encRex, nrm1]
theorem toks_len (l : List Rule) (t : List UInt8) : ∀ (k p : Nat), t.length ≤ p + k → (toksF l t p).1.length ≤ k
  | 0, p, hk => by rw [toksF_end (by omega)]; simp
  | k + 1, p, hk => by
    by_cases c : p < t.length ∧ 0 ≤ (bestF l t p).1 ∧ 0 < (bestF l t p).2
    · rw [toksF_next c.1 c.2.1 c.2.2]
      have := toks_len l t k (p + (bestF l t p).2) (by omega)
      simp; omega
    · rw [toksF_end c]; simp
theorem lexMeans_len (l : List Rule) (t : List UInt8) : (lexMeans l t).1.length ≤ t.length := by
  unfold lexMeans
  split
  · exact toks_len l t t.length 0 (by omega)
  · simp
theorem noHR_toks (l : List Tok) : noHR (l.map encTok) = true := by simp
theorem roRows_toks (l : List Tok) : roRows (l.map encTok) = l.map encTok := by simp
def MoreA (lX lY : List Rule) (w : List UInt8) (T : List Tok) (F a c v5 u4 : Nat) (st : St) : Prop := st.σ 79 = .hd v5 ∧ st.σ 80 = .val (.string (bs w)) ∧ st.σ 5 = .hd a ∧ st.H a = some (.own 64 (T.map encTok)) ∧ st.σ 6 = .val (.int .i64 F) ∧ st.σ 4 = .val (.string (bs w)) ∧ st.σ 10 = .hd u4 ∧
  st.H v5 = some (.own 35 (lX.map encRule)) ∧ st.H u4 = some (.own 35 (lY.map encRule))
theorem tc_FnLexMore (b : List UInt8) : TC Try.prog 5 [.ro (b.map encU)] [] (.val (.bool true)) [] := by
  refine TC.enter Try.func5 rfl (by simp [Try.ntmps5]) rfl (tw_sound (ρ := []) ?_)
  rw [Try.ntmps5]
  by_cases hb0 : (1048576 : Int) < b.length
  · simp [hb0]
  have hb : b.length ≤ 1048576 := by omega
  simp [hb0]
  refine TWoH.callR (tcr_DrawLexMeans b hb) callable_17 (by simp) ?_
  rintro r o ⟨l, w, rfl, hl, hw, hwb, rfl⟩
  have hnl := noHR_rule l
  refine ⟨rfl, by simp [hnl], .inl (by simp), fun q hq => ?_⟩
  clear hq
  have hroo : roRows (l.map encRule) = l.map encRule := by simp
  simp
  refine TWoH.call (tc_iLexMeans l w hl.sm) callable_18 (by simp [hnl, hroo]) (by simp) (.inr (by simp)) fun a ha => ?_
  have fa := frF_ge ha [q] (by simp)
  clear ha
  simp [frF] at fa
  simp [fa]
  refine TWoH.call (tc_sLexMeans l w hl.sm) callable_19 (by simp [fa, hnl, hroo]) (by simp) (.inr (by simp)) fun c hc => ?_
  have fc := frF_ge hc [q, a] (by simp [fa])
  clear hc
  simp [frF] at fc
  have hlen := lexMeans_len l w
  obtain ⟨T, hT⟩ : ∃ T, (lexMeans l w).1 = T := ⟨_, rfl⟩
  obtain ⟨F, hF⟩ : ∃ F, (lexMeans l w).2 = F := ⟨_, rfl⟩
  rw [hT] at hlen
  have hnT := noHR_toks T
  have hrT := roRows_toks T
  have eT : bP (T = T) = true := bP_pos rfl
  simp [fa, fc, hT, hF]
  refine TWoH.callV (tc_iLexSame T T (by omega) (by omega)) callable_20 (by simp [fa, fc, hnT, hrT]) (by simp) (by simp) (by simp) ?_
  simp [fa, fc, hT, hF, eT]
  refine TWoH.callV (tc_sRulesOk l hl.sm) callable_10 (by simp [fa, fc, hnl, hroo]) (by simp) (by simp) (by simp) ?_
  cases hok : rulesOk l
  · simp [fa, fc, hT, hF, eT]
    refine TWoH.callV (tc_iLexSame T T (by omega) (by omega)) callable_20 (by simp [fa, fc, hnT, hrT]) (by simp) (by simp) (by simp) ?_
    simp [fa, fc, eT]
  by_cases h5 : l.length = 5
  · have h5' : (l.length : Int) = 5 := by omega
    simp [fa, fc, hT, hF, eT, h5']
    refine TWoH.callV (tc_iLexSame T T (by omega) (by omega)) callable_20 (by simp [fa, fc, hnT, hrT]) (by simp) (by simp) (by simp) ?_
    simp [fa, fc, eT]
  have h5' : ¬ (l.length : Int) = 5 := by omega
  have hlen5 := hl.2
  have k1 : (l.length + 1) * 72 ≤ 140737488355328 := by omega
  have k2 : l.length ≤ 9223372036854775806 := by omega
  have k3 : l.length * 72 ≤ 140737488355328 := by omega
  have k4 : l.length ≤ 9223372036854775807 := by omega
  simp [fa, fc, hT, hF, eT, h5']
  refine gall_fresh [q, a, c] (by simp [fa, fc]) fun v1 f1 => ?_
  simp [frF] at f1
  simp [fa, fc, f1, k1, k2, k3, k4]
  refine gall_fresh [q, a, c, v1] (by simp [fa, fc, f1]) fun v2 f2 => ?_
  simp [frF] at f2
  simp [fa, fc, f1, f2, k1, k2, k3, k4, delo, del]
  refine gall_fresh [q, a, c, v2] (by simp [fa, fc, f1, f2, delo, del]) fun v3 f3 => ?_
  simp [frF] at f3
  simp [-List.map_append, fa, fc, f1, f2, f3, k1, k2, k3, k4, delo, del]
  refine gall_fresh [q, a, c, v2, v3] (by simp [fa, fc, f1, f2, f3, delo, del]) fun v4 f4 => ?_
  simp [frF] at f4
  simp [-List.map_append, fa, fc, f1, f2, f3, f4, k1, k2, k3, k4, delo, del]
  refine gall_fresh [q, a, c, v3, v4] (by simp [fa, fc, f1, f2, f3, f4, delo, del]) fun v5 f5 => ?_
  simp [frF] at f5
  simp [-List.map_append, fa, fc, f1, f2, f3, f4, f5, k1, k2, k3, k4, delo, del]
  refine gall_fresh [q, a, c, v3, v4, v5] (by simp [fa, fc, f1, f2, f3, f4, f5, delo, del]) fun u1 g1 => ?_
  simp [frF] at g1
  simp [-List.map_append, fa, fc, f1, f2, f3, f4, f5, g1, k1, k2, k3, k4, delo, del]
  refine gall_fresh [q, a, c, v3, v4, v5, u1] (by simp [fa, fc, f1, f2, f3, f4, f5, g1, delo, del]) fun u2 g2 => ?_
  simp [frF] at g2
  simp [-List.map_append, fa, fc, f1, f2, f3, f4, f5, g1, g2, k1, k2, k3, k4, delo, del]
  refine gall_fresh [q, a, c, v3, v4, v5, u2] (by simp [fa, fc, f1, f2, f3, f4, f5, g1, g2, delo, del]) fun u3 g3 => ?_
  simp [frF] at g3
  simp [-List.map_append, fa, fc, f1, f2, f3, f4, f5, g1, g2, g3, k1, k2, k3, k4, delo, del]
  refine gall_fresh [q, a, c, v3, v4, v5, u3] (by simp [fa, fc, f1, f2, f3, f4, f5, g1, g2, g3, delo, del]) fun u4 g4 => ?_
  simp [frF] at g4
  simp [-List.map_append, fa, fc, f1, f2, f3, f4, f5, g1, g2, g3, g4, k1, k2, k3, k4, delo, del]
  have hz1 := zz1_small w hwb
  have hz2 := zz2_small w
  have hzn : ∀ x ∈ l, ¬ x.name = zz := fun x hx => RNB_zz (hl.1 x hx).2
  have hX1 : rulesOk (l ++ [zz1]) = true := rulesOk_more hok h5 (show wordOk zz = true by decide) (by decide) hzn
  have hY1 : rulesOk (l ++ [zz2]) = true := rulesOk_more hok h5 (show wordOk zz = true by decide) (by decide) hzn
  have hXs : RSm (l ++ [zz1]) := ⟨by simp; omega, fun r hr => by
    rcases List.mem_append.1 hr with hr | hr
    · exact hl.sm.2 r hr
    · simp only [List.mem_singleton] at hr; subst hr; exact ⟨by simp [zz1, Sm, SmL], by simp [zz1]⟩⟩
  have hYs : RSm (l ++ [zz2]) := ⟨by simp; omega, fun r hr => by
    rcases List.mem_append.1 hr with hr | hr
    · exact hl.sm.2 r hr
    · simp only [List.mem_singleton] at hr; subst hr; exact ⟨by simp [zz2, Sm, SmL], by simp [zz2]⟩⟩
  have eX : lexMeans (l ++ [zz1]) w = lexMeans l w := by
    unfold lexMeans
    rw [if_pos ⟨hX1, by omega⟩, if_pos ⟨hok, by omega⟩]
    exact toksF_app l w zz1 hz1 w.length 0 (by omega)
  have eY : lexMeans (l ++ [zz2]) w = lexMeans l w := by
    unfold lexMeans
    rw [if_pos ⟨hY1, by omega⟩, if_pos ⟨hok, by omega⟩]
    exact toksF_app l w zz2 hz2 w.length 0 (by omega)
  obtain ⟨lX, hlX⟩ : ∃ x, x = l ++ [zz1] := ⟨_, rfl⟩
  obtain ⟨lY, hlY⟩ : ∃ x, x = l ++ [zz2] := ⟨_, rfl⟩
  have eLX : lX.map encRule = l.map encRule ++ [[.val (.string (bs [122, 122])), .val (.int .i64 1), .ro [[.val (.int .i64 1), .val (.int .i64 2)]], .ro []]] := by rw [hlX]; simp [zz1, encRule, encRex, encRexL, encS]
  have eLY : lY.map encRule = l.map encRule ++ [[.val (.string (bs [122, 122])), .val (.int .i64 2), .ro [], .ro []]] := by rw [hlY]; simp [zz2, encRule, encRex, encRexL]
  rw [← hlX] at hXs eX
  rw [← hlY] at hYs eY
  have hnX := noHR_rule lX
  have hnY := noHR_rule lY
  have hrX := roRows_rules lX
  have hrY := roRows_rules lY
  refine TWoH.via (A := MoreA lX lY w T F a c v5 u4) (Turn.then (Turn.freezeA v3 (t := .own 47 [[.val (.int .i64 1), .val (.int .i64 2)]]) (by simp [fa, fc, f1, f2, f3, f4, f5, g1, g2, g3, g4, del]) (Turn.then (Turn.nrm v5 (t := .own 35 (l.map encRule ++ [[.val (.string (bs [122, 122])), .val (.int .i64 1), .ro [[.val (.int .i64 1), .val (.int .i64 2)]], .val (.slice none 0 0)]])) (by simp [fa, fc, f1, f2, f3, f4, f5, g1, g2, g3, g4, del, frzO, frz_rule]) (Turn.then (Turn.nrm u4 (t := .own 35 (l.map encRule ++ [[.val (.string (bs [122, 122])), .val (.int .i64 2), .val (.slice none 0 0), .val (.slice none 0 0)]])) (by simp [fa, fc, f1, f2, f3, f4, f5, g1, g2, g3, g4, del, frzO, frz_rule]) (Turn.same (by simp [MoreA, eLX, eLY, nrmO, nrm1, nrm_rule, frzO, frz_tok, del, fa, fc, f1, f2, f3, f4, f5, g1, g2, g3, g4])))))))) ?_
  rintro ⟨σ, H⟩ ⟨h79, h80, h5, hA, h6, h4, h10, hX, hY⟩
  simp only at h79 h80 h5 hA h6 h4 h10 hX hY
  refine TWoH.call (tc_iLexMeans lX w hXs) callable_18 (by simp [h79, h80, hX, hnX, hrX]) (by simp) (.inr (by simp)) fun d hd => ?_
  have fd := frF_ge hd [a, u4] (by simp [hA, hY])
  clear hd
  simp [frF] at fd
  simp [fd, eX, hT, hF, h79, h80, h5, hA, h6, h4, h10, hX, hY]
  refine TWoH.call (tc_iLexMeans lY w hYs) callable_18 (by simp [fd, h4, h10, hY, hnY, hrY]) (by simp) (.inr (by simp)) fun e he => ?_
  have fe := frF_ge he [a, d] (by simp [fd, hA])
  clear he
  simp [frF] at fe
  simp [fd, fe, eX, eY, hT, hF, h79, h80, h5, hA, h6, h4, h10, hX, hY]
  refine TWoH.callV (tc_iLexSame T T (by omega) (by omega)) callable_20 (by simp [fd, fe, h5, hA, hnT, hrT]) (by simp) (by simp) (by simp) ?_
  simp [fd, fe, hT, hF, h79, h80, h5, hA, h6, h4, h10, hX, hY]
  refine TWoH.callV (tc_iLexSame T T (by omega) (by omega)) callable_20 (by simp [fd, fe, h5, hA, hnT, hrT]) (by simp) (by simp) (by simp) ?_
  simp [fd, fe, hT, hF, h79, h80, h5, hA, h6, h4, h10, hX, hY]
end Go.Proofs.Ythmifhkbbbchaaa.R
