/- Part 3: what the walk of the code stands on. Conditions: none but those that each theorem states. -/
import Derived.Test.YtcjmocldhjfgoaaDoorK2
open Go Go.Proofs.YtcjmocldhjfgoaaDoor.T
namespace Go.Proofs.YtcjmocldhjfgoaaDoor.R
set_option maxHeartbeats 4000000
set_option maxRecDepth 100000
set_option linter.unusedSimpArgs false
set_option linter.unusedVariables false
attribute [local simp] bsV bsRows chunk fillT partsT appV makeV rowsOf cellsOf placeOf frzT frz1
def RC (d : Nat) : Nat := 13 * 2 ^ d
theorem RC_succ (d : Nat) : RC (d + 1) = 2 * RC d := by unfold RC; rw [Nat.pow_succ]; omega
theorem RC_pos (d : Nat) : 13 ≤ RC d := by unfold RC; have := Nat.one_le_two_pow (n := d); omega
def KD : List Int := [3, 3, 3, 4, 4, 5, 5, 6, 7]
def Nil : TV := .val (.slice none 0 0)
/-- Where the parts stand while a tree grows. -/
def KidsAt (H : Nat → Option TV) (a c : Nat) (kc : TV) (kids : List Rex) : Prop :=
  (kids = [] ∧ kc = .val (.slice none 0 0)) ∨ ∃ id, kc = .hd id ∧ H id = some (.own 32 (kids.map encRex)) ∧ id ≠ 0 ∧ id ≠ a ∧ id ≠ c
theorem SmL_of : ∀ {l : List Rex}, (∀ x ∈ l, Sm x) → SmL l
  | [], _ => trivial
  | r :: l, h => ⟨h r (by simp), SmL_of fun x hx => h x (by simp [hx])⟩
theorem tcr_l2Rex (d : Nat) : ∀ (b : List UInt8) (p : Nat), d ≤ 10 → b.length ≤ 2000 → p + RC d ≤ 880000000 → TCR Tryd.prog 27 [.pd 0 0 0 0, .val (.int .i64 d)] [rdr b p] (fun r o => ∃ (x : Rex) (p' : Nat), r = .agg (encRex x) ∧ Sm x ∧ p' + 2 ≤ p + RC d ∧ o = [rdr b p']) := by
  refine Nat.strongRecOn d fun d IH => ?_
  intro b p hd hb hp
  have hRC := RC_pos d
  suffices h : TCR Tryd.prog 27 [.pd 0 0 0 0, .val (.int .i64 d)] [rdr b p] (fun r o => ∃ (x : Rex) (p' : Nat), toRo r = .agg (encRex x) ∧ Sm x ∧ p' + 2 ≤ p + RC d ∧ o = [rdr b p']) from
    h.frz.mono fun r o ⟨r0, ⟨x, p', h1, h2⟩, h3⟩ => ⟨x, p', by rw [h3, h1], h2⟩
  refine TCR.enter Tryd.func27 rfl (by simp [Tryd.ntmps27]) rfl (tw_sound (ρ := []) ?_)
  rw [Tryd.ntmps27]
  simp
  refine gall_intro fun a ha => ?_
  have n0 : ¬ a = 0 := fun e => by rw [e] at ha; simp at ha
  have n0' : ¬ 0 = a := fun e => n0 e.symm
  simp [n0, n0']
  by_cases c0 : d ≤ 1
  · have c0i : (d : Int) ≤ 1 := by omega
    simp [c0, c0i, n0, n0']
    refine TWoH.lendR [0] (tcr_l2Leaf b p hb (by omega)) callable_29 (by simp [List.findIdx?_cons, n0, n0']) (by simp [n0, n0']) (by simp) (by simp) ?_
    rintro r o ⟨x, p', rfl, hx, hp', rfl⟩
    refine ⟨by simp [rdr], by simp, .inl (by simp [List.findIdx?_cons, n0, n0']), fun q hq => ?_⟩
    clear hq
    simp [n0, n0']
    exact ⟨_, _, ⟨rfl, rfl⟩, by simp, by simp [n0, n0'], x, by simp, hx.sm, p', by omega, by simp [n0, n0']⟩
  obtain ⟨e, rfl⟩ : ∃ e, d = e + 1 := ⟨d - 1, by omega⟩
  have hRCs := RC_succ e
  have ih := IH e (by omega) b
  have c0' : ¬ ((e : Int) + 1) ≤ 1 := by omega
  simp [c0, c0', n0, n0']
  refine TWoH.lendR [0] (tcr_pick b p 4 hb (by omega)) callable_18 (by simp [List.findIdx?_cons, n0, n0']) (by simp [n0, n0']) (by simp) (by simp) ?_
  rintro r o ⟨k, rfl, k0, k1, rfl⟩
  refine ⟨by simp [rdr], by simp, .inl (by simp [List.findIdx?_cons, n0, n0']), fun q hq => ?_⟩
  clear hq
  by_cases c1 : k = 0
  · simp [c0, c1, n0, n0']
    refine TWoH.lendR [0] (tcr_l2Leaf b (p + 1) hb (by omega)) callable_29 (by simp [List.findIdx?_cons, n0, n0']) (by simp [n0, n0']) (by simp) (by simp) ?_
    rintro r o ⟨x, p', rfl, hx, hp', rfl⟩
    refine ⟨by simp [rdr], by simp, .inl (by simp [List.findIdx?_cons, n0, n0']), fun q hq => ?_⟩
    clear hq
    simp [n0, n0']
    exact ⟨_, _, ⟨rfl, rfl⟩, by simp, by simp [n0, n0'], x, by simp, hx.sm, p', by omega, by simp [n0, n0']⟩
  simp [c0, c1, n0, n0']
  refine gall_intro fun i1 h1 => ?_
  have a0 : ¬ i1 = 0 := fun e => by rw [e] at h1; simp at h1
  have a0' : ¬ 0 = i1 := fun e => a0 e.symm
  have a1 : ¬ i1 = a := fun e => by rw [e] at h1; simp [n0, n0'] at h1
  have a1' : ¬ a = i1 := fun e => a1 e.symm
  clear h1
  simp [n0, n0', a0, a0', a1, a1']
  refine TWoH.turn (Turn.freeze i1 (t := .own 3 (KD.map encI)) (by simp [a0, a0', encI, KD]) ?_)
  refine TWoH.lendR [0] (tcr_num b (p + 1) KD hb (by omega) (by simp [KD]) (by simp [KD])) callable_31 (by simp [a0, a0', List.findIdx?_cons, encI, KD]) (by simp [a0, a0', n0, n0', del]) (by simp) (by simp) ?_
  rintro r o ⟨kd, hkd, rfl, rfl⟩
  have hkd1 : 3 ≤ kd ∧ kd ≤ 7 := by simp [KD] at hkd; omega
  refine ⟨by simp [rdr], by simp, .inl (by simp [a0, a0', List.findIdx?_cons]), fun q hq => ?_⟩
  clear hq
  simp [a0, a0', a1, a1', n0, n0', del]
  refine gall_intro fun c hc => ?_
  have m0 : ¬ c = 0 := fun e => by rw [e] at hc; simp at hc
  have m0' : ¬ 0 = c := fun e => m0 e.symm
  have m1 : ¬ c = a := fun e => by rw [e] at hc; simp [n0, n0', del, a1, a1'] at hc
  have m1' : ¬ a = c := fun e => m1 e.symm
  clear hc
  simp [a0, a0', a1, a1', n0, n0', m0, m0', m1, m1', del]
  refine TWoH.callV (tc_sl2Kids kd) callable_35 (by simp) (by simp) (by simp) (by simp) ?_
  have hkn : 1 ≤ kidsN kd ∧ kidsN kd ≤ 2 := by unfold kidsN; split; omega; split; omega; split; omega; omega
  generalize kidsN kd = kn at hkn
  simp [a0, a0', a1, a1', n0, n0', m0, m0', m1, m1', del]
  refine TWcH.loop [] (fun m st => ∃ (i p' : Nat) (kc : TV) (kids : List Rex), i = m ∧ kids.length + i = kn.toNat ∧ (∀ x ∈ kids, Sm x) ∧ KidsAt st.H a c kc kids ∧ ((kids.length = 0 → p' ≤ p + 2) ∧ (kids.length = 1 → p' ≤ p + RC e) ∧ (kids.length = 2 → p' + 2 ≤ p + 2 * RC e)) ∧ st.σ 0 = .pd 0 0 0 0 ∧ st.H 0 = some (rdr b p') ∧ st.σ 1 = .val (.int .i64 (e + 1 : Nat)) ∧ st.σ 4 = .pd a 0 0 0 ∧ st.H a = some (.box 32 [.val (.int .i64 0), .val (.slice none 0 0), .val (.slice none 0 0)]) ∧ st.σ 6 = .pd c 0 0 0 ∧ st.H c = some (.box 32 [.val (.int .i64 kd), .val (.slice none 0 0), kc]) ∧ st.σ 7 = .val (.int .i64 i)) kn.toNat ⟨kn.toNat, p + 2, .val (.slice none 0 0), [], rfl, by simp, by simp, .inl ⟨rfl, rfl⟩, by simp, by simp [a0, a0', a1, a1', n0, n0', m0, m0', m1, m1', del]; omega⟩ ?_
  rintro m ⟨σ, H⟩ ⟨i, p', kc, kids, rfl, hki, hks, hK, hpk, h0, hH, h1, h4, hA, h6, hC, h7⟩
  simp only at hK h0 hH h1 h4 hA h6 hC h7
  by_cases hi : 0 < i
  case neg =>
    obtain rfl : i = 0 := by omega
    have hSm : Sm (.mk kd [] kids) := by simp only [Sm]; exact ⟨by simp, by omega, SmL_of hks⟩
    have hpe : p' + 2 ≤ p + RC (e + 1) := by omega
    rcases hK with ⟨rfl, rfl⟩ | ⟨id, rfl, hId, q0, q1, q2⟩
    · simp [h0, hH, h1, h4, hA, h6, hC, h7, n0, n0', m0, m0', m1, m1']
      exact ⟨_, _, ⟨rfl, rfl⟩, by simp, by simp [hH, n0, n0', del], .mk kd [] [], by simp [encRex, encRexL], hSm, p', hpe, by simp [hH, n0, n0', del]⟩
    · simp [h0, hH, h1, h4, hA, h6, hC, h7, n0, n0', m0, m0', m1, m1', hId, q0, q1, q2]
      exact ⟨_, _, ⟨rfl, rfl⟩, by simp [← encRexL_eq, noHR_rex], by simp [hH, n0, n0', q0, q0.symm, del], .mk kd [] kids, by simp [encRex, encRexL_eq], hSm, p', hpe, by simp [hH, n0, n0', q0, q0.symm, del]⟩
  simp [h0, hH, h1, h4, hA, h6, hC, h7, hi]
  have hw1 : IntKind.i64.wrap ((i : Int) - 1) = ((i - 1 : Nat) : Int) := by rw [wrapi (by omega)]; omega
  have hwe : IntKind.i64.wrap ((e : Int) + 1 - 1) = e := by rw [wrapi (by omega)]; omega
  have hwe' : IntKind.i64.wrap (e : Int) = e := wrapi (by omega)
  refine TWcH.midB (ρ := []) (fun st => ∃ (x : Rex) (p'' : Nat) (kc : TV), Sm x ∧ p'' + 2 ≤ p' + RC e ∧ KidsAt st.H a c kc (kids ++ [x]) ∧ st.σ 0 = .pd 0 0 0 0 ∧ st.H 0 = some (rdr b p'') ∧ st.σ 1 = .val (.int .i64 (e + 1 : Nat)) ∧ st.σ 4 = .pd a 0 0 0 ∧ st.H a = some (.box 32 [.val (.int .i64 0), .val (.slice none 0 0), .val (.slice none 0 0)]) ∧ st.σ 6 = .pd c 0 0 0 ∧ st.H c = some (.box 32 [.val (.int .i64 kd), .val (.slice none 0 0), kc]) ∧ st.σ 7 = .val (.int .i64 i))
    (.first 0 (.first 2 (.first 3 (.first 4 (.pick 1 (.pick 5 (.pick 6 (.pick 7 (.first 8 (.pick 9 .fin .fin)) .fin) .fin) .fin) (.pick 5 (.pick 1 (.pick 6 (.pick 7 (.first 8 (.pick 9 .fin .fin)) .fin) .fin) (.pick 6 (.pick 1 (.pick 7 (.first 8 (.pick 9 .fin .fin)) .fin) .fin) .fin)) .fin)))))) mixed (by kernel_rfl) ?_ ?_
  case refine_2 =>
    rintro ⟨σ, H⟩ ⟨x, p'', kc, hx, hp'', hK', g0, gH, g1, g4, gA, g6, gC, g7⟩
    simp only at hK' g0 gH g1 g4 gA g6 gC g7
    simp [g0, gH, g1, g4, gA, g6, gC, g7, hw1]
    exact ⟨i - 1, by omega, p'', kc, kids ++ [x], by simp; omega, fun y hy => by rcases List.mem_append.1 hy with h | h; exact hks y h; simp at h; subst h; exact hx, hK', ⟨fun h => by simp at h, fun h => by simp at h; subst h; simp at hpk; omega, fun h => by simp at h; have := hpk.2.1 (by omega); omega⟩, rfl, rfl, rfl⟩
  have hih := ih p' (by omega) hb (by omega)
  have k1 : (kids.length + 1) * 56 ≤ 140737488355328 := by omega
  have k2 : kids.length ≤ 9223372036854775806 := by omega
  rcases hK with ⟨rfl, rfl⟩ | ⟨id, rfl, hId, q0, q1, q2⟩
  · simp [delo, del, encRex, h0, hH, h1, h4, hA, h6, hC, h7, n0, n0', m0, m0', m1, m1', hwe, hwe']
    refine ⟨?_, ?_⟩
    · refine TWoH.lendR [0] hih callable_27 (by simp [delo, del, encRex, h0, hH, h1, h4, hA, h6, hC, h7, n0, n0', m0, m0', m1, m1', hwe, hwe', List.findIdx?_cons]) (by simp [delo, del, encRex, h0, hH, h1, h4, hA, h6, hC, h7, n0, n0', m0, m0', m1, m1', hwe, hwe']) (by simp) (by simp) ?_
      rintro r o ⟨x, p'', rfl, hx, hp'', rfl⟩
      refine ⟨by simp [rdr], by simp, .inl (by simp [delo, del, encRex, h0, hH, h1, h4, hA, h6, hC, h7, n0, n0', m0, m0', m1, m1', hwe, hwe', List.findIdx?_cons]), fun q hq => ?_⟩
      clear hq
      obtain ⟨xk, xs, xl⟩ := x
      simp [-List.map_append, delo, del, encRex, h0, hH, h1, h4, hA, h6, hC, h7, n0, n0', m0, m0', m1, m1', hwe, hwe']
      refine gall_intro fun i2 g2 => ?_
      have u_0 : ¬ i2 = 0 := fun e => by rw [e] at g2; simp [delo, del, encRex, h0, hH, h1, h4, hA, h6, hC, h7, n0, n0', m0, m0', m1, m1', hwe, hwe'] at g2
      have v_0 : ¬ 0 = i2 := fun e => u_0 e.symm
      have u_a : ¬ i2 = a := fun e => by rw [e] at g2; simp [delo, del, encRex, h0, hH, h1, h4, hA, h6, hC, h7, n0, n0', m0, m0', m1, m1', hwe, hwe'] at g2
      have v_a : ¬ a = i2 := fun e => u_a e.symm
      have u_c : ¬ i2 = c := fun e => by rw [e] at g2; simp [delo, del, encRex, h0, hH, h1, h4, hA, h6, hC, h7, n0, n0', m0, m0', m1, m1', hwe, hwe'] at g2
      have v_c : ¬ c = i2 := fun e => u_c e.symm
      simp [-List.map_append, delo, del, encRex, h0, hH, h1, h4, hA, h6, hC, h7, n0, n0', m0, m0', m1, m1', hwe, hwe', u_0, v_0, u_a, v_a, u_c, v_c, k1, k2]
      refine gall_intro fun i3 g3 => ?_
      have y_0 : ¬ i3 = 0 := fun e => by rw [e] at g3; simp [del, delo, del, encRex, h0, hH, h1, h4, hA, h6, hC, h7, n0, n0', m0, m0', m1, m1', hwe, hwe', u_0, v_0, u_a, v_a, u_c, v_c] at g3
      have z_0 : ¬ 0 = i3 := fun e => y_0 e.symm
      have y_a : ¬ i3 = a := fun e => by rw [e] at g3; simp [del, delo, del, encRex, h0, hH, h1, h4, hA, h6, hC, h7, n0, n0', m0, m0', m1, m1', hwe, hwe', u_0, v_0, u_a, v_a, u_c, v_c] at g3
      have z_a : ¬ a = i3 := fun e => y_a e.symm
      have y_c : ¬ i3 = c := fun e => by rw [e] at g3; simp [del, delo, del, encRex, h0, hH, h1, h4, hA, h6, hC, h7, n0, n0', m0, m0', m1, m1', hwe, hwe', u_0, v_0, u_a, v_a, u_c, v_c] at g3
      have z_c : ¬ c = i3 := fun e => y_c e.symm
      have y_i2 : ¬ i3 = i2 := fun e => by rw [e] at g3; simp [del, delo, del, encRex, h0, hH, h1, h4, hA, h6, hC, h7, n0, n0', m0, m0', m1, m1', hwe, hwe', u_0, v_0, u_a, v_a, u_c, v_c] at g3
      have z_i2 : ¬ i2 = i3 := fun e => y_i2 e.symm
      simp [-List.map_append, del, delo, del, encRex, h0, hH, h1, h4, hA, h6, hC, h7, n0, n0', m0, m0', m1, m1', hwe, hwe', u_0, v_0, u_a, v_a, u_c, v_c, y_0, z_0, y_a, z_a, y_c, z_c, y_i2, z_i2]
      exact ⟨.mk xk xs xl, hx, p'', hp'', .inr ⟨i3, rfl, by simp [z_c, y_c, encRex], y_0, y_a, y_c⟩, rfl⟩
    · refine TWoH.lendR [0] hih callable_27 (by simp [delo, del, encRex, h0, hH, h1, h4, hA, h6, hC, h7, n0, n0', m0, m0', m1, m1', hwe, hwe', List.findIdx?_cons]) (by simp [delo, del, encRex, h0, hH, h1, h4, hA, h6, hC, h7, n0, n0', m0, m0', m1, m1', hwe, hwe']) (by simp) (by simp) ?_
      rintro r o ⟨x, p'', rfl, hx, hp'', rfl⟩
      refine ⟨by simp [rdr], by simp, .inl (by simp [delo, del, encRex, h0, hH, h1, h4, hA, h6, hC, h7, n0, n0', m0, m0', m1, m1', hwe, hwe', List.findIdx?_cons]), fun q hq => ?_⟩
      clear hq
      obtain ⟨xk, xs, xl⟩ := x
      simp [-List.map_append, delo, del, encRex, h0, hH, h1, h4, hA, h6, hC, h7, n0, n0', m0, m0', m1, m1', hwe, hwe']
      refine ⟨?_, ?_⟩
      all_goals
        refine gall_intro fun i2 g2 => ?_
        have u_0 : ¬ i2 = 0 := fun e => by rw [e] at g2; simp [delo, del, encRex, h0, hH, h1, h4, hA, h6, hC, h7, n0, n0', m0, m0', m1, m1', hwe, hwe'] at g2
        have v_0 : ¬ 0 = i2 := fun e => u_0 e.symm
        have u_a : ¬ i2 = a := fun e => by rw [e] at g2; simp [delo, del, encRex, h0, hH, h1, h4, hA, h6, hC, h7, n0, n0', m0, m0', m1, m1', hwe, hwe'] at g2
        have v_a : ¬ a = i2 := fun e => u_a e.symm
        have u_c : ¬ i2 = c := fun e => by rw [e] at g2; simp [delo, del, encRex, h0, hH, h1, h4, hA, h6, hC, h7, n0, n0', m0, m0', m1, m1', hwe, hwe'] at g2
        have v_c : ¬ c = i2 := fun e => u_c e.symm
        simp [-List.map_append, delo, del, encRex, h0, hH, h1, h4, hA, h6, hC, h7, n0, n0', m0, m0', m1, m1', hwe, hwe', u_0, v_0, u_a, v_a, u_c, v_c, k1, k2]
        refine gall_intro fun i3 g3 => ?_
        have y_0 : ¬ i3 = 0 := fun e => by rw [e] at g3; simp [del, delo, del, encRex, h0, hH, h1, h4, hA, h6, hC, h7, n0, n0', m0, m0', m1, m1', hwe, hwe', u_0, v_0, u_a, v_a, u_c, v_c] at g3
        have z_0 : ¬ 0 = i3 := fun e => y_0 e.symm
        have y_a : ¬ i3 = a := fun e => by rw [e] at g3; simp [del, delo, del, encRex, h0, hH, h1, h4, hA, h6, hC, h7, n0, n0', m0, m0', m1, m1', hwe, hwe', u_0, v_0, u_a, v_a, u_c, v_c] at g3
        have z_a : ¬ a = i3 := fun e => y_a e.symm
        have y_c : ¬ i3 = c := fun e => by rw [e] at g3; simp [del, delo, del, encRex, h0, hH, h1, h4, hA, h6, hC, h7, n0, n0', m0, m0', m1, m1', hwe, hwe', u_0, v_0, u_a, v_a, u_c, v_c] at g3
        have z_c : ¬ c = i3 := fun e => y_c e.symm
        have y_i2 : ¬ i3 = i2 := fun e => by rw [e] at g3; simp [del, delo, del, encRex, h0, hH, h1, h4, hA, h6, hC, h7, n0, n0', m0, m0', m1, m1', hwe, hwe', u_0, v_0, u_a, v_a, u_c, v_c] at g3
        have z_i2 : ¬ i2 = i3 := fun e => y_i2 e.symm
        simp [-List.map_append, del, delo, del, encRex, h0, hH, h1, h4, hA, h6, hC, h7, n0, n0', m0, m0', m1, m1', hwe, hwe', u_0, v_0, u_a, v_a, u_c, v_c, y_0, z_0, y_a, z_a, y_c, z_c, y_i2, z_i2]
        exact ⟨.mk xk xs xl, hx, p'', hp'', .inr ⟨i3, rfl, by simp [z_c, y_c, encRex], y_0, y_a, y_c⟩, rfl⟩
  · simp [delo, del, encRex, h0, hH, h1, h4, hA, h6, hC, h7, n0, n0', m0, m0', m1, m1', hwe, hwe', hId, q0, q1, q2, q0.symm, q1.symm, q2.symm]
    refine ⟨?_, ?_⟩
    · refine TWoH.lendR [0] hih callable_27 (by simp [delo, del, encRex, h0, hH, h1, h4, hA, h6, hC, h7, n0, n0', m0, m0', m1, m1', hwe, hwe', hId, q0, q1, q2, q0.symm, q1.symm, q2.symm, List.findIdx?_cons]) (by simp [delo, del, encRex, h0, hH, h1, h4, hA, h6, hC, h7, n0, n0', m0, m0', m1, m1', hwe, hwe', hId, q0, q1, q2, q0.symm, q1.symm, q2.symm]) (by simp) (by simp) ?_
      rintro r o ⟨x, p'', rfl, hx, hp'', rfl⟩
      refine ⟨by simp [rdr], by simp, .inl (by simp [delo, del, encRex, h0, hH, h1, h4, hA, h6, hC, h7, n0, n0', m0, m0', m1, m1', hwe, hwe', hId, q0, q1, q2, q0.symm, q1.symm, q2.symm, List.findIdx?_cons]), fun q hq => ?_⟩
      clear hq
      obtain ⟨xk, xs, xl⟩ := x
      simp [-List.map_append, delo, del, encRex, h0, hH, h1, h4, hA, h6, hC, h7, n0, n0', m0, m0', m1, m1', hwe, hwe', hId, q0, q1, q2, q0.symm, q1.symm, q2.symm]
      refine gall_intro fun i2 g2 => ?_
      have u_0 : ¬ i2 = 0 := fun e => by rw [e] at g2; simp [delo, del, encRex, h0, hH, h1, h4, hA, h6, hC, h7, n0, n0', m0, m0', m1, m1', hwe, hwe', hId, q0, q1, q2, q0.symm, q1.symm, q2.symm] at g2
      have v_0 : ¬ 0 = i2 := fun e => u_0 e.symm
      have u_a : ¬ i2 = a := fun e => by rw [e] at g2; simp [delo, del, encRex, h0, hH, h1, h4, hA, h6, hC, h7, n0, n0', m0, m0', m1, m1', hwe, hwe', hId, q0, q1, q2, q0.symm, q1.symm, q2.symm] at g2
      have v_a : ¬ a = i2 := fun e => u_a e.symm
      have u_c : ¬ i2 = c := fun e => by rw [e] at g2; simp [delo, del, encRex, h0, hH, h1, h4, hA, h6, hC, h7, n0, n0', m0, m0', m1, m1', hwe, hwe', hId, q0, q1, q2, q0.symm, q1.symm, q2.symm] at g2
      have v_c : ¬ c = i2 := fun e => u_c e.symm
      have u_id : ¬ i2 = id := fun e => by rw [e] at g2; simp [delo, del, encRex, h0, hH, h1, h4, hA, h6, hC, h7, n0, n0', m0, m0', m1, m1', hwe, hwe', hId, q0, q1, q2, q0.symm, q1.symm, q2.symm] at g2
      have v_id : ¬ id = i2 := fun e => u_id e.symm
      simp [-List.map_append, delo, del, encRex, h0, hH, h1, h4, hA, h6, hC, h7, n0, n0', m0, m0', m1, m1', hwe, hwe', hId, q0, q1, q2, q0.symm, q1.symm, q2.symm, u_0, v_0, u_a, v_a, u_c, v_c, u_id, v_id, k1, k2]
      refine gall_intro fun i3 g3 => ?_
      have y_0 : ¬ i3 = 0 := fun e => by rw [e] at g3; simp [del, delo, del, encRex, h0, hH, h1, h4, hA, h6, hC, h7, n0, n0', m0, m0', m1, m1', hwe, hwe', hId, q0, q1, q2, q0.symm, q1.symm, q2.symm, u_0, v_0, u_a, v_a, u_c, v_c, u_id, v_id] at g3
      have z_0 : ¬ 0 = i3 := fun e => y_0 e.symm
      have y_a : ¬ i3 = a := fun e => by rw [e] at g3; simp [del, delo, del, encRex, h0, hH, h1, h4, hA, h6, hC, h7, n0, n0', m0, m0', m1, m1', hwe, hwe', hId, q0, q1, q2, q0.symm, q1.symm, q2.symm, u_0, v_0, u_a, v_a, u_c, v_c, u_id, v_id] at g3
      have z_a : ¬ a = i3 := fun e => y_a e.symm
      have y_c : ¬ i3 = c := fun e => by rw [e] at g3; simp [del, delo, del, encRex, h0, hH, h1, h4, hA, h6, hC, h7, n0, n0', m0, m0', m1, m1', hwe, hwe', hId, q0, q1, q2, q0.symm, q1.symm, q2.symm, u_0, v_0, u_a, v_a, u_c, v_c, u_id, v_id] at g3
      have z_c : ¬ c = i3 := fun e => y_c e.symm
      have y_i2 : ¬ i3 = i2 := fun e => by rw [e] at g3; simp [del, delo, del, encRex, h0, hH, h1, h4, hA, h6, hC, h7, n0, n0', m0, m0', m1, m1', hwe, hwe', hId, q0, q1, q2, q0.symm, q1.symm, q2.symm, u_0, v_0, u_a, v_a, u_c, v_c, u_id, v_id] at g3
      have z_i2 : ¬ i2 = i3 := fun e => y_i2 e.symm
      simp [-List.map_append, del, delo, del, encRex, h0, hH, h1, h4, hA, h6, hC, h7, n0, n0', m0, m0', m1, m1', hwe, hwe', hId, q0, q1, q2, q0.symm, q1.symm, q2.symm, u_0, v_0, u_a, v_a, u_c, v_c, u_id, v_id, y_0, z_0, y_a, z_a, y_c, z_c, y_i2, z_i2]
      exact ⟨.mk xk xs xl, hx, p'', hp'', .inr ⟨i3, rfl, by simp [z_c, y_c, encRex], y_0, y_a, y_c⟩, rfl⟩
    · refine TWoH.lendR [0] hih callable_27 (by simp [delo, del, encRex, h0, hH, h1, h4, hA, h6, hC, h7, n0, n0', m0, m0', m1, m1', hwe, hwe', hId, q0, q1, q2, q0.symm, q1.symm, q2.symm, List.findIdx?_cons]) (by simp [delo, del, encRex, h0, hH, h1, h4, hA, h6, hC, h7, n0, n0', m0, m0', m1, m1', hwe, hwe', hId, q0, q1, q2, q0.symm, q1.symm, q2.symm]) (by simp) (by simp) ?_
      rintro r o ⟨x, p'', rfl, hx, hp'', rfl⟩
      refine ⟨by simp [rdr], by simp, .inl (by simp [delo, del, encRex, h0, hH, h1, h4, hA, h6, hC, h7, n0, n0', m0, m0', m1, m1', hwe, hwe', hId, q0, q1, q2, q0.symm, q1.symm, q2.symm, List.findIdx?_cons]), fun q hq => ?_⟩
      clear hq
      obtain ⟨xk, xs, xl⟩ := x
      simp [-List.map_append, delo, del, encRex, h0, hH, h1, h4, hA, h6, hC, h7, n0, n0', m0, m0', m1, m1', hwe, hwe', hId, q0, q1, q2, q0.symm, q1.symm, q2.symm]
      refine ⟨?_, ?_⟩
      all_goals
        refine gall_intro fun i2 g2 => ?_
        have u_0 : ¬ i2 = 0 := fun e => by rw [e] at g2; simp [delo, del, encRex, h0, hH, h1, h4, hA, h6, hC, h7, n0, n0', m0, m0', m1, m1', hwe, hwe', hId, q0, q1, q2, q0.symm, q1.symm, q2.symm] at g2
        have v_0 : ¬ 0 = i2 := fun e => u_0 e.symm
        have u_a : ¬ i2 = a := fun e => by rw [e] at g2; simp [delo, del, encRex, h0, hH, h1, h4, hA, h6, hC, h7, n0, n0', m0, m0', m1, m1', hwe, hwe', hId, q0, q1, q2, q0.symm, q1.symm, q2.symm] at g2
        have v_a : ¬ a = i2 := fun e => u_a e.symm
        have u_c : ¬ i2 = c := fun e => by rw [e] at g2; simp [delo, del, encRex, h0, hH, h1, h4, hA, h6, hC, h7, n0, n0', m0, m0', m1, m1', hwe, hwe', hId, q0, q1, q2, q0.symm, q1.symm, q2.symm] at g2
        have v_c : ¬ c = i2 := fun e => u_c e.symm
        have u_id : ¬ i2 = id := fun e => by rw [e] at g2; simp [delo, del, encRex, h0, hH, h1, h4, hA, h6, hC, h7, n0, n0', m0, m0', m1, m1', hwe, hwe', hId, q0, q1, q2, q0.symm, q1.symm, q2.symm] at g2
        have v_id : ¬ id = i2 := fun e => u_id e.symm
        simp [-List.map_append, delo, del, encRex, h0, hH, h1, h4, hA, h6, hC, h7, n0, n0', m0, m0', m1, m1', hwe, hwe', hId, q0, q1, q2, q0.symm, q1.symm, q2.symm, u_0, v_0, u_a, v_a, u_c, v_c, u_id, v_id, k1, k2]
        refine gall_intro fun i3 g3 => ?_
        have y_0 : ¬ i3 = 0 := fun e => by rw [e] at g3; simp [del, delo, del, encRex, h0, hH, h1, h4, hA, h6, hC, h7, n0, n0', m0, m0', m1, m1', hwe, hwe', hId, q0, q1, q2, q0.symm, q1.symm, q2.symm, u_0, v_0, u_a, v_a, u_c, v_c, u_id, v_id] at g3
        have z_0 : ¬ 0 = i3 := fun e => y_0 e.symm
        have y_a : ¬ i3 = a := fun e => by rw [e] at g3; simp [del, delo, del, encRex, h0, hH, h1, h4, hA, h6, hC, h7, n0, n0', m0, m0', m1, m1', hwe, hwe', hId, q0, q1, q2, q0.symm, q1.symm, q2.symm, u_0, v_0, u_a, v_a, u_c, v_c, u_id, v_id] at g3
        have z_a : ¬ a = i3 := fun e => y_a e.symm
        have y_c : ¬ i3 = c := fun e => by rw [e] at g3; simp [del, delo, del, encRex, h0, hH, h1, h4, hA, h6, hC, h7, n0, n0', m0, m0', m1, m1', hwe, hwe', hId, q0, q1, q2, q0.symm, q1.symm, q2.symm, u_0, v_0, u_a, v_a, u_c, v_c, u_id, v_id] at g3
        have z_c : ¬ c = i3 := fun e => y_c e.symm
        have y_i2 : ¬ i3 = i2 := fun e => by rw [e] at g3; simp [del, delo, del, encRex, h0, hH, h1, h4, hA, h6, hC, h7, n0, n0', m0, m0', m1, m1', hwe, hwe', hId, q0, q1, q2, q0.symm, q1.symm, q2.symm, u_0, v_0, u_a, v_a, u_c, v_c, u_id, v_id] at g3
        have z_i2 : ¬ i2 = i3 := fun e => y_i2 e.symm
        simp [-List.map_append, del, delo, del, encRex, h0, hH, h1, h4, hA, h6, hC, h7, n0, n0', m0, m0', m1, m1', hwe, hwe', hId, q0, q1, q2, q0.symm, q1.symm, q2.symm, u_0, v_0, u_a, v_a, u_c, v_c, u_id, v_id, y_0, z_0, y_a, z_a, y_c, z_c, y_i2, z_i2]
        exact ⟨.mk xk xs xl, hx, p'', hp'', .inr ⟨i3, rfl, by simp [z_c, y_c, encRex], y_0, y_a, y_c⟩, rfl⟩
end Go.Proofs.YtcjmocldhjfgoaaDoor.R

open Go Go.Proofs.YtcjmocldhjfgoaaDoor.T
namespace Go.Proofs.YtcjmocldhjfgoaaDoor.R
set_option maxHeartbeats 4000000
set_option maxRecDepth 100000
set_option linter.unusedSimpArgs false
set_option linter.unusedVariables false
attribute [local simp] bsV bsRows chunk fillT partsT appV makeV rowsOf cellsOf placeOf frzT frz1
theorem tcr_l2Some (b : List UInt8) (p : Nat) (hb : b.length ≤ 2000) (hp : p ≤ 870000000) : TCR Tryd.prog 30 [.pd 0 0 0 0] [rdr b p] (fun r o => ∃ (x : Rex) (p' : Nat), r = .agg (encRex x) ∧ Sm x ∧ p' ≤ p + 300 ∧ o = [rdr b p']) := by
  suffices h : TCR Tryd.prog 30 [.pd 0 0 0 0] [rdr b p] (fun r o => ∃ (x : Rex) (p' : Nat), toRo r = .agg (encRex x) ∧ Sm x ∧ p' ≤ p + 300 ∧ o = [rdr b p']) from
    h.frz.mono fun r o ⟨r0, ⟨x, p', h1, h2⟩, h3⟩ => ⟨x, p', by rw [h3, h1], h2⟩
  refine TCR.enter Tryd.func30 rfl (by simp [Tryd.ntmps30]) rfl (tw_sound (ρ := []) ?_)
  rw [Tryd.ntmps30]
  simp
  refine gall_intro fun a ha => ?_
  have n0 : ¬ a = 0 := fun e => by rw [e] at ha; simp at ha
  have n0' : ¬ 0 = a := fun e => n0 e.symm
  simp [n0, n0']
  refine TWoH.lendR [0] (tcr_pick b p 3 hb (by omega)) callable_18 (by simp [List.findIdx?_cons, n0, n0']) (by simp [n0, n0']) (by simp) (by simp) ?_
  rintro r o ⟨k, rfl, k0, k1, rfl⟩
  refine ⟨by simp [rdr], by simp, .inl (by simp [List.findIdx?_cons, n0, n0']), fun q hq => ?_⟩
  clear hq
  have k2 := k1 (by omega)
  obtain ⟨d, hd, hd1⟩ : ∃ d : Nat, 2 + k = (d : Int) ∧ d ≤ 4 := ⟨(2 + k).toNat, by omega, by omega⟩
  have hw : IntKind.i64.wrap (2 + k) = d := by rw [wrapi (by omega)]; exact hd
  have hRC : RC d ≤ 208 := by
    unfold RC
    have : 2 ^ d ≤ 2 ^ 4 := Nat.pow_le_pow_right (by omega) hd1
    omega
  simp [hw, n0, n0']
  refine TWoH.lendR [0] (tcr_l2Rex d b (p + 1) (by omega) hb (by omega)) callable_27 (by simp [List.findIdx?_cons, n0, n0', hw]) (by simp [n0, n0']) (by simp) (by simp) ?_
  rintro r o ⟨x, p', rfl, hx, hp', rfl⟩
  refine ⟨by simp [rdr], by simp, .inl (by simp [List.findIdx?_cons, n0, n0']), fun q hq => ?_⟩
  clear hq
  have hok := tc_sRexOk x hx
  obtain ⟨xk, xs, xl⟩ := x
  simp [n0, n0', encRex]
  refine gall_intro fun c hc => ?_
  have m0 : ¬ c = 0 := fun e => by rw [e] at hc; simp at hc
  have m0' : ¬ 0 = c := fun e => m0 e.symm
  have m1 : ¬ c = a := fun e => by rw [e] at hc; simp [n0, n0'] at hc
  have m1' : ¬ a = c := fun e => m1 e.symm
  clear hc
  simp [n0, n0', m0, m0', m1, m1']
  refine TWoH.callV hok callable_16 (by simp [n0, n0', m0, m0', m1, m1', encRex, noHR_rex]) (by simp) (by simp) (by simp) ?_
  simp [n0, n0', m0, m0', m1, m1']
  cases c1 : rexOk (.mk xk xs xl)
  · simp [n0, n0', m0, m0', m1, m1']
    refine TWoH.lendR [0] (tcr_l2Leaf b p' hb (by omega)) callable_29 (by simp [List.findIdx?_cons, n0, n0']) (by simp [n0, n0', m0, m0', m1, m1']) (by simp) (by simp) ?_
    rintro r o ⟨y, p'', rfl, hy, hp'', rfl⟩
    refine ⟨by simp [rdr], by simp, .inl (by simp [List.findIdx?_cons, n0, n0']), fun q hq => ?_⟩
    clear hq
    simp [n0, n0', m0, m0', m1, m1']
    exact ⟨_, _, ⟨rfl, rfl⟩, by simp, by simp [n0, n0', m0, m0', m1, m1'], y, by simp, hy.sm, p'', by omega, by simp [n0, n0', m0, m0', m1, m1']⟩
  · simp [n0, n0', m0, m0', m1, m1']
    exact ⟨_, _, ⟨rfl, rfl⟩, by simp [noHR_rex], by simp [n0, n0', m0, m0', m1, m1'], .mk xk xs xl, by simp [encRex], hx, p', by omega, by simp [n0, n0', m0, m0', m1, m1']⟩
end Go.Proofs.YtcjmocldhjfgoaaDoor.R

open Go Go.Proofs.YtcjmocldhjfgoaaDoor.T
namespace Go.Proofs.YtcjmocldhjfgoaaDoor.R
set_option maxHeartbeats 4000000
set_option maxRecDepth 100000
set_option linter.unusedSimpArgs false
set_option linter.unusedVariables false
attribute [local simp] bsV bsRows chunk fillT partsT appV makeV rowsOf cellsOf placeOf frzT frz1
theorem upd_none_iff {X : Option TV} {i j : Nat} {t : TV} : ((if i = j then some t else X) = none) = (¬ i = j ∧ X = none) := by
  by_cases e : i = j
  · simp [e]
  · simp [e]
theorem upd_none_iff' {X : Option TV} {i j : Nat} {t : TV} : ((if i = j then some t else X) = none) = (¬ j = i ∧ X = none) := by
  rw [upd_none_iff, eq_iff_iff]
  exact ⟨fun h => ⟨fun e => h.1 e.symm, h.2⟩, fun h => ⟨fun e => h.1 e.symm, h.2⟩⟩
/-- How it stands behind the first lines of l2Copy. -/
def CopyM (k : Int) (s : List (Int × Int)) (l : List Rex) (a : Nat) (st : St) : Prop := ∃ c id, st.σ 3 = .pd c 0 0 0 ∧ st.σ 10 = .hd id ∧ st.σ 1 = .rptr [.val (.int .i64 k), .ro (s.map encS), .ro (encRexL l)] 0 ∧ st.σ 2 = .pd a 0 0 0 ∧
  st.H a = some (.box 32 [.val (.int .i64 0), .val (.slice none 0 0), .val (.slice none 0 0)]) ∧ st.H c = some (.box 32 [.val (.int .i64 k), .hd id, .val (.slice none 0 0)]) ∧ st.H id = some (.own 58 (s.map encS)) ∧ ¬ a = c ∧ ¬ a = id ∧ ¬ c = id
theorem tc_l2CopyS (k : Int) (s : List (Int × Int)) (l : List Rex) (hs : s.length ≤ 1048576) (hl : l.length ≤ 1048576) (ih : ∀ i (h : i < l.length), TC Tryd.prog 32 [.agg (encRex l[i])] [] (.agg (encRex l[i])) []) :
    TC Tryd.prog 32 [.agg (encRex (.mk k s l))] [] (.agg (encRex (.mk k s l))) [] := by
  suffices h : TC Tryd.prog 32 [.agg (encRex (.mk k s l))] [] (.agg [.val (.int .i64 k), .own 58 (s.map encS), if l = [] then .val (.slice none 0 0) else .own 32 (l.map encRex)]) [] by
    have := h.frz
    by_cases c : l = []
    · subst c; simpa [encRex, encRexL] using this
    · simpa [encRex, encRexL_eq, c] using this
  refine TC.enter Tryd.func32 rfl (by simp [Tryd.ntmps32]) rfl (tw_sound (ρ := [1]) ?_)
  rw [Tryd.ntmps32]
  simp [encRex]
  refine gall_intro fun a ha => ?_
  simp
  have k1 : s.length * 16 ≤ 140737488355328 := by omega
  have k2 : s.length ≤ 9223372036854775807 := by omega
  have kr : ∀ (r : List TV) (x x_1 : Int), (x, x_1) ∈ s → encS (x, x_1) = r → r.length = 2 := fun r x y _ e => by rw [← e]; simp [encS]
  refine TWcH.midB (ρ := [1]) (CopyM k s l a)
    (.first 0 (.first 3 (.pick 1 (.pick 2 (.pick 4 (.pick 5 (.first 6 (.pick 7 (.pick 8 .fin .fin) .fin)) (.pick 7 (.pick 5 (.first 6 (.pick 8 .fin .fin)) .fin) .fin)) (.pick 7 (.pick 4 (.pick 5 (.first 6 (.pick 8 .fin .fin)) .fin) .fin) .fin)) (.pick 4 (.pick 2 (.pick 5 (.first 6 (.pick 7 (.pick 8 .fin .fin) .fin)) (.pick 7 (.pick 5 (.first 6 (.pick 8 .fin .fin)) .fin) .fin)) (.pick 7 (.pick 2 (.pick 5 (.first 6 (.pick 8 .fin .fin)) .fin) .fin) .fin)) (.pick 7 (.pick 2 (.pick 4 (.pick 5 (.first 6 (.pick 8 .fin .fin)) .fin) .fin) (.pick 4 (.pick 2 (.pick 5 (.first 6 (.pick 8 .fin .fin)) .fin) .fin) .fin)) .fin))) (.pick 2 (.pick 1 (.pick 4 (.pick 5 (.first 6 (.pick 7 (.pick 8 .fin .fin) .fin)) (.pick 7 (.pick 5 (.first 6 (.pick 8 .fin .fin)) .fin) .fin)) (.pick 7 (.pick 4 (.pick 5 (.first 6 (.pick 8 .fin .fin)) .fin) .fin) .fin)) (.pick 4 (.pick 1 (.pick 5 (.first 6 (.pick 7 (.pick 8 .fin .fin) .fin)) (.pick 7 (.pick 5 (.first 6 (.pick 8 .fin .fin)) .fin) .fin)) (.pick 5 (.pick 1 (.first 6 (.pick 7 (.pick 8 .fin .fin) .fin)) (.pick 7 (.pick 1 (.first 6 (.pick 8 .fin .fin)) .fin) .fin)) (.pick 7 (.pick 1 (.pick 5 (.first 6 (.pick 8 .fin .fin)) .fin) (.pick 5 (.pick 1 (.first 6 (.pick 8 .fin .fin)) .fin) .fin)) .fin))) (.pick 7 (.pick 1 (.pick 4 (.pick 5 (.first 6 (.pick 8 .fin .fin)) .fin) .fin) (.pick 4 (.pick 1 (.pick 5 (.first 6 (.pick 8 .fin .fin)) .fin) (.pick 5 (.pick 1 (.first 6 (.pick 8 .fin .fin)) .fin) .fin)) .fin)) .fin))) (.pick 4 (.pick 1 (.pick 2 (.pick 5 (.first 6 (.pick 7 (.pick 8 .fin .fin) .fin)) (.pick 7 (.pick 5 (.first 6 (.pick 8 .fin .fin)) .fin) .fin)) (.pick 7 (.pick 2 (.pick 5 (.first 6 (.pick 8 .fin .fin)) .fin) .fin) .fin)) (.pick 2 (.pick 1 (.pick 5 (.first 6 (.pick 7 (.pick 8 .fin .fin) .fin)) (.pick 7 (.pick 5 (.first 6 (.pick 8 .fin .fin)) .fin) .fin)) (.pick 5 (.pick 1 (.first 6 (.pick 7 (.pick 8 .fin .fin) .fin)) (.pick 7 (.pick 1 (.first 6 (.pick 8 .fin .fin)) .fin) .fin)) (.pick 7 (.pick 1 (.pick 5 (.first 6 (.pick 8 .fin .fin)) .fin) (.pick 5 (.pick 1 (.first 6 (.pick 8 .fin .fin)) .fin) .fin)) .fin))) (.pick 7 (.pick 1 (.pick 2 (.pick 5 (.first 6 (.pick 8 .fin .fin)) .fin) .fin) (.pick 2 (.pick 1 (.pick 5 (.first 6 (.pick 8 .fin .fin)) .fin) (.pick 5 (.pick 1 (.first 6 (.pick 8 .fin .fin)) .fin) .fin)) .fin)) .fin))) (.pick 7 (.pick 1 (.pick 2 (.pick 4 (.pick 5 (.first 6 (.pick 8 .fin .fin)) .fin) .fin) (.pick 4 (.pick 2 (.pick 5 (.first 6 (.pick 8 .fin .fin)) .fin) .fin) .fin)) (.pick 2 (.pick 1 (.pick 4 (.pick 5 (.first 6 (.pick 8 .fin .fin)) .fin) .fin) (.pick 4 (.pick 1 (.pick 5 (.first 6 (.pick 8 .fin .fin)) .fin) (.pick 5 (.pick 1 (.first 6 (.pick 8 .fin .fin)) .fin) .fin)) .fin)) (.pick 4 (.pick 1 (.pick 2 (.pick 5 (.first 6 (.pick 8 .fin .fin)) .fin) .fin) (.pick 2 (.pick 1 (.pick 5 (.first 6 (.pick 8 .fin .fin)) .fin) (.pick 5 (.pick 1 (.first 6 (.pick 8 .fin .fin)) .fin) .fin)) .fin)) .fin))) .fin)))))) mixed (by kernel_rfl) ?_ ?_
  · simp [k1, k2]
    clear ha ih
    repeat' first
      | refine And.intro ?_ ?_
      | refine gif_intro (fun _ => ?_) (fun c => absurd kr c)
      | (refine gall_intro fun i g => ?_
         have w1 : ¬ a = i := ne_some (by simp [delo, del, *]) g
         have w2 : ¬ i = a := fun e => w1 e.symm
         have g2 := g
         (try simp [upd_none_iff] at g)
         (try simp [upd_none_iff'] at g2)
         simp [k1, k2, delo, del, *])
      | (refine ⟨_, _, rfl, rfl, rfl, rfl, ?_, ?_, ?_, ?_, ?_, ?_⟩ <;> first | (simp [delo, del, *]; done) | skip)
    all_goals skip
  rintro ⟨σ, H⟩ ⟨c, id, h3, h10, h1, h2, hA, hC, hI, n1, n2, n3⟩
  simp only at h3 h10 h1 h2 hA hC hI
  have n1' : ¬ c = a := fun e => n1 e.symm
  have n2' : ¬ id = a := fun e => n2 e.symm
  have n3' : ¬ id = c := fun e => n3 e.symm
  have hle := encRexL_eq l
  rw [hle] at h1
  simp [h3, h1, h2, hA, hC, hI, n1, n2, n3, n1', n2', n3']
  refine TWcH.loop [1] (fun m st => ∃ (i : Nat) (kc : TV), i + m = l.length ∧ ((i = 0 ∧ kc = .val (.slice none 0 0)) ∨ ∃ kd, kc = .hd kd ∧ 0 < i ∧ st.H kd = some (.own 32 ((l.take i).map encRex)) ∧ ¬ kd = a ∧ ¬ kd = c ∧ ¬ kd = id) ∧ st.σ 3 = .pd c 0 0 0 ∧ st.σ 1 = .rptr [.val (.int .i64 k), .ro (s.map encS), .ro (l.map encRex)] 0 ∧ st.σ 2 = .pd a 0 0 0 ∧
    st.H a = some (.box 32 [.val (.int .i64 0), .val (.slice none 0 0), .val (.slice none 0 0)]) ∧ st.H c = some (.box 32 [.val (.int .i64 k), .hd id, kc]) ∧ st.H id = some (.own 58 (s.map encS)) ∧ st.σ 4 = .val (.int .i64 i)) l.length ⟨0, .val (.slice none 0 0), by simp [h3, h1, h2, hA, hC, hI]⟩ ?_
  clear h3 h10 h1 h2 hA hC hI
  clear σ H
  rintro m ⟨σ, H⟩ ⟨i, kc, him, hkc, h3, h1, h2, hA, hC, hI, h4⟩
  simp only at hkc h3 h1 h2 hA hC hI h4
  by_cases hi : i < l.length
  · have hw : IntKind.i64.wrap ((i : Int) + 1) = i + 1 := wrapi (by omega)
    have k3 : (i + 1) * 56 ≤ 140737488355328 := by omega
    have k4 : i ≤ 9223372036854775806 := by omega
    have htl : (l.take i).length = i := by simp; omega
    have htk : l.take (i + 1) = l.take i ++ [l[i]] := by rw [List.take_add_one, List.getElem?_eq_getElem hi]; rfl
    have hih := ih i hi
    obtain ⟨x, hx⟩ : ∃ x, l[i] = x := ⟨_, rfl⟩
    have hat : ∀ h, l[i]'h = x := fun _ => hx
    rw [hx] at hih htk
    obtain ⟨xk, xs, xl⟩ := x
    have htk2 : List.take (i + 1) (List.map encRex l) = (l.take i).map encRex ++ [encRex (.mk xk xs xl)] := by rw [← List.map_take, htk]; simp
    generalize l.take i = L at htl htk2 hkc
    clear htk
    simp [h3, h1, h2, hA, hC, hI, h4, n1, n2, n3, n1', n2', n3', delo, del, encRex, hi, hat, htl, hi, hat]
    refine TWcH.regionD (ρ := [1]) [0, 1, 2, 3, 4, 5, 6, 7, 8, 9, 10, 11] 11 mixed (by kernel_rfl) ?_
    rcases hkc with ⟨e0, rfl⟩ | ⟨kd, rfl, i0, hK, q1, q2, q3⟩
    · obtain rfl : L = [] := List.eq_nil_of_length_eq_zero (by omega)
      simp [h3, h1, h2, hA, hC, hI, h4, n1, n2, n3, n1', n2', n3', delo, del, encRex, hi, hat, htl, hi, hat]
      refine TWqH.callV hih callable_32 (by simp [encRex, noHR_rex]) (by simp) (by simp) (by simp) ?_
      simp [h3, h1, h2, hA, hC, hI, h4, n1, n2, n3, n1', n2', n3', delo, del, encRex, hi, hat, htl, hi, hat]
      refine gall_intro fun i2 g2 => ?_
      have u_a : ¬ i2 = a := fun e => by rw [e] at g2; simp [h3, h1, h2, hA, hC, hI, h4, n1, n2, n3, n1', n2', n3', delo, del, encRex, hi, hat, htl] at g2
      have v_a : ¬ a = i2 := fun e => u_a e.symm
      have u_c : ¬ i2 = c := fun e => by rw [e] at g2; simp [h3, h1, h2, hA, hC, hI, h4, n1, n2, n3, n1', n2', n3', delo, del, encRex, hi, hat, htl] at g2
      have v_c : ¬ c = i2 := fun e => u_c e.symm
      have u_id : ¬ i2 = id := fun e => by rw [e] at g2; simp [h3, h1, h2, hA, hC, hI, h4, n1, n2, n3, n1', n2', n3', delo, del, encRex, hi, hat, htl] at g2
      have v_id : ¬ id = i2 := fun e => u_id e.symm
      simp [-List.map_append, h3, h1, h2, hA, hC, hI, h4, n1, n2, n3, n1', n2', n3', delo, del, encRex, hi, hat, htl, u_a, v_a, u_c, v_c, u_id, v_id, k3, k4]
      refine gall_intro fun i3 g3 => ?_
      have y_a : ¬ i3 = a := fun e => by rw [e] at g3; simp [h3, h1, h2, hA, hC, hI, h4, n1, n2, n3, n1', n2', n3', delo, del, encRex, hi, hat, htl, u_a, v_a, u_c, v_c, u_id, v_id] at g3
      have z_a : ¬ a = i3 := fun e => y_a e.symm
      have y_c : ¬ i3 = c := fun e => by rw [e] at g3; simp [h3, h1, h2, hA, hC, hI, h4, n1, n2, n3, n1', n2', n3', delo, del, encRex, hi, hat, htl, u_a, v_a, u_c, v_c, u_id, v_id] at g3
      have z_c : ¬ c = i3 := fun e => y_c e.symm
      have y_id : ¬ i3 = id := fun e => by rw [e] at g3; simp [h3, h1, h2, hA, hC, hI, h4, n1, n2, n3, n1', n2', n3', delo, del, encRex, hi, hat, htl, u_a, v_a, u_c, v_c, u_id, v_id] at g3
      have z_id : ¬ id = i3 := fun e => y_id e.symm
      have y_i2 : ¬ i3 = i2 := fun e => by rw [e] at g3; simp [h3, h1, h2, hA, hC, hI, h4, n1, n2, n3, n1', n2', n3', delo, del, encRex, hi, hat, htl, u_a, v_a, u_c, v_c, u_id, v_id] at g3
      have z_i2 : ¬ i2 = i3 := fun e => y_i2 e.symm
      simp [-List.map_append, h3, h1, h2, hA, hC, hI, h4, n1, n2, n3, n1', n2', n3', delo, del, encRex, hi, hat, htl, u_a, v_a, u_c, v_c, u_id, v_id, y_a, z_a, y_c, z_c, y_id, z_id, y_i2, z_i2, hw]
      exact ⟨m - 1, by omega, i + 1, by omega, .hd i3, .inr ⟨i3, rfl, by omega, by rw [htk2]; simp [y_c, encRex], y_a, y_c, y_id⟩, rfl, by omega⟩
    · have q1' : ¬ a = kd := fun e => q1 e.symm
      have q2' : ¬ c = kd := fun e => q2 e.symm
      have q3' : ¬ id = kd := fun e => q3 e.symm
      simp [h3, h1, h2, hA, hC, hI, h4, n1, n2, n3, n1', n2', n3', delo, del, encRex, hi, hat, htl, hK, q1, q2, q3, q1', q2', q3', hi, hat]
      refine TWqH.callV hih callable_32 (by simp [encRex, noHR_rex]) (by simp) (by simp) (by simp) ?_
      simp [h3, h1, h2, hA, hC, hI, h4, n1, n2, n3, n1', n2', n3', delo, del, encRex, hi, hat, htl, hK, q1, q2, q3, q1', q2', q3', hi, hat]
      refine gall_intro fun i2 g2 => ?_
      have u_a : ¬ i2 = a := fun e => by rw [e] at g2; simp [h3, h1, h2, hA, hC, hI, h4, n1, n2, n3, n1', n2', n3', delo, del, encRex, hi, hat, htl, hK, q1, q2, q3, q1', q2', q3'] at g2
      have v_a : ¬ a = i2 := fun e => u_a e.symm
      have u_c : ¬ i2 = c := fun e => by rw [e] at g2; simp [h3, h1, h2, hA, hC, hI, h4, n1, n2, n3, n1', n2', n3', delo, del, encRex, hi, hat, htl, hK, q1, q2, q3, q1', q2', q3'] at g2
      have v_c : ¬ c = i2 := fun e => u_c e.symm
      have u_id : ¬ i2 = id := fun e => by rw [e] at g2; simp [h3, h1, h2, hA, hC, hI, h4, n1, n2, n3, n1', n2', n3', delo, del, encRex, hi, hat, htl, hK, q1, q2, q3, q1', q2', q3'] at g2
      have v_id : ¬ id = i2 := fun e => u_id e.symm
      have u_kd : ¬ i2 = kd := fun e => by rw [e] at g2; simp [h3, h1, h2, hA, hC, hI, h4, n1, n2, n3, n1', n2', n3', delo, del, encRex, hi, hat, htl, hK, q1, q2, q3, q1', q2', q3'] at g2
      have v_kd : ¬ kd = i2 := fun e => u_kd e.symm
      simp [-List.map_append, h3, h1, h2, hA, hC, hI, h4, n1, n2, n3, n1', n2', n3', delo, del, encRex, hi, hat, htl, hK, q1, q2, q3, q1', q2', q3', u_a, v_a, u_c, v_c, u_id, v_id, u_kd, v_kd, k3, k4]
      refine gall_intro fun i3 g3 => ?_
      have y_a : ¬ i3 = a := fun e => by rw [e] at g3; simp [h3, h1, h2, hA, hC, hI, h4, n1, n2, n3, n1', n2', n3', delo, del, encRex, hi, hat, htl, hK, q1, q2, q3, q1', q2', q3', u_a, v_a, u_c, v_c, u_id, v_id, u_kd, v_kd] at g3
      have z_a : ¬ a = i3 := fun e => y_a e.symm
      have y_c : ¬ i3 = c := fun e => by rw [e] at g3; simp [h3, h1, h2, hA, hC, hI, h4, n1, n2, n3, n1', n2', n3', delo, del, encRex, hi, hat, htl, hK, q1, q2, q3, q1', q2', q3', u_a, v_a, u_c, v_c, u_id, v_id, u_kd, v_kd] at g3
      have z_c : ¬ c = i3 := fun e => y_c e.symm
      have y_id : ¬ i3 = id := fun e => by rw [e] at g3; simp [h3, h1, h2, hA, hC, hI, h4, n1, n2, n3, n1', n2', n3', delo, del, encRex, hi, hat, htl, hK, q1, q2, q3, q1', q2', q3', u_a, v_a, u_c, v_c, u_id, v_id, u_kd, v_kd] at g3
      have z_id : ¬ id = i3 := fun e => y_id e.symm
      have y_i2 : ¬ i3 = i2 := fun e => by rw [e] at g3; simp [h3, h1, h2, hA, hC, hI, h4, n1, n2, n3, n1', n2', n3', delo, del, encRex, hi, hat, htl, hK, q1, q2, q3, q1', q2', q3', u_a, v_a, u_c, v_c, u_id, v_id, u_kd, v_kd] at g3
      have z_i2 : ¬ i2 = i3 := fun e => y_i2 e.symm
      simp [-List.map_append, h3, h1, h2, hA, hC, hI, h4, n1, n2, n3, n1', n2', n3', delo, del, encRex, hi, hat, htl, hK, q1, q2, q3, q1', q2', q3', u_a, v_a, u_c, v_c, u_id, v_id, u_kd, v_kd, y_a, z_a, y_c, z_c, y_id, z_id, y_i2, z_i2, hw]
      exact ⟨m - 1, by omega, i + 1, by omega, .hd i3, .inr ⟨i3, rfl, by omega, by rw [htk2]; simp [y_c, encRex], y_a, y_c, y_id⟩, rfl, by omega⟩
  · obtain rfl : i = l.length := by omega
    rcases hkc with ⟨e0, rfl⟩ | ⟨kd, rfl, i0, hK, q1, q2, q3⟩
    · obtain rfl : l = [] := List.eq_nil_of_length_eq_zero e0
      simp [h3, h1, h2, hA, hC, hI, h4, n1, n2, n3, n1', n2', n3', delo, del, encRex]
    · have q1' : ¬ a = kd := fun e => q1 e.symm
      have q2' : ¬ c = kd := fun e => q2 e.symm
      have q3' : ¬ id = kd := fun e => q3 e.symm
      have ln : ¬ l = [] := fun e => by subst e; simp at i0
      rw [List.take_length] at hK
      simp [h3, h1, h2, hA, hC, hI, h4, n1, n2, n3, n1', n2', n3', delo, del, encRex, hK, q1, q2, q3, q1', q2', q3', ln]
end Go.Proofs.YtcjmocldhjfgoaaDoor.R

open Go Go.Proofs.YtcjmocldhjfgoaaDoor.T
namespace Go.Proofs.YtcjmocldhjfgoaaDoor.R
set_option maxHeartbeats 4000000
set_option maxRecDepth 100000
set_option linter.unusedSimpArgs false
set_option linter.unusedVariables false
mutual
theorem tc_l2Copy : ∀ (r : Rex), Sm r → TC Tryd.prog 32 [.agg (encRex r)] [] (.agg (encRex r)) []
  | .mk k s l, h => tc_l2CopyS k s l h.1 h.2.1 (tc_l2CopyL l h.2.2)
theorem tc_l2CopyL : ∀ (l : List Rex), SmL l → ∀ i (h : i < l.length), TC Tryd.prog 32 [.agg (encRex l[i])] [] (.agg (encRex l[i])) []
  | r :: l, h, 0, _ => tc_l2Copy r h.1
  | r :: l, h, i + 1, hi => by
    simp only [List.getElem_cons_succ]
    exact tc_l2CopyL l h.2 i (by simpa using hi)
end
end Go.Proofs.YtcjmocldhjfgoaaDoor.R

open Go Go.Proofs.YtcjmocldhjfgoaaDoor.T
namespace Go.Proofs.YtcjmocldhjfgoaaDoor.R
set_option maxHeartbeats 4000000
set_option maxRecDepth 100000
set_option linter.unusedSimpArgs false
set_option linter.unusedVariables false
attribute [local simp] bsV bsRows chunk fillT partsT appV makeV rowsOf cellsOf placeOf frzT frz1
def KB : List Int := [0, 8, 3, 5]
/-- How the box stands in the loops: L says how the parts are held. -/
def BentAt (b : List UInt8) (p1 a c ti N : Nat) (L0 : TV → List Rex → (Nat → Option TV) → Prop) (m : Nat) (st : St) : Prop := ∃ (i : Nat) (yk : Int) (ys : List (Int × Int)) (yl : List Rex) (S L : TV), i + m = N ∧ Sm (.mk yk ys yl) ∧ (S = .ro (ys.map encS) ∨ (ys = [] ∧ S = .val (.slice none 0 0))) ∧ L0 L yl st.H ∧
  st.σ 0 = .pd 0 0 0 0 ∧ st.H 0 = some (rdr b p1) ∧ st.σ 2 = .pd a 0 0 0 ∧ st.H a = some (.box 32 [.val (.int .i64 0), .val (.slice none 0 0), .val (.slice none 0 0)]) ∧ st.σ 3 = .pd c 0 0 0 ∧ st.H c = some (.box 32 [.val (.int .i64 yk), S, L]) ∧ st.σ ti = .val (.int .i64 i)
def LRo : TV → List Rex → (Nat → Option TV) → Prop := fun L yl _ => L = .ro (encRexL yl)
def LAny (a c : Nat) : TV → List Rex → (Nat → Option TV) → Prop := fun L yl H => L = .ro (encRexL yl) ∨ ∃ j rows, L = .hd j ∧ H j = some (.own 32 rows) ∧ roRows rows = encRexL yl ∧ ¬ j = 0 ∧ ¬ j = a ∧ ¬ j = c
theorem bent_turn {b : List UInt8} {p1 a c ti N n : Nat} (n0 : ¬ a = 0) (m0 : ¬ c = 0) (m1 : ¬ c = a) : ∀ m s, BentAt b p1 a c ti N (LAny a c) m s → Turn Tryd.prog n s (BentAt b p1 a c ti N LRo m) := by
  rintro m ⟨σ, H⟩ ⟨i, yk, ys, yl, S, L, him, hy, hS, hL, h0, hH, h2, hA, h3, hC, h4⟩
  simp only at hL h0 hH h2 hA h3 hC h4
  rcases hL with rfl | ⟨j, rows, rfl, hj, hr, q0, q1, q2⟩
  · exact Turn.same ⟨i, yk, ys, yl, S, _, him, hy, hS, rfl, h0, hH, h2, hA, h3, hC, h4⟩
  · have q0' : ¬ 0 = j := fun e => q0 e.symm
    have q1' : ¬ a = j := fun e => q1 e.symm
    have q2' : ¬ c = j := fun e => q2 e.symm
    refine Turn.freezeA j hj ?_
    refine ⟨i, yk, ys, yl, S, .ro (encRexL yl), him, hy, hS, rfl, ?_⟩
    rcases hS with rfl | ⟨_, rfl⟩ <;> simp [h0, hH, h2, hA, h3, hC, h4, del, q0', q1', q2', frzO, rdr, toRo, hr]
theorem tcr_l2Bent (b : List UInt8) (p : Nat) (hb : b.length ≤ 2000) (hp : p ≤ 860000000) : TCR Tryd.prog 20 [.pd 0 0 0 0] [rdr b p] (fun r o => ∃ (x : Rex) (p' : Nat), r = .agg (encRex x) ∧ Sm x ∧ p' ≤ p + 400 ∧ o = [rdr b p']) := by
  suffices h : TCR Tryd.prog 20 [.pd 0 0 0 0] [rdr b p] (fun r o => ∃ (x : Rex) (p' : Nat), toRo r = .agg (encRex x) ∧ Sm x ∧ p' ≤ p + 400 ∧ o = [rdr b p']) from
    h.frz.mono fun r o ⟨r0, ⟨x, p', h1, h2⟩, h3⟩ => ⟨x, p', by rw [h3, h1], h2⟩
  refine TCR.enter Tryd.func20 rfl (by simp [Tryd.ntmps20]) rfl (tw_sound (ρ := []) ?_)
  rw [Tryd.ntmps20]
  simp
  refine gall_intro fun a ha => ?_
  have n0 : ¬ a = 0 := fun e => by rw [e] at ha; simp at ha
  have n0' : ¬ 0 = a := fun e => n0 e.symm
  clear ha
  simp [n0, n0']
  refine TWoH.lendR [0] (tcr_l2Some b p hb (by omega)) callable_30 (by simp [List.findIdx?_cons, n0, n0']) (by simp [n0, n0']) (by simp) (by simp) ?_
  rintro r o ⟨x, p1, rfl, hx, hp1, rfl⟩
  refine ⟨by simp [rdr], by simp, .inl (by simp [List.findIdx?_cons, n0, n0']), fun q hq => ?_⟩
  clear hq
  obtain ⟨xk, xs, xl⟩ := x
  have hx1 := hx
  simp only [Sm] at hx1
  simp [n0, n0', encRex]
  refine gall_intro fun c hc => ?_
  have m0 : ¬ c = 0 := fun e => by rw [e] at hc; simp at hc
  have m0' : ¬ 0 = c := fun e => m0 e.symm
  have m1 : ¬ c = a := fun e => by rw [e] at hc; simp [n0, n0'] at hc
  have m1' : ¬ a = c := fun e => m1 e.symm
  clear hc
  simp [n0, n0', m0, m0', m1, m1']
  refine TWoH.lendR [0] (tcr_pick b p1 48 hb (by omega)) callable_18 (by simp [List.findIdx?_cons, n0, n0', m0, m0']) (by simp [n0, n0', m0, m0', m1, m1']) (by simp) (by simp) ?_
  rintro r o ⟨k, rfl, k0, k1, rfl⟩
  refine ⟨by simp [rdr], by simp, .inl (by simp [List.findIdx?_cons, n0, n0', m0, m0']), fun q hq => ?_⟩
  clear hq
  by_cases c0 : k = 0
  · simp [c0, n0, n0', m0, m0', m1, m1']
    refine gall_intro fun i1 g1 => ?_
    have a0 : ¬ i1 = 0 := fun e => by rw [e] at g1; simp at g1
    have a0' : ¬ 0 = i1 := fun e => a0 e.symm
    have a1 : ¬ i1 = a := fun e => by rw [e] at g1; simp [n0, n0', m0, m0', m1, m1'] at g1
    have a1' : ¬ a = i1 := fun e => a1 e.symm
    have a2 : ¬ i1 = c := fun e => by rw [e] at g1; simp [n0, n0', m0, m0', m1, m1'] at g1
    have a2' : ¬ c = i1 := fun e => a2 e.symm
    clear g1
    simp [n0, n0', m0, m0', m1, m1', a0, a0', a1, a1', a2, a2']
    refine TWoH.turn (Turn.freeze i1 (t := .own 3 (KB.map encI)) (by simp [a0, a0', encI, KB]) ?_)
    refine TWoH.lendR [0] (tcr_num b (p1 + 1) KB hb (by omega) (by simp [KB]) (by simp [KB])) callable_31 (by simp [a0, a0', List.findIdx?_cons, encI, KB]) (by simp [a0, a0', n0, n0', m0, m0', del]) (by simp) (by simp) ?_
    rintro r o ⟨kd, hkd, rfl, rfl⟩
    refine ⟨by simp [rdr], by simp, .inl (by simp [a0, a0', List.findIdx?_cons]), fun q hq => ?_⟩
    clear hq
    simp [n0, n0', m0, m0', m1, m1', a0, a0', a1, a1', a2, a2', del]
    exact ⟨_, _, ⟨rfl, rfl⟩, by simp [noHR_rex], by simp [n0, n0', m0, m0', m1, m1', a0, a0', a1, a1', a2, a2', del], .mk kd xs xl, by simp [encRex], by simp only [Sm]; exact hx1, p1 + 2, by omega, by simp [n0, n0', m0, m0', m1, m1', a0, a0', a1, a1', a2, a2', del]⟩
  by_cases c1 : k = 1
  · simp [c0, c1, n0, n0', m0, m0', m1, m1']
    refine gall_intro fun i1 g1 => ?_
    have a0 : ¬ i1 = 0 := fun e => by rw [e] at g1; simp at g1
    have a0' : ¬ 0 = i1 := fun e => a0 e.symm
    have a1 : ¬ i1 = a := fun e => by rw [e] at g1; simp [n0, n0', m0, m0', m1, m1'] at g1
    have a1' : ¬ a = i1 := fun e => a1 e.symm
    have a2 : ¬ i1 = c := fun e => by rw [e] at g1; simp [n0, n0', m0, m0', m1, m1'] at g1
    have a2' : ¬ c = i1 := fun e => a2 e.symm
    clear g1
    simp [n0, n0', m0, m0', m1, m1', a0, a0', a1, a1', a2, a2', del]
    exact ⟨_, _, ⟨rfl, rfl⟩, by simp [noHR_rex], by simp [n0, n0', m0, m0', m1, m1', a0, a0', a1, a1', a2, a2', del], .mk xk [(5, 4)] xl, by simp [encRex, encS], by simp only [Sm]; exact ⟨by simp, hx1.2⟩, p1 + 1, by omega, by simp [n0, n0', m0, m0', m1, m1', a0, a0', a1, a1', a2, a2', del]⟩
  by_cases c2 : k = 2
  · simp [c0, c1, c2, n0, n0', m0, m0', m1, m1']
    refine TWcH.loopT [] (BentAt b (p1 + 1) a c 4 9 (LAny a c)) (BentAt b (p1 + 1) a c 4 9 LRo) 9 ⟨0, xk, xs, xl, .ro (xs.map encS), .ro (encRexL xl), by simp, hx, .inl rfl, .inl rfl, by simp [n0, n0', m0, m0', m1, m1']⟩ (bent_turn n0 m0 m1) ?_
    rintro m ⟨σ, H⟩ ⟨i, yk, ys, yl, S, L, him, hy, hS, rfl, h0, hH, h2, hA, h3, hC, h4⟩
    simp only at h0 hH h2 hA h3 hC h4
    have hy1 := hy
    simp only [Sm] at hy1
    by_cases hi : i < 9
    case neg =>
      have hi2 : ¬ (i : Int) < 9 := by omega
      rcases hS with rfl | ⟨rfl, rfl⟩ <;> simp [h0, hH, h2, hA, h3, hC, h4, hi, hi2, n0, n0', m0, m0', m1, m1']
      · exact ⟨_, _, ⟨rfl, rfl⟩, by simp [noHR_rex], by simp [hH, n0, n0', m0, m0', m1, m1', del], .mk yk ys yl, by simp [encRex], hy, p1 + 1, by omega, by simp [hH, n0, n0', m0, m0', m1, m1', del]⟩
      · exact ⟨_, _, ⟨rfl, rfl⟩, by simp [noHR_rex], by simp [hH, n0, n0', m0, m0', m1, m1', del], .mk yk [] yl, by simp [encRex], hy, p1 + 1, by omega, by simp [hH, n0, n0', m0, m0', m1, m1', del]⟩
    have hi2 : (i : Int) < 9 := by omega
    have hw : IntKind.i64.wrap ((i : Int) + 1) = i + 1 := wrapi (by omega)
    rcases hS with rfl | ⟨rfl, rfl⟩ <;> simp [h0, hH, h2, hA, h3, hC, h4, hi, hi2, n0, n0', m0, m0', m1, m1']
    all_goals
      refine gall_intro fun i1 g1 => ?_
      have a0 : ¬ i1 = 0 := fun e => by rw [e] at g1; simp [hH] at g1
      have a0' : ¬ 0 = i1 := fun e => a0 e.symm
      have a1 : ¬ i1 = a := fun e => by rw [e] at g1; simp [hA] at g1
      have a1' : ¬ a = i1 := fun e => a1 e.symm
      have a2 : ¬ i1 = c := fun e => by rw [e] at g1; simp [hC] at g1
      have a2' : ¬ c = i1 := fun e => a2 e.symm
      simp [h0, hH, h2, hA, h3, hC, h4, hw, n0, n0', m0, m0', m1, m1', a0, a0', a1, a1', a2, a2']
    · exact ⟨m - 1, by omega, i + 1, 5, [], [.mk yk ys yl], .val (.slice none 0 0), .hd i1, by omega, by simp only [Sm, SmL]; exact ⟨by simp, by simp, hy1, trivial⟩, .inr ⟨rfl, rfl⟩, .inr ⟨i1, [[.val (.int .i64 yk), .ro (ys.map encS), .ro (encRexL yl)]], rfl, by simp [n0, n0', m0, m0', m1, m1', a0, a0', a1, a1', a2, a2'], by simp [encRexL, encRex], a0, a1, a2⟩, by simp [h0], by simp [hH, n0, n0', m0, m0', m1, m1', a0, a0', a1, a1', a2, a2'], by simp [h2], by simp [hA, n0, n0', m0, m0', m1, m1', a0, a0', a1, a1', a2, a2'], by simp [h3], by simp [hC, n0, n0', m0, m0', m1, m1', a0, a0', a1, a1', a2, a2'], by simp⟩
    · exact ⟨m - 1, by omega, i + 1, 5, [], [.mk yk [] yl], .val (.slice none 0 0), .hd i1, by omega, by simp only [Sm, SmL]; exact ⟨by simp, by simp, hy1, trivial⟩, .inr ⟨rfl, rfl⟩, .inr ⟨i1, [[.val (.int .i64 yk), .val (.slice none 0 0), .ro (encRexL yl)]], rfl, by simp [n0, n0', m0, m0', m1, m1', a0, a0', a1, a1', a2, a2'], by simp [encRexL, encRex], a0, a1, a2⟩, by simp [h0], by simp [hH, n0, n0', m0, m0', m1, m1', a0, a0', a1, a1', a2, a2'], by simp [h2], by simp [hA, n0, n0', m0, m0', m1, m1', a0, a0', a1, a1', a2, a2'], by simp [h3], by simp [hC, n0, n0', m0, m0', m1, m1', a0, a0', a1, a1', a2, a2'], by simp⟩
  by_cases c3 : k = 3
  · simp [c0, c1, c2, c3, n0, n0', m0, m0', m1, m1']
    refine TWcH.loopT [] (BentAt b (p1 + 1) a c 5 5 (LAny a c)) (BentAt b (p1 + 1) a c 5 5 LRo) 5 ⟨0, xk, xs, xl, .ro (xs.map encS), .ro (encRexL xl), by simp, hx, .inl rfl, .inl rfl, by simp [n0, n0', m0, m0', m1, m1']⟩ (bent_turn n0 m0 m1) ?_
    rintro m ⟨σ, H⟩ ⟨i, yk, ys, yl, S, L, him, hy, hS, rfl, h0, hH, h2, hA, h3, hC, h5⟩
    simp only at h0 hH h2 hA h3 hC h5
    have hy1 := hy
    simp only [Sm] at hy1
    by_cases hi : i < 5
    case neg =>
      have hi2 : ¬ (i : Int) < 5 := by omega
      rcases hS with rfl | ⟨rfl, rfl⟩ <;> simp [h0, hH, h2, hA, h3, hC, h5, hi, hi2, n0, n0', m0, m0', m1, m1']
      · exact ⟨_, _, ⟨rfl, rfl⟩, by simp [noHR_rex], by simp [hH, n0, n0', m0, m0', m1, m1', del], .mk yk ys yl, by simp [encRex], hy, p1 + 1, by omega, by simp [hH, n0, n0', m0, m0', m1, m1', del]⟩
      · exact ⟨_, _, ⟨rfl, rfl⟩, by simp [noHR_rex], by simp [hH, n0, n0', m0, m0', m1, m1', del], .mk yk [] yl, by simp [encRex], hy, p1 + 1, by omega, by simp [hH, n0, n0', m0, m0', m1, m1', del]⟩
    have hi2 : (i : Int) < 5 := by omega
    have hw : IntKind.i64.wrap ((i : Int) + 1) = i + 1 := wrapi (by omega)
    rcases hS with rfl | ⟨rfl, rfl⟩ <;> simp [h0, hH, h2, hA, h3, hC, h5, hi, hi2, n0, n0', m0, m0', m1, m1']
    · refine TWcH.regionD (ρ := []) [0, 1, 2, 3, 4, 5] 5 mixed (by kernel_rfl) ?_
      simp [h0, hH, h2, hA, h3, hC, h5, hi, hi2, n0, n0', m0, m0', m1, m1']
      refine TWqH.callV (tc_l2Copy _ hy) callable_32 (by simp [h0, hH, h2, hA, h3, hC, h5, n0, n0', m0, m0', m1, m1', encRex, noHR_rex]) (by simp) (by simp) (by simp) ?_
      simp [h0, hH, h2, hA, h3, hC, h5, hi, hi2, n0, n0', m0, m0', m1, m1', encRex]
      refine gall_intro fun i1 g1 => ?_
      have a0 : ¬ i1 = 0 := fun e => by rw [e] at g1; simp [hH] at g1
      have a0' : ¬ 0 = i1 := fun e => a0 e.symm
      have a1 : ¬ i1 = a := fun e => by rw [e] at g1; simp [hA] at g1
      have a1' : ¬ a = i1 := fun e => a1 e.symm
      have a2 : ¬ i1 = c := fun e => by rw [e] at g1; simp [hC] at g1
      have a2' : ¬ c = i1 := fun e => a2 e.symm
      simp [h0, hH, h2, hA, h3, hC, h5, hw, n0, n0', m0, m0', m1, m1', a0, a0', a1, a1', a2, a2', encRex]
      exact ⟨m - 1, by omega, i + 1, 3, [], [.mk yk ys yl, .mk yk ys yl], .val (.slice none 0 0), .hd i1, by omega, by simp only [Sm, SmL]; exact ⟨by simp, by simp, hy1, hy1, trivial⟩, .inr ⟨rfl, rfl⟩, .inr ⟨i1, [[.val (.int .i64 yk), .ro (ys.map encS), .ro (encRexL yl)], encRex (.mk yk ys yl)], rfl, by simp [encRex, n0, n0', m0, m0', m1, m1', a0, a0', a1, a1', a2, a2'], by simp [encRexL, encRex], a0, a1, a2⟩, by simp [h0], by simp [hH, n0, n0', m0, m0', m1, m1', a0, a0', a1, a1', a2, a2'], by simp [h2], by simp [hA, n0, n0', m0, m0', m1, m1', a0, a0', a1, a1', a2, a2'], by simp [h3], by simp [hC, n0, n0', m0, m0', m1, m1', a0, a0', a1, a1', a2, a2'], by simp⟩
    · refine TWcH.regionD (ρ := []) [0, 1, 2, 3, 4, 5] 5 mixed (by kernel_rfl) ?_
      simp [h0, hH, h2, hA, h3, hC, h5, hi, hi2, n0, n0', m0, m0', m1, m1']
      refine TWqH.callV (tc_l2Copy _ hy) callable_32 (by simp [h0, hH, h2, hA, h3, hC, h5, n0, n0', m0, m0', m1, m1', encRex, noHR_rex]) (by simp) (by simp) (by simp) ?_
      simp [h0, hH, h2, hA, h3, hC, h5, hi, hi2, n0, n0', m0, m0', m1, m1', encRex]
      refine gall_intro fun i1 g1 => ?_
      have a0 : ¬ i1 = 0 := fun e => by rw [e] at g1; simp [hH] at g1
      have a0' : ¬ 0 = i1 := fun e => a0 e.symm
      have a1 : ¬ i1 = a := fun e => by rw [e] at g1; simp [hA] at g1
      have a1' : ¬ a = i1 := fun e => a1 e.symm
      have a2 : ¬ i1 = c := fun e => by rw [e] at g1; simp [hC] at g1
      have a2' : ¬ c = i1 := fun e => a2 e.symm
      simp [h0, hH, h2, hA, h3, hC, h5, hw, n0, n0', m0, m0', m1, m1', a0, a0', a1, a1', a2, a2', encRex]
      exact ⟨m - 1, by omega, i + 1, 3, [], [.mk yk [] yl, .mk yk [] yl], .val (.slice none 0 0), .hd i1, by omega, by simp only [Sm, SmL]; exact ⟨by simp, by simp, hy1, hy1, trivial⟩, .inr ⟨rfl, rfl⟩, .inr ⟨i1, [[.val (.int .i64 yk), .val (.slice none 0 0), .ro (encRexL yl)], encRex (.mk yk [] yl)], rfl, by simp [encRex, n0, n0', m0, m0', m1, m1', a0, a0', a1, a1', a2, a2'], by simp [encRexL, encRex], a0, a1, a2⟩, by simp [h0], by simp [hH, n0, n0', m0, m0', m1, m1', a0, a0', a1, a1', a2, a2'], by simp [h2], by simp [hA, n0, n0', m0, m0', m1, m1', a0, a0', a1, a1', a2, a2'], by simp [h3], by simp [hC, n0, n0', m0, m0', m1, m1', a0, a0', a1, a1', a2, a2'], by simp⟩
  simp [c0, c1, c2, c3, n0, n0', m0, m0', m1, m1']
  exact ⟨_, _, ⟨rfl, rfl⟩, by simp [noHR_rex], by simp [n0, n0', m0, m0', m1, m1', del], .mk xk xs xl, by simp [encRex], hx, p1 + 1, by omega, by simp [n0, n0', m0, m0', m1, m1', del]⟩
end Go.Proofs.YtcjmocldhjfgoaaDoor.R

open Go Go.Proofs.YtcjmocldhjfgoaaDoor.T
namespace Go.Proofs.YtcjmocldhjfgoaaDoor.R
set_option maxHeartbeats 4000000
set_option maxRecDepth 100000
set_option linter.unusedSimpArgs false
set_option linter.unusedVariables false
attribute [local simp] bsV bsRows chunk fillT partsT appV makeV rowsOf cellsOf placeOf frzT frz1
theorem tc_l15Open (b : List UInt8) (hb : b.length ≤ 1048576) : TC Tryd.prog 11 [.ro (b.map encU)] [] (rdr (b.take 2000) 0) [] := by
  refine TC.enter Tryd.func11 rfl (by simp [Tryd.ntmps11]) rfl (tw_sound (ρ := []) ?_)
  rw [Tryd.ntmps11]
  by_cases c : 2000 < b.length
  · have c' : (2000 : Int) < b.length := by omega
    have c2 : 2000 ≤ b.length := by omega
    have c3 : (2000 : Int) ≤ b.length := by omega
    simp [c, c', c2, c3]
    refine gall_intro fun i1 g1 => ?_
    simp [rdr, ← List.map_take]
  · have c' : ¬ (2000 : Int) < b.length := by omega
    have ht : b.take 2000 = b := List.take_of_length_le (by omega)
    simp [c, c']
    refine gall_intro fun i1 g1 => ?_
    simp [rdr, ht]
end Go.Proofs.YtcjmocldhjfgoaaDoor.R

open Go Go.Proofs.YtcjmocldhjfgoaaDoor.T
namespace Go.Proofs.YtcjmocldhjfgoaaDoor.R
set_option maxHeartbeats 4000000
set_option maxRecDepth 100000
set_option linter.unusedSimpArgs false
set_option linter.unusedVariables false
attribute [local simp] bsV bsRows chunk fillT partsT appV makeV rowsOf cellsOf placeOf frzT frz1
def RN : List (List UInt8) := [[105, 100], [110, 117, 109], [111, 112], [115, 112, 97, 99, 101], [107, 101, 121]]
def RulesF (b : List UInt8) (p' i c i3 i4 : Nat) (yk : Int) (ys : List (Int × Int)) (yl : List Rex) (S : TV) (l : List Rule) (st : St) : Prop := st.σ 0 = .pd 0 0 0 0 ∧ st.H 0 = some (rdr b p') ∧ st.σ 3 = .hd i3 ∧ st.H i3 = some (.own 34 (l.map encRule)) ∧ st.σ 4 = .hd i4 ∧ st.H i4 = some (.own 9 (RN.map encT)) ∧ st.σ 5 = .val (.int .i64 i) ∧
  st.σ 6 = .pd c 0 0 0 ∧ st.H c = some (.box 32 [.val (.int .i64 yk), .ro (ys.map encS), .ro (encRexL yl)]) ∧ st.σ 34 = .agg [.val (.int .i64 yk), S, .ro (encRexL yl)]
theorem frz2_rule (i1 i2 : Nat) (t1 t2 : TV) (r : Rule) : List.map (frz1 i2 t2 ∘ frz1 i1 t1) (encRule r) = encRule r := by
  obtain ⟨n, k, s, l⟩ := r
  simp [encRule, encRex]
theorem frz2_T (i1 i2 : Nat) (t1 t2 : TV) (r : List UInt8) : List.map (frz1 i2 t2 ∘ frz1 i1 t1) (encT r) = encT r := by simp [encT]
theorem tcr_l6Rules (b : List UInt8) (p : Nat) (hb : b.length ≤ 2000) (hp : p ≤ 850000000) : TCR Tryd.prog 19 [.pd 0 0 0 0] [rdr b p] (fun r o => ∃ (l : List Rule) (p' : Nat), r = .own 34 (l.map encRule) ∧ (∀ x ∈ l, Sm x.rex ∧ x.name ∈ RN) ∧ 1 ≤ l.length ∧ l.length ≤ 4 ∧ p' ≤ p + 1000 ∧ o = [rdr b p']) := by
  refine TCR.enter Tryd.func19 rfl (by simp [Tryd.ntmps19]) rfl (tw_sound (ρ := []) ?_)
  rw [Tryd.ntmps19]
  simp
  refine gall_intro fun i3 g3 => ?_
  have n0 : ¬ i3 = 0 := fun e => by rw [e] at g3; simp at g3
  have n0' : ¬ 0 = i3 := fun e => n0 e.symm
  clear g3
  simp [n0, n0']
  refine gall_intro fun i4 g4 => ?_
  have m0 : ¬ i4 = 0 := fun e => by rw [e] at g4; simp [n0, n0'] at g4
  have m0' : ¬ 0 = i4 := fun e => m0 e.symm
  have m1 : ¬ i4 = i3 := fun e => by rw [e] at g4; simp [n0, n0'] at g4
  have m1' : ¬ i3 = i4 := fun e => m1 e.symm
  clear g4
  simp [n0, n0', m0, m0', m1, m1']
  refine TWoH.lendR [0] (tcr_pick b p 4 hb (by omega)) callable_18 (by simp [List.findIdx?_cons, n0, n0', m0, m0']) (by simp [n0, n0', m0, m0', m1, m1']) (by simp) (by simp) ?_
  rintro r o ⟨k, rfl, k0, k1, rfl⟩
  refine ⟨by simp [rdr], by simp, .inl (by simp [List.findIdx?_cons, n0, n0', m0, m0']), fun q hq => ?_⟩
  clear hq
  obtain ⟨N, hkN, hk4, hk1⟩ : ∃ N : Nat, 1 + k = (N : Int) ∧ N ≤ 4 ∧ 1 ≤ N := ⟨(1 + k).toNat, by omega, by have := k1 (by omega); omega, by omega⟩
  have hw0 : IntKind.i64.wrap (1 + k) = N := by rw [wrapi (by omega)]; exact hkN
  simp [n0, n0', m0, m0', m1, m1', hw0]
  refine TWcH.loop [] (fun m st => ∃ (i p' i3 : Nat) (l : List Rule), i = m ∧ l.length + i = N ∧ p' ≤ p + 1 + 140 * l.length ∧ (∀ x ∈ l, Sm x.rex ∧ x.name ∈ RN) ∧ i3 ≠ 0 ∧ i3 ≠ i4 ∧ st.σ 0 = .pd 0 0 0 0 ∧ st.H 0 = some (rdr b p') ∧ st.σ 3 = .hd i3 ∧ st.H i3 = some (.own 34 (l.map encRule)) ∧ st.σ 4 = .hd i4 ∧ st.H i4 = some (.own 9 (RN.map encT)) ∧ st.σ 5 = .val (.int .i64 i)) N ⟨N, p + 1, i3, [], rfl, by simp, by simp, by simp, n0, m1', by simp [n0, n0', m0, m0', m1, m1', RN, encT]⟩ ?_
  clear n0 n0' m1 m1' i3
  rintro m ⟨σ, H⟩ ⟨i, p', i3, l, rfl, hli, hpl, hl, n0, m1', h0, hH, h3, hI, h4, hN, h5⟩
  simp only at h0 hH h3 hI h4 hN h5
  have n0' : ¬ 0 = i3 := fun e => n0 e.symm
  have m1 : ¬ i4 = i3 := fun e => m1' e.symm
  by_cases hi : 0 < i
  case neg =>
    obtain rfl : i = 0 := by omega
    simp [h0, hH, h3, hI, h4, hN, h5, n0, n0', m0, m0', m1, m1']
    exact ⟨_, _, ⟨rfl, rfl⟩, by simp, by simp [hH, del, n0, n0'], l, by simp, hl, by omega, by omega, p', by omega, by simp [hH, del, n0, n0']⟩
  have hw1 : IntKind.i64.wrap ((i : Int) - 1) = ((i - 1 : Nat) : Int) := by rw [wrapi (by omega)]; omega
  simp [h0, hH, h3, hI, h4, hN, h5, hi]
  refine TWoH.lendR [0] (tcr_pick b p' 3 hb (by omega)) callable_18 (by simp [h0, List.findIdx?_cons]) (by simp [hH]) (by simp) (by simp) ?_
  rintro r o ⟨k, rfl, k0, k1, rfl⟩
  refine ⟨by simp [rdr], by simp, .inl (by simp [h0, List.findIdx?_cons]), fun q hq => ?_⟩
  clear hq
  have k2 := k1 (by omega)
  obtain ⟨d, hd, hd1⟩ : ∃ d : Nat, 1 + k = (d : Int) ∧ d ≤ 3 := ⟨(1 + k).toNat, by omega, by omega⟩
  have hw : IntKind.i64.wrap (1 + k) = d := by rw [wrapi (by omega)]; exact hd
  have hRC : RC d ≤ 104 := by
    unfold RC
    have : 2 ^ d ≤ 2 ^ 3 := Nat.pow_le_pow_right (by omega) hd1
    omega
  simp [h0, hH, h3, hI, h4, hN, h5, n0, n0', m0, m0', m1, m1', hw]
  refine TWoH.lendR [0] (tcr_l2Rex d b (p' + 1) (by omega) hb (by omega)) callable_27 (by simp [h0, List.findIdx?_cons, hw]) (by simp [hH]) (by simp) (by simp) ?_
  rintro r o ⟨x, p1, rfl, hx, hp1, rfl⟩
  refine ⟨by simp [rdr], by simp, .inl (by simp [h0, List.findIdx?_cons]), fun q hq => ?_⟩
  clear hq
  obtain ⟨xk, xs, xl⟩ := x
  simp [h0, hH, h3, hI, h4, hN, h5, n0, n0', m0, m0', m1, m1', hw, encRex]
  refine gall_intro fun c gc => ?_
  have c0 : ¬ c = 0 := fun e => by rw [e] at gc; simp at gc
  have c0' : ¬ 0 = c := fun e => c0 e.symm
  have c3 : ¬ c = i3 := fun e => by rw [e] at gc; simp [hI, n0, n0'] at gc
  have c3' : ¬ i3 = c := fun e => c3 e.symm
  have c4 : ¬ c = i4 := fun e => by rw [e] at gc; simp [hN, m0, m0'] at gc
  have c4' : ¬ i4 = c := fun e => c4 e.symm
  clear gc
  simp [h0, hH, h3, hI, h4, hN, h5, n0, n0', m0, m0', m1, m1', c0, c0', c3, c3', c4, c4']
  refine TWoH.lendR [0] (tcr_pick b p1 3 hb (by omega)) callable_18 (by simp [h0, List.findIdx?_cons]) (by simp [hH, c0, c0', c3, c3', c4, c4']) (by simp) (by simp) ?_
  rintro r o ⟨k, rfl, k0, k1, rfl⟩
  refine ⟨by simp [rdr], by simp, .inl (by simp [h0, List.findIdx?_cons]), fun q hq => ?_⟩
  clear hq
  by_cases e1 : k = 0
  · simp [h0, hH, h3, hI, h4, hN, h5, n0, n0', m0, m0', m1, m1', c0, c0', c3, c3', c4, c4', e1]
    refine TWoH.lendR [0] (tcr_pick b (p1 + 1) 3 hb (by omega)) callable_18 (by simp [h0, List.findIdx?_cons]) (by simp [hH, c0, c0', c3, c3', c4, c4']) (by simp) (by simp) ?_
    rintro r o ⟨j, rfl, j0, j1, rfl⟩
    refine ⟨by simp [rdr], by simp, .inl (by simp [h0, List.findIdx?_cons]), fun q hq => ?_⟩
    clear hq
    have hj : IntKind.i64.wrap (97 + j) = 97 + j := wrapi (by have := j1 (by omega); omega)
    simp [h0, hH, h3, hI, h4, hN, h5, n0, n0', m0, m0', m1, m1', c0, c0', c3, c3', c4, c4', e1, hj]
    refine TWoH.callV (tc_l2Byte (97 + j)) callable_28 (by simp [hj]) (by simp) (by simp) (by simp) ?_
    simp [h0, hH, h3, hI, h4, hN, h5, n0, n0', m0, m0', m1, m1', c0, c0', c3, c3', c4, c4', e1, hj]
    refine TWoH.lendR [0] (tcr_l2Leaf b (p1 + 1 + 1) hb (by omega)) callable_29 (by simp [h0, List.findIdx?_cons]) (by simp [hH, c0, c0', c3, c3', c4, c4']) (by simp) (by simp) ?_
    rintro r o ⟨y, p2, rfl, hy, hp2, rfl⟩
    refine ⟨by simp [rdr], by simp, .inl (by simp [h0, List.findIdx?_cons]), fun q hq => ?_⟩
    clear hq
    have hz : Sm (.mk 3 [] [.mk 1 [(97 + j, 97 + j)] [], .mk 5 [] [y]]) := by simp only [Sm, SmL]; exact ⟨by simp, by simp, ⟨by simp, by simp, trivial⟩, ⟨by simp, by simp, hy.sm, trivial⟩, trivial⟩
    obtain ⟨yk, ys, yl⟩ := y
    simp [h0, hH, h3, hI, h4, hN, h5, n0, n0', m0, m0', m1, m1', c0, c0', c3, c3', c4, c4', e1, hj, encRex, encRexL]
    refine gall_intro fun q1 w1 => ?_
    have q1_0 : ¬ q1 = 0 := fun e => by rw [e] at w1; simp [h0, hH, h3, hI, h4, hN, h5, n0, n0', m0, m0', m1, m1', c0, c0', c3, c3', c4, c4', e1, hj] at w1
    have q1_0' : ¬ 0 = q1 := fun e => q1_0 e.symm
    have q1_i3 : ¬ q1 = i3 := fun e => by rw [e] at w1; simp [h0, hH, h3, hI, h4, hN, h5, n0, n0', m0, m0', m1, m1', c0, c0', c3, c3', c4, c4', e1, hj] at w1
    have q1_i3' : ¬ i3 = q1 := fun e => q1_i3 e.symm
    have q1_i4 : ¬ q1 = i4 := fun e => by rw [e] at w1; simp [h0, hH, h3, hI, h4, hN, h5, n0, n0', m0, m0', m1, m1', c0, c0', c3, c3', c4, c4', e1, hj] at w1
    have q1_i4' : ¬ i4 = q1 := fun e => q1_i4 e.symm
    have q1_c : ¬ q1 = c := fun e => by rw [e] at w1; simp [h0, hH, h3, hI, h4, hN, h5, n0, n0', m0, m0', m1, m1', c0, c0', c3, c3', c4, c4', e1, hj] at w1
    have q1_c' : ¬ c = q1 := fun e => q1_c e.symm
    simp [h0, hH, h3, hI, h4, hN, h5, n0, n0', m0, m0', m1, m1', c0, c0', c3, c3', c4, c4', e1, hj, q1_0, q1_0', q1_i3, q1_i3', q1_i4, q1_i4', q1_c, q1_c', encRex, encRexL]
    refine gall_intro fun q2 w2 => ?_
    have q2_0 : ¬ q2 = 0 := fun e => by rw [e] at w2; simp [h0, hH, h3, hI, h4, hN, h5, n0, n0', m0, m0', m1, m1', c0, c0', c3, c3', c4, c4', e1, hj, q1_0, q1_0', q1_i3, q1_i3', q1_i4, q1_i4', q1_c, q1_c'] at w2
    have q2_0' : ¬ 0 = q2 := fun e => q2_0 e.symm
    have q2_i3 : ¬ q2 = i3 := fun e => by rw [e] at w2; simp [h0, hH, h3, hI, h4, hN, h5, n0, n0', m0, m0', m1, m1', c0, c0', c3, c3', c4, c4', e1, hj, q1_0, q1_0', q1_i3, q1_i3', q1_i4, q1_i4', q1_c, q1_c'] at w2
    have q2_i3' : ¬ i3 = q2 := fun e => q2_i3 e.symm
    have q2_i4 : ¬ q2 = i4 := fun e => by rw [e] at w2; simp [h0, hH, h3, hI, h4, hN, h5, n0, n0', m0, m0', m1, m1', c0, c0', c3, c3', c4, c4', e1, hj, q1_0, q1_0', q1_i3, q1_i3', q1_i4, q1_i4', q1_c, q1_c'] at w2
    have q2_i4' : ¬ i4 = q2 := fun e => q2_i4 e.symm
    have q2_c : ¬ q2 = c := fun e => by rw [e] at w2; simp [h0, hH, h3, hI, h4, hN, h5, n0, n0', m0, m0', m1, m1', c0, c0', c3, c3', c4, c4', e1, hj, q1_0, q1_0', q1_i3, q1_i3', q1_i4, q1_i4', q1_c, q1_c'] at w2
    have q2_c' : ¬ c = q2 := fun e => q2_c e.symm
    have q2_q1 : ¬ q2 = q1 := fun e => by rw [e] at w2; simp [h0, hH, h3, hI, h4, hN, h5, n0, n0', m0, m0', m1, m1', c0, c0', c3, c3', c4, c4', e1, hj, q1_0, q1_0', q1_i3, q1_i3', q1_i4, q1_i4', q1_c, q1_c'] at w2
    have q2_q1' : ¬ q1 = q2 := fun e => q2_q1 e.symm
    simp [h0, hH, h3, hI, h4, hN, h5, n0, n0', m0, m0', m1, m1', c0, c0', c3, c3', c4, c4', e1, hj, q1_0, q1_0', q1_i3, q1_i3', q1_i4, q1_i4', q1_c, q1_c', q2_0, q2_0', q2_i3, q2_i3', q2_i4, q2_i4', q2_c, q2_c', q2_q1, q2_q1', encRex, encRexL]
    obtain ⟨zl, hzl⟩ : ∃ zl, zl = [Rex.mk 1 [(97 + j, 97 + j)] [], .mk 5 [] [.mk yk ys yl]] := ⟨_, rfl⟩
    rw [← hzl] at hz
    refine TWoH.via (A := RulesF b p2 i c i3 i4 3 [] zl (.val (.slice none 0 0)) l) (Turn.then (Turn.freezeA q1 (t := .own 32 [encRex (.mk yk ys yl)]) (by simp [h0, hH, h3, hI, h4, hN, h5, n0, n0', m0, m0', m1, m1', c0, c0', c3, c3', c4, c4', e1, hj, q1_0, q1_0', q1_i3, q1_i3', q1_i4, q1_i4', q1_c, q1_c', q2_0, q2_0', q2_i3, q2_i3', q2_i4, q2_i4', q2_c, q2_c', q2_q1, q2_q1', encRex]) (Turn.then (Turn.freezeA q2 (t := .own 32 [encRex (.mk 1 [(97 + j, 97 + j)] []), [.val (.int .i64 5), .val (.slice none 0 0), .ro [encRex (.mk yk ys yl)]]]) (by simp [h0, hH, h3, hI, h4, hN, h5, n0, n0', m0, m0', m1, m1', c0, c0', c3, c3', c4, c4', e1, hj, q1_0, q1_0', q1_i3, q1_i3', q1_i4, q1_i4', q1_c, q1_c', q2_0, q2_0', q2_i3, q2_i3', q2_i4, q2_i4', q2_c, q2_c', q2_q1, q2_q1', encRex, encRexL, encS, frzO, del]) (Turn.nrm c (t := .box 32 [.val (.int .i64 3), .val (.slice none 0 0), .ro (encRexL zl)]) (by rw [hzl]; simp [h0, hH, h3, hI, h4, hN, h5, n0, n0', m0, m0', m1, m1', c0, c0', c3, c3', c4, c4', e1, hj, q1_0, q1_0', q1_i3, q1_i3', q1_i4, q1_i4', q1_c, q1_c', q2_0, q2_0', q2_i3, q2_i3', q2_i4, q2_i4', q2_c, q2_c', q2_q1, q2_q1', encRex, encRexL, encS, frzO, del]) (by simp [RulesF, nrmO, nrm1, frzO, rdr, del, h0, hH, h3, hI, h4, hN, h5, n0, n0', m0, m0', m1, m1', c0, c0', c3, c3', c4, c4', e1, hj, q1_0, q1_0', q1_i3, q1_i3', q1_i4, q1_i4', q1_c, q1_c', q2_0, q2_0', q2_i3, q2_i3', q2_i4, q2_i4', q2_c, q2_c', q2_q1, q2_q1']; rw [hzl]; simp [encRex, encRexL, encS, frz2_rule, frz2_T])))))) ?_
    clear hzl
    rintro ⟨σ, H⟩ ⟨f0, fH, f3, fI, f4, fN, f5, f6, fC, f34⟩
    simp only at f0 fH f3 fI f4 fN f5 f6 fC f34
    refine TWoH.callV (tc_sRexOk (.mk 3 [] zl) hz) callable_16 (by simp [f34, encRex, noHR_rex]) (by simp) (by simp) (by simp) ?_
    have hlN : l.length < RN.length := by simp [RN]; omega
    obtain ⟨nm, hnm⟩ : ∃ w, ∀ h, RN[l.length]'h = w := ⟨RN[l.length], fun _ => rfl⟩
    have hnm2 : nm ∈ RN := by rw [← hnm hlN]; exact List.getElem_mem hlN
    have k3 : (l.length + 1) * 72 ≤ 140737488355328 := by omega
    have k4 : l.length ≤ 9223372036854775806 := by omega
    cases cR : rexOk (.mk 3 [] zl)
    · simp [f0, fH, f3, fI, f4, fN, f5, f6, fC]
      refine TWoH.lendR [0] (tcr_l2Leaf b p2 hb (by omega)) callable_29 (by simp [f0, List.findIdx?_cons]) (by simp [fH]) (by simp) (by simp) ?_
      rintro r o ⟨y, p3, rfl, hy, hp3, rfl⟩
      refine ⟨by simp [rdr], by simp, .inl (by simp [f0, List.findIdx?_cons]), fun q hq => ?_⟩
      clear hq
      obtain ⟨yk, ys, yl⟩ := y
      simp [del, delo, f0, fH, f3, fI, f4, fN, f5, f6, fC, n0, n0', m0, m0', m1, m1', c0, c0', c3, c3', c4, c4', encRex]
      refine TWcH.regionD (ρ := []) [0, 1, 2, 3, 4, 5, 6, 7, 8, 9, 10] 11 mixed (by kernel_rfl) ?_
      simp [-List.map_append, del, delo, f0, fH, f3, fI, f4, fN, f5, f6, fC, n0, n0', m0, m0', m1, m1', c0, c0', c3, c3', c4, c4', hlN, hnm, encT, k3, k4, hw1]
      refine gall_intro fun i7 g7 => ?_
      have u_0 : ¬ i7 = 0 := fun e => by rw [e] at g7; simp [del, delo, f0, fH, f3, fI, f4, fN, f5, f6, fC, n0, n0', m0, m0', m1, m1', c0, c0', c3, c3', c4, c4'] at g7
      have v_0 : ¬ 0 = i7 := fun e => u_0 e.symm
      have u_i3 : ¬ i7 = i3 := fun e => by rw [e] at g7; simp [del, delo, f0, fH, f3, fI, f4, fN, f5, f6, fC, n0, n0', m0, m0', m1, m1', c0, c0', c3, c3', c4, c4'] at g7
      have v_i3 : ¬ i3 = i7 := fun e => u_i3 e.symm
      have u_i4 : ¬ i7 = i4 := fun e => by rw [e] at g7; simp [del, delo, f0, fH, f3, fI, f4, fN, f5, f6, fC, n0, n0', m0, m0', m1, m1', c0, c0', c3, c3', c4, c4'] at g7
      have v_i4 : ¬ i4 = i7 := fun e => u_i4 e.symm
      have u_c : ¬ i7 = c := fun e => by rw [e] at g7; simp [del, delo, f0, fH, f3, fI, f4, fN, f5, f6, fC, n0, n0', m0, m0', m1, m1', c0, c0', c3, c3', c4, c4'] at g7
      have v_c : ¬ c = i7 := fun e => u_c e.symm
      simp [-List.map_append, del, delo, f0, fH, f3, fI, f4, fN, f5, f6, fC, n0, n0', m0, m0', m1, m1', c0, c0', c3, c3', c4, c4', hlN, hnm, encT, k3, k4, hw1, u_0, v_0, u_i3, v_i3, u_i4, v_i4, u_c, v_c]
      refine gall_intro fun i8 g8 => ?_
      have y_0 : ¬ i8 = 0 := fun e => by rw [e] at g8; simp [del, delo, f0, fH, f3, fI, f4, fN, f5, f6, fC, n0, n0', m0, m0', m1, m1', c0, c0', c3, c3', c4, c4', u_0, v_0, u_i3, v_i3, u_i4, v_i4, u_c, v_c] at g8
      have z_0 : ¬ 0 = i8 := fun e => y_0 e.symm
      have y_i4 : ¬ i8 = i4 := fun e => by rw [e] at g8; simp [del, delo, f0, fH, f3, fI, f4, fN, f5, f6, fC, n0, n0', m0, m0', m1, m1', c0, c0', c3, c3', c4, c4', u_0, v_0, u_i3, v_i3, u_i4, v_i4, u_c, v_c] at g8
      have z_i4 : ¬ i4 = i8 := fun e => y_i4 e.symm
      simp [-List.map_append, del, delo, f0, fH, f3, fI, f4, fN, f5, f6, fC, n0, n0', m0, m0', m1, m1', c0, c0', c3, c3', c4, c4', hlN, hnm, encT, k3, k4, hw1, u_0, v_0, u_i3, v_i3, u_i4, v_i4, u_c, v_c, y_0, z_0, y_i4, z_i4]
      exact ⟨i - 1, by omega, p3, i8, l ++ [⟨nm, .mk yk ys yl⟩], by simp; omega, by simp; omega, fun x hx' => by rcases List.mem_append.1 hx' with h | h; exact hl x h; simp only [List.mem_singleton] at h; subst h; exact ⟨hy.sm, hnm2⟩, y_0, y_i4, rfl, by simp [encRule, encRex, y_0, z_0], by simp [encRule, encRex], rfl⟩
    · simp [f0, fH, f3, fI, f4, fN, f5, f6, fC]
      refine TWcH.regionD (ρ := []) [0, 1, 2, 3, 4, 5, 6, 7, 8, 9, 10] 11 mixed (by kernel_rfl) ?_
      simp [-List.map_append, del, delo, f0, fH, f3, fI, f4, fN, f5, f6, fC, n0, n0', m0, m0', m1, m1', c0, c0', c3, c3', c4, c4', hlN, hnm, encT, k3, k4, hw1]
      refine gall_intro fun i7 g7 => ?_
      have u_0 : ¬ i7 = 0 := fun e => by rw [e] at g7; simp [del, delo, f0, fH, f3, fI, f4, fN, f5, f6, fC, n0, n0', m0, m0', m1, m1', c0, c0', c3, c3', c4, c4'] at g7
      have v_0 : ¬ 0 = i7 := fun e => u_0 e.symm
      have u_i3 : ¬ i7 = i3 := fun e => by rw [e] at g7; simp [del, delo, f0, fH, f3, fI, f4, fN, f5, f6, fC, n0, n0', m0, m0', m1, m1', c0, c0', c3, c3', c4, c4'] at g7
      have v_i3 : ¬ i3 = i7 := fun e => u_i3 e.symm
      have u_i4 : ¬ i7 = i4 := fun e => by rw [e] at g7; simp [del, delo, f0, fH, f3, fI, f4, fN, f5, f6, fC, n0, n0', m0, m0', m1, m1', c0, c0', c3, c3', c4, c4'] at g7
      have v_i4 : ¬ i4 = i7 := fun e => u_i4 e.symm
      have u_c : ¬ i7 = c := fun e => by rw [e] at g7; simp [del, delo, f0, fH, f3, fI, f4, fN, f5, f6, fC, n0, n0', m0, m0', m1, m1', c0, c0', c3, c3', c4, c4'] at g7
      have v_c : ¬ c = i7 := fun e => u_c e.symm
      simp [-List.map_append, del, delo, f0, fH, f3, fI, f4, fN, f5, f6, fC, n0, n0', m0, m0', m1, m1', c0, c0', c3, c3', c4, c4', hlN, hnm, encT, k3, k4, hw1, u_0, v_0, u_i3, v_i3, u_i4, v_i4, u_c, v_c]
      refine gall_intro fun i8 g8 => ?_
      have y_0 : ¬ i8 = 0 := fun e => by rw [e] at g8; simp [del, delo, f0, fH, f3, fI, f4, fN, f5, f6, fC, n0, n0', m0, m0', m1, m1', c0, c0', c3, c3', c4, c4', u_0, v_0, u_i3, v_i3, u_i4, v_i4, u_c, v_c] at g8
      have z_0 : ¬ 0 = i8 := fun e => y_0 e.symm
      have y_i4 : ¬ i8 = i4 := fun e => by rw [e] at g8; simp [del, delo, f0, fH, f3, fI, f4, fN, f5, f6, fC, n0, n0', m0, m0', m1, m1', c0, c0', c3, c3', c4, c4', u_0, v_0, u_i3, v_i3, u_i4, v_i4, u_c, v_c] at g8
      have z_i4 : ¬ i4 = i8 := fun e => y_i4 e.symm
      simp [-List.map_append, del, delo, f0, fH, f3, fI, f4, fN, f5, f6, fC, n0, n0', m0, m0', m1, m1', c0, c0', c3, c3', c4, c4', hlN, hnm, encT, k3, k4, hw1, u_0, v_0, u_i3, v_i3, u_i4, v_i4, u_c, v_c, y_0, z_0, y_i4, z_i4]
      exact ⟨i - 1, by omega, p2, i8, l ++ [⟨nm, .mk 3 [] zl⟩], by simp; omega, by simp; omega, fun x hx' => by rcases List.mem_append.1 hx' with h | h; exact hl x h; simp only [List.mem_singleton] at h; subst h; exact ⟨hz, hnm2⟩, y_0, y_i4, rfl, by simp [encRule, encRex, y_0, z_0], by simp [encRule, encRex], rfl⟩
  · simp [h0, hH, h3, hI, h4, hN, h5, n0, n0', m0, m0', m1, m1', c0, c0', c3, c3', c4, c4', e1]
    refine TWoH.via (A := RulesF b (p1 + 1) i c i3 i4 xk xs xl (.ro (xs.map encS)) l) (Turn.same (by simp [RulesF, h0, hH, h3, hI, h4, hN, h5, n0, n0', m0, m0', m1, m1', c0, c0', c3, c3', c4, c4'])) ?_
    rintro ⟨σ, H⟩ ⟨f0, fH, f3, fI, f4, fN, f5, f6, fC, f34⟩
    simp only at f0 fH f3 fI f4 fN f5 f6 fC f34
    refine TWoH.callV (tc_sRexOk (.mk xk xs xl) hx) callable_16 (by simp [f34, encRex, noHR_rex]) (by simp) (by simp) (by simp) ?_
    have hlN : l.length < RN.length := by simp [RN]; omega
    obtain ⟨nm, hnm⟩ : ∃ w, ∀ h, RN[l.length]'h = w := ⟨RN[l.length], fun _ => rfl⟩
    have hnm2 : nm ∈ RN := by rw [← hnm hlN]; exact List.getElem_mem hlN
    have k3 : (l.length + 1) * 72 ≤ 140737488355328 := by omega
    have k4 : l.length ≤ 9223372036854775806 := by omega
    cases cR : rexOk (.mk xk xs xl)
    · simp [f0, fH, f3, fI, f4, fN, f5, f6, fC]
      refine TWoH.lendR [0] (tcr_l2Leaf b (p1 + 1) hb (by omega)) callable_29 (by simp [f0, List.findIdx?_cons]) (by simp [fH]) (by simp) (by simp) ?_
      rintro r o ⟨y, p2, rfl, hy, hp2, rfl⟩
      refine ⟨by simp [rdr], by simp, .inl (by simp [f0, List.findIdx?_cons]), fun q hq => ?_⟩
      clear hq
      obtain ⟨yk, ys, yl⟩ := y
      simp [del, delo, f0, fH, f3, fI, f4, fN, f5, f6, fC, n0, n0', m0, m0', m1, m1', c0, c0', c3, c3', c4, c4', encRex]
      refine TWcH.regionD (ρ := []) [0, 1, 2, 3, 4, 5, 6, 7, 8, 9, 10] 11 mixed (by kernel_rfl) ?_
      simp [-List.map_append, del, delo, f0, fH, f3, fI, f4, fN, f5, f6, fC, n0, n0', m0, m0', m1, m1', c0, c0', c3, c3', c4, c4', hlN, hnm, encT, k3, k4, hw1]
      refine gall_intro fun i7 g7 => ?_
      have u_0 : ¬ i7 = 0 := fun e => by rw [e] at g7; simp [del, delo, f0, fH, f3, fI, f4, fN, f5, f6, fC, n0, n0', m0, m0', m1, m1', c0, c0', c3, c3', c4, c4'] at g7
      have v_0 : ¬ 0 = i7 := fun e => u_0 e.symm
      have u_i3 : ¬ i7 = i3 := fun e => by rw [e] at g7; simp [del, delo, f0, fH, f3, fI, f4, fN, f5, f6, fC, n0, n0', m0, m0', m1, m1', c0, c0', c3, c3', c4, c4'] at g7
      have v_i3 : ¬ i3 = i7 := fun e => u_i3 e.symm
      have u_i4 : ¬ i7 = i4 := fun e => by rw [e] at g7; simp [del, delo, f0, fH, f3, fI, f4, fN, f5, f6, fC, n0, n0', m0, m0', m1, m1', c0, c0', c3, c3', c4, c4'] at g7
      have v_i4 : ¬ i4 = i7 := fun e => u_i4 e.symm
      have u_c : ¬ i7 = c := fun e => by rw [e] at g7; simp [del, delo, f0, fH, f3, fI, f4, fN, f5, f6, fC, n0, n0', m0, m0', m1, m1', c0, c0', c3, c3', c4, c4'] at g7
      have v_c : ¬ c = i7 := fun e => u_c e.symm
      simp [-List.map_append, del, delo, f0, fH, f3, fI, f4, fN, f5, f6, fC, n0, n0', m0, m0', m1, m1', c0, c0', c3, c3', c4, c4', hlN, hnm, encT, k3, k4, hw1, u_0, v_0, u_i3, v_i3, u_i4, v_i4, u_c, v_c]
      refine gall_intro fun i8 g8 => ?_
      have y_0 : ¬ i8 = 0 := fun e => by rw [e] at g8; simp [del, delo, f0, fH, f3, fI, f4, fN, f5, f6, fC, n0, n0', m0, m0', m1, m1', c0, c0', c3, c3', c4, c4', u_0, v_0, u_i3, v_i3, u_i4, v_i4, u_c, v_c] at g8
      have z_0 : ¬ 0 = i8 := fun e => y_0 e.symm
      have y_i4 : ¬ i8 = i4 := fun e => by rw [e] at g8; simp [del, delo, f0, fH, f3, fI, f4, fN, f5, f6, fC, n0, n0', m0, m0', m1, m1', c0, c0', c3, c3', c4, c4', u_0, v_0, u_i3, v_i3, u_i4, v_i4, u_c, v_c] at g8
      have z_i4 : ¬ i4 = i8 := fun e => y_i4 e.symm
      simp [-List.map_append, del, delo, f0, fH, f3, fI, f4, fN, f5, f6, fC, n0, n0', m0, m0', m1, m1', c0, c0', c3, c3', c4, c4', hlN, hnm, encT, k3, k4, hw1, u_0, v_0, u_i3, v_i3, u_i4, v_i4, u_c, v_c, y_0, z_0, y_i4, z_i4]
      exact ⟨i - 1, by omega, p2, i8, l ++ [⟨nm, .mk yk ys yl⟩], by simp; omega, by simp; omega, fun x hx' => by rcases List.mem_append.1 hx' with h | h; exact hl x h; simp only [List.mem_singleton] at h; subst h; exact ⟨hy.sm, hnm2⟩, y_0, y_i4, rfl, by simp [encRule, encRex, y_0, z_0], by simp [encRule, encRex], rfl⟩
    · simp [f0, fH, f3, fI, f4, fN, f5, f6, fC]
      refine TWcH.regionD (ρ := []) [0, 1, 2, 3, 4, 5, 6, 7, 8, 9, 10] 11 mixed (by kernel_rfl) ?_
      simp [-List.map_append, del, delo, f0, fH, f3, fI, f4, fN, f5, f6, fC, n0, n0', m0, m0', m1, m1', c0, c0', c3, c3', c4, c4', hlN, hnm, encT, k3, k4, hw1]
      refine gall_intro fun i7 g7 => ?_
      have u_0 : ¬ i7 = 0 := fun e => by rw [e] at g7; simp [del, delo, f0, fH, f3, fI, f4, fN, f5, f6, fC, n0, n0', m0, m0', m1, m1', c0, c0', c3, c3', c4, c4'] at g7
      have v_0 : ¬ 0 = i7 := fun e => u_0 e.symm
      have u_i3 : ¬ i7 = i3 := fun e => by rw [e] at g7; simp [del, delo, f0, fH, f3, fI, f4, fN, f5, f6, fC, n0, n0', m0, m0', m1, m1', c0, c0', c3, c3', c4, c4'] at g7
      have v_i3 : ¬ i3 = i7 := fun e => u_i3 e.symm
      have u_i4 : ¬ i7 = i4 := fun e => by rw [e] at g7; simp [del, delo, f0, fH, f3, fI, f4, fN, f5, f6, fC, n0, n0', m0, m0', m1, m1', c0, c0', c3, c3', c4, c4'] at g7
      have v_i4 : ¬ i4 = i7 := fun e => u_i4 e.symm
      have u_c : ¬ i7 = c := fun e => by rw [e] at g7; simp [del, delo, f0, fH, f3, fI, f4, fN, f5, f6, fC, n0, n0', m0, m0', m1, m1', c0, c0', c3, c3', c4, c4'] at g7
      have v_c : ¬ c = i7 := fun e => u_c e.symm
      simp [-List.map_append, del, delo, f0, fH, f3, fI, f4, fN, f5, f6, fC, n0, n0', m0, m0', m1, m1', c0, c0', c3, c3', c4, c4', hlN, hnm, encT, k3, k4, hw1, u_0, v_0, u_i3, v_i3, u_i4, v_i4, u_c, v_c]
      refine gall_intro fun i8 g8 => ?_
      have y_0 : ¬ i8 = 0 := fun e => by rw [e] at g8; simp [del, delo, f0, fH, f3, fI, f4, fN, f5, f6, fC, n0, n0', m0, m0', m1, m1', c0, c0', c3, c3', c4, c4', u_0, v_0, u_i3, v_i3, u_i4, v_i4, u_c, v_c] at g8
      have z_0 : ¬ 0 = i8 := fun e => y_0 e.symm
      have y_i4 : ¬ i8 = i4 := fun e => by rw [e] at g8; simp [del, delo, f0, fH, f3, fI, f4, fN, f5, f6, fC, n0, n0', m0, m0', m1, m1', c0, c0', c3, c3', c4, c4', u_0, v_0, u_i3, v_i3, u_i4, v_i4, u_c, v_c] at g8
      have z_i4 : ¬ i4 = i8 := fun e => y_i4 e.symm
      simp [-List.map_append, del, delo, f0, fH, f3, fI, f4, fN, f5, f6, fC, n0, n0', m0, m0', m1, m1', c0, c0', c3, c3', c4, c4', hlN, hnm, encT, k3, k4, hw1, u_0, v_0, u_i3, v_i3, u_i4, v_i4, u_c, v_c, y_0, z_0, y_i4, z_i4]
      exact ⟨i - 1, by omega, p1 + 1, i8, l ++ [⟨nm, .mk xk xs xl⟩], by simp; omega, by simp; omega, fun x hx' => by rcases List.mem_append.1 hx' with h | h; exact hl x h; simp only [List.mem_singleton] at h; subst h; exact ⟨hx, hnm2⟩, y_0, y_i4, rfl, by simp [encRule, encRex, y_0, z_0], by simp [encRule, encRex], rfl⟩
end Go.Proofs.YtcjmocldhjfgoaaDoor.R

open Go Go.Proofs.YtcjmocldhjfgoaaDoor.T
namespace Go.Proofs.YtcjmocldhjfgoaaDoor.R
set_option maxHeartbeats 4000000
set_option maxRecDepth 100000
set_option linter.unusedSimpArgs false
set_option linter.unusedVariables false
attribute [local simp] bsV bsRows chunk fillT partsT appV makeV rowsOf cellsOf placeOf frzT frz1
def RNB : List (List UInt8) := RN ++ [[], [65], [116, 111, 111, 108, 111, 110, 103]]
def RN3 : List (List UInt8) := [[], [65], [116, 111, 111, 108, 111, 110, 103]]
theorem noHR_app : ∀ a b : List (List TV), noHR (a ++ b) = (noHR a && noHR b)
  | [], b => by simp
  | x :: a, b => by simp [noHR_app a b, Bool.and_assoc]
theorem tcr_l6Bent (b : List UInt8) (p : Nat) (hb : b.length ≤ 2000) (hp : p ≤ 840000000) : TCR Tryd.prog 13 [.pd 0 0 0 0] [rdr b p] (fun r o => ∃ (l : List Rule) (p' : Nat), r = .own 34 (l.map encRule) ∧ (∀ x ∈ l, Sm x.rex ∧ x.name ∈ RNB) ∧ l.length ≤ 5 ∧ p' ≤ p + 1500 ∧ o = [rdr b p']) := by
  refine TCR.enter Tryd.func13 rfl (by simp [Tryd.ntmps13]) rfl (tw_sound (ρ := []) ?_)
  rw [Tryd.ntmps13]
  simp
  refine TWoH.lendR [0] (tcr_l6Rules b p hb (by omega)) callable_19 (by simp [List.findIdx?_cons]) (by simp) (by simp) (by simp) ?_
  rintro r o ⟨l, p1, rfl, hl, hl1, hl4, hp1, rfl⟩
  have hnl : noHR (l.map encRule) = true := by clear hl hl1 hl4; induction l <;> simp [*]
  refine ⟨by simp [rdr], by simp [hnl], .inl (by simp [List.findIdx?_cons]), fun q hq => ?_⟩
  have fq := frF_ge hq [0] (by simp)
  clear hq
  simp [frF] at fq
  simp [fq]
  refine TWoH.lendR [0] (tcr_pick b p1 48 hb (by omega)) callable_18 (by simp [List.findIdx?_cons, fq]) (by simp [fq]) (by simp) (by simp) ?_
  rintro r o ⟨k, rfl, k0, k1, rfl⟩
  refine ⟨by simp [rdr], by simp, .inl (by simp [List.findIdx?_cons, fq]), fun q2 hq2 => ?_⟩
  clear hq2
  have hN : ∀ x ∈ l, Sm x.rex ∧ x.name ∈ RNB := fun x hx => ⟨(hl x hx).1, List.mem_append_left _ (hl x hx).2⟩
  by_cases c0 : k = 0
  · simp [c0, fq]
    refine gall_fresh [0, q] (by simp [fq]) fun a fa => ?_
    simp [frF] at fa
    simp [fq, fa]
    exact ⟨_, _, ⟨rfl, rfl⟩, by simp, by simp [fq, fa], [], by simp, by simp, by simp, p1 + 1, by omega, by simp [fq, fa]⟩
  obtain ⟨⟨nm, xk, xs, xl⟩, l2, rfl⟩ : ∃ x l2, l = x :: l2 := by
    cases l with
    | nil => simp at hl1
    | cons x l2 => exact ⟨x, l2, rfl⟩
  simp only [List.length_cons] at hl1 hl4
  have hx0 := hN ⟨nm, .mk xk xs xl⟩ (by simp)
  have hN2 : ∀ x ∈ l2, Sm x.rex ∧ x.name ∈ RNB := fun x hx => hN x (by simp [hx])
  have z1 : (0 : Int) < l2.length + 1 := by omega
  by_cases c1 : k = 1
  · simp [c0, c1, fq]
    refine gall_fresh [0, q] (by simp [fq]) fun a fa => ?_
    simp [frF] at fa
    simp [fq, fa]
    refine TWoH.turn (Turn.freeze a (t := .own 9 (RN3.map encT)) (by simp [fa, fq, encT, RN3]) ?_)
    refine TWoH.lendR [0] (tcr_of b (p1 + 1) RN3 hb (by omega) (by simp [RN3]) (by simp [RN3])) callable_12 (by simp [fq, fa, encT, RN3, List.findIdx?_cons]) (by simp [fq, fa, del]) (by simp) (by simp) ?_
    rintro r o ⟨x, hx, rfl, rfl⟩
    refine ⟨by simp [rdr], by simp, .inl (by simp [fq, fa, List.findIdx?_cons]), fun q2 hq2 => ?_⟩
    clear hq2
    simp [fq, fa, del, encRule, encRex, z1]
    exact ⟨_, _, ⟨rfl, rfl⟩, by simp [noHR_rex], by simp [fq, fa, del], ⟨x, .mk xk xs xl⟩ :: l2, by simp [encRule, encRex], by simp; exact ⟨⟨hx0.1, List.mem_append_right _ hx⟩, hN2⟩, by simp; omega, p1 + 2, by omega, by simp [fq, fa, del]⟩
  by_cases c2 : k = 2
  · have k3 : (l2.length + 1 + 1) * 72 ≤ 140737488355328 := by omega
    have k4 : l2.length ≤ 9223372036854775805 := by omega
    simp [c0, c1, c2, fq, encRule, encRex, z1]
    refine gall_fresh [0, q] (by simp [fq]) fun a fa => ?_
    simp [frF] at fa
    simp [fq, fa, k3, k4]
    refine gall_fresh [0, a] (by simp [fq, fa]) fun c fc => ?_
    simp [frF] at fc
    simp [fq, fa, fc]
    have hnl2 := hnl
    simp only [List.map_cons, noHR, Bool.and_eq_true] at hnl2
    exact ⟨_, _, ⟨rfl, rfl⟩, by simp [noHR_rex, noHR_app, hnl2.2], by simp [fq, fa, fc, del, delo], ⟨nm, .mk xk xs xl⟩ :: l2 ++ [⟨nm, .mk xk xs xl⟩], by simp [encRule, encRex], by intro x hx; simp only [List.mem_append, List.mem_singleton] at hx; rcases hx with hx | hx; exact hN x hx; subst hx; exact hx0, by simp; omega, p1 + 1, by omega, by simp [fq, fa, fc, del, delo]⟩
  by_cases c3 : k = 3
  · simp [c0, c1, c2, c3, fq, encRule, encRex, z1]
    refine TWoH.lendR [0] (tcr_l2Bent b (p1 + 1) hb (by omega)) callable_20 (by simp [List.findIdx?_cons, fq]) (by simp [fq]) (by simp) (by simp) ?_
    rintro r o ⟨⟨yk, ys, yl⟩, p2, rfl, hy, hp2, rfl⟩
    refine ⟨by simp [rdr], by simp, .inl (by simp [fq, List.findIdx?_cons]), fun q2 hq2 => ?_⟩
    clear hq2
    simp [fq, del, encRule, encRex, z1]
    exact ⟨_, _, ⟨rfl, rfl⟩, by simp [noHR_rex], by simp [fq, del], ⟨nm, .mk yk ys yl⟩ :: l2, by simp [encRule, encRex], by simp; exact ⟨⟨hy, hx0.2⟩, hN2⟩, by simp; omega, p2, by omega, by simp [fq, del]⟩
  simp [c0, c1, c2, c3, fq]
  exact ⟨_, _, ⟨rfl, rfl⟩, by simp [noHR_rex], by simp [fq, del], ⟨nm, .mk xk xs xl⟩ :: l2, by simp [encRule, encRex], by simp; exact ⟨hx0, hN2⟩, by simp; omega, p1 + 1, by omega, by simp [fq, del]⟩
end Go.Proofs.YtcjmocldhjfgoaaDoor.R

open Go Go.Proofs.YtcjmocldhjfgoaaDoor.T
namespace Go.Proofs.YtcjmocldhjfgoaaDoor.R
set_option maxHeartbeats 4000000
set_option maxRecDepth 100000
set_option linter.unusedSimpArgs false
set_option linter.unusedVariables false
attribute [local simp] bsV bsRows chunk fillT partsT appV makeV rowsOf cellsOf placeOf frzT frz1
def RB (l : List Rule) : Prop := (∀ x ∈ l, Sm x.rex ∧ x.name ∈ RNB) ∧ l.length ≤ 5
theorem RNB_len {n : List UInt8} (h : n ∈ RNB) : n.length ≤ 7 := by
  simp only [RNB, RN, List.mem_append, List.mem_cons, List.not_mem_nil, or_false] at h
  rcases h with (h | h | h | h | h) | h | h | h <;> subst h <;> simp
theorem RB.sm {l : List Rule} (h : RB l) : RSm l := ⟨by have := h.2; omega, fun r hr => ⟨(h.1 r hr).1, by have := RNB_len (h.1 r hr).2; omega⟩⟩
def RS (l : List Rule) : Prop := l.length ≤ 5 ∧ ∀ x ∈ l, Sm x.rex ∧ x.name.length ≤ 8
theorem RB.rs {l : List Rule} (h : RB l) : RS l := ⟨h.2, fun x hx => ⟨(h.1 x hx).1, by have := RNB_len (h.1 x hx).2; omega⟩⟩
theorem RS.sm {l : List Rule} (h : RS l) : RSm l := ⟨by have := h.1; omega, fun r hr => ⟨(h.2 r hr).1, by have := (h.2 r hr).2; omega⟩⟩
end Go.Proofs.YtcjmocldhjfgoaaDoor.R

open Go Go.Proofs.YtcjmocldhjfgoaaDoor.T
namespace Go.Proofs.YtcjmocldhjfgoaaDoor.R
set_option maxHeartbeats 4000000
set_option maxRecDepth 100000
set_option linter.unusedSimpArgs false
set_option linter.unusedVariables false
theorem okFrom_false {l : List Rule} {i : Nat} (hi : i < l.length) (h : ruleAt l i = false) : rulesOk l = false := by
  have : okFrom l 0 = false := by
    unfold okFrom
    rw [List.all_eq_false]
    exact ⟨i, by rw [List.mem_range'_1]; omega, by simp [h]⟩
  simp [rulesOk, this]
theorem rulesOk_at {l : List Rule} (h : rulesOk l = true) : (1 ≤ l.length ∧ l.length ≤ 5) ∧ ∀ i, i < l.length → ruleAt l i = true := by
  simp only [rulesOk, Bool.and_eq_true, decide_eq_true_eq] at h
  refine ⟨h.1, fun i hi => ?_⟩
  have := h.2
  unfold okFrom at this
  rw [List.all_eq_true] at this
  exact this i (by rw [List.mem_range'_1]; omega)
theorem rulesOk_of {l : List Rule} (h1 : 1 ≤ l.length ∧ l.length ≤ 5) (h2 : ∀ i, i < l.length → ruleAt l i = true) : rulesOk l = true := by
  simp only [rulesOk, Bool.and_eq_true, decide_eq_true_eq]
  refine ⟨h1, ?_⟩
  unfold okFrom
  rw [List.all_eq_true]
  intro i hi
  rw [List.mem_range'_1] at hi
  exact h2 i (by omega)
theorem bad_name (x : Rex) (l : List Rule) : rulesOk (⟨[65], x⟩ :: l) = false := by
  refine okFrom_false (i := 0) (by simp) ?_
  have : wordOk [65] = false := by decide
  simp [ruleAt, this]
theorem bad_twice (x : Rule) (l : List Rule) : rulesOk ((x :: l) ++ [x]) = false := by
  refine okFrom_false (i := l.length + 1) (by simp) ?_
  have : newN ((x :: l) ++ [x]) (l.length + 1) 0 = false := by
    rw [newN_next (by omega)]
    have e1 : nm ((x :: l) ++ [x]) 0 = x.name := by simp [nm]
    have e2 : nm ((x :: l) ++ [x]) (l.length + 1) = x.name := by simp [nm]
    rw [e1, e2]; simp
  rw [List.cons_append] at this ⊢
  simp [ruleAt, this]
theorem bad_many {l : List Rule} (h : 5 < l.length) : rulesOk l = false := by
  have : ¬ (1 ≤ l.length ∧ l.length ≤ 5) := by omega
  simp [rulesOk, this]
def zn (j : Nat) : List UInt8 := [122, UInt8.ofNat (97 + j)]
def extR (j : Nat) : Rule := ⟨zn j, .mk 2 [] []⟩
def padTo (l : List Rule) (n : Nat) : List Rule := l ++ (List.range' l.length (n - l.length)).map extR
theorem padTo_len {l : List Rule} {n : Nat} (h : l.length ≤ n) : (padTo l n).length = n := by
  unfold padTo; simp; omega
theorem padTo_self (l : List Rule) : padTo l l.length = l := by simp [padTo]
theorem padTo_succ {l : List Rule} {n : Nat} (h : l.length ≤ n) : padTo l (n + 1) = padTo l n ++ [extR n] := by
  unfold padTo
  rw [show n + 1 - l.length = (n - l.length) + 1 by omega, List.range'_concat, List.map_append, List.append_assoc]
  simp; congr 2; omega
theorem padTo_take {l : List Rule} {n : Nat} (h : l.length ≤ n) : (padTo l (n + 1)).take n = padTo l n := by
  have := padTo_len h
  rw [padTo_succ h, List.take_append_of_le_length (by omega), List.take_of_length_le (by omega)]
theorem padTo_old {l : List Rule} {n j : Nat} (h : j < l.length) : (padTo l n)[j]? = l[j]? := by
  unfold padTo; rw [List.getElem?_append_left h]
theorem padTo_new {l : List Rule} {n j : Nat} (h1 : l.length ≤ j) (h2 : j < n) : (padTo l n)[j]? = some (extR j) := by
  unfold padTo
  rw [List.getElem?_append_right h1, List.getElem?_map, List.getElem?_range' (by omega)]
  simp; congr 1; omega
theorem newN_of {l : List Rule} {i : Nat} (h : ∀ j, j < i → nm l j ≠ nm l i) : newN l i 0 = true := by
  unfold newN
  rw [List.all_eq_true]
  intro j hj
  rw [List.mem_range'_1] at hj
  simpa using h j (by omega)
theorem newN_get {l : List Rule} {i j : Nat} (h : newN l i 0 = true) (hj : j < i) : nm l j ≠ nm l i := by
  unfold newN at h
  rw [List.all_eq_true] at h
  have := h j (by rw [List.mem_range'_1]; omega)
  simpa using this
theorem zn_new {x : List UInt8} {j : Nat} (hx : x ∈ RNB) : x ≠ zn j := by
  intro e
  subst e
  simp [RNB, RN, zn] at hx
theorem zn_inj {i j : Nat} (hi : i < 6) (hj : j < 6) (h : zn i = zn j) : i = j := by
  have h2 : UInt8.ofNat (97 + i) = UInt8.ofNat (97 + j) := by
    unfold zn at h
    simpa using h
  have h3 := congrArg UInt8.toNat h2
  simp at h3
  omega
/-- Rules that are filled up to five are right. -/
theorem pad_ok {l : List Rule} (h : rulesOk l = true) (hn : ∀ x ∈ l, x.name ∈ RNB) : rulesOk (padTo l 5) = true := by
  obtain ⟨hl, ha⟩ := rulesOk_at h
  have hlen := padTo_len (l := l) (n := 5) hl.2
  refine rulesOk_of (by omega) fun i hi => ?_
  have old : ∀ j, j < l.length → nm (padTo l 5) j = nm l j := fun j hj => by unfold nm; rw [padTo_old hj]
  have new : ∀ j, l.length ≤ j → j < 5 → nm (padTo l 5) j = zn j := fun j h1 h2 => by unfold nm; rw [padTo_new h1 h2]; rfl
  by_cases c : i < l.length
  · have := ha i c
    simp only [ruleAt, Bool.and_eq_true] at this ⊢
    rw [padTo_old c]
    refine ⟨this.1, newN_of fun j hj => ?_⟩
    rw [old j (by omega), old i c]
    exact newN_get this.2 hj
  · have hi5 : i < 5 := by omega
    simp only [ruleAt, Bool.and_eq_true]
    rw [padTo_new (by omega) hi5]
    refine ⟨?_, newN_of fun j hj => ?_⟩
    · have : ∀ k, k < 5 → (wordOk (extR k).name && rexOk (extR k).rex) = true := by decide
      have := this i hi5
      simpa using this
    · rw [new i (by omega) hi5]
      by_cases cj : j < l.length
      · rw [old j cj]
        have : nm l j = l[j].name := by unfold nm; rw [List.getElem?_eq_getElem cj]
        rw [this]
        exact zn_new (hn _ (List.getElem_mem cj))
      · rw [new j (by omega) (by omega)]
        intro e
        have := zn_inj (by omega) (by omega) e
        omega
theorem word_more {w : List UInt8} (h : wordOk w = true) : wordOk (w ++ [122]) = decide (w.length < 6) := by
  simp only [wordOk, Bool.and_eq_true, decide_eq_true_eq] at h
  unfold wordOk
  rw [List.all_append, h.1]
  have : [(122 : UInt8)].all wc = true := by decide
  rw [this, Bool.eq_iff_iff]
  simp
  omega
end Go.Proofs.YtcjmocldhjfgoaaDoor.R

open Go Go.Proofs.YtcjmocldhjfgoaaDoor.T
namespace Go.Proofs.YtcjmocldhjfgoaaDoor.R
set_option maxHeartbeats 8000000
set_option maxRecDepth 100000
set_option linter.unusedSimpArgs false
set_option linter.unusedVariables false
attribute [local simp] bsV bsRows chunk fillT partsT appV makeV rowsOf cellsOf placeOf frzT frz1
def WL : List (List UInt8) := [[], [97], [97, 98, 99, 100, 101, 102], [97, 98, 99, 100, 101, 102, 103], [65], [97, 49], [110, 117, 109]]
theorem WL_len {w : List UInt8} (h : w ∈ WL) : w.length ≤ 7 := by
  simp only [WL, List.mem_cons, List.not_mem_nil, or_false] at h
  rcases h with h | h | h | h | h | h | h <;> subst h <;> simp
theorem tcr_DrawRuleWord (b : List UInt8) (hb : b.length ≤ 1048576) : TCR Tryd.prog 4 [.ro (b.map encU)] [] (fun r o => ∃ w : List UInt8, r = .val (.string (bs w)) ∧ w.length ≤ 7 ∧ o = []) := by
  refine TCR.enter Tryd.func4 rfl (by simp [Tryd.ntmps4]) rfl (tw_sound (ρ := []) ?_)
  rw [Tryd.ntmps4]
  simp
  refine TWoH.call (tc_l15Open b hb) callable_11 (by simp) (by simp [rdr, ← List.map_take]) (by simp) fun q hq => ?_
  clear hq
  have hbt : (b.take 2000).length ≤ 2000 := by simp; omega
  simp [rdr]
  refine gall_fresh [q] (by simp) fun a fa => ?_
  simp [frF] at fa
  simp [fa]
  refine TWoH.turn (Turn.freeze a (t := .own 9 (WL.map encT)) (by simp [fa, encT, WL]) ?_)
  refine TWoH.lendR [q] (tcr_of (b.take 2000) 0 WL hbt (by omega) (by simp [WL]) (by simp [WL])) callable_12 (by simp [fa, encT, WL, List.findIdx?_cons]) (by simp [fa, del, rdr]) (by simp) (by simp) ?_
  rintro r o ⟨x, hx, rfl, rfl⟩
  refine ⟨by simp [rdr], by simp, .inl (by simp [fa, List.findIdx?_cons]), fun q2 hq2 => ?_⟩
  clear hq2
  simp [fa, del]
  exact ⟨x, rfl, WL_len hx⟩
theorem tcr_DrawRulesOk (b : List UInt8) (hb : b.length ≤ 1048576) : TCR Tryd.prog 5 [.ro (b.map encU)] [] (fun r o => ∃ l : List Rule, r = .ro (l.map encRule) ∧ (∀ x ∈ l, Sm x.rex ∧ x.name ∈ RNB) ∧ l.length ≤ 5 ∧ o = []) := by
  suffices h : TCR Tryd.prog 5 [.ro (b.map encU)] [] (fun r o => ∃ l : List Rule, r = .own 34 (l.map encRule) ∧ (∀ x ∈ l, Sm x.rex ∧ x.name ∈ RNB) ∧ l.length ≤ 5 ∧ o = []) by
    refine h.frz.mono ?_
    rintro r o ⟨r0, ⟨l, rfl, h1, h2, rfl⟩, rfl⟩
    exact ⟨l, by simp, h1, h2, rfl⟩
  refine TCR.enter Tryd.func5 rfl (by simp [Tryd.ntmps5]) rfl (tw_sound (ρ := []) ?_)
  rw [Tryd.ntmps5]
  simp
  refine TWoH.call (tc_l15Open b hb) callable_11 (by simp) (by simp [rdr, ← List.map_take]) (by simp) fun q hq => ?_
  clear hq
  have hbt : (b.take 2000).length ≤ 2000 := by simp; omega
  simp [rdr]
  refine TWoH.lendR [q] (tcr_l6Bent (b.take 2000) 0 hbt (by omega)) callable_13 (by simp [List.findIdx?_cons]) (by simp [rdr]) (by simp) (by simp) ?_
  rintro r o ⟨l, p1, rfl, hl, hl5, hp1, rfl⟩
  have hnl : noHR (l.map encRule) = true := by clear hl hl5; induction l <;> simp [*]
  refine ⟨by simp [rdr], by simp [hnl], .inl (by simp [List.findIdx?_cons]), fun k hk => ?_⟩
  have fk := frF_ge hk [q] (by simp)
  clear hk
  simp [frF] at fk
  simp [fk]
  exact ⟨l, rfl, hl, hl5⟩
theorem tc_iRulesTextBad (l : List Rule) (hs : RSm l) (h : rulesOk l = false) : TC Tryd.prog 10 [.ro (l.map encRule)] [] (.val (.string (bs []))) [] := by
  refine TC.enter Tryd.func10 rfl (by simp [Tryd.ntmps10]) rfl (tw_sound (ρ := []) ?_)
  rw [Tryd.ntmps10]
  simp
  refine TWoH.callV (tc_iRulesOk l hs) callable_8 (by simp) (by simp) (by simp) (by simp) ?_
  simp [h]
end Go.Proofs.YtcjmocldhjfgoaaDoor.R

open Go Go.Proofs.YtcjmocldhjfgoaaDoor.T
namespace Go.Proofs.YtcjmocldhjfgoaaDoor.R
set_option maxHeartbeats 8000000
set_option maxRecDepth 100000
set_option linter.unusedSimpArgs false
set_option linter.unusedVariables false
attribute [local simp] bsV bsRows chunk fillT partsT appV makeV rowsOf cellsOf placeOf frzT frz1
theorem fzR (k : Nat) (r : TV) (x : Rule) : List.map (frz1 k r) (encRule x) = encRule x := by
  obtain ⟨n, c, s, l⟩ := x
  simp [encRule, encRex]
theorem fzRc (k : Nat) (r : TV) : ((fun row => List.map (frz1 k r) row) ∘ encRule) = encRule := by funext x; exact fzR k r x
theorem fzTc (k : Nat) (r : TV) : ((fun row => List.map (frz1 k r) row) ∘ encT) = encT := by funext x; simp [encT]
def ZL : List (List UInt8) := [[122, 97], [122, 98], [122, 99], [122, 100], [122, 101], [122, 102]]
theorem ZL_at : ∀ n, n < 6 → ZL[n]? = some (zn n) := by decide
theorem nrR (x : Rule) : (encRule x).map nrm1 = encRule x := by
  obtain ⟨n, c, s, l⟩ := x
  simp [encRule, encRex, nrm1]
theorem nrRc : ((fun row => List.map nrm1 row) ∘ encRule) = encRule := by funext x; exact nrR x
theorem tc_FnRuleWord (b : List UInt8) : TC Tryd.prog 3 [.ro (b.map encU)] [] (.val (.bool true)) [] := by
  refine TC.enter Tryd.func3 rfl (by simp [Tryd.ntmps3]) rfl (tw_sound (ρ := []) ?_)
  rw [Tryd.ntmps3]
  by_cases hb0 : (1048576 : Int) < b.length
  · simp [hb0]
  have hb : b.length ≤ 1048576 := by omega
  simp [hb0]
  refine TWoH.callR (tcr_DrawRuleWord b hb) callable_4 (by simp) ?_
  rintro r o ⟨w, rfl, hw, rfl⟩
  refine ⟨rfl, by simp, .inl (by simp), fun q hq => ?_⟩
  clear hq
  simp
  refine TWoH.callR (tcr_DrawRulesOk b hb) callable_5 (by simp) ?_
  rintro r o ⟨l, rfl, hl, hl5, rfl⟩
  have hnl : noHR (l.map encRule) = true := by clear hl hl5; induction l <;> simp [*]
  refine ⟨rfl, by simp [hnl], .inl (by simp), fun q hq => ?_⟩
  clear hq
  have hrb : RB l := ⟨hl, hl5⟩
  have hs := hrb.sm
  have t1 := tc_iRuleWord w (by omega)
  have t2 := tc_sRuleWord w (by omega)
  have t3 := tc_iRulesOk l hs
  have t4 := tc_sRulesOk l hs
  simp
  refine TWoH.callV t1 callable_6 (by simp) (by simp) (by simp) (by simp) ?_
  simp
  refine TWoH.callV t2 callable_7 (by simp) (by simp) (by simp) (by simp) ?_
  simp
  refine TWoH.callV t3 callable_8 (by simp) (by simp) (by simp) (by simp) ?_
  simp
  refine TWoH.callV t4 callable_9 (by simp) (by simp) (by simp) (by simp) ?_
  simp
  refine TWoH.callV t1 callable_6 (by simp) (by simp) (by simp) (by simp) ?_
  have t5 : wordOk w = true → TC Tryd.prog 6 [.val (.string (bs (w ++ [122])))] [] (.val (.bool (decide (w.length < 6)))) [] := fun h => by
    have := tc_iRuleWord (w ++ [122]) (by simp; omega)
    rwa [word_more h] at this
  have k1 : ¬ (9223372036854775807 : Int) < (w.length : Int) + 1 := by omega
  cases c1 : wordOk w
  case' false => simp [c1]
  case' true =>
    simp [c1, k1]
    refine TWoH.callV (t5 c1) callable_6 (by simp) (by simp) (by simp) (by simp) ?_
    have c3 : decide ((w.length : Int) < 6) = decide (w.length < 6) := by rw [Bool.eq_iff_iff]; simp; omega
    generalize decide (w.length < 6) = B at c3
    simp [c1, k1, c3]
  all_goals
    refine TWoH.callV t4 callable_9 (by simp) (by simp) (by simp) (by simp) ?_
    cases c2 : rulesOk l
    case' false =>
      simp
      refine TWoH.callV (tc_iRulesTextBad l hs c2) callable_10 (by simp) (by simp) (by simp) (by simp) ?_
      simp
    case' true =>
      simp
      obtain ⟨⟨hl1, _⟩, _⟩ := rulesOk_at c2
      have k2 : l.length * 72 ≤ 140737488355328 := by omega
      have k3 : l.length ≤ 9223372036854775807 := by omega
      obtain ⟨⟨n0, xk, xs, xl⟩, l2, rfl⟩ : ∃ x l2, l = x :: l2 := by
        cases l with
        | nil => simp at hl1
        | cons x l2 => exact ⟨x, l2, rfl⟩
      simp only [List.length_cons] at hl1 hl5 k2 k3
      have k5 : l2.length ≤ 9223372036854775805 := Nat.le_trans (Nat.le_of_succ_le_succ hl5) (by decide)
      have k4 : (l2.length + 1 + 1) * 72 ≤ 140737488355328 := Nat.le_trans (Nat.mul_le_mul_right 72 (Nat.succ_le_succ hl5)) (by decide)
      obtain ⟨A, hA⟩ : ∃ A : List Rule, A = ⟨[65], .mk xk xs xl⟩ :: l2 := ⟨_, rfl⟩
      obtain ⟨L, hL⟩ : ∃ L : List Rule, L = ⟨n0, .mk xk xs xl⟩ :: l2 := ⟨_, rfl⟩
      have hLn : L.length = l2.length + 1 := by rw [hL]; simp
      have z1 : (0 : Int) < l2.length + 1 := by omega
      refine gall_intro fun r5 g5 => ?_
      clear g5
      simp [k2, k3]
      refine gall_fresh [r5] (by simp) fun a5 f5 => ?_
      simp [frF] at f5
      simp [f5, del, delo, z1, encRule, encRex]
      refine TWcH.turn (Turn.freezeA a5 (t := .own 34 (A.map encRule)) (by simp [hA, encRule, encRex]) ?_)
      refine TWcH.midB (ρ := [57]) (fun st => ∃ u6, st.σ 3 = .val (.string (bs w)) ∧ st.σ 4 = .ro (L.map encRule) ∧ st.σ 5 = .ro (A.map encRule) ∧ st.σ 6 = .hd u6 ∧ st.H u6 = some (.own 34 ((L ++ [(⟨n0, .mk xk xs xl⟩ : Rule)]).map encRule)))
        (.first 1 (.first 3 (.first 4 (.pick 0 (.pick 2 (.pick 5 (.pick 6 (.pick 7 (.first 8 .fin) .fin) .fin) .fin) (.pick 5 (.pick 2 (.pick 6 (.pick 7 (.first 8 .fin) .fin) .fin) (.pick 6 (.pick 2 (.pick 7 (.first 8 .fin) .fin) .fin) .fin)) .fin)) (.pick 5 (.pick 0 (.pick 2 (.pick 6 (.pick 7 (.first 8 .fin) .fin) .fin) (.pick 6 (.pick 2 (.pick 7 (.first 8 .fin) .fin) .fin) .fin)) (.pick 6 (.pick 0 (.pick 2 (.pick 7 (.first 8 .fin) .fin) .fin) .fin) .fin)) .fin))))) mixed (by kernel_rfl) ?_ ?_
      case refine_1 =>
        have hLm : L.map encRule = encRule ⟨n0, .mk xk xs xl⟩ :: l2.map encRule := by rw [hL]; rfl
        simp [encRule, encRex, z1]
        repeat' (refine And.intro ?_ ?_)
        all_goals
          refine gall_fresh [] (by simp) fun r6 g6 => ?_
          clear g6
          simp [encRule, encRex, z1, k2, k3, del, delo]
        repeat' (refine And.intro ?_ ?_)
        all_goals
          refine gall_fresh [r6] (by simp) fun s6 h6 => ?_
          simp [frF] at h6
          simp [encRule, encRex, z1, k2, k3, k4, k5, del, delo, h6]
        repeat' (refine And.intro ?_ ?_)
        all_goals
          refine gall_fresh [s6] (by simp [h6]) fun u6 j6 => ?_
          simp [frF] at j6
          simp [encRule, encRex, z1, k2, k3, k4, k5, del, delo, h6, j6, hL]
      case refine_2 =>
        clear k1 k2 k3 k4 k5
        have sA : RSm A := by
          rw [hA]
          refine ⟨by simp; omega, fun r hr => ?_⟩
          rcases List.mem_cons.1 hr with rfl | hr
          · exact ⟨(hl ⟨n0, .mk xk xs xl⟩ (by simp)).1, by simp⟩
          · exact ⟨(hl r (by simp [hr])).1, by have := RNB_len (hl r (by simp [hr])).2; omega⟩
        have hlL : ∀ x ∈ L, Sm x.rex ∧ x.name ∈ RNB := by rw [hL]; exact hl
        have sL : RSm L := by rw [hL]; exact hs
        have okL : rulesOk L = true := by rw [hL]; exact c2
        have sB : RSm (L ++ [(⟨n0, .mk xk xs xl⟩ : Rule)]) := by
          refine ⟨by simp; omega, fun r hr => ?_⟩
          rcases List.mem_append.1 hr with hr | hr
          · exact sL.2 r hr
          · simp only [List.mem_singleton] at hr
            subst hr
            exact sL.2 _ (by rw [hL]; simp)
        have sX : ∀ n, n ≤ 6 → RSm (padTo L n) := fun n hn => by
          refine ⟨?_, fun r hr => ?_⟩
          · unfold padTo; simp; omega
          · unfold padTo at hr
            rcases List.mem_append.1 hr with hr | hr
            · exact sL.2 r hr
            · obtain ⟨j, _, rfl⟩ := List.mem_map.1 hr
              exact ⟨by simp [extR, Sm, SmL], by simp [extR, zn]⟩
        have tA := tc_iRulesOk A sA
        have tB := tc_iRulesOk _ sB
        have tX := tc_iRulesOk _ (sX 6 (by omega))
        have tY := tc_iRulesOk _ (sX 5 (by omega))
        rw [hA, bad_name, ← hA] at tA
        rw [show L ++ [(⟨n0, .mk xk xs xl⟩ : Rule)] = (⟨n0, .mk xk xs xl⟩ :: l2) ++ [⟨n0, .mk xk xs xl⟩] by rw [hL], bad_twice, ← hL] at tB
        rw [bad_many (by rw [padTo_len (by omega)]; omega)] at tX
        rw [pad_ok okL fun x hx => (hlL x hx).2] at tY
        obtain ⟨B2, hB2⟩ : ∃ B2, L ++ [(⟨n0, .mk xk xs xl⟩ : Rule)] = B2 := ⟨_, rfl⟩
        rw [hB2] at tB
        rintro ⟨σ, H⟩ ⟨u6, h3, h4, h5, h6, H6⟩
        simp only at h3 h4 h5 h6 H6
        rw [hB2] at H6
        have hLl : L.length ≤ 5 := by omega
        have k6 : L.length * 72 ≤ 140737488355328 := by omega
        have k7 : L.length ≤ 9223372036854775807 := by omega
        clear hA hL hs hl t3 t4 hrb hnl sA sB sX hlL sL c2 okL
        simp [h3, h4, h5, h6]
        refine gall_fresh [u6] (by simp [H6]) fun r7 f7 => ?_
        simp [frF] at f7
        simp [h3, h4, h5, h6, H6, f7, del, delo, k6, k7]
        refine gall_fresh [u6, r7] (by simp [H6, f7]) fun a7 g7 => ?_
        simp [frF] at g7
        simp [h3, h4, h5, h6, H6, f7, g7, del, delo, k6, k7]
        refine gall_fresh [u6, a7] (by simp [H6, f7, g7, del]) fun z8 f8 => ?_
        simp [frF] at f8
        simp [h3, h4, h5, h6, H6, f7, g7, f8, del, delo]
        refine TWcH.turn (Turn.then (Turn.freezeA u6 (t := .own 34 (B2.map encRule)) (by simp [H6, f7, g7, f8, del]) (Turn.freezeA z8 (t := .own 9 (ZL.map encT)) (by simp [H6, f7, g7, f8, del, frzO.eq_1, frzO.eq_2, ZL, encT]) ?_)))
        refine TWcH.loopT [74] (fun m st => ∃ (n id : Nat) (t : TV), n + m = 6 ∧ L.length ≤ n ∧ st.σ 5 = .ro (A.map encRule) ∧ st.σ 6 = .ro (B2.map encRule) ∧ st.σ 7 = .hd id ∧ st.σ 8 = .ro (ZL.map encT) ∧ st.H id = some t ∧ nrmO t = .own 34 ((padTo L n).map encRule))
          (fun m st => ∃ (n id : Nat), n + m = 6 ∧ L.length ≤ n ∧ st.σ 5 = .ro (A.map encRule) ∧ st.σ 6 = .ro (B2.map encRule) ∧ st.σ 7 = .hd id ∧ st.σ 8 = .ro (ZL.map encT) ∧ st.H id = some (.own 34 ((padTo L n).map encRule))) (6 - L.length) ⟨L.length, a7, .own 34 (L.map encRule), by omega, by omega, ?_⟩ ?_ ?_
        case refine_1 => simp [h3, h4, h5, h6, H6, f7, g7, f8, del, delo, frzO.eq_1, frzO.eq_2, fzRc, fzTc, nrmO, nrRc, padTo_self]
        case refine_2 =>
          rintro m ⟨σ, H⟩ ⟨n, id, t, hn, hln, x5, x6, x7, x8, xH, xt⟩
          exact Turn.nrm id xH ⟨n, id, hn, hln, x5, x6, x7, x8, by simp [upd, xt]⟩
        clear h3 h4 h5 h6 H6 f7 g7 f8 k6 k7
        rintro m ⟨σ, H⟩ ⟨n, id, hn, hln, x5, x6, x7, x8, xH⟩
        simp only at x5 x6 x7 x8 xH
        have hlen := padTo_len hln
        by_cases hn5 : n ≤ 5
        · have hzl : n < ZL.length := by show n < 6; omega
          have hz : ∀ h, ZL[n]'h = zn n := fun h => by have := ZL_at n (by omega); rw [List.getElem?_eq_getElem h] at this; exact Option.some.inj this
          have q1 : (n : Int) ≤ 5 := by omega
          have q2 : (n + 1) * 72 ≤ 140737488355328 := by omega
          have q3 : n ≤ 9223372036854775806 := Nat.le_trans hn5 (by decide)
          simp [x5, x6, x7, x8, xH, hlen, q1, hzl, hz, encT, q2, q3]
          refine gall_fresh [id] (by simp [xH]) fun i2 fi => ?_
          simp [frF] at fi
          simp [x5, x6, x7, x8, xH, fi]
          refine ⟨6 - (n + 1), by omega, n + 1, by omega, by omega, ?_⟩
          rw [padTo_succ hln]
          simp [nrmO, nrRc, extR, encRule, encRex, encRexL, nrm1]
        · obtain rfl : n = 6 := by omega
          have hlen5 : (padTo L 6).take 5 = padTo L 5 := padTo_take hLl
          have l6 : (padTo L 6).length = 6 := hlen
          simp [x5, x6, x7, x8, xH, hlen]
          refine TWoH.turn (Turn.freezeA id (t := .own 34 ((padTo L 6).map encRule)) (by simp [xH]) ?_)
          refine TWoH.callV tA callable_8 (by simp [x5]) (by simp) (by simp) (by simp) ?_
          simp [x5, x6, x7, x8]
          refine TWoH.callV tB callable_8 (by simp [x6]) (by simp) (by simp) (by simp) ?_
          simp [x5, x6, x7, x8]
          refine TWoH.callV tX callable_8 (by simp [x7]) (by simp) (by simp) (by simp) ?_
          simp [x5, x6, x7, x8, l6, ← List.map_take, hlen5]
          refine TWoH.callV tY callable_8 (by simp [x7, l6, ← List.map_take, hlen5]) (by simp) (by simp) (by simp) ?_
          simp
end Go.Proofs.YtcjmocldhjfgoaaDoor.R
