/- Part 4: what the walk of the code stands on. Conditions: none but those that each theorem states. -/
import Derived.Test.YtdomnlnanbekaaaGreatDoorK3
open Go Go.Proofs.YtdomnlnanbekaaaGreatDoor.T
namespace Go.Proofs.YtdomnlnanbekaaaGreatDoor.R
set_option maxHeartbeats 4000000
set_option maxRecDepth 100000
set_option linter.unusedSimpArgs false
set_option linter.unusedVariables false
attribute [local simp] bsV bsRows chunk fillT partsT appV makeV rowsOf cellsOf placeOf
def encU (c : UInt8) : List TV := [.val (.int .u8 c.toNat)]
@[simp] theorem len_encU (r : UInt8) : (encU r).length = 1 := by simp [encU]
@[simp] theorem take_encU (r : UInt8) : (encU r).take 1 = encU r := by simp [encU]
@[simp] theorem plain_encU (r : UInt8) : (encU r).all TV.plain = true := by simp [encU]
@[simp] theorem pc_encU (r : UInt8) : (encU r).all TV.pc = true := by simp [encU, TV.pc, TV.cell, Value.oneCell']
@[simp] theorem noH_encU (r : UInt8) : noHL (encU r) = true := by simp [encU]
@[simp] theorem argTL_encU {H : Nat → Option TV} {ρ : List Nat} (r : UInt8) : argTL H ρ (encU r) = some (encU r) := by simp [encU]
@[simp] theorem views_encU {ρ : List Nat} (r : UInt8) : (encU r).flatMap (views1 ρ) = [] := by simp [encU]
@[simp] theorem opnL_encU {k : Nat} (r : UInt8) : opnL k (encU r) = (encU r, []) := by simp [encU]
@[simp] theorem closeL_encU {H : Nat → Option TV} (r : UInt8) : closeL H (encU r) = some (encU r, H) := by simp [encU]
@[simp] theorem roL_encU (r : UInt8) : roL (encU r) = encU r := by simp [encU]
@[simp] theorem noHR_encU (l : List UInt8) : noHR (l.map encU) = true := by induction l <;> simp [*]
@[simp] theorem roRows_encU (l : List UInt8) : roRows (l.map encU) = l.map encU := by induction l <;> simp [*]
@[simp] theorem noRo_encU (r : UInt8) : noRoL (encU r) = true := by simp [encU]
@[simp] theorem noRoR_encU (l : List UInt8) : noRoR (l.map encU) = true := by induction l <;> simp [*]
theorem rl_encU (l : List UInt8) : ∀ r ∈ l.map encU, r.length = 1 := by
  intro r hr
  obtain ⟨x, _, rfl⟩ := List.mem_map.1 hr
  simp

/-- A reader of a code. -/
def rdr (b : List UInt8) (p : Nat) : TV := .box 145 [.ro (b.map encU), .val (.int .i64 p)]
theorem xor_low {x y : Int} (hx : 0 ≤ x ∧ x ≤ 9223372036854775807) (hy : 0 ≤ y ∧ y ≤ 9223372036854775807) : 0 ≤ IntKind.i64.wrap (((x % 2 ^ IntKind.i64.bits).toNat ^^^ (y % 2 ^ IntKind.i64.bits).toNat : Nat) : Int) := by
  have hb : IntKind.i64.bits = 64 := rfl
  rw [hb]
  have h1 : (x % 2 ^ 64).toNat < 2 ^ 63 := by omega
  have h2 : (y % 2 ^ 64).toNat < 2 ^ 63 := by omega
  have := Nat.xor_lt_two_pow h1 h2
  rw [wrapi (by omega)]
  omega
theorem tmod_ok {x n : Int} (hx : 0 ≤ x) (hn : 1 ≤ n) : 0 ≤ x.tmod n ∧ x.tmod n < n ∧ x.tmod n ≤ x := by
  refine ⟨Int.tmod_nonneg _ hx, Int.tmod_lt_of_pos _ (by omega), ?_⟩
  rw [Int.tmod_eq_emod_of_nonneg hx, Int.emod_def]
  have := Int.mul_nonneg (a := n) (b := x / n) (by omega) (Int.ediv_nonneg hx (by omega))
  omega
theorem tcr_pick (b : List UInt8) (p : Nat) (n : Int) (hb : b.length ≤ 2000) (hp : p ≤ 1000000000) : TCR Tryz.prog 72 [.pd 0 0 0 0, .val (.int .i64 n)] [rdr b p] (fun r o => ∃ k : Int, r = .val (.int .i64 k) ∧ 0 ≤ k ∧ (1 ≤ n → k < n) ∧ o = [rdr b (p + 1)]) := by
  refine TCR.enter Tryz.func72 rfl (by simp [Tryz.ntmps72]) rfl (tw_sound (ρ := []) ?_)
  rw [Tryz.ntmps72]
  have hw : IntKind.i64.wrap ((p : Int) + 1) = (p + 1 : Nat) := by rw [wrapi (by omega)]; simp
  simp [rdr, hw]
  by_cases c1 : n < 1
  · simp [c1]
    exact ⟨_, _, ⟨rfl, rfl⟩, by simp, by simp, 0, by simp; omega⟩
  simp [c1]
  by_cases c2 : b = []
  · subst c2
    simp
    exact ⟨_, _, ⟨rfl, rfl⟩, by simp, by simp, 0, by simp; omega⟩
  have c2' : ¬ b.length = 0 := by simpa using c2
  have hw2 : IntKind.i64.wrap (p : Int) = p := wrapi (by omega)
  simp [c2, c2', hw2]
  by_cases c3 : p < b.length
  · obtain ⟨c, hc⟩ : ∃ c, ∀ h, b[p]'h = c := ⟨b[p], fun _ => rfl⟩
    have h1 : ¬ n = 0 := by omega
    have hcl := c.toNat_lt
    obtain ⟨h2, h3, h4⟩ := tmod_ok (x := c.toNat) (n := n) (by omega) (by omega)
    have hw3 : IntKind.i64.wrap ((c.toNat : Int).tmod n) = (c.toNat : Int).tmod n := wrapi (by omega)
    simp [c3, encU, hc, h1, hw3]
    exact ⟨_, _, ⟨rfl, rfl⟩, by simp, by simp, _, by simp; rfl, by omega, fun _ => by omega, by simp⟩
  simp [c3]
  have L0 : (1 : Int) ≤ b.length := by omega
  have L1 : ¬ (b.length : Int) = 0 := by omega
  have w7 : IntKind.i64.wrap ((p : Int) * 7) = p * 7 := wrapi (by omega)
  have w73 : IntKind.i64.wrap ((p : Int) * 7 + 3) = p * 7 + 3 := wrapi (by omega)
  obtain ⟨a1, a2, a3⟩ := tmod_ok (x := (p : Int)) (n := b.length) (by omega) L0
  obtain ⟨d1, d2, d3⟩ := tmod_ok (x := (p : Int) * 7 + 3) (n := b.length) (by omega) L0
  have e1 : 0 ≤ (p : Int).tdiv b.length := Int.tdiv_nonneg (by omega) (by omega)
  have e2 : (p : Int).tdiv b.length ≤ p := Int.tdiv_le_self _ (by omega)
  have wa : IntKind.i64.wrap ((p : Int).tmod b.length) = (p : Int).tmod b.length := wrapi (by omega)
  have wd : IntKind.i64.wrap (((p : Int) * 7 + 3).tmod b.length) = ((p : Int) * 7 + 3).tmod b.length := wrapi (by omega)
  have we : IntKind.i64.wrap ((p : Int).tdiv b.length) = (p : Int).tdiv b.length := wrapi (by omega)
  refine TWcH.regionD (ρ := []) [0, 1, 2, 3, 4, 5, 6, 7, 8, 9, 10, 11, 12, 13, 14, 15, 16, 17, 18, 19, 20, 21, 22, 23, 24, 25, 26, 27, 28, 29, 30, 31, 32, 33, 34, 35, 36, 37, 38, 39, 40, 41, 42, 43, 44, 45] 46 mixed (by kernel_rfl) ?_
  have n0 : ¬ n = 0 := by omega
  obtain ⟨q1, hq1⟩ : ∃ q, (p : Int).tmod b.length = q := ⟨_, rfl⟩
  obtain ⟨q2, hq2⟩ : ∃ q, ((p : Int) * 7 + 3).tmod b.length = q := ⟨_, rfl⟩
  obtain ⟨q3, hq3⟩ : ∃ q, (p : Int).tdiv b.length = q := ⟨_, rfl⟩
  rw [hq1] at a1 a2 a3 wa
  rw [hq2] at d1 d2 d3 wd
  rw [hq3] at e1 e2 we
  have f1 : q1.toNat < b.length := by omega
  have f2 : q2.toNat < b.length := by omega
  obtain ⟨x1, hx1⟩ : ∃ c, ∀ h, b[q1.toNat]'h = c := ⟨b[q1.toNat], fun _ => rfl⟩
  obtain ⟨x2, hx2⟩ : ∃ c, ∀ h, b[q2.toNat]'h = c := ⟨b[q2.toNat], fun _ => rfl⟩
  have g1 := x1.toNat_lt
  have g2 := x2.toNat_lt
  have w1 : IntKind.i64.wrap ((x1.toNat : Int) * 131) = x1.toNat * 131 := wrapi (by omega)
  have w2 : IntKind.i64.wrap ((x2.toNat : Int) * 1117) = x2.toNat * 1117 := wrapi (by omega)
  have w3 : IntKind.i64.wrap ((x1.toNat : Int) * 131 + x2.toNat * 1117) = x1.toNat * 131 + x2.toNat * 1117 := wrapi (by omega)
  have w4 : IntKind.i64.wrap ((p : Int) * 29) = p * 29 := wrapi (by omega)
  have w5 : IntKind.i64.wrap ((x1.toNat : Int) * 131 + x2.toNat * 1117 + p * 29) = x1.toNat * 131 + x2.toNat * 1117 + p * 29 := wrapi (by omega)
  have w6 : IntKind.i64.wrap (q3 * 53) = q3 * 53 := wrapi (by omega)
  have w8 : IntKind.i64.wrap ((x1.toNat : Int) * 131 + x2.toNat * 1117 + p * 29 + q3 * 53) = x1.toNat * 131 + x2.toNat * 1117 + p * 29 + q3 * 53 := wrapi (by omega)
  simp [c2, c2', hw2, L1, w7, w73, wa, wd, we, hq1, hq2, hq3, a1, a2, d1, d2, f1, f2, hx1, hx2, encU, w1, w2, w3, w4, w5, w6, w8, n0]
  obtain ⟨X, hX, hX0⟩ : ∃ X : Int, (x1.toNat : Int) * 131 + x2.toNat * 1117 + p * 29 + q3 * 53 = X ∧ (0 ≤ X ∧ X ≤ 9223372036854775807) := ⟨_, rfl, by omega⟩
  rw [hX]
  have t1 : 0 ≤ X.tdiv 64 := Int.tdiv_nonneg (by omega) (by omega)
  have t2 : X.tdiv 64 ≤ X := Int.tdiv_le_self _ (by omega)
  have t3 : IntKind.i64.wrap (X.tdiv 64) = X.tdiv 64 := wrapi (by omega)
  rw [t3]
  have t4 := xor_low hX0 (y := X.tdiv 64) (by omega)
  generalize IntKind.i64.wrap (((X % 2 ^ IntKind.i64.bits).toNat ^^^ (X.tdiv 64 % 2 ^ IntKind.i64.bits).toNat : Nat) : Int) = Y at t4
  obtain ⟨u1, u2, u3⟩ := tmod_ok (x := Y) (n := n) t4 (by omega)
  exact ⟨_, _, ⟨rfl, rfl⟩, by simp, by simp, _, by simp; rfl, by omega, fun _ => by omega, by simp⟩
end Go.Proofs.YtdomnlnanbekaaaGreatDoor.R

open Go Go.Proofs.YtdomnlnanbekaaaGreatDoor.T
namespace Go.Proofs.YtdomnlnanbekaaaGreatDoor.R
theorem rdByte (n : Nat) : RdT Tryz.prog n 5 encU (fun _ => True) := by
  refine (RdT.int (k := .u8) n Tryz.underlying5).iso (fun x => UInt8.ofNat x.toNat) fun x hx => ⟨?_, trivial⟩
  have e1 : IntKind.u8.signed = false := rfl
  have e2 : IntKind.u8.bits = 8 := rfl
  simp [Lit.wf, IntKind.min, IntKind.max, e1, e2] at hx
  simp only [encU]
  have : ((UInt8.ofNat x.toNat).toNat : Int) = x := by
    rw [UInt8.toNat_ofNat']
    omega
  rw [this]
theorem rdBytes (n : Nat) : RdT Tryz.prog n 22 (fun l : List UInt8 => [.ro (l.map encU)]) (fun _ => True) := by
  exact ((RdT.slice (b := 1) (rdByte n) Tryz.underlying22 (by kernel_rfl)).le (Nat.le_succ n)).imp fun x hx => trivial
end Go.Proofs.YtdomnlnanbekaaaGreatDoor.R


open Go Go.Proofs.YtdomnlnanbekaaaGreatDoor.T
namespace Go.Proofs.YtdomnlnanbekaaaGreatDoor.R
set_option maxHeartbeats 4000000
set_option maxRecDepth 100000
set_option linter.unusedSimpArgs false
set_option linter.unusedVariables false
attribute [local simp] bsV bsRows chunk fillT partsT appV makeV rowsOf cellsOf placeOf
def encT (c : List UInt8) : List TV := [.val (.string (bs c))]
@[simp] theorem len_encT (r : (List UInt8)) : (encT r).length = 1 := by simp [encT]
@[simp] theorem take_encT (r : (List UInt8)) : (encT r).take 1 = encT r := by simp [encT]
@[simp] theorem plain_encT (r : (List UInt8)) : (encT r).all TV.plain = true := by simp [encT]
@[simp] theorem pc_encT (r : (List UInt8)) : (encT r).all TV.pc = true := by simp [encT, TV.pc, TV.cell, Value.oneCell']
@[simp] theorem noH_encT (r : (List UInt8)) : noHL (encT r) = true := by simp [encT]
@[simp] theorem argTL_encT {H : Nat → Option TV} {ρ : List Nat} (r : (List UInt8)) : argTL H ρ (encT r) = some (encT r) := by simp [encT]
@[simp] theorem views_encT {ρ : List Nat} (r : (List UInt8)) : (encT r).flatMap (views1 ρ) = [] := by simp [encT]
@[simp] theorem opnL_encT {k : Nat} (r : (List UInt8)) : opnL k (encT r) = (encT r, []) := by simp [encT]
@[simp] theorem closeL_encT {H : Nat → Option TV} (r : (List UInt8)) : closeL H (encT r) = some (encT r, H) := by simp [encT]
@[simp] theorem roL_encT (r : (List UInt8)) : roL (encT r) = encT r := by simp [encT]
@[simp] theorem noHR_encT (l : List ((List UInt8))) : noHR (l.map encT) = true := by induction l <;> simp [*]
@[simp] theorem roRows_encT (l : List ((List UInt8))) : roRows (l.map encT) = l.map encT := by induction l <;> simp [*]
@[simp] theorem noRo_encT (r : (List UInt8)) : noRoL (encT r) = true := by simp [encT]
@[simp] theorem noRoR_encT (l : List ((List UInt8))) : noRoR (l.map encT) = true := by induction l <;> simp [*]
theorem rl_encT (l : List ((List UInt8))) : ∀ r ∈ l.map encT, r.length = 1 := by
  intro r hr
  obtain ⟨x, _, rfl⟩ := List.mem_map.1 hr
  simp

@[simp] theorem rdr_noHL (b : List UInt8) (p : Nat) : noHL [rdr b p] = true := by simp [rdr]
@[simp] theorem rdr_noH (b : List UInt8) (p : Nat) : noH (rdr b p) = true := by simp [rdr]
@[simp] theorem setObjs_rdr {H : Nat → Option TV} {i : Nat} (b : List UInt8) (p : Nat) : setObjs H [i] [rdr b p] = upd H i (rdr b p) := rfl
@[simp] theorem rdr_obj (b : List UInt8) (p : Nat) : isObj (rdr b p) = true := rfl
@[simp] theorem rdr_objA (b : List UInt8) (p : Nat) : isObjA (rdr b p) = true := rfl
theorem tcr_of (b : List UInt8) (p : Nat) (l : List (List UInt8)) (hb : b.length ≤ 2000) (hp : p ≤ 1000000000) (h1 : 1 ≤ l.length) (h2 : l.length ≤ 1000) : TCR Tryz.prog 128 [.pd 0 0 0 0, .ro (l.map encT)] [rdr b p] (fun r o => ∃ x ∈ l, r = .val (.string (bs x)) ∧ o = [rdr b (p + 1)]) := by
  refine TCR.enter Tryz.func128 rfl (by simp [Tryz.ntmps128]) rfl (tw_sound (ρ := []) ?_)
  rw [Tryz.ntmps128]
  simp
  refine TWoH.lendR [0] (tcr_pick b p l.length hb hp) callable_72 (by simp [List.findIdx?_cons]) (by simp) (by simp) (by simp) ?_
  rintro r o ⟨k, rfl, k0, k1, rfl⟩
  refine ⟨by simp [rdr], by simp, .inl (by simp [List.findIdx?_cons]), fun q hq => ?_⟩
  have k2 := k1 (by omega)
  have k3 : k.toNat < l.length := by omega
  simp [k0, k2, k3, setObjs, rdr, encT]
  exact ⟨_, _, ⟨rfl, rfl⟩, by simp, by simp, l[k.toNat], List.getElem_mem k3, by simp, by simp⟩
theorem tcr_num (b : List UInt8) (p : Nat) (l : List Int) (hb : b.length ≤ 2000) (hp : p ≤ 1000000000) (h1 : 1 ≤ l.length) (h2 : l.length ≤ 1000) : TCR Tryz.prog 74 [.pd 0 0 0 0, .ro (l.map encIn)] [rdr b p] (fun r o => ∃ x ∈ l, r = .val (.int .i64 x) ∧ o = [rdr b (p + 1)]) := by
  refine TCR.enter Tryz.func74 rfl (by simp [Tryz.ntmps74]) rfl (tw_sound (ρ := []) ?_)
  rw [Tryz.ntmps74]
  simp
  refine TWoH.lendR [0] (tcr_pick b p l.length hb hp) callable_72 (by simp [List.findIdx?_cons]) (by simp) (by simp) (by simp) ?_
  rintro r o ⟨k, rfl, k0, k1, rfl⟩
  refine ⟨by simp [rdr], by simp, .inl (by simp [List.findIdx?_cons]), fun q hq => ?_⟩
  have k2 := k1 (by omega)
  have k3 : k.toNat < l.length := by omega
  simp [k0, k2, k3, setObjs, rdr, encIn]
  exact ⟨_, _, ⟨rfl, rfl⟩, by simp, by simp, l[k.toNat], List.getElem_mem k3, by simp, by simp⟩
end Go.Proofs.YtdomnlnanbekaaaGreatDoor.R

open Go Go.Proofs.YtdomnlnanbekaaaGreatDoor.T
namespace Go.Proofs.YtdomnlnanbekaaaGreatDoor.R
set_option maxHeartbeats 4000000
set_option maxRecDepth 100000
set_option linter.unusedSimpArgs false
set_option linter.unusedVariables false
attribute [local simp] bsV bsRows chunk fillT partsT appV makeV rowsOf cellsOf placeOf frzT frz1
def WB : List UInt8 := [97, 98, 99, 120, 48, 255, 0]
theorem tcr_l3Word (b : List UInt8) (p most : Nat) (hb : b.length ≤ 2000) (hp : p ≤ 900000000) (hm : most ≤ 100) : TCR Tryz.prog 75 [.pd 0 0 0 0, .val (.int .i64 most)] [rdr b p] (fun r o => ∃ (w : List UInt8) (p' : Nat), r = .val (.string (bs w)) ∧ w.length ≤ most ∧ (∀ c ∈ w, c ∈ WB) ∧ p' ≤ p + 1 + most ∧ o = [rdr b p']) := by
  refine TCR.enter Tryz.func75 rfl (by simp [Tryz.ntmps75]) rfl (tw_sound (ρ := []) ?_)
  rw [Tryz.ntmps75]
  have hw : IntKind.i64.wrap ((most : Int) + 1) = most + 1 := wrapi (by omega)
  simp [hw]
  refine TWoH.lendR [0] (tcr_pick b p (most + 1) hb (by omega)) callable_72 (by simp [List.findIdx?_cons, hw]) (by simp) (by simp) (by simp) ?_
  rintro r o ⟨k, rfl, k0, k1, rfl⟩
  refine ⟨by simp [rdr], by simp, .inl (by simp [List.findIdx?_cons]), fun q hq => ?_⟩
  have k2 := k1 (by omega)
  simp
  refine TWcH.loop [] (fun m st => ∃ (w : List UInt8) (i p' : Nat), i = m ∧ w.length + i ≤ most ∧ (∀ c ∈ w, c ∈ WB) ∧ p' + i ≤ p + 1 + most ∧ st.σ 0 = .pd 0 0 0 0 ∧ st.H 0 = some (rdr b p') ∧ st.σ 5 = .val (.string (bs w)) ∧ st.σ 6 = .val (.int .i64 i)) k.toNat ⟨[], k.toNat, p + 1, rfl, by simp; omega, by simp, by omega, by simp [Int.toNat_of_nonneg k0]⟩ ?_
  rintro m ⟨σ, H⟩ ⟨w, i, p', rfl, hwl, hwb, hpl, h0, hH, h5, h6⟩
  simp only at h0 hH h5 h6
  by_cases hi : 0 < i
  · have hw1 : IntKind.i64.wrap ((i : Int) - 1) = ((i - 1 : Nat) : Int) := by rw [wrapi (by omega)]; omega
    have kx : ¬ (9223372036854775807 : Int) < w.length + 1 := by omega
    simp [h0, hH, h5, h6, hi]
    refine gall_intro fun id hid => ?_
    have n0 : ¬ id = 0 := fun e => by rw [e, hH] at hid; cases hid
    have n0' : ¬ 0 = id := fun e => n0 e.symm
    simp [h0, hH, h5, h6, hi, n0, n0']
    refine TWoH.turn (Turn.freeze id (t := .own 9 ([[97], [98], [97], [98], [99], [120], [48], [97], [98], [97], [98], [255], [0]].map encT)) (by simp [n0, n0', encT]) ?_)
    refine TWoH.lendR [0] (tcr_of b p' [[97], [98], [97], [98], [99], [120], [48], [97], [98], [97], [98], [255], [0]] hb (by omega) (by simp) (by simp)) callable_128 (by simp [h0, encT, n0, n0', List.findIdx?_cons]) (by simp [hH, n0, n0', del]) (by simp) (by simp) ?_
    rintro r o ⟨x, hx, rfl, rfl⟩
    have hxl : x.length = 1 := by simp at hx; rcases hx with h | h | h | h | h | h | h | h | h | h | h | h | h <;> subst h <;> rfl
    have hxb : ∀ c ∈ x, c ∈ WB := by simp at hx; rcases hx with h | h | h | h | h | h | h | h | h | h | h | h | h <;> subst h <;> simp [WB]
    refine ⟨by simp [rdr], by simp, .inl (by simp [h0, n0, n0', List.findIdx?_cons]), fun q hq => ?_⟩
    simp [h0, h5, h6, n0, n0', hxl, kx]
    exact ⟨i - 1, by omega, w ++ x, by simp [hxl]; omega, fun c hc => (List.mem_append.1 hc).elim (hwb c) (hxb c), p' + 1, by omega, rfl, rfl, hw1⟩
  · obtain rfl : i = 0 := by omega
    simp [h0, hH, h5, h6]
    exact ⟨_, _, ⟨rfl, rfl⟩, by simp, by simp [hH], w, by simp, by omega, hwb, p', by omega, by simp [hH]⟩
end Go.Proofs.YtdomnlnanbekaaaGreatDoor.R


open Go Go.Proofs.YtdomnlnanbekaaaGreatDoor.T
namespace Go.Proofs.YtdomnlnanbekaaaGreatDoor.R
set_option maxHeartbeats 4000000
set_option maxRecDepth 100000
set_option linter.unusedSimpArgs false
set_option linter.unusedVariables false
attribute [local simp] bsV bsRows chunk fillT partsT appV makeV rowsOf cellsOf placeOf frzT frz1
@[simp] theorem noRoR_encS (l : List (Int × Int)) : noRoR (l.map encSp) = true := by induction l <;> simp [*, encSp]
theorem tc_l2Byte (b : Int) : TC Tryz.prog 170 [.val (.int .i64 b)] [] (.agg (encRex (.mk 1 [(b, b)] []))) [] := by
  suffices h : TC Tryz.prog 170 [.val (.int .i64 b)] [] (.agg [.val (.int .i64 1), .own 118 [encSp (b, b)], .val (.slice none 0 0)]) [] by simpa [encRex, encRexL, encSp] using h.frz
  refine TC.enter Tryz.func170 rfl (by simp [Tryz.ntmps170]) rfl (tw_sound (ρ := []) ?_)
  rw [Tryz.ntmps170]
  simp
  refine gall_intro fun a ha => ?_
  simp
  refine gall_intro fun c hc => ?_
  have n1 : ¬ a = c := ne_some (by simp) hc
  have n2 : ¬ c = a := fun e => n1 e.symm
  simp [n1, n2, encSp]
theorem tc_l1Min (a b : Int) : TC Tryz.prog 199 [.val (.int .i64 a), .val (.int .i64 b)] [] (.val (.int .i64 (if a < b then a else b))) [] := by
  refine TC.enter Tryz.func199 rfl (by simp [Tryz.ntmps199]) rfl (tw_sound (ρ := []) ?_)
  rw [Tryz.ntmps199]
  by_cases c : a < b <;> simp [c]
theorem tcr_l1Of (l : List Bool) (hl : l.length = 256) : TCR Tryz.prog 196 [.ro (l.map encB)] [] (fun r o => ∃ x : List (Int × Int), r = .own 118 (x.map encSp) ∧ x.length ≤ 256 ∧ o = []) := by
  refine TCR.enter Tryz.func196 rfl (by simp [Tryz.ntmps196]) rfl (tw_sound (ρ := []) ?_)
  rw [Tryz.ntmps196]
  simp
  refine gall_intro fun id hid => ?_
  simp
  refine TWcH.loop [] (fun m st => ∃ (i : Nat) (x : List (Int × Int)) (id : Nat), i + m = 256 ∧ x.length ≤ i ∧ st.σ 0 = .ro (l.map encB) ∧ st.σ 3 = .hd id ∧ st.H id = some (.own 118 (x.map encSp)) ∧ st.σ 4 = .val (.int .i64 i)) 256 ⟨0, [], id, by simp⟩ ?_
  rintro m ⟨σ, H⟩ ⟨i, x, id, him, hx, h0, h3, hH, h4⟩
  simp only at h0 h3 hH h4
  by_cases hi : i < 256
  · have hw : IntKind.i64.wrap ((i : Int) + 1) = i + 1 := wrapi (by omega)
    have hw1 : IntKind.i64.wrap ((i : Int) - 1) = i - 1 := wrapi (by omega)
    have hi2 : (i : Int) < 256 := by omega
    have hil : i < l.length := by omega
    simp [h0, h3, hH, h4, hi, hi2, hil, encB]
    cases c : l[i]
    · simp [h0, h3, hH, h4, hi, hi2, hil, hw, c]
      exact ⟨m - 1, by omega, i + 1, by omega, x, by omega, rfl, by omega⟩
    simp [h0, h3, hH, h4, hi, hi2, hil, hw, c]
    have k1 : (x.length + 1) * 16 ≤ 140737488355328 := by omega
    have k2 : x.length ≤ 9223372036854775806 := by omega
    by_cases c2 : x = []
    · subst c2
      simp [h0, h3, hH, h4, hi, hi2, hil, hw, c]
      refine gall_intro fun i1 h1 => ?_
      have n1 : ¬ i1 = id := fun e => by rw [e, hH] at h1; cases h1
      have n2 : ¬ id = i1 := fun e => n1 e.symm
      simp [h0, h3, hH, h4, hi, hi2, hil, hw, c, n1, n2]
      refine gall_intro fun i2 h2 => ?_
      simp [h0, h3, hH, h4, hi, hi2, hil, hw, c, n1, n2]
      exact ⟨m - 1, by omega, i + 1, by omega, [(i, i)], by simp, by simp [encSp], by omega⟩
    have c3 : 0 < x.length := List.length_pos_iff.2 c2
    have c4 : x.length - 1 < x.length := by omega
    have hwx : IntKind.i64.wrap ((x.length : Int) - 1) = ((x.length - 1 : Nat) : Int) := by rw [wrapi (by omega)]; omega
    obtain ⟨u, v, hlast⟩ : ∃ u v, ∀ h, x[x.length - 1]'h = (u, v) := ⟨x[x.length - 1].1, x[x.length - 1].2, fun _ => rfl⟩
    by_cases c5 : v = (i : Int) - 1
    · simp [h0, h3, hH, h4, hi, hi2, hil, hw, c, c2, c3, c4, hwx, hlast, encSp, hw1, c5]
      exact ⟨m - 1, by omega, i + 1, by omega, x.set (x.length - 1) (u, i), by simp; omega, by simp [encSp], by omega⟩
    · simp [h0, h3, hH, h4, hi, hi2, hil, hw, c, c2, c3, c4, hwx, hlast, encSp, hw1, c5]
      refine gall_intro fun i1 h1 => ?_
      have n1 : ¬ i1 = id := fun e => by rw [e, hH] at h1; cases h1
      have n2 : ¬ id = i1 := fun e => n1 e.symm
      simp [h0, h3, hH, h4, hi, hi2, hil, hw, c, n1, n2, k1, k2]
      refine gall_intro fun i2 h2 => ?_
      simp [h0, h3, hH, h4, hi, hi2, hil, hw, c, n1, n2]
      exact ⟨m - 1, by omega, i + 1, by omega, x ++ [((i : Int), (i : Int))], by simp; omega, by simp [encSp], by omega⟩
  · obtain rfl : i = 256 := by omega
    simp [h0, h3, hH, h4]
    exact ⟨x, rfl, hx⟩
def LN : List Int := [0, 48, 97, 97, 98, 99, 120, 254, 255]
def LW : List Int := [0, 0, 1, 2, 9, 25, 200]
theorem tcr_l1Set (b : List UInt8) (p : Nat) (hb : b.length ≤ 2000) (hp : p ≤ 900000000) : TCR Tryz.prog 188 [.pd 0 0 0 0] [rdr b p] (fun r o => ∃ (x : List (Int × Int)) (p' : Nat), r = .own 118 (x.map encSp) ∧ x.length ≤ 256 ∧ p' ≤ p + 7 ∧ o = [rdr b p']) := by
  refine TCR.enter Tryz.func188 rfl (by simp [Tryz.ntmps188]) rfl (tw_sound (ρ := []) ?_)
  rw [Tryz.ntmps188]
  simp
  refine gall_intro fun id hid => ?_
  have n0 : ¬ id = 0 := fun e => by rw [e] at hid; simp at hid
  have n0' : ¬ 0 = id := fun e => n0 e.symm
  simp [n0, n0']
  refine TWoH.lendR [0] (tcr_pick b p 3 hb (by omega)) callable_72 (by simp [List.findIdx?_cons]) (by simp [n0, n0']) (by simp) (by simp) ?_
  rintro r o ⟨k, rfl, k0, k1, rfl⟩
  refine ⟨by simp [rdr], by simp, .inl (by simp [List.findIdx?_cons]), fun q hq => ?_⟩
  have k2 := k1 (by omega)
  have hw : IntKind.i64.wrap (1 + k) = 1 + k := wrapi (by omega)
  simp [hw]
  refine TWcH.loop [] (fun m st => ∃ (i p' : Nat) (bl : List Bool), i = m ∧ p' + 2 * i ≤ p + 7 ∧ bl.length = 256 ∧ st.σ 0 = .pd 0 0 0 0 ∧ st.H 0 = some (rdr b p') ∧ st.σ 3 = .hd id ∧ st.H id = some (.own 4 (bl.map encB)) ∧ st.σ 4 = .val (.int .i64 i)) (1 + k).toNat ⟨(1 + k).toNat, p + 1, List.replicate 256 false, rfl, by omega, by simp, by simp [n0, n0', encB]; omega⟩ ?_
  rintro m ⟨σ, H⟩ ⟨i, p', bl, rfl, hpl, hbl, h0, hH, h3, hI, h4⟩
  simp only at h0 hH h3 hI h4
  by_cases hi : 0 < i
  case neg =>
    obtain rfl : i = 0 := by omega
    simp [h0, hH, h3, hI, h4]
    refine TWoH.callR (tcr_l1Of bl hbl) callable_196 (by simp [hI]) ?_
    rintro r o ⟨y, rfl, hy, rfl⟩
    refine ⟨rfl, by simp, .inr (by simp), fun q hq => ?_⟩
    have q0 : ¬ 0 = q := fun e => by have := hq q (Nat.le_refl _); rw [← e] at this; simp [hH] at this
    simp [q0]
    exact ⟨_, _, ⟨rfl, rfl⟩, by simp, by simp [hH, q0], y, by simp, hy, p', by omega, by simp [hH, q0]⟩
  have hw1 : IntKind.i64.wrap ((i : Int) - 1) = ((i - 1 : Nat) : Int) := by rw [wrapi (by omega)]; omega
  simp [h0, hH, h3, hI, h4, hi]
  refine gall_intro fun i1 hi1 => ?_
  have a0 : ¬ i1 = 0 := fun e => by rw [e, hH] at hi1; cases hi1
  have a0' : ¬ 0 = i1 := fun e => a0 e.symm
  have a1 : ¬ i1 = id := fun e => by rw [e, hI] at hi1; cases hi1
  have a1' : ¬ id = i1 := fun e => a1 e.symm
  simp [h0, hH, h3, hI, h4, hi, a0, a0', a1, a1']
  refine TWoH.turn (Turn.freeze i1 (t := .own 3 (LN.map encIn)) (by simp [a0, a0', encIn, LN]) ?_)
  refine TWoH.lendR [0] (tcr_num b p' LN hb (by omega) (by simp [LN]) (by simp [LN])) callable_74 (by simp [h0, a0, a0', List.findIdx?_cons, encIn, LN]) (by simp [hH, a0, a0', del]) (by simp) (by simp) ?_
  rintro r o ⟨x, hx, rfl, rfl⟩
  have hx1 : 0 ≤ x ∧ x ≤ 255 := by simp [LN] at hx; omega
  refine ⟨by simp [rdr], by simp, .inl (by simp [h0, a0, a0', List.findIdx?_cons]), fun q hq => ?_⟩
  clear hq
  simp [h0, hH, h3, hI, h4, hi, a0, a0', a1, a1', del, n0, n0']
  refine gall_intro fun i2 hi2 => ?_
  have b0 : ¬ i2 = 0 := fun e => by rw [e] at hi2; simp at hi2
  have b0' : ¬ 0 = i2 := fun e => b0 e.symm
  have b1 : ¬ i2 = id := fun e => by rw [e] at hi2; simp [hI, n0, n0', a1', del] at hi2
  have b1' : ¬ id = i2 := fun e => b1 e.symm
  simp [h0, hH, h3, hI, h4, hi, a0, a0', a1, a1', b0, b0', b1, b1', del, n0, n0']
  refine TWoH.turn (Turn.freeze i2 (t := .own 3 (LW.map encIn)) (by simp [b0, b0', encIn, LW]) ?_)
  refine TWoH.lendR [0] (tcr_num b (p' + 1) LW hb (by omega) (by simp [LW]) (by simp [LW])) callable_74 (by simp [h0, b0, b0', List.findIdx?_cons, encIn, LW]) (by simp [hH, b0, b0', del]) (by simp) (by simp) ?_
  rintro r o ⟨y, hy, rfl, rfl⟩
  have hy1 : 0 ≤ y ∧ y ≤ 200 := by simp [LW] at hy; omega
  have hxy : IntKind.i64.wrap (x + y) = x + y := wrapi (by omega)
  refine ⟨by simp [rdr], by simp, .inl (by simp [h0, b0, b0', List.findIdx?_cons]), fun q hq => ?_⟩
  clear hq
  simp [h0, hH, h3, hI, h4, hi, a0, a0', a1, a1', b0, b0', b1, b1', del, n0, n0', hxy]
  refine TWoH.callV (tc_l1Min 255 (x + y)) callable_199 (by simp [hxy]) (by simp) (by simp) (by simp) ?_
  obtain ⟨z, hz, hz1⟩ : ∃ z : Int, (if 255 < x + y then 255 else x + y) = z ∧ z ≤ 255 := ⟨_, rfl, by split <;> omega⟩
  rw [hz]
  simp [h0, hH, h3, hI, h4, hi, a0, a0', a1, a1', b0, b0', b1, b1', del, n0, n0', hxy]
  refine TWcH.loop [] (fun m st => ∃ (j : Int) (bl : List Bool), 0 ≤ j ∧ j ≤ 256 ∧ (m : Int) = 256 - j ∧ bl.length = 256 ∧ st.σ 0 = .pd 0 0 0 0 ∧ st.H 0 = some (rdr b (p' + 2)) ∧ st.σ 3 = .hd id ∧ st.H id = some (.own 4 (bl.map encB)) ∧ st.σ 4 = .val (.int .i64 i) ∧ st.σ 6 = .val (.int .i64 z) ∧ st.σ 7 = .val (.int .i64 j)) (256 - x).toNat ⟨x, bl, by omega, by omega, by omega, hbl, by simp [h0, hH, h3, hI, h4, hi, a0, a0', a1, a1', b0, b0', b1, b1', del, n0, n0', hxy]⟩ ?_
  clear h0 hH h3 hI h4 hi1 hi2 hbl
  clear bl σ H
  rintro m ⟨σ, H⟩ ⟨j, bl, hj0, hj, hjm, hbl, h0, hH, h3, hI, h4, h6, h7⟩
  simp only at h0 hH h3 hI h4 h6 h7
  by_cases c : j ≤ z
  · have hwj : IntKind.i64.wrap (j + 1) = j + 1 := wrapi (by omega)
    have hjl : j.toNat < bl.length := by omega
    have hjl2 : j < bl.length := by omega
    simp [h0, hH, h3, hI, h4, h6, h7, c, hj0, hjl, hjl2, hwj]
    exact ⟨m - 1, by omega, j + 1, by omega, by omega, by omega, bl.set j.toNat true, by simp [hbl], fun e => absurd e n0', by simp [encB], rfl⟩
  · simp [h0, hH, h3, hI, h4, h6, h7, c, hw1]
    exact ⟨i - 1, by omega, p' + 2, by omega, bl, hbl, by simp⟩
end Go.Proofs.YtdomnlnanbekaaaGreatDoor.R

open Go Go.Proofs.YtdomnlnanbekaaaGreatDoor.T
namespace Go.Proofs.YtdomnlnanbekaaaGreatDoor.R
set_option maxHeartbeats 4000000
set_option maxRecDepth 100000
set_option linter.unusedSimpArgs false
set_option linter.unusedVariables false
attribute [local simp] bsV bsRows chunk fillT partsT appV makeV rowsOf cellsOf placeOf frzT frz1
/-- A leaf. -/
def Leaf : Rex → Prop
  | .mk _ s l => s.length ≤ 256 ∧ l = []
theorem Leaf.sm : ∀ {x : Rex}, Leaf x → Sm x
  | .mk _ s l, ⟨h1, h2⟩ => by subst h2; simp only [Sm, SmL]; simp; omega
theorem tcr_l2Leaf (b : List UInt8) (p : Nat) (hb : b.length ≤ 2000) (hp : p ≤ 890000000) : TCR Tryz.prog 171 [.pd 0 0 0 0] [rdr b p] (fun r o => ∃ (x : Rex) (p' : Nat), r = .agg (encRex x) ∧ Leaf x ∧ p' ≤ p + 10 ∧ o = [rdr b p']) := by
  suffices h : TCR Tryz.prog 171 [.pd 0 0 0 0] [rdr b p] (fun r o => ∃ (x : Rex) (p' : Nat), toRo r = .agg (encRex x) ∧ Leaf x ∧ p' ≤ p + 10 ∧ o = [rdr b p']) from
    h.frz.mono fun r o ⟨r0, ⟨x, p', h1, h2⟩, h3⟩ => ⟨x, p', by rw [h3, h1], h2⟩
  refine TCR.enter Tryz.func171 rfl (by simp [Tryz.ntmps171]) rfl (tw_sound (ρ := []) ?_)
  rw [Tryz.ntmps171]
  simp
  refine gall_intro fun a ha => ?_
  have n0 : ¬ a = 0 := fun e => by rw [e] at ha; simp at ha
  have n0' : ¬ 0 = a := fun e => n0 e.symm
  simp [n0, n0']
  refine TWoH.lendR [0] (tcr_pick b p 9 hb (by omega)) callable_72 (by simp [List.findIdx?_cons]) (by simp [n0, n0']) (by simp) (by simp) ?_
  rintro r o ⟨k, rfl, k0, k1, rfl⟩
  refine ⟨by simp [rdr], by simp, .inl (by simp [List.findIdx?_cons]), fun q hq => ?_⟩
  clear hq
  by_cases c0 : k = 0
  · simp [c0, n0, n0']
    exact ⟨_, _, ⟨rfl, rfl⟩, by simp, by simp [n0, n0'], .mk 2 [] [], by simp [encRex, encRexL], by simp [Leaf], p + 1, by omega, by simp [n0, n0']⟩
  by_cases c1 : k = 1
  · simp [c0, c1, n0, n0']
    refine gall_intro fun i1 h1 => ?_
    have a0 : ¬ i1 = 0 := fun e => by rw [e] at h1; simp at h1
    have a0' : ¬ 0 = i1 := fun e => a0 e.symm
    have a1 : ¬ i1 = a := fun e => by rw [e] at h1; simp [n0, n0'] at h1
    have a1' : ¬ a = i1 := fun e => a1 e.symm
    simp [n0, n0', a0, a0', a1, a1']
    exact ⟨_, _, ⟨rfl, rfl⟩, by simp, by simp [n0, n0', a0, a0', a1, a1'], .mk 1 [(97, 98)] [], by simp [encRex, encRexL, encSp], by simp [Leaf], p + 1, by omega, by simp [n0, n0', a0, a0', a1, a1']⟩
  by_cases c2 : k = 2
  · simp [c0, c1, c2, n0, n0']
    refine TWoH.lendR [0] (tcr_l1Set b (p + 1) hb (by omega)) callable_188 (by simp [List.findIdx?_cons, n0, n0']) (by simp [n0, n0']) (by simp) (by simp) ?_
    rintro r o ⟨y, p', rfl, hy, hp', rfl⟩
    refine ⟨by simp [rdr], by simp, .inl (by simp [List.findIdx?_cons, n0, n0']), fun q hq => ?_⟩
    have q0 : ¬ q = 0 := fun e => by have := hq q (Nat.le_refl _); rw [e] at this; simp [n0, n0'] at this
    have q0' : ¬ 0 = q := fun e => q0 e.symm
    have q1 : ¬ q = a := fun e => by have := hq q (Nat.le_refl _); rw [e] at this; simp [n0, n0'] at this
    have q1' : ¬ a = q := fun e => q1 e.symm
    clear hq
    simp [n0, n0', q0, q0', q1, q1']
    exact ⟨_, _, ⟨rfl, rfl⟩, by simp, by simp [n0, n0', q0, q0', q1, q1'], .mk 1 y [], by simp [encRex, encRexL], by simp [Leaf, hy], p', by omega, by simp [n0, n0', q0, q0', q1, q1']⟩
  by_cases c3 : k = 3
  · simp [c0, c1, c2, c3, n0, n0']
    refine TWoH.lendR [0] (tcr_pick b (p + 1) 3 hb (by omega)) callable_72 (by simp [List.findIdx?_cons, n0, n0']) (by simp [n0, n0']) (by simp) (by simp) ?_
    rintro r o ⟨j, rfl, j0, j1, rfl⟩
    refine ⟨by simp [rdr], by simp, .inl (by simp [List.findIdx?_cons, n0, n0']), fun q hq => ?_⟩
    clear hq
    have hj : IntKind.i64.wrap (97 + j) = 97 + j := wrapi (by have := j1 (by omega); omega)
    by_cases c4 : j = 0
    · simp [c4, n0, n0']
      exact ⟨_, _, ⟨rfl, rfl⟩, by simp, by simp [n0, n0'], .mk 1 [] [], by simp [encRex, encRexL], by simp [Leaf], p + 2, by omega, by simp [n0, n0']⟩
    simp [c4, n0, n0']
    refine TWoH.lendR [0] (tcr_pick b (p + 1 + 1) 3 hb (by omega)) callable_72 (by simp [List.findIdx?_cons, n0, n0']) (by simp [n0, n0']) (by simp) (by simp) ?_
    rintro r o ⟨i, rfl, i0, i1, rfl⟩
    refine ⟨by simp [rdr], by simp, .inl (by simp [List.findIdx?_cons, n0, n0']), fun q hq => ?_⟩
    clear hq
    have hi : IntKind.i64.wrap (97 + i) = 97 + i := wrapi (by have := i1 (by omega); omega)
    simp [n0, n0', hi]
    refine TWoH.callV (tc_l2Byte (97 + i)) callable_170 (by simp [hi]) (by simp) (by simp) (by simp) ?_
    simp [n0, n0', hi]
    exact ⟨_, _, ⟨rfl, rfl⟩, by simp, by simp [n0, n0'], .mk 1 [(97 + i, 97 + i)] [], by simp, by simp [Leaf], p + 1 + 1 + 1, by omega, by simp [n0, n0']⟩
  simp [c0, c1, c2, c3, n0, n0']
  refine TWoH.lendR [0] (tcr_pick b (p + 1) 3 hb (by omega)) callable_72 (by simp [List.findIdx?_cons, n0, n0']) (by simp [n0, n0']) (by simp) (by simp) ?_
  rintro r o ⟨j, rfl, j0, j1, rfl⟩
  refine ⟨by simp [rdr], by simp, .inl (by simp [List.findIdx?_cons, n0, n0']), fun q hq => ?_⟩
  clear hq
  have hj : IntKind.i64.wrap (97 + j) = 97 + j := wrapi (by have := j1 (by omega); omega)
  simp [n0, n0', hj]
  refine TWoH.callV (tc_l2Byte (97 + j)) callable_170 (by simp [hj]) (by simp) (by simp) (by simp) ?_
  simp [n0, n0', hj]
  exact ⟨_, _, ⟨rfl, rfl⟩, by simp, by simp [n0, n0'], .mk 1 [(97 + j, 97 + j)] [], by simp, by simp [Leaf], p + 1 + 1, by omega, by simp [n0, n0']⟩
end Go.Proofs.YtdomnlnanbekaaaGreatDoor.R

open Go Go.Proofs.YtdomnlnanbekaaaGreatDoor.T
namespace Go.Proofs.YtdomnlnanbekaaaGreatDoor.R
set_option maxHeartbeats 4000000
set_option maxRecDepth 100000
set_option linter.unusedSimpArgs false
set_option linter.unusedVariables false
attribute [local simp] bsV bsRows chunk fillT partsT appV makeV rowsOf cellsOf placeOf frzT frz1
def RC (d : Nat) : Nat := 13 * 2 ^ d
theorem RC_succ (d : Nat) : RC (d + 1) = 2 * RC d := by unfold RC; rw [Nat.pow_succ]; omega
theorem RC_pos (d : Nat) : 13 ≤ RC d := by unfold RC; have := Nat.one_le_two_pow (n := d); omega
def KD : List Int := [3, 3, 3, 4, 4, 5, 5, 6, 7]
def Nil : TV := .val (.slice none 0 0)
/-- Where the parts stand while a tree grows. -/
def KidsAt (H : Nat → Option TV) (a c : Nat) (kc : TV) (kids : List Rex) : Prop :=
  (kids = [] ∧ kc = .val (.slice none 0 0)) ∨ ∃ id, kc = .hd id ∧ H id = some (.own 37 (kids.map encRex)) ∧ id ≠ 0 ∧ id ≠ a ∧ id ≠ c
theorem SmL_of : ∀ {l : List Rex}, (∀ x ∈ l, Sm x) → SmL l
  | [], _ => trivial
  | r :: l, h => ⟨h r (by simp), SmL_of fun x hx => h x (by simp [hx])⟩
theorem tcr_l2Rex (d : Nat) : ∀ (b : List UInt8) (p : Nat), d ≤ 10 → b.length ≤ 2000 → p + RC d ≤ 880000000 → TCR Tryz.prog 169 [.pd 0 0 0 0, .val (.int .i64 d)] [rdr b p] (fun r o => ∃ (x : Rex) (p' : Nat), r = .agg (encRex x) ∧ Sm x ∧ p' + 2 ≤ p + RC d ∧ o = [rdr b p']) := by
  refine Nat.strongRecOn d fun d IH => ?_
  intro b p hd hb hp
  have hRC := RC_pos d
  suffices h : TCR Tryz.prog 169 [.pd 0 0 0 0, .val (.int .i64 d)] [rdr b p] (fun r o => ∃ (x : Rex) (p' : Nat), toRo r = .agg (encRex x) ∧ Sm x ∧ p' + 2 ≤ p + RC d ∧ o = [rdr b p']) from
    h.frz.mono fun r o ⟨r0, ⟨x, p', h1, h2⟩, h3⟩ => ⟨x, p', by rw [h3, h1], h2⟩
  refine TCR.enter Tryz.func169 rfl (by simp [Tryz.ntmps169]) rfl (tw_sound (ρ := []) ?_)
  rw [Tryz.ntmps169]
  simp
  refine gall_intro fun a ha => ?_
  have n0 : ¬ a = 0 := fun e => by rw [e] at ha; simp at ha
  have n0' : ¬ 0 = a := fun e => n0 e.symm
  simp [n0, n0']
  by_cases c0 : d ≤ 1
  · have c0i : (d : Int) ≤ 1 := by omega
    simp [c0, c0i, n0, n0']
    refine TWoH.lendR [0] (tcr_l2Leaf b p hb (by omega)) callable_171 (by simp [List.findIdx?_cons, n0, n0']) (by simp [n0, n0']) (by simp) (by simp) ?_
    rintro r o ⟨x, p', rfl, hx, hp', rfl⟩
    refine ⟨by simp [rdr], by simp, .inl (by simp [List.findIdx?_cons, n0, n0']), fun q hq => ?_⟩
    clear hq
    simp [n0, n0']
    exact ⟨_, _, ⟨rfl, rfl⟩, by simp, by simp [n0, n0'], x, by simp, hx.sm, p', by omega, by simp [n0, n0']⟩
  obtain ⟨e, rfl⟩ : ∃ e, d = e + 1 := ⟨d - 1, by omega⟩
  have hRCs := RC_succ e
  have ih := IH e (by omega) b
  have c0' : ¬ ((e : Int) + 1) ≤ 1 := by omega
  simp [c0, c0', n0, n0']
  refine TWoH.lendR [0] (tcr_pick b p 4 hb (by omega)) callable_72 (by simp [List.findIdx?_cons, n0, n0']) (by simp [n0, n0']) (by simp) (by simp) ?_
  rintro r o ⟨k, rfl, k0, k1, rfl⟩
  refine ⟨by simp [rdr], by simp, .inl (by simp [List.findIdx?_cons, n0, n0']), fun q hq => ?_⟩
  clear hq
  by_cases c1 : k = 0
  · simp [c0, c1, n0, n0']
    refine TWoH.lendR [0] (tcr_l2Leaf b (p + 1) hb (by omega)) callable_171 (by simp [List.findIdx?_cons, n0, n0']) (by simp [n0, n0']) (by simp) (by simp) ?_
    rintro r o ⟨x, p', rfl, hx, hp', rfl⟩
    refine ⟨by simp [rdr], by simp, .inl (by simp [List.findIdx?_cons, n0, n0']), fun q hq => ?_⟩
    clear hq
    simp [n0, n0']
    exact ⟨_, _, ⟨rfl, rfl⟩, by simp, by simp [n0, n0'], x, by simp, hx.sm, p', by omega, by simp [n0, n0']⟩
  simp [c0, c1, n0, n0']
  refine gall_intro fun i1 h1 => ?_
  have a0 : ¬ i1 = 0 := fun e => by rw [e] at h1; simp at h1
  have a0' : ¬ 0 = i1 := fun e => a0 e.symm
  have a1 : ¬ i1 = a := fun e => by rw [e] at h1; simp [n0, n0'] at h1
  have a1' : ¬ a = i1 := fun e => a1 e.symm
  clear h1
  simp [n0, n0', a0, a0', a1, a1']
  refine TWoH.turn (Turn.freeze i1 (t := .own 3 (KD.map encIn)) (by simp [a0, a0', encIn, KD]) ?_)
  refine TWoH.lendR [0] (tcr_num b (p + 1) KD hb (by omega) (by simp [KD]) (by simp [KD])) callable_74 (by simp [a0, a0', List.findIdx?_cons, encIn, KD]) (by simp [a0, a0', n0, n0', del]) (by simp) (by simp) ?_
  rintro r o ⟨kd, hkd, rfl, rfl⟩
  have hkd1 : 3 ≤ kd ∧ kd ≤ 7 := by simp [KD] at hkd; omega
  refine ⟨by simp [rdr], by simp, .inl (by simp [a0, a0', List.findIdx?_cons]), fun q hq => ?_⟩
  clear hq
  simp [a0, a0', a1, a1', n0, n0', del]
  refine gall_intro fun c hc => ?_
  have m0 : ¬ c = 0 := fun e => by rw [e] at hc; simp at hc
  have m0' : ¬ 0 = c := fun e => m0 e.symm
  have m1 : ¬ c = a := fun e => by rw [e] at hc; simp [n0, n0', del, a1, a1'] at hc
  have m1' : ¬ a = c := fun e => m1 e.symm
  clear hc
  simp [a0, a0', a1, a1', n0, n0', m0, m0', m1, m1', del]
  refine TWoH.callV (tc_sl2Kids kd) callable_160 (by simp) (by simp) (by simp) (by simp) ?_
  have hkn : 1 ≤ kidsN kd ∧ kidsN kd ≤ 2 := by unfold kidsN; split; omega; split; omega; split; omega; omega
  generalize kidsN kd = kn at hkn
  simp [a0, a0', a1, a1', n0, n0', m0, m0', m1, m1', del]
  refine TWcH.loop [] (fun m st => ∃ (i p' : Nat) (kc : TV) (kids : List Rex), i = m ∧ kids.length + i = kn.toNat ∧ (∀ x ∈ kids, Sm x) ∧ KidsAt st.H a c kc kids ∧ ((kids.length = 0 → p' ≤ p + 2) ∧ (kids.length = 1 → p' ≤ p + RC e) ∧ (kids.length = 2 → p' + 2 ≤ p + 2 * RC e)) ∧ st.σ 0 = .pd 0 0 0 0 ∧ st.H 0 = some (rdr b p') ∧ st.σ 1 = .val (.int .i64 (e + 1 : Nat)) ∧ st.σ 4 = .pd a 0 0 0 ∧ st.H a = some (.box 37 [.val (.int .i64 0), .val (.slice none 0 0), .val (.slice none 0 0)]) ∧ st.σ 6 = .pd c 0 0 0 ∧ st.H c = some (.box 37 [.val (.int .i64 kd), .val (.slice none 0 0), kc]) ∧ st.σ 7 = .val (.int .i64 i)) kn.toNat ⟨kn.toNat, p + 2, .val (.slice none 0 0), [], rfl, by simp, by simp, .inl ⟨rfl, rfl⟩, by simp, by simp [a0, a0', a1, a1', n0, n0', m0, m0', m1, m1', del]; omega⟩ ?_
  rintro m ⟨σ, H⟩ ⟨i, p', kc, kids, rfl, hki, hks, hK, hpk, h0, hH, h1, h4, hA, h6, hC, h7⟩
  simp only at hK h0 hH h1 h4 hA h6 hC h7
  by_cases hi : 0 < i
  case neg =>
    obtain rfl : i = 0 := by omega
    have hSm : Sm (.mk kd [] kids) := by simp only [Sm]; exact ⟨by simp, by omega, SmL_of hks⟩
    have hpe : p' + 2 ≤ p + RC (e + 1) := by omega
    rcases hK with ⟨rfl, rfl⟩ | ⟨id, rfl, hId, q0, q1, q2⟩
    · simp [h0, hH, h1, h4, hA, h6, hC, h7, n0, n0', m0, m0', m1, m1']
      exact ⟨_, _, ⟨rfl, rfl⟩, by simp, by simp [hH, n0, n0', del], .mk kd [] [], by simp [encRex, encRexL], hSm, p', hpe, by simp [hH, n0, n0', del]⟩
    · simp [h0, hH, h1, h4, hA, h6, hC, h7, n0, n0', m0, m0', m1, m1', hId, q0, q1, q2]
      exact ⟨_, _, ⟨rfl, rfl⟩, by simp [← encRexL_eq, noHR_rex], by simp [hH, n0, n0', q0, q0.symm, del], .mk kd [] kids, by simp [encRex, encRexL_eq], hSm, p', hpe, by simp [hH, n0, n0', q0, q0.symm, del]⟩
  simp [h0, hH, h1, h4, hA, h6, hC, h7, hi]
  have hw1 : IntKind.i64.wrap ((i : Int) - 1) = ((i - 1 : Nat) : Int) := by rw [wrapi (by omega)]; omega
  have hwe : IntKind.i64.wrap ((e : Int) + 1 - 1) = e := by rw [wrapi (by omega)]; omega
  have hwe' : IntKind.i64.wrap (e : Int) = e := wrapi (by omega)
  refine TWcH.midB (ρ := []) (fun st => ∃ (x : Rex) (p'' : Nat) (kc : TV), Sm x ∧ p'' + 2 ≤ p' + RC e ∧ KidsAt st.H a c kc (kids ++ [x]) ∧ st.σ 0 = .pd 0 0 0 0 ∧ st.H 0 = some (rdr b p'') ∧ st.σ 1 = .val (.int .i64 (e + 1 : Nat)) ∧ st.σ 4 = .pd a 0 0 0 ∧ st.H a = some (.box 37 [.val (.int .i64 0), .val (.slice none 0 0), .val (.slice none 0 0)]) ∧ st.σ 6 = .pd c 0 0 0 ∧ st.H c = some (.box 37 [.val (.int .i64 kd), .val (.slice none 0 0), kc]) ∧ st.σ 7 = .val (.int .i64 i))
    (.first 0 (.first 2 (.first 3 (.first 4 (.pick 1 (.pick 5 (.pick 6 (.pick 7 (.first 8 (.pick 9 .fin .fin)) .fin) .fin) .fin) (.pick 5 (.pick 1 (.pick 6 (.pick 7 (.first 8 (.pick 9 .fin .fin)) .fin) .fin) (.pick 6 (.pick 1 (.pick 7 (.first 8 (.pick 9 .fin .fin)) .fin) .fin) .fin)) .fin)))))) mixed (by kernel_rfl) ?_ ?_
  case refine_2 =>
    rintro ⟨σ, H⟩ ⟨x, p'', kc, hx, hp'', hK', g0, gH, g1, g4, gA, g6, gC, g7⟩
    simp only at hK' g0 gH g1 g4 gA g6 gC g7
    simp [g0, gH, g1, g4, gA, g6, gC, g7, hw1]
    exact ⟨i - 1, by omega, p'', kc, kids ++ [x], by simp; omega, fun y hy => by rcases List.mem_append.1 hy with h | h; exact hks y h; simp at h; subst h; exact hx, hK', ⟨fun h => by simp at h, fun h => by simp at h; subst h; simp at hpk; omega, fun h => by simp at h; have := hpk.2.1 (by omega); omega⟩, rfl, rfl, rfl⟩
  have hih := ih p' (by omega) hb (by omega)
  have k1 : (kids.length + 1) * 56 ≤ 140737488355328 := by omega
  have k2 : kids.length ≤ 9223372036854775806 := by omega
  rcases hK with ⟨rfl, rfl⟩ | ⟨id, rfl, hId, q0, q1, q2⟩
  · simp [delo, del, encRex, h0, hH, h1, h4, hA, h6, hC, h7, n0, n0', m0, m0', m1, m1', hwe, hwe']
    refine ⟨?_, ?_⟩
    · refine TWoH.lendR [0] hih callable_169 (by simp [delo, del, encRex, h0, hH, h1, h4, hA, h6, hC, h7, n0, n0', m0, m0', m1, m1', hwe, hwe', List.findIdx?_cons]) (by simp [delo, del, encRex, h0, hH, h1, h4, hA, h6, hC, h7, n0, n0', m0, m0', m1, m1', hwe, hwe']) (by simp) (by simp) ?_
      rintro r o ⟨x, p'', rfl, hx, hp'', rfl⟩
      refine ⟨by simp [rdr], by simp, .inl (by simp [delo, del, encRex, h0, hH, h1, h4, hA, h6, hC, h7, n0, n0', m0, m0', m1, m1', hwe, hwe', List.findIdx?_cons]), fun q hq => ?_⟩
      clear hq
      obtain ⟨xk, xs, xl⟩ := x
      simp [-List.map_append, delo, del, encRex, h0, hH, h1, h4, hA, h6, hC, h7, n0, n0', m0, m0', m1, m1', hwe, hwe']
      refine gall_intro fun i2 g2 => ?_
      have u_0 : ¬ i2 = 0 := fun e => by rw [e] at g2; simp [delo, del, encRex, h0, hH, h1, h4, hA, h6, hC, h7, n0, n0', m0, m0', m1, m1', hwe, hwe'] at g2
      have v_0 : ¬ 0 = i2 := fun e => u_0 e.symm
      have u_a : ¬ i2 = a := fun e => by rw [e] at g2; simp [delo, del, encRex, h0, hH, h1, h4, hA, h6, hC, h7, n0, n0', m0, m0', m1, m1', hwe, hwe'] at g2
      have v_a : ¬ a = i2 := fun e => u_a e.symm
      have u_c : ¬ i2 = c := fun e => by rw [e] at g2; simp [delo, del, encRex, h0, hH, h1, h4, hA, h6, hC, h7, n0, n0', m0, m0', m1, m1', hwe, hwe'] at g2
      have v_c : ¬ c = i2 := fun e => u_c e.symm
      simp [-List.map_append, delo, del, encRex, h0, hH, h1, h4, hA, h6, hC, h7, n0, n0', m0, m0', m1, m1', hwe, hwe', u_0, v_0, u_a, v_a, u_c, v_c, k1, k2]
      refine gall_intro fun i3 g3 => ?_
      have y_0 : ¬ i3 = 0 := fun e => by rw [e] at g3; simp [del, delo, del, encRex, h0, hH, h1, h4, hA, h6, hC, h7, n0, n0', m0, m0', m1, m1', hwe, hwe', u_0, v_0, u_a, v_a, u_c, v_c] at g3
      have z_0 : ¬ 0 = i3 := fun e => y_0 e.symm
      have y_a : ¬ i3 = a := fun e => by rw [e] at g3; simp [del, delo, del, encRex, h0, hH, h1, h4, hA, h6, hC, h7, n0, n0', m0, m0', m1, m1', hwe, hwe', u_0, v_0, u_a, v_a, u_c, v_c] at g3
      have z_a : ¬ a = i3 := fun e => y_a e.symm
      have y_c : ¬ i3 = c := fun e => by rw [e] at g3; simp [del, delo, del, encRex, h0, hH, h1, h4, hA, h6, hC, h7, n0, n0', m0, m0', m1, m1', hwe, hwe', u_0, v_0, u_a, v_a, u_c, v_c] at g3
      have z_c : ¬ c = i3 := fun e => y_c e.symm
      have y_i2 : ¬ i3 = i2 := fun e => by rw [e] at g3; simp [del, delo, del, encRex, h0, hH, h1, h4, hA, h6, hC, h7, n0, n0', m0, m0', m1, m1', hwe, hwe', u_0, v_0, u_a, v_a, u_c, v_c] at g3
      have z_i2 : ¬ i2 = i3 := fun e => y_i2 e.symm
      simp [-List.map_append, del, delo, del, encRex, h0, hH, h1, h4, hA, h6, hC, h7, n0, n0', m0, m0', m1, m1', hwe, hwe', u_0, v_0, u_a, v_a, u_c, v_c, y_0, z_0, y_a, z_a, y_c, z_c, y_i2, z_i2]
      exact ⟨.mk xk xs xl, hx, p'', hp'', .inr ⟨i3, rfl, by simp [z_c, y_c, encRex], y_0, y_a, y_c⟩, rfl⟩
    · refine TWoH.lendR [0] hih callable_169 (by simp [delo, del, encRex, h0, hH, h1, h4, hA, h6, hC, h7, n0, n0', m0, m0', m1, m1', hwe, hwe', List.findIdx?_cons]) (by simp [delo, del, encRex, h0, hH, h1, h4, hA, h6, hC, h7, n0, n0', m0, m0', m1, m1', hwe, hwe']) (by simp) (by simp) ?_
      rintro r o ⟨x, p'', rfl, hx, hp'', rfl⟩
      refine ⟨by simp [rdr], by simp, .inl (by simp [delo, del, encRex, h0, hH, h1, h4, hA, h6, hC, h7, n0, n0', m0, m0', m1, m1', hwe, hwe', List.findIdx?_cons]), fun q hq => ?_⟩
      clear hq
      obtain ⟨xk, xs, xl⟩ := x
      simp [-List.map_append, delo, del, encRex, h0, hH, h1, h4, hA, h6, hC, h7, n0, n0', m0, m0', m1, m1', hwe, hwe']
      refine ⟨?_, ?_⟩
      all_goals
        refine gall_intro fun i2 g2 => ?_
        have u_0 : ¬ i2 = 0 := fun e => by rw [e] at g2; simp [delo, del, encRex, h0, hH, h1, h4, hA, h6, hC, h7, n0, n0', m0, m0', m1, m1', hwe, hwe'] at g2
        have v_0 : ¬ 0 = i2 := fun e => u_0 e.symm
        have u_a : ¬ i2 = a := fun e => by rw [e] at g2; simp [delo, del, encRex, h0, hH, h1, h4, hA, h6, hC, h7, n0, n0', m0, m0', m1, m1', hwe, hwe'] at g2
        have v_a : ¬ a = i2 := fun e => u_a e.symm
        have u_c : ¬ i2 = c := fun e => by rw [e] at g2; simp [delo, del, encRex, h0, hH, h1, h4, hA, h6, hC, h7, n0, n0', m0, m0', m1, m1', hwe, hwe'] at g2
        have v_c : ¬ c = i2 := fun e => u_c e.symm
        simp [-List.map_append, delo, del, encRex, h0, hH, h1, h4, hA, h6, hC, h7, n0, n0', m0, m0', m1, m1', hwe, hwe', u_0, v_0, u_a, v_a, u_c, v_c, k1, k2]
        refine gall_intro fun i3 g3 => ?_
        have y_0 : ¬ i3 = 0 := fun e => by rw [e] at g3; simp [del, delo, del, encRex, h0, hH, h1, h4, hA, h6, hC, h7, n0, n0', m0, m0', m1, m1', hwe, hwe', u_0, v_0, u_a, v_a, u_c, v_c] at g3
        have z_0 : ¬ 0 = i3 := fun e => y_0 e.symm
        have y_a : ¬ i3 = a := fun e => by rw [e] at g3; simp [del, delo, del, encRex, h0, hH, h1, h4, hA, h6, hC, h7, n0, n0', m0, m0', m1, m1', hwe, hwe', u_0, v_0, u_a, v_a, u_c, v_c] at g3
        have z_a : ¬ a = i3 := fun e => y_a e.symm
        have y_c : ¬ i3 = c := fun e => by rw [e] at g3; simp [del, delo, del, encRex, h0, hH, h1, h4, hA, h6, hC, h7, n0, n0', m0, m0', m1, m1', hwe, hwe', u_0, v_0, u_a, v_a, u_c, v_c] at g3
        have z_c : ¬ c = i3 := fun e => y_c e.symm
        have y_i2 : ¬ i3 = i2 := fun e => by rw [e] at g3; simp [del, delo, del, encRex, h0, hH, h1, h4, hA, h6, hC, h7, n0, n0', m0, m0', m1, m1', hwe, hwe', u_0, v_0, u_a, v_a, u_c, v_c] at g3
        have z_i2 : ¬ i2 = i3 := fun e => y_i2 e.symm
        simp [-List.map_append, del, delo, del, encRex, h0, hH, h1, h4, hA, h6, hC, h7, n0, n0', m0, m0', m1, m1', hwe, hwe', u_0, v_0, u_a, v_a, u_c, v_c, y_0, z_0, y_a, z_a, y_c, z_c, y_i2, z_i2]
        exact ⟨.mk xk xs xl, hx, p'', hp'', .inr ⟨i3, rfl, by simp [z_c, y_c, encRex], y_0, y_a, y_c⟩, rfl⟩
  · simp [delo, del, encRex, h0, hH, h1, h4, hA, h6, hC, h7, n0, n0', m0, m0', m1, m1', hwe, hwe', hId, q0, q1, q2, q0.symm, q1.symm, q2.symm]
    refine ⟨?_, ?_⟩
    · refine TWoH.lendR [0] hih callable_169 (by simp [delo, del, encRex, h0, hH, h1, h4, hA, h6, hC, h7, n0, n0', m0, m0', m1, m1', hwe, hwe', hId, q0, q1, q2, q0.symm, q1.symm, q2.symm, List.findIdx?_cons]) (by simp [delo, del, encRex, h0, hH, h1, h4, hA, h6, hC, h7, n0, n0', m0, m0', m1, m1', hwe, hwe', hId, q0, q1, q2, q0.symm, q1.symm, q2.symm]) (by simp) (by simp) ?_
      rintro r o ⟨x, p'', rfl, hx, hp'', rfl⟩
      refine ⟨by simp [rdr], by simp, .inl (by simp [delo, del, encRex, h0, hH, h1, h4, hA, h6, hC, h7, n0, n0', m0, m0', m1, m1', hwe, hwe', hId, q0, q1, q2, q0.symm, q1.symm, q2.symm, List.findIdx?_cons]), fun q hq => ?_⟩
      clear hq
      obtain ⟨xk, xs, xl⟩ := x
      simp [-List.map_append, delo, del, encRex, h0, hH, h1, h4, hA, h6, hC, h7, n0, n0', m0, m0', m1, m1', hwe, hwe', hId, q0, q1, q2, q0.symm, q1.symm, q2.symm]
      refine gall_intro fun i2 g2 => ?_
      have u_0 : ¬ i2 = 0 := fun e => by rw [e] at g2; simp [delo, del, encRex, h0, hH, h1, h4, hA, h6, hC, h7, n0, n0', m0, m0', m1, m1', hwe, hwe', hId, q0, q1, q2, q0.symm, q1.symm, q2.symm] at g2
      have v_0 : ¬ 0 = i2 := fun e => u_0 e.symm
      have u_a : ¬ i2 = a := fun e => by rw [e] at g2; simp [delo, del, encRex, h0, hH, h1, h4, hA, h6, hC, h7, n0, n0', m0, m0', m1, m1', hwe, hwe', hId, q0, q1, q2, q0.symm, q1.symm, q2.symm] at g2
      have v_a : ¬ a = i2 := fun e => u_a e.symm
      have u_c : ¬ i2 = c := fun e => by rw [e] at g2; simp [delo, del, encRex, h0, hH, h1, h4, hA, h6, hC, h7, n0, n0', m0, m0', m1, m1', hwe, hwe', hId, q0, q1, q2, q0.symm, q1.symm, q2.symm] at g2
      have v_c : ¬ c = i2 := fun e => u_c e.symm
      have u_id : ¬ i2 = id := fun e => by rw [e] at g2; simp [delo, del, encRex, h0, hH, h1, h4, hA, h6, hC, h7, n0, n0', m0, m0', m1, m1', hwe, hwe', hId, q0, q1, q2, q0.symm, q1.symm, q2.symm] at g2
      have v_id : ¬ id = i2 := fun e => u_id e.symm
      simp [-List.map_append, delo, del, encRex, h0, hH, h1, h4, hA, h6, hC, h7, n0, n0', m0, m0', m1, m1', hwe, hwe', hId, q0, q1, q2, q0.symm, q1.symm, q2.symm, u_0, v_0, u_a, v_a, u_c, v_c, u_id, v_id, k1, k2]
      refine gall_intro fun i3 g3 => ?_
      have y_0 : ¬ i3 = 0 := fun e => by rw [e] at g3; simp [del, delo, del, encRex, h0, hH, h1, h4, hA, h6, hC, h7, n0, n0', m0, m0', m1, m1', hwe, hwe', hId, q0, q1, q2, q0.symm, q1.symm, q2.symm, u_0, v_0, u_a, v_a, u_c, v_c, u_id, v_id] at g3
      have z_0 : ¬ 0 = i3 := fun e => y_0 e.symm
      have y_a : ¬ i3 = a := fun e => by rw [e] at g3; simp [del, delo, del, encRex, h0, hH, h1, h4, hA, h6, hC, h7, n0, n0', m0, m0', m1, m1', hwe, hwe', hId, q0, q1, q2, q0.symm, q1.symm, q2.symm, u_0, v_0, u_a, v_a, u_c, v_c, u_id, v_id] at g3
      have z_a : ¬ a = i3 := fun e => y_a e.symm
      have y_c : ¬ i3 = c := fun e => by rw [e] at g3; simp [del, delo, del, encRex, h0, hH, h1, h4, hA, h6, hC, h7, n0, n0', m0, m0', m1, m1', hwe, hwe', hId, q0, q1, q2, q0.symm, q1.symm, q2.symm, u_0, v_0, u_a, v_a, u_c, v_c, u_id, v_id] at g3
      have z_c : ¬ c = i3 := fun e => y_c e.symm
      have y_i2 : ¬ i3 = i2 := fun e => by rw [e] at g3; simp [del, delo, del, encRex, h0, hH, h1, h4, hA, h6, hC, h7, n0, n0', m0, m0', m1, m1', hwe, hwe', hId, q0, q1, q2, q0.symm, q1.symm, q2.symm, u_0, v_0, u_a, v_a, u_c, v_c, u_id, v_id] at g3
      have z_i2 : ¬ i2 = i3 := fun e => y_i2 e.symm
      simp [-List.map_append, del, delo, del, encRex, h0, hH, h1, h4, hA, h6, hC, h7, n0, n0', m0, m0', m1, m1', hwe, hwe', hId, q0, q1, q2, q0.symm, q1.symm, q2.symm, u_0, v_0, u_a, v_a, u_c, v_c, u_id, v_id, y_0, z_0, y_a, z_a, y_c, z_c, y_i2, z_i2]
      exact ⟨.mk xk xs xl, hx, p'', hp'', .inr ⟨i3, rfl, by simp [z_c, y_c, encRex], y_0, y_a, y_c⟩, rfl⟩
    · refine TWoH.lendR [0] hih callable_169 (by simp [delo, del, encRex, h0, hH, h1, h4, hA, h6, hC, h7, n0, n0', m0, m0', m1, m1', hwe, hwe', hId, q0, q1, q2, q0.symm, q1.symm, q2.symm, List.findIdx?_cons]) (by simp [delo, del, encRex, h0, hH, h1, h4, hA, h6, hC, h7, n0, n0', m0, m0', m1, m1', hwe, hwe', hId, q0, q1, q2, q0.symm, q1.symm, q2.symm]) (by simp) (by simp) ?_
      rintro r o ⟨x, p'', rfl, hx, hp'', rfl⟩
      refine ⟨by simp [rdr], by simp, .inl (by simp [delo, del, encRex, h0, hH, h1, h4, hA, h6, hC, h7, n0, n0', m0, m0', m1, m1', hwe, hwe', hId, q0, q1, q2, q0.symm, q1.symm, q2.symm, List.findIdx?_cons]), fun q hq => ?_⟩
      clear hq
      obtain ⟨xk, xs, xl⟩ := x
      simp [-List.map_append, delo, del, encRex, h0, hH, h1, h4, hA, h6, hC, h7, n0, n0', m0, m0', m1, m1', hwe, hwe', hId, q0, q1, q2, q0.symm, q1.symm, q2.symm]
      refine ⟨?_, ?_⟩
      all_goals
        refine gall_intro fun i2 g2 => ?_
        have u_0 : ¬ i2 = 0 := fun e => by rw [e] at g2; simp [delo, del, encRex, h0, hH, h1, h4, hA, h6, hC, h7, n0, n0', m0, m0', m1, m1', hwe, hwe', hId, q0, q1, q2, q0.symm, q1.symm, q2.symm] at g2
        have v_0 : ¬ 0 = i2 := fun e => u_0 e.symm
        have u_a : ¬ i2 = a := fun e => by rw [e] at g2; simp [delo, del, encRex, h0, hH, h1, h4, hA, h6, hC, h7, n0, n0', m0, m0', m1, m1', hwe, hwe', hId, q0, q1, q2, q0.symm, q1.symm, q2.symm] at g2
        have v_a : ¬ a = i2 := fun e => u_a e.symm
        have u_c : ¬ i2 = c := fun e => by rw [e] at g2; simp [delo, del, encRex, h0, hH, h1, h4, hA, h6, hC, h7, n0, n0', m0, m0', m1, m1', hwe, hwe', hId, q0, q1, q2, q0.symm, q1.symm, q2.symm] at g2
        have v_c : ¬ c = i2 := fun e => u_c e.symm
        have u_id : ¬ i2 = id := fun e => by rw [e] at g2; simp [delo, del, encRex, h0, hH, h1, h4, hA, h6, hC, h7, n0, n0', m0, m0', m1, m1', hwe, hwe', hId, q0, q1, q2, q0.symm, q1.symm, q2.symm] at g2
        have v_id : ¬ id = i2 := fun e => u_id e.symm
        simp [-List.map_append, delo, del, encRex, h0, hH, h1, h4, hA, h6, hC, h7, n0, n0', m0, m0', m1, m1', hwe, hwe', hId, q0, q1, q2, q0.symm, q1.symm, q2.symm, u_0, v_0, u_a, v_a, u_c, v_c, u_id, v_id, k1, k2]
        refine gall_intro fun i3 g3 => ?_
        have y_0 : ¬ i3 = 0 := fun e => by rw [e] at g3; simp [del, delo, del, encRex, h0, hH, h1, h4, hA, h6, hC, h7, n0, n0', m0, m0', m1, m1', hwe, hwe', hId, q0, q1, q2, q0.symm, q1.symm, q2.symm, u_0, v_0, u_a, v_a, u_c, v_c, u_id, v_id] at g3
        have z_0 : ¬ 0 = i3 := fun e => y_0 e.symm
        have y_a : ¬ i3 = a := fun e => by rw [e] at g3; simp [del, delo, del, encRex, h0, hH, h1, h4, hA, h6, hC, h7, n0, n0', m0, m0', m1, m1', hwe, hwe', hId, q0, q1, q2, q0.symm, q1.symm, q2.symm, u_0, v_0, u_a, v_a, u_c, v_c, u_id, v_id] at g3
        have z_a : ¬ a = i3 := fun e => y_a e.symm
        have y_c : ¬ i3 = c := fun e => by rw [e] at g3; simp [del, delo, del, encRex, h0, hH, h1, h4, hA, h6, hC, h7, n0, n0', m0, m0', m1, m1', hwe, hwe', hId, q0, q1, q2, q0.symm, q1.symm, q2.symm, u_0, v_0, u_a, v_a, u_c, v_c, u_id, v_id] at g3
        have z_c : ¬ c = i3 := fun e => y_c e.symm
        have y_i2 : ¬ i3 = i2 := fun e => by rw [e] at g3; simp [del, delo, del, encRex, h0, hH, h1, h4, hA, h6, hC, h7, n0, n0', m0, m0', m1, m1', hwe, hwe', hId, q0, q1, q2, q0.symm, q1.symm, q2.symm, u_0, v_0, u_a, v_a, u_c, v_c, u_id, v_id] at g3
        have z_i2 : ¬ i2 = i3 := fun e => y_i2 e.symm
        simp [-List.map_append, del, delo, del, encRex, h0, hH, h1, h4, hA, h6, hC, h7, n0, n0', m0, m0', m1, m1', hwe, hwe', hId, q0, q1, q2, q0.symm, q1.symm, q2.symm, u_0, v_0, u_a, v_a, u_c, v_c, u_id, v_id, y_0, z_0, y_a, z_a, y_c, z_c, y_i2, z_i2]
        exact ⟨.mk xk xs xl, hx, p'', hp'', .inr ⟨i3, rfl, by simp [z_c, y_c, encRex], y_0, y_a, y_c⟩, rfl⟩
end Go.Proofs.YtdomnlnanbekaaaGreatDoor.R

open Go Go.Proofs.YtdomnlnanbekaaaGreatDoor.T
namespace Go.Proofs.YtdomnlnanbekaaaGreatDoor.R
set_option maxHeartbeats 4000000
set_option maxRecDepth 100000
set_option linter.unusedSimpArgs false
set_option linter.unusedVariables false
attribute [local simp] bsV bsRows chunk fillT partsT appV makeV rowsOf cellsOf placeOf frzT frz1
theorem tcr_l2Some (b : List UInt8) (p : Nat) (hb : b.length ≤ 2000) (hp : p ≤ 870000000) : TCR Tryz.prog 145 [.pd 0 0 0 0] [rdr b p] (fun r o => ∃ (x : Rex) (p' : Nat), r = .agg (encRex x) ∧ Sm x ∧ p' ≤ p + 300 ∧ o = [rdr b p']) := by
  suffices h : TCR Tryz.prog 145 [.pd 0 0 0 0] [rdr b p] (fun r o => ∃ (x : Rex) (p' : Nat), toRo r = .agg (encRex x) ∧ Sm x ∧ p' ≤ p + 300 ∧ o = [rdr b p']) from
    h.frz.mono fun r o ⟨r0, ⟨x, p', h1, h2⟩, h3⟩ => ⟨x, p', by rw [h3, h1], h2⟩
  refine TCR.enter Tryz.func145 rfl (by simp [Tryz.ntmps145]) rfl (tw_sound (ρ := []) ?_)
  rw [Tryz.ntmps145]
  simp
  refine gall_intro fun a ha => ?_
  have n0 : ¬ a = 0 := fun e => by rw [e] at ha; simp at ha
  have n0' : ¬ 0 = a := fun e => n0 e.symm
  simp [n0, n0']
  refine TWoH.lendR [0] (tcr_pick b p 3 hb (by omega)) callable_72 (by simp [List.findIdx?_cons, n0, n0']) (by simp [n0, n0']) (by simp) (by simp) ?_
  rintro r o ⟨k, rfl, k0, k1, rfl⟩
  refine ⟨by simp [rdr], by simp, .inl (by simp [List.findIdx?_cons, n0, n0']), fun q hq => ?_⟩
  clear hq
  have k2 := k1 (by omega)
  obtain ⟨d, hd, hd1⟩ : ∃ d : Nat, 2 + k = (d : Int) ∧ d ≤ 4 := ⟨(2 + k).toNat, by omega, by omega⟩
  have hw : IntKind.i64.wrap (2 + k) = d := by rw [wrapi (by omega)]; exact hd
  have hRC : RC d ≤ 208 := by
    unfold RC
    have : 2 ^ d ≤ 2 ^ 4 := Nat.pow_le_pow_right (by omega) hd1
    omega
  simp [hw, n0, n0']
  refine TWoH.lendR [0] (tcr_l2Rex d b (p + 1) (by omega) hb (by omega)) callable_169 (by simp [List.findIdx?_cons, n0, n0', hw]) (by simp [n0, n0']) (by simp) (by simp) ?_
  rintro r o ⟨x, p', rfl, hx, hp', rfl⟩
  refine ⟨by simp [rdr], by simp, .inl (by simp [List.findIdx?_cons, n0, n0']), fun q hq => ?_⟩
  clear hq
  have hok := tc_sRexOk x hx
  obtain ⟨xk, xs, xl⟩ := x
  simp [n0, n0', encRex]
  refine gall_intro fun c hc => ?_
  have m0 : ¬ c = 0 := fun e => by rw [e] at hc; simp at hc
  have m0' : ¬ 0 = c := fun e => m0 e.symm
  have m1 : ¬ c = a := fun e => by rw [e] at hc; simp [n0, n0'] at hc
  have m1' : ¬ a = c := fun e => m1 e.symm
  clear hc
  simp [n0, n0', m0, m0', m1, m1']
  refine TWoH.callV hok callable_33 (by simp [n0, n0', m0, m0', m1, m1', encRex, noHR_rex]) (by simp) (by simp) (by simp) ?_
  simp [n0, n0', m0, m0', m1, m1']
  cases c1 : rexOk (.mk xk xs xl)
  · simp [n0, n0', m0, m0', m1, m1']
    refine TWoH.lendR [0] (tcr_l2Leaf b p' hb (by omega)) callable_171 (by simp [List.findIdx?_cons, n0, n0']) (by simp [n0, n0', m0, m0', m1, m1']) (by simp) (by simp) ?_
    rintro r o ⟨y, p'', rfl, hy, hp'', rfl⟩
    refine ⟨by simp [rdr], by simp, .inl (by simp [List.findIdx?_cons, n0, n0']), fun q hq => ?_⟩
    clear hq
    simp [n0, n0', m0, m0', m1, m1']
    exact ⟨_, _, ⟨rfl, rfl⟩, by simp, by simp [n0, n0', m0, m0', m1, m1'], y, by simp, hy.sm, p'', by omega, by simp [n0, n0', m0, m0', m1, m1']⟩
  · simp [n0, n0', m0, m0', m1, m1']
    exact ⟨_, _, ⟨rfl, rfl⟩, by simp [noHR_rex], by simp [n0, n0', m0, m0', m1, m1'], .mk xk xs xl, by simp [encRex], hx, p', by omega, by simp [n0, n0', m0, m0', m1, m1']⟩
end Go.Proofs.YtdomnlnanbekaaaGreatDoor.R

open Go Go.Proofs.YtdomnlnanbekaaaGreatDoor.T
namespace Go.Proofs.YtdomnlnanbekaaaGreatDoor.R
set_option maxHeartbeats 4000000
set_option maxRecDepth 100000
set_option linter.unusedSimpArgs false
set_option linter.unusedVariables false
attribute [local simp] bsV bsRows chunk fillT partsT appV makeV rowsOf cellsOf placeOf frzT frz1
theorem upd_none_iff {X : Option TV} {i j : Nat} {t : TV} : ((if i = j then some t else X) = none) = (¬ i = j ∧ X = none) := by
  by_cases e : i = j
  · simp [e]
  · simp [e]
theorem upd_none_iff' {X : Option TV} {i j : Nat} {t : TV} : ((if i = j then some t else X) = none) = (¬ j = i ∧ X = none) := by
  rw [upd_none_iff, eq_iff_iff]
  exact ⟨fun h => ⟨fun e => h.1 e.symm, h.2⟩, fun h => ⟨fun e => h.1 e.symm, h.2⟩⟩
/-- How it stands behind the first lines of l2Copy. -/
def CopyM (k : Int) (s : List (Int × Int)) (l : List Rex) (a : Nat) (st : St) : Prop := ∃ c id, st.σ 3 = .pd c 0 0 0 ∧ st.σ 10 = .hd id ∧ st.σ 1 = .rptr [.val (.int .i64 k), .ro (s.map encSp), .ro (encRexL l)] 0 ∧ st.σ 2 = .pd a 0 0 0 ∧
  st.H a = some (.box 37 [.val (.int .i64 0), .val (.slice none 0 0), .val (.slice none 0 0)]) ∧ st.H c = some (.box 37 [.val (.int .i64 k), .hd id, .val (.slice none 0 0)]) ∧ st.H id = some (.own 118 (s.map encSp)) ∧ ¬ a = c ∧ ¬ a = id ∧ ¬ c = id
theorem tc_l2CopyS (k : Int) (s : List (Int × Int)) (l : List Rex) (hs : s.length ≤ 1048576) (hl : l.length ≤ 1048576) (ih : ∀ i (h : i < l.length), TC Tryz.prog 100 [.agg (encRex l[i])] [] (.agg (encRex l[i])) []) :
    TC Tryz.prog 100 [.agg (encRex (.mk k s l))] [] (.agg (encRex (.mk k s l))) [] := by
  suffices h : TC Tryz.prog 100 [.agg (encRex (.mk k s l))] [] (.agg [.val (.int .i64 k), .own 118 (s.map encSp), if l = [] then .val (.slice none 0 0) else .own 37 (l.map encRex)]) [] by
    have := h.frz
    by_cases c : l = []
    · subst c; simpa [encRex, encRexL] using this
    · simpa [encRex, encRexL_eq, c] using this
  refine TC.enter Tryz.func100 rfl (by simp [Tryz.ntmps100]) rfl (tw_sound (ρ := [1]) ?_)
  rw [Tryz.ntmps100]
  simp [encRex]
  refine gall_intro fun a ha => ?_
  simp
  have k1 : s.length * 16 ≤ 140737488355328 := by omega
  have k2 : s.length ≤ 9223372036854775807 := by omega
  have kr : ∀ (r : List TV) (x x_1 : Int), (x, x_1) ∈ s → encSp (x, x_1) = r → r.length = 2 := fun r x y _ e => by rw [← e]; simp [encSp]
  refine TWcH.midB (ρ := [1]) (CopyM k s l a)
    (.first 0 (.first 3 (.pick 1 (.pick 2 (.pick 4 (.pick 5 (.first 6 (.pick 7 (.pick 8 .fin .fin) .fin)) (.pick 7 (.pick 5 (.first 6 (.pick 8 .fin .fin)) .fin) .fin)) (.pick 7 (.pick 4 (.pick 5 (.first 6 (.pick 8 .fin .fin)) .fin) .fin) .fin)) (.pick 4 (.pick 2 (.pick 5 (.first 6 (.pick 7 (.pick 8 .fin .fin) .fin)) (.pick 7 (.pick 5 (.first 6 (.pick 8 .fin .fin)) .fin) .fin)) (.pick 7 (.pick 2 (.pick 5 (.first 6 (.pick 8 .fin .fin)) .fin) .fin) .fin)) (.pick 7 (.pick 2 (.pick 4 (.pick 5 (.first 6 (.pick 8 .fin .fin)) .fin) .fin) (.pick 4 (.pick 2 (.pick 5 (.first 6 (.pick 8 .fin .fin)) .fin) .fin) .fin)) .fin))) (.pick 2 (.pick 1 (.pick 4 (.pick 5 (.first 6 (.pick 7 (.pick 8 .fin .fin) .fin)) (.pick 7 (.pick 5 (.first 6 (.pick 8 .fin .fin)) .fin) .fin)) (.pick 7 (.pick 4 (.pick 5 (.first 6 (.pick 8 .fin .fin)) .fin) .fin) .fin)) (.pick 4 (.pick 1 (.pick 5 (.first 6 (.pick 7 (.pick 8 .fin .fin) .fin)) (.pick 7 (.pick 5 (.first 6 (.pick 8 .fin .fin)) .fin) .fin)) (.pick 5 (.pick 1 (.first 6 (.pick 7 (.pick 8 .fin .fin) .fin)) (.pick 7 (.pick 1 (.first 6 (.pick 8 .fin .fin)) .fin) .fin)) (.pick 7 (.pick 1 (.pick 5 (.first 6 (.pick 8 .fin .fin)) .fin) (.pick 5 (.pick 1 (.first 6 (.pick 8 .fin .fin)) .fin) .fin)) .fin))) (.pick 7 (.pick 1 (.pick 4 (.pick 5 (.first 6 (.pick 8 .fin .fin)) .fin) .fin) (.pick 4 (.pick 1 (.pick 5 (.first 6 (.pick 8 .fin .fin)) .fin) (.pick 5 (.pick 1 (.first 6 (.pick 8 .fin .fin)) .fin) .fin)) .fin)) .fin))) (.pick 4 (.pick 1 (.pick 2 (.pick 5 (.first 6 (.pick 7 (.pick 8 .fin .fin) .fin)) (.pick 7 (.pick 5 (.first 6 (.pick 8 .fin .fin)) .fin) .fin)) (.pick 7 (.pick 2 (.pick 5 (.first 6 (.pick 8 .fin .fin)) .fin) .fin) .fin)) (.pick 2 (.pick 1 (.pick 5 (.first 6 (.pick 7 (.pick 8 .fin .fin) .fin)) (.pick 7 (.pick 5 (.first 6 (.pick 8 .fin .fin)) .fin) .fin)) (.pick 5 (.pick 1 (.first 6 (.pick 7 (.pick 8 .fin .fin) .fin)) (.pick 7 (.pick 1 (.first 6 (.pick 8 .fin .fin)) .fin) .fin)) (.pick 7 (.pick 1 (.pick 5 (.first 6 (.pick 8 .fin .fin)) .fin) (.pick 5 (.pick 1 (.first 6 (.pick 8 .fin .fin)) .fin) .fin)) .fin))) (.pick 7 (.pick 1 (.pick 2 (.pick 5 (.first 6 (.pick 8 .fin .fin)) .fin) .fin) (.pick 2 (.pick 1 (.pick 5 (.first 6 (.pick 8 .fin .fin)) .fin) (.pick 5 (.pick 1 (.first 6 (.pick 8 .fin .fin)) .fin) .fin)) .fin)) .fin))) (.pick 7 (.pick 1 (.pick 2 (.pick 4 (.pick 5 (.first 6 (.pick 8 .fin .fin)) .fin) .fin) (.pick 4 (.pick 2 (.pick 5 (.first 6 (.pick 8 .fin .fin)) .fin) .fin) .fin)) (.pick 2 (.pick 1 (.pick 4 (.pick 5 (.first 6 (.pick 8 .fin .fin)) .fin) .fin) (.pick 4 (.pick 1 (.pick 5 (.first 6 (.pick 8 .fin .fin)) .fin) (.pick 5 (.pick 1 (.first 6 (.pick 8 .fin .fin)) .fin) .fin)) .fin)) (.pick 4 (.pick 1 (.pick 2 (.pick 5 (.first 6 (.pick 8 .fin .fin)) .fin) .fin) (.pick 2 (.pick 1 (.pick 5 (.first 6 (.pick 8 .fin .fin)) .fin) (.pick 5 (.pick 1 (.first 6 (.pick 8 .fin .fin)) .fin) .fin)) .fin)) .fin))) .fin)))))) mixed (by kernel_rfl) ?_ ?_
  · simp [k1, k2]
    clear ha ih
    repeat' first
      | refine And.intro ?_ ?_
      | refine gif_intro (fun _ => ?_) (fun c => absurd kr c)
      | (refine gall_intro fun i g => ?_
         have w1 : ¬ a = i := ne_some (by simp [delo, del, *]) g
         have w2 : ¬ i = a := fun e => w1 e.symm
         have g2 := g
         (try simp [upd_none_iff] at g)
         (try simp [upd_none_iff'] at g2)
         simp [k1, k2, delo, del, *])
      | (refine ⟨_, _, rfl, rfl, rfl, rfl, ?_, ?_, ?_, ?_, ?_, ?_⟩ <;> first | (simp [delo, del, *]; done) | skip)
    all_goals skip
  rintro ⟨σ, H⟩ ⟨c, id, h3, h10, h1, h2, hA, hC, hI, n1, n2, n3⟩
  simp only at h3 h10 h1 h2 hA hC hI
  have n1' : ¬ c = a := fun e => n1 e.symm
  have n2' : ¬ id = a := fun e => n2 e.symm
  have n3' : ¬ id = c := fun e => n3 e.symm
  have hle := encRexL_eq l
  rw [hle] at h1
  simp [h3, h1, h2, hA, hC, hI, n1, n2, n3, n1', n2', n3']
  refine TWcH.loop [1] (fun m st => ∃ (i : Nat) (kc : TV), i + m = l.length ∧ ((i = 0 ∧ kc = .val (.slice none 0 0)) ∨ ∃ kd, kc = .hd kd ∧ 0 < i ∧ st.H kd = some (.own 37 ((l.take i).map encRex)) ∧ ¬ kd = a ∧ ¬ kd = c ∧ ¬ kd = id) ∧ st.σ 3 = .pd c 0 0 0 ∧ st.σ 1 = .rptr [.val (.int .i64 k), .ro (s.map encSp), .ro (l.map encRex)] 0 ∧ st.σ 2 = .pd a 0 0 0 ∧
    st.H a = some (.box 37 [.val (.int .i64 0), .val (.slice none 0 0), .val (.slice none 0 0)]) ∧ st.H c = some (.box 37 [.val (.int .i64 k), .hd id, kc]) ∧ st.H id = some (.own 118 (s.map encSp)) ∧ st.σ 4 = .val (.int .i64 i)) l.length ⟨0, .val (.slice none 0 0), by simp [h3, h1, h2, hA, hC, hI]⟩ ?_
  clear h3 h10 h1 h2 hA hC hI
  clear σ H
  rintro m ⟨σ, H⟩ ⟨i, kc, him, hkc, h3, h1, h2, hA, hC, hI, h4⟩
  simp only at hkc h3 h1 h2 hA hC hI h4
  by_cases hi : i < l.length
  · have hw : IntKind.i64.wrap ((i : Int) + 1) = i + 1 := wrapi (by omega)
    have k3 : (i + 1) * 56 ≤ 140737488355328 := by omega
    have k4 : i ≤ 9223372036854775806 := by omega
    have htl : (l.take i).length = i := by simp; omega
    have htk : l.take (i + 1) = l.take i ++ [l[i]] := by rw [List.take_add_one, List.getElem?_eq_getElem hi]; rfl
    have hih := ih i hi
    obtain ⟨x, hx⟩ : ∃ x, l[i] = x := ⟨_, rfl⟩
    have hat : ∀ h, l[i]'h = x := fun _ => hx
    rw [hx] at hih htk
    obtain ⟨xk, xs, xl⟩ := x
    have htk2 : List.take (i + 1) (List.map encRex l) = (l.take i).map encRex ++ [encRex (.mk xk xs xl)] := by rw [← List.map_take, htk]; simp
    generalize l.take i = L at htl htk2 hkc
    clear htk
    simp [h3, h1, h2, hA, hC, hI, h4, n1, n2, n3, n1', n2', n3', delo, del, encRex, hi, hat, htl, hi, hat]
    refine TWcH.regionD (ρ := [1]) [0, 1, 2, 3, 4, 5, 6, 7, 8, 9, 10, 11] 11 mixed (by kernel_rfl) ?_
    rcases hkc with ⟨e0, rfl⟩ | ⟨kd, rfl, i0, hK, q1, q2, q3⟩
    · obtain rfl : L = [] := List.eq_nil_of_length_eq_zero (by omega)
      simp [h3, h1, h2, hA, hC, hI, h4, n1, n2, n3, n1', n2', n3', delo, del, encRex, hi, hat, htl, hi, hat]
      refine TWqH.callV hih callable_100 (by simp [encRex, noHR_rex]) (by simp) (by simp) (by simp) ?_
      simp [h3, h1, h2, hA, hC, hI, h4, n1, n2, n3, n1', n2', n3', delo, del, encRex, hi, hat, htl, hi, hat]
      refine gall_intro fun i2 g2 => ?_
      have u_a : ¬ i2 = a := fun e => by rw [e] at g2; simp [h3, h1, h2, hA, hC, hI, h4, n1, n2, n3, n1', n2', n3', delo, del, encRex, hi, hat, htl] at g2
      have v_a : ¬ a = i2 := fun e => u_a e.symm
      have u_c : ¬ i2 = c := fun e => by rw [e] at g2; simp [h3, h1, h2, hA, hC, hI, h4, n1, n2, n3, n1', n2', n3', delo, del, encRex, hi, hat, htl] at g2
      have v_c : ¬ c = i2 := fun e => u_c e.symm
      have u_id : ¬ i2 = id := fun e => by rw [e] at g2; simp [h3, h1, h2, hA, hC, hI, h4, n1, n2, n3, n1', n2', n3', delo, del, encRex, hi, hat, htl] at g2
      have v_id : ¬ id = i2 := fun e => u_id e.symm
      simp [-List.map_append, h3, h1, h2, hA, hC, hI, h4, n1, n2, n3, n1', n2', n3', delo, del, encRex, hi, hat, htl, u_a, v_a, u_c, v_c, u_id, v_id, k3, k4]
      refine gall_intro fun i3 g3 => ?_
      have y_a : ¬ i3 = a := fun e => by rw [e] at g3; simp [h3, h1, h2, hA, hC, hI, h4, n1, n2, n3, n1', n2', n3', delo, del, encRex, hi, hat, htl, u_a, v_a, u_c, v_c, u_id, v_id] at g3
      have z_a : ¬ a = i3 := fun e => y_a e.symm
      have y_c : ¬ i3 = c := fun e => by rw [e] at g3; simp [h3, h1, h2, hA, hC, hI, h4, n1, n2, n3, n1', n2', n3', delo, del, encRex, hi, hat, htl, u_a, v_a, u_c, v_c, u_id, v_id] at g3
      have z_c : ¬ c = i3 := fun e => y_c e.symm
      have y_id : ¬ i3 = id := fun e => by rw [e] at g3; simp [h3, h1, h2, hA, hC, hI, h4, n1, n2, n3, n1', n2', n3', delo, del, encRex, hi, hat, htl, u_a, v_a, u_c, v_c, u_id, v_id] at g3
      have z_id : ¬ id = i3 := fun e => y_id e.symm
      have y_i2 : ¬ i3 = i2 := fun e => by rw [e] at g3; simp [h3, h1, h2, hA, hC, hI, h4, n1, n2, n3, n1', n2', n3', delo, del, encRex, hi, hat, htl, u_a, v_a, u_c, v_c, u_id, v_id] at g3
      have z_i2 : ¬ i2 = i3 := fun e => y_i2 e.symm
      simp [-List.map_append, h3, h1, h2, hA, hC, hI, h4, n1, n2, n3, n1', n2', n3', delo, del, encRex, hi, hat, htl, u_a, v_a, u_c, v_c, u_id, v_id, y_a, z_a, y_c, z_c, y_id, z_id, y_i2, z_i2, hw]
      exact ⟨m - 1, by omega, i + 1, by omega, .hd i3, .inr ⟨i3, rfl, by omega, by rw [htk2]; simp [y_c, encRex], y_a, y_c, y_id⟩, rfl, by omega⟩
    · have q1' : ¬ a = kd := fun e => q1 e.symm
      have q2' : ¬ c = kd := fun e => q2 e.symm
      have q3' : ¬ id = kd := fun e => q3 e.symm
      simp [h3, h1, h2, hA, hC, hI, h4, n1, n2, n3, n1', n2', n3', delo, del, encRex, hi, hat, htl, hK, q1, q2, q3, q1', q2', q3', hi, hat]
      refine TWqH.callV hih callable_100 (by simp [encRex, noHR_rex]) (by simp) (by simp) (by simp) ?_
      simp [h3, h1, h2, hA, hC, hI, h4, n1, n2, n3, n1', n2', n3', delo, del, encRex, hi, hat, htl, hK, q1, q2, q3, q1', q2', q3', hi, hat]
      refine gall_intro fun i2 g2 => ?_
      have u_a : ¬ i2 = a := fun e => by rw [e] at g2; simp [h3, h1, h2, hA, hC, hI, h4, n1, n2, n3, n1', n2', n3', delo, del, encRex, hi, hat, htl, hK, q1, q2, q3, q1', q2', q3'] at g2
      have v_a : ¬ a = i2 := fun e => u_a e.symm
      have u_c : ¬ i2 = c := fun e => by rw [e] at g2; simp [h3, h1, h2, hA, hC, hI, h4, n1, n2, n3, n1', n2', n3', delo, del, encRex, hi, hat, htl, hK, q1, q2, q3, q1', q2', q3'] at g2
      have v_c : ¬ c = i2 := fun e => u_c e.symm
      have u_id : ¬ i2 = id := fun e => by rw [e] at g2; simp [h3, h1, h2, hA, hC, hI, h4, n1, n2, n3, n1', n2', n3', delo, del, encRex, hi, hat, htl, hK, q1, q2, q3, q1', q2', q3'] at g2
      have v_id : ¬ id = i2 := fun e => u_id e.symm
      have u_kd : ¬ i2 = kd := fun e => by rw [e] at g2; simp [h3, h1, h2, hA, hC, hI, h4, n1, n2, n3, n1', n2', n3', delo, del, encRex, hi, hat, htl, hK, q1, q2, q3, q1', q2', q3'] at g2
      have v_kd : ¬ kd = i2 := fun e => u_kd e.symm
      simp [-List.map_append, h3, h1, h2, hA, hC, hI, h4, n1, n2, n3, n1', n2', n3', delo, del, encRex, hi, hat, htl, hK, q1, q2, q3, q1', q2', q3', u_a, v_a, u_c, v_c, u_id, v_id, u_kd, v_kd, k3, k4]
      refine gall_intro fun i3 g3 => ?_
      have y_a : ¬ i3 = a := fun e => by rw [e] at g3; simp [h3, h1, h2, hA, hC, hI, h4, n1, n2, n3, n1', n2', n3', delo, del, encRex, hi, hat, htl, hK, q1, q2, q3, q1', q2', q3', u_a, v_a, u_c, v_c, u_id, v_id, u_kd, v_kd] at g3
      have z_a : ¬ a = i3 := fun e => y_a e.symm
      have y_c : ¬ i3 = c := fun e => by rw [e] at g3; simp [h3, h1, h2, hA, hC, hI, h4, n1, n2, n3, n1', n2', n3', delo, del, encRex, hi, hat, htl, hK, q1, q2, q3, q1', q2', q3', u_a, v_a, u_c, v_c, u_id, v_id, u_kd, v_kd] at g3
      have z_c : ¬ c = i3 := fun e => y_c e.symm
      have y_id : ¬ i3 = id := fun e => by rw [e] at g3; simp [h3, h1, h2, hA, hC, hI, h4, n1, n2, n3, n1', n2', n3', delo, del, encRex, hi, hat, htl, hK, q1, q2, q3, q1', q2', q3', u_a, v_a, u_c, v_c, u_id, v_id, u_kd, v_kd] at g3
      have z_id : ¬ id = i3 := fun e => y_id e.symm
      have y_i2 : ¬ i3 = i2 := fun e => by rw [e] at g3; simp [h3, h1, h2, hA, hC, hI, h4, n1, n2, n3, n1', n2', n3', delo, del, encRex, hi, hat, htl, hK, q1, q2, q3, q1', q2', q3', u_a, v_a, u_c, v_c, u_id, v_id, u_kd, v_kd] at g3
      have z_i2 : ¬ i2 = i3 := fun e => y_i2 e.symm
      simp [-List.map_append, h3, h1, h2, hA, hC, hI, h4, n1, n2, n3, n1', n2', n3', delo, del, encRex, hi, hat, htl, hK, q1, q2, q3, q1', q2', q3', u_a, v_a, u_c, v_c, u_id, v_id, u_kd, v_kd, y_a, z_a, y_c, z_c, y_id, z_id, y_i2, z_i2, hw]
      exact ⟨m - 1, by omega, i + 1, by omega, .hd i3, .inr ⟨i3, rfl, by omega, by rw [htk2]; simp [y_c, encRex], y_a, y_c, y_id⟩, rfl, by omega⟩
  · obtain rfl : i = l.length := by omega
    rcases hkc with ⟨e0, rfl⟩ | ⟨kd, rfl, i0, hK, q1, q2, q3⟩
    · obtain rfl : l = [] := List.eq_nil_of_length_eq_zero e0
      simp [h3, h1, h2, hA, hC, hI, h4, n1, n2, n3, n1', n2', n3', delo, del, encRex]
    · have q1' : ¬ a = kd := fun e => q1 e.symm
      have q2' : ¬ c = kd := fun e => q2 e.symm
      have q3' : ¬ id = kd := fun e => q3 e.symm
      have ln : ¬ l = [] := fun e => by subst e; simp at i0
      rw [List.take_length] at hK
      simp [h3, h1, h2, hA, hC, hI, h4, n1, n2, n3, n1', n2', n3', delo, del, encRex, hK, q1, q2, q3, q1', q2', q3', ln]
end Go.Proofs.YtdomnlnanbekaaaGreatDoor.R

open Go Go.Proofs.YtdomnlnanbekaaaGreatDoor.T
namespace Go.Proofs.YtdomnlnanbekaaaGreatDoor.R
set_option maxHeartbeats 4000000
set_option maxRecDepth 100000
set_option linter.unusedSimpArgs false
set_option linter.unusedVariables false
mutual
theorem tc_l2Copy : ∀ (r : Rex), Sm r → TC Tryz.prog 100 [.agg (encRex r)] [] (.agg (encRex r)) []
  | .mk k s l, h => tc_l2CopyS k s l h.1 h.2.1 (tc_l2CopyL l h.2.2)
theorem tc_l2CopyL : ∀ (l : List Rex), SmL l → ∀ i (h : i < l.length), TC Tryz.prog 100 [.agg (encRex l[i])] [] (.agg (encRex l[i])) []
  | r :: l, h, 0, _ => tc_l2Copy r h.1
  | r :: l, h, i + 1, hi => by
    simp only [List.getElem_cons_succ]
    exact tc_l2CopyL l h.2 i (by simpa using hi)
end
end Go.Proofs.YtdomnlnanbekaaaGreatDoor.R

open Go Go.Proofs.YtdomnlnanbekaaaGreatDoor.T
namespace Go.Proofs.YtdomnlnanbekaaaGreatDoor.R
set_option maxHeartbeats 4000000
set_option maxRecDepth 100000
set_option linter.unusedSimpArgs false
set_option linter.unusedVariables false
attribute [local simp] bsV bsRows chunk fillT partsT appV makeV rowsOf cellsOf placeOf frzT frz1
def KB : List Int := [0, 8, 3, 5]
/-- How the box stands in the loops: L says how the parts are held. -/
def BentAt (b : List UInt8) (p1 a c ti N : Nat) (L0 : TV → List Rex → (Nat → Option TV) → Prop) (m : Nat) (st : St) : Prop := ∃ (i : Nat) (yk : Int) (ys : List (Int × Int)) (yl : List Rex) (S L : TV), i + m = N ∧ Sm (.mk yk ys yl) ∧ (S = .ro (ys.map encSp) ∨ (ys = [] ∧ S = .val (.slice none 0 0))) ∧ L0 L yl st.H ∧
  st.σ 0 = .pd 0 0 0 0 ∧ st.H 0 = some (rdr b p1) ∧ st.σ 2 = .pd a 0 0 0 ∧ st.H a = some (.box 37 [.val (.int .i64 0), .val (.slice none 0 0), .val (.slice none 0 0)]) ∧ st.σ 3 = .pd c 0 0 0 ∧ st.H c = some (.box 37 [.val (.int .i64 yk), S, L]) ∧ st.σ ti = .val (.int .i64 i)
def LRo : TV → List Rex → (Nat → Option TV) → Prop := fun L yl _ => L = .ro (encRexL yl)
def LAny (a c : Nat) : TV → List Rex → (Nat → Option TV) → Prop := fun L yl H => L = .ro (encRexL yl) ∨ ∃ j rows, L = .hd j ∧ H j = some (.own 37 rows) ∧ roRows rows = encRexL yl ∧ ¬ j = 0 ∧ ¬ j = a ∧ ¬ j = c
theorem bent_turn {b : List UInt8} {p1 a c ti N n : Nat} (n0 : ¬ a = 0) (m0 : ¬ c = 0) (m1 : ¬ c = a) : ∀ m s, BentAt b p1 a c ti N (LAny a c) m s → Turn Tryz.prog n s (BentAt b p1 a c ti N LRo m) := by
  rintro m ⟨σ, H⟩ ⟨i, yk, ys, yl, S, L, him, hy, hS, hL, h0, hH, h2, hA, h3, hC, h4⟩
  simp only at hL h0 hH h2 hA h3 hC h4
  rcases hL with rfl | ⟨j, rows, rfl, hj, hr, q0, q1, q2⟩
  · exact Turn.same ⟨i, yk, ys, yl, S, _, him, hy, hS, rfl, h0, hH, h2, hA, h3, hC, h4⟩
  · have q0' : ¬ 0 = j := fun e => q0 e.symm
    have q1' : ¬ a = j := fun e => q1 e.symm
    have q2' : ¬ c = j := fun e => q2 e.symm
    refine Turn.freezeA j hj ?_
    refine ⟨i, yk, ys, yl, S, .ro (encRexL yl), him, hy, hS, rfl, ?_⟩
    rcases hS with rfl | ⟨_, rfl⟩ <;> simp [h0, hH, h2, hA, h3, hC, h4, del, q0', q1', q2', frzO, rdr, toRo, hr]
theorem tcr_l2Bent (b : List UInt8) (p : Nat) (hb : b.length ≤ 2000) (hp : p ≤ 860000000) : TCR Tryz.prog 71 [.pd 0 0 0 0] [rdr b p] (fun r o => ∃ (x : Rex) (p' : Nat), r = .agg (encRex x) ∧ Sm x ∧ p' ≤ p + 400 ∧ o = [rdr b p']) := by
  suffices h : TCR Tryz.prog 71 [.pd 0 0 0 0] [rdr b p] (fun r o => ∃ (x : Rex) (p' : Nat), toRo r = .agg (encRex x) ∧ Sm x ∧ p' ≤ p + 400 ∧ o = [rdr b p']) from
    h.frz.mono fun r o ⟨r0, ⟨x, p', h1, h2⟩, h3⟩ => ⟨x, p', by rw [h3, h1], h2⟩
  refine TCR.enter Tryz.func71 rfl (by simp [Tryz.ntmps71]) rfl (tw_sound (ρ := []) ?_)
  rw [Tryz.ntmps71]
  simp
  refine gall_intro fun a ha => ?_
  have n0 : ¬ a = 0 := fun e => by rw [e] at ha; simp at ha
  have n0' : ¬ 0 = a := fun e => n0 e.symm
  clear ha
  simp [n0, n0']
  refine TWoH.lendR [0] (tcr_l2Some b p hb (by omega)) callable_145 (by simp [List.findIdx?_cons, n0, n0']) (by simp [n0, n0']) (by simp) (by simp) ?_
  rintro r o ⟨x, p1, rfl, hx, hp1, rfl⟩
  refine ⟨by simp [rdr], by simp, .inl (by simp [List.findIdx?_cons, n0, n0']), fun q hq => ?_⟩
  clear hq
  obtain ⟨xk, xs, xl⟩ := x
  have hx1 := hx
  simp only [Sm] at hx1
  simp [n0, n0', encRex]
  refine gall_intro fun c hc => ?_
  have m0 : ¬ c = 0 := fun e => by rw [e] at hc; simp at hc
  have m0' : ¬ 0 = c := fun e => m0 e.symm
  have m1 : ¬ c = a := fun e => by rw [e] at hc; simp [n0, n0'] at hc
  have m1' : ¬ a = c := fun e => m1 e.symm
  clear hc
  simp [n0, n0', m0, m0', m1, m1']
  refine TWoH.lendR [0] (tcr_pick b p1 48 hb (by omega)) callable_72 (by simp [List.findIdx?_cons, n0, n0', m0, m0']) (by simp [n0, n0', m0, m0', m1, m1']) (by simp) (by simp) ?_
  rintro r o ⟨k, rfl, k0, k1, rfl⟩
  refine ⟨by simp [rdr], by simp, .inl (by simp [List.findIdx?_cons, n0, n0', m0, m0']), fun q hq => ?_⟩
  clear hq
  by_cases c0 : k = 0
  · simp [c0, n0, n0', m0, m0', m1, m1']
    refine gall_intro fun i1 g1 => ?_
    have a0 : ¬ i1 = 0 := fun e => by rw [e] at g1; simp at g1
    have a0' : ¬ 0 = i1 := fun e => a0 e.symm
    have a1 : ¬ i1 = a := fun e => by rw [e] at g1; simp [n0, n0', m0, m0', m1, m1'] at g1
    have a1' : ¬ a = i1 := fun e => a1 e.symm
    have a2 : ¬ i1 = c := fun e => by rw [e] at g1; simp [n0, n0', m0, m0', m1, m1'] at g1
    have a2' : ¬ c = i1 := fun e => a2 e.symm
    clear g1
    simp [n0, n0', m0, m0', m1, m1', a0, a0', a1, a1', a2, a2']
    refine TWoH.turn (Turn.freeze i1 (t := .own 3 (KB.map encIn)) (by simp [a0, a0', encIn, KB]) ?_)
    refine TWoH.lendR [0] (tcr_num b (p1 + 1) KB hb (by omega) (by simp [KB]) (by simp [KB])) callable_74 (by simp [a0, a0', List.findIdx?_cons, encIn, KB]) (by simp [a0, a0', n0, n0', m0, m0', del]) (by simp) (by simp) ?_
    rintro r o ⟨kd, hkd, rfl, rfl⟩
    refine ⟨by simp [rdr], by simp, .inl (by simp [a0, a0', List.findIdx?_cons]), fun q hq => ?_⟩
    clear hq
    simp [n0, n0', m0, m0', m1, m1', a0, a0', a1, a1', a2, a2', del]
    exact ⟨_, _, ⟨rfl, rfl⟩, by simp [noHR_rex], by simp [n0, n0', m0, m0', m1, m1', a0, a0', a1, a1', a2, a2', del], .mk kd xs xl, by simp [encRex], by simp only [Sm]; exact hx1, p1 + 2, by omega, by simp [n0, n0', m0, m0', m1, m1', a0, a0', a1, a1', a2, a2', del]⟩
  by_cases c1 : k = 1
  · simp [c0, c1, n0, n0', m0, m0', m1, m1']
    refine gall_intro fun i1 g1 => ?_
    have a0 : ¬ i1 = 0 := fun e => by rw [e] at g1; simp at g1
    have a0' : ¬ 0 = i1 := fun e => a0 e.symm
    have a1 : ¬ i1 = a := fun e => by rw [e] at g1; simp [n0, n0', m0, m0', m1, m1'] at g1
    have a1' : ¬ a = i1 := fun e => a1 e.symm
    have a2 : ¬ i1 = c := fun e => by rw [e] at g1; simp [n0, n0', m0, m0', m1, m1'] at g1
    have a2' : ¬ c = i1 := fun e => a2 e.symm
    clear g1
    simp [n0, n0', m0, m0', m1, m1', a0, a0', a1, a1', a2, a2', del]
    exact ⟨_, _, ⟨rfl, rfl⟩, by simp [noHR_rex], by simp [n0, n0', m0, m0', m1, m1', a0, a0', a1, a1', a2, a2', del], .mk xk [(5, 4)] xl, by simp [encRex, encSp], by simp only [Sm]; exact ⟨by simp, hx1.2⟩, p1 + 1, by omega, by simp [n0, n0', m0, m0', m1, m1', a0, a0', a1, a1', a2, a2', del]⟩
  by_cases c2 : k = 2
  · simp [c0, c1, c2, n0, n0', m0, m0', m1, m1']
    refine TWcH.loopT [] (BentAt b (p1 + 1) a c 4 9 (LAny a c)) (BentAt b (p1 + 1) a c 4 9 LRo) 9 ⟨0, xk, xs, xl, .ro (xs.map encSp), .ro (encRexL xl), by simp, hx, .inl rfl, .inl rfl, by simp [n0, n0', m0, m0', m1, m1']⟩ (bent_turn n0 m0 m1) ?_
    rintro m ⟨σ, H⟩ ⟨i, yk, ys, yl, S, L, him, hy, hS, rfl, h0, hH, h2, hA, h3, hC, h4⟩
    simp only at h0 hH h2 hA h3 hC h4
    have hy1 := hy
    simp only [Sm] at hy1
    by_cases hi : i < 9
    case neg =>
      have hi2 : ¬ (i : Int) < 9 := by omega
      rcases hS with rfl | ⟨rfl, rfl⟩ <;> simp [h0, hH, h2, hA, h3, hC, h4, hi, hi2, n0, n0', m0, m0', m1, m1']
      · exact ⟨_, _, ⟨rfl, rfl⟩, by simp [noHR_rex], by simp [hH, n0, n0', m0, m0', m1, m1', del], .mk yk ys yl, by simp [encRex], hy, p1 + 1, by omega, by simp [hH, n0, n0', m0, m0', m1, m1', del]⟩
      · exact ⟨_, _, ⟨rfl, rfl⟩, by simp [noHR_rex], by simp [hH, n0, n0', m0, m0', m1, m1', del], .mk yk [] yl, by simp [encRex], hy, p1 + 1, by omega, by simp [hH, n0, n0', m0, m0', m1, m1', del]⟩
    have hi2 : (i : Int) < 9 := by omega
    have hw : IntKind.i64.wrap ((i : Int) + 1) = i + 1 := wrapi (by omega)
    rcases hS with rfl | ⟨rfl, rfl⟩ <;> simp [h0, hH, h2, hA, h3, hC, h4, hi, hi2, n0, n0', m0, m0', m1, m1']
    all_goals
      refine gall_intro fun i1 g1 => ?_
      have a0 : ¬ i1 = 0 := fun e => by rw [e] at g1; simp [hH] at g1
      have a0' : ¬ 0 = i1 := fun e => a0 e.symm
      have a1 : ¬ i1 = a := fun e => by rw [e] at g1; simp [hA] at g1
      have a1' : ¬ a = i1 := fun e => a1 e.symm
      have a2 : ¬ i1 = c := fun e => by rw [e] at g1; simp [hC] at g1
      have a2' : ¬ c = i1 := fun e => a2 e.symm
      simp [h0, hH, h2, hA, h3, hC, h4, hw, n0, n0', m0, m0', m1, m1', a0, a0', a1, a1', a2, a2']
    · exact ⟨m - 1, by omega, i + 1, 5, [], [.mk yk ys yl], .val (.slice none 0 0), .hd i1, by omega, by simp only [Sm, SmL]; exact ⟨by simp, by simp, hy1, trivial⟩, .inr ⟨rfl, rfl⟩, .inr ⟨i1, [[.val (.int .i64 yk), .ro (ys.map encSp), .ro (encRexL yl)]], rfl, by simp [n0, n0', m0, m0', m1, m1', a0, a0', a1, a1', a2, a2'], by simp [encRexL, encRex], a0, a1, a2⟩, by simp [h0], by simp [hH, n0, n0', m0, m0', m1, m1', a0, a0', a1, a1', a2, a2'], by simp [h2], by simp [hA, n0, n0', m0, m0', m1, m1', a0, a0', a1, a1', a2, a2'], by simp [h3], by simp [hC, n0, n0', m0, m0', m1, m1', a0, a0', a1, a1', a2, a2'], by simp⟩
    · exact ⟨m - 1, by omega, i + 1, 5, [], [.mk yk [] yl], .val (.slice none 0 0), .hd i1, by omega, by simp only [Sm, SmL]; exact ⟨by simp, by simp, hy1, trivial⟩, .inr ⟨rfl, rfl⟩, .inr ⟨i1, [[.val (.int .i64 yk), .val (.slice none 0 0), .ro (encRexL yl)]], rfl, by simp [n0, n0', m0, m0', m1, m1', a0, a0', a1, a1', a2, a2'], by simp [encRexL, encRex], a0, a1, a2⟩, by simp [h0], by simp [hH, n0, n0', m0, m0', m1, m1', a0, a0', a1, a1', a2, a2'], by simp [h2], by simp [hA, n0, n0', m0, m0', m1, m1', a0, a0', a1, a1', a2, a2'], by simp [h3], by simp [hC, n0, n0', m0, m0', m1, m1', a0, a0', a1, a1', a2, a2'], by simp⟩
  by_cases c3 : k = 3
  · simp [c0, c1, c2, c3, n0, n0', m0, m0', m1, m1']
    refine TWcH.loopT [] (BentAt b (p1 + 1) a c 5 5 (LAny a c)) (BentAt b (p1 + 1) a c 5 5 LRo) 5 ⟨0, xk, xs, xl, .ro (xs.map encSp), .ro (encRexL xl), by simp, hx, .inl rfl, .inl rfl, by simp [n0, n0', m0, m0', m1, m1']⟩ (bent_turn n0 m0 m1) ?_
    rintro m ⟨σ, H⟩ ⟨i, yk, ys, yl, S, L, him, hy, hS, rfl, h0, hH, h2, hA, h3, hC, h5⟩
    simp only at h0 hH h2 hA h3 hC h5
    have hy1 := hy
    simp only [Sm] at hy1
    by_cases hi : i < 5
    case neg =>
      have hi2 : ¬ (i : Int) < 5 := by omega
      rcases hS with rfl | ⟨rfl, rfl⟩ <;> simp [h0, hH, h2, hA, h3, hC, h5, hi, hi2, n0, n0', m0, m0', m1, m1']
      · exact ⟨_, _, ⟨rfl, rfl⟩, by simp [noHR_rex], by simp [hH, n0, n0', m0, m0', m1, m1', del], .mk yk ys yl, by simp [encRex], hy, p1 + 1, by omega, by simp [hH, n0, n0', m0, m0', m1, m1', del]⟩
      · exact ⟨_, _, ⟨rfl, rfl⟩, by simp [noHR_rex], by simp [hH, n0, n0', m0, m0', m1, m1', del], .mk yk [] yl, by simp [encRex], hy, p1 + 1, by omega, by simp [hH, n0, n0', m0, m0', m1, m1', del]⟩
    have hi2 : (i : Int) < 5 := by omega
    have hw : IntKind.i64.wrap ((i : Int) + 1) = i + 1 := wrapi (by omega)
    rcases hS with rfl | ⟨rfl, rfl⟩ <;> simp [h0, hH, h2, hA, h3, hC, h5, hi, hi2, n0, n0', m0, m0', m1, m1']
    · refine TWcH.regionD (ρ := []) [0, 1, 2, 3, 4, 5] 5 mixed (by kernel_rfl) ?_
      simp [h0, hH, h2, hA, h3, hC, h5, hi, hi2, n0, n0', m0, m0', m1, m1']
      refine TWqH.callV (tc_l2Copy _ hy) callable_100 (by simp [h0, hH, h2, hA, h3, hC, h5, n0, n0', m0, m0', m1, m1', encRex, noHR_rex]) (by simp) (by simp) (by simp) ?_
      simp [h0, hH, h2, hA, h3, hC, h5, hi, hi2, n0, n0', m0, m0', m1, m1', encRex]
      refine gall_intro fun i1 g1 => ?_
      have a0 : ¬ i1 = 0 := fun e => by rw [e] at g1; simp [hH] at g1
      have a0' : ¬ 0 = i1 := fun e => a0 e.symm
      have a1 : ¬ i1 = a := fun e => by rw [e] at g1; simp [hA] at g1
      have a1' : ¬ a = i1 := fun e => a1 e.symm
      have a2 : ¬ i1 = c := fun e => by rw [e] at g1; simp [hC] at g1
      have a2' : ¬ c = i1 := fun e => a2 e.symm
      simp [h0, hH, h2, hA, h3, hC, h5, hw, n0, n0', m0, m0', m1, m1', a0, a0', a1, a1', a2, a2', encRex]
      exact ⟨m - 1, by omega, i + 1, 3, [], [.mk yk ys yl, .mk yk ys yl], .val (.slice none 0 0), .hd i1, by omega, by simp only [Sm, SmL]; exact ⟨by simp, by simp, hy1, hy1, trivial⟩, .inr ⟨rfl, rfl⟩, .inr ⟨i1, [[.val (.int .i64 yk), .ro (ys.map encSp), .ro (encRexL yl)], encRex (.mk yk ys yl)], rfl, by simp [encRex, n0, n0', m0, m0', m1, m1', a0, a0', a1, a1', a2, a2'], by simp [encRexL, encRex], a0, a1, a2⟩, by simp [h0], by simp [hH, n0, n0', m0, m0', m1, m1', a0, a0', a1, a1', a2, a2'], by simp [h2], by simp [hA, n0, n0', m0, m0', m1, m1', a0, a0', a1, a1', a2, a2'], by simp [h3], by simp [hC, n0, n0', m0, m0', m1, m1', a0, a0', a1, a1', a2, a2'], by simp⟩
    · refine TWcH.regionD (ρ := []) [0, 1, 2, 3, 4, 5] 5 mixed (by kernel_rfl) ?_
      simp [h0, hH, h2, hA, h3, hC, h5, hi, hi2, n0, n0', m0, m0', m1, m1']
      refine TWqH.callV (tc_l2Copy _ hy) callable_100 (by simp [h0, hH, h2, hA, h3, hC, h5, n0, n0', m0, m0', m1, m1', encRex, noHR_rex]) (by simp) (by simp) (by simp) ?_
      simp [h0, hH, h2, hA, h3, hC, h5, hi, hi2, n0, n0', m0, m0', m1, m1', encRex]
      refine gall_intro fun i1 g1 => ?_
      have a0 : ¬ i1 = 0 := fun e => by rw [e] at g1; simp [hH] at g1
      have a0' : ¬ 0 = i1 := fun e => a0 e.symm
      have a1 : ¬ i1 = a := fun e => by rw [e] at g1; simp [hA] at g1
      have a1' : ¬ a = i1 := fun e => a1 e.symm
      have a2 : ¬ i1 = c := fun e => by rw [e] at g1; simp [hC] at g1
      have a2' : ¬ c = i1 := fun e => a2 e.symm
      simp [h0, hH, h2, hA, h3, hC, h5, hw, n0, n0', m0, m0', m1, m1', a0, a0', a1, a1', a2, a2', encRex]
      exact ⟨m - 1, by omega, i + 1, 3, [], [.mk yk [] yl, .mk yk [] yl], .val (.slice none 0 0), .hd i1, by omega, by simp only [Sm, SmL]; exact ⟨by simp, by simp, hy1, hy1, trivial⟩, .inr ⟨rfl, rfl⟩, .inr ⟨i1, [[.val (.int .i64 yk), .val (.slice none 0 0), .ro (encRexL yl)], encRex (.mk yk [] yl)], rfl, by simp [encRex, n0, n0', m0, m0', m1, m1', a0, a0', a1, a1', a2, a2'], by simp [encRexL, encRex], a0, a1, a2⟩, by simp [h0], by simp [hH, n0, n0', m0, m0', m1, m1', a0, a0', a1, a1', a2, a2'], by simp [h2], by simp [hA, n0, n0', m0, m0', m1, m1', a0, a0', a1, a1', a2, a2'], by simp [h3], by simp [hC, n0, n0', m0, m0', m1, m1', a0, a0', a1, a1', a2, a2'], by simp⟩
  simp [c0, c1, c2, c3, n0, n0', m0, m0', m1, m1']
  exact ⟨_, _, ⟨rfl, rfl⟩, by simp [noHR_rex], by simp [n0, n0', m0, m0', m1, m1', del], .mk xk xs xl, by simp [encRex], hx, p1 + 1, by omega, by simp [n0, n0', m0, m0', m1, m1', del]⟩
end Go.Proofs.YtdomnlnanbekaaaGreatDoor.R

open Go Go.Proofs.YtdomnlnanbekaaaGreatDoor.T
namespace Go.Proofs.YtdomnlnanbekaaaGreatDoor.R
set_option maxHeartbeats 4000000
set_option maxRecDepth 100000
set_option linter.unusedSimpArgs false
set_option linter.unusedVariables false
attribute [local simp] bsV bsRows chunk fillT partsT appV makeV rowsOf cellsOf placeOf frzT frz1
theorem tc_l15Open (b : List UInt8) (hb : b.length ≤ 1048576) : TC Tryz.prog 61 [.ro (b.map encU)] [] (rdr (b.take 2000) 0) [] := by
  refine TC.enter Tryz.func61 rfl (by simp [Tryz.ntmps61]) rfl (tw_sound (ρ := []) ?_)
  rw [Tryz.ntmps61]
  by_cases c : 2000 < b.length
  · have c' : (2000 : Int) < b.length := by omega
    have c2 : 2000 ≤ b.length := by omega
    have c3 : (2000 : Int) ≤ b.length := by omega
    simp [c, c', c2, c3]
    refine gall_intro fun i1 g1 => ?_
    simp [rdr, ← List.map_take]
  · have c' : ¬ (2000 : Int) < b.length := by omega
    have ht : b.take 2000 = b := List.take_of_length_le (by omega)
    simp [c, c']
    refine gall_intro fun i1 g1 => ?_
    simp [rdr, ht]
end Go.Proofs.YtdomnlnanbekaaaGreatDoor.R
