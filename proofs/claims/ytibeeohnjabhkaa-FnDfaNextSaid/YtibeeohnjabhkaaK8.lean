/- Part 8: what the walk of the code stands on. Conditions: none but those that each theorem states. -/
import Derived.Test.YtibeeohnjabhkaaK7
open Go Go.Proofs.Ytibeeohnjabhkaa.T
namespace Go.Proofs.Ytibeeohnjabhkaa.R
set_option maxHeartbeats 4000000
set_option maxRecDepth 100000
set_option linter.unusedSimpArgs false
set_option linter.unusedVariables false
/-- Two states, and a text with which one comes to them. -/
structure Pr where
  s : Int
  t : Int
  w : List UInt8
def nx (d : Dfa) (s : Int) (k : Nat) : Int := if s < 0 then -1 else ((rw_ d s.toNat)[k]?).getD (-1)
def acI (d : Dfa) (s : Int) : Int := if s < 0 then -1 else ac_ d s.toNat
def fb (d : Dfa) (k : Nat) : UInt8 := UInt8.ofNat (firstS (pt d.parts k)).toNat
def hadP (ps : List Pr) (x y : Int) : Bool := ps.any fun p => decide (p.s = x) && decide (p.t = y)
def stepK (d : Dfa) (x : Pr) (ps : List Pr) (k : Nat) : List Pr := if hadP ps (nx d x.s k) (nx d x.t k) = true then ps else ps ++ [⟨nx d x.s k, nx d x.t k, x.w ++ [fb d k]⟩]
def roundP (d : Dfa) (x : Pr) (k : Nat) (ps : List Pr) : List Pr := (List.range' k (d.parts.length - k)).foldl (stepK d x) ps
theorem roundP_next {d : Dfa} {x : Pr} {k : Nat} {ps : List Pr} (h : k < d.parts.length) : roundP d x k ps = roundP d x (k + 1) (stepK d x ps k) := by
  unfold roundP
  rw [show d.parts.length - k = (d.parts.length - (k + 1)) + 1 by omega, List.range'_succ]; rfl
theorem roundP_end {d : Dfa} {x : Pr} {k : Nat} {ps : List Pr} (h : ¬ k < d.parts.length) : roundP d x k ps = ps := by
  unfold roundP
  rw [show d.parts.length - k = 0 by omega]; rfl
def twoGo (d : Dfa) : Nat → Nat → List Pr → Bool × List UInt8
  | 0, _, _ => (true, [])
  | f + 1, i, ps => match ps[i]? with
    | none => (true, [])
    | some x => if acI d x.s = acI d x.t then twoGo d f (i + 1) (roundP d x 0 ps) else (false, x.w)
def twoF (d : Dfa) (s t : Int) : Bool × List UInt8 := if dfaOk d = true ∧ (0 ≤ s ∧ s < d.rows.length) ∧ (0 ≤ t ∧ t < d.rows.length) then twoGo d 1682 0 [⟨s, t, []⟩] else (false, [])
structure PInv (d : Dfa) (ps : List Pr) : Prop where
  nod : ps.Pairwise fun p q => ¬ (p.s = q.s ∧ p.t = q.t)
  rng : ∀ p ∈ ps, (-1 ≤ p.s ∧ p.s < d.rows.length) ∧ (-1 ≤ p.t ∧ p.t < d.rows.length)
  wl : ∀ p ∈ ps, p.w.length < ps.length
theorem nodup_le : ∀ (N : Nat) (l : List Nat), l.Nodup → (∀ x ∈ l, x < N) → l.length ≤ N
  | 0, l, _, h => by
    cases l with
    | nil => simp
    | cons a l => exact absurd (h a (by simp)) (by omega)
  | N + 1, l, hn, h => by
    have h1 := nodup_le N (l.erase N) (hn.erase N) fun x hx => by
      obtain ⟨h2, h3⟩ := (hn.mem_erase_iff).1 hx
      have := h x h3; omega
    have := List.length_erase (l := l) (a := N)
    split at this <;> omega
theorem PInv.len {d : Dfa} (ho : DOk d) {ps : List Pr} (h : PInv d ps) : ps.length ≤ 1681 := by
  have hm := ho.most
  have := nodup_le 1681 (ps.map fun p => (p.s + 1).toNat * 41 + (p.t + 1).toNat) (by
    unfold List.Nodup
    rw [List.pairwise_map]
    refine h.nod.imp_of_mem fun {a b} ha hb hne e => hne ?_
    have h1 := h.rng a ha
    have h2 := h.rng b hb
    omega) (by
    intro x hx
    obtain ⟨p, hp, rfl⟩ := List.mem_map.1 hx
    have h1 := h.rng p hp
    omega)
  simpa using this
theorem nx_ok {d : Dfa} (ho : DOk d) {s : Int} {k : Nat} (h2 : s < d.rows.length) (hk : k < d.parts.length) : -1 ≤ nx d s k ∧ nx d s k < d.rows.length := by
  have := ho.one
  unfold nx
  split
  · omega
  · have hs : s.toNat < d.rows.length := by omega
    have hkr : k < (rw_ d s.toNat).length := by rw [ho.row _ hs]; exact hk
    rw [getI hkr]
    exact ho.ent _ hs _ (List.getElem_mem hkr)
theorem hadP_false {ps : List Pr} {x y : Int} (h : hadP ps x y = false) : ∀ p ∈ ps, ¬ (p.s = x ∧ p.t = y) := by
  intro p hp e
  unfold hadP at h
  rw [List.any_eq_false] at h
  have := h p hp
  simp [e] at this
theorem PInv.step {d : Dfa} (ho : DOk d) {ps : List Pr} (h : PInv d ps) {x : Pr} (hx : x ∈ ps) {k : Nat} (hk : k < d.parts.length) : PInv d (stepK d x ps k) := by
  unfold stepK
  cases c : hadP ps (nx d x.s k) (nx d x.t k)
  · have hh := hadP_false c
    have hr := h.rng x hx
    simp only [Bool.false_eq_true, if_false]
    refine ⟨?_, ?_, ?_⟩
    · rw [List.pairwise_append]
      refine ⟨h.nod, by simp, fun a ha b hb e => ?_⟩
      simp only [List.mem_singleton] at hb
      subst hb
      exact hh a ha e
    · intro p hp
      rcases List.mem_append.1 hp with hp | hp
      · exact h.rng p hp
      · simp only [List.mem_singleton] at hp
        subst hp
        exact ⟨nx_ok ho hr.1.2 hk, nx_ok ho hr.2.2 hk⟩
    · intro p hp
      rcases List.mem_append.1 hp with hp | hp
      · have := h.wl p hp; simp; omega
      · simp only [List.mem_singleton] at hp
        subst hp
        have := h.wl x hx; simp; omega
  · simpa using h
theorem stepK_at {d : Dfa} {x y : Pr} {ps : List Pr} {k i : Nat} (h : ps[i]? = some y) : (stepK d x ps k)[i]? = some y := by
  unfold stepK
  split
  · exact h
  · obtain ⟨hi, _⟩ := List.getElem?_eq_some_iff.1 h
    rw [List.getElem?_append_left hi]; exact h
theorem PInv.start {d : Dfa} {s t : Int} (hs : 0 ≤ s ∧ s < d.rows.length) (ht : 0 ≤ t ∧ t < d.rows.length) : PInv d [⟨s, t, []⟩] := by
  refine ⟨by simp, ?_, by simp⟩
  intro p hp
  simp only [List.mem_singleton] at hp
  subst hp
  constructor <;> simp <;> omega
theorem twoGo_next {d : Dfa} {f i : Nat} {ps : List Pr} {x : Pr} (h : ps[i]? = some x) : twoGo d (f + 1) i ps = if acI d x.s = acI d x.t then twoGo d f (i + 1) (roundP d x 0 ps) else (false, x.w) := by
  rw [twoGo, h]
theorem twoGo_end {d : Dfa} {f i : Nat} {ps : List Pr} (h : ¬ i < ps.length) : twoGo d f i ps = (true, []) := by
  cases f with
  | zero => rfl
  | succ f => rw [twoGo, List.getElem?_eq_none (by omega)]
/-- What the first byte of a part is. -/
theorem first_part {d : Dfa} (ho : DOk d) {k : Nat} (hk : k < d.parts.length) : ∃ b : Nat, b < 256 ∧ firstS (pt d.parts k) = b ∧ hasS (pt d.parts k) b = true := by
  have h := partsFrom_of ho.parts
  unfold partsFrom at h
  rw [List.all_eq_true] at h
  have hp := h k (by rw [List.mem_range'_1]; omega)
  simp only [partAt, headAt, Bool.and_eq_true, Bool.not_eq_true'] at hp
  obtain ⟨⟨⟨h1, h2⟩, _⟩, _⟩ := hp
  cases hpt : pt d.parts k with
  | nil => rw [hpt] at h2; simp at h2
  | cons x xs =>
    rw [hpt] at h1
    obtain ⟨a1, a2, a3⟩ := setOk_first h1
    refine ⟨x.1.toNat, by omega, by rw [firstS_head h1]; omega, ?_⟩
    simp [hasS]; left; omega
theorem next_first {d : Dfa} (ho : DOk d) {k s : Nat} (hk : k < d.parts.length) {b : Nat} (hb : firstS (pt d.parts k) = b) : nextF d s b = ((rw_ d s)[k]?).getD (-1) := by
  obtain ⟨c, hc, h1, h2⟩ := first_part ho hk
  have e : b = c := by omega
  subst e
  exact next_of_has (partsFrom_of ho.parts) hk hc h2
end Go.Proofs.Ytibeeohnjabhkaa.R

open Go Go.Proofs.Ytibeeohnjabhkaa.T
namespace Go.Proofs.Ytibeeohnjabhkaa.R
set_option maxHeartbeats 4000000
set_option maxRecDepth 100000
set_option linter.unusedSimpArgs false
set_option linter.unusedVariables false
attribute [local simp] bsV bsRows chunk fillT partsT appV makeV rowsOf cellsOf placeOf

theorem tc_l8Acc (d : Dfa) (ho : DOk d) (s : Int) (hlt : s < d.rows.length) : TC Try.prog 54 [.agg (encDfa d), .val (.int .i64 s)] [] (.val (.int .i64 (acI d s))) [] := by
  refine TC.enter Try.func54 rfl (by simp [Try.ntmps54]) rfl (tw_sound (ρ := [2]) ?_)
  rw [Try.ntmps54]
  by_cases c : s < 0
  · simp [c, acI]
  have h0 : 0 ≤ s := by omega
  have hn : s.toNat < d.acc.length := by rw [ho.acc]; omega
  have hi : s < d.acc.length := by omega
  have hr : ∀ h, d.acc[s.toNat]'h = ac_ d s.toNat := fun _ => (ac_eq hn).symm
  simp [c, acI, encDfa, h0, hn, hi, hr, encI]
theorem tc_l8To (d : Dfa) (hs : DSm d) (ho : DOk d) (s : Int) (b k : Nat) (hlt : s < d.rows.length) (hk : k < d.parts.length) (hb : firstS (pt d.parts k) = b) : TC Try.prog 56 [.agg (encDfa d), .val (.int .i64 s), .val (.int .i64 b)] [] (.val (.int .i64 (nx d s k))) [] := by
  refine TC.enter Try.func56 rfl (by simp [Try.ntmps56]) rfl (tw_sound (ρ := [3]) ?_)
  rw [Try.ntmps56]
  by_cases c : s < 0
  · simp [c, nx]
  have h0 : (s.toNat : Int) = s := by omega
  have hn : s.toNat < d.rows.length := by omega
  simp [c]
  have := tc_l7Next d hs ho s.toNat b hn
  rw [h0, next_first ho hk hb] at this
  refine TWoH.callV this callable_58 (by simp [encDfa]) (by simp) (by simp) (by simp) ?_
  simp [nx, c]
def encPs (p : Pr) : List TV := encI p.s
def encPt (p : Pr) : List TV := encI p.t
def encPw (p : Pr) : List TV := [.val (.string (bs p.w))]
theorem tc_sLeastTwo (d : Dfa) (hs : DSm d) (s t : Int) : TC Try.prog 22 [.agg (encDfa d), .val (.int .i64 s), .val (.int .i64 t)] [] (.tup [.val (.bool (twoF d s t).1), .val (.string (bs (twoF d s t).2))]) [] := by
  refine TC.enter Try.func22 rfl (by simp [Try.ntmps22]) rfl (tw_sound (ρ := [3]) ?_)
  rw [Try.ntmps22]
  simp
  refine TWoH.callV (tc_sDfaOk d hs) callable_13 (by simp) (by simp) (by simp) (by simp) ?_
  cases c1 : dfaOk d
  · have hr : twoF d s t = (false, []) := by simp [twoF, c1]
    simp [hr]
  have ho := dok_of c1
  have hmost := ho.most
  by_cases c2 : s < 0
  · have hr : twoF d s t = (false, []) := by unfold twoF; rw [if_neg (by omega)]
    simp [hr, c2]
  have c2' : 0 ≤ s := by omega
  by_cases c3 : (d.rows.length : Int) ≤ s
  · have hr : twoF d s t = (false, []) := by unfold twoF; rw [if_neg (by omega)]
    simp [hr, c2, c3, encDfa]
  have c3' : s < d.rows.length := by omega
  by_cases c4 : t < 0
  · have hr : twoF d s t = (false, []) := by unfold twoF; rw [if_neg (by omega)]
    simp [hr, c2, c3, c4, encDfa]
  have c4' : 0 ≤ t := by omega
  by_cases c5 : (d.rows.length : Int) ≤ t
  · have hr : twoF d s t = (false, []) := by unfold twoF; rw [if_neg (by omega)]
    simp [hr, c2, c3, c4, c5, encDfa]
  have c5' : t < d.rows.length := by omega
  have hr : twoF d s t = twoGo d 1682 0 [⟨s, t, []⟩] := by unfold twoF; rw [if_pos ⟨c1, ⟨c2', c3'⟩, ⟨c4', c5'⟩⟩]
  rw [hr]
  simp [c2, c3, c4, c5, c2', c3', c4', c5', encDfa]
  refine gall_intro fun ia hia => ?_
  simp
  refine gall_intro fun ib hib => ?_
  have nab : ¬ ib = ia := fun e => by rw [e] at hib; simp at hib
  have nba : ¬ ia = ib := fun e => nab e.symm
  simp [nab, nba]
  refine gall_intro fun ic hic => ?_
  have nac : ¬ ic = ia := fun e => by rw [e] at hic; simp [nab, nba] at hic
  have nbc : ¬ ic = ib := fun e => by rw [e] at hic; simp [nab, nba] at hic
  have nca : ¬ ia = ic := fun e => nac e.symm
  have ncb : ¬ ib = ic := fun e => nbc e.symm
  simp [nab, nba, nac, nbc, nca, ncb]
  refine TWcH.loop [3] (fun m st => ∃ (i : Nat) (ps : List Pr) (ia ib ic : Nat), i + m = 1682 ∧ PInv d ps ∧ twoGo d m i ps = twoGo d 1682 0 [⟨s, t, []⟩] ∧ st.σ 3 = .rptr (encDfa d) 0 ∧ st.σ 8 = .hd ia ∧ st.H ia = some (.own 3 (ps.map encPs)) ∧ st.σ 9 = .hd ib ∧ st.H ib = some (.own 3 (ps.map encPt)) ∧ st.σ 10 = .hd ic ∧ st.H ic = some (.own 9 (ps.map encPw)) ∧ ia ≠ ib ∧ ia ≠ ic ∧ ib ≠ ic ∧ st.σ 11 = .val (.int .i64 i)) 1682 ⟨0, [⟨s, t, []⟩], ia, ib, ic, by simp [encDfa, encPs, encPt, encPw, encI, nab, nba, nac, nbc, nca, ncb, PInv.start ⟨c2', c3'⟩ ⟨c4', c5'⟩]⟩ ?_
  clear nab nba nac nbc nca ncb hia hib hic
  clear ia ib ic
  rintro m ⟨σ, H⟩ ⟨i, ps, ia, ib, ic, him, hI, hG, h3, h8, hA, h9, hB, h10, hC, nab, nac, nbc, h11⟩
  simp only at h3 h8 hA h9 hB h10 hC h11
  have hlen := hI.len ho
  have nba : ¬ ib = ia := fun e => nab e.symm
  have nca : ¬ ic = ia := fun e => nac e.symm
  have ncb : ¬ ic = ib := fun e => nbc e.symm
  by_cases hi : i < ps.length
  · have hw : IntKind.i64.wrap ((i : Int) + 1) = i + 1 := wrapi (by omega)
    obtain ⟨x, hx⟩ : ∃ x, ps[i]? = some x := ⟨ps[i], getI hi⟩
    have hat : ∀ h, ps[i]'h = x := fun h => by rw [getI h] at hx; simpa using hx
    have hxm := List.mem_of_getElem? hx
    have hxr := hI.rng x hxm
    obtain ⟨m, rfl⟩ : ∃ m', m = m' + 1 := ⟨m - 1, by omega⟩
    rw [twoGo_next hx] at hG
    simp [-List.map_append, h3, h8, hA, h9, hB, h10, hC, h11, hi, nab, nac, nbc, nba, nca, ncb]
    refine TWcH.regionD (ρ := []) [0, 1, 2, 3, 4, 6, 7, 8, 9, 10, 5, 11, 12] 13 mixed (by kernel_rfl) ?_
    simp [-List.map_append, h3, h8, hA, h9, hB, h10, hC, h11, hi, hat, encPs, encPt, encI, encDfa]
    refine TWqH.callV (tc_l8Acc d ho x.s hxr.1.2) callable_54 (by simp [encDfa]) (by simp) (by simp) (by simp) ?_
    simp [-List.map_append, h3, h8, hA, h9, hB, h10, hC, h11, hi, hat, encPs, encPt, encI, encDfa]
    refine TWqH.callV (tc_l8Acc d ho x.t hxr.2.2) callable_54 (by simp [encDfa]) (by simp) (by simp) (by simp) ?_
    simp [-List.map_append, h3, h8, hA, h9, hB, h10, hC, h11, hi, hat, encPs, encPt, encI, encDfa]
    refine gif_intro (fun c6 => ?_) (fun c6 => ?_)
    case refine_2 =>
      rw [if_neg c6] at hG
      simp [c6]
      refine TWcH.regionD (ρ := []) [0, 1, 2, 3, 4, 5] 6 mixed (by kernel_rfl) ?_
      simp [-List.map_append, h3, h8, hA, h9, hB, h10, hC, h11, hi, hat, encPw, ← hG]
    rw [if_pos c6] at hG
    simp [-List.map_append, c6, h3, h8, hA, h9, hB, h10, hC, h11, hi, hat]
    refine TWcH.loop [3] (fun m' st => ∃ (k : Nat) (ps' : List Pr) (ia ib ic : Nat), k + m' = d.parts.length ∧ PInv d ps' ∧ ps'[i]? = some x ∧ roundP d x k ps' = roundP d x 0 ps ∧ st.σ 3 = .rptr (encDfa d) 0 ∧ st.σ 8 = .hd ia ∧ st.H ia = some (.own 3 (ps'.map encPs)) ∧ st.σ 9 = .hd ib ∧ st.H ib = some (.own 3 (ps'.map encPt)) ∧ st.σ 10 = .hd ic ∧ st.H ic = some (.own 9 (ps'.map encPw)) ∧ ia ≠ ib ∧ ia ≠ ic ∧ ib ≠ ic ∧ st.σ 11 = .val (.int .i64 i) ∧ st.σ 12 = .val (.int .i64 k)) d.parts.length ⟨0, ps, ia, ib, ic, by simp [h3, h8, hA, h9, hB, h10, hC, h11, nab, nac, nbc, hI, hx]⟩ ?_
    clear h3 h8 hA h9 hB h10 hC h11 nab nac nbc nba nca ncb
    clear ia ib ic σ H
    rintro m' ⟨σ, H⟩ ⟨k, ps', ia, ib, ic, hkm, hI', hx', hR, h3, h8, hA, h9, hB, h10, hC, nab, nac, nbc, h11, h12⟩
    simp only at h3 h8 hA h9 hB h10 hC h11 h12
    have hlen' := hI'.len ho
    have nba : ¬ ib = ia := fun e => nab e.symm
    have nca : ¬ ic = ia := fun e => nac e.symm
    have ncb : ¬ ic = ib := fun e => nbc e.symm
    have hpl := hs.parts
    have hi' : i < ps'.length := (List.getElem?_eq_some_iff.1 hx').1
    have hat' : ∀ h, ps'[i]'h = x := fun h => by rw [getI h] at hx'; simpa using hx'
    have hxm' := List.mem_of_getElem? hx'
    by_cases hk : k < d.parts.length
    · have hwk : IntKind.i64.wrap ((k : Int) + 1) = k + 1 := wrapi (by omega)
      have hp : ∀ h, d.parts[k]'h = pt d.parts k := fun _ => (pt_eq hk).symm
      have hpkl : (pt d.parts k).length ≤ 1048576 := by rw [pt_eq hk]; exact hs.part _ (List.getElem_mem hk)
      obtain ⟨b, hb, hfb, _⟩ := first_part ho hk
      rw [roundP_next hk] at hR
      simp [-List.map_append, h3, h8, hA, h9, hB, h10, hC, h11, h12, hk, encDfa, hp, encP]
      refine TWoH.callV (tc_sSetFirst (pt d.parts k) (by omega)) callable_55 (by simp) (by simp) (by simp) (by simp) ?_
      rw [hfb]
      simp [-List.map_append, h3, h8, hA, h9, hB, h10, hC, h11, h12, hk, encDfa]
      refine TWcH.regionD (ρ := []) [0, 1, 2, 3, 4, 5, 6, 7] 8 mixed (by kernel_rfl) ?_
      simp [-List.map_append, h3, h8, hA, h9, hB, h10, hC, h11, h12, hi', hat', encPs, encPt, encI, encDfa]
      refine TWqH.callV (tc_l8To d hs ho x.s b k hxr.1.2 hk hfb) callable_56 (by simp [encDfa]) (by simp) (by simp) (by simp) ?_
      simp [-List.map_append, h3, h8, hA, h9, hB, h10, hC, h11, h12, hi', hat', encPs, encPt, encI, encDfa]
      refine TWcH.regionD (ρ := []) [0, 1, 2, 3, 4, 5, 6, 7] 8 mixed (by kernel_rfl) ?_
      simp [-List.map_append, h3, h8, hA, h9, hB, h10, hC, h11, h12, hi', hat', encPs, encPt, encI, encDfa]
      refine TWqH.callV (tc_l8To d hs ho x.t b k hxr.2.2 hk hfb) callable_56 (by simp [encDfa]) (by simp) (by simp) (by simp) ?_
      simp [-List.map_append, h3, h8, hA, h9, hB, h10, hC, h11, h12, hi', hat', encPs, encPt, encI, encDfa]
      have hX := nx_ok ho (k := k) hxr.1.2 hk
      have hY := nx_ok ho (k := k) hxr.2.2 hk
      have hstep := hI'.step ho hxm' hk
      have hstep2 : (stepK d x ps' k)[i]? = some x := stepK_at hx'
      have hsd : stepK d x ps' k = if hadP ps' (nx d x.s k) (nx d x.t k) = true then ps' else ps' ++ [⟨nx d x.s k, nx d x.t k, x.w ++ [fb d k]⟩] := rfl
      have hfb2 : fb d k = UInt8.ofNat b := by unfold fb; rw [hfb]; simp
      rw [hfb2] at hsd
      generalize stepK d x ps' k = PS at hsd hstep hstep2 hR
      generalize nx d x.s k = X at hX hsd
      generalize nx d x.t k = Y at hY hsd
      refine TWcH.loop [3] (fun m'' st => ∃ (j : Nat) (q : Bool), j + m'' = ps'.length ∧ st.σ 3 = .rptr (encDfa d) 0 ∧ st.σ 8 = .hd ia ∧ st.H ia = some (.own 3 (ps'.map encPs)) ∧ st.σ 9 = .hd ib ∧ st.H ib = some (.own 3 (ps'.map encPt)) ∧ st.σ 10 = .hd ic ∧ st.H ic = some (.own 9 (ps'.map encPw)) ∧ st.σ 11 = .val (.int .i64 i) ∧ st.σ 12 = .val (.int .i64 k) ∧ st.σ 13 = .val (.int .i64 b) ∧ st.σ 14 = .val (.int .i64 X) ∧ st.σ 15 = .val (.int .i64 Y) ∧ st.σ 16 = .val (.bool q) ∧ st.σ 17 = .val (.int .i64 j) ∧ hadP ps' X Y = (q || hadP (ps'.drop j) X Y)) ps'.length ⟨0, false, by simp [h3, h8, hA, h9, hB, h10, hC, h11, h12, encDfa]⟩ ?_
      clear h3 h8 hA h9 hB h10 hC h11 h12
      clear σ H
      rintro m'' ⟨σ, H⟩ ⟨j, q, hjm, h3, h8, hA, h9, hB, h10, hC, h11, h12, h13, h14, h15, h16, h17, hq⟩
      simp only at h3 h8 hA h9 hB h10 hC h11 h12 h13 h14 h15 h16 h17
      by_cases hj : j < ps'.length
      · have hwj : IntKind.i64.wrap ((j : Int) + 1) = j + 1 := wrapi (by omega)
        rw [List.drop_eq_getElem_cons hj] at hq
        simp only [hadP, List.any_cons] at hq
        cases q
        case true =>
          simp [h3, h8, hA, h9, hB, h10, hC, h11, h12, h13, h14, h15, h16, h17, hj, encPs, encPt, encI, hwj]
          exact ⟨m'' - 1, by omega, j + 1, by omega, by omega, by simp only [hadP]; rw [hq]; simp⟩
        by_cases e1 : ps'[j].s = X <;> by_cases e2 : ps'[j].t = Y
        all_goals
          simp [h3, h8, hA, h9, hB, h10, hC, h11, h12, h13, h14, h15, h16, h17, hj, encPs, encPt, encI, hwj, e1, e2]
          exact ⟨m'' - 1, by omega, j + 1, by omega, by omega, by simp only [hadP]; rw [hq]; simp [e1, e2]⟩
      · obtain rfl : j = ps'.length := by omega
        simp only [List.drop_length, hadP, List.any_nil, Bool.or_false] at hq
        have hq' : hadP ps' X Y = q := hq
        rw [hq'] at hsd
        cases q
        case true =>
          simp only [if_true] at hsd
          subst hsd
          simp [-List.map_append, h3, h8, hA, h9, hB, h10, hC, h11, h12, h13, h14, h15, h16, h17, hwk, encDfa]
          exact ⟨m' - 1, by omega, k + 1, by omega, PS, hstep, hstep2, hR, rfl, rfl, rfl, nab, nac, nbc, by omega⟩
        simp only [Bool.false_eq_true, if_false] at hsd
        have k1 : (ps'.length + 1) * 8 ≤ 140737488355328 := by omega
        have k2 : ps'.length ≤ 9223372036854775806 := by omega
        have k3 : (ps'.length + 1) * 16 ≤ 140737488355328 := by omega
        simp [-List.map_append, h3, h8, hA, h9, hB, h10, hC, h11, h12, h13, h14, h15, h16, h17, k1, k2]
        have hwl := hI'.wl x hxm'
        have kx : x.w.length ≤ 9223372036854775806 := by omega
        have kx2 : ¬ (9223372036854775807 : Int) < x.w.length + 1 := by omega
        have kb2 : (b : Int).toNat = b := by omega
        have kb : IntKind.u8.wrap (b : Int) = b := by unfold IntKind.wrap; simp [IntKind.bits, IntKind.signed]; omega
        refine gall_intro fun i1 hi1 => ?_
        have f_i1_ia : ¬ i1 = ia := fun e => by rw [e] at hi1; simp [h3, h8, hA, h9, hB, h10, hC, h11, h12, h13, h14, h15, h16, h17, k1, k2, k3, delo, del, nab, nac, nbc, nba, nca, ncb, hA] at hi1
        have g_i1_ia : ¬ ia = i1 := fun e => f_i1_ia e.symm
        have f_i1_ib : ¬ i1 = ib := fun e => by rw [e] at hi1; simp [h3, h8, hA, h9, hB, h10, hC, h11, h12, h13, h14, h15, h16, h17, k1, k2, k3, delo, del, nab, nac, nbc, nba, nca, ncb, hB] at hi1
        have g_i1_ib : ¬ ib = i1 := fun e => f_i1_ib e.symm
        have f_i1_ic : ¬ i1 = ic := fun e => by rw [e] at hi1; simp [h3, h8, hA, h9, hB, h10, hC, h11, h12, h13, h14, h15, h16, h17, k1, k2, k3, delo, del, nab, nac, nbc, nba, nca, ncb, hC] at hi1
        have g_i1_ic : ¬ ic = i1 := fun e => f_i1_ic e.symm
        simp [-List.map_append, h3, h8, hA, h9, hB, h10, hC, h11, h12, h13, h14, h15, h16, h17, k1, k2, k3, delo, del, nab, nac, nbc, nba, nca, ncb, f_i1_ia, g_i1_ia, f_i1_ib, g_i1_ib, f_i1_ic, g_i1_ic, hi', hat', encPw, kx, kx2, kb, kb2]
        refine gall_intro fun i2 hi2 => ?_
        have f_i2_i1 : ¬ i2 = i1 := fun e => by rw [e] at hi2; simp [h3, h8, hA, h9, hB, h10, hC, h11, h12, h13, h14, h15, h16, h17, k1, k2, k3, delo, del, nab, nac, nbc, nba, nca, ncb, f_i1_ia, g_i1_ia, f_i1_ib, g_i1_ib, f_i1_ic, g_i1_ic] at hi2
        have g_i2_i1 : ¬ i1 = i2 := fun e => f_i2_i1 e.symm
        have f_i2_ib : ¬ i2 = ib := fun e => by rw [e] at hi2; simp [h3, h8, hA, h9, hB, h10, hC, h11, h12, h13, h14, h15, h16, h17, k1, k2, k3, delo, del, nab, nac, nbc, nba, nca, ncb, f_i1_ia, g_i1_ia, f_i1_ib, g_i1_ib, f_i1_ic, g_i1_ic, hB] at hi2
        have g_i2_ib : ¬ ib = i2 := fun e => f_i2_ib e.symm
        have f_i2_ic : ¬ i2 = ic := fun e => by rw [e] at hi2; simp [h3, h8, hA, h9, hB, h10, hC, h11, h12, h13, h14, h15, h16, h17, k1, k2, k3, delo, del, nab, nac, nbc, nba, nca, ncb, f_i1_ia, g_i1_ia, f_i1_ib, g_i1_ib, f_i1_ic, g_i1_ic, hC] at hi2
        have g_i2_ic : ¬ ic = i2 := fun e => f_i2_ic e.symm
        simp [-List.map_append, h3, h8, hA, h9, hB, h10, hC, h11, h12, h13, h14, h15, h16, h17, k1, k2, k3, delo, del, nab, nac, nbc, nba, nca, ncb, f_i1_ia, g_i1_ia, f_i1_ib, g_i1_ib, f_i1_ic, g_i1_ic, f_i2_i1, g_i2_i1, f_i2_ib, g_i2_ib, f_i2_ic, g_i2_ic, hi', hat', encPw, kx, kx2, kb, kb2]
        refine gall_intro fun i3 hi3 => ?_
        have f_i3_i1 : ¬ i3 = i1 := fun e => by rw [e] at hi3; simp [h3, h8, hA, h9, hB, h10, hC, h11, h12, h13, h14, h15, h16, h17, k1, k2, k3, delo, del, nab, nac, nbc, nba, nca, ncb, f_i1_ia, g_i1_ia, f_i1_ib, g_i1_ib, f_i1_ic, g_i1_ic, f_i2_i1, g_i2_i1, f_i2_ib, g_i2_ib, f_i2_ic, g_i2_ic] at hi3
        have g_i3_i1 : ¬ i1 = i3 := fun e => f_i3_i1 e.symm
        have f_i3_i2 : ¬ i3 = i2 := fun e => by rw [e] at hi3; simp [h3, h8, hA, h9, hB, h10, hC, h11, h12, h13, h14, h15, h16, h17, k1, k2, k3, delo, del, nab, nac, nbc, nba, nca, ncb, f_i1_ia, g_i1_ia, f_i1_ib, g_i1_ib, f_i1_ic, g_i1_ic, f_i2_i1, g_i2_i1, f_i2_ib, g_i2_ib, f_i2_ic, g_i2_ic] at hi3
        have g_i3_i2 : ¬ i2 = i3 := fun e => f_i3_i2 e.symm
        have f_i3_ib : ¬ i3 = ib := fun e => by rw [e] at hi3; simp [h3, h8, hA, h9, hB, h10, hC, h11, h12, h13, h14, h15, h16, h17, k1, k2, k3, delo, del, nab, nac, nbc, nba, nca, ncb, f_i1_ia, g_i1_ia, f_i1_ib, g_i1_ib, f_i1_ic, g_i1_ic, f_i2_i1, g_i2_i1, f_i2_ib, g_i2_ib, f_i2_ic, g_i2_ic, hB] at hi3
        have g_i3_ib : ¬ ib = i3 := fun e => f_i3_ib e.symm
        have f_i3_ic : ¬ i3 = ic := fun e => by rw [e] at hi3; simp [h3, h8, hA, h9, hB, h10, hC, h11, h12, h13, h14, h15, h16, h17, k1, k2, k3, delo, del, nab, nac, nbc, nba, nca, ncb, f_i1_ia, g_i1_ia, f_i1_ib, g_i1_ib, f_i1_ic, g_i1_ic, f_i2_i1, g_i2_i1, f_i2_ib, g_i2_ib, f_i2_ic, g_i2_ic, hC] at hi3
        have g_i3_ic : ¬ ic = i3 := fun e => f_i3_ic e.symm
        simp [-List.map_append, h3, h8, hA, h9, hB, h10, hC, h11, h12, h13, h14, h15, h16, h17, k1, k2, k3, delo, del, nab, nac, nbc, nba, nca, ncb, f_i1_ia, g_i1_ia, f_i1_ib, g_i1_ib, f_i1_ic, g_i1_ic, f_i2_i1, g_i2_i1, f_i2_ib, g_i2_ib, f_i2_ic, g_i2_ic, f_i3_i1, g_i3_i1, f_i3_i2, g_i3_i2, f_i3_ib, g_i3_ib, f_i3_ic, g_i3_ic, hi', hat', encPw, kx, kx2, kb, kb2]
        refine gall_intro fun i4 hi4 => ?_
        have f_i4_i1 : ¬ i4 = i1 := fun e => by rw [e] at hi4; simp [h3, h8, hA, h9, hB, h10, hC, h11, h12, h13, h14, h15, h16, h17, k1, k2, k3, delo, del, nab, nac, nbc, nba, nca, ncb, f_i1_ia, g_i1_ia, f_i1_ib, g_i1_ib, f_i1_ic, g_i1_ic, f_i2_i1, g_i2_i1, f_i2_ib, g_i2_ib, f_i2_ic, g_i2_ic, f_i3_i1, g_i3_i1, f_i3_i2, g_i3_i2, f_i3_ib, g_i3_ib, f_i3_ic, g_i3_ic] at hi4
        have g_i4_i1 : ¬ i1 = i4 := fun e => f_i4_i1 e.symm
        have f_i4_i2 : ¬ i4 = i2 := fun e => by rw [e] at hi4; simp [h3, h8, hA, h9, hB, h10, hC, h11, h12, h13, h14, h15, h16, h17, k1, k2, k3, delo, del, nab, nac, nbc, nba, nca, ncb, f_i1_ia, g_i1_ia, f_i1_ib, g_i1_ib, f_i1_ic, g_i1_ic, f_i2_i1, g_i2_i1, f_i2_ib, g_i2_ib, f_i2_ic, g_i2_ic, f_i3_i1, g_i3_i1, f_i3_i2, g_i3_i2, f_i3_ib, g_i3_ib, f_i3_ic, g_i3_ic] at hi4
        have g_i4_i2 : ¬ i2 = i4 := fun e => f_i4_i2 e.symm
        have f_i4_i3 : ¬ i4 = i3 := fun e => by rw [e] at hi4; simp [h3, h8, hA, h9, hB, h10, hC, h11, h12, h13, h14, h15, h16, h17, k1, k2, k3, delo, del, nab, nac, nbc, nba, nca, ncb, f_i1_ia, g_i1_ia, f_i1_ib, g_i1_ib, f_i1_ic, g_i1_ic, f_i2_i1, g_i2_i1, f_i2_ib, g_i2_ib, f_i2_ic, g_i2_ic, f_i3_i1, g_i3_i1, f_i3_i2, g_i3_i2, f_i3_ib, g_i3_ib, f_i3_ic, g_i3_ic] at hi4
        have g_i4_i3 : ¬ i3 = i4 := fun e => f_i4_i3 e.symm
        have f_i4_ic : ¬ i4 = ic := fun e => by rw [e] at hi4; simp [h3, h8, hA, h9, hB, h10, hC, h11, h12, h13, h14, h15, h16, h17, k1, k2, k3, delo, del, nab, nac, nbc, nba, nca, ncb, f_i1_ia, g_i1_ia, f_i1_ib, g_i1_ib, f_i1_ic, g_i1_ic, f_i2_i1, g_i2_i1, f_i2_ib, g_i2_ib, f_i2_ic, g_i2_ic, f_i3_i1, g_i3_i1, f_i3_i2, g_i3_i2, f_i3_ib, g_i3_ib, f_i3_ic, g_i3_ic, hC] at hi4
        have g_i4_ic : ¬ ic = i4 := fun e => f_i4_ic e.symm
        simp [-List.map_append, h3, h8, hA, h9, hB, h10, hC, h11, h12, h13, h14, h15, h16, h17, k1, k2, k3, delo, del, nab, nac, nbc, nba, nca, ncb, f_i1_ia, g_i1_ia, f_i1_ib, g_i1_ib, f_i1_ic, g_i1_ic, f_i2_i1, g_i2_i1, f_i2_ib, g_i2_ib, f_i2_ic, g_i2_ic, f_i3_i1, g_i3_i1, f_i3_i2, g_i3_i2, f_i3_ib, g_i3_ib, f_i3_ic, g_i3_ic, f_i4_i1, g_i4_i1, f_i4_i2, g_i4_i2, f_i4_i3, g_i4_i3, f_i4_ic, g_i4_ic, hi', hat', encPw, kx, kx2, kb, kb2]
        refine TWcH.regionD (ρ := []) [0, 1, 2, 3, 4, 5, 6, 7, 8, 9, 10, 11, 12] 13 mixed (by kernel_rfl) ?_
        simp [-List.map_append, h3, h8, hA, h9, hB, h10, hC, h11, h12, h13, h14, h15, h16, h17, k1, k2, k3, delo, del, nab, nac, nbc, nba, nca, ncb, f_i1_ia, g_i1_ia, f_i1_ib, g_i1_ib, f_i1_ic, g_i1_ic, f_i2_i1, g_i2_i1, f_i2_ib, g_i2_ib, f_i2_ic, g_i2_ic, f_i3_i1, g_i3_i1, f_i3_i2, g_i3_i2, f_i3_ib, g_i3_ib, f_i3_ic, g_i3_ic, f_i4_i1, g_i4_i1, f_i4_i2, g_i4_i2, f_i4_i3, g_i4_i3, f_i4_ic, g_i4_ic, hi', hat', encPw, kx, kb, kx2, kb2]
        refine gall_intro fun i5 hi5 => ?_
        have f_i5_i1 : ¬ i5 = i1 := fun e => by rw [e] at hi5; simp [h3, h8, hA, h9, hB, h10, hC, h11, h12, h13, h14, h15, h16, h17, k1, k2, k3, delo, del, nab, nac, nbc, nba, nca, ncb, f_i1_ia, g_i1_ia, f_i1_ib, g_i1_ib, f_i1_ic, g_i1_ic, f_i2_i1, g_i2_i1, f_i2_ib, g_i2_ib, f_i2_ic, g_i2_ic, f_i3_i1, g_i3_i1, f_i3_i2, g_i3_i2, f_i3_ib, g_i3_ib, f_i3_ic, g_i3_ic, f_i4_i1, g_i4_i1, f_i4_i2, g_i4_i2, f_i4_i3, g_i4_i3, f_i4_ic, g_i4_ic] at hi5
        have g_i5_i1 : ¬ i1 = i5 := fun e => f_i5_i1 e.symm
        have f_i5_i2 : ¬ i5 = i2 := fun e => by rw [e] at hi5; simp [h3, h8, hA, h9, hB, h10, hC, h11, h12, h13, h14, h15, h16, h17, k1, k2, k3, delo, del, nab, nac, nbc, nba, nca, ncb, f_i1_ia, g_i1_ia, f_i1_ib, g_i1_ib, f_i1_ic, g_i1_ic, f_i2_i1, g_i2_i1, f_i2_ib, g_i2_ib, f_i2_ic, g_i2_ic, f_i3_i1, g_i3_i1, f_i3_i2, g_i3_i2, f_i3_ib, g_i3_ib, f_i3_ic, g_i3_ic, f_i4_i1, g_i4_i1, f_i4_i2, g_i4_i2, f_i4_i3, g_i4_i3, f_i4_ic, g_i4_ic] at hi5
        have g_i5_i2 : ¬ i2 = i5 := fun e => f_i5_i2 e.symm
        have f_i5_i3 : ¬ i5 = i3 := fun e => by rw [e] at hi5; simp [h3, h8, hA, h9, hB, h10, hC, h11, h12, h13, h14, h15, h16, h17, k1, k2, k3, delo, del, nab, nac, nbc, nba, nca, ncb, f_i1_ia, g_i1_ia, f_i1_ib, g_i1_ib, f_i1_ic, g_i1_ic, f_i2_i1, g_i2_i1, f_i2_ib, g_i2_ib, f_i2_ic, g_i2_ic, f_i3_i1, g_i3_i1, f_i3_i2, g_i3_i2, f_i3_ib, g_i3_ib, f_i3_ic, g_i3_ic, f_i4_i1, g_i4_i1, f_i4_i2, g_i4_i2, f_i4_i3, g_i4_i3, f_i4_ic, g_i4_ic] at hi5
        have g_i5_i3 : ¬ i3 = i5 := fun e => f_i5_i3 e.symm
        have f_i5_i4 : ¬ i5 = i4 := fun e => by rw [e] at hi5; simp [h3, h8, hA, h9, hB, h10, hC, h11, h12, h13, h14, h15, h16, h17, k1, k2, k3, delo, del, nab, nac, nbc, nba, nca, ncb, f_i1_ia, g_i1_ia, f_i1_ib, g_i1_ib, f_i1_ic, g_i1_ic, f_i2_i1, g_i2_i1, f_i2_ib, g_i2_ib, f_i2_ic, g_i2_ic, f_i3_i1, g_i3_i1, f_i3_i2, g_i3_i2, f_i3_ib, g_i3_ib, f_i3_ic, g_i3_ic, f_i4_i1, g_i4_i1, f_i4_i2, g_i4_i2, f_i4_i3, g_i4_i3, f_i4_ic, g_i4_ic] at hi5
        have g_i5_i4 : ¬ i4 = i5 := fun e => f_i5_i4 e.symm
        have f_i5_ic : ¬ i5 = ic := fun e => by rw [e] at hi5; simp [h3, h8, hA, h9, hB, h10, hC, h11, h12, h13, h14, h15, h16, h17, k1, k2, k3, delo, del, nab, nac, nbc, nba, nca, ncb, f_i1_ia, g_i1_ia, f_i1_ib, g_i1_ib, f_i1_ic, g_i1_ic, f_i2_i1, g_i2_i1, f_i2_ib, g_i2_ib, f_i2_ic, g_i2_ic, f_i3_i1, g_i3_i1, f_i3_i2, g_i3_i2, f_i3_ib, g_i3_ib, f_i3_ic, g_i3_ic, f_i4_i1, g_i4_i1, f_i4_i2, g_i4_i2, f_i4_i3, g_i4_i3, f_i4_ic, g_i4_ic, hC] at hi5
        have g_i5_ic : ¬ ic = i5 := fun e => f_i5_ic e.symm
        simp [-List.map_append, h3, h8, hA, h9, hB, h10, hC, h11, h12, h13, h14, h15, h16, h17, k1, k2, k3, delo, del, nab, nac, nbc, nba, nca, ncb, f_i1_ia, g_i1_ia, f_i1_ib, g_i1_ib, f_i1_ic, g_i1_ic, f_i2_i1, g_i2_i1, f_i2_ib, g_i2_ib, f_i2_ic, g_i2_ic, f_i3_i1, g_i3_i1, f_i3_i2, g_i3_i2, f_i3_ib, g_i3_ib, f_i3_ic, g_i3_ic, f_i4_i1, g_i4_i1, f_i4_i2, g_i4_i2, f_i4_i3, g_i4_i3, f_i4_ic, g_i4_ic, f_i5_i1, g_i5_i1, f_i5_i2, g_i5_i2, f_i5_i3, g_i5_i3, f_i5_i4, g_i5_i4, f_i5_ic, g_i5_ic, hi', hat', encPw, kx, kx2, kb, kb2]
        refine gall_intro fun i6 hi6 => ?_
        have f_i6_i1 : ¬ i6 = i1 := fun e => by rw [e] at hi6; simp [h3, h8, hA, h9, hB, h10, hC, h11, h12, h13, h14, h15, h16, h17, k1, k2, k3, delo, del, nab, nac, nbc, nba, nca, ncb, f_i1_ia, g_i1_ia, f_i1_ib, g_i1_ib, f_i1_ic, g_i1_ic, f_i2_i1, g_i2_i1, f_i2_ib, g_i2_ib, f_i2_ic, g_i2_ic, f_i3_i1, g_i3_i1, f_i3_i2, g_i3_i2, f_i3_ib, g_i3_ib, f_i3_ic, g_i3_ic, f_i4_i1, g_i4_i1, f_i4_i2, g_i4_i2, f_i4_i3, g_i4_i3, f_i4_ic, g_i4_ic, f_i5_i1, g_i5_i1, f_i5_i2, g_i5_i2, f_i5_i3, g_i5_i3, f_i5_i4, g_i5_i4, f_i5_ic, g_i5_ic] at hi6
        have g_i6_i1 : ¬ i1 = i6 := fun e => f_i6_i1 e.symm
        have f_i6_i2 : ¬ i6 = i2 := fun e => by rw [e] at hi6; simp [h3, h8, hA, h9, hB, h10, hC, h11, h12, h13, h14, h15, h16, h17, k1, k2, k3, delo, del, nab, nac, nbc, nba, nca, ncb, f_i1_ia, g_i1_ia, f_i1_ib, g_i1_ib, f_i1_ic, g_i1_ic, f_i2_i1, g_i2_i1, f_i2_ib, g_i2_ib, f_i2_ic, g_i2_ic, f_i3_i1, g_i3_i1, f_i3_i2, g_i3_i2, f_i3_ib, g_i3_ib, f_i3_ic, g_i3_ic, f_i4_i1, g_i4_i1, f_i4_i2, g_i4_i2, f_i4_i3, g_i4_i3, f_i4_ic, g_i4_ic, f_i5_i1, g_i5_i1, f_i5_i2, g_i5_i2, f_i5_i3, g_i5_i3, f_i5_i4, g_i5_i4, f_i5_ic, g_i5_ic] at hi6
        have g_i6_i2 : ¬ i2 = i6 := fun e => f_i6_i2 e.symm
        have f_i6_i3 : ¬ i6 = i3 := fun e => by rw [e] at hi6; simp [h3, h8, hA, h9, hB, h10, hC, h11, h12, h13, h14, h15, h16, h17, k1, k2, k3, delo, del, nab, nac, nbc, nba, nca, ncb, f_i1_ia, g_i1_ia, f_i1_ib, g_i1_ib, f_i1_ic, g_i1_ic, f_i2_i1, g_i2_i1, f_i2_ib, g_i2_ib, f_i2_ic, g_i2_ic, f_i3_i1, g_i3_i1, f_i3_i2, g_i3_i2, f_i3_ib, g_i3_ib, f_i3_ic, g_i3_ic, f_i4_i1, g_i4_i1, f_i4_i2, g_i4_i2, f_i4_i3, g_i4_i3, f_i4_ic, g_i4_ic, f_i5_i1, g_i5_i1, f_i5_i2, g_i5_i2, f_i5_i3, g_i5_i3, f_i5_i4, g_i5_i4, f_i5_ic, g_i5_ic] at hi6
        have g_i6_i3 : ¬ i3 = i6 := fun e => f_i6_i3 e.symm
        have f_i6_i4 : ¬ i6 = i4 := fun e => by rw [e] at hi6; simp [h3, h8, hA, h9, hB, h10, hC, h11, h12, h13, h14, h15, h16, h17, k1, k2, k3, delo, del, nab, nac, nbc, nba, nca, ncb, f_i1_ia, g_i1_ia, f_i1_ib, g_i1_ib, f_i1_ic, g_i1_ic, f_i2_i1, g_i2_i1, f_i2_ib, g_i2_ib, f_i2_ic, g_i2_ic, f_i3_i1, g_i3_i1, f_i3_i2, g_i3_i2, f_i3_ib, g_i3_ib, f_i3_ic, g_i3_ic, f_i4_i1, g_i4_i1, f_i4_i2, g_i4_i2, f_i4_i3, g_i4_i3, f_i4_ic, g_i4_ic, f_i5_i1, g_i5_i1, f_i5_i2, g_i5_i2, f_i5_i3, g_i5_i3, f_i5_i4, g_i5_i4, f_i5_ic, g_i5_ic] at hi6
        have g_i6_i4 : ¬ i4 = i6 := fun e => f_i6_i4 e.symm
        have f_i6_i5 : ¬ i6 = i5 := fun e => by rw [e] at hi6; simp [h3, h8, hA, h9, hB, h10, hC, h11, h12, h13, h14, h15, h16, h17, k1, k2, k3, delo, del, nab, nac, nbc, nba, nca, ncb, f_i1_ia, g_i1_ia, f_i1_ib, g_i1_ib, f_i1_ic, g_i1_ic, f_i2_i1, g_i2_i1, f_i2_ib, g_i2_ib, f_i2_ic, g_i2_ic, f_i3_i1, g_i3_i1, f_i3_i2, g_i3_i2, f_i3_ib, g_i3_ib, f_i3_ic, g_i3_ic, f_i4_i1, g_i4_i1, f_i4_i2, g_i4_i2, f_i4_i3, g_i4_i3, f_i4_ic, g_i4_ic, f_i5_i1, g_i5_i1, f_i5_i2, g_i5_i2, f_i5_i3, g_i5_i3, f_i5_i4, g_i5_i4, f_i5_ic, g_i5_ic] at hi6
        have g_i6_i5 : ¬ i5 = i6 := fun e => f_i6_i5 e.symm
        have f_i6_ic : ¬ i6 = ic := fun e => by rw [e] at hi6; simp [h3, h8, hA, h9, hB, h10, hC, h11, h12, h13, h14, h15, h16, h17, k1, k2, k3, delo, del, nab, nac, nbc, nba, nca, ncb, f_i1_ia, g_i1_ia, f_i1_ib, g_i1_ib, f_i1_ic, g_i1_ic, f_i2_i1, g_i2_i1, f_i2_ib, g_i2_ib, f_i2_ic, g_i2_ic, f_i3_i1, g_i3_i1, f_i3_i2, g_i3_i2, f_i3_ib, g_i3_ib, f_i3_ic, g_i3_ic, f_i4_i1, g_i4_i1, f_i4_i2, g_i4_i2, f_i4_i3, g_i4_i3, f_i4_ic, g_i4_ic, f_i5_i1, g_i5_i1, f_i5_i2, g_i5_i2, f_i5_i3, g_i5_i3, f_i5_i4, g_i5_i4, f_i5_ic, g_i5_ic, hC] at hi6
        have g_i6_ic : ¬ ic = i6 := fun e => f_i6_ic e.symm
        simp [-List.map_append, h3, h8, hA, h9, hB, h10, hC, h11, h12, h13, h14, h15, h16, h17, k1, k2, k3, delo, del, nab, nac, nbc, nba, nca, ncb, f_i1_ia, g_i1_ia, f_i1_ib, g_i1_ib, f_i1_ic, g_i1_ic, f_i2_i1, g_i2_i1, f_i2_ib, g_i2_ib, f_i2_ic, g_i2_ic, f_i3_i1, g_i3_i1, f_i3_i2, g_i3_i2, f_i3_ib, g_i3_ib, f_i3_ic, g_i3_ic, f_i4_i1, g_i4_i1, f_i4_i2, g_i4_i2, f_i4_i3, g_i4_i3, f_i4_ic, g_i4_ic, f_i5_i1, g_i5_i1, f_i5_i2, g_i5_i2, f_i5_i3, g_i5_i3, f_i5_i4, g_i5_i4, f_i5_ic, g_i5_ic, f_i6_i1, g_i6_i1, f_i6_i2, g_i6_i2, f_i6_i3, g_i6_i3, f_i6_i4, g_i6_i4, f_i6_i5, g_i6_i5, f_i6_ic, g_i6_ic, hi', hat', encPw, kx, kx2, kb, kb2]
        refine gall_intro fun i7 hi7 => ?_
        have f_i7_i1 : ¬ i7 = i1 := fun e => by rw [e] at hi7; simp [h3, h8, hA, h9, hB, h10, hC, h11, h12, h13, h14, h15, h16, h17, k1, k2, k3, delo, del, nab, nac, nbc, nba, nca, ncb, f_i1_ia, g_i1_ia, f_i1_ib, g_i1_ib, f_i1_ic, g_i1_ic, f_i2_i1, g_i2_i1, f_i2_ib, g_i2_ib, f_i2_ic, g_i2_ic, f_i3_i1, g_i3_i1, f_i3_i2, g_i3_i2, f_i3_ib, g_i3_ib, f_i3_ic, g_i3_ic, f_i4_i1, g_i4_i1, f_i4_i2, g_i4_i2, f_i4_i3, g_i4_i3, f_i4_ic, g_i4_ic, f_i5_i1, g_i5_i1, f_i5_i2, g_i5_i2, f_i5_i3, g_i5_i3, f_i5_i4, g_i5_i4, f_i5_ic, g_i5_ic, f_i6_i1, g_i6_i1, f_i6_i2, g_i6_i2, f_i6_i3, g_i6_i3, f_i6_i4, g_i6_i4, f_i6_i5, g_i6_i5, f_i6_ic, g_i6_ic] at hi7
        have g_i7_i1 : ¬ i1 = i7 := fun e => f_i7_i1 e.symm
        have f_i7_i2 : ¬ i7 = i2 := fun e => by rw [e] at hi7; simp [h3, h8, hA, h9, hB, h10, hC, h11, h12, h13, h14, h15, h16, h17, k1, k2, k3, delo, del, nab, nac, nbc, nba, nca, ncb, f_i1_ia, g_i1_ia, f_i1_ib, g_i1_ib, f_i1_ic, g_i1_ic, f_i2_i1, g_i2_i1, f_i2_ib, g_i2_ib, f_i2_ic, g_i2_ic, f_i3_i1, g_i3_i1, f_i3_i2, g_i3_i2, f_i3_ib, g_i3_ib, f_i3_ic, g_i3_ic, f_i4_i1, g_i4_i1, f_i4_i2, g_i4_i2, f_i4_i3, g_i4_i3, f_i4_ic, g_i4_ic, f_i5_i1, g_i5_i1, f_i5_i2, g_i5_i2, f_i5_i3, g_i5_i3, f_i5_i4, g_i5_i4, f_i5_ic, g_i5_ic, f_i6_i1, g_i6_i1, f_i6_i2, g_i6_i2, f_i6_i3, g_i6_i3, f_i6_i4, g_i6_i4, f_i6_i5, g_i6_i5, f_i6_ic, g_i6_ic] at hi7
        have g_i7_i2 : ¬ i2 = i7 := fun e => f_i7_i2 e.symm
        have f_i7_i3 : ¬ i7 = i3 := fun e => by rw [e] at hi7; simp [h3, h8, hA, h9, hB, h10, hC, h11, h12, h13, h14, h15, h16, h17, k1, k2, k3, delo, del, nab, nac, nbc, nba, nca, ncb, f_i1_ia, g_i1_ia, f_i1_ib, g_i1_ib, f_i1_ic, g_i1_ic, f_i2_i1, g_i2_i1, f_i2_ib, g_i2_ib, f_i2_ic, g_i2_ic, f_i3_i1, g_i3_i1, f_i3_i2, g_i3_i2, f_i3_ib, g_i3_ib, f_i3_ic, g_i3_ic, f_i4_i1, g_i4_i1, f_i4_i2, g_i4_i2, f_i4_i3, g_i4_i3, f_i4_ic, g_i4_ic, f_i5_i1, g_i5_i1, f_i5_i2, g_i5_i2, f_i5_i3, g_i5_i3, f_i5_i4, g_i5_i4, f_i5_ic, g_i5_ic, f_i6_i1, g_i6_i1, f_i6_i2, g_i6_i2, f_i6_i3, g_i6_i3, f_i6_i4, g_i6_i4, f_i6_i5, g_i6_i5, f_i6_ic, g_i6_ic] at hi7
        have g_i7_i3 : ¬ i3 = i7 := fun e => f_i7_i3 e.symm
        have f_i7_i4 : ¬ i7 = i4 := fun e => by rw [e] at hi7; simp [h3, h8, hA, h9, hB, h10, hC, h11, h12, h13, h14, h15, h16, h17, k1, k2, k3, delo, del, nab, nac, nbc, nba, nca, ncb, f_i1_ia, g_i1_ia, f_i1_ib, g_i1_ib, f_i1_ic, g_i1_ic, f_i2_i1, g_i2_i1, f_i2_ib, g_i2_ib, f_i2_ic, g_i2_ic, f_i3_i1, g_i3_i1, f_i3_i2, g_i3_i2, f_i3_ib, g_i3_ib, f_i3_ic, g_i3_ic, f_i4_i1, g_i4_i1, f_i4_i2, g_i4_i2, f_i4_i3, g_i4_i3, f_i4_ic, g_i4_ic, f_i5_i1, g_i5_i1, f_i5_i2, g_i5_i2, f_i5_i3, g_i5_i3, f_i5_i4, g_i5_i4, f_i5_ic, g_i5_ic, f_i6_i1, g_i6_i1, f_i6_i2, g_i6_i2, f_i6_i3, g_i6_i3, f_i6_i4, g_i6_i4, f_i6_i5, g_i6_i5, f_i6_ic, g_i6_ic] at hi7
        have g_i7_i4 : ¬ i4 = i7 := fun e => f_i7_i4 e.symm
        have f_i7_i5 : ¬ i7 = i5 := fun e => by rw [e] at hi7; simp [h3, h8, hA, h9, hB, h10, hC, h11, h12, h13, h14, h15, h16, h17, k1, k2, k3, delo, del, nab, nac, nbc, nba, nca, ncb, f_i1_ia, g_i1_ia, f_i1_ib, g_i1_ib, f_i1_ic, g_i1_ic, f_i2_i1, g_i2_i1, f_i2_ib, g_i2_ib, f_i2_ic, g_i2_ic, f_i3_i1, g_i3_i1, f_i3_i2, g_i3_i2, f_i3_ib, g_i3_ib, f_i3_ic, g_i3_ic, f_i4_i1, g_i4_i1, f_i4_i2, g_i4_i2, f_i4_i3, g_i4_i3, f_i4_ic, g_i4_ic, f_i5_i1, g_i5_i1, f_i5_i2, g_i5_i2, f_i5_i3, g_i5_i3, f_i5_i4, g_i5_i4, f_i5_ic, g_i5_ic, f_i6_i1, g_i6_i1, f_i6_i2, g_i6_i2, f_i6_i3, g_i6_i3, f_i6_i4, g_i6_i4, f_i6_i5, g_i6_i5, f_i6_ic, g_i6_ic] at hi7
        have g_i7_i5 : ¬ i5 = i7 := fun e => f_i7_i5 e.symm
        have f_i7_i6 : ¬ i7 = i6 := fun e => by rw [e] at hi7; simp [h3, h8, hA, h9, hB, h10, hC, h11, h12, h13, h14, h15, h16, h17, k1, k2, k3, delo, del, nab, nac, nbc, nba, nca, ncb, f_i1_ia, g_i1_ia, f_i1_ib, g_i1_ib, f_i1_ic, g_i1_ic, f_i2_i1, g_i2_i1, f_i2_ib, g_i2_ib, f_i2_ic, g_i2_ic, f_i3_i1, g_i3_i1, f_i3_i2, g_i3_i2, f_i3_ib, g_i3_ib, f_i3_ic, g_i3_ic, f_i4_i1, g_i4_i1, f_i4_i2, g_i4_i2, f_i4_i3, g_i4_i3, f_i4_ic, g_i4_ic, f_i5_i1, g_i5_i1, f_i5_i2, g_i5_i2, f_i5_i3, g_i5_i3, f_i5_i4, g_i5_i4, f_i5_ic, g_i5_ic, f_i6_i1, g_i6_i1, f_i6_i2, g_i6_i2, f_i6_i3, g_i6_i3, f_i6_i4, g_i6_i4, f_i6_i5, g_i6_i5, f_i6_ic, g_i6_ic] at hi7
        have g_i7_i6 : ¬ i6 = i7 := fun e => f_i7_i6 e.symm
        simp [-List.map_append, h3, h8, hA, h9, hB, h10, hC, h11, h12, h13, h14, h15, h16, h17, k1, k2, k3, delo, del, nab, nac, nbc, nba, nca, ncb, f_i1_ia, g_i1_ia, f_i1_ib, g_i1_ib, f_i1_ic, g_i1_ic, f_i2_i1, g_i2_i1, f_i2_ib, g_i2_ib, f_i2_ic, g_i2_ic, f_i3_i1, g_i3_i1, f_i3_i2, g_i3_i2, f_i3_ib, g_i3_ib, f_i3_ic, g_i3_ic, f_i4_i1, g_i4_i1, f_i4_i2, g_i4_i2, f_i4_i3, g_i4_i3, f_i4_ic, g_i4_ic, f_i5_i1, g_i5_i1, f_i5_i2, g_i5_i2, f_i5_i3, g_i5_i3, f_i5_i4, g_i5_i4, f_i5_ic, g_i5_ic, f_i6_i1, g_i6_i1, f_i6_i2, g_i6_i2, f_i6_i3, g_i6_i3, f_i6_i4, g_i6_i4, f_i6_i5, g_i6_i5, f_i6_ic, g_i6_ic, f_i7_i1, g_i7_i1, f_i7_i2, g_i7_i2, f_i7_i3, g_i7_i3, f_i7_i4, g_i7_i4, f_i7_i5, g_i7_i5, f_i7_i6, g_i7_i6, hi', hat', encPw, kx, kx2, kb, kb2]
        exact ⟨m' - 1, by omega, k + 1, by omega, PS, hstep, hstep2, hR, rfl, by rw [hsd]; simp [encPs, encI], by rw [hsd]; simp [encPt, encI], by rw [hsd]; simp [encPw], hwk⟩
    · rw [roundP_end hk] at hR
      subst hR
      simp [h3, h8, hA, h9, hB, h10, hC, h11, h12, hk, encDfa, hw]
      exact ⟨m, by omega, i + 1, by omega, _, hI', hG, rfl, rfl, rfl, nab, nac, nbc, by omega⟩
  · rw [twoGo_end hi] at hG
    simp [h3, h8, hA, h9, hB, h10, hC, h11, hi, ← hG]
end Go.Proofs.Ytibeeohnjabhkaa.R

open Go Go.Proofs.Ytibeeohnjabhkaa.T
namespace Go.Proofs.Ytibeeohnjabhkaa.R
set_option maxHeartbeats 4000000
set_option maxRecDepth 100000
set_option linter.unusedSimpArgs false
set_option linter.unusedVariables false
attribute [local simp] bsV bsRows chunk fillT partsT appV makeV rowsOf cellsOf placeOf

theorem tc_iSetFirst (p : List (Int × Int)) (hl : p.length ≤ 1152921504606846976) : TC Try.prog 26 [.ro (p.map encS)] [] (.val (.int .i64 (firstS p))) [] := by
  refine TC.enter Try.func26 rfl (by simp [Try.ntmps26]) rfl (tw_sound (ρ := []) ?_)
  rw [Try.ntmps26]
  simp
  refine TWoH.callV (tc_bitsOf p hl) callable_45 (by simp) (by simp) (by simp) (by simp) ?_
  simp
  refine TWcH.loop [] (fun m s => ∃ i : Nat, i + m = 256 ∧ s.σ 6 = .agg (bitsT fun b => hasS p b) ∧ s.σ 7 = .val (.int .i64 i) ∧ firstS p = firstG (fun b => hasS p b) i) 256 ⟨0, by simp [firstS]⟩ ?_
  rintro m ⟨σ, H⟩ ⟨i, him, h6, h7, hh⟩
  simp only at h6 h7
  by_cases hi : i < 256
  · have hw : IntKind.i64.wrap ((i : Int) + 1) = i + 1 := wrapi (by omega)
    have hi2 : (i : Int) < 256 := by omega
    rw [firstG_next hi] at hh
    simp [h6, h7, hi, hi2, bitsT_at hi, bitsT_at', partTV]
    refine gif_intro (fun c => ?_) (fun c => ?_) <;> simp [h6, h7, hi2, c, hw]
    · rw [hh, if_pos c]
    · exact ⟨m - 1, by omega, i + 1, by omega, by omega, by rw [hh, if_neg c]⟩
  · obtain rfl : i = 256 := by omega
    simp [h6, h7, hh, firstG_end]
theorem tc_iAccOf (d : Dfa) (ho : DOk d) (s : Int) (hlt : s < d.rows.length) : TC Try.prog 53 [.agg (encDfa d), .val (.int .i64 s)] [] (.val (.int .i64 (acI d s))) [] := by
  refine TC.enter Try.func53 rfl (by simp [Try.ntmps53]) rfl (tw_sound (ρ := [2]) ?_)
  rw [Try.ntmps53]
  by_cases c : s < 0
  · simp [c, acI]
  have h0 : 0 ≤ s := by omega
  have hn : s.toNat < d.acc.length := by rw [ho.acc]; omega
  have hi : s < d.acc.length := by omega
  have hr : ∀ h, d.acc[s.toNat]'h = ac_ d s.toNat := fun _ => (ac_eq hn).symm
  simp [c, acI, encDfa, h0, hn, hi, hr, encI]
theorem tc_next (d : Dfa) (hs : DSm d) (ho : DOk d) (s : Int) (k : Nat) (hlt : s < d.rows.length) (hk : k < d.parts.length) : TC Try.prog 52 [.val (.int .i64 s), .val (.int .i64 k), .rptr (encDfa d) 0] [] (.val (.int .i64 (nx d s k))) [] := by
  refine TC.enter Try.func52 rfl (by simp [Try.ntmps52]) rfl (tw_sound (ρ := []) ?_)
  rw [Try.ntmps52]
  by_cases c : s < 0
  · simp [c, nx, encDfa]
  have h0 : 0 ≤ s := by omega
  have hn : s.toNat < d.rows.length := by omega
  have hr : ∀ h, d.rows[s.toNat]'h = rw_ d s.toNat := fun _ => (rw_eq hn).symm
  have hkr : k < (rw_ d s.toNat).length := by rw [ho.row _ hn]; exact hk
  simp [c, nx, encDfa, h0, hn, hlt, hr, encR, encI, hkr, getI hkr]
def encPr (p : Pr) : List TV := [.val (.int .i64 p.s), .val (.int .i64 p.t), .val (.string (bs p.w))]
def keyP (p : Pr) : Value := .agg #[.int .i64 p.s, .int .i64 p.t]
def seenP (ps : List Pr) : List (Value × Value) := ps.map fun p => (keyP p, .bool true)
theorem two87 : KLaw Try.prog 75 IsTwo := KLaw.two Try.underlying75 Try.underlying3 (by kernel_rfl) (fun w => by exact Try.isAgg3 w)
theorem seenP_two {ps : List Pr} : ∀ q ∈ seenP ps, IsTwo q.1 := by
  intro q hq
  obtain ⟨p, _, rfl⟩ := List.mem_map.1 hq
  exact ⟨_, _, rfl⟩
theorem seenP_hit {ps : List Pr} {x y : Int} (h : hadP ps x y = true) : ∃ q ∈ seenP ps, q.1 = .agg #[.int .i64 x, .int .i64 y] := by
  unfold hadP at h
  obtain ⟨p, hp, h⟩ := List.any_eq_true.1 h
  simp only [Bool.and_eq_true, decide_eq_true_eq] at h
  exact ⟨(keyP p, .bool true), List.mem_map.2 ⟨p, hp, rfl⟩, by simp [keyP, h]⟩
theorem seenP_miss {ps : List Pr} {x y : Int} (h : hadP ps x y = false) : ∀ q ∈ seenP ps, q.1 ≠ .agg #[.int .i64 x, .int .i64 y] := by
  intro q hq e
  obtain ⟨p, hp, rfl⟩ := List.mem_map.1 hq
  simp only [keyP, Value.agg.injEq] at e
  refine hadP_false h p hp ?_
  simpa using e
theorem seenP_val {ps : List Pr} {k : Value} : ∀ q ∈ seenP ps, q.1 = k → q.2 = .bool true := by
  intro q hq _
  obtain ⟨p, hp, rfl⟩ := List.mem_map.1 hq
  rfl
theorem tc_iLeastTwo (d : Dfa) (hs : DSm d) (s t : Int) : TC Try.prog 21 [.agg (encDfa d), .val (.int .i64 s), .val (.int .i64 t)] [] (.tup [.val (.bool (twoF d s t).1), .val (.string (bs (twoF d s t).2))]) [] := by
  refine TC.enter Try.func21 rfl (by simp [Try.ntmps21]) rfl (tw_sound (ρ := [3]) ?_)
  rw [Try.ntmps21]
  simp
  refine TWoH.callV (tc_iDfaOk d hs) callable_12 (by simp) (by simp) (by simp) (by simp) ?_
  cases c1 : dfaOk d
  · have hr : twoF d s t = (false, []) := by simp [twoF, c1]
    simp [hr]
  have ho := dok_of c1
  have hmost := ho.most
  have hone := ho.one
  have hw1 : IntKind.i64.wrap ((d.rows.length : Int) - 1) = d.rows.length - 1 := wrapi (by omega)
  simp [encDfa, hw1]
  refine TWoH.callV (tc_in s 0 (d.rows.length - 1)) callable_46 (by simp [hw1]) (by simp) (by simp) (by simp) ?_
  by_cases c2 : 0 ≤ s ∧ s ≤ (d.rows.length : Int) - 1
  case neg =>
    have hr : twoF d s t = (false, []) := by unfold twoF; rw [if_neg (by omega)]
    simp [hr, c2]
  simp [c2, hw1]
  refine TWoH.callV (tc_in t 0 (d.rows.length - 1)) callable_46 (by simp [hw1]) (by simp) (by simp) (by simp) ?_
  by_cases c4 : 0 ≤ t ∧ t ≤ (d.rows.length : Int) - 1
  case neg =>
    have hr : twoF d s t = (false, []) := by unfold twoF; rw [if_neg (by omega)]
    simp [hr, c2, c4]
  have c3' : 0 ≤ s ∧ s < d.rows.length := by omega
  have c5' : 0 ≤ t ∧ t < d.rows.length := by omega
  have hr : twoF d s t = twoGo d 1682 0 [⟨s, t, []⟩] := by unfold twoF; rw [if_pos ⟨c1, c3', c5'⟩]
  rw [hr]
  simp [c2, c4]
  refine TWoH.makeFunc ?_
  simp
  refine gall_intro fun ia hia => ?_
  simp
  refine TWoH.makeMap fun ib hib => ?_
  have nba : ¬ ib = ia := fun e => by rw [e] at hib; simp at hib
  have nab : ¬ ia = ib := fun e => nba e.symm
  simp [nab, nba]
  refine TWoH.insert ib [] (.agg #[.int .i64 s, .int .i64 t]) (.bool true) two87 Try.underlying76 (by simp) (by simp [nab, nba]) (by simp) ⟨s, t, rfl⟩ (by simp) (by simp) (by simp) ?_
  simp [nab, nba]
  refine TWcH.loop [3] (fun m st => ∃ (i : Nat) (ps : List Pr) (ia ib : Nat), i + m = 1682 ∧ PInv d ps ∧ twoGo d m i ps = twoGo d 1682 0 [⟨s, t, []⟩] ∧ st.σ 3 = .rptr (encDfa d) 0 ∧ st.σ 8 = .clo 52 [.rptr (encDfa d) 0] ∧ st.σ 9 = .hd ia ∧ st.H ia = some (.own 73 (ps.map encPr)) ∧ st.σ 10 = .hd ib ∧ st.H ib = some (.mp 76 (seenP ps)) ∧ ia ≠ ib ∧ st.σ 11 = .val (.int .i64 i)) 1682 ⟨0, [⟨s, t, []⟩], ia, ib, by simp [encDfa, encPr, seenP, keyP, nab, nba, PInv.start c3' c5']⟩ ?_
  clear nab nba hia hib
  clear ia ib
  rintro m ⟨σ, H⟩ ⟨i, ps, ia, ib, him, hI, hG, h3, h8, h9, hA, h10, hB, nab, h11⟩
  simp only at h3 h8 h9 hA h10 hB h11
  have hlen := hI.len ho
  have nba : ¬ ib = ia := fun e => nab e.symm
  by_cases hi : i < ps.length
  · have hw : IntKind.i64.wrap ((i : Int) + 1) = i + 1 := wrapi (by omega)
    obtain ⟨x, hx⟩ : ∃ x, ps[i]? = some x := ⟨ps[i], getI hi⟩
    have hat : ∀ h, ps[i]'h = x := fun h => by rw [getI h] at hx; simpa using hx
    have hxm := List.mem_of_getElem? hx
    have hxr := hI.rng x hxm
    obtain ⟨m, rfl⟩ : ∃ m', m = m' + 1 := ⟨m - 1, by omega⟩
    rw [twoGo_next hx] at hG
    simp [-List.map_append, h3, h8, h9, hA, h10, hB, h11, hi, hat, nab, nba, encPr]
    refine gall_intro fun ic hic => ?_
    have nca : ¬ ic = ia := fun e => by rw [e, hA] at hic; cases hic
    have ncb : ¬ ic = ib := fun e => by rw [e, hB] at hic; cases hic
    have nac : ¬ ia = ic := fun e => nca e.symm
    have nbc : ¬ ib = ic := fun e => ncb e.symm
    simp [-List.map_append, h3, h8, h9, hA, h10, hB, h11, hi, hat, nab, nba, nca, ncb, nac, nbc, encPr]
    refine TWcH.regionD (ρ := []) [0, 1, 2, 4, 5, 6, 3, 7, 8] 9 mixed (by kernel_rfl) ?_
    simp [-List.map_append, h3, h8, h9, hA, h10, hB, h11, nab, nba, nca, ncb, nac, nbc, encDfa]
    refine TWqH.callV (tc_iAccOf d ho x.s hxr.1.2) callable_53 (by simp [encDfa]) (by simp) (by simp) (by simp) ?_
    simp [-List.map_append, h3, h8, h9, hA, h10, hB, h11, nab, nba, nca, ncb, nac, nbc, encDfa]
    refine TWqH.callV (tc_iAccOf d ho x.t hxr.2.2) callable_53 (by simp [encDfa]) (by simp) (by simp) (by simp) ?_
    simp [-List.map_append, h3, h8, h9, hA, h10, hB, h11, nab, nba, nca, ncb, nac, nbc, encDfa]
    refine gif_intro (fun c6 => ?_) (fun c6 => ?_)
    case refine_2 =>
      rw [if_neg c6] at hG
      simp [c6]
      refine TWcH.regionD (ρ := []) [0, 1, 2, 3] 4 mixed (by kernel_rfl) ?_
      simp [-List.map_append, h3, h8, h9, hA, h10, hB, h11, nab, nba, nca, ncb, nac, nbc, ← hG]
    rw [if_pos c6] at hG
    simp [-List.map_append, c6, h3, h8, h9, hA, h10, hB, h11, nab, nba, nca, ncb, nac, nbc, encDfa]
    refine TWcH.loop [3] (fun m' st => ∃ (k : Nat) (ps' : List Pr) (ia : Nat), k + m' = d.parts.length ∧ PInv d ps' ∧ ps'[i]? = some x ∧ roundP d x k ps' = roundP d x 0 ps ∧ st.σ 3 = .rptr (encDfa d) 0 ∧ st.σ 8 = .clo 52 [.rptr (encDfa d) 0] ∧ st.σ 9 = .hd ia ∧ st.H ia = some (.own 73 (ps'.map encPr)) ∧ st.σ 10 = .hd ib ∧ st.H ib = some (.mp 76 (seenP ps')) ∧ st.σ 12 = .pd ic 0 0 0 ∧ st.H ic = some (.box 73 (encPr x)) ∧ ia ≠ ib ∧ ia ≠ ic ∧ st.σ 11 = .val (.int .i64 i) ∧ st.σ 70 = .ro (d.parts.map encP) ∧ st.σ 71 = .val (.int .i64 d.parts.length) ∧ st.σ 72 = .val (.int .i64 k)) d.parts.length ⟨0, ps, ia, by simp [h3, h8, h9, hA, h10, hB, h11, nab, nba, nca, ncb, nac, nbc, hI, hx, encDfa, encPr]⟩ ?_
    clear h3 h8 h9 hA h10 hB h11 nab nba nca nac hic
    clear ia σ H
    rintro m' ⟨σ, H⟩ ⟨k, ps', ia, hkm, hI', hx', hR, h3, h8, h9, hA, h10, hB, h12, hC, nab, nac, h11, h70, h71, h72⟩
    simp only at h3 h8 h9 hA h10 hB h12 hC h11 h70 h71 h72
    have hlen' := hI'.len ho
    have nba : ¬ ib = ia := fun e => nab e.symm
    have nca : ¬ ic = ia := fun e => nac e.symm
    have hpl := hs.parts
    have hxm' := List.mem_of_getElem? hx'
    by_cases hk : k < d.parts.length
    · have hwk : IntKind.i64.wrap ((k : Int) + 1) = k + 1 := wrapi (by omega)
      have hp : ∀ h, d.parts[k]'h = pt d.parts k := fun _ => (pt_eq hk).symm
      have hpkl : (pt d.parts k).length ≤ 1048576 := by rw [pt_eq hk]; exact hs.part _ (List.getElem_mem hk)
      obtain ⟨b, hb, hfb, _⟩ := first_part ho hk
      rw [roundP_next hk] at hR
      simp [-List.map_append, h3, h8, h9, hA, h10, hB, h12, hC, h11, h70, h71, h72, nab, nba, nca, ncb, nac, nbc, hk, encDfa, hp, encP]
      refine TWcH.regionD (ρ := []) [0, 1, 2, 3, 5, 6, 7, 8, 4, 9, 10, 11] 12 mixed (by kernel_rfl) ?_
      simp [-List.map_append, h3, h8, h9, hA, h10, hB, h12, hC, h11, h70, h71, h72, nab, nba, nca, ncb, nac, nbc, encPr]
      refine TWqH.callClo (c := 77) (f := 52) (caps := [.rptr (encDfa d) 0]) (by simp [-List.map_append, h3, h8, h9, hA, h10, hB, h12, hC, h11, h70, h71, h72, nab, nba, nca, ncb, nac, nbc, encDfa]) (tc_next d hs ho x.s k hxr.1.2 hk) callable_52 (by simp [-List.map_append, h3, h8, h9, hA, h10, hB, h12, hC, h11, h70, h71, h72, nab, nba, nca, ncb, nac, nbc, encPr, encDfa]) (by simp) (by simp) (by simp) ?_
      simp [-List.map_append, h3, h8, h9, hA, h10, hB, h12, hC, h11, h70, h71, h72, nab, nba, nca, ncb, nac, nbc, encPr]
      refine TWqH.callClo (c := 82) (f := 52) (caps := [.rptr (encDfa d) 0]) (by simp [-List.map_append, h3, h8, h9, hA, h10, hB, h12, hC, h11, h70, h71, h72, nab, nba, nca, ncb, nac, nbc, encDfa]) (tc_next d hs ho x.t k hxr.2.2 hk) callable_52 (by simp [-List.map_append, h3, h8, h9, hA, h10, hB, h12, hC, h11, h70, h71, h72, nab, nba, nca, ncb, nac, nbc, encPr, encDfa]) (by simp) (by simp) (by simp) ?_
      simp [-List.map_append, h3, h8, h9, hA, h10, hB, h12, hC, h11, h70, h71, h72, nab, nba, nca, ncb, nac, nbc, encPr]
      have hstep := hI'.step ho hxm' hk
      have hstep2 : (stepK d x ps' k)[i]? = some x := stepK_at hx'
      have hsd : stepK d x ps' k = if hadP ps' (nx d x.s k) (nx d x.t k) = true then ps' else ps' ++ [⟨nx d x.s k, nx d x.t k, x.w ++ [fb d k]⟩] := rfl
      have hfb2 : fb d k = UInt8.ofNat b := by unfold fb; rw [hfb]; simp
      rw [hfb2] at hsd
      generalize stepK d x ps' k = PS at hsd hstep hstep2 hR
      generalize nx d x.s k = X at hsd ⊢
      generalize nx d x.t k = Y at hsd ⊢
      cases c7 : hadP ps' X Y
      case true =>
        rw [c7] at hsd
        simp only [if_true] at hsd
        subst hsd
        refine TWoH.lookupHit ib (seenP PS) (.agg #[.int .i64 X, .int .i64 Y]) (.bool true) two87 Try.underlying76 (by simp [-List.map_append, h3, h8, h9, hA, h10, hB, h12, hC, h11, h70, h71, h72, nab, nba, nca, ncb, nac, nbc]) (by simp [-List.map_append, h3, h8, h9, hA, h10, hB, h12, hC, h11, h70, h71, h72, nab, nba, nca, ncb, nac, nbc]) (by simp) ⟨X, Y, rfl⟩ seenP_two (seenP_hit c7) seenP_val ?_
        simp [-List.map_append, h3, h8, h9, hA, h10, hB, h12, hC, h11, h70, h71, h72, nab, nba, nca, ncb, nac, nbc, hwk]
        exact ⟨m' - 1, by omega, k + 1, by omega, PS, hstep, hstep2, hR, by simp [encPr, encDfa]⟩
      rw [c7] at hsd
      simp only [Bool.false_eq_true, if_false] at hsd
      refine TWoH.lookupMiss ib (seenP ps') (.agg #[.int .i64 X, .int .i64 Y]) (.bool false) two87 Try.underlying76 (by kernel_rfl) (by simp [-List.map_append, h3, h8, h9, hA, h10, hB, h12, hC, h11, h70, h71, h72, nab, nba, nca, ncb, nac, nbc]) (by simp [-List.map_append, h3, h8, h9, hA, h10, hB, h12, hC, h11, h70, h71, h72, nab, nba, nca, ncb, nac, nbc]) (by simp) ⟨X, Y, rfl⟩ seenP_two (seenP_miss c7) ?_
      simp [-List.map_append, h3, h8, h9, hA, h10, hB, h12, hC, h11, h70, h71, h72, nab, nba, nca, ncb, nac, nbc]
      refine TWoH.mapUpdate ib (seenP ps') (.agg #[.int .i64 X, .int .i64 Y]) (.bool true) two87 Try.underlying76 (by simp [-List.map_append, h3, h8, h9, hA, h10, hB, h12, hC, h11, h70, h71, h72, nab, nba, nca, ncb, nac, nbc]) (by simp [-List.map_append, h3, h8, h9, hA, h10, hB, h12, hC, h11, h70, h71, h72, nab, nba, nca, ncb, nac, nbc]) (by simp) ⟨X, Y, rfl⟩ seenP_two (seenP_miss c7) (by simp) ?_
      simp [-List.map_append, h3, h8, h9, hA, h10, hB, h12, hC, h11, h70, h71, h72, nab, nba, nca, ncb, nac, nbc]
      have hwl := hI'.wl x hxm'
      have kx : x.w.length ≤ 9223372036854775806 := by omega
      have kx2 : ¬ (9223372036854775807 : Int) < x.w.length + 1 := by omega
      have kb2 : (b : Int).toNat = b := by omega
      have kb : IntKind.u8.wrap (b : Int) = b := by unfold IntKind.wrap; simp [IntKind.bits, IntKind.signed]; omega
      have k1 : (ps'.length + 1) * 32 ≤ 140737488355328 := by omega
      have k2 : ps'.length ≤ 9223372036854775806 := by omega
      refine TWcH.regionD (ρ := []) [0, 1, 2, 3, 4, 5, 6, 7, 8, 9, 10, 11, 12, 13, 14] 15 mixed (by kernel_rfl) ?_
      simp [-List.map_append, h3, h8, h9, hA, h10, hB, h12, hC, h11, h70, h71, h72, nab, nba, nca, ncb, nac, nbc, encPr]
      refine TWqH.callV (tc_iSetFirst (pt d.parts k) (by omega)) callable_26 (by simp [-List.map_append, h3, h8, h9, hA, h10, hB, h12, hC, h11, h70, h71, h72, nab, nba, nca, ncb, nac, nbc, encP]) (by simp) (by simp) (by simp) ?_
      rw [hfb]
      simp [-List.map_append, h3, h8, h9, hA, h10, hB, h12, hC, h11, h70, h71, h72, nab, nba, nca, ncb, nac, nbc, encPr, kb, kb2, kx, kx2, k1, k2]
      refine gall_intro fun i1 hi1 => ?_
      have f_i1_ia : ¬ i1 = ia := fun e => by rw [e] at hi1; simp [delo, del, -List.map_append, h3, h8, h9, hA, h10, hB, h12, hC, h11, h70, h71, h72, nab, nba, nca, ncb, nac, nbc, encPr, kb, kb2, kx, kx2, k1, k2, hA] at hi1
      have g_i1_ia : ¬ ia = i1 := fun e => f_i1_ia e.symm
      have f_i1_ib : ¬ i1 = ib := fun e => by rw [e] at hi1; simp [delo, del, -List.map_append, h3, h8, h9, hA, h10, hB, h12, hC, h11, h70, h71, h72, nab, nba, nca, ncb, nac, nbc, encPr, kb, kb2, kx, kx2, k1, k2, hB] at hi1
      have g_i1_ib : ¬ ib = i1 := fun e => f_i1_ib e.symm
      have f_i1_ic : ¬ i1 = ic := fun e => by rw [e] at hi1; simp [delo, del, -List.map_append, h3, h8, h9, hA, h10, hB, h12, hC, h11, h70, h71, h72, nab, nba, nca, ncb, nac, nbc, encPr, kb, kb2, kx, kx2, k1, k2, hC] at hi1
      have g_i1_ic : ¬ ic = i1 := fun e => f_i1_ic e.symm
      simp [delo, del, -List.map_append, h3, h8, h9, hA, h10, hB, h12, hC, h11, h70, h71, h72, nab, nba, nca, ncb, nac, nbc, encPr, kb, kb2, kx, kx2, k1, k2, f_i1_ia, g_i1_ia, f_i1_ib, g_i1_ib, f_i1_ic, g_i1_ic]
      refine gall_intro fun i2 hi2 => ?_
      have f_i2_i1 : ¬ i2 = i1 := fun e => by rw [e] at hi2; simp [delo, del, -List.map_append, h3, h8, h9, hA, h10, hB, h12, hC, h11, h70, h71, h72, nab, nba, nca, ncb, nac, nbc, encPr, kb, kb2, kx, kx2, k1, k2, f_i1_ia, g_i1_ia, f_i1_ib, g_i1_ib, f_i1_ic, g_i1_ic] at hi2
      have g_i2_i1 : ¬ i1 = i2 := fun e => f_i2_i1 e.symm
      have f_i2_ia : ¬ i2 = ia := fun e => by rw [e] at hi2; simp [delo, del, -List.map_append, h3, h8, h9, hA, h10, hB, h12, hC, h11, h70, h71, h72, nab, nba, nca, ncb, nac, nbc, encPr, kb, kb2, kx, kx2, k1, k2, f_i1_ia, g_i1_ia, f_i1_ib, g_i1_ib, f_i1_ic, g_i1_ic, hA] at hi2
      have g_i2_ia : ¬ ia = i2 := fun e => f_i2_ia e.symm
      have f_i2_ib : ¬ i2 = ib := fun e => by rw [e] at hi2; simp [delo, del, -List.map_append, h3, h8, h9, hA, h10, hB, h12, hC, h11, h70, h71, h72, nab, nba, nca, ncb, nac, nbc, encPr, kb, kb2, kx, kx2, k1, k2, f_i1_ia, g_i1_ia, f_i1_ib, g_i1_ib, f_i1_ic, g_i1_ic, hB] at hi2
      have g_i2_ib : ¬ ib = i2 := fun e => f_i2_ib e.symm
      have f_i2_ic : ¬ i2 = ic := fun e => by rw [e] at hi2; simp [delo, del, -List.map_append, h3, h8, h9, hA, h10, hB, h12, hC, h11, h70, h71, h72, nab, nba, nca, ncb, nac, nbc, encPr, kb, kb2, kx, kx2, k1, k2, f_i1_ia, g_i1_ia, f_i1_ib, g_i1_ib, f_i1_ic, g_i1_ic, hC] at hi2
      have g_i2_ic : ¬ ic = i2 := fun e => f_i2_ic e.symm
      simp [delo, del, -List.map_append, h3, h8, h9, hA, h10, hB, h12, hC, h11, h70, h71, h72, nab, nba, nca, ncb, nac, nbc, encPr, kb, kb2, kx, kx2, k1, k2, f_i1_ia, g_i1_ia, f_i1_ib, g_i1_ib, f_i1_ic, g_i1_ic, f_i2_i1, g_i2_i1, f_i2_ia, g_i2_ia, f_i2_ib, g_i2_ib, f_i2_ic, g_i2_ic]
      refine gall_intro fun i3 hi3 => ?_
      have f_i3_i1 : ¬ i3 = i1 := fun e => by rw [e] at hi3; simp [delo, del, -List.map_append, h3, h8, h9, hA, h10, hB, h12, hC, h11, h70, h71, h72, nab, nba, nca, ncb, nac, nbc, encPr, kb, kb2, kx, kx2, k1, k2, f_i1_ia, g_i1_ia, f_i1_ib, g_i1_ib, f_i1_ic, g_i1_ic, f_i2_i1, g_i2_i1, f_i2_ia, g_i2_ia, f_i2_ib, g_i2_ib, f_i2_ic, g_i2_ic] at hi3
      have g_i3_i1 : ¬ i1 = i3 := fun e => f_i3_i1 e.symm
      have f_i3_i2 : ¬ i3 = i2 := fun e => by rw [e] at hi3; simp [delo, del, -List.map_append, h3, h8, h9, hA, h10, hB, h12, hC, h11, h70, h71, h72, nab, nba, nca, ncb, nac, nbc, encPr, kb, kb2, kx, kx2, k1, k2, f_i1_ia, g_i1_ia, f_i1_ib, g_i1_ib, f_i1_ic, g_i1_ic, f_i2_i1, g_i2_i1, f_i2_ia, g_i2_ia, f_i2_ib, g_i2_ib, f_i2_ic, g_i2_ic] at hi3
      have g_i3_i2 : ¬ i2 = i3 := fun e => f_i3_i2 e.symm
      have f_i3_ib : ¬ i3 = ib := fun e => by rw [e] at hi3; simp [delo, del, -List.map_append, h3, h8, h9, hA, h10, hB, h12, hC, h11, h70, h71, h72, nab, nba, nca, ncb, nac, nbc, encPr, kb, kb2, kx, kx2, k1, k2, f_i1_ia, g_i1_ia, f_i1_ib, g_i1_ib, f_i1_ic, g_i1_ic, f_i2_i1, g_i2_i1, f_i2_ia, g_i2_ia, f_i2_ib, g_i2_ib, f_i2_ic, g_i2_ic, hB] at hi3
      have g_i3_ib : ¬ ib = i3 := fun e => f_i3_ib e.symm
      have f_i3_ic : ¬ i3 = ic := fun e => by rw [e] at hi3; simp [delo, del, -List.map_append, h3, h8, h9, hA, h10, hB, h12, hC, h11, h70, h71, h72, nab, nba, nca, ncb, nac, nbc, encPr, kb, kb2, kx, kx2, k1, k2, f_i1_ia, g_i1_ia, f_i1_ib, g_i1_ib, f_i1_ic, g_i1_ic, f_i2_i1, g_i2_i1, f_i2_ia, g_i2_ia, f_i2_ib, g_i2_ib, f_i2_ic, g_i2_ic, hC] at hi3
      have g_i3_ic : ¬ ic = i3 := fun e => f_i3_ic e.symm
      simp [delo, del, -List.map_append, h3, h8, h9, hA, h10, hB, h12, hC, h11, h70, h71, h72, nab, nba, nca, ncb, nac, nbc, encPr, kb, kb2, kx, kx2, k1, k2, f_i1_ia, g_i1_ia, f_i1_ib, g_i1_ib, f_i1_ic, g_i1_ic, f_i2_i1, g_i2_i1, f_i2_ia, g_i2_ia, f_i2_ib, g_i2_ib, f_i2_ic, g_i2_ic, f_i3_i1, g_i3_i1, f_i3_i2, g_i3_i2, f_i3_ib, g_i3_ib, f_i3_ic, g_i3_ic]
      exact ⟨m' - 1, by omega, k + 1, by omega, PS, hstep, hstep2, hR, rfl, by rw [hsd]; simp [encPr], by rw [hsd]; simp [seenP, keyP], hwk⟩
    · rw [roundP_end hk] at hR
      subst hR
      simp [-List.map_append, h3, h8, h9, hA, h10, hB, h12, hC, h11, h70, h71, h72, nab, nba, nca, ncb, nac, nbc, hk, hw]
      exact ⟨m, by omega, i + 1, by omega, _, hI', hG, by simp [encPr, encDfa, nab]⟩
  · rw [twoGo_end hi] at hG
    simp [h3, h8, h9, hA, h10, hB, h11, hi, ← hG]
end Go.Proofs.Ytibeeohnjabhkaa.R

open Go Go.Proofs.Ytibeeohnjabhkaa.T
namespace Go.Proofs.Ytibeeohnjabhkaa.R
set_option maxHeartbeats 8000000
set_option maxRecDepth 100000
set_option linter.unusedSimpArgs false
set_option linter.unusedVariables false
attribute [local simp] bsV bsRows chunk fillT partsT appV makeV rowsOf cellsOf placeOf frzT frz1
theorem tc_wjFrom (d : Dfa) (hs : DSm d) (c : dfaOk d = true) (s : Int) (hs1 : -1 ≤ s) (hs2 : s < d.rows.length) (w : List UInt8) (hwl : w.length ≤ 1000000) : TC Try.prog 38 [.agg (encDfa d), .val (.int .i64 s), .val (.string (bs w))] [] (.val (.int .i64 (acI d (runGo d w s)))) [] := by
  refine TC.enter Try.func38 rfl (by simp [Try.ntmps38]) rfl (tw_sound (ρ := [3]) ?_)
  rw [Try.ntmps38]
  have ho := dok_of c
  have hmost := ho.most
  have hacc := ho.acc
  simp [encDfa]
  refine TWcH.loop [] (fun m st => ∃ i : Nat, i + m = w.length ∧ st.σ 1 = .val (.int .i64 (runGo d (w.take i) s)) ∧ st.σ 2 = .val (.string (bs w)) ∧ st.σ 3 = .rptr [.ro (d.parts.map encP), .ro (d.rows.map encR), .ro (d.acc.map encI)] 0 ∧ st.σ 7 = .val (.int .i64 i)) w.length ⟨0, by simp [runGo]⟩ ?_
  rintro m ⟨σ, H⟩ ⟨i, him, h1, h2, h3, h7⟩
  simp only at h1 h2 h3 h7
  have hrg := runGo_ok ho (w.take i) s hs1 hs2
  by_cases hi : i < w.length
  · have hw1 : IntKind.i64.wrap ((i : Int) + 1) = i + 1 := wrapi (by omega)
    have t8 := tc_iDfaNext d hs (runGo d (w.take i) s) (w[i].toNat)
    have hst : nextI d (runGo d (w.take i) s) (w[i].toNat) = runGo d (w.take (i + 1)) s := by
      rw [nextI_run c hrg.2, List.take_succ_eq_append_getElem hi, runGo_app]
      by_cases c0 : runGo d (w.take i) s < 0
      · rw [if_pos c0, runGo_neg c0]; omega
      · rw [if_neg c0]; simp [runGo, c0]
    rw [hst] at t8
    simp [h1, h2, h3, h7, hi]
    refine TWcH.regionD (ρ := []) [0, 1, 2, 3, 4, 5, 6, 7] 8 mixed (by kernel_rfl) ?_
    simp [h1, h2, h3, h7, hi, getI hi, encDfa]
    refine TWqH.callV t8 callable_19 (by simp [encDfa]) (by simp) (by simp) (by simp) ?_
    simp [h1, h2, h3, h7, hi, hw1]
    exact ⟨m - 1, by omega, i + 1, by omega, rfl, by omega⟩
  · obtain rfl : i = w.length := by omega
    rw [List.take_of_length_le (by omega)] at h1 hrg
    by_cases c0 : runGo d w s < 0
    · simp [h1, h2, h3, h7, c0, acI]
    · have hna : (runGo d w s).toNat < d.acc.length := by omega
      have hn0 : 0 ≤ runGo d w s := by omega
      have hnl : runGo d w s < d.acc.length := by omega
      have hpa : ∀ h, d.acc[(runGo d w s).toNat]'h = ac_ d (runGo d w s).toNat := fun _ => (ac_eq hna).symm
      simp [h1, h2, h3, h7, c0, acI, hn0, hna, hnl, hpa, encI]
theorem tc_tableR (d : Dfa) (hs : DSm d) (ho : DOk d) : TC Try.prog 48 [.agg (encDfa d)] [] (.ro (tabR d.rows.length (nextF d))) [] := by
  have := (tc_table d hs ho).frz
  simpa using this
/-- The longest token at any place of any text. -/
def lexAtI (d : Dfa) (t : List UInt8) (at_ : Int) : Int × Int := if dfaOk d = true ∧ t.length ≤ 200 ∧ (0 ≤ at_ ∧ at_ ≤ t.length) then ((lexAtF d t at_.toNat).1, (lexAtF d t at_.toNat).2) else (-1, at_)
theorem tc_iLexAt (d : Dfa) (hs : DSm d) (t : List UInt8) (at_ : Int) : TC Try.prog 31 [.agg (encDfa d), .val (.string (bs t)), .val (.int .i64 at_)] [] (.tup [.val (.int .i64 (lexAtI d t at_).1), .val (.int .i64 (lexAtI d t at_).2)]) [] := by
  refine TC.enter Try.func31 rfl (by simp [Try.ntmps31]) rfl (tw_sound (ρ := [3]) ?_)
  rw [Try.ntmps31]
  unfold lexAtI
  simp [encDfa]
  refine TWoH.callV (tc_iDfaOk d hs) callable_12 (by simp [encDfa]) (by simp) (by simp) (by simp) ?_
  by_cases c : dfaOk d = true
  case neg => simp [c]
  by_cases c1 : t.length ≤ 200
  case neg =>
    have c1' : (200 : Int) < t.length := by omega
    simp [c, c1, c1']
  have c1' : ¬ (200 : Int) < t.length := by omega
  simp [c, c1, c1']
  refine TWoH.callV (tc_in at_ 0 t.length) callable_46 (by simp) (by simp) (by simp) (by simp) ?_
  by_cases c2 : 0 ≤ at_ ∧ at_ ≤ (t.length : Int)
  case neg =>
    simp only [c2, decide_false]
    simp [c2]
  simp only [c2, decide_true, and_self]
  have ho := dok_of c
  obtain ⟨p, rfl⟩ : ∃ p : Nat, at_ = p := ⟨at_.toNat, by omega⟩
  simp
  refine TWcH.regionD (ρ := [3]) [0, 1, 3, 4, 2, 5, 6, 7, 8, 9] 10 mixed (by kernel_rfl) ?_
  simp [encDfa]
  refine TWqH.callV (tc_tableR d hs ho) callable_48 (by simp [encDfa]) (by simp) (by simp) (by simp) ?_
  simp [encDfa]
  refine TWqH.callV (tc_iLexAt0 d hs ho t p c1 (by omega)) callable_64 (by simp [encDfa]) (by simp) (by simp) (by simp) ?_
  simp [c, c1]
theorem tc_sLexAt (d : Dfa) (hs : DSm d) (t : List UInt8) (at_ : Int) : TC Try.prog 32 [.agg (encDfa d), .val (.string (bs t)), .val (.int .i64 at_)] [] (.tup [.val (.int .i64 (lexAtI d t at_).1), .val (.int .i64 (lexAtI d t at_).2)]) [] := by
  refine TC.enter Try.func32 rfl (by simp [Try.ntmps32]) rfl (tw_sound (ρ := [3]) ?_)
  rw [Try.ntmps32]
  unfold lexAtI
  simp [encDfa]
  refine TWoH.callV (tc_sDfaOk d hs) callable_13 (by simp [encDfa]) (by simp) (by simp) (by simp) ?_
  by_cases c : dfaOk d = true
  case neg => simp [c]
  by_cases c1 : t.length ≤ 200
  case neg =>
    have c1' : (200 : Int) < t.length := by omega
    simp [c, c1, c1']
  have c1' : ¬ (200 : Int) < t.length := by omega
  by_cases c2 : at_ < 0
  · have c3 : ¬ 0 ≤ at_ := by omega
    simp [c, c1, c1', c2, c3]
  have c3 : 0 ≤ at_ := by omega
  by_cases c4 : (t.length : Int) < at_
  · have c5 : ¬ at_ ≤ (t.length : Int) := by omega
    simp [c, c1, c1', c2, c3, c4, c5]
  have c5 : at_ ≤ (t.length : Int) := by omega
  have ho := dok_of c
  obtain ⟨p, rfl⟩ : ∃ p : Nat, at_ = p := ⟨at_.toNat, by omega⟩
  simp [c, c1, c1', c2, c3, c4, c5]
  refine TWoH.callV (tc_sL9At d hs ho t p c1 (by omega)) callable_65 (by simp [encDfa]) (by simp) (by simp) (by simp) ?_
  have c6 : p ≤ t.length := by omega
  simp [c, c1, c6]
/-- The next state by the document: any byte. -/
def nextS (d : Dfa) (s b : Int) : Int := if dfaOk d = true ∧ (0 ≤ s ∧ s < (d.rows.length : Int)) then (if 0 ≤ b ∧ b ≤ 255 then nextF d s.toNat b.toNat else -1) else -1
theorem nextS_eq (d : Dfa) (s b : Int) : nextS d s b = nextI d s b := by
  unfold nextS nextI
  by_cases c : dfaOk d = true <;> by_cases c1 : 0 ≤ s <;> by_cases c2 : s < (d.rows.length : Int) <;> by_cases c3 : 0 ≤ b ∧ b ≤ 255
  all_goals first
    | (have c4 : s ≤ (d.rows.length : Int) - 1 := by omega); simp [c, c1, c2, c3, c4]
    | (have c4 : ¬ s ≤ (d.rows.length : Int) - 1 := by omega); simp [c, c1, c2, c3, c4]
end Go.Proofs.Ytibeeohnjabhkaa.R

open Go Go.Proofs.Ytibeeohnjabhkaa.T
namespace Go.Proofs.Ytibeeohnjabhkaa.R
set_option maxHeartbeats 4000000
set_option maxRecDepth 100000
set_option linter.unusedSimpArgs false
set_option linter.unusedVariables false
attribute [local simp] bsV bsRows chunk fillT partsT appV makeV rowsOf cellsOf placeOf
theorem tc_sameInt (a b : List Int) (ha : a.length ≤ 1152921504606846976) (hb : b.length ≤ 1152921504606846976) : TC Try.prog 59 [.ro (a.map encI), .ro (b.map encI)] [] (.val (.bool (bP (a = b)))) [] := by
  refine TC.enter Try.func59 rfl (by simp [Try.ntmps59]) rfl (tw_sound (ρ := []) ?_)
  rw [Try.ntmps59]
  by_cases hlen : a.length = b.length
  case neg =>
    have h1 : ¬ (a.length : Int) = b.length := by omega
    have h2 : ¬ a = b := fun e => hlen (by rw [e])
    simp [h1, bP_neg h2]
  have h1 : (a.length : Int) = b.length := by omega
  simp [h1]
  refine TWcH.loop [] (fun m st => ∃ i : Nat, i + m = b.length ∧ a.take i = b.take i ∧ st.σ 0 = .ro (a.map encI) ∧ st.σ 1 = .ro (b.map encI) ∧ st.σ 12 = .val (.int .i64 b.length) ∧ st.σ 13 = .val (.int .i64 i)) b.length ⟨0, by simp⟩ ?_
  rintro m ⟨σ, H⟩ ⟨i, him, ht, h0, h1', h12, h5⟩
  simp only at h0 h1' h12 h5
  by_cases hi : i < b.length
  case neg =>
    have e : a = b := take_all hlen (by omega) ht
    have hi2 : ¬ i < a.length := by omega
    simp [h0, h1', h12, h5, hi, hi2, bP_pos e]
  have hi2 : i < a.length := by omega
  have hw : IntKind.i64.wrap ((i : Int) + 1) = i + 1 := wrapi (by omega)
  simp [h0, h1', h12, h5, hi, hi2]
  refine TWcH.regionD (ρ := []) [0, 1, 2, 3, 4, 5, 6, 7, 8] 9 mixed (by kernel_rfl) ?_
  by_cases c : a[i] = b[i]
  · simp [h0, h1', h12, h5, hi, hi2, getI hi, getI hi2, encI, c, hw]
    exact ⟨m - 1, by omega, i + 1, by omega, take_next hi2 hi ht c, by omega⟩
  · simp [h0, h1', h12, h5, hi, hi2, getI hi, getI hi2, encI, c, bP_neg (ne_at hi2 hi c)]
theorem tc_l7Ints (a b : List Int) (ha : a.length ≤ 1152921504606846976) (hb : b.length ≤ 1152921504606846976) : TC Try.prog 61 [.ro (a.map encI), .ro (b.map encI)] [] (.val (.bool (bP (a = b)))) [] := by
  refine TC.enter Try.func61 rfl (by simp [Try.ntmps61]) rfl (tw_sound (ρ := []) ?_)
  rw [Try.ntmps61]
  by_cases hlen : a.length = b.length
  case neg =>
    have h1 : ¬ (a.length : Int) = b.length := by omega
    have h2 : ¬ a = b := fun e => hlen (by rw [e])
    simp [h1, bP_neg h2]
  have h1 : (a.length : Int) = b.length := by omega
  simp [h1]
  refine TWcH.loop [] (fun m st => ∃ i : Nat, i + m = b.length ∧ a.take i = b.take i ∧ st.σ 0 = .ro (a.map encI) ∧ st.σ 1 = .ro (b.map encI) ∧ st.σ 5 = .val (.int .i64 i)) b.length ⟨0, by simp⟩ ?_
  rintro m ⟨σ, H⟩ ⟨i, him, ht, h0, h1', h5⟩
  simp only at h0 h1' h5
  by_cases hi : i < b.length
  case neg =>
    have e : a = b := take_all hlen (by omega) ht
    have hi2 : ¬ i < a.length := by omega
    simp [h0, h1', h5, hi, hi2, bP_pos e]
  have hi2 : i < a.length := by omega
  have hw : IntKind.i64.wrap ((i : Int) + 1) = i + 1 := wrapi (by omega)
  simp [h0, h1', h5, hi, hi2]
  refine TWcH.regionD (ρ := []) [0, 1, 2, 3, 4, 5, 6, 7, 8] 9 mixed (by kernel_rfl) ?_
  by_cases c : a[i] = b[i]
  · simp [h0, h1', h5, hi, hi2, getI hi, getI hi2, encI, c, hw]
    exact ⟨m - 1, by omega, i + 1, by omega, take_next hi2 hi ht c, by omega⟩
  · simp [h0, h1', h5, hi, hi2, getI hi, getI hi2, encI, c, bP_neg (ne_at hi2 hi c)]
theorem tc_iSetSame (a b : List (Int × Int)) (ha : a.length ≤ 1152921504606846976) (hb : b.length ≤ 1152921504606846976) : TC Try.prog 60 [.ro (a.map encS), .ro (b.map encS)] [] (.val (.bool (bP (a = b)))) [] := by
  refine TC.enter Try.func60 rfl (by simp [Try.ntmps60]) rfl (tw_sound (ρ := []) ?_)
  rw [Try.ntmps60]
  simp
  refine TWoH.callV (tc_sameSpan a b ha hb) callable_81 (by simp) (by simp) (by simp) (by simp) ?_
  simp
theorem dfa_ext {a b : Dfa} (h1 : a.parts = b.parts) (h2 : a.rows = b.rows) (h3 : a.acc = b.acc) : a = b := by
  cases a; cases b; simp at h1 h2 h3; subst h1 h2 h3; rfl
theorem tc_iDfaSame (a b : Dfa) (ha : DSm a) (hb : DSm b) : TC Try.prog 28 [.agg (encDfa a), .agg (encDfa b)] [] (.val (.bool (bP (a = b)))) [] := by
  refine TC.enter Try.func28 rfl (by simp [Try.ntmps28]) rfl (tw_sound (ρ := [2, 3]) ?_)
  rw [Try.ntmps28]
  have hap := ha.parts
  have hbp := hb.parts
  have har := ha.rows
  have hbr := hb.rows
  have haa := ha.acc
  have hba := hb.acc
  by_cases hp : a.parts.length = b.parts.length
  case neg =>
    have h1 : ¬ (a.parts.length : Int) = b.parts.length := by omega
    simp [encDfa, h1, bP_neg (show ¬ a = b from fun e => hp (by rw [e]))]
  have hp1 : (a.parts.length : Int) = b.parts.length := by omega
  by_cases hr : a.rows.length = b.rows.length
  case neg =>
    have h1 : ¬ (a.rows.length : Int) = b.rows.length := by omega
    simp [encDfa, hp1, h1, bP_neg (show ¬ a = b from fun e => hr (by rw [e]))]
  have hr1 : (a.rows.length : Int) = b.rows.length := by omega
  simp [encDfa, hp1, hr1]
  refine TWoH.callV (tc_sameInt a.acc b.acc (by omega) (by omega)) callable_59 (by simp) (by simp) (by simp) (by simp) ?_
  by_cases hc : a.acc = b.acc
  case neg => simp [bP_neg hc, bP_neg (show ¬ a = b from fun e => hc (by rw [e]))]
  simp [bP_pos hc]
  refine TWcH.loop [] (fun m st => ∃ i : Nat, i + m = b.parts.length ∧ a.parts.take i = b.parts.take i ∧ st.σ 2 = .rptr [.ro (a.parts.map encP), .ro (a.rows.map encR), .ro (a.acc.map encI)] 0 ∧ st.σ 3 = .rptr [.ro (b.parts.map encP), .ro (b.rows.map encR), .ro (b.acc.map encI)] 0 ∧ st.σ 33 = .val (.int .i64 b.parts.length) ∧ st.σ 34 = .val (.int .i64 i)) b.parts.length ⟨0, by simp [hp1]⟩ ?_
  rintro m ⟨σ, H⟩ ⟨i, him, ht, h2, h3, h33, h34⟩
  simp only at h2 h3 h33 h34
  by_cases hi : i < b.parts.length
  · have hi2 : i < a.parts.length := by omega
    have hw : IntKind.i64.wrap ((i : Int) + 1) = i + 1 := wrapi (by omega)
    simp [h2, h3, h33, h34, hi, hi2]
    refine TWcH.regionD (ρ := [2, 3]) [0, 1, 2, 3, 4, 5, 6, 7, 8, 9, 10, 11] 12 mixed (by kernel_rfl) ?_
    simp [h2, h3, h33, h34, hi, hi2, getI hi, getI hi2, encP]
    refine TWqH.callV (tc_iSetSame a.parts[i] b.parts[i] (by have := ha.part _ (List.getElem_mem hi2); omega) (by have := hb.part _ (List.getElem_mem hi); omega)) callable_60 (by simp) (by simp) (by simp) (by simp) ?_
    by_cases c : a.parts[i] = b.parts[i]
    · simp [h2, h3, h33, h34, bP_pos c, hw]
      exact ⟨m - 1, by omega, i + 1, by omega, take_next hi2 hi ht c, by omega⟩
    · simp [h2, h3, h33, h34, bP_neg c, bP_neg (show ¬ a = b from fun e => c (by simp [e]))]
  have hparts : a.parts = b.parts := take_all hp (by omega) ht
  have hi2 : ¬ (i : Int) < b.parts.length := by omega
  simp [h2, h3, h33, h34, hi, hi2]
  refine TWcH.loop [] (fun m st => ∃ i : Nat, i + m = b.rows.length ∧ a.rows.take i = b.rows.take i ∧ st.σ 2 = .rptr [.ro (a.parts.map encP), .ro (a.rows.map encR), .ro (a.acc.map encI)] 0 ∧ st.σ 3 = .rptr [.ro (b.parts.map encP), .ro (b.rows.map encR), .ro (b.acc.map encI)] 0 ∧ st.σ 52 = .val (.int .i64 b.rows.length) ∧ st.σ 53 = .val (.int .i64 i)) b.rows.length ⟨0, by simp [h2, h3, hr1]⟩ ?_
  clear h2 h3 h33 h34 hi him ht hi2 i m
  rintro m ⟨σ, H⟩ ⟨i, him, ht, h2, h3, h33, h34⟩
  simp only at h2 h3 h33 h34
  by_cases hi : i < b.rows.length
  · have hi2 : i < a.rows.length := by omega
    have hw : IntKind.i64.wrap ((i : Int) + 1) = i + 1 := wrapi (by omega)
    simp [h2, h3, h33, h34, hi, hi2]
    refine TWcH.regionD (ρ := [2, 3]) [0, 1, 2, 3, 4, 5, 6, 7, 8, 9, 10, 11] 12 mixed (by kernel_rfl) ?_
    simp [h2, h3, h33, h34, hi, hi2, getI hi, getI hi2, encR]
    refine TWqH.callV (tc_sameInt a.rows[i] b.rows[i] (by have := ha.row _ (List.getElem_mem hi2); omega) (by have := hb.row _ (List.getElem_mem hi); omega)) callable_59 (by simp) (by simp) (by simp) (by simp) ?_
    by_cases c : a.rows[i] = b.rows[i]
    · simp [h2, h3, h33, h34, bP_pos c, hw]
      exact ⟨m - 1, by omega, i + 1, by omega, take_next hi2 hi ht c, by omega⟩
    · simp [h2, h3, h33, h34, bP_neg c, bP_neg (show ¬ a = b from fun e => c (by simp [e]))]
  have hrows : a.rows = b.rows := take_all hr (by omega) ht
  have hi2 : ¬ (i : Int) < b.rows.length := by omega
  simp [h2, h3, h33, h34, hi, hi2, bP_pos (dfa_ext hparts hrows hc)]
theorem tc_sDfaSame (a b : Dfa) (ha : DSm a) (hb : DSm b) : TC Try.prog 29 [.agg (encDfa a), .agg (encDfa b)] [] (.val (.bool (bP (a = b)))) [] := by
  refine TC.enter Try.func29 rfl (by simp [Try.ntmps29]) rfl (tw_sound (ρ := [2, 3]) ?_)
  rw [Try.ntmps29]
  have hap := ha.parts
  have hbp := hb.parts
  have har := ha.rows
  have hbr := hb.rows
  have haa := ha.acc
  have hba := hb.acc
  by_cases hp : a.parts.length = b.parts.length
  case neg =>
    have h1 : ¬ (a.parts.length : Int) = b.parts.length := by omega
    simp [encDfa, h1, bP_neg (show ¬ a = b from fun e => hp (by rw [e]))]
  have hp1 : (a.parts.length : Int) = b.parts.length := by omega
  by_cases hr : a.rows.length = b.rows.length
  case neg =>
    have h1 : ¬ (a.rows.length : Int) = b.rows.length := by omega
    simp [encDfa, hp1, h1, bP_neg (show ¬ a = b from fun e => hr (by rw [e]))]
  have hr1 : (a.rows.length : Int) = b.rows.length := by omega
  simp [encDfa, hp1, hr1]
  refine TWoH.callV (tc_l7Ints a.acc b.acc (by omega) (by omega)) callable_61 (by simp) (by simp) (by simp) (by simp) ?_
  by_cases hc : a.acc = b.acc
  case neg => simp [bP_neg hc, bP_neg (show ¬ a = b from fun e => hc (by rw [e]))]
  simp [bP_pos hc]
  refine TWcH.loop [] (fun m st => ∃ i : Nat, i + m = b.parts.length ∧ a.parts.take i = b.parts.take i ∧ st.σ 2 = .rptr [.ro (a.parts.map encP), .ro (a.rows.map encR), .ro (a.acc.map encI)] 0 ∧ st.σ 3 = .rptr [.ro (b.parts.map encP), .ro (b.rows.map encR), .ro (b.acc.map encI)] 0 ∧ st.σ 5 = .val (.int .i64 i)) b.parts.length ⟨0, by simp⟩ ?_
  rintro m ⟨σ, H⟩ ⟨i, him, ht, h2, h3, h34⟩
  simp only at h2 h3 h34
  by_cases hi : i < b.parts.length
  · have hi2 : i < a.parts.length := by omega
    have hw : IntKind.i64.wrap ((i : Int) + 1) = i + 1 := wrapi (by omega)
    simp [h2, h3, h34, hi, hi2]
    refine TWcH.regionD (ρ := [2, 3]) [0, 1, 2, 3, 4, 5, 6, 7, 8, 9, 10, 11] 12 mixed (by kernel_rfl) ?_
    simp [h2, h3, h34, hi, hi2, getI hi, getI hi2, encP]
    refine TWqH.callV (tc_sSetSame a.parts[i] b.parts[i] (by have := ha.part _ (List.getElem_mem hi2); omega) (by have := hb.part _ (List.getElem_mem hi); omega)) callable_62 (by simp) (by simp) (by simp) (by simp) ?_
    by_cases c : a.parts[i] = b.parts[i]
    · simp [h2, h3, h34, bP_pos c, hw]
      exact ⟨m - 1, by omega, i + 1, by omega, take_next hi2 hi ht c, by omega⟩
    · simp [h2, h3, h34, bP_neg c, bP_neg (show ¬ a = b from fun e => c (by simp [e]))]
  have hparts : a.parts = b.parts := take_all hp (by omega) ht
  have hi2 : ¬ i < a.parts.length := by omega
  simp [h2, h3, h34, hi, hi2]
  refine TWcH.loop [] (fun m st => ∃ i : Nat, i + m = b.rows.length ∧ a.rows.take i = b.rows.take i ∧ st.σ 2 = .rptr [.ro (a.parts.map encP), .ro (a.rows.map encR), .ro (a.acc.map encI)] 0 ∧ st.σ 3 = .rptr [.ro (b.parts.map encP), .ro (b.rows.map encR), .ro (b.acc.map encI)] 0 ∧ st.σ 6 = .val (.int .i64 i)) b.rows.length ⟨0, by simp [h2, h3]⟩ ?_
  clear h2 h3 h34 hi him ht hi2 i m
  rintro m ⟨σ, H⟩ ⟨i, him, ht, h2, h3, h34⟩
  simp only at h2 h3 h34
  by_cases hi : i < b.rows.length
  · have hi2 : i < a.rows.length := by omega
    have hw : IntKind.i64.wrap ((i : Int) + 1) = i + 1 := wrapi (by omega)
    simp [h2, h3, h34, hi, hi2]
    refine TWcH.regionD (ρ := [2, 3]) [0, 1, 2, 3, 4, 5, 6, 7, 8, 9, 10, 11] 12 mixed (by kernel_rfl) ?_
    simp [h2, h3, h34, hi, hi2, getI hi, getI hi2, encR]
    refine TWqH.callV (tc_l7Ints a.rows[i] b.rows[i] (by have := ha.row _ (List.getElem_mem hi2); omega) (by have := hb.row _ (List.getElem_mem hi); omega)) callable_61 (by simp) (by simp) (by simp) (by simp) ?_
    by_cases c : a.rows[i] = b.rows[i]
    · simp [h2, h3, h34, bP_pos c, hw]
      exact ⟨m - 1, by omega, i + 1, by omega, take_next hi2 hi ht c, by omega⟩
    · simp [h2, h3, h34, bP_neg c, bP_neg (show ¬ a = b from fun e => c (by simp [e]))]
  have hrows : a.rows = b.rows := take_all hr (by omega) ht
  have hi2 : ¬ i < a.rows.length := by omega
  simp [h2, h3, h34, hi, hi2, bP_pos (dfa_ext hparts hrows hc)]
end Go.Proofs.Ytibeeohnjabhkaa.R

open Go Go.Proofs.Ytibeeohnjabhkaa.T
namespace Go.Proofs.Ytibeeohnjabhkaa.R
set_option maxHeartbeats 8000000
set_option maxRecDepth 100000
set_option linter.unusedSimpArgs false
set_option linter.unusedVariables false
attribute [local simp] bsV bsRows chunk fillT partsT appV makeV rowsOf cellsOf placeOf frzT frz1
theorem tcr_DrawDfaNext (b : List UInt8) (hb : b.length ≤ 1048576) : TCR Try.prog 23 [.ro (b.map encU)] [] (fun r o => ∃ (d : Dfa) (s t : Int), DB d ∧ r = .tup [.agg (encDfa d), .val (.int .i64 s), .val (.int .i64 t)] ∧ (-1 ≤ s ∧ s ≤ 41) ∧ (-1 ≤ t ∧ t ≤ 256) ∧ o = []) := by
  refine TCR.enter Try.func23 rfl (by simp [Try.ntmps23]) rfl (tw_sound (ρ := []) ?_)
  rw [Try.ntmps23]
  simp
  refine gall_intro fun q2 g2 => ?_
  simp
  refine TWoH.call (tc_l15Open b hb) callable_43 (by simp) (by simp [rdr, ← List.map_take]) (by simp) fun q hq => ?_
  have l2 : q2 < q := over hq (t := .box 27 [.val (.slice none 0 0), .val (.slice none 0 0), .val (.slice none 0 0)]) (by simp)
  have fq : ¬ q = q2 ∧ ¬ q2 = q := by omega
  clear hq l2
  have hbt : (b.take 2000).length ≤ 2000 := by simp; omega
  simp [rdr, fq]
  refine TWoH.lendR [q] (tcr_l7BentR (b.take 2000) 0 hbt (by omega)) callable_42 (by simp [List.findIdx?_cons, fq]) (by simp [rdr, fq]) (by simp) (by simp) ?_
  rintro r o ⟨d, p1, hd, rfl, hp1, rfl⟩
  refine ⟨by simp [rdr], by simp, .inl (by simp [List.findIdx?_cons, fq]), fun q3 hq3 => ?_⟩
  clear hq3
  have hrw := hd.rows
  have hwr : IntKind.i64.wrap ((d.rows.length : Int) + 2) = d.rows.length + 2 := wrapi (by omega)
  simp [fq, encDfa]
  refine gall_fresh [q2, q] (by simp [fq]) fun c fc => ?_
  simp [frF] at fc
  simp [fq, fc, hwr]
  refine TWoH.lendR [q] (tcr_pick (b.take 2000) p1 (d.rows.length + 2) hbt (by omega)) callable_51 (by simp [List.findIdx?_cons, fq, fc]) (by simp [fq, fc]) (by simp) (by simp) ?_
  rintro r o ⟨k1, rfl, k10, k11, rfl⟩
  refine ⟨by simp [rdr], by simp, .inl (by simp [List.findIdx?_cons, fq, fc]), fun q4 hq4 => ?_⟩
  clear hq4
  have hk1 := k11 (by omega)
  have hws : IntKind.i64.wrap (k1 - 1) = k1 - 1 := wrapi (by omega)
  simp [fq, fc, hws]
  refine TWcH.midB (ρ := []) (fun st => ∃ (t : Int), (-1 ≤ t ∧ t ≤ 256) ∧ st.σ 2 = .pd q2 0 0 0 ∧ st.H q2 = some (.box 27 (encDfa d)) ∧ st.σ 3 = .val (.int .i64 (k1 - 1)) ∧ st.σ 4 = .val (.int .i64 t))
    (.first 1 (.first 2 (.pick 0 (.pick 3 (.pick 4 (.pick 5 (.first 6 (.first 7 .fin)) .fin) .fin) .fin) (.pick 3 (.pick 0 (.pick 4 (.pick 5 (.first 6 (.first 7 .fin)) .fin) .fin) (.pick 4 (.pick 0 (.pick 5 (.first 6 (.first 7 .fin)) .fin) .fin) .fin)) .fin)))) mixed (by kernel_rfl) ?_ ?_
  case refine_2 =>
    rintro ⟨σ, H⟩ ⟨t, ht, h2, H2, h3, h4⟩
    simp only at h2 H2 h3 h4
    simp [h2, H2, h3, h4, encDfa]
    exact ⟨d, hd, k1 - 1, t, ⟨⟨rfl, rfl, rfl⟩, rfl, rfl⟩, by omega, by omega, by omega⟩
  simp [fq, fc, hwr]
  refine ⟨?_, ?_⟩
  all_goals
    refine gall_fresh [q2, q, c] (by simp [fq, fc]) fun i3 fi3 => ?_
    simp [frF] at fi3
    simp [fq, fc, fi3]
  rotate_left 1
  refine And.intro ?_ ?_
  all_goals
    refine TWoH.turn (Turn.freeze i3 (t := .own 3 (([97, 98, 99, 0, 255, -1, 256] : List Int).map encI)) (by simp [encI, fq, fc, fi3]) ?_)
    refine TWoH.lendR [q] (tcr_num (b.take 2000) (p1 + 1) [97, 98, 99, 0, 255, -1, 256] hbt (by omega) (by simp) (by simp)) callable_57 (by simp [List.findIdx?_cons, fq, fc, fi3, encI]) (by simp [fq, fc, fi3, del]) (by simp) (by simp) ?_
    rintro r o ⟨x, hx, rfl, rfl⟩
    refine ⟨by simp [rdr], by simp, .inl (by simp [List.findIdx?_cons, fq, fc, fi3]), fun q' hq => ?_⟩
    clear hq
    simp only [List.mem_cons, List.not_mem_nil, or_false] at hx
    simp [fq, fc, fi3, del, encDfa]
    omega
end Go.Proofs.Ytibeeohnjabhkaa.R

open Go Go.Proofs.Ytibeeohnjabhkaa.T
namespace Go.Proofs.Ytibeeohnjabhkaa.R
set_option maxHeartbeats 8000000
set_option maxRecDepth 100000
set_option linter.unusedSimpArgs false
set_option linter.unusedVariables false
attribute [local simp] bsV bsRows chunk fillT partsT appV makeV rowsOf cellsOf placeOf frzT frz1
theorem fzI (k : Nat) (r : TV) : ((fun row => List.map (frz1 k r) row) ∘ encI) = encI := by funext x; simp [encI]
theorem fzI1 (k : Nat) (r : TV) (x : Int) : List.map (frz1 k r) (encI x) = encI x := by simp [encI]
theorem fz_rdr (k : Nat) (r : TV) (b : List UInt8) (p : Nat) : frzO k r (rdr b p) = rdr b p := by simp [rdr, frzO]
theorem tcr_l7BentA (b : List UInt8) (p : Nat) (hb : b.length ≤ 2000) (hp : p ≤ 790000000) : TCR Try.prog 42 [.pd 0 0 0 0] [rdr b p] (fun r o => ∃ (d : Dfa) (p' : Nat), DB d ∧ r = .agg [.ro (d.parts.map encP), .ro (d.rows.map encR), .own 3 (d.acc.map encI)] ∧ p' ≤ p + 1110 ∧ o = [rdr b p']) := by
  refine TCR.enter Try.func42 rfl (by simp [Try.ntmps42]) rfl (TWc.postT (tw_sound (ρ := []) ?_))
  rw [Try.ntmps42]
  simp
  refine gall_fresh [0] (by simp) fun q2 f2 => ?_
  simp [frF] at f2
  simp [f2]
  refine TWoH.lendR [0] (tcr_l7Any b p hb (by omega)) callable_75 (by simp [List.findIdx?_cons, f2]) (by simp [f2]) (by simp) (by simp) ?_
  rintro r o ⟨d, p1, hd, rfl, hp1, rfl⟩
  refine ⟨by simp [rdr], by simp [macO], .inl (by simp [List.findIdx?_cons, f2]), fun k hk => ?_⟩
  have l2 : q2 < k := over hk (t := .box 27 [.val (.slice none 0 0), .val (.slice none 0 0), .val (.slice none 0 0)]) (by simp [f2])
  have fk : (¬ k = 0 ∧ ¬ 0 = k) ∧ (¬ k = q2 ∧ ¬ q2 = k) ∧ (¬ k + 1 = 0 ∧ ¬ 0 = k + 1) ∧ (¬ k + 1 = q2 ∧ ¬ q2 = k + 1) := by omega
  clear hk l2
  obtain ⟨ps, rows, acc⟩ := d
  simp [f2, fk, macO]
  refine gall_fresh [0, q2, k, k + 1] (by simp [f2, fk]) fun c3 f3 => ?_
  simp [frF] at f3
  simp [f2, fk, f3]
  refine TWoH.lendR [0] (tcr_pick b p1 48 hb (by omega)) callable_51 (by simp [List.findIdx?_cons, f2, fk, f3]) (by simp [f2, fk, f3]) (by simp) (by simp) ?_
  rintro r o ⟨n, rfl, n0, n1, rfl⟩
  refine ⟨by simp [rdr], by simp, .inl (by simp [List.findIdx?_cons, f2, fk, f3]), fun q' hq => ?_⟩
  clear hq
  obtain ⟨⟨dr1, dr2⟩, da, ⟨dp1, dp2⟩, dpt, drw⟩ := hd
  simp only at dr1 dr2 da dp1 dp2 dpt drw
  by_cases e0 : n = 0
  · simp [f2, fk, f3, e0]
    refine Turn.zr q2 (t := .box 27 [.ro (ps.map encP), .sl k 1 0 0, .hd (k + 1)]) (by simp [f2, fk, f3, del]) ?_
    simp [f2, fk, f3, e0, del, zrO, zr1]
    exact ⟨_, _, ⟨rfl, rfl⟩, by simp, by simp [f2, fk, f3, del], ⟨ps, [], acc⟩, DB.of dp2 dpt (by simp) (by simp) (by omega), by simp [encDfa], p1 + 1, by omega, by simp [f2, fk, f3, del]⟩
  by_cases e1 : n = 1
  · simp [f2, fk, f3, e0, e1]
    refine TWcH.midB (ρ := []) (fun st => ∃ (x : Int), st.σ 0 = .pd 0 0 0 0 ∧ st.H 0 = some (rdr b (p1 + 2)) ∧ st.σ 2 = .pd q2 0 0 0 ∧ st.H q2 = some (.box 27 [.val (.slice none 0 0), .val (.slice none 0 0), .val (.slice none 0 0)]) ∧ st.σ 3 = .pd c3 0 0 0 ∧ st.H c3 = some (.box 27 [.ro (ps.map encP), .hd k, .hd (k + 1)]) ∧ st.H k = some (.own 25 (rows.map oR)) ∧ st.H (k + 1) = some (.own 3 ((acc.set 0 x).map encI)))
      (.first 0 (.first 2 (.pick 1 (.pick 3 (.pick 4 (.first 5 (.pick 6 .fin .fin)) .fin) .fin) (.pick 3 (.pick 1 (.pick 4 (.first 5 (.pick 6 .fin .fin)) .fin) (.pick 4 (.pick 1 (.first 5 (.pick 6 .fin .fin)) .fin) .fin)) .fin)))) mixed (by kernel_rfl) ?_ ?_
    case refine_2 =>
      rintro ⟨σ, H⟩ ⟨x, h0, H0, h2, H2, h3, Hc, K1, K2⟩
      simp only at h0 H0 h2 H2 h3 Hc K1 K2
      have hA : (acc.set 0 x).length ≤ 40 := by simp; omega
      generalize acc.set 0 x = A at K2 hA
      simp [h0, H0, h2, H2, h3, Hc, K1, K2, f2, fk, f3]
      refine Turn.freezeA k (t := .own 25 (rows.map oR)) (by simp [f2, fk, f3, del, h0, H0, h2, H2, h3, Hc, K1, K2]) ?_
      simp [frzO.eq_1, frzO.eq_2, fzI, fzI1, fz_rdr, h0, H0, h2, H2, h3, Hc, K1, K2, f2, fk, f3, del]
      exact ⟨_, _, ⟨rfl, rfl⟩, by simp, by simp [frzO.eq_1, frzO.eq_2, fzI, fzI1, fz_rdr, f2, fk, f3, del, H0], ⟨ps, rows, A⟩, DB.of dp2 dpt dr2 drw hA, by simp [frzO.eq_1, frzO.eq_2, fzI, fzI1, fz_rdr, encDfa], p1 + 2, by omega, by simp [frzO.eq_1, frzO.eq_2, fzI, fzI1, fz_rdr, f2, fk, f3, del, H0]⟩
    simp [f2, fk, f3, e0, e1]
    have hal : 0 < acc.length := by omega
    refine ⟨?_, ?_⟩
    · refine gall_fresh [0, q2, c3, k, k + 1] (by simp [f2, fk, f3]) fun i3 fi3 => ?_
      simp [frF] at fi3
      simp [f2, fk, f3, fi3]
      refine TWoH.turn (Turn.freeze i3 (t := .own 3 (([-2, 5] : List Int).map encI)) (by simp [encI, f2, fk, f3, fi3]) ?_)
      refine TWoH.lendR [0] (tcr_num b (p1 + 1) [-2, 5] hb (by omega) (by simp) (by simp)) callable_57 (by simp [List.findIdx?_cons, f2, fk, f3, fi3, encI]) (by simp [f2, fk, f3, fi3, del]) (by simp) (by simp) ?_
      rintro r o ⟨x, hx, rfl, rfl⟩
      refine ⟨by simp [rdr], by simp, .inl (by simp [List.findIdx?_cons, f2, fk, f3, fi3]), fun q' hq => ?_⟩
      clear hq
      simp [f2, fk, f3, fi3, del, hal]
      exact ⟨x, by simp [encI]⟩
    · refine gall_fresh [0, q2, c3, k, k + 1] (by simp [f2, fk, f3]) fun i3 fi3 => ?_
      simp [frF] at fi3
      simp [f2, fk, f3, fi3]
      refine ⟨?_, ?_⟩
      · refine TWoH.turn (Turn.freeze i3 (t := .own 3 (([-2, 5] : List Int).map encI)) (by simp [encI, f2, fk, f3, fi3]) ?_)
        refine TWoH.lendR [0] (tcr_num b (p1 + 1) [-2, 5] hb (by omega) (by simp) (by simp)) callable_57 (by simp [List.findIdx?_cons, f2, fk, f3, fi3, encI]) (by simp [f2, fk, f3, fi3, del]) (by simp) (by simp) ?_
        rintro r o ⟨x, hx, rfl, rfl⟩
        refine ⟨by simp [rdr], by simp, .inl (by simp [List.findIdx?_cons, f2, fk, f3, fi3]), fun q' hq => ?_⟩
        clear hq
        simp [f2, fk, f3, fi3, del, hal]
        exact ⟨x, by simp [encI]⟩
      · refine TWoH.turn (Turn.freeze i3 (t := .own 3 (([-2, 5] : List Int).map encI)) (by simp [encI, f2, fk, f3, fi3]) ?_)
        refine TWoH.lendR [0] (tcr_num b (p1 + 1) [-2, 5] hb (by omega) (by simp) (by simp)) callable_57 (by simp [List.findIdx?_cons, f2, fk, f3, fi3, encI]) (by simp [f2, fk, f3, fi3, del]) (by simp) (by simp) ?_
        rintro r o ⟨x, hx, rfl, rfl⟩
        refine ⟨by simp [rdr], by simp, .inl (by simp [List.findIdx?_cons, f2, fk, f3, fi3]), fun q' hq => ?_⟩
        clear hq
        simp [f2, fk, f3, fi3, del, hal]
        exact ⟨x, by simp [encI]⟩
  by_cases e2 : n = 2
  · obtain ⟨row, rows', rfl⟩ : ∃ row rows', rows = row :: rows' := by cases rows with
      | nil => simp at dr1
      | cons a l => exact ⟨a, l, rfl⟩
    simp [f2, fk, f3, e0, e1, e2]
    refine TWc.unfold1 (id := k) (E := 25) (E1 := 3) (r := 0) (c1 := 0) (rows := (row :: rows').map oR) (rows1 := row.map encI) (row := oR row) (by simp [f2, fk, f3]) (by simp) (by simp [oR]) fun k9 H' h9 n9 a9 b9 c9 => ?_
    have n9' : ¬ k9 = k := fun e => n9 e.symm
    have u0 : ¬ k9 = 0 := fun e => by rw [e] at h9; simp [f2, fk, f3] at h9
    have u2 : ¬ k9 = q2 := fun e => by rw [e] at h9; simp [f2, fk, f3] at h9
    have u3 : ¬ k9 = c3 := fun e => by rw [e] at h9; simp [f2, fk, f3] at h9
    have u1 : ¬ k9 = k + 1 := fun e => by rw [e] at h9; simp [f2, fk, f3] at h9
    have v0 : ¬ 0 = k9 := fun e => u0 e.symm
    have v2 : ¬ q2 = k9 := fun e => u2 e.symm
    have v3 : ¬ c3 = k9 := fun e => u3 e.symm
    have v1 : ¬ k + 1 = k9 := fun e => u1 e.symm
    have H0 : H' 0 = some (rdr b (p1 + 1)) := by rw [c9 0 (by simp [f2, fk, f3]) v0]; simp [f2, fk, f3]
    have H2 : H' q2 = some (.box 27 [.val (.slice none 0 0), .val (.slice none 0 0), .val (.slice none 0 0)]) := by rw [c9 q2 (by simp [f2, fk, f3]) v2]; simp [f2, fk, f3]
    have H3 : H' c3 = some (.box 27 [.ro (ps.map encP), .hd k, .hd (k + 1)]) := by rw [c9 c3 (by simp [f2, fk, f3]) v3]; simp [f2, fk, f3]
    have H4 : H' (k + 1) = some (.own 3 (acc.map encI)) := by rw [c9 (k + 1) (by simp [f2, fk, f3]) v1]; simp [f2, fk, f3]
    clear c9 h9
    simp [oR] at a9
    have hrow := drw row (by simp)
    have hrw : 0 < row.length := by omega
    refine TWcH.regionD (ρ := []) [0, 1, 2, 3, 4, 5, 6, 7, 8] 8 mixed (by kernel_rfl) ?_
    simp [f2, fk, f3, n9, n9', u0, u1, u2, u3, v0, v1, v2, v3, H0, H2, H3, H4, a9, b9, hrw]
    generalize hN : (rows'.length : Int) + 1 = NN
    refine Turn.then (Turn.shift (Shift.fold1x k k9 25 0 0 ([.hd k9] :: rows'.map oR) [.hd k9] (.own 3 ((row.set 0 NN).map encI)) n9 (by simp [f2, fk, f3, n9, n9', u0, u1, u2, u3, v0, v1, v2, v3, H0, H2, H3, H4, a9, b9, hrw]) (by simp) (by simp) (by simp [f2, fk, f3, n9, n9', u0, u1, u2, u3, v0, v1, v2, v3, H0, H2, H3, H4, a9, b9, hrw, encI])) ?_)
    have hlr : 1 ≤ (row.set 0 NN).length ∧ (row.set 0 NN).length ≤ 65536 := by simp; omega
    generalize row.set 0 NN = row2 at hlr
    refine Turn.freezeA k (t := .own 25 ((row2 :: rows').map oR)) (by simp [f2, fk, f3, n9, n9', u0, u1, u2, u3, v0, v1, v2, v3, H0, H2, H3, H4, a9, b9, hrw, del, oR]) ?_
    simp [frzO.eq_1, frzO.eq_2, fzI, fzI1, fz_rdr, f2, fk, f3, n9, n9', u0, u1, u2, u3, v0, v1, v2, v3, H0, H2, H3, H4, a9, b9, hrw, del]
    exact ⟨_, _, ⟨rfl, rfl⟩, by simp, by simp [frzO.eq_1, frzO.eq_2, fzI, fzI1, fz_rdr, f2, fk, f3, n9, n9', u0, u1, u2, u3, v0, v1, v2, v3, H0, H2, H3, H4, a9, b9, hrw, del], ⟨ps, row2 :: rows', acc⟩, DB.of dp2 dpt (by simpa using dr2) (by intro r hr; rcases List.mem_cons.1 hr with h | h; exact h ▸ hlr; exact drw r (by simp [frzO.eq_1, frzO.eq_2, fzI, fzI1, fz_rdr, h])) (by omega), by simp [frzO.eq_1, frzO.eq_2, fzI, fzI1, fz_rdr, encDfa, oR, encR], p1 + 1, by omega, by simp [frzO.eq_1, frzO.eq_2, fzI, fzI1, fz_rdr, f2, fk, f3, n9, n9', u0, u1, u2, u3, v0, v1, v2, v3, H0, H2, H3, H4, a9, b9, hrw, del]⟩
  by_cases e3 : n = 3
  · have hp1' : (1 : Int) ≤ ps.length := by omega
    have et : (List.take ps.length (ps.map encP)).tail = ps.tail.map encP := by rw [List.take_of_length_le (by simp), List.map_tail]
    have htl : ∀ x ∈ ps.tail, x.length ≤ 256 := fun x hx => dpt x (List.mem_of_mem_tail hx)
    have htn : ps.tail.length ≤ 65536 := by simp; omega
    generalize ps.tail = pt at et htl htn
    simp [f2, fk, f3, e0, e1, e2, e3, hp1', et]
    refine Turn.freezeA k (t := .own 25 (rows.map oR)) (by simp [f2, fk, f3, del]) ?_
    simp [frzO.eq_1, frzO.eq_2, fzI, fzI1, fz_rdr, f2, fk, f3, del]
    exact ⟨_, _, ⟨rfl, rfl⟩, by simp, by simp [frzO.eq_1, frzO.eq_2, fzI, fzI1, fz_rdr, f2, fk, f3, del], ⟨pt, rows, acc⟩, DB.of htn htl dr2 drw (by omega), by simp [frzO.eq_1, frzO.eq_2, fzI, fzI1, fz_rdr, encDfa], p1 + 1, by omega, by simp [frzO.eq_1, frzO.eq_2, fzI, fzI1, fz_rdr, f2, fk, f3, del]⟩
  · simp [f2, fk, f3, e0, e1, e2, e3]
    refine Turn.freezeA k (t := .own 25 (rows.map oR)) (by simp [f2, fk, f3, del]) ?_
    simp [frzO.eq_1, frzO.eq_2, fzI, fzI1, fz_rdr, f2, fk, f3, del]
    exact ⟨_, _, ⟨rfl, rfl⟩, by simp, by simp [frzO.eq_1, frzO.eq_2, fzI, fzI1, fz_rdr, f2, fk, f3, del], ⟨ps, rows, acc⟩, DB.of dp2 dpt dr2 drw (by omega), by simp [frzO.eq_1, frzO.eq_2, fzI, fzI1, fz_rdr, encDfa], p1 + 1, by omega, by simp [frzO.eq_1, frzO.eq_2, fzI, fzI1, fz_rdr, f2, fk, f3, del]⟩
end Go.Proofs.Ytibeeohnjabhkaa.R

open Go Go.Proofs.Ytibeeohnjabhkaa.T
namespace Go.Proofs.Ytibeeohnjabhkaa.R
set_option maxHeartbeats 8000000
set_option maxRecDepth 100000
set_option linter.unusedSimpArgs false
set_option linter.unusedVariables false
attribute [local simp] bsV bsRows chunk fillT partsT appV makeV rowsOf cellsOf placeOf frzT frz1
theorem tcr_DrawDfaSame (b : List UInt8) (hb : b.length ≤ 1048576) : TCR Try.prog 27 [.ro (b.map encU)] [] (fun r o => ∃ (x y : Dfa), DB x ∧ DB y ∧ r = .tup [.agg (encDfa x), .agg (encDfa y)] ∧ o = []) := by
  refine TCR.enter Try.func27 rfl (by simp [Try.ntmps27]) rfl (tw_sound (ρ := []) ?_)
  rw [Try.ntmps27]
  simp
  refine gall_intro fun q2 g2 => ?_
  clear g2
  simp
  refine gall_fresh [q2] (by simp) fun q3 f3 => ?_
  simp [frF] at f3
  simp [f3]
  refine TWoH.call (tc_l15Open b hb) callable_43 (by simp) (by simp [rdr, ← List.map_take]) (by simp) fun q hq => ?_
  have fq := frF_ge hq [q2, q3] (by simp [f3])
  clear hq
  simp [frF] at fq
  have hbt : (b.take 2000).length ≤ 2000 := by simp; omega
  simp [rdr, f3, fq]
  refine TWoH.lendR [q] (tcr_l7BentR (b.take 2000) 0 hbt (by omega)) callable_42 (by simp [List.findIdx?_cons, f3, fq]) (by simp [rdr, f3, fq]) (by simp) (by simp) ?_
  rintro r o ⟨x, p1, hx, rfl, hp1, rfl⟩
  refine ⟨by simp [rdr], by simp, .inl (by simp [List.findIdx?_cons, f3, fq]), fun q4 hq4 => ?_⟩
  clear hq4
  simp [f3, fq, encDfa]
  refine gall_fresh [q2, q3, q] (by simp [f3, fq]) fun c4 f4 => ?_
  simp [frF] at f4
  simp [f3, fq, f4]
  refine TWoH.call (tc_l15Open b hb) callable_43 (by simp) (by simp [rdr, ← List.map_take]) (by simp) fun u hu => ?_
  have fu := frF_ge hu [q2, q3, q, c4] (by simp [f3, fq, f4])
  clear hu
  simp [frF] at fu
  simp [rdr, f3, fq, f4, fu]
  refine TWoH.lendR [u] (tcr_l7BentA (b.take 2000) 0 hbt (by omega)) callable_42 (by simp [List.findIdx?_cons, f3, fq, f4, fu]) (by simp [rdr, f3, fq, f4, fu]) (by simp) (by simp) ?_
  rintro r o ⟨y, p2, hy, rfl, hp2, rfl⟩
  refine ⟨by simp [rdr], by simp, .inl (by simp [List.findIdx?_cons, f3, fq, f4, fu]), fun k hk => ?_⟩
  have fk := frF_ge hk [q2, q3, q, c4, u] (by simp [f3, fq, f4, fu])
  clear hk
  simp [frF] at fk
  simp [f3, fq, f4, fu, fk, encDfa]
  refine gall_fresh [q2, q3, q, c4, u, k] (by simp [f3, fq, f4, fu, fk]) fun c5 f5 => ?_
  simp [frF] at f5
  simp [f3, fq, f4, fu, fk, f5]
  have fin : ∀ A : List Int, A.length ≤ 1048576 → DB ⟨y.parts, y.rows, A⟩ := fun A hA => ⟨⟨hy.sm.parts, hy.sm.rows, hA, hy.sm.part, hy.sm.row⟩, hy.rows⟩
  have hya := hy.sm.acc
  by_cases c0 : 0 < b.length
  case neg =>
    simp [c0, f3, fq, f4, fu, fk, f5]
    refine TWcH.turn (Turn.freezeA k (t := .own 3 (y.acc.map encI)) (by simp [f3, fq, f4, fu, fk, f5]) ?_)
    refine TWcH.midB (ρ := []) (fun st => st.σ 2 = .pd q2 0 0 0 ∧ st.H q2 = some (.box 27 (encDfa x)) ∧ st.σ 3 = .pd q3 0 0 0 ∧ st.H q3 = some (.box 27 (encDfa y)))
      (.pick 0 (.pick 1 (.pick 2 (.pick 3 .fin .fin) .fin) (.pick 2 (.pick 1 (.pick 3 .fin .fin) .fin) .fin)) (.pick 1 (.pick 0 (.pick 2 (.pick 3 .fin .fin) .fin) .fin) .fin)) mixed (by kernel_rfl) ?_ ?_
    case refine_2 =>
      rintro ⟨σ, H⟩ ⟨h2, H2, h3, H3⟩
      simp only at h2 H2 h3 H3
      simp [h2, H2, h3, H3, f3, encDfa, del]
      exact ⟨x, hx, y, hy, by simp [encDfa]⟩
    simp [frzO.eq_1, frzO.eq_2, fzI, fzI1, fz_rdr, f3, fq, f4, fu, fk, f5, del, encDfa]
  obtain ⟨M, hM⟩ : ∃ M : Bool, decide (Int.tmod (b[0].toNat : Int) 2 = 1) = M := ⟨_, rfl⟩
  cases M
  case false =>
    simp at hM
    simp [c0, f3, fq, f4, fu, fk, f5, encU, hM]
    refine TWcH.turn (Turn.freezeA k (t := .own 3 (y.acc.map encI)) (by simp [f3, fq, f4, fu, fk, f5]) ?_)
    refine TWcH.midB (ρ := []) (fun st => st.σ 2 = .pd q2 0 0 0 ∧ st.H q2 = some (.box 27 (encDfa x)) ∧ st.σ 3 = .pd q3 0 0 0 ∧ st.H q3 = some (.box 27 (encDfa y)))
      (.pick 0 (.pick 1 (.pick 2 (.pick 3 .fin .fin) .fin) (.pick 2 (.pick 1 (.pick 3 .fin .fin) .fin) .fin)) (.pick 1 (.pick 0 (.pick 2 (.pick 3 .fin .fin) .fin) .fin) .fin)) mixed (by kernel_rfl) ?_ ?_
    case refine_2 =>
      rintro ⟨σ, H⟩ ⟨h2, H2, h3, H3⟩
      simp only at h2 H2 h3 H3
      simp [h2, H2, h3, H3, f3, encDfa, del]
      exact ⟨x, hx, y, hy, by simp [encDfa]⟩
    simp [frzO.eq_1, frzO.eq_2, fzI, fzI1, fz_rdr, f3, fq, f4, fu, fk, f5, del, encDfa]
  simp at hM
  by_cases c1 : 0 < y.acc.length
  case neg =>
    simp [c0, f3, fq, f4, fu, fk, f5, encU, hM, c1]
    refine TWcH.turn (Turn.freezeA k (t := .own 3 (y.acc.map encI)) (by simp [f3, fq, f4, fu, fk, f5]) ?_)
    refine TWcH.midB (ρ := []) (fun st => st.σ 2 = .pd q2 0 0 0 ∧ st.H q2 = some (.box 27 (encDfa x)) ∧ st.σ 3 = .pd q3 0 0 0 ∧ st.H q3 = some (.box 27 (encDfa y)))
      (.pick 0 (.pick 1 (.pick 2 (.pick 3 .fin .fin) .fin) (.pick 2 (.pick 1 (.pick 3 .fin .fin) .fin) .fin)) (.pick 1 (.pick 0 (.pick 2 (.pick 3 .fin .fin) .fin) .fin) .fin)) mixed (by kernel_rfl) ?_ ?_
    case refine_2 =>
      rintro ⟨σ, H⟩ ⟨h2, H2, h3, H3⟩
      simp only at h2 H2 h3 H3
      simp [h2, H2, h3, H3, f3, encDfa, del]
      exact ⟨x, hx, y, hy, by simp [encDfa]⟩
    simp [frzO.eq_1, frzO.eq_2, fzI, fzI1, fz_rdr, f3, fq, f4, fu, fk, f5, del, encDfa]
  simp [c0, f3, fq, f4, fu, fk, f5, encU, hM, c1]
  refine TWcH.regionD (ρ := []) [0, 1, 2, 3, 4, 5, 6, 7, 8] 8 mixed (by kernel_rfl) ?_
  obtain ⟨A, hA⟩ : ∃ A : List Int, A = y.acc.set 0 (IntKind.i64.wrap (y.acc[0] + 1)) := ⟨_, rfl⟩
  have hAs : (y.acc.map encI).set 0 [TV.val (.int .i64 (IntKind.i64.wrap (y.acc[0] + 1)))] = A.map encI := by rw [hA, List.map_set]; rfl
  have hAl : A.length ≤ 1048576 := by rw [hA]; simpa using hya
  simp [f3, fq, f4, fu, fk, f5, c1, encI]
  simp [hAs]
  refine TWcH.turn (Turn.freezeA k (t := .own 3 (A.map encI)) (by simp [f3, fq, f4, fu, fk, f5, hAs]) ?_)
  refine TWcH.midB (ρ := []) (fun st => st.σ 2 = .pd q2 0 0 0 ∧ st.H q2 = some (.box 27 (encDfa x)) ∧ st.σ 3 = .pd q3 0 0 0 ∧ st.H q3 = some (.box 27 (encDfa ⟨y.parts, y.rows, A⟩)))
    (.pick 0 (.pick 1 (.pick 2 (.pick 3 .fin .fin) .fin) (.pick 2 (.pick 1 (.pick 3 .fin .fin) .fin) .fin)) (.pick 1 (.pick 0 (.pick 2 (.pick 3 .fin .fin) .fin) .fin) .fin)) mixed (by kernel_rfl) ?_ ?_
  case refine_2 =>
    rintro ⟨σ, H⟩ ⟨h2, H2, h3, H3⟩
    simp only at h2 H2 h3 H3
    simp [h2, H2, h3, H3, f3, encDfa, del]
    exact ⟨x, hx, ⟨y.parts, y.rows, A⟩, fin A hAl, by simp [encDfa]⟩
  simp [frzO.eq_1, frzO.eq_2, fzI, fzI1, fz_rdr, f3, fq, f4, fu, fk, f5, del, encDfa]
end Go.Proofs.Ytibeeohnjabhkaa.R
