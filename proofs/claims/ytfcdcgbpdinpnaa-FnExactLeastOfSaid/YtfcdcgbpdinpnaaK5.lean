/- Part 5: what the walk of the code stands on. Conditions: none but those that each theorem states. -/
import Derived.Test.YtfcdcgbpdinpnaaK4
open Go Go.Proofs.Ytfcdcgbpdinpnaa.T
namespace Go.Proofs.Ytfcdcgbpdinpnaa.R
set_option maxHeartbeats 4000000
set_option maxRecDepth 100000
set_option linter.unusedSimpArgs false
set_option linter.unusedVariables false
/-- Two states, and a text with which one comes to them. -/
structure Pr where
  s : Int
  t : Int
  w : List UInt8
def nx (d : Dfa) (s : Int) (k : Nat) : Int := if s < 0 then -1 else ((rw_ d s.toNat)[k]?).getD (-1)
def acI (d : Dfa) (s : Int) : Int := if s < 0 then -1 else ac_ d s.toNat
def fb (d : Dfa) (k : Nat) : UInt8 := UInt8.ofNat (firstS (pt d.parts k)).toNat
def hadP (ps : List Pr) (x y : Int) : Bool := ps.any fun p => decide (p.s = x) && decide (p.t = y)
def stepK (d : Dfa) (x : Pr) (ps : List Pr) (k : Nat) : List Pr := if hadP ps (nx d x.s k) (nx d x.t k) = true then ps else ps ++ [⟨nx d x.s k, nx d x.t k, x.w ++ [fb d k]⟩]
def roundP (d : Dfa) (x : Pr) (k : Nat) (ps : List Pr) : List Pr := (List.range' k (d.parts.length - k)).foldl (stepK d x) ps
theorem roundP_next {d : Dfa} {x : Pr} {k : Nat} {ps : List Pr} (h : k < d.parts.length) : roundP d x k ps = roundP d x (k + 1) (stepK d x ps k) := by
  unfold roundP
  rw [show d.parts.length - k = (d.parts.length - (k + 1)) + 1 by omega, List.range'_succ]; rfl
theorem roundP_end {d : Dfa} {x : Pr} {k : Nat} {ps : List Pr} (h : ¬ k < d.parts.length) : roundP d x k ps = ps := by
  unfold roundP
  rw [show d.parts.length - k = 0 by omega]; rfl
def twoGo (d : Dfa) : Nat → Nat → List Pr → Bool × List UInt8
  | 0, _, _ => (true, [])
  | f + 1, i, ps => match ps[i]? with
    | none => (true, [])
    | some x => if acI d x.s = acI d x.t then twoGo d f (i + 1) (roundP d x 0 ps) else (false, x.w)
def twoF (d : Dfa) (s t : Int) : Bool × List UInt8 := if dfaOk d = true ∧ (0 ≤ s ∧ s < d.rows.length) ∧ (0 ≤ t ∧ t < d.rows.length) then twoGo d 1682 0 [⟨s, t, []⟩] else (false, [])
structure PInv (d : Dfa) (ps : List Pr) : Prop where
  nod : ps.Pairwise fun p q => ¬ (p.s = q.s ∧ p.t = q.t)
  rng : ∀ p ∈ ps, (-1 ≤ p.s ∧ p.s < d.rows.length) ∧ (-1 ≤ p.t ∧ p.t < d.rows.length)
  wl : ∀ p ∈ ps, p.w.length < ps.length
theorem nodup_le : ∀ (N : Nat) (l : List Nat), l.Nodup → (∀ x ∈ l, x < N) → l.length ≤ N
  | 0, l, _, h => by
    cases l with
    | nil => simp
    | cons a l => exact absurd (h a (by simp)) (by omega)
  | N + 1, l, hn, h => by
    have h1 := nodup_le N (l.erase N) (hn.erase N) fun x hx => by
      obtain ⟨h2, h3⟩ := (hn.mem_erase_iff).1 hx
      have := h x h3; omega
    have := List.length_erase (l := l) (a := N)
    split at this <;> omega
theorem PInv.len {d : Dfa} (ho : DOk d) {ps : List Pr} (h : PInv d ps) : ps.length ≤ 1681 := by
  have hm := ho.most
  have := nodup_le 1681 (ps.map fun p => (p.s + 1).toNat * 41 + (p.t + 1).toNat) (by
    unfold List.Nodup
    rw [List.pairwise_map]
    refine h.nod.imp_of_mem fun {a b} ha hb hne e => hne ?_
    have h1 := h.rng a ha
    have h2 := h.rng b hb
    omega) (by
    intro x hx
    obtain ⟨p, hp, rfl⟩ := List.mem_map.1 hx
    have h1 := h.rng p hp
    omega)
  simpa using this
theorem nx_ok {d : Dfa} (ho : DOk d) {s : Int} {k : Nat} (h2 : s < d.rows.length) (hk : k < d.parts.length) : -1 ≤ nx d s k ∧ nx d s k < d.rows.length := by
  have := ho.one
  unfold nx
  split
  · omega
  · have hs : s.toNat < d.rows.length := by omega
    have hkr : k < (rw_ d s.toNat).length := by rw [ho.row _ hs]; exact hk
    rw [getI hkr]
    exact ho.ent _ hs _ (List.getElem_mem hkr)
theorem hadP_false {ps : List Pr} {x y : Int} (h : hadP ps x y = false) : ∀ p ∈ ps, ¬ (p.s = x ∧ p.t = y) := by
  intro p hp e
  unfold hadP at h
  rw [List.any_eq_false] at h
  have := h p hp
  simp [e] at this
theorem PInv.step {d : Dfa} (ho : DOk d) {ps : List Pr} (h : PInv d ps) {x : Pr} (hx : x ∈ ps) {k : Nat} (hk : k < d.parts.length) : PInv d (stepK d x ps k) := by
  unfold stepK
  cases c : hadP ps (nx d x.s k) (nx d x.t k)
  · have hh := hadP_false c
    have hr := h.rng x hx
    simp only [Bool.false_eq_true, if_false]
    refine ⟨?_, ?_, ?_⟩
    · rw [List.pairwise_append]
      refine ⟨h.nod, by simp, fun a ha b hb e => ?_⟩
      simp only [List.mem_singleton] at hb
      subst hb
      exact hh a ha e
    · intro p hp
      rcases List.mem_append.1 hp with hp | hp
      · exact h.rng p hp
      · simp only [List.mem_singleton] at hp
        subst hp
        exact ⟨nx_ok ho hr.1.2 hk, nx_ok ho hr.2.2 hk⟩
    · intro p hp
      rcases List.mem_append.1 hp with hp | hp
      · have := h.wl p hp; simp; omega
      · simp only [List.mem_singleton] at hp
        subst hp
        have := h.wl x hx; simp; omega
  · simpa using h
theorem stepK_at {d : Dfa} {x y : Pr} {ps : List Pr} {k i : Nat} (h : ps[i]? = some y) : (stepK d x ps k)[i]? = some y := by
  unfold stepK
  split
  · exact h
  · obtain ⟨hi, _⟩ := List.getElem?_eq_some_iff.1 h
    rw [List.getElem?_append_left hi]; exact h
theorem PInv.start {d : Dfa} {s t : Int} (hs : 0 ≤ s ∧ s < d.rows.length) (ht : 0 ≤ t ∧ t < d.rows.length) : PInv d [⟨s, t, []⟩] := by
  refine ⟨by simp, ?_, by simp⟩
  intro p hp
  simp only [List.mem_singleton] at hp
  subst hp
  constructor <;> simp <;> omega
theorem twoGo_next {d : Dfa} {f i : Nat} {ps : List Pr} {x : Pr} (h : ps[i]? = some x) : twoGo d (f + 1) i ps = if acI d x.s = acI d x.t then twoGo d f (i + 1) (roundP d x 0 ps) else (false, x.w) := by
  rw [twoGo, h]
theorem twoGo_end {d : Dfa} {f i : Nat} {ps : List Pr} (h : ¬ i < ps.length) : twoGo d f i ps = (true, []) := by
  cases f with
  | zero => rfl
  | succ f => rw [twoGo, List.getElem?_eq_none (by omega)]
/-- What the first byte of a part is. -/
theorem first_part {d : Dfa} (ho : DOk d) {k : Nat} (hk : k < d.parts.length) : ∃ b : Nat, b < 256 ∧ firstS (pt d.parts k) = b ∧ hasS (pt d.parts k) b = true := by
  have h := partsFrom_of ho.parts
  unfold partsFrom at h
  rw [List.all_eq_true] at h
  have hp := h k (by rw [List.mem_range'_1]; omega)
  simp only [partAt, headAt, Bool.and_eq_true, Bool.not_eq_true'] at hp
  obtain ⟨⟨⟨h1, h2⟩, _⟩, _⟩ := hp
  cases hpt : pt d.parts k with
  | nil => rw [hpt] at h2; simp at h2
  | cons x xs =>
    rw [hpt] at h1
    obtain ⟨a1, a2, a3⟩ := setOk_first h1
    refine ⟨x.1.toNat, by omega, by rw [firstS_head h1]; omega, ?_⟩
    simp [hasS]; left; omega
theorem next_first {d : Dfa} (ho : DOk d) {k s : Nat} (hk : k < d.parts.length) {b : Nat} (hb : firstS (pt d.parts k) = b) : nextF d s b = ((rw_ d s)[k]?).getD (-1) := by
  obtain ⟨c, hc, h1, h2⟩ := first_part ho hk
  have e : b = c := by omega
  subst e
  exact next_of_has (partsFrom_of ho.parts) hk hc h2
end Go.Proofs.Ytfcdcgbpdinpnaa.R

open Go Go.Proofs.Ytfcdcgbpdinpnaa.T
namespace Go.Proofs.Ytfcdcgbpdinpnaa.R
set_option maxHeartbeats 4000000
set_option maxRecDepth 100000
set_option linter.unusedSimpArgs false
set_option linter.unusedVariables false
def joinB (p q : List (Int × Int)) (b : Nat) : Bool := hasS p b || hasS q b
def joinS (p q : List (Int × Int)) : List (Int × Int) := if setOk p = true ∧ setOk q = true then spansF (joinB p q) else []
/-- The kind of where one comes to. -/
def kd (ks : List Int) (t : Int) : Int := if t < 0 then -1 else kn ks t.toNat
def findK (ks : List Int) (fs : List Nat) (x : Int) : Option Nat := fs.findIdx? fun s => decide (kn ks s = x)
def stepB (ks : List Int) (fs : List Nat) (t : Int) : List Nat × Int :=
  if kd ks t < 0 then (fs, -1) else match findK ks fs (kd ks t) with
    | some j => (fs, (j : Int))
    | none => (fs ++ [t.toNat], (fs.length : Int))
def rowK (ks : List Int) (r : List Int) (fs : List Nat) : List Nat × List Int := r.foldl (fun a t => ((stepB ks a.1 t).1, a.2 ++ [(stepB ks a.1 t).2])) (fs, [])
theorem rowK_succ {ks r : List Int} {fs : List Nat} {k : Nat} (h : k < r.length) : rowK ks (r.take (k + 1)) fs = ((stepB ks (rowK ks (r.take k) fs).1 r[k]).1, (rowK ks (r.take k) fs).2 ++ [(stepB ks (rowK ks (r.take k) fs).1 r[k]).2]) := by
  unfold rowK
  rw [List.take_succ_eq_append_getElem h, List.foldl_append]; rfl
theorem rowK_zero {ks : List Int} {fs : List Nat} {r : List Int} : rowK ks (r.take 0) fs = (fs, []) := rfl
/-- The first states of the kinds, in the order in which they are met, and their rows. -/
def bfsTo (d : Dfa) (ks : List Int) : Nat → List Nat × List (List Int)
  | 0 => ([0], [])
  | i + 1 => match (bfsTo d ks i).1[i]? with
    | none => bfsTo d ks i
    | some s => ((rowK ks (rw_ d s) (bfsTo d ks i).1).1, (bfsTo d ks i).2 ++ [(rowK ks (rw_ d s) (bfsTo d ks i).1).2])
theorem bfsTo_succ {d : Dfa} {ks : List Int} {i : Nat} {s : Nat} (h : (bfsTo d ks i).1[i]? = some s) : bfsTo d ks (i + 1) = ((rowK ks (rw_ d s) (bfsTo d ks i).1).1, (bfsTo d ks i).2 ++ [(rowK ks (rw_ d s) (bfsTo d ks i).1).2]) := by
  rw [bfsTo, h]
theorem bfsTo_stop {d : Dfa} {ks : List Int} {i : Nat} (h : (bfsTo d ks i).1.length ≤ i) : ∀ j, i ≤ j → bfsTo d ks j = bfsTo d ks i
  | 0, hj => by obtain rfl : i = 0 := by omega
                rfl
  | j + 1, hj => by
    by_cases e : i = j + 1
    · rw [e]
    · have ih := bfsTo_stop h j (by omega)
      rw [bfsTo, ih, List.getElem?_eq_none (by omega)]
structure BInv (d : Dfa) (ks : List Int) (fs : List Nat) : Prop where
  one : 1 ≤ fs.length
  nod : fs.Pairwise fun a b => kn ks a ≠ kn ks b
  rng : ∀ s ∈ fs, s < d.rows.length ∧ 0 ≤ kn ks s
theorem BInv.len {d : Dfa} {ks : List Int} {fs : List Nat} (h : BInv d ks fs) : fs.length ≤ d.rows.length :=
  nodup_le d.rows.length fs (by unfold List.Nodup; exact h.nod.imp fun {a b} hab e => hab (by rw [e])) fun s hs => (h.rng s hs).1
theorem findK_none {ks : List Int} {fs : List Nat} {x : Int} (h : findK ks fs x = none) : ∀ s ∈ fs, kn ks s ≠ x := by
  unfold findK at h
  rw [List.findIdx?_eq_none_iff] at h
  intro s hs
  simpa using h s hs
theorem findK_some {ks : List Int} {fs : List Nat} {x : Int} {j : Nat} (h : findK ks fs x = some j) : ∃ hj : j < fs.length, kn ks fs[j] = x := by
  unfold findK at h
  obtain ⟨hj, h1, _⟩ := List.findIdx?_eq_some_iff_getElem.1 h
  exact ⟨hj, by simpa using h1⟩
theorem BInv.step {d : Dfa} {ks : List Int} {fs : List Nat} (h : BInv d ks fs) {t : Int} (ht : t < d.rows.length) : BInv d ks (stepB ks fs t).1 ∧ (-1 ≤ (stepB ks fs t).2 ∧ (stepB ks fs t).2 < (stepB ks fs t).1.length) ∧ ∃ z, (stepB ks fs t).1 = fs ++ z := by
  unfold stepB
  have h1 := h.one
  by_cases c : kd ks t < 0
  · rw [if_pos c]; exact ⟨h, ⟨by simp, by simp only; omega⟩, [], by simp⟩
  · rw [if_neg c]
    cases e : findK ks fs (kd ks t) with
    | some j =>
      obtain ⟨hj, _⟩ := findK_some e
      exact ⟨h, ⟨by simp only; omega, by simp only; omega⟩, [], by simp⟩
    | none =>
      have hn := findK_none e
      have ht0 : ¬ t < 0 := fun x => c (by unfold kd; rw [if_pos x]; decide)
      have hk : kd ks t = kn ks t.toNat := by unfold kd; rw [if_neg ht0]
      rw [hk] at hn c
      refine ⟨⟨by simp, ?_, ?_⟩, ⟨by simp only; omega, by simp; omega⟩, _, rfl⟩
      · rw [List.pairwise_append]
        exact ⟨h.nod, by simp, fun a ha b hb => by simp only [List.mem_singleton] at hb; subst hb; exact hn a ha⟩
      · intro s hs
        rcases List.mem_append.1 hs with hs | hs
        · exact h.rng s hs
        · simp only [List.mem_singleton] at hs
          subst hs
          exact ⟨by omega, by omega⟩
theorem BInv.row {d : Dfa} (ho : DOk d) {ks : List Int} {fs : List Nat} (h : BInv d ks fs) {s : Nat} (hs : s < d.rows.length) : ∀ k, k ≤ (rw_ d s).length → BInv d ks (rowK ks ((rw_ d s).take k) fs).1 ∧ (rowK ks ((rw_ d s).take k) fs).2.length = k ∧ (∀ x ∈ (rowK ks ((rw_ d s).take k) fs).2, -1 ≤ x ∧ x < (rowK ks ((rw_ d s).take k) fs).1.length) ∧ ∃ z, (rowK ks ((rw_ d s).take k) fs).1 = fs ++ z
  | 0, _ => ⟨h, rfl, fun x hx => by simp [rowK] at hx, [], by simp [rowK]⟩
  | k + 1, hk => by
    obtain ⟨i1, i2, i3, z, i4⟩ := BInv.row ho h hs k (by omega)
    have ht := (ho.ent s hs _ (List.getElem_mem (show k < (rw_ d s).length by omega))).2
    obtain ⟨s1, s2, z2, s3⟩ := i1.step ht
    rw [rowK_succ (by omega)]
    refine ⟨s1, by simp [i2], fun x hx => ?_, z ++ z2, by simp only; rw [s3, i4, List.append_assoc]⟩
    simp only at hx ⊢
    rcases List.mem_append.1 hx with hx | hx
    · have := i3 x hx
      have hl : (stepB ks (rowK ks ((rw_ d s).take k) fs).1 (rw_ d s)[k]).1.length = (rowK ks ((rw_ d s).take k) fs).1.length + z2.length := by rw [s3, List.length_append]
      omega
    · simp only [List.mem_singleton] at hx
      subst hx
      exact s2
theorem bfs_inv {d : Dfa} (ho : DOk d) {ks : List Int} (h0 : 0 ≤ kn ks 0) : ∀ i, BInv d ks (bfsTo d ks i).1 ∧ (i ≤ (bfsTo d ks i).1.length → (bfsTo d ks i).2.length = i) ∧ (∀ r ∈ (bfsTo d ks i).2, r.length = d.parts.length ∧ ∀ x ∈ r, -1 ≤ x ∧ x < (bfsTo d ks i).1.length)
  | 0 => ⟨⟨by simp [bfsTo], by simp [bfsTo], fun s hs => by simp [bfsTo] at hs; subst hs; exact ⟨ho.one, h0⟩⟩, fun _ => rfl, fun r hr => by simp [bfsTo] at hr⟩
  | i + 1 => by
    obtain ⟨h1, h2, h3⟩ := bfs_inv ho h0 i
    by_cases c : i < (bfsTo d ks i).1.length
    · have hx := List.getElem?_eq_getElem c
      rw [bfsTo_succ hx]
      have hr := h1.rng _ (List.getElem_mem c)
      obtain ⟨b1, b2, b3, z, b4⟩ := h1.row ho hr.1 (rw_ d (bfsTo d ks i).1[i]).length (Nat.le_refl _)
      rw [List.take_length] at b1 b2 b3 b4
      refine ⟨b1, fun _ => by simp [h2 (by omega)], fun r hr' => ?_⟩
      simp only at hr' ⊢
      rcases List.mem_append.1 hr' with hr' | hr'
      · have := h3 r hr'
        refine ⟨this.1, fun x hx => ?_⟩
        have := this.2 x hx
        rw [b4, List.length_append]; omega
      · simp only [List.mem_singleton] at hr'
        subst hr'
        exact ⟨by rw [b2, ho.row _ hr.1], b3⟩
    · rw [bfsTo_stop (i := i) (by omega) (i + 1) (by omega)]
      exact ⟨h1, fun h => by omega, h3⟩
def bfsEnd (d : Dfa) (ks : List Int) : List Nat × List (List Int) := bfsTo d ks 40
theorem bfsEnd_of {d : Dfa} {ks : List Int} {i : Nat} (h : (bfsTo d ks i).1.length ≤ i) (hi : i ≤ 40) : bfsEnd d ks = bfsTo d ks i := bfsTo_stop h 40 hi
def leastB (d : Dfa) (ks : List Int) : Dfa := ⟨d.parts, (bfsEnd d ks).2, (bfsEnd d ks).1.map (ac_ d)⟩
def colE (rows : List (List Int)) (a b : Nat) : Bool := rows.all fun r => decide ((r[a]?).getD 0 = (r[b]?).getD 0)
def stepM (rows : List (List Int)) (ps : List (List (Int × Int))) (st : List Nat × List (List (Int × Int))) (k : Nat) : List Nat × List (List (Int × Int)) := match st.1.findIdx? (fun c => colE rows c k) with
  | some i => (st.1, st.2.set i (joinS ((st.2[i]?).getD []) (pt ps k)))
  | none => (st.1 ++ [k], st.2 ++ [pt ps k])
def mergeTo (rows : List (List Int)) (ps : List (List (Int × Int))) : Nat → List Nat × List (List (Int × Int))
  | 0 => ([], [])
  | k + 1 => stepM rows ps (mergeTo rows ps k) k
def mergeM (d : Dfa) : Dfa := ⟨(mergeTo d.rows d.parts d.parts.length).2, d.rows.map fun r => (mergeTo d.rows d.parts d.parts.length).1.map fun c => (r[c]?).getD 0, d.acc⟩
/-- The smallest machine. -/
def leastF (d : Dfa) (ks : List Int) : Dfa := if kn ks 0 < 0 then ⟨[[(0, 255)]], [[-1]], [-1]⟩ else mergeM (leastB d ks)
def leastR (d m : Dfa) : Prop := if dfaOk d = true then ∃ ks, IsKinds d ks ∧ m = leastF d ks else m = ⟨[], [], []⟩
theorem joinS_len (p q : List (Int × Int)) : (joinS p q).length ≤ 256 := by
  unfold joinS
  split
  · exact spansTo_len 256
  · simp
structure MInv (ps : List (List (Int × Int))) (k : Nat) (st : List Nat × List (List (Int × Int))) : Prop where
  len : st.2.length = st.1.length
  lek : st.1.length ≤ k
  rng : ∀ c ∈ st.1, c < k
  sm : ∀ x ∈ st.2, x.length ≤ 1048576
theorem merge_inv {rows : List (List Int)} {ps : List (List (Int × Int))} (hs : ∀ x ∈ ps, x.length ≤ 1048576) : ∀ k, k ≤ ps.length → MInv ps k (mergeTo rows ps k)
  | 0, _ => ⟨rfl, by simp [mergeTo], fun c hc => by simp [mergeTo] at hc, fun x hx => by simp [mergeTo] at hx⟩
  | k + 1, hk => by
    have h := merge_inv hs k (by omega) (rows := rows)
    show MInv ps (k + 1) (stepM rows ps (mergeTo rows ps k) k)
    unfold stepM
    cases e : (mergeTo rows ps k).1.findIdx? (fun c => colE rows c k) with
    | some i =>
      refine ⟨by simp [h.len], by have := h.lek; simp only; omega, fun c hc => by have := h.rng c hc; omega, fun x hx => ?_⟩
      rcases List.mem_or_eq_of_mem_set hx with hx | hx
      · exact h.sm x hx
      · rw [hx]; have := joinS_len (((mergeTo rows ps k).2[i]?).getD []) (pt ps k); omega
    | none =>
      refine ⟨by simp [h.len], by have := h.lek; simp; omega, fun c hc => ?_, fun x hx => ?_⟩
      · rcases List.mem_append.1 hc with hc | hc
        · have := h.rng c hc; omega
        · simp only [List.mem_singleton] at hc; omega
      · rcases List.mem_append.1 hx with hx | hx
        · exact h.sm x hx
        · simp only [List.mem_singleton] at hx
          rw [hx, pt_eq (by omega)]
          exact hs _ (List.getElem_mem (by omega))
end Go.Proofs.Ytfcdcgbpdinpnaa.R

open Go Go.Proofs.Ytfcdcgbpdinpnaa.T
namespace Go.Proofs.Ytfcdcgbpdinpnaa.R
set_option maxHeartbeats 4000000
set_option maxRecDepth 100000
set_option linter.unusedSimpArgs false
set_option linter.unusedVariables false
attribute [local simp] bsV bsRows chunk fillT partsT appV makeV rowsOf cellsOf placeOf frzT frz1
theorem findI_at {α : Type _} {p : α → Bool} {l : List α} {i : Nat} (h : i < l.length) (hp : p l[i] = true) (hn : ∀ j (hj : j < i), p (l[j]'(by omega)) = false) : l.findIdx? p = some i := by
  rw [List.findIdx?_eq_some_iff_getElem]
  exact ⟨h, hp, fun j hj => by simp [hn j hj]⟩
theorem findI_none {α : Type _} {p : α → Bool} {l : List α} (hn : ∀ j (hj : j < l.length), p l[j] = false) : l.findIdx? p = none := by
  rw [List.findIdx?_eq_none_iff]
  intro x hx
  obtain ⟨j, hj, rfl⟩ := List.getElem_of_mem hx
  exact hn j hj
def placeI (o : Option Nat) : Int := match o with
  | some j => j
  | none => -1
theorem tc_l8Find (l : List Int) (x : Int) (hl : l.length ≤ 1048576) : TC Try.prog 42 [.ro (l.map encI), .val (.int .i64 x)] [] (.val (.int .i64 (placeI (l.findIdx? fun y => decide (y = x))))) [] := by
  refine TC.enter Try.func42 rfl (by simp [Try.ntmps42]) rfl (tw_sound (ρ := []) ?_)
  rw [Try.ntmps42]
  simp
  refine TWcH.loop [] (fun m st => ∃ i : Nat, i + m = l.length ∧ (∀ j (hj : j < i) (hl : j < l.length), decide (l[j] = x) = false) ∧ st.σ 0 = .ro (l.map encI) ∧ st.σ 1 = .val (.int .i64 x) ∧ st.σ 5 = .val (.int .i64 i)) l.length ⟨0, by simp⟩ ?_
  rintro m ⟨σ, H⟩ ⟨i, him, hn, h0, h1, h5⟩
  simp only at h0 h1 h5
  by_cases hi : i < l.length
  · have hw : IntKind.i64.wrap ((i : Int) + 1) = i + 1 := wrapi (by omega)
    by_cases c : l[i] = x
    · rw [findI_at hi (by simp [c]) fun j hj => hn j hj (by omega)]
      simp [h0, h1, h5, hi, getI hi, encI, c, placeI]
    · simp [h0, h1, h5, hi, getI hi, encI, c, hw]
      refine ⟨m - 1, by omega, i + 1, by omega, fun j hj hl => ?_, by omega⟩
      by_cases e : j = i
      · subst e; exact c
      · have := hn j (by omega) hl; simpa using this
  · rw [findI_none fun j hj => hn j (by omega) hj]
    simp [h0, h1, h5, hi, placeI]
theorem tc_l8Column (d : Dfa) (hs : DSm d) (a b : Nat) (ha : ∀ r ∈ d.rows, a < r.length) (hb : ∀ r ∈ d.rows, b < r.length) : TC Try.prog 39 [.agg (encDfa d), .val (.int .i64 a), .val (.int .i64 b)] [] (.val (.bool (colE d.rows a b))) [] := by
  refine TC.enter Try.func39 rfl (by simp [Try.ntmps39]) rfl (tw_sound (ρ := [3]) ?_)
  rw [Try.ntmps39]
  simp [encDfa]
  have hrl := hs.rows
  refine TWcH.loop [] (fun m st => ∃ i : Nat, i + m = d.rows.length ∧ colE (d.rows.take i) a b = true ∧ st.σ 1 = .val (.int .i64 a) ∧ st.σ 2 = .val (.int .i64 b) ∧ st.σ 3 = .rptr [.ro (d.parts.map encP), .ro (d.rows.map encR), .ro (d.acc.map encI)] 0 ∧ st.σ 7 = .val (.int .i64 i)) d.rows.length ⟨0, by simp [colE]⟩ ?_
  rintro m ⟨σ, H⟩ ⟨i, him, hn, h1, h2, h3, h7⟩
  simp only at h1 h2 h3 h7
  by_cases hi : i < d.rows.length
  · have hw : IntKind.i64.wrap ((i : Int) + 1) = i + 1 := wrapi (by omega)
    have qa := ha _ (List.getElem_mem hi)
    have qb := hb _ (List.getElem_mem hi)
    simp [h1, h2, h3, h7, hi]
    refine TWcH.regionD (ρ := [3]) [0, 1, 2, 3, 4, 5, 6, 7, 8, 9, 10, 11, 12, 13, 14, 15, 16] 17 mixed (by kernel_rfl) ?_
    by_cases c : d.rows[i][a] = d.rows[i][b]
    · simp [h1, h2, h3, h7, hi, getI hi, encR, encI, qa, qb, c, hw]
      refine ⟨m - 1, by omega, i + 1, by omega, ?_, by omega⟩
      unfold colE at hn ⊢
      rw [List.take_succ_eq_append_getElem hi, List.all_append, hn]
      simp [getI qa, getI qb, c]
    · have : colE d.rows a b = false := by
        unfold colE
        rw [List.all_eq_false]
        exact ⟨d.rows[i], List.getElem_mem hi, by simp [getI qa, getI qb, c]⟩
      simp [h1, h2, h3, h7, hi, getI hi, encR, encI, qa, qb, c, this]
  · rw [List.take_of_length_le (by omega)] at hn
    simp [h1, h2, h3, h7, hi, hn]
theorem tc_sSetJoinB (p q : List (Int × Int)) (hp : p.length ≤ 1152921504606846976) (hq : q.length ≤ 1152921504606846976) : TC Try.prog 40 [.ro (p.map encS), .ro (q.map encS)] [] (.own 42 ((joinS p q).map encS)) [] := by
  refine TC.enter Try.func40 rfl (by simp [Try.ntmps40]) rfl (tw_sound (ρ := []) ?_)
  rw [Try.ntmps40]
  simp
  refine gall_intro fun id hid => ?_
  simp
  refine TWcH.loop [] (fun m s => ∃ (i : Nat), i + m = 256 ∧ s.σ 0 = .ro (p.map encS) ∧ s.σ 1 = .ro (q.map encS) ∧ s.σ 5 = .hd id ∧ s.σ 6 = .val (.int .i64 i) ∧ s.H id = some (.own 4 (mix ((List.range 256).map fun b => [.val (.bool (joinB p q b))]) (List.replicate 256 [.val (.bool false)]) i))) 256 ⟨0, by simp [mix_zero]⟩ ?_
  rintro m ⟨σ, H⟩ ⟨i, him, h0, h1, h5, h6, hH⟩
  simp only at h0 h1 h5 h6 hH
  by_cases hi : i < 256
  · have hw : IntKind.i64.wrap ((i : Int) + 1) = i + 1 := wrapi (by omega)
    have hi2 : (i : Int) < 256 := by omega
    have hat := mix_at' (A := (List.range 256).map fun b => [TV.val (.bool (joinB p q b))]) (B := List.replicate 256 [TV.val (.bool false)]) (i := i) (by simp) (by simpa using hi)
    simp only [List.getElem_replicate] at hat
    have hln : (mix ((List.range 256).map fun b => [TV.val (.bool (joinB p q b))]) (List.replicate 256 [TV.val (.bool false)]) i).length = 256 := by rw [mix_len (by simp) (by simp; omega)]; simp
    have hset := mix_set (A := (List.range 256).map fun b => [TV.val (.bool (joinB p q b))]) (B := List.replicate 256 [TV.val (.bool false)]) (i := i) (by simp) (by simpa using hi) (x := [TV.val (.bool (joinB p q i))]) (by simp [hi])
    generalize hM : mix ((List.range 256).map fun b => [TV.val (.bool (joinB p q b))]) (List.replicate 256 [TV.val (.bool false)]) i = M at hH hat hln hset
    simp [h0, h1, h5, h6, hi2]
    refine TWoH.callV (tc_sSetHas p i hp) callable_60 (by simp [h0]) (by simp) (by simp) (by simp) ?_
    simp [h0, h1, h5, h6, hi2]
    refine gif_intro (fun c => ?_) (fun c => ?_) <;> simp [h0, h1, h5, h6, hi2, c]
    · have hm : joinB p q i = true := by simp [joinB, c]
      rw [hm] at hset
      simp [h0, h1, h5, h6, hi2, hH, hat, hln, hset, c, hi, hw]
      exact ⟨m - 1, by omega, i + 1, by omega, by omega, rfl⟩
    · refine TWoH.callV (tc_sSetHas q i hq) callable_60 (by simp [h1]) (by simp) (by simp) (by simp) ?_
      have hm : joinB p q i = hasS q i := by simp [joinB, c]
      rw [hm] at hset
      simp [h0, h1, h5, h6, hi2, hH, hat, hln, hset, c, hi, hw]
      exact ⟨m - 1, by omega, i + 1, by omega, by omega, rfl⟩
  · obtain rfl : i = 256 := by omega
    rw [mix_all (by simp) (by simp)] at hH
    simp [h0, h1, h5, h6, hH]
    refine TWoH.callV (tc_sSetOk p hp) callable_55 (by simp [h0]) (by simp) (by simp) (by simp) ?_
    unfold joinS
    by_cases ho : setOk p = true
    · simp [h0, h1, h5, h6, hH, ho]
      refine TWoH.callV (tc_sSetOk q hq) callable_55 (by simp [h1]) (by simp) (by simp) (by simp) ?_
      by_cases ho' : setOk q = true
      · simp [h0, h1, h5, h6, hH, ho, ho']
        refine TWoH.call (tc_l1Of (joinB p q)) callable_61 (by simp [h5, hH]) (by simp) (by simp) fun k hk => ?_
        simp [ho, ho']
      · simp [h0, h1, h5, h6, hH, ho, ho']
        refine gall_intro fun k hk => ?_
        simp [ho, ho']
    · simp [h0, h1, h5, h6, hH, ho]
      refine gall_intro fun k hk => ?_
      simp [ho]
end Go.Proofs.Ytfcdcgbpdinpnaa.R

open Go Go.Proofs.Ytfcdcgbpdinpnaa.T
namespace Go.Proofs.Ytfcdcgbpdinpnaa.R
set_option maxHeartbeats 4000000
set_option maxRecDepth 100000
set_option linter.unusedSimpArgs false
set_option linter.unusedVariables false
attribute [local simp] bsV bsRows chunk fillT partsT appV makeV rowsOf cellsOf placeOf frzT frz1
theorem rl_encS' (l : List (Int × Int)) : ∀ r ∈ l.map encS, r.length = 2 := by
  intro r hr
  obtain ⟨x, _, rfl⟩ := List.mem_map.1 hr
  simp [encS]
theorem tc_copiedSpan (l : List (Int × Int)) (hl : l.length ≤ 1048576) : TC Try.prog 67 [.ro (l.map encS)] [] (.own 42 (l.map encS)) [] := by
  refine TC.enter Try.func67 rfl (by simp [Try.ntmps67]) rfl (TWc.postT (tw_sound (ρ := []) ?_))
  rw [Try.ntmps67]
  simp
  refine gif_intro (fun c1 => ?_) (fun c1 => ?_) <;> simp [c1]
  · refine Turn.nil 2 42 (by simp) fun id hid => ?_
    simp [List.eq_nil_of_length_eq_zero (show l.length = 0 by simpa using c1)]
  have k1 : (16 : Int) * l.length ≤ 281474976710656 := by omega
  have k2 : (l.length : Int) ≤ 9223372036854775807 := by omega
  simp [k1, k2]
  refine gall_intro fun id hid => ?_
  simp
  refine TWoH.copy id (List.replicate l.length [.val (.int .i64 0), .val (.int .i64 0)]) (l.map encS) Try.underlying43 (by simp) ?_ ?_ ?_ (rl_encS' l) ?_ ?_
  all_goals simp
  exact Turn.same (by simp)
theorem tc_copiedInt (l : List Int) (hl : l.length ≤ 1048576) : TC Try.prog 50 [.ro (l.map encI)] [] (.own 3 (l.map encI)) [] := by
  refine TC.enter Try.func50 rfl (by simp [Try.ntmps50]) rfl (TWc.postT (tw_sound (ρ := []) ?_))
  rw [Try.ntmps50]
  simp
  refine gif_intro (fun c1 => ?_) (fun c1 => ?_) <;> simp [c1]
  · refine Turn.nil 2 3 (by simp) fun id hid => ?_
    simp [List.eq_nil_of_length_eq_zero (show l.length = 0 by simpa using c1)]
  have k1 : (8 : Int) * l.length ≤ 281474976710656 := by omega
  have k2 : (l.length : Int) ≤ 9223372036854775807 := by omega
  simp [k1, k2]
  refine gall_intro fun id hid => ?_
  simp
  refine TWoH.copy id (List.replicate l.length [.val (.int .i64 0)]) (l.map encI) Try.underlying24 (by simp) ?_ ?_ ?_ (rl_encI l) ?_ ?_
  all_goals simp
  exact Turn.same (by simp)
theorem tc_copiedInts (l : List (List Int)) (hl : l.length ≤ 1048576) : TC Try.prog 49 [.ro (l.map encR)] [] (.own 24 (l.map encR)) [] := by
  refine TC.enter Try.func49 rfl (by simp [Try.ntmps49]) rfl (TWc.postT (tw_sound (ρ := []) ?_))
  rw [Try.ntmps49]
  simp
  refine gif_intro (fun c1 => ?_) (fun c1 => ?_) <;> simp [c1]
  · refine Turn.nil 2 24 (by simp) fun id hid => ?_
    simp [List.eq_nil_of_length_eq_zero (show l.length = 0 by simpa using c1)]
  have k1 : (24 : Int) * l.length ≤ 281474976710656 := by omega
  have k2 : (l.length : Int) ≤ 9223372036854775807 := by omega
  simp [k1, k2]
  refine gall_intro fun id hid => ?_
  simp
  refine TWoH.copy id (List.replicate l.length [.val (.slice none 0 0)]) (l.map encR) Try.underlying23 (by simp) ?_ ?_ ?_ (rl_encR l) ?_ ?_
  all_goals simp
  exact Turn.same (by simp)
theorem tc_copiedSpans (l : List (List (Int × Int))) (hl : l.length ≤ 1048576) : TC Try.prog 66 [.ro (l.map encP)] [] (.own 43 (l.map encP)) [] := by
  refine TC.enter Try.func66 rfl (by simp [Try.ntmps66]) rfl (TWc.postT (tw_sound (ρ := []) ?_))
  rw [Try.ntmps66]
  simp
  refine gif_intro (fun c1 => ?_) (fun c1 => ?_) <;> simp [c1]
  · refine Turn.nil 2 43 (by simp) fun id hid => ?_
    simp [List.eq_nil_of_length_eq_zero (show l.length = 0 by simpa using c1)]
  have k1 : (24 : Int) * l.length ≤ 281474976710656 := by omega
  have k2 : (l.length : Int) ≤ 9223372036854775807 := by omega
  simp [k1, k2]
  refine gall_intro fun id hid => ?_
  simp
  refine TWoH.copy id (List.replicate l.length [.val (.slice none 0 0)]) (l.map encP) Try.underlying28 (by simp) ?_ ?_ ?_ (rl_encP l) ?_ ?_
  all_goals simp
  exact Turn.same (by simp)
theorem spansTo_hi {f : Nat → Bool} : ∀ b, ∀ s, (spansTo f b).getLast? = some s → s.2 < b
  | 0, s, h => by simp [spansTo] at h
  | b + 1, s, h => by
    have ih := spansTo_hi (f := f) b
    unfold spansTo at h
    by_cases c : f b = true
    · rw [if_pos c] at h
      unfold addB at h
      cases e : (spansTo f b).getLast? with
      | none => rw [e] at h; simp at h; subst h; simp; omega
      | some x =>
        rw [e] at h
        simp only at h
        by_cases c2 : x.2 = (b : Int) - 1
        · rw [if_pos c2] at h
          have hne : spansTo f b ≠ [] := fun e2 => by rw [e2] at e; simp at e
          rw [List.getLast?_eq_getElem?] at h
          simp at h
          have hl : 0 < (spansTo f b).length := by cases hh : spansTo f b with
            | nil => exact absurd hh hne
            | cons a l => simp
          rw [List.getElem?_set_self (by omega)] at h
          simp at h
          subst h; simp; omega
        · rw [if_neg c2] at h
          simp at h
          subst h; simp; omega
    · rw [if_neg c] at h
      have := ih s h
      omega
theorem spansTo_last {f : Nat → Bool} {b : Nat} (h : f b = true) : ∃ s, (spansTo f (b + 1)).getLast? = some s ∧ s.2 = b := by
  unfold spansTo
  rw [if_pos h]
  unfold addB
  cases e : (spansTo f b).getLast? with
  | none => exact ⟨(b, b), by simp, rfl⟩
  | some x =>
    simp only
    by_cases c2 : x.2 = (b : Int) - 1
    · rw [if_pos c2]
      refine ⟨(x.1, b), ?_, rfl⟩
      have hne : spansTo f b ≠ [] := fun e2 => by rw [e2] at e; simp at e
      have hl : 0 < (spansTo f b).length := by cases hh : spansTo f b with
        | nil => exact absurd hh hne
        | cons a l => simp
      rw [List.getLast?_eq_getElem?]
      simp
      rw [List.getElem?_set_self (by omega)]
    · rw [if_neg c2]
      exact ⟨(b, b), by simp, rfl⟩
/-- How the spans of a byte more come about, by whether the byte ahead is in it. -/
theorem spansTo_next {f : Nat → Bool} {b : Nat} (h : f b = true) : (f (b - 1) = true ∧ 0 < b → ∃ l s, spansTo f b = l ++ [s] ∧ spansTo f (b + 1) = l ++ [(s.1, (b : Int))]) ∧ (¬ (f (b - 1) = true ∧ 0 < b) → spansTo f (b + 1) = spansTo f b ++ [((b : Int), (b : Int))]) := by
  constructor
  · rintro ⟨h1, h2⟩
    obtain ⟨b, rfl⟩ : ∃ c, b = c + 1 := ⟨b - 1, by omega⟩
    simp only [Nat.add_sub_cancel] at h1
    obtain ⟨s, hs, e⟩ := spansTo_last h1
    have hne : spansTo f (b + 1) ≠ [] := fun e2 => by rw [e2] at hs; simp at hs
    obtain ⟨l, s', hl⟩ : ∃ l s', spansTo f (b + 1) = l ++ [s'] := by
      rcases List.eq_nil_or_concat (spansTo f (b + 1)) with e | ⟨l, s, e⟩
      · exact absurd e hne
      · exact ⟨l, s, by simpa using e⟩
    rw [hl] at hs
    simp at hs
    subst hs
    refine ⟨l, s', hl, ?_⟩
    conv => lhs; unfold spansTo
    rw [if_pos h, hl]
    unfold addB
    simp
    omega
  · intro hn
    conv => lhs; unfold spansTo
    rw [if_pos h]
    unfold addB
    cases e : (spansTo f b).getLast? with
    | none =>
      have : spansTo f b = [] := by simpa using e
      rw [this]; rfl
    | some s =>
      simp only
      rw [if_neg]
      intro c
      have hb : 0 < b := by
        cases b with
        | zero => simp [spansTo] at e
        | succ b => omega
      obtain ⟨b, rfl⟩ : ∃ c, b = c + 1 := ⟨b - 1, by omega⟩
      have hf : f b = false := by
        cases hh : f b
        · rfl
        · exact absurd ⟨by simpa using hh, hb⟩ hn
      have e2 : spansTo f (b + 1) = spansTo f b := by
        conv => lhs; unfold spansTo
        rw [if_neg (by simp [hf])]
      rw [e2] at e
      have := spansTo_hi b s e
      omega
end Go.Proofs.Ytfcdcgbpdinpnaa.R

open Go Go.Proofs.Ytfcdcgbpdinpnaa.T
namespace Go.Proofs.Ytfcdcgbpdinpnaa.R
set_option maxHeartbeats 4000000
set_option maxRecDepth 100000
set_option linter.unusedSimpArgs false
set_option linter.unusedVariables false
attribute [local simp] bsV bsRows chunk fillT partsT appV makeV rowsOf cellsOf placeOf frzT frz1
theorem tc_spans (f : Nat → Bool) : TC Try.prog 68 [.agg (bitsT f)] [] (.own 42 ((spansF f).map encS)) [] := by
  refine TC.enter Try.func68 rfl (by simp [Try.ntmps68]) rfl (tw_sound (ρ := [1]) ?_)
  rw [Try.ntmps68]
  simp
  refine TWcH.turn (Turn.nil 3 42 (by simp) fun id hid => ?_)
  refine TWcH.loop [15] (fun m s => ∃ (i : Nat) (id : Nat), i + m = 256 ∧ s.σ 1 = .rptr (bitsT f) 0 ∧ s.σ 3 = .hd id ∧ s.σ 6 = .agg (bitsT f) ∧ s.σ 7 = .val (.int .i64 i) ∧ s.H id = some (.own 42 ((spansTo f i).map encS))) 256 ⟨0, id, by simp [spansTo]⟩ ?_
  rintro m ⟨σ, H⟩ ⟨i, id, him, h1, h3, h6, h7, hH⟩
  simp only at h1 h3 h6 h7 hH
  by_cases hi : i < 256
  · have hw : IntKind.i64.wrap ((i : Int) + 1) = i + 1 := wrapi (by omega)
    have hi2 : (i : Int) < 256 := by omega
    have hlen := spansTo_len (f := f) i
    have hst : spansTo f (i + 1) = if f i = true then addB (spansTo f i) i else spansTo f i := rfl
    have hi3 : i ≤ 255 := by omega
    have u1 : ((spansTo f i).length + 1) * 16 ≤ 140737488355328 := by omega
    have u2 : (spansTo f i).length ≤ 9223372036854775806 := Nat.le_trans hlen (Nat.le_trans hi3 (by decide))
    by_cases c : f i = true
    · obtain ⟨n1, n2⟩ := spansTo_next c
      by_cases c0 : 0 < i
      · have c0' : (0 : Int) < i := by omega
        have hwi : IntKind.i64.wrap ((i : Int) - 1) = ((i - 1 : Nat) : Int) := by rw [wrapi (by omega)]; omega
        have hj1 : i - 1 < 256 := by omega
        have hj2 : ((i - 1 : Nat) : Int) < 256 := by omega
        have hj3 : i - 1 ≤ 255 := by omega
        by_cases c1 : f (i - 1) = true
        · obtain ⟨l, s, e1, e2⟩ := n1 ⟨c1, c0⟩
          rw [e1] at hH hlen
          simp at hlen
          have hl1 : ((l.length : Int) + 1 - 1) = l.length := by omega
          have hwl : IntKind.i64.wrap (l.length : Int) = l.length := wrapi (by omega)
          have hlt : (l.length : Int) < l.length + 1 := by omega
          simp [h1, h3, h6, h7, hH, hi2, hi, hi3, c, c0, c0', c1, hwi, hj1, hj2, hj3, bitsT_cut hi, bitsT_cut hj1, bitsT_at', bitsT_at hi, partTV, hl1, hwl, hlt, hw, encS]
          exact ⟨m - 1, by omega, i + 1, by omega, by omega, by rw [e2]; simp [encS]⟩
        · simp [h1, h3, h6, h7, hH, hi2, hi, hi3, c, c0, c0', c1, hwi, hj1, hj2, hj3, bitsT_cut hi, bitsT_cut hj1, bitsT_at', bitsT_at hi, partTV, hw, u1, u2]
          refine gall_intro fun id' hid' => ?_
          simp [h1, h3, h6, h7, hw]
          exact ⟨m - 1, by omega, i + 1, by omega, by omega, by rw [n2 (fun x => c1 x.1)]; simp [encS]⟩
      · have c0' : ¬ (0 : Int) < i := by omega
        simp [h1, h3, h6, h7, hH, hi2, hi, hi3, c, c0, c0', bitsT_cut hi, bitsT_at', bitsT_at hi, partTV, hw, u1, u2]
        refine gall_intro fun id' hid' => ?_
        simp [h1, h3, h6, h7, hw]
        exact ⟨m - 1, by omega, i + 1, by omega, by omega, by rw [n2 (fun x => c0 x.2)]; simp [encS]⟩
    · rw [if_neg c] at hst
      simp [h1, h3, h6, h7, hH, hi2, hi, hi3, c, bitsT_cut hi, bitsT_at', bitsT_at hi, partTV, hw, u1, u2]
      exact ⟨m - 1, by omega, i + 1, by omega, by omega, by rw [hst]⟩
  · obtain rfl : i = 256 := by omega
    simp [h1, h3, h6, h7, hH]
    have hl := spansTo_len (f := f) 256
    refine TWoH.call (tc_copiedSpan (spansTo f 256) (by omega)) callable_67 (by simp [hH]) (by simp) (by simp) fun k hk => ?_
    simp [spansF]
theorem argTL_bits {H : Nat → Option TV} {ρ : List Nat} (f : Nat → Bool) : argTL H ρ (bitsT f) = some (bitsT f) := by
  unfold bitsT
  induction List.range 256 with
  | nil => simp [argTL]
  | cons a l ih => simp [argTL, ih]
theorem tc_iSetJoin (p q : List (Int × Int)) (hp : p.length ≤ 1048576) (hq : q.length ≤ 1048576) : TC Try.prog 51 [.ro (p.map encS), .ro (q.map encS)] [] (.own 42 ((joinS p q).map encS)) [] := by
  refine TC.enter Try.func51 rfl (by simp [Try.ntmps51]) rfl (TWc.postT (tw_sound (ρ := []) ?_))
  rw [Try.ntmps51]
  simp
  refine TWoH.callV (tc_iSetOk p (by omega)) callable_44 (by simp) (by simp) (by simp) (by simp) ?_
  unfold joinS
  by_cases ho : setOk p = true
  case neg =>
    simp [ho]
    refine Turn.nil 4 42 (by simp) fun id hid => ?_
    simp
  simp [ho]
  refine TWoH.callV (tc_iSetOk q (by omega)) callable_44 (by simp) (by simp) (by simp) (by simp) ?_
  by_cases ho' : setOk q = true
  case neg =>
    simp [ho']
    refine Turn.nil 4 42 (by simp) fun id hid => ?_
    simp
  simp [ho']
  refine TWoH.callV (tc_bitsOf p (by omega)) callable_45 (by simp) (by simp) (by simp) (by simp) ?_
  simp
  refine TWoH.callV (tc_bitsOf q (by omega)) callable_45 (by simp) (by simp) (by simp) (by simp) ?_
  simp
  refine gall_intro fun a ha => ?_
  clear ha
  simp
  refine gall_fresh [a] (by simp) fun c fc => ?_
  simp [frF] at fc
  simp [fc]
  refine TWcH.loop [] (fun m s => ∃ i : Nat, i + m = 256 ∧ s.σ 5 = .pd a 0 0 0 ∧ s.σ 6 = .pd c 0 0 0 ∧ s.σ 20 = .val (.int .i64 i) ∧ s.H a = some (.box 64 (bitsT fun b => if b < i then joinB p q b else hasS p b)) ∧ s.H c = some (.box 64 (bitsT fun b => hasS q b))) 256 ⟨0, by simp [fc]⟩ ?_
  rintro m ⟨σ, H⟩ ⟨i, him, h5, h6, h20, hA, hC⟩
  simp only at h5 h6 h20 hA hC
  by_cases hi : i < 256
  · have hw : IntKind.i64.wrap ((i : Int) + 1) = i + 1 := wrapi (by omega)
    have hi2 : (i : Int) < 256 := by omega
    have hi3 : i ≤ 255 := by omega
    have hnew : (fun b => if b = i then joinB p q i else if b < i then joinB p q b else hasS p b) = fun b => if b < i + 1 then joinB p q b else hasS p b := by
      funext b
      by_cases e : b = i
      · subst e; simp
      · by_cases e2 : b < i
        · simp [e, e2, show b < i + 1 by omega]
        · simp [e, e2, show ¬ b < i + 1 by omega]
    by_cases c1 : hasS p i = true
    · have hj : joinB p q i = true := by simp [joinB, c1]
      rw [hj] at hnew
      simp [h5, h6, h20, hA, hC, hi, hi2, hi3, fc, bitsT_cut hi, bitsT_at', bitsT_at hi, partTV, c1, bitsT_put hi, hw]
      exact ⟨m - 1, by omega, i + 1, by omega, by omega, by rw [← hnew]; apply bitsT_congr; intro b _; by_cases e : b = i <;> simp [e]⟩
    · have hj : joinB p q i = hasS q i := by simp [joinB, c1]
      rw [hj] at hnew
      simp [h5, h6, h20, hA, hC, hi, hi2, hi3, fc, bitsT_cut hi, bitsT_at', bitsT_at hi, partTV, c1, bitsT_put hi, hw]
      exact ⟨m - 1, by omega, i + 1, by omega, by omega, by rw [← hnew]⟩
  · obtain rfl : i = 256 := by omega
    have he : bitsT (fun b => if b < 256 then joinB p q b else hasS p b) = bitsT (joinB p q) := bitsT_congr fun b hb => by simp [hb]
    rw [he] at hA
    simp [h5, h6, h20, hA, hC, fc]
    refine TWoH.call (tc_spans (joinB p q)) callable_68 (by simp [hA, argTL_bits]) (by simp) (by simp) fun k hk => ?_
    simp [ho, ho']
    exact Turn.same (by simp)
end Go.Proofs.Ytfcdcgbpdinpnaa.R

open Go Go.Proofs.Ytfcdcgbpdinpnaa.T
namespace Go.Proofs.Ytfcdcgbpdinpnaa.R
set_option maxHeartbeats 8000000
set_option maxRecDepth 100000
set_option linter.unusedSimpArgs false
set_option linter.unusedVariables false
attribute [local simp] bsV bsRows chunk fillT partsT appV makeV rowsOf cellsOf placeOf frzT frz1
/-- A machine's sizes, for copies. -/
structure CSm (d : Dfa) : Prop where
  parts : d.parts.length ≤ 1048576
  rows : d.rows.length ≤ 1048576
  acc : d.acc.length ≤ 1048576
  part : ∀ x ∈ d.parts, x.length ≤ 1048576
  row : ∀ x ∈ d.rows, x.length ≤ 1048576
theorem CSm.of {d : Dfa} (h : DSm d) : CSm d := ⟨h.parts, h.rows, h.acc, h.part, h.row⟩
def J72a (d : Dfa) (c2 c3 a : Nat) (m : Nat) (st : St) : Prop := ∃ (i p r : Nat), i + m = d.parts.length ∧ st.σ 1 = .rptr (encDfa d) 0 ∧ st.σ 2 = .pd c2 0 0 0 ∧ st.σ 3 = .pd c3 0 0 0 ∧ st.σ 4 = .val (.int .i64 i) ∧ frF p [c2, c3, a] ∧ frF r [c2, c3, a, p] ∧ st.H c2 = some (.box 30 [.val (.slice none 0 0), .val (.slice none 0 0), .val (.slice none 0 0)]) ∧ st.H c3 = some (.box 30 [.hd p, .hd r, .hd a]) ∧ st.H a = some (.own 3 (d.acc.map encI)) ∧ st.H p = some (.own 43 ((d.parts.take i).map oP)) ∧ st.H r = some (.own 24 [])
def J72b (d : Dfa) (c2 c3 a p : Nat) (m : Nat) (st : St) : Prop := ∃ (i r : Nat), i + m = d.rows.length ∧ st.σ 1 = .rptr (encDfa d) 0 ∧ st.σ 2 = .pd c2 0 0 0 ∧ st.σ 3 = .pd c3 0 0 0 ∧ st.σ 5 = .val (.int .i64 i) ∧ frF r [c2, c3, a, p] ∧ st.H c2 = some (.box 30 [.val (.slice none 0 0), .val (.slice none 0 0), .val (.slice none 0 0)]) ∧ st.H c3 = some (.box 30 [.hd p, .hd r, .hd a]) ∧ st.H a = some (.own 3 (d.acc.map encI)) ∧ st.H p = some (.own 43 (d.parts.map oP)) ∧ st.H r = some (.own 24 ((d.rows.take i).map oR))
theorem tc_l7Copy (d : Dfa) (hs : CSm d) : TC Try.prog 15 [.agg (encDfa d)] [] (.agg (oDfa d)) [] := by
  refine TC.enter Try.func15 rfl (by simp [Try.ntmps15]) rfl (tw_sound (ρ := [1]) ?_)
  rw [Try.ntmps15]
  have ha := hs.acc
  have hp := hs.parts
  have hr := hs.rows
  have k1 : d.acc.length * 8 ≤ 140737488355328 := by omega
  have k2 : d.acc.length ≤ 9223372036854775807 := by omega
  simp [encDfa]
  refine gall_intro fun c2 g2 => ?_
  clear g2
  simp
  refine gall_fresh [c2] (by simp) fun r6 f6 => ?_
  simp [frF] at f6
  simp [f6, k1, k2]
  refine gall_fresh [c2, r6] (by simp [f6]) fun a fa => ?_
  simp [frF] at fa
  simp [f6, fa, del, delo]
  refine gall_fresh [c2, a] (by simp [f6, fa, del]) fun c3 f3 => ?_
  simp [frF] at f3
  simp [f6, fa, f3, del, delo]
  refine TWcH.turn (Turn.then (Turn.nilC c3 0 43 30 (cs := [.val (.slice none 0 0), .val (.slice none 0 0), .hd a]) (by simp [f6, fa, f3, del, delo]) (by simp) fun p hp0 hp1 => ?_))
  have fp := frF_of hp0 [c2, c3, a] (by simp [f6, fa, f3, del])
  clear hp0 hp1
  simp [frF] at fp
  refine Turn.nilC c3 1 24 30 (cs := [.hd p, .val (.slice none 0 0), .hd a]) (by simp [f6, fa, f3, fp, del, delo]) (by simp) fun r hr0 hr1 => ?_
  have fr := frF_of hr0 [c2, c3, a, p] (by simp [f6, fa, f3, fp, del])
  clear hr0 hr1
  simp [frF] at fr
  refine TWcH.loopT [] (fun m st => Turn Try.prog 50 st (J72a d c2 c3 a m)) (J72a d c2 c3 a) d.parts.length (Turn.same ⟨0, p, r, by simp [f6, fa, f3, fp, fr, del, delo, encDfa, frF]⟩) (fun m s h => h) ?_
  clear fp fr p r k1 k2
  rintro m ⟨σ, H⟩ ⟨i, p, r, him, h1, h2, h3, h4, fp, fr, H2, H3, Ha, Hp, Hr⟩
  simp only [encDfa] at h1 h2 h3 h4 H2 H3 Ha Hp Hr
  simp [frF] at fp fr
  by_cases hi : i < d.parts.length
  · have hw : IntKind.i64.wrap ((i : Int) + 1) = i + 1 := wrapi (by omega)
    have hpl := hs.part _ (List.getElem_mem hi)
    have k1 : d.parts[i].length * 16 ≤ 140737488355328 := by omega
    have k2 : d.parts[i].length ≤ 9223372036854775807 := by omega
    have k3 : (i + 1) * 24 ≤ 140737488355328 := by omega
    have k4 : i ≤ 9223372036854775806 := by omega
    have hmin : min i d.parts.length = i := by omega
    simp [h1, h2, h3, h4, H3, Ha, Hp, Hr, hi, encDfa]
    refine TWcH.regionD (ρ := []) [0, 1, 3, 4, 5, 6, 7, 2, 8, 9, 10, 11, 12] 12 mixed (by kernel_rfl) ?_
    simp [h1, h2, h3, h4, H3, Ha, Hp, Hr, hi, getI hi, encP]
    refine gall_fresh [c2, c3, a, p, r] (by simp [H2, H3, Ha, Hp, Hr]) fun b fb => ?_
    simp [frF] at fb
    simp [h1, h2, h3, h4, H3, Ha, Hp, Hr, hi, getI hi, f6, fa, f3, fp, fr, fb, k1, k2]
    rw [gif_pos (fun r x y hx e => by rw [← e]; simp [encS])]
    refine gall_fresh [c2, c3, a, p, r, b] (by simp [H2, H3, Ha, Hp, Hr, fb]) fun e fe => ?_
    simp [frF] at fe
    simp [h1, h2, h3, h4, H3, Ha, Hp, Hr, hi, f6, fa, f3, fp, fr, fb, fe, del, delo]
    refine gall_fresh [c2, c3, a, p, r, e] (by simp [H2, H3, Ha, Hp, Hr, fb, fe, del]) fun w fw => ?_
    simp [frF] at fw
    simp [h1, h2, h3, h4, H3, Ha, Hp, Hr, hi, f6, fa, f3, fp, fr, fb, fe, fw, del, delo, hmin, k3, k4]
    refine gall_fresh [c2, c3, a, p, r, e, w] (by simp [H2, H3, Ha, Hp, Hr, fb, fe, fw, del]) fun n fn => ?_
    simp [frF] at fn
    simp [h1, h2, h3, h4, H2, H3, Ha, Hp, Hr, hi, f6, fa, f3, fp, fr, fb, fe, fw, fn, del, delo, hmin, hw, encDfa]
    refine ⟨m - 1, by omega, Turn.shift (Shift.fold1x n e 43 i 0 ((d.parts.take i).map oP ++ [[.hd e]]) [.hd e] (.own 42 (d.parts[i].map encS)) (by simp [fn]) (by simp [h1, h2, h3, h4, H2, H3, Ha, Hp, Hr, hi, f6, fa, f3, fp, fr, fb, fe, fw, fn, del, delo, hmin]) (by simp [hmin]) rfl (by simp [h1, h2, h3, h4, H2, H3, Ha, Hp, Hr, hi, f6, fa, f3, fp, fr, fb, fe, fw, fn, del, delo, hmin])) ⟨i + 1, n, r, by omega, ?_⟩⟩
    have hset : ((d.parts.take i).map oP ++ [[TV.hd e]]).set i [TV.own 42 (d.parts[i].map encS)] = (d.parts.take (i + 1)).map oP := by
      rw [List.take_succ_eq_append_getElem hi, List.map_append, List.set_append_right _ _ (by simp [hmin])]
      simp [hmin, oP]
    simp [h1, h2, h3, h4, H2, H3, Ha, Hp, Hr, hi, f6, fa, f3, fp, fr, fb, fe, fw, fn, del, delo, hmin, frF, hset, encDfa]
    rw [List.take_succ_eq_append_getElem (by simpa using hi)]; simp [oP]
  · obtain rfl : i = d.parts.length := by omega
    rw [List.take_length] at Hp
    have hi2 : ¬ d.parts.length < d.parts.length := by omega
    simp [h1, h2, h3, h4, H2, H3, Ha, Hp, Hr]
    refine TWcH.loopT [] (fun m st => Turn Try.prog 50 st (J72b d c2 c3 a p m)) (J72b d c2 c3 a p) d.rows.length (Turn.same ⟨0, r, by simp [h1, h2, h3, H2, H3, Ha, Hp, Hr, f6, fa, f3, fp, fr, del, delo, encDfa, frF]⟩) (fun m s h => h) ?_
    clear h1 h2 h3 h4 H2 H3 Ha Hp Hr fr r him hi
    rintro m ⟨σ, H⟩ ⟨i, r, him, h1, h2, h3, h4, fr, H2, H3, Ha, Hp, Hr⟩
    simp only [encDfa] at h1 h2 h3 h4 H2 H3 Ha Hp Hr
    simp [frF] at fr
    by_cases hi : i < d.rows.length
    · have hw : IntKind.i64.wrap ((i : Int) + 1) = i + 1 := wrapi (by omega)
      have hpl := hs.row _ (List.getElem_mem hi)
      have k1 : d.rows[i].length * 8 ≤ 140737488355328 := by omega
      have k2 : d.rows[i].length ≤ 9223372036854775807 := by omega
      have k3 : (i + 1) * 24 ≤ 140737488355328 := by omega
      have k4 : i ≤ 9223372036854775806 := by omega
      have hmin : min i d.rows.length = i := by omega
      simp [h1, h2, h3, h4, H3, Ha, Hp, Hr, hi, encDfa]
      refine TWcH.regionD (ρ := []) [0, 1, 3, 4, 5, 6, 7, 2, 8, 9, 10, 11, 12] 12 mixed (by kernel_rfl) ?_
      simp [h1, h2, h3, h4, H3, Ha, Hp, Hr, hi, getI hi, encR]
      refine gall_fresh [c2, c3, a, p, r] (by simp [H2, H3, Ha, Hp, Hr]) fun b fb => ?_
      simp [frF] at fb
      simp [h1, h2, h3, h4, H3, Ha, Hp, Hr, hi, getI hi, f6, fa, f3, fp, fr, fb, k1, k2]
      refine gall_fresh [c2, c3, a, p, r, b] (by simp [H2, H3, Ha, Hp, Hr, fb]) fun e fe => ?_
      simp [frF] at fe
      simp [h1, h2, h3, h4, H3, Ha, Hp, Hr, hi, f6, fa, f3, fp, fr, fb, fe, del, delo]
      refine gall_fresh [c2, c3, a, p, r, e] (by simp [H2, H3, Ha, Hp, Hr, fb, fe, del]) fun w fw => ?_
      simp [frF] at fw
      simp [h1, h2, h3, h4, H3, Ha, Hp, Hr, hi, f6, fa, f3, fp, fr, fb, fe, fw, del, delo, hmin, k3, k4]
      refine gall_fresh [c2, c3, a, p, r, e, w] (by simp [H2, H3, Ha, Hp, Hr, fb, fe, fw, del]) fun n fn => ?_
      simp [frF] at fn
      simp [h1, h2, h3, h4, H2, H3, Ha, Hp, Hr, hi, f6, fa, f3, fp, fr, fb, fe, fw, fn, del, delo, hmin, hw, encDfa]
      refine ⟨m - 1, by omega, Turn.shift (Shift.fold1x n e 24 i 0 ((d.rows.take i).map oR ++ [[.hd e]]) [.hd e] (.own 3 (d.rows[i].map encI)) (by simp [fn]) (by simp [h1, h2, h3, h4, H2, H3, Ha, Hp, Hr, hi, f6, fa, f3, fp, fr, fb, fe, fw, fn, del, delo, hmin]) (by simp [hmin]) rfl (by simp [h1, h2, h3, h4, H2, H3, Ha, Hp, Hr, hi, f6, fa, f3, fp, fr, fb, fe, fw, fn, del, delo, hmin])) ⟨i + 1, n, by omega, ?_⟩⟩
      have hset : ((d.rows.take i).map oR ++ [[TV.hd e]]).set i [TV.own 3 (d.rows[i].map encI)] = (d.rows.take (i + 1)).map oR := by
        rw [List.take_succ_eq_append_getElem hi, List.map_append, List.set_append_right _ _ (by simp [hmin])]
        simp [hmin, oR]
      simp [h1, h2, h3, h4, H2, H3, Ha, Hp, Hr, hi, f6, fa, f3, fp, fr, fb, fe, fw, fn, del, delo, hmin, frF, hset, encDfa]
      rw [List.take_succ_eq_append_getElem (by simpa using hi)]; simp [oR]
    · obtain rfl : i = d.rows.length := by omega
      rw [List.take_length] at Hr
      simp [h1, h2, h3, h4, H2, H3, Ha, Hp, Hr, f6, fa, f3, fp, fr, del, oDfa]
end Go.Proofs.Ytfcdcgbpdinpnaa.R

open Go Go.Proofs.Ytfcdcgbpdinpnaa.T
namespace Go.Proofs.Ytfcdcgbpdinpnaa.R
set_option maxHeartbeats 8000000
set_option maxRecDepth 100000
set_option linter.unusedSimpArgs false
set_option linter.unusedVariables false
attribute [local simp] bsV bsRows chunk fillT partsT appV makeV rowsOf cellsOf placeOf frzT frz1
theorem half_at {α : Type _} {f g : α → List TV} {l : List α} {i : Nat} (hi : i < l.length) : ∀ h, ((l.take i).map f ++ (l.drop i).map g)[i]'h = g l[i] := fun h => by
  rw [List.getElem_append_right (by simp; omega)]
  simp [show i - min i l.length = 0 by omega]
theorem half_set {α : Type _} {f g : α → List TV} {l : List α} {i : Nat} (hi : i < l.length) : ((l.take i).map f ++ (l.drop i).map g).set i (f l[i]) = (l.take (i + 1)).map f ++ (l.drop (i + 1)).map g := by
  rw [List.drop_eq_getElem_cons hi, List.take_succ_eq_append_getElem hi, List.map_append, List.map_cons, List.set_append_right _ _ (by simp; omega)]
  simp only [List.length_map, List.length_take]
  rw [show i - min i l.length = 0 by omega]
  simp only [List.set_cons_zero, List.map_cons, List.map_nil, List.append_assoc, List.cons_append, List.nil_append]
theorem half_len {α : Type _} {f g : α → List TV} {l : List α} {i : Nat} (hi : i ≤ l.length) : ((l.take i).map f ++ (l.drop i).map g).length = l.length := by
  simp; omega
def J84 (l : List (List (Int × Int))) (k0 : Nat) (m : Nat) (st : St) : Prop := ∃ i : Nat, i + m = l.length ∧ st.σ 3 = .hd k0 ∧ st.σ 8 = .val (.int .i64 l.length) ∧ st.σ 9 = .val (.int .i64 i) ∧ st.H k0 = some (.own 43 ((l.take i).map oP ++ (l.drop i).map encP))
theorem tc_setsCopy (l : List (List (Int × Int))) (hl : l.length ≤ 1048576) (hs : ∀ x ∈ l, x.length ≤ 1048576) : TC Try.prog 48 [.ro (l.map encP)] [] (.own 43 (l.map oP)) [] := by
  refine TC.enter Try.func48 rfl (by simp [Try.ntmps48]) rfl (tw_sound (ρ := []) ?_)
  rw [Try.ntmps48]
  simp
  refine TWoH.call (tc_copiedSpans l (by omega)) callable_66 (by simp) (by simp) (by simp) fun k0 hk0 => ?_
  clear hk0
  simp
  refine TWcH.loopT [] (fun m st => Turn Try.prog 22 st (J84 l k0 m)) (J84 l k0) l.length (Turn.same ⟨0, by simp⟩) (fun m s h => h) ?_
  rintro m ⟨σ, H⟩ ⟨i, him, h3, h8, h9, hH⟩
  simp only at h3 h8 h9 hH
  by_cases hi : i < l.length
  · have hw : IntKind.i64.wrap ((i : Int) + 1) = i + 1 := wrapi (by omega)
    have hx := hs _ (List.getElem_mem hi)
    have hat := half_at (f := oP) (g := encP) hi
    have hset := half_set (f := oP) (g := encP) hi
    have hln := half_len (f := oP) (g := encP) (Nat.le_of_lt hi)
    generalize (l.take i).map oP ++ (l.drop i).map encP = M at hH hat hset hln
    simp [h3, h8, h9, hH, hi, hln, hat, encP]
    refine TWoH.call (tc_copiedSpan l[i] (by omega)) callable_67 (by simp) (by simp) (by simp) fun k hk => ?_
    have fk := frF_ge hk [k0] (by simp [hH])
    clear hk
    simp [frF] at fk
    simp [h3, h8, h9, hH, hi, hln, hat, encP, fk, hw]
    refine ⟨m - 1, by omega, Turn.shift (Shift.fold1x k0 k 43 i 0 (M.set i [.hd k]) [.hd k] (.own 42 (l[i].map encS)) (by simp [fk]) (by simp [fk]) (by simp [hln, hi]) rfl (by simp [fk])) ⟨i + 1, by omega, ?_⟩⟩
    have hset' : M.set i [TV.own 42 (l[i].map encS)] = List.map oP (List.take (i + 1) l) ++ List.map encP (List.drop (i + 1) l) := hset
    simp [h3, h8, h9, hH, fk, hset', del]
  · obtain rfl : i = l.length := by omega
    simp [h3, h8, h9, hH]
end Go.Proofs.Ytfcdcgbpdinpnaa.R

open Go Go.Proofs.Ytfcdcgbpdinpnaa.T
namespace Go.Proofs.Ytfcdcgbpdinpnaa.R
set_option maxHeartbeats 8000000
set_option maxRecDepth 100000
set_option linter.unusedSimpArgs false
set_option linter.unusedVariables false
attribute [local simp] bsV bsRows chunk fillT partsT appV makeV rowsOf cellsOf placeOf frzT frz1
def J70 (d : Dfa) (c2 c3 p r a : Nat) (m : Nat) (st : St) : Prop := ∃ i : Nat, i + m = d.rows.length ∧ st.σ 2 = .pd c2 0 0 0 ∧ st.σ 3 = .pd c3 0 0 0 ∧ st.σ 17 = .val (.int .i64 d.rows.length) ∧ st.σ 18 = .val (.int .i64 i) ∧ st.H c2 = some (.box 30 [.val (.slice none 0 0), .val (.slice none 0 0), .val (.slice none 0 0)]) ∧ st.H c3 = some (.box 30 [.hd p, .hd r, .hd a]) ∧ st.H a = some (.own 3 (d.acc.map encI)) ∧ st.H p = some (.own 43 (d.parts.map oP)) ∧ st.H r = some (.own 24 ((d.rows.take i).map oR ++ (d.rows.drop i).map encR))
theorem tc_dfaCopy (d : Dfa) (hs : CSm d) : TC Try.prog 24 [.agg (encDfa d)] [] (.agg (oDfa d)) [] := by
  refine TC.enter Try.func24 rfl (by simp [Try.ntmps24]) rfl (tw_sound (ρ := [1]) ?_)
  rw [Try.ntmps24]
  have ha := hs.acc
  have hp := hs.parts
  have hr := hs.rows
  have t1 := tc_setsCopy d.parts hp hs.part
  have t2 := tc_copiedInts d.rows (by omega)
  have t3 := tc_copiedInt d.acc (by omega)
  simp [encDfa]
  refine gall_intro fun c2 g2 => ?_
  clear g2
  simp
  refine TWcH.midB (ρ := []) (fun st => ∃ c3 p r a, frF c3 [c2] ∧ frF p [c2, c3] ∧ frF r [c2, c3, p] ∧ frF a [c2, c3, p, r] ∧ st.σ 2 = .pd c2 0 0 0 ∧ st.σ 3 = .pd c3 0 0 0 ∧ st.H c2 = some (.box 30 [.val (.slice none 0 0), .val (.slice none 0 0), .val (.slice none 0 0)]) ∧ st.H c3 = some (.box 30 [.hd p, .hd r, .hd a]) ∧ st.H a = some (.own 3 (d.acc.map encI)) ∧ st.H p = some (.own 43 (d.parts.map oP)) ∧ st.H r = some (.own 24 (d.rows.map encR)))
    (.first 0 (.first 3 (.first 6 (.pick 1 (.pick 2 (.pick 4 (.pick 5 (.pick 7 (.pick 8 (.first 9 (.pick 10 (.pick 11 .fin .fin) .fin)) (.pick 10 (.pick 8 (.first 9 (.pick 11 .fin .fin)) .fin) .fin)) (.pick 10 (.pick 7 (.pick 8 (.first 9 (.pick 11 .fin .fin)) .fin) .fin) .fin)) (.pick 7 (.pick 5 (.pick 8 (.first 9 (.pick 10 (.pick 11 .fin .fin) .fin)) (.pick 10 (.pick 8 (.first 9 (.pick 11 .fin .fin)) .fin) .fin)) (.pick 10 (.pick 5 (.pick 8 (.first 9 (.pick 11 .fin .fin)) .fin) .fin) .fin)) (.pick 10 (.pick 5 (.pick 7 (.pick 8 (.first 9 (.pick 11 .fin .fin)) .fin) .fin) (.pick 7 (.pick 5 (.pick 8 (.first 9 (.pick 11 .fin .fin)) .fin) .fin) .fin)) .fin))) (.pick 7 (.pick 4 (.pick 5 (.pick 8 (.first 9 (.pick 10 (.pick 11 .fin .fin) .fin)) (.pick 10 (.pick 8 (.first 9 (.pick 11 .fin .fin)) .fin) .fin)) (.pick 10 (.pick 5 (.pick 8 (.first 9 (.pick 11 .fin .fin)) .fin) .fin) .fin)) (.pick 10 (.pick 4 (.pick 5 (.pick 8 (.first 9 (.pick 11 .fin .fin)) .fin) .fin) .fin) .fin)) (.pick 10 (.pick 4 (.pick 5 (.pick 7 (.pick 8 (.first 9 (.pick 11 .fin .fin)) .fin) .fin) (.pick 7 (.pick 5 (.pick 8 (.first 9 (.pick 11 .fin .fin)) .fin) .fin) .fin)) (.pick 7 (.pick 4 (.pick 5 (.pick 8 (.first 9 (.pick 11 .fin .fin)) .fin) .fin) .fin) .fin)) .fin))) (.pick 4 (.pick 2 (.pick 5 (.pick 7 (.pick 8 (.first 9 (.pick 10 (.pick 11 .fin .fin) .fin)) (.pick 10 (.pick 8 (.first 9 (.pick 11 .fin .fin)) .fin) .fin)) (.pick 10 (.pick 7 (.pick 8 (.first 9 (.pick 11 .fin .fin)) .fin) .fin) .fin)) (.pick 7 (.pick 5 (.pick 8 (.first 9 (.pick 10 (.pick 11 .fin .fin) .fin)) (.pick 10 (.pick 8 (.first 9 (.pick 11 .fin .fin)) .fin) .fin)) (.pick 10 (.pick 5 (.pick 8 (.first 9 (.pick 11 .fin .fin)) .fin) .fin) .fin)) (.pick 10 (.pick 5 (.pick 7 (.pick 8 (.first 9 (.pick 11 .fin .fin)) .fin) .fin) (.pick 7 (.pick 5 (.pick 8 (.first 9 (.pick 11 .fin .fin)) .fin) .fin) .fin)) .fin))) (.pick 7 (.pick 2 (.pick 5 (.pick 8 (.first 9 (.pick 10 (.pick 11 .fin .fin) .fin)) (.pick 10 (.pick 8 (.first 9 (.pick 11 .fin .fin)) .fin) .fin)) (.pick 10 (.pick 5 (.pick 8 (.first 9 (.pick 11 .fin .fin)) .fin) .fin) .fin)) (.pick 10 (.pick 2 (.pick 5 (.pick 8 (.first 9 (.pick 11 .fin .fin)) .fin) .fin) .fin) .fin)) (.pick 10 (.pick 2 (.pick 5 (.pick 7 (.pick 8 (.first 9 (.pick 11 .fin .fin)) .fin) .fin) (.pick 7 (.pick 5 (.pick 8 (.first 9 (.pick 11 .fin .fin)) .fin) .fin) .fin)) (.pick 7 (.pick 2 (.pick 5 (.pick 8 (.first 9 (.pick 11 .fin .fin)) .fin) .fin) .fin) .fin)) .fin))) (.pick 7 (.pick 2 (.pick 4 (.pick 5 (.pick 8 (.first 9 (.pick 10 (.pick 11 .fin .fin) .fin)) (.pick 10 (.pick 8 (.first 9 (.pick 11 .fin .fin)) .fin) .fin)) (.pick 10 (.pick 5 (.pick 8 (.first 9 (.pick 11 .fin .fin)) .fin) .fin) .fin)) (.pick 10 (.pick 4 (.pick 5 (.pick 8 (.first 9 (.pick 11 .fin .fin)) .fin) .fin) .fin) .fin)) (.pick 4 (.pick 2 (.pick 5 (.pick 8 (.first 9 (.pick 10 (.pick 11 .fin .fin) .fin)) (.pick 10 (.pick 8 (.first 9 (.pick 11 .fin .fin)) .fin) .fin)) (.pick 10 (.pick 5 (.pick 8 (.first 9 (.pick 11 .fin .fin)) .fin) .fin) .fin)) (.pick 10 (.pick 2 (.pick 5 (.pick 8 (.first 9 (.pick 11 .fin .fin)) .fin) .fin) .fin) .fin)) (.pick 10 (.pick 2 (.pick 4 (.pick 5 (.pick 8 (.first 9 (.pick 11 .fin .fin)) .fin) .fin) .fin) (.pick 4 (.pick 2 (.pick 5 (.pick 8 (.first 9 (.pick 11 .fin .fin)) .fin) .fin) .fin) .fin)) .fin))) (.pick 10 (.pick 2 (.pick 4 (.pick 5 (.pick 7 (.pick 8 (.first 9 (.pick 11 .fin .fin)) .fin) .fin) (.pick 7 (.pick 5 (.pick 8 (.first 9 (.pick 11 .fin .fin)) .fin) .fin) .fin)) (.pick 7 (.pick 4 (.pick 5 (.pick 8 (.first 9 (.pick 11 .fin .fin)) .fin) .fin) .fin) .fin)) (.pick 4 (.pick 2 (.pick 5 (.pick 7 (.pick 8 (.first 9 (.pick 11 .fin .fin)) .fin) .fin) (.pick 7 (.pick 5 (.pick 8 (.first 9 (.pick 11 .fin .fin)) .fin) .fin) .fin)) (.pick 7 (.pick 2 (.pick 5 (.pick 8 (.first 9 (.pick 11 .fin .fin)) .fin) .fin) .fin) .fin)) (.pick 7 (.pick 2 (.pick 4 (.pick 5 (.pick 8 (.first 9 (.pick 11 .fin .fin)) .fin) .fin) .fin) (.pick 4 (.pick 2 (.pick 5 (.pick 8 (.first 9 (.pick 11 .fin .fin)) .fin) .fin) .fin) .fin)) .fin))) .fin)))) (.pick 4 (.pick 1 (.pick 2 (.pick 5 (.pick 7 (.pick 8 (.first 9 (.pick 10 (.pick 11 .fin .fin) .fin)) (.pick 10 (.pick 8 (.first 9 (.pick 11 .fin .fin)) .fin) .fin)) (.pick 10 (.pick 7 (.pick 8 (.first 9 (.pick 11 .fin .fin)) .fin) .fin) .fin)) (.pick 7 (.pick 5 (.pick 8 (.first 9 (.pick 10 (.pick 11 .fin .fin) .fin)) (.pick 10 (.pick 8 (.first 9 (.pick 11 .fin .fin)) .fin) .fin)) (.pick 10 (.pick 5 (.pick 8 (.first 9 (.pick 11 .fin .fin)) .fin) .fin) .fin)) (.pick 10 (.pick 5 (.pick 7 (.pick 8 (.first 9 (.pick 11 .fin .fin)) .fin) .fin) (.pick 7 (.pick 5 (.pick 8 (.first 9 (.pick 11 .fin .fin)) .fin) .fin) .fin)) .fin))) (.pick 7 (.pick 2 (.pick 5 (.pick 8 (.first 9 (.pick 10 (.pick 11 .fin .fin) .fin)) (.pick 10 (.pick 8 (.first 9 (.pick 11 .fin .fin)) .fin) .fin)) (.pick 10 (.pick 5 (.pick 8 (.first 9 (.pick 11 .fin .fin)) .fin) .fin) .fin)) (.pick 10 (.pick 2 (.pick 5 (.pick 8 (.first 9 (.pick 11 .fin .fin)) .fin) .fin) .fin) .fin)) (.pick 10 (.pick 2 (.pick 5 (.pick 7 (.pick 8 (.first 9 (.pick 11 .fin .fin)) .fin) .fin) (.pick 7 (.pick 5 (.pick 8 (.first 9 (.pick 11 .fin .fin)) .fin) .fin) .fin)) (.pick 7 (.pick 2 (.pick 5 (.pick 8 (.first 9 (.pick 11 .fin .fin)) .fin) .fin) .fin) .fin)) .fin))) (.pick 7 (.pick 1 (.pick 2 (.pick 5 (.pick 8 (.first 9 (.pick 10 (.pick 11 .fin .fin) .fin)) (.pick 10 (.pick 8 (.first 9 (.pick 11 .fin .fin)) .fin) .fin)) (.pick 10 (.pick 5 (.pick 8 (.first 9 (.pick 11 .fin .fin)) .fin) .fin) .fin)) (.pick 10 (.pick 2 (.pick 5 (.pick 8 (.first 9 (.pick 11 .fin .fin)) .fin) .fin) .fin) .fin)) (.pick 10 (.pick 1 (.pick 2 (.pick 5 (.pick 8 (.first 9 (.pick 11 .fin .fin)) .fin) .fin) .fin) .fin) .fin)) (.pick 10 (.pick 1 (.pick 2 (.pick 5 (.pick 7 (.pick 8 (.first 9 (.pick 11 .fin .fin)) .fin) .fin) (.pick 7 (.pick 5 (.pick 8 (.first 9 (.pick 11 .fin .fin)) .fin) .fin) .fin)) (.pick 7 (.pick 2 (.pick 5 (.pick 8 (.first 9 (.pick 11 .fin .fin)) .fin) .fin) .fin) .fin)) (.pick 7 (.pick 1 (.pick 2 (.pick 5 (.pick 8 (.first 9 (.pick 11 .fin .fin)) .fin) .fin) .fin) .fin) .fin)) .fin))) (.pick 7 (.pick 1 (.pick 2 (.pick 4 (.pick 5 (.pick 8 (.first 9 (.pick 10 (.pick 11 .fin .fin) .fin)) (.pick 10 (.pick 8 (.first 9 (.pick 11 .fin .fin)) .fin) .fin)) (.pick 10 (.pick 5 (.pick 8 (.first 9 (.pick 11 .fin .fin)) .fin) .fin) .fin)) (.pick 10 (.pick 4 (.pick 5 (.pick 8 (.first 9 (.pick 11 .fin .fin)) .fin) .fin) .fin) .fin)) (.pick 4 (.pick 2 (.pick 5 (.pick 8 (.first 9 (.pick 10 (.pick 11 .fin .fin) .fin)) (.pick 10 (.pick 8 (.first 9 (.pick 11 .fin .fin)) .fin) .fin)) (.pick 10 (.pick 5 (.pick 8 (.first 9 (.pick 11 .fin .fin)) .fin) .fin) .fin)) (.pick 10 (.pick 2 (.pick 5 (.pick 8 (.first 9 (.pick 11 .fin .fin)) .fin) .fin) .fin) .fin)) (.pick 10 (.pick 2 (.pick 4 (.pick 5 (.pick 8 (.first 9 (.pick 11 .fin .fin)) .fin) .fin) .fin) (.pick 4 (.pick 2 (.pick 5 (.pick 8 (.first 9 (.pick 11 .fin .fin)) .fin) .fin) .fin) .fin)) .fin))) (.pick 4 (.pick 1 (.pick 2 (.pick 5 (.pick 8 (.first 9 (.pick 10 (.pick 11 .fin .fin) .fin)) (.pick 10 (.pick 8 (.first 9 (.pick 11 .fin .fin)) .fin) .fin)) (.pick 10 (.pick 5 (.pick 8 (.first 9 (.pick 11 .fin .fin)) .fin) .fin) .fin)) (.pick 10 (.pick 2 (.pick 5 (.pick 8 (.first 9 (.pick 11 .fin .fin)) .fin) .fin) .fin) .fin)) (.pick 10 (.pick 1 (.pick 2 (.pick 5 (.pick 8 (.first 9 (.pick 11 .fin .fin)) .fin) .fin) .fin) .fin) .fin)) (.pick 10 (.pick 1 (.pick 2 (.pick 4 (.pick 5 (.pick 8 (.first 9 (.pick 11 .fin .fin)) .fin) .fin) .fin) (.pick 4 (.pick 2 (.pick 5 (.pick 8 (.first 9 (.pick 11 .fin .fin)) .fin) .fin) .fin) .fin)) (.pick 4 (.pick 1 (.pick 2 (.pick 5 (.pick 8 (.first 9 (.pick 11 .fin .fin)) .fin) .fin) .fin) .fin) .fin)) .fin))) (.pick 10 (.pick 1 (.pick 2 (.pick 4 (.pick 5 (.pick 7 (.pick 8 (.first 9 (.pick 11 .fin .fin)) .fin) .fin) (.pick 7 (.pick 5 (.pick 8 (.first 9 (.pick 11 .fin .fin)) .fin) .fin) .fin)) (.pick 7 (.pick 4 (.pick 5 (.pick 8 (.first 9 (.pick 11 .fin .fin)) .fin) .fin) .fin) .fin)) (.pick 4 (.pick 2 (.pick 5 (.pick 7 (.pick 8 (.first 9 (.pick 11 .fin .fin)) .fin) .fin) (.pick 7 (.pick 5 (.pick 8 (.first 9 (.pick 11 .fin .fin)) .fin) .fin) .fin)) (.pick 7 (.pick 2 (.pick 5 (.pick 8 (.first 9 (.pick 11 .fin .fin)) .fin) .fin) .fin) .fin)) (.pick 7 (.pick 2 (.pick 4 (.pick 5 (.pick 8 (.first 9 (.pick 11 .fin .fin)) .fin) .fin) .fin) (.pick 4 (.pick 2 (.pick 5 (.pick 8 (.first 9 (.pick 11 .fin .fin)) .fin) .fin) .fin) .fin)) .fin))) (.pick 4 (.pick 1 (.pick 2 (.pick 5 (.pick 7 (.pick 8 (.first 9 (.pick 11 .fin .fin)) .fin) .fin) (.pick 7 (.pick 5 (.pick 8 (.first 9 (.pick 11 .fin .fin)) .fin) .fin) .fin)) (.pick 7 (.pick 2 (.pick 5 (.pick 8 (.first 9 (.pick 11 .fin .fin)) .fin) .fin) .fin) .fin)) (.pick 7 (.pick 1 (.pick 2 (.pick 5 (.pick 8 (.first 9 (.pick 11 .fin .fin)) .fin) .fin) .fin) .fin) .fin)) (.pick 7 (.pick 1 (.pick 2 (.pick 4 (.pick 5 (.pick 8 (.first 9 (.pick 11 .fin .fin)) .fin) .fin) .fin) (.pick 4 (.pick 2 (.pick 5 (.pick 8 (.first 9 (.pick 11 .fin .fin)) .fin) .fin) .fin) .fin)) (.pick 4 (.pick 1 (.pick 2 (.pick 5 (.pick 8 (.first 9 (.pick 11 .fin .fin)) .fin) .fin) .fin) .fin) .fin)) .fin))) .fin))))))) mixed (by kernel_rfl) ?_ ?_
  case refine_1 =>
    simp
    repeat' (refine And.intro ?_ ?_)
    all_goals first
      | (refine gall_fresh [c2] (by simp) fun x1 g1 => ?_; simp [frF] at g1; simp [g1])
      | (refine TWoH.call t1 callable_48 (by simp) (by simp) (by simp) fun x1 hk => ?_; have g1 := frF_ge hk [c2] (by simp); clear hk; simp [frF] at g1; simp [g1])
    repeat' (refine And.intro ?_ ?_)
    all_goals first
      | (refine gall_fresh [c2, x1] (by simp [g1]) fun x2 g2 => ?_; simp [frF] at g2; simp [g1, g2])
      | (refine TWoH.call t1 callable_48 (by simp) (by simp) (by simp) fun x2 hk => ?_; have g2 := frF_ge hk [c2, x1] (by simp [g1]); clear hk; simp [frF] at g2; simp [g1, g2])
      | (refine TWoH.call t2 callable_49 (by simp) (by simp) (by simp) fun x2 hk => ?_; have g2 := frF_ge hk [c2, x1] (by simp [g1]); clear hk; simp [frF] at g2; simp [g1, g2])
    repeat' (refine And.intro ?_ ?_)
    all_goals first
      | (refine gall_fresh [c2, x1, x2] (by simp [g1, g2]) fun x3 g3 => ?_; simp [frF] at g3; simp [g1, g2, g3])
      | (refine TWoH.call t2 callable_49 (by simp) (by simp) (by simp) fun x3 hk => ?_; have g3 := frF_ge hk [c2, x1, x2] (by simp [g1, g2]); clear hk; simp [frF] at g3; simp [g1, g2, g3])
      | (refine TWoH.call t3 callable_50 (by simp) (by simp) (by simp) fun x3 hk => ?_; have g3 := frF_ge hk [c2, x1, x2] (by simp [g1, g2]); clear hk; simp [frF] at g3; simp [g1, g2, g3])
    repeat' (refine And.intro ?_ ?_)
    all_goals first
      | (refine gall_fresh [c2, x1, x2, x3] (by simp [g1, g2, g3]) fun x4 g4 => ?_; simp [frF] at g4; simp [g1, g2, g3, g4, frF])
      | (refine TWoH.call t3 callable_50 (by simp) (by simp) (by simp) fun x4 hk => ?_; have g4 := frF_ge hk [c2, x1, x2, x3] (by simp [g1, g2, g3]); clear hk; simp [frF] at g4; simp [g1, g2, g3, g4, frF])
    all_goals first
      | exact ⟨x4, by simp [g1, g2, g3, g4], x1, by simp [g1, g2, g3, g4], x2, by simp [g1, g2, g3, g4], x3, by simp [g1, g2, g3, g4], rfl, by simp [g1, g2, g3, g4]⟩
      | exact ⟨x3, by simp [g1, g2, g3, g4], x1, by simp [g1, g2, g3, g4], x2, by simp [g1, g2, g3, g4], x4, by simp [g1, g2, g3, g4], rfl, by simp [g1, g2, g3, g4]⟩
      | exact ⟨x2, by simp [g1, g2, g3, g4], x1, by simp [g1, g2, g3, g4], x3, by simp [g1, g2, g3, g4], x4, by simp [g1, g2, g3, g4], rfl, by simp [g1, g2, g3, g4]⟩
      | exact ⟨x1, by simp [g1, g2, g3, g4], x2, by simp [g1, g2, g3, g4], x3, by simp [g1, g2, g3, g4], x4, by simp [g1, g2, g3, g4], rfl, by simp [g1, g2, g3, g4]⟩
  case refine_2 =>
    rintro ⟨σ, H⟩ ⟨c3, p, r, a, f3, fp, fr, fa, h2, h3, H2, H3, Ha, Hp, Hr⟩
    simp only at h2 h3 H2 H3 Ha Hp Hr
    simp [frF] at f3 fp fr fa
    simp [h2, h3, H2, H3, Ha, Hp, Hr]
    refine TWcH.loopT [] (fun m st => Turn Try.prog 33 st (J70 d c2 c3 p r a m)) (J70 d c2 c3 p r a) d.rows.length (Turn.same ⟨0, by simp [h2, h3, H2, H3, Ha, Hp, Hr]⟩) (fun m s h => h) ?_
    clear h2 h3 H2 H3 Ha Hp Hr
    rintro m ⟨σ, H⟩ ⟨i, him, h2, h3, h17, h18, H2, H3, Ha, Hp, Hr⟩
    simp only at h2 h3 h17 h18 H2 H3 Ha Hp Hr
    by_cases hi : i < d.rows.length
    · have hw : IntKind.i64.wrap ((i : Int) + 1) = i + 1 := wrapi (by omega)
      have hx := hs.row _ (List.getElem_mem hi)
      have hat := half_at (f := oR) (g := encR) hi
      have hset := half_set (f := oR) (g := encR) hi
      have hln := half_len (f := oR) (g := encR) (Nat.le_of_lt hi)
      generalize (d.rows.take i).map oR ++ (d.rows.drop i).map encR = M at Hr hat hset hln
      simp [h2, h3, h17, h18, H2, H3, Hr, hi]
      refine TWcH.regionD (ρ := []) [0, 1, 2, 3, 4, 5, 6, 7, 8, 9, 10] 10 mixed (by kernel_rfl) ?_
      simp [h2, h3, h17, h18, H2, H3, Hr, hi, hln, hat, encR]
      refine TWqH.call (tc_copiedInt d.rows[i] (by omega)) callable_50 (by simp) (by simp) (by simp) fun k hk => ?_
      have fk := frF_ge hk [c2, c3, p, r, a] (by simp [H2, H3, Hp, Hr, Ha])
      clear hk
      simp [frF] at fk
      simp [h2, h3, h17, h18, H2, H3, Ha, Hp, Hr, hi, hln, hat, encR, f3, fp, fr, fa, fk, hw]
      refine ⟨m - 1, by omega, Turn.shift (Shift.fold1x r k 24 i 0 (M.set i [.hd k]) [.hd k] (.own 3 (d.rows[i].map encI)) (by simp [fk]) (by simp [fk]) (by simp [hln, hi]) rfl (by simp [fk])) ⟨i + 1, by omega, ?_⟩⟩
      have hset' : M.set i [TV.own 3 (d.rows[i].map encI)] = List.map oR (List.take (i + 1) d.rows) ++ List.map encR (List.drop (i + 1) d.rows) := hset
      simp [h2, h3, h17, h18, H2, H3, Ha, Hp, Hr, f3, fp, fr, fa, fk, hset', del]
    · obtain rfl : i = d.rows.length := by omega
      simp only [List.take_length, List.drop_length, List.map_nil, List.append_nil] at Hr
      simp [h2, h3, h17, h18, H2, H3, Ha, Hp, Hr, f3, fp, fr, fa, del, oDfa]
end Go.Proofs.Ytfcdcgbpdinpnaa.R

open Go Go.Proofs.Ytfcdcgbpdinpnaa.T
namespace Go.Proofs.Ytfcdcgbpdinpnaa.R
set_option maxHeartbeats 8000000
set_option maxRecDepth 100000
set_option linter.unusedSimpArgs false
set_option linter.unusedVariables false
attribute [local simp] bsV bsRows chunk fillT partsT appV makeV rowsOf cellsOf placeOf frzT frz1
def encKn (ks : List Int) (s : Nat) : List TV := encI (kn ks s)
def encN (s : Nat) : List TV := encI (s : Int)
def encAc (d : Dfa) (s : Nat) : List TV := encI (ac_ d s)
@[simp] theorem roRows_kn (ks : List Int) (l : List Nat) : roRows (l.map (encKn ks)) = l.map (encKn ks) := by induction l <;> simp [*, encKn, encI]
@[simp] theorem noHR_kn (ks : List Int) (l : List Nat) : noHR (l.map (encKn ks)) = true := by induction l <;> simp [*, encKn, encI]
@[simp] theorem noHR_ac (d : Dfa) (l : List Nat) : noHR (l.map (encAc d)) = true := by induction l <;> simp [*, encAc, encI]
theorem find_kn {ks : List Int} {fs : List Nat} {x : Int} : (fs.map (kn ks)).findIdx? (fun y => decide (y = x)) = findK ks fs x := by
  rw [List.findIdx?_map]; rfl
def J74 (d : Dfa) (ks : List Int) (c4 c5 : Nat) (m : Nat) (st : St) : Prop := ∃ (i o f R A : Nat), i + m = 40 ∧ i ≤ (bfsTo d ks i).1.length ∧ st.σ 1 = .ro (ks.map encI) ∧ st.σ 2 = .rptr (encDfa d) 0 ∧ st.σ 4 = .pd c4 0 0 0 ∧ st.σ 5 = .pd c5 0 0 0 ∧ st.σ 6 = .hd o ∧ st.σ 7 = .hd f ∧ st.σ 8 = .val (.int .i64 i) ∧ frF o [c4, c5] ∧ frF f [c4, c5, o] ∧ frF R [c4, c5, o, f] ∧ frF A [c4, c5, o, f, R] ∧ st.H c4 = some (.box 30 [.val (.slice none 0 0), .val (.slice none 0 0), .val (.slice none 0 0)]) ∧ st.H c5 = some (.box 30 [.ro (d.parts.map encP), .hd R, .hd A]) ∧ st.H o = some (.own 3 ((bfsTo d ks i).1.map (encKn ks))) ∧ st.H f = some (.own 3 ((bfsTo d ks i).1.map encN)) ∧ st.H R = some (.own 24 ((bfsTo d ks i).2.map oR)) ∧ st.H A = some (.own 3 (((bfsTo d ks i).1.take i).map (encAc d)))
theorem tc_l8Of0 (d : Dfa) (hs : DSm d) (ho : DOk d) (ks : List Int) (hk : ks.length = d.rows.length) (h0 : 0 ≤ kn ks 0) (x : Dfa) (hx : x = leastB d ks) : TC Try.prog 18 [.agg (encDfa d), .ro (ks.map encI)] [] (.agg [.ro (d.parts.map encP), .own 24 (x.rows.map oR), .own 3 (x.acc.map encI)]) [] := by
  refine TC.enter Try.func18 rfl (by simp [Try.ntmps18]) rfl (tw_sound (ρ := [2]) ?_)
  rw [Try.ntmps18]
  have hone := ho.one
  have hmost := ho.most
  have hacc := ho.acc
  have hpl := hs.parts
  have kz : 0 < ks.length := by omega
  have hkz : ∀ h, ks[0]'h = kn ks 0 := fun h => (kn_eq h).symm
  simp [encDfa]
  refine gall_intro fun c4 g4 => ?_
  clear g4
  simp
  refine gall_fresh [c4] (by simp) fun c5 f5 => ?_
  simp [frF] at f5
  simp [f5, kz, hkz, encI]
  refine gall_fresh [c4, c5] (by simp [f5]) fun o fo => ?_
  simp [frF] at fo
  simp [f5, fo, kz, hkz, encI]
  refine gall_fresh [c4, c5, o] (by simp [f5, fo]) fun f ff => ?_
  simp [frF] at ff
  simp [f5, fo, ff]
  refine TWcH.turn (Turn.then (Turn.nilC c5 1 24 30 (cs := [.ro (d.parts.map encP), .val (.slice none 0 0), .val (.slice none 0 0)]) (by simp [f5, fo, ff]) (by simp) fun R hR0 hR1 => ?_))
  have fR := frF_of hR0 [c4, c5, o, f] (by simp [f5, fo, ff])
  clear hR0 hR1
  simp [frF] at fR
  refine Turn.nilC c5 2 3 30 (cs := [.ro (d.parts.map encP), .hd R, .val (.slice none 0 0)]) (by simp [f5, fo, ff, fR]) (by simp) fun A hA0 hA1 => ?_
  have fA := frF_of hA0 [c4, c5, o, f, R] (by simp [f5, fo, ff, fR])
  clear hA0 hA1
  simp [frF] at fA
  refine TWcH.loopT [] (fun m st => Turn Try.prog 94 st (J74 d ks c4 c5 m)) (J74 d ks c4 c5) 40 (Turn.same ⟨0, o, f, R, A, by simp [f5, fo, ff, fR, fA, frF, encDfa, bfsTo, encKn, encN, encI]⟩) (fun m s h => h) ?_
  clear fo ff fR fA o f R A
  rintro m ⟨σ, H⟩ ⟨i, o, f, R, A, him, hil, h1, h2, h4, h5, h6, h7, h8, fo, ff, fR, fA, H4, H5, Ho, Hf, HR, HA⟩
  simp only [encDfa] at h1 h2 h4 h5 h6 h7 h8 H4 H5 Ho Hf HR HA
  simp [frF] at fo ff fR fA
  obtain ⟨b1, b2, b3⟩ := bfs_inv ho h0 i
  have hbl := b1.len
  by_cases hi : i < (bfsTo d ks i).1.length
  · obtain ⟨s, hsi⟩ : ∃ s, (bfsTo d ks i).1[i]? = some s := ⟨_, List.getElem?_eq_getElem hi⟩
    have hsr := (b1.rng s (List.mem_of_getElem? hsi)).1
    have hsucc := bfsTo_succ hsi
    generalize hFS : (bfsTo d ks i).1 = FS at *
    generalize hRS : (bfsTo d ks i).2 = RS at *
    have hrl := ho.row s hsr
    have hw8 : IntKind.i64.wrap ((i : Int) + 1) = i + 1 := wrapi (by omega)
    simp [h1, h2, h4, h5, h6, h7, h8, H4, H5, Ho, Hf, HR, HA, hi]
    refine gall_fresh [c4, c5, o, f, R, A] (by simp [H4, H5, Ho, Hf, HR, HA]) fun w0 fw0 => ?_
    simp [frF] at fw0
    simp [h1, h2, h4, h5, h6, h7, h8, H4, H5, Ho, Hf, HR, HA, f5, fo, ff, fR, fA, fw0]
    refine TWcH.loop [53, 64, 68, 72] (fun m' st => ∃ (k w o f : Nat), k + m' = d.parts.length ∧ st.σ 1 = .ro (ks.map encI) ∧ st.σ 2 = .rptr (encDfa d) 0 ∧ st.σ 4 = .pd c4 0 0 0 ∧ st.σ 5 = .pd c5 0 0 0 ∧ st.σ 6 = .hd o ∧ st.σ 7 = .hd f ∧ st.σ 8 = .val (.int .i64 i) ∧ st.σ 9 = .hd w ∧ st.σ 10 = .val (.int .i64 k) ∧ frF o [c4, c5, R, A] ∧ frF f [c4, c5, R, A, o] ∧ frF w [c4, c5, R, A, o, f] ∧ st.H c4 = some (.box 30 [.val (.slice none 0 0), .val (.slice none 0 0), .val (.slice none 0 0)]) ∧ st.H c5 = some (.box 30 [.ro (d.parts.map encP), .hd R, .hd A]) ∧ st.H o = some (.own 3 ((rowK ks ((rw_ d s).take k) FS).1.map (encKn ks))) ∧ st.H f = some (.own 3 ((rowK ks ((rw_ d s).take k) FS).1.map encN)) ∧ st.H w = some (.own 3 ((rowK ks ((rw_ d s).take k) FS).2.map encI)) ∧ st.H R = some (.own 24 (RS.map oR)) ∧ st.H A = some (.own 3 ((FS.take i).map (encAc d))))
      d.parts.length ⟨0, w0, o, f, by simp [h1, h2, h4, h5, h6, h7, h8, H4, H5, Ho, Hf, HR, HA, f5, fo, ff, fR, fA, fw0, frF, encDfa, rowK]⟩ ?_
    clear h1 h2 h4 h5 h6 h7 h8 H4 H5 Ho Hf HR HA fw0 fo ff w0
    rintro m' ⟨σ, H⟩ ⟨k, w, o, f, hkm, g1, g2, g4, g5, g6, g7, g8, g9, g10, fo, ff, fw, G4, G5, Go, Gf, Gw, GR, GA⟩
    simp only [encDfa] at g1 g2 g4 g5 g6 g7 g8 g9 g10 G4 G5 Go Gf Gw GR GA
    simp [frF] at fo ff fw
    obtain ⟨r1, r2, r3, z, r4⟩ := b1.row ho hsr (min k (rw_ d s).length) (by omega)
    by_cases hk : k < d.parts.length
    · have hkr : k < (rw_ d s).length := by omega
      rw [show min k (rw_ d s).length = k by omega] at r1 r2 r3 r4
      have hst := rowK_succ (ks := ks) (fs := FS) hkr
      have hFi : ((rowK ks ((rw_ d s).take k) FS).1)[i]? = some s := by rw [r4, List.getElem?_append_left hi]; exact hsi
      have hil2 : i < (rowK ks ((rw_ d s).take k) FS).1.length := (List.getElem?_eq_some_iff.1 hFi).1
      have hFa : ∀ h, (rowK ks ((rw_ d s).take k) FS).1[i]'h = s := fun h => (List.getElem?_eq_some_iff.1 hFi).2
      have hfl := r1.len
      generalize (rowK ks ((rw_ d s).take k) FS).1 = FK at *
      generalize (rowK ks ((rw_ d s).take k) FS).2 = RK at *
      obtain ⟨t, hat⟩ : ∃ t, ∀ h, (rw_ d s)[k]'h = t := ⟨(rw_ d s)[k]'hkr, fun _ => rfl⟩
      have hent := ho.ent s hsr t (by rw [← hat hkr]; exact List.getElem_mem hkr)
      rw [hat] at hst
      have hr' : ∀ h, d.rows[s]'h = rw_ d s := fun _ => (rw_eq hsr).symm
      have hw10 : IntKind.i64.wrap ((k : Int) + 1) = k + 1 := wrapi (by omega)
      have q1 : (RK.length + 1) * 8 ≤ 140737488355328 := by omega
      have q2 : RK.length ≤ 9223372036854775806 := by omega
      have q3 : (FK.length + 1) * 8 ≤ 140737488355328 := by omega
      have q4 : FK.length ≤ 9223372036854775806 := by omega
      have hkd : TC Try.prog 41 [.ro (ks.map encI), .val (.int .i64 t)] [] (.val (.int .i64 (kd ks t))) [] := tc_l8Kind ks t (by omega)
      simp [g1, g2, g4, g5, g6, g7, g8, g9, g10, G4, G5, Go, Gf, Gw, GR, GA, hk]
      refine TWcH.regionD (ρ := []) [0, 1, 2, 3, 4, 5, 6, 7, 8, 9, 10, 11] 12 mixed (by kernel_rfl) ?_
      simp [g1, g2, g4, g5, g6, g7, g8, g9, g10, G4, G5, Go, Gf, Gw, GR, GA, hk, hil2, hFa, encN, encI, hsr, hr', encR, hkr, hat]
      refine TWoH.callV hkd callable_41 (by simp [g1]) (by simp) (by simp) (by simp) ?_
      by_cases c : kd ks t < 0
      · have hst2 : stepB ks FK t = (FK, -1) := by unfold stepB; rw [if_pos c]
        rw [hst2] at hst
        simp [g1, g2, g4, g5, g6, g7, g8, g9, g10, G4, G5, Go, Gf, Gw, GR, GA, hk, c, q1, q2]
        refine gall_fresh [c4, c5, R, A, o, f, w] (by simp [G4, G5, Go, Gf, Gw, GR, GA]) fun w2 fw2 => ?_
        simp [frF] at fw2
        simp [g1, g2, g4, g5, g6, g7, g8, g9, g10, G4, G5, Go, Gf, Gw, GR, GA, f5, fR, fA, fo, ff, fw, fw2, q1, q2, del, delo, hw10]
        exact ⟨m' - 1, by omega, k + 1, by omega, rfl, by omega, by simp [frF, fo], by simp [frF, ff, fo], by simp [frF, fw2], by rw [hst], by rw [hst], by rw [hst]; simp [encI]⟩
      · have ht0 : ¬ t < 0 := fun x => c (by unfold kd; rw [if_pos x]; decide)
        have hkk : kd ks t = kn ks t.toNat := by unfold kd; rw [if_neg ht0]
        have htn : ((t.toNat : Nat) : Int) = t := by omega
        have hEK : List.map encI (List.map (kn ks) FK) = List.map (encKn ks) FK := by rw [List.map_map]; rfl
        have hfd : TC Try.prog 42 [.ro (FK.map (encKn ks)), .val (.int .i64 (kd ks t))] [] (.val (.int .i64 (placeI (findK ks FK (kd ks t))))) [] := by
          have := tc_l8Find (FK.map (kn ks)) (kd ks t) (by simp; omega)
          rwa [find_kn, hEK] at this
        simp [g1, g2, g4, g5, g6, g7, g8, g9, g10, G4, G5, Go, Gf, Gw, GR, GA, hk, c]
        refine TWoH.callV hfd callable_42 (by simp [g1, g2, g4, g5, g6, g7, g8, g9, g10, G4, G5, Go, Gf, Gw, GR, GA]) (by simp) (by simp) (by simp) ?_
        cases hj : findK ks FK (kd ks t) with
        | some j =>
          have hst2 : stepB ks FK t = (FK, (j : Int)) := by unfold stepB; rw [if_neg c, hj]
          rw [hst2] at hst
          have hj0 : ¬ (j : Int) < 0 := by omega
          simp [g1, g2, g4, g5, g6, g7, g8, g9, g10, G4, G5, Go, Gf, Gw, GR, GA, hk, placeI, hj0, q1, q2]
          refine gall_fresh [c4, c5, R, A, o, f, w] (by simp [G4, G5, Go, Gf, Gw, GR, GA]) fun w2 fw2 => ?_
          simp [frF] at fw2
          simp [g1, g2, g4, g5, g6, g7, g8, g9, g10, G4, G5, Go, Gf, Gw, GR, GA, f5, fR, fA, fo, ff, fw, fw2, del, delo, hw10]
          exact ⟨m' - 1, by omega, k + 1, by omega, rfl, by omega, by simp [frF, fo], by simp [frF, ff, fo], by simp [frF, fw2], by rw [hst], by rw [hst], by rw [hst]; simp [encI]⟩
        | none =>
          have hst2 : stepB ks FK t = (FK ++ [t.toNat], (FK.length : Int)) := by unfold stepB; rw [if_neg c, hj]
          rw [hst2] at hst
          simp [g1, g2, g4, g5, g6, g7, g8, g9, g10, G4, G5, Go, Gf, Gw, GR, GA, hk, placeI, q3, q4]
          refine gall_fresh [c4, c5, R, A, o, f, w] (by simp [G4, G5, Go, Gf, Gw, GR, GA]) fun o2 fo2 => ?_
          simp [frF] at fo2
          simp [g1, g2, g4, g5, g6, g7, g8, g9, g10, G4, G5, Go, Gf, Gw, GR, GA, f5, fR, fA, fo, ff, fw, fo2, del, delo, q3, q4]
          refine gall_fresh [c4, c5, R, A, o2, f, w] (by simp [g1, g2, g4, g5, g6, g7, g8, g9, g10, G4, G5, Go, Gf, Gw, GR, GA, f5, fR, fA, fo, ff, fw, fo2, del]) fun f2 ff2 => ?_
          simp [frF] at ff2
          simp [g1, g2, g4, g5, g6, g7, g8, g9, g10, G4, G5, Go, Gf, Gw, GR, GA, f5, fR, fA, fo, ff, fw, fo2, ff2, del, delo, q1, q2]
          refine gall_fresh [c4, c5, R, A, o2, f2, w] (by simp [g1, g2, g4, g5, g6, g7, g8, g9, g10, G4, G5, Go, Gf, Gw, GR, GA, f5, fR, fA, fo, ff, fw, fo2, ff2, del]) fun w2 fw2 => ?_
          simp [frF] at fw2
          simp [g1, g2, g4, g5, g6, g7, g8, g9, g10, G4, G5, Go, Gf, Gw, GR, GA, f5, fR, fA, fo, ff, fw, fo2, ff2, fw2, del, delo, hw10]
          exact ⟨m' - 1, by omega, k + 1, by omega, rfl, by omega, by simp [frF, fo2], by simp [frF, ff2, fo2], by simp [frF, fw2], by rw [hst]; simp [encKn, encI, hkk], by rw [hst]; simp [encN, encI]; omega, by rw [hst]; simp [encI]⟩
    · have hkl : k = (rw_ d s).length := by omega
      rw [show min k (rw_ d s).length = k by omega] at r1 r2 r3 r4
      rw [hkl, List.take_length] at Go Gf Gw r1 r2 r3 r4
      rw [hkl] at g10
      have hFi : ((rowK ks (rw_ d s) FS).1)[i]? = some s := by rw [r4, List.getElem?_append_left hi]; exact hsi
      have hil2 : i < (rowK ks (rw_ d s) FS).1.length := (List.getElem?_eq_some_iff.1 hFi).1
      have hFa : ∀ h, (rowK ks (rw_ d s) FS).1[i]'h = s := fun h => (List.getElem?_eq_some_iff.1 hFi).2
      have hRS : RS.length = i := b2 (by omega)
      have hta : (rowK ks (rw_ d s) FS).1.take (i + 1) = FS.take i ++ [s] := by
        rw [r4, List.take_append_of_le_length (by omega), List.take_succ_eq_append_getElem hi]
        rw [List.getElem?_eq_getElem hi] at hsi
        rw [Option.some.inj hsi]
      generalize (rowK ks (rw_ d s) FS).1 = FL at *
      generalize (rowK ks (rw_ d s) FS).2 = RL at *
      have has : s < d.acc.length := by omega
      have hpa : ∀ h, d.acc[s]'h = ac_ d s := fun _ => (ac_eq has).symm
      have q5 : (i + 1) * 24 ≤ 140737488355328 := by omega
      have q6 : i ≤ 9223372036854775806 := by omega
      have q7 : (i + 1) * 8 ≤ 140737488355328 := by omega
      have hmin : min i FS.length = i := by omega
      have hrlk : ¬ (rw_ d s).length < d.parts.length := by omega
      simp [g1, g2, g4, g5, g6, g7, g8, g9, g10, G4, G5, Go, Gf, Gw, GR, GA, hrlk]
      refine gall_fresh [c4, c5, R, A, o, f, w] (by simp [G4, G5, Go, Gf, Gw, GR, GA]) fun e fe => ?_
      simp [frF] at fe
      simp [g1, g2, g4, g5, g6, g7, g8, g9, g10, G4, G5, Go, Gf, Gw, GR, GA, f5, fR, fA, fo, ff, fw, fe, del, delo, hRS, q5, q6]
      refine gall_fresh [c4, c5, R, A, o, f, w, e] (by simp [G4, G5, Go, Gf, Gw, GR, GA, fe]) fun n fn => ?_
      simp [frF] at fn
      simp [g1, g2, g4, g5, g6, g7, g8, g9, g10, G4, G5, Go, Gf, Gw, GR, GA, f5, fR, fA, fo, ff, fw, fe, fn, del, delo]
      refine TWcH.regionD (ρ := [90]) [0, 1, 2, 3, 4, 5, 6, 7, 8, 9, 10, 11, 12, 13] 13 mixed (by kernel_rfl) ?_
      simp [g1, g2, g4, g5, g6, g7, g8, g9, g10, G4, G5, Go, Gf, Gw, GR, GA, f5, fR, fA, fo, ff, fw, fe, fn, del, delo, hil2, hFa, encN, encI, has, hpa, hmin, q7, q6]
      refine gall_fresh [c4, c5, A, o, f, w, e, n] (by simp [g1, g2, g4, g5, g6, g7, g8, g9, g10, G4, G5, Go, Gf, Gw, GR, GA, f5, fR, fA, fo, ff, fw, fe, fn, del]) fun A2 fA2 => ?_
      simp [frF] at fA2
      simp [g1, g2, g4, g5, g6, g7, g8, g9, g10, G4, G5, Go, Gf, Gw, GR, GA, f5, fR, fA, fo, ff, fw, fe, fn, fA2, del, delo, hw8]
      refine ⟨m - 1, by omega, Turn.shift (Shift.fold1x n w 24 i 0 (RS.map oR ++ [[.hd w]]) [.hd w] (.own 3 (RL.map encI)) (by simp [fn]) (by simp [g1, g2, g4, g5, g6, g7, g8, g9, g10, G4, G5, Go, Gf, Gw, GR, GA, f5, fR, fA, fo, ff, fw, fe, fn, fA2, del, delo]) (by rw [List.getElem?_append_right (by simp; omega)]; simp [hRS]) rfl (by simp [g1, g2, g4, g5, g6, g7, g8, g9, g10, G4, G5, Go, Gf, Gw, GR, GA, f5, fR, fA, fo, ff, fw, fe, fn, fA2, del, delo])) ⟨i + 1, o, f, n, A2, by omega, ?_⟩⟩
      have hset : (RS.map oR ++ [[TV.hd w]]).set i [TV.own 3 (RL.map encI)] = (RS ++ [RL]).map oR := by
        rw [List.set_append_right _ _ (by simp; omega)]
        simp [hRS, oR]
      rw [hsucc]
      simp [g1, g2, g4, g5, g6, g7, g8, g9, g10, G4, G5, Go, Gf, Gw, GR, GA, f5, fR, fA, fo, ff, fw, fe, fn, fA2, del, delo, frF, hset, hta, encDfa]
      exact ⟨by omega, rfl⟩
  · have hL : leastB d ks = ⟨d.parts, (bfsTo d ks i).2, (bfsTo d ks i).1.map (ac_ d)⟩ := by unfold leastB; rw [bfsEnd_of (i := i) (by omega) (by omega)]
    rw [hL] at hx
    subst hx
    rw [List.take_of_length_le (by omega)] at HA
    generalize (bfsTo d ks i).1 = FS at *
    generalize (bfsTo d ks i).2 = RS at *
    clear b1 b2 b3
    simp [h1, h2, h4, h5, h6, h7, h8, H4, H5, Ho, Hf, HR, HA, hi, f5, fo, ff, fR, fA, del]
    exact fun a _ => rfl
theorem tc_l8Of (d : Dfa) (hs : DSm d) (ho : DOk d) (ks : List Int) (hk : ks.length = d.rows.length) (h0 : 0 ≤ kn ks 0) (x : Dfa) (hx : x = leastB d ks) : TC Try.prog 18 [.agg (encDfa d), .ro (ks.map encI)] [] (.agg (encDfa x)) [] := by
  have := (tc_l8Of0 d hs ho ks hk h0 x hx).frz
  have hp : x.parts = d.parts := by rw [hx]; unfold leastB; rfl
  clear hx
  rw [← hp] at this
  simpa [encDfa] using this
end Go.Proofs.Ytfcdcgbpdinpnaa.R

open Go Go.Proofs.Ytfcdcgbpdinpnaa.T
namespace Go.Proofs.Ytfcdcgbpdinpnaa.R
set_option maxHeartbeats 8000000
set_option maxRecDepth 100000
set_option linter.unusedSimpArgs false
set_option linter.unusedVariables false
attribute [local simp] bsV bsRows chunk fillT partsT appV makeV rowsOf cellsOf placeOf frzT frz1
@[simp] theorem roRows_N (l : List Nat) : roRows (l.map encN) = l.map encN := by induction l <;> simp [*, encN, encI]
@[simp] theorem noHR_N (l : List Nat) : noHR (l.map encN) = true := by induction l <;> simp [*, encN, encI]
theorem noHR_oRf (f : List Int → List Int) (l : List (List Int)) : noHR (l.map fun r => oR (f r)) = true := by
  simp only [oR]
  induction l with
  | nil => simp
  | cons a l ih => simp [ih]
theorem tc_sSetJoinR (p q : List (Int × Int)) (hp : p.length ≤ 1152921504606846976) (hq : q.length ≤ 1152921504606846976) : TC Try.prog 40 [.ro (p.map encS), .ro (q.map encS)] [] (.ro ((joinS p q).map encS)) [] := by
  have := (tc_sSetJoinB p q hp hq).frz
  simpa using this
def J73a (d : Dfa) (c2 c3 : Nat) (m : Nat) (st : St) : Prop := ∃ (k cs P R : Nat), k + m = d.parts.length ∧ st.σ 1 = .rptr (encDfa d) 0 ∧ st.σ 2 = .pd c2 0 0 0 ∧ st.σ 3 = .pd c3 0 0 0 ∧ st.σ 4 = .hd cs ∧ st.σ 5 = .val (.int .i64 k) ∧ frF cs [c2, c3] ∧ frF P [c2, c3, cs] ∧ frF R [c2, c3, cs, P] ∧ st.H c2 = some (.box 30 [.val (.slice none 0 0), .val (.slice none 0 0), .val (.slice none 0 0)]) ∧ st.H c3 = some (.box 30 [.hd P, .hd R, .ro (d.acc.map encI)]) ∧ st.H cs = some (.own 3 ((mergeTo d.rows d.parts k).1.map encN)) ∧ st.H P = some (.own 43 ((mergeTo d.rows d.parts k).2.map encP)) ∧ st.H R = some (.own 24 [])
def J73b (d : Dfa) (CS : List Nat) (QS : List (List (Int × Int))) (c2 c3 cs P : Nat) (m : Nat) (st : St) : Prop := ∃ (i R : Nat), i + m = d.rows.length ∧ st.σ 1 = .rptr (encDfa d) 0 ∧ st.σ 2 = .pd c2 0 0 0 ∧ st.σ 3 = .pd c3 0 0 0 ∧ st.σ 4 = .hd cs ∧ st.σ 8 = .val (.int .i64 i) ∧ frF R [c2, c3, cs, P] ∧ st.H c2 = some (.box 30 [.val (.slice none 0 0), .val (.slice none 0 0), .val (.slice none 0 0)]) ∧ st.H c3 = some (.box 30 [.hd P, .hd R, .ro (d.acc.map encI)]) ∧ st.H cs = some (.own 3 (CS.map encN)) ∧ st.H P = some (.own 43 (QS.map encP)) ∧ st.H R = some (.own 24 ((d.rows.take i).map fun r => oR (CS.map fun c => (r[c]?).getD 0)))
theorem tc_l8Merge0 (d : Dfa) (hs : DSm d) (h40 : d.rows.length ≤ 40) (hrow : ∀ r ∈ d.rows, r.length = d.parts.length) (x : Dfa) (hx : x = mergeM d) : TC Try.prog 17 [.agg (encDfa d)] [] (.agg [.own 43 (x.parts.map encP), .own 24 (x.rows.map oR), .ro (d.acc.map encI)]) [] := by
  refine TC.enter Try.func17 rfl (by simp [Try.ntmps17]) rfl (tw_sound (ρ := [1]) ?_)
  rw [Try.ntmps17]
  have hpl := hs.parts
  simp [encDfa]
  refine gall_intro fun c2 g2 => ?_
  clear g2
  simp
  refine gall_fresh [c2] (by simp) fun c3 f3 => ?_
  simp [frF] at f3
  simp [f3]
  refine gall_fresh [c2, c3] (by simp [f3]) fun cs fc => ?_
  simp [frF] at fc
  simp [f3, fc]
  refine TWcH.turn (Turn.then (Turn.nilC c3 0 43 30 (cs := [.val (.slice none 0 0), .val (.slice none 0 0), .ro (d.acc.map encI)]) (by simp [f3, fc]) (by simp) fun P hP0 hP1 => ?_))
  have fP := frF_of hP0 [c2, c3, cs] (by simp [f3, fc])
  clear hP0 hP1
  simp [frF] at fP
  refine Turn.nilC c3 1 24 30 (cs := [.hd P, .val (.slice none 0 0), .ro (d.acc.map encI)]) (by simp [f3, fc, fP]) (by simp) fun R hR0 hR1 => ?_
  have fR := frF_of hR0 [c2, c3, cs, P] (by simp [f3, fc, fP])
  clear hR0 hR1
  simp [frF] at fR
  refine TWcH.loop [44, 53] (J73a d c2 c3) d.parts.length ⟨0, cs, P, R, by simp [f3, fc, fP, fR, frF, encDfa, mergeTo]⟩ ?_
  clear fc fP fR cs P R
  rintro m ⟨σ, H⟩ ⟨k, cs, P, R, hkm, h1, h2, h3, h4, h5, fc, fP, fR, H2, H3, Hc, HP, HR⟩
  simp only [encDfa] at h1 h2 h3 h4 h5 H2 H3 Hc HP HR
  simp [frF] at fc fP fR
  by_cases hk : k < d.parts.length
  · have hinv := merge_inv (rows := d.rows) hs.part k (by omega)
    have hnext : mergeTo d.rows d.parts (k + 1) = stepM d.rows d.parts (mergeTo d.rows d.parts k) k := rfl
    unfold stepM at hnext
    have i1 := hinv.len
    have i2 := hinv.lek
    have i3 := hinv.rng
    have i4 := hinv.sm
    clear hinv
    generalize (mergeTo d.rows d.parts k).1 = CS at *
    generalize (mergeTo d.rows d.parts k).2 = QS at *
    have hw5 : IntKind.i64.wrap ((k : Int) + 1) = k + 1 := wrapi (by omega)
    have hpt : ∀ h, d.parts[k]'h = pt d.parts k := fun _ => (pt_eq hk).symm
    have hptl : (pt d.parts k).length ≤ 1048576 := by rw [pt_eq hk]; exact hs.part _ (List.getElem_mem hk)
    simp [h1, h2, h3, h4, h5, H2, H3, Hc, HP, HR, hk]
    refine TWcH.loop [] (fun m' st => ∃ (i : Nat) (at_ : Int), (if at_ < 0 then i + m' = CS.length + 1 ∧ i ≤ CS.length ∧ at_ = -1 ∧ ∀ j (hj : j < i) (hl : j < CS.length), colE d.rows CS[j] k = false else m' = 0 ∧ at_ = placeI (CS.findIdx? fun c => colE d.rows c k)) ∧ st.σ 1 = .rptr (encDfa d) 0 ∧ st.σ 2 = .pd c2 0 0 0 ∧ st.σ 3 = .pd c3 0 0 0 ∧ st.σ 4 = .hd cs ∧ st.σ 5 = .val (.int .i64 k) ∧ st.σ 6 = .val (.int .i64 at_) ∧ st.σ 7 = .val (.int .i64 i) ∧ st.H c2 = some (.box 30 [.val (.slice none 0 0), .val (.slice none 0 0), .val (.slice none 0 0)]) ∧ st.H c3 = some (.box 30 [.hd P, .hd R, .ro (d.acc.map encI)]) ∧ st.H cs = some (.own 3 (CS.map encN)) ∧ st.H P = some (.own 43 (QS.map encP)) ∧ st.H R = some (.own 24 [])) (CS.length + 1) ⟨0, -1, by simp [h1, h2, h3, h4, h5, H2, H3, Hc, HP, HR, encDfa]⟩ ?_
    clear h1 h2 h3 h4 h5 H2 H3 Hc HP HR
    rintro m' ⟨σ, H⟩ ⟨i, at_, hat, h1, h2, h3, h4, h5, h6, h7, H2, H3, Hc, HP, HR⟩
    simp only [encDfa] at h1 h2 h3 h4 h5 h6 h7 H2 H3 Hc HP HR
    by_cases ca : at_ < 0
    case' pos =>
      rw [if_pos ca] at hat
      obtain ⟨him, hil, hae, hno⟩ := hat
      subst hae
      by_cases hi : i < CS.length
      case' pos =>
        have hck := i3 _ (List.getElem_mem hi)
        have t1 := tc_l8Column d hs CS[i] k (fun r hr => by rw [hrow r hr]; omega) (fun r hr => by rw [hrow r hr]; omega)
        have hw7 : IntKind.i64.wrap ((i : Int) + 1) = i + 1 := wrapi (by omega)
        simp [h1, h2, h3, h4, h5, h6, h7, H2, H3, Hc, HP, HR, hi]
        refine TWcH.regionD (ρ := [1]) [0, 1, 2, 3, 4, 5, 6] 6 mixed (by kernel_rfl) ?_
        simp [h1, h2, h3, h4, h5, h6, h7, H2, H3, Hc, HP, HR, hi, encN, encI]
        refine TWoH.callV t1 callable_39 (by simp [encDfa]) (by simp) (by simp) (by simp) ?_
        cases hc : colE d.rows CS[i] k
        · simp [h1, h2, h3, h4, h5, h6, h7, H2, H3, Hc, HP, HR, hi, hw7]
          have hno' : ∀ j, j < i + 1 → ∀ hl : j < CS.length, colE d.rows CS[j] k = false := fun j hj hl => by
            by_cases e : j = i
            · subst e; exact hc
            · exact hno j (by omega) hl
          exact ⟨m' - 1, by omega, i + 1, -1, by rw [if_pos (by decide)]; exact ⟨by omega, by omega, rfl, hno'⟩, rfl, rfl, by omega⟩
        · simp [h1, h2, h3, h4, h5, h6, h7, H2, H3, Hc, HP, HR, hi, hw7]
          exact ⟨0, by omega, i + 1, (i : Int), by rw [if_neg (by omega)]; exact ⟨rfl, by rw [findI_at hi hc fun j hj => hno j hj (by omega)]; rfl⟩, rfl, rfl, by omega⟩
      case' neg =>
        have hnone : (CS.findIdx? fun c => colE d.rows c k) = none := findI_none fun j hj => hno j (by omega) hj
        rw [hnone] at hnext
        simp only at hnext
        have q1 : (CS.length + 1) * 8 ≤ 140737488355328 := by omega
        have q2 : CS.length ≤ 9223372036854775806 := Nat.le_trans i2 (Nat.le_trans (Nat.le_of_lt hk) (Nat.le_trans hpl (by decide)))
        have q3 : (QS.length + 1) * 24 ≤ 140737488355328 := by omega
        have q4 : QS.length ≤ 9223372036854775806 := by rw [i1]; exact q2
        simp [h1, h2, h3, h4, h5, h6, h7, H2, H3, Hc, HP, HR, hi, q1, q2]
        refine gall_fresh [c2, c3, cs, P, R] (by simp [H2, H3, Hc, HP, HR]) fun cs2 fc2 => ?_
        simp [frF] at fc2
        simp [h1, h2, h3, h4, h5, h6, h7, H2, H3, Hc, HP, HR, f3, fc, fP, fR, fc2, del, delo]
        refine TWcH.regionD (ρ := [53]) [0, 1, 2, 3, 4, 5, 6, 7, 8, 9, 10] 10 mixed (by kernel_rfl) ?_
        simp [h1, h2, h3, h4, h5, h6, h7, H2, H3, Hc, HP, HR, f3, fc, fP, fR, fc2, del, delo, hk, hpt, encP, q3, q4]
        refine gall_fresh [c2, c3, cs2, P, R] (by simp [H2, H3, Hc, HP, HR, f3, fc, fP, fR, fc2, del]) fun P2 fP2 => ?_
        simp [frF] at fP2
        simp [h1, h2, h3, h4, h5, h6, h7, H2, H3, Hc, HP, HR, f3, fc, fP, fR, fc2, fP2, del, delo, hw5]
        exact ⟨m - 1, by omega, k + 1, cs2, P2, R, by omega, by simp [h1, h2, h3, h4, h5, h6, h7, H2, H3, Hc, HP, HR, f3, fc, fP, fR, fc2, fP2, frF, hnext, encDfa, encN, encI, encP, del]⟩
    case' neg =>
      rw [if_neg ca] at hat
      obtain ⟨rfl, hae⟩ := hat
      cases hfi : CS.findIdx? fun c => colE d.rows c k with
      | none => rw [hfi] at hae; simp [placeI] at hae; omega
      | some j =>
        rw [hfi] at hae hnext
        simp only [placeI] at hae
        subst hae
        simp only at hnext
        obtain ⟨hj, _, _⟩ := List.findIdx?_eq_some_iff_getElem.1 hfi
        have hjq : j < QS.length := by omega
        have hqj : QS[j].length ≤ 1048576 := i4 _ (List.getElem_mem hjq)
        have t2 := tc_sSetJoinR QS[j] (pt d.parts k) (by omega) (by omega)
        rw [List.getElem?_eq_getElem hjq, Option.getD_some] at hnext
        have hj0 : ¬ (j : Int) < 0 := by omega
        by_cases hi : i < CS.length
        all_goals
          simp [h1, h2, h3, h4, h5, h6, h7, H2, H3, Hc, HP, HR, hi, hj0]
          refine TWcH.regionD (ρ := []) [0, 1, 2, 3, 4, 5, 6, 7, 8, 9, 10, 11, 12, 13, 14, 15] 15 mixed (by kernel_rfl) ?_
          simp [h1, h2, h3, h4, h5, h6, h7, H2, H3, Hc, HP, HR, hjq, hk, hpt, encP]
          refine TWqH.callV t2 callable_40 (by simp) (by simp) (by simp) (by simp) ?_
          simp [h1, h2, h3, h4, h5, h6, h7, H2, H3, Hc, HP, HR, f3, fc, fP, fR, hjq, hw5]
          exact ⟨m - 1, by omega, k + 1, cs, P, R, by omega, by simp [h1, h2, h3, h4, h5, h6, h7, H2, H3, Hc, HP, HR, f3, fc, fP, fR, frF, hnext, encDfa, List.map_set, encP]⟩
  · obtain rfl : k = d.parts.length := by omega
    have hinv := merge_inv (rows := d.rows) hs.part d.parts.length (Nat.le_refl _)
    have hM : mergeM d = ⟨(mergeTo d.rows d.parts d.parts.length).2, d.rows.map fun r => (mergeTo d.rows d.parts d.parts.length).1.map fun c => (r[c]?).getD 0, d.acc⟩ := rfl
    rw [hM] at hx
    have i2 := hinv.lek
    have i3 := hinv.rng
    clear hinv hM
    generalize (mergeTo d.rows d.parts d.parts.length).1 = CS at *
    generalize (mergeTo d.rows d.parts d.parts.length).2 = QS at *
    subst hx
    simp [h1, h2, h3, h4, h5, H2, H3, Hc, HP, HR]
    refine TWcH.loopT [] (fun m st => Turn Try.prog 106 st (J73b d CS QS c2 c3 cs P m)) (J73b d CS QS c2 c3 cs P) d.rows.length (Turn.same ⟨0, R, by simp [h1, h2, h3, h4, h5, H2, H3, Hc, HP, HR, f3, fc, fP, fR, frF, encDfa]⟩) (fun m s h => h) ?_
    clear h1 h2 h3 h4 h5 H2 H3 Hc HP HR fR R hk hkm
    rintro m ⟨σ, H⟩ ⟨i, R, him, h1, h2, h3, h4, h8, fR, H2, H3, Hc, HP, HR⟩
    simp only [encDfa] at h1 h2 h3 h4 h8 H2 H3 Hc HP HR
    simp [frF] at fR
    by_cases hi : i < d.rows.length
    · have hw8 : IntKind.i64.wrap ((i : Int) + 1) = i + 1 := wrapi (by omega)
      have hrl := hrow _ (List.getElem_mem hi)
      simp [h1, h2, h3, h4, h8, H2, H3, Hc, HP, HR, hi]
      refine gall_fresh [c2, c3, cs, P, R] (by simp [H2, H3, Hc, HP, HR]) fun w0 fw0 => ?_
      simp [frF] at fw0
      simp [h1, h2, h3, h4, h8, H2, H3, Hc, HP, HR, f3, fc, fP, fR, fw0]
      refine TWcH.loop [97] (fun m' st => ∃ (j w : Nat), j + m' = CS.length ∧ st.σ 1 = .rptr (encDfa d) 0 ∧ st.σ 2 = .pd c2 0 0 0 ∧ st.σ 3 = .pd c3 0 0 0 ∧ st.σ 4 = .hd cs ∧ st.σ 8 = .val (.int .i64 i) ∧ st.σ 9 = .hd w ∧ st.σ 10 = .val (.int .i64 j) ∧ frF w [c2, c3, cs, P, R] ∧ st.H c2 = some (.box 30 [.val (.slice none 0 0), .val (.slice none 0 0), .val (.slice none 0 0)]) ∧ st.H c3 = some (.box 30 [.hd P, .hd R, .ro (d.acc.map encI)]) ∧ st.H cs = some (.own 3 (CS.map encN)) ∧ st.H P = some (.own 43 (QS.map encP)) ∧ st.H R = some (.own 24 ((d.rows.take i).map fun r => oR (CS.map fun c => (r[c]?).getD 0))) ∧ st.H w = some (.own 3 ((CS.take j).map fun c => encI ((d.rows[i][c]?).getD 0)))) CS.length ⟨0, w0, by simp [h1, h2, h3, h4, h8, H2, H3, Hc, HP, HR, f3, fc, fP, fR, fw0, frF, encDfa]⟩ ?_
      clear h1 h2 h3 h4 h8 H2 H3 Hc HP HR fw0 w0
      rintro m' ⟨σ, H⟩ ⟨j, w, hjm, h1, h2, h3, h4, h8, h9, h10, fw, H2, H3, Hc, HP, HR, Hw⟩
      simp only [encDfa] at h1 h2 h3 h4 h8 h9 h10 H2 H3 Hc HP HR Hw
      simp [frF] at fw
      by_cases hj : j < CS.length
      · have hcj := i3 _ (List.getElem_mem hj)
        have hcr : CS[j] < d.rows[i].length := by omega
        have hw10 : IntKind.i64.wrap ((j : Int) + 1) = j + 1 := wrapi (by omega)
        have hmin : min j CS.length = j := by omega
        have q1 : (j + 1) * 8 ≤ 140737488355328 := by omega
        have q2 : j ≤ 9223372036854775806 := Nat.le_trans (Nat.le_of_lt hj) (Nat.le_trans i2 (Nat.le_trans hpl (by decide)))
        simp [h1, h2, h3, h4, h8, h9, h10, H2, H3, Hc, HP, HR, Hw, hj]
        refine TWcH.regionD (ρ := [97]) [0, 1, 2, 3, 4, 5, 6, 7, 8, 9, 10, 11, 12, 13, 14] 15 mixed (by kernel_rfl) ?_
        simp [h1, h2, h3, h4, h8, h9, h10, H2, H3, Hc, HP, HR, Hw, hj, hi, getI hi, getI hj, encN, encR, encI, hcr, getI hcr, hmin, q1, q2]
        refine gall_fresh [c2, c3, cs, P, R, w] (by simp [H2, H3, Hc, HP, HR, Hw]) fun w2 fw2 => ?_
        simp [frF] at fw2
        simp [h1, h2, h3, h4, h8, h9, h10, H2, H3, Hc, HP, HR, Hw, f3, fc, fP, fR, fw, fw2, del, delo, hw10]
        refine ⟨m' - 1, by omega, j + 1, by omega, by simp [encDfa], by omega, by simp [frF, fw2], ?_⟩
        rw [List.take_succ_eq_append_getElem (by simpa using hj)]
        simp [encI, getI hcr]
      · have hjl : j = CS.length := by omega
        subst hjl
        rw [List.take_length] at Hw
        have hmin : min i d.rows.length = i := by omega
        have q5 : (i + 1) * 24 ≤ 140737488355328 := by omega
        have q6 : i ≤ 9223372036854775806 := Nat.le_trans (Nat.le_of_lt hi) (Nat.le_trans h40 (by decide))
        simp [h1, h2, h3, h4, h8, h9, h10, H2, H3, Hc, HP, HR, Hw]
        refine gall_fresh [c2, c3, cs, P, R, w] (by simp [H2, H3, Hc, HP, HR, Hw]) fun e fe => ?_
        simp [frF] at fe
        simp [h1, h2, h3, h4, h8, h9, h10, H2, H3, Hc, HP, HR, Hw, f3, fc, fP, fR, fw, fe, del, delo, hmin, q5, q6]
        refine gall_fresh [c2, c3, cs, P, R, w, e] (by simp [H2, H3, Hc, HP, HR, Hw, fe]) fun n fn => ?_
        simp [frF] at fn
        simp [h1, h2, h3, h4, h8, h9, h10, H2, H3, Hc, HP, HR, Hw, f3, fc, fP, fR, fw, fe, fn, del, delo, hw8]
        have hRl : ((d.rows.take i).map fun r => oR (CS.map fun c => (r[c]?).getD 0)).length = i := by simp; omega
        have hset : (((d.rows.take i).map fun r => oR (CS.map fun c => (r[c]?).getD 0)) ++ [[TV.hd w]]).set i [TV.own 3 (CS.map fun c => encI ((d.rows[i][c]?).getD 0))] = (d.rows.take (i + 1)).map fun r => oR (CS.map fun c => (r[c]?).getD 0) := by
          rw [List.set_append_right _ _ (by omega), hRl, Nat.sub_self, List.take_succ_eq_append_getElem hi, List.map_append]
          simp [oR, Function.comp_def]
        refine ⟨m - 1, by omega, Turn.shift (Shift.fold1x n w 24 i 0 (((d.rows.take i).map fun r => oR (CS.map fun c => (r[c]?).getD 0)) ++ [[.hd w]]) [.hd w] (.own 3 (CS.map fun c => encI ((d.rows[i][c]?).getD 0))) (by simp [fn]) (by simp [h1, h2, h3, h4, h8, h9, h10, H2, H3, Hc, HP, HR, Hw, f3, fc, fP, fR, fw, fe, fn, del, delo]) (by rw [List.getElem?_append_right (by omega), hRl]; simp) rfl (by simp [h1, h2, h3, h4, h8, h9, h10, H2, H3, Hc, HP, HR, Hw, f3, fc, fP, fR, fw, fe, fn, del, delo])) ⟨i + 1, n, by omega, ?_⟩⟩
        generalize ((d.rows.take i).map fun r => oR (CS.map fun c => (r[c]?).getD 0)) ++ [[TV.hd w]] = MM at hset
        simp [h1, h2, h3, h4, h8, h9, h10, H2, H3, Hc, HP, HR, Hw, f3, fc, fP, fR, fw, fe, fn, del, delo, frF, hset, encDfa]
    · obtain rfl : i = d.rows.length := by omega
      rw [List.take_length] at HR
      simp [h1, h2, h3, h4, h8, H2, H3, Hc, HP, HR, f3, fc, fP, fR, del]
      exact noHR_oRf _ d.rows
theorem tc_l8Merge (d : Dfa) (hs : DSm d) (h40 : d.rows.length ≤ 40) (hrow : ∀ r ∈ d.rows, r.length = d.parts.length) (x : Dfa) (hx : x = mergeM d) : TC Try.prog 17 [.agg (encDfa d)] [] (.agg (encDfa x)) [] := by
  have := (tc_l8Merge0 d hs h40 hrow x hx).frz
  have hp : x.acc = d.acc := by rw [hx]; rfl
  clear hx
  rw [← hp] at this
  simpa [encDfa] using this
end Go.Proofs.Ytfcdcgbpdinpnaa.R

open Go Go.Proofs.Ytfcdcgbpdinpnaa.T
namespace Go.Proofs.Ytfcdcgbpdinpnaa.R
set_option maxHeartbeats 8000000
set_option maxRecDepth 100000
set_option linter.unusedSimpArgs false
set_option linter.unusedVariables false
attribute [local simp] bsV bsRows chunk fillT partsT appV makeV rowsOf cellsOf placeOf frzT frz1
theorem tc_l7CopyR (d : Dfa) (hs : DSm d) : TC Try.prog 15 [.agg (encDfa d)] [] (.agg (encDfa d)) [] := by
  have := (tc_l7Copy d (CSm.of hs)).frz
  simpa [encDfa, oDfa] using this
theorem tc_l8KindsR (d : Dfa) (hs : DSm d) (ho : DOk d) (k0 : List Int) (hk0 : IsKinds d k0) : TC Try.prog 16 [.agg (encDfa d)] [] (.ro (k0.map encI)) [] := by
  have := (tc_l8Kinds d hs ho k0 hk0).frz
  simpa using this
theorem mergeM_sm {d : Dfa} (hs : DSm d) (h40 : d.rows.length ≤ 40) : DSm (mergeM d) := by
  have h := merge_inv (rows := d.rows) hs.part d.parts.length (Nat.le_refl _)
  have hp := hs.parts
  have h1 := h.len
  have h2 := h.lek
  refine ⟨?_, ?_, hs.acc, h.sm, fun r hr => ?_⟩
  · show (mergeTo d.rows d.parts d.parts.length).2.length ≤ 1048576
    omega
  · show (d.rows.map _).length ≤ 1048576
    simp; omega
  · obtain ⟨r0, _, rfl⟩ := List.mem_map.1 hr
    simp; omega
theorem leastB_sm {d : Dfa} (hs : DSm d) (ho : DOk d) {ks : List Int} (h0 : 0 ≤ kn ks 0) : DSm (leastB d ks) ∧ (leastB d ks).rows.length ≤ 40 ∧ (∀ r ∈ (leastB d ks).rows, r.length = (leastB d ks).parts.length) ∧ (leastB d ks).acc.length = (leastB d ks).rows.length := by
  have hm := ho.most
  have hp := hs.parts
  obtain ⟨L, hL1, hL2⟩ : ∃ L, L = (bfsTo d ks 40).1.length ∧ L ≤ 40 := ⟨_, rfl, by have := (bfs_inv ho h0 40).1.len; omega⟩
  obtain ⟨i, hi, hi2⟩ : ∃ i, i ≤ 40 ∧ (bfsTo d ks i).1.length = i := by
    -- the least place that the list does not pass
    have step : ∀ n, n ≤ 40 → (∃ i, i ≤ n ∧ (bfsTo d ks i).1.length = i) ∨ n < (bfsTo d ks n).1.length
      := by
        intro n
        induction n with
        | zero => intro _; right; simp [bfsTo]
        | succ n ih =>
          intro hn
          rcases ih (by omega) with ⟨i, h1, h2⟩ | h
          · exact .inl ⟨i, by omega, h2⟩
          · obtain ⟨b1, _, _⟩ := bfs_inv ho h0 n
            have hsi := List.getElem?_eq_getElem h
            have hr := b1.rng _ (List.getElem_mem h)
            obtain ⟨_, _, _, z, b4⟩ := b1.row ho hr.1 (rw_ d (bfsTo d ks n).1[n]).length (Nat.le_refl _)
            rw [List.take_length] at b4
            have : (bfsTo d ks (n + 1)).1.length = (bfsTo d ks n).1.length + z.length := by rw [bfsTo_succ hsi]; simp only; rw [b4, List.length_append]
            by_cases c : (bfsTo d ks (n + 1)).1.length = n + 1
            · exact .inl ⟨n + 1, by omega, c⟩
            · right; omega
    rcases step 40 (by omega) with h | h
    · exact h
    · have := (bfs_inv ho h0 40).1.len
      omega
  have e := bfsEnd_of (d := d) (ks := ks) (i := i) (by omega) hi
  have hB : leastB d ks = ⟨d.parts, (bfsTo d ks i).2, (bfsTo d ks i).1.map (ac_ d)⟩ := by unfold leastB; rw [e]
  obtain ⟨b1, b2, b3⟩ := bfs_inv ho h0 i
  have b2 := b2 (by omega)
  have hp := hs.parts
  rw [hB]
  generalize (bfsTo d ks i).1 = FS at *
  generalize (bfsTo d ks i).2 = RS at *
  refine ⟨⟨hs.parts, by simp only; omega, by simp; omega, hs.part, fun r hr => by rw [(b3 r hr).1]; exact hp⟩, by simp only; omega, fun r hr => (b3 r hr).1, by simp; omega⟩
theorem tc_sLeastOf (d : Dfa) (hs : DSm d) (m : Dfa) (hm : leastR d m) : TC Try.prog 5 [.agg (encDfa d)] [] (.agg (encDfa m)) [] := by
  refine TC.enter Try.func5 rfl (by simp [Try.ntmps5]) rfl (TWc.postT (tw_sound (ρ := [1, 18, 19, 20, 21, 22]) ?_))
  rw [Try.ntmps5]
  simp [encDfa]
  refine gall_intro fun c2 g2 => ?_
  clear g2
  simp
  refine TWoH.callV (tc_sDfaOk d hs) callable_14 (by simp [encDfa]) (by simp) (by simp) (by simp) ?_
  unfold leastR at hm
  by_cases ok : dfaOk d = true
  case neg =>
    rw [if_neg ok] at hm
    subst hm
    simp [ok]
    refine Turn.nrm c2 (t := .box 30 [.val (.slice none 0 0), .val (.slice none 0 0), .val (.slice none 0 0)]) (by simp) ?_
    simp [nrmO, nrm1]
  rw [if_pos ok] at hm
  obtain ⟨ks, hks, rfl⟩ := hm
  have ho := dok_of ok
  have hkl : ks.length = d.rows.length := by obtain ⟨R, L, _, _, rfl⟩ := hks; exact numb_len R L _
  have hone := ho.one
  have kz : 0 < ks.length := by omega
  have hkz : ∀ h, ks[0]'h = kn ks 0 := fun h => (kn_eq h).symm
  simp [ok]
  refine TWoH.callV (tc_l7CopyR d hs) callable_15 (by simp [encDfa]) (by simp) (by simp) (by simp) ?_
  simp [encDfa]
  refine gall_fresh [c2] (by simp) fun c3 f3 => ?_
  simp [frF] at f3
  simp [f3]
  refine TWoH.callV (tc_l8KindsR d hs ho ks hks) callable_16 (by simp [encDfa]) (by simp) (by simp) (by simp) ?_
  by_cases c : kn ks 0 < 0
  · have e : leastF d ks = ⟨[[(0, 255)]], [[-1]], [-1]⟩ := by unfold leastF; rw [if_pos c]
    rw [e]
    simp [f3, kz, hkz, encI, c]
    refine Turn.same ?_
    simp [f3, encP, encR, encI, encS, del]
  · have e : leastF d ks = mergeM (leastB d ks) := by unfold leastF; rw [if_neg c]
    rw [e]
    obtain ⟨s1, s2, s3, s4⟩ := leastB_sm hs ho (ks := ks) (by omega)
    have s5 := mergeM_sm s1 s2
    obtain ⟨x, hx⟩ : ∃ x, x = leastB d ks := ⟨_, rfl⟩
    rw [← hx] at s1 s2 s3 s5 ⊢
    obtain ⟨y, hy⟩ : ∃ y, y = mergeM x := ⟨_, rfl⟩
    rw [← hy] at s5 ⊢
    simp [f3, kz, hkz, encI, c]
    refine TWoH.callV (tc_l8Of d hs ho ks hkl (by omega) x hx) callable_18 (by simp [encDfa, encI, f3]) (by simp) (by simp) (by simp) ?_
    simp [encDfa]
    refine TWoH.callV (tc_l8Merge x s1 s2 s3 y hy) callable_17 (by simp [encDfa]) (by simp) (by simp) (by simp) ?_
    simp [encDfa]
    refine TWoH.callV (tc_l7CopyR y s5) callable_15 (by simp [encDfa]) (by simp) (by simp) (by simp) ?_
    simp [encDfa, f3]
    refine Turn.same ?_
    simp [f3, encDfa, del]
end Go.Proofs.Ytfcdcgbpdinpnaa.R
