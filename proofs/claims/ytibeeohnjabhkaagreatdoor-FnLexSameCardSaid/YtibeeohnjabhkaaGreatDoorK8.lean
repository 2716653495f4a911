/- Part 8: what the walk of the code stands on. Conditions: none but those that each theorem states. -/
import Derived.Test.YtibeeohnjabhkaaGreatDoorK7
open Go Go.Proofs.YtibeeohnjabhkaaGreatDoor.T
namespace Go.Proofs.YtibeeohnjabhkaaGreatDoor.R
set_option maxHeartbeats 8000000
set_option maxRecDepth 100000
set_option linter.unusedSimpArgs false
set_option linter.unusedVariables false
attribute [local simp] bsV bsRows chunk fillT partsT appV makeV rowsOf cellsOf placeOf frzT frz1
def runGo (d : Dfa) : List UInt8 → Int → Int
  | [], s => s
  | c :: t, s => if s < 0 then s else runGo d t (nextF d s.toNat c.toNat)
theorem runGo_neg {d : Dfa} {s : Int} (h : s < 0) : ∀ t, runGo d t s = s
  | [] => rfl
  | c :: t => by unfold runGo; rw [if_pos h]
theorem runGo_drop {d : Dfa} {t : List UInt8} {i : Nat} (h : i < t.length) (s : Int) : runGo d (t.drop i) s = if s < 0 then s else runGo d (t.drop (i + 1)) (nextF d s.toNat t[i].toNat) := by
  conv => lhs; rw [List.drop_eq_getElem_cons h]
  rw [runGo]
theorem runGo_ok {d : Dfa} (ho : DOk d) : ∀ (t : List UInt8) (s : Int), -1 ≤ s → s < d.rows.length → -1 ≤ runGo d t s ∧ runGo d t s < d.rows.length
  | [], s, h1, h2 => ⟨h1, h2⟩
  | c :: t, s, h1, h2 => by
    unfold runGo
    split
    · exact ⟨h1, h2⟩
    · have := next_ok ho (s := s.toNat) (b := c.toNat) (by omega)
      exact runGo_ok ho t _ this.1 this.2
def runF (d : Dfa) (t : List UInt8) : Int := if dfaOk d = true then runGo d t 0 else -1
end Go.Proofs.YtibeeohnjabhkaaGreatDoor.R

open Go Go.Proofs.YtibeeohnjabhkaaGreatDoor.T
namespace Go.Proofs.YtibeeohnjabhkaaGreatDoor.R
set_option maxHeartbeats 8000000
set_option maxRecDepth 100000
set_option linter.unusedSimpArgs false
set_option linter.unusedVariables false
attribute [local simp] bsV bsRows chunk fillT partsT appV makeV rowsOf cellsOf placeOf frzT frz1
def ruleF (d : Dfa) (t : List UInt8) : Int := if runF d t < 0 then -1 else ac_ d (runF d t).toNat
theorem runF_ok (d : Dfa) (t : List UInt8) : -1 ≤ runF d t ∧ (0 ≤ runF d t → runF d t < d.rows.length ∧ dfaOk d = true) := by
  unfold runF
  by_cases c : dfaOk d = true
  · have ho := dok_of c
    have hone := ho.one
    have := runGo_ok ho t 0 (by omega) (by omega)
    rw [if_pos c]
    exact ⟨this.1, fun _ => ⟨this.2, c⟩⟩
  · rw [if_neg c]
    exact ⟨by omega, fun h => by omega⟩
end Go.Proofs.YtibeeohnjabhkaaGreatDoor.R

open Go Go.Proofs.YtibeeohnjabhkaaGreatDoor.T
namespace Go.Proofs.YtibeeohnjabhkaaGreatDoor.R
set_option maxHeartbeats 8000000
set_option maxRecDepth 100000
set_option linter.unusedSimpArgs false
set_option linter.unusedVariables false
attribute [local simp] bsV bsRows chunk fillT partsT appV makeV rowsOf cellsOf placeOf frzT frz1
def nextI (d : Dfa) (s b : Int) : Int := if dfaOk d = true ∧ (0 ≤ s ∧ s ≤ (d.rows.length : Int) - 1) ∧ (0 ≤ b ∧ b ≤ 255) then nextF d s.toNat b.toNat else -1
end Go.Proofs.YtibeeohnjabhkaaGreatDoor.R

open Go Go.Proofs.YtibeeohnjabhkaaGreatDoor.T
namespace Go.Proofs.YtibeeohnjabhkaaGreatDoor.R
set_option maxHeartbeats 8000000
set_option maxRecDepth 100000
set_option linter.unusedSimpArgs false
set_option linter.unusedVariables false
attribute [local simp] bsV bsRows chunk fillT partsT appV makeV rowsOf cellsOf placeOf frzT frz1
theorem runGo_app (d : Dfa) : ∀ (t u : List UInt8) (s : Int), runGo d (t ++ u) s = runGo d u (runGo d t s)
  | [], u, s => rfl
  | c :: t, u, s => by
    by_cases h : s < 0
    · rw [runGo_neg h, runGo_neg h, runGo_neg h]
    · simp only [List.cons_append, runGo, if_neg h]
      exact runGo_app d t u _
theorem runGo_cut (d : Dfa) (t : List UInt8) (k : Nat) (s : Int) : runGo d t s = runGo d (t.drop k) (runGo d (t.take k) s) := by
  rw [← runGo_app, List.take_append_drop]
theorem nextI_run {d : Dfa} (c : dfaOk d = true) {s : Int} (hs : s < d.rows.length) (b : UInt8) : nextI d s b.toNat = if s < 0 then -1 else nextF d s.toNat b.toNat := by
  unfold nextI
  have hb := b.toNat_lt
  by_cases h : s < 0
  · rw [if_pos h, if_neg (by omega)]
  · rw [if_neg h, if_pos ⟨c, by omega, by omega⟩]; simp
end Go.Proofs.YtibeeohnjabhkaaGreatDoor.R

open Go Go.Proofs.YtibeeohnjabhkaaGreatDoor.T
namespace Go.Proofs.YtibeeohnjabhkaaGreatDoor.R
set_option linter.unusedSimpArgs false
set_option linter.unusedVariables false
theorem szN_ok {n : Nat} {left : Int} (hn : n ≤ 1152921504606846976) (h0 : 0 ≤ left) (h1 : left ≤ 1048576) (h : ¬ szN n left < 0) : (n : Int) ≤ left ∧ szN n left = left - n := by
  have hw : IntKind.i64.wrap (left - n) = left - n := wrapi (by omega)
  unfold szN at h ⊢
  rw [hw] at h ⊢
  split at h
  · exact absurd h (by omega)
  · rename_i h2
    rw [if_neg h2]
    omega
def BSpan (x : Int × Int) : Prop := (Lit.int .i64 x.1).wf = true ∧ (Lit.int .i64 x.2).wf = true
def BRule (r : Rule) : Prop := r.name.length ≤ 1152921504606846976 ∧ Small r.rex
def BRules (l : List Rule) : Prop := l.length ≤ 1152921504606846976 ∧ ∀ r ∈ l, BRule r
end Go.Proofs.YtibeeohnjabhkaaGreatDoor.R

open Go Go.Proofs.YtibeeohnjabhkaaGreatDoor.T
namespace Go.Proofs.YtibeeohnjabhkaaGreatDoor.R
set_option maxHeartbeats 4000000
set_option maxRecDepth 100000
set_option linter.unusedSimpArgs false
set_option linter.unusedVariables false
attribute [local simp] bsV bsRows chunk fillT partsT appV makeV rowsOf cellsOf placeOf

theorem rdIntS (n : Nat) : RdT Tryz.prog n 25 (fun l : List Int => [.ro (l.map encI)]) (fun l => l.length ≤ 1152921504606846976) := by
  refine ((RdT.slice (b := 8) (RdT.int n Tryz.underlying3) Tryz.underlying25 (by kernel_rfl)).le (Nat.le_succ n)).imp fun x hx => ?_
  have hr : reachBytes = 140737488351232 := rfl
  have := hx.1
  omega
theorem rdIntSS (n : Nat) : RdT Tryz.prog n 24 (fun l : List (List Int) => [.ro (l.map encR)]) (fun l => l.length ≤ 1152921504606846976 ∧ ∀ x ∈ l, x.length ≤ 1152921504606846976) := by
  refine ((RdT.slice (b := 24) (rdIntS n) Tryz.underlying24 (by kernel_rfl)).le (Nat.le_succ n)).imp fun x hx => ⟨?_, hx.2⟩
  have hr : reachBytes = 140737488351232 := rfl
  have := hx.1
  omega
def liveR (d : Dfa) (bl : List Bool) : Prop := if dfaOk d = true then IsLive d bl else bl = []
theorem liveR_ex (d : Dfa) : ∃ bl, liveR d bl := by
  by_cases h : dfaOk d = true
  · obtain ⟨bl, hb⟩ := isLive_ex d; exact ⟨bl, by simp [liveR, h, hb]⟩
  · exact ⟨[], by simp [liveR, h]⟩
theorem liveR_len {d : Dfa} {bl : List Bool} (h : liveR d bl) : bl.length ≤ 40 := by
  unfold liveR at h
  split at h
  · rename_i h1; have := h.len; have := (dok_of h1).most; omega
  · subst h; simp
end Go.Proofs.YtibeeohnjabhkaaGreatDoor.R

open Go Go.Proofs.YtibeeohnjabhkaaGreatDoor.T
namespace Go.Proofs.YtibeeohnjabhkaaGreatDoor.R
set_option maxHeartbeats 4000000
set_option maxRecDepth 100000
set_option linter.unusedSimpArgs false
set_option linter.unusedVariables false
attribute [local simp] bsV bsRows chunk fillT partsT appV makeV rowsOf cellsOf placeOf

def toksG (g : Nat → Int × Nat) (n : Nat) (p : Nat) : List Tok × Nat :=
  if h : p < n ∧ 0 ≤ (g p).1 ∧ p < (g p).2 then (((g p).1, (p : Int), ((g p).2 : Int)) :: (toksG g n (g p).2).1, (toksG g n (g p).2).2) else ([], p)
termination_by n - p
theorem toksG_end {g : Nat → Int × Nat} {n p : Nat} (h : ¬ (p < n ∧ 0 ≤ (g p).1 ∧ p < (g p).2)) : toksG g n p = ([], p) := by
  rw [toksG, dif_neg h]
theorem toksG_next {g : Nat → Int × Nat} {n p : Nat} (h : p < n) (h1 : 0 ≤ (g p).1) (h2 : p < (g p).2) : toksG g n p = (((g p).1, (p : Int), ((g p).2 : Int)) :: (toksG g n (g p).2).1, (toksG g n (g p).2).2) := by
  rw [toksG, dif_pos ⟨h, h1, h2⟩]
theorem toksG_len {g : Nat → Int × Nat} {n : Nat} : ∀ (m p : Nat), n - p ≤ m → (toksG g n p).1.length ≤ n - p
  | 0, p, hm => by rw [toksG_end (by omega)]; simp
  | m + 1, p, hm => by
    by_cases h : p < n ∧ 0 ≤ (g p).1 ∧ p < (g p).2
    · rw [toksG_next h.1 h.2.1 h.2.2]
      have := toksG_len (g := g) (n := n) m (g p).2 (by omega)
      simp only [List.length_cons]; omega
    · rw [toksG_end h]; simp
def lexRun (d : Dfa) (t : List UInt8) : List Tok × Nat := if dfaOk d = true ∧ t.length ≤ 200 then toksG (lexAtF d t) t.length 0 else ([], 0)
theorem lexRun_len (d : Dfa) (t : List UInt8) : (lexRun d t).1.length ≤ 200 := by
  unfold lexRun
  split
  · rename_i h
    have := toksG_len (g := lexAtF d t) (n := t.length) t.length 0 (by omega)
    omega
  · simp
theorem tc_sLexRun (d : Dfa) (hs : DSm d) (t : List UInt8) : TC Tryz.prog 7 [.agg (encDfa d), .val (.string (bs t))] [] (.tup [.own 36 ((lexRun d t).1.map encTok), .val (.int .i64 (lexRun d t).2)]) [] := by
  refine TC.enter Tryz.func7 rfl (by simp [Tryz.ntmps7]) rfl (tw_sound (ρ := [2]) ?_)
  rw [Tryz.ntmps7]
  simp
  refine gall_intro fun id hid => ?_
  simp
  refine TWoH.callV (tc_sDfaOk d hs) callable_13 (by simp) (by simp) (by simp) (by simp) ?_
  simp
  refine gif_intro (fun c1 => ?_) (fun c1 => ?_) <;> simp [c1]
  case refine_2 => simp [lexRun, c1]
  refine gif_intro (fun c2 => ?_) (fun c2 => ?_) <;> simp [c2]
  · have : ¬ t.length ≤ 200 := by omega
    simp [lexRun, this]
  have c2' : t.length ≤ 200 := by omega
  have ho := dok_of c1
  have hr : lexRun d t = toksG (lexAtF d t) t.length 0 := by simp [lexRun, c1, c2']
  rw [hr]
  refine TWcH.loop [40] (fun m' s => ∃ p acc id, p + m' = t.length ∧ s.σ 1 = .val (.string (bs t)) ∧ s.σ 2 = .rptr (encDfa d) 0 ∧ s.σ 6 = .hd id ∧ s.H id = some (.own 36 (acc.map encTok)) ∧ s.σ 7 = .val (.int .i64 (p : Nat)) ∧
    acc.length ≤ p ∧ toksG (lexAtF d t) t.length 0 = (acc ++ (toksG (lexAtF d t) t.length p).1, (toksG (lexAtF d t) t.length p).2)) t.length ⟨0, [], id, by simp⟩ ?_
  rintro m' ⟨σ, H⟩ ⟨p, acc, id, hpm, h1, h2, h6, hH, h7, hal, hh⟩
  simp only at h1 h2 h6 h7 hH
  by_cases hp : p < t.length
  · obtain ⟨hb1, hb2, hb3⟩ := lexAt_ok (d := d) (t := t) (Nat.le_of_lt hp)
    simp [h1, h2, h6, h7, hH, hp]
    refine TWoH.callV (tc_sL9At d hs ho t p c2' (Nat.le_of_lt hp)) callable_20 (by simp [h1, h2, h7]) (by simp) (by simp) (by simp) ?_
    simp [h1, h2, h6, h7, hH, hp]
    refine gif_intro (fun c3 => ?_) (fun c3 => ?_) <;> simp [h1, h2, h6, h7, hH, hp, c3]
    · rw [toksG_end (p := p) (by omega)] at hh
      simp [hh]
    · have c4 := hb1 (by omega)
      rw [toksG_next (p := p) hp (by omega) c4] at hh
      have k1 : (acc.length + 1) * 24 ≤ 140737488355328 := by omega
      have k2 : acc.length ≤ 9223372036854775806 := by omega
      simp [h1, h2, h6, h7, hH, hp, k1, k2]
      refine gall_intro fun id' hid' => ?_
      simp [h1, h2, h6, h7, hH, hp]
      exact ⟨t.length - (lexAtF d t p).2, by omega, (lexAtF d t p).2, by omega, acc ++ [((lexAtF d t p).1, (p : Int), ((lexAtF d t p).2 : Int))], by simp [encTok], rfl, by simp; omega, by rw [hh]; simp⟩
  · rw [toksG_end (p := p) (by omega)] at hh
    simp [h1, h2, h6, h7, hH, hp, hh]
theorem tc_iLexRun (d : Dfa) (hs : DSm d) (t : List UInt8) : TC Tryz.prog 6 [.agg (encDfa d), .val (.string (bs t))] [] (.tup [.own 36 ((lexRun d t).1.map encTok), .val (.int .i64 (lexRun d t).2)]) [] := by
  refine TC.enter Tryz.func6 rfl (by simp [Tryz.ntmps6]) rfl (TWc.postT (tw_sound (ρ := [2]) ?_))
  rw [Tryz.ntmps6]
  simp
  refine TWoH.callV (tc_iDfaOk d hs) callable_16 (by simp) (by simp) (by simp) (by simp) ?_
  simp
  refine gif_intro (fun c1 => ?_) (fun c1 => ?_) <;> simp [c1]
  case refine_2 =>
    refine Turn.nil 4 36 (by simp) fun id hid => ?_
    simp [lexRun, c1]
  refine gif_intro (fun c2 => ?_) (fun c2 => ?_) <;> simp [c2]
  · refine Turn.nil 4 36 (by simp) fun id hid => ?_
    have : ¬ t.length ≤ 200 := by omega
    simp [lexRun, this]
  have c2' : t.length ≤ 200 := by omega
  have ho := dok_of c1
  have hr : lexRun d t = toksG (lexAtF d t) t.length 0 := by simp [lexRun, c1, c2']
  rw [hr]
  have htab : TC Tryz.prog 17 [.agg (encDfa d)] [] (.ro (tabR d.rows.length (nextF d))) [] := by
    have := (tc_table d hs ho).frz
    simpa using this
  refine TWoH.callV htab callable_17 (by simp) (by simp) (by simp) (by simp) ?_
  simp
  refine TWcH.turn (Turn.nil 7 36 (by simp) fun id hid => ?_)
  refine TWcH.loop [40] (fun m' s => ∃ p acc id, p + m' = t.length ∧ s.σ 1 = .val (.string (bs t)) ∧ s.σ 2 = .rptr (encDfa d) 0 ∧ s.σ 6 = .ro (tabR d.rows.length (nextF d)) ∧ s.σ 7 = .hd id ∧ s.H id = some (.own 36 (acc.map encTok)) ∧ s.σ 8 = .val (.int .i64 (p : Nat)) ∧
    acc.length ≤ p ∧ toksG (lexAtF d t) t.length 0 = (acc ++ (toksG (lexAtF d t) t.length p).1, (toksG (lexAtF d t) t.length p).2)) t.length ⟨0, [], id, by simp⟩ ?_
  rintro m' ⟨σ, H⟩ ⟨p, acc, id, hpm, h1, h2, h6, h7, hH, h8, hal, hh⟩
  simp only at h1 h2 h6 h7 h8 hH
  by_cases hp : p < t.length
  · obtain ⟨hb1, hb2, hb3⟩ := lexAt_ok (d := d) (t := t) (Nat.le_of_lt hp)
    simp [h1, h2, h6, h7, h8, hH, hp]
    refine TWoH.callV (tc_iLexAt0 d hs ho t p c2' (Nat.le_of_lt hp)) callable_18 (by simp [h1, h2, h6, h8]) (by simp) (by simp) (by simp) ?_
    simp [h1, h2, h6, h7, h8, hH, hp]
    refine gif_intro (fun c3 => ?_) (fun c3 => ?_) <;> simp [h1, h2, h6, h7, h8, hH, hp, c3]
    · rw [toksG_end (p := p) (by omega)] at hh
      refine TWoH.call (tc_copiedTok acc (by omega)) callable_19 (by simp [h7, hH]) (by simp) (by simp) fun k hk => ?_
      simp [h8, hh]
      exact Turn.same (by simp)
    · have c4 := hb1 (by omega)
      rw [toksG_next (p := p) hp (by omega) c4] at hh
      have k1 : (acc.length + 1) * 24 ≤ 140737488355328 := by omega
      have k2 : acc.length ≤ 9223372036854775806 := by omega
      simp [h1, h2, h6, h7, h8, hH, hp, k1, k2]
      refine gall_intro fun id' hid' => ?_
      simp [h1, h2, h6, h7, h8, hH, hp]
      exact ⟨t.length - (lexAtF d t p).2, by omega, (lexAtF d t p).2, by omega, acc ++ [((lexAtF d t p).1, (p : Int), ((lexAtF d t p).2 : Int))], by simp [encTok], rfl, by simp; omega, by rw [hh]; simp⟩
  · rw [toksG_end (p := p) (by omega)] at hh
    simp [h1, h2, h6, h7, h8, hH, hp]
    refine TWoH.call (tc_copiedTok acc (by omega)) callable_19 (by simp [h7, hH]) (by simp) (by simp) fun k hk => ?_
    simp [h8, hh]
    exact Turn.same (by simp)
end Go.Proofs.YtibeeohnjabhkaaGreatDoor.R

open Go Go.Proofs.YtibeeohnjabhkaaGreatDoor.T
namespace Go.Proofs.YtibeeohnjabhkaaGreatDoor.R
set_option maxHeartbeats 4000000
set_option maxRecDepth 100000
set_option linter.unusedSimpArgs false
set_option linter.unusedVariables false
/-- Two states, and a text with which one comes to them. -/
structure Pr where
  s : Int
  t : Int
  w : List UInt8
def nx (d : Dfa) (s : Int) (k : Nat) : Int := if s < 0 then -1 else ((rw_ d s.toNat)[k]?).getD (-1)
def acI (d : Dfa) (s : Int) : Int := if s < 0 then -1 else ac_ d s.toNat
def fb (d : Dfa) (k : Nat) : UInt8 := UInt8.ofNat (firstS (pt d.parts k)).toNat
def hadP (ps : List Pr) (x y : Int) : Bool := ps.any fun p => decide (p.s = x) && decide (p.t = y)
def stepK (d : Dfa) (x : Pr) (ps : List Pr) (k : Nat) : List Pr := if hadP ps (nx d x.s k) (nx d x.t k) = true then ps else ps ++ [⟨nx d x.s k, nx d x.t k, x.w ++ [fb d k]⟩]
def roundP (d : Dfa) (x : Pr) (k : Nat) (ps : List Pr) : List Pr := (List.range' k (d.parts.length - k)).foldl (stepK d x) ps
theorem roundP_next {d : Dfa} {x : Pr} {k : Nat} {ps : List Pr} (h : k < d.parts.length) : roundP d x k ps = roundP d x (k + 1) (stepK d x ps k) := by
  unfold roundP
  rw [show d.parts.length - k = (d.parts.length - (k + 1)) + 1 by omega, List.range'_succ]; rfl
theorem roundP_end {d : Dfa} {x : Pr} {k : Nat} {ps : List Pr} (h : ¬ k < d.parts.length) : roundP d x k ps = ps := by
  unfold roundP
  rw [show d.parts.length - k = 0 by omega]; rfl
def twoGo (d : Dfa) : Nat → Nat → List Pr → Bool × List UInt8
  | 0, _, _ => (true, [])
  | f + 1, i, ps => match ps[i]? with
    | none => (true, [])
    | some x => if acI d x.s = acI d x.t then twoGo d f (i + 1) (roundP d x 0 ps) else (false, x.w)
def twoF (d : Dfa) (s t : Int) : Bool × List UInt8 := if dfaOk d = true ∧ (0 ≤ s ∧ s < d.rows.length) ∧ (0 ≤ t ∧ t < d.rows.length) then twoGo d 1682 0 [⟨s, t, []⟩] else (false, [])
structure PInv (d : Dfa) (ps : List Pr) : Prop where
  nod : ps.Pairwise fun p q => ¬ (p.s = q.s ∧ p.t = q.t)
  rng : ∀ p ∈ ps, (-1 ≤ p.s ∧ p.s < d.rows.length) ∧ (-1 ≤ p.t ∧ p.t < d.rows.length)
  wl : ∀ p ∈ ps, p.w.length < ps.length
theorem nodup_le : ∀ (N : Nat) (l : List Nat), l.Nodup → (∀ x ∈ l, x < N) → l.length ≤ N
  | 0, l, _, h => by
    cases l with
    | nil => simp
    | cons a l => exact absurd (h a (by simp)) (by omega)
  | N + 1, l, hn, h => by
    have h1 := nodup_le N (l.erase N) (hn.erase N) fun x hx => by
      obtain ⟨h2, h3⟩ := (hn.mem_erase_iff).1 hx
      have := h x h3; omega
    have := List.length_erase (l := l) (a := N)
    split at this <;> omega
theorem PInv.len {d : Dfa} (ho : DOk d) {ps : List Pr} (h : PInv d ps) : ps.length ≤ 1681 := by
  have hm := ho.most
  have := nodup_le 1681 (ps.map fun p => (p.s + 1).toNat * 41 + (p.t + 1).toNat) (by
    unfold List.Nodup
    rw [List.pairwise_map]
    refine h.nod.imp_of_mem fun {a b} ha hb hne e => hne ?_
    have h1 := h.rng a ha
    have h2 := h.rng b hb
    omega) (by
    intro x hx
    obtain ⟨p, hp, rfl⟩ := List.mem_map.1 hx
    have h1 := h.rng p hp
    omega)
  simpa using this
theorem nx_ok {d : Dfa} (ho : DOk d) {s : Int} {k : Nat} (h2 : s < d.rows.length) (hk : k < d.parts.length) : -1 ≤ nx d s k ∧ nx d s k < d.rows.length := by
  have := ho.one
  unfold nx
  split
  · omega
  · have hs : s.toNat < d.rows.length := by omega
    have hkr : k < (rw_ d s.toNat).length := by rw [ho.row _ hs]; exact hk
    rw [getI hkr]
    exact ho.ent _ hs _ (List.getElem_mem hkr)
theorem hadP_false {ps : List Pr} {x y : Int} (h : hadP ps x y = false) : ∀ p ∈ ps, ¬ (p.s = x ∧ p.t = y) := by
  intro p hp e
  unfold hadP at h
  rw [List.any_eq_false] at h
  have := h p hp
  simp [e] at this
theorem PInv.step {d : Dfa} (ho : DOk d) {ps : List Pr} (h : PInv d ps) {x : Pr} (hx : x ∈ ps) {k : Nat} (hk : k < d.parts.length) : PInv d (stepK d x ps k) := by
  unfold stepK
  cases c : hadP ps (nx d x.s k) (nx d x.t k)
  · have hh := hadP_false c
    have hr := h.rng x hx
    simp only [Bool.false_eq_true, if_false]
    refine ⟨?_, ?_, ?_⟩
    · rw [List.pairwise_append]
      refine ⟨h.nod, by simp, fun a ha b hb e => ?_⟩
      simp only [List.mem_singleton] at hb
      subst hb
      exact hh a ha e
    · intro p hp
      rcases List.mem_append.1 hp with hp | hp
      · exact h.rng p hp
      · simp only [List.mem_singleton] at hp
        subst hp
        exact ⟨nx_ok ho hr.1.2 hk, nx_ok ho hr.2.2 hk⟩
    · intro p hp
      rcases List.mem_append.1 hp with hp | hp
      · have := h.wl p hp; simp; omega
      · simp only [List.mem_singleton] at hp
        subst hp
        have := h.wl x hx; simp; omega
  · simpa using h
theorem stepK_at {d : Dfa} {x y : Pr} {ps : List Pr} {k i : Nat} (h : ps[i]? = some y) : (stepK d x ps k)[i]? = some y := by
  unfold stepK
  split
  · exact h
  · obtain ⟨hi, _⟩ := List.getElem?_eq_some_iff.1 h
    rw [List.getElem?_append_left hi]; exact h
theorem PInv.start {d : Dfa} {s t : Int} (hs : 0 ≤ s ∧ s < d.rows.length) (ht : 0 ≤ t ∧ t < d.rows.length) : PInv d [⟨s, t, []⟩] := by
  refine ⟨by simp, ?_, by simp⟩
  intro p hp
  simp only [List.mem_singleton] at hp
  subst hp
  constructor <;> simp <;> omega
theorem twoGo_next {d : Dfa} {f i : Nat} {ps : List Pr} {x : Pr} (h : ps[i]? = some x) : twoGo d (f + 1) i ps = if acI d x.s = acI d x.t then twoGo d f (i + 1) (roundP d x 0 ps) else (false, x.w) := by
  rw [twoGo, h]
theorem twoGo_end {d : Dfa} {f i : Nat} {ps : List Pr} (h : ¬ i < ps.length) : twoGo d f i ps = (true, []) := by
  cases f with
  | zero => rfl
  | succ f => rw [twoGo, List.getElem?_eq_none (by omega)]
/-- What the first byte of a part is. -/
theorem first_part {d : Dfa} (ho : DOk d) {k : Nat} (hk : k < d.parts.length) : ∃ b : Nat, b < 256 ∧ firstS (pt d.parts k) = b ∧ hasS (pt d.parts k) b = true := by
  have h := partsFrom_of ho.parts
  unfold partsFrom at h
  rw [List.all_eq_true] at h
  have hp := h k (by rw [List.mem_range'_1]; omega)
  simp only [partAt, headAt, Bool.and_eq_true, Bool.not_eq_true'] at hp
  obtain ⟨⟨⟨h1, h2⟩, _⟩, _⟩ := hp
  cases hpt : pt d.parts k with
  | nil => rw [hpt] at h2; simp at h2
  | cons x xs =>
    rw [hpt] at h1
    obtain ⟨a1, a2, a3⟩ := setOk_first h1
    refine ⟨x.1.toNat, by omega, by rw [firstS_head h1]; omega, ?_⟩
    simp [hasS]; left; omega
theorem next_first {d : Dfa} (ho : DOk d) {k s : Nat} (hk : k < d.parts.length) {b : Nat} (hb : firstS (pt d.parts k) = b) : nextF d s b = ((rw_ d s)[k]?).getD (-1) := by
  obtain ⟨c, hc, h1, h2⟩ := first_part ho hk
  have e : b = c := by omega
  subst e
  exact next_of_has (partsFrom_of ho.parts) hk hc h2
end Go.Proofs.YtibeeohnjabhkaaGreatDoor.R

open Go Go.Proofs.YtibeeohnjabhkaaGreatDoor.T
namespace Go.Proofs.YtibeeohnjabhkaaGreatDoor.R
set_option maxHeartbeats 4000000
set_option maxRecDepth 100000
set_option linter.unusedSimpArgs false
set_option linter.unusedVariables false
attribute [local simp] bsV bsRows chunk fillT partsT appV makeV rowsOf cellsOf placeOf

def encPs (p : Pr) : List TV := encI p.s
def encPt (p : Pr) : List TV := encI p.t
def encPw (p : Pr) : List TV := [.val (.string (bs p.w))]
end Go.Proofs.YtibeeohnjabhkaaGreatDoor.R

open Go Go.Proofs.YtibeeohnjabhkaaGreatDoor.T
namespace Go.Proofs.YtibeeohnjabhkaaGreatDoor.R
set_option maxHeartbeats 4000000
set_option maxRecDepth 100000
set_option linter.unusedSimpArgs false
set_option linter.unusedVariables false
attribute [local simp] bsV bsRows chunk fillT partsT appV makeV rowsOf cellsOf placeOf

def encPr (p : Pr) : List TV := [.val (.int .i64 p.s), .val (.int .i64 p.t), .val (.string (bs p.w))]
def keyP (p : Pr) : Value := .agg #[.int .i64 p.s, .int .i64 p.t]
def seenP (ps : List Pr) : List (Value × Value) := ps.map fun p => (keyP p, .bool true)
theorem seenP_two {ps : List Pr} : ∀ q ∈ seenP ps, IsTwo q.1 := by
  intro q hq
  obtain ⟨p, _, rfl⟩ := List.mem_map.1 hq
  exact ⟨_, _, rfl⟩
theorem seenP_hit {ps : List Pr} {x y : Int} (h : hadP ps x y = true) : ∃ q ∈ seenP ps, q.1 = .agg #[.int .i64 x, .int .i64 y] := by
  unfold hadP at h
  obtain ⟨p, hp, h⟩ := List.any_eq_true.1 h
  simp only [Bool.and_eq_true, decide_eq_true_eq] at h
  exact ⟨(keyP p, .bool true), List.mem_map.2 ⟨p, hp, rfl⟩, by simp [keyP, h]⟩
theorem seenP_miss {ps : List Pr} {x y : Int} (h : hadP ps x y = false) : ∀ q ∈ seenP ps, q.1 ≠ .agg #[.int .i64 x, .int .i64 y] := by
  intro q hq e
  obtain ⟨p, hp, rfl⟩ := List.mem_map.1 hq
  simp only [keyP, Value.agg.injEq] at e
  refine hadP_false h p hp ?_
  simpa using e
theorem seenP_val {ps : List Pr} {k : Value} : ∀ q ∈ seenP ps, q.1 = k → q.2 = .bool true := by
  intro q hq _
  obtain ⟨p, hp, rfl⟩ := List.mem_map.1 hq
  rfl
end Go.Proofs.YtibeeohnjabhkaaGreatDoor.R

open Go Go.Proofs.YtibeeohnjabhkaaGreatDoor.T
namespace Go.Proofs.YtibeeohnjabhkaaGreatDoor.R
set_option maxHeartbeats 8000000
set_option maxRecDepth 100000
set_option linter.unusedSimpArgs false
set_option linter.unusedVariables false
attribute [local simp] bsV bsRows chunk fillT partsT appV makeV rowsOf cellsOf placeOf frzT frz1
theorem tc_tableR (d : Dfa) (hs : DSm d) (ho : DOk d) : TC Tryz.prog 17 [.agg (encDfa d)] [] (.ro (tabR d.rows.length (nextF d))) [] := by
  have := (tc_table d hs ho).frz
  simpa using this
/-- The longest token at any place of any text. -/
def lexAtI (d : Dfa) (t : List UInt8) (at_ : Int) : Int × Int := if dfaOk d = true ∧ t.length ≤ 200 ∧ (0 ≤ at_ ∧ at_ ≤ t.length) then ((lexAtF d t at_.toNat).1, (lexAtF d t at_.toNat).2) else (-1, at_)
theorem tc_iLexAt (d : Dfa) (hs : DSm d) (t : List UInt8) (at_ : Int) : TC Tryz.prog 14 [.agg (encDfa d), .val (.string (bs t)), .val (.int .i64 at_)] [] (.tup [.val (.int .i64 (lexAtI d t at_).1), .val (.int .i64 (lexAtI d t at_).2)]) [] := by
  refine TC.enter Tryz.func14 rfl (by simp [Tryz.ntmps14]) rfl (tw_sound (ρ := [3]) ?_)
  rw [Tryz.ntmps14]
  unfold lexAtI
  simp [encDfa]
  refine TWoH.callV (tc_iDfaOk d hs) callable_16 (by simp [encDfa]) (by simp) (by simp) (by simp) ?_
  by_cases c : dfaOk d = true
  case neg => simp [c]
  by_cases c1 : t.length ≤ 200
  case neg =>
    have c1' : (200 : Int) < t.length := by omega
    simp [c, c1, c1']
  have c1' : ¬ (200 : Int) < t.length := by omega
  simp [c, c1, c1']
  refine TWoH.callV (tc_in at_ 0 t.length) callable_26 (by simp) (by simp) (by simp) (by simp) ?_
  by_cases c2 : 0 ≤ at_ ∧ at_ ≤ (t.length : Int)
  case neg =>
    simp only [c2, decide_false]
    simp [c2]
  simp only [c2, decide_true, and_self]
  have ho := dok_of c
  obtain ⟨p, rfl⟩ : ∃ p : Nat, at_ = p := ⟨at_.toNat, by omega⟩
  simp
  refine TWcH.regionD (ρ := [3]) [0, 1, 3, 4, 2, 5, 6, 7, 8, 9] 10 mixed (by kernel_rfl) ?_
  simp [encDfa]
  refine TWqH.callV (tc_tableR d hs ho) callable_17 (by simp [encDfa]) (by simp) (by simp) (by simp) ?_
  simp [encDfa]
  refine TWqH.callV (tc_iLexAt0 d hs ho t p c1 (by omega)) callable_18 (by simp [encDfa]) (by simp) (by simp) (by simp) ?_
  simp [c, c1]
/-- The next state by the document: any byte. -/
def nextS (d : Dfa) (s b : Int) : Int := if dfaOk d = true ∧ (0 ≤ s ∧ s < (d.rows.length : Int)) then (if 0 ≤ b ∧ b ≤ 255 then nextF d s.toNat b.toNat else -1) else -1
theorem nextS_eq (d : Dfa) (s b : Int) : nextS d s b = nextI d s b := by
  unfold nextS nextI
  by_cases c : dfaOk d = true <;> by_cases c1 : 0 ≤ s <;> by_cases c2 : s < (d.rows.length : Int) <;> by_cases c3 : 0 ≤ b ∧ b ≤ 255
  all_goals first
    | (have c4 : s ≤ (d.rows.length : Int) - 1 := by omega); simp [c, c1, c2, c3, c4]
    | (have c4 : ¬ s ≤ (d.rows.length : Int) - 1 := by omega); simp [c, c1, c2, c3, c4]
end Go.Proofs.YtibeeohnjabhkaaGreatDoor.R

open Go Go.Proofs.YtibeeohnjabhkaaGreatDoor.T
namespace Go.Proofs.YtibeeohnjabhkaaGreatDoor.R
set_option maxHeartbeats 8000000
set_option maxRecDepth 100000
set_option linter.unusedSimpArgs false
set_option linter.unusedVariables false
attribute [local simp] bsV bsRows chunk fillT partsT appV makeV rowsOf cellsOf placeOf frzT frz1
theorem tcr_l15Many (u : List UInt8) (n0 : Nat) (hn : n0 ≤ 101) (hu : u.length = 2) : TCR Tryz.prog 31 [.val (.string (bs u)), .val (.int .i64 n0)] [] (fun r o => ∃ w : List UInt8, r = .val (.string (bs w)) ∧ w.length ≤ 202 ∧ o = []) := by
  refine TCR.enter Tryz.func31 rfl (by simp [Tryz.ntmps31]) rfl (tw_sound (ρ := []) ?_)
  rw [Tryz.ntmps31]
  simp
  refine TWcH.loop [] (fun m st => ∃ (s w : List UInt8), m ≤ 101 ∧ w.length + s.length * m ≤ 202 ∧ s.length ≤ 404 ∧ st.σ 0 = .val (.string (bs s)) ∧ st.σ 1 = .val (.int .i64 m) ∧ st.σ 5 = .val (.string (bs w))) n0 ⟨u, [], by omega, by rw [hu]; simp; omega, by omega, by simp⟩ ?_
  rintro m ⟨σ, H⟩ ⟨s, w, hm, hL, hsl, h0, h1, h5⟩
  simp only at h0 h1 h5
  by_cases hz : 0 < m
  · have e2 : Int.tmod (m : Int) 2 = (m % 2 : Nat) := by
      rw [Int.tmod_eq_emod_of_nonneg (by omega)]; omega
    have e3 : Int.tdiv (m : Int) 2 = (m / 2 : Nat) := by
      rw [Int.tdiv_eq_ediv_of_nonneg (by omega)]; omega
    have hw2 : IntKind.i64.wrap ((m / 2 : Nat) : Int) = (m / 2 : Nat) := wrapi (by omega)
    have hmul : s.length ≤ s.length * m := Nat.le_mul_of_pos_right _ hz
    have hsplit : s.length * m = s.length * (m / 2) + s.length * (m / 2) + s.length * (m % 2) := by
      rw [← Nat.mul_add, ← Nat.mul_add]; congr 1; omega
    have k1 : ¬ (9223372036854775807 : Int) < (s.length : Int) + s.length := by omega
    have k2 : ¬ (9223372036854775807 : Int) < (w.length : Int) + s.length := by omega
    rcases Nat.mod_two_eq_zero_or_one m with e | e
    · simp [h0, h1, h5, hz, e2, e, e3, hw2, k1, k2]
      refine ⟨m / 2, by omega, by omega, s ++ s, w, ?_, by rw [List.length_append]; omega, rfl, by rw [show (m : Int) / 2 = ((m / 2 : Nat) : Int) by omega]; exact hw2, rfl⟩
      rw [e] at hsplit
      simp only [List.length_append, Nat.add_mul]
      omega
    · simp [h0, h1, h5, hz, e2, e, e3, hw2, k1, k2]
      refine ⟨m / 2, by omega, by omega, s ++ s, w ++ s, ?_, by rw [List.length_append]; omega, rfl, by rw [show (m : Int) / 2 = ((m / 2 : Nat) : Int) by omega]; exact hw2, rfl⟩
      rw [e] at hsplit
      simp only [List.length_append, Nat.add_mul]
      omega
  · obtain rfl : m = 0 := by omega
    simp [h0, h1, h5]
    exact ⟨w, rfl, by omega⟩
theorem tcr_DrawLexAt (b : List UInt8) (hb : b.length ≤ 1048576) : TCR Tryz.prog 15 [.ro (b.map encU)] [] (fun r o => ∃ (d : Dfa) (w : List UInt8) (t : Int), DB d ∧ r = .tup [.agg (encDfa d), .val (.string (bs w)), .val (.int .i64 t)] ∧ w.length ≤ 202 ∧ (-1 ≤ t ∧ t ≤ 300) ∧ o = []) := by
  refine TCR.enter Tryz.func15 rfl (by simp [Tryz.ntmps15]) rfl (tw_sound (ρ := []) ?_)
  rw [Tryz.ntmps15]
  simp
  refine gall_intro fun q2 g2 => ?_
  simp
  refine TWoH.call (tc_l15Open b hb) callable_27 (by simp) (by simp [rdr, ← List.map_take]) (by simp) fun q hq => ?_
  have l2 : q2 < q := over hq (t := .box 27 [.val (.slice none 0 0), .val (.slice none 0 0), .val (.slice none 0 0)]) (by simp)
  have fq : ¬ q = q2 ∧ ¬ q2 = q := by omega
  clear hq l2
  have hbt : (b.take 2000).length ≤ 2000 := by simp; omega
  simp [rdr, fq]
  refine TWoH.lendR [q] (tcr_l7BentR (b.take 2000) 0 hbt (by omega)) callable_28 (by simp [List.findIdx?_cons, fq]) (by simp [rdr, fq]) (by simp) (by simp) ?_
  rintro r o ⟨d, p1, hd, rfl, hp1, rfl⟩
  refine ⟨by simp [rdr], by simp, .inl (by simp [List.findIdx?_cons, fq]), fun q3 hq3 => ?_⟩
  clear hq3
  simp [fq, encDfa]
  refine gall_fresh [q2, q] (by simp [fq]) fun c fc => ?_
  simp [frF] at fc
  simp [fq, fc]
  refine TWoH.lendR [q] (tcr_l3Word (b.take 2000) p1 12 hbt (by omega) (by omega)) callable_29 (by simp [List.findIdx?_cons, fq, fc]) (by simp [fq, fc]) (by simp) (by simp) ?_
  rintro r o ⟨w0, p2, rfl, hw0, hwb, hp2, rfl⟩
  refine ⟨by simp [rdr], by simp, .inl (by simp [List.findIdx?_cons, fq, fc]), fun q4 hq4 => ?_⟩
  clear hq4
  simp [fq, fc]
  refine TWoH.lendR [q] (tcr_pick (b.take 2000) p2 20 hbt (by omega)) callable_30 (by simp [List.findIdx?_cons, fq, fc]) (by simp [fq, fc]) (by simp) (by simp) ?_
  rintro r o ⟨k1, rfl, k10, k11, rfl⟩
  refine ⟨by simp [rdr], by simp, .inl (by simp [List.findIdx?_cons, fq, fc]), fun q5 hq5 => ?_⟩
  clear hq5
  by_cases c1 : k1 = 0
  case' pos =>
    subst c1
    simp [fq, fc]
    refine gall_fresh [q2, q, c] (by simp [fq, fc]) fun i3 fi3 => ?_
    simp [frF] at fi3
    simp [fq, fc, fi3]
    refine TWoH.turn (Turn.freeze i3 (t := .own 3 (([100, 101] : List Int).map encI)) (by simp [encI, fq, fc, fi3]) ?_)
    refine TWoH.lendR [q] (tcr_num (b.take 2000) (p2 + 1) [100, 101] hbt (by omega) (by simp) (by simp)) callable_32 (by simp [List.findIdx?_cons, fq, fc, fi3, encI]) (by simp [fq, fc, fi3, del]) (by simp) (by simp) ?_
    rintro r o ⟨x, hx, rfl, rfl⟩
    refine ⟨by simp [rdr], by simp, .inl (by simp [List.findIdx?_cons, fq, fc, fi3]), fun q' hq => ?_⟩
    clear hq
    simp only [List.mem_cons, List.not_mem_nil, or_false] at hx
    obtain ⟨n, rfl⟩ : ∃ n : Nat, x = n := ⟨x.toNat, by omega⟩
    simp [fq, fc, fi3, del]
    refine TWoH.callR (tcr_l15Many [97, 98] n (by omega) rfl) callable_31 (by simp) ?_
    rintro r o ⟨w, rfl, hw, rfl⟩
    refine ⟨rfl, by simp, .inl (by simp), fun q6 hq6 => ?_⟩
    clear hq6
    simp [fq, fc, fi3, del]
    obtain ⟨p3, hp3⟩ : ∃ p3, p3 = p2 + 1 + 1 := ⟨_, rfl⟩
    rw [← hp3]
  case' neg =>
    obtain ⟨w, hwe⟩ : ∃ w, w = w0 := ⟨_, rfl⟩
    have hw : w.length ≤ 202 := by rw [hwe]; omega
    obtain ⟨p3, hp3⟩ : ∃ p3, p3 = p2 + 1 := ⟨_, rfl⟩
    rw [← hwe]
    simp [fq, fc, c1]
    rw [← hp3]
    have fi3 : True := trivial
  all_goals
    refine TWcH.midB (ρ := []) (fun st => ∃ (t : Int), (-1 ≤ t ∧ t ≤ 300) ∧ st.σ 2 = .pd q2 0 0 0 ∧ st.H q2 = some (.box 27 (encDfa d)) ∧ st.σ 3 = .val (.string (bs w)) ∧ st.σ 4 = .val (.int .i64 t))
      (.first 1 (.first 2 (.first 3 (.first 4 (.first 5 (.pick 0 (.pick 6 (.first 7 (.pick 8 (.first 9 (.first 10 .fin)) .fin)) .fin) (.pick 6 (.first 7 (.pick 0 (.pick 8 (.first 9 (.first 10 .fin)) .fin) .fin)) .fin))))))) mixed (by kernel_rfl) ?_ ?_
    case refine_2 =>
      rintro ⟨σ, H⟩ ⟨t, ht, h2, H2, h3, h4⟩
      simp only at h2 H2 h3 h4
      simp [h2, H2, h3, h4, encDfa]
      exact ⟨d, hd, w, t, ⟨⟨rfl, rfl, rfl⟩, rfl, rfl⟩, hw, by omega, by omega⟩
    have hwl : IntKind.i64.wrap ((w.length : Int) + 3) = w.length + 3 := wrapi (by omega)
    simp [fq, fc, fi3, hwl, del]
    refine And.intro ?_ ?_
  all_goals
    refine TWoH.lendR [q] (tcr_pick (b.take 2000) p3 (w.length + 3) hbt (by omega)) callable_30 (by simp [List.findIdx?_cons, fq, fc, fi3]) (by simp [fq, fc, fi3, del]) (by simp) (by simp) ?_
    rintro r o ⟨k3, rfl, k30, k31, rfl⟩
    refine ⟨by simp [rdr], by simp, .inl (by simp [List.findIdx?_cons, fq, fc]), fun q7 hq7 => ?_⟩
    clear hq7
    have hk3 := k31 (by omega)
    have hw3 : IntKind.i64.wrap (k3 - 1) = k3 - 1 := wrapi (by omega)
    simp [fq, fc, hw3, encDfa, fi3, del]
    omega
end Go.Proofs.YtibeeohnjabhkaaGreatDoor.R

open Go Go.Proofs.YtibeeohnjabhkaaGreatDoor.T
namespace Go.Proofs.YtibeeohnjabhkaaGreatDoor.R
set_option maxRecDepth 100000
set_option maxHeartbeats 4000000
set_option linter.unusedVariables false
def laysI_ren : Go.Shelf.Ren := ⟨fun | 171 => 22 | 243 => 36 | 246 => 48 | 283 => 55 | 284 => 56 | 285 => 57 | 286 => 58 | 129 => 70 | 317 => 69 | 318 => 71 | 319 => 72 | 320 => 73 | 337 => 88 | 338 => 89 | n => n, fun | 3 => 3 | 9 => 9 | 2 => 2 | 4 => 4 | 171 => 94 | 0 => 0 | 53 => 95 | 37 => 22 | 5 => 5 | 173 => 98 | 212 => 115 | 51 => 116 | 20 => 20 | 213 => 117 | 46 => 119 | 232 => 138 | 233 => 139 | n => n, fun | 17 => 0 | 18 => 2 | 19 => 3 | n => n⟩
theorem laysI : Go.Proofs.LaysM.n171 Tryz.prog laysI_ren :=
  { mixed := by kernel_rfl, f129 := Tryz.func70.trans (congrArg some (by kernel_rfl)), f171 := Tryz.func22.trans (congrArg some (by kernel_rfl)), f243 := Tryz.func36.trans (congrArg some (by kernel_rfl)), f246 := Tryz.func48.trans (congrArg some (by kernel_rfl)), f283 := Tryz.func55.trans (congrArg some (by kernel_rfl)), f284 := Tryz.func56.trans (congrArg some (by kernel_rfl)), f285 := Tryz.func57.trans (congrArg some (by kernel_rfl)), f286 := Tryz.func58.trans (congrArg some (by kernel_rfl)), f317 := Tryz.func69.trans (congrArg some (by kernel_rfl)), f318 := Tryz.func71.trans (congrArg some (by kernel_rfl)), f319 := Tryz.func72.trans (congrArg some (by kernel_rfl)), f320 := Tryz.func73.trans (congrArg some (by kernel_rfl)), f337 := Tryz.func88.trans (congrArg some (by kernel_rfl)), f338 := Tryz.func89.trans (congrArg some (by kernel_rfl)), t0 := Tryz.underlying0, a0 := Tryz.isAgg0, z0 := Tryz.sizeOf0, v0 := Tryz.zeroValue0, t2 := Tryz.underlying2, a2 := Tryz.isAgg2, z2 := Tryz.sizeOf2, v2 := Tryz.zeroValue2, t3 := Tryz.underlying3, a3 := Tryz.isAgg3, z3 := Tryz.sizeOf3, v3 := Tryz.zeroValue3, t4 := Tryz.underlying4, a4 := Tryz.isAgg4, z4 := Tryz.sizeOf4, v4 := Tryz.zeroValue4, t5 := Tryz.underlying5, a5 := Tryz.isAgg5, z5 := Tryz.sizeOf5, v5 := Tryz.zeroValue5, t9 := Tryz.underlying9, a9 := Tryz.isAgg9, z9 := Tryz.sizeOf9, v9 := Tryz.zeroValue9, t20 := Tryz.underlying20, a20 := Tryz.isAgg20, z20 := Tryz.sizeOf20, v20 := Tryz.zeroValue20, t37 := Tryz.underlying22, a37 := Tryz.isAgg22, z37 := Tryz.sizeOf22, v37 := Tryz.zeroValue22, t46 := Tryz.underlying119, a46 := Tryz.isAgg119, z46 := Tryz.sizeOf119, v46 := Tryz.zeroValue119, t51 := Tryz.underlying116, a51 := Tryz.isAgg116, z51 := Tryz.sizeOf116, v51 := Tryz.zeroValue116, t53 := Tryz.underlying95, a53 := Tryz.isAgg95, z53 := Tryz.sizeOf95, v53 := Tryz.zeroValue95, t171 := Tryz.underlying94, a171 := Tryz.isAgg94, z171 := Tryz.sizeOf94, v171 := Tryz.zeroValue94, t173 := Tryz.underlying98, a173 := Tryz.isAgg98, z173 := Tryz.sizeOf98, v173 := Tryz.zeroValue98, t212 := Tryz.underlying115, a212 := Tryz.isAgg115, z212 := Tryz.sizeOf115, v212 := Tryz.zeroValue115, t213 := Tryz.underlying117, a213 := Tryz.isAgg117, z213 := Tryz.sizeOf117, t232 := Tryz.underlying138, a232 := Tryz.isAgg138, z232 := Tryz.sizeOf138, v232 := Tryz.zeroValue138, t233 := Tryz.underlying139, a233 := Tryz.isAgg139, z233 := Tryz.sizeOf139, v233 := Tryz.zeroValue139, g17 := by kernel_rfl, g18 := by kernel_rfl, g19 := by kernel_rfl, i0 := by kernel_rfl, i2 := by kernel_rfl, i3 := by kernel_rfl, i4 := by kernel_rfl, i5 := by kernel_rfl, i9 := by kernel_rfl, i20 := by kernel_rfl, i37 := by kernel_rfl, i46 := by kernel_rfl, i51 := by kernel_rfl, i53 := by kernel_rfl, i171 := by kernel_rfl, i173 := by kernel_rfl, i212 := by kernel_rfl, i232 := by kernel_rfl, i233 := by kernel_rfl, m17 := by kernel_rfl, m18 := by kernel_rfl, m19 := by kernel_rfl }
def laysJ_ren : Go.Shelf.Ren := ⟨fun | 156 => 23 | 165 => 37 | 166 => 38 | 169 => 39 | 240 => 49 | 241 => 50 | 276 => 59 | 277 => 60 | n => n, fun | 31 => 49 | 9 => 9 | 3 => 3 | 4 => 4 | 0 => 0 | 20 => 20 | 72 => 72 | 76 => 76 | 70 => 70 | 37 => 22 | 75 => 75 | 127 => 86 | 164 => 100 | 5 => 5 | 80 => 78 | n => n, fun | n => n⟩
theorem laysJ : Go.Proofs.Lays.n156 Tryz.prog laysJ_ren :=
  { mixed := by kernel_rfl, f156 := Tryz.func23.trans (congrArg some (by kernel_rfl)), f165 := Tryz.func37.trans (congrArg some (by kernel_rfl)), f166 := Tryz.func38.trans (congrArg some (by kernel_rfl)), f169 := Tryz.func39.trans (congrArg some (by kernel_rfl)), f240 := Tryz.func49.trans (congrArg some (by kernel_rfl)), f241 := Tryz.func50.trans (congrArg some (by kernel_rfl)), f276 := Tryz.func59.trans (congrArg some (by kernel_rfl)), f277 := Tryz.func60.trans (congrArg some (by kernel_rfl)), t0 := Tryz.underlying0, a0 := Tryz.isAgg0, z0 := Tryz.sizeOf0, v0 := Tryz.zeroValue0, t3 := Tryz.underlying3, a3 := Tryz.isAgg3, z3 := Tryz.sizeOf3, v3 := Tryz.zeroValue3, t4 := Tryz.underlying4, a4 := Tryz.isAgg4, z4 := Tryz.sizeOf4, v4 := Tryz.zeroValue4, t9 := Tryz.underlying9, a9 := Tryz.isAgg9, z9 := Tryz.sizeOf9, v9 := Tryz.zeroValue9, t20 := Tryz.underlying20, a20 := Tryz.isAgg20, z20 := Tryz.sizeOf20, v20 := Tryz.zeroValue20, t31 := Tryz.underlying49, a31 := Tryz.isAgg49, z31 := Tryz.sizeOf49, v31 := Tryz.zeroValue49, t37 := Tryz.underlying22, a37 := Tryz.isAgg22, z37 := Tryz.sizeOf22, v37 := Tryz.zeroValue22, t70 := Tryz.underlying70, a70 := Tryz.isAgg70, z70 := Tryz.sizeOf70, v70 := Tryz.zeroValue70, t72 := Tryz.underlying72, a72 := Tryz.isAgg72, z72 := Tryz.sizeOf72, v72 := Tryz.zeroValue72, t75 := Tryz.underlying75, a75 := Tryz.isAgg75, z75 := Tryz.sizeOf75, v75 := Tryz.zeroValue75, t76 := Tryz.underlying76, a76 := Tryz.isAgg76, z76 := Tryz.sizeOf76, v76 := Tryz.zeroValue76, t127 := Tryz.underlying86, a127 := Tryz.isAgg86, z127 := Tryz.sizeOf86, v127 := Tryz.zeroValue86, t164 := Tryz.underlying100, a164 := Tryz.isAgg100, z164 := Tryz.sizeOf100, v164 := Tryz.zeroValue100 }
theorem extraJ : Builder.Extra Tryz.prog laysJ_ren :=
  { sizeBuilder := by kernel_rfl, liesBuilder := by kernel_rfl, t5 := Tryz.underlying5, a5 := Tryz.isAgg5, z5 := Tryz.sizeOf5, v5 := Tryz.zeroValue5, infoByte := by kernel_rfl, cellsByte := by kernel_rfl, sizeByte := by kernel_rfl, neB5 := by decide }
end Go.Proofs.YtibeeohnjabhkaaGreatDoor.R

open Go Go.Proofs.YtibeeohnjabhkaaGreatDoor.T
namespace Go.Proofs.YtibeeohnjabhkaaGreatDoor.R
set_option maxHeartbeats 4000000
set_option maxRecDepth 100000
set_option linter.unusedSimpArgs false
set_option linter.unusedVariables false
attribute [local simp] bsV bsRows chunk fillT partsT appV makeV rowsOf cellsOf placeOf
theorem tc_l15DecN (n : Nat) (hn : n ≤ 9223372036854775807) : TC Tryz.prog 24 [.val (.int .i64 n)] [] (.val (.string (bs (decF n)))) [] := by
  refine TC.enter Tryz.func24 rfl (by simp [Tryz.ntmps24]) rfl (tw_sound (ρ := []) ?_)
  rw [Tryz.ntmps24]
  have c1 : ¬ (n : Int) < -9223372036854775807 := by omega
  have c2 : ¬ (n : Int) < 0 := by omega
  simp [c1, c2]
  refine TWcH.loop [] (fun m st => ∃ out : List UInt8, m ≤ n ∧ decF n = decF m ++ out ∧ st.σ 0 = .val (.int .i64 m) ∧ st.σ 3 = .val (.string (bs out))) n ⟨[], by omega, by simp, by simp⟩ ?_
  rintro m ⟨σ, H⟩ ⟨out, hmn, he, h0, h3⟩
  simp only at h0 h3
  have hdl := decF_len 18 n (by omega)
  have hol : out.length ≤ 19 := by rw [he] at hdl; simp at hdl; omega
  have t1 : (m : Int).tmod 10 = ((m % 10 : Nat) : Int) := by rw [Int.tmod_eq_emod_of_nonneg (by omega)]; omega
  have t2 : (m : Int).tdiv 10 = ((m / 10 : Nat) : Int) := by rw [Int.tdiv_eq_ediv_of_nonneg (by omega)]; omega
  have t3 : IntKind.i64.wrap ((m / 10 : Nat) : Int) = ((m / 10 : Nat) : Int) := wrapi (by omega)
  have k1 : ¬ (9223372036854775807 : Int) < 1 + out.length := by omega
  by_cases c : 9 < m
  · have c' : (9 : Int) < m := by omega
    simp [h0, h3, c, c']
    refine gall_intro fun i g => ?_
    simp only [t1, t2, t3, dig_add (m % 10) (by omega)]
    simp [h0, h3, c, c', k1]
    exact ⟨m / 10, by omega, by omega, dig (m % 10) :: out, by rw [he, decF_big (by omega)]; simp, by rw [wrapi (by omega)]; omega, by unfold dig; rw [show (48 + (m : Int) % 10).toNat = 48 + m % 10 by omega]⟩
  · have c' : ¬ (9 : Int) < m := by omega
    simp [h0, h3, c, c']
    refine gall_intro fun i g => ?_
    simp only [dig_add m (by omega)]
    simp [h0, h3, c, c', k1]
    rw [he, decF_small (by omega)]
    unfold dig
    rw [show (48 + (m : Int)).toNat = 48 + m by omega]
    rfl
theorem decF_lib : ∀ n : Nat, decF n = Lib.decDigits n := by
  intro n
  induction n using Nat.strongRecOn with
  | ind n ih =>
    by_cases h : n < 10
    · rw [decF_small h, Lib.decDigits, dif_pos h]; rfl
    · rw [decF_big h, Lib.decDigits, dif_neg h, ih (n / 10) (by omega)]; rfl
theorem itoa_nat (n : Nat) : Lib.itoa n = decF n := by
  rw [decF_lib, Lib.itoa, if_neg (by omega)]; rfl
theorem itoa_neg {n : Int} (h : n < 0) : Lib.itoa n = 45 :: decF (-n).toNat := by
  rw [decF_lib, Lib.itoa, if_pos h, show n.natAbs = (-n).toNat by omega]
theorem itoa_len {n : Int} (h0 : -9223372036854775808 ≤ n) (h1 : n ≤ 9223372036854775807) : (Lib.itoa n).length ≤ 20 := by
  by_cases h : n < 0
  · rw [itoa_neg h]
    have := decF_len 18 (-n).toNat (by omega)
    simp; omega
  · obtain ⟨m, rfl⟩ : ∃ m : Nat, n = m := ⟨n.toNat, by omega⟩
    rw [itoa_nat]
    have := decF_len 18 m (by omega)
    omega
theorem decF_min : decF 9223372036854775808 = [57, 50, 50, 51, 51, 55, 50, 48, 51, 54, 56, 53, 52, 55, 55, 53, 56, 48, 56] := by
  have b : ∀ n : Nat, ¬ n < 10 → decF n = decF (n / 10) ++ [dig (n % 10)] := fun n h => decF_big h
  rw [b _ (by decide)]; simp only [Nat.reduceDiv, Nat.reduceMod]
  iterate 17 (rw [b _ (by decide)]; simp only [Nat.reduceDiv, Nat.reduceMod])
  rw [decF_small (by decide)]
  rfl
theorem tc_l15DecI (n : Int) (h0 : -9223372036854775808 ≤ n) (h1 : n ≤ 9223372036854775807) : TC Tryz.prog 24 [.val (.int .i64 n)] [] (.val (.string (bs (Lib.itoa n)))) [] := by
  by_cases c : n < 0
  · refine TC.enter Tryz.func24 rfl (by simp [Tryz.ntmps24]) rfl (tw_sound (ρ := []) ?_)
    rw [Tryz.ntmps24]
    rw [itoa_neg c]
    by_cases c2 : n < -9223372036854775807
    · obtain rfl : n = -9223372036854775808 := by omega
      have e : (-(-9223372036854775808 : Int)).toNat = 9223372036854775808 := by decide
      rw [e, decF_min]
      simp
    · have e : IntKind.i64.wrap (-n) = (((-n).toNat : Nat) : Int) := by rw [wrapi (by omega)]; omega
      have hl := decF_len 18 (-n).toNat (by omega)
      have k1 : ¬ (9223372036854775807 : Int) < 1 + (decF (-n).toNat).length := by omega
      simp [c, c2]
      rw [e]
      refine TWoH.callV (tc_l15DecN (-n).toNat (by omega)) callable_24 (by simp) (by simp) (by simp) (by simp) ?_
      simp [c, c2, k1]
  · obtain ⟨m, rfl⟩ : ∃ m : Nat, n = m := ⟨n.toNat, by omega⟩
    rw [itoa_nat]
    exact tc_l15DecN m (by omega)
theorem tc_strItoa (n : Int) (h0 : -9223372036854775808 ≤ n) (h1 : n ≤ 9223372036854775807) : TC Tryz.prog 22 [.val (.int .i64 n)] [] (.val (.string (bs (Lib.itoa n)))) [] := tc_Itoa_of laysI n h0 h1
theorem tc_strJoin (xs : List (List UInt8)) (sep : List UInt8) (hN : xs.length ≤ 140737488355328) (hlen : (Lib.join xs sep).length ≤ 140737488355328) : TC Tryz.prog 23 [.ro (xs.map encT), .val (.string (bs sep))] [] (.val (.string (bs (Lib.join xs sep)))) [] := tc_Join_of laysJ extraJ xs sep hN hlen
theorem join_snoc (sep : List UInt8) : ∀ (xs : List (List UInt8)) (x : List UInt8), Lib.join (xs ++ [x]) sep = if xs = [] then x else Lib.join xs sep ++ sep ++ x
  | [], x => by simp [Lib.join]
  | [y], x => by simp [Lib.join, List.intercalate, List.intersperse]
  | y :: z :: xs, x => by
    have ih := join_snoc sep (z :: xs) x
    rw [if_neg (by simp)] at ih ⊢
    have e : ∀ (a b : List UInt8) (l : List (List UInt8)), Lib.join (a :: b :: l) sep = a ++ sep ++ Lib.join (b :: l) sep := fun a b l => by simp [Lib.join, List.intercalate, List.intersperse]
    rw [List.cons_append, List.cons_append, e, e, ← List.cons_append, ih]
    simp
theorem join_len (sep : List UInt8) (N : Nat) : ∀ (xs : List (List UInt8)), (∀ x ∈ xs, x.length ≤ N) → (Lib.join xs sep).length ≤ (N + sep.length) * xs.length
  | [], _ => by simp [Lib.join]
  | [y], h => by have := h y (by simp); simp [Lib.join]; omega
  | y :: z :: xs, h => by
    have ih := join_len sep N (z :: xs) fun x hx => h x (by simp [hx])
    have h1 := h y (by simp)
    have e : Lib.join (y :: z :: xs) sep = y ++ sep ++ Lib.join (z :: xs) sep := by simp [Lib.join, List.intercalate, List.intersperse]
    rw [e, List.length_append, List.length_append, List.length_cons, Nat.mul_succ]
    omega
/-- A token as it is written. -/
def tokT (x : Tok) : List UInt8 := Lib.itoa x.1 ++ [58] ++ Lib.itoa x.2.1 ++ [45] ++ Lib.itoa x.2.2
def lexT (l : List Tok) : List UInt8 := Lib.join (l.map tokT) [32]
def i64 (n : Int) : Prop := -9223372036854775808 ≤ n ∧ n ≤ 9223372036854775807
def tokB (x : Tok) : Prop := i64 x.1 ∧ i64 x.2.1 ∧ i64 x.2.2
theorem tokT_len {x : Tok} (h : tokB x) : (tokT x).length ≤ 62 := by
  have h1 := itoa_len h.1.1 h.1.2
  have h2 := itoa_len h.2.1.1 h.2.1.2
  have h3 := itoa_len h.2.2.1 h.2.2.2
  simp [tokT]; omega
theorem lexT_len {l : List Tok} (h : ∀ x ∈ l, tokB x) : (lexT l).length ≤ 63 * l.length := by
  have := join_len [32] 62 (l.map tokT) fun x hx => by
    obtain ⟨y, hy, rfl⟩ := List.mem_map.1 hx
    exact tokT_len (h y hy)
  simpa [lexT] using this
theorem lexT_take {l : List Tok} {i : Nat} (hi : i < l.length) : lexT (l.take (i + 1)) = if i = 0 then tokT l[i] else lexT (l.take i) ++ [32] ++ tokT l[i] := by
  unfold lexT
  rw [List.take_succ_eq_append_getElem hi, List.map_append, List.map_cons, List.map_nil, join_snoc]
  by_cases c : i = 0
  · subst c; simp
  · rw [if_neg c, if_neg (by simp; exact ⟨c, fun e => by subst e; simp at hi⟩)]
theorem tc_sLexText (l : List Tok) (hl : l.length ≤ 1048576) (hb : ∀ x ∈ l, tokB x) : TC Tryz.prog 10 [.ro (l.map encTok)] [] (.val (.string (bs (lexT l)))) [] := by
  refine TC.enter Tryz.func10 rfl (by simp [Tryz.ntmps10]) rfl (tw_sound (ρ := []) ?_)
  rw [Tryz.ntmps10]
  simp
  refine TWcH.loop [] (fun m st => ∃ i : Nat, i + m = l.length ∧ st.σ 0 = .ro (l.map encTok) ∧ st.σ 3 = .val (.string (bs (lexT (l.take i)))) ∧ st.σ 4 = .val (.int .i64 i)) l.length ⟨0, by simp [lexT, Lib.join]⟩ ?_
  rintro m ⟨σ, H⟩ ⟨i, him, h0, h3, h4⟩
  simp only at h0 h3 h4
  by_cases hi : i < l.length
  · have hw : IntKind.i64.wrap ((i : Int) + 1) = i + 1 := wrapi (by omega)
    have hx := hb _ (List.getElem_mem hi)
    have htk := lexT_take hi
    have hlen := lexT_len (l := l.take i) fun x hx => hb x (List.mem_of_mem_take hx)
    have hmin : (l.take i).length ≤ 1048576 := by rw [List.length_take]; omega
    have d1 := tc_l15DecI l[i].1 hx.1.1 hx.1.2
    have d2 := tc_l15DecI l[i].2.1 hx.2.1.1 hx.2.1.2
    have d3 := tc_l15DecI l[i].2.2 hx.2.2.1 hx.2.2.2
    have e1 := itoa_len hx.1.1 hx.1.2
    have e2 := itoa_len hx.2.1.1 hx.2.1.2
    have e3 := itoa_len hx.2.2.1 hx.2.2.2
    obtain ⟨x, hxe⟩ : ∃ x, l[i] = x := ⟨_, rfl⟩
    have hpi : ∀ h, l[i]'h = x := fun _ => hxe
    rw [hxe] at d1 d2 d3 e1 e2 e3 htk
    generalize hA : lexT (l.take i) = A at *
    unfold tokT at htk
    generalize Lib.itoa x.1 = a1 at *
    generalize Lib.itoa x.2.1 = a2 at *
    generalize Lib.itoa x.2.2 = a3 at *
    have hAl : A.length ≤ 66060288 := by omega
    have K : ∀ z : Int, z ≤ 70000000 → (9223372036854775807 < z) = False := fun z hz => by simp; omega
    by_cases c : i = 0
    · subst c
      have hA0 : A = [] := by rw [← hA]; simp [lexT, Lib.join]
      subst hA0
      rw [if_pos rfl] at htk
      have hi0 : 0 < l.length := hi
      simp [h0, h3, h4, hi0]
      refine TWcH.regionD (ρ := []) [0, 1, 2, 3, 4, 5, 9, 10, 11, 12, 13, 17, 18, 19, 20, 21, 6, 7, 8, 14, 15, 16, 22, 23, 24] 25 mixed (by kernel_rfl) ?_
      simp [h0, h3, h4, hi0, hpi, encTok]
      refine TWqH.callV d1 callable_24 (by simp) (by simp) (by simp) (by simp) ?_
      simp [h0, h3, h4, hi0, hpi, encTok, hw]
      repeat (simp (disch := omega) only [K]; simp [h0, h3, h4, hi0, hpi, encTok, hw])
      refine TWqH.callV d2 callable_24 (by simp) (by simp) (by simp) (by simp) ?_
      simp [h0, h3, h4, hi0, hpi, encTok, hw]
      repeat (simp (disch := omega) only [K]; simp [h0, h3, h4, hi0, hpi, encTok, hw])
      refine TWqH.callV d3 callable_24 (by simp) (by simp) (by simp) (by simp) ?_
      simp [h0, h3, h4, hi0, hpi, encTok, hw]
      repeat (simp (disch := omega) only [K]; simp [h0, h3, h4, hi0, hpi, encTok, hw])
      exact ⟨m - 1, by omega, 1, by omega, by rw [htk]; simp, wrapi (by omega)⟩
    · have c' : (0 : Int) < i := by omega
      have c2 : 0 < i := by omega
      rw [if_neg c] at htk
      simp [h0, h3, h4, hi, c', c2, hw]
      repeat (simp (disch := omega) only [K]; simp [h0, h3, h4, hi, c', c2, hw])
      refine TWcH.regionD (ρ := []) [0, 1, 2, 3, 4, 5, 9, 10, 11, 12, 13, 17, 18, 19, 20, 21, 6, 7, 8, 14, 15, 16, 22, 23, 24] 25 mixed (by kernel_rfl) ?_
      simp [h0, h3, h4, hi, c', c2, hpi, encTok]
      refine TWqH.callV d1 callable_24 (by simp) (by simp) (by simp) (by simp) ?_
      simp [h0, h3, h4, hi, c', c2, hpi, encTok, hw]
      repeat (simp (disch := omega) only [K]; simp [h0, h3, h4, hi, c', c2, hpi, encTok, hw])
      refine TWqH.callV d2 callable_24 (by simp) (by simp) (by simp) (by simp) ?_
      simp [h0, h3, h4, hi, c', c2, hpi, encTok, hw]
      repeat (simp (disch := omega) only [K]; simp [h0, h3, h4, hi, c', c2, hpi, encTok, hw])
      refine TWqH.callV d3 callable_24 (by simp) (by simp) (by simp) (by simp) ?_
      simp [h0, h3, h4, hi, c', c2, hpi, encTok, hw]
      repeat (simp (disch := omega) only [K]; simp [h0, h3, h4, hi, c', c2, hpi, encTok, hw])
      exact ⟨m - 1, by omega, i + 1, by omega, by rw [htk]; simp, by omega⟩
  · obtain rfl : i = l.length := by omega
    simp [h0, h3, h4]
theorem tc_iLexText (l : List Tok) (hl : l.length ≤ 1048576) (hb : ∀ x ∈ l, tokB x) : TC Tryz.prog 9 [.ro (l.map encTok)] [] (.val (.string (bs (lexT l)))) [] := by
  refine TC.enter Tryz.func9 rfl (by simp [Tryz.ntmps9]) rfl (tw_sound (ρ := []) ?_)
  rw [Tryz.ntmps9]
  simp
  refine TWcH.turn (Turn.nil 3 9 (by simp) fun id hid => ?_)
  refine TWcH.loop [26] (fun m st => ∃ (i id : Nat) (R : List (List UInt8)), i + m = l.length ∧ R = (l.take i).map tokT ∧ st.σ 3 = .hd id ∧ st.H id = some (.own 9 (R.map encT)) ∧ st.σ 6 = .ro (l.map encTok) ∧ st.σ 7 = .val (.int .i64 l.length) ∧ st.σ 8 = .val (.int .i64 i)) l.length ⟨0, id, [], by simp⟩ ?_
  clear hid id
  rintro m ⟨σ, H⟩ ⟨i, id, R, him, hR, h3, hH, h6, h7, h8⟩
  simp only at h3 hH h6 h7 h8
  by_cases hi : i < l.length
  · have hw : IntKind.i64.wrap ((i : Int) + 1) = i + 1 := wrapi (by omega)
    have hx := hb _ (List.getElem_mem hi)
    have htk : R ++ [tokT l[i]] = (l.take (i + 1)).map tokT := by
      rw [hR, List.take_succ_eq_append_getElem hi, List.map_append]; rfl
    have hRl : R.length = i := by rw [hR]; simp; omega
    have d1 := tc_strItoa l[i].1 hx.1.1 hx.1.2
    have d2 := tc_strItoa l[i].2.1 hx.2.1.1 hx.2.1.2
    have d3 := tc_strItoa l[i].2.2 hx.2.2.1 hx.2.2.2
    have e1 := itoa_len hx.1.1 hx.1.2
    have e2 := itoa_len hx.2.1.1 hx.2.1.2
    have e3 := itoa_len hx.2.2.1 hx.2.2.2
    obtain ⟨x, hxe⟩ : ∃ x, l[i] = x := ⟨_, rfl⟩
    have hpi : ∀ h, l[i]'h = x := fun _ => hxe
    rw [hxe] at d1 d2 d3 e1 e2 e3 htk
    have hT : tokT x = Lib.itoa x.1 ++ [58] ++ Lib.itoa x.2.1 ++ [45] ++ Lib.itoa x.2.2 := rfl
    generalize Lib.itoa x.1 = a1 at *
    generalize Lib.itoa x.2.1 = a2 at *
    generalize Lib.itoa x.2.2 = a3 at *
    have K : ∀ z : Int, z ≤ 70000000 → (9223372036854775807 < z) = False := fun z hz => by simp; omega
    have k1 : (i + 1) * 16 ≤ 140737488355328 := by omega
    have k2 : i ≤ 9223372036854775806 := by omega
    simp [h3, hH, h6, h7, h8, hi, hpi]
    refine gall_fresh [id] (by simp [hH]) fun c fc => ?_
    simp [frF] at fc
    simp [h3, hH, h6, h7, h8, hi, hpi, fc, encTok]
    refine TWcH.regionD (ρ := [26]) [0, 1, 2, 5, 6, 10, 11, 3, 4, 7, 8, 9, 12, 13, 14, 15, 16] 17 mixed (by kernel_rfl) ?_
    simp [h3, hH, h6, h7, h8, hi, hpi, fc, encTok]
    refine TWqH.callV d1 callable_22 (by simp) (by simp) (by simp) (by simp) ?_
    simp [h3, hH, h6, h7, h8, hi, hpi, fc, encTok]
    repeat (simp (disch := omega) only [K]; simp [h3, hH, h6, h7, h8, hi, hpi, fc, encTok])
    refine TWqH.callV d2 callable_22 (by simp) (by simp) (by simp) (by simp) ?_
    simp [h3, hH, h6, h7, h8, hi, hpi, fc, encTok]
    repeat (simp (disch := omega) only [K]; simp [h3, hH, h6, h7, h8, hi, hpi, fc, encTok])
    refine TWqH.callV d3 callable_22 (by simp) (by simp) (by simp) (by simp) ?_
    simp [h3, hH, h6, h7, h8, hi, hpi, fc, encTok]
    repeat (simp (disch := omega) only [K]; simp [h3, hH, h6, h7, h8, hi, hpi, fc, encTok, hRl, k1, k2])
    refine gall_fresh [id, c] (by simp [fc, hH]) fun c2 fc2 => ?_
    simp [frF] at fc2
    simp [h3, hH, h6, h7, h8, hi, hpi, fc, fc2, encTok, hw]
    refine ⟨m - 1, by omega, i + 1, by omega, ?_, by omega⟩
    rw [← List.map_take, ← List.map_map, ← htk, hT]; simp [encT]
  · obtain rfl : i = l.length := by omega
    rw [List.take_length] at hR
    have hRl : R.length = l.length := by rw [hR]; simp
    have hj := lexT_len hb
    simp [h3, hH, h6, h7, h8]
    refine TWoH.callV (tc_strJoin R [32] (by omega) (by unfold lexT at hj; rw [hR]; omega)) callable_23 (by simp [h3, hH]) (by simp) (by simp) (by simp) ?_
    simp [lexT, hR]
end Go.Proofs.YtibeeohnjabhkaaGreatDoor.R

open Go Go.Proofs.YtibeeohnjabhkaaGreatDoor.T
namespace Go.Proofs.YtibeeohnjabhkaaGreatDoor.R
set_option maxHeartbeats 8000000
set_option maxRecDepth 100000
set_option linter.unusedSimpArgs false
set_option linter.unusedVariables false
attribute [local simp] bsV bsRows chunk fillT partsT appV makeV rowsOf cellsOf placeOf frzT frz1
theorem lexGo_shift {d : Dfa} (e : Nat) : ∀ (w : List UInt8) (s i : Nat) (r : Int) (to : Nat), lexGo d w s (i + e) r (to + e) = ((lexGo d w s i r to).1, (lexGo d w s i r to).2 + e)
  | [], s, i, r, to => rfl
  | c :: w, s, i, r, to => by
    unfold lexGo
    split
    · rfl
    · split
      · rw [show i + e + 1 = i + 1 + e by omega]; exact lexGo_shift e w _ _ _ _
      · rw [show i + e + 1 = i + 1 + e by omega]; exact lexGo_shift e w _ _ _ _
theorem lexAtF_shift {d : Dfa} {t : List UInt8} {e p : Nat} : lexAtF d t (p + e) = ((lexAtF d (t.drop e) p).1, (lexAtF d (t.drop e) p).2 + e) := by
  unfold lexAtF
  rw [List.drop_drop, Nat.add_comm e p]
  exact lexGo_shift e _ 0 p (-1) p
theorem toksG_shift {f g : Nat → Int × Nat} {n m e : Nat} (hn : n = m + e) (h : ∀ p, f (p + e) = ((g p).1, (g p).2 + e)) : ∀ k p, m - p ≤ k → (toksG f n (p + e)).1.length = (toksG g m p).1.length ∧ (toksG f n (p + e)).2 = (toksG g m p).2 + e
  | 0, p, hk => by
    rw [toksG_end (g := f) (by omega), toksG_end (g := g) (by omega)]; exact ⟨rfl, rfl⟩
  | k + 1, p, hk => by
    by_cases c : p < m ∧ 0 ≤ (g p).1 ∧ p < (g p).2
    · have hf := h p
      have h1 : (f (p + e)).1 = (g p).1 := by rw [hf]
      have h2 : (f (p + e)).2 = (g p).2 + e := by rw [hf]
      rw [toksG_next c.1 c.2.1 c.2.2, toksG_next (g := f) (by omega) (by omega) (by omega), h2]
      have ih := toksG_shift hn h k (g p).2 (by omega)
      exact ⟨by simp only [List.length_cons]; rw [ih.1], ih.2⟩
    · have hf := h p
      have h1 : (f (p + e)).1 = (g p).1 := by rw [hf]
      have h2 : (f (p + e)).2 = (g p).2 + e := by rw [hf]
      rw [toksG_end c, toksG_end (g := f) (by omega)]; exact ⟨rfl, rfl⟩
theorem toks_step {g : Nat → Int × Nat} {n e i a : Nat} {L : List Tok} (h : toksG g n e = (L.drop i, a)) (hi : i < L.length) : e < n ∧ 0 ≤ (g e).1 ∧ e < (g e).2 ∧ L[i] = ((g e).1, (e : Int), ((g e).2 : Int)) ∧ toksG g n (g e).2 = (L.drop (i + 1), a) := by
  by_cases c : e < n ∧ 0 ≤ (g e).1 ∧ e < (g e).2
  · rw [toksG_next c.1 c.2.1 c.2.2, List.drop_eq_getElem_cons hi] at h
    injection h with h1 h2
    injection h1 with h3 h4
    exact ⟨c.1, c.2.1, c.2.2, h3.symm, by rw [← h4, ← h2]⟩
  · rw [toksG_end c, List.drop_eq_getElem_cons hi] at h
    injection h with h1 h2
    cases h1
theorem toks_stop {g : Nat → Int × Nat} {n e a : Nat} (h : toksG g n e = ([], a)) : a = e := by
  by_cases c : e < n ∧ 0 ≤ (g e).1 ∧ e < (g e).2
  · rw [toksG_next c.1 c.2.1 c.2.2] at h
    injection h with h1 h2
    cases h1
  · rw [toksG_end c] at h
    injection h with h1 h2
    exact h2.symm
theorem toks_le {g : Nat → Int × Nat} {n : Nat} (hg : ∀ p, p ≤ n → (g p).2 ≤ n) : ∀ k p, n - p ≤ k → p ≤ n → (toksG g n p).2 ≤ n
  | 0, p, hk, hp => by rw [toksG_end (by omega)]; exact hp
  | k + 1, p, hk, hp => by
    by_cases c : p < n ∧ 0 ≤ (g p).1 ∧ p < (g p).2
    · rw [toksG_next c.1 c.2.1 c.2.2]
      exact toks_le hg k (g p).2 (by omega) (hg p hp)
    · rw [toksG_end c]; exact hp
theorem lexGo_hi {d : Dfa} (ho : DOk d) : ∀ (w : List UInt8) (s i : Nat) (r : Int) (to : Nat), s < d.rows.length → r < 5 → (lexGo d w s i r to).1 < 5
  | [], s, i, r, to, _, hr => hr
  | c :: w, s, i, r, to, hs, hr => by
    have hn := next_ok ho (s := s) (b := c.toNat) hs
    unfold lexGo
    split
    · exact hr
    · split
      · exact lexGo_hi ho w _ _ _ _ (by omega) (ho.high _ (by omega))
      · exact lexGo_hi ho w _ _ _ _ (by omega) hr
theorem toks_B {g : Nat → Int × Nat} {n : Nat} (hn : n ≤ 1000) (hg : ∀ p, p ≤ n → (g p).2 ≤ n ∧ (g p).1 < 5) : ∀ k p, n - p ≤ k → p ≤ n → ∀ x ∈ (toksG g n p).1, tokB x
  | 0, p, hk, hp => by rw [toksG_end (by omega)]; intro x hx; cases hx
  | k + 1, p, hk, hp => by
    by_cases c : p < n ∧ 0 ≤ (g p).1 ∧ p < (g p).2
    · rw [toksG_next c.1 c.2.1 c.2.2]
      intro x hx
      have h1 := hg p hp
      rcases List.mem_cons.1 hx with rfl | hx
      · refine ⟨⟨?_, ?_⟩, ⟨?_, ?_⟩, ⟨?_, ?_⟩⟩ <;> dsimp only <;> omega
      · exact toks_B hn hg k (g p).2 (by omega) h1.1 x hx
    · rw [toksG_end c]; intro x hx; cases hx
theorem lexAtF_hi {d : Dfa} (ho : DOk d) {t : List UInt8} {p : Nat} : (lexAtF d t p).1 < 5 := by
  have h1 := ho.one
  exact lexGo_hi ho _ 0 p (-1) p (by omega) (by omega)
theorem lexRun_B (d : Dfa) (t : List UInt8) : ∀ x ∈ (lexRun d t).1, tokB x := by
  unfold lexRun
  split
  · rename_i h
    have ho := dok_of h.1
    exact toks_B (by omega) (fun p hp => ⟨(lexAt_ok hp).2.2, lexAtF_hi ho⟩) t.length 0 (by omega) (by omega)
  · intro x hx; cases hx
theorem lexRun_to (d : Dfa) (t : List UInt8) : (lexRun d t).2 ≤ t.length := by
  unfold lexRun
  split
  · exact toks_le (fun p hp => (lexAt_ok hp).2.2) t.length 0 (by omega) (by omega)
  · exact Nat.zero_le _
theorem tc_iLexRunR (d : Dfa) (hs : DSm d) (t : List UInt8) : TC Tryz.prog 6 [.agg (encDfa d), .val (.string (bs t))] [] (.tup [.ro ((lexRun d t).1.map encTok), .val (.int .i64 (lexRun d t).2)]) [] := by
  have := (tc_iLexRun d hs t).frz
  simpa using this
theorem tc_sLexRunR (d : Dfa) (hs : DSm d) (t : List UInt8) : TC Tryz.prog 7 [.agg (encDfa d), .val (.string (bs t))] [] (.tup [.ro ((lexRun d t).1.map encTok), .val (.int .i64 (lexRun d t).2)]) [] := by
  have := (tc_sLexRun d hs t).frz
  simpa using this
theorem tcr_DrawLexRun (b : List UInt8) (hb : b.length ≤ 1048576) : TCR Tryz.prog 5 [.ro (b.map encU)] [] (fun r o => ∃ (d : Dfa) (w : List UInt8), DB d ∧ r = .tup [.agg (encDfa d), .val (.string (bs w))] ∧ w.length ≤ 202 ∧ o = []) := by
  refine TCR.enter Tryz.func5 rfl (by simp [Tryz.ntmps5]) rfl (tw_sound (ρ := []) ?_)
  rw [Tryz.ntmps5]
  simp
  refine gall_intro fun c2 g2 => ?_
  simp
  refine TWoH.callR (tcr_DrawLexAt b hb) callable_15 (by simp) ?_
  rintro r o ⟨d, w, p, hd, rfl, hw, hp, rfl⟩
  refine ⟨rfl, by simp, .inl (by simp), fun q hq => ?_⟩
  clear hq g2
  simp [encDfa]
  refine gall_fresh [c2] (by simp) fun c4 f4 => ?_
  simp [frF] at f4
  simp [f4, encDfa]
  exact ⟨d, hd, w, by simp [encDfa], hw⟩
theorem tc_FnLexRun (b : List UInt8) : TC Tryz.prog 3 [.ro (b.map encU)] [] (.val (.bool true)) [] := by
  refine TC.enter Tryz.func3 rfl (by simp [Tryz.ntmps3]) rfl (tw_sound (ρ := []) ?_)
  rw [Tryz.ntmps3]
  by_cases hb0 : (1048576 : Int) < b.length
  · simp [hb0]
  have hb : b.length ≤ 1048576 := by omega
  simp [hb0]
  refine TWoH.callR (tcr_DrawLexRun b hb) callable_5 (by simp) ?_
  rintro r o ⟨d, w, hd, rfl, hw, rfl⟩
  refine ⟨rfl, by simp, .inl (by simp), fun q hq => ?_⟩
  clear hq
  have hs := hd.sm
  have t1 := tc_iLexRunR d hs w
  have t2 := tc_sLexRunR d hs w
  have hB := lexRun_B d w
  have hto := lexRun_to d w
  have hlen := lexRun_len d w
  have t3 := tc_iLexSame (lexRun d w).1 (lexRun d w).1 (by omega) (by omega)
  have t4 := tc_iLexText (lexRun d w).1 (by omega) hB
  have t5 := tc_sLexText (lexRun d w).1 (by omega) hB
  have hrun : lexRun d w = ([], 0) ∨ (dfaOk d = true ∧ w.length ≤ 200 ∧ toksG (lexAtF d w) w.length 0 = lexRun d w) := by
    unfold lexRun
    split
    · rename_i h; exact .inr ⟨h.1, h.2, rfl⟩
    · exact .inl rfl
  generalize hL : lexRun d w = LA at *
  obtain ⟨L, a⟩ := LA
  simp only at t1 t2 t3 t4 t5 hB hto hlen hrun
  simp [encDfa]
  refine gall_intro fun c hc => ?_
  clear hc
  simp [encDfa]
  refine TWoH.callV t1 callable_6 (by simp [encDfa]) (by simp) (by simp) (by simp) ?_
  simp [encDfa]
  refine TWoH.callV t2 callable_7 (by simp [encDfa]) (by simp) (by simp) (by simp) ?_
  simp [encDfa]
  refine TWoH.callV t3 callable_8 (by simp) (by simp) (by simp) (by simp) ?_
  simp [encDfa, bP]
  refine TWoH.callV t4 callable_9 (by simp) (by simp) (by simp) (by simp) ?_
  simp [encDfa]
  refine TWoH.callV t5 callable_10 (by simp) (by simp) (by simp) (by simp) ?_
  simp [encDfa]
  rcases hrun with hrun | ⟨ok, hwl, hrun⟩
  · injection hrun with e1 e2
    subst e1 e2
    refine TWcH.loop [] (fun m st => st.σ 5 = .ro [] ∧ st.σ 4 = .val (.string (bs w)) ∧ st.σ 6 = .val (.int .i64 0) ∧ st.σ 9 = .val (.int .i64 0) ∧ st.σ 10 = .val (.int .i64 0)) 0 (by simp) ?_
    rintro m ⟨σ, H⟩ ⟨h5, h4, h6, h9, h10⟩
    simp only at h5 h4 h6 h9 h10
    simp [h5, h4, h6, h9, h10]
  · refine TWcH.loop [] (fun m st => ∃ i e : Nat, i + m = L.length ∧ e ≤ w.length ∧ toksG (lexAtF d w) w.length e = (L.drop i, a) ∧ st.σ 3 = .pd c 0 0 0 ∧ st.H c = some (.box 27 (encDfa d)) ∧ st.σ 5 = .ro (L.map encTok) ∧ st.σ 4 = .val (.string (bs w)) ∧ st.σ 6 = .val (.int .i64 a) ∧ st.σ 9 = .val (.int .i64 e) ∧ st.σ 10 = .val (.int .i64 i)) L.length ⟨0, 0, by simp [hrun, encDfa]⟩ ?_
    rintro m ⟨σ, H⟩ ⟨i, e, him, hew, hT, h3, hC, h5, h4, h6, h9, h10⟩
    simp only [encDfa] at h3 hC h5 h4 h6 h9 h10
    by_cases hi : i < L.length
    · obtain ⟨s1, s2, s3, s4, s5⟩ := toks_step hT hi
      have hle := (lexAt_ok (d := d) (t := w) hew).2.2
      generalize (lexAtF d w e).2 = e2 at *
      generalize (lexAtF d w e).1 = rr at *
      have hpi : ∀ h, L[i]'h = (rr, (e : Int), (e2 : Int)) := fun _ => s4
      have hw10 : IntKind.i64.wrap ((i : Int) + 1) = i + 1 := wrapi (by omega)
      have n1 : ¬ (e2 : Int) ≤ e := by omega
      have n2 : ¬ rr < 0 := by omega
      have n3 : (e2 : Int) ≤ w.length := by omega
      have t6 := tc_iLexRunR d hs (w.drop e2)
      have hsh := toksG_shift (f := lexAtF d w) (g := lexAtF d (w.drop e2)) (n := w.length) (m := (w.drop e2).length) (e := e2) (by rw [List.length_drop]; omega) (fun p => lexAtF_shift) (w.drop e2).length 0 (by omega)
      have hr2 : lexRun d (w.drop e2) = toksG (lexAtF d (w.drop e2)) (w.drop e2).length 0 := by
        unfold lexRun; rw [if_pos ⟨ok, by rw [List.length_drop]; omega⟩]
      rw [← hr2, Nat.zero_add, s5] at hsh
      obtain ⟨g1, g2⟩ := hsh
      generalize lexRun d (w.drop e2) = LB at *
      obtain ⟨R, f⟩ := LB
      simp only [List.length_drop] at t6 g1 g2
      have hw0 : IntKind.i64.wrap (a : Int) = a := wrapi (by omega)
      have hw1 : IntKind.i64.wrap ((f : Int) + e2) = f + e2 := wrapi (by omega)
      have hw2 : IntKind.i64.wrap ((L.length : Int) - i) = L.length - i := wrapi (by omega)
      have hw3 : IntKind.i64.wrap ((L.length : Int) - i - 1) = L.length - i - 1 := wrapi (by omega)
      have g3 : (f : Int) + e2 = a := by omega
      have g4 : (R.length : Int) = L.length - i - 1 := by omega
      simp [h3, hC, h5, h4, h6, h9, h10, hi, hpi, encTok, n1, n2]
      refine TWcH.regionD (ρ := []) [0, 1, 2, 3, 4, 5, 6, 7, 8, 9] 10 mixed (by kernel_rfl) ?_
      simp [h3, hC, h5, h4, h6, h9, h10, hi, hpi, encTok, n1, n2, n3, hle]
      refine TWqH.callV t6 callable_6 (by simp [encDfa]) (by simp) (by simp) (by simp) ?_
      simp [h3, hC, h5, h4, h6, h9, h10, hi, hpi, encTok, n1, n2, n3, hw0, hw1, hw2, hw3, g3, g4, hw10]
      exact ⟨m - 1, by omega, i + 1, by omega, e2, hle, s5, rfl, rfl, by omega⟩
    · have e3 : L.drop i = [] := List.drop_eq_nil_of_le (by omega)
      rw [e3] at hT
      have e4 := toks_stop hT
      subst e4
      simp [h3, hC, h5, h4, h6, h9, h10, hi, hew]
end Go.Proofs.YtibeeohnjabhkaaGreatDoor.R

open Go Go.Proofs.YtibeeohnjabhkaaGreatDoor.T
namespace Go.Proofs.YtibeeohnjabhkaaGreatDoor.R
set_option maxHeartbeats 8000000
set_option maxRecDepth 100000
set_option linter.unusedSimpArgs false
set_option linter.unusedVariables false
attribute [local simp] bsV bsRows chunk fillT partsT appV makeV rowsOf cellsOf placeOf frzT frz1
theorem tc_sLexSame (a b : List Tok) (ha : a.length ≤ 1152921504606846976) (hb : b.length ≤ 1152921504606846976) : TC Tryz.prog 12 [.ro (a.map encTok), .ro (b.map encTok)] [] (.val (.bool (bP (a = b)))) [] := by
  refine TC.enter Tryz.func12 rfl (by simp [Tryz.ntmps12]) rfl (tw_sound (ρ := []) ?_)
  rw [Tryz.ntmps12]
  by_cases hlen : a.length = b.length
  case neg =>
    have h1 : ¬ (a.length : Int) = b.length := by omega
    have h2 : ¬ a = b := fun e => hlen (by rw [e])
    simp [h1, bP_neg h2]
  have h1 : (a.length : Int) = b.length := by omega
  simp [h1]
  refine TWcH.loop [] (fun m st => ∃ i : Nat, i + m = b.length ∧ a.take i = b.take i ∧ st.σ 0 = .ro (a.map encTok) ∧ st.σ 1 = .ro (b.map encTok) ∧ st.σ 5 = .val (.int .i64 i)) b.length ⟨0, by simp⟩ ?_
  rintro m ⟨σ, H⟩ ⟨i, him, ht, h0, h1', h5⟩
  simp only at h0 h1' h5
  by_cases hi : i < b.length
  case neg =>
    have e : a = b := take_all hlen (by omega) ht
    have hi2 : ¬ i < a.length := by omega
    simp [h0, h1', h5, hi, hi2, bP_pos e]
  have hi2 : i < a.length := by omega
  have hw : IntKind.i64.wrap ((i : Int) + 1) = i + 1 := wrapi (by omega)
  simp [h0, h1', h5, hi, hi2]
  refine TWcH.regionD (ρ := []) [0, 1, 2, 3, 4, 5, 6, 7, 8] 9 mixed (by kernel_rfl) ?_
  simp [h0, h1', h5, hi, hi2, getI hi, getI hi2, aggT]
  refine gif_intro (fun c => ?_) (fun c => ?_)
  · have e : ¬ a = b := ne_at hi2 hi fun e => by rw [e] at c; simp at c
    simp [h0, h1', h5, hi, hi2, bP_neg e]
  · have e : a[i] = b[i] := by
      simp only [not_or, Decidable.not_not] at c
      exact Prod.ext c.1 (Prod.ext c.2.1 c.2.2)
    simp [h0, h1', h5, hi, hi2, hw]
    exact ⟨m - 1, by omega, i + 1, by omega, take_next hi2 hi ht e, by omega⟩
theorem lexGo_none {d : Dfa} : ∀ (w : List UInt8) (s i : Nat) (r : Int) (to : Nat), (lexGo d w s i r to).1 < 0 → r < 0 ∧ lexGo d w s i r to = (r, to)
  | [], s, i, r, to, h => ⟨h, rfl⟩
  | c :: w, s, i, r, to, h => by
    unfold lexGo at h ⊢
    split
    · rename_i c1
      rw [if_pos c1] at h
      exact ⟨h, rfl⟩
    · rename_i c1
      rw [if_neg c1] at h
      split
      · rename_i c2
        rw [if_pos c2] at h
        have := (lexGo_none w _ _ _ _ h).1
        omega
      · rename_i c2
        rw [if_neg c2] at h
        exact lexGo_none w _ _ _ _ h
theorem lexAtF_none {d : Dfa} {t : List UInt8} {p : Nat} (h : (lexAtF d t p).1 < 0) : lexAtF d t p = (-1, p) := (lexGo_none _ _ _ _ _ h).2
theorem toks_fin {g : Nat → Int × Nat} {n : Nat} : ∀ k p, n - p ≤ k → ¬ ((toksG g n p).2 < n ∧ 0 ≤ (g (toksG g n p).2).1 ∧ (toksG g n p).2 < (g (toksG g n p).2).2) ∧ ((toksG g n p).1 = [] ∨ ∃ x, (toksG g n p).1.getLast? = some x ∧ x.2.2 = (toksG g n p).2)
  | 0, p, hk => by
    rw [toksG_end (by omega)]
    exact ⟨by simp only; omega, .inl rfl⟩
  | k + 1, p, hk => by
    by_cases c : p < n ∧ 0 ≤ (g p).1 ∧ p < (g p).2
    · obtain ⟨h1, h2⟩ := toks_fin (g := g) (n := n) k (g p).2 (by omega)
      rw [toksG_next c.1 c.2.1 c.2.2]
      refine ⟨h1, .inr ?_⟩
      rcases h2 with h2 | ⟨x, h2, h3⟩
      · have h4 : toksG g n (g p).2 = ([], (toksG g n (g p).2).2) := Prod.ext h2 rfl
        have h5 := toks_stop h4
        simp only [h2]
        exact ⟨_, rfl, by rw [h5]; rfl⟩
      · refine ⟨x, ?_, h3⟩
        simp only
        cases hT : (toksG g n (g p).2).1 with
        | nil => rw [hT] at h2; cases h2
        | cons y l => rw [hT] at h2; rw [List.getLast?_cons_cons]; exact h2
    · rw [toksG_end c]
      exact ⟨c, .inl rfl⟩
theorem lexT_more {l : List Tok} {x : Tok} : lexT (l ++ [x]) ≠ lexT l := by
  intro h
  have h1 := congrArg List.length h
  unfold lexT at h1
  rw [List.map_append, List.map_cons, List.map_nil, join_snoc] at h1
  by_cases c : l.map tokT = []
  · rw [if_pos c, c] at h1
    simp [tokT, Lib.join] at h1
  · rw [if_neg c] at h1
    simp at h1
theorem tcr_DrawLexSame (b : List UInt8) (hb : b.length ≤ 1048576) : TCR Tryz.prog 11 [.ro (b.map encU)] [] (fun r o => ∃ (x y : List Tok), r = .tup [.ro (x.map encTok), .ro (y.map encTok)] ∧ x.length ≤ 200 ∧ (∀ z ∈ x, tokB z) ∧ (y = x ∨ y = x ++ [(1, 0, 0)]) ∧ o = []) := by
  have h0 : TCR Tryz.prog 11 [.ro (b.map encU)] [] (fun r o => ∃ (x y : List Tok), r = .tup [.ro (x.map encTok), .own 36 (y.map encTok)] ∧ x.length ≤ 200 ∧ (∀ z ∈ x, tokB z) ∧ (y = x ∨ y = x ++ [(1, 0, 0)]) ∧ o = []) := by
    refine TCR.enter Tryz.func11 rfl (by simp [Tryz.ntmps11]) rfl (tw_sound (ρ := [39]) ?_)
    rw [Tryz.ntmps11]
    simp
    refine TWoH.callR (tcr_DrawLexRun b hb) callable_5 (by simp) ?_
    rintro r o ⟨d, w, hd, rfl, hw, rfl⟩
    refine ⟨rfl, by simp, .inl (by simp), fun q hq => ?_⟩
    clear hq
    have hs := hd.sm
    have hB := lexRun_B d w
    have hlen := lexRun_len d w
    have t1 := tc_sLexRunR d hs w
    have t2 := tc_sLexRun d hs w
    generalize lexRun d w = LA at *
    obtain ⟨L, a⟩ := LA
    simp only at t1 t2 hB hlen
    simp [encDfa]
    refine gall_intro fun c hc => ?_
    clear hc
    simp [encDfa]
    refine TWoH.callV t1 callable_7 (by simp [encDfa]) (by simp) (by simp) (by simp) ?_
    simp [encDfa]
    refine TWoH.call t2 callable_7 (by simp [encDfa]) (by simp) (by simp) fun k hk => ?_
    have fk := frF_ge hk [c] (by simp)
    clear hk
    simp [frF] at fk
    have k1 : (L.length + 1) * 24 ≤ 140737488355328 := by omega
    have k2 : L.length ≤ 9223372036854775806 := by omega
    simp [encDfa, fk]
    cases b with
    | nil =>
      simp [encDfa, fk]
      exact ⟨L, L, ⟨rfl, rfl⟩, hlen, fun a b c h => hB _ h, .inl rfl⟩
    | cons c0 b =>
      simp [encDfa, fk, encU]
      refine gif_intro (fun g => ?_) (fun g => ?_)
      · simp [encDfa, fk, k1, k2]
        refine gall_fresh [c, k] (by simp [fk]) fun e fe => ?_
        simp [frF] at fe
        simp [encDfa, fk, fe]
        have e0 : List.map encTok L ++ [[TV.val (Value.int IntKind.i64 1), TV.val (Value.int IntKind.i64 0), TV.val (Value.int IntKind.i64 0)]] = (L ++ [(1, 0, 0)]).map encTok := by simp [encTok]
        rw [e0]
        exact ⟨noHR_tok _, L, L ++ [(1, 0, 0)], ⟨rfl, rfl⟩, hlen, fun a b c h => hB _ h, .inr rfl⟩
      · simp [encDfa, fk]
        exact ⟨L, L, ⟨rfl, rfl⟩, hlen, fun a b c h => hB _ h, .inl rfl⟩
  have h1 := h0.frz
  refine h1.mono ?_
  rintro r o ⟨r0, ⟨x, y, rfl, h2, h3, h4, rfl⟩, rfl⟩
  exact ⟨x, y, by simp [toRo, roL], h2, h3, h4, rfl⟩
theorem tc_FnLexSame (b : List UInt8) : TC Tryz.prog 4 [.ro (b.map encU)] [] (.val (.bool true)) [] := by
  refine TC.enter Tryz.func4 rfl (by simp [Tryz.ntmps4]) rfl (tw_sound (ρ := []) ?_)
  rw [Tryz.ntmps4]
  by_cases hb0 : (1048576 : Int) < b.length
  · simp [hb0]
  have hb : b.length ≤ 1048576 := by omega
  simp [hb0]
  refine TWoH.callR (tcr_DrawLexSame b hb) callable_11 (by simp) ?_
  rintro r o ⟨x, y, rfl, hx, hxB, hxy, rfl⟩
  refine ⟨rfl, by simp, .inl (by simp), fun q hq => ?_⟩
  clear hq
  have hy : y.length ≤ 201 := by
    rcases hxy with rfl | rfl
    · omega
    · simp; omega
  have hyB : ∀ z ∈ y, tokB z := by
    rcases hxy with rfl | rfl
    · exact hxB
    · intro z hz
      rcases List.mem_append.1 hz with hz | hz
      · exact hxB z hz
      · simp only [List.mem_singleton] at hz
        subst hz
        exact ⟨⟨by decide, by decide⟩, ⟨by decide, by decide⟩, ⟨by decide, by decide⟩⟩
  have t1 := tc_iLexSame x y (by omega) (by omega)
  have t2 := tc_sLexSame x y (by omega) (by omega)
  have t3 := tc_iLexSame x x (by omega) (by omega)
  have t4 := tc_iLexText x (by omega) hxB
  have t5 := tc_iLexText y (by omega) hyB
  have hiff : (x = y) ↔ lexT x = lexT y := by
    rcases hxy with rfl | rfl
    · simp
    · exact ⟨fun e => by have := congrArg List.length e; simp at this, fun e => absurd e.symm lexT_more⟩
  have hdec : bP (x = y) = decide (lexT x = lexT y) := by
    by_cases c : x = y
    · rw [bP_pos c]; simp [hiff.1 c]
    · rw [bP_neg c]; have : ¬ lexT x = lexT y := fun e => c (hiff.2 e)
      simp [this]
  generalize hQ : bP (x = y) = Q at *
  simp
  refine TWoH.callV t1 callable_8 (by simp) (by simp) (by simp) (by simp) ?_
  simp
  refine TWoH.callV t2 callable_12 (by simp) (by simp) (by simp) (by simp) ?_
  simp
  refine TWoH.callV t3 callable_8 (by simp) (by simp) (by simp) (by simp) ?_
  simp [bP]
  refine TWoH.callV t1 callable_8 (by simp) (by simp) (by simp) (by simp) ?_
  simp
  refine TWoH.callV t4 callable_9 (by simp) (by simp) (by simp) (by simp) ?_
  simp
  refine TWoH.callV t5 callable_9 (by simp) (by simp) (by simp) (by simp) ?_
  simp [hdec]
  refine TWoH.callR (tcr_DrawLexRun b hb) callable_5 (by simp) ?_
  rintro r o ⟨d, w, hd, rfl, hw, rfl⟩
  refine ⟨rfl, by simp, .inl (by simp), fun q hq => ?_⟩
  clear hq
  have hs := hd.sm
  have s1 := tc_iLexRunR d hs w
  have s2 := tc_sDfaOk d hs
  have hto := lexRun_to d w
  have hlen := lexRun_len d w
  have hrun : (lexRun d w = ([], 0) ∧ ¬ (dfaOk d = true ∧ w.length ≤ 200)) ∨ ((dfaOk d = true ∧ w.length ≤ 200) ∧ toksG (lexAtF d w) w.length 0 = lexRun d w) := by
    unfold lexRun
    split
    · rename_i h; exact .inr ⟨h, rfl⟩
    · rename_i h; exact .inl ⟨rfl, h⟩
  have s3 := tc_iLexAt d hs w ((lexRun d w).2 : Int)
  have hlast : (lexRun d w).1 = [] ∨ ∃ z, (lexRun d w).1.getLast? = some z ∧ z.2.2 = (lexRun d w).2 := by
    rcases hrun with ⟨e, _⟩ | ⟨_, e⟩
    · rw [e]; exact .inl rfl
    · rw [← e]; exact (toks_fin w.length 0 (by omega)).2
  have hstop : dfaOk d = true ∧ w.length ≤ 200 → (lexRun d w).2 < w.length → lexAtI d w ((lexRun d w).2 : Int) = (-1, ((lexRun d w).2 : Int)) := by
    intro ok hlt
    rcases hrun with ⟨_, e⟩ | ⟨_, e⟩
    · exact absurd ok e
    · have hf := (toks_fin (g := lexAtF d w) (n := w.length) w.length 0 (by omega)).1
      rw [e] at hf
      have hok := lexAt_ok (d := d) (t := w) (p := (lexRun d w).2) (by omega)
      have hneg : (lexAtF d w (lexRun d w).2).1 < 0 := by
        apply Classical.byContradiction
        intro c
        exact hf ⟨hlt, by omega, hok.1 (by omega)⟩
      unfold lexAtI
      rw [if_pos ⟨ok.1, ok.2, by omega, by omega⟩, Int.toNat_natCast, lexAtF_none hneg]
  generalize lexRun d w = LA at *
  obtain ⟨L, a⟩ := LA
  simp only at s1 s3 hto hlen hlast hstop hrun
  simp [encDfa]
  refine gall_intro fun c hc => ?_
  clear hc
  simp [encDfa]
  refine TWoH.callV s1 callable_6 (by simp [encDfa]) (by simp) (by simp) (by simp) ?_
  simp [encDfa]
  have fin : L = [] ∨ ∃ (k : Nat) (z : Tok), L.length = k + 1 ∧ (∀ h, L[k]'h = z) ∧ z.2.2 = a := by
    rcases hlast with h | ⟨z, h1, h2⟩
    · exact .inl h
    · cases hL : L with
      | nil => rw [hL] at h1; cases h1
      | cons x l =>
        refine .inr ⟨l.length, z, rfl, fun h => ?_, h2⟩
        rw [hL, List.getLast?_eq_getElem?] at h1
        simp at h1
        rw [List.getElem_eq_iff]
        simpa using h1
  refine gif_intro (fun g1 => ?_) (fun g1 => ?_)
  · simp [encDfa, g1]
    rcases fin with rfl | ⟨k, z, hk, hz, hza⟩
    · refine gif_intro (fun _ => ?_) (fun h => absurd rfl h)
      simp [encDfa, g1]
    · have q1 : IntKind.i64.wrap ((k : Int) + 1 - 1) = k := by rw [wrapi (by omega)]; omega
      have q2 : ¬ (k : Int) + 1 = 0 := by omega
      have q6 : IntKind.i64.wrap (k : Int) = k := wrapi (by omega)
      have q5 : ¬ L = [] := fun e => by rw [e] at hk; simp at hk
      have q3 : k < L.length := by omega
      have q4 : (k : Int) < k + 1 := by omega
      simp [encDfa, g1, hk, hz, q1, q2, q3, q4, q5, q6, encTok, hza]
  · simp [encDfa, g1]
    refine TWoH.callV s2 callable_13 (by simp [encDfa]) (by simp) (by simp) (by simp) ?_
    by_cases ok : dfaOk d = true
    · by_cases wl : (200 : Int) < w.length
      · simp [encDfa, g1, ok, wl]
        rcases fin with rfl | ⟨k, z, hk, hz, hza⟩
        · refine gif_intro (fun _ => ?_) (fun h => absurd rfl h)
          simp [encDfa, g1]
        · have q1 : IntKind.i64.wrap ((k : Int) + 1 - 1) = k := by rw [wrapi (by omega)]; omega
          have q2 : ¬ (k : Int) + 1 = 0 := by omega
          have q6 : IntKind.i64.wrap (k : Int) = k := wrapi (by omega)
          have q5 : ¬ L = [] := fun e => by rw [e] at hk; simp at hk
          have q3 : k < L.length := by omega
          have q4 : (k : Int) < k + 1 := by omega
          simp [encDfa, g1, hk, hz, q1, q2, q3, q4, q5, q6, encTok, hza]
      · have h5 := hstop ⟨ok, by omega⟩ (by omega)
        rw [h5] at s3
        simp [encDfa, g1, ok, wl]
        refine TWoH.callV s3 callable_14 (by simp [encDfa]) (by simp) (by simp) (by simp) ?_
        simp [encDfa]
    · simp [encDfa, g1, ok]
      rcases fin with rfl | ⟨k, z, hk, hz, hza⟩
      · refine gif_intro (fun _ => ?_) (fun h => absurd rfl h)
        simp [encDfa, g1]
      · have q1 : IntKind.i64.wrap ((k : Int) + 1 - 1) = k := by rw [wrapi (by omega)]; omega
        have q2 : ¬ (k : Int) + 1 = 0 := by omega
        have q6 : IntKind.i64.wrap (k : Int) = k := wrapi (by omega)
        have q5 : ¬ L = [] := fun e => by rw [e] at hk; simp at hk
        have q3 : k < L.length := by omega
        have q4 : (k : Int) < k + 1 := by omega
        simp [encDfa, g1, hk, hz, q1, q2, q3, q4, q5, q6, encTok, hza]
end Go.Proofs.YtibeeohnjabhkaaGreatDoor.R
