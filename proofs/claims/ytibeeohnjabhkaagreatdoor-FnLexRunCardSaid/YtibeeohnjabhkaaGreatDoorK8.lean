/- Part 8: what the walk of the code stands on. Conditions: none but those that each theorem states. -/
import Derived.Test.YtibeeohnjabhkaaGreatDoorK7
open Go Go.Proofs.YtibeeohnjabhkaaGreatDoor.T
namespace Go.Proofs.YtibeeohnjabhkaaGreatDoor.R
set_option linter.unusedSimpArgs false
set_option linter.unusedVariables false
theorem szN_ok {n : Nat} {left : Int} (hn : n ≤ 1152921504606846976) (h0 : 0 ≤ left) (h1 : left ≤ 1048576) (h : ¬ szN n left < 0) : (n : Int) ≤ left ∧ szN n left = left - n := by
  have hw : IntKind.i64.wrap (left - n) = left - n := wrapi (by omega)
  unfold szN at h ⊢
  rw [hw] at h ⊢
  split at h
  · exact absurd h (by omega)
  · rename_i h2
    rw [if_neg h2]
    omega
def BSpan (x : Int × Int) : Prop := (Lit.int .i64 x.1).wf = true ∧ (Lit.int .i64 x.2).wf = true
def BRule (r : Rule) : Prop := r.name.length ≤ 1152921504606846976 ∧ Small r.rex
def BRules (l : List Rule) : Prop := l.length ≤ 1152921504606846976 ∧ ∀ r ∈ l, BRule r
end Go.Proofs.YtibeeohnjabhkaaGreatDoor.R

open Go Go.Proofs.YtibeeohnjabhkaaGreatDoor.T
namespace Go.Proofs.YtibeeohnjabhkaaGreatDoor.R
set_option maxHeartbeats 4000000
set_option maxRecDepth 100000
set_option linter.unusedSimpArgs false
set_option linter.unusedVariables false
attribute [local simp] bsV bsRows chunk fillT partsT appV makeV rowsOf cellsOf placeOf

theorem rdIntS (n : Nat) : RdT Tryz.prog n 25 (fun l : List Int => [.ro (l.map encI)]) (fun l => l.length ≤ 1152921504606846976) := by
  refine ((RdT.slice (b := 8) (RdT.int n Tryz.underlying3) Tryz.underlying25 (by kernel_rfl)).le (Nat.le_succ n)).imp fun x hx => ?_
  have hr : reachBytes = 140737488351232 := rfl
  have := hx.1
  omega
theorem rdIntSS (n : Nat) : RdT Tryz.prog n 24 (fun l : List (List Int) => [.ro (l.map encR)]) (fun l => l.length ≤ 1152921504606846976 ∧ ∀ x ∈ l, x.length ≤ 1152921504606846976) := by
  refine ((RdT.slice (b := 24) (rdIntS n) Tryz.underlying24 (by kernel_rfl)).le (Nat.le_succ n)).imp fun x hx => ⟨?_, hx.2⟩
  have hr : reachBytes = 140737488351232 := rfl
  have := hx.1
  omega
def liveR (d : Dfa) (bl : List Bool) : Prop := if dfaOk d = true then IsLive d bl else bl = []
theorem liveR_ex (d : Dfa) : ∃ bl, liveR d bl := by
  by_cases h : dfaOk d = true
  · obtain ⟨bl, hb⟩ := isLive_ex d; exact ⟨bl, by simp [liveR, h, hb]⟩
  · exact ⟨[], by simp [liveR, h]⟩
theorem liveR_len {d : Dfa} {bl : List Bool} (h : liveR d bl) : bl.length ≤ 40 := by
  unfold liveR at h
  split at h
  · rename_i h1; have := h.len; have := (dok_of h1).most; omega
  · subst h; simp
end Go.Proofs.YtibeeohnjabhkaaGreatDoor.R

open Go Go.Proofs.YtibeeohnjabhkaaGreatDoor.T
namespace Go.Proofs.YtibeeohnjabhkaaGreatDoor.R
set_option maxHeartbeats 4000000
set_option maxRecDepth 100000
set_option linter.unusedSimpArgs false
set_option linter.unusedVariables false
attribute [local simp] bsV bsRows chunk fillT partsT appV makeV rowsOf cellsOf placeOf

def toksG (g : Nat → Int × Nat) (n : Nat) (p : Nat) : List Tok × Nat :=
  if h : p < n ∧ 0 ≤ (g p).1 ∧ p < (g p).2 then (((g p).1, (p : Int), ((g p).2 : Int)) :: (toksG g n (g p).2).1, (toksG g n (g p).2).2) else ([], p)
termination_by n - p
theorem toksG_end {g : Nat → Int × Nat} {n p : Nat} (h : ¬ (p < n ∧ 0 ≤ (g p).1 ∧ p < (g p).2)) : toksG g n p = ([], p) := by
  rw [toksG, dif_neg h]
theorem toksG_next {g : Nat → Int × Nat} {n p : Nat} (h : p < n) (h1 : 0 ≤ (g p).1) (h2 : p < (g p).2) : toksG g n p = (((g p).1, (p : Int), ((g p).2 : Int)) :: (toksG g n (g p).2).1, (toksG g n (g p).2).2) := by
  rw [toksG, dif_pos ⟨h, h1, h2⟩]
theorem toksG_len {g : Nat → Int × Nat} {n : Nat} : ∀ (m p : Nat), n - p ≤ m → (toksG g n p).1.length ≤ n - p
  | 0, p, hm => by rw [toksG_end (by omega)]; simp
  | m + 1, p, hm => by
    by_cases h : p < n ∧ 0 ≤ (g p).1 ∧ p < (g p).2
    · rw [toksG_next h.1 h.2.1 h.2.2]
      have := toksG_len (g := g) (n := n) m (g p).2 (by omega)
      simp only [List.length_cons]; omega
    · rw [toksG_end h]; simp
def lexRun (d : Dfa) (t : List UInt8) : List Tok × Nat := if dfaOk d = true ∧ t.length ≤ 200 then toksG (lexAtF d t) t.length 0 else ([], 0)
theorem lexRun_len (d : Dfa) (t : List UInt8) : (lexRun d t).1.length ≤ 200 := by
  unfold lexRun
  split
  · rename_i h
    have := toksG_len (g := lexAtF d t) (n := t.length) t.length 0 (by omega)
    omega
  · simp
theorem tc_sLexRun (d : Dfa) (hs : DSm d) (t : List UInt8) : TC Tryz.prog 7 [.agg (encDfa d), .val (.string (bs t))] [] (.tup [.own 36 ((lexRun d t).1.map encTok), .val (.int .i64 (lexRun d t).2)]) [] := by
  refine TC.enter Tryz.func7 rfl (by simp [Tryz.ntmps7]) rfl (tw_sound (ρ := [2]) ?_)
  rw [Tryz.ntmps7]
  simp
  refine gall_intro fun id hid => ?_
  simp
  refine TWoH.callV (tc_sDfaOk d hs) callable_13 (by simp) (by simp) (by simp) (by simp) ?_
  simp
  refine gif_intro (fun c1 => ?_) (fun c1 => ?_) <;> simp [c1]
  case refine_2 => simp [lexRun, c1]
  refine gif_intro (fun c2 => ?_) (fun c2 => ?_) <;> simp [c2]
  · have : ¬ t.length ≤ 200 := by omega
    simp [lexRun, this]
  have c2' : t.length ≤ 200 := by omega
  have ho := dok_of c1
  have hr : lexRun d t = toksG (lexAtF d t) t.length 0 := by simp [lexRun, c1, c2']
  rw [hr]
  refine TWcH.loop [40] (fun m' s => ∃ p acc id, p + m' = t.length ∧ s.σ 1 = .val (.string (bs t)) ∧ s.σ 2 = .rptr (encDfa d) 0 ∧ s.σ 6 = .hd id ∧ s.H id = some (.own 36 (acc.map encTok)) ∧ s.σ 7 = .val (.int .i64 (p : Nat)) ∧
    acc.length ≤ p ∧ toksG (lexAtF d t) t.length 0 = (acc ++ (toksG (lexAtF d t) t.length p).1, (toksG (lexAtF d t) t.length p).2)) t.length ⟨0, [], id, by simp⟩ ?_
  rintro m' ⟨σ, H⟩ ⟨p, acc, id, hpm, h1, h2, h6, hH, h7, hal, hh⟩
  simp only at h1 h2 h6 h7 hH
  by_cases hp : p < t.length
  · obtain ⟨hb1, hb2, hb3⟩ := lexAt_ok (d := d) (t := t) (Nat.le_of_lt hp)
    simp [h1, h2, h6, h7, hH, hp]
    refine TWoH.callV (tc_sL9At d hs ho t p c2' (Nat.le_of_lt hp)) callable_20 (by simp [h1, h2, h7]) (by simp) (by simp) (by simp) ?_
    simp [h1, h2, h6, h7, hH, hp]
    refine gif_intro (fun c3 => ?_) (fun c3 => ?_) <;> simp [h1, h2, h6, h7, hH, hp, c3]
    · rw [toksG_end (p := p) (by omega)] at hh
      simp [hh]
    · have c4 := hb1 (by omega)
      rw [toksG_next (p := p) hp (by omega) c4] at hh
      have k1 : (acc.length + 1) * 24 ≤ 140737488355328 := by omega
      have k2 : acc.length ≤ 9223372036854775806 := by omega
      simp [h1, h2, h6, h7, hH, hp, k1, k2]
      refine gall_intro fun id' hid' => ?_
      simp [h1, h2, h6, h7, hH, hp]
      exact ⟨t.length - (lexAtF d t p).2, by omega, (lexAtF d t p).2, by omega, acc ++ [((lexAtF d t p).1, (p : Int), ((lexAtF d t p).2 : Int))], by simp [encTok], rfl, by simp; omega, by rw [hh]; simp⟩
  · rw [toksG_end (p := p) (by omega)] at hh
    simp [h1, h2, h6, h7, hH, hp, hh]
theorem tc_iLexRun (d : Dfa) (hs : DSm d) (t : List UInt8) : TC Tryz.prog 6 [.agg (encDfa d), .val (.string (bs t))] [] (.tup [.own 36 ((lexRun d t).1.map encTok), .val (.int .i64 (lexRun d t).2)]) [] := by
  refine TC.enter Tryz.func6 rfl (by simp [Tryz.ntmps6]) rfl (TWc.postT (tw_sound (ρ := [2]) ?_))
  rw [Tryz.ntmps6]
  simp
  refine TWoH.callV (tc_iDfaOk d hs) callable_16 (by simp) (by simp) (by simp) (by simp) ?_
  simp
  refine gif_intro (fun c1 => ?_) (fun c1 => ?_) <;> simp [c1]
  case refine_2 =>
    refine Turn.nil 4 36 (by simp) fun id hid => ?_
    simp [lexRun, c1]
  refine gif_intro (fun c2 => ?_) (fun c2 => ?_) <;> simp [c2]
  · refine Turn.nil 4 36 (by simp) fun id hid => ?_
    have : ¬ t.length ≤ 200 := by omega
    simp [lexRun, this]
  have c2' : t.length ≤ 200 := by omega
  have ho := dok_of c1
  have hr : lexRun d t = toksG (lexAtF d t) t.length 0 := by simp [lexRun, c1, c2']
  rw [hr]
  have htab : TC Tryz.prog 17 [.agg (encDfa d)] [] (.ro (tabR d.rows.length (nextF d))) [] := by
    have := (tc_table d hs ho).frz
    simpa using this
  refine TWoH.callV htab callable_17 (by simp) (by simp) (by simp) (by simp) ?_
  simp
  refine TWcH.turn (Turn.nil 7 36 (by simp) fun id hid => ?_)
  refine TWcH.loop [40] (fun m' s => ∃ p acc id, p + m' = t.length ∧ s.σ 1 = .val (.string (bs t)) ∧ s.σ 2 = .rptr (encDfa d) 0 ∧ s.σ 6 = .ro (tabR d.rows.length (nextF d)) ∧ s.σ 7 = .hd id ∧ s.H id = some (.own 36 (acc.map encTok)) ∧ s.σ 8 = .val (.int .i64 (p : Nat)) ∧
    acc.length ≤ p ∧ toksG (lexAtF d t) t.length 0 = (acc ++ (toksG (lexAtF d t) t.length p).1, (toksG (lexAtF d t) t.length p).2)) t.length ⟨0, [], id, by simp⟩ ?_
  rintro m' ⟨σ, H⟩ ⟨p, acc, id, hpm, h1, h2, h6, h7, hH, h8, hal, hh⟩
  simp only at h1 h2 h6 h7 h8 hH
  by_cases hp : p < t.length
  · obtain ⟨hb1, hb2, hb3⟩ := lexAt_ok (d := d) (t := t) (Nat.le_of_lt hp)
    simp [h1, h2, h6, h7, h8, hH, hp]
    refine TWoH.callV (tc_iLexAt0 d hs ho t p c2' (Nat.le_of_lt hp)) callable_18 (by simp [h1, h2, h6, h8]) (by simp) (by simp) (by simp) ?_
    simp [h1, h2, h6, h7, h8, hH, hp]
    refine gif_intro (fun c3 => ?_) (fun c3 => ?_) <;> simp [h1, h2, h6, h7, h8, hH, hp, c3]
    · rw [toksG_end (p := p) (by omega)] at hh
      refine TWoH.call (tc_copiedTok acc (by omega)) callable_19 (by simp [h7, hH]) (by simp) (by simp) fun k hk => ?_
      simp [h8, hh]
      exact Turn.same (by simp)
    · have c4 := hb1 (by omega)
      rw [toksG_next (p := p) hp (by omega) c4] at hh
      have k1 : (acc.length + 1) * 24 ≤ 140737488355328 := by omega
      have k2 : acc.length ≤ 9223372036854775806 := by omega
      simp [h1, h2, h6, h7, h8, hH, hp, k1, k2]
      refine gall_intro fun id' hid' => ?_
      simp [h1, h2, h6, h7, h8, hH, hp]
      exact ⟨t.length - (lexAtF d t p).2, by omega, (lexAtF d t p).2, by omega, acc ++ [((lexAtF d t p).1, (p : Int), ((lexAtF d t p).2 : Int))], by simp [encTok], rfl, by simp; omega, by rw [hh]; simp⟩
  · rw [toksG_end (p := p) (by omega)] at hh
    simp [h1, h2, h6, h7, h8, hH, hp]
    refine TWoH.call (tc_copiedTok acc (by omega)) callable_19 (by simp [h7, hH]) (by simp) (by simp) fun k hk => ?_
    simp [h8, hh]
    exact Turn.same (by simp)
end Go.Proofs.YtibeeohnjabhkaaGreatDoor.R

open Go Go.Proofs.YtibeeohnjabhkaaGreatDoor.T
namespace Go.Proofs.YtibeeohnjabhkaaGreatDoor.R
set_option maxHeartbeats 8000000
set_option maxRecDepth 100000
set_option linter.unusedSimpArgs false
set_option linter.unusedVariables false
attribute [local simp] bsV bsRows chunk fillT partsT appV makeV rowsOf cellsOf placeOf frzT frz1
theorem tcr_l15Many (u : List UInt8) (n0 : Nat) (hn : n0 ≤ 101) (hu : u.length = 2) : TCR Tryz.prog 31 [.val (.string (bs u)), .val (.int .i64 n0)] [] (fun r o => ∃ w : List UInt8, r = .val (.string (bs w)) ∧ w.length ≤ 202 ∧ o = []) := by
  refine TCR.enter Tryz.func31 rfl (by simp [Tryz.ntmps31]) rfl (tw_sound (ρ := []) ?_)
  rw [Tryz.ntmps31]
  simp
  refine TWcH.loop [] (fun m st => ∃ (s w : List UInt8), m ≤ 101 ∧ w.length + s.length * m ≤ 202 ∧ s.length ≤ 404 ∧ st.σ 0 = .val (.string (bs s)) ∧ st.σ 1 = .val (.int .i64 m) ∧ st.σ 5 = .val (.string (bs w))) n0 ⟨u, [], by omega, by rw [hu]; simp; omega, by omega, by simp⟩ ?_
  rintro m ⟨σ, H⟩ ⟨s, w, hm, hL, hsl, h0, h1, h5⟩
  simp only at h0 h1 h5
  by_cases hz : 0 < m
  · have e2 : Int.tmod (m : Int) 2 = (m % 2 : Nat) := by
      rw [Int.tmod_eq_emod_of_nonneg (by omega)]; omega
    have e3 : Int.tdiv (m : Int) 2 = (m / 2 : Nat) := by
      rw [Int.tdiv_eq_ediv_of_nonneg (by omega)]; omega
    have hw2 : IntKind.i64.wrap ((m / 2 : Nat) : Int) = (m / 2 : Nat) := wrapi (by omega)
    have hmul : s.length ≤ s.length * m := Nat.le_mul_of_pos_right _ hz
    have hsplit : s.length * m = s.length * (m / 2) + s.length * (m / 2) + s.length * (m % 2) := by
      rw [← Nat.mul_add, ← Nat.mul_add]; congr 1; omega
    have k1 : ¬ (9223372036854775807 : Int) < (s.length : Int) + s.length := by omega
    have k2 : ¬ (9223372036854775807 : Int) < (w.length : Int) + s.length := by omega
    rcases Nat.mod_two_eq_zero_or_one m with e | e
    · simp [h0, h1, h5, hz, e2, e, e3, hw2, k1, k2]
      refine ⟨m / 2, by omega, by omega, s ++ s, w, ?_, by rw [List.length_append]; omega, rfl, by rw [show (m : Int) / 2 = ((m / 2 : Nat) : Int) by omega]; exact hw2, rfl⟩
      rw [e] at hsplit
      simp only [List.length_append, Nat.add_mul]
      omega
    · simp [h0, h1, h5, hz, e2, e, e3, hw2, k1, k2]
      refine ⟨m / 2, by omega, by omega, s ++ s, w ++ s, ?_, by rw [List.length_append]; omega, rfl, by rw [show (m : Int) / 2 = ((m / 2 : Nat) : Int) by omega]; exact hw2, rfl⟩
      rw [e] at hsplit
      simp only [List.length_append, Nat.add_mul]
      omega
  · obtain rfl : m = 0 := by omega
    simp [h0, h1, h5]
    exact ⟨w, rfl, by omega⟩
theorem tcr_DrawLexAt (b : List UInt8) (hb : b.length ≤ 1048576) : TCR Tryz.prog 15 [.ro (b.map encU)] [] (fun r o => ∃ (d : Dfa) (w : List UInt8) (t : Int), DB d ∧ r = .tup [.agg (encDfa d), .val (.string (bs w)), .val (.int .i64 t)] ∧ w.length ≤ 202 ∧ (-1 ≤ t ∧ t ≤ 300) ∧ o = []) := by
  refine TCR.enter Tryz.func15 rfl (by simp [Tryz.ntmps15]) rfl (tw_sound (ρ := []) ?_)
  rw [Tryz.ntmps15]
  simp
  refine gall_intro fun q2 g2 => ?_
  simp
  refine TWoH.call (tc_l15Open b hb) callable_27 (by simp) (by simp [rdr, ← List.map_take]) (by simp) fun q hq => ?_
  have l2 : q2 < q := over hq (t := .box 27 [.val (.slice none 0 0), .val (.slice none 0 0), .val (.slice none 0 0)]) (by simp)
  have fq : ¬ q = q2 ∧ ¬ q2 = q := by omega
  clear hq l2
  have hbt : (b.take 2000).length ≤ 2000 := by simp; omega
  simp [rdr, fq]
  refine TWoH.lendR [q] (tcr_l7BentR (b.take 2000) 0 hbt (by omega)) callable_28 (by simp [List.findIdx?_cons, fq]) (by simp [rdr, fq]) (by simp) (by simp) ?_
  rintro r o ⟨d, p1, hd, rfl, hp1, rfl⟩
  refine ⟨by simp [rdr], by simp, .inl (by simp [List.findIdx?_cons, fq]), fun q3 hq3 => ?_⟩
  clear hq3
  simp [fq, encDfa]
  refine gall_fresh [q2, q] (by simp [fq]) fun c fc => ?_
  simp [frF] at fc
  simp [fq, fc]
  refine TWoH.lendR [q] (tcr_l3Word (b.take 2000) p1 12 hbt (by omega) (by omega)) callable_29 (by simp [List.findIdx?_cons, fq, fc]) (by simp [fq, fc]) (by simp) (by simp) ?_
  rintro r o ⟨w0, p2, rfl, hw0, hwb, hp2, rfl⟩
  refine ⟨by simp [rdr], by simp, .inl (by simp [List.findIdx?_cons, fq, fc]), fun q4 hq4 => ?_⟩
  clear hq4
  simp [fq, fc]
  refine TWoH.lendR [q] (tcr_pick (b.take 2000) p2 20 hbt (by omega)) callable_30 (by simp [List.findIdx?_cons, fq, fc]) (by simp [fq, fc]) (by simp) (by simp) ?_
  rintro r o ⟨k1, rfl, k10, k11, rfl⟩
  refine ⟨by simp [rdr], by simp, .inl (by simp [List.findIdx?_cons, fq, fc]), fun q5 hq5 => ?_⟩
  clear hq5
  by_cases c1 : k1 = 0
  case' pos =>
    subst c1
    simp [fq, fc]
    refine gall_fresh [q2, q, c] (by simp [fq, fc]) fun i3 fi3 => ?_
    simp [frF] at fi3
    simp [fq, fc, fi3]
    refine TWoH.turn (Turn.freeze i3 (t := .own 3 (([100, 101] : List Int).map encI)) (by simp [encI, fq, fc, fi3]) ?_)
    refine TWoH.lendR [q] (tcr_num (b.take 2000) (p2 + 1) [100, 101] hbt (by omega) (by simp) (by simp)) callable_32 (by simp [List.findIdx?_cons, fq, fc, fi3, encI]) (by simp [fq, fc, fi3, del]) (by simp) (by simp) ?_
    rintro r o ⟨x, hx, rfl, rfl⟩
    refine ⟨by simp [rdr], by simp, .inl (by simp [List.findIdx?_cons, fq, fc, fi3]), fun q' hq => ?_⟩
    clear hq
    simp only [List.mem_cons, List.not_mem_nil, or_false] at hx
    obtain ⟨n, rfl⟩ : ∃ n : Nat, x = n := ⟨x.toNat, by omega⟩
    simp [fq, fc, fi3, del]
    refine TWoH.callR (tcr_l15Many [97, 98] n (by omega) rfl) callable_31 (by simp) ?_
    rintro r o ⟨w, rfl, hw, rfl⟩
    refine ⟨rfl, by simp, .inl (by simp), fun q6 hq6 => ?_⟩
    clear hq6
    simp [fq, fc, fi3, del]
    obtain ⟨p3, hp3⟩ : ∃ p3, p3 = p2 + 1 + 1 := ⟨_, rfl⟩
    rw [← hp3]
  case' neg =>
    obtain ⟨w, hwe⟩ : ∃ w, w = w0 := ⟨_, rfl⟩
    have hw : w.length ≤ 202 := by rw [hwe]; omega
    obtain ⟨p3, hp3⟩ : ∃ p3, p3 = p2 + 1 := ⟨_, rfl⟩
    rw [← hwe]
    simp [fq, fc, c1]
    rw [← hp3]
    have fi3 : True := trivial
  all_goals
    refine TWcH.midB (ρ := []) (fun st => ∃ (t : Int), (-1 ≤ t ∧ t ≤ 300) ∧ st.σ 2 = .pd q2 0 0 0 ∧ st.H q2 = some (.box 27 (encDfa d)) ∧ st.σ 3 = .val (.string (bs w)) ∧ st.σ 4 = .val (.int .i64 t))
      (.first 1 (.first 2 (.first 3 (.first 4 (.first 5 (.pick 0 (.pick 6 (.first 7 (.pick 8 (.first 9 (.first 10 .fin)) .fin)) .fin) (.pick 6 (.first 7 (.pick 0 (.pick 8 (.first 9 (.first 10 .fin)) .fin) .fin)) .fin))))))) mixed (by kernel_rfl) ?_ ?_
    case refine_2 =>
      rintro ⟨σ, H⟩ ⟨t, ht, h2, H2, h3, h4⟩
      simp only at h2 H2 h3 h4
      simp [h2, H2, h3, h4, encDfa]
      exact ⟨d, hd, w, t, ⟨⟨rfl, rfl, rfl⟩, rfl, rfl⟩, hw, by omega, by omega⟩
    have hwl : IntKind.i64.wrap ((w.length : Int) + 3) = w.length + 3 := wrapi (by omega)
    simp [fq, fc, fi3, hwl, del]
    refine And.intro ?_ ?_
  all_goals
    refine TWoH.lendR [q] (tcr_pick (b.take 2000) p3 (w.length + 3) hbt (by omega)) callable_30 (by simp [List.findIdx?_cons, fq, fc, fi3]) (by simp [fq, fc, fi3, del]) (by simp) (by simp) ?_
    rintro r o ⟨k3, rfl, k30, k31, rfl⟩
    refine ⟨by simp [rdr], by simp, .inl (by simp [List.findIdx?_cons, fq, fc]), fun q7 hq7 => ?_⟩
    clear hq7
    have hk3 := k31 (by omega)
    have hw3 : IntKind.i64.wrap (k3 - 1) = k3 - 1 := wrapi (by omega)
    simp [fq, fc, hw3, encDfa, fi3, del]
    omega
end Go.Proofs.YtibeeohnjabhkaaGreatDoor.R

open Go Go.Proofs.YtibeeohnjabhkaaGreatDoor.T
namespace Go.Proofs.YtibeeohnjabhkaaGreatDoor.R
set_option maxRecDepth 100000
set_option maxHeartbeats 4000000
set_option linter.unusedVariables false
def laysI_ren : Go.Shelf.Ren := ⟨fun | 171 => 22 | 243 => 36 | 246 => 48 | 283 => 55 | 284 => 56 | 285 => 57 | 286 => 58 | 129 => 70 | 317 => 69 | 318 => 71 | 319 => 72 | 320 => 73 | 337 => 88 | 338 => 89 | n => n, fun | 3 => 3 | 9 => 9 | 2 => 2 | 4 => 4 | 171 => 94 | 0 => 0 | 53 => 95 | 37 => 22 | 5 => 5 | 173 => 98 | 212 => 115 | 51 => 116 | 20 => 20 | 213 => 117 | 46 => 119 | 232 => 138 | 233 => 139 | n => n, fun | 17 => 0 | 18 => 2 | 19 => 3 | n => n⟩
theorem laysI : Go.Proofs.LaysM.n171 Tryz.prog laysI_ren :=
  { mixed := by kernel_rfl, f129 := Tryz.func70.trans (congrArg some (by kernel_rfl)), f171 := Tryz.func22.trans (congrArg some (by kernel_rfl)), f243 := Tryz.func36.trans (congrArg some (by kernel_rfl)), f246 := Tryz.func48.trans (congrArg some (by kernel_rfl)), f283 := Tryz.func55.trans (congrArg some (by kernel_rfl)), f284 := Tryz.func56.trans (congrArg some (by kernel_rfl)), f285 := Tryz.func57.trans (congrArg some (by kernel_rfl)), f286 := Tryz.func58.trans (congrArg some (by kernel_rfl)), f317 := Tryz.func69.trans (congrArg some (by kernel_rfl)), f318 := Tryz.func71.trans (congrArg some (by kernel_rfl)), f319 := Tryz.func72.trans (congrArg some (by kernel_rfl)), f320 := Tryz.func73.trans (congrArg some (by kernel_rfl)), f337 := Tryz.func88.trans (congrArg some (by kernel_rfl)), f338 := Tryz.func89.trans (congrArg some (by kernel_rfl)), t0 := Tryz.underlying0, a0 := Tryz.isAgg0, z0 := Tryz.sizeOf0, v0 := Tryz.zeroValue0, t2 := Tryz.underlying2, a2 := Tryz.isAgg2, z2 := Tryz.sizeOf2, v2 := Tryz.zeroValue2, t3 := Tryz.underlying3, a3 := Tryz.isAgg3, z3 := Tryz.sizeOf3, v3 := Tryz.zeroValue3, t4 := Tryz.underlying4, a4 := Tryz.isAgg4, z4 := Tryz.sizeOf4, v4 := Tryz.zeroValue4, t5 := Tryz.underlying5, a5 := Tryz.isAgg5, z5 := Tryz.sizeOf5, v5 := Tryz.zeroValue5, t9 := Tryz.underlying9, a9 := Tryz.isAgg9, z9 := Tryz.sizeOf9, v9 := Tryz.zeroValue9, t20 := Tryz.underlying20, a20 := Tryz.isAgg20, z20 := Tryz.sizeOf20, v20 := Tryz.zeroValue20, t37 := Tryz.underlying22, a37 := Tryz.isAgg22, z37 := Tryz.sizeOf22, v37 := Tryz.zeroValue22, t46 := Tryz.underlying119, a46 := Tryz.isAgg119, z46 := Tryz.sizeOf119, v46 := Tryz.zeroValue119, t51 := Tryz.underlying116, a51 := Tryz.isAgg116, z51 := Tryz.sizeOf116, v51 := Tryz.zeroValue116, t53 := Tryz.underlying95, a53 := Tryz.isAgg95, z53 := Tryz.sizeOf95, v53 := Tryz.zeroValue95, t171 := Tryz.underlying94, a171 := Tryz.isAgg94, z171 := Tryz.sizeOf94, v171 := Tryz.zeroValue94, t173 := Tryz.underlying98, a173 := Tryz.isAgg98, z173 := Tryz.sizeOf98, v173 := Tryz.zeroValue98, t212 := Tryz.underlying115, a212 := Tryz.isAgg115, z212 := Tryz.sizeOf115, v212 := Tryz.zeroValue115, t213 := Tryz.underlying117, a213 := Tryz.isAgg117, z213 := Tryz.sizeOf117, t232 := Tryz.underlying138, a232 := Tryz.isAgg138, z232 := Tryz.sizeOf138, v232 := Tryz.zeroValue138, t233 := Tryz.underlying139, a233 := Tryz.isAgg139, z233 := Tryz.sizeOf139, v233 := Tryz.zeroValue139, g17 := by kernel_rfl, g18 := by kernel_rfl, g19 := by kernel_rfl, i0 := by kernel_rfl, i2 := by kernel_rfl, i3 := by kernel_rfl, i4 := by kernel_rfl, i5 := by kernel_rfl, i9 := by kernel_rfl, i20 := by kernel_rfl, i37 := by kernel_rfl, i46 := by kernel_rfl, i51 := by kernel_rfl, i53 := by kernel_rfl, i171 := by kernel_rfl, i173 := by kernel_rfl, i212 := by kernel_rfl, i232 := by kernel_rfl, i233 := by kernel_rfl, m17 := by kernel_rfl, m18 := by kernel_rfl, m19 := by kernel_rfl }
def laysJ_ren : Go.Shelf.Ren := ⟨fun | 156 => 23 | 165 => 37 | 166 => 38 | 169 => 39 | 240 => 49 | 241 => 50 | 276 => 59 | 277 => 60 | n => n, fun | 31 => 49 | 9 => 9 | 3 => 3 | 4 => 4 | 0 => 0 | 20 => 20 | 72 => 72 | 76 => 76 | 70 => 70 | 37 => 22 | 75 => 75 | 127 => 86 | 164 => 100 | 5 => 5 | 80 => 78 | n => n, fun | n => n⟩
theorem laysJ : Go.Proofs.Lays.n156 Tryz.prog laysJ_ren :=
  { mixed := by kernel_rfl, f156 := Tryz.func23.trans (congrArg some (by kernel_rfl)), f165 := Tryz.func37.trans (congrArg some (by kernel_rfl)), f166 := Tryz.func38.trans (congrArg some (by kernel_rfl)), f169 := Tryz.func39.trans (congrArg some (by kernel_rfl)), f240 := Tryz.func49.trans (congrArg some (by kernel_rfl)), f241 := Tryz.func50.trans (congrArg some (by kernel_rfl)), f276 := Tryz.func59.trans (congrArg some (by kernel_rfl)), f277 := Tryz.func60.trans (congrArg some (by kernel_rfl)), t0 := Tryz.underlying0, a0 := Tryz.isAgg0, z0 := Tryz.sizeOf0, v0 := Tryz.zeroValue0, t3 := Tryz.underlying3, a3 := Tryz.isAgg3, z3 := Tryz.sizeOf3, v3 := Tryz.zeroValue3, t4 := Tryz.underlying4, a4 := Tryz.isAgg4, z4 := Tryz.sizeOf4, v4 := Tryz.zeroValue4, t9 := Tryz.underlying9, a9 := Tryz.isAgg9, z9 := Tryz.sizeOf9, v9 := Tryz.zeroValue9, t20 := Tryz.underlying20, a20 := Tryz.isAgg20, z20 := Tryz.sizeOf20, v20 := Tryz.zeroValue20, t31 := Tryz.underlying49, a31 := Tryz.isAgg49, z31 := Tryz.sizeOf49, v31 := Tryz.zeroValue49, t37 := Tryz.underlying22, a37 := Tryz.isAgg22, z37 := Tryz.sizeOf22, v37 := Tryz.zeroValue22, t70 := Tryz.underlying70, a70 := Tryz.isAgg70, z70 := Tryz.sizeOf70, v70 := Tryz.zeroValue70, t72 := Tryz.underlying72, a72 := Tryz.isAgg72, z72 := Tryz.sizeOf72, v72 := Tryz.zeroValue72, t75 := Tryz.underlying75, a75 := Tryz.isAgg75, z75 := Tryz.sizeOf75, v75 := Tryz.zeroValue75, t76 := Tryz.underlying76, a76 := Tryz.isAgg76, z76 := Tryz.sizeOf76, v76 := Tryz.zeroValue76, t127 := Tryz.underlying86, a127 := Tryz.isAgg86, z127 := Tryz.sizeOf86, v127 := Tryz.zeroValue86, t164 := Tryz.underlying100, a164 := Tryz.isAgg100, z164 := Tryz.sizeOf100, v164 := Tryz.zeroValue100 }
theorem extraJ : Builder.Extra Tryz.prog laysJ_ren :=
  { sizeBuilder := by kernel_rfl, liesBuilder := by kernel_rfl, t5 := Tryz.underlying5, a5 := Tryz.isAgg5, z5 := Tryz.sizeOf5, v5 := Tryz.zeroValue5, infoByte := by kernel_rfl, cellsByte := by kernel_rfl, sizeByte := by kernel_rfl, neB5 := by decide }
end Go.Proofs.YtibeeohnjabhkaaGreatDoor.R

open Go Go.Proofs.YtibeeohnjabhkaaGreatDoor.T
namespace Go.Proofs.YtibeeohnjabhkaaGreatDoor.R
set_option maxHeartbeats 4000000
set_option maxRecDepth 100000
set_option linter.unusedSimpArgs false
set_option linter.unusedVariables false
attribute [local simp] bsV bsRows chunk fillT partsT appV makeV rowsOf cellsOf placeOf
theorem tc_l15DecN (n : Nat) (hn : n ≤ 9223372036854775807) : TC Tryz.prog 24 [.val (.int .i64 n)] [] (.val (.string (bs (decF n)))) [] := by
  refine TC.enter Tryz.func24 rfl (by simp [Tryz.ntmps24]) rfl (tw_sound (ρ := []) ?_)
  rw [Tryz.ntmps24]
  have c1 : ¬ (n : Int) < -9223372036854775807 := by omega
  have c2 : ¬ (n : Int) < 0 := by omega
  simp [c1, c2]
  refine TWcH.loop [] (fun m st => ∃ out : List UInt8, m ≤ n ∧ decF n = decF m ++ out ∧ st.σ 0 = .val (.int .i64 m) ∧ st.σ 3 = .val (.string (bs out))) n ⟨[], by omega, by simp, by simp⟩ ?_
  rintro m ⟨σ, H⟩ ⟨out, hmn, he, h0, h3⟩
  simp only at h0 h3
  have hdl := decF_len 18 n (by omega)
  have hol : out.length ≤ 19 := by rw [he] at hdl; simp at hdl; omega
  have t1 : (m : Int).tmod 10 = ((m % 10 : Nat) : Int) := by rw [Int.tmod_eq_emod_of_nonneg (by omega)]; omega
  have t2 : (m : Int).tdiv 10 = ((m / 10 : Nat) : Int) := by rw [Int.tdiv_eq_ediv_of_nonneg (by omega)]; omega
  have t3 : IntKind.i64.wrap ((m / 10 : Nat) : Int) = ((m / 10 : Nat) : Int) := wrapi (by omega)
  have k1 : ¬ (9223372036854775807 : Int) < 1 + out.length := by omega
  by_cases c : 9 < m
  · have c' : (9 : Int) < m := by omega
    simp [h0, h3, c, c']
    refine gall_intro fun i g => ?_
    simp only [t1, t2, t3, dig_add (m % 10) (by omega)]
    simp [h0, h3, c, c', k1]
    exact ⟨m / 10, by omega, by omega, dig (m % 10) :: out, by rw [he, decF_big (by omega)]; simp, by rw [wrapi (by omega)]; omega, by unfold dig; rw [show (48 + (m : Int) % 10).toNat = 48 + m % 10 by omega]⟩
  · have c' : ¬ (9 : Int) < m := by omega
    simp [h0, h3, c, c']
    refine gall_intro fun i g => ?_
    simp only [dig_add m (by omega)]
    simp [h0, h3, c, c', k1]
    rw [he, decF_small (by omega)]
    unfold dig
    rw [show (48 + (m : Int)).toNat = 48 + m by omega]
    rfl
theorem decF_lib : ∀ n : Nat, decF n = Lib.decDigits n := by
  intro n
  induction n using Nat.strongRecOn with
  | ind n ih =>
    by_cases h : n < 10
    · rw [decF_small h, Lib.decDigits, dif_pos h]; rfl
    · rw [decF_big h, Lib.decDigits, dif_neg h, ih (n / 10) (by omega)]; rfl
theorem itoa_nat (n : Nat) : Lib.itoa n = decF n := by
  rw [decF_lib, Lib.itoa, if_neg (by omega)]; rfl
theorem itoa_neg {n : Int} (h : n < 0) : Lib.itoa n = 45 :: decF (-n).toNat := by
  rw [decF_lib, Lib.itoa, if_pos h, show n.natAbs = (-n).toNat by omega]
theorem itoa_len {n : Int} (h0 : -9223372036854775808 ≤ n) (h1 : n ≤ 9223372036854775807) : (Lib.itoa n).length ≤ 20 := by
  by_cases h : n < 0
  · rw [itoa_neg h]
    have := decF_len 18 (-n).toNat (by omega)
    simp; omega
  · obtain ⟨m, rfl⟩ : ∃ m : Nat, n = m := ⟨n.toNat, by omega⟩
    rw [itoa_nat]
    have := decF_len 18 m (by omega)
    omega
theorem decF_min : decF 9223372036854775808 = [57, 50, 50, 51, 51, 55, 50, 48, 51, 54, 56, 53, 52, 55, 55, 53, 56, 48, 56] := by
  have b : ∀ n : Nat, ¬ n < 10 → decF n = decF (n / 10) ++ [dig (n % 10)] := fun n h => decF_big h
  rw [b _ (by decide)]; simp only [Nat.reduceDiv, Nat.reduceMod]
  iterate 17 (rw [b _ (by decide)]; simp only [Nat.reduceDiv, Nat.reduceMod])
  rw [decF_small (by decide)]
  rfl
theorem tc_l15DecI (n : Int) (h0 : -9223372036854775808 ≤ n) (h1 : n ≤ 9223372036854775807) : TC Tryz.prog 24 [.val (.int .i64 n)] [] (.val (.string (bs (Lib.itoa n)))) [] := by
  by_cases c : n < 0
  · refine TC.enter Tryz.func24 rfl (by simp [Tryz.ntmps24]) rfl (tw_sound (ρ := []) ?_)
    rw [Tryz.ntmps24]
    rw [itoa_neg c]
    by_cases c2 : n < -9223372036854775807
    · obtain rfl : n = -9223372036854775808 := by omega
      have e : (-(-9223372036854775808 : Int)).toNat = 9223372036854775808 := by decide
      rw [e, decF_min]
      simp
    · have e : IntKind.i64.wrap (-n) = (((-n).toNat : Nat) : Int) := by rw [wrapi (by omega)]; omega
      have hl := decF_len 18 (-n).toNat (by omega)
      have k1 : ¬ (9223372036854775807 : Int) < 1 + (decF (-n).toNat).length := by omega
      simp [c, c2]
      rw [e]
      refine TWoH.callV (tc_l15DecN (-n).toNat (by omega)) callable_24 (by simp) (by simp) (by simp) (by simp) ?_
      simp [c, c2, k1]
  · obtain ⟨m, rfl⟩ : ∃ m : Nat, n = m := ⟨n.toNat, by omega⟩
    rw [itoa_nat]
    exact tc_l15DecN m (by omega)
theorem tc_strItoa (n : Int) (h0 : -9223372036854775808 ≤ n) (h1 : n ≤ 9223372036854775807) : TC Tryz.prog 22 [.val (.int .i64 n)] [] (.val (.string (bs (Lib.itoa n)))) [] := tc_Itoa_of laysI n h0 h1
theorem tc_strJoin (xs : List (List UInt8)) (sep : List UInt8) (hN : xs.length ≤ 140737488355328) (hlen : (Lib.join xs sep).length ≤ 140737488355328) : TC Tryz.prog 23 [.ro (xs.map encT), .val (.string (bs sep))] [] (.val (.string (bs (Lib.join xs sep)))) [] := tc_Join_of laysJ extraJ xs sep hN hlen
theorem join_snoc (sep : List UInt8) : ∀ (xs : List (List UInt8)) (x : List UInt8), Lib.join (xs ++ [x]) sep = if xs = [] then x else Lib.join xs sep ++ sep ++ x
  | [], x => by simp [Lib.join]
  | [y], x => by simp [Lib.join, List.intercalate, List.intersperse]
  | y :: z :: xs, x => by
    have ih := join_snoc sep (z :: xs) x
    rw [if_neg (by simp)] at ih ⊢
    have e : ∀ (a b : List UInt8) (l : List (List UInt8)), Lib.join (a :: b :: l) sep = a ++ sep ++ Lib.join (b :: l) sep := fun a b l => by simp [Lib.join, List.intercalate, List.intersperse]
    rw [List.cons_append, List.cons_append, e, e, ← List.cons_append, ih]
    simp
theorem join_len (sep : List UInt8) (N : Nat) : ∀ (xs : List (List UInt8)), (∀ x ∈ xs, x.length ≤ N) → (Lib.join xs sep).length ≤ (N + sep.length) * xs.length
  | [], _ => by simp [Lib.join]
  | [y], h => by have := h y (by simp); simp [Lib.join]; omega
  | y :: z :: xs, h => by
    have ih := join_len sep N (z :: xs) fun x hx => h x (by simp [hx])
    have h1 := h y (by simp)
    have e : Lib.join (y :: z :: xs) sep = y ++ sep ++ Lib.join (z :: xs) sep := by simp [Lib.join, List.intercalate, List.intersperse]
    rw [e, List.length_append, List.length_append, List.length_cons, Nat.mul_succ]
    omega
/-- A token as it is written. -/
def tokT (x : Tok) : List UInt8 := Lib.itoa x.1 ++ [58] ++ Lib.itoa x.2.1 ++ [45] ++ Lib.itoa x.2.2
def lexT (l : List Tok) : List UInt8 := Lib.join (l.map tokT) [32]
def i64 (n : Int) : Prop := -9223372036854775808 ≤ n ∧ n ≤ 9223372036854775807
def tokB (x : Tok) : Prop := i64 x.1 ∧ i64 x.2.1 ∧ i64 x.2.2
theorem tokT_len {x : Tok} (h : tokB x) : (tokT x).length ≤ 62 := by
  have h1 := itoa_len h.1.1 h.1.2
  have h2 := itoa_len h.2.1.1 h.2.1.2
  have h3 := itoa_len h.2.2.1 h.2.2.2
  simp [tokT]; omega
theorem lexT_len {l : List Tok} (h : ∀ x ∈ l, tokB x) : (lexT l).length ≤ 63 * l.length := by
  have := join_len [32] 62 (l.map tokT) fun x hx => by
    obtain ⟨y, hy, rfl⟩ := List.mem_map.1 hx
    exact tokT_len (h y hy)
  simpa [lexT] using this
theorem lexT_take {l : List Tok} {i : Nat} (hi : i < l.length) : lexT (l.take (i + 1)) = if i = 0 then tokT l[i] else lexT (l.take i) ++ [32] ++ tokT l[i] := by
  unfold lexT
  rw [List.take_succ_eq_append_getElem hi, List.map_append, List.map_cons, List.map_nil, join_snoc]
  by_cases c : i = 0
  · subst c; simp
  · rw [if_neg c, if_neg (by simp; exact ⟨c, fun e => by subst e; simp at hi⟩)]
theorem tc_sLexText (l : List Tok) (hl : l.length ≤ 1048576) (hb : ∀ x ∈ l, tokB x) : TC Tryz.prog 10 [.ro (l.map encTok)] [] (.val (.string (bs (lexT l)))) [] := by
  refine TC.enter Tryz.func10 rfl (by simp [Tryz.ntmps10]) rfl (tw_sound (ρ := []) ?_)
  rw [Tryz.ntmps10]
  simp
  refine TWcH.loop [] (fun m st => ∃ i : Nat, i + m = l.length ∧ st.σ 0 = .ro (l.map encTok) ∧ st.σ 3 = .val (.string (bs (lexT (l.take i)))) ∧ st.σ 4 = .val (.int .i64 i)) l.length ⟨0, by simp [lexT, Lib.join]⟩ ?_
  rintro m ⟨σ, H⟩ ⟨i, him, h0, h3, h4⟩
  simp only at h0 h3 h4
  by_cases hi : i < l.length
  · have hw : IntKind.i64.wrap ((i : Int) + 1) = i + 1 := wrapi (by omega)
    have hx := hb _ (List.getElem_mem hi)
    have htk := lexT_take hi
    have hlen := lexT_len (l := l.take i) fun x hx => hb x (List.mem_of_mem_take hx)
    have hmin : (l.take i).length ≤ 1048576 := by rw [List.length_take]; omega
    have d1 := tc_l15DecI l[i].1 hx.1.1 hx.1.2
    have d2 := tc_l15DecI l[i].2.1 hx.2.1.1 hx.2.1.2
    have d3 := tc_l15DecI l[i].2.2 hx.2.2.1 hx.2.2.2
    have e1 := itoa_len hx.1.1 hx.1.2
    have e2 := itoa_len hx.2.1.1 hx.2.1.2
    have e3 := itoa_len hx.2.2.1 hx.2.2.2
    obtain ⟨x, hxe⟩ : ∃ x, l[i] = x := ⟨_, rfl⟩
    have hpi : ∀ h, l[i]'h = x := fun _ => hxe
    rw [hxe] at d1 d2 d3 e1 e2 e3 htk
    generalize hA : lexT (l.take i) = A at *
    unfold tokT at htk
    generalize Lib.itoa x.1 = a1 at *
    generalize Lib.itoa x.2.1 = a2 at *
    generalize Lib.itoa x.2.2 = a3 at *
    have hAl : A.length ≤ 66060288 := by omega
    have K : ∀ z : Int, z ≤ 70000000 → (9223372036854775807 < z) = False := fun z hz => by simp; omega
    by_cases c : i = 0
    · subst c
      have hA0 : A = [] := by rw [← hA]; simp [lexT, Lib.join]
      subst hA0
      rw [if_pos rfl] at htk
      have hi0 : 0 < l.length := hi
      simp [h0, h3, h4, hi0]
      refine TWcH.regionD (ρ := []) [0, 1, 2, 3, 4, 5, 9, 10, 11, 12, 13, 17, 18, 19, 20, 21, 6, 7, 8, 14, 15, 16, 22, 23, 24] 25 mixed (by kernel_rfl) ?_
      simp [h0, h3, h4, hi0, hpi, encTok]
      refine TWqH.callV d1 callable_24 (by simp) (by simp) (by simp) (by simp) ?_
      simp [h0, h3, h4, hi0, hpi, encTok, hw]
      repeat (simp (disch := omega) only [K]; simp [h0, h3, h4, hi0, hpi, encTok, hw])
      refine TWqH.callV d2 callable_24 (by simp) (by simp) (by simp) (by simp) ?_
      simp [h0, h3, h4, hi0, hpi, encTok, hw]
      repeat (simp (disch := omega) only [K]; simp [h0, h3, h4, hi0, hpi, encTok, hw])
      refine TWqH.callV d3 callable_24 (by simp) (by simp) (by simp) (by simp) ?_
      simp [h0, h3, h4, hi0, hpi, encTok, hw]
      repeat (simp (disch := omega) only [K]; simp [h0, h3, h4, hi0, hpi, encTok, hw])
      exact ⟨m - 1, by omega, 1, by omega, by rw [htk]; simp, wrapi (by omega)⟩
    · have c' : (0 : Int) < i := by omega
      have c2 : 0 < i := by omega
      rw [if_neg c] at htk
      simp [h0, h3, h4, hi, c', c2, hw]
      repeat (simp (disch := omega) only [K]; simp [h0, h3, h4, hi, c', c2, hw])
      refine TWcH.regionD (ρ := []) [0, 1, 2, 3, 4, 5, 9, 10, 11, 12, 13, 17, 18, 19, 20, 21, 6, 7, 8, 14, 15, 16, 22, 23, 24] 25 mixed (by kernel_rfl) ?_
      simp [h0, h3, h4, hi, c', c2, hpi, encTok]
      refine TWqH.callV d1 callable_24 (by simp) (by simp) (by simp) (by simp) ?_
      simp [h0, h3, h4, hi, c', c2, hpi, encTok, hw]
      repeat (simp (disch := omega) only [K]; simp [h0, h3, h4, hi, c', c2, hpi, encTok, hw])
      refine TWqH.callV d2 callable_24 (by simp) (by simp) (by simp) (by simp) ?_
      simp [h0, h3, h4, hi, c', c2, hpi, encTok, hw]
      repeat (simp (disch := omega) only [K]; simp [h0, h3, h4, hi, c', c2, hpi, encTok, hw])
      refine TWqH.callV d3 callable_24 (by simp) (by simp) (by simp) (by simp) ?_
      simp [h0, h3, h4, hi, c', c2, hpi, encTok, hw]
      repeat (simp (disch := omega) only [K]; simp [h0, h3, h4, hi, c', c2, hpi, encTok, hw])
      exact ⟨m - 1, by omega, i + 1, by omega, by rw [htk]; simp, by omega⟩
  · obtain rfl : i = l.length := by omega
    simp [h0, h3, h4]
theorem tc_iLexText (l : List Tok) (hl : l.length ≤ 1048576) (hb : ∀ x ∈ l, tokB x) : TC Tryz.prog 9 [.ro (l.map encTok)] [] (.val (.string (bs (lexT l)))) [] := by
  refine TC.enter Tryz.func9 rfl (by simp [Tryz.ntmps9]) rfl (tw_sound (ρ := []) ?_)
  rw [Tryz.ntmps9]
  simp
  refine TWcH.turn (Turn.nil 3 9 (by simp) fun id hid => ?_)
  refine TWcH.loop [26] (fun m st => ∃ (i id : Nat) (R : List (List UInt8)), i + m = l.length ∧ R = (l.take i).map tokT ∧ st.σ 3 = .hd id ∧ st.H id = some (.own 9 (R.map encT)) ∧ st.σ 6 = .ro (l.map encTok) ∧ st.σ 7 = .val (.int .i64 l.length) ∧ st.σ 8 = .val (.int .i64 i)) l.length ⟨0, id, [], by simp⟩ ?_
  clear hid id
  rintro m ⟨σ, H⟩ ⟨i, id, R, him, hR, h3, hH, h6, h7, h8⟩
  simp only at h3 hH h6 h7 h8
  by_cases hi : i < l.length
  · have hw : IntKind.i64.wrap ((i : Int) + 1) = i + 1 := wrapi (by omega)
    have hx := hb _ (List.getElem_mem hi)
    have htk : R ++ [tokT l[i]] = (l.take (i + 1)).map tokT := by
      rw [hR, List.take_succ_eq_append_getElem hi, List.map_append]; rfl
    have hRl : R.length = i := by rw [hR]; simp; omega
    have d1 := tc_strItoa l[i].1 hx.1.1 hx.1.2
    have d2 := tc_strItoa l[i].2.1 hx.2.1.1 hx.2.1.2
    have d3 := tc_strItoa l[i].2.2 hx.2.2.1 hx.2.2.2
    have e1 := itoa_len hx.1.1 hx.1.2
    have e2 := itoa_len hx.2.1.1 hx.2.1.2
    have e3 := itoa_len hx.2.2.1 hx.2.2.2
    obtain ⟨x, hxe⟩ : ∃ x, l[i] = x := ⟨_, rfl⟩
    have hpi : ∀ h, l[i]'h = x := fun _ => hxe
    rw [hxe] at d1 d2 d3 e1 e2 e3 htk
    have hT : tokT x = Lib.itoa x.1 ++ [58] ++ Lib.itoa x.2.1 ++ [45] ++ Lib.itoa x.2.2 := rfl
    generalize Lib.itoa x.1 = a1 at *
    generalize Lib.itoa x.2.1 = a2 at *
    generalize Lib.itoa x.2.2 = a3 at *
    have K : ∀ z : Int, z ≤ 70000000 → (9223372036854775807 < z) = False := fun z hz => by simp; omega
    have k1 : (i + 1) * 16 ≤ 140737488355328 := by omega
    have k2 : i ≤ 9223372036854775806 := by omega
    simp [h3, hH, h6, h7, h8, hi, hpi]
    refine gall_fresh [id] (by simp [hH]) fun c fc => ?_
    simp [frF] at fc
    simp [h3, hH, h6, h7, h8, hi, hpi, fc, encTok]
    refine TWcH.regionD (ρ := [26]) [0, 1, 2, 5, 6, 10, 11, 3, 4, 7, 8, 9, 12, 13, 14, 15, 16] 17 mixed (by kernel_rfl) ?_
    simp [h3, hH, h6, h7, h8, hi, hpi, fc, encTok]
    refine TWqH.callV d1 callable_22 (by simp) (by simp) (by simp) (by simp) ?_
    simp [h3, hH, h6, h7, h8, hi, hpi, fc, encTok]
    repeat (simp (disch := omega) only [K]; simp [h3, hH, h6, h7, h8, hi, hpi, fc, encTok])
    refine TWqH.callV d2 callable_22 (by simp) (by simp) (by simp) (by simp) ?_
    simp [h3, hH, h6, h7, h8, hi, hpi, fc, encTok]
    repeat (simp (disch := omega) only [K]; simp [h3, hH, h6, h7, h8, hi, hpi, fc, encTok])
    refine TWqH.callV d3 callable_22 (by simp) (by simp) (by simp) (by simp) ?_
    simp [h3, hH, h6, h7, h8, hi, hpi, fc, encTok]
    repeat (simp (disch := omega) only [K]; simp [h3, hH, h6, h7, h8, hi, hpi, fc, encTok, hRl, k1, k2])
    refine gall_fresh [id, c] (by simp [fc, hH]) fun c2 fc2 => ?_
    simp [frF] at fc2
    simp [h3, hH, h6, h7, h8, hi, hpi, fc, fc2, encTok, hw]
    refine ⟨m - 1, by omega, i + 1, by omega, ?_, by omega⟩
    rw [← List.map_take, ← List.map_map, ← htk, hT]; simp [encT]
  · obtain rfl : i = l.length := by omega
    rw [List.take_length] at hR
    have hRl : R.length = l.length := by rw [hR]; simp
    have hj := lexT_len hb
    simp [h3, hH, h6, h7, h8]
    refine TWoH.callV (tc_strJoin R [32] (by omega) (by unfold lexT at hj; rw [hR]; omega)) callable_23 (by simp [h3, hH]) (by simp) (by simp) (by simp) ?_
    simp [lexT, hR]
end Go.Proofs.YtibeeohnjabhkaaGreatDoor.R

open Go Go.Proofs.YtibeeohnjabhkaaGreatDoor.T
namespace Go.Proofs.YtibeeohnjabhkaaGreatDoor.R
set_option maxHeartbeats 8000000
set_option maxRecDepth 100000
set_option linter.unusedSimpArgs false
set_option linter.unusedVariables false
attribute [local simp] bsV bsRows chunk fillT partsT appV makeV rowsOf cellsOf placeOf frzT frz1
theorem lexGo_shift {d : Dfa} (e : Nat) : ∀ (w : List UInt8) (s i : Nat) (r : Int) (to : Nat), lexGo d w s (i + e) r (to + e) = ((lexGo d w s i r to).1, (lexGo d w s i r to).2 + e)
  | [], s, i, r, to => rfl
  | c :: w, s, i, r, to => by
    unfold lexGo
    split
    · rfl
    · split
      · rw [show i + e + 1 = i + 1 + e by omega]; exact lexGo_shift e w _ _ _ _
      · rw [show i + e + 1 = i + 1 + e by omega]; exact lexGo_shift e w _ _ _ _
theorem lexAtF_shift {d : Dfa} {t : List UInt8} {e p : Nat} : lexAtF d t (p + e) = ((lexAtF d (t.drop e) p).1, (lexAtF d (t.drop e) p).2 + e) := by
  unfold lexAtF
  rw [List.drop_drop, Nat.add_comm e p]
  exact lexGo_shift e _ 0 p (-1) p
theorem toksG_shift {f g : Nat → Int × Nat} {n m e : Nat} (hn : n = m + e) (h : ∀ p, f (p + e) = ((g p).1, (g p).2 + e)) : ∀ k p, m - p ≤ k → (toksG f n (p + e)).1.length = (toksG g m p).1.length ∧ (toksG f n (p + e)).2 = (toksG g m p).2 + e
  | 0, p, hk => by
    rw [toksG_end (g := f) (by omega), toksG_end (g := g) (by omega)]; exact ⟨rfl, rfl⟩
  | k + 1, p, hk => by
    by_cases c : p < m ∧ 0 ≤ (g p).1 ∧ p < (g p).2
    · have hf := h p
      have h1 : (f (p + e)).1 = (g p).1 := by rw [hf]
      have h2 : (f (p + e)).2 = (g p).2 + e := by rw [hf]
      rw [toksG_next c.1 c.2.1 c.2.2, toksG_next (g := f) (by omega) (by omega) (by omega), h2]
      have ih := toksG_shift hn h k (g p).2 (by omega)
      exact ⟨by simp only [List.length_cons]; rw [ih.1], ih.2⟩
    · have hf := h p
      have h1 : (f (p + e)).1 = (g p).1 := by rw [hf]
      have h2 : (f (p + e)).2 = (g p).2 + e := by rw [hf]
      rw [toksG_end c, toksG_end (g := f) (by omega)]; exact ⟨rfl, rfl⟩
theorem toks_step {g : Nat → Int × Nat} {n e i a : Nat} {L : List Tok} (h : toksG g n e = (L.drop i, a)) (hi : i < L.length) : e < n ∧ 0 ≤ (g e).1 ∧ e < (g e).2 ∧ L[i] = ((g e).1, (e : Int), ((g e).2 : Int)) ∧ toksG g n (g e).2 = (L.drop (i + 1), a) := by
  by_cases c : e < n ∧ 0 ≤ (g e).1 ∧ e < (g e).2
  · rw [toksG_next c.1 c.2.1 c.2.2, List.drop_eq_getElem_cons hi] at h
    injection h with h1 h2
    injection h1 with h3 h4
    exact ⟨c.1, c.2.1, c.2.2, h3.symm, by rw [← h4, ← h2]⟩
  · rw [toksG_end c, List.drop_eq_getElem_cons hi] at h
    injection h with h1 h2
    cases h1
theorem toks_stop {g : Nat → Int × Nat} {n e a : Nat} (h : toksG g n e = ([], a)) : a = e := by
  by_cases c : e < n ∧ 0 ≤ (g e).1 ∧ e < (g e).2
  · rw [toksG_next c.1 c.2.1 c.2.2] at h
    injection h with h1 h2
    cases h1
  · rw [toksG_end c] at h
    injection h with h1 h2
    exact h2.symm
theorem toks_le {g : Nat → Int × Nat} {n : Nat} (hg : ∀ p, p ≤ n → (g p).2 ≤ n) : ∀ k p, n - p ≤ k → p ≤ n → (toksG g n p).2 ≤ n
  | 0, p, hk, hp => by rw [toksG_end (by omega)]; exact hp
  | k + 1, p, hk, hp => by
    by_cases c : p < n ∧ 0 ≤ (g p).1 ∧ p < (g p).2
    · rw [toksG_next c.1 c.2.1 c.2.2]
      exact toks_le hg k (g p).2 (by omega) (hg p hp)
    · rw [toksG_end c]; exact hp
theorem lexGo_hi {d : Dfa} (ho : DOk d) : ∀ (w : List UInt8) (s i : Nat) (r : Int) (to : Nat), s < d.rows.length → r < 5 → (lexGo d w s i r to).1 < 5
  | [], s, i, r, to, _, hr => hr
  | c :: w, s, i, r, to, hs, hr => by
    have hn := next_ok ho (s := s) (b := c.toNat) hs
    unfold lexGo
    split
    · exact hr
    · split
      · exact lexGo_hi ho w _ _ _ _ (by omega) (ho.high _ (by omega))
      · exact lexGo_hi ho w _ _ _ _ (by omega) hr
theorem toks_B {g : Nat → Int × Nat} {n : Nat} (hn : n ≤ 1000) (hg : ∀ p, p ≤ n → (g p).2 ≤ n ∧ (g p).1 < 5) : ∀ k p, n - p ≤ k → p ≤ n → ∀ x ∈ (toksG g n p).1, tokB x
  | 0, p, hk, hp => by rw [toksG_end (by omega)]; intro x hx; cases hx
  | k + 1, p, hk, hp => by
    by_cases c : p < n ∧ 0 ≤ (g p).1 ∧ p < (g p).2
    · rw [toksG_next c.1 c.2.1 c.2.2]
      intro x hx
      have h1 := hg p hp
      rcases List.mem_cons.1 hx with rfl | hx
      · refine ⟨⟨?_, ?_⟩, ⟨?_, ?_⟩, ⟨?_, ?_⟩⟩ <;> dsimp only <;> omega
      · exact toks_B hn hg k (g p).2 (by omega) h1.1 x hx
    · rw [toksG_end c]; intro x hx; cases hx
theorem lexAtF_hi {d : Dfa} (ho : DOk d) {t : List UInt8} {p : Nat} : (lexAtF d t p).1 < 5 := by
  have h1 := ho.one
  exact lexGo_hi ho _ 0 p (-1) p (by omega) (by omega)
theorem lexRun_B (d : Dfa) (t : List UInt8) : ∀ x ∈ (lexRun d t).1, tokB x := by
  unfold lexRun
  split
  · rename_i h
    have ho := dok_of h.1
    exact toks_B (by omega) (fun p hp => ⟨(lexAt_ok hp).2.2, lexAtF_hi ho⟩) t.length 0 (by omega) (by omega)
  · intro x hx; cases hx
theorem lexRun_to (d : Dfa) (t : List UInt8) : (lexRun d t).2 ≤ t.length := by
  unfold lexRun
  split
  · exact toks_le (fun p hp => (lexAt_ok hp).2.2) t.length 0 (by omega) (by omega)
  · exact Nat.zero_le _
theorem tc_iLexRunR (d : Dfa) (hs : DSm d) (t : List UInt8) : TC Tryz.prog 6 [.agg (encDfa d), .val (.string (bs t))] [] (.tup [.ro ((lexRun d t).1.map encTok), .val (.int .i64 (lexRun d t).2)]) [] := by
  have := (tc_iLexRun d hs t).frz
  simpa using this
theorem tc_sLexRunR (d : Dfa) (hs : DSm d) (t : List UInt8) : TC Tryz.prog 7 [.agg (encDfa d), .val (.string (bs t))] [] (.tup [.ro ((lexRun d t).1.map encTok), .val (.int .i64 (lexRun d t).2)]) [] := by
  have := (tc_sLexRun d hs t).frz
  simpa using this
theorem tcr_DrawLexRun (b : List UInt8) (hb : b.length ≤ 1048576) : TCR Tryz.prog 5 [.ro (b.map encU)] [] (fun r o => ∃ (d : Dfa) (w : List UInt8), DB d ∧ r = .tup [.agg (encDfa d), .val (.string (bs w))] ∧ w.length ≤ 202 ∧ o = []) := by
  refine TCR.enter Tryz.func5 rfl (by simp [Tryz.ntmps5]) rfl (tw_sound (ρ := []) ?_)
  rw [Tryz.ntmps5]
  simp
  refine gall_intro fun c2 g2 => ?_
  simp
  refine TWoH.callR (tcr_DrawLexAt b hb) callable_15 (by simp) ?_
  rintro r o ⟨d, w, p, hd, rfl, hw, hp, rfl⟩
  refine ⟨rfl, by simp, .inl (by simp), fun q hq => ?_⟩
  clear hq g2
  simp [encDfa]
  refine gall_fresh [c2] (by simp) fun c4 f4 => ?_
  simp [frF] at f4
  simp [f4, encDfa]
  exact ⟨d, hd, w, by simp [encDfa], hw⟩
theorem tc_FnLexRun (b : List UInt8) : TC Tryz.prog 3 [.ro (b.map encU)] [] (.val (.bool true)) [] := by
  refine TC.enter Tryz.func3 rfl (by simp [Tryz.ntmps3]) rfl (tw_sound (ρ := []) ?_)
  rw [Tryz.ntmps3]
  by_cases hb0 : (1048576 : Int) < b.length
  · simp [hb0]
  have hb : b.length ≤ 1048576 := by omega
  simp [hb0]
  refine TWoH.callR (tcr_DrawLexRun b hb) callable_5 (by simp) ?_
  rintro r o ⟨d, w, hd, rfl, hw, rfl⟩
  refine ⟨rfl, by simp, .inl (by simp), fun q hq => ?_⟩
  clear hq
  have hs := hd.sm
  have t1 := tc_iLexRunR d hs w
  have t2 := tc_sLexRunR d hs w
  have hB := lexRun_B d w
  have hto := lexRun_to d w
  have hlen := lexRun_len d w
  have t3 := tc_iLexSame (lexRun d w).1 (lexRun d w).1 (by omega) (by omega)
  have t4 := tc_iLexText (lexRun d w).1 (by omega) hB
  have t5 := tc_sLexText (lexRun d w).1 (by omega) hB
  have hrun : lexRun d w = ([], 0) ∨ (dfaOk d = true ∧ w.length ≤ 200 ∧ toksG (lexAtF d w) w.length 0 = lexRun d w) := by
    unfold lexRun
    split
    · rename_i h; exact .inr ⟨h.1, h.2, rfl⟩
    · exact .inl rfl
  generalize hL : lexRun d w = LA at *
  obtain ⟨L, a⟩ := LA
  simp only at t1 t2 t3 t4 t5 hB hto hlen hrun
  simp [encDfa]
  refine gall_intro fun c hc => ?_
  clear hc
  simp [encDfa]
  refine TWoH.callV t1 callable_6 (by simp [encDfa]) (by simp) (by simp) (by simp) ?_
  simp [encDfa]
  refine TWoH.callV t2 callable_7 (by simp [encDfa]) (by simp) (by simp) (by simp) ?_
  simp [encDfa]
  refine TWoH.callV t3 callable_8 (by simp) (by simp) (by simp) (by simp) ?_
  simp [encDfa, bP]
  refine TWoH.callV t4 callable_9 (by simp) (by simp) (by simp) (by simp) ?_
  simp [encDfa]
  refine TWoH.callV t5 callable_10 (by simp) (by simp) (by simp) (by simp) ?_
  simp [encDfa]
  rcases hrun with hrun | ⟨ok, hwl, hrun⟩
  · injection hrun with e1 e2
    subst e1 e2
    refine TWcH.loop [] (fun m st => st.σ 5 = .ro [] ∧ st.σ 4 = .val (.string (bs w)) ∧ st.σ 6 = .val (.int .i64 0) ∧ st.σ 9 = .val (.int .i64 0) ∧ st.σ 10 = .val (.int .i64 0)) 0 (by simp) ?_
    rintro m ⟨σ, H⟩ ⟨h5, h4, h6, h9, h10⟩
    simp only at h5 h4 h6 h9 h10
    simp [h5, h4, h6, h9, h10]
  · refine TWcH.loop [] (fun m st => ∃ i e : Nat, i + m = L.length ∧ e ≤ w.length ∧ toksG (lexAtF d w) w.length e = (L.drop i, a) ∧ st.σ 3 = .pd c 0 0 0 ∧ st.H c = some (.box 27 (encDfa d)) ∧ st.σ 5 = .ro (L.map encTok) ∧ st.σ 4 = .val (.string (bs w)) ∧ st.σ 6 = .val (.int .i64 a) ∧ st.σ 9 = .val (.int .i64 e) ∧ st.σ 10 = .val (.int .i64 i)) L.length ⟨0, 0, by simp [hrun, encDfa]⟩ ?_
    rintro m ⟨σ, H⟩ ⟨i, e, him, hew, hT, h3, hC, h5, h4, h6, h9, h10⟩
    simp only [encDfa] at h3 hC h5 h4 h6 h9 h10
    by_cases hi : i < L.length
    · obtain ⟨s1, s2, s3, s4, s5⟩ := toks_step hT hi
      have hle := (lexAt_ok (d := d) (t := w) hew).2.2
      generalize (lexAtF d w e).2 = e2 at *
      generalize (lexAtF d w e).1 = rr at *
      have hpi : ∀ h, L[i]'h = (rr, (e : Int), (e2 : Int)) := fun _ => s4
      have hw10 : IntKind.i64.wrap ((i : Int) + 1) = i + 1 := wrapi (by omega)
      have n1 : ¬ (e2 : Int) ≤ e := by omega
      have n2 : ¬ rr < 0 := by omega
      have n3 : (e2 : Int) ≤ w.length := by omega
      have t6 := tc_iLexRunR d hs (w.drop e2)
      have hsh := toksG_shift (f := lexAtF d w) (g := lexAtF d (w.drop e2)) (n := w.length) (m := (w.drop e2).length) (e := e2) (by rw [List.length_drop]; omega) (fun p => lexAtF_shift) (w.drop e2).length 0 (by omega)
      have hr2 : lexRun d (w.drop e2) = toksG (lexAtF d (w.drop e2)) (w.drop e2).length 0 := by
        unfold lexRun; rw [if_pos ⟨ok, by rw [List.length_drop]; omega⟩]
      rw [← hr2, Nat.zero_add, s5] at hsh
      obtain ⟨g1, g2⟩ := hsh
      generalize lexRun d (w.drop e2) = LB at *
      obtain ⟨R, f⟩ := LB
      simp only [List.length_drop] at t6 g1 g2
      have hw0 : IntKind.i64.wrap (a : Int) = a := wrapi (by omega)
      have hw1 : IntKind.i64.wrap ((f : Int) + e2) = f + e2 := wrapi (by omega)
      have hw2 : IntKind.i64.wrap ((L.length : Int) - i) = L.length - i := wrapi (by omega)
      have hw3 : IntKind.i64.wrap ((L.length : Int) - i - 1) = L.length - i - 1 := wrapi (by omega)
      have g3 : (f : Int) + e2 = a := by omega
      have g4 : (R.length : Int) = L.length - i - 1 := by omega
      simp [h3, hC, h5, h4, h6, h9, h10, hi, hpi, encTok, n1, n2]
      refine TWcH.regionD (ρ := []) [0, 1, 2, 3, 4, 5, 6, 7, 8, 9] 10 mixed (by kernel_rfl) ?_
      simp [h3, hC, h5, h4, h6, h9, h10, hi, hpi, encTok, n1, n2, n3, hle]
      refine TWqH.callV t6 callable_6 (by simp [encDfa]) (by simp) (by simp) (by simp) ?_
      simp [h3, hC, h5, h4, h6, h9, h10, hi, hpi, encTok, n1, n2, n3, hw0, hw1, hw2, hw3, g3, g4, hw10]
      exact ⟨m - 1, by omega, i + 1, by omega, e2, hle, s5, rfl, rfl, by omega⟩
    · have e3 : L.drop i = [] := List.drop_eq_nil_of_le (by omega)
      rw [e3] at hT
      have e4 := toks_stop hT
      subst e4
      simp [h3, hC, h5, h4, h6, h9, h10, hi, hew]
end Go.Proofs.YtibeeohnjabhkaaGreatDoor.R
