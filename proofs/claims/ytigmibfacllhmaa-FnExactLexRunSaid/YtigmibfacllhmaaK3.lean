/- FnExactLexRun, part 3: for every input that can be read as data the law returns true and its arguments read as before. Conditions: none but those that each theorem states. -/
import Derived.Test.YtigmibfacllhmaaRows
import Derived.Test.YtigmibfacllhmaaK2
import Derived.Below
import Derived.Carry
import Derived.ChangeArms
import Derived.ChangeOld
import Derived.ChangeSlices
import Derived.DataReads
import Derived.Deep.Slices
import Derived.KernelRfl
import Derived.Laws.AppendOwn
import Derived.Laws.BytesString
import Derived.Laws.CopyRow
import Derived.Laws.MakeOwn
import Derived.Laws.OwnMore
import Derived.Laws.Rows
import Derived.Laws.Strings
import Derived.Laws.StructEq
import Derived.Maps.AppendAt
import Derived.OpenShut
import Derived.OrdersHeld
import Derived.ProofKit
import Derived.ShutString
import Derived.SizedLaws
import Derived.StillTail
import Derived.WalkKit
open Go Go.Proofs.Ytigmibfacllhmaa.T
namespace Go.Proofs.Ytigmibfacllhmaa.R
set_option maxHeartbeats 4000000
set_option maxRecDepth 100000
set_option linter.unusedSimpArgs false
set_option linter.unusedVariables false
attribute [local simp] bsV bsRows chunk fillT partsT appV makeV rowsOf cellsOf placeOf

def toksG (g : Nat → Int × Nat) (n : Nat) (p : Nat) : List Tok × Nat :=
  if h : p < n ∧ 0 ≤ (g p).1 ∧ p < (g p).2 then (((g p).1, (p : Int), ((g p).2 : Int)) :: (toksG g n (g p).2).1, (toksG g n (g p).2).2) else ([], p)
termination_by n - p
theorem toksG_end {g : Nat → Int × Nat} {n p : Nat} (h : ¬ (p < n ∧ 0 ≤ (g p).1 ∧ p < (g p).2)) : toksG g n p = ([], p) := by
  rw [toksG, dif_neg h]
theorem toksG_next {g : Nat → Int × Nat} {n p : Nat} (h : p < n) (h1 : 0 ≤ (g p).1) (h2 : p < (g p).2) : toksG g n p = (((g p).1, (p : Int), ((g p).2 : Int)) :: (toksG g n (g p).2).1, (toksG g n (g p).2).2) := by
  rw [toksG, dif_pos ⟨h, h1, h2⟩]
theorem toksG_len {g : Nat → Int × Nat} {n : Nat} : ∀ (m p : Nat), n - p ≤ m → (toksG g n p).1.length ≤ n - p
  | 0, p, hm => by rw [toksG_end (by omega)]; simp
  | m + 1, p, hm => by
    by_cases h : p < n ∧ 0 ≤ (g p).1 ∧ p < (g p).2
    · rw [toksG_next h.1 h.2.1 h.2.2]
      have := toksG_len (g := g) (n := n) m (g p).2 (by omega)
      simp only [List.length_cons]; omega
    · rw [toksG_end h]; simp
def lexRun (d : Dfa) (t : List UInt8) : List Tok × Nat := if dfaOk d = true ∧ t.length ≤ 200 then toksG (lexAtF d t) t.length 0 else ([], 0)
theorem lexRun_len (d : Dfa) (t : List UInt8) : (lexRun d t).1.length ≤ 200 := by
  unfold lexRun
  split
  · rename_i h
    have := toksG_len (g := lexAtF d t) (n := t.length) t.length 0 (by omega)
    omega
  · simp
theorem tc_sLexRun (d : Dfa) (hs : DSm d) (t : List UInt8) : TC Try.prog 35 [.agg (encDfa d), .val (.string (bs t))] [] (.tup [.own 108 ((lexRun d t).1.map encTok), .val (.int .i64 (lexRun d t).2)]) [] := by
  refine TC.enter Try.func35 rfl (by simp [Try.ntmps35]) rfl (tw_sound (ρ := [2]) ?_)
  rw [Try.ntmps35]
  simp
  refine gall_intro fun id hid => ?_
  simp
  refine TWoH.callV (tc_sDfaOk d hs) callable_54 (by simp) (by simp) (by simp) (by simp) ?_
  simp
  refine gif_intro (fun c1 => ?_) (fun c1 => ?_) <;> simp [c1]
  case refine_2 => simp [lexRun, c1]
  refine gif_intro (fun c2 => ?_) (fun c2 => ?_) <;> simp [c2]
  · have : ¬ t.length ≤ 200 := by omega
    simp [lexRun, this]
  have c2' : t.length ≤ 200 := by omega
  have ho := dok_of c1
  have hr : lexRun d t = toksG (lexAtF d t) t.length 0 := by simp [lexRun, c1, c2']
  rw [hr]
  refine TWcH.loop [40] (fun m' s => ∃ p acc id, p + m' = t.length ∧ s.σ 1 = .val (.string (bs t)) ∧ s.σ 2 = .rptr (encDfa d) 0 ∧ s.σ 6 = .hd id ∧ s.H id = some (.own 108 (acc.map encTok)) ∧ s.σ 7 = .val (.int .i64 (p : Nat)) ∧
    acc.length ≤ p ∧ toksG (lexAtF d t) t.length 0 = (acc ++ (toksG (lexAtF d t) t.length p).1, (toksG (lexAtF d t) t.length p).2)) t.length ⟨0, [], id, by simp⟩ ?_
  rintro m' ⟨σ, H⟩ ⟨p, acc, id, hpm, h1, h2, h6, hH, h7, hal, hh⟩
  simp only at h1 h2 h6 h7 hH
  by_cases hp : p < t.length
  · obtain ⟨hb1, hb2, hb3⟩ := lexAt_ok (d := d) (t := t) (Nat.le_of_lt hp)
    simp [h1, h2, h6, h7, hH, hp]
    refine TWoH.callV (tc_sL9At d hs ho t p c2' (Nat.le_of_lt hp)) callable_63 (by simp [h1, h2, h7]) (by simp) (by simp) (by simp) ?_
    simp [h1, h2, h6, h7, hH, hp]
    refine gif_intro (fun c3 => ?_) (fun c3 => ?_) <;> simp [h1, h2, h6, h7, hH, hp, c3]
    · rw [toksG_end (p := p) (by omega)] at hh
      simp [hh]
    · have c4 := hb1 (by omega)
      rw [toksG_next (p := p) hp (by omega) c4] at hh
      have k1 : (acc.length + 1) * 24 ≤ 140737488355328 := by omega
      have k2 : acc.length ≤ 9223372036854775806 := by omega
      simp [h1, h2, h6, h7, hH, hp, k1, k2]
      refine gall_intro fun id' hid' => ?_
      simp [h1, h2, h6, h7, hH, hp]
      exact ⟨t.length - (lexAtF d t p).2, by omega, (lexAtF d t p).2, by omega, acc ++ [((lexAtF d t p).1, (p : Int), ((lexAtF d t p).2 : Int))], by simp [encTok], rfl, by simp; omega, by rw [hh]; simp⟩
  · rw [toksG_end (p := p) (by omega)] at hh
    simp [h1, h2, h6, h7, hH, hp, hh]
theorem tc_iLexRun (d : Dfa) (hs : DSm d) (t : List UInt8) : TC Try.prog 36 [.agg (encDfa d), .val (.string (bs t))] [] (.tup [.own 108 ((lexRun d t).1.map encTok), .val (.int .i64 (lexRun d t).2)]) [] := by
  refine TC.enter Try.func36 rfl (by simp [Try.ntmps36]) rfl (TWc.postT (tw_sound (ρ := [2]) ?_))
  rw [Try.ntmps36]
  simp
  refine TWoH.callV (tc_iDfaOk d hs) callable_59 (by simp) (by simp) (by simp) (by simp) ?_
  simp
  refine gif_intro (fun c1 => ?_) (fun c1 => ?_) <;> simp [c1]
  case refine_2 =>
    refine Turn.nil 4 108 (by simp) fun id hid => ?_
    simp [lexRun, c1]
  refine gif_intro (fun c2 => ?_) (fun c2 => ?_) <;> simp [c2]
  · refine Turn.nil 4 108 (by simp) fun id hid => ?_
    have : ¬ t.length ≤ 200 := by omega
    simp [lexRun, this]
  have c2' : t.length ≤ 200 := by omega
  have ho := dok_of c1
  have hr : lexRun d t = toksG (lexAtF d t) t.length 0 := by simp [lexRun, c1, c2']
  rw [hr]
  have htab : TC Try.prog 60 [.agg (encDfa d)] [] (.ro (tabR d.rows.length (nextF d))) [] := by
    have := (tc_table d hs ho).frz
    simpa using this
  refine TWoH.callV htab callable_60 (by simp) (by simp) (by simp) (by simp) ?_
  simp
  refine TWcH.turn (Turn.nil 7 108 (by simp) fun id hid => ?_)
  refine TWcH.loop [40] (fun m' s => ∃ p acc id, p + m' = t.length ∧ s.σ 1 = .val (.string (bs t)) ∧ s.σ 2 = .rptr (encDfa d) 0 ∧ s.σ 6 = .ro (tabR d.rows.length (nextF d)) ∧ s.σ 7 = .hd id ∧ s.H id = some (.own 108 (acc.map encTok)) ∧ s.σ 8 = .val (.int .i64 (p : Nat)) ∧
    acc.length ≤ p ∧ toksG (lexAtF d t) t.length 0 = (acc ++ (toksG (lexAtF d t) t.length p).1, (toksG (lexAtF d t) t.length p).2)) t.length ⟨0, [], id, by simp⟩ ?_
  rintro m' ⟨σ, H⟩ ⟨p, acc, id, hpm, h1, h2, h6, h7, hH, h8, hal, hh⟩
  simp only at h1 h2 h6 h7 h8 hH
  by_cases hp : p < t.length
  · obtain ⟨hb1, hb2, hb3⟩ := lexAt_ok (d := d) (t := t) (Nat.le_of_lt hp)
    simp [h1, h2, h6, h7, h8, hH, hp]
    refine TWoH.callV (tc_iLexAt0 d hs ho t p c2' (Nat.le_of_lt hp)) callable_65 (by simp [h1, h2, h6, h8]) (by simp) (by simp) (by simp) ?_
    simp [h1, h2, h6, h7, h8, hH, hp]
    refine gif_intro (fun c3 => ?_) (fun c3 => ?_) <;> simp [h1, h2, h6, h7, h8, hH, hp, c3]
    · rw [toksG_end (p := p) (by omega)] at hh
      refine TWoH.call (tc_copiedTok acc (by omega)) callable_85 (by simp [h7, hH]) (by simp) (by simp) fun k hk => ?_
      simp [h8, hh]
      exact Turn.same (by simp)
    · have c4 := hb1 (by omega)
      rw [toksG_next (p := p) hp (by omega) c4] at hh
      have k1 : (acc.length + 1) * 24 ≤ 140737488355328 := by omega
      have k2 : acc.length ≤ 9223372036854775806 := by omega
      simp [h1, h2, h6, h7, h8, hH, hp, k1, k2]
      refine gall_intro fun id' hid' => ?_
      simp [h1, h2, h6, h7, h8, hH, hp]
      exact ⟨t.length - (lexAtF d t p).2, by omega, (lexAtF d t p).2, by omega, acc ++ [((lexAtF d t p).1, (p : Int), ((lexAtF d t p).2 : Int))], by simp [encTok], rfl, by simp; omega, by rw [hh]; simp⟩
  · rw [toksG_end (p := p) (by omega)] at hh
    simp [h1, h2, h6, h7, h8, hH, hp]
    refine TWoH.call (tc_copiedTok acc (by omega)) callable_85 (by simp [h7, hH]) (by simp) (by simp) fun k hk => ?_
    simp [h8, hh]
    exact Turn.same (by simp)
end Go.Proofs.Ytigmibfacllhmaa.R

open Go Go.Proofs.Ytigmibfacllhmaa.T
namespace Go.Proofs.Ytigmibfacllhmaa.R
set_option maxHeartbeats 4000000
set_option maxRecDepth 100000
set_option linter.unusedSimpArgs false
set_option linter.unusedVariables false
attribute [local simp] bsV bsRows chunk fillT partsT appV makeV rowsOf cellsOf placeOf
theorem tc_FnExactLexRun (d : Dfa) (t : List UInt8) (hB : BDfa d) : TC Try.prog 9 [.agg (encDfa d), .val (.string (bs t))] [] (.val (.bool true)) [] := by
  have hlen := lexRun_len d t
  refine TC.enter Try.func9 rfl (by simp [Try.ntmps9]) rfl (tw_sound (ρ := [2]) ?_)
  rw [Try.ntmps9]
  simp
  refine gif_intro (fun c1 => ?_) (fun c1 => ?_) <;> simp [c1]
  refine TWoH.callV (tc_szDfa d hB.parts hB.rows 1048576) callable_13 (by simp) (by simp) (by simp) (by simp) ?_
  simp
  refine gif_intro (fun c2 => ?_) (fun c2 => ?_) <;> simp [c2]
  obtain ⟨hs, hcost⟩ := DSm_of hB c2
  have hto := tc_toDfa d hs
  refine TWoH.callV hto callable_15 (by simp) (by simp) (by simp) (by simp) ?_
  simp
  refine TWoH.call (tc_sLexRun d hs t) callable_35 (by simp) (by simp) (by simp) fun w hw => ?_
  simp
  refine TWoH.call (tc_toDfaO d hs) callable_15 (by simp) (by simp) (by simp) fun x hx => ?_
  have nx := fresh_ne (i := w) hx (by simp) (Nat.le_refl _)
  have nx1 := fresh_ne (i := w) hx (by simp) (Nat.le_add_right _ 1)
  have nx2 := fresh_ne (i := w) hx (by simp) (Nat.le_add_right _ 2)
  have nx' : ¬ x = w := fun e => nx e.symm
  have nx1' : ¬ x + 1 = w := fun e => nx1 e.symm
  have nx2' : ¬ x + 2 = w := fun e => nx2 e.symm
  have e2 : x + 1 + 1 = x + 2 := rfl
  have n02 : ¬ x = x + 2 := by omega
  simp [oDfa]
  refine gall_intro fun a ha => ?_
  have haw' := ne_some (i := w) (by simp [nx, nx1, nx2, e2, n02]) ha
  have ha0' := ne_some (i := x) (by simp [nx, nx1, nx2, e2, n02]) ha
  have ha1' := ne_some (i := x + 1) (by simp [nx, nx1, nx2, e2, n02]) ha
  have ha2' := ne_some (i := x + 2) (by simp [nx, nx1, nx2, e2, n02]) ha
  have haw : ¬ a = w := fun e => haw' e.symm
  have ha0 : ¬ a = x := fun e => ha0' e.symm
  have ha1 : ¬ a = x + 1 := fun e => ha1' e.symm
  have ha2 : ¬ a = x + 2 := fun e => ha2' e.symm
  simp [nx, nx1, nx2, nx', nx1', nx2', e2, n02, ha2, ha1, ha0, haw, ha2', ha1', ha0', haw']
  refine TWoH.call (tc_iLexRun d hs t) callable_36 (by simp [nx, nx1, nx2, nx', nx1', nx2', e2, n02, ha2, ha1, ha0, haw, ha2', ha1', ha0', haw', encDfa]) (by simp) (by simp) fun g hg => ?_
  have gw' := fresh_ne (i := w) hg (by simp [nx, nx1, nx2, nx', nx1', nx2', e2, n02, ha2, ha1, ha0, haw, ha2', ha1', ha0', haw']) (Nat.le_refl _)
  have gx0' := fresh_ne (i := x) hg (by simp [nx, nx1, nx2, nx', nx1', nx2', e2, n02, ha2, ha1, ha0, haw, ha2', ha1', ha0', haw']) (Nat.le_refl _)
  have gx1' := fresh_ne (i := x + 1) hg (by simp [nx, nx1, nx2, nx', nx1', nx2', e2, n02, ha2, ha1, ha0, haw, ha2', ha1', ha0', haw']) (Nat.le_refl _)
  have gx2' := fresh_ne (i := x + 2) hg (by simp [nx, nx1, nx2, nx', nx1', nx2', e2, n02, ha2, ha1, ha0, haw, ha2', ha1', ha0', haw']) (Nat.le_refl _)
  have ga' := fresh_ne (i := a) hg (by simp [nx, nx1, nx2, nx', nx1', nx2', e2, n02, ha2, ha1, ha0, haw, ha2', ha1', ha0', haw']) (Nat.le_refl _)
  have gw : ¬ g = w := fun e => gw' e.symm
  have gx0 : ¬ g = x := fun e => gx0' e.symm
  have gx1 : ¬ g = x + 1 := fun e => gx1' e.symm
  have gx2 : ¬ g = x + 2 := fun e => gx2' e.symm
  have ga : ¬ g = a := fun e => ga' e.symm
  simp [nx, nx1, nx2, nx', nx1', nx2', e2, n02, ha2, ha1, ha0, haw, ha2', ha1', ha0', haw', gw, gx0, gx1, gx2, ga, gw', gx0', gx1', gx2', ga']
  have heq := tc_eqTokenS (lexRun d t).1 (by omega)
  refine TWoH.callV heq callable_37 (by simp [nx, nx1, nx2, nx', nx1', nx2', e2, n02, ha2, ha1, ha0, haw, ha2', ha1', ha0', haw', gw, gx0, gx1, gx2, ga, gw', gx0', gx1', gx2', ga']) (by simp) (by simp) (by simp) ?_
  simp [nx, nx1, nx2, nx', nx1', nx2', e2, n02, ha2, ha1, ha0, haw, ha2', ha1', ha0', haw', gw, gx0, gx1, gx2, ga, gw', gx0', gx1', gx2', ga']
  refine TWcH.regionD (ρ := []) [0, 1, 2, 3, 4] 5 mixed (by kernel_rfl) ?_
  simp [nx, nx1, nx2, nx', nx1', nx2', e2, n02, ha2, ha1, ha0, haw, ha2', ha1', ha0', haw', gw, gx0, gx1, gx2, ga, gw', gx0', gx1', gx2', ga']
  refine TWqH.callV hto callable_15 (by simp) (by simp) (by simp) (by simp) ?_
  simp [nx, nx1, nx2, nx', nx1', nx2', e2, n02, ha2, ha1, ha0, haw, ha2', ha1', ha0', haw', gw, gx0, gx1, gx2, ga, gw', gx0', gx1', gx2', ga']
  refine TWqH.callV (tc_eqDfa d hs) callable_17 (by simp [nx, nx1, nx2, nx', nx1', nx2', e2, n02, ha2, ha1, ha0, haw, ha2', ha1', ha0', haw', gw, gx0, gx1, gx2, ga, gw', gx0', gx1', gx2', ga', encDfa]) (by simp) (by simp) (by simp) ?_
  simp [nx, nx1, nx2, nx', nx1', nx2', e2, n02, ha2, ha1, ha0, haw, ha2', ha1', ha0', haw', gw, gx0, gx1, gx2, ga, gw', gx0', gx1', gx2', ga']
  refine TWoH.lendR [x, x + 1, x + 2] (tcr_markDfa d hs 1 (by omega) (by omega)) callable_32 (by simp [nx, nx1, nx2, nx', nx1', nx2', e2, n02, ha2, ha1, ha0, haw, ha2', ha1', ha0', haw', gw, gx0, gx1, gx2, ga, gw', gx0', gx1', gx2', ga', List.findIdx?_cons]) (by simp [nx, nx1, nx2, nx', nx1', nx2', e2, n02, ha2, ha1, ha0, haw, ha2', ha1', ha0', haw', gw, gx0, gx1, gx2, ga, gw', gx0', gx1', gx2', ga', oDfa]) (by simp) (by simp) ?_
  rintro r o ⟨rfl, d', rfl⟩
  refine ⟨by simp [oDfa], by simp, .inl (by simp [nx, nx1, nx2, nx', nx1', nx2', e2, n02, ha2, ha1, ha0, haw, ha2', ha1', ha0', haw', gw, gx0, gx1, gx2, ga, gw', gx0', gx1', gx2', ga', List.findIdx?_cons]), fun q hq => ?_⟩
  have b3 : ¬ (1 + (costD d : Int)) < 0 := by omega
  simp [nx, nx1, nx2, nx', nx1', nx2', e2, n02, ha2, ha1, ha0, haw, ha2', ha1', ha0', haw', gw, gx0, gx1, gx2, ga, gw', gx0', gx1', gx2', ga', oDfa, b3]
  refine TWoH.callV heq callable_37 (by simp [nx, nx1, nx2, nx', nx1', nx2', e2, n02, ha2, ha1, ha0, haw, ha2', ha1', ha0', haw', gw, gx0, gx1, gx2, ga, gw', gx0', gx1', gx2', ga']) (by simp) (by simp) (by simp) ?_
  simp [nx, nx1, nx2, nx', nx1', nx2', e2, n02, ha2, ha1, ha0, haw, ha2', ha1', ha0', haw', gw, gx0, gx1, gx2, ga, gw', gx0', gx1', gx2', ga']
  refine TWoH.lend [g] (tc_markTokenS (lexRun d t).1 1 (by omega) (by omega)) callable_38 (by simp) (by simp [nx, nx1, nx2, nx', nx1', nx2', e2, n02, ha2, ha1, ha0, haw, ha2', ha1', ha0', haw', gw, gx0, gx1, gx2, ga, gw', gx0', gx1', gx2', ga']) (by simp) (by simp) (by simp) (by simp) (.inl (by simp)) fun q hq => ?_
  simp [nx, nx1, nx2, nx', nx1', nx2', e2, n02, ha2, ha1, ha0, haw, ha2', ha1', ha0', haw', gw, gx0, gx1, gx2, ga, gw', gx0', gx1', gx2', ga']
  have hheld := tc_heldTokenS (lexRun d t).1.length 1 (by omega) (by omega)
  refine TWoH.callV hheld callable_39 (by simp [nx, nx1, nx2, nx', nx1', nx2', e2, n02, ha2, ha1, ha0, haw, ha2', ha1', ha0', haw', gw, gx0, gx1, gx2, ga, gw', gx0', gx1', gx2', ga']) (by simp) (by simp) (by simp) ?_
  have b4 : ¬ (1 + 3 * ((lexRun d t).1.length : Int)) < 0 := by omega
  simp [nx, nx1, nx2, nx', nx1', nx2', e2, n02, ha2, ha1, ha0, haw, ha2', ha1', ha0', haw', gw, gx0, gx1, gx2, ga, gw', gx0', gx1', gx2', ga', b4]
  refine TWoH.callV hto callable_15 (by simp) (by simp) (by simp) (by simp) ?_
  simp [nx, nx1, nx2, nx', nx1', nx2', e2, n02, ha2, ha1, ha0, haw, ha2', ha1', ha0', haw', gw, gx0, gx1, gx2, ga, gw', gx0', gx1', gx2', ga']
  refine TWoH.call (tc_iLexRun d hs t) callable_36 (by simp) (by simp) (by simp) fun h hh => ?_
  have hw' := fresh_ne (i := w) hh (by simp [nx, nx1, nx2, nx', nx1', nx2', e2, n02, ha2, ha1, ha0, haw, ha2', ha1', ha0', haw', gw, gx0, gx1, gx2, ga, gw', gx0', gx1', gx2', ga']) (Nat.le_refl _)
  have hg' := fresh_ne (i := g) hh (by simp [nx, nx1, nx2, nx', nx1', nx2', e2, n02, ha2, ha1, ha0, haw, ha2', ha1', ha0', haw', gw, gx0, gx1, gx2, ga, gw', gx0', gx1', gx2', ga']) (Nat.le_refl _)
  have hw_ : ¬ h = w := fun e => hw' e.symm
  have hg_ : ¬ h = g := fun e => hg' e.symm
  simp [nx, nx1, nx2, nx', nx1', nx2', e2, n02, ha2, ha1, ha0, haw, ha2', ha1', ha0', haw', gw, gx0, gx1, gx2, ga, gw', gx0', gx1', gx2', ga', hw', hg', hw_, hg_]
  refine TWoH.callV heq callable_37 (by simp [nx, nx1, nx2, nx', nx1', nx2', e2, n02, ha2, ha1, ha0, haw, ha2', ha1', ha0', haw', gw, gx0, gx1, gx2, ga, gw', gx0', gx1', gx2', ga', hw', hg', hw_, hg_]) (by simp) (by simp) (by simp) ?_
  simp [nx, nx1, nx2, nx', nx1', nx2', e2, n02, ha2, ha1, ha0, haw, ha2', ha1', ha0', haw', gw, gx0, gx1, gx2, ga, gw', gx0', gx1', gx2', ga', hw', hg', hw_, hg_]
  refine TWoH.callV hheld callable_39 (by simp [nx, nx1, nx2, nx', nx1', nx2', e2, n02, ha2, ha1, ha0, haw, ha2', ha1', ha0', haw', gw, gx0, gx1, gx2, ga, gw', gx0', gx1', gx2', ga', hw', hg', hw_, hg_]) (by simp) (by simp) (by simp) ?_
  simp [nx, nx1, nx2, nx', nx1', nx2', e2, n02, ha2, ha1, ha0, haw, ha2', ha1', ha0', haw', gw, gx0, gx1, gx2, ga, gw', gx0', gx1', gx2', ga', hw', hg', hw_, hg_, b4]
end Go.Proofs.Ytigmibfacllhmaa.R

namespace Go.Proofs.Ytigmibfacllhmaa.fnExactLexRun
open Go.Proofs.Ytigmibfacllhmaa.R Go.ChangeShapes Go.WideShapes Go.ChangeAt Go.RowKit Go.Proofs.Ytigmibfacllhmaa.T
open Go.ChangeMaps (open_string shut_string)
set_option linter.unusedVariables false
set_option linter.unusedSimpArgs false
theorem own : ownKnob Try.prog.godebug = none := by kernel_rfl
theorem laidOut : laidOutB Try.prog = true := by kernel_rfl
theorem repL_c {P : Program} {e : Env} {t : TV} {v : Value} {ts : List TV} {vs : List Value} (h : RepL P e [t] [v] noF) (h' : RepL P e ts vs noF) : RepL P e (t :: ts) (v :: vs) noF := by
  have := RepL.append h h' (fun b m m' x _ => x.elim)
  have en' : Uni noF noF = noF := by funext b m; simp [Uni, noF]
  rw [en'] at this
  exact this
set_option maxRecDepth 100000 in
theorem lifted (os : Os) (started : os.Started) (H : Type) (enc : TypeId × Value → H) :
    ReturnsInHanded {} Try.checked os 9 .any (Rows.fnExactLexRunSpec.pre6 enc Try.prog Try.f9 Rows.fnExactLexRunRow.domain false) (Rows.fnExactLexRunSpec.post enc Try.prog Try.f9 false true false false) := by
  refine returnsInHanded_of_change_sized (C := Try.checked) own started (by kernel_rfl) Try.func9
    (ChangeSpec.witness6 (enc := enc) (C := Try.checked) false ⟨#[], #[.agg #[.slice none 0 0, .slice none 0 0, .slice none 0 0], .string ByteArray.empty], []⟩ 8 (by kernel_rfl) (by kernel_rfl) (by kernel_rfl) (by kernel_rfl)) ?_
  intro W base args ds gs before hval0 hW hcnd hsz0 _
  have hsz : (DataW.weightsEach Try.prog (Try.f9.params.toList ++ Rows.fnExactLexRunSpec.plain.varTypes Try.prog) (ds ++ gs)).all (· ≤ reachBytes) = true := hsz0
  have hval : ∀ (j : Nat) t v, Try.f9.params[j]? = some t → args[j]? = some v → Value.okWide Try.prog W .any base t v := hval0
  have hW' := hW
  obtain ⟨p, q, hA0, hV, rfl, hfz, hnd⟩ := hW
  have hA : DataW.TrodAll enc Try.prog W 0 (fun _ => true) true Try.f9.params.toList args.toList ds p := hA0
  rw [Try.params9] at hA hval hsz
  obtain ⟨v0, vs0, d0, ds0, p0, q0, hargs, rfl, rfl, h0, r0⟩ := trodAll_cons hA
  obtain ⟨v1, vs1, d1, ds1, p1, q1, rfl, rfl, rfl, h1, r1⟩ := trodAll_cons r0
  obtain ⟨rfl, rfl, rfl⟩ := trodAll_nil r1
  obtain rfl : args = #[v0, v1] := by cases args; simp_all
  obtain ⟨rfl, rfl⟩ := trodVars_none hV
  have z0 : ∀ q ∈ d0.weights Try.prog 26, q ≤ reachBytes := fun q hq => by simpa using List.all_eq_true.1 hsz q (DataW.weights_mem_each (j := 0) rfl rfl q hq)
  have k0 := h0
  have lt0 : ∀ x ∈ p0, x.block < W.heap.size := by obtain ⟨m, hm⟩ := k0; exact DataW.trod_lt m _ _ _ hm
  obtain ⟨x0, hx0, y0⟩ := RdT.arg (fun n => rdDfa n) h0 z0
  obtain ⟨cs0, rfl, hcs0⟩ := okWide_struct Try.underlying26 (hval 0 26 v0 rfl rfl)
  obtain ⟨a1, rfl, rfl, rfl, y1⟩ := open_string Try.underlying9 (hval 1 9 v1 rfl rfl) h1
  clear hA0 hval0 hsz0 hsz
  have g0 : RepL Try.prog (eW W) [.agg (encDfa x0)] [.agg cs0] noF := repL_one.2 (by simp only [Rep]; exact ⟨cs0.toList, by simp, by simpa [Value.cells] using hx0, RepL.ones (by simpa [Value.cells] using hx0) (by simp)⟩)
  have g1 : RepL Try.prog (eW W) [.val (.string (bs a1.data.toList))] [.string a1] noF := repL_one.2 (by rw [← bs_eq]; simp [Rep, emp_noF])
  refine ((tc_FnExactLexRun x0 a1.data.toList y0).law (repL_c g0 g1)).mono fun e W' ⟨he, bel⟩ => ?_
  subst he
  exact ⟨_, rfl, _, _, _, [], _, [], hW', trodAll_mk1 (shut_bool Try.underlying4 _), (trodAll_cons_mk (Below.trod laidOut (by kernel_rfl) (of_decide_eq_true (by kernel_rfl)) k0 bel lt0) (trodAll_cons_mk (shut_string Try.underlying9 y1) trodAll_mk0)), rfl, bel.frame _, fun h => by cases h⟩
theorem over : Rows.fnExactLexRunRow.holds Try.pinned (OpenSpec.ofChange Rows.fnExactLexRunSpec) :=
  OpenClaim.holds_of_wide 9 Try.f9 rfl rfl rfl rfl rfl rfl rfl ⟨rfl, rfl, rfl, rfl, rfl⟩ rfl rfl rfl rfl rfl (by kernel_rfl) Try.func9 (by kernel_rfl)
    (of_decide_eq_true (by kernel_rfl)) (by unfold Func.isWrapper; first | (rw [if_pos (by decide +kernel)]; kernel_rfl) | (rw [if_neg (by decide +kernel)]; exact ⟨rfl, rfl⟩))
    (fun os started H enc _ => lifted os started H enc)
theorem proved : Rows.FnExactLexRunSaid := over
end Go.Proofs.Ytigmibfacllhmaa.fnExactLexRun
namespace Go.Proofs.Ytigmibfacllhmaa
theorem fnExactLexRun_holds : Rows.FnExactLexRunSaid := fnExactLexRun.proved
end Go.Proofs.Ytigmibfacllhmaa
