/- FnExactLeastTwo, part 3: for every input that can be read as data the law returns true and its arguments read as before. Conditions: none but those that each theorem states. -/
import Derived.Test.YtigmibfacllhmaaRows
import Derived.Test.YtigmibfacllhmaaK2
import Derived.Below
import Derived.Carry
import Derived.ChangeArms
import Derived.ChangeOld
import Derived.ChangeSlices
import Derived.DataReads
import Derived.Deep.Slices
import Derived.DeepKeys3
import Derived.KernelRfl
import Derived.Laws.AppendOwn
import Derived.Laws.BytesString
import Derived.Laws.CopyRow
import Derived.Laws.MakeOwn
import Derived.Laws.OwnMore
import Derived.Laws.Rows
import Derived.Laws.Strings
import Derived.Laws.StructEq
import Derived.MapKept
import Derived.Maps.AppendAt
import Derived.OpenShut
import Derived.OrdersHeld
import Derived.ProofKit
import Derived.ShutString
import Derived.SizedLaws
import Derived.StillTail
import Derived.WalkKit
open Go Go.Proofs.Ytigmibfacllhmaa.T
namespace Go.Proofs.Ytigmibfacllhmaa.R
set_option maxHeartbeats 4000000
set_option maxRecDepth 100000
set_option linter.unusedSimpArgs false
set_option linter.unusedVariables false
attribute [local simp] bsV bsRows chunk fillT partsT appV makeV rowsOf cellsOf placeOf

theorem rdIntS (n : Nat) : RdT Try.prog n 24 (fun l : List Int => [.ro (l.map encI)]) (fun l => l.length ≤ 1152921504606846976) := by
  refine ((RdT.slice (b := 8) (RdT.int n Try.underlying3) Try.underlying24 (by kernel_rfl)).le (Nat.le_succ n)).imp fun x hx => ?_
  have hr : reachBytes = 140737488351232 := rfl
  have := hx.1
  omega
theorem rdIntSS (n : Nat) : RdT Try.prog n 23 (fun l : List (List Int) => [.ro (l.map encR)]) (fun l => l.length ≤ 1152921504606846976 ∧ ∀ x ∈ l, x.length ≤ 1152921504606846976) := by
  refine ((RdT.slice (b := 24) (rdIntS n) Try.underlying23 (by kernel_rfl)).le (Nat.le_succ n)).imp fun x hx => ⟨?_, hx.2⟩
  have hr : reachBytes = 140737488351232 := rfl
  have := hx.1
  omega
theorem rdSpanS (n : Nat) : RdT Try.prog n 90 (fun l : List (Int × Int) => [.ro (l.map encS)]) (fun l => l.length ≤ 1152921504606846976) := by
  refine ((RdT.slice (b := 16) (rdSpan n) Try.underlying90 (by kernel_rfl)).le (Nat.le_succ n)).imp fun x hx => ?_
  have hr : reachBytes = 140737488351232 := rfl
  have := hx.1
  omega
theorem rdSpanSS (n : Nat) : RdT Try.prog n 22 (fun l : List (List (Int × Int)) => [.ro (l.map encP)]) (fun l => l.length ≤ 1152921504606846976 ∧ ∀ x ∈ l, x.length ≤ 1152921504606846976) := by
  refine ((RdT.slice (b := 24) (rdSpanS n) Try.underlying22 (by kernel_rfl)).le (Nat.le_succ n)).imp fun x hx => ⟨?_, hx.2⟩
  have hr : reachBytes = 140737488351232 := rfl
  have := hx.1
  omega
theorem rdDfa (n : Nat) : RdT Try.prog n 26 encDfa BDfa := by
  refine ((RdT.struct (sz := 1 + (1 + 1)) Try.underlying26 rfl (by kernel_rfl) (FsT.cons (sz := 1) (sz' := 1 + 1) (rdSpanSS n) rfl (by kernel_rfl)
      (FsT.cons (sz := 1) (sz' := 1) (rdIntSS n) rfl (by kernel_rfl) (FsT.one (rdIntS n) rfl (by kernel_rfl))))).le (Nat.le_succ n)).iso (fun x => Dfa.mk x.1 x.2.1 x.2.2) fun x hx => ⟨by simp [encDfa], ?_⟩
  obtain ⟨⟨h1, h2⟩, ⟨h3, h4⟩, h5⟩ := hx
  exact ⟨h1, h3, h5, h2, h4⟩
def liveR (d : Dfa) (bl : List Bool) : Prop := if dfaOk d = true then IsLive d bl else bl = []
theorem liveR_ex (d : Dfa) : ∃ bl, liveR d bl := by
  by_cases h : dfaOk d = true
  · obtain ⟨bl, hb⟩ := isLive_ex d; exact ⟨bl, by simp [liveR, h, hb]⟩
  · exact ⟨[], by simp [liveR, h]⟩
theorem liveR_len {d : Dfa} {bl : List Bool} (h : liveR d bl) : bl.length ≤ 40 := by
  unfold liveR at h
  split at h
  · rename_i h1; have := h.len; have := (dok_of h1).most; omega
  · subst h; simp
theorem tc_iLeastLive (d : Dfa) (hs : DSm d) (bl : List Bool) (hb : liveR d bl) : TC Try.prog 30 [.agg (encDfa d)] [] (.own 4 (bl.map encB)) [] := by
  refine TC.enter Try.func30 rfl (by simp [Try.ntmps30]) rfl (TWc.postT (tw_sound (ρ := [1]) ?_))
  rw [Try.ntmps30]
  simp
  refine TWoH.callV (tc_iDfaOk d hs) callable_59 (by simp) (by simp) (by simp) (by simp) ?_
  unfold liveR at hb
  cases c1 : dfaOk d
  · simp [c1] at hb
    subst hb
    simp
    refine Turn.nil 2 4 (by simp) fun id hid => ?_
    simp
  simp [c1] at hb
  simp
  refine TWoH.call (tc_iLive d hs (dok_of c1) bl hb) callable_82 (by simp) (by simp) (by simp) fun k hk => ?_
  simp
  refine Turn.same ?_
  simp
theorem tc_sLeastLive (d : Dfa) (hs : DSm d) (bl : List Bool) (hb : liveR d bl) : TC Try.prog 29 [.agg (encDfa d)] [] (.own 4 (bl.map encB)) [] := by
  refine TC.enter Try.func29 rfl (by simp [Try.ntmps29]) rfl (tw_sound (ρ := [1]) ?_)
  rw [Try.ntmps29]
  simp
  refine TWoH.callV (tc_sDfaOk d hs) callable_54 (by simp) (by simp) (by simp) (by simp) ?_
  unfold liveR at hb
  cases c1 : dfaOk d
  · simp [c1] at hb
    subst hb
    simp
    refine gall_intro fun id hid => ?_
    simp
  simp [c1] at hb
  simp
  refine TWoH.call (tc_sLive d hs (dok_of c1) bl hb) callable_81 (by simp) (by simp) (by simp) fun k hk => ?_
  simp
/-- The law as a whole answers true. -/
theorem tc_FnExactLeastLive (d : Dfa) (hB : BDfa d) : TC Try.prog 8 [.agg (encDfa d)] [] (.val (.bool true)) [] := by
  obtain ⟨bl, hbl⟩ := liveR_ex d
  have hlen := liveR_len hbl
  refine TC.enter Try.func8 rfl (by simp [Try.ntmps8]) rfl (tw_sound (ρ := [1]) ?_)
  rw [Try.ntmps8]
  simp
  refine TWoH.callV (tc_szDfa d hB.parts hB.rows 1048576) callable_13 (by simp) (by simp) (by simp) (by simp) ?_
  simp
  refine gif_intro (fun c2 => ?_) (fun c2 => ?_) <;> simp [c2]
  obtain ⟨hs, hcost⟩ := DSm_of hB c2
  have hto := tc_toDfa d hs
  refine TWoH.callV hto callable_15 (by simp) (by simp) (by simp) (by simp) ?_
  simp
  refine TWoH.call (tc_sLeastLive d hs bl hbl) callable_29 (by simp) (by simp) (by simp) fun w hw => ?_
  simp
  refine TWoH.call (tc_toDfaO d hs) callable_15 (by simp) (by simp) (by simp) fun x hx => ?_
  have nx := fresh_ne (i := w) hx (by simp) (Nat.le_refl _)
  have nx1 := fresh_ne (i := w) hx (by simp) (Nat.le_add_right _ 1)
  have nx2 := fresh_ne (i := w) hx (by simp) (Nat.le_add_right _ 2)
  have nx' : ¬ x = w := fun e => nx e.symm
  have nx1' : ¬ x + 1 = w := fun e => nx1 e.symm
  have nx2' : ¬ x + 2 = w := fun e => nx2 e.symm
  have e2 : x + 1 + 1 = x + 2 := rfl
  have n02 : ¬ x = x + 2 := by omega
  simp [oDfa]
  refine gall_intro fun a ha => ?_
  have haw' := ne_some (i := w) (by simp [nx, nx1, nx2, e2, n02]) ha
  have ha0' := ne_some (i := x) (by simp [nx, nx1, nx2, e2, n02]) ha
  have ha1' := ne_some (i := x + 1) (by simp [nx, nx1, nx2, e2, n02]) ha
  have ha2' := ne_some (i := x + 2) (by simp [nx, nx1, nx2, e2, n02]) ha
  have haw : ¬ a = w := fun e => haw' e.symm
  have ha0 : ¬ a = x := fun e => ha0' e.symm
  have ha1 : ¬ a = x + 1 := fun e => ha1' e.symm
  have ha2 : ¬ a = x + 2 := fun e => ha2' e.symm
  simp [nx, nx1, nx2, nx', nx1', nx2', e2, n02, ha2, ha1, ha0, haw, ha2', ha1', ha0', haw']
  refine TWoH.call (tc_iLeastLive d hs bl hbl) callable_30 (by simp [nx, nx1, nx2, nx', nx1', nx2', e2, n02, ha2, ha1, ha0, haw, ha2', ha1', ha0', haw', encDfa]) (by simp) (by simp) fun g hg => ?_
  have gw' := fresh_ne (i := w) hg (by simp [nx, nx1, nx2, nx', nx1', nx2', e2, n02, ha2, ha1, ha0, haw, ha2', ha1', ha0', haw']) (Nat.le_refl _)
  have gx0' := fresh_ne (i := x) hg (by simp [nx, nx1, nx2, nx', nx1', nx2', e2, n02, ha2, ha1, ha0, haw, ha2', ha1', ha0', haw']) (Nat.le_refl _)
  have gx1' := fresh_ne (i := x + 1) hg (by simp [nx, nx1, nx2, nx', nx1', nx2', e2, n02, ha2, ha1, ha0, haw, ha2', ha1', ha0', haw']) (Nat.le_refl _)
  have gx2' := fresh_ne (i := x + 2) hg (by simp [nx, nx1, nx2, nx', nx1', nx2', e2, n02, ha2, ha1, ha0, haw, ha2', ha1', ha0', haw']) (Nat.le_refl _)
  have ga' := fresh_ne (i := a) hg (by simp [nx, nx1, nx2, nx', nx1', nx2', e2, n02, ha2, ha1, ha0, haw, ha2', ha1', ha0', haw']) (Nat.le_refl _)
  have gw : ¬ g = w := fun e => gw' e.symm
  have gx0 : ¬ g = x := fun e => gx0' e.symm
  have gx1 : ¬ g = x + 1 := fun e => gx1' e.symm
  have gx2 : ¬ g = x + 2 := fun e => gx2' e.symm
  have ga : ¬ g = a := fun e => ga' e.symm
  simp [nx, nx1, nx2, nx', nx1', nx2', e2, n02, ha2, ha1, ha0, haw, ha2', ha1', ha0', haw', gw, gx0, gx1, gx2, ga, gw', gx0', gx1', gx2', ga']
  have heq := tc_eq31 bl (by omega)
  refine TWoH.callV heq callable_31 (by simp [nx, nx1, nx2, nx', nx1', nx2', e2, n02, ha2, ha1, ha0, haw, ha2', ha1', ha0', haw', gw, gx0, gx1, gx2, ga, gw', gx0', gx1', gx2', ga']) (by simp) (by simp) (by simp) ?_
  simp [nx, nx1, nx2, nx', nx1', nx2', e2, n02, ha2, ha1, ha0, haw, ha2', ha1', ha0', haw', gw, gx0, gx1, gx2, ga, gw', gx0', gx1', gx2', ga']
  refine TWcH.regionD (ρ := []) [0, 1, 2, 3, 4] 5 mixed (by kernel_rfl) ?_
  simp [nx, nx1, nx2, nx', nx1', nx2', e2, n02, ha2, ha1, ha0, haw, ha2', ha1', ha0', haw', gw, gx0, gx1, gx2, ga, gw', gx0', gx1', gx2', ga']
  refine TWqH.callV hto callable_15 (by simp) (by simp) (by simp) (by simp) ?_
  simp [nx, nx1, nx2, nx', nx1', nx2', e2, n02, ha2, ha1, ha0, haw, ha2', ha1', ha0', haw', gw, gx0, gx1, gx2, ga, gw', gx0', gx1', gx2', ga']
  refine TWqH.callV (tc_eqDfa d hs) callable_17 (by simp [nx, nx1, nx2, nx', nx1', nx2', e2, n02, ha2, ha1, ha0, haw, ha2', ha1', ha0', haw', gw, gx0, gx1, gx2, ga, gw', gx0', gx1', gx2', ga', encDfa]) (by simp) (by simp) (by simp) ?_
  simp [nx, nx1, nx2, nx', nx1', nx2', e2, n02, ha2, ha1, ha0, haw, ha2', ha1', ha0', haw', gw, gx0, gx1, gx2, ga, gw', gx0', gx1', gx2', ga']
  refine TWoH.lendR [x, x + 1, x + 2] (tcr_markDfa d hs 1 (by omega) (by omega)) callable_32 (by simp [nx, nx1, nx2, nx', nx1', nx2', e2, n02, ha2, ha1, ha0, haw, ha2', ha1', ha0', haw', gw, gx0, gx1, gx2, ga, gw', gx0', gx1', gx2', ga', List.findIdx?_cons]) (by simp [nx, nx1, nx2, nx', nx1', nx2', e2, n02, ha2, ha1, ha0, haw, ha2', ha1', ha0', haw', gw, gx0, gx1, gx2, ga, gw', gx0', gx1', gx2', ga', oDfa]) (by simp) (by simp) ?_
  rintro r o ⟨rfl, d', rfl⟩
  refine ⟨by simp [oDfa], by simp, .inl (by simp [nx, nx1, nx2, nx', nx1', nx2', e2, n02, ha2, ha1, ha0, haw, ha2', ha1', ha0', haw', gw, gx0, gx1, gx2, ga, gw', gx0', gx1', gx2', ga', List.findIdx?_cons]), fun q hq => ?_⟩
  have b3 : ¬ (1 + (costD d : Int)) < 0 := by omega
  simp [nx, nx1, nx2, nx', nx1', nx2', e2, n02, ha2, ha1, ha0, haw, ha2', ha1', ha0', haw', gw, gx0, gx1, gx2, ga, gw', gx0', gx1', gx2', ga', oDfa, b3]
  refine TWoH.callV heq callable_31 (by simp [nx, nx1, nx2, nx', nx1', nx2', e2, n02, ha2, ha1, ha0, haw, ha2', ha1', ha0', haw', gw, gx0, gx1, gx2, ga, gw', gx0', gx1', gx2', ga']) (by simp) (by simp) (by simp) ?_
  simp [nx, nx1, nx2, nx', nx1', nx2', e2, n02, ha2, ha1, ha0, haw, ha2', ha1', ha0', haw', gw, gx0, gx1, gx2, ga, gw', gx0', gx1', gx2', ga']
  refine TWoH.lend [g] (tc_mark33 bl 1 (by omega) (by omega)) callable_33 (by simp) (by simp [nx, nx1, nx2, nx', nx1', nx2', e2, n02, ha2, ha1, ha0, haw, ha2', ha1', ha0', haw', gw, gx0, gx1, gx2, ga, gw', gx0', gx1', gx2', ga']) (by simp) (by simp) (by simp) (by simp) (.inl (by simp)) fun q hq => ?_
  simp [nx, nx1, nx2, nx', nx1', nx2', e2, n02, ha2, ha1, ha0, haw, ha2', ha1', ha0', haw', gw, gx0, gx1, gx2, ga, gw', gx0', gx1', gx2', ga']
  have hheld := tc_held34 bl.length 1 (by omega) (by omega)
  refine TWoH.callV hheld callable_34 (by simp [nx, nx1, nx2, nx', nx1', nx2', e2, n02, ha2, ha1, ha0, haw, ha2', ha1', ha0', haw', gw, gx0, gx1, gx2, ga, gw', gx0', gx1', gx2', ga']) (by simp) (by simp) (by simp) ?_
  have b4 : ¬ (1 + (bl.length : Int)) < 0 := by omega
  simp [nx, nx1, nx2, nx', nx1', nx2', e2, n02, ha2, ha1, ha0, haw, ha2', ha1', ha0', haw', gw, gx0, gx1, gx2, ga, gw', gx0', gx1', gx2', ga', b4]
  refine TWoH.callV hto callable_15 (by simp) (by simp) (by simp) (by simp) ?_
  simp [nx, nx1, nx2, nx', nx1', nx2', e2, n02, ha2, ha1, ha0, haw, ha2', ha1', ha0', haw', gw, gx0, gx1, gx2, ga, gw', gx0', gx1', gx2', ga']
  refine TWoH.call (tc_iLeastLive d hs bl hbl) callable_30 (by simp) (by simp) (by simp) fun h hh => ?_
  have hw' := fresh_ne (i := w) hh (by simp [nx, nx1, nx2, nx', nx1', nx2', e2, n02, ha2, ha1, ha0, haw, ha2', ha1', ha0', haw', gw, gx0, gx1, gx2, ga, gw', gx0', gx1', gx2', ga']) (Nat.le_refl _)
  have hg' := fresh_ne (i := g) hh (by simp [nx, nx1, nx2, nx', nx1', nx2', e2, n02, ha2, ha1, ha0, haw, ha2', ha1', ha0', haw', gw, gx0, gx1, gx2, ga, gw', gx0', gx1', gx2', ga']) (Nat.le_refl _)
  have hw_ : ¬ h = w := fun e => hw' e.symm
  have hg_ : ¬ h = g := fun e => hg' e.symm
  simp [nx, nx1, nx2, nx', nx1', nx2', e2, n02, ha2, ha1, ha0, haw, ha2', ha1', ha0', haw', gw, gx0, gx1, gx2, ga, gw', gx0', gx1', gx2', ga', hw', hg', hw_, hg_]
  refine TWoH.callV heq callable_31 (by simp [nx, nx1, nx2, nx', nx1', nx2', e2, n02, ha2, ha1, ha0, haw, ha2', ha1', ha0', haw', gw, gx0, gx1, gx2, ga, gw', gx0', gx1', gx2', ga', hw', hg', hw_, hg_]) (by simp) (by simp) (by simp) ?_
  simp [nx, nx1, nx2, nx', nx1', nx2', e2, n02, ha2, ha1, ha0, haw, ha2', ha1', ha0', haw', gw, gx0, gx1, gx2, ga, gw', gx0', gx1', gx2', ga', hw', hg', hw_, hg_]
  refine TWoH.callV hheld callable_34 (by simp [nx, nx1, nx2, nx', nx1', nx2', e2, n02, ha2, ha1, ha0, haw, ha2', ha1', ha0', haw', gw, gx0, gx1, gx2, ga, gw', gx0', gx1', gx2', ga', hw', hg', hw_, hg_]) (by simp) (by simp) (by simp) ?_
  simp [nx, nx1, nx2, nx', nx1', nx2', e2, n02, ha2, ha1, ha0, haw, ha2', ha1', ha0', haw', gw, gx0, gx1, gx2, ga, gw', gx0', gx1', gx2', ga', hw', hg', hw_, hg_, b4]
end Go.Proofs.Ytigmibfacllhmaa.R

open Go Go.Proofs.Ytigmibfacllhmaa.T
namespace Go.Proofs.Ytigmibfacllhmaa.R
set_option maxHeartbeats 4000000
set_option maxRecDepth 100000
set_option linter.unusedSimpArgs false
set_option linter.unusedVariables false
attribute [local simp] bsV bsRows chunk fillT partsT appV makeV rowsOf cellsOf placeOf

/-- Where a state goes by a byte, from the k-th part on. -/
def nextFrom (d : Dfa) (s : Nat) (b : Nat) (k : Nat) : Int := match (List.range' k (d.parts.length - k)).find? (fun k => hasS (pt d.parts k) b) with
  | some k => ((rw_ d s)[k]?).getD (-1)
  | none => -1
def nextF (d : Dfa) (s b : Nat) : Int := nextFrom d s b 0
theorem nextFrom_next {d : Dfa} {s b k : Nat} (h : k < d.parts.length) : nextFrom d s b k = if hasS (pt d.parts k) b = true then ((rw_ d s)[k]?).getD (-1) else nextFrom d s b (k + 1) := by
  unfold nextFrom
  rw [show d.parts.length - k = (d.parts.length - (k + 1)) + 1 by omega, List.range'_succ, List.find?_cons]
  cases hasS (pt d.parts k) b <;> simp
theorem nextFrom_end {d : Dfa} {s b k : Nat} (h : ¬ k < d.parts.length) : nextFrom d s b k = -1 := by
  unfold nextFrom; rw [show d.parts.length - k = 0 by omega]; rfl
theorem nextFrom_skip {d : Dfa} {s b k : Nat} : ∀ i, i ≤ k → k ≤ d.parts.length → (∀ j, i ≤ j → j < k → hasS (pt d.parts j) b = false) → nextFrom d s b i = nextFrom d s b k := by
  intro i hi hk h
  induction hn : k - i generalizing i with
  | zero => obtain rfl : i = k := by omega
            rfl
  | succ n ih =>
    rw [nextFrom_next (by omega), if_neg (by rw [h i (by omega) (by omega)]; simp)]
    exact ih (i + 1) (by omega) (fun j a b => h j (by omega) b) (by omega)
theorem parts_disj {ps : List (List (Int × Int))} (h : partsFrom ps 0 = true) {i : Nat} (hi : i < ps.length) {b : Nat} (hb : b < 256) (h1 : hasS (pt ps i) b = true) : anyHas ps i b = false := by
  unfold partsFrom at h
  rw [List.all_eq_true] at h
  have := h i (by rw [List.mem_range'_1]; omega)
  simp only [partAt, Bool.and_eq_true] at this
  have h2 := this.2
  unfold disjFrom at h2
  rw [List.all_eq_true] at h2
  have h3 := h2 b (by rw [List.mem_range'_1]; omega)
  simp only [disjB, h1, Bool.true_and, Bool.not_eq_true'] at h3
  exact h3
theorem anyHas_false {ps : List (List (Int × Int))} {i b : Nat} (h : anyHas ps i b = false) : ∀ j, j < i → hasS (pt ps j) b = false := by
  intro j hj
  unfold anyHas at h
  rw [List.any_eq_false] at h
  simpa using h j (List.mem_range.2 hj)
theorem next_of_has {d : Dfa} (h : partsFrom d.parts 0 = true) {s k b : Nat} (hk : k < d.parts.length) (hb : b < 256) (h1 : hasS (pt d.parts k) b = true) : nextF d s b = ((rw_ d s)[k]?).getD (-1) := by
  unfold nextF
  rw [nextFrom_skip 0 (Nat.zero_le _) (Nat.le_of_lt hk) (fun j _ hj => anyHas_false (parts_disj h hk hb h1) j hj), nextFrom_next hk, if_pos h1]
theorem countP_or {l : List Nat} {f g : Nat → Bool} (h : ∀ b ∈ l, f b = true → g b = false) : l.countP (fun b => g b || f b) = l.countP g + l.countP f := by
  induction l with
  | nil => rfl
  | cons a l ih =>
    have := ih fun b hb => h b (by simp [hb])
    have ha := h a (by simp)
    simp only [List.countP_cons, this]
    cases hf : f a <;> cases hg : g a <;> simp_all <;> omega
theorem size_any {ps : List (List (Int × Int))} (h : partsFrom ps 0 = true) : ∀ i, i ≤ ps.length → (List.range 256).countP (anyHas ps i) = sizeTo ps i
  | 0, _ => by simp [sizeTo, anyHas]
  | i + 1, hi => by
    have ih := size_any h i (by omega)
    rw [sizeTo_succ, ← ih]
    have : (anyHas ps (i + 1)) = fun b => anyHas ps i b || hasS (pt ps i) b := by funext b; exact anyHas_succ
    rw [this, countP_or (f := fun b => hasS (pt ps i) b) (g := anyHas ps i)]
    · rfl
    · intro b hb h1
      exact parts_disj h (by omega) (List.mem_range.1 hb) h1
theorem parts_all {ps : List (List (Int × Int))} (h : partsOk ps = true) {b : Nat} (hb : b < 256) : anyHas ps ps.length b = true := by
  simp only [partsOk, Bool.and_eq_true, decide_eq_true_eq] at h
  have h1 := size_any h.1 ps.length (Nat.le_refl _)
  rw [h.2] at h1
  have h2 := List.countP_eq_length (p := anyHas ps ps.length) (l := List.range 256)
  rw [h1] at h2
  exact (h2.1 (by simp)) b (List.mem_range.2 hb)
theorem parts_at {ps : List (List (Int × Int))} (h : partsOk ps = true) {b : Nat} (hb : b < 256) : ∃ k, k < ps.length ∧ hasS (pt ps k) b = true := by
  have := parts_all h hb
  unfold anyHas at this
  rw [List.any_eq_true] at this
  obtain ⟨k, hk, h1⟩ := this
  exact ⟨k, List.mem_range.1 hk, h1⟩
theorem partsFrom_of {ps : List (List (Int × Int))} (h : partsOk ps = true) : partsFrom ps 0 = true := by
  simp only [partsOk, Bool.and_eq_true] at h; exact h.1
theorem next_ok {d : Dfa} (ho : DOk d) {s b : Nat} (hs : s < d.rows.length) : -1 ≤ nextF d s b ∧ nextF d s b < d.rows.length := by
  unfold nextF nextFrom
  split
  · rename_i k hk
    cases hr : (rw_ d s)[k]? with
    | none => simp; have := ho.one; omega
    | some t => simp only [Option.getD_some]; exact ho.ent s hs t (List.mem_of_getElem? hr)
  · have := ho.one; omega
theorem tc_l7Next (d : Dfa) (hs : DSm d) (ho : DOk d) (s b : Nat) (hlt : s < d.rows.length) : TC Try.prog 103 [.agg (encDfa d), .val (.int .i64 s), .val (.int .i64 b)] [] (.val (.int .i64 (nextF d s b))) [] := by
  refine TC.enter Try.func103 rfl (by simp [Try.ntmps103]) rfl (tw_sound (ρ := [3]) ?_)
  rw [Try.ntmps103]
  simp [encDfa]
  have hpl := hs.parts
  refine TWcH.loop [] (fun m st => ∃ k : Nat, k + m = d.parts.length ∧ st.σ 1 = .val (.int .i64 s) ∧ st.σ 2 = .val (.int .i64 b) ∧ st.σ 3 = .rptr [.ro (d.parts.map encP), .ro (d.rows.map encR), .ro (d.acc.map encI)] 0 ∧ st.σ 7 = .val (.int .i64 k) ∧ nextF d s b = nextFrom d s b k) d.parts.length ⟨0, by simp [nextF]⟩ ?_
  rintro m ⟨σ, H⟩ ⟨k, hkm, h1, h2, h3, h7, hh⟩
  simp only at h1 h2 h3 h7
  by_cases hk : k < d.parts.length
  · have hw : IntKind.i64.wrap ((k : Int) + 1) = k + 1 := wrapi (by omega)
    have hp' : ∀ h, d.parts[k]'h = pt d.parts k := fun _ => (pt_eq hk).symm
    have hr' : ∀ h, d.rows[s]'h = rw_ d s := fun _ => (rw_eq hlt).symm
    have hpln : (pt d.parts k).length ≤ 1152921504606846976 := by rw [pt_eq hk]; have := hs.part _ (List.getElem_mem hk); omega
    have hkr : k < (rw_ d s).length := by rw [ho.row s hlt]; exact hk
    rw [nextFrom_next hk, getI hkr] at hh
    simp [h1, h2, h3, h7, hk, hp', encP]
    refine TWoH.callV (tc_sSetHas (pt d.parts k) b hpln) callable_108 (by simp [h2]) (by simp) (by simp) (by simp) ?_
    simp [h1, h2, h3, h7, hk]
    refine gif_intro (fun c => ?_) (fun c => ?_) <;> simp [h1, h2, h3, h7, hk, c, hlt, hr', encR, encI, hkr, hw]
    · rw [hh, if_pos c]; rfl
    · exact ⟨m - 1, by omega, k + 1, by omega, by omega, by rw [hh, if_neg c]⟩
  · simp [h1, h2, h3, h7, hk]
    rw [hh, nextFrom_end hk]
/-- A row of 256 numbers. -/
def intsT (f : Nat → Int) : List TV := (List.range 256).map fun b => .val (.int .i64 (f b))
@[simp] theorem intsT_len (f : Nat → Int) : (intsT f).length = 256 := by simp [intsT]
theorem intsT_noH (f : Nat → Int) : noHL (intsT f) = true := by
  unfold intsT
  induction List.range 256 with
  | nil => rfl
  | cons a l ih => simp [ih]
theorem intsT_noRo (f : Nat → Int) : noRoL (intsT f) = true := by
  unfold intsT
  induction List.range 256 with
  | nil => rfl
  | cons a l ih => simp [ih]
theorem intsT_roL (f : Nat → Int) : roL (intsT f) = intsT f := by
  unfold intsT
  induction List.range 256 with
  | nil => rfl
  | cons a l ih => simp only [List.map_cons, roL, ih]; simp
theorem intsT_cut {f : Nat → Int} {i : Nat} (h : i < 256) : List.take 1 (List.drop i (intsT f)) = [.val (.int .i64 (f i))] := by
  rw [List.drop_eq_getElem_cons (by simpa using h)]
  simp [intsT]
theorem intsT_congr {f g : Nat → Int} (h : ∀ b, b < 256 → f b = g b) : intsT f = intsT g := by
  unfold intsT
  apply List.map_congr_left
  intro b hb
  rw [h b (List.mem_range.1 hb)]
theorem intsT_put {f : Nat → Int} {i : Nat} {x : Int} (h : i < 256) : List.take i (intsT f) ++ TV.val (.int .i64 x) :: List.drop (i + 1) (intsT f) = intsT fun b => if b = i then x else f b := by
  apply List.ext_getElem?
  intro j
  have hat : ∀ {f : Nat → Int} {j : Nat}, j < 256 → (intsT f)[j]? = some (.val (.int .i64 (f j))) := fun h => by simp [intsT, h]
  by_cases h1 : j < i
  · rw [List.getElem?_append_left (by simp; omega), List.getElem?_take_of_lt h1, hat (by omega), hat (by omega), if_neg (by omega)]
  · rw [List.getElem?_append_right (by simp; omega)]
    have hl : (List.take i (intsT f)).length = i := by simp; omega
    rw [hl]
    by_cases h2 : j = i
    · subst h2; rw [Nat.sub_self, hat h, if_pos rfl]; rfl
    · obtain ⟨d, hd⟩ : ∃ d, j - i = d + 1 := ⟨j - i - 1, by omega⟩
      rw [hd, List.getElem?_cons_succ, List.getElem?_drop, show i + 1 + d = j by omega]
      by_cases h3 : j < 256
      · rw [hat h3, hat h3, if_neg h2]
      · rw [List.getElem?_eq_none (by simp; omega), List.getElem?_eq_none (by simp; omega)]
def tabR (n : Nat) (F : Nat → Nat → Int) : List (List TV) := (List.range n).map fun s => intsT (F s)
@[simp] theorem tabR_len (n : Nat) (F : Nat → Nat → Int) : (tabR n F).length = n := by simp [tabR]
theorem tabR_at {n : Nat} {F : Nat → Nat → Int} {s : Nat} : ∀ h, (tabR n F)[s]'h = intsT (F s) := fun h => by simp [tabR]
theorem tabR_congr {n : Nat} {F G : Nat → Nat → Int} (h : ∀ s b, s < n → b < 256 → F s b = G s b) : tabR n F = tabR n G := by
  unfold tabR
  apply List.map_congr_left
  intro s hs
  exact intsT_congr fun b hb => h s b (List.mem_range.1 hs) hb
theorem tabR_set {n : Nat} {F : Nat → Nat → Int} {s : Nat} (hs : s < n) (g : Nat → Int) : (tabR n F).set s (intsT g) = tabR n fun s' b => if s' = s then g b else F s' b := by
  apply List.ext_getElem?
  intro j
  rw [List.getElem?_set]
  by_cases e : s = j
  · subst e; simp [tabR, hs]
  · rw [if_neg e]
    by_cases hj : j < n
    · simp [tabR, hj, Ne.symm e]
    · rw [List.getElem?_eq_none (by simp; omega), List.getElem?_eq_none (by simp; omega)]
@[simp] theorem tabR_noHR (n : Nat) (F : Nat → Nat → Int) : noHR (tabR n F) = true := by
  unfold tabR
  induction List.range n with
  | nil => rfl
  | cons a l ih => simp [ih, intsT_noH]
@[simp] theorem tabR_noRoR (n : Nat) (F : Nat → Nat → Int) : noRoR (tabR n F) = true := by
  unfold tabR
  induction List.range n with
  | nil => rfl
  | cons a l ih => simp [ih, intsT_noRo]
@[simp] theorem tabR_roRows (n : Nat) (F : Nat → Nat → Int) : roRows (tabR n F) = tabR n F := by
  unfold tabR
  induction List.range n with
  | nil => rfl
  | cons a l ih => simp [ih, intsT_roL]
/-- What stands in the table behind k parts. -/
def tv (d : Dfa) (k s b : Nat) : Int := if anyHas d.parts k b = true then nextF d s b else 0
end Go.Proofs.Ytigmibfacllhmaa.R

open Go Go.Proofs.Ytigmibfacllhmaa.T
namespace Go.Proofs.Ytigmibfacllhmaa.R
set_option maxHeartbeats 4000000
set_option maxRecDepth 100000
set_option linter.unusedSimpArgs false
set_option linter.unusedVariables false
/-- Two states, and a text with which one comes to them. -/
structure Pr where
  s : Int
  t : Int
  w : List UInt8
def nx (d : Dfa) (s : Int) (k : Nat) : Int := if s < 0 then -1 else ((rw_ d s.toNat)[k]?).getD (-1)
def acI (d : Dfa) (s : Int) : Int := if s < 0 then -1 else ac_ d s.toNat
def fb (d : Dfa) (k : Nat) : UInt8 := UInt8.ofNat (firstS (pt d.parts k)).toNat
def hadP (ps : List Pr) (x y : Int) : Bool := ps.any fun p => decide (p.s = x) && decide (p.t = y)
def stepK (d : Dfa) (x : Pr) (ps : List Pr) (k : Nat) : List Pr := if hadP ps (nx d x.s k) (nx d x.t k) = true then ps else ps ++ [⟨nx d x.s k, nx d x.t k, x.w ++ [fb d k]⟩]
def roundP (d : Dfa) (x : Pr) (k : Nat) (ps : List Pr) : List Pr := (List.range' k (d.parts.length - k)).foldl (stepK d x) ps
theorem roundP_next {d : Dfa} {x : Pr} {k : Nat} {ps : List Pr} (h : k < d.parts.length) : roundP d x k ps = roundP d x (k + 1) (stepK d x ps k) := by
  unfold roundP
  rw [show d.parts.length - k = (d.parts.length - (k + 1)) + 1 by omega, List.range'_succ]; rfl
theorem roundP_end {d : Dfa} {x : Pr} {k : Nat} {ps : List Pr} (h : ¬ k < d.parts.length) : roundP d x k ps = ps := by
  unfold roundP
  rw [show d.parts.length - k = 0 by omega]; rfl
def twoGo (d : Dfa) : Nat → Nat → List Pr → Bool × List UInt8
  | 0, _, _ => (true, [])
  | f + 1, i, ps => match ps[i]? with
    | none => (true, [])
    | some x => if acI d x.s = acI d x.t then twoGo d f (i + 1) (roundP d x 0 ps) else (false, x.w)
def twoF (d : Dfa) (s t : Int) : Bool × List UInt8 := if dfaOk d = true ∧ (0 ≤ s ∧ s < d.rows.length) ∧ (0 ≤ t ∧ t < d.rows.length) then twoGo d 1682 0 [⟨s, t, []⟩] else (false, [])
structure PInv (d : Dfa) (ps : List Pr) : Prop where
  nod : ps.Pairwise fun p q => ¬ (p.s = q.s ∧ p.t = q.t)
  rng : ∀ p ∈ ps, (-1 ≤ p.s ∧ p.s < d.rows.length) ∧ (-1 ≤ p.t ∧ p.t < d.rows.length)
  wl : ∀ p ∈ ps, p.w.length < ps.length
theorem nodup_le : ∀ (N : Nat) (l : List Nat), l.Nodup → (∀ x ∈ l, x < N) → l.length ≤ N
  | 0, l, _, h => by
    cases l with
    | nil => simp
    | cons a l => exact absurd (h a (by simp)) (by omega)
  | N + 1, l, hn, h => by
    have h1 := nodup_le N (l.erase N) (hn.erase N) fun x hx => by
      obtain ⟨h2, h3⟩ := (hn.mem_erase_iff).1 hx
      have := h x h3; omega
    have := List.length_erase (l := l) (a := N)
    split at this <;> omega
theorem PInv.len {d : Dfa} (ho : DOk d) {ps : List Pr} (h : PInv d ps) : ps.length ≤ 1681 := by
  have hm := ho.most
  have := nodup_le 1681 (ps.map fun p => (p.s + 1).toNat * 41 + (p.t + 1).toNat) (by
    unfold List.Nodup
    rw [List.pairwise_map]
    refine h.nod.imp_of_mem fun {a b} ha hb hne e => hne ?_
    have h1 := h.rng a ha
    have h2 := h.rng b hb
    omega) (by
    intro x hx
    obtain ⟨p, hp, rfl⟩ := List.mem_map.1 hx
    have h1 := h.rng p hp
    omega)
  simpa using this
theorem nx_ok {d : Dfa} (ho : DOk d) {s : Int} {k : Nat} (h2 : s < d.rows.length) (hk : k < d.parts.length) : -1 ≤ nx d s k ∧ nx d s k < d.rows.length := by
  have := ho.one
  unfold nx
  split
  · omega
  · have hs : s.toNat < d.rows.length := by omega
    have hkr : k < (rw_ d s.toNat).length := by rw [ho.row _ hs]; exact hk
    rw [getI hkr]
    exact ho.ent _ hs _ (List.getElem_mem hkr)
theorem hadP_false {ps : List Pr} {x y : Int} (h : hadP ps x y = false) : ∀ p ∈ ps, ¬ (p.s = x ∧ p.t = y) := by
  intro p hp e
  unfold hadP at h
  rw [List.any_eq_false] at h
  have := h p hp
  simp [e] at this
theorem PInv.step {d : Dfa} (ho : DOk d) {ps : List Pr} (h : PInv d ps) {x : Pr} (hx : x ∈ ps) {k : Nat} (hk : k < d.parts.length) : PInv d (stepK d x ps k) := by
  unfold stepK
  cases c : hadP ps (nx d x.s k) (nx d x.t k)
  · have hh := hadP_false c
    have hr := h.rng x hx
    simp only [Bool.false_eq_true, if_false]
    refine ⟨?_, ?_, ?_⟩
    · rw [List.pairwise_append]
      refine ⟨h.nod, by simp, fun a ha b hb e => ?_⟩
      simp only [List.mem_singleton] at hb
      subst hb
      exact hh a ha e
    · intro p hp
      rcases List.mem_append.1 hp with hp | hp
      · exact h.rng p hp
      · simp only [List.mem_singleton] at hp
        subst hp
        exact ⟨nx_ok ho hr.1.2 hk, nx_ok ho hr.2.2 hk⟩
    · intro p hp
      rcases List.mem_append.1 hp with hp | hp
      · have := h.wl p hp; simp; omega
      · simp only [List.mem_singleton] at hp
        subst hp
        have := h.wl x hx; simp; omega
  · simpa using h
theorem stepK_at {d : Dfa} {x y : Pr} {ps : List Pr} {k i : Nat} (h : ps[i]? = some y) : (stepK d x ps k)[i]? = some y := by
  unfold stepK
  split
  · exact h
  · obtain ⟨hi, _⟩ := List.getElem?_eq_some_iff.1 h
    rw [List.getElem?_append_left hi]; exact h
theorem PInv.start {d : Dfa} {s t : Int} (hs : 0 ≤ s ∧ s < d.rows.length) (ht : 0 ≤ t ∧ t < d.rows.length) : PInv d [⟨s, t, []⟩] := by
  refine ⟨by simp, ?_, by simp⟩
  intro p hp
  simp only [List.mem_singleton] at hp
  subst hp
  constructor <;> simp <;> omega
theorem twoGo_next {d : Dfa} {f i : Nat} {ps : List Pr} {x : Pr} (h : ps[i]? = some x) : twoGo d (f + 1) i ps = if acI d x.s = acI d x.t then twoGo d f (i + 1) (roundP d x 0 ps) else (false, x.w) := by
  rw [twoGo, h]
theorem twoGo_end {d : Dfa} {f i : Nat} {ps : List Pr} (h : ¬ i < ps.length) : twoGo d f i ps = (true, []) := by
  cases f with
  | zero => rfl
  | succ f => rw [twoGo, List.getElem?_eq_none (by omega)]
/-- What the first byte of a part is. -/
theorem first_part {d : Dfa} (ho : DOk d) {k : Nat} (hk : k < d.parts.length) : ∃ b : Nat, b < 256 ∧ firstS (pt d.parts k) = b ∧ hasS (pt d.parts k) b = true := by
  have h := partsFrom_of ho.parts
  unfold partsFrom at h
  rw [List.all_eq_true] at h
  have hp := h k (by rw [List.mem_range'_1]; omega)
  simp only [partAt, headAt, Bool.and_eq_true, Bool.not_eq_true'] at hp
  obtain ⟨⟨⟨h1, h2⟩, _⟩, _⟩ := hp
  cases hpt : pt d.parts k with
  | nil => rw [hpt] at h2; simp at h2
  | cons x xs =>
    rw [hpt] at h1
    obtain ⟨a1, a2, a3⟩ := setOk_first h1
    refine ⟨x.1.toNat, by omega, by rw [firstS_head h1]; omega, ?_⟩
    simp [hasS]; left; omega
theorem next_first {d : Dfa} (ho : DOk d) {k s : Nat} (hk : k < d.parts.length) {b : Nat} (hb : firstS (pt d.parts k) = b) : nextF d s b = ((rw_ d s)[k]?).getD (-1) := by
  obtain ⟨c, hc, h1, h2⟩ := first_part ho hk
  have e : b = c := by omega
  subst e
  exact next_of_has (partsFrom_of ho.parts) hk hc h2
end Go.Proofs.Ytigmibfacllhmaa.R

open Go Go.Proofs.Ytigmibfacllhmaa.T
namespace Go.Proofs.Ytigmibfacllhmaa.R
set_option maxHeartbeats 4000000
set_option maxRecDepth 100000
set_option linter.unusedSimpArgs false
set_option linter.unusedVariables false
attribute [local simp] bsV bsRows chunk fillT partsT appV makeV rowsOf cellsOf placeOf

theorem tc_l8Acc (d : Dfa) (ho : DOk d) (s : Int) (hlt : s < d.rows.length) : TC Try.prog 66 [.agg (encDfa d), .val (.int .i64 s)] [] (.val (.int .i64 (acI d s))) [] := by
  refine TC.enter Try.func66 rfl (by simp [Try.ntmps66]) rfl (tw_sound (ρ := [2]) ?_)
  rw [Try.ntmps66]
  by_cases c : s < 0
  · simp [c, acI]
  have h0 : 0 ≤ s := by omega
  have hn : s.toNat < d.acc.length := by rw [ho.acc]; omega
  have hi : s < d.acc.length := by omega
  have hr : ∀ h, d.acc[s.toNat]'h = ac_ d s.toNat := fun _ => (ac_eq hn).symm
  simp [c, acI, encDfa, h0, hn, hi, hr, encI]
theorem tc_l8To (d : Dfa) (hs : DSm d) (ho : DOk d) (s : Int) (b k : Nat) (hlt : s < d.rows.length) (hk : k < d.parts.length) (hb : firstS (pt d.parts k) = b) : TC Try.prog 68 [.agg (encDfa d), .val (.int .i64 s), .val (.int .i64 b)] [] (.val (.int .i64 (nx d s k))) [] := by
  refine TC.enter Try.func68 rfl (by simp [Try.ntmps68]) rfl (tw_sound (ρ := [3]) ?_)
  rw [Try.ntmps68]
  by_cases c : s < 0
  · simp [c, nx]
  have h0 : (s.toNat : Int) = s := by omega
  have hn : s.toNat < d.rows.length := by omega
  simp [c]
  have := tc_l7Next d hs ho s.toNat b hn
  rw [h0, next_first ho hk hb] at this
  refine TWoH.callV this callable_103 (by simp [encDfa]) (by simp) (by simp) (by simp) ?_
  simp [nx, c]
def encPs (p : Pr) : List TV := encI p.s
def encPt (p : Pr) : List TV := encI p.t
def encPw (p : Pr) : List TV := [.val (.string (bs p.w))]
theorem tc_sLeastTwo (d : Dfa) (hs : DSm d) (s t : Int) : TC Try.prog 22 [.agg (encDfa d), .val (.int .i64 s), .val (.int .i64 t)] [] (.tup [.val (.bool (twoF d s t).1), .val (.string (bs (twoF d s t).2))]) [] := by
  refine TC.enter Try.func22 rfl (by simp [Try.ntmps22]) rfl (tw_sound (ρ := [3]) ?_)
  rw [Try.ntmps22]
  simp
  refine TWoH.callV (tc_sDfaOk d hs) callable_54 (by simp) (by simp) (by simp) (by simp) ?_
  cases c1 : dfaOk d
  · have hr : twoF d s t = (false, []) := by simp [twoF, c1]
    simp [hr]
  have ho := dok_of c1
  have hmost := ho.most
  by_cases c2 : s < 0
  · have hr : twoF d s t = (false, []) := by unfold twoF; rw [if_neg (by omega)]
    simp [hr, c2]
  have c2' : 0 ≤ s := by omega
  by_cases c3 : (d.rows.length : Int) ≤ s
  · have hr : twoF d s t = (false, []) := by unfold twoF; rw [if_neg (by omega)]
    simp [hr, c2, c3, encDfa]
  have c3' : s < d.rows.length := by omega
  by_cases c4 : t < 0
  · have hr : twoF d s t = (false, []) := by unfold twoF; rw [if_neg (by omega)]
    simp [hr, c2, c3, c4, encDfa]
  have c4' : 0 ≤ t := by omega
  by_cases c5 : (d.rows.length : Int) ≤ t
  · have hr : twoF d s t = (false, []) := by unfold twoF; rw [if_neg (by omega)]
    simp [hr, c2, c3, c4, c5, encDfa]
  have c5' : t < d.rows.length := by omega
  have hr : twoF d s t = twoGo d 1682 0 [⟨s, t, []⟩] := by unfold twoF; rw [if_pos ⟨c1, ⟨c2', c3'⟩, ⟨c4', c5'⟩⟩]
  rw [hr]
  simp [c2, c3, c4, c5, c2', c3', c4', c5', encDfa]
  refine gall_intro fun ia hia => ?_
  simp
  refine gall_intro fun ib hib => ?_
  have nab : ¬ ib = ia := fun e => by rw [e] at hib; simp at hib
  have nba : ¬ ia = ib := fun e => nab e.symm
  simp [nab, nba]
  refine gall_intro fun ic hic => ?_
  have nac : ¬ ic = ia := fun e => by rw [e] at hic; simp [nab, nba] at hic
  have nbc : ¬ ic = ib := fun e => by rw [e] at hic; simp [nab, nba] at hic
  have nca : ¬ ia = ic := fun e => nac e.symm
  have ncb : ¬ ib = ic := fun e => nbc e.symm
  simp [nab, nba, nac, nbc, nca, ncb]
  refine TWcH.loop [3] (fun m st => ∃ (i : Nat) (ps : List Pr) (ia ib ic : Nat), i + m = 1682 ∧ PInv d ps ∧ twoGo d m i ps = twoGo d 1682 0 [⟨s, t, []⟩] ∧ st.σ 3 = .rptr (encDfa d) 0 ∧ st.σ 8 = .hd ia ∧ st.H ia = some (.own 3 (ps.map encPs)) ∧ st.σ 9 = .hd ib ∧ st.H ib = some (.own 3 (ps.map encPt)) ∧ st.σ 10 = .hd ic ∧ st.H ic = some (.own 9 (ps.map encPw)) ∧ ia ≠ ib ∧ ia ≠ ic ∧ ib ≠ ic ∧ st.σ 11 = .val (.int .i64 i)) 1682 ⟨0, [⟨s, t, []⟩], ia, ib, ic, by simp [encDfa, encPs, encPt, encPw, encI, nab, nba, nac, nbc, nca, ncb, PInv.start ⟨c2', c3'⟩ ⟨c4', c5'⟩]⟩ ?_
  clear nab nba nac nbc nca ncb hia hib hic
  clear ia ib ic
  rintro m ⟨σ, H⟩ ⟨i, ps, ia, ib, ic, him, hI, hG, h3, h8, hA, h9, hB, h10, hC, nab, nac, nbc, h11⟩
  simp only at h3 h8 hA h9 hB h10 hC h11
  have hlen := hI.len ho
  have nba : ¬ ib = ia := fun e => nab e.symm
  have nca : ¬ ic = ia := fun e => nac e.symm
  have ncb : ¬ ic = ib := fun e => nbc e.symm
  by_cases hi : i < ps.length
  · have hw : IntKind.i64.wrap ((i : Int) + 1) = i + 1 := wrapi (by omega)
    obtain ⟨x, hx⟩ : ∃ x, ps[i]? = some x := ⟨ps[i], getI hi⟩
    have hat : ∀ h, ps[i]'h = x := fun h => by rw [getI h] at hx; simpa using hx
    have hxm := List.mem_of_getElem? hx
    have hxr := hI.rng x hxm
    obtain ⟨m, rfl⟩ : ∃ m', m = m' + 1 := ⟨m - 1, by omega⟩
    rw [twoGo_next hx] at hG
    simp [-List.map_append, h3, h8, hA, h9, hB, h10, hC, h11, hi, nab, nac, nbc, nba, nca, ncb]
    refine TWcH.regionD (ρ := []) [0, 1, 2, 3, 4, 6, 7, 8, 9, 10, 5, 11, 12] 13 mixed (by kernel_rfl) ?_
    simp [-List.map_append, h3, h8, hA, h9, hB, h10, hC, h11, hi, hat, encPs, encPt, encI, encDfa]
    refine TWqH.callV (tc_l8Acc d ho x.s hxr.1.2) callable_66 (by simp [encDfa]) (by simp) (by simp) (by simp) ?_
    simp [-List.map_append, h3, h8, hA, h9, hB, h10, hC, h11, hi, hat, encPs, encPt, encI, encDfa]
    refine TWqH.callV (tc_l8Acc d ho x.t hxr.2.2) callable_66 (by simp [encDfa]) (by simp) (by simp) (by simp) ?_
    simp [-List.map_append, h3, h8, hA, h9, hB, h10, hC, h11, hi, hat, encPs, encPt, encI, encDfa]
    refine gif_intro (fun c6 => ?_) (fun c6 => ?_)
    case refine_2 =>
      rw [if_neg c6] at hG
      simp [c6]
      refine TWcH.regionD (ρ := []) [0, 1, 2, 3, 4, 5] 6 mixed (by kernel_rfl) ?_
      simp [-List.map_append, h3, h8, hA, h9, hB, h10, hC, h11, hi, hat, encPw, ← hG]
    rw [if_pos c6] at hG
    simp [-List.map_append, c6, h3, h8, hA, h9, hB, h10, hC, h11, hi, hat]
    refine TWcH.loop [3] (fun m' st => ∃ (k : Nat) (ps' : List Pr) (ia ib ic : Nat), k + m' = d.parts.length ∧ PInv d ps' ∧ ps'[i]? = some x ∧ roundP d x k ps' = roundP d x 0 ps ∧ st.σ 3 = .rptr (encDfa d) 0 ∧ st.σ 8 = .hd ia ∧ st.H ia = some (.own 3 (ps'.map encPs)) ∧ st.σ 9 = .hd ib ∧ st.H ib = some (.own 3 (ps'.map encPt)) ∧ st.σ 10 = .hd ic ∧ st.H ic = some (.own 9 (ps'.map encPw)) ∧ ia ≠ ib ∧ ia ≠ ic ∧ ib ≠ ic ∧ st.σ 11 = .val (.int .i64 i) ∧ st.σ 12 = .val (.int .i64 k)) d.parts.length ⟨0, ps, ia, ib, ic, by simp [h3, h8, hA, h9, hB, h10, hC, h11, nab, nac, nbc, hI, hx]⟩ ?_
    clear h3 h8 hA h9 hB h10 hC h11 nab nac nbc nba nca ncb
    clear ia ib ic σ H
    rintro m' ⟨σ, H⟩ ⟨k, ps', ia, ib, ic, hkm, hI', hx', hR, h3, h8, hA, h9, hB, h10, hC, nab, nac, nbc, h11, h12⟩
    simp only at h3 h8 hA h9 hB h10 hC h11 h12
    have hlen' := hI'.len ho
    have nba : ¬ ib = ia := fun e => nab e.symm
    have nca : ¬ ic = ia := fun e => nac e.symm
    have ncb : ¬ ic = ib := fun e => nbc e.symm
    have hpl := hs.parts
    have hi' : i < ps'.length := (List.getElem?_eq_some_iff.1 hx').1
    have hat' : ∀ h, ps'[i]'h = x := fun h => by rw [getI h] at hx'; simpa using hx'
    have hxm' := List.mem_of_getElem? hx'
    by_cases hk : k < d.parts.length
    · have hwk : IntKind.i64.wrap ((k : Int) + 1) = k + 1 := wrapi (by omega)
      have hp : ∀ h, d.parts[k]'h = pt d.parts k := fun _ => (pt_eq hk).symm
      have hpkl : (pt d.parts k).length ≤ 1048576 := by rw [pt_eq hk]; exact hs.part _ (List.getElem_mem hk)
      obtain ⟨b, hb, hfb, _⟩ := first_part ho hk
      rw [roundP_next hk] at hR
      simp [-List.map_append, h3, h8, hA, h9, hB, h10, hC, h11, h12, hk, encDfa, hp, encP]
      refine TWoH.callV (tc_sSetFirst (pt d.parts k) (by omega)) callable_67 (by simp) (by simp) (by simp) (by simp) ?_
      rw [hfb]
      simp [-List.map_append, h3, h8, hA, h9, hB, h10, hC, h11, h12, hk, encDfa]
      refine TWcH.regionD (ρ := []) [0, 1, 2, 3, 4, 5, 6, 7] 8 mixed (by kernel_rfl) ?_
      simp [-List.map_append, h3, h8, hA, h9, hB, h10, hC, h11, h12, hi', hat', encPs, encPt, encI, encDfa]
      refine TWqH.callV (tc_l8To d hs ho x.s b k hxr.1.2 hk hfb) callable_68 (by simp [encDfa]) (by simp) (by simp) (by simp) ?_
      simp [-List.map_append, h3, h8, hA, h9, hB, h10, hC, h11, h12, hi', hat', encPs, encPt, encI, encDfa]
      refine TWcH.regionD (ρ := []) [0, 1, 2, 3, 4, 5, 6, 7] 8 mixed (by kernel_rfl) ?_
      simp [-List.map_append, h3, h8, hA, h9, hB, h10, hC, h11, h12, hi', hat', encPs, encPt, encI, encDfa]
      refine TWqH.callV (tc_l8To d hs ho x.t b k hxr.2.2 hk hfb) callable_68 (by simp [encDfa]) (by simp) (by simp) (by simp) ?_
      simp [-List.map_append, h3, h8, hA, h9, hB, h10, hC, h11, h12, hi', hat', encPs, encPt, encI, encDfa]
      have hX := nx_ok ho (k := k) hxr.1.2 hk
      have hY := nx_ok ho (k := k) hxr.2.2 hk
      have hstep := hI'.step ho hxm' hk
      have hstep2 : (stepK d x ps' k)[i]? = some x := stepK_at hx'
      have hsd : stepK d x ps' k = if hadP ps' (nx d x.s k) (nx d x.t k) = true then ps' else ps' ++ [⟨nx d x.s k, nx d x.t k, x.w ++ [fb d k]⟩] := rfl
      have hfb2 : fb d k = UInt8.ofNat b := by unfold fb; rw [hfb]; simp
      rw [hfb2] at hsd
      generalize stepK d x ps' k = PS at hsd hstep hstep2 hR
      generalize nx d x.s k = X at hX hsd
      generalize nx d x.t k = Y at hY hsd
      refine TWcH.loop [3] (fun m'' st => ∃ (j : Nat) (q : Bool), j + m'' = ps'.length ∧ st.σ 3 = .rptr (encDfa d) 0 ∧ st.σ 8 = .hd ia ∧ st.H ia = some (.own 3 (ps'.map encPs)) ∧ st.σ 9 = .hd ib ∧ st.H ib = some (.own 3 (ps'.map encPt)) ∧ st.σ 10 = .hd ic ∧ st.H ic = some (.own 9 (ps'.map encPw)) ∧ st.σ 11 = .val (.int .i64 i) ∧ st.σ 12 = .val (.int .i64 k) ∧ st.σ 13 = .val (.int .i64 b) ∧ st.σ 14 = .val (.int .i64 X) ∧ st.σ 15 = .val (.int .i64 Y) ∧ st.σ 16 = .val (.bool q) ∧ st.σ 17 = .val (.int .i64 j) ∧ hadP ps' X Y = (q || hadP (ps'.drop j) X Y)) ps'.length ⟨0, false, by simp [h3, h8, hA, h9, hB, h10, hC, h11, h12, encDfa]⟩ ?_
      clear h3 h8 hA h9 hB h10 hC h11 h12
      clear σ H
      rintro m'' ⟨σ, H⟩ ⟨j, q, hjm, h3, h8, hA, h9, hB, h10, hC, h11, h12, h13, h14, h15, h16, h17, hq⟩
      simp only at h3 h8 hA h9 hB h10 hC h11 h12 h13 h14 h15 h16 h17
      by_cases hj : j < ps'.length
      · have hwj : IntKind.i64.wrap ((j : Int) + 1) = j + 1 := wrapi (by omega)
        rw [List.drop_eq_getElem_cons hj] at hq
        simp only [hadP, List.any_cons] at hq
        cases q
        case true =>
          simp [h3, h8, hA, h9, hB, h10, hC, h11, h12, h13, h14, h15, h16, h17, hj, encPs, encPt, encI, hwj]
          exact ⟨m'' - 1, by omega, j + 1, by omega, by omega, by simp only [hadP]; rw [hq]; simp⟩
        by_cases e1 : ps'[j].s = X <;> by_cases e2 : ps'[j].t = Y
        all_goals
          simp [h3, h8, hA, h9, hB, h10, hC, h11, h12, h13, h14, h15, h16, h17, hj, encPs, encPt, encI, hwj, e1, e2]
          exact ⟨m'' - 1, by omega, j + 1, by omega, by omega, by simp only [hadP]; rw [hq]; simp [e1, e2]⟩
      · obtain rfl : j = ps'.length := by omega
        simp only [List.drop_length, hadP, List.any_nil, Bool.or_false] at hq
        have hq' : hadP ps' X Y = q := hq
        rw [hq'] at hsd
        cases q
        case true =>
          simp only [if_true] at hsd
          subst hsd
          simp [-List.map_append, h3, h8, hA, h9, hB, h10, hC, h11, h12, h13, h14, h15, h16, h17, hwk, encDfa]
          exact ⟨m' - 1, by omega, k + 1, by omega, PS, hstep, hstep2, hR, rfl, rfl, rfl, nab, nac, nbc, by omega⟩
        simp only [Bool.false_eq_true, if_false] at hsd
        have k1 : (ps'.length + 1) * 8 ≤ 140737488355328 := by omega
        have k2 : ps'.length ≤ 9223372036854775806 := by omega
        have k3 : (ps'.length + 1) * 16 ≤ 140737488355328 := by omega
        simp [-List.map_append, h3, h8, hA, h9, hB, h10, hC, h11, h12, h13, h14, h15, h16, h17, k1, k2]
        have hwl := hI'.wl x hxm'
        have kx : x.w.length ≤ 9223372036854775806 := by omega
        have kx2 : ¬ (9223372036854775807 : Int) < x.w.length + 1 := by omega
        have kb2 : (b : Int).toNat = b := by omega
        have kb : IntKind.u8.wrap (b : Int) = b := by unfold IntKind.wrap; simp [IntKind.bits, IntKind.signed]; omega
        refine gall_intro fun i1 hi1 => ?_
        have f_i1_ia : ¬ i1 = ia := fun e => by rw [e] at hi1; simp [h3, h8, hA, h9, hB, h10, hC, h11, h12, h13, h14, h15, h16, h17, k1, k2, k3, delo, del, nab, nac, nbc, nba, nca, ncb, hA] at hi1
        have g_i1_ia : ¬ ia = i1 := fun e => f_i1_ia e.symm
        have f_i1_ib : ¬ i1 = ib := fun e => by rw [e] at hi1; simp [h3, h8, hA, h9, hB, h10, hC, h11, h12, h13, h14, h15, h16, h17, k1, k2, k3, delo, del, nab, nac, nbc, nba, nca, ncb, hB] at hi1
        have g_i1_ib : ¬ ib = i1 := fun e => f_i1_ib e.symm
        have f_i1_ic : ¬ i1 = ic := fun e => by rw [e] at hi1; simp [h3, h8, hA, h9, hB, h10, hC, h11, h12, h13, h14, h15, h16, h17, k1, k2, k3, delo, del, nab, nac, nbc, nba, nca, ncb, hC] at hi1
        have g_i1_ic : ¬ ic = i1 := fun e => f_i1_ic e.symm
        simp [-List.map_append, h3, h8, hA, h9, hB, h10, hC, h11, h12, h13, h14, h15, h16, h17, k1, k2, k3, delo, del, nab, nac, nbc, nba, nca, ncb, f_i1_ia, g_i1_ia, f_i1_ib, g_i1_ib, f_i1_ic, g_i1_ic, hi', hat', encPw, kx, kx2, kb, kb2]
        refine gall_intro fun i2 hi2 => ?_
        have f_i2_i1 : ¬ i2 = i1 := fun e => by rw [e] at hi2; simp [h3, h8, hA, h9, hB, h10, hC, h11, h12, h13, h14, h15, h16, h17, k1, k2, k3, delo, del, nab, nac, nbc, nba, nca, ncb, f_i1_ia, g_i1_ia, f_i1_ib, g_i1_ib, f_i1_ic, g_i1_ic] at hi2
        have g_i2_i1 : ¬ i1 = i2 := fun e => f_i2_i1 e.symm
        have f_i2_ib : ¬ i2 = ib := fun e => by rw [e] at hi2; simp [h3, h8, hA, h9, hB, h10, hC, h11, h12, h13, h14, h15, h16, h17, k1, k2, k3, delo, del, nab, nac, nbc, nba, nca, ncb, f_i1_ia, g_i1_ia, f_i1_ib, g_i1_ib, f_i1_ic, g_i1_ic, hB] at hi2
        have g_i2_ib : ¬ ib = i2 := fun e => f_i2_ib e.symm
        have f_i2_ic : ¬ i2 = ic := fun e => by rw [e] at hi2; simp [h3, h8, hA, h9, hB, h10, hC, h11, h12, h13, h14, h15, h16, h17, k1, k2, k3, delo, del, nab, nac, nbc, nba, nca, ncb, f_i1_ia, g_i1_ia, f_i1_ib, g_i1_ib, f_i1_ic, g_i1_ic, hC] at hi2
        have g_i2_ic : ¬ ic = i2 := fun e => f_i2_ic e.symm
        simp [-List.map_append, h3, h8, hA, h9, hB, h10, hC, h11, h12, h13, h14, h15, h16, h17, k1, k2, k3, delo, del, nab, nac, nbc, nba, nca, ncb, f_i1_ia, g_i1_ia, f_i1_ib, g_i1_ib, f_i1_ic, g_i1_ic, f_i2_i1, g_i2_i1, f_i2_ib, g_i2_ib, f_i2_ic, g_i2_ic, hi', hat', encPw, kx, kx2, kb, kb2]
        refine gall_intro fun i3 hi3 => ?_
        have f_i3_i1 : ¬ i3 = i1 := fun e => by rw [e] at hi3; simp [h3, h8, hA, h9, hB, h10, hC, h11, h12, h13, h14, h15, h16, h17, k1, k2, k3, delo, del, nab, nac, nbc, nba, nca, ncb, f_i1_ia, g_i1_ia, f_i1_ib, g_i1_ib, f_i1_ic, g_i1_ic, f_i2_i1, g_i2_i1, f_i2_ib, g_i2_ib, f_i2_ic, g_i2_ic] at hi3
        have g_i3_i1 : ¬ i1 = i3 := fun e => f_i3_i1 e.symm
        have f_i3_i2 : ¬ i3 = i2 := fun e => by rw [e] at hi3; simp [h3, h8, hA, h9, hB, h10, hC, h11, h12, h13, h14, h15, h16, h17, k1, k2, k3, delo, del, nab, nac, nbc, nba, nca, ncb, f_i1_ia, g_i1_ia, f_i1_ib, g_i1_ib, f_i1_ic, g_i1_ic, f_i2_i1, g_i2_i1, f_i2_ib, g_i2_ib, f_i2_ic, g_i2_ic] at hi3
        have g_i3_i2 : ¬ i2 = i3 := fun e => f_i3_i2 e.symm
        have f_i3_ib : ¬ i3 = ib := fun e => by rw [e] at hi3; simp [h3, h8, hA, h9, hB, h10, hC, h11, h12, h13, h14, h15, h16, h17, k1, k2, k3, delo, del, nab, nac, nbc, nba, nca, ncb, f_i1_ia, g_i1_ia, f_i1_ib, g_i1_ib, f_i1_ic, g_i1_ic, f_i2_i1, g_i2_i1, f_i2_ib, g_i2_ib, f_i2_ic, g_i2_ic, hB] at hi3
        have g_i3_ib : ¬ ib = i3 := fun e => f_i3_ib e.symm
        have f_i3_ic : ¬ i3 = ic := fun e => by rw [e] at hi3; simp [h3, h8, hA, h9, hB, h10, hC, h11, h12, h13, h14, h15, h16, h17, k1, k2, k3, delo, del, nab, nac, nbc, nba, nca, ncb, f_i1_ia, g_i1_ia, f_i1_ib, g_i1_ib, f_i1_ic, g_i1_ic, f_i2_i1, g_i2_i1, f_i2_ib, g_i2_ib, f_i2_ic, g_i2_ic, hC] at hi3
        have g_i3_ic : ¬ ic = i3 := fun e => f_i3_ic e.symm
        simp [-List.map_append, h3, h8, hA, h9, hB, h10, hC, h11, h12, h13, h14, h15, h16, h17, k1, k2, k3, delo, del, nab, nac, nbc, nba, nca, ncb, f_i1_ia, g_i1_ia, f_i1_ib, g_i1_ib, f_i1_ic, g_i1_ic, f_i2_i1, g_i2_i1, f_i2_ib, g_i2_ib, f_i2_ic, g_i2_ic, f_i3_i1, g_i3_i1, f_i3_i2, g_i3_i2, f_i3_ib, g_i3_ib, f_i3_ic, g_i3_ic, hi', hat', encPw, kx, kx2, kb, kb2]
        refine gall_intro fun i4 hi4 => ?_
        have f_i4_i1 : ¬ i4 = i1 := fun e => by rw [e] at hi4; simp [h3, h8, hA, h9, hB, h10, hC, h11, h12, h13, h14, h15, h16, h17, k1, k2, k3, delo, del, nab, nac, nbc, nba, nca, ncb, f_i1_ia, g_i1_ia, f_i1_ib, g_i1_ib, f_i1_ic, g_i1_ic, f_i2_i1, g_i2_i1, f_i2_ib, g_i2_ib, f_i2_ic, g_i2_ic, f_i3_i1, g_i3_i1, f_i3_i2, g_i3_i2, f_i3_ib, g_i3_ib, f_i3_ic, g_i3_ic] at hi4
        have g_i4_i1 : ¬ i1 = i4 := fun e => f_i4_i1 e.symm
        have f_i4_i2 : ¬ i4 = i2 := fun e => by rw [e] at hi4; simp [h3, h8, hA, h9, hB, h10, hC, h11, h12, h13, h14, h15, h16, h17, k1, k2, k3, delo, del, nab, nac, nbc, nba, nca, ncb, f_i1_ia, g_i1_ia, f_i1_ib, g_i1_ib, f_i1_ic, g_i1_ic, f_i2_i1, g_i2_i1, f_i2_ib, g_i2_ib, f_i2_ic, g_i2_ic, f_i3_i1, g_i3_i1, f_i3_i2, g_i3_i2, f_i3_ib, g_i3_ib, f_i3_ic, g_i3_ic] at hi4
        have g_i4_i2 : ¬ i2 = i4 := fun e => f_i4_i2 e.symm
        have f_i4_i3 : ¬ i4 = i3 := fun e => by rw [e] at hi4; simp [h3, h8, hA, h9, hB, h10, hC, h11, h12, h13, h14, h15, h16, h17, k1, k2, k3, delo, del, nab, nac, nbc, nba, nca, ncb, f_i1_ia, g_i1_ia, f_i1_ib, g_i1_ib, f_i1_ic, g_i1_ic, f_i2_i1, g_i2_i1, f_i2_ib, g_i2_ib, f_i2_ic, g_i2_ic, f_i3_i1, g_i3_i1, f_i3_i2, g_i3_i2, f_i3_ib, g_i3_ib, f_i3_ic, g_i3_ic] at hi4
        have g_i4_i3 : ¬ i3 = i4 := fun e => f_i4_i3 e.symm
        have f_i4_ic : ¬ i4 = ic := fun e => by rw [e] at hi4; simp [h3, h8, hA, h9, hB, h10, hC, h11, h12, h13, h14, h15, h16, h17, k1, k2, k3, delo, del, nab, nac, nbc, nba, nca, ncb, f_i1_ia, g_i1_ia, f_i1_ib, g_i1_ib, f_i1_ic, g_i1_ic, f_i2_i1, g_i2_i1, f_i2_ib, g_i2_ib, f_i2_ic, g_i2_ic, f_i3_i1, g_i3_i1, f_i3_i2, g_i3_i2, f_i3_ib, g_i3_ib, f_i3_ic, g_i3_ic, hC] at hi4
        have g_i4_ic : ¬ ic = i4 := fun e => f_i4_ic e.symm
        simp [-List.map_append, h3, h8, hA, h9, hB, h10, hC, h11, h12, h13, h14, h15, h16, h17, k1, k2, k3, delo, del, nab, nac, nbc, nba, nca, ncb, f_i1_ia, g_i1_ia, f_i1_ib, g_i1_ib, f_i1_ic, g_i1_ic, f_i2_i1, g_i2_i1, f_i2_ib, g_i2_ib, f_i2_ic, g_i2_ic, f_i3_i1, g_i3_i1, f_i3_i2, g_i3_i2, f_i3_ib, g_i3_ib, f_i3_ic, g_i3_ic, f_i4_i1, g_i4_i1, f_i4_i2, g_i4_i2, f_i4_i3, g_i4_i3, f_i4_ic, g_i4_ic, hi', hat', encPw, kx, kx2, kb, kb2]
        refine TWcH.regionD (ρ := []) [0, 1, 2, 3, 4, 5, 6, 7, 8, 9, 10, 11, 12] 13 mixed (by kernel_rfl) ?_
        simp [-List.map_append, h3, h8, hA, h9, hB, h10, hC, h11, h12, h13, h14, h15, h16, h17, k1, k2, k3, delo, del, nab, nac, nbc, nba, nca, ncb, f_i1_ia, g_i1_ia, f_i1_ib, g_i1_ib, f_i1_ic, g_i1_ic, f_i2_i1, g_i2_i1, f_i2_ib, g_i2_ib, f_i2_ic, g_i2_ic, f_i3_i1, g_i3_i1, f_i3_i2, g_i3_i2, f_i3_ib, g_i3_ib, f_i3_ic, g_i3_ic, f_i4_i1, g_i4_i1, f_i4_i2, g_i4_i2, f_i4_i3, g_i4_i3, f_i4_ic, g_i4_ic, hi', hat', encPw, kx, kb, kx2, kb2]
        refine gall_intro fun i5 hi5 => ?_
        have f_i5_i1 : ¬ i5 = i1 := fun e => by rw [e] at hi5; simp [h3, h8, hA, h9, hB, h10, hC, h11, h12, h13, h14, h15, h16, h17, k1, k2, k3, delo, del, nab, nac, nbc, nba, nca, ncb, f_i1_ia, g_i1_ia, f_i1_ib, g_i1_ib, f_i1_ic, g_i1_ic, f_i2_i1, g_i2_i1, f_i2_ib, g_i2_ib, f_i2_ic, g_i2_ic, f_i3_i1, g_i3_i1, f_i3_i2, g_i3_i2, f_i3_ib, g_i3_ib, f_i3_ic, g_i3_ic, f_i4_i1, g_i4_i1, f_i4_i2, g_i4_i2, f_i4_i3, g_i4_i3, f_i4_ic, g_i4_ic] at hi5
        have g_i5_i1 : ¬ i1 = i5 := fun e => f_i5_i1 e.symm
        have f_i5_i2 : ¬ i5 = i2 := fun e => by rw [e] at hi5; simp [h3, h8, hA, h9, hB, h10, hC, h11, h12, h13, h14, h15, h16, h17, k1, k2, k3, delo, del, nab, nac, nbc, nba, nca, ncb, f_i1_ia, g_i1_ia, f_i1_ib, g_i1_ib, f_i1_ic, g_i1_ic, f_i2_i1, g_i2_i1, f_i2_ib, g_i2_ib, f_i2_ic, g_i2_ic, f_i3_i1, g_i3_i1, f_i3_i2, g_i3_i2, f_i3_ib, g_i3_ib, f_i3_ic, g_i3_ic, f_i4_i1, g_i4_i1, f_i4_i2, g_i4_i2, f_i4_i3, g_i4_i3, f_i4_ic, g_i4_ic] at hi5
        have g_i5_i2 : ¬ i2 = i5 := fun e => f_i5_i2 e.symm
        have f_i5_i3 : ¬ i5 = i3 := fun e => by rw [e] at hi5; simp [h3, h8, hA, h9, hB, h10, hC, h11, h12, h13, h14, h15, h16, h17, k1, k2, k3, delo, del, nab, nac, nbc, nba, nca, ncb, f_i1_ia, g_i1_ia, f_i1_ib, g_i1_ib, f_i1_ic, g_i1_ic, f_i2_i1, g_i2_i1, f_i2_ib, g_i2_ib, f_i2_ic, g_i2_ic, f_i3_i1, g_i3_i1, f_i3_i2, g_i3_i2, f_i3_ib, g_i3_ib, f_i3_ic, g_i3_ic, f_i4_i1, g_i4_i1, f_i4_i2, g_i4_i2, f_i4_i3, g_i4_i3, f_i4_ic, g_i4_ic] at hi5
        have g_i5_i3 : ¬ i3 = i5 := fun e => f_i5_i3 e.symm
        have f_i5_i4 : ¬ i5 = i4 := fun e => by rw [e] at hi5; simp [h3, h8, hA, h9, hB, h10, hC, h11, h12, h13, h14, h15, h16, h17, k1, k2, k3, delo, del, nab, nac, nbc, nba, nca, ncb, f_i1_ia, g_i1_ia, f_i1_ib, g_i1_ib, f_i1_ic, g_i1_ic, f_i2_i1, g_i2_i1, f_i2_ib, g_i2_ib, f_i2_ic, g_i2_ic, f_i3_i1, g_i3_i1, f_i3_i2, g_i3_i2, f_i3_ib, g_i3_ib, f_i3_ic, g_i3_ic, f_i4_i1, g_i4_i1, f_i4_i2, g_i4_i2, f_i4_i3, g_i4_i3, f_i4_ic, g_i4_ic] at hi5
        have g_i5_i4 : ¬ i4 = i5 := fun e => f_i5_i4 e.symm
        have f_i5_ic : ¬ i5 = ic := fun e => by rw [e] at hi5; simp [h3, h8, hA, h9, hB, h10, hC, h11, h12, h13, h14, h15, h16, h17, k1, k2, k3, delo, del, nab, nac, nbc, nba, nca, ncb, f_i1_ia, g_i1_ia, f_i1_ib, g_i1_ib, f_i1_ic, g_i1_ic, f_i2_i1, g_i2_i1, f_i2_ib, g_i2_ib, f_i2_ic, g_i2_ic, f_i3_i1, g_i3_i1, f_i3_i2, g_i3_i2, f_i3_ib, g_i3_ib, f_i3_ic, g_i3_ic, f_i4_i1, g_i4_i1, f_i4_i2, g_i4_i2, f_i4_i3, g_i4_i3, f_i4_ic, g_i4_ic, hC] at hi5
        have g_i5_ic : ¬ ic = i5 := fun e => f_i5_ic e.symm
        simp [-List.map_append, h3, h8, hA, h9, hB, h10, hC, h11, h12, h13, h14, h15, h16, h17, k1, k2, k3, delo, del, nab, nac, nbc, nba, nca, ncb, f_i1_ia, g_i1_ia, f_i1_ib, g_i1_ib, f_i1_ic, g_i1_ic, f_i2_i1, g_i2_i1, f_i2_ib, g_i2_ib, f_i2_ic, g_i2_ic, f_i3_i1, g_i3_i1, f_i3_i2, g_i3_i2, f_i3_ib, g_i3_ib, f_i3_ic, g_i3_ic, f_i4_i1, g_i4_i1, f_i4_i2, g_i4_i2, f_i4_i3, g_i4_i3, f_i4_ic, g_i4_ic, f_i5_i1, g_i5_i1, f_i5_i2, g_i5_i2, f_i5_i3, g_i5_i3, f_i5_i4, g_i5_i4, f_i5_ic, g_i5_ic, hi', hat', encPw, kx, kx2, kb, kb2]
        refine gall_intro fun i6 hi6 => ?_
        have f_i6_i1 : ¬ i6 = i1 := fun e => by rw [e] at hi6; simp [h3, h8, hA, h9, hB, h10, hC, h11, h12, h13, h14, h15, h16, h17, k1, k2, k3, delo, del, nab, nac, nbc, nba, nca, ncb, f_i1_ia, g_i1_ia, f_i1_ib, g_i1_ib, f_i1_ic, g_i1_ic, f_i2_i1, g_i2_i1, f_i2_ib, g_i2_ib, f_i2_ic, g_i2_ic, f_i3_i1, g_i3_i1, f_i3_i2, g_i3_i2, f_i3_ib, g_i3_ib, f_i3_ic, g_i3_ic, f_i4_i1, g_i4_i1, f_i4_i2, g_i4_i2, f_i4_i3, g_i4_i3, f_i4_ic, g_i4_ic, f_i5_i1, g_i5_i1, f_i5_i2, g_i5_i2, f_i5_i3, g_i5_i3, f_i5_i4, g_i5_i4, f_i5_ic, g_i5_ic] at hi6
        have g_i6_i1 : ¬ i1 = i6 := fun e => f_i6_i1 e.symm
        have f_i6_i2 : ¬ i6 = i2 := fun e => by rw [e] at hi6; simp [h3, h8, hA, h9, hB, h10, hC, h11, h12, h13, h14, h15, h16, h17, k1, k2, k3, delo, del, nab, nac, nbc, nba, nca, ncb, f_i1_ia, g_i1_ia, f_i1_ib, g_i1_ib, f_i1_ic, g_i1_ic, f_i2_i1, g_i2_i1, f_i2_ib, g_i2_ib, f_i2_ic, g_i2_ic, f_i3_i1, g_i3_i1, f_i3_i2, g_i3_i2, f_i3_ib, g_i3_ib, f_i3_ic, g_i3_ic, f_i4_i1, g_i4_i1, f_i4_i2, g_i4_i2, f_i4_i3, g_i4_i3, f_i4_ic, g_i4_ic, f_i5_i1, g_i5_i1, f_i5_i2, g_i5_i2, f_i5_i3, g_i5_i3, f_i5_i4, g_i5_i4, f_i5_ic, g_i5_ic] at hi6
        have g_i6_i2 : ¬ i2 = i6 := fun e => f_i6_i2 e.symm
        have f_i6_i3 : ¬ i6 = i3 := fun e => by rw [e] at hi6; simp [h3, h8, hA, h9, hB, h10, hC, h11, h12, h13, h14, h15, h16, h17, k1, k2, k3, delo, del, nab, nac, nbc, nba, nca, ncb, f_i1_ia, g_i1_ia, f_i1_ib, g_i1_ib, f_i1_ic, g_i1_ic, f_i2_i1, g_i2_i1, f_i2_ib, g_i2_ib, f_i2_ic, g_i2_ic, f_i3_i1, g_i3_i1, f_i3_i2, g_i3_i2, f_i3_ib, g_i3_ib, f_i3_ic, g_i3_ic, f_i4_i1, g_i4_i1, f_i4_i2, g_i4_i2, f_i4_i3, g_i4_i3, f_i4_ic, g_i4_ic, f_i5_i1, g_i5_i1, f_i5_i2, g_i5_i2, f_i5_i3, g_i5_i3, f_i5_i4, g_i5_i4, f_i5_ic, g_i5_ic] at hi6
        have g_i6_i3 : ¬ i3 = i6 := fun e => f_i6_i3 e.symm
        have f_i6_i4 : ¬ i6 = i4 := fun e => by rw [e] at hi6; simp [h3, h8, hA, h9, hB, h10, hC, h11, h12, h13, h14, h15, h16, h17, k1, k2, k3, delo, del, nab, nac, nbc, nba, nca, ncb, f_i1_ia, g_i1_ia, f_i1_ib, g_i1_ib, f_i1_ic, g_i1_ic, f_i2_i1, g_i2_i1, f_i2_ib, g_i2_ib, f_i2_ic, g_i2_ic, f_i3_i1, g_i3_i1, f_i3_i2, g_i3_i2, f_i3_ib, g_i3_ib, f_i3_ic, g_i3_ic, f_i4_i1, g_i4_i1, f_i4_i2, g_i4_i2, f_i4_i3, g_i4_i3, f_i4_ic, g_i4_ic, f_i5_i1, g_i5_i1, f_i5_i2, g_i5_i2, f_i5_i3, g_i5_i3, f_i5_i4, g_i5_i4, f_i5_ic, g_i5_ic] at hi6
        have g_i6_i4 : ¬ i4 = i6 := fun e => f_i6_i4 e.symm
        have f_i6_i5 : ¬ i6 = i5 := fun e => by rw [e] at hi6; simp [h3, h8, hA, h9, hB, h10, hC, h11, h12, h13, h14, h15, h16, h17, k1, k2, k3, delo, del, nab, nac, nbc, nba, nca, ncb, f_i1_ia, g_i1_ia, f_i1_ib, g_i1_ib, f_i1_ic, g_i1_ic, f_i2_i1, g_i2_i1, f_i2_ib, g_i2_ib, f_i2_ic, g_i2_ic, f_i3_i1, g_i3_i1, f_i3_i2, g_i3_i2, f_i3_ib, g_i3_ib, f_i3_ic, g_i3_ic, f_i4_i1, g_i4_i1, f_i4_i2, g_i4_i2, f_i4_i3, g_i4_i3, f_i4_ic, g_i4_ic, f_i5_i1, g_i5_i1, f_i5_i2, g_i5_i2, f_i5_i3, g_i5_i3, f_i5_i4, g_i5_i4, f_i5_ic, g_i5_ic] at hi6
        have g_i6_i5 : ¬ i5 = i6 := fun e => f_i6_i5 e.symm
        have f_i6_ic : ¬ i6 = ic := fun e => by rw [e] at hi6; simp [h3, h8, hA, h9, hB, h10, hC, h11, h12, h13, h14, h15, h16, h17, k1, k2, k3, delo, del, nab, nac, nbc, nba, nca, ncb, f_i1_ia, g_i1_ia, f_i1_ib, g_i1_ib, f_i1_ic, g_i1_ic, f_i2_i1, g_i2_i1, f_i2_ib, g_i2_ib, f_i2_ic, g_i2_ic, f_i3_i1, g_i3_i1, f_i3_i2, g_i3_i2, f_i3_ib, g_i3_ib, f_i3_ic, g_i3_ic, f_i4_i1, g_i4_i1, f_i4_i2, g_i4_i2, f_i4_i3, g_i4_i3, f_i4_ic, g_i4_ic, f_i5_i1, g_i5_i1, f_i5_i2, g_i5_i2, f_i5_i3, g_i5_i3, f_i5_i4, g_i5_i4, f_i5_ic, g_i5_ic, hC] at hi6
        have g_i6_ic : ¬ ic = i6 := fun e => f_i6_ic e.symm
        simp [-List.map_append, h3, h8, hA, h9, hB, h10, hC, h11, h12, h13, h14, h15, h16, h17, k1, k2, k3, delo, del, nab, nac, nbc, nba, nca, ncb, f_i1_ia, g_i1_ia, f_i1_ib, g_i1_ib, f_i1_ic, g_i1_ic, f_i2_i1, g_i2_i1, f_i2_ib, g_i2_ib, f_i2_ic, g_i2_ic, f_i3_i1, g_i3_i1, f_i3_i2, g_i3_i2, f_i3_ib, g_i3_ib, f_i3_ic, g_i3_ic, f_i4_i1, g_i4_i1, f_i4_i2, g_i4_i2, f_i4_i3, g_i4_i3, f_i4_ic, g_i4_ic, f_i5_i1, g_i5_i1, f_i5_i2, g_i5_i2, f_i5_i3, g_i5_i3, f_i5_i4, g_i5_i4, f_i5_ic, g_i5_ic, f_i6_i1, g_i6_i1, f_i6_i2, g_i6_i2, f_i6_i3, g_i6_i3, f_i6_i4, g_i6_i4, f_i6_i5, g_i6_i5, f_i6_ic, g_i6_ic, hi', hat', encPw, kx, kx2, kb, kb2]
        refine gall_intro fun i7 hi7 => ?_
        have f_i7_i1 : ¬ i7 = i1 := fun e => by rw [e] at hi7; simp [h3, h8, hA, h9, hB, h10, hC, h11, h12, h13, h14, h15, h16, h17, k1, k2, k3, delo, del, nab, nac, nbc, nba, nca, ncb, f_i1_ia, g_i1_ia, f_i1_ib, g_i1_ib, f_i1_ic, g_i1_ic, f_i2_i1, g_i2_i1, f_i2_ib, g_i2_ib, f_i2_ic, g_i2_ic, f_i3_i1, g_i3_i1, f_i3_i2, g_i3_i2, f_i3_ib, g_i3_ib, f_i3_ic, g_i3_ic, f_i4_i1, g_i4_i1, f_i4_i2, g_i4_i2, f_i4_i3, g_i4_i3, f_i4_ic, g_i4_ic, f_i5_i1, g_i5_i1, f_i5_i2, g_i5_i2, f_i5_i3, g_i5_i3, f_i5_i4, g_i5_i4, f_i5_ic, g_i5_ic, f_i6_i1, g_i6_i1, f_i6_i2, g_i6_i2, f_i6_i3, g_i6_i3, f_i6_i4, g_i6_i4, f_i6_i5, g_i6_i5, f_i6_ic, g_i6_ic] at hi7
        have g_i7_i1 : ¬ i1 = i7 := fun e => f_i7_i1 e.symm
        have f_i7_i2 : ¬ i7 = i2 := fun e => by rw [e] at hi7; simp [h3, h8, hA, h9, hB, h10, hC, h11, h12, h13, h14, h15, h16, h17, k1, k2, k3, delo, del, nab, nac, nbc, nba, nca, ncb, f_i1_ia, g_i1_ia, f_i1_ib, g_i1_ib, f_i1_ic, g_i1_ic, f_i2_i1, g_i2_i1, f_i2_ib, g_i2_ib, f_i2_ic, g_i2_ic, f_i3_i1, g_i3_i1, f_i3_i2, g_i3_i2, f_i3_ib, g_i3_ib, f_i3_ic, g_i3_ic, f_i4_i1, g_i4_i1, f_i4_i2, g_i4_i2, f_i4_i3, g_i4_i3, f_i4_ic, g_i4_ic, f_i5_i1, g_i5_i1, f_i5_i2, g_i5_i2, f_i5_i3, g_i5_i3, f_i5_i4, g_i5_i4, f_i5_ic, g_i5_ic, f_i6_i1, g_i6_i1, f_i6_i2, g_i6_i2, f_i6_i3, g_i6_i3, f_i6_i4, g_i6_i4, f_i6_i5, g_i6_i5, f_i6_ic, g_i6_ic] at hi7
        have g_i7_i2 : ¬ i2 = i7 := fun e => f_i7_i2 e.symm
        have f_i7_i3 : ¬ i7 = i3 := fun e => by rw [e] at hi7; simp [h3, h8, hA, h9, hB, h10, hC, h11, h12, h13, h14, h15, h16, h17, k1, k2, k3, delo, del, nab, nac, nbc, nba, nca, ncb, f_i1_ia, g_i1_ia, f_i1_ib, g_i1_ib, f_i1_ic, g_i1_ic, f_i2_i1, g_i2_i1, f_i2_ib, g_i2_ib, f_i2_ic, g_i2_ic, f_i3_i1, g_i3_i1, f_i3_i2, g_i3_i2, f_i3_ib, g_i3_ib, f_i3_ic, g_i3_ic, f_i4_i1, g_i4_i1, f_i4_i2, g_i4_i2, f_i4_i3, g_i4_i3, f_i4_ic, g_i4_ic, f_i5_i1, g_i5_i1, f_i5_i2, g_i5_i2, f_i5_i3, g_i5_i3, f_i5_i4, g_i5_i4, f_i5_ic, g_i5_ic, f_i6_i1, g_i6_i1, f_i6_i2, g_i6_i2, f_i6_i3, g_i6_i3, f_i6_i4, g_i6_i4, f_i6_i5, g_i6_i5, f_i6_ic, g_i6_ic] at hi7
        have g_i7_i3 : ¬ i3 = i7 := fun e => f_i7_i3 e.symm
        have f_i7_i4 : ¬ i7 = i4 := fun e => by rw [e] at hi7; simp [h3, h8, hA, h9, hB, h10, hC, h11, h12, h13, h14, h15, h16, h17, k1, k2, k3, delo, del, nab, nac, nbc, nba, nca, ncb, f_i1_ia, g_i1_ia, f_i1_ib, g_i1_ib, f_i1_ic, g_i1_ic, f_i2_i1, g_i2_i1, f_i2_ib, g_i2_ib, f_i2_ic, g_i2_ic, f_i3_i1, g_i3_i1, f_i3_i2, g_i3_i2, f_i3_ib, g_i3_ib, f_i3_ic, g_i3_ic, f_i4_i1, g_i4_i1, f_i4_i2, g_i4_i2, f_i4_i3, g_i4_i3, f_i4_ic, g_i4_ic, f_i5_i1, g_i5_i1, f_i5_i2, g_i5_i2, f_i5_i3, g_i5_i3, f_i5_i4, g_i5_i4, f_i5_ic, g_i5_ic, f_i6_i1, g_i6_i1, f_i6_i2, g_i6_i2, f_i6_i3, g_i6_i3, f_i6_i4, g_i6_i4, f_i6_i5, g_i6_i5, f_i6_ic, g_i6_ic] at hi7
        have g_i7_i4 : ¬ i4 = i7 := fun e => f_i7_i4 e.symm
        have f_i7_i5 : ¬ i7 = i5 := fun e => by rw [e] at hi7; simp [h3, h8, hA, h9, hB, h10, hC, h11, h12, h13, h14, h15, h16, h17, k1, k2, k3, delo, del, nab, nac, nbc, nba, nca, ncb, f_i1_ia, g_i1_ia, f_i1_ib, g_i1_ib, f_i1_ic, g_i1_ic, f_i2_i1, g_i2_i1, f_i2_ib, g_i2_ib, f_i2_ic, g_i2_ic, f_i3_i1, g_i3_i1, f_i3_i2, g_i3_i2, f_i3_ib, g_i3_ib, f_i3_ic, g_i3_ic, f_i4_i1, g_i4_i1, f_i4_i2, g_i4_i2, f_i4_i3, g_i4_i3, f_i4_ic, g_i4_ic, f_i5_i1, g_i5_i1, f_i5_i2, g_i5_i2, f_i5_i3, g_i5_i3, f_i5_i4, g_i5_i4, f_i5_ic, g_i5_ic, f_i6_i1, g_i6_i1, f_i6_i2, g_i6_i2, f_i6_i3, g_i6_i3, f_i6_i4, g_i6_i4, f_i6_i5, g_i6_i5, f_i6_ic, g_i6_ic] at hi7
        have g_i7_i5 : ¬ i5 = i7 := fun e => f_i7_i5 e.symm
        have f_i7_i6 : ¬ i7 = i6 := fun e => by rw [e] at hi7; simp [h3, h8, hA, h9, hB, h10, hC, h11, h12, h13, h14, h15, h16, h17, k1, k2, k3, delo, del, nab, nac, nbc, nba, nca, ncb, f_i1_ia, g_i1_ia, f_i1_ib, g_i1_ib, f_i1_ic, g_i1_ic, f_i2_i1, g_i2_i1, f_i2_ib, g_i2_ib, f_i2_ic, g_i2_ic, f_i3_i1, g_i3_i1, f_i3_i2, g_i3_i2, f_i3_ib, g_i3_ib, f_i3_ic, g_i3_ic, f_i4_i1, g_i4_i1, f_i4_i2, g_i4_i2, f_i4_i3, g_i4_i3, f_i4_ic, g_i4_ic, f_i5_i1, g_i5_i1, f_i5_i2, g_i5_i2, f_i5_i3, g_i5_i3, f_i5_i4, g_i5_i4, f_i5_ic, g_i5_ic, f_i6_i1, g_i6_i1, f_i6_i2, g_i6_i2, f_i6_i3, g_i6_i3, f_i6_i4, g_i6_i4, f_i6_i5, g_i6_i5, f_i6_ic, g_i6_ic] at hi7
        have g_i7_i6 : ¬ i6 = i7 := fun e => f_i7_i6 e.symm
        simp [-List.map_append, h3, h8, hA, h9, hB, h10, hC, h11, h12, h13, h14, h15, h16, h17, k1, k2, k3, delo, del, nab, nac, nbc, nba, nca, ncb, f_i1_ia, g_i1_ia, f_i1_ib, g_i1_ib, f_i1_ic, g_i1_ic, f_i2_i1, g_i2_i1, f_i2_ib, g_i2_ib, f_i2_ic, g_i2_ic, f_i3_i1, g_i3_i1, f_i3_i2, g_i3_i2, f_i3_ib, g_i3_ib, f_i3_ic, g_i3_ic, f_i4_i1, g_i4_i1, f_i4_i2, g_i4_i2, f_i4_i3, g_i4_i3, f_i4_ic, g_i4_ic, f_i5_i1, g_i5_i1, f_i5_i2, g_i5_i2, f_i5_i3, g_i5_i3, f_i5_i4, g_i5_i4, f_i5_ic, g_i5_ic, f_i6_i1, g_i6_i1, f_i6_i2, g_i6_i2, f_i6_i3, g_i6_i3, f_i6_i4, g_i6_i4, f_i6_i5, g_i6_i5, f_i6_ic, g_i6_ic, f_i7_i1, g_i7_i1, f_i7_i2, g_i7_i2, f_i7_i3, g_i7_i3, f_i7_i4, g_i7_i4, f_i7_i5, g_i7_i5, f_i7_i6, g_i7_i6, hi', hat', encPw, kx, kx2, kb, kb2]
        exact ⟨m' - 1, by omega, k + 1, by omega, PS, hstep, hstep2, hR, rfl, by rw [hsd]; simp [encPs, encI], by rw [hsd]; simp [encPt, encI], by rw [hsd]; simp [encPw], hwk⟩
    · rw [roundP_end hk] at hR
      subst hR
      simp [h3, h8, hA, h9, hB, h10, hC, h11, h12, hk, encDfa, hw]
      exact ⟨m, by omega, i + 1, by omega, _, hI', hG, rfl, rfl, rfl, nab, nac, nbc, by omega⟩
  · rw [twoGo_end hi] at hG
    simp [h3, h8, hA, h9, hB, h10, hC, h11, hi, ← hG]
end Go.Proofs.Ytigmibfacllhmaa.R

open Go Go.Proofs.Ytigmibfacllhmaa.T
namespace Go.Proofs.Ytigmibfacllhmaa.R
set_option maxHeartbeats 4000000
set_option maxRecDepth 100000
set_option linter.unusedSimpArgs false
set_option linter.unusedVariables false
attribute [local simp] bsV bsRows chunk fillT partsT appV makeV rowsOf cellsOf placeOf

theorem tc_iSetFirst (p : List (Int × Int)) (hl : p.length ≤ 1152921504606846976) : TC Try.prog 71 [.ro (p.map encS)] [] (.val (.int .i64 (firstS p))) [] := by
  refine TC.enter Try.func71 rfl (by simp [Try.ntmps71]) rfl (tw_sound (ρ := []) ?_)
  rw [Try.ntmps71]
  simp
  refine TWoH.callV (tc_bitsOf p hl) callable_106 (by simp) (by simp) (by simp) (by simp) ?_
  simp
  refine TWcH.loop [] (fun m s => ∃ i : Nat, i + m = 256 ∧ s.σ 6 = .agg (bitsT fun b => hasS p b) ∧ s.σ 7 = .val (.int .i64 i) ∧ firstS p = firstG (fun b => hasS p b) i) 256 ⟨0, by simp [firstS]⟩ ?_
  rintro m ⟨σ, H⟩ ⟨i, him, h6, h7, hh⟩
  simp only at h6 h7
  by_cases hi : i < 256
  · have hw : IntKind.i64.wrap ((i : Int) + 1) = i + 1 := wrapi (by omega)
    have hi2 : (i : Int) < 256 := by omega
    rw [firstG_next hi] at hh
    simp [h6, h7, hi, hi2, bitsT_at hi, bitsT_at', partTV]
    refine gif_intro (fun c => ?_) (fun c => ?_) <;> simp [h6, h7, hi2, c, hw]
    · rw [hh, if_pos c]
    · exact ⟨m - 1, by omega, i + 1, by omega, by omega, by rw [hh, if_neg c]⟩
  · obtain rfl : i = 256 := by omega
    simp [h6, h7, hh, firstG_end]
theorem tc_iAccOf (d : Dfa) (ho : DOk d) (s : Int) (hlt : s < d.rows.length) : TC Try.prog 70 [.agg (encDfa d), .val (.int .i64 s)] [] (.val (.int .i64 (acI d s))) [] := by
  refine TC.enter Try.func70 rfl (by simp [Try.ntmps70]) rfl (tw_sound (ρ := [2]) ?_)
  rw [Try.ntmps70]
  by_cases c : s < 0
  · simp [c, acI]
  have h0 : 0 ≤ s := by omega
  have hn : s.toNat < d.acc.length := by rw [ho.acc]; omega
  have hi : s < d.acc.length := by omega
  have hr : ∀ h, d.acc[s.toNat]'h = ac_ d s.toNat := fun _ => (ac_eq hn).symm
  simp [c, acI, encDfa, h0, hn, hi, hr, encI]
theorem tc_next (d : Dfa) (hs : DSm d) (ho : DOk d) (s : Int) (k : Nat) (hlt : s < d.rows.length) (hk : k < d.parts.length) : TC Try.prog 69 [.val (.int .i64 s), .val (.int .i64 k), .rptr (encDfa d) 0] [] (.val (.int .i64 (nx d s k))) [] := by
  refine TC.enter Try.func69 rfl (by simp [Try.ntmps69]) rfl (tw_sound (ρ := []) ?_)
  rw [Try.ntmps69]
  by_cases c : s < 0
  · simp [c, nx, encDfa]
  have h0 : 0 ≤ s := by omega
  have hn : s.toNat < d.rows.length := by omega
  have hr : ∀ h, d.rows[s.toNat]'h = rw_ d s.toNat := fun _ => (rw_eq hn).symm
  have hkr : k < (rw_ d s.toNat).length := by rw [ho.row _ hn]; exact hk
  simp [c, nx, encDfa, h0, hn, hlt, hr, encR, encI, hkr, getI hkr]
def encPr (p : Pr) : List TV := [.val (.int .i64 p.s), .val (.int .i64 p.t), .val (.string (bs p.w))]
def keyP (p : Pr) : Value := .agg #[.int .i64 p.s, .int .i64 p.t]
def seenP (ps : List Pr) : List (Value × Value) := ps.map fun p => (keyP p, .bool true)
theorem two87 : KLaw Try.prog 87 IsTwo := KLaw.two Try.underlying87 Try.underlying3 (by kernel_rfl) (fun w => by exact Try.isAgg3 w)
theorem seenP_two {ps : List Pr} : ∀ q ∈ seenP ps, IsTwo q.1 := by
  intro q hq
  obtain ⟨p, _, rfl⟩ := List.mem_map.1 hq
  exact ⟨_, _, rfl⟩
theorem seenP_hit {ps : List Pr} {x y : Int} (h : hadP ps x y = true) : ∃ q ∈ seenP ps, q.1 = .agg #[.int .i64 x, .int .i64 y] := by
  unfold hadP at h
  obtain ⟨p, hp, h⟩ := List.any_eq_true.1 h
  simp only [Bool.and_eq_true, decide_eq_true_eq] at h
  exact ⟨(keyP p, .bool true), List.mem_map.2 ⟨p, hp, rfl⟩, by simp [keyP, h]⟩
theorem seenP_miss {ps : List Pr} {x y : Int} (h : hadP ps x y = false) : ∀ q ∈ seenP ps, q.1 ≠ .agg #[.int .i64 x, .int .i64 y] := by
  intro q hq e
  obtain ⟨p, hp, rfl⟩ := List.mem_map.1 hq
  simp only [keyP, Value.agg.injEq] at e
  refine hadP_false h p hp ?_
  simpa using e
theorem seenP_val {ps : List Pr} {k : Value} : ∀ q ∈ seenP ps, q.1 = k → q.2 = .bool true := by
  intro q hq _
  obtain ⟨p, hp, rfl⟩ := List.mem_map.1 hq
  rfl
theorem tc_iLeastTwo (d : Dfa) (hs : DSm d) (s t : Int) : TC Try.prog 23 [.agg (encDfa d), .val (.int .i64 s), .val (.int .i64 t)] [] (.tup [.val (.bool (twoF d s t).1), .val (.string (bs (twoF d s t).2))]) [] := by
  refine TC.enter Try.func23 rfl (by simp [Try.ntmps23]) rfl (tw_sound (ρ := [3]) ?_)
  rw [Try.ntmps23]
  simp
  refine TWoH.callV (tc_iDfaOk d hs) callable_59 (by simp) (by simp) (by simp) (by simp) ?_
  cases c1 : dfaOk d
  · have hr : twoF d s t = (false, []) := by simp [twoF, c1]
    simp [hr]
  have ho := dok_of c1
  have hmost := ho.most
  have hone := ho.one
  have hw1 : IntKind.i64.wrap ((d.rows.length : Int) - 1) = d.rows.length - 1 := wrapi (by omega)
  simp [encDfa, hw1]
  refine TWoH.callV (tc_in s 0 (d.rows.length - 1)) callable_64 (by simp [hw1]) (by simp) (by simp) (by simp) ?_
  by_cases c2 : 0 ≤ s ∧ s ≤ (d.rows.length : Int) - 1
  case neg =>
    have hr : twoF d s t = (false, []) := by unfold twoF; rw [if_neg (by omega)]
    simp [hr, c2]
  simp [c2, hw1]
  refine TWoH.callV (tc_in t 0 (d.rows.length - 1)) callable_64 (by simp [hw1]) (by simp) (by simp) (by simp) ?_
  by_cases c4 : 0 ≤ t ∧ t ≤ (d.rows.length : Int) - 1
  case neg =>
    have hr : twoF d s t = (false, []) := by unfold twoF; rw [if_neg (by omega)]
    simp [hr, c2, c4]
  have c3' : 0 ≤ s ∧ s < d.rows.length := by omega
  have c5' : 0 ≤ t ∧ t < d.rows.length := by omega
  have hr : twoF d s t = twoGo d 1682 0 [⟨s, t, []⟩] := by unfold twoF; rw [if_pos ⟨c1, c3', c5'⟩]
  rw [hr]
  simp [c2, c4]
  refine TWoH.makeFunc ?_
  simp
  refine gall_intro fun ia hia => ?_
  simp
  refine TWoH.makeMap fun ib hib => ?_
  have nba : ¬ ib = ia := fun e => by rw [e] at hib; simp at hib
  have nab : ¬ ia = ib := fun e => nba e.symm
  simp [nab, nba]
  refine TWoH.insert ib [] (.agg #[.int .i64 s, .int .i64 t]) (.bool true) two87 Try.underlying88 (by simp) (by simp [nab, nba]) (by simp) ⟨s, t, rfl⟩ (by simp) (by simp) (by simp) ?_
  simp [nab, nba]
  refine TWcH.loop [3] (fun m st => ∃ (i : Nat) (ps : List Pr) (ia ib : Nat), i + m = 1682 ∧ PInv d ps ∧ twoGo d m i ps = twoGo d 1682 0 [⟨s, t, []⟩] ∧ st.σ 3 = .rptr (encDfa d) 0 ∧ st.σ 8 = .clo 69 [.rptr (encDfa d) 0] ∧ st.σ 9 = .hd ia ∧ st.H ia = some (.own 85 (ps.map encPr)) ∧ st.σ 10 = .hd ib ∧ st.H ib = some (.mp 88 (seenP ps)) ∧ ia ≠ ib ∧ st.σ 11 = .val (.int .i64 i)) 1682 ⟨0, [⟨s, t, []⟩], ia, ib, by simp [encDfa, encPr, seenP, keyP, nab, nba, PInv.start c3' c5']⟩ ?_
  clear nab nba hia hib
  clear ia ib
  rintro m ⟨σ, H⟩ ⟨i, ps, ia, ib, him, hI, hG, h3, h8, h9, hA, h10, hB, nab, h11⟩
  simp only at h3 h8 h9 hA h10 hB h11
  have hlen := hI.len ho
  have nba : ¬ ib = ia := fun e => nab e.symm
  by_cases hi : i < ps.length
  · have hw : IntKind.i64.wrap ((i : Int) + 1) = i + 1 := wrapi (by omega)
    obtain ⟨x, hx⟩ : ∃ x, ps[i]? = some x := ⟨ps[i], getI hi⟩
    have hat : ∀ h, ps[i]'h = x := fun h => by rw [getI h] at hx; simpa using hx
    have hxm := List.mem_of_getElem? hx
    have hxr := hI.rng x hxm
    obtain ⟨m, rfl⟩ : ∃ m', m = m' + 1 := ⟨m - 1, by omega⟩
    rw [twoGo_next hx] at hG
    simp [-List.map_append, h3, h8, h9, hA, h10, hB, h11, hi, hat, nab, nba, encPr]
    refine gall_intro fun ic hic => ?_
    have nca : ¬ ic = ia := fun e => by rw [e, hA] at hic; cases hic
    have ncb : ¬ ic = ib := fun e => by rw [e, hB] at hic; cases hic
    have nac : ¬ ia = ic := fun e => nca e.symm
    have nbc : ¬ ib = ic := fun e => ncb e.symm
    simp [-List.map_append, h3, h8, h9, hA, h10, hB, h11, hi, hat, nab, nba, nca, ncb, nac, nbc, encPr]
    refine TWcH.regionD (ρ := []) [0, 1, 2, 4, 5, 6, 3, 7, 8] 9 mixed (by kernel_rfl) ?_
    simp [-List.map_append, h3, h8, h9, hA, h10, hB, h11, nab, nba, nca, ncb, nac, nbc, encDfa]
    refine TWqH.callV (tc_iAccOf d ho x.s hxr.1.2) callable_70 (by simp [encDfa]) (by simp) (by simp) (by simp) ?_
    simp [-List.map_append, h3, h8, h9, hA, h10, hB, h11, nab, nba, nca, ncb, nac, nbc, encDfa]
    refine TWqH.callV (tc_iAccOf d ho x.t hxr.2.2) callable_70 (by simp [encDfa]) (by simp) (by simp) (by simp) ?_
    simp [-List.map_append, h3, h8, h9, hA, h10, hB, h11, nab, nba, nca, ncb, nac, nbc, encDfa]
    refine gif_intro (fun c6 => ?_) (fun c6 => ?_)
    case refine_2 =>
      rw [if_neg c6] at hG
      simp [c6]
      refine TWcH.regionD (ρ := []) [0, 1, 2, 3] 4 mixed (by kernel_rfl) ?_
      simp [-List.map_append, h3, h8, h9, hA, h10, hB, h11, nab, nba, nca, ncb, nac, nbc, ← hG]
    rw [if_pos c6] at hG
    simp [-List.map_append, c6, h3, h8, h9, hA, h10, hB, h11, nab, nba, nca, ncb, nac, nbc, encDfa]
    refine TWcH.loop [3] (fun m' st => ∃ (k : Nat) (ps' : List Pr) (ia : Nat), k + m' = d.parts.length ∧ PInv d ps' ∧ ps'[i]? = some x ∧ roundP d x k ps' = roundP d x 0 ps ∧ st.σ 3 = .rptr (encDfa d) 0 ∧ st.σ 8 = .clo 69 [.rptr (encDfa d) 0] ∧ st.σ 9 = .hd ia ∧ st.H ia = some (.own 85 (ps'.map encPr)) ∧ st.σ 10 = .hd ib ∧ st.H ib = some (.mp 88 (seenP ps')) ∧ st.σ 12 = .pd ic 0 0 0 ∧ st.H ic = some (.box 85 (encPr x)) ∧ ia ≠ ib ∧ ia ≠ ic ∧ st.σ 11 = .val (.int .i64 i) ∧ st.σ 70 = .ro (d.parts.map encP) ∧ st.σ 71 = .val (.int .i64 d.parts.length) ∧ st.σ 72 = .val (.int .i64 k)) d.parts.length ⟨0, ps, ia, by simp [h3, h8, h9, hA, h10, hB, h11, nab, nba, nca, ncb, nac, nbc, hI, hx, encDfa, encPr]⟩ ?_
    clear h3 h8 h9 hA h10 hB h11 nab nba nca nac hic
    clear ia σ H
    rintro m' ⟨σ, H⟩ ⟨k, ps', ia, hkm, hI', hx', hR, h3, h8, h9, hA, h10, hB, h12, hC, nab, nac, h11, h70, h71, h72⟩
    simp only at h3 h8 h9 hA h10 hB h12 hC h11 h70 h71 h72
    have hlen' := hI'.len ho
    have nba : ¬ ib = ia := fun e => nab e.symm
    have nca : ¬ ic = ia := fun e => nac e.symm
    have hpl := hs.parts
    have hxm' := List.mem_of_getElem? hx'
    by_cases hk : k < d.parts.length
    · have hwk : IntKind.i64.wrap ((k : Int) + 1) = k + 1 := wrapi (by omega)
      have hp : ∀ h, d.parts[k]'h = pt d.parts k := fun _ => (pt_eq hk).symm
      have hpkl : (pt d.parts k).length ≤ 1048576 := by rw [pt_eq hk]; exact hs.part _ (List.getElem_mem hk)
      obtain ⟨b, hb, hfb, _⟩ := first_part ho hk
      rw [roundP_next hk] at hR
      simp [-List.map_append, h3, h8, h9, hA, h10, hB, h12, hC, h11, h70, h71, h72, nab, nba, nca, ncb, nac, nbc, hk, encDfa, hp, encP]
      refine TWcH.regionD (ρ := []) [0, 1, 2, 3, 5, 6, 7, 8, 4, 9, 10, 11] 12 mixed (by kernel_rfl) ?_
      simp [-List.map_append, h3, h8, h9, hA, h10, hB, h12, hC, h11, h70, h71, h72, nab, nba, nca, ncb, nac, nbc, encPr]
      refine TWqH.callClo (c := 77) (f := 69) (caps := [.rptr (encDfa d) 0]) (by simp [-List.map_append, h3, h8, h9, hA, h10, hB, h12, hC, h11, h70, h71, h72, nab, nba, nca, ncb, nac, nbc, encDfa]) (tc_next d hs ho x.s k hxr.1.2 hk) callable_69 (by simp [-List.map_append, h3, h8, h9, hA, h10, hB, h12, hC, h11, h70, h71, h72, nab, nba, nca, ncb, nac, nbc, encPr, encDfa]) (by simp) (by simp) (by simp) ?_
      simp [-List.map_append, h3, h8, h9, hA, h10, hB, h12, hC, h11, h70, h71, h72, nab, nba, nca, ncb, nac, nbc, encPr]
      refine TWqH.callClo (c := 82) (f := 69) (caps := [.rptr (encDfa d) 0]) (by simp [-List.map_append, h3, h8, h9, hA, h10, hB, h12, hC, h11, h70, h71, h72, nab, nba, nca, ncb, nac, nbc, encDfa]) (tc_next d hs ho x.t k hxr.2.2 hk) callable_69 (by simp [-List.map_append, h3, h8, h9, hA, h10, hB, h12, hC, h11, h70, h71, h72, nab, nba, nca, ncb, nac, nbc, encPr, encDfa]) (by simp) (by simp) (by simp) ?_
      simp [-List.map_append, h3, h8, h9, hA, h10, hB, h12, hC, h11, h70, h71, h72, nab, nba, nca, ncb, nac, nbc, encPr]
      have hstep := hI'.step ho hxm' hk
      have hstep2 : (stepK d x ps' k)[i]? = some x := stepK_at hx'
      have hsd : stepK d x ps' k = if hadP ps' (nx d x.s k) (nx d x.t k) = true then ps' else ps' ++ [⟨nx d x.s k, nx d x.t k, x.w ++ [fb d k]⟩] := rfl
      have hfb2 : fb d k = UInt8.ofNat b := by unfold fb; rw [hfb]; simp
      rw [hfb2] at hsd
      generalize stepK d x ps' k = PS at hsd hstep hstep2 hR
      generalize nx d x.s k = X at hsd ⊢
      generalize nx d x.t k = Y at hsd ⊢
      cases c7 : hadP ps' X Y
      case true =>
        rw [c7] at hsd
        simp only [if_true] at hsd
        subst hsd
        refine TWoH.lookupHit ib (seenP PS) (.agg #[.int .i64 X, .int .i64 Y]) (.bool true) two87 Try.underlying88 (by simp [-List.map_append, h3, h8, h9, hA, h10, hB, h12, hC, h11, h70, h71, h72, nab, nba, nca, ncb, nac, nbc]) (by simp [-List.map_append, h3, h8, h9, hA, h10, hB, h12, hC, h11, h70, h71, h72, nab, nba, nca, ncb, nac, nbc]) (by simp) ⟨X, Y, rfl⟩ seenP_two (seenP_hit c7) seenP_val ?_
        simp [-List.map_append, h3, h8, h9, hA, h10, hB, h12, hC, h11, h70, h71, h72, nab, nba, nca, ncb, nac, nbc, hwk]
        exact ⟨m' - 1, by omega, k + 1, by omega, PS, hstep, hstep2, hR, by simp [encPr, encDfa]⟩
      rw [c7] at hsd
      simp only [Bool.false_eq_true, if_false] at hsd
      refine TWoH.lookupMiss ib (seenP ps') (.agg #[.int .i64 X, .int .i64 Y]) (.bool false) two87 Try.underlying88 (by kernel_rfl) (by simp [-List.map_append, h3, h8, h9, hA, h10, hB, h12, hC, h11, h70, h71, h72, nab, nba, nca, ncb, nac, nbc]) (by simp [-List.map_append, h3, h8, h9, hA, h10, hB, h12, hC, h11, h70, h71, h72, nab, nba, nca, ncb, nac, nbc]) (by simp) ⟨X, Y, rfl⟩ seenP_two (seenP_miss c7) ?_
      simp [-List.map_append, h3, h8, h9, hA, h10, hB, h12, hC, h11, h70, h71, h72, nab, nba, nca, ncb, nac, nbc]
      refine TWoH.mapUpdate ib (seenP ps') (.agg #[.int .i64 X, .int .i64 Y]) (.bool true) two87 Try.underlying88 (by simp [-List.map_append, h3, h8, h9, hA, h10, hB, h12, hC, h11, h70, h71, h72, nab, nba, nca, ncb, nac, nbc]) (by simp [-List.map_append, h3, h8, h9, hA, h10, hB, h12, hC, h11, h70, h71, h72, nab, nba, nca, ncb, nac, nbc]) (by simp) ⟨X, Y, rfl⟩ seenP_two (seenP_miss c7) (by simp) ?_
      simp [-List.map_append, h3, h8, h9, hA, h10, hB, h12, hC, h11, h70, h71, h72, nab, nba, nca, ncb, nac, nbc]
      have hwl := hI'.wl x hxm'
      have kx : x.w.length ≤ 9223372036854775806 := by omega
      have kx2 : ¬ (9223372036854775807 : Int) < x.w.length + 1 := by omega
      have kb2 : (b : Int).toNat = b := by omega
      have kb : IntKind.u8.wrap (b : Int) = b := by unfold IntKind.wrap; simp [IntKind.bits, IntKind.signed]; omega
      have k1 : (ps'.length + 1) * 32 ≤ 140737488355328 := by omega
      have k2 : ps'.length ≤ 9223372036854775806 := by omega
      refine TWcH.regionD (ρ := []) [0, 1, 2, 3, 4, 5, 6, 7, 8, 9, 10, 11, 12, 13, 14] 15 mixed (by kernel_rfl) ?_
      simp [-List.map_append, h3, h8, h9, hA, h10, hB, h12, hC, h11, h70, h71, h72, nab, nba, nca, ncb, nac, nbc, encPr]
      refine TWqH.callV (tc_iSetFirst (pt d.parts k) (by omega)) callable_71 (by simp [-List.map_append, h3, h8, h9, hA, h10, hB, h12, hC, h11, h70, h71, h72, nab, nba, nca, ncb, nac, nbc, encP]) (by simp) (by simp) (by simp) ?_
      rw [hfb]
      simp [-List.map_append, h3, h8, h9, hA, h10, hB, h12, hC, h11, h70, h71, h72, nab, nba, nca, ncb, nac, nbc, encPr, kb, kb2, kx, kx2, k1, k2]
      refine gall_intro fun i1 hi1 => ?_
      have f_i1_ia : ¬ i1 = ia := fun e => by rw [e] at hi1; simp [delo, del, -List.map_append, h3, h8, h9, hA, h10, hB, h12, hC, h11, h70, h71, h72, nab, nba, nca, ncb, nac, nbc, encPr, kb, kb2, kx, kx2, k1, k2, hA] at hi1
      have g_i1_ia : ¬ ia = i1 := fun e => f_i1_ia e.symm
      have f_i1_ib : ¬ i1 = ib := fun e => by rw [e] at hi1; simp [delo, del, -List.map_append, h3, h8, h9, hA, h10, hB, h12, hC, h11, h70, h71, h72, nab, nba, nca, ncb, nac, nbc, encPr, kb, kb2, kx, kx2, k1, k2, hB] at hi1
      have g_i1_ib : ¬ ib = i1 := fun e => f_i1_ib e.symm
      have f_i1_ic : ¬ i1 = ic := fun e => by rw [e] at hi1; simp [delo, del, -List.map_append, h3, h8, h9, hA, h10, hB, h12, hC, h11, h70, h71, h72, nab, nba, nca, ncb, nac, nbc, encPr, kb, kb2, kx, kx2, k1, k2, hC] at hi1
      have g_i1_ic : ¬ ic = i1 := fun e => f_i1_ic e.symm
      simp [delo, del, -List.map_append, h3, h8, h9, hA, h10, hB, h12, hC, h11, h70, h71, h72, nab, nba, nca, ncb, nac, nbc, encPr, kb, kb2, kx, kx2, k1, k2, f_i1_ia, g_i1_ia, f_i1_ib, g_i1_ib, f_i1_ic, g_i1_ic]
      refine gall_intro fun i2 hi2 => ?_
      have f_i2_i1 : ¬ i2 = i1 := fun e => by rw [e] at hi2; simp [delo, del, -List.map_append, h3, h8, h9, hA, h10, hB, h12, hC, h11, h70, h71, h72, nab, nba, nca, ncb, nac, nbc, encPr, kb, kb2, kx, kx2, k1, k2, f_i1_ia, g_i1_ia, f_i1_ib, g_i1_ib, f_i1_ic, g_i1_ic] at hi2
      have g_i2_i1 : ¬ i1 = i2 := fun e => f_i2_i1 e.symm
      have f_i2_ia : ¬ i2 = ia := fun e => by rw [e] at hi2; simp [delo, del, -List.map_append, h3, h8, h9, hA, h10, hB, h12, hC, h11, h70, h71, h72, nab, nba, nca, ncb, nac, nbc, encPr, kb, kb2, kx, kx2, k1, k2, f_i1_ia, g_i1_ia, f_i1_ib, g_i1_ib, f_i1_ic, g_i1_ic, hA] at hi2
      have g_i2_ia : ¬ ia = i2 := fun e => f_i2_ia e.symm
      have f_i2_ib : ¬ i2 = ib := fun e => by rw [e] at hi2; simp [delo, del, -List.map_append, h3, h8, h9, hA, h10, hB, h12, hC, h11, h70, h71, h72, nab, nba, nca, ncb, nac, nbc, encPr, kb, kb2, kx, kx2, k1, k2, f_i1_ia, g_i1_ia, f_i1_ib, g_i1_ib, f_i1_ic, g_i1_ic, hB] at hi2
      have g_i2_ib : ¬ ib = i2 := fun e => f_i2_ib e.symm
      have f_i2_ic : ¬ i2 = ic := fun e => by rw [e] at hi2; simp [delo, del, -List.map_append, h3, h8, h9, hA, h10, hB, h12, hC, h11, h70, h71, h72, nab, nba, nca, ncb, nac, nbc, encPr, kb, kb2, kx, kx2, k1, k2, f_i1_ia, g_i1_ia, f_i1_ib, g_i1_ib, f_i1_ic, g_i1_ic, hC] at hi2
      have g_i2_ic : ¬ ic = i2 := fun e => f_i2_ic e.symm
      simp [delo, del, -List.map_append, h3, h8, h9, hA, h10, hB, h12, hC, h11, h70, h71, h72, nab, nba, nca, ncb, nac, nbc, encPr, kb, kb2, kx, kx2, k1, k2, f_i1_ia, g_i1_ia, f_i1_ib, g_i1_ib, f_i1_ic, g_i1_ic, f_i2_i1, g_i2_i1, f_i2_ia, g_i2_ia, f_i2_ib, g_i2_ib, f_i2_ic, g_i2_ic]
      refine gall_intro fun i3 hi3 => ?_
      have f_i3_i1 : ¬ i3 = i1 := fun e => by rw [e] at hi3; simp [delo, del, -List.map_append, h3, h8, h9, hA, h10, hB, h12, hC, h11, h70, h71, h72, nab, nba, nca, ncb, nac, nbc, encPr, kb, kb2, kx, kx2, k1, k2, f_i1_ia, g_i1_ia, f_i1_ib, g_i1_ib, f_i1_ic, g_i1_ic, f_i2_i1, g_i2_i1, f_i2_ia, g_i2_ia, f_i2_ib, g_i2_ib, f_i2_ic, g_i2_ic] at hi3
      have g_i3_i1 : ¬ i1 = i3 := fun e => f_i3_i1 e.symm
      have f_i3_i2 : ¬ i3 = i2 := fun e => by rw [e] at hi3; simp [delo, del, -List.map_append, h3, h8, h9, hA, h10, hB, h12, hC, h11, h70, h71, h72, nab, nba, nca, ncb, nac, nbc, encPr, kb, kb2, kx, kx2, k1, k2, f_i1_ia, g_i1_ia, f_i1_ib, g_i1_ib, f_i1_ic, g_i1_ic, f_i2_i1, g_i2_i1, f_i2_ia, g_i2_ia, f_i2_ib, g_i2_ib, f_i2_ic, g_i2_ic] at hi3
      have g_i3_i2 : ¬ i2 = i3 := fun e => f_i3_i2 e.symm
      have f_i3_ib : ¬ i3 = ib := fun e => by rw [e] at hi3; simp [delo, del, -List.map_append, h3, h8, h9, hA, h10, hB, h12, hC, h11, h70, h71, h72, nab, nba, nca, ncb, nac, nbc, encPr, kb, kb2, kx, kx2, k1, k2, f_i1_ia, g_i1_ia, f_i1_ib, g_i1_ib, f_i1_ic, g_i1_ic, f_i2_i1, g_i2_i1, f_i2_ia, g_i2_ia, f_i2_ib, g_i2_ib, f_i2_ic, g_i2_ic, hB] at hi3
      have g_i3_ib : ¬ ib = i3 := fun e => f_i3_ib e.symm
      have f_i3_ic : ¬ i3 = ic := fun e => by rw [e] at hi3; simp [delo, del, -List.map_append, h3, h8, h9, hA, h10, hB, h12, hC, h11, h70, h71, h72, nab, nba, nca, ncb, nac, nbc, encPr, kb, kb2, kx, kx2, k1, k2, f_i1_ia, g_i1_ia, f_i1_ib, g_i1_ib, f_i1_ic, g_i1_ic, f_i2_i1, g_i2_i1, f_i2_ia, g_i2_ia, f_i2_ib, g_i2_ib, f_i2_ic, g_i2_ic, hC] at hi3
      have g_i3_ic : ¬ ic = i3 := fun e => f_i3_ic e.symm
      simp [delo, del, -List.map_append, h3, h8, h9, hA, h10, hB, h12, hC, h11, h70, h71, h72, nab, nba, nca, ncb, nac, nbc, encPr, kb, kb2, kx, kx2, k1, k2, f_i1_ia, g_i1_ia, f_i1_ib, g_i1_ib, f_i1_ic, g_i1_ic, f_i2_i1, g_i2_i1, f_i2_ia, g_i2_ia, f_i2_ib, g_i2_ib, f_i2_ic, g_i2_ic, f_i3_i1, g_i3_i1, f_i3_i2, g_i3_i2, f_i3_ib, g_i3_ib, f_i3_ic, g_i3_ic]
      exact ⟨m' - 1, by omega, k + 1, by omega, PS, hstep, hstep2, hR, rfl, by rw [hsd]; simp [encPr], by rw [hsd]; simp [seenP, keyP], hwk⟩
    · rw [roundP_end hk] at hR
      subst hR
      simp [-List.map_append, h3, h8, h9, hA, h10, hB, h12, hC, h11, h70, h71, h72, nab, nba, nca, ncb, nac, nbc, hk, hw]
      exact ⟨m, by omega, i + 1, by omega, _, hI', hG, by simp [encPr, encDfa, nab]⟩
  · rw [twoGo_end hi] at hG
    simp [h3, h8, h9, hA, h10, hB, h11, hi, ← hG]
end Go.Proofs.Ytigmibfacllhmaa.R

open Go Go.Proofs.Ytigmibfacllhmaa.T
namespace Go.Proofs.Ytigmibfacllhmaa.R
set_option maxHeartbeats 4000000
set_option maxRecDepth 100000
set_option linter.unusedSimpArgs false
set_option linter.unusedVariables false
attribute [local simp] bsV bsRows chunk fillT partsT appV makeV rowsOf cellsOf placeOf

/-- The law as a whole answers true. -/
theorem tc_FnExactLeastTwo (d : Dfa) (s t : Int) (hB : BDfa d) (w1 : (Lit.int IntKind.i64 s).wf = true) (w2 : (Lit.int IntKind.i64 t).wf = true) : TC Try.prog 6 [.agg (encDfa d), .val (.int .i64 s), .val (.int .i64 t)] [] (.val (.bool true)) [] := by
  refine TC.enter Try.func6 rfl (by simp [Try.ntmps6]) rfl (tw_sound (ρ := [3]) ?_)
  rw [Try.ntmps6]
  simp
  refine TWoH.callV (tc_szDfa d hB.parts hB.rows 1048576) callable_13 (by simp) (by simp) (by simp) (by simp) ?_
  simp
  refine gif_intro (fun c2 => ?_) (fun c2 => ?_) <;> simp [c2]
  obtain ⟨hs, hcost⟩ := DSm_of hB c2
  have hto := tc_toDfa d hs
  refine TWoH.callV hto callable_15 (by simp) (by simp) (by simp) (by simp) ?_
  simp
  refine TWoH.callV (tc_sLeastTwo d hs s t) callable_22 (by simp) (by simp) (by simp) (by simp) ?_
  simp
  refine TWoH.call (tc_toDfaO d hs) callable_15 (by simp) (by simp) (by simp) fun x hx => ?_
  have e2 : x + 1 + 1 = x + 2 := rfl
  have n02 : ¬ x = x + 2 := by omega
  simp [oDfa]
  refine gall_intro fun a ha => ?_
  have ha0' := ne_some (i := x) (by simp [e2, n02]) ha
  have ha1' := ne_some (i := x + 1) (by simp [e2, n02]) ha
  have ha2' := ne_some (i := x + 2) (by simp [e2, n02]) ha
  have ha0 : ¬ a = x := fun e => ha0' e.symm
  have ha1 : ¬ a = x + 1 := fun e => ha1' e.symm
  have ha2 : ¬ a = x + 2 := fun e => ha2' e.symm
  simp [e2, n02, ha0, ha1, ha2, ha0', ha1', ha2']
  refine TWoH.callV (tc_iLeastTwo d hs s t) callable_23 (by simp [e2, n02, ha0, ha1, ha2, ha0', ha1', ha2', encDfa]) (by simp) (by simp) (by simp) ?_
  simp [e2, n02, ha0, ha1, ha2, ha0', ha1', ha2']
  refine TWcH.regionD (ρ := []) [0, 1, 2, 3, 4] 5 mixed (by kernel_rfl) ?_
  simp [e2, n02, ha0, ha1, ha2, ha0', ha1', ha2']
  refine TWqH.callV hto callable_15 (by simp) (by simp) (by simp) (by simp) ?_
  simp [e2, n02, ha0, ha1, ha2, ha0', ha1', ha2']
  refine TWqH.callV (tc_eqDfa d hs) callable_17 (by simp [e2, n02, ha0, ha1, ha2, ha0', ha1', ha2', encDfa]) (by simp) (by simp) (by simp) ?_
  simp [e2, n02, ha0, ha1, ha2, ha0', ha1', ha2']
end Go.Proofs.Ytigmibfacllhmaa.R

namespace Go.Proofs.Ytigmibfacllhmaa.fnExactLeastTwo
open Go.Proofs.Ytigmibfacllhmaa.R Go.ChangeShapes Go.WideShapes Go.ChangeAt Go.RowKit Go.Proofs.Ytigmibfacllhmaa.T
open Go.ChangeMaps (open_string shut_string)
set_option linter.unusedVariables false
set_option linter.unusedSimpArgs false
theorem own : ownKnob Try.prog.godebug = none := by kernel_rfl
theorem laidOut : laidOutB Try.prog = true := by kernel_rfl
theorem repL_c {P : Program} {e : Env} {t : TV} {v : Value} {ts : List TV} {vs : List Value} (h : RepL P e [t] [v] noF) (h' : RepL P e ts vs noF) : RepL P e (t :: ts) (v :: vs) noF := by
  have := RepL.append h h' (fun b m m' x _ => x.elim)
  have en' : Uni noF noF = noF := by funext b m; simp [Uni, noF]
  rw [en'] at this
  exact this
set_option maxRecDepth 100000 in
theorem lifted (os : Os) (started : os.Started) (H : Type) (enc : TypeId × Value → H) :
    ReturnsInHanded {} Try.checked os 6 .any (Rows.fnExactLeastTwoSpec.pre6 enc Try.prog Try.f6 Rows.fnExactLeastTwoRow.domain false) (Rows.fnExactLeastTwoSpec.post enc Try.prog Try.f6 false true false false) := by
  refine returnsInHanded_of_change_sized (C := Try.checked) own started (by kernel_rfl) Try.func6
    (ChangeSpec.witness6 (enc := enc) (C := Try.checked) false ⟨#[], #[.agg #[.slice none 0 0, .slice none 0 0, .slice none 0 0], .int .i64 0, .int .i64 0], []⟩ 8 (by kernel_rfl) (by kernel_rfl) (by kernel_rfl) (by kernel_rfl)) ?_
  intro W base args ds gs before hval0 hW hcnd hsz0 _
  have hsz : (DataW.weightsEach Try.prog (Try.f6.params.toList ++ Rows.fnExactLeastTwoSpec.plain.varTypes Try.prog) (ds ++ gs)).all (· ≤ reachBytes) = true := hsz0
  have hval : ∀ (j : Nat) t v, Try.f6.params[j]? = some t → args[j]? = some v → Value.okWide Try.prog W .any base t v := hval0
  have hW' := hW
  obtain ⟨p, q, hA0, hV, rfl, hfz, hnd⟩ := hW
  have hA : DataW.TrodAll enc Try.prog W 0 (fun _ => true) true Try.f6.params.toList args.toList ds p := hA0
  rw [Try.params6] at hA hval hsz
  obtain ⟨v0, vs0, d0, ds0, p0, q0, hargs, rfl, rfl, h0, r0⟩ := trodAll_cons hA
  obtain ⟨v1, vs1, d1, ds1, p1, q1, rfl, rfl, rfl, h1, r1⟩ := trodAll_cons r0
  obtain ⟨v2, vs2, d2, ds2, p2, q2, rfl, rfl, rfl, h2, r2⟩ := trodAll_cons r1
  obtain ⟨rfl, rfl, rfl⟩ := trodAll_nil r2
  obtain rfl : args = #[v0, v1, v2] := by cases args; simp_all
  obtain ⟨rfl, rfl⟩ := trodVars_none hV
  have z0 : ∀ q ∈ d0.weights Try.prog 26, q ≤ reachBytes := fun q hq => by simpa using List.all_eq_true.1 hsz q (DataW.weights_mem_each (j := 0) rfl rfl q hq)
  have k0 := h0
  have lt0 : ∀ x ∈ p0, x.block < W.heap.size := by obtain ⟨m, hm⟩ := k0; exact DataW.trod_lt m _ _ _ hm
  obtain ⟨x0, hx0, y0⟩ := RdT.arg (fun n => rdDfa n) h0 z0
  obtain ⟨cs0, rfl, hcs0⟩ := okWide_struct Try.underlying26 (hval 0 26 v0 rfl rfl)
  obtain ⟨a1, rfl, rfl, rfl, w1⟩ := open_int Try.underlying3 (hval 1 3 v1 rfl rfl) h1
  obtain ⟨a2, rfl, rfl, rfl, w2⟩ := open_int Try.underlying3 (hval 2 3 v2 rfl rfl) h2
  clear hA0 hval0 hsz0 hsz
  have g0 : RepL Try.prog (eW W) [.agg (encDfa x0)] [.agg cs0] noF := repL_one.2 (by simp only [Rep]; exact ⟨cs0.toList, by simp, by simpa [Value.cells] using hx0, RepL.ones (by simpa [Value.cells] using hx0) (by simp)⟩)
  have g1 : RepL Try.prog (eW W) [.val (.int .i64 a1)] [.int .i64 a1] noF := repL_one.2 (by simp [Rep, emp_noF])
  have g2 : RepL Try.prog (eW W) [.val (.int .i64 a2)] [.int .i64 a2] noF := repL_one.2 (by simp [Rep, emp_noF])
  refine ((tc_FnExactLeastTwo x0 a1 a2 y0 w1 w2).law (repL_c g0 (repL_c g1 g2))).mono fun e W' ⟨he, bel⟩ => ?_
  subst he
  exact ⟨_, rfl, _, _, _, [], _, [], hW', trodAll_mk1 (shut_bool Try.underlying4 _), (trodAll_cons_mk (Below.trod laidOut (by kernel_rfl) (of_decide_eq_true (by kernel_rfl)) k0 bel lt0) (trodAll_cons_mk (shut_int Try.underlying3 w1) (trodAll_cons_mk (shut_int Try.underlying3 w2) trodAll_mk0))), rfl, bel.frame _, fun h => by cases h⟩
theorem over : Rows.fnExactLeastTwoRow.holds Try.pinned (OpenSpec.ofChange Rows.fnExactLeastTwoSpec) :=
  OpenClaim.holds_of_wide 6 Try.f6 rfl rfl rfl rfl rfl rfl rfl ⟨rfl, rfl, rfl, rfl, rfl⟩ rfl rfl rfl rfl rfl (by kernel_rfl) Try.func6 (by kernel_rfl)
    (of_decide_eq_true (by kernel_rfl)) (by unfold Func.isWrapper; first | (rw [if_pos (by decide +kernel)]; kernel_rfl) | (rw [if_neg (by decide +kernel)]; exact ⟨rfl, rfl⟩))
    (fun os started H enc _ => lifted os started H enc)
theorem proved : Rows.FnExactLeastTwoSaid := over
end Go.Proofs.Ytigmibfacllhmaa.fnExactLeastTwo
namespace Go.Proofs.Ytigmibfacllhmaa
theorem fnExactLeastTwo_holds : Rows.FnExactLeastTwoSaid := fnExactLeastTwo.proved
end Go.Proofs.Ytigmibfacllhmaa
