/- Part 4: what the walk of the code stands on. Conditions: none but those that each theorem states. -/
import Derived.Test.YtmpeolimleladaaDoorK3
open Go Go.Proofs.YtmpeolimleladaaDoor.T
namespace Go.Proofs.YtmpeolimleladaaDoor.R
set_option maxHeartbeats 4000000
set_option maxRecDepth 100000
set_option linter.unusedSimpArgs false
set_option linter.unusedVariables false
attribute [local simp] bsV bsRows chunk fillT partsT appV makeV rowsOf cellsOf placeOf
@[simp] theorem len_ins (r : Inn) : (encIns r).length = 4 := by simp [encIns]
@[simp] theorem take_ins (r : Inn) : (encIns r).take 4 = encIns r := by simp [encIns]
@[simp] theorem plain_ins (r : Inn) : (encIns r).all TV.plain = true := by simp [encIns]
@[simp] theorem pc_ins (r : Inn) : (encIns r).all TV.pc = true := by simp [encIns]
@[simp] theorem noH_ins (r : Inn) : noHL (encIns r) = true := by simp [encIns]
@[simp] theorem argTL_ins {H : Nat → Option TV} {ρ : List Nat} (r : Inn) : argTL H ρ (encIns r) = some (encIns r) := by simp [encIns]
@[simp] theorem views_ins {ρ : List Nat} (r : Inn) : (encIns r).flatMap (views1 ρ) = [] := by simp [encIns]
@[simp] theorem opnL_ins {k : Nat} (r : Inn) : opnL k (encIns r) = (encIns r, []) := by simp [encIns]
@[simp] theorem closeL_ins {H : Nat → Option TV} (r : Inn) : closeL H (encIns r) = some (encIns r, H) := by simp [encIns]
@[simp] theorem noHR_ins (s : List Inn) : noHR (s.map encIns) = true := by induction s <;> simp [encIns, *]
@[simp] theorem roL_ins (s : Inn) : roL (encIns s) = encIns s := by simp [encIns]
@[simp] theorem roRows_ins (l : List Inn) : roRows (l.map encIns) = l.map encIns := by induction l <;> simp [*]
@[simp] theorem noRoR_ins (l : List Inn) : noRoR (l.map encIns) = true := by induction l <;> simp [encIns, *]
def insB (x : Inn) : Prop := i64 x.1 ∧ i64 x.2.1 ∧ i64 x.2.2.1 ∧ i64 x.2.2.2
def BInsS (l : List Inn) : Prop := l.length ≤ 1152921504606846976 ∧ ∀ x ∈ l, insB x
theorem i64_wf2 {x : Int} (h : (Lit.int .i64 x).wf = true) : i64 x := by
  unfold i64
  simp [Lit.wf] at h
  exact ⟨h.1, h.2⟩
theorem rdIns (n : Nat) : RdT Tryd.prog n 51 encIns insB :=
  ((RdT.struct (sz := 1 + 3) Tryd.underlying51 rfl (by kernel_rfl) (FsT.cons (sz := 1) (sz' := 3) (RdT.int n Tryd.underlying3) rfl (by kernel_rfl)
    (FsT.cons (sz := 1) (sz' := 2) (RdT.int n Tryd.underlying3) rfl (by kernel_rfl)
    (FsT.cons (sz := 1) (sz' := 1) (RdT.int n Tryd.underlying3) rfl (by kernel_rfl) (FsT.one (RdT.int n Tryd.underlying3) rfl (by kernel_rfl)))))).le (Nat.le_succ n)).iso id fun x hx => ⟨rfl, i64_wf2 hx.1, i64_wf2 hx.2.1, i64_wf2 hx.2.2.1, i64_wf2 hx.2.2.2⟩
theorem rdInsS (n : Nat) : RdT Tryd.prog n 22 (fun l : List Inn => [.ro (l.map encIns)]) BInsS := by
  refine ((RdT.slice (b := 32) (rdIns n) Tryd.underlying22 (by kernel_rfl)).le (Nat.le_succ n)).imp fun x hx => ⟨?_, hx.2⟩
  have hr : reachBytes = 140737488351232 := rfl
  have := hx.1
  omega
theorem tc_szInsS (l : List Inn) (left : Int) : TC Tryd.prog 7 [.ro (l.map encIns), .val (.int .i64 left)] [] (.val (.int .i64 (szN l.length left))) [] := by
  refine TC.enter Tryd.func7 rfl (by simp [Tryd.ntmps7]) rfl (tw_sound (ρ := []) ?_)
  rw [Tryd.ntmps7]
  simp
  refine gif_intro (fun c1 => ?_) (fun c1 => ?_) <;> simp [szN, c1]
theorem tc_toIns (s : Inn) : TC Tryd.prog 27 [.agg (encIns s)] [] (.agg (encIns s)) [] := by
  refine TC.enter Tryd.func27 rfl (by simp [Tryd.ntmps27]) rfl (tw_sound (ρ := [1]) ?_)
  rw [Tryd.ntmps27]
  simp [encIns]
  refine gall_intro fun a ha => ?_
  simp
  refine gall_intro fun b hb => ?_
  simp at hb
  simp [hb, Ne.symm hb]
theorem tc_toInsS (l : List Inn) (hl : l.length ≤ 1048576) : TC Tryd.prog 9 [.ro (l.map encIns)] [] (.own 49 (l.map encIns)) [] := by
  refine TC.enter Tryd.func9 rfl (by simp [Tryd.ntmps9]) rfl (tw_sound (ρ := []) ?_)
  rw [Tryd.ntmps9]
  simp [makeV]
  rw [gif_pos (by omega)]
  refine gall_intro fun id hid => ?_
  simp
  refine TWcH.loop [] (fun m s => ∃ i, i + m = l.length ∧ s.σ 0 = .ro (l.map encIns) ∧ s.σ 3 = .hd id ∧ s.σ 4 = .val (.int .i64 i) ∧ s.H id = some (.own 49 (fillR encIns [.val (.int .i64 0), .val (.int .i64 0), .val (.int .i64 0), .val (.int .i64 0)] l i))) l.length ⟨0, by simp⟩ ?_
  rintro m ⟨σ, H⟩ ⟨i, him, h0, h3, h4, hH⟩
  simp only at h0 h3 h4 hH
  by_cases hi : i < l.length
  · have hw := hw1 hi (by omega)
    simp [h0, h3, h4, getI hi, hi]
    refine TWoH.callV (tc_toIns l[i]) callable_27 (by simp [*]) (by simp) (by simp) (by simp [*]) ?_
    simp [h0, h3, h4, hH, hi, fillR_at hi, fillR_at' hi, fillR_len (Nat.le_of_lt hi), fillR_set hi, hw]
    exact ⟨m - 1, by omega, i + 1, by omega, by omega, rfl⟩
  · simp [h0, h3, h4, hH, hi, fillR_all (Nat.le_of_not_lt hi)]
theorem tc_toInsS' (l : List Inn) (hl : l.length ≤ 1048576) : TC Tryd.prog 9 [.ro (l.map encIns)] [] (.ro (l.map encIns)) [] := by
  have := (tc_toInsS l hl).frz
  simpa using this
theorem tc_eqIns (a : Inn) : TC Tryd.prog 31 [.agg (encIns a), .agg (encIns a)] [] (.val (.bool true)) [] := by
  refine TC.enter Tryd.func31 rfl (by simp [Tryd.ntmps31]) rfl (tw_sound (ρ := [2, 3]) ?_)
  rw [Tryd.ntmps31]
  simp [encIns]
theorem tc_eqInsS (l : List Inn) (hl : l.length ≤ 1152921504606846976) : TC Tryd.prog 11 [.ro (l.map encIns), .ro (l.map encIns)] [] (.val (.bool true)) [] := by
  refine TC.enter Tryd.func11 rfl (by simp [Tryd.ntmps11]) rfl (tw_sound (ρ := []) ?_)
  rw [Tryd.ntmps11]
  simp
  refine TWcH.loop [] (fun m s => ∃ i, i + m = l.length ∧ s.σ 0 = .ro (l.map encIns) ∧ s.σ 1 = .ro (l.map encIns) ∧ s.σ 5 = .val (.int .i64 i)) l.length ⟨0, by simp⟩ ?_
  rintro m ⟨σ, H⟩ ⟨i, him, h0, h1, h5⟩
  simp only at h0 h1 h5
  by_cases hi : i < l.length
  · have hw := hw1 hi hl
    simp [h0, h1, h5, hi]
    refine TWcH.regionD (ρ := []) [0, 1, 2, 3, 4, 5, 6, 7, 8, 9] 10 mixed (by kernel_rfl) ?_
    simp [h0, h1, h5, hi, getI hi]
    refine TWqH.callV (tc_eqIns l[i]) callable_31 (by simp) (by simp) (by simp) (by simp) ?_
    simp [h0, h1, h5, hi, hw]
    exact ⟨m - 1, by omega, i + 1, by omega, by omega⟩
  · simp [h0, h1, h5, hi]
theorem progT_take {l : List Inn} {i : Nat} (hi : i < l.length) : progT (l.take (i + 1)) = progT (l.take i) ++ insT l[i] ++ [10] := by
  unfold progT; rw [List.take_succ_eq_append_getElem hi, List.flatMap_append]; simp
theorem tc_sProgText (l : List Inn) (hl : l.length ≤ 1048576) (hb : ∀ x ∈ l, i64 x.2.1 ∧ i64 x.2.2.1 ∧ i64 x.2.2.2) : TC Tryd.prog 8 [.ro (l.map encIns)] [] (.val (.string (bs (progT l)))) [] := by
  refine TC.enter Tryd.func8 rfl (by simp [Tryd.ntmps8]) rfl (tw_sound (ρ := []) ?_)
  rw [Tryd.ntmps8]
  simp
  refine TWcH.loop [] (fun m st => ∃ i : Nat, i + m = l.length ∧ st.σ 0 = .ro (l.map encIns) ∧ st.σ 3 = .val (.string (bs (progT (l.take i)))) ∧ st.σ 4 = .val (.int .i64 i)) l.length ⟨0, by simp [progT]⟩ ?_
  rintro m ⟨σ, H⟩ ⟨i, him, h0, h3, h4⟩
  simp only at h0 h3 h4
  by_cases hi : i < l.length
  case neg =>
    obtain rfl : i = l.length := by omega
    rw [List.take_length] at h3
    simp [h0, h3, h4]
  have hw := hw1 hi (by omega)
  have hx := hb _ (List.getElem_mem hi)
  have d := tc_l10Line l[i] hx
  have hil := insT_len hx
  have htk := progT_take hi
  have hlen := progT_len (l := l.take i) fun x hx => hb x (List.mem_of_mem_take hx)
  have hmin : (l.take i).length ≤ 1048576 := by rw [List.length_take]; omega
  obtain ⟨x, hxe⟩ : ∃ x, ∀ h, l[i]'h = x := ⟨l[i], fun _ => rfl⟩
  rw [hxe] at d hil htk
  generalize progT (l.take i) = A at *
  generalize insT x = T at *
  have K : ∀ z : Int, z ≤ 70000000 → (9223372036854775807 < z) = False := fun z hz => by simp; omega
  simp [h0, h3, h4, hi, hxe]
  refine TWoH.callV d callable_26 (by simp) (by simp) (by simp) (by simp) ?_
  simp [h0, h3, h4, hi, hw]
  repeat (simp (disch := omega) only [K]; simp [h0, h3, h4, hi, hw])
  exact ⟨m - 1, by omega, i + 1, by omega, by rw [htk]; simp, by omega⟩
theorem tc_FnExactProgText (l : List Inn) (hB : BInsS l) : TC Tryd.prog 3 [.ro (l.map encIns)] [] (.val (.bool true)) [] := by
  refine TC.enter Tryd.func3 rfl (by simp [Tryd.ntmps3]) rfl (tw_sound (ρ := []) ?_)
  rw [Tryd.ntmps3]
  simp
  refine TWoH.callV (tc_szInsS l 1048576) callable_7 (by simp) (by simp) (by simp) (by simp) ?_
  simp
  refine gif_intro (fun c1 => ?_) (fun c1 => ?_) <;> simp [c1]
  have hl : l.length ≤ 1048576 := by
    have := (szN_ok hB.1 (by omega) (by omega) c1).1
    omega
  have hb : ∀ x ∈ l, i64 x.2.1 ∧ i64 x.2.2.1 ∧ i64 x.2.2.2 := fun x hx => (hB.2 x hx).2
  have d1 := tc_toInsS' l hl
  refine TWoH.callV d1 callable_9 (by simp) (by simp) (by simp) (by simp) ?_
  simp
  refine TWoH.callV (tc_sProgText l hl hb) callable_8 (by simp) (by simp) (by simp) (by simp) ?_
  simp
  refine TWoH.callV d1 callable_9 (by simp) (by simp) (by simp) (by simp) ?_
  simp
  refine TWoH.callV (tc_iProgText l hl hb) callable_10 (by simp) (by simp) (by simp) (by simp) ?_
  simp
  refine TWoH.callV d1 callable_9 (by simp) (by simp) (by simp) (by simp) ?_
  simp
  refine TWoH.callV (tc_eqInsS l (by omega)) callable_11 (by simp) (by simp) (by simp) (by simp) ?_
  simp
end Go.Proofs.YtmpeolimleladaaDoor.R
