/- FnExactDfaRun, part 16 of 17: the functions that it reaches as plain Lean functions, that the program's functions compute them, and what they come to. Conditions: stated at each theorem. -/
import Derived.KernelRfl
import Derived.Test.YtigmibfacllhmaaBFnExactDfaRun0
import Derived.Test.YtigmibfacllhmaaBFnExactDfaRun1
import Derived.Test.YtigmibfacllhmaaBFnExactDfaRun12
import Derived.Test.YtigmibfacllhmaaBFnExactDfaRun13
import Derived.Test.YtigmibfacllhmaaBFnExactDfaRun14
namespace Go.Proofs.Ytigmibfacllhmaa.P
open Go.RowKit Go.Proofs.YtigmibfacllhmaaW.PrintWords Go.Proofs.YtigmibfacllhmaaW.PrintLast Go.Proofs.YtigmibfacllhmaaW.PrintMore
attribute [local go_sem] max2_int min2_int max_two min_two max_three min_three max_four min_four   -- for this text's walks alone
set_option linter.unusedVariables false
set_option linter.unusedSimpArgs false
mutual
def spec_DfaOk.j0 : Nat → Bool → List (List (S117)) → List (List Int) → List Int → Option (Bool)
  | 0, _, _, _, _ => none
  | k + 1, x29, x164000, x164001, x164002 => if x29 = true then (some false) else (spec_DfaOk.l0 k 0 x164000 x164001 x164002)
def spec_DfaOk.l0 : Nat → Int → List (List (S117)) → List (List Int) → List Int → Option (Bool)
  | 0, _, _, _, _ => none
  | k + 1, x3, x164000, x164001, x164002 => if x3 < (x164001.length : Int) then (if 0 ≤ x3 then (if ((rd_L3 x164001 x3).length : Int) = (x164000.length : Int) then (if x3 < (x164002.length : Int) then (if (rd x164002 x3) < (-1) then (spec_DfaOk.j2 k x3 true x164000 x164001 x164002) else (spec_DfaOk.j2 k x3 (decide ((rd x164002 x3) ≥ 5)) x164000 x164001 x164002)) else (none)) else (spec_DfaOk.j2 k x3 true x164000 x164001 x164002)) else (none)) else (some true)
def spec_DfaOk.j2 : Nat → Int → Bool → List (List (S117)) → List (List Int) → List Int → Option (Bool)
  | 0, _, _, _, _, _ => none
  | k + 1, x3, x62, x164000, x164001, x164002 => if x62 = true then (some false) else (spec_DfaOk.l1 k x3 0 x164000 x164001 x164002)
def spec_DfaOk.l1 : Nat → Int → Int → List (List (S117)) → List (List Int) → List Int → Option (Bool)
  | 0, _, _, _, _, _ => none
  | k + 1, x3, x4, x164000, x164001, x164002 => if 0 ≤ x3 then (if x3 < (x164001.length : Int) then (if x4 < ((rd_L3 x164001 x3).length : Int) then (if 0 ≤ x4 then (if (rd (rd_L3 x164001 x3) x4) < (-1) then (some false) else (if (rd (rd_L3 x164001 x3) x4) ≥ (x164001.length : Int) then (some false) else (spec_DfaOk.l1 k x3 (wrap64 (x4 + 1)) x164000 x164001 x164002))) else (none)) else (spec_DfaOk.l0 k (wrap64 (x3 + 1)) x164000 x164001 x164002)) else (none)) else (none)
end
def spec_DfaOk.f (k : Nat) (l0_0 : List (List (S117))) (l0_1 : List (List Int)) (l0_2 : List Int) : Option (Bool) := (spec_l7Parts.f k l0_0).bind fun t164 => (if t164 = true then (if (l0_1.length : Int) < 1 then (spec_DfaOk.j0 k true l0_0 l0_1 l0_2) else (if (l0_1.length : Int) > 40 then (spec_DfaOk.j0 k true l0_0 l0_1 l0_2) else (spec_DfaOk.j0 k ((l0_2.length : Int) != (l0_1.length : Int)) l0_0 l0_1 l0_2))) else (spec_DfaOk.j0 k true l0_0 l0_1 l0_2))
theorem spec_DfaOk.mono_l : ∀ k, (∀ y0 y1 y2 y3, LeO (spec_DfaOk.j0 k y0 y1 y2 y3) (spec_DfaOk.j0 (k + 1) y0 y1 y2 y3)) ∧ (∀ y0 y1 y2 y3, LeO (spec_DfaOk.l0 k y0 y1 y2 y3) (spec_DfaOk.l0 (k + 1) y0 y1 y2 y3)) ∧ (∀ y0 y1 y2 y3 y4, LeO (spec_DfaOk.j2 k y0 y1 y2 y3 y4) (spec_DfaOk.j2 (k + 1) y0 y1 y2 y3 y4)) ∧ (∀ y0 y1 y2 y3 y4, LeO (spec_DfaOk.l1 k y0 y1 y2 y3 y4) (spec_DfaOk.l1 (k + 1) y0 y1 y2 y3 y4))
  | 0 => ⟨fun _ _ _ _ r h => by simp [spec_DfaOk.j0] at h, fun _ _ _ _ r h => by simp [spec_DfaOk.l0] at h, fun _ _ _ _ _ r h => by simp [spec_DfaOk.j2] at h, fun _ _ _ _ _ r h => by simp [spec_DfaOk.l1] at h⟩
  | k + 1 => by
    obtain ⟨ih0, ih1, ih2, ih3⟩ := spec_DfaOk.mono_l k
    refine ⟨?_, ?_, ?_, ?_⟩
    · intro y0 y1 y2 y3
      unfold spec_DfaOk.j0
      repeat' first
      | (with_reducible exact ih0 _ _ _ _)
      | (with_reducible exact ih1 _ _ _ _)
      | (with_reducible exact ih2 _ _ _ _ _)
      | (with_reducible exact ih3 _ _ _ _ _)
      | (with_reducible exact spec_l7Parts.mono _ _)
      | (with_reducible exact LeO.refl _)
      | (with_reducible exact LeO.none _)
      | (with_reducible refine LeO.ite ?_ ?_)
      | (with_reducible refine LeO.bind ?_ (fun _ => ?_))
      | exact ih0 _ _ _ _
      | exact ih1 _ _ _ _
      | exact ih2 _ _ _ _ _
      | exact ih3 _ _ _ _ _
      | exact spec_l7Parts.mono _ _
      | exact LeO.none _
      | refine LeO.ite ?_ ?_
      | refine LeO.bind ?_ (fun _ => ?_)
    · intro y0 y1 y2 y3
      unfold spec_DfaOk.l0
      repeat' first
      | (with_reducible exact ih0 _ _ _ _)
      | (with_reducible exact ih1 _ _ _ _)
      | (with_reducible exact ih2 _ _ _ _ _)
      | (with_reducible exact ih3 _ _ _ _ _)
      | (with_reducible exact spec_l7Parts.mono _ _)
      | (with_reducible exact LeO.refl _)
      | (with_reducible exact LeO.none _)
      | (with_reducible refine LeO.ite ?_ ?_)
      | (with_reducible refine LeO.bind ?_ (fun _ => ?_))
      | exact ih0 _ _ _ _
      | exact ih1 _ _ _ _
      | exact ih2 _ _ _ _ _
      | exact ih3 _ _ _ _ _
      | exact spec_l7Parts.mono _ _
      | exact LeO.none _
      | refine LeO.ite ?_ ?_
      | refine LeO.bind ?_ (fun _ => ?_)
    · intro y0 y1 y2 y3 y4
      unfold spec_DfaOk.j2
      repeat' first
      | (with_reducible exact ih0 _ _ _ _)
      | (with_reducible exact ih1 _ _ _ _)
      | (with_reducible exact ih2 _ _ _ _ _)
      | (with_reducible exact ih3 _ _ _ _ _)
      | (with_reducible exact spec_l7Parts.mono _ _)
      | (with_reducible exact LeO.refl _)
      | (with_reducible exact LeO.none _)
      | (with_reducible refine LeO.ite ?_ ?_)
      | (with_reducible refine LeO.bind ?_ (fun _ => ?_))
      | exact ih0 _ _ _ _
      | exact ih1 _ _ _ _
      | exact ih2 _ _ _ _ _
      | exact ih3 _ _ _ _ _
      | exact spec_l7Parts.mono _ _
      | exact LeO.none _
      | refine LeO.ite ?_ ?_
      | refine LeO.bind ?_ (fun _ => ?_)
    · intro y0 y1 y2 y3 y4
      unfold spec_DfaOk.l1
      repeat' first
      | (with_reducible exact ih0 _ _ _ _)
      | (with_reducible exact ih1 _ _ _ _)
      | (with_reducible exact ih2 _ _ _ _ _)
      | (with_reducible exact ih3 _ _ _ _ _)
      | (with_reducible exact spec_l7Parts.mono _ _)
      | (with_reducible exact LeO.refl _)
      | (with_reducible exact LeO.none _)
      | (with_reducible refine LeO.ite ?_ ?_)
      | (with_reducible refine LeO.bind ?_ (fun _ => ?_))
      | exact ih0 _ _ _ _
      | exact ih1 _ _ _ _
      | exact ih2 _ _ _ _ _
      | exact ih3 _ _ _ _ _
      | exact spec_l7Parts.mono _ _
      | exact LeO.none _
      | refine LeO.ite ?_ ?_
      | refine LeO.bind ?_ (fun _ => ?_)
theorem spec_DfaOk.mono : ∀ a0 a1 a2 k, LeO (spec_DfaOk.f k a0 a1 a2) (spec_DfaOk.f (k + 1) a0 a1 a2) := by
  intro a0 a1 a2 k
  obtain ⟨ih0, ih1, ih2, ih3⟩ := spec_DfaOk.mono_l k
  unfold spec_DfaOk.f
  repeat' first
      | (with_reducible exact ih0 _ _ _ _)
      | (with_reducible exact ih1 _ _ _ _)
      | (with_reducible exact ih2 _ _ _ _ _)
      | (with_reducible exact ih3 _ _ _ _ _)
      | (with_reducible exact spec_l7Parts.mono _ _)
      | (with_reducible exact LeO.refl _)
      | (with_reducible exact LeO.none _)
      | (with_reducible refine LeO.ite ?_ ?_)
      | (with_reducible refine LeO.bind ?_ (fun _ => ?_))
      | exact ih0 _ _ _ _
      | exact ih1 _ _ _ _
      | exact ih2 _ _ _ _ _
      | exact ih3 _ _ _ _ _
      | exact spec_l7Parts.mono _ _
      | exact LeO.none _
      | refine LeO.ite ?_ ?_
      | refine LeO.bind ?_ (fun _ => ?_)
set_option maxHeartbeats 8000000 in
set_option maxRecDepth 100000 in
theorem spec_DfaOk.calls (k : Nat) (A0_0 : Option Addr) (c0_0 : Nat) (l0_0 : List (List (S117))) (A0_1 : Option Addr) (c0_1 : Nat) (l0_1 : List (List Int)) (A0_2 : Option Addr) (c0_2 : Nat) (l0_2 : List Int) (r : Bool) (w : World) (hr0_0 : Kd.C (Kd.slice 117 k117) w A0_0 l0_0.length l0_0) (hc0_0 : l0_0.length ≤ c0_0) (hr0_1 : Kd.C (Kd.slice 3 (Kd.int .i64)) w A0_1 l0_1.length l0_1) (hc0_1 : l0_1.length ≤ c0_1) (hr0_2 : Kd.C (Kd.int .i64) w A0_2 l0_2.length l0_2) (hc0_2 : l0_2.length ≤ c0_2) (h : spec_DfaOk.f k l0_0 l0_1 l0_2 = some r) :
    Calls Try.prog 54 #[.agg #[.slice A0_0 l0_0.length c0_0, .slice A0_1 l0_1.length c0_1, .slice A0_2 l0_2.length c0_2]] w fun e w' => e = .returned (.bool r) ∧ Below w.heap.size w w' := by
  have hu31 := Try.underlying31
  have HR0_0 := Aside0.mk hr0_0
  have HC0_0 := Aside0.mk hc0_0
  clear hr0_0 hc0_0
  have HR0_1 := Aside0.mk hr0_1
  have HC0_1 := Aside0.mk hc0_1
  clear hr0_1 hc0_1
  have HR0_2 := Aside0.mk hr0_2
  have HC0_2 := Aside0.mk hc0_2
  clear hr0_2 hc0_2
  have HB := Aside0.mk (Below.refl w.heap.size w)
  have H : ((spec_l7Parts.f k l0_0).bind fun t164 => (if t164 = true then (if (l0_1.length : Int) < 1 then (spec_DfaOk.j0 k true l0_0 l0_1 l0_2) else (if (l0_1.length : Int) > 40 then (spec_DfaOk.j0 k true l0_0 l0_1 l0_2) else (spec_DfaOk.j0 k ((l0_2.length : Int) != (l0_1.length : Int)) l0_0 l0_1 l0_2))) else (spec_DfaOk.j0 k true l0_0 l0_1 l0_2))) = some r := h
  clear h
  have HC2 := Aside0.mk H
  clear H
  go_enter Try.func54, Try.ntmps54
  go_upto_region 1 with (first | ((with_reducible refine gate_dst (N := 1) rfl ?_); (try (refine gate_guard (by rfl) ?_; dsimp only)); refine box_event ?hg (N := 1) ?hd (cs := #[.slice A0_0 l0_0.length c0_0, .slice A0_1 l0_1.length c0_1, .slice A0_2 l0_2.length c0_2]) (t := 31) ?hr ?_; (case hd => rfl); (case hg => rfl); (case hr => first | (go_simp; done) | (go_simp; rfl)); intro gb163 hg w3 hbox hb; have n0_ := Aside0.mk (below_step (by repeat (first | (with_reducible first | exact HB.out | apply below_alloc | apply pw_below_drewN | apply below_drew1) | exact HB.out)) hb); have n1_ := Aside0.mk (hbox); have n2_ := Aside0.mk ((by rw [hg]; exact (below_size (by repeat (first | (with_reducible first | exact HB.out | apply below_alloc | apply pw_below_drewN | apply below_drew1) | exact HB.out))) : w.heap.size ≤ gb163)); have n3_ := Aside0.mk ((by rw [hg]; exact (below_size (by repeat (first | (with_reducible first | exact HB.out | apply below_alloc | apply pw_below_drewN | apply below_drew1) | exact HB.out))) : w.heap.size ≤ gb163)); clear HB; have HB := n0_; have BK163 := n1_; have GW163 := n2_; have GE163 := n3_; clear n0_ n1_ n2_ n3_; clear hb hbox hg))
  repeat (go_quiet (first | ((with_reducible refine gate_dst (N := 1) rfl ?_); (try (refine gate_guard (by rfl) ?_; dsimp only)); refine box_event ?hg (N := 1) ?hd (cs := #[.slice A0_0 l0_0.length c0_0, .slice A0_1 l0_1.length c0_1, .slice A0_2 l0_2.length c0_2]) (t := 31) ?hr ?_; (case hd => rfl); (case hg => rfl); (case hr => first | (go_simp; done) | (go_simp; rfl)); intro gb163 hg w3 hbox hb; have n0_ := Aside0.mk (below_step (by repeat (first | (with_reducible first | exact HB.out | apply below_alloc | apply pw_below_drewN | apply below_drew1) | exact HB.out)) hb); have n1_ := Aside0.mk (hbox); have n2_ := Aside0.mk ((by rw [hg]; exact (below_size (by repeat (first | (with_reducible first | exact HB.out | apply below_alloc | apply pw_below_drewN | apply below_drew1) | exact HB.out))) : w.heap.size ≤ gb163)); have n3_ := Aside0.mk ((by rw [hg]; exact (below_size (by repeat (first | (with_reducible first | exact HB.out | apply below_alloc | apply pw_below_drewN | apply below_drew1) | exact HB.out))) : w.heap.size ≤ gb163)); clear HB; have HB := n0_; have BK163 := n1_; have GW163 := n2_; have GE163 := n3_; clear n0_ n1_ n2_ n3_; clear hb hbox hg)); go_upto_region 1 with (first | ((with_reducible refine gate_dst (N := 1) rfl ?_); (try (refine gate_guard (by rfl) ?_; dsimp only)); refine box_event ?hg (N := 1) ?hd (cs := #[.slice A0_0 l0_0.length c0_0, .slice A0_1 l0_1.length c0_1, .slice A0_2 l0_2.length c0_2]) (t := 31) ?hr ?_; (case hd => rfl); (case hg => rfl); (case hr => first | (go_simp; done) | (go_simp; rfl)); intro gb163 hg w3 hbox hb; have n0_ := Aside0.mk (below_step (by repeat (first | (with_reducible first | exact HB.out | apply below_alloc | apply pw_below_drewN | apply below_drew1) | exact HB.out)) hb); have n1_ := Aside0.mk (hbox); have n2_ := Aside0.mk ((by rw [hg]; exact (below_size (by repeat (first | (with_reducible first | exact HB.out | apply below_alloc | apply pw_below_drewN | apply below_drew1) | exact HB.out))) : w.heap.size ≤ gb163)); have n3_ := Aside0.mk ((by rw [hg]; exact (below_size (by repeat (first | (with_reducible first | exact HB.out | apply below_alloc | apply pw_below_drewN | apply below_drew1) | exact HB.out))) : w.heap.size ≤ gb163)); clear HB; have HB := n0_; have BK163 := n1_; have GW163 := n2_; have GE163 := n3_; clear n0_ n1_ n2_ n3_; clear hb hbox hg)))
  (try simp only [Act.put, List.setIfInBounds_toArray, List.set_cons_zero, List.set_cons_succ])
  go_cut [29] (fun v29 wc => ∃ (kq : Nat) (x29_1 : Bool), v29 = .bool x29_1 ∧ Aside0 (spec_DfaOk.j0 kq x29_1 l0_0 l0_1 l0_2 = some r) ∧ Aside0 (kq ≤ k) ∧ Aside0 (wc.heap[gb163]? = some (.cells #[(.slice A0_0 l0_0.length c0_0), (.slice A0_1 l0_1.length c0_1), (.slice A0_2 l0_2.length c0_2)] 31 (0, 0))) ∧ Aside0 (Below w.heap.size w wc))
  case first =>
    have H := HC2.out
    clear HC2
    replace H := Option.bind_eq_some_iff.mp H
    obtain ⟨t164, A40, H⟩ := H
    replace H : (if t164 = true then (if (l0_1.length : Int) < 1 then (spec_DfaOk.j0 k true l0_0 l0_1 l0_2) else (if (l0_1.length : Int) > 40 then (spec_DfaOk.j0 k true l0_0 l0_1 l0_2) else (spec_DfaOk.j0 k ((l0_2.length : Int) != (l0_1.length : Int)) l0_0 l0_1 l0_2))) else (spec_DfaOk.j0 k true l0_0 l0_1 l0_2)) = some r := H
    have A4 := Aside0.mk A40
    clear A40
    by_cases c5 : t164 = true
    · subst c5
      have H1 : (if (l0_1.length : Int) < 1 then (spec_DfaOk.j0 k true l0_0 l0_1 l0_2) else (if (l0_1.length : Int) > 40 then (spec_DfaOk.j0 k true l0_0 l0_1 l0_2) else (spec_DfaOk.j0 k ((l0_2.length : Int) != (l0_1.length : Int)) l0_0 l0_1 l0_2))) = some r := by rw [if_pos rfl] at H; exact H
      clear H
      have H := H1
      clear H1
      by_cases c6 : (l0_1.length : Int) < 1
      · rw [if_pos c6] at H
        have c6b0 : decide ((l0_1.length : Int) < 1) = true := decide_eq_true c6
        have c6b1 : decide (l0_1.length < 1) = true := decide_eq_true (by omega)
        clear c6
        (first | rw [c6b0] | (simp only [i64_w, i32_w]; rw [c6b0]) | skip)
        have H' := Aside0.mk H
        clear H
        have hcz7_0 : w3.cell? ⟨gb163, 0, none⟩ = some (.slice A0_0 l0_0.length c0_0) := (blk_cell BK163.out 0).trans rfl
        have hcz7_1 : w3.cell? ⟨gb163, 1, none⟩ = some (.slice A0_1 l0_1.length c0_1) := (blk_cell BK163.out 1).trans rfl
        have hcz7_2 : w3.cell? ⟨gb163, 2, none⟩ = some (.slice A0_2 l0_2.length c0_2) := (blk_cell BK163.out 2).trans rfl
        have hfz7_0 := blk_frozen BK163.out 0
        have hfz7_1 := blk_frozen BK163.out 1
        have hfz7_2 := blk_frozen BK163.out 2
        go_wp2_with (first | (go_at_call 102; (with_reducible refine (spec_l7Parts.calls k _ _ l0_0 true _ ?side1 ?side2 A4.out).mono ?_); (case side1 => repeat (first | exact (Kd.C_below HR0_0.out HB.out) | (with_reducible refine Kd.C_alloc ?_ _) | (with_reducible refine Kd.C_drewN ?_ _) | (with_reducible refine Kd.C_drew ?_))); (case side2 => exact HC0_0.out); rintro e w8 ⟨rfl, hb⟩; have n0_ := Aside0.mk (blk_below (g := gb163) (o := .cells #[.slice A0_0 l0_0.length c0_0, .slice A0_1 l0_1.length c0_1, .slice A0_2 l0_2.length c0_2] 31 (0, 0)) (by (with_reducible repeat (first | refine blk_drewN ?_ _ | refine blk_drew ?_ | refine blk_alloc ?_ _)); exact BK163.out) hb); have n1_ := Aside0.mk (below_step (by repeat (first | (with_reducible first | exact HB.out | apply below_alloc | apply pw_below_drewN | apply below_drew1 | refine below_set ?_ GE163.out) | exact HB.out)) hb); clear BK163; clear HB; have BK163 := n0_; have HB := n1_; clear n0_ n1_; (try clear hb); (try clear hb2); (try clear hk); (try clear hi); have hcz9_0 : w8.cell? ⟨gb163, 0, none⟩ = some (.slice A0_0 l0_0.length c0_0) := (blk_cell BK163.out 0).trans rfl; have hcz9_1 : w8.cell? ⟨gb163, 1, none⟩ = some (.slice A0_1 l0_1.length c0_1) := (blk_cell BK163.out 1).trans rfl; have hcz9_2 : w8.cell? ⟨gb163, 2, none⟩ = some (.slice A0_2 l0_2.length c0_2) := (blk_cell BK163.out 2).trans rfl; have hfz9_0 := blk_frozen BK163.out 0; have hfz9_1 := blk_frozen BK163.out 1; have hfz9_2 := blk_frozen BK163.out 2))
        repeat (go_quiet (first | (go_at_call 102; (with_reducible refine (spec_l7Parts.calls k _ _ l0_0 true _ ?side1 ?side2 A4.out).mono ?_); (case side1 => repeat (first | exact (Kd.C_below HR0_0.out HB.out) | (with_reducible refine Kd.C_alloc ?_ _) | (with_reducible refine Kd.C_drewN ?_ _) | (with_reducible refine Kd.C_drew ?_))); (case side2 => exact HC0_0.out); rintro e w8 ⟨rfl, hb⟩; have n0_ := Aside0.mk (blk_below (g := gb163) (o := .cells #[.slice A0_0 l0_0.length c0_0, .slice A0_1 l0_1.length c0_1, .slice A0_2 l0_2.length c0_2] 31 (0, 0)) (by (with_reducible repeat (first | refine blk_drewN ?_ _ | refine blk_drew ?_ | refine blk_alloc ?_ _)); exact BK163.out) hb); have n1_ := Aside0.mk (below_step (by repeat (first | (with_reducible first | exact HB.out | apply below_alloc | apply pw_below_drewN | apply below_drew1 | refine below_set ?_ GE163.out) | exact HB.out)) hb); clear BK163; clear HB; have BK163 := n0_; have HB := n1_; clear n0_ n1_; (try clear hb); (try clear hb2); (try clear hk); (try clear hi); have hcz9_0 : w8.cell? ⟨gb163, 0, none⟩ = some (.slice A0_0 l0_0.length c0_0) := (blk_cell BK163.out 0).trans rfl; have hcz9_1 : w8.cell? ⟨gb163, 1, none⟩ = some (.slice A0_1 l0_1.length c0_1) := (blk_cell BK163.out 1).trans rfl; have hcz9_2 : w8.cell? ⟨gb163, 2, none⟩ = some (.slice A0_2 l0_2.length c0_2) := (blk_cell BK163.out 2).trans rfl; have hfz9_0 := blk_frozen BK163.out 0; have hfz9_1 := blk_frozen BK163.out 1; have hfz9_2 := blk_frozen BK163.out 2)); try go_wp2_with (first | (go_at_call 102; (with_reducible refine (spec_l7Parts.calls k _ _ l0_0 true _ ?side1 ?side2 A4.out).mono ?_); (case side1 => repeat (first | exact (Kd.C_below HR0_0.out HB.out) | (with_reducible refine Kd.C_alloc ?_ _) | (with_reducible refine Kd.C_drewN ?_ _) | (with_reducible refine Kd.C_drew ?_))); (case side2 => exact HC0_0.out); rintro e w8 ⟨rfl, hb⟩; have n0_ := Aside0.mk (blk_below (g := gb163) (o := .cells #[.slice A0_0 l0_0.length c0_0, .slice A0_1 l0_1.length c0_1, .slice A0_2 l0_2.length c0_2] 31 (0, 0)) (by (with_reducible repeat (first | refine blk_drewN ?_ _ | refine blk_drew ?_ | refine blk_alloc ?_ _)); exact BK163.out) hb); have n1_ := Aside0.mk (below_step (by repeat (first | (with_reducible first | exact HB.out | apply below_alloc | apply pw_below_drewN | apply below_drew1 | refine below_set ?_ GE163.out) | exact HB.out)) hb); clear BK163; clear HB; have BK163 := n0_; have HB := n1_; clear n0_ n1_; (try clear hb); (try clear hb2); (try clear hk); (try clear hi); have hcz9_0 : w8.cell? ⟨gb163, 0, none⟩ = some (.slice A0_0 l0_0.length c0_0) := (blk_cell BK163.out 0).trans rfl; have hcz9_1 : w8.cell? ⟨gb163, 1, none⟩ = some (.slice A0_1 l0_1.length c0_1) := (blk_cell BK163.out 1).trans rfl; have hcz9_2 : w8.cell? ⟨gb163, 2, none⟩ = some (.slice A0_2 l0_2.length c0_2) := (blk_cell BK163.out 2).trans rfl; have hfz9_0 := blk_frozen BK163.out 0; have hfz9_1 := blk_frozen BK163.out 1; have hfz9_2 := blk_frozen BK163.out 2)))
        go_meet
        case rel => exact ⟨_, (true), (by first | rfl | (simp; done) | (simp [*]; done)), H', ⟨by first | omega | exact Nat.le_refl _⟩, ⟨by (with_reducible repeat (first | refine blk_drewN ?_ _ | refine blk_drew ?_ | refine blk_alloc ?_ _)); exact BK163.out⟩, ⟨by repeat (first | (with_reducible first | exact HB.out | apply below_alloc | apply pw_below_drewN | apply below_drew1 | refine below_set ?_ GE163.out) | exact HB.out)⟩⟩
      · rw [if_neg c6] at H
        have c6b0 : decide ((l0_1.length : Int) < 1) = false := decide_eq_false c6
        have c6b1 : decide (l0_1.length < 1) = false := decide_eq_false (by omega)
        clear c6
        (first | rw [c6b0] | (simp only [i64_w, i32_w]; rw [c6b0]) | skip)
        by_cases c10 : (l0_1.length : Int) > 40
        · rw [if_pos c10] at H
          have c10b0 : decide (40 < (l0_1.length : Int)) = true := decide_eq_true c10
          have c10b1 : decide (40 < l0_1.length) = true := decide_eq_true (by omega)
          clear c10
          have H' := Aside0.mk H
          clear H
          have hcz11_0 : w3.cell? ⟨gb163, 0, none⟩ = some (.slice A0_0 l0_0.length c0_0) := (blk_cell BK163.out 0).trans rfl
          have hcz11_1 : w3.cell? ⟨gb163, 1, none⟩ = some (.slice A0_1 l0_1.length c0_1) := (blk_cell BK163.out 1).trans rfl
          have hcz11_2 : w3.cell? ⟨gb163, 2, none⟩ = some (.slice A0_2 l0_2.length c0_2) := (blk_cell BK163.out 2).trans rfl
          have hfz11_0 := blk_frozen BK163.out 0
          have hfz11_1 := blk_frozen BK163.out 1
          have hfz11_2 := blk_frozen BK163.out 2
          go_wp2_with (first | (go_at_call 102; (with_reducible refine (spec_l7Parts.calls k _ _ l0_0 true _ ?side1 ?side2 A4.out).mono ?_); (case side1 => repeat (first | exact (Kd.C_below HR0_0.out HB.out) | (with_reducible refine Kd.C_alloc ?_ _) | (with_reducible refine Kd.C_drewN ?_ _) | (with_reducible refine Kd.C_drew ?_))); (case side2 => exact HC0_0.out); rintro e w12 ⟨rfl, hb⟩; have n0_ := Aside0.mk (blk_below (g := gb163) (o := .cells #[.slice A0_0 l0_0.length c0_0, .slice A0_1 l0_1.length c0_1, .slice A0_2 l0_2.length c0_2] 31 (0, 0)) (by (with_reducible repeat (first | refine blk_drewN ?_ _ | refine blk_drew ?_ | refine blk_alloc ?_ _)); exact BK163.out) hb); have n1_ := Aside0.mk (below_step (by repeat (first | (with_reducible first | exact HB.out | apply below_alloc | apply pw_below_drewN | apply below_drew1 | refine below_set ?_ GE163.out) | exact HB.out)) hb); clear BK163; clear HB; have BK163 := n0_; have HB := n1_; clear n0_ n1_; (try clear hb); (try clear hb2); (try clear hk); (try clear hi); have hcz13_0 : w12.cell? ⟨gb163, 0, none⟩ = some (.slice A0_0 l0_0.length c0_0) := (blk_cell BK163.out 0).trans rfl; have hcz13_1 : w12.cell? ⟨gb163, 1, none⟩ = some (.slice A0_1 l0_1.length c0_1) := (blk_cell BK163.out 1).trans rfl; have hcz13_2 : w12.cell? ⟨gb163, 2, none⟩ = some (.slice A0_2 l0_2.length c0_2) := (blk_cell BK163.out 2).trans rfl; have hfz13_0 := blk_frozen BK163.out 0; have hfz13_1 := blk_frozen BK163.out 1; have hfz13_2 := blk_frozen BK163.out 2))
          repeat (go_quiet (first | (go_at_call 102; (with_reducible refine (spec_l7Parts.calls k _ _ l0_0 true _ ?side1 ?side2 A4.out).mono ?_); (case side1 => repeat (first | exact (Kd.C_below HR0_0.out HB.out) | (with_reducible refine Kd.C_alloc ?_ _) | (with_reducible refine Kd.C_drewN ?_ _) | (with_reducible refine Kd.C_drew ?_))); (case side2 => exact HC0_0.out); rintro e w12 ⟨rfl, hb⟩; have n0_ := Aside0.mk (blk_below (g := gb163) (o := .cells #[.slice A0_0 l0_0.length c0_0, .slice A0_1 l0_1.length c0_1, .slice A0_2 l0_2.length c0_2] 31 (0, 0)) (by (with_reducible repeat (first | refine blk_drewN ?_ _ | refine blk_drew ?_ | refine blk_alloc ?_ _)); exact BK163.out) hb); have n1_ := Aside0.mk (below_step (by repeat (first | (with_reducible first | exact HB.out | apply below_alloc | apply pw_below_drewN | apply below_drew1 | refine below_set ?_ GE163.out) | exact HB.out)) hb); clear BK163; clear HB; have BK163 := n0_; have HB := n1_; clear n0_ n1_; (try clear hb); (try clear hb2); (try clear hk); (try clear hi); have hcz13_0 : w12.cell? ⟨gb163, 0, none⟩ = some (.slice A0_0 l0_0.length c0_0) := (blk_cell BK163.out 0).trans rfl; have hcz13_1 : w12.cell? ⟨gb163, 1, none⟩ = some (.slice A0_1 l0_1.length c0_1) := (blk_cell BK163.out 1).trans rfl; have hcz13_2 : w12.cell? ⟨gb163, 2, none⟩ = some (.slice A0_2 l0_2.length c0_2) := (blk_cell BK163.out 2).trans rfl; have hfz13_0 := blk_frozen BK163.out 0; have hfz13_1 := blk_frozen BK163.out 1; have hfz13_2 := blk_frozen BK163.out 2)); try go_wp2_with (first | (go_at_call 102; (with_reducible refine (spec_l7Parts.calls k _ _ l0_0 true _ ?side1 ?side2 A4.out).mono ?_); (case side1 => repeat (first | exact (Kd.C_below HR0_0.out HB.out) | (with_reducible refine Kd.C_alloc ?_ _) | (with_reducible refine Kd.C_drewN ?_ _) | (with_reducible refine Kd.C_drew ?_))); (case side2 => exact HC0_0.out); rintro e w12 ⟨rfl, hb⟩; have n0_ := Aside0.mk (blk_below (g := gb163) (o := .cells #[.slice A0_0 l0_0.length c0_0, .slice A0_1 l0_1.length c0_1, .slice A0_2 l0_2.length c0_2] 31 (0, 0)) (by (with_reducible repeat (first | refine blk_drewN ?_ _ | refine blk_drew ?_ | refine blk_alloc ?_ _)); exact BK163.out) hb); have n1_ := Aside0.mk (below_step (by repeat (first | (with_reducible first | exact HB.out | apply below_alloc | apply pw_below_drewN | apply below_drew1 | refine below_set ?_ GE163.out) | exact HB.out)) hb); clear BK163; clear HB; have BK163 := n0_; have HB := n1_; clear n0_ n1_; (try clear hb); (try clear hb2); (try clear hk); (try clear hi); have hcz13_0 : w12.cell? ⟨gb163, 0, none⟩ = some (.slice A0_0 l0_0.length c0_0) := (blk_cell BK163.out 0).trans rfl; have hcz13_1 : w12.cell? ⟨gb163, 1, none⟩ = some (.slice A0_1 l0_1.length c0_1) := (blk_cell BK163.out 1).trans rfl; have hcz13_2 : w12.cell? ⟨gb163, 2, none⟩ = some (.slice A0_2 l0_2.length c0_2) := (blk_cell BK163.out 2).trans rfl; have hfz13_0 := blk_frozen BK163.out 0; have hfz13_1 := blk_frozen BK163.out 1; have hfz13_2 := blk_frozen BK163.out 2)))
          go_meet
          case rel => exact ⟨_, (true), (by first | rfl | (simp; done) | (simp [*]; done)), H', ⟨by first | omega | exact Nat.le_refl _⟩, ⟨by (with_reducible repeat (first | refine blk_drewN ?_ _ | refine blk_drew ?_ | refine blk_alloc ?_ _)); exact BK163.out⟩, ⟨by repeat (first | (with_reducible first | exact HB.out | apply below_alloc | apply pw_below_drewN | apply below_drew1 | refine below_set ?_ GE163.out) | exact HB.out)⟩⟩
        · rw [if_neg c10] at H
          have c10b0 : decide (40 < (l0_1.length : Int)) = false := decide_eq_false c10
          have c10b1 : decide (40 < l0_1.length) = false := decide_eq_false (by omega)
          clear c10
          have H' := Aside0.mk H
          clear H
          have hcz14_0 : w3.cell? ⟨gb163, 0, none⟩ = some (.slice A0_0 l0_0.length c0_0) := (blk_cell BK163.out 0).trans rfl
          have hcz14_1 : w3.cell? ⟨gb163, 1, none⟩ = some (.slice A0_1 l0_1.length c0_1) := (blk_cell BK163.out 1).trans rfl
          have hcz14_2 : w3.cell? ⟨gb163, 2, none⟩ = some (.slice A0_2 l0_2.length c0_2) := (blk_cell BK163.out 2).trans rfl
          have hfz14_0 := blk_frozen BK163.out 0
          have hfz14_1 := blk_frozen BK163.out 1
          have hfz14_2 := blk_frozen BK163.out 2
          go_wp2_with (first | (go_at_call 102; (with_reducible refine (spec_l7Parts.calls k _ _ l0_0 true _ ?side1 ?side2 A4.out).mono ?_); (case side1 => repeat (first | exact (Kd.C_below HR0_0.out HB.out) | (with_reducible refine Kd.C_alloc ?_ _) | (with_reducible refine Kd.C_drewN ?_ _) | (with_reducible refine Kd.C_drew ?_))); (case side2 => exact HC0_0.out); rintro e w15 ⟨rfl, hb⟩; have n0_ := Aside0.mk (blk_below (g := gb163) (o := .cells #[.slice A0_0 l0_0.length c0_0, .slice A0_1 l0_1.length c0_1, .slice A0_2 l0_2.length c0_2] 31 (0, 0)) (by (with_reducible repeat (first | refine blk_drewN ?_ _ | refine blk_drew ?_ | refine blk_alloc ?_ _)); exact BK163.out) hb); have n1_ := Aside0.mk (below_step (by repeat (first | (with_reducible first | exact HB.out | apply below_alloc | apply pw_below_drewN | apply below_drew1 | refine below_set ?_ GE163.out) | exact HB.out)) hb); clear BK163; clear HB; have BK163 := n0_; have HB := n1_; clear n0_ n1_; (try clear hb); (try clear hb2); (try clear hk); (try clear hi); have hcz16_0 : w15.cell? ⟨gb163, 0, none⟩ = some (.slice A0_0 l0_0.length c0_0) := (blk_cell BK163.out 0).trans rfl; have hcz16_1 : w15.cell? ⟨gb163, 1, none⟩ = some (.slice A0_1 l0_1.length c0_1) := (blk_cell BK163.out 1).trans rfl; have hcz16_2 : w15.cell? ⟨gb163, 2, none⟩ = some (.slice A0_2 l0_2.length c0_2) := (blk_cell BK163.out 2).trans rfl; have hfz16_0 := blk_frozen BK163.out 0; have hfz16_1 := blk_frozen BK163.out 1; have hfz16_2 := blk_frozen BK163.out 2))
          repeat (go_quiet (first | (go_at_call 102; (with_reducible refine (spec_l7Parts.calls k _ _ l0_0 true _ ?side1 ?side2 A4.out).mono ?_); (case side1 => repeat (first | exact (Kd.C_below HR0_0.out HB.out) | (with_reducible refine Kd.C_alloc ?_ _) | (with_reducible refine Kd.C_drewN ?_ _) | (with_reducible refine Kd.C_drew ?_))); (case side2 => exact HC0_0.out); rintro e w15 ⟨rfl, hb⟩; have n0_ := Aside0.mk (blk_below (g := gb163) (o := .cells #[.slice A0_0 l0_0.length c0_0, .slice A0_1 l0_1.length c0_1, .slice A0_2 l0_2.length c0_2] 31 (0, 0)) (by (with_reducible repeat (first | refine blk_drewN ?_ _ | refine blk_drew ?_ | refine blk_alloc ?_ _)); exact BK163.out) hb); have n1_ := Aside0.mk (below_step (by repeat (first | (with_reducible first | exact HB.out | apply below_alloc | apply pw_below_drewN | apply below_drew1 | refine below_set ?_ GE163.out) | exact HB.out)) hb); clear BK163; clear HB; have BK163 := n0_; have HB := n1_; clear n0_ n1_; (try clear hb); (try clear hb2); (try clear hk); (try clear hi); have hcz16_0 : w15.cell? ⟨gb163, 0, none⟩ = some (.slice A0_0 l0_0.length c0_0) := (blk_cell BK163.out 0).trans rfl; have hcz16_1 : w15.cell? ⟨gb163, 1, none⟩ = some (.slice A0_1 l0_1.length c0_1) := (blk_cell BK163.out 1).trans rfl; have hcz16_2 : w15.cell? ⟨gb163, 2, none⟩ = some (.slice A0_2 l0_2.length c0_2) := (blk_cell BK163.out 2).trans rfl; have hfz16_0 := blk_frozen BK163.out 0; have hfz16_1 := blk_frozen BK163.out 1; have hfz16_2 := blk_frozen BK163.out 2)); try go_wp2_with (first | (go_at_call 102; (with_reducible refine (spec_l7Parts.calls k _ _ l0_0 true _ ?side1 ?side2 A4.out).mono ?_); (case side1 => repeat (first | exact (Kd.C_below HR0_0.out HB.out) | (with_reducible refine Kd.C_alloc ?_ _) | (with_reducible refine Kd.C_drewN ?_ _) | (with_reducible refine Kd.C_drew ?_))); (case side2 => exact HC0_0.out); rintro e w15 ⟨rfl, hb⟩; have n0_ := Aside0.mk (blk_below (g := gb163) (o := .cells #[.slice A0_0 l0_0.length c0_0, .slice A0_1 l0_1.length c0_1, .slice A0_2 l0_2.length c0_2] 31 (0, 0)) (by (with_reducible repeat (first | refine blk_drewN ?_ _ | refine blk_drew ?_ | refine blk_alloc ?_ _)); exact BK163.out) hb); have n1_ := Aside0.mk (below_step (by repeat (first | (with_reducible first | exact HB.out | apply below_alloc | apply pw_below_drewN | apply below_drew1 | refine below_set ?_ GE163.out) | exact HB.out)) hb); clear BK163; clear HB; have BK163 := n0_; have HB := n1_; clear n0_ n1_; (try clear hb); (try clear hb2); (try clear hk); (try clear hi); have hcz16_0 : w15.cell? ⟨gb163, 0, none⟩ = some (.slice A0_0 l0_0.length c0_0) := (blk_cell BK163.out 0).trans rfl; have hcz16_1 : w15.cell? ⟨gb163, 1, none⟩ = some (.slice A0_1 l0_1.length c0_1) := (blk_cell BK163.out 1).trans rfl; have hcz16_2 : w15.cell? ⟨gb163, 2, none⟩ = some (.slice A0_2 l0_2.length c0_2) := (blk_cell BK163.out 2).trans rfl; have hfz16_0 := blk_frozen BK163.out 0; have hfz16_1 := blk_frozen BK163.out 1; have hfz16_2 := blk_frozen BK163.out 2)))
          go_meet
          case rel => exact ⟨_, (((l0_2.length : Int) != (l0_1.length : Int))), (by first | rfl | (simp; done) | (simp [*]; done)), H', ⟨by first | omega | exact Nat.le_refl _⟩, ⟨by (with_reducible repeat (first | refine blk_drewN ?_ _ | refine blk_drew ?_ | refine blk_alloc ?_ _)); exact BK163.out⟩, ⟨by repeat (first | (with_reducible first | exact HB.out | apply below_alloc | apply pw_below_drewN | apply below_drew1 | refine below_set ?_ GE163.out) | exact HB.out)⟩⟩
    · replace c5 := Bool.eq_false_iff.mpr c5
      subst c5
      have H1 : (spec_DfaOk.j0 k true l0_0 l0_1 l0_2) = some r := by rw [if_neg (show ¬ (false = true) by decide)] at H; exact H
      clear H
      have H := H1
      clear H1
      have H' := Aside0.mk H
      clear H
      have hcz17_0 : w3.cell? ⟨gb163, 0, none⟩ = some (.slice A0_0 l0_0.length c0_0) := (blk_cell BK163.out 0).trans rfl
      have hcz17_1 : w3.cell? ⟨gb163, 1, none⟩ = some (.slice A0_1 l0_1.length c0_1) := (blk_cell BK163.out 1).trans rfl
      have hcz17_2 : w3.cell? ⟨gb163, 2, none⟩ = some (.slice A0_2 l0_2.length c0_2) := (blk_cell BK163.out 2).trans rfl
      have hfz17_0 := blk_frozen BK163.out 0
      have hfz17_1 := blk_frozen BK163.out 1
      have hfz17_2 := blk_frozen BK163.out 2
      go_wp2_with (first | (go_at_call 102; (with_reducible refine (spec_l7Parts.calls k _ _ l0_0 false _ ?side1 ?side2 A4.out).mono ?_); (case side1 => repeat (first | exact (Kd.C_below HR0_0.out HB.out) | (with_reducible refine Kd.C_alloc ?_ _) | (with_reducible refine Kd.C_drewN ?_ _) | (with_reducible refine Kd.C_drew ?_))); (case side2 => exact HC0_0.out); rintro e w18 ⟨rfl, hb⟩; have n0_ := Aside0.mk (blk_below (g := gb163) (o := .cells #[.slice A0_0 l0_0.length c0_0, .slice A0_1 l0_1.length c0_1, .slice A0_2 l0_2.length c0_2] 31 (0, 0)) (by (with_reducible repeat (first | refine blk_drewN ?_ _ | refine blk_drew ?_ | refine blk_alloc ?_ _)); exact BK163.out) hb); have n1_ := Aside0.mk (below_step (by repeat (first | (with_reducible first | exact HB.out | apply below_alloc | apply pw_below_drewN | apply below_drew1 | refine below_set ?_ GE163.out) | exact HB.out)) hb); clear BK163; clear HB; have BK163 := n0_; have HB := n1_; clear n0_ n1_; (try clear hb); (try clear hb2); (try clear hk); (try clear hi)))
      repeat (go_quiet (first | (go_at_call 102; (with_reducible refine (spec_l7Parts.calls k _ _ l0_0 false _ ?side1 ?side2 A4.out).mono ?_); (case side1 => repeat (first | exact (Kd.C_below HR0_0.out HB.out) | (with_reducible refine Kd.C_alloc ?_ _) | (with_reducible refine Kd.C_drewN ?_ _) | (with_reducible refine Kd.C_drew ?_))); (case side2 => exact HC0_0.out); rintro e w18 ⟨rfl, hb⟩; have n0_ := Aside0.mk (blk_below (g := gb163) (o := .cells #[.slice A0_0 l0_0.length c0_0, .slice A0_1 l0_1.length c0_1, .slice A0_2 l0_2.length c0_2] 31 (0, 0)) (by (with_reducible repeat (first | refine blk_drewN ?_ _ | refine blk_drew ?_ | refine blk_alloc ?_ _)); exact BK163.out) hb); have n1_ := Aside0.mk (below_step (by repeat (first | (with_reducible first | exact HB.out | apply below_alloc | apply pw_below_drewN | apply below_drew1 | refine below_set ?_ GE163.out) | exact HB.out)) hb); clear BK163; clear HB; have BK163 := n0_; have HB := n1_; clear n0_ n1_; (try clear hb); (try clear hb2); (try clear hk); (try clear hi))); try go_wp2_with (first | (go_at_call 102; (with_reducible refine (spec_l7Parts.calls k _ _ l0_0 false _ ?side1 ?side2 A4.out).mono ?_); (case side1 => repeat (first | exact (Kd.C_below HR0_0.out HB.out) | (with_reducible refine Kd.C_alloc ?_ _) | (with_reducible refine Kd.C_drewN ?_ _) | (with_reducible refine Kd.C_drew ?_))); (case side2 => exact HC0_0.out); rintro e w18 ⟨rfl, hb⟩; have n0_ := Aside0.mk (blk_below (g := gb163) (o := .cells #[.slice A0_0 l0_0.length c0_0, .slice A0_1 l0_1.length c0_1, .slice A0_2 l0_2.length c0_2] 31 (0, 0)) (by (with_reducible repeat (first | refine blk_drewN ?_ _ | refine blk_drew ?_ | refine blk_alloc ?_ _)); exact BK163.out) hb); have n1_ := Aside0.mk (below_step (by repeat (first | (with_reducible first | exact HB.out | apply below_alloc | apply pw_below_drewN | apply below_drew1 | refine below_set ?_ GE163.out) | exact HB.out)) hb); clear BK163; clear HB; have BK163 := n0_; have HB := n1_; clear n0_ n1_; (try clear hb); (try clear hb2); (try clear hk); (try clear hi))))
      go_meet
      case rel => exact ⟨_, (true), (by first | rfl | (simp; done) | (simp [*]; done)), H', ⟨by first | omega | exact Nat.le_refl _⟩, ⟨by (with_reducible repeat (first | refine blk_drewN ?_ _ | refine blk_drew ?_ | refine blk_alloc ?_ _)); exact BK163.out⟩, ⟨by repeat (first | (with_reducible first | exact HB.out | apply below_alloc | apply pw_below_drewN | apply below_drew1 | refine below_set ?_ GE163.out) | exact HB.out)⟩⟩
  case rest =>
    clear HC2
    try clear c1
    try clear p2
    try clear c5
    try clear c6
    try clear c6b0
    try clear c6b1
    try clear c10
    try clear c10b0
    try clear c10b1
    try clear hcz11_0
    try clear hcz11_1
    try clear hcz11_2
    try clear hcz13_0
    try clear hcz13_1
    try clear hcz13_2
    try clear hcz14_0
    try clear hcz14_1
    try clear hcz14_2
    try clear hcz16_0
    try clear hcz16_1
    try clear hcz16_2
    try clear hcz17_0
    try clear hcz17_1
    try clear hcz17_2
    try clear hcz7_0
    try clear hcz7_1
    try clear hcz7_2
    try clear hcz9_0
    try clear hcz9_1
    try clear hcz9_2
    try clear hfz11_0
    try clear hfz11_1
    try clear hfz11_2
    try clear hfz13_0
    try clear hfz13_1
    try clear hfz13_2
    try clear hfz14_0
    try clear hfz14_1
    try clear hfz14_2
    try clear hfz16_0
    try clear hfz16_1
    try clear hfz16_2
    try clear hfz17_0
    try clear hfz17_1
    try clear hfz17_2
    try clear hfz7_0
    try clear hfz7_1
    try clear hfz7_2
    try clear hfz9_0
    try clear hfz9_1
    try clear hfz9_2
    obtain ⟨kq, x29_1, rfl, HA, HJ1, BK163, HB⟩ := hcut
    cases kq with
    | zero => exact absurd HA.out (by simp [spec_DfaOk.j0])
    | succ kj1 =>
      have H := HA.out
      clear HA
      simp only [spec_DfaOk.j0] at H
      by_cases c19 : x29_1 = true
      · subst c19
        have H1 : (some false) = some r := by rw [if_pos rfl] at H; exact H
        clear H
        have H := H1
        clear H1
        obtain rfl := Option.some.inj H
        go_wp2
        repeat (go_quiet (fail); try go_wp2)
        go_ret
        exact ⟨by first | rfl | (simp [errW_none, errW_some] <;> rfl) | (simp [*, errW_none, errW_some] <;> rfl), by repeat (first | (with_reducible first | exact HB.out | apply below_alloc | apply pw_below_drewN | apply below_drew1 | refine below_set ?_ GE163.out) | exact HB.out)⟩
      · replace c19 := Bool.eq_false_iff.mpr c19
        subst c19
        have H1 : (spec_DfaOk.l0 kj1 0 l0_0 l0_1 l0_2) = some r := by rw [if_neg (show ¬ (false = true) by decide)] at H; exact H
        clear H
        have H := H1
        clear H1
        have H' := Aside0.mk H
        clear H
        go_wp2
        repeat (go_quiet (fail); try go_wp2)
        go_loopg [3] kj1 (fun kq v3 w' => ∃ (x3_2 : Int), v3 = .int .i64 x3_2 ∧ Aside0 (spec_DfaOk.l0 kq x3_2 l0_0 l0_1 l0_2 = some r) ∧ Aside0 (kq ≤ kj1) ∧ Aside0 (w'.heap[gb163]? = some (.cells #[(.slice A0_0 l0_0.length c0_0), (.slice A0_1 l0_1.length c0_1), (.slice A0_2 l0_2.length c0_2)] 31 (0, 0))) ∧ Aside0 (Below w.heap.size w w'))
        case atStart => exact ⟨(0), (by first | rfl | (simp; done) | (simp [*]; done)), H', ⟨Nat.le_refl _⟩, ⟨by (with_reducible repeat (first | refine blk_drewN ?_ _ | refine blk_drew ?_ | refine blk_alloc ?_ _)); exact BK163.out⟩, ⟨by repeat (first | (with_reducible first | exact HB.out | apply below_alloc | apply pw_below_drewN | apply below_drew1 | refine below_set ?_ GE163.out) | exact HB.out)⟩⟩
        case round =>
          clear H'
          try clear c1
          try clear p2
          try clear c5
          try clear c6
          try clear c6b0
          try clear c6b1
          try clear c10
          try clear c10b0
          try clear c10b1
          try clear c19
          try clear hcz11_0
          try clear hcz11_1
          try clear hcz11_2
          try clear hcz13_0
          try clear hcz13_1
          try clear hcz13_2
          try clear hcz14_0
          try clear hcz14_1
          try clear hcz14_2
          try clear hcz16_0
          try clear hcz16_1
          try clear hcz16_2
          try clear hcz17_0
          try clear hcz17_1
          try clear hcz17_2
          try clear hcz7_0
          try clear hcz7_1
          try clear hcz7_2
          try clear hcz9_0
          try clear hcz9_1
          try clear hcz9_2
          try clear hfz11_0
          try clear hfz11_1
          try clear hfz11_2
          try clear hfz13_0
          try clear hfz13_1
          try clear hfz13_2
          try clear hfz14_0
          try clear hfz14_1
          try clear hfz14_2
          try clear hfz16_0
          try clear hfz16_1
          try clear hfz16_2
          try clear hfz17_0
          try clear hfz17_1
          try clear hfz17_2
          try clear hfz7_0
          try clear hfz7_1
          try clear hfz7_2
          try clear hfz9_0
          try clear hfz9_1
          try clear hfz9_2
          try clear p2
          obtain ⟨x3_2, rfl, HA, HK2, BK163, HB⟩ := hrel
          cases gk with
          | zero => exact absurd HA.out (by simp [spec_DfaOk.l0])
          | succ k2 =>
            have H := HA.out
            clear HA
            simp only [spec_DfaOk.l0] at H
            by_cases c20 : x3_2 < (l0_1.length : Int)
            · rw [if_pos c20] at H
              have c20b0 : decide (x3_2 < (l0_1.length : Int)) = true := decide_eq_true c20
              clear c20
              have HC21 := Aside0.mk H
              clear H
              have hcz22_0 : wr.cell? ⟨gb163, 0, none⟩ = some (.slice A0_0 l0_0.length c0_0) := (blk_cell BK163.out 0).trans rfl
              have hcz22_1 : wr.cell? ⟨gb163, 1, none⟩ = some (.slice A0_1 l0_1.length c0_1) := (blk_cell BK163.out 1).trans rfl
              have hcz22_2 : wr.cell? ⟨gb163, 2, none⟩ = some (.slice A0_2 l0_2.length c0_2) := (blk_cell BK163.out 2).trans rfl
              have hfz22_0 := blk_frozen BK163.out 0
              have hfz22_1 := blk_frozen BK163.out 1
              have hfz22_2 := blk_frozen BK163.out 2
              go_upto_region 6 with (fail)
              repeat (go_quiet (fail); go_upto_region 6 with (fail))
              go_cut [62] (fun v62 wc => ∃ (kq : Nat) (x62_20 : Bool), v62 = .bool x62_20 ∧ Aside0 (spec_DfaOk.j2 kq x3_2 x62_20 l0_0 l0_1 l0_2 = some r) ∧ Aside0 (kq ≤ k2) ∧ Aside0 (wc.heap[gb163]? = some (.cells #[(.slice A0_0 l0_0.length c0_0), (.slice A0_1 l0_1.length c0_1), (.slice A0_2 l0_2.length c0_2)] 31 (0, 0))) ∧ Aside0 (Below w.heap.size w wc))
              case first =>
                have H := HC21.out
                clear HC21
                by_cases c23 : 0 ≤ x3_2
                · rw [if_pos c23] at H
                  have c23b0 : decide (0 ≤ x3_2) = true := decide_eq_true c23
                  clear c23
                  (first | rw [c23b0] | (simp only [i64_w, i32_w]; rw [c23b0]) | skip)
                  by_cases c24 : ((rd_L3 l0_1 x3_2).length : Int) = (l0_0.length : Int)
                  · rw [if_pos c24] at H
                    have c24b0 : (((rd_L3 l0_1 x3_2).length : Int) == (l0_0.length : Int)) = true := beq_iff_eq.mpr c24
                    have c24b1 : (((rd_L3 l0_1 x3_2).length : Int) != (l0_0.length : Int)) = false := bne_eq_false_iff_eq.mpr c24
                    have c24b2 : ((rd_L3 l0_1 x3_2).length == l0_0.length) = true := by first | simpa using c24 | (simp at c24 ⊢; omega)
                    clear c24
                    by_cases c25 : x3_2 < (l0_2.length : Int)
                    · rw [if_pos c25] at H
                      have c25b0 : decide (x3_2 < (l0_2.length : Int)) = true := decide_eq_true c25
                      clear c25
                      by_cases c26 : (rd l0_2 x3_2) < (-1)
                      · rw [if_pos c26] at H
                        have c26b0 : decide ((rd l0_2 x3_2) < (-1)) = true := decide_eq_true c26
                        clear c26
                        have H' := Aside0.mk H
                        clear H
                        have hcz27_0 : wr.cell? ⟨gb163, 0, none⟩ = some (.slice A0_0 l0_0.length c0_0) := (blk_cell BK163.out 0).trans rfl
                        have hcz27_1 : wr.cell? ⟨gb163, 1, none⟩ = some (.slice A0_1 l0_1.length c0_1) := (blk_cell BK163.out 1).trans rfl
                        have hcz27_2 : wr.cell? ⟨gb163, 2, none⟩ = some (.slice A0_2 l0_2.length c0_2) := (blk_cell BK163.out 2).trans rfl
                        have hfz27_0 := blk_frozen BK163.out 0
                        have hfz27_1 := blk_frozen BK163.out 1
                        have hfz27_2 := blk_frozen BK163.out 2
                        have p165 : 0 ≤ (x3_2 : Int) := of_decide_eq_true (by first | (with_reducible assumption) | assumption)
                        have q165 : x3_2 < (l0_1.length : Int) := of_decide_eq_true (by first | (with_reducible assumption) | assumption)
                        obtain ⟨ad165, A165_0, c165_0, e165, hx165_0, hl165_0, hi165_0⟩ := at_L3 HR0_1.out x3_2 p165 q165
                        cases e165
                        replace hx165_0 := (HB.out.cell (World.block_lt_of_cell? w _ hx165_0)).trans hx165_0
                        have HR165_0 := Aside0.mk hi165_0
                        have HC165_0 := Aside0.mk hl165_0
                        clear hi165_0 hl165_0
                        replace p165 := eq_true p165
                        replace q165 := eq_true q165
                        have p166 : 0 ≤ (x3_2 : Int) := of_decide_eq_true (by first | (with_reducible assumption) | assumption)
                        have q166 : x3_2 < (l0_2.length : Int) := of_decide_eq_true (by first | (with_reducible assumption) | assumption)
                        obtain ⟨ad166, e166, hx166_0⟩ := Kd.at_int HR0_2.out x3_2 p166 q166
                        cases e166
                        replace hx166_0 := (HB.out.cell (World.block_lt_of_cell? w _ hx166_0)).trans hx166_0
                        replace p166 := eq_true p166
                        replace q166 := eq_true q166
                        go_wp2
                        repeat (go_quiet (fail); try go_wp2)
                        go_meet
                        case rel => exact ⟨_, (true), (by first | rfl | (simp; done) | (simp [*]; done)), H', ⟨by have := HJ1.out; have := HK2.out; first | omega | exact Nat.le_refl _⟩, ⟨by (with_reducible repeat (first | refine blk_drewN ?_ _ | refine blk_drew ?_ | refine blk_alloc ?_ _)); exact BK163.out⟩, ⟨by repeat (first | (with_reducible first | exact HB.out | apply below_alloc | apply pw_below_drewN | apply below_drew1 | refine below_set ?_ GE163.out) | exact HB.out)⟩⟩
                      · rw [if_neg c26] at H
                        have c26b0 : decide ((rd l0_2 x3_2) < (-1)) = false := decide_eq_false c26
                        clear c26
                        have H' := Aside0.mk H
                        clear H
                        have hcz28_0 : wr.cell? ⟨gb163, 0, none⟩ = some (.slice A0_0 l0_0.length c0_0) := (blk_cell BK163.out 0).trans rfl
                        have hcz28_1 : wr.cell? ⟨gb163, 1, none⟩ = some (.slice A0_1 l0_1.length c0_1) := (blk_cell BK163.out 1).trans rfl
                        have hcz28_2 : wr.cell? ⟨gb163, 2, none⟩ = some (.slice A0_2 l0_2.length c0_2) := (blk_cell BK163.out 2).trans rfl
                        have hfz28_0 := blk_frozen BK163.out 0
                        have hfz28_1 := blk_frozen BK163.out 1
                        have hfz28_2 := blk_frozen BK163.out 2
                        have p165 : 0 ≤ (x3_2 : Int) := of_decide_eq_true (by first | (with_reducible assumption) | assumption)
                        have q165 : x3_2 < (l0_1.length : Int) := of_decide_eq_true (by first | (with_reducible assumption) | assumption)
                        obtain ⟨ad165, A165_0, c165_0, e165, hx165_0, hl165_0, hi165_0⟩ := at_L3 HR0_1.out x3_2 p165 q165
                        cases e165
                        replace hx165_0 := (HB.out.cell (World.block_lt_of_cell? w _ hx165_0)).trans hx165_0
                        have HR165_0 := Aside0.mk hi165_0
                        have HC165_0 := Aside0.mk hl165_0
                        clear hi165_0 hl165_0
                        replace p165 := eq_true p165
                        replace q165 := eq_true q165
                        have p166 : 0 ≤ (x3_2 : Int) := of_decide_eq_true (by first | (with_reducible assumption) | assumption)
                        have q166 : x3_2 < (l0_2.length : Int) := of_decide_eq_true (by first | (with_reducible assumption) | assumption)
                        obtain ⟨ad166, e166, hx166_0⟩ := Kd.at_int HR0_2.out x3_2 p166 q166
                        cases e166
                        replace hx166_0 := (HB.out.cell (World.block_lt_of_cell? w _ hx166_0)).trans hx166_0
                        replace p166 := eq_true p166
                        replace q166 := eq_true q166
                        have p167 : 0 ≤ (x3_2 : Int) := of_decide_eq_true (by first | (with_reducible assumption) | assumption)
                        have q167 : x3_2 < (l0_2.length : Int) := of_decide_eq_true (by first | (with_reducible assumption) | assumption)
                        obtain ⟨ad167, e167, hx167_0⟩ := Kd.at_int HR0_2.out x3_2 p167 q167
                        obtain rfl : ad166 = ad167 := (by injection e167)
                        replace hx167_0 := (HB.out.cell (World.block_lt_of_cell? w _ hx167_0)).trans hx167_0
                        replace p167 := eq_true p167
                        replace q167 := eq_true q167
                        go_wp2
                        repeat (go_quiet (fail); try go_wp2)
                        go_meet
                        case rel => exact ⟨_, (decide ((rd l0_2 x3_2) ≥ 5)), (by first | rfl | (simp; done) | (simp [*]; done)), H', ⟨by have := HJ1.out; have := HK2.out; first | omega | exact Nat.le_refl _⟩, ⟨by (with_reducible repeat (first | refine blk_drewN ?_ _ | refine blk_drew ?_ | refine blk_alloc ?_ _)); exact BK163.out⟩, ⟨by repeat (first | (with_reducible first | exact HB.out | apply below_alloc | apply pw_below_drewN | apply below_drew1 | refine below_set ?_ GE163.out) | exact HB.out)⟩⟩
                    · rw [if_neg c25] at H
                      exact absurd H (by simp)
                  · rw [if_neg c24] at H
                    have c24b0 : (((rd_L3 l0_1 x3_2).length : Int) == (l0_0.length : Int)) = false := beq_eq_false_iff_ne.mpr c24
                    have c24b1 : (((rd_L3 l0_1 x3_2).length : Int) != (l0_0.length : Int)) = true := bne_iff_ne.mpr c24
                    have c24b2 : ((rd_L3 l0_1 x3_2).length == l0_0.length) = false := by first | simpa using c24 | (simp at c24 ⊢; omega)
                    have H' := Aside0.mk H
                    clear H
                    have hcz29_0 : wr.cell? ⟨gb163, 0, none⟩ = some (.slice A0_0 l0_0.length c0_0) := (blk_cell BK163.out 0).trans rfl
                    have hcz29_1 : wr.cell? ⟨gb163, 1, none⟩ = some (.slice A0_1 l0_1.length c0_1) := (blk_cell BK163.out 1).trans rfl
                    have hcz29_2 : wr.cell? ⟨gb163, 2, none⟩ = some (.slice A0_2 l0_2.length c0_2) := (blk_cell BK163.out 2).trans rfl
                    have hfz29_0 := blk_frozen BK163.out 0
                    have hfz29_1 := blk_frozen BK163.out 1
                    have hfz29_2 := blk_frozen BK163.out 2
                    have p165 : 0 ≤ (x3_2 : Int) := of_decide_eq_true (by first | (with_reducible assumption) | assumption)
                    have q165 : x3_2 < (l0_1.length : Int) := of_decide_eq_true (by first | (with_reducible assumption) | assumption)
                    obtain ⟨ad165, A165_0, c165_0, e165, hx165_0, hl165_0, hi165_0⟩ := at_L3 HR0_1.out x3_2 p165 q165
                    cases e165
                    replace hx165_0 := (HB.out.cell (World.block_lt_of_cell? w _ hx165_0)).trans hx165_0
                    have HR165_0 := Aside0.mk hi165_0
                    have HC165_0 := Aside0.mk hl165_0
                    clear hi165_0 hl165_0
                    replace p165 := eq_true p165
                    replace q165 := eq_true q165
                    go_wp2
                    repeat (go_quiet (fail); try go_wp2)
                    go_meet
                    case rel => exact ⟨_, (true), (by first | rfl | (simp; done) | (simp [*]; done)), H', ⟨by have := HJ1.out; have := HK2.out; first | omega | exact Nat.le_refl _⟩, ⟨by (with_reducible repeat (first | refine blk_drewN ?_ _ | refine blk_drew ?_ | refine blk_alloc ?_ _)); exact BK163.out⟩, ⟨by repeat (first | (with_reducible first | exact HB.out | apply below_alloc | apply pw_below_drewN | apply below_drew1 | refine below_set ?_ GE163.out) | exact HB.out)⟩⟩
                · rw [if_neg c23] at H
                  exact absurd H (by simp)
              case rest =>
                clear HC21
                try clear c1
                try clear p1
                try clear q1
                try clear hx1
                try clear c2
                try clear p2
                try clear c5
                try clear c6
                try clear c6b0
                try clear c6b1
                try clear c10
                try clear c10b0
                try clear c10b1
                try clear c16
                try clear p16
                try clear q16
                try clear hx16
                try clear c19
                try clear c20
                try clear c20b0
                try clear c23
                try clear c23b0
                try clear c24
                try clear c24b0
                try clear c24b1
                try clear c24b2
                try clear c25
                try clear c25b0
                try clear c26
                try clear c26b0
                try clear hcz11_0
                try clear hcz11_1
                try clear hcz11_2
                try clear hcz13_0
                try clear hcz13_1
                try clear hcz13_2
                try clear hcz14_0
                try clear hcz14_1
                try clear hcz14_2
                try clear hcz16_0
                try clear hcz16_1
                try clear hcz16_2
                try clear hcz17_0
                try clear hcz17_1
                try clear hcz17_2
                try clear hcz22_0
                try clear hcz22_1
                try clear hcz22_2
                try clear hcz27_0
                try clear hcz27_1
                try clear hcz27_2
                try clear hcz28_0
                try clear hcz28_1
                try clear hcz28_2
                try clear hcz29_0
                try clear hcz29_1
                try clear hcz29_2
                try clear hcz7_0
                try clear hcz7_1
                try clear hcz7_2
                try clear hcz9_0
                try clear hcz9_1
                try clear hcz9_2
                try clear hfz11_0
                try clear hfz11_1
                try clear hfz11_2
                try clear hfz13_0
                try clear hfz13_1
                try clear hfz13_2
                try clear hfz14_0
                try clear hfz14_1
                try clear hfz14_2
                try clear hfz16_0
                try clear hfz16_1
                try clear hfz16_2
                try clear hfz17_0
                try clear hfz17_1
                try clear hfz17_2
                try clear hfz22_0
                try clear hfz22_1
                try clear hfz22_2
                try clear hfz27_0
                try clear hfz27_1
                try clear hfz27_2
                try clear hfz28_0
                try clear hfz28_1
                try clear hfz28_2
                try clear hfz29_0
                try clear hfz29_1
                try clear hfz29_2
                try clear hfz7_0
                try clear hfz7_1
                try clear hfz7_2
                try clear hfz9_0
                try clear hfz9_1
                try clear hfz9_2
                try clear hx165_0
                try clear hx166_0
                try clear hx167_0
                try clear p165
                try clear p166
                try clear p167
                try clear p2
                try clear q165
                try clear q166
                try clear q167
                obtain ⟨kq, x62_20, rfl, HA, HJ20, BK163, HB⟩ := hcut
                cases kq with
                | zero => exact absurd HA.out (by simp [spec_DfaOk.j2])
                | succ kj20 =>
                  have H := HA.out
                  clear HA
                  simp only [spec_DfaOk.j2] at H
                  by_cases c30 : x62_20 = true
                  · subst c30
                    have H1 : (some false) = some r := by rw [if_pos rfl] at H; exact H
                    clear H
                    have H := H1
                    clear H1
                    obtain rfl := Option.some.inj H
                    go_wp2
                    repeat (go_quiet (fail); try go_wp2)
                    go_ret
                    exact ⟨by first | rfl | (simp [errW_none, errW_some] <;> rfl) | (simp [*, errW_none, errW_some] <;> rfl), by repeat (first | (with_reducible first | exact HB.out | apply below_alloc | apply pw_below_drewN | apply below_drew1 | refine below_set ?_ GE163.out) | exact HB.out)⟩
                  · replace c30 := Bool.eq_false_iff.mpr c30
                    subst c30
                    have H1 : (spec_DfaOk.l1 kj20 x3_2 0 l0_0 l0_1 l0_2) = some r := by rw [if_neg (show ¬ (false = true) by decide)] at H; exact H
                    clear H
                    have H := H1
                    clear H1
                    have H' := Aside0.mk H
                    clear H
                    go_wp2
                    repeat (go_quiet (fail); try go_wp2)
                    go_loopg [4] kj20 (fun kq v4 w' => ∃ (x4_4 : Int), v4 = .int .i64 x4_4 ∧ Aside0 (spec_DfaOk.l1 kq x3_2 x4_4 l0_0 l0_1 l0_2 = some r) ∧ Aside0 (kq ≤ kj20) ∧ Aside0 (w'.heap[gb163]? = some (.cells #[(.slice A0_0 l0_0.length c0_0), (.slice A0_1 l0_1.length c0_1), (.slice A0_2 l0_2.length c0_2)] 31 (0, 0))) ∧ Aside0 (Below w.heap.size w w'))
                    case atStart => exact ⟨(0), (by first | rfl | (simp; done) | (simp [*]; done)), H', ⟨Nat.le_refl _⟩, ⟨by (with_reducible repeat (first | refine blk_drewN ?_ _ | refine blk_drew ?_ | refine blk_alloc ?_ _)); exact BK163.out⟩, ⟨by repeat (first | (with_reducible first | exact HB.out | apply below_alloc | apply pw_below_drewN | apply below_drew1 | refine below_set ?_ GE163.out) | exact HB.out)⟩⟩
                    case round =>
                      clear H'
                      try clear c1
                      try clear p1
                      try clear q1
                      try clear hx1
                      try clear c2
                      try clear p2
                      try clear c3
                      try clear c5
                      try clear c6
                      try clear c6b0
                      try clear c6b1
                      try clear c10
                      try clear c10b0
                      try clear c10b1
                      try clear c16
                      try clear p16
                      try clear q16
                      try clear hx16
                      try clear c19
                      try clear c20
                      try clear c20b0
                      try clear c23
                      try clear c23b0
                      try clear c24
                      try clear c24b0
                      try clear c24b1
                      try clear c24b2
                      try clear c25
                      try clear c25b0
                      try clear c26
                      try clear c26b0
                      try clear c30
                      try clear hcz11_0
                      try clear hcz11_1
                      try clear hcz11_2
                      try clear hcz13_0
                      try clear hcz13_1
                      try clear hcz13_2
                      try clear hcz14_0
                      try clear hcz14_1
                      try clear hcz14_2
                      try clear hcz16_0
                      try clear hcz16_1
                      try clear hcz16_2
                      try clear hcz17_0
                      try clear hcz17_1
                      try clear hcz17_2
                      try clear hcz22_0
                      try clear hcz22_1
                      try clear hcz22_2
                      try clear hcz27_0
                      try clear hcz27_1
                      try clear hcz27_2
                      try clear hcz28_0
                      try clear hcz28_1
                      try clear hcz28_2
                      try clear hcz29_0
                      try clear hcz29_1
                      try clear hcz29_2
                      try clear hcz7_0
                      try clear hcz7_1
                      try clear hcz7_2
                      try clear hcz9_0
                      try clear hcz9_1
                      try clear hcz9_2
                      try clear hfz11_0
                      try clear hfz11_1
                      try clear hfz11_2
                      try clear hfz13_0
                      try clear hfz13_1
                      try clear hfz13_2
                      try clear hfz14_0
                      try clear hfz14_1
                      try clear hfz14_2
                      try clear hfz16_0
                      try clear hfz16_1
                      try clear hfz16_2
                      try clear hfz17_0
                      try clear hfz17_1
                      try clear hfz17_2
                      try clear hfz22_0
                      try clear hfz22_1
                      try clear hfz22_2
                      try clear hfz27_0
                      try clear hfz27_1
                      try clear hfz27_2
                      try clear hfz28_0
                      try clear hfz28_1
                      try clear hfz28_2
                      try clear hfz29_0
                      try clear hfz29_1
                      try clear hfz29_2
                      try clear hfz7_0
                      try clear hfz7_1
                      try clear hfz7_2
                      try clear hfz9_0
                      try clear hfz9_1
                      try clear hfz9_2
                      try clear hx165_0
                      try clear hx166_0
                      try clear hx167_0
                      try clear p1
                      try clear p16
                      try clear p165
                      try clear p166
                      try clear p167
                      try clear p2
                      try clear q1
                      try clear q16
                      try clear q165
                      try clear q166
                      try clear q167
                      obtain ⟨x4_4, rfl, HA, HK4, BK163, HB⟩ := hrel
                      cases gk with
                      | zero => exact absurd HA.out (by simp [spec_DfaOk.l1])
                      | succ k4 =>
                        have H := HA.out
                        clear HA
                        simp only [spec_DfaOk.l1] at H
                        by_cases c31 : 0 ≤ x3_2
                        · rw [if_pos c31] at H
                          have c31b0 : decide (0 ≤ x3_2) = true := decide_eq_true c31
                          clear c31
                          by_cases c32 : x3_2 < (l0_1.length : Int)
                          · rw [if_pos c32] at H
                            have c32b0 : decide (x3_2 < (l0_1.length : Int)) = true := decide_eq_true c32
                            clear c32
                            by_cases c33 : x4_4 < ((rd_L3 l0_1 x3_2).length : Int)
                            · rw [if_pos c33] at H
                              have c33b0 : decide (x4_4 < ((rd_L3 l0_1 x3_2).length : Int)) = true := decide_eq_true c33
                              clear c33
                              by_cases c34 : 0 ≤ x4_4
                              · rw [if_pos c34] at H
                                have c34b0 : decide (0 ≤ x4_4) = true := decide_eq_true c34
                                clear c34
                                by_cases c35 : (rd (rd_L3 l0_1 x3_2) x4_4) < (-1)
                                · rw [if_pos c35] at H
                                  have c35b0 : decide ((rd (rd_L3 l0_1 x3_2) x4_4) < (-1)) = true := decide_eq_true c35
                                  clear c35
                                  obtain rfl := Option.some.inj H
                                  have hcz36_0 : wr.cell? ⟨gb163, 0, none⟩ = some (.slice A0_0 l0_0.length c0_0) := (blk_cell BK163.out 0).trans rfl
                                  have hcz36_1 : wr.cell? ⟨gb163, 1, none⟩ = some (.slice A0_1 l0_1.length c0_1) := (blk_cell BK163.out 1).trans rfl
                                  have hcz36_2 : wr.cell? ⟨gb163, 2, none⟩ = some (.slice A0_2 l0_2.length c0_2) := (blk_cell BK163.out 2).trans rfl
                                  have hfz36_0 := blk_frozen BK163.out 0
                                  have hfz36_1 := blk_frozen BK163.out 1
                                  have hfz36_2 := blk_frozen BK163.out 2
                                  have p168 : 0 ≤ (x3_2 : Int) := of_decide_eq_true (by first | (with_reducible assumption) | assumption)
                                  have q168 : x3_2 < (l0_1.length : Int) := of_decide_eq_true (by first | (with_reducible assumption) | assumption)
                                  obtain ⟨ad168, A168_0, c168_0, e168, hx168_0, hl168_0, hi168_0⟩ := at_L3 HR0_1.out x3_2 p168 q168
                                  cases e168
                                  replace hx168_0 := (HB.out.cell (World.block_lt_of_cell? w _ hx168_0)).trans hx168_0
                                  have HR168_0 := Aside0.mk hi168_0
                                  have HC168_0 := Aside0.mk hl168_0
                                  clear hi168_0 hl168_0
                                  replace p168 := eq_true p168
                                  replace q168 := eq_true q168
                                  have p169 : 0 ≤ (x3_2 : Int) := of_decide_eq_true (by first | (with_reducible assumption) | assumption)
                                  have q169 : x3_2 < (l0_1.length : Int) := of_decide_eq_true (by first | (with_reducible assumption) | assumption)
                                  obtain ⟨ad169, A169_0, c169_0, e169, hx169_0, hl169_0, hi169_0⟩ := at_L3 HR0_1.out x3_2 p169 q169
                                  obtain rfl : ad168 = ad169 := (by injection e169)
                                  replace hx169_0 := (HB.out.cell (World.block_lt_of_cell? w _ hx169_0)).trans hx169_0
                                  have HR169_0 := Aside0.mk hi169_0
                                  have HC169_0 := Aside0.mk hl169_0
                                  clear hi169_0 hl169_0
                                  replace p169 := eq_true p169
                                  replace q169 := eq_true q169
                                  have ea_ := Option.some.inj (hx168_0.symm.trans hx169_0)
                                  injection ea_ with ea_ en_ ec_
                                  subst ea_
                                  subst ec_
                                  clear en_
                                  have p170 : 0 ≤ (x4_4 : Int) := of_decide_eq_true (by first | (with_reducible assumption) | assumption)
                                  have q170 : x4_4 < ((rd_L3 l0_1 x3_2).length : Int) := of_decide_eq_true (by first | (with_reducible assumption) | assumption)
                                  obtain ⟨ad170, e170, hx170_0⟩ := Kd.at_int HR169_0.out x4_4 p170 q170
                                  cases e170
                                  replace hx170_0 := (HB.out.cell (World.block_lt_of_cell? w _ hx170_0)).trans hx170_0
                                  replace p170 := eq_true p170
                                  replace q170 := eq_true q170
                                  go_wp2
                                  repeat (go_quiet (fail); try go_wp2)
                                  go_ret
                                  exact ⟨by first | rfl | (simp [errW_none, errW_some] <;> rfl) | (simp [*, errW_none, errW_some] <;> rfl), by repeat (first | (with_reducible first | exact HB.out | apply below_alloc | apply pw_below_drewN | apply below_drew1 | refine below_set ?_ GE163.out) | exact HB.out)⟩
                                · rw [if_neg c35] at H
                                  have c35b0 : decide ((rd (rd_L3 l0_1 x3_2) x4_4) < (-1)) = false := decide_eq_false c35
                                  clear c35
                                  by_cases c37 : (rd (rd_L3 l0_1 x3_2) x4_4) ≥ (l0_1.length : Int)
                                  · rw [if_pos c37] at H
                                    have c37b0 : decide ((l0_1.length : Int) ≤ (rd (rd_L3 l0_1 x3_2) x4_4)) = true := decide_eq_true c37
                                    clear c37
                                    obtain rfl := Option.some.inj H
                                    have hcz38_0 : wr.cell? ⟨gb163, 0, none⟩ = some (.slice A0_0 l0_0.length c0_0) := (blk_cell BK163.out 0).trans rfl
                                    have hcz38_1 : wr.cell? ⟨gb163, 1, none⟩ = some (.slice A0_1 l0_1.length c0_1) := (blk_cell BK163.out 1).trans rfl
                                    have hcz38_2 : wr.cell? ⟨gb163, 2, none⟩ = some (.slice A0_2 l0_2.length c0_2) := (blk_cell BK163.out 2).trans rfl
                                    have hfz38_0 := blk_frozen BK163.out 0
                                    have hfz38_1 := blk_frozen BK163.out 1
                                    have hfz38_2 := blk_frozen BK163.out 2
                                    have p168 : 0 ≤ (x3_2 : Int) := of_decide_eq_true (by first | (with_reducible assumption) | assumption)
                                    have q168 : x3_2 < (l0_1.length : Int) := of_decide_eq_true (by first | (with_reducible assumption) | assumption)
                                    obtain ⟨ad168, A168_0, c168_0, e168, hx168_0, hl168_0, hi168_0⟩ := at_L3 HR0_1.out x3_2 p168 q168
                                    cases e168
                                    replace hx168_0 := (HB.out.cell (World.block_lt_of_cell? w _ hx168_0)).trans hx168_0
                                    have HR168_0 := Aside0.mk hi168_0
                                    have HC168_0 := Aside0.mk hl168_0
                                    clear hi168_0 hl168_0
                                    replace p168 := eq_true p168
                                    replace q168 := eq_true q168
                                    have p169 : 0 ≤ (x3_2 : Int) := of_decide_eq_true (by first | (with_reducible assumption) | assumption)
                                    have q169 : x3_2 < (l0_1.length : Int) := of_decide_eq_true (by first | (with_reducible assumption) | assumption)
                                    obtain ⟨ad169, A169_0, c169_0, e169, hx169_0, hl169_0, hi169_0⟩ := at_L3 HR0_1.out x3_2 p169 q169
                                    obtain rfl : ad168 = ad169 := (by injection e169)
                                    replace hx169_0 := (HB.out.cell (World.block_lt_of_cell? w _ hx169_0)).trans hx169_0
                                    have HR169_0 := Aside0.mk hi169_0
                                    have HC169_0 := Aside0.mk hl169_0
                                    clear hi169_0 hl169_0
                                    replace p169 := eq_true p169
                                    replace q169 := eq_true q169
                                    have ea_ := Option.some.inj (hx168_0.symm.trans hx169_0)
                                    injection ea_ with ea_ en_ ec_
                                    subst ea_
                                    subst ec_
                                    clear en_
                                    have p170 : 0 ≤ (x4_4 : Int) := of_decide_eq_true (by first | (with_reducible assumption) | assumption)
                                    have q170 : x4_4 < ((rd_L3 l0_1 x3_2).length : Int) := of_decide_eq_true (by first | (with_reducible assumption) | assumption)
                                    obtain ⟨ad170, e170, hx170_0⟩ := Kd.at_int HR169_0.out x4_4 p170 q170
                                    cases e170
                                    replace hx170_0 := (HB.out.cell (World.block_lt_of_cell? w _ hx170_0)).trans hx170_0
                                    replace p170 := eq_true p170
                                    replace q170 := eq_true q170
                                    have p171 : 0 ≤ (x3_2 : Int) := of_decide_eq_true (by first | (with_reducible assumption) | assumption)
                                    have q171 : x3_2 < (l0_1.length : Int) := of_decide_eq_true (by first | (with_reducible assumption) | assumption)
                                    obtain ⟨ad171, A171_0, c171_0, e171, hx171_0, hl171_0, hi171_0⟩ := at_L3 HR0_1.out x3_2 p171 q171
                                    obtain rfl : ad168 = ad171 := (by injection e171)
                                    replace hx171_0 := (HB.out.cell (World.block_lt_of_cell? w _ hx171_0)).trans hx171_0
                                    have HR171_0 := Aside0.mk hi171_0
                                    have HC171_0 := Aside0.mk hl171_0
                                    clear hi171_0 hl171_0
                                    replace p171 := eq_true p171
                                    replace q171 := eq_true q171
                                    have ea_ := Option.some.inj (hx168_0.symm.trans hx171_0)
                                    injection ea_ with ea_ en_ ec_
                                    subst ea_
                                    subst ec_
                                    clear en_
                                    have p172 : 0 ≤ (x4_4 : Int) := of_decide_eq_true (by first | (with_reducible assumption) | assumption)
                                    have q172 : x4_4 < ((rd_L3 l0_1 x3_2).length : Int) := of_decide_eq_true (by first | (with_reducible assumption) | assumption)
                                    obtain ⟨ad172, e172, hx172_0⟩ := Kd.at_int HR171_0.out x4_4 p172 q172
                                    cases e172
                                    replace hx172_0 := (HB.out.cell (World.block_lt_of_cell? w _ hx172_0)).trans hx172_0
                                    replace p172 := eq_true p172
                                    replace q172 := eq_true q172
                                    go_wp2
                                    repeat (go_quiet (fail); try go_wp2)
                                    go_ret
                                    exact ⟨by first | rfl | (simp [errW_none, errW_some] <;> rfl) | (simp [*, errW_none, errW_some] <;> rfl), by repeat (first | (with_reducible first | exact HB.out | apply below_alloc | apply pw_below_drewN | apply below_drew1 | refine below_set ?_ GE163.out) | exact HB.out)⟩
                                  · rw [if_neg c37] at H
                                    have c37b0 : decide ((l0_1.length : Int) ≤ (rd (rd_L3 l0_1 x3_2) x4_4)) = false := decide_eq_false c37
                                    clear c37
                                    have H' := Aside0.mk H
                                    clear H
                                    have hcz39_0 : wr.cell? ⟨gb163, 0, none⟩ = some (.slice A0_0 l0_0.length c0_0) := (blk_cell BK163.out 0).trans rfl
                                    have hcz39_1 : wr.cell? ⟨gb163, 1, none⟩ = some (.slice A0_1 l0_1.length c0_1) := (blk_cell BK163.out 1).trans rfl
                                    have hcz39_2 : wr.cell? ⟨gb163, 2, none⟩ = some (.slice A0_2 l0_2.length c0_2) := (blk_cell BK163.out 2).trans rfl
                                    have hfz39_0 := blk_frozen BK163.out 0
                                    have hfz39_1 := blk_frozen BK163.out 1
                                    have hfz39_2 := blk_frozen BK163.out 2
                                    have p168 : 0 ≤ (x3_2 : Int) := of_decide_eq_true (by first | (with_reducible assumption) | assumption)
                                    have q168 : x3_2 < (l0_1.length : Int) := of_decide_eq_true (by first | (with_reducible assumption) | assumption)
                                    obtain ⟨ad168, A168_0, c168_0, e168, hx168_0, hl168_0, hi168_0⟩ := at_L3 HR0_1.out x3_2 p168 q168
                                    cases e168
                                    replace hx168_0 := (HB.out.cell (World.block_lt_of_cell? w _ hx168_0)).trans hx168_0
                                    have HR168_0 := Aside0.mk hi168_0
                                    have HC168_0 := Aside0.mk hl168_0
                                    clear hi168_0 hl168_0
                                    replace p168 := eq_true p168
                                    replace q168 := eq_true q168
                                    have p169 : 0 ≤ (x3_2 : Int) := of_decide_eq_true (by first | (with_reducible assumption) | assumption)
                                    have q169 : x3_2 < (l0_1.length : Int) := of_decide_eq_true (by first | (with_reducible assumption) | assumption)
                                    obtain ⟨ad169, A169_0, c169_0, e169, hx169_0, hl169_0, hi169_0⟩ := at_L3 HR0_1.out x3_2 p169 q169
                                    obtain rfl : ad168 = ad169 := (by injection e169)
                                    replace hx169_0 := (HB.out.cell (World.block_lt_of_cell? w _ hx169_0)).trans hx169_0
                                    have HR169_0 := Aside0.mk hi169_0
                                    have HC169_0 := Aside0.mk hl169_0
                                    clear hi169_0 hl169_0
                                    replace p169 := eq_true p169
                                    replace q169 := eq_true q169
                                    have ea_ := Option.some.inj (hx168_0.symm.trans hx169_0)
                                    injection ea_ with ea_ en_ ec_
                                    subst ea_
                                    subst ec_
                                    clear en_
                                    have p170 : 0 ≤ (x4_4 : Int) := of_decide_eq_true (by first | (with_reducible assumption) | assumption)
                                    have q170 : x4_4 < ((rd_L3 l0_1 x3_2).length : Int) := of_decide_eq_true (by first | (with_reducible assumption) | assumption)
                                    obtain ⟨ad170, e170, hx170_0⟩ := Kd.at_int HR169_0.out x4_4 p170 q170
                                    cases e170
                                    replace hx170_0 := (HB.out.cell (World.block_lt_of_cell? w _ hx170_0)).trans hx170_0
                                    replace p170 := eq_true p170
                                    replace q170 := eq_true q170
                                    have p171 : 0 ≤ (x3_2 : Int) := of_decide_eq_true (by first | (with_reducible assumption) | assumption)
                                    have q171 : x3_2 < (l0_1.length : Int) := of_decide_eq_true (by first | (with_reducible assumption) | assumption)
                                    obtain ⟨ad171, A171_0, c171_0, e171, hx171_0, hl171_0, hi171_0⟩ := at_L3 HR0_1.out x3_2 p171 q171
                                    obtain rfl : ad168 = ad171 := (by injection e171)
                                    replace hx171_0 := (HB.out.cell (World.block_lt_of_cell? w _ hx171_0)).trans hx171_0
                                    have HR171_0 := Aside0.mk hi171_0
                                    have HC171_0 := Aside0.mk hl171_0
                                    clear hi171_0 hl171_0
                                    replace p171 := eq_true p171
                                    replace q171 := eq_true q171
                                    have ea_ := Option.some.inj (hx168_0.symm.trans hx171_0)
                                    injection ea_ with ea_ en_ ec_
                                    subst ea_
                                    subst ec_
                                    clear en_
                                    have p172 : 0 ≤ (x4_4 : Int) := of_decide_eq_true (by first | (with_reducible assumption) | assumption)
                                    have q172 : x4_4 < ((rd_L3 l0_1 x3_2).length : Int) := of_decide_eq_true (by first | (with_reducible assumption) | assumption)
                                    obtain ⟨ad172, e172, hx172_0⟩ := Kd.at_int HR171_0.out x4_4 p172 q172
                                    cases e172
                                    replace hx172_0 := (HB.out.cell (World.block_lt_of_cell? w _ hx172_0)).trans hx172_0
                                    replace p172 := eq_true p172
                                    replace q172 := eq_true q172
                                    go_wp2
                                    repeat (go_quiet (fail); try go_wp2)
                                    go_roundg k4
                                    case measure => have := HJ1.out; have := HK2.out; have := HJ20.out; have := HK4.out; omega
                                    case rel => exact ⟨(wrap64 (x4_4 + 1)), (by first | rfl | (simp; done) | (simp [*]; done)), H', ⟨by have := HJ1.out; have := HK2.out; have := HJ20.out; have := HK4.out; omega⟩, ⟨by (with_reducible repeat (first | refine blk_drewN ?_ _ | refine blk_drew ?_ | refine blk_alloc ?_ _)); exact BK163.out⟩, ⟨by repeat (first | (with_reducible first | exact HB.out | apply below_alloc | apply pw_below_drewN | apply below_drew1 | refine below_set ?_ GE163.out) | exact HB.out)⟩⟩
                              · rw [if_neg c34] at H
                                exact absurd H (by simp)
                            · rw [if_neg c33] at H
                              have c33b0 : decide (x4_4 < ((rd_L3 l0_1 x3_2).length : Int)) = false := decide_eq_false c33
                              clear c33
                              have H' := Aside0.mk H
                              clear H
                              have hcz40_0 : wr.cell? ⟨gb163, 0, none⟩ = some (.slice A0_0 l0_0.length c0_0) := (blk_cell BK163.out 0).trans rfl
                              have hcz40_1 : wr.cell? ⟨gb163, 1, none⟩ = some (.slice A0_1 l0_1.length c0_1) := (blk_cell BK163.out 1).trans rfl
                              have hcz40_2 : wr.cell? ⟨gb163, 2, none⟩ = some (.slice A0_2 l0_2.length c0_2) := (blk_cell BK163.out 2).trans rfl
                              have hfz40_0 := blk_frozen BK163.out 0
                              have hfz40_1 := blk_frozen BK163.out 1
                              have hfz40_2 := blk_frozen BK163.out 2
                              have p168 : 0 ≤ (x3_2 : Int) := of_decide_eq_true (by first | (with_reducible assumption) | assumption)
                              have q168 : x3_2 < (l0_1.length : Int) := of_decide_eq_true (by first | (with_reducible assumption) | assumption)
                              obtain ⟨ad168, A168_0, c168_0, e168, hx168_0, hl168_0, hi168_0⟩ := at_L3 HR0_1.out x3_2 p168 q168
                              cases e168
                              replace hx168_0 := (HB.out.cell (World.block_lt_of_cell? w _ hx168_0)).trans hx168_0
                              have HR168_0 := Aside0.mk hi168_0
                              have HC168_0 := Aside0.mk hl168_0
                              clear hi168_0 hl168_0
                              replace p168 := eq_true p168
                              replace q168 := eq_true q168
                              go_wp2
                              repeat (go_quiet (fail); try go_wp2)
                              go_roundg k4
                              case measure => have := HJ1.out; have := HK2.out; have := HJ20.out; have := HK4.out; omega
                              case rel => exact ⟨(wrap64 (x3_2 + 1)), (by first | rfl | (simp; done) | (simp [*]; done)), H', ⟨by have := HJ1.out; have := HK2.out; have := HJ20.out; have := HK4.out; omega⟩, ⟨by (with_reducible repeat (first | refine blk_drewN ?_ _ | refine blk_drew ?_ | refine blk_alloc ?_ _)); exact BK163.out⟩, ⟨by repeat (first | (with_reducible first | exact HB.out | apply below_alloc | apply pw_below_drewN | apply below_drew1 | refine below_set ?_ GE163.out) | exact HB.out)⟩⟩
                          · rw [if_neg c32] at H
                            exact absurd H (by simp)
                        · rw [if_neg c31] at H
                          exact absurd H (by simp)
            · rw [if_neg c20] at H
              have c20b0 : decide (x3_2 < (l0_1.length : Int)) = false := decide_eq_false c20
              clear c20
              obtain rfl := Option.some.inj H
              have hcz41_0 : wr.cell? ⟨gb163, 0, none⟩ = some (.slice A0_0 l0_0.length c0_0) := (blk_cell BK163.out 0).trans rfl
              have hcz41_1 : wr.cell? ⟨gb163, 1, none⟩ = some (.slice A0_1 l0_1.length c0_1) := (blk_cell BK163.out 1).trans rfl
              have hcz41_2 : wr.cell? ⟨gb163, 2, none⟩ = some (.slice A0_2 l0_2.length c0_2) := (blk_cell BK163.out 2).trans rfl
              have hfz41_0 := blk_frozen BK163.out 0
              have hfz41_1 := blk_frozen BK163.out 1
              have hfz41_2 := blk_frozen BK163.out 2
              go_wp2
              repeat (go_quiet (fail); try go_wp2)
              go_ret
              exact ⟨by first | rfl | (simp [errW_none, errW_some] <;> rfl) | (simp [*, errW_none, errW_some] <;> rfl), by repeat (first | (with_reducible first | exact HB.out | apply below_alloc | apply pw_below_drewN | apply below_drew1 | refine below_set ?_ GE163.out) | exact HB.out)⟩
end Go.Proofs.Ytigmibfacllhmaa.P

namespace Go.Proofs.Ytigmibfacllhmaa.P
open Go.RowKit Go.Proofs.YtigmibfacllhmaaW.PrintWords Go.Proofs.YtigmibfacllhmaaW.PrintLast Go.Proofs.YtigmibfacllhmaaW.PrintMore
attribute [local go_sem] max2_int min2_int max_two min_two max_three min_three max_four min_four   -- for this text's walks alone
set_option linter.unusedVariables false
set_option linter.unusedSimpArgs false
def spec_l7Next.l0 : Nat → Int → Int → Int → List (List (S117)) → List (List Int) → List Int → Option (Int)
  | 0, _, _, _, _, _, _ => none
  | k + 1, x1, x2, x7, x174000, x174001, x174002 => if x7 < (x174000.length : Int) then (if 0 ≤ x7 then ((spec_SetHas.f k (rd_L6 x174000 x7) x2).bind fun t175 => (if t175 = true then (if 0 ≤ x1 then (if x1 < (x174001.length : Int) then (if x7 < ((rd_L3 x174001 x1).length : Int) then (some (rd (rd_L3 x174001 x1) x7)) else (none)) else (none)) else (none)) else (spec_l7Next.l0 k x1 x2 (wrap64 (x7 + 1)) x174000 x174001 x174002))) else (none)) else (some (-1))
def spec_l7Next.f (k : Nat) (l0_0 : List (List (S117))) (l0_1 : List (List Int)) (l0_2 : List Int) (a1 : Int) (a2 : Int) : Option (Int) := spec_l7Next.l0 k a1 a2 0 l0_0 l0_1 l0_2
theorem spec_l7Next.mono_l : ∀ k, (∀ y0 y1 y2 y3 y4 y5, LeO (spec_l7Next.l0 k y0 y1 y2 y3 y4 y5) (spec_l7Next.l0 (k + 1) y0 y1 y2 y3 y4 y5))
  | 0 => fun _ _ _ _ _ _ r h => by simp [spec_l7Next.l0] at h
  | k + 1 => by
    have ih0 := spec_l7Next.mono_l k
    · intro y0 y1 y2 y3 y4 y5
      unfold spec_l7Next.l0
      repeat' first
      | (with_reducible exact ih0 _ _ _ _ _ _)
      | (with_reducible exact spec_SetHas.mono _ _ _)
      | (with_reducible exact LeO.refl _)
      | (with_reducible exact LeO.none _)
      | (with_reducible refine LeO.ite ?_ ?_)
      | (with_reducible refine LeO.bind ?_ (fun _ => ?_))
      | exact ih0 _ _ _ _ _ _
      | exact spec_SetHas.mono _ _ _
      | exact LeO.none _
      | refine LeO.ite ?_ ?_
      | refine LeO.bind ?_ (fun _ => ?_)
theorem spec_l7Next.mono : ∀ a0 a1 a2 a3 a4 k, LeO (spec_l7Next.f k a0 a1 a2 a3 a4) (spec_l7Next.f (k + 1) a0 a1 a2 a3 a4) := by
  intro a0 a1 a2 a3 a4 k
  have ih0 := spec_l7Next.mono_l k
  unfold spec_l7Next.f
  repeat' first
      | (with_reducible exact ih0 _ _ _ _ _ _)
      | (with_reducible exact spec_SetHas.mono _ _ _)
      | (with_reducible exact LeO.refl _)
      | (with_reducible exact LeO.none _)
      | (with_reducible refine LeO.ite ?_ ?_)
      | (with_reducible refine LeO.bind ?_ (fun _ => ?_))
      | exact ih0 _ _ _ _ _ _
      | exact spec_SetHas.mono _ _ _
      | exact LeO.none _
      | refine LeO.ite ?_ ?_
      | refine LeO.bind ?_ (fun _ => ?_)
set_option maxHeartbeats 8000000 in
set_option maxRecDepth 100000 in
theorem spec_l7Next.calls (k : Nat) (A0_0 : Option Addr) (c0_0 : Nat) (l0_0 : List (List (S117))) (A0_1 : Option Addr) (c0_1 : Nat) (l0_1 : List (List Int)) (A0_2 : Option Addr) (c0_2 : Nat) (l0_2 : List Int) (a1 : Int) (a2 : Int) (r : Int) (w : World) (hr0_0 : Kd.C (Kd.slice 117 k117) w A0_0 l0_0.length l0_0) (hc0_0 : l0_0.length ≤ c0_0) (hr0_1 : Kd.C (Kd.slice 3 (Kd.int .i64)) w A0_1 l0_1.length l0_1) (hc0_1 : l0_1.length ≤ c0_1) (hr0_2 : Kd.C (Kd.int .i64) w A0_2 l0_2.length l0_2) (hc0_2 : l0_2.length ≤ c0_2) (h : spec_l7Next.f k l0_0 l0_1 l0_2 a1 a2 = some r) :
    Calls Try.prog 103 #[.agg #[.slice A0_0 l0_0.length c0_0, .slice A0_1 l0_1.length c0_1, .slice A0_2 l0_2.length c0_2], .int .i64 a1, .int .i64 a2] w fun e w' => e = .returned (.int .i64 r) ∧ Below w.heap.size w w' := by
  have hu31 := Try.underlying31
  have HR0_0 := Aside0.mk hr0_0
  have HC0_0 := Aside0.mk hc0_0
  clear hr0_0 hc0_0
  have HR0_1 := Aside0.mk hr0_1
  have HC0_1 := Aside0.mk hc0_1
  clear hr0_1 hc0_1
  have HR0_2 := Aside0.mk hr0_2
  have HC0_2 := Aside0.mk hc0_2
  clear hr0_2 hc0_2
  have HB := Aside0.mk (Below.refl w.heap.size w)
  have H : (spec_l7Next.l0 k a1 a2 0 l0_0 l0_1 l0_2) = some r := h
  clear h
  have H' := Aside0.mk H
  clear H
  go_enter Try.func103, Try.ntmps103
  go_wp2_with (first | ((with_reducible refine gate_dst (N := 3) rfl ?_); refine box_event ?hg (N := 3) ?hd (cs := #[.slice A0_0 l0_0.length c0_0, .slice A0_1 l0_1.length c0_1, .slice A0_2 l0_2.length c0_2]) (t := 31) ?hr ?_; (case hd => rfl); (case hg => rfl); (case hr => first | (go_simp; done) | (go_simp; rfl)); intro gb173 hg w4 hbox hb; have n0_ := Aside0.mk (below_step (by repeat (first | (with_reducible first | exact HB.out | apply below_alloc | apply pw_below_drewN | apply below_drew1) | exact HB.out)) hb); have n1_ := Aside0.mk (hbox); have n2_ := Aside0.mk ((by rw [hg]; exact (below_size (by repeat (first | (with_reducible first | exact HB.out | apply below_alloc | apply pw_below_drewN | apply below_drew1) | exact HB.out))) : w.heap.size ≤ gb173)); have n3_ := Aside0.mk ((by rw [hg]; exact (below_size (by repeat (first | (with_reducible first | exact HB.out | apply below_alloc | apply pw_below_drewN | apply below_drew1) | exact HB.out))) : w.heap.size ≤ gb173)); clear HB; have HB := n0_; have BK173 := n1_; have GW173 := n2_; have GE173 := n3_; clear n0_ n1_ n2_ n3_; clear hb hbox hg))
  go_loopg [7] k (fun kq v7 w' => ∃ (x7_1 : Int), v7 = .int .i64 x7_1 ∧ Aside0 (spec_l7Next.l0 kq a1 a2 x7_1 l0_0 l0_1 l0_2 = some r) ∧ Aside0 (kq ≤ k) ∧ Aside0 (w'.heap[gb173]? = some (.cells #[(.slice A0_0 l0_0.length c0_0), (.slice A0_1 l0_1.length c0_1), (.slice A0_2 l0_2.length c0_2)] 31 (0, 0))) ∧ Aside0 (Below w.heap.size w w'))
  case atStart => exact ⟨(0), (by first | rfl | (simp; done) | (simp [*]; done)), H', ⟨Nat.le_refl _⟩, ⟨by (with_reducible repeat (first | refine blk_drewN ?_ _ | refine blk_drew ?_ | refine blk_alloc ?_ _)); exact BK173.out⟩, ⟨by repeat (first | (with_reducible first | exact HB.out | apply below_alloc | apply pw_below_drewN | apply below_drew1 | refine below_set ?_ GE173.out) | exact HB.out)⟩⟩
  case round =>
    clear H'
    try clear c1
    try clear p2
    obtain ⟨x7_1, rfl, HA, HK1, BK173, HB⟩ := hrel
    cases gk with
    | zero => exact absurd HA.out (by simp [spec_l7Next.l0])
    | succ k1 =>
      have H := HA.out
      clear HA
      simp only [spec_l7Next.l0] at H
      by_cases c5 : x7_1 < (l0_0.length : Int)
      · rw [if_pos c5] at H
        have c5b0 : decide (x7_1 < (l0_0.length : Int)) = true := decide_eq_true c5
        clear c5
        by_cases c6 : 0 ≤ x7_1
        · rw [if_pos c6] at H
          have c6b0 : decide (0 ≤ x7_1) = true := decide_eq_true c6
          clear c6
          replace H := Option.bind_eq_some_iff.mp H
          obtain ⟨t175, A70, H⟩ := H
          replace H : (if t175 = true then (if 0 ≤ a1 then (if a1 < (l0_1.length : Int) then (if x7_1 < ((rd_L3 l0_1 a1).length : Int) then (some (rd (rd_L3 l0_1 a1) x7_1)) else (none)) else (none)) else (none)) else (spec_l7Next.l0 k1 a1 a2 (wrap64 (x7_1 + 1)) l0_0 l0_1 l0_2)) = some r := H
          have A7 := Aside0.mk A70
          clear A70
          by_cases c8 : t175 = true
          · subst c8
            have H1 : (if 0 ≤ a1 then (if a1 < (l0_1.length : Int) then (if x7_1 < ((rd_L3 l0_1 a1).length : Int) then (some (rd (rd_L3 l0_1 a1) x7_1)) else (none)) else (none)) else (none)) = some r := by rw [if_pos rfl] at H; exact H
            clear H
            have H := H1
            clear H1
            by_cases c9 : 0 ≤ a1
            · rw [if_pos c9] at H
              have c9b0 : decide (0 ≤ a1) = true := decide_eq_true c9
              clear c9
              by_cases c10 : a1 < (l0_1.length : Int)
              · rw [if_pos c10] at H
                have c10b0 : decide (a1 < (l0_1.length : Int)) = true := decide_eq_true c10
                clear c10
                by_cases c11 : x7_1 < ((rd_L3 l0_1 a1).length : Int)
                · rw [if_pos c11] at H
                  have c11b0 : decide (x7_1 < ((rd_L3 l0_1 a1).length : Int)) = true := decide_eq_true c11
                  clear c11
                  obtain rfl := Option.some.inj H
                  have hcz12_0 : wr.cell? ⟨gb173, 0, none⟩ = some (.slice A0_0 l0_0.length c0_0) := (blk_cell BK173.out 0).trans rfl
                  have hcz12_1 : wr.cell? ⟨gb173, 1, none⟩ = some (.slice A0_1 l0_1.length c0_1) := (blk_cell BK173.out 1).trans rfl
                  have hcz12_2 : wr.cell? ⟨gb173, 2, none⟩ = some (.slice A0_2 l0_2.length c0_2) := (blk_cell BK173.out 2).trans rfl
                  have hfz12_0 := blk_frozen BK173.out 0
                  have hfz12_1 := blk_frozen BK173.out 1
                  have hfz12_2 := blk_frozen BK173.out 2
                  have p174 : 0 ≤ (x7_1 : Int) := of_decide_eq_true (by first | (with_reducible assumption) | assumption)
                  have q174 : x7_1 < (l0_0.length : Int) := of_decide_eq_true (by first | (with_reducible assumption) | assumption)
                  obtain ⟨ad174, A174_0, c174_0, e174, hx174_0, hl174_0, hi174_0⟩ := at_L6 HR0_0.out x7_1 p174 q174
                  cases e174
                  replace hx174_0 := (HB.out.cell (World.block_lt_of_cell? w _ hx174_0)).trans hx174_0
                  have HR174_0 := Aside0.mk hi174_0
                  have HC174_0 := Aside0.mk hl174_0
                  clear hi174_0 hl174_0
                  replace p174 := eq_true p174
                  replace q174 := eq_true q174
                  go_wp2_with (first | ((with_reducible refine gate_callee (f := 108) rfl ?_); refine goesL_ (some 21) rfl rfl Try.func108 (by kernel_rfl) rfl #[.slice A174_0 (rd_L6 l0_0 x7_1).length c174_0, .int .i64 a2] rfl (by (try simp only [List.map_toArray, List.map_cons, List.map_nil]); first | done | rfl | (simp only [List.length_drop, List.length_take]; rfl)) ?_; (with_reducible refine (spec_SetHas.calls k1 _ _ (rd_L6 l0_0 x7_1) a2 true _ ?side1 ?side2 A7.out).mono ?_); (case side1 => repeat (first | exact (Kd.C_below HR174_0.out HB.out) | (with_reducible refine Kd.C_alloc ?_ _) | (with_reducible refine Kd.C_drewN ?_ _) | (with_reducible refine Kd.C_drew ?_))); (case side2 => exact HC174_0.out); rintro e w' ⟨rfl, ⟨nd, rfl⟩⟩; refine ⟨_, rfl, ?_⟩; have p176 : 0 ≤ (a1 : Int) := of_decide_eq_true (by first | (with_reducible assumption) | assumption); have q176 : a1 < (l0_1.length : Int) := of_decide_eq_true (by first | (with_reducible assumption) | assumption); obtain ⟨ad176, A176_0, c176_0, e176, hx176_0, hl176_0, hi176_0⟩ := at_L3 HR0_1.out a1 p176 q176; cases e176; replace hx176_0 := (HB.out.cell (World.block_lt_of_cell? w _ hx176_0)).trans hx176_0; have HR176_0 := Aside0.mk hi176_0; have HC176_0 := Aside0.mk hl176_0; clear hi176_0 hl176_0; replace p176 := eq_true p176; replace q176 := eq_true q176; have p177 : 0 ≤ (x7_1 : Int) := of_decide_eq_true (by first | (with_reducible assumption) | assumption); have q177 : x7_1 < ((rd_L3 l0_1 a1).length : Int) := of_decide_eq_true (by first | (with_reducible assumption) | assumption); obtain ⟨ad177, e177, hx177_0⟩ := Kd.at_int HR176_0.out x7_1 p177 q177; cases e177; replace hx177_0 := (HB.out.cell (World.block_lt_of_cell? w _ hx177_0)).trans hx177_0; replace p177 := eq_true p177; replace q177 := eq_true q177))
                  go_ret
                  exact ⟨by first | rfl | (simp [errW_none, errW_some] <;> rfl) | (simp [*, errW_none, errW_some] <;> rfl), by repeat (first | (with_reducible first | exact HB.out | apply below_alloc | apply pw_below_drewN | apply below_drew1 | refine below_set ?_ GE173.out) | exact HB.out)⟩
                · rw [if_neg c11] at H
                  exact absurd H (by simp)
              · rw [if_neg c10] at H
                exact absurd H (by simp)
            · rw [if_neg c9] at H
              exact absurd H (by simp)
          · replace c8 := Bool.eq_false_iff.mpr c8
            subst c8
            have H1 : (spec_l7Next.l0 k1 a1 a2 (wrap64 (x7_1 + 1)) l0_0 l0_1 l0_2) = some r := by rw [if_neg (show ¬ (false = true) by decide)] at H; exact H
            clear H
            have H := H1
            clear H1
            have H' := Aside0.mk H
            clear H
            have hcz13_0 : wr.cell? ⟨gb173, 0, none⟩ = some (.slice A0_0 l0_0.length c0_0) := (blk_cell BK173.out 0).trans rfl
            have hcz13_1 : wr.cell? ⟨gb173, 1, none⟩ = some (.slice A0_1 l0_1.length c0_1) := (blk_cell BK173.out 1).trans rfl
            have hcz13_2 : wr.cell? ⟨gb173, 2, none⟩ = some (.slice A0_2 l0_2.length c0_2) := (blk_cell BK173.out 2).trans rfl
            have hfz13_0 := blk_frozen BK173.out 0
            have hfz13_1 := blk_frozen BK173.out 1
            have hfz13_2 := blk_frozen BK173.out 2
            have p174 : 0 ≤ (x7_1 : Int) := of_decide_eq_true (by first | (with_reducible assumption) | assumption)
            have q174 : x7_1 < (l0_0.length : Int) := of_decide_eq_true (by first | (with_reducible assumption) | assumption)
            obtain ⟨ad174, A174_0, c174_0, e174, hx174_0, hl174_0, hi174_0⟩ := at_L6 HR0_0.out x7_1 p174 q174
            cases e174
            replace hx174_0 := (HB.out.cell (World.block_lt_of_cell? w _ hx174_0)).trans hx174_0
            have HR174_0 := Aside0.mk hi174_0
            have HC174_0 := Aside0.mk hl174_0
            clear hi174_0 hl174_0
            replace p174 := eq_true p174
            replace q174 := eq_true q174
            go_wp2_with (first | ((with_reducible refine gate_callee (f := 108) rfl ?_); refine goesL_ (some 21) rfl rfl Try.func108 (by kernel_rfl) rfl #[.slice A174_0 (rd_L6 l0_0 x7_1).length c174_0, .int .i64 a2] rfl (by (try simp only [List.map_toArray, List.map_cons, List.map_nil]); first | done | rfl | (simp only [List.length_drop, List.length_take]; rfl)) ?_; (with_reducible refine (spec_SetHas.calls k1 _ _ (rd_L6 l0_0 x7_1) a2 false _ ?side1 ?side2 A7.out).mono ?_); (case side1 => repeat (first | exact (Kd.C_below HR174_0.out HB.out) | (with_reducible refine Kd.C_alloc ?_ _) | (with_reducible refine Kd.C_drewN ?_ _) | (with_reducible refine Kd.C_drew ?_))); (case side2 => exact HC174_0.out); rintro e w' ⟨rfl, ⟨nd, rfl⟩⟩; refine ⟨_, rfl, ?_⟩))
            go_roundg k1
            case measure => have := HK1.out; omega
            case rel => exact ⟨(wrap64 (x7_1 + 1)), (by first | rfl | (simp; done) | (simp [*]; done)), H', ⟨by have := HK1.out; omega⟩, ⟨by (with_reducible repeat (first | refine blk_drewN ?_ _ | refine blk_drew ?_ | refine blk_alloc ?_ _)); exact BK173.out⟩, ⟨by repeat (first | (with_reducible first | exact HB.out | apply below_alloc | apply pw_below_drewN | apply below_drew1 | refine below_set ?_ GE173.out) | exact HB.out)⟩⟩
        · rw [if_neg c6] at H
          exact absurd H (by simp)
      · rw [if_neg c5] at H
        have c5b0 : decide (x7_1 < (l0_0.length : Int)) = false := decide_eq_false c5
        clear c5
        obtain rfl := Option.some.inj H
        have hcz14_0 : wr.cell? ⟨gb173, 0, none⟩ = some (.slice A0_0 l0_0.length c0_0) := (blk_cell BK173.out 0).trans rfl
        have hcz14_1 : wr.cell? ⟨gb173, 1, none⟩ = some (.slice A0_1 l0_1.length c0_1) := (blk_cell BK173.out 1).trans rfl
        have hcz14_2 : wr.cell? ⟨gb173, 2, none⟩ = some (.slice A0_2 l0_2.length c0_2) := (blk_cell BK173.out 2).trans rfl
        have hfz14_0 := blk_frozen BK173.out 0
        have hfz14_1 := blk_frozen BK173.out 1
        have hfz14_2 := blk_frozen BK173.out 2
        go_wp2
        go_ret
        exact ⟨by first | rfl | (simp [errW_none, errW_some] <;> rfl) | (simp [*, errW_none, errW_some] <;> rfl), by repeat (first | (with_reducible first | exact HB.out | apply below_alloc | apply pw_below_drewN | apply below_drew1 | refine below_set ?_ GE173.out) | exact HB.out)⟩
end Go.Proofs.Ytigmibfacllhmaa.P

namespace Go.Proofs.Ytigmibfacllhmaa.P
open Go.RowKit Go.Proofs.YtigmibfacllhmaaW.PrintWords Go.Proofs.YtigmibfacllhmaaW.PrintLast Go.Proofs.YtigmibfacllhmaaW.PrintMore
attribute [local go_sem] max2_int min2_int max_two min_two max_three min_three max_four min_four   -- for this text's walks alone
set_option linter.unusedVariables false
set_option linter.unusedSimpArgs false
def spec_l7Run.l0 : Nat → ByteArray → Int → Int → List (List (S117)) → List (List Int) → List Int → Option (Int)
  | 0, _, _, _, _, _, _ => none
  | k + 1, x1, x5, x6, x179000, x179001, x179002 => if x6 < (x1.size : Int) then (if x5 ≥ 0 then (if 0 ≤ x6 then ((spec_l7Next.f k x179000 x179001 x179002 x5 (wrap64 (bt x1 x6))).bind fun t179 => (spec_l7Run.l0 k x1 t179 (wrap64 (x6 + 1)) x179000 x179001 x179002)) else (none)) else (some x5)) else (some x5)
def spec_l7Run.f (k : Nat) (l0_0 : List (List (S117))) (l0_1 : List (List Int)) (l0_2 : List Int) (a1 : ByteArray) : Option (Int) := spec_l7Run.l0 k a1 0 0 l0_0 l0_1 l0_2
theorem spec_l7Run.mono_l : ∀ k, (∀ y0 y1 y2 y3 y4 y5, LeO (spec_l7Run.l0 k y0 y1 y2 y3 y4 y5) (spec_l7Run.l0 (k + 1) y0 y1 y2 y3 y4 y5))
  | 0 => fun _ _ _ _ _ _ r h => by simp [spec_l7Run.l0] at h
  | k + 1 => by
    have ih0 := spec_l7Run.mono_l k
    · intro y0 y1 y2 y3 y4 y5
      unfold spec_l7Run.l0
      repeat' first
      | (with_reducible exact ih0 _ _ _ _ _ _)
      | (with_reducible exact spec_l7Next.mono _ _ _ _ _ _)
      | (with_reducible exact LeO.refl _)
      | (with_reducible exact LeO.none _)
      | (with_reducible refine LeO.ite ?_ ?_)
      | (with_reducible refine LeO.bind ?_ (fun _ => ?_))
      | exact ih0 _ _ _ _ _ _
      | exact spec_l7Next.mono _ _ _ _ _ _
      | exact LeO.none _
      | refine LeO.ite ?_ ?_
      | refine LeO.bind ?_ (fun _ => ?_)
theorem spec_l7Run.mono : ∀ a0 a1 a2 a3 k, LeO (spec_l7Run.f k a0 a1 a2 a3) (spec_l7Run.f (k + 1) a0 a1 a2 a3) := by
  intro a0 a1 a2 a3 k
  have ih0 := spec_l7Run.mono_l k
  unfold spec_l7Run.f
  repeat' first
      | (with_reducible exact ih0 _ _ _ _ _ _)
      | (with_reducible exact spec_l7Next.mono _ _ _ _ _ _)
      | (with_reducible exact LeO.refl _)
      | (with_reducible exact LeO.none _)
      | (with_reducible refine LeO.ite ?_ ?_)
      | (with_reducible refine LeO.bind ?_ (fun _ => ?_))
      | exact ih0 _ _ _ _ _ _
      | exact spec_l7Next.mono _ _ _ _ _ _
      | exact LeO.none _
      | refine LeO.ite ?_ ?_
      | refine LeO.bind ?_ (fun _ => ?_)
def spec_l7Run.T5 : Bool × List (List Nat × List Nat) := (true, [([], []), ([], []), ([], []), ([], []), ([2, 3], [2, 3]), ([4], [4]), ([0, 1, 5], [0, 1, 5]), ([6, 6, 0, 1, 2, 3, 4, 5, 6], [1, 6])])
def spec_l7Run.B5 : List Nat := [0, 0, 0, 0, 12, 28, 63, 127]
theorem spec_l7Run.tab5 : rtab .any (opsOf Try.f55 5) = spec_l7Run.T5 := by kernel_rfl
theorem spec_l7Run.bits5 : waitsOk spec_l7Run.T5.2 spec_l7Run.B5 = true := by kernel_rfl
set_option maxHeartbeats 8000000 in
set_option maxRecDepth 100000 in
theorem spec_l7Run.calls (k : Nat) (A0_0 : Option Addr) (c0_0 : Nat) (l0_0 : List (List (S117))) (A0_1 : Option Addr) (c0_1 : Nat) (l0_1 : List (List Int)) (A0_2 : Option Addr) (c0_2 : Nat) (l0_2 : List Int) (a1 : ByteArray) (r : Int) (w : World) (hr0_0 : Kd.C (Kd.slice 117 k117) w A0_0 l0_0.length l0_0) (hc0_0 : l0_0.length ≤ c0_0) (hr0_1 : Kd.C (Kd.slice 3 (Kd.int .i64)) w A0_1 l0_1.length l0_1) (hc0_1 : l0_1.length ≤ c0_1) (hr0_2 : Kd.C (Kd.int .i64) w A0_2 l0_2.length l0_2) (hc0_2 : l0_2.length ≤ c0_2) (h : spec_l7Run.f k l0_0 l0_1 l0_2 a1 = some r) :
    Calls Try.prog 55 #[.agg #[.slice A0_0 l0_0.length c0_0, .slice A0_1 l0_1.length c0_1, .slice A0_2 l0_2.length c0_2], .string a1] w fun e w' => e = .returned (.int .i64 r) ∧ Below w.heap.size w w' := by
  have hu31 := Try.underlying31
  have HR0_0 := Aside0.mk hr0_0
  have HC0_0 := Aside0.mk hc0_0
  clear hr0_0 hc0_0
  have HR0_1 := Aside0.mk hr0_1
  have HC0_1 := Aside0.mk hc0_1
  clear hr0_1 hc0_1
  have HR0_2 := Aside0.mk hr0_2
  have HC0_2 := Aside0.mk hc0_2
  clear hr0_2 hc0_2
  have HB := Aside0.mk (Below.refl w.heap.size w)
  have H : (spec_l7Run.l0 k a1 0 0 l0_0 l0_1 l0_2) = some r := h
  clear h
  have H' := Aside0.mk H
  clear H
  go_enter Try.func55, Try.ntmps55
  go_wp2_with (first | ((with_reducible refine gate_dst (N := 2) rfl ?_); refine box_event ?hg (N := 2) ?hd (cs := #[.slice A0_0 l0_0.length c0_0, .slice A0_1 l0_1.length c0_1, .slice A0_2 l0_2.length c0_2]) (t := 31) ?hr ?_; (case hd => rfl); (case hg => rfl); (case hr => first | (go_simp; done) | (go_simp; rfl)); intro gb178 hg w3 hbox hb; have n0_ := Aside0.mk (below_step (by repeat (first | (with_reducible first | exact HB.out | apply below_alloc | apply pw_below_drewN | apply below_drew1) | exact HB.out)) hb); have n1_ := Aside0.mk (hbox); have n2_ := Aside0.mk ((by rw [hg]; exact (below_size (by repeat (first | (with_reducible first | exact HB.out | apply below_alloc | apply pw_below_drewN | apply below_drew1) | exact HB.out))) : w.heap.size ≤ gb178)); have n3_ := Aside0.mk ((by rw [hg]; exact (below_size (by repeat (first | (with_reducible first | exact HB.out | apply below_alloc | apply pw_below_drewN | apply below_drew1) | exact HB.out))) : w.heap.size ≤ gb178)); clear HB; have HB := n0_; have BK178 := n1_; have GW178 := n2_; have GE178 := n3_; clear n0_ n1_ n2_ n3_; clear hb hbox hg))
  go_loopg [5, 6] k (fun kq v5 v6 w' => ∃ (x5_1 : Int) (x6_1 : Int), v5 = .int .i64 x5_1 ∧ v6 = .int .i64 x6_1 ∧ Aside0 (spec_l7Run.l0 kq a1 x5_1 x6_1 l0_0 l0_1 l0_2 = some r) ∧ Aside0 (kq ≤ k) ∧ Aside0 (w'.heap[gb178]? = some (.cells #[(.slice A0_0 l0_0.length c0_0), (.slice A0_1 l0_1.length c0_1), (.slice A0_2 l0_2.length c0_2)] 31 (0, 0))) ∧ Aside0 (Below w.heap.size w w'))
  case atStart => exact ⟨(0), (0), (by first | rfl | (simp; done) | (simp [*]; done)), (by first | rfl | (simp; done) | (simp [*]; done)), H', ⟨Nat.le_refl _⟩, ⟨by (with_reducible repeat (first | refine blk_drewN ?_ _ | refine blk_drew ?_ | refine blk_alloc ?_ _)); exact BK178.out⟩, ⟨by repeat (first | (with_reducible first | exact HB.out | apply below_alloc | apply pw_below_drewN | apply below_drew1 | refine below_set ?_ GE178.out) | exact HB.out)⟩⟩
  case round =>
    clear H'
    try clear p2
    obtain ⟨x5_1, x6_1, rfl, rfl, HA, HK1, BK178, HB⟩ := hrel
    cases gk with
    | zero => exact absurd HA.out (by simp [spec_l7Run.l0])
    | succ k1 =>
      have H := HA.out
      clear HA
      simp only [spec_l7Run.l0] at H
      by_cases c4 : x6_1 < (a1.size : Int)
      · rw [if_pos c4] at H
        have c4b0 : decide (x6_1 < (a1.size : Int)) = true := decide_eq_true c4
        clear c4
        by_cases c5 : x5_1 ≥ 0
        · rw [if_pos c5] at H
          have c5b0 : decide (0 ≤ x5_1) = true := decide_eq_true c5
          clear c5
          by_cases c6 : 0 ≤ x6_1
          · rw [if_pos c6] at H
            have c6b0 : decide (0 ≤ x6_1) = true := decide_eq_true c6
            clear c6
            replace H := Option.bind_eq_some_iff.mp H
            obtain ⟨t179, A80, H⟩ := H
            replace H : (spec_l7Run.l0 k1 a1 t179 (wrap64 (x6_1 + 1)) l0_0 l0_1 l0_2) = some r := H
            have A8 := Aside0.mk A80
            clear A80
            have H' := Aside0.mk H
            clear H
            try go_wp2
            have n0_ := Aside0.mk (blk_drew BK178.out)
            have n1_ := Aside0.mk (below_drew1 HB.out)
            clear BK178
            clear HB
            have BK178 := n0_
            have HB := n1_
            clear n0_ n1_
            have p7 : 0 ≤ (x6_1 : Int) := of_decide_eq_true (by first | (with_reducible assumption) | assumption)
            have q7 : x6_1 < (a1.size : Int) := of_decide_eq_true (by first | (with_reducible assumption) | assumption)
            have hx7 := bt_at a1 x6_1
            replace p7 := eq_true p7
            replace q7 := eq_true q7
            refine start_ (n := 8) (S := fun w' => w'.cell? ⟨gb178, 0, none⟩ = some (.slice A0_0 l0_0.length c0_0) ∧ w'.cell? ⟨gb178, 1, none⟩ = some (.slice A0_1 l0_1.length c0_1) ∧ w'.cell? ⟨gb178, 2, none⟩ = some (.slice A0_2 l0_2.length c0_2)) (ds := []) #[false, false, false, false, false, false, false, false] (by kernel_rfl) rfl rfl ⟨(blk_cell BK178.out 0).trans rfl, (blk_cell BK178.out 1).trans rfl, (blk_cell BK178.out 2).trans rfl⟩ (fun hHeld => ?_); refine with_tabW spec_l7Run.tab5 spec_l7Run.bits5 (fun HT_ HW_ => ?_)
            generalize wr.drew = w9 at BK178 HB hHeld ⊢
            refine pure_ (i := 1) (N := some 18) (v := ?_) (a' := ?_) #[false, true, false, false, false, false, false, false] rfl rfl (any_of HT_.out (by kernel_rfl)) (fun _ _ _ h => h) (Or.inl ⟨by rfl, ?_⟩) ?_ ?_
            rotate_left
            · intro w'
              go_simp
              with_reducible rfl
            rotate_left
            · simp only [Act.put, List.setIfInBounds_toArray, List.set_cons_zero, List.set_cons_succ, i64_w, i32_w]
              rfl
            refine pure_ (i := 2) (N := some 19) (v := ?_) (a' := ?_) #[false, true, true, false, false, false, false, false] rfl rfl (any_of HT_.out (by kernel_rfl)) (fun _ _ _ h => h) (Or.inl ⟨by rfl, ?_⟩) ?_ ?_
            rotate_left
            · intro w'
              go_simp
              with_reducible rfl
            rotate_left
            · simp only [Act.put, List.setIfInBounds_toArray, List.set_cons_zero, List.set_cons_succ, i64_w, i32_w]
              rfl
            refine pure_ (i := 3) (N := some 20) (v := ?_) (a' := ?_) #[false, true, true, true, false, false, false, false] rfl rfl (any_of HT_.out (by kernel_rfl)) (fun _ _ _ h => h) (Or.inl ⟨by rfl, ?_⟩) ?_ ?_
            rotate_left
            · intro w'
              go_simp
              with_reducible rfl
            rotate_left
            · simp only [Act.put, List.setIfInBounds_toArray, List.set_cons_zero, List.set_cons_succ, i64_w, i32_w]
              rfl
            refine take_ (i := 0) (N := some 17) (v := ?_) (a' := ?_) #[true, true, true, true, false, false, false, false] rfl rfl (take_ofW HT_.out HW_.out (by kernel_rfl)) (fun _ _ _ h => h) (Or.inl ⟨by rfl, ?_⟩) hHeld ?_ ?_
            rotate_left
            · rintro w' ⟨s0, s1, s2⟩
              go_simp
              with_reducible rfl
            rotate_left
            · simp only [Act.put, List.setIfInBounds_toArray, List.set_cons_zero, List.set_cons_succ, i64_w, i32_w]
              rfl
            refine take_ (i := 4) (N := some 21) (v := ?_) (a' := ?_) #[true, true, true, true, true, false, false, false] rfl rfl (take_ofW HT_.out HW_.out (by kernel_rfl)) (fun _ _ _ h => h) (Or.inl ⟨by rfl, ?_⟩) hHeld ?_ ?_
            rotate_left
            · rintro w' ⟨s0, s1, s2⟩
              go_simp
              with_reducible rfl
            rotate_left
            · simp only [Act.put, List.setIfInBounds_toArray, List.set_cons_zero, List.set_cons_succ, i64_w, i32_w]
              rfl
            refine pure_ (i := 5) (N := some 22) (v := ?_) (a' := ?_) #[true, true, true, true, true, true, false, false] rfl rfl (any_of HT_.out (by kernel_rfl)) (fun _ _ _ h => h) (Or.inl ⟨by rfl, ?_⟩) ?_ ?_
            rotate_left
            · intro w'
              go_simp
              with_reducible rfl
            rotate_left
            · simp only [Act.put, List.setIfInBounds_toArray, List.set_cons_zero, List.set_cons_succ, i64_w, i32_w]
              rfl
            refine one_ (i := 6) (N := some 23) #[true, true, true, true, true, true, true, false] rfl rfl (one_of HT_.out (by kernel_rfl)) (by decide) (fun K hK => ?_)
            refine goes_ Try.func103 (by kernel_rfl) rfl #[.agg #[.slice A0_0 l0_0.length c0_0, .slice A0_1 l0_1.length c0_1, .slice A0_2 l0_2.length c0_2], .int .i64 x5_1, .int .i64 (wrap64 (bt a1 x6_1))] (by rfl) rfl rfl (by (try simp only [List.map_toArray, List.map_cons, List.map_nil]); first | done | rfl | (simp only [List.length_drop, List.length_take]; rfl)) ?_
            with_reducible refine (spec_l7Next.calls k1 _ _ l0_0 _ _ l0_1 _ _ l0_2 x5_1 (wrap64 (bt a1 x6_1)) t179 _ ?side1 ?side2 ?side3 ?side4 ?side5 ?side6 A8.out).mono ?_
            (case side1 => repeat (first | exact (Kd.C_below HR0_0.out HB.out) | (with_reducible refine Kd.C_alloc ?_ _) | (with_reducible refine Kd.C_drewN ?_ _) | (with_reducible refine Kd.C_drew ?_)))
            (case side2 => exact HC0_0.out)
            (case side3 => repeat (first | exact (Kd.C_below HR0_1.out HB.out) | (with_reducible refine Kd.C_alloc ?_ _) | (with_reducible refine Kd.C_drewN ?_ _) | (with_reducible refine Kd.C_drew ?_)))
            (case side4 => exact HC0_1.out)
            (case side5 => repeat (first | exact (Kd.C_below HR0_2.out HB.out) | (with_reducible refine Kd.C_alloc ?_ _) | (with_reducible refine Kd.C_drewN ?_ _) | (with_reducible refine Kd.C_drew ?_)))
            (case side6 => exact HC0_2.out)
            rintro e w10 ⟨rfl, hb⟩
            refine ⟨_, rfl, ?_⟩
            have n0_ := Aside0.mk (blk_below (g := gb178) (o := .cells #[.slice A0_0 l0_0.length c0_0, .slice A0_1 l0_1.length c0_1, .slice A0_2 l0_2.length c0_2] 31 (0, 0)) (by (with_reducible repeat (first | refine blk_drewN ?_ _ | refine blk_drew ?_ | refine blk_alloc ?_ _)); exact BK178.out) hb)
            have n1_ := Aside0.mk (below_step (by repeat (first | (with_reducible first | exact HB.out | apply below_alloc | apply pw_below_drewN | apply below_drew1 | refine below_set ?_ GE178.out) | exact HB.out)) hb)
            clear BK178
            clear HB
            have BK178 := n0_
            have HB := n1_
            clear n0_ n1_
            (try clear hb)
            (try clear hb2)
            (try clear hk)
            (try clear hi)
            refine hK.out _ _ ⟨(blk_cell BK178.out 0).trans rfl, (blk_cell BK178.out 1).trans rfl, (blk_cell BK178.out 2).trans rfl⟩ (fun hHeld => ?_)
            clear hK K
            refine norm_ (a' := ?_) ?_ ?_
            rotate_left
            · show Act.put _ (some 23) _ = _
              simp only [Act.put, List.setIfInBounds_toArray, List.set_cons_zero, List.set_cons_succ, i64_w, i32_w]
              rfl
            refine pure_ (i := 7) (N := some 5) (v := ?_) (a' := ?_) #[true, true, true, true, true, true, true, true] rfl rfl (any_of HT_.out (by kernel_rfl)) (fun _ _ _ h => h) (Or.inl ⟨by rfl, ?_⟩) ?_ ?_
            rotate_left
            · intro w'
              go_simp
              with_reducible rfl
            rotate_left
            · simp only [Act.put, List.setIfInBounds_toArray, List.set_cons_zero, List.set_cons_succ, i64_w, i32_w]
              rfl
            refine done_ (done_of HT_.out (by kernel_rfl)) ?_
            try go_wp2
            go_roundg k1
            case measure => have := HK1.out; omega
            case rel => exact ⟨(t179), (wrap64 (x6_1 + 1)), (by first | rfl | (simp; done) | (simp [*]; done)), (by first | rfl | (simp; done) | (simp [*]; done)), H', ⟨by have := HK1.out; omega⟩, ⟨by (with_reducible repeat (first | refine blk_drewN ?_ _ | refine blk_drew ?_ | refine blk_alloc ?_ _)); exact BK178.out⟩, ⟨by repeat (first | (with_reducible first | exact HB.out | apply below_alloc | apply pw_below_drewN | apply below_drew1 | refine below_set ?_ GE178.out) | exact HB.out)⟩⟩
          · rw [if_neg c6] at H
            exact absurd H (by simp)
        · rw [if_neg c5] at H
          have c5b0 : decide (0 ≤ x5_1) = false := decide_eq_false c5
          clear c5
          obtain rfl := Option.some.inj H
          go_wp2
          go_ret
          exact ⟨by first | rfl | (simp [errW_none, errW_some] <;> rfl) | (simp [*, errW_none, errW_some] <;> rfl), by repeat (first | (with_reducible first | exact HB.out | apply below_alloc | apply pw_below_drewN | apply below_drew1 | refine below_set ?_ GE178.out) | exact HB.out)⟩
      · rw [if_neg c4] at H
        have c4b0 : decide (x6_1 < (a1.size : Int)) = false := decide_eq_false c4
        clear c4
        obtain rfl := Option.some.inj H
        go_wp2
        go_ret
        exact ⟨by first | rfl | (simp [errW_none, errW_some] <;> rfl) | (simp [*, errW_none, errW_some] <;> rfl), by repeat (first | (with_reducible first | exact HB.out | apply below_alloc | apply pw_below_drewN | apply below_drew1 | refine below_set ?_ GE178.out) | exact HB.out)⟩
end Go.Proofs.Ytigmibfacllhmaa.P

namespace Go.Proofs.Ytigmibfacllhmaa.P
open Go.RowKit Go.Proofs.YtigmibfacllhmaaW.PrintWords Go.Proofs.YtigmibfacllhmaaW.PrintLast Go.Proofs.YtigmibfacllhmaaW.PrintMore
attribute [local go_sem] max2_int min2_int max_two min_two max_three min_three max_four min_four   -- for this text's walks alone
set_option linter.unusedVariables false
set_option linter.unusedSimpArgs false
def spec_DfaRun.f (k : Nat) (l0_0 : List (List (S117))) (l0_1 : List (List Int)) (l0_2 : List Int) (a1 : ByteArray) : Option (Int) := (spec_DfaOk.f k l0_0 l0_1 l0_2).bind fun t181 => (if t181 = true then ((spec_l7Run.f k l0_0 l0_1 l0_2 a1).bind fun t182 => (some t182)) else (some (-1)))
theorem spec_DfaRun.mono : ∀ a0 a1 a2 a3 k, LeO (spec_DfaRun.f k a0 a1 a2 a3) (spec_DfaRun.f (k + 1) a0 a1 a2 a3) := by
  intro a0 a1 a2 a3 k
  unfold spec_DfaRun.f
  repeat' first
      | (with_reducible exact spec_DfaOk.mono _ _ _ _)
      | (with_reducible exact spec_l7Run.mono _ _ _ _ _)
      | (with_reducible exact LeO.refl _)
      | (with_reducible exact LeO.none _)
      | (with_reducible refine LeO.ite ?_ ?_)
      | (with_reducible refine LeO.bind ?_ (fun _ => ?_))
      | exact spec_DfaOk.mono _ _ _ _
      | exact spec_l7Run.mono _ _ _ _ _
      | exact LeO.none _
      | refine LeO.ite ?_ ?_
      | refine LeO.bind ?_ (fun _ => ?_)
set_option maxHeartbeats 8000000 in
set_option maxRecDepth 100000 in
theorem spec_DfaRun.calls (k : Nat) (A0_0 : Option Addr) (c0_0 : Nat) (l0_0 : List (List (S117))) (A0_1 : Option Addr) (c0_1 : Nat) (l0_1 : List (List Int)) (A0_2 : Option Addr) (c0_2 : Nat) (l0_2 : List Int) (a1 : ByteArray) (r : Int) (w : World) (hr0_0 : Kd.C (Kd.slice 117 k117) w A0_0 l0_0.length l0_0) (hc0_0 : l0_0.length ≤ c0_0) (hr0_1 : Kd.C (Kd.slice 3 (Kd.int .i64)) w A0_1 l0_1.length l0_1) (hc0_1 : l0_1.length ≤ c0_1) (hr0_2 : Kd.C (Kd.int .i64) w A0_2 l0_2.length l0_2) (hc0_2 : l0_2.length ≤ c0_2) (h : spec_DfaRun.f k l0_0 l0_1 l0_2 a1 = some r) :
    Calls Try.prog 14 #[.agg #[.slice A0_0 l0_0.length c0_0, .slice A0_1 l0_1.length c0_1, .slice A0_2 l0_2.length c0_2], .string a1] w fun e w' => e = .returned (.int .i64 r) ∧ Below w.heap.size w w' := by
  have hu31 := Try.underlying31
  have HR0_0 := Aside0.mk hr0_0
  have HC0_0 := Aside0.mk hc0_0
  clear hr0_0 hc0_0
  have HR0_1 := Aside0.mk hr0_1
  have HC0_1 := Aside0.mk hc0_1
  clear hr0_1 hc0_1
  have HR0_2 := Aside0.mk hr0_2
  have HC0_2 := Aside0.mk hc0_2
  clear hr0_2 hc0_2
  have HB := Aside0.mk (Below.refl w.heap.size w)
  have H : ((spec_DfaOk.f k l0_0 l0_1 l0_2).bind fun t181 => (if t181 = true then ((spec_l7Run.f k l0_0 l0_1 l0_2 a1).bind fun t182 => (some t182)) else (some (-1)))) = some r := h
  clear h
  replace H := Option.bind_eq_some_iff.mp H
  obtain ⟨t181, A30, H⟩ := H
  replace H : (if t181 = true then ((spec_l7Run.f k l0_0 l0_1 l0_2 a1).bind fun t182 => (some t182)) else (some (-1))) = some r := H
  have A3 := Aside0.mk A30
  clear A30
  by_cases c4 : t181 = true
  · subst c4
    have H1 : ((spec_l7Run.f k l0_0 l0_1 l0_2 a1).bind fun t182 => (some t182)) = some r := by rw [if_pos rfl] at H; exact H
    clear H
    have H := H1
    clear H1
    replace H := Option.bind_eq_some_iff.mp H
    obtain ⟨t182, A50, H⟩ := H
    replace H : (some t182) = some r := H
    have A5 := Aside0.mk A50
    clear A50
    obtain rfl := Option.some.inj H
    go_enter Try.func14, Try.ntmps14
    go_wp2_with (first | ((with_reducible refine gate_dst (N := 2) rfl ?_); refine box_event ?hg (N := 2) ?hd (cs := #[.slice A0_0 l0_0.length c0_0, .slice A0_1 l0_1.length c0_1, .slice A0_2 l0_2.length c0_2]) (t := 31) ?hr ?_; (case hd => rfl); (case hg => rfl); (case hr => first | (go_simp; done) | (go_simp; rfl)); intro gb180 hg w6 hbox hb; have n0_ := Aside0.mk (below_step (by repeat (first | (with_reducible first | exact HB.out | apply below_alloc | apply pw_below_drewN | apply below_drew1) | exact HB.out)) hb); have n1_ := Aside0.mk (hbox); have n2_ := Aside0.mk ((by rw [hg]; exact (below_size (by repeat (first | (with_reducible first | exact HB.out | apply below_alloc | apply pw_below_drewN | apply below_drew1) | exact HB.out))) : w.heap.size ≤ gb180)); have n3_ := Aside0.mk ((by rw [hg]; exact (below_size (by repeat (first | (with_reducible first | exact HB.out | apply below_alloc | apply pw_below_drewN | apply below_drew1) | exact HB.out))) : w.heap.size ≤ gb180)); clear HB; have HB := n0_; have BK180 := n1_; have GW180 := n2_; have GE180 := n3_; clear n0_ n1_ n2_ n3_; clear hb hbox hg; have hcz7_0 : w6.cell? ⟨gb180, 0, none⟩ = some (.slice A0_0 l0_0.length c0_0) := (blk_cell BK180.out 0).trans rfl; have hcz7_1 : w6.cell? ⟨gb180, 1, none⟩ = some (.slice A0_1 l0_1.length c0_1) := (blk_cell BK180.out 1).trans rfl; have hcz7_2 : w6.cell? ⟨gb180, 2, none⟩ = some (.slice A0_2 l0_2.length c0_2) := (blk_cell BK180.out 2).trans rfl; have hfz7_0 := blk_frozen BK180.out 0; have hfz7_1 := blk_frozen BK180.out 1; have hfz7_2 := blk_frozen BK180.out 2) | ((with_reducible refine gate_callee (f := 54) rfl ?_); refine goesL_ (some 6) rfl rfl Try.func54 (by kernel_rfl) rfl #[.agg #[.slice A0_0 l0_0.length c0_0, .slice A0_1 l0_1.length c0_1, .slice A0_2 l0_2.length c0_2]] rfl (by (try simp only [List.map_toArray, List.map_cons, List.map_nil]); first | done | rfl | (simp only [List.length_drop, List.length_take]; rfl)) ?_; (with_reducible refine (spec_DfaOk.calls k _ _ l0_0 _ _ l0_1 _ _ l0_2 true _ ?side1 ?side2 ?side3 ?side4 ?side5 ?side6 A3.out).mono ?_); (case side1 => repeat (first | exact (Kd.C_below HR0_0.out HB.out) | (with_reducible refine Kd.C_alloc ?_ _) | (with_reducible refine Kd.C_drewN ?_ _) | (with_reducible refine Kd.C_drew ?_))); (case side2 => exact HC0_0.out); (case side3 => repeat (first | exact (Kd.C_below HR0_1.out HB.out) | (with_reducible refine Kd.C_alloc ?_ _) | (with_reducible refine Kd.C_drewN ?_ _) | (with_reducible refine Kd.C_drew ?_))); (case side4 => exact HC0_1.out); (case side5 => repeat (first | exact (Kd.C_below HR0_2.out HB.out) | (with_reducible refine Kd.C_alloc ?_ _) | (with_reducible refine Kd.C_drewN ?_ _) | (with_reducible refine Kd.C_drew ?_))); (case side6 => exact HC0_2.out); rintro e w8 ⟨rfl, hb⟩; refine ⟨_, rfl, ?_⟩; have n0_ := Aside0.mk (blk_below (g := gb180) (o := .cells #[.slice A0_0 l0_0.length c0_0, .slice A0_1 l0_1.length c0_1, .slice A0_2 l0_2.length c0_2] 31 (0, 0)) (by (with_reducible repeat (first | refine blk_drewN ?_ _ | refine blk_drew ?_ | refine blk_alloc ?_ _)); exact BK180.out) hb); have n1_ := Aside0.mk (below_step (by repeat (first | (with_reducible first | exact HB.out | apply below_alloc | apply pw_below_drewN | apply below_drew1 | refine below_set ?_ GE180.out) | exact HB.out)) hb); clear BK180; clear HB; have BK180 := n0_; have HB := n1_; clear n0_ n1_; (try clear hb); (try clear hb2); (try clear hk); (try clear hi); have hcz9_0 : w8.cell? ⟨gb180, 0, none⟩ = some (.slice A0_0 l0_0.length c0_0) := (blk_cell BK180.out 0).trans rfl; have hcz9_1 : w8.cell? ⟨gb180, 1, none⟩ = some (.slice A0_1 l0_1.length c0_1) := (blk_cell BK180.out 1).trans rfl; have hcz9_2 : w8.cell? ⟨gb180, 2, none⟩ = some (.slice A0_2 l0_2.length c0_2) := (blk_cell BK180.out 2).trans rfl; have hfz9_0 := blk_frozen BK180.out 0; have hfz9_1 := blk_frozen BK180.out 1; have hfz9_2 := blk_frozen BK180.out 2) | ((with_reducible refine gate_callee (f := 55) rfl ?_); refine goesL_ (some 10) rfl rfl Try.func55 (by kernel_rfl) rfl #[.agg #[.slice A0_0 l0_0.length c0_0, .slice A0_1 l0_1.length c0_1, .slice A0_2 l0_2.length c0_2], .string a1] rfl (by (try simp only [List.map_toArray, List.map_cons, List.map_nil]); first | done | rfl | (simp only [List.length_drop, List.length_take]; rfl)) ?_; (with_reducible refine (spec_l7Run.calls k _ _ l0_0 _ _ l0_1 _ _ l0_2 a1 t182 _ ?side1 ?side2 ?side3 ?side4 ?side5 ?side6 A5.out).mono ?_); (case side1 => repeat (first | exact (Kd.C_below HR0_0.out HB.out) | (with_reducible refine Kd.C_alloc ?_ _) | (with_reducible refine Kd.C_drewN ?_ _) | (with_reducible refine Kd.C_drew ?_))); (case side2 => exact HC0_0.out); (case side3 => repeat (first | exact (Kd.C_below HR0_1.out HB.out) | (with_reducible refine Kd.C_alloc ?_ _) | (with_reducible refine Kd.C_drewN ?_ _) | (with_reducible refine Kd.C_drew ?_))); (case side4 => exact HC0_1.out); (case side5 => repeat (first | exact (Kd.C_below HR0_2.out HB.out) | (with_reducible refine Kd.C_alloc ?_ _) | (with_reducible refine Kd.C_drewN ?_ _) | (with_reducible refine Kd.C_drew ?_))); (case side6 => exact HC0_2.out); rintro e w10 ⟨rfl, hb⟩; refine ⟨_, rfl, ?_⟩; have n0_ := Aside0.mk (blk_below (g := gb180) (o := .cells #[.slice A0_0 l0_0.length c0_0, .slice A0_1 l0_1.length c0_1, .slice A0_2 l0_2.length c0_2] 31 (0, 0)) (by (with_reducible repeat (first | refine blk_drewN ?_ _ | refine blk_drew ?_ | refine blk_alloc ?_ _)); exact BK180.out) hb); have n1_ := Aside0.mk (below_step (by repeat (first | (with_reducible first | exact HB.out | apply below_alloc | apply pw_below_drewN | apply below_drew1 | refine below_set ?_ GE180.out) | exact HB.out)) hb); clear BK180; clear HB; have BK180 := n0_; have HB := n1_; clear n0_ n1_; (try clear hb); (try clear hb2); (try clear hk); (try clear hi)))
    go_ret
    exact ⟨by first | rfl | (simp [errW_none, errW_some] <;> rfl) | (simp [*, errW_none, errW_some] <;> rfl), by repeat (first | (with_reducible first | exact HB.out | apply below_alloc | apply pw_below_drewN | apply below_drew1 | refine below_set ?_ GE180.out) | exact HB.out)⟩
  · replace c4 := Bool.eq_false_iff.mpr c4
    subst c4
    have H1 : (some (-1)) = some r := by rw [if_neg (show ¬ (false = true) by decide)] at H; exact H
    clear H
    have H := H1
    clear H1
    obtain rfl := Option.some.inj H
    go_enter Try.func14, Try.ntmps14
    go_wp2_with (first | ((with_reducible refine gate_dst (N := 2) rfl ?_); refine box_event ?hg (N := 2) ?hd (cs := #[.slice A0_0 l0_0.length c0_0, .slice A0_1 l0_1.length c0_1, .slice A0_2 l0_2.length c0_2]) (t := 31) ?hr ?_; (case hd => rfl); (case hg => rfl); (case hr => first | (go_simp; done) | (go_simp; rfl)); intro gb180 hg w11 hbox hb; have n0_ := Aside0.mk (below_step (by repeat (first | (with_reducible first | exact HB.out | apply below_alloc | apply pw_below_drewN | apply below_drew1) | exact HB.out)) hb); have n1_ := Aside0.mk (hbox); have n2_ := Aside0.mk ((by rw [hg]; exact (below_size (by repeat (first | (with_reducible first | exact HB.out | apply below_alloc | apply pw_below_drewN | apply below_drew1) | exact HB.out))) : w.heap.size ≤ gb180)); have n3_ := Aside0.mk ((by rw [hg]; exact (below_size (by repeat (first | (with_reducible first | exact HB.out | apply below_alloc | apply pw_below_drewN | apply below_drew1) | exact HB.out))) : w.heap.size ≤ gb180)); clear HB; have HB := n0_; have BK180 := n1_; have GW180 := n2_; have GE180 := n3_; clear n0_ n1_ n2_ n3_; clear hb hbox hg; have hcz12_0 : w11.cell? ⟨gb180, 0, none⟩ = some (.slice A0_0 l0_0.length c0_0) := (blk_cell BK180.out 0).trans rfl; have hcz12_1 : w11.cell? ⟨gb180, 1, none⟩ = some (.slice A0_1 l0_1.length c0_1) := (blk_cell BK180.out 1).trans rfl; have hcz12_2 : w11.cell? ⟨gb180, 2, none⟩ = some (.slice A0_2 l0_2.length c0_2) := (blk_cell BK180.out 2).trans rfl; have hfz12_0 := blk_frozen BK180.out 0; have hfz12_1 := blk_frozen BK180.out 1; have hfz12_2 := blk_frozen BK180.out 2) | ((with_reducible refine gate_callee (f := 54) rfl ?_); refine goesL_ (some 6) rfl rfl Try.func54 (by kernel_rfl) rfl #[.agg #[.slice A0_0 l0_0.length c0_0, .slice A0_1 l0_1.length c0_1, .slice A0_2 l0_2.length c0_2]] rfl (by (try simp only [List.map_toArray, List.map_cons, List.map_nil]); first | done | rfl | (simp only [List.length_drop, List.length_take]; rfl)) ?_; (with_reducible refine (spec_DfaOk.calls k _ _ l0_0 _ _ l0_1 _ _ l0_2 false _ ?side1 ?side2 ?side3 ?side4 ?side5 ?side6 A3.out).mono ?_); (case side1 => repeat (first | exact (Kd.C_below HR0_0.out HB.out) | (with_reducible refine Kd.C_alloc ?_ _) | (with_reducible refine Kd.C_drewN ?_ _) | (with_reducible refine Kd.C_drew ?_))); (case side2 => exact HC0_0.out); (case side3 => repeat (first | exact (Kd.C_below HR0_1.out HB.out) | (with_reducible refine Kd.C_alloc ?_ _) | (with_reducible refine Kd.C_drewN ?_ _) | (with_reducible refine Kd.C_drew ?_))); (case side4 => exact HC0_1.out); (case side5 => repeat (first | exact (Kd.C_below HR0_2.out HB.out) | (with_reducible refine Kd.C_alloc ?_ _) | (with_reducible refine Kd.C_drewN ?_ _) | (with_reducible refine Kd.C_drew ?_))); (case side6 => exact HC0_2.out); rintro e w13 ⟨rfl, hb⟩; refine ⟨_, rfl, ?_⟩; have n0_ := Aside0.mk (blk_below (g := gb180) (o := .cells #[.slice A0_0 l0_0.length c0_0, .slice A0_1 l0_1.length c0_1, .slice A0_2 l0_2.length c0_2] 31 (0, 0)) (by (with_reducible repeat (first | refine blk_drewN ?_ _ | refine blk_drew ?_ | refine blk_alloc ?_ _)); exact BK180.out) hb); have n1_ := Aside0.mk (below_step (by repeat (first | (with_reducible first | exact HB.out | apply below_alloc | apply pw_below_drewN | apply below_drew1 | refine below_set ?_ GE180.out) | exact HB.out)) hb); clear BK180; clear HB; have BK180 := n0_; have HB := n1_; clear n0_ n1_; (try clear hb); (try clear hb2); (try clear hk); (try clear hi)))
    go_ret
    exact ⟨by first | rfl | (simp [errW_none, errW_some] <;> rfl) | (simp [*, errW_none, errW_some] <;> rfl), by repeat (first | (with_reducible first | exact HB.out | apply below_alloc | apply pw_below_drewN | apply below_drew1 | refine below_set ?_ GE180.out) | exact HB.out)⟩
end Go.Proofs.Ytigmibfacllhmaa.P

namespace Go.Proofs.Ytigmibfacllhmaa.P
open Go.RowKit Go.Proofs.YtigmibfacllhmaaW.PrintWords Go.Proofs.YtigmibfacllhmaaW.PrintLast Go.Proofs.YtigmibfacllhmaaW.PrintMore
attribute [local go_sem] max2_int min2_int max_two min_two max_three min_three max_four min_four   -- for this text's walks alone
set_option linter.unusedVariables false
set_option linter.unusedSimpArgs false
def laws_FnExactDfaRun.f (k : Nat) (l0_0 : List (List (S146))) (l0_1 : List (List Int)) (l0_2 : List Int) (a1 : ByteArray) : Option (Bool) := if (a1.size : Int) > 1048576 then (some true) else ((laws_szDfa.f k l0_0 l0_1 l0_2 1048576).bind fun t272 => (if t272 < 0 then (some true) else ((laws_toDfa.f k l0_0 l0_1 l0_2).bind fun bt273 => ((spec_DfaRun.f k bt273.1 bt273.2.1 bt273.2.2 a1).bind fun t282 => ((laws_toDfa.f k l0_0 l0_1 l0_2).bind fun bt283 => ((impl_DfaRun.f k bt283.1 bt283.2.1 bt283.2.2 a1).bind fun t293 => (if t293 = t282 then ((laws_toDfa.f k l0_0 l0_1 l0_2).bind fun bt294 => ((laws_eqDfa.f k bt283.1 bt283.2.1 bt283.2.2 bt294.1 bt294.2.1 bt294.2.2).bind fun t303 => (if t303 = true then (some true) else (some false)))) else (some false))))))))
theorem laws_FnExactDfaRun.mono : ∀ a0 a1 a2 a3 k, LeO (laws_FnExactDfaRun.f k a0 a1 a2 a3) (laws_FnExactDfaRun.f (k + 1) a0 a1 a2 a3) := by
  intro a0 a1 a2 a3 k
  unfold laws_FnExactDfaRun.f
  repeat' first
      | (with_reducible exact impl_DfaRun.mono _ _ _ _ _)
      | (with_reducible exact laws_eqDfa.mono _ _ _ _ _ _ _)
      | (with_reducible exact laws_szDfa.mono _ _ _ _ _)
      | (with_reducible exact laws_toDfa.mono _ _ _ _)
      | (with_reducible exact spec_DfaRun.mono _ _ _ _ _)
      | (with_reducible exact LeO.refl _)
      | (with_reducible exact LeO.none _)
      | (with_reducible refine LeO.ite ?_ ?_)
      | (with_reducible refine LeO.bind ?_ (fun _ => ?_))
      | exact impl_DfaRun.mono _ _ _ _ _
      | exact laws_eqDfa.mono _ _ _ _ _ _ _
      | exact laws_szDfa.mono _ _ _ _ _
      | exact laws_toDfa.mono _ _ _ _
      | exact spec_DfaRun.mono _ _ _ _ _
      | exact LeO.none _
      | refine LeO.ite ?_ ?_
      | refine LeO.bind ?_ (fun _ => ?_)
set_option maxHeartbeats 8000000 in
set_option maxRecDepth 100000 in
theorem laws_FnExactDfaRun.calls (k : Nat) (A0_0 : Option Addr) (c0_0 : Nat) (l0_0 : List (List (S146))) (A0_1 : Option Addr) (c0_1 : Nat) (l0_1 : List (List Int)) (A0_2 : Option Addr) (c0_2 : Nat) (l0_2 : List Int) (a1 : ByteArray) (r : Bool) (w : World) (hr0_0 : Kd.C (Kd.slice 146 k146) w A0_0 l0_0.length l0_0) (hc0_0 : l0_0.length ≤ c0_0) (hr0_1 : Kd.C (Kd.slice 3 (Kd.int .i64)) w A0_1 l0_1.length l0_1) (hc0_1 : l0_1.length ≤ c0_1) (hr0_2 : Kd.C (Kd.int .i64) w A0_2 l0_2.length l0_2) (hc0_2 : l0_2.length ≤ c0_2) (hT0 : r = true) (h : laws_FnExactDfaRun.f k l0_0 l0_1 l0_2 a1 = some r) :
    Calls Try.prog 3 #[.agg #[.slice A0_0 l0_0.length c0_0, .slice A0_1 l0_1.length c0_1, .slice A0_2 l0_2.length c0_2], .string a1] w fun e w' => e = .returned (.bool r) ∧ Below w.heap.size w w' := by
  have HT := Aside0.mk hT0
  clear hT0
  have hu26 := Try.underlying26
  have hu31 := Try.underlying31
  have HR0_0 := Aside0.mk hr0_0
  have HC0_0 := Aside0.mk hc0_0
  clear hr0_0 hc0_0
  have HR0_1 := Aside0.mk hr0_1
  have HC0_1 := Aside0.mk hc0_1
  clear hr0_1 hc0_1
  have HR0_2 := Aside0.mk hr0_2
  have HC0_2 := Aside0.mk hc0_2
  clear hr0_2 hc0_2
  have HB := Aside0.mk (Below.refl w.heap.size w)
  have H : (if (a1.size : Int) > 1048576 then (some true) else ((laws_szDfa.f k l0_0 l0_1 l0_2 1048576).bind fun t272 => (if t272 < 0 then (some true) else ((laws_toDfa.f k l0_0 l0_1 l0_2).bind fun bt273 => ((spec_DfaRun.f k bt273.1 bt273.2.1 bt273.2.2 a1).bind fun t282 => ((laws_toDfa.f k l0_0 l0_1 l0_2).bind fun bt283 => ((impl_DfaRun.f k bt283.1 bt283.2.1 bt283.2.2 a1).bind fun t293 => (if t293 = t282 then ((laws_toDfa.f k l0_0 l0_1 l0_2).bind fun bt294 => ((laws_eqDfa.f k bt283.1 bt283.2.1 bt283.2.2 bt294.1 bt294.2.1 bt294.2.2).bind fun t303 => (if t303 = true then (some true) else (some false)))) else (some false))))))))) = some r := h
  clear h
  by_cases c3 : (a1.size : Int) > 1048576
  · rw [if_pos c3] at H
    have c3b0 : decide (1048576 < (a1.size : Int)) = true := decide_eq_true c3
    have c3b1 : decide (1048576 < a1.size) = true := decide_eq_true (by omega)
    clear c3
    obtain rfl := Option.some.inj H
    go_enter Try.func3, Try.ntmps3
    go_wp2_with (first | ((with_reducible refine gate_dst (N := 2) rfl ?_); refine box_event ?hg (N := 2) ?hd (cs := #[.slice A0_0 l0_0.length c0_0, .slice A0_1 l0_1.length c0_1, .slice A0_2 l0_2.length c0_2]) (t := 26) ?hr ?_; (case hd => rfl); (case hg => rfl); (case hr => first | (go_simp; done) | (go_simp; rfl)); intro gb271 hg w4 hbox hb; have n0_ := Aside0.mk (below_step (by repeat (first | (with_reducible first | exact HB.out | apply below_alloc | apply pw_below_drewN | apply below_drew1) | exact HB.out)) hb); have n1_ := Aside0.mk (hbox); have n2_ := Aside0.mk ((by rw [hg]; exact (below_size (by repeat (first | (with_reducible first | exact HB.out | apply below_alloc | apply pw_below_drewN | apply below_drew1) | exact HB.out))) : w.heap.size ≤ gb271)); have n3_ := Aside0.mk ((by rw [hg]; exact (below_size (by repeat (first | (with_reducible first | exact HB.out | apply below_alloc | apply pw_below_drewN | apply below_drew1) | exact HB.out))) : w.heap.size ≤ gb271)); clear HB; have HB := n0_; have BK271 := n1_; have GW271 := n2_; have GE271 := n3_; clear n0_ n1_ n2_ n3_; clear hb hbox hg))
    go_ret
    exact ⟨by first | rfl | (simp [errW_none, errW_some] <;> rfl) | (simp [*, errW_none, errW_some] <;> rfl), by repeat (first | (with_reducible first | exact HB.out | apply below_alloc | apply pw_below_drewN | apply below_drew1 | refine below_set ?_ GE271.out) | exact HB.out)⟩
  · rw [if_neg c3] at H
    have c3b0 : decide (1048576 < (a1.size : Int)) = false := decide_eq_false c3
    have c3b1 : decide (1048576 < a1.size) = false := decide_eq_false (by omega)
    clear c3
    replace H := Option.bind_eq_some_iff.mp H
    obtain ⟨t272, A50, H⟩ := H
    replace H : (if t272 < 0 then (some true) else ((laws_toDfa.f k l0_0 l0_1 l0_2).bind fun bt273 => ((spec_DfaRun.f k bt273.1 bt273.2.1 bt273.2.2 a1).bind fun t282 => ((laws_toDfa.f k l0_0 l0_1 l0_2).bind fun bt283 => ((impl_DfaRun.f k bt283.1 bt283.2.1 bt283.2.2 a1).bind fun t293 => (if t293 = t282 then ((laws_toDfa.f k l0_0 l0_1 l0_2).bind fun bt294 => ((laws_eqDfa.f k bt283.1 bt283.2.1 bt283.2.2 bt294.1 bt294.2.1 bt294.2.2).bind fun t303 => (if t303 = true then (some true) else (some false)))) else (some false))))))) = some r := H
    have A5 := Aside0.mk A50
    clear A50
    by_cases c6 : t272 < 0
    · rw [if_pos c6] at H
      have c6b0 : decide (t272 < 0) = true := decide_eq_true c6
      clear c6
      obtain rfl := Option.some.inj H
      go_enter Try.func3, Try.ntmps3
      go_wp2_with (first | ((with_reducible refine gate_dst (N := 2) rfl ?_); refine box_event ?hg (N := 2) ?hd (cs := #[.slice A0_0 l0_0.length c0_0, .slice A0_1 l0_1.length c0_1, .slice A0_2 l0_2.length c0_2]) (t := 26) ?hr ?_; (case hd => rfl); (case hg => rfl); (case hr => first | (go_simp; done) | (go_simp; rfl)); intro gb271 hg w7 hbox hb; have n0_ := Aside0.mk (below_step (by repeat (first | (with_reducible first | exact HB.out | apply below_alloc | apply pw_below_drewN | apply below_drew1) | exact HB.out)) hb); have n1_ := Aside0.mk (hbox); have n2_ := Aside0.mk ((by rw [hg]; exact (below_size (by repeat (first | (with_reducible first | exact HB.out | apply below_alloc | apply pw_below_drewN | apply below_drew1) | exact HB.out))) : w.heap.size ≤ gb271)); have n3_ := Aside0.mk ((by rw [hg]; exact (below_size (by repeat (first | (with_reducible first | exact HB.out | apply below_alloc | apply pw_below_drewN | apply below_drew1) | exact HB.out))) : w.heap.size ≤ gb271)); clear HB; have HB := n0_; have BK271 := n1_; have GW271 := n2_; have GE271 := n3_; clear n0_ n1_ n2_ n3_; clear hb hbox hg; have hcz8_0 : w7.cell? ⟨gb271, 0, none⟩ = some (.slice A0_0 l0_0.length c0_0) := (blk_cell BK271.out 0).trans rfl; have hcz8_1 : w7.cell? ⟨gb271, 1, none⟩ = some (.slice A0_1 l0_1.length c0_1) := (blk_cell BK271.out 1).trans rfl; have hcz8_2 : w7.cell? ⟨gb271, 2, none⟩ = some (.slice A0_2 l0_2.length c0_2) := (blk_cell BK271.out 2).trans rfl; have hfz8_0 := blk_frozen BK271.out 0; have hfz8_1 := blk_frozen BK271.out 1; have hfz8_2 := blk_frozen BK271.out 2) | ((with_reducible refine gate_callee (f := 13) rfl ?_); refine goesL_ (some 14) rfl rfl Try.func13 (by kernel_rfl) rfl #[.agg #[.slice A0_0 l0_0.length c0_0, .slice A0_1 l0_1.length c0_1, .slice A0_2 l0_2.length c0_2], .int .i64 1048576] rfl (by (try simp only [List.map_toArray, List.map_cons, List.map_nil]); first | done | rfl | (simp only [List.length_drop, List.length_take]; rfl)) ?_; (with_reducible refine (laws_szDfa.calls k _ _ l0_0 _ _ l0_1 _ _ l0_2 1048576 t272 _ ?side1 ?side2 ?side3 ?side4 ?side5 ?side6 A5.out).mono ?_); (case side1 => repeat (first | exact (Kd.C_below HR0_0.out HB.out) | (with_reducible refine Kd.C_alloc ?_ _) | (with_reducible refine Kd.C_drewN ?_ _) | (with_reducible refine Kd.C_drew ?_))); (case side2 => exact HC0_0.out); (case side3 => repeat (first | exact (Kd.C_below HR0_1.out HB.out) | (with_reducible refine Kd.C_alloc ?_ _) | (with_reducible refine Kd.C_drewN ?_ _) | (with_reducible refine Kd.C_drew ?_))); (case side4 => exact HC0_1.out); (case side5 => repeat (first | exact (Kd.C_below HR0_2.out HB.out) | (with_reducible refine Kd.C_alloc ?_ _) | (with_reducible refine Kd.C_drewN ?_ _) | (with_reducible refine Kd.C_drew ?_))); (case side6 => exact HC0_2.out); rintro e w9 ⟨rfl, hb⟩; refine ⟨_, rfl, ?_⟩; have n0_ := Aside0.mk (blk_below (g := gb271) (o := .cells #[.slice A0_0 l0_0.length c0_0, .slice A0_1 l0_1.length c0_1, .slice A0_2 l0_2.length c0_2] 26 (0, 0)) (by (with_reducible repeat (first | refine blk_drewN ?_ _ | refine blk_drew ?_ | refine blk_alloc ?_ _)); exact BK271.out) hb); have n1_ := Aside0.mk (below_step (by repeat (first | (with_reducible first | exact HB.out | apply below_alloc | apply pw_below_drewN | apply below_drew1 | refine below_set ?_ GE271.out) | exact HB.out)) hb); clear BK271; clear HB; have BK271 := n0_; have HB := n1_; clear n0_ n1_; (try clear hb); (try clear hb2); (try clear hk); (try clear hi)))
      go_ret
      exact ⟨by first | rfl | (simp [errW_none, errW_some] <;> rfl) | (simp [*, errW_none, errW_some] <;> rfl), by repeat (first | (with_reducible first | exact HB.out | apply below_alloc | apply pw_below_drewN | apply below_drew1 | refine below_set ?_ GE271.out) | exact HB.out)⟩
    · rw [if_neg c6] at H
      have c6b0 : decide (t272 < 0) = false := decide_eq_false c6
      clear c6
      replace H := Option.bind_eq_some_iff.mp H
      obtain ⟨⟨t273, t276, t279⟩, A100, H⟩ := H
      replace H : ((spec_DfaRun.f k t273 t276 t279 a1).bind fun t282 => ((laws_toDfa.f k l0_0 l0_1 l0_2).bind fun bt283 => ((impl_DfaRun.f k bt283.1 bt283.2.1 bt283.2.2 a1).bind fun t293 => (if t293 = t282 then ((laws_toDfa.f k l0_0 l0_1 l0_2).bind fun bt294 => ((laws_eqDfa.f k bt283.1 bt283.2.1 bt283.2.2 bt294.1 bt294.2.1 bt294.2.2).bind fun t303 => (if t303 = true then (some true) else (some false)))) else (some false))))) = some r := H
      have A10 := Aside0.mk A100
      clear A100
      replace H := Option.bind_eq_some_iff.mp H
      obtain ⟨t282, A110, H⟩ := H
      replace H : ((laws_toDfa.f k l0_0 l0_1 l0_2).bind fun bt283 => ((impl_DfaRun.f k bt283.1 bt283.2.1 bt283.2.2 a1).bind fun t293 => (if t293 = t282 then ((laws_toDfa.f k l0_0 l0_1 l0_2).bind fun bt294 => ((laws_eqDfa.f k bt283.1 bt283.2.1 bt283.2.2 bt294.1 bt294.2.1 bt294.2.2).bind fun t303 => (if t303 = true then (some true) else (some false)))) else (some false)))) = some r := H
      have A11 := Aside0.mk A110
      clear A110
      replace H := Option.bind_eq_some_iff.mp H
      obtain ⟨⟨t283, t286, t289⟩, A120, H⟩ := H
      replace H : ((impl_DfaRun.f k t283 t286 t289 a1).bind fun t293 => (if t293 = t282 then ((laws_toDfa.f k l0_0 l0_1 l0_2).bind fun bt294 => ((laws_eqDfa.f k t283 t286 t289 bt294.1 bt294.2.1 bt294.2.2).bind fun t303 => (if t303 = true then (some true) else (some false)))) else (some false))) = some r := H
      have A12 := Aside0.mk A120
      clear A120
      replace H := Option.bind_eq_some_iff.mp H
      obtain ⟨t293, A130, H⟩ := H
      replace H : (if t293 = t282 then ((laws_toDfa.f k l0_0 l0_1 l0_2).bind fun bt294 => ((laws_eqDfa.f k t283 t286 t289 bt294.1 bt294.2.1 bt294.2.2).bind fun t303 => (if t303 = true then (some true) else (some false)))) else (some false)) = some r := H
      have A13 := Aside0.mk A130
      clear A130
      by_cases c14 : t293 = t282
      · rw [if_pos c14] at H
        have c14b0 : (t293 == t282) = true := beq_iff_eq.mpr c14
        have c14b1 : (t293 != t282) = false := bne_eq_false_iff_eq.mpr c14
        clear c14
        replace H := Option.bind_eq_some_iff.mp H
        obtain ⟨⟨t294, t297, t300⟩, A150, H⟩ := H
        replace H : ((laws_eqDfa.f k t283 t286 t289 t294 t297 t300).bind fun t303 => (if t303 = true then (some true) else (some false))) = some r := H
        have A15 := Aside0.mk A150
        clear A150
        replace H := Option.bind_eq_some_iff.mp H
        obtain ⟨t303, A160, H⟩ := H
        replace H : (if t303 = true then (some true) else (some false)) = some r := H
        have A16 := Aside0.mk A160
        clear A160
        by_cases c17 : t303 = true
        · subst c17
          have H1 : (some true) = some r := by rw [if_pos rfl] at H; exact H
          clear H
          have H := H1
          clear H1
          obtain rfl := Option.some.inj H
          go_enter Try.func3, Try.ntmps3
          try go_wp2_with (first | ((with_reducible refine gate_dst (N := 2) rfl ?_); refine box_event ?hg (N := 2) ?hd (cs := #[.slice A0_0 l0_0.length c0_0, .slice A0_1 l0_1.length c0_1, .slice A0_2 l0_2.length c0_2]) (t := 26) ?hr ?_; (case hd => rfl); (case hg => rfl); (case hr => first | (go_simp; done) | (go_simp; rfl)); intro gb271 hg w18 hbox hb; have n0_ := Aside0.mk (below_step (by repeat (first | (with_reducible first | exact HB.out | apply below_alloc | apply pw_below_drewN | apply below_drew1) | exact HB.out)) hb); have n1_ := Aside0.mk (hbox); have n2_ := Aside0.mk ((by rw [hg]; exact (below_size (by repeat (first | (with_reducible first | exact HB.out | apply below_alloc | apply pw_below_drewN | apply below_drew1) | exact HB.out))) : w.heap.size ≤ gb271)); have n3_ := Aside0.mk ((by rw [hg]; exact (below_size (by repeat (first | (with_reducible first | exact HB.out | apply below_alloc | apply pw_below_drewN | apply below_drew1) | exact HB.out))) : w.heap.size ≤ gb271)); clear HB; have HB := n0_; have BK271 := n1_; have GW271 := n2_; have GE271 := n3_; clear n0_ n1_ n2_ n3_; clear hb hbox hg; have hcz19_0 : w18.cell? ⟨gb271, 0, none⟩ = some (.slice A0_0 l0_0.length c0_0) := (blk_cell BK271.out 0).trans rfl; have hcz19_1 : w18.cell? ⟨gb271, 1, none⟩ = some (.slice A0_1 l0_1.length c0_1) := (blk_cell BK271.out 1).trans rfl; have hcz19_2 : w18.cell? ⟨gb271, 2, none⟩ = some (.slice A0_2 l0_2.length c0_2) := (blk_cell BK271.out 2).trans rfl; have hfz19_0 := blk_frozen BK271.out 0; have hfz19_1 := blk_frozen BK271.out 1; have hfz19_2 := blk_frozen BK271.out 2) | ((with_reducible refine gate_callee (f := 13) rfl ?_); refine goesL_ (some 14) rfl rfl Try.func13 (by kernel_rfl) rfl #[.agg #[.slice A0_0 l0_0.length c0_0, .slice A0_1 l0_1.length c0_1, .slice A0_2 l0_2.length c0_2], .int .i64 1048576] rfl (by (try simp only [List.map_toArray, List.map_cons, List.map_nil]); first | done | rfl | (simp only [List.length_drop, List.length_take]; rfl)) ?_; (with_reducible refine (laws_szDfa.calls k _ _ l0_0 _ _ l0_1 _ _ l0_2 1048576 t272 _ ?side1 ?side2 ?side3 ?side4 ?side5 ?side6 A5.out).mono ?_); (case side1 => repeat (first | exact (Kd.C_below HR0_0.out HB.out) | (with_reducible refine Kd.C_alloc ?_ _) | (with_reducible refine Kd.C_drewN ?_ _) | (with_reducible refine Kd.C_drew ?_))); (case side2 => exact HC0_0.out); (case side3 => repeat (first | exact (Kd.C_below HR0_1.out HB.out) | (with_reducible refine Kd.C_alloc ?_ _) | (with_reducible refine Kd.C_drewN ?_ _) | (with_reducible refine Kd.C_drew ?_))); (case side4 => exact HC0_1.out); (case side5 => repeat (first | exact (Kd.C_below HR0_2.out HB.out) | (with_reducible refine Kd.C_alloc ?_ _) | (with_reducible refine Kd.C_drewN ?_ _) | (with_reducible refine Kd.C_drew ?_))); (case side6 => exact HC0_2.out); rintro e w20 ⟨rfl, hb⟩; refine ⟨_, rfl, ?_⟩; have n0_ := Aside0.mk (blk_below (g := gb271) (o := .cells #[.slice A0_0 l0_0.length c0_0, .slice A0_1 l0_1.length c0_1, .slice A0_2 l0_2.length c0_2] 26 (0, 0)) (by (with_reducible repeat (first | refine blk_drewN ?_ _ | refine blk_drew ?_ | refine blk_alloc ?_ _)); exact BK271.out) hb); have n1_ := Aside0.mk (below_step (by repeat (first | (with_reducible first | exact HB.out | apply below_alloc | apply pw_below_drewN | apply below_drew1 | refine below_set ?_ GE271.out) | exact HB.out)) hb); clear BK271; clear HB; have BK271 := n0_; have HB := n1_; clear n0_ n1_; (try clear hb); (try clear hb2); (try clear hk); (try clear hi); have hcz21_0 : w20.cell? ⟨gb271, 0, none⟩ = some (.slice A0_0 l0_0.length c0_0) := (blk_cell BK271.out 0).trans rfl; have hcz21_1 : w20.cell? ⟨gb271, 1, none⟩ = some (.slice A0_1 l0_1.length c0_1) := (blk_cell BK271.out 1).trans rfl; have hcz21_2 : w20.cell? ⟨gb271, 2, none⟩ = some (.slice A0_2 l0_2.length c0_2) := (blk_cell BK271.out 2).trans rfl; have hfz21_0 := blk_frozen BK271.out 0; have hfz21_1 := blk_frozen BK271.out 1; have hfz21_2 := blk_frozen BK271.out 2) | ((with_reducible refine gate_callee (f := 15) rfl ?_); refine goesL_ (some 18) rfl rfl Try.func15 (by kernel_rfl) rfl #[.agg #[.slice A0_0 l0_0.length c0_0, .slice A0_1 l0_1.length c0_1, .slice A0_2 l0_2.length c0_2]] rfl (by (try simp only [List.map_toArray, List.map_cons, List.map_nil]); first | done | rfl | (simp only [List.length_drop, List.length_take]; rfl)) ?_; (with_reducible refine (laws_toDfa.calls k _ _ l0_0 _ _ l0_1 _ _ l0_2 t273 t276 t279 _ ?side1 ?side2 ?side3 ?side4 ?side5 ?side6 A10.out).mono ?_); (case side1 => repeat (first | exact (Kd.C_below HR0_0.out HB.out) | (with_reducible refine Kd.C_alloc ?_ _) | (with_reducible refine Kd.C_drewN ?_ _) | (with_reducible refine Kd.C_drew ?_))); (case side2 => exact HC0_0.out); (case side3 => repeat (first | exact (Kd.C_below HR0_1.out HB.out) | (with_reducible refine Kd.C_alloc ?_ _) | (with_reducible refine Kd.C_drewN ?_ _) | (with_reducible refine Kd.C_drew ?_))); (case side4 => exact HC0_1.out); (case side5 => repeat (first | exact (Kd.C_below HR0_2.out HB.out) | (with_reducible refine Kd.C_alloc ?_ _) | (with_reducible refine Kd.C_drewN ?_ _) | (with_reducible refine Kd.C_drew ?_))); (case side6 => exact HC0_2.out); rintro e w22 ⟨v274, v277, v280, rfl, ho0, ho1, ho2, hb⟩; refine ⟨_, rfl, ?_⟩; have n0_ := Aside0.mk (Kd.S_lower ho0 (below_size (by repeat (first | (with_reducible first | exact HB.out | apply below_alloc | apply pw_below_drewN | apply below_drew1 | refine below_set ?_ GE271.out) | exact HB.out)))); have n1_ := Aside0.mk (Kd.S_lower ho1 (below_size (by repeat (first | (with_reducible first | exact HB.out | apply below_alloc | apply pw_below_drewN | apply below_drew1 | refine below_set ?_ GE271.out) | exact HB.out)))); have n2_ := Aside0.mk (Kd.R_lower ho2 (below_size (by repeat (first | (with_reducible first | exact HB.out | apply below_alloc | apply pw_below_drewN | apply below_drew1 | refine below_set ?_ GE271.out) | exact HB.out)))); have n3_ := Aside0.mk (blk_below (g := gb271) (o := .cells #[.slice A0_0 l0_0.length c0_0, .slice A0_1 l0_1.length c0_1, .slice A0_2 l0_2.length c0_2] 26 (0, 0)) (by (with_reducible repeat (first | refine blk_drewN ?_ _ | refine blk_drew ?_ | refine blk_alloc ?_ _)); exact BK271.out) hb); have n4_ := Aside0.mk (below_step (by repeat (first | (with_reducible first | exact HB.out | apply below_alloc | apply pw_below_drewN | apply below_drew1 | refine below_set ?_ GE271.out) | exact HB.out)) hb); clear BK271; clear HB; have HO275 := n0_; have HO278 := n1_; have HO281 := n2_; have BK271 := n3_; have HB := n4_; clear n0_ n1_ n2_ n3_ n4_; (try clear hb); (try clear hb2); (try clear hk); (try clear hi); (try clear ho0); (try clear ho1); (try clear ho2); obtain ⟨Ao23, co23, eo23⟩ := Kd.S_slice HO275.out; subst eo23; obtain ⟨Ao24, co24, eo24⟩ := Kd.S_slice HO278.out; subst eo24; obtain ⟨Ao25, co25, eo25⟩ := Kd.R_slice HO281.out; subst eo25) | ((with_reducible refine gate_callee (f := 14) rfl ?_); refine goesL_ (some 20) rfl rfl Try.func14 (by kernel_rfl) rfl #[.agg #[.slice Ao23 t273.length co23, .slice Ao24 t276.length co24, .slice Ao25 t279.length co25], .string a1] rfl (by (try simp only [List.map_toArray, List.map_cons, List.map_nil]); first | done | rfl | (simp only [List.length_drop, List.length_take]; rfl)) ?_; (with_reducible refine (spec_DfaRun.calls k _ _ t273 _ _ t276 _ _ t279 a1 t282 _ ?side1 ?side2 ?side3 ?side4 ?side5 ?side6 A11.out).mono ?_); (case side1 => repeat (first | exact (Kd.S_reads' HO275.out).2.2 | (with_reducible refine Kd.C_alloc ?_ _) | (with_reducible refine Kd.C_drewN ?_ _) | (with_reducible refine Kd.C_drew ?_))); (case side2 => exact (Kd.S_reads' HO275.out).2.1); (case side3 => repeat (first | exact (Kd.S_reads' HO278.out).2.2 | (with_reducible refine Kd.C_alloc ?_ _) | (with_reducible refine Kd.C_drewN ?_ _) | (with_reducible refine Kd.C_drew ?_))); (case side4 => exact (Kd.S_reads' HO278.out).2.1); (case side5 => repeat (first | exact (Kd.R_reads' HO281.out).2.2 | (with_reducible refine Kd.C_alloc ?_ _) | (with_reducible refine Kd.C_drewN ?_ _) | (with_reducible refine Kd.C_drew ?_))); (case side6 => exact (Kd.R_reads' HO281.out).2.1); rintro e w26 ⟨rfl, hb⟩; refine ⟨_, rfl, ?_⟩; have n0_ := Aside0.mk (Kd.S_below (by (with_reducible repeat (first | apply Kd.S_alloc | apply Kd.S_drewN | apply Kd.S_drew)); exact HO275.out) hb); have n1_ := Aside0.mk (Kd.S_below (by (with_reducible repeat (first | apply Kd.S_alloc | apply Kd.S_drewN | apply Kd.S_drew)); exact HO278.out) hb); have n2_ := Aside0.mk (Kd.R_below (by (with_reducible repeat (first | apply Kd.R_alloc | apply Kd.R_drewN | apply Kd.R_drew)); exact HO281.out) hb); have n3_ := Aside0.mk (blk_below (g := gb271) (o := .cells #[.slice A0_0 l0_0.length c0_0, .slice A0_1 l0_1.length c0_1, .slice A0_2 l0_2.length c0_2] 26 (0, 0)) (by (with_reducible repeat (first | refine blk_drewN ?_ _ | refine blk_drew ?_ | refine blk_alloc ?_ _)); exact BK271.out) hb); have n4_ := Aside0.mk (below_step (by repeat (first | (with_reducible first | exact HB.out | apply below_alloc | apply pw_below_drewN | apply below_drew1 | refine below_set ?_ GE271.out) | exact HB.out)) hb); clear HO275; clear HO278; clear HO281; clear BK271; clear HB; have HO275 := n0_; have HO278 := n1_; have HO281 := n2_; have BK271 := n3_; have HB := n4_; clear n0_ n1_ n2_ n3_ n4_; (try clear hb); (try clear hb2); (try clear hk); (try clear hi); have hcz27_0 : w26.cell? ⟨gb271, 0, none⟩ = some (.slice A0_0 l0_0.length c0_0) := (blk_cell BK271.out 0).trans rfl; have hcz27_1 : w26.cell? ⟨gb271, 1, none⟩ = some (.slice A0_1 l0_1.length c0_1) := (blk_cell BK271.out 1).trans rfl; have hcz27_2 : w26.cell? ⟨gb271, 2, none⟩ = some (.slice A0_2 l0_2.length c0_2) := (blk_cell BK271.out 2).trans rfl; have hfz27_0 := blk_frozen BK271.out 0; have hfz27_1 := blk_frozen BK271.out 1; have hfz27_2 := blk_frozen BK271.out 2) | ((with_reducible refine gate_callee (f := 15) rfl ?_); refine goesL_ (some 22) rfl rfl Try.func15 (by kernel_rfl) rfl #[.agg #[.slice A0_0 l0_0.length c0_0, .slice A0_1 l0_1.length c0_1, .slice A0_2 l0_2.length c0_2]] rfl (by (try simp only [List.map_toArray, List.map_cons, List.map_nil]); first | done | rfl | (simp only [List.length_drop, List.length_take]; rfl)) ?_; (with_reducible refine (laws_toDfa.calls k _ _ l0_0 _ _ l0_1 _ _ l0_2 t283 t286 t289 _ ?side1 ?side2 ?side3 ?side4 ?side5 ?side6 A12.out).mono ?_); (case side1 => repeat (first | exact (Kd.C_below HR0_0.out HB.out) | (with_reducible refine Kd.C_alloc ?_ _) | (with_reducible refine Kd.C_drewN ?_ _) | (with_reducible refine Kd.C_drew ?_))); (case side2 => exact HC0_0.out); (case side3 => repeat (first | exact (Kd.C_below HR0_1.out HB.out) | (with_reducible refine Kd.C_alloc ?_ _) | (with_reducible refine Kd.C_drewN ?_ _) | (with_reducible refine Kd.C_drew ?_))); (case side4 => exact HC0_1.out); (case side5 => repeat (first | exact (Kd.C_below HR0_2.out HB.out) | (with_reducible refine Kd.C_alloc ?_ _) | (with_reducible refine Kd.C_drewN ?_ _) | (with_reducible refine Kd.C_drew ?_))); (case side6 => exact HC0_2.out); rintro e w28 ⟨v284, v287, v290, rfl, ho0, ho1, ho2, hb⟩; refine ⟨_, rfl, ?_⟩; have n0_ := Aside0.mk (Kd.S_elder' (by (with_reducible repeat (first | apply Kd.S_alloc | apply Kd.S_drewN | apply Kd.S_drew)); exact HO275.out) (Kd.S_base ho0) hb); have n1_ := Aside0.mk (Kd.S_mono (Kd.S_told (Kd.S_told (Kd.S_old (by (with_reducible repeat (first | apply Kd.S_alloc | apply Kd.S_drewN | apply Kd.S_drew)); exact HO278.out) hb) (Kd.S_base ho1)) (Kd.R_base ho2)) (fun _ h_ => h_.1)); have n2_ := Aside0.mk (Kd.R_elder' (by (with_reducible repeat (first | apply Kd.R_alloc | apply Kd.R_drewN | apply Kd.R_drew)); exact HO281.out) (Kd.R_base ho2) hb); have n3_ := Aside0.mk (Kd.S_lower (Kd.S_new' ho0 (Kd.S_lt (by (with_reducible repeat (first | apply Kd.S_alloc | apply Kd.S_drewN | apply Kd.S_drew)); exact HO275.out))) (below_size (by repeat (first | (with_reducible first | exact HB.out | apply below_alloc | apply pw_below_drewN | apply below_drew1 | refine below_set ?_ GE271.out) | exact HB.out)))); have n4_ := Aside0.mk (Kd.S_lower (Kd.S_new' (Kd.S_new' ho1 (Kd.S_lt (by (with_reducible repeat (first | apply Kd.S_alloc | apply Kd.S_drewN | apply Kd.S_drew)); exact HO278.out))) (Kd.R_lt (by (with_reducible repeat (first | apply Kd.R_alloc | apply Kd.R_drewN | apply Kd.R_drew)); exact HO281.out))) (below_size (by repeat (first | (with_reducible first | exact HB.out | apply below_alloc | apply pw_below_drewN | apply below_drew1 | refine below_set ?_ GE271.out) | exact HB.out)))); have n5_ := Aside0.mk (Kd.R_lower (Kd.R_new' ho2 (Kd.R_lt (by (with_reducible repeat (first | apply Kd.R_alloc | apply Kd.R_drewN | apply Kd.R_drew)); exact HO281.out))) (below_size (by repeat (first | (with_reducible first | exact HB.out | apply below_alloc | apply pw_below_drewN | apply below_drew1 | refine below_set ?_ GE271.out) | exact HB.out)))); have n6_ := Aside0.mk (blk_below (g := gb271) (o := .cells #[.slice A0_0 l0_0.length c0_0, .slice A0_1 l0_1.length c0_1, .slice A0_2 l0_2.length c0_2] 26 (0, 0)) (by (with_reducible repeat (first | refine blk_drewN ?_ _ | refine blk_drew ?_ | refine blk_alloc ?_ _)); exact BK271.out) hb); have n7_ := Aside0.mk (below_step (by repeat (first | (with_reducible first | exact HB.out | apply below_alloc | apply pw_below_drewN | apply below_drew1 | refine below_set ?_ GE271.out) | exact HB.out)) hb); clear HO275; clear HO278; clear HO281; clear BK271; clear HB; have HO275 := n0_; have HO278 := n1_; have HO281 := n2_; have HO285 := n3_; have HO288 := n4_; have HO291 := n5_; have BK271 := n6_; have HB := n7_; clear n0_ n1_ n2_ n3_ n4_ n5_ n6_ n7_; (try clear hb); (try clear hb2); (try clear hk); (try clear hi); (try clear ho0); (try clear ho1); (try clear ho2)) | ((with_reducible refine gate_dst (N := 7) rfl ?_); refine box_event ?hg (N := 7) ?hd (cs := #[.slice none 0 0, .slice none 0 0, .slice none 0 0]) (t := 31) ?hr ?_; (case hd => rfl); (case hg => rfl); (case hr => first | (go_simp; done) | (go_simp; rfl)); intro gb292 hg w29 hbox hb; have n0_ := Aside0.mk (Kd.S_below (by (with_reducible repeat (first | apply Kd.S_alloc | apply Kd.S_drewN | apply Kd.S_drew)); exact HO275.out) hb); have n1_ := Aside0.mk (Kd.S_below (by (with_reducible repeat (first | apply Kd.S_alloc | apply Kd.S_drewN | apply Kd.S_drew)); exact HO278.out) hb); have n2_ := Aside0.mk (Kd.R_below (by (with_reducible repeat (first | apply Kd.R_alloc | apply Kd.R_drewN | apply Kd.R_drew)); exact HO281.out) hb); have n3_ := Aside0.mk (Kd.S_below (by (with_reducible repeat (first | apply Kd.S_alloc | apply Kd.S_drewN | apply Kd.S_drew)); exact HO285.out) hb); have n4_ := Aside0.mk (Kd.S_below (by (with_reducible repeat (first | apply Kd.S_alloc | apply Kd.S_drewN | apply Kd.S_drew)); exact HO288.out) hb); have n5_ := Aside0.mk (Kd.R_below (by (with_reducible repeat (first | apply Kd.R_alloc | apply Kd.R_drewN | apply Kd.R_drew)); exact HO291.out) hb); have n6_ := Aside0.mk (blk_below (g := gb271) (o := .cells #[.slice A0_0 l0_0.length c0_0, .slice A0_1 l0_1.length c0_1, .slice A0_2 l0_2.length c0_2] 26 (0, 0)) (by (with_reducible repeat (first | refine blk_drewN ?_ _ | refine blk_drew ?_ | refine blk_alloc ?_ _)); exact BK271.out) hb); have n7_ := Aside0.mk (below_step (by repeat (first | (with_reducible first | exact HB.out | apply below_alloc | apply pw_below_drewN | apply below_drew1 | refine below_set ?_ GE271.out) | exact HB.out)) hb); have n8_ := Aside0.mk (hbox); have n9_ := Aside0.mk ((by rw [hg]; exact (below_size (by repeat (first | (with_reducible first | exact HB.out | apply below_alloc | apply pw_below_drewN | apply below_drew1 | refine below_set ?_ GE271.out) | exact HB.out))) : w.heap.size ≤ gb292)); have n10_ := Aside0.mk ((by rw [hg]; exact (below_size (by repeat (first | (with_reducible first | exact HB.out | apply below_alloc | apply pw_below_drewN | apply below_drew1 | refine below_set ?_ GE271.out) | exact HB.out))) : w.heap.size ≤ gb292)); have n11_ := Aside0.mk ((by rw [hg]; exact Nat.ne_of_lt (blk_lt (g := gb271) (o := .cells #[.slice A0_0 l0_0.length c0_0, .slice A0_1 l0_1.length c0_1, .slice A0_2 l0_2.length c0_2] 26 (0, 0)) (by (with_reducible repeat (first | refine blk_drewN ?_ _ | refine blk_drew ?_ | refine blk_alloc ?_ _)); exact BK271.out)) : gb271 ≠ gb292)); have n12_ := Aside0.mk ((by rw [hg]; exact Nat.ne_of_gt (blk_lt (g := gb271) (o := .cells #[.slice A0_0 l0_0.length c0_0, .slice A0_1 l0_1.length c0_1, .slice A0_2 l0_2.length c0_2] 26 (0, 0)) (by (with_reducible repeat (first | refine blk_drewN ?_ _ | refine blk_drew ?_ | refine blk_alloc ?_ _)); exact BK271.out)) : gb292 ≠ gb271)); clear HO275; clear HO278; clear HO281; clear HO285; clear HO288; clear HO291; clear BK271; clear HB; have HO275 := n0_; have HO278 := n1_; have HO281 := n2_; have HO285 := n3_; have HO288 := n4_; have HO291 := n5_; have BK271 := n6_; have HB := n7_; have BK292 := n8_; have GW292 := n9_; have GE292 := n10_; have NB271_292 := n11_; have NB292_271 := n12_; clear n0_ n1_ n2_ n3_ n4_ n5_ n6_ n7_ n8_ n9_ n10_ n11_ n12_; clear hb hbox hg; obtain ⟨Ao30, co30, eo30⟩ := Kd.S_slice HO285.out; subst eo30; have hnb31 := NB292_271.out; have hnc31 := NB271_292.out; have hcz32_0 : w29.cell? ⟨gb292, 0, none⟩ = some (.slice none 0 0) := (blk_cell BK292.out 0).trans rfl; have hcz32_1 : w29.cell? ⟨gb292, 1, none⟩ = some (.slice none 0 0) := (blk_cell BK292.out 1).trans rfl; have hcz32_2 : w29.cell? ⟨gb292, 2, none⟩ = some (.slice none 0 0) := (blk_cell BK292.out 2).trans rfl; have hfz32_0 := blk_frozen BK292.out 0; have hfz32_1 := blk_frozen BK292.out 1; have hfz32_2 := blk_frozen BK292.out 2; obtain ⟨Ao33, co33, eo33⟩ := Kd.S_slice HO288.out; subst eo33; obtain ⟨Ao34, co34, eo34⟩ := Kd.R_slice HO291.out; subst eo34) | ((with_reducible refine gate_callee (f := 16) rfl ?_); refine goesL_ (some 25) rfl rfl Try.func16 (by kernel_rfl) rfl #[.agg #[.slice Ao30 t283.length co30, .slice Ao33 t286.length co33, .slice Ao34 t289.length co34], .string a1] rfl (by (try simp only [List.map_toArray, List.map_cons, List.map_nil]); first | done | rfl | (simp only [List.length_drop, List.length_take]; rfl)) ?_; (with_reducible refine (impl_DfaRun.calls k _ _ t283 _ _ t286 _ _ t289 a1 t293 _ ?side1 ?side2 ?side3 ?side4 ?side5 ?side6 A13.out).mono ?_); (case side1 => refine (Kd.S_reads' (e := 80) (base := w.heap.size) (ok := fun k_ => (True ∧ some k_ ≠ (.slice Ao23 t273.length co23 : Value).ownBlock)) (n := t283.length) (c := co30) ?_).2.2; exact (by (with_reducible repeat (first | apply Kd.S_alloc | apply Kd.S_drewN | apply Kd.S_drew)); exact (Kd.S_mono (Kd.S_far (p := ⟨gb292, 2, none⟩) (Kd.S_far (p := ⟨gb292, 1, none⟩) (Kd.S_far (p := ⟨gb292, 0, none⟩) (Kd.S_types HO285.out BK292.out (by decide)) (fun _ hk => hk.2) (.slice Ao30 t283.length co30)) (fun _ hk => hk.2) (.slice Ao33 t286.length co33)) (fun _ hk => hk.2) (.slice Ao34 t289.length co34)) (fun _ h_ => h_.1)))); (case side2 => exact (Kd.S_reads' HO285.out).2.1); (case side3 => refine (Kd.S_reads' (e := 24) (base := w.heap.size) (ok := fun k_ => ((some k_ ≠ (.slice Ao34 t289.length co34 : Value).ownBlock ∧ some k_ ≠ (.slice Ao24 t276.length co24 : Value).ownBlock) ∧ some k_ ≠ (.slice Ao25 t279.length co25 : Value).ownBlock)) (n := t286.length) (c := co33) ?_).2.2; exact (by (with_reducible repeat (first | apply Kd.S_alloc | apply Kd.S_drewN | apply Kd.S_drew)); exact (Kd.S_mono (Kd.S_far (p := ⟨gb292, 2, none⟩) (Kd.S_far (p := ⟨gb292, 1, none⟩) (Kd.S_far (p := ⟨gb292, 0, none⟩) (Kd.S_types HO288.out BK292.out (by decide)) (fun _ hk => hk.2) (.slice Ao30 t283.length co30)) (fun _ hk => hk.2) (.slice Ao33 t286.length co33)) (fun _ hk => hk.2) (.slice Ao34 t289.length co34)) (fun _ h_ => h_.1)))); (case side4 => exact (Kd.S_reads' HO288.out).2.1); (case side5 => refine (Kd.R_reads' (e := 3) (base := w.heap.size) (ok := fun k_ => (True ∧ some k_ ≠ (.slice Ao25 t279.length co25 : Value).ownBlock)) (n := t289.length) (c := co34) ?_).2.2; exact (by (with_reducible repeat (first | apply Kd.R_alloc | apply Kd.R_drewN | apply Kd.R_drew)); exact (Kd.R_mono (Kd.R_far (p := ⟨gb292, 2, none⟩) (Kd.R_far (p := ⟨gb292, 1, none⟩) (Kd.R_far (p := ⟨gb292, 0, none⟩) (Kd.R_types HO291.out BK292.out (by decide)) (fun _ hk => hk.2) (.slice Ao30 t283.length co30)) (fun _ hk => hk.2) (.slice Ao33 t286.length co33)) (fun _ hk => hk.2) (.slice Ao34 t289.length co34)) (fun _ h_ => h_.1)))); (case side6 => exact (Kd.R_reads' HO291.out).2.1); rintro e w35 ⟨rfl, hb⟩; refine ⟨_, rfl, ?_⟩; have n0_ := Aside0.mk (Kd.S_below (by (with_reducible repeat (first | apply Kd.S_alloc | apply Kd.S_drewN | apply Kd.S_drew)); exact (Kd.S_mono (Kd.S_far (p := ⟨gb292, 2, none⟩) (Kd.S_far (p := ⟨gb292, 1, none⟩) (Kd.S_far (p := ⟨gb292, 0, none⟩) (Kd.S_types HO275.out BK292.out (by decide)) (fun _ hk => hk.2) (.slice Ao30 t283.length co30)) (fun _ hk => hk.2) (.slice Ao33 t286.length co33)) (fun _ hk => hk.2) (.slice Ao34 t289.length co34)) (fun _ h_ => h_.1))) hb); have n1_ := Aside0.mk (Kd.S_below (by (with_reducible repeat (first | apply Kd.S_alloc | apply Kd.S_drewN | apply Kd.S_drew)); exact (Kd.S_mono (Kd.S_far (p := ⟨gb292, 2, none⟩) (Kd.S_far (p := ⟨gb292, 1, none⟩) (Kd.S_far (p := ⟨gb292, 0, none⟩) (Kd.S_types HO278.out BK292.out (by decide)) (fun _ hk => hk.2) (.slice Ao30 t283.length co30)) (fun _ hk => hk.2) (.slice Ao33 t286.length co33)) (fun _ hk => hk.2) (.slice Ao34 t289.length co34)) (fun _ h_ => h_.1))) hb); have n2_ := Aside0.mk (Kd.R_below (by (with_reducible repeat (first | apply Kd.R_alloc | apply Kd.R_drewN | apply Kd.R_drew)); exact (Kd.R_mono (Kd.R_far (p := ⟨gb292, 2, none⟩) (Kd.R_far (p := ⟨gb292, 1, none⟩) (Kd.R_far (p := ⟨gb292, 0, none⟩) (Kd.R_types HO281.out BK292.out (by decide)) (fun _ hk => hk.2) (.slice Ao30 t283.length co30)) (fun _ hk => hk.2) (.slice Ao33 t286.length co33)) (fun _ hk => hk.2) (.slice Ao34 t289.length co34)) (fun _ h_ => h_.1))) hb); have n3_ := Aside0.mk (Kd.S_below (by (with_reducible repeat (first | apply Kd.S_alloc | apply Kd.S_drewN | apply Kd.S_drew)); exact (Kd.S_mono (Kd.S_far (p := ⟨gb292, 2, none⟩) (Kd.S_far (p := ⟨gb292, 1, none⟩) (Kd.S_far (p := ⟨gb292, 0, none⟩) (Kd.S_types HO285.out BK292.out (by decide)) (fun _ hk => hk.2) (.slice Ao30 t283.length co30)) (fun _ hk => hk.2) (.slice Ao33 t286.length co33)) (fun _ hk => hk.2) (.slice Ao34 t289.length co34)) (fun _ h_ => h_.1))) hb); have n4_ := Aside0.mk (Kd.S_below (by (with_reducible repeat (first | apply Kd.S_alloc | apply Kd.S_drewN | apply Kd.S_drew)); exact (Kd.S_mono (Kd.S_far (p := ⟨gb292, 2, none⟩) (Kd.S_far (p := ⟨gb292, 1, none⟩) (Kd.S_far (p := ⟨gb292, 0, none⟩) (Kd.S_types HO288.out BK292.out (by decide)) (fun _ hk => hk.2) (.slice Ao30 t283.length co30)) (fun _ hk => hk.2) (.slice Ao33 t286.length co33)) (fun _ hk => hk.2) (.slice Ao34 t289.length co34)) (fun _ h_ => h_.1))) hb); have n5_ := Aside0.mk (Kd.R_below (by (with_reducible repeat (first | apply Kd.R_alloc | apply Kd.R_drewN | apply Kd.R_drew)); exact (Kd.R_mono (Kd.R_far (p := ⟨gb292, 2, none⟩) (Kd.R_far (p := ⟨gb292, 1, none⟩) (Kd.R_far (p := ⟨gb292, 0, none⟩) (Kd.R_types HO291.out BK292.out (by decide)) (fun _ hk => hk.2) (.slice Ao30 t283.length co30)) (fun _ hk => hk.2) (.slice Ao33 t286.length co33)) (fun _ hk => hk.2) (.slice Ao34 t289.length co34)) (fun _ h_ => h_.1))) hb); have n6_ := Aside0.mk (blk_below (g := gb271) (o := .cells #[.slice A0_0 l0_0.length c0_0, .slice A0_1 l0_1.length c0_1, .slice A0_2 l0_2.length c0_2] 26 (0, 0)) (by (with_reducible repeat (first | refine blk_drewN ?_ _ | refine blk_drew ?_ | refine blk_alloc ?_ _)); refine blk_far ?_ NB271_292.out _; (with_reducible repeat (first | refine blk_drewN ?_ _ | refine blk_drew ?_ | refine blk_alloc ?_ _)); refine blk_far ?_ NB271_292.out _; (with_reducible repeat (first | refine blk_drewN ?_ _ | refine blk_drew ?_ | refine blk_alloc ?_ _)); refine blk_far ?_ NB271_292.out _; (with_reducible repeat (first | refine blk_drewN ?_ _ | refine blk_drew ?_ | refine blk_alloc ?_ _)); exact BK271.out) hb); have n7_ := Aside0.mk (blk_below (g := gb292) (o := .cells #[.slice Ao30 t283.length co30, .slice Ao33 t286.length co33, .slice Ao34 t289.length co34] 31 (0, 0)) (by (with_reducible repeat (first | refine blk_drewN ?_ _ | refine blk_drew ?_ | refine blk_alloc ?_ _)); refine blk_put (cs := #[.slice Ao30 t283.length co30, .slice Ao33 t286.length co33, .slice none 0 0]) ?_ 2 _ rfl; (with_reducible repeat (first | refine blk_drewN ?_ _ | refine blk_drew ?_ | refine blk_alloc ?_ _)); refine blk_put (cs := #[.slice Ao30 t283.length co30, .slice none 0 0, .slice none 0 0]) ?_ 1 _ rfl; (with_reducible repeat (first | refine blk_drewN ?_ _ | refine blk_drew ?_ | refine blk_alloc ?_ _)); refine blk_put (cs := #[.slice none 0 0, .slice none 0 0, .slice none 0 0]) ?_ 0 _ rfl; (with_reducible repeat (first | refine blk_drewN ?_ _ | refine blk_drew ?_ | refine blk_alloc ?_ _)); exact BK292.out) hb); have n8_ := Aside0.mk (below_step (by repeat (first | (with_reducible first | exact HB.out | apply below_alloc | apply pw_below_drewN | apply below_drew1 | refine below_set ?_ GE271.out | refine below_set ?_ GE292.out) | exact HB.out)) hb); clear HO275; clear HO278; clear HO281; clear HO285; clear HO288; clear HO291; clear BK271; clear BK292; clear HB; have HO275 := n0_; have HO278 := n1_; have HO281 := n2_; have HO285 := n3_; have HO288 := n4_; have HO291 := n5_; have BK271 := n6_; have BK292 := n7_; have HB := n8_; clear n0_ n1_ n2_ n3_ n4_ n5_ n6_ n7_ n8_; (try clear hb); (try clear hb2); (try clear hk); (try clear hi)))
          have n0_ := Aside0.mk (Kd.S_drew HO275.out)
          have n1_ := Aside0.mk (Kd.S_drew HO278.out)
          have n2_ := Aside0.mk (Kd.R_drew HO281.out)
          have n3_ := Aside0.mk (Kd.S_drew HO285.out)
          have n4_ := Aside0.mk (Kd.S_drew HO288.out)
          have n5_ := Aside0.mk (Kd.R_drew HO291.out)
          have n6_ := Aside0.mk (blk_drew BK271.out)
          have n7_ := Aside0.mk (blk_drew BK292.out)
          have n8_ := Aside0.mk (below_drew1 HB.out)
          clear HO275
          clear HO278
          clear HO281
          clear HO285
          clear HO288
          clear HO291
          clear BK271
          clear BK292
          clear HB
          have HO275 := n0_
          have HO278 := n1_
          have HO281 := n2_
          have HO285 := n3_
          have HO288 := n4_
          have HO291 := n5_
          have BK271 := n6_
          have BK292 := n7_
          have HB := n8_
          clear n0_ n1_ n2_ n3_ n4_ n5_ n6_ n7_ n8_
          refine start_ (n := 5) (S := fun w' => w'.cell? ⟨gb292, 0, none⟩ = some (.slice Ao30 t283.length co30) ∧ w'.cell? ⟨gb292, 1, none⟩ = some (.slice Ao33 t286.length co33) ∧ w'.cell? ⟨gb292, 2, none⟩ = some (.slice Ao34 t289.length co34) ∧ w'.cell? ⟨gb271, 0, none⟩ = some (.slice A0_0 l0_0.length c0_0) ∧ w'.cell? ⟨gb271, 1, none⟩ = some (.slice A0_1 l0_1.length c0_1) ∧ w'.cell? ⟨gb271, 2, none⟩ = some (.slice A0_2 l0_2.length c0_2)) (ds := []) #[false, false, false, false, false] (by kernel_rfl) rfl rfl ⟨(blk_cell BK292.out 0).trans rfl, (blk_cell BK292.out 1).trans rfl, (blk_cell BK292.out 2).trans rfl, (blk_cell BK271.out 0).trans rfl, (blk_cell BK271.out 1).trans rfl, (blk_cell BK271.out 2).trans rfl⟩ (fun hHeld => ?_)
          generalize w35.drew = w36 at HO275 HO278 HO281 HO285 HO288 HO291 BK271 BK292 HB hHeld ⊢
          refine take_ (i := 0) (N := some 29) (v := ?_) (a' := ?_) #[true, false, false, false, false] rfl rfl (by kernel_rfl) (fun _ _ _ h => h) (Or.inl ⟨by rfl, ?_⟩) hHeld ?_ ?_
          rotate_left
          · rintro w' ⟨s0, s1, s2, s3, s4, s5⟩
            go_simp
            with_reducible rfl
          rotate_left
          · simp only [Act.put, List.setIfInBounds_toArray, List.set_cons_zero, List.set_cons_succ, i64_w, i32_w]
            rfl
          refine take_ (i := 1) (N := some 30) (v := ?_) (a' := ?_) #[true, true, false, false, false] rfl rfl (by kernel_rfl) (fun _ _ _ h => h) (Or.inl ⟨by rfl, ?_⟩) hHeld ?_ ?_
          rotate_left
          · rintro w' ⟨s0, s1, s2, s3, s4, s5⟩
            go_simp
            with_reducible rfl
          rotate_left
          · simp only [Act.put, List.setIfInBounds_toArray, List.set_cons_zero, List.set_cons_succ, i64_w, i32_w]
            rfl
          refine one_ (i := 2) (N := some 31) #[true, true, true, false, false] rfl rfl (by kernel_rfl) (by decide) (fun K hK => ?_)
          refine goes_ Try.func15 (by kernel_rfl) rfl #[.agg #[.slice A0_0 l0_0.length c0_0, .slice A0_1 l0_1.length c0_1, .slice A0_2 l0_2.length c0_2]] (by rfl) rfl rfl (by (try simp only [List.map_toArray, List.map_cons, List.map_nil]); first | done | rfl | (simp only [List.length_drop, List.length_take]; rfl)) ?_
          with_reducible refine (laws_toDfa.calls k _ _ l0_0 _ _ l0_1 _ _ l0_2 t294 t297 t300 _ ?side1 ?side2 ?side3 ?side4 ?side5 ?side6 A15.out).mono ?_
          (case side1 => repeat (first | exact (Kd.C_below HR0_0.out HB.out) | (with_reducible refine Kd.C_alloc ?_ _) | (with_reducible refine Kd.C_drewN ?_ _) | (with_reducible refine Kd.C_drew ?_)))
          (case side2 => exact HC0_0.out)
          (case side3 => repeat (first | exact (Kd.C_below HR0_1.out HB.out) | (with_reducible refine Kd.C_alloc ?_ _) | (with_reducible refine Kd.C_drewN ?_ _) | (with_reducible refine Kd.C_drew ?_)))
          (case side4 => exact HC0_1.out)
          (case side5 => repeat (first | exact (Kd.C_below HR0_2.out HB.out) | (with_reducible refine Kd.C_alloc ?_ _) | (with_reducible refine Kd.C_drewN ?_ _) | (with_reducible refine Kd.C_drew ?_)))
          (case side6 => exact HC0_2.out)
          rintro e w37 ⟨v295, v298, v301, rfl, ho0, ho1, ho2, hb⟩
          refine ⟨_, rfl, ?_⟩
          have n0_ := Aside0.mk (Kd.S_elder' (by (with_reducible repeat (first | apply Kd.S_alloc | apply Kd.S_drewN | apply Kd.S_drew)); exact HO275.out) (Kd.S_base ho0) hb)
          have n1_ := Aside0.mk (Kd.S_mono (Kd.S_told (Kd.S_told (Kd.S_old (by (with_reducible repeat (first | apply Kd.S_alloc | apply Kd.S_drewN | apply Kd.S_drew)); exact HO278.out) hb) (Kd.S_base ho1)) (Kd.R_base ho2)) (fun _ h_ => h_.1))
          have n2_ := Aside0.mk (Kd.R_elder' (by (with_reducible repeat (first | apply Kd.R_alloc | apply Kd.R_drewN | apply Kd.R_drew)); exact HO281.out) (Kd.R_base ho2) hb)
          have n3_ := Aside0.mk (Kd.S_elder' (by (with_reducible repeat (first | apply Kd.S_alloc | apply Kd.S_drewN | apply Kd.S_drew)); exact HO285.out) (Kd.S_base ho0) hb)
          have n4_ := Aside0.mk (Kd.S_mono (Kd.S_told (Kd.S_told (Kd.S_old (by (with_reducible repeat (first | apply Kd.S_alloc | apply Kd.S_drewN | apply Kd.S_drew)); exact HO288.out) hb) (Kd.S_base ho1)) (Kd.R_base ho2)) (fun _ h_ => h_.1))
          have n5_ := Aside0.mk (Kd.R_elder' (by (with_reducible repeat (first | apply Kd.R_alloc | apply Kd.R_drewN | apply Kd.R_drew)); exact HO291.out) (Kd.R_base ho2) hb)
          have n6_ := Aside0.mk (Kd.S_lower (Kd.S_new' (Kd.S_new' ho0 (Kd.S_lt (by (with_reducible repeat (first | apply Kd.S_alloc | apply Kd.S_drewN | apply Kd.S_drew)); exact HO275.out))) (Kd.S_lt (by (with_reducible repeat (first | apply Kd.S_alloc | apply Kd.S_drewN | apply Kd.S_drew)); exact HO285.out))) (below_size (by repeat (first | (with_reducible first | exact HB.out | apply below_alloc | apply pw_below_drewN | apply below_drew1 | refine below_set ?_ GE271.out | refine below_set ?_ GE292.out) | exact HB.out))))
          have n7_ := Aside0.mk (Kd.S_lower (Kd.S_new' (Kd.S_new' (Kd.S_new' (Kd.S_new' ho1 (Kd.S_lt (by (with_reducible repeat (first | apply Kd.S_alloc | apply Kd.S_drewN | apply Kd.S_drew)); exact HO278.out))) (Kd.R_lt (by (with_reducible repeat (first | apply Kd.R_alloc | apply Kd.R_drewN | apply Kd.R_drew)); exact HO281.out))) (Kd.S_lt (by (with_reducible repeat (first | apply Kd.S_alloc | apply Kd.S_drewN | apply Kd.S_drew)); exact HO288.out))) (Kd.R_lt (by (with_reducible repeat (first | apply Kd.R_alloc | apply Kd.R_drewN | apply Kd.R_drew)); exact HO291.out))) (below_size (by repeat (first | (with_reducible first | exact HB.out | apply below_alloc | apply pw_below_drewN | apply below_drew1 | refine below_set ?_ GE271.out | refine below_set ?_ GE292.out) | exact HB.out))))
          have n8_ := Aside0.mk (Kd.R_lower (Kd.R_new' (Kd.R_new' ho2 (Kd.R_lt (by (with_reducible repeat (first | apply Kd.R_alloc | apply Kd.R_drewN | apply Kd.R_drew)); exact HO281.out))) (Kd.R_lt (by (with_reducible repeat (first | apply Kd.R_alloc | apply Kd.R_drewN | apply Kd.R_drew)); exact HO291.out))) (below_size (by repeat (first | (with_reducible first | exact HB.out | apply below_alloc | apply pw_below_drewN | apply below_drew1 | refine below_set ?_ GE271.out | refine below_set ?_ GE292.out) | exact HB.out))))
          have n9_ := Aside0.mk (blk_below (g := gb271) (o := .cells #[.slice A0_0 l0_0.length c0_0, .slice A0_1 l0_1.length c0_1, .slice A0_2 l0_2.length c0_2] 26 (0, 0)) (by (with_reducible repeat (first | refine blk_drewN ?_ _ | refine blk_drew ?_ | refine blk_alloc ?_ _)); exact BK271.out) hb)
          have n10_ := Aside0.mk (blk_below (g := gb292) (o := .cells #[.slice Ao30 t283.length co30, .slice Ao33 t286.length co33, .slice Ao34 t289.length co34] 31 (0, 0)) (by (with_reducible repeat (first | refine blk_drewN ?_ _ | refine blk_drew ?_ | refine blk_alloc ?_ _)); exact BK292.out) hb)
          have n11_ := Aside0.mk (below_step (by repeat (first | (with_reducible first | exact HB.out | apply below_alloc | apply pw_below_drewN | apply below_drew1 | refine below_set ?_ GE271.out | refine below_set ?_ GE292.out) | exact HB.out)) hb)
          clear HO275
          clear HO278
          clear HO281
          clear HO285
          clear HO288
          clear HO291
          clear BK271
          clear BK292
          clear HB
          have HO275 := n0_
          have HO278 := n1_
          have HO281 := n2_
          have HO285 := n3_
          have HO288 := n4_
          have HO291 := n5_
          have HO296 := n6_
          have HO299 := n7_
          have HO302 := n8_
          have BK271 := n9_
          have BK292 := n10_
          have HB := n11_
          clear n0_ n1_ n2_ n3_ n4_ n5_ n6_ n7_ n8_ n9_ n10_ n11_
          (try clear hb)
          (try clear hb2)
          (try clear hk)
          (try clear hi)
          (try clear ho0)
          (try clear ho1)
          (try clear ho2)
          obtain ⟨Ao38, co38, eo38⟩ := Kd.S_slice HO296.out
          (first | subst eo38 | (injection eo38 with f1_ f2_ f3_; have f4_ := f1_.symm; have f5_ := f3_.symm; clear f1_ f2_ f3_; subst f4_; subst f5_))
          obtain ⟨Ao39, co39, eo39⟩ := Kd.S_slice HO299.out
          (first | subst eo39 | (injection eo39 with f1_ f2_ f3_; have f4_ := f1_.symm; have f5_ := f3_.symm; clear f1_ f2_ f3_; subst f4_; subst f5_))
          obtain ⟨Ao40, co40, eo40⟩ := Kd.R_slice HO302.out
          (first | subst eo40 | (injection eo40 with f1_ f2_ f3_; have f4_ := f1_.symm; have f5_ := f3_.symm; clear f1_ f2_ f3_; subst f4_; subst f5_))
          refine hK.out _ _ ⟨(blk_cell BK292.out 0).trans rfl, (blk_cell BK292.out 1).trans rfl, (blk_cell BK292.out 2).trans rfl, (blk_cell BK271.out 0).trans rfl, (blk_cell BK271.out 1).trans rfl, (blk_cell BK271.out 2).trans rfl⟩ (fun hHeld => ?_)
          clear hK K
          refine norm_ (a' := ?_) ?_ ?_
          rotate_left
          · show Act.put _ (some 31) _ = _
            simp only [Act.put, List.setIfInBounds_toArray, List.set_cons_zero, List.set_cons_succ, i64_w, i32_w]
            rfl
          refine one_ (i := 3) (N := some 32) #[true, true, true, true, false] rfl rfl (by kernel_rfl) (by decide) (fun K hK => ?_)
          refine goes_ Try.func17 (by kernel_rfl) rfl #[.agg #[.slice Ao30 t283.length co30, .slice Ao33 t286.length co33, .slice Ao34 t289.length co34], .agg #[.slice Ao38 t294.length co38, .slice Ao39 t297.length co39, .slice Ao40 t300.length co40]] (by rfl) rfl rfl (by (try simp only [List.map_toArray, List.map_cons, List.map_nil]); first | done | rfl | (simp only [List.length_drop, List.length_take]; rfl)) ?_
          with_reducible refine (laws_eqDfa.calls k _ _ t283 _ _ t286 _ _ t289 _ _ t294 _ _ t297 _ _ t300 true _ ?side1 ?side2 ?side3 ?side4 ?side5 ?side6 ?side7 ?side8 ?side9 ?side10 ?side11 ?side12 A16.out).mono ?_
          (case side1 => repeat (first | exact (Kd.S_reads' HO285.out).2.2 | (with_reducible refine Kd.C_alloc ?_ _) | (with_reducible refine Kd.C_drewN ?_ _) | (with_reducible refine Kd.C_drew ?_)))
          (case side2 => exact (Kd.S_reads' HO285.out).2.1)
          (case side3 => repeat (first | exact (Kd.S_reads' HO288.out).2.2 | (with_reducible refine Kd.C_alloc ?_ _) | (with_reducible refine Kd.C_drewN ?_ _) | (with_reducible refine Kd.C_drew ?_)))
          (case side4 => exact (Kd.S_reads' HO288.out).2.1)
          (case side5 => repeat (first | exact (Kd.R_reads' HO291.out).2.2 | (with_reducible refine Kd.C_alloc ?_ _) | (with_reducible refine Kd.C_drewN ?_ _) | (with_reducible refine Kd.C_drew ?_)))
          (case side6 => exact (Kd.R_reads' HO291.out).2.1)
          (case side7 => repeat (first | exact (Kd.S_reads' HO296.out).2.2 | (with_reducible refine Kd.C_alloc ?_ _) | (with_reducible refine Kd.C_drewN ?_ _) | (with_reducible refine Kd.C_drew ?_)))
          (case side8 => exact (Kd.S_reads' HO296.out).2.1)
          (case side9 => repeat (first | exact (Kd.S_reads' HO299.out).2.2 | (with_reducible refine Kd.C_alloc ?_ _) | (with_reducible refine Kd.C_drewN ?_ _) | (with_reducible refine Kd.C_drew ?_)))
          (case side10 => exact (Kd.S_reads' HO299.out).2.1)
          (case side11 => repeat (first | exact (Kd.R_reads' HO302.out).2.2 | (with_reducible refine Kd.C_alloc ?_ _) | (with_reducible refine Kd.C_drewN ?_ _) | (with_reducible refine Kd.C_drew ?_)))
          (case side12 => exact (Kd.R_reads' HO302.out).2.1)
          rintro e w41 ⟨rfl, hb⟩
          refine ⟨_, rfl, ?_⟩
          have n0_ := Aside0.mk (Kd.S_below (by (with_reducible repeat (first | apply Kd.S_alloc | apply Kd.S_drewN | apply Kd.S_drew)); exact HO275.out) hb)
          have n1_ := Aside0.mk (Kd.S_below (by (with_reducible repeat (first | apply Kd.S_alloc | apply Kd.S_drewN | apply Kd.S_drew)); exact HO278.out) hb)
          have n2_ := Aside0.mk (Kd.R_below (by (with_reducible repeat (first | apply Kd.R_alloc | apply Kd.R_drewN | apply Kd.R_drew)); exact HO281.out) hb)
          have n3_ := Aside0.mk (Kd.S_below (by (with_reducible repeat (first | apply Kd.S_alloc | apply Kd.S_drewN | apply Kd.S_drew)); exact HO285.out) hb)
          have n4_ := Aside0.mk (Kd.S_below (by (with_reducible repeat (first | apply Kd.S_alloc | apply Kd.S_drewN | apply Kd.S_drew)); exact HO288.out) hb)
          have n5_ := Aside0.mk (Kd.R_below (by (with_reducible repeat (first | apply Kd.R_alloc | apply Kd.R_drewN | apply Kd.R_drew)); exact HO291.out) hb)
          have n6_ := Aside0.mk (Kd.S_below (by (with_reducible repeat (first | apply Kd.S_alloc | apply Kd.S_drewN | apply Kd.S_drew)); exact HO296.out) hb)
          have n7_ := Aside0.mk (Kd.S_below (by (with_reducible repeat (first | apply Kd.S_alloc | apply Kd.S_drewN | apply Kd.S_drew)); exact HO299.out) hb)
          have n8_ := Aside0.mk (Kd.R_below (by (with_reducible repeat (first | apply Kd.R_alloc | apply Kd.R_drewN | apply Kd.R_drew)); exact HO302.out) hb)
          have n9_ := Aside0.mk (blk_below (g := gb271) (o := .cells #[.slice A0_0 l0_0.length c0_0, .slice A0_1 l0_1.length c0_1, .slice A0_2 l0_2.length c0_2] 26 (0, 0)) (by (with_reducible repeat (first | refine blk_drewN ?_ _ | refine blk_drew ?_ | refine blk_alloc ?_ _)); exact BK271.out) hb)
          have n10_ := Aside0.mk (blk_below (g := gb292) (o := .cells #[.slice Ao30 t283.length co30, .slice Ao33 t286.length co33, .slice Ao34 t289.length co34] 31 (0, 0)) (by (with_reducible repeat (first | refine blk_drewN ?_ _ | refine blk_drew ?_ | refine blk_alloc ?_ _)); exact BK292.out) hb)
          have n11_ := Aside0.mk (below_step (by repeat (first | (with_reducible first | exact HB.out | apply below_alloc | apply pw_below_drewN | apply below_drew1 | refine below_set ?_ GE271.out | refine below_set ?_ GE292.out) | exact HB.out)) hb)
          clear HO275
          clear HO278
          clear HO281
          clear HO285
          clear HO288
          clear HO291
          clear HO296
          clear HO299
          clear HO302
          clear BK271
          clear BK292
          clear HB
          have HO275 := n0_
          have HO278 := n1_
          have HO281 := n2_
          have HO285 := n3_
          have HO288 := n4_
          have HO291 := n5_
          have HO296 := n6_
          have HO299 := n7_
          have HO302 := n8_
          have BK271 := n9_
          have BK292 := n10_
          have HB := n11_
          clear n0_ n1_ n2_ n3_ n4_ n5_ n6_ n7_ n8_ n9_ n10_ n11_
          (try clear hb)
          (try clear hb2)
          (try clear hk)
          (try clear hi)
          refine hK.out _ _ ⟨(blk_cell BK292.out 0).trans rfl, (blk_cell BK292.out 1).trans rfl, (blk_cell BK292.out 2).trans rfl, (blk_cell BK271.out 0).trans rfl, (blk_cell BK271.out 1).trans rfl, (blk_cell BK271.out 2).trans rfl⟩ (fun hHeld => ?_)
          clear hK K
          refine norm_ (a' := ?_) ?_ ?_
          rotate_left
          · show Act.put _ (some 32) _ = _
            simp only [Act.put, List.setIfInBounds_toArray, List.set_cons_zero, List.set_cons_succ, i64_w, i32_w]
            rfl
          refine pure_ (i := 4) (N := some 33) (v := ?_) (a' := ?_) #[true, true, true, true, true] rfl rfl (by kernel_rfl) (fun _ _ _ h => h) (Or.inl ⟨by rfl, ?_⟩) ?_ ?_
          rotate_left
          · intro w'
            go_simp
            with_reducible rfl
          rotate_left
          · simp only [Act.put, List.setIfInBounds_toArray, List.set_cons_zero, List.set_cons_succ, i64_w, i32_w]
            rfl
          refine done_ (by kernel_rfl) ?_
          try go_wp2
          go_ret
          exact ⟨by first | rfl | (simp [errW_none, errW_some] <;> rfl) | (simp [*, errW_none, errW_some] <;> rfl), by repeat (first | (with_reducible first | exact HB.out | apply below_alloc | apply pw_below_drewN | apply below_drew1 | refine below_set ?_ GE271.out | refine below_set ?_ GE292.out) | exact HB.out)⟩
        · replace c17 := Bool.eq_false_iff.mpr c17
          subst c17
          have H1 : (some false) = some r := by rw [if_neg (show ¬ (false = true) by decide)] at H; exact H
          clear H
          have H := H1
          clear H1
          exact absurd ((Option.some.inj H).trans HT.out) (by decide)
      · rw [if_neg c14] at H
        have c14b0 : (t293 == t282) = false := beq_eq_false_iff_ne.mpr c14
        have c14b1 : (t293 != t282) = true := bne_iff_ne.mpr c14
        exact absurd ((Option.some.inj H).trans HT.out) (by decide)
end Go.Proofs.Ytigmibfacllhmaa.P

set_option linter.unusedVariables false
set_option linter.unusedSimpArgs false
namespace Go.Proofs.Ytigmibfacllhmaa.Pure
open Go.RowKit Go.Proofs.Ytigmibfacllhmaa.P Go.Proofs.YtigmibfacllhmaaW.PrintWords Go.Proofs.YtigmibfacllhmaaW.PrintLast Go.Proofs.Ytigmibfacllhmaa.Rd
namespace FnExactDfaRun
def B146 (x : S146) : Prop := ((Lit.int .i64 x.f0).wf = true) ∧ ((Lit.int .i64 x.f1).wf = true)
theorem rd146 (n : Nat) : Rd Try.prog n 146 k146 B146 :=
  ((Rd.iso (d := (Kd.pair (Kd.int .i64) (Kd.int .i64))) (Rd.struct Try.underlying146 rfl (by kernel_rfl) (Fs.cons (Rd.int _ Try.underlying3) rfl (by kernel_rfl) (Fs.one (Rd.int _ Try.underlying3) rfl (by kernel_rfl)))) (fun x : S146 => (x.f0, x.f1)) (fun p => ⟨p.1, p.2⟩) (fun _ => rfl)).le (Nat.le_succ n)).imp (fun _ hx => hx)
def Said : Prop := ∀ (l0_0 : (List (List S146))) (l0_1 : (List (List Int))) (l0_2 : (List Int)) (a1 : ByteArray), (l0_0.length * 24 ≤ reachBytes ∧ ∀ y4 ∈ l0_0, (y4.length * 16 ≤ reachBytes ∧ ∀ y2 ∈ y4, B146 y2)) → (l0_1.length * 24 ≤ reachBytes ∧ ∀ y4 ∈ l0_1, (y4.length * 8 ≤ reachBytes ∧ ∀ y2 ∈ y4, (Lit.int .i64 y2).wf = true)) → (l0_2.length * 8 ≤ reachBytes ∧ ∀ y4 ∈ l0_2, (Lit.int .i64 y4).wf = true) → a1.size ≤ reachBytes → ∃ k, laws_FnExactDfaRun.f k l0_0 l0_1 l0_2 a1 = some true
end FnExactDfaRun
end Go.Proofs.Ytigmibfacllhmaa.Pure

set_option linter.unusedVariables false
set_option linter.unusedSimpArgs false
namespace Go.Proofs.Ytigmibfacllhmaa.P
open Go.Proofs.YtigmibfacllhmaaW.PrintWords Go.RowKit
noncomputable def yes (p : Prop) : Bool := @decide p (Classical.propDecidable p)
theorem yes_pos {p : Prop} (h : p) : yes p = true := by unfold yes; exact @decide_eq_true p (Classical.propDecidable p) h
theorem yes_neg {p : Prop} (h : ¬ p) : yes p = false := by unfold yes; exact @decide_eq_false p (Classical.propDecidable p) h
theorem yes_iff {p : Prop} : yes p = true ↔ p := by
  constructor
  · intro h
    by_cases hp : p
    · exact hp
    · rw [yes_neg hp] at h; cases h
  · exact yes_pos
theorem yes_congr {p q : Prop} (h : p ↔ q) : yes p = yes q := by rw [propext h]
end Go.Proofs.Ytigmibfacllhmaa.P
namespace Go.Proofs.YtigmibfacllhmaaW.PrintWords
theorem Ev.succ {α : Type} {g : Nat → Option α} {r : α} (h : Ev (fun k => g (k + 1)) r) : Ev g r := by
  obtain ⟨K, hK⟩ := h
  refine ⟨K + 1, fun k hk => ?_⟩
  obtain ⟨m, rfl⟩ : ∃ m, k = m + 1 := ⟨k - 1, by omega⟩
  exact hK m (by omega)
theorem Ev.late {α : Type} {g f : Nat → Option α} {r : α} (h : ∃ K, ∀ k, K ≤ k → g (k + 1) = f k) (k : Ev f r) : Ev g r := by
  obtain ⟨K, hK⟩ := h
  obtain ⟨K', hK'⟩ := k
  refine ⟨max K K' + 1, fun k hk => ?_⟩
  obtain ⟨m, rfl⟩ : ∃ m, k = m + 1 := ⟨k - 1, by omega⟩
  rw [hK m (by omega), hK' m (by omega)]
theorem Ev.eqs {α : Type} {g : Nat → Option α} {r q : α} (h : Ev g r) (e : r = q) : Ev g q := e ▸ h
theorem Ev.ofEq {α : Type} {g : Nat → Option α} {r : α} (h : ∀ k, g k = some r) : Ev g r := ⟨0, fun k _ => h k⟩
theorem Ev.ofSucc {α : Type} {g : Nat → Option α} {r : α} (h : ∀ k, g (k + 1) = some r) : Ev g r := Ev.succ (Ev.ofEq h)
theorem Ev.one {α : Type} {g : Nat → Option α} {r q : α} (h : Ev g r) (k : Ev g q) : r = q := by
  obtain ⟨K, hK⟩ := h
  obtain ⟨K', hK'⟩ := k
  have h1 := hK (max K K') (by omega)
  rw [hK' _ (by omega)] at h1
  exact (Option.some.inj h1).symm
theorem Ev.first {α β : Type} {g : Nat → Option α} {f : Nat → α → Option β} {a : α} {r : β} (h : Ev g a) (k : Ev (fun n => f n a) r) : Ev (fun n => (g n).bind (f n)) r := Ev.bind h k
end Go.Proofs.YtigmibfacllhmaaW.PrintWords
namespace Go.Proofs.Ytigmibfacllhmaa.P
open Go.Proofs.YtigmibfacllhmaaW.PrintWords Go.RowKit
theorem wrap_nat {i : Nat} (h : i < 9000000000000000000) : wrap64 ((i : Int) + 1) = ((i + 1 : Nat) : Int) := by unfold wrap64; omega
theorem wrap_id {i : Int} (h0 : -9000000000000000000 ≤ i) (h : i < 9000000000000000000) : wrap64 i = i := by unfold wrap64; omega
theorem all2_ev {α : Type} (L : Nat → Int → Option Bool) (xs ys : List α) (hl : xs.length = ys.length)
    (hend : ∀ k, L (k + 1) (xs.length : Int) = some true)
    (hstep : ∀ (i : Nat) (h : i < xs.length) (h' : i < ys.length), ∃ K, ∀ k, K ≤ k → (xs[i] = ys[i] → L (k + 1) (i : Int) = L k ((i + 1 : Nat) : Int)) ∧ (xs[i] ≠ ys[i] → L (k + 1) (i : Int) = some false)) :
    Ev (fun k => L k 0) (yes (xs = ys)) := by
  have key : ∀ d i : Nat, i + d = xs.length → Ev (fun k => L k (i : Int)) (yes (xs.drop i = ys.drop i)) := by
    intro d
    induction d with
    | zero =>
      intro i hi
      have h0 : i = xs.length := by omega
      subst h0
      rw [yes_pos (by rw [List.drop_of_length_le (Nat.le_refl _), List.drop_of_length_le (by omega)])]
      exact Ev.ofSucc (g := fun k => L k (xs.length : Int)) hend
    | succ d ih =>
      intro i hi
      have h1 : i < xs.length := by omega
      have h2 : i < ys.length := by omega
      obtain ⟨K, hK⟩ := hstep i h1 h2
      rw [List.drop_eq_getElem_cons h1, List.drop_eq_getElem_cons h2]
      by_cases he : xs[i] = ys[i]
      · refine (Ev.late (g := fun k => L k (i : Int)) ⟨K, fun k hk => (hK k hk).1 he⟩ (ih (i + 1) (by omega))).eqs (yes_congr ?_)
        rw [List.cons_eq_cons]
        exact ⟨fun h => ⟨he, h⟩, fun h => h.2⟩
      · refine (Ev.late (g := fun k => L k (i : Int)) (f := fun _ => some false) ⟨K, fun k hk => (hK k hk).2 he⟩ (Ev.now false)).eqs (yes_neg ?_).symm
        rw [List.cons_eq_cons]
        exact fun h => he h.1
  exact (key xs.length 0 (by omega)).eqs (by simp)
theorem fill_ev {α β : Type} (L : Nat → List β → Int → Option (List β)) (xs : List α) (f : α → β)
    (hend : ∀ k r, r.length = xs.length → L (k + 1) r (xs.length : Int) = some r)
    (hstep : ∀ (i : Nat) (h : i < xs.length), ∃ K, ∀ k r, K ≤ k → r.length = xs.length → L (k + 1) r (i : Int) = L k (r.set i (f xs[i])) ((i + 1 : Nat) : Int))
    (r0 : List β) (h0 : r0.length = xs.length) : Ev (fun k => L k r0 0) (xs.map f) := by
  have key : ∀ d i : Nat, i + d = xs.length → ∀ r : List β, r.length = xs.length → (∀ j (h : j < xs.length), j < i → r[j]? = some (f xs[j])) → Ev (fun k => L k r (i : Int)) (xs.map f) := by
    intro d
    induction d with
    | zero =>
      intro i hi r hr hj
      have h0 : i = xs.length := by omega
      subst h0
      refine (Ev.ofSucc (g := fun k => L k r (xs.length : Int)) (fun k => hend k r hr)).eqs ?_
      apply List.ext_getElem?
      intro j
      rcases Nat.lt_or_ge j xs.length with h | h
      · rw [hj j h h]; simp [List.getElem?_eq_getElem h]
      · rw [List.getElem?_eq_none (by omega), List.getElem?_eq_none (by simpa using h)]
    | succ d ih =>
      intro i hi r hr hj
      have h1 : i < xs.length := by omega
      obtain ⟨K, hK⟩ := hstep i h1
      refine Ev.late (g := fun k => L k r (i : Int)) ⟨K, fun k hk => hK k r hk hr⟩ (ih (i + 1) (by omega) _ (by simpa using hr) (fun j h hlt => ?_))
      rcases Nat.lt_or_ge j i with h2 | h2
      · rw [List.getElem?_set_ne (by omega)]; exact hj j h h2
      · have : j = i := by omega
        subst this
        rw [List.getElem?_set_self (by omega)]
  exact key xs.length 0 (by omega) r0 h0 (fun j _ h => by omega)
theorem all_ev (L : Nat → Int → Option Bool) (n : Nat) (Q : Nat → Prop) (hend : ∀ k, L (k + 1) (n : Int) = some true)
    (hstep : ∀ (i : Nat), i < n → ∃ K, ∀ k, K ≤ k → (Q i → L (k + 1) (i : Int) = L k ((i + 1 : Nat) : Int)) ∧ (¬ Q i → L (k + 1) (i : Int) = some false)) :
    Ev (fun k => L k 0) (yes (∀ i, i < n → Q i)) := by
  have key : ∀ d i : Nat, i + d = n → Ev (fun k => L k (i : Int)) (yes (∀ j, i ≤ j → j < n → Q j)) := by
    intro d
    induction d with
    | zero =>
      intro i hi
      have h0 : i = n := by omega
      subst h0
      rw [yes_pos (fun j h1 h2 => by omega)]
      exact Ev.ofSucc (g := fun k => L k (i : Int)) hend
    | succ d ih =>
      intro i hi
      have h1 : i < n := by omega
      obtain ⟨K, hK⟩ := hstep i h1
      by_cases he : Q i
      · refine (Ev.late (g := fun k => L k (i : Int)) ⟨K, fun k hk => (hK k hk).1 he⟩ (ih (i + 1) (by omega))).eqs (yes_congr ?_)
        constructor
        · intro h j hj hn
          rcases Nat.lt_or_ge i j with h2 | h2
          · exact h j (by omega) hn
          · have : j = i := by omega
            subst this; exact he
        · exact fun h j hj hn => h j (by omega) hn
      · refine (Ev.late (g := fun k => L k (i : Int)) (f := fun _ => some false) ⟨K, fun k hk => (hK k hk).2 he⟩ (Ev.now false)).eqs (yes_neg fun h => he (h i (Nat.le_refl _) h1)).symm
  exact (key n 0 (by omega)).eqs (yes_congr ⟨fun h i hi => h i (Nat.zero_le _) hi, fun h j _ hj => h j hj⟩)
theorem walk_ex {σ β : Type} (L : Nat → σ → Int → Option β) (n : Nat) (hend : ∀ s, ∃ r, Ev (fun k => L k s (n : Int)) r)
    (hstep : ∀ (i : Nat), i < n → ∀ s : σ, (∃ r, Ev (fun k => L k s (i : Int)) r) ∨ ∃ s' K, ∀ k, K ≤ k → L (k + 1) s (i : Int) = L k s' ((i + 1 : Nat) : Int))
    (s : σ) : ∃ r, Ev (fun k => L k s 0) r := by
  have key : ∀ d i : Nat, i + d = n → ∀ s, ∃ r, Ev (fun k => L k s (i : Int)) r := by
    intro d
    induction d with
    | zero =>
      intro i hi s
      have h0 : i = n := by omega
      subst h0
      exact hend s
    | succ d ih =>
      intro i hi s
      rcases hstep i (by omega) s with h | ⟨s', hs⟩
      · exact h
      · obtain ⟨r, hr⟩ := ih (i + 1) (by omega) s'
        exact ⟨r, Ev.late (g := fun k => L k s (i : Int)) hs hr⟩
  exact key n 0 (by omega) s
theorem getD_at {α : Type} {xs : List α} {z : α} {i : Nat} (h : i < xs.length) : xs.getD (i : Int).toNat z = xs[i] := by
  simp [List.getD_eq_getElem?_getD, List.getElem?_eq_getElem h]
theorem run_ev2 {σ γ : Type} (L : Nat → σ → Int → Option γ) (n : Nat) (s : Nat → σ) (fin : γ)
    (hend : Ev (fun k => L k (s n) (n : Int)) fin)
    (hstep : ∀ (i : Nat), i < n → ∃ K, ∀ k, K ≤ k → L (k + 1) (s i) (i : Int) = L k (s (i + 1)) ((i + 1 : Nat) : Int)) : Ev (fun k => L k (s 0) 0) fin := by
  have key : ∀ d i : Nat, i + d = n → Ev (fun k => L k (s i) (i : Int)) fin := by
    intro d
    induction d with
    | zero =>
      intro i hi
      have h0 : i = n := by omega
      subst h0
      exact hend
    | succ d ih =>
      intro i hi
      exact Ev.late (g := fun k => L k (s i) (i : Int)) (hstep i (by omega)) (ih (i + 1) (by omega))
  exact key n 0 (by omega)
theorem scan_ev {β : Type} (L : Nat → Int → Option β) (n : Nat) (P : Nat → Prop) (rh : β) (hhit : ∀ j, j < n → P j → Ev (fun k => L k (j : Int)) rh)
    (hmiss : ∀ j, j < n → ¬ P j → ∃ K, ∀ k, K ≤ k → L (k + 1) (j : Int) = L k ((j + 1 : Nat) : Int)) :
    ((∃ j, j < n ∧ P j) → Ev (fun k => L k 0) rh) ∧ ((∀ j, j < n → ¬ P j) → ∀ r, Ev (fun k => L k (n : Int)) r → Ev (fun k => L k 0) r) := by
  constructor
  · have key : ∀ d j : Nat, j + d = n → (∃ j', j ≤ j' ∧ j' < n ∧ P j') → Ev (fun k => L k (j : Int)) rh := by
      intro d
      induction d with
      | zero => intro j hj ⟨j', h1, h2, _⟩; omega
      | succ d ih =>
        intro j hj ⟨j', h1, h2, h3⟩
        by_cases hp : P j
        · exact hhit j (by omega) hp
        · refine Ev.late (g := fun k => L k (j : Int)) (hmiss j (by omega) hp) (ih (j + 1) (by omega) ⟨j', ?_, h2, h3⟩)
          rcases Nat.lt_or_ge j j' with h | h
          · omega
          · have : j' = j := by omega
            subst this; exact absurd h3 hp
    exact fun ⟨j, h1, h2⟩ => key n 0 (by omega) ⟨j, Nat.zero_le _, h1, h2⟩
  · intro hno r hr
    have key : ∀ d j : Nat, j + d = n → Ev (fun k => L k (j : Int)) r := by
      intro d
      induction d with
      | zero =>
        intro j hj
        have : j = n := by omega
        subst this; exact hr
      | succ d ih => exact fun j hj => Ev.late (g := fun k => L k (j : Int)) (hmiss j (by omega) (hno j (by omega))) (ih (j + 1) (by omega))
    exact key n 0 (by omega)
end Go.Proofs.Ytigmibfacllhmaa.P

set_option linter.unusedVariables false
set_option linter.unusedSimpArgs false
namespace Go.Proofs.Ytigmibfacllhmaa.P
open Go.Proofs.YtigmibfacllhmaaW.PrintWords Go.RowKit
abbrev spanAt (s : List S117) (i : Int) : S117 := rd_T117 s i
def SetQ (s : List S117) (i : Nat) : Prop :=
  0 ≤ (spanAt s i).f0 ∧ (spanAt s i).f0 ≤ (spanAt s i).f1 ∧ (spanAt s i).f1 ≤ 255 ∧ (0 < i → wrap64 ((spanAt s ((i : Int) - 1)).f1 + 1) < (spanAt s i).f0)
def SetP (s : List S117) : Prop := ∀ i, i < s.length → SetQ s i
theorem impl_SetOk_ev (s : List S117) (hn : s.length * 16 ≤ 140737488351232) : Ev (fun k => impl_SetOk.f k s) (yes (SetP s)) := by
  unfold impl_SetOk.f
  refine all_ev (fun k i => impl_SetOk.l0 k s s (s.length : Int) i) s.length (SetQ s) (fun k => ?_) (fun i hi => ⟨0, fun k _ => ?_⟩)
  · show impl_SetOk.l0 (k + 1) s s (s.length : Int) _ = _
    simp only [impl_SetOk.l0]; rw [if_neg (by omega)]
  · show (_ → impl_SetOk.l0 (k + 1) s s (s.length : Int) _ = impl_SetOk.l0 k s s (s.length : Int) _) ∧ (_ → impl_SetOk.l0 (k + 1) s s (s.length : Int) _ = _)
    have hw : 0 < i → wrap64 ((i : Int) - 1) = (i : Int) - 1 := fun h => by unfold wrap64; omega
    simp only [impl_SetOk.l0]
    rw [if_pos (by omega), if_pos (by omega), if_pos (by omega), wrap_nat (by omega)]
    unfold SetQ spanAt
    generalize hx : rd_T117 s (i : Int) = x
    by_cases c1 : x.f0 < 0
    · rw [if_pos c1]; exact ⟨fun h => by omega, fun _ => rfl⟩
    rw [if_neg c1]
    by_cases c2 : x.f1 < x.f0
    · rw [if_pos c2]; exact ⟨fun h => by omega, fun _ => rfl⟩
    rw [if_neg c2]
    by_cases c3 : x.f1 > 255
    · rw [if_pos c3]; exact ⟨fun h => by omega, fun _ => rfl⟩
    rw [if_neg c3]
    by_cases c4 : (i : Int) > 0
    · rw [if_pos c4, hw (by omega), if_pos (by omega), if_pos (by omega)]
      by_cases c5 : x.f0 ≤ wrap64 ((rd_T117 s ((i : Int) - 1)).f1 + 1)
      · rw [if_pos c5]; exact ⟨fun h => by have := h.2.2.2 (by omega); omega, fun _ => rfl⟩
      · rw [if_neg c5]; exact ⟨fun _ => rfl, fun h => absurd ⟨by omega, by omega, by omega, fun _ => by omega⟩ h⟩
    · rw [if_neg c4]; exact ⟨fun _ => rfl, fun h => absurd ⟨by omega, by omega, by omega, fun h => by omega⟩ h⟩
theorem spec_SetOk_ev (s : List S117) (hn : s.length * 16 ≤ 140737488351232) : Ev (fun k => spec_SetOk.f k s) (yes (SetP s)) := by
  unfold spec_SetOk.f
  refine all_ev (fun k i => spec_SetOk.l0 k s i) s.length (SetQ s) (fun k => ?_) (fun i hi => ⟨0, fun k _ => ?_⟩)
  · show spec_SetOk.l0 (k + 1) s _ = _
    simp only [spec_SetOk.l0]; rw [if_neg (by omega)]
  · show (_ → spec_SetOk.l0 (k + 1) s _ = spec_SetOk.l0 k s _) ∧ (_ → spec_SetOk.l0 (k + 1) s _ = _)
    have hw : 0 < i → wrap64 ((i : Int) - 1) = (i : Int) - 1 := fun h => by unfold wrap64; omega
    simp only [spec_SetOk.l0]
    rw [if_pos (by omega), if_pos (by omega), wrap_nat (by omega)]
    unfold SetQ spanAt
    generalize hx : rd_T117 s (i : Int) = x
    by_cases c1 : x.f0 < 0
    · rw [if_pos c1]; exact ⟨fun h => by omega, fun _ => rfl⟩
    rw [if_neg c1]
    by_cases c2 : x.f1 > 255
    · rw [if_pos c2]; exact ⟨fun h => by omega, fun _ => rfl⟩
    rw [if_neg c2]
    by_cases c3 : x.f0 > x.f1
    · rw [if_pos c3]; exact ⟨fun h => by omega, fun _ => rfl⟩
    rw [if_neg c3]
    by_cases c4 : (i : Int) > 0
    · rw [if_pos c4, hw (by omega), if_pos (by omega), if_pos (by omega)]
      by_cases c5 : x.f0 ≤ wrap64 ((rd_T117 s ((i : Int) - 1)).f1 + 1)
      · rw [if_pos c5]; exact ⟨fun h => by have := h.2.2.2 (by omega); omega, fun _ => rfl⟩
      · rw [if_neg c5]; exact ⟨fun _ => rfl, fun h => absurd ⟨by omega, by omega, by omega, fun _ => by omega⟩ h⟩
    · rw [if_neg c4]; exact ⟨fun _ => rfl, fun h => absurd ⟨by omega, by omega, by omega, fun h => by omega⟩ h⟩
end Go.Proofs.Ytigmibfacllhmaa.P

set_option linter.unusedVariables false
set_option linter.unusedSimpArgs false
namespace Go.Proofs.Ytigmibfacllhmaa.P
open Go.Proofs.YtigmibfacllhmaaW.PrintWords Go.RowKit Go.Proofs.Ytigmibfacllhmaa.Arr
theorem loop_ev {σ β : Type} (L : Nat → σ → Int → Option β) (n : Nat) (s : Nat → σ) (Q : Nat → Prop) (rf : β)
    (hstep : ∀ i, i < n → (∀ j, j < i → Q j) → (Q i → ∀ r, Ev (fun k => L k (s (i + 1)) ((i + 1 : Nat) : Int)) r → Ev (fun k => L k (s i) (i : Int)) r) ∧ (¬ Q i → Ev (fun k => L k (s i) (i : Int)) rf)) :
    ((∀ j, j < n → Q j) → ∀ r, Ev (fun k => L k (s n) (n : Int)) r → Ev (fun k => L k (s 0) 0) r) ∧ ((∃ j, j < n ∧ ¬ Q j) → Ev (fun k => L k (s 0) 0) rf) := by
  constructor
  · intro hq r hr
    have key : ∀ d i : Nat, i + d = n → Ev (fun k => L k (s i) (i : Int)) r := by
      intro d
      induction d with
      | zero => intro i hi; have h0 : i = n := by omega
                subst h0; exact hr
      | succ d ih => exact fun i hi => (hstep i (by omega) (fun j hj => hq j (by omega))).1 (hq i (by omega)) r (ih (i + 1) (by omega))
    exact key n 0 (by omega)
  · rintro ⟨j, hj, hn⟩
    have key : ∀ d i : Nat, i + d = n → (∀ j, j < i → Q j) → (∃ j, i ≤ j ∧ j < n ∧ ¬ Q j) → Ev (fun k => L k (s i) (i : Int)) rf := by
      intro d
      induction d with
      | zero => intro i hi _ ⟨j, h1, h2, _⟩; omega
      | succ d ih =>
        intro i hi hb ⟨j, h1, h2, h3⟩
        by_cases hQ : Q i
        · refine (hstep i (by omega) hb).1 hQ rf (ih (i + 1) (by omega) (fun j' hj' => ?_) ⟨j, ?_, h2, h3⟩)
          · rcases Nat.lt_or_ge j' i with h | h
            · exact hb j' h
            · have : j' = i := by omega
              subst this; exact hQ
          · rcases Nat.lt_or_ge i j with h | h
            · omega
            · have : j = i := by omega
              subst this; exact absurd hQ h3
        · exact (hstep i (by omega) hb).2 hQ
    exact key n 0 (by omega) (fun j h => by omega) ⟨j, Nat.zero_le _, hj, hn⟩
def covers (x : S117) (b : Int) : Prop := x.f0 ≤ b ∧ b ≤ x.f1
def HasP (s : List S117) (b : Int) : Prop := ∃ j, j < s.length ∧ covers (spanAt s (j : Int)) b
noncomputable def hasB (s : List S117) (b : Int) : Bool := yes (HasP s b)
theorem spec_SetHas_ev (s : List S117) (hn : s.length * 16 ≤ 140737488351232) (b : Int) : Ev (fun k => spec_SetHas.f k s b) (hasB s b) := by
  unfold spec_SetHas.f
  have key := scan_ev (fun k i => spec_SetHas.l0 k s b i) s.length (fun j => covers (spanAt s (j : Int)) b) true
    (fun j hj hp => Ev.ofSucc (g := fun k => spec_SetHas.l0 k s b (j : Int)) (fun k => by
      simp only [spec_SetHas.l0]
      rw [if_pos (by omega), if_pos (by omega), if_pos hp.1, if_pos hp.2]))
    (fun j hj hp => ⟨0, fun k _ => by
      simp only [spec_SetHas.l0]
      rw [if_pos (by omega), if_pos (by omega), wrap_nat (by omega)]
      by_cases c : b ≥ (rd_T117 s (j : Int)).f0
      · rw [if_pos c]
        rw [if_neg (fun h => hp ⟨c, h⟩)]
      · rw [if_neg c]⟩)
  by_cases h : HasP s b
  · unfold hasB; rw [yes_pos h]; exact key.1 h
  · unfold hasB; rw [yes_neg h]
    exact key.2 (fun j hj hp => h ⟨j, hj, hp⟩) false (Ev.ofSucc (g := fun k => spec_SetHas.l0 k s b _) (fun k => by simp only [spec_SetHas.l0]; rw [if_neg (by omega)]))
theorem impl_SetHas_ev (s : List S117) (hn : s.length * 16 ≤ 140737488351232) (b : Int) : Ev (fun k => impl_SetHas.f k s b) (hasB s b) := by
  unfold impl_SetHas.f
  have key := scan_ev (fun k i => impl_SetHas.l0 k b s (s.length : Int) i) s.length (fun j => covers (spanAt s (j : Int)) b) true
    (fun j hj hp => Ev.ofSucc (g := fun k => impl_SetHas.l0 k b s (s.length : Int) (j : Int)) (fun k => by
      simp only [impl_SetHas.l0, impl_in.f]
      rw [if_pos (by omega), if_pos (by omega), if_pos (by omega), if_pos hp.1, Option.bind_some, decide_eq_true hp.2, if_pos rfl]))
    (fun j hj hp => ⟨0, fun k _ => by
      simp only [impl_SetHas.l0, impl_in.f]
      rw [if_pos (by omega), if_pos (by omega), if_pos (by omega), wrap_nat (by omega)]
      by_cases c : b ≥ (rd_T117 s (j : Int)).f0
      · rw [if_pos c, Option.bind_some, decide_eq_false (fun h => hp ⟨c, h⟩), if_neg (by simp)]
      · rw [if_neg c, Option.bind_some, if_neg (by simp)]⟩)
  by_cases h : HasP s b
  · unfold hasB; rw [yes_pos h]; exact key.1 h
  · unfold hasB; rw [yes_neg h]
    exact key.2 (fun j hj hp => h ⟨j, hj, hp⟩) false (Ev.ofSucc (g := fun k => impl_SetHas.l0 k b s (s.length : Int) _) (fun k => by simp only [impl_SetHas.l0]; rw [if_neg (by omega)]))
noncomputable def bitsL (s : List S117) : List Bool := (List.range 256).map fun i : Nat => hasB s (i : Int)
theorem impl_bitsOf_ev (s : List S117) (hn : s.length * 16 ≤ 140737488351232) : Ev (fun k => impl_bitsOf.f k s) (bitsL s) := by
  unfold impl_bitsOf.f
  refine fill_ev (fun k r i => impl_bitsOf.l0 k s r i) (List.range 256) (fun i : Nat => hasB s (i : Int)) (fun k r hr => ?_) (fun i h => ?_) _ (by rw [List.length_replicate, List.length_range])
  · show impl_bitsOf.l0 (k + 1) s r _ = _
    simp only [impl_bitsOf.l0, List.length_range]
    rw [if_neg (by omega)]
  · rw [List.length_range] at h
    obtain ⟨K, hK⟩ := impl_SetHas_ev s hn (i : Int)
    dsimp only at hK
    refine ⟨K, fun k r hk hr => ?_⟩
    rw [List.length_range] at hr
    show impl_bitsOf.l0 (k + 1) s r _ = impl_bitsOf.l0 k s _ _
    simp only [impl_bitsOf.l0]
    rw [if_pos (by omega), if_pos (by omega), hK k hk, Option.bind_some, wrap_nat (by omega)]
    congr 1
    unfold setB
    rw [padB_self _ _ hr, Int.toNat_natCast, List.getElem_range]
theorem getB_map (f : Nat → Bool) (i : Nat) (h : i < 256) : getB ((List.range 256).map f) (i : Int) = f i := by
  unfold getB
  rw [getD_at (by simpa using h)]
  simp
theorem getB_bitsL (s : List S117) (i : Nat) (h : i < 256) : getB (bitsL s) (i : Int) = hasB s (i : Int) := getB_map _ i h
def cnt (f : Nat → Bool) : Nat → Nat
  | 0 => 0
  | n + 1 => cnt f n + (if f n = true then 1 else 0)
theorem cnt_le (f : Nat → Bool) : ∀ n, cnt f n ≤ n
  | 0 => Nat.le_refl _
  | n + 1 => by
    have := cnt_le f n
    unfold cnt
    split <;> omega
theorem cnt_or (f g : Nat → Bool) : ∀ n, (∀ b, b < n → ¬ (f b = true ∧ g b = true)) → cnt (fun b => f b || g b) n = cnt f n + cnt g n
  | 0, _ => rfl
  | n + 1, h => by
    have ih := cnt_or f g n (fun b hb => h b (by omega))
    have hh := h n (by omega)
    unfold cnt
    rw [ih]
    cases hf : f n <;> cases hg : g n <;> simp_all <;> omega
theorem spec_SetSize_ev (s : List S117) (hn : s.length * 16 ≤ 140737488351232) : Ev (fun k => spec_SetSize.f k s) ((cnt (fun b : Nat => hasB s (b : Int)) 256 : Nat) : Int) := by
  unfold spec_SetSize.f
  refine run_ev2 (fun k (m : Int) i => spec_SetSize.l0 k s m i) 256 (fun i => ((cnt (fun b : Nat => hasB s (b : Int)) i : Nat) : Int)) _ ?_ (fun i hi => ?_)
  · exact Ev.ofSucc (g := fun k => spec_SetSize.l0 k s _ _) (fun k => by simp only [spec_SetSize.l0]; rw [if_neg (by omega)])
  · obtain ⟨K, hK⟩ := spec_SetHas_ev s hn (i : Int)
    dsimp only at hK
    refine ⟨K, fun k hk => ?_⟩
    show spec_SetSize.l0 (k + 1) s _ _ = spec_SetSize.l0 k s _ _
    have hc := cnt_le (fun b : Nat => hasB s (b : Int)) i
    simp only [spec_SetSize.l0]
    rw [if_pos (by omega), hK k hk, Option.bind_some, wrap_nat (by omega), wrap_nat (by omega)]
    show _ = spec_SetSize.l0 k s ((cnt (fun b : Nat => hasB s (b : Int)) i + (if hasB s (i : Int) = true then 1 else 0) : Nat) : Int) _
    by_cases c : hasB s (i : Int) = true
    · rw [if_pos c, if_pos c]
    · rw [if_neg c, if_neg c]; rfl
theorem SetP.mono {s : List S117} (h : SetP s) : ∀ i, i < s.length → (spanAt s 0).f0 ≤ (spanAt s (i : Int)).f0
  | 0, _ => Int.le_refl _
  | i + 1, hi => by
    have ih := SetP.mono h i (by omega)
    obtain ⟨h1, h2, h3, _⟩ := h i (by omega)
    obtain ⟨_, _, _, h4⟩ := h (i + 1) hi
    have h5 := h4 (by omega)
    have he : (((i + 1 : Nat) : Int) - 1) = (i : Int) := by omega
    rw [he, wrap_id (by omega) (by omega)] at h5
    omega
theorem SetP.range {s : List S117} (h : SetP s) {b : Int} (hb : HasP s b) : 0 ≤ b ∧ b < 256 := by
  obtain ⟨j, hj, h1, h2⟩ := hb
  obtain ⟨h3, _, h4, _⟩ := h j hj
  exact ⟨by omega, by omega⟩
theorem spec_SetFirst_ev {s : List S117} (hn : s.length * 16 ≤ 140737488351232) (h : SetP s) (h0 : s.length ≠ 0) : Ev (fun k => spec_SetFirst.f k s) (spanAt s 0).f0 := by
  unfold spec_SetFirst.f
  obtain ⟨q1, q2, q3, _⟩ := h 0 (by omega)
  have q1' : 0 ≤ (spanAt s 0).f0 := q1
  have q2' : (spanAt s 0).f0 ≤ (spanAt s 0).f1 := q2
  have q3' : (spanAt s 0).f1 ≤ 255 := q3
  obtain ⟨m, hm⟩ : ∃ m : Nat, (spanAt s 0).f0 = (m : Int) := ⟨(spanAt s 0).f0.toNat, by omega⟩
  have hat : HasP s (m : Int) := ⟨0, by omega, by show (spanAt s 0).f0 ≤ _; omega, by show _ ≤ (spanAt s 0).f1; omega⟩
  refine (scan_ev (fun k i => spec_SetFirst.l0 k s i) (m + 1) (fun j => j = m) (spanAt s 0).f0 (fun j hj hp => ?_) (fun j hj hp => ?_)).1 ⟨m, by omega, rfl⟩
  · subst hp
    obtain ⟨K, hK⟩ := spec_SetHas_ev s hn (j : Int)
    dsimp only at hK
    refine Ev.succ (g := fun k => spec_SetFirst.l0 k s (j : Int)) ⟨K, fun k hk => ?_⟩
    simp only [spec_SetFirst.l0]
    rw [if_pos (by omega), hK k hk, Option.bind_some]
    unfold hasB
    rw [yes_pos hat, if_pos rfl, hm]
  · obtain ⟨K, hK⟩ := spec_SetHas_ev s hn (j : Int)
    dsimp only at hK
    refine ⟨K, fun k hk => ?_⟩
    simp only [spec_SetFirst.l0]
    rw [if_pos (by omega), hK k hk, Option.bind_some, wrap_nat (by omega)]
    unfold hasB
    rw [yes_neg (fun ⟨i, hi, h1, _⟩ => by have := h.mono i hi; omega), if_neg (by simp)]
theorem spec_l1Of_ne (x : List Bool) (hx : x.length = 256) : ∃ r, Ev (fun k => spec_l1Of.f k x) r ∧ (r ≠ [] ↔ ∃ i, i < 256 ∧ x.getD i false = true) := by
  unfold spec_l1Of.f
  have key : ∀ d i : Nat, i + d = 256 → ∀ y : List S117, y.length ≤ i → ∃ r, Ev (fun k => spec_l1Of.l0 k x y (i : Int)) r ∧ (r ≠ [] ↔ (y ≠ [] ∨ ∃ j, i ≤ j ∧ j < 256 ∧ x.getD j false = true)) := by
    intro d
    induction d with
    | zero =>
      intro i hi y _
      refine ⟨y, Ev.ofSucc (g := fun k => spec_l1Of.l0 k x y _) (fun k => by simp only [spec_l1Of.l0]; rw [if_neg (by omega)]), ?_⟩
      constructor
      · exact fun h => .inl h
      · rintro (h | ⟨j, h1, h2, _⟩)
        · exact h
        · omega
    | succ d ih =>
      intro i hi y hy
      by_cases c : x.getD i false = true
      · have go : ∀ y' : List S117, y'.length ≤ i + 1 → y' ≠ [] → (∀ k, spec_l1Of.l0 (k + 1) x y (i : Int) = spec_l1Of.l0 k x y' ((i + 1 : Nat) : Int)) → ∃ r, Ev (fun k => spec_l1Of.l0 k x y (i : Int)) r ∧ (r ≠ [] ↔ (y ≠ [] ∨ ∃ j, i ≤ j ∧ j < 256 ∧ x.getD j false = true)) := by
          intro y' hl hne he
          obtain ⟨r, hr, hi2⟩ := ih (i + 1) (by omega) y' hl
          exact ⟨r, Ev.late (g := fun k => spec_l1Of.l0 k x y (i : Int)) ⟨0, fun k _ => he k⟩ hr, ⟨fun _ => .inr ⟨i, Nat.le_refl _, by omega, c⟩, fun _ => hi2.2 (.inl hne)⟩⟩
        have hx0 : rdOf false x (i : Int) = true := by unfold rdOf; rw [Int.toNat_natCast]; exact c
        by_cases c1 : 0 < y.length
        · by_cases c2 : (rd_T117 y (wrap64 ((y.length : Int) - 1))).f1 = wrap64 ((i : Int) - 1)
          · refine go (y.set (wrap64 ((y.length : Int) - 1)).toNat ⟨(rd_T117 y (wrap64 ((y.length : Int) - 1))).f0, (i : Int)⟩) (by rw [List.length_set]; omega) (fun h => by have := congrArg List.length h; rw [List.length_set, List.length_nil] at this; omega) (fun k => ?_)
            have hw : wrap64 ((y.length : Int) - 1) = (y.length : Int) - 1 := wrap_id (by omega) (by omega)
            simp only [spec_l1Of.l0]
            rw [if_pos (by omega), if_pos (by omega), if_pos (by omega), if_pos hx0, if_pos (by omega), if_pos (by omega), if_pos (by omega), if_pos c2, wrap_nat (by omega)]
          · refine go (y ++ [⟨(i : Int), (i : Int)⟩]) (by simp; omega) (by simp) (fun k => ?_)
            have hw : wrap64 ((y.length : Int) - 1) = (y.length : Int) - 1 := wrap_id (by omega) (by omega)
            simp only [spec_l1Of.l0]
            rw [if_pos (by omega), if_pos (by omega), if_pos (by omega), if_pos hx0, if_pos (by omega), if_pos (by omega), if_pos (by omega), if_neg c2, if_pos (by omega), wrap_nat (by omega)]
        · refine go (y ++ [⟨(i : Int), (i : Int)⟩]) (by simp; omega) (by simp) (fun k => ?_)
          simp only [spec_l1Of.l0]
          rw [if_pos (by omega), if_pos (by omega), if_pos (by omega), if_pos hx0, if_neg (by omega), if_pos (by omega), wrap_nat (by omega)]
      · obtain ⟨r, hr, hi2⟩ := ih (i + 1) (by omega) y (by omega)
        have hx0 : ¬ rdOf false x (i : Int) = true := by unfold rdOf; rw [Int.toNat_natCast]; exact c
        refine ⟨r, Ev.late (g := fun k => spec_l1Of.l0 k x y (i : Int)) ⟨0, fun k _ => by
          simp only [spec_l1Of.l0]
          rw [if_pos (by omega), if_pos (by omega), if_pos (by omega), if_neg hx0, wrap_nat (by omega)]⟩ hr, hi2.trans ⟨?_, ?_⟩⟩
        · rintro (h | ⟨j, h1, h2, h3⟩)
          · exact .inl h
          · exact .inr ⟨j, by omega, h2, h3⟩
        · rintro (h | ⟨j, h1, h2, h3⟩)
          · exact .inl h
          · refine .inr ⟨j, ?_, h2, h3⟩
            rcases Nat.lt_or_ge i j with h | h
            · omega
            · have : j = i := by omega
              subst this; exact absurd h3 c
  obtain ⟨r, hr, h⟩ := key 256 0 (by omega) [] (by simp)
  refine ⟨r, hr, h.trans ⟨?_, ?_⟩⟩
  · rintro (h | ⟨j, h1, h2, h3⟩)
    · exact absurd rfl h
    · exact ⟨j, h2, h3⟩
  · rintro ⟨j, h2, h3⟩
    exact .inr ⟨j, Nat.zero_le _, h2, h3⟩
def Meets (s t : List S117) : Prop := ∃ b : Nat, b < 256 ∧ HasP s (b : Int) ∧ HasP t (b : Int)
theorem spec_SetMeet_ne {s t : List S117} (hs : s.length * 16 ≤ 140737488351232) (ht : t.length * 16 ≤ 140737488351232) (ps : SetP s) (pt : SetP t) : ∃ r, Ev (fun k => spec_SetMeet.f k s t) r ∧ (r ≠ [] ↔ Meets s t) := by
  let f : Nat → Bool := fun i => hasB s (i : Int) && hasB t (i : Int)
  obtain ⟨r, hr, h⟩ := spec_l1Of_ne ((List.range 256).map f) (by simp)
  refine ⟨r, ?_, h.trans ?_⟩
  · unfold spec_SetMeet.f
    simp only [if_pos (show 256 ≤ 281474976710656 by omega)]
    have hE : Ev (fun k => (spec_SetOk.f k s).bind fun t198 => (if t198 = true then ((spec_SetOk.f k t).bind fun t199 => (if t199 = true then ((spec_l1Of.f k ((List.range 256).map f)).bind fun t200 => (some t200)) else (some (([] : List S117))))) else (some (([] : List S117))))) r := by
      refine Ev.bind (spec_SetOk_ev s hs) ?_
      simp only [yes_pos ps, if_true]
      refine Ev.bind (spec_SetOk_ev t ht) ?_
      simp only [yes_pos pt, if_true]
      exact Ev.bind hr (Ev.now _)
    have key : ∀ d i : Nat, i + d = 256 → ∀ z : List Bool, z.length = 256 → (∀ j, j < i → z[j]? = some (f j)) → Ev (fun k => spec_SetMeet.l0 k s t z (i : Int)) r := by
      intro d
      induction d with
      | zero =>
        intro i hi z hz hj
        have hzf : z = (List.range 256).map f := by
          apply List.ext_getElem?
          intro j
          rcases Nat.lt_or_ge j 256 with h | h
          · rw [hj j (by omega)]; simp [h]
          · rw [List.getElem?_eq_none (by omega), List.getElem?_eq_none (by simpa using h)]
        subst hzf
        refine Ev.late (g := fun k => spec_SetMeet.l0 k s t _ (i : Int)) ⟨0, fun k _ => ?_⟩ hE
        simp only [spec_SetMeet.l0]
        rw [if_neg (by omega)]
      | succ d ih =>
        intro i hi z hz hj
        obtain ⟨K1, hK1⟩ := spec_SetHas_ev s hs (i : Int)
        obtain ⟨K2, hK2⟩ := spec_SetHas_ev t ht (i : Int)
        dsimp only at hK1 hK2
        refine Ev.late (g := fun k => spec_SetMeet.l0 k s t z (i : Int)) ⟨max K1 K2, fun k hk => ?_⟩ (ih (i + 1) (by omega) (z.set i (f i)) (by simpa using hz) (fun j hlt => ?_))
        · have e1 := hK1 k (by omega)
          have e2 := hK2 k (by omega)
          simp only [spec_SetMeet.l0]
          rw [if_pos (by omega), e1, Option.bind_some, wrap_nat (by omega)]
          by_cases c : hasB s (i : Int) = true
          · have hf : f i = hasB t (i : Int) := by show (hasB s (i : Int) && hasB t (i : Int)) = _; rw [c, Bool.true_and]
            rw [if_pos c, e2, Option.bind_some, if_pos (by omega), if_pos (by omega), Int.toNat_natCast, hf]
          · have hf : f i = false := by show (hasB s (i : Int) && hasB t (i : Int)) = _; rw [Bool.eq_false_iff.mpr c, Bool.false_and]
            rw [if_neg c, if_pos (by omega), if_pos (by omega), Int.toNat_natCast, hf]
        · rcases Nat.lt_or_ge j i with h2 | h2
          · rw [List.getElem?_set_ne (by omega)]; exact hj j h2
          · have : j = i := by omega
            subst this
            rw [List.getElem?_set_self (by omega)]
    exact key 256 0 (by omega) _ (List.length_replicate ..) (fun j h => by omega)
  · constructor
    · rintro ⟨i, hi, h⟩
      have h' : f i = true := by
        have e := getB_map f i hi
        unfold getB at e
        rw [Int.toNat_natCast] at e
        rw [← e]; exact h
      have h2 : hasB s (i : Int) = true ∧ hasB t (i : Int) = true := Bool.and_eq_true_iff.1 h'
      exact ⟨i, hi, yes_iff.1 h2.1, yes_iff.1 h2.2⟩
    · rintro ⟨i, hi, h1, h2⟩
      refine ⟨i, hi, ?_⟩
      have h' : f i = true := Bool.and_eq_true_iff.2 ⟨yes_pos h1, yes_pos h2⟩
      have e := getB_map f i hi
      unfold getB at e
      rw [Int.toNat_natCast] at e
      rw [e]; exact h'
end Go.Proofs.Ytigmibfacllhmaa.P

set_option linter.unusedVariables false
set_option linter.unusedSimpArgs false
namespace Go.Proofs.Ytigmibfacllhmaa.P
open Go.Proofs.YtigmibfacllhmaaW.PrintWords Go.RowKit
def toSpan (x : S146) : S117 := ⟨x.f0, x.f1⟩
theorem toSpanS_ev (xs : List S146) (hn : xs.length * 16 ≤ 140737488351232) : Ev (fun k => laws_toSpanS.f k xs) (xs.map toSpan) := by
  refine Ev.congr (f := fun k => laws_toSpanS.l0 k xs (List.replicate xs.length z117) 0) (fun k => ?_) ?_
  · show laws_toSpanS.f k xs = _
    unfold laws_toSpanS.f
    rw [if_pos (by omega), if_pos (by rw [Int.toNat_natCast]; omega), Int.toNat_natCast]
  · refine fill_ev (fun k r i => laws_toSpanS.l0 k xs r i) xs toSpan (fun k r hr => ?_) (fun i h => ⟨0, fun k r _ hr => ?_⟩) _ (by simp)
    · show laws_toSpanS.l0 (k + 1) xs r _ = _
      simp only [laws_toSpanS.l0]
      rw [if_neg (by omega)]
    · show laws_toSpanS.l0 (k + 1) xs r _ = laws_toSpanS.l0 k xs _ _
      simp only [laws_toSpanS.l0, laws_toSpan.f]
      rw [if_pos (by omega), if_pos (by omega), Option.bind_some, if_pos (by omega), wrap_nat (by omega), Int.toNat_natCast]
      unfold rd_T146
      rw [getD_at h]
      rfl
theorem laws_eqSpanS_ev (xs ys : List S117) (hn : xs.length * 16 ≤ 140737488351232) : Ev (fun k => laws_eqSpanS.f k xs ys) (yes (xs = ys)) := by
  by_cases hl : xs.length = ys.length
  · refine Ev.congr (f := fun k => laws_eqSpanS.l0 k xs ys 0) (fun k => ?_) ?_
    · show laws_eqSpanS.f k xs ys = _
      unfold laws_eqSpanS.f
      rw [if_pos (by omega)]
    · refine all2_ev (fun k i => laws_eqSpanS.l0 k xs ys i) xs ys hl (fun k => ?_) (fun i h h' => ⟨0, fun k _ => ⟨fun he => ?_, fun he => ?_⟩⟩)
      · show laws_eqSpanS.l0 (k + 1) xs ys _ = _
        simp only [laws_eqSpanS.l0]
        rw [if_neg (by omega)]
      · show laws_eqSpanS.l0 (k + 1) xs ys _ = laws_eqSpanS.l0 k xs ys _
        simp only [laws_eqSpanS.l0, laws_eqSpan.f]
        rw [if_pos (by omega), if_pos (by omega), if_pos (by omega), wrap_nat (by omega)]
        unfold rd_T117
        rw [getD_at h, getD_at h', he]
        simp
      · show laws_eqSpanS.l0 (k + 1) xs ys _ = _
        simp only [laws_eqSpanS.l0, laws_eqSpan.f]
        rw [if_pos (by omega), if_pos (by omega), if_pos (by omega)]
        unfold rd_T117
        rw [getD_at h, getD_at h']
        have hne : ¬ (xs[i].f0 = ys[i].f0 ∧ xs[i].f1 = ys[i].f1) := fun ⟨e0, e1⟩ => he (by cases hx : xs[i]; cases hy : ys[i]; simp_all)
        by_cases e0 : xs[i].f0 = ys[i].f0 <;> by_cases e1 : xs[i].f1 = ys[i].f1 <;> simp_all
  · refine (Ev.congr (f := fun _ => some false) (fun k => ?_) (Ev.now false)).eqs (yes_neg fun h => hl (by rw [h])).symm
    show laws_eqSpanS.f k xs ys = _
    unfold laws_eqSpanS.f
    rw [if_neg (by omega)]
theorem szSpanS_some (xs : List S146) (a : Int) : ∃ v, laws_szSpanS.f xs a = some v := by
  unfold laws_szSpanS.f
  split <;> exact ⟨_, rfl⟩
end Go.Proofs.Ytigmibfacllhmaa.P

set_option linter.unusedVariables false
set_option linter.unusedSimpArgs false
namespace Go.Proofs.Ytigmibfacllhmaa.P
open Go.Proofs.YtigmibfacllhmaaW.PrintWords Go.RowKit
theorem rd_at {xs : List Int} {i : Nat} (h : i < xs.length) : rd xs (i : Int) = xs[i] := by unfold rd; exact getD_at h
theorem toIntS_ev (xs : List Int) (hn : xs.length * 8 ≤ 140737488351232) : Ev (fun k => laws_toIntS.f k xs) xs := by
  refine Ev.congr (f := fun k => laws_toIntS.l0 k xs (List.replicate xs.length 0) 0) (fun k => ?_) ?_
  · show laws_toIntS.f k xs = _
    unfold laws_toIntS.f
    rw [if_pos (by omega), if_pos (by rw [Int.toNat_natCast]; omega), Int.toNat_natCast]
  · refine (fill_ev (fun k r i => laws_toIntS.l0 k xs r i) xs id (fun k r hr => ?_) (fun i h => ⟨0, fun k r _ hr => ?_⟩) _ (by simp)).eqs (by simp)
    · show laws_toIntS.l0 (k + 1) xs r _ = _
      simp only [laws_toIntS.l0]
      rw [if_neg (by omega)]
    · show laws_toIntS.l0 (k + 1) xs r _ = laws_toIntS.l0 k xs _ _
      simp only [laws_toIntS.l0]
      rw [if_pos (by omega), if_pos (by omega), if_pos (by omega), wrap_nat (by omega), Int.toNat_natCast, rd_at h]
      rfl
theorem szIntS_some (xs : List Int) (a : Int) : ∃ v, laws_szIntS.f xs a = some v := by
  unfold laws_szIntS.f
  split <;> exact ⟨_, rfl⟩
theorem laws_eqIntS_ev (xs ys : List Int) (hn : xs.length * 8 ≤ 140737488351232) : Ev (fun k => laws_eqIntS.f k xs ys) (yes (xs = ys)) := by
  unfold laws_eqIntS.f
  by_cases hl : xs.length = ys.length
  · simp only [if_pos (show (xs.length : Int) = (ys.length : Int) from by omega)]
    refine all2_ev (fun k i => laws_eqIntS.l0 k xs ys i) xs ys hl (fun k => ?_) (fun i h h' => ⟨0, fun k _ => ?_⟩)
    · show laws_eqIntS.l0 (k + 1) xs ys _ = _
      simp only [laws_eqIntS.l0]; rw [if_neg (by omega)]
    · show (_ → laws_eqIntS.l0 (k + 1) xs ys _ = laws_eqIntS.l0 k xs ys _) ∧ (_ → laws_eqIntS.l0 (k + 1) xs ys _ = _)
      simp only [laws_eqIntS.l0]
      rw [if_pos (by omega), if_pos (by omega), if_pos (by omega), rd_at h, rd_at h', wrap_nat (by omega)]
      exact ⟨fun he => by rw [if_pos he], fun he => by rw [if_neg he]⟩
  · simp only [if_neg (show ¬ (xs.length : Int) = (ys.length : Int) from by omega)]
    exact (Ev.now false).eqs (yes_neg fun h => hl (by rw [h])).symm
theorem toSpanSS_ev (xs : List (List S146)) (hn : xs.length * 24 ≤ 140737488351232) (hi : ∀ x ∈ xs, x.length * 16 ≤ 140737488351232) : Ev (fun k => laws_toSpanSS.f k xs) (xs.map (fun l => l.map toSpan)) := by
  refine Ev.congr (f := fun k => laws_toSpanSS.l0 k xs (List.replicate xs.length []) 0) (fun k => ?_) ?_
  · show laws_toSpanSS.f k xs = _
    unfold laws_toSpanSS.f
    rw [if_pos (by omega), if_pos (by rw [Int.toNat_natCast]; omega), Int.toNat_natCast]
  · refine fill_ev (fun k r i => laws_toSpanSS.l0 k xs r i) xs (fun l => l.map toSpan) (fun k r hr => ?_) (fun i h => ?_) _ (by simp)
    · show laws_toSpanSS.l0 (k + 1) xs r _ = _
      simp only [laws_toSpanSS.l0]
      rw [if_neg (by omega)]
    · obtain ⟨K, hK⟩ := toSpanS_ev xs[i] (hi _ (List.getElem_mem h))
      dsimp only at hK
      refine ⟨K, fun k r hk hr => ?_⟩
      show laws_toSpanSS.l0 (k + 1) xs r _ = laws_toSpanSS.l0 k xs _ _
      simp only [laws_toSpanSS.l0]
      unfold rd_L2
      rw [if_pos (by omega), if_pos (by omega), getD_at h, hK k hk, Option.bind_some, if_pos (by omega), wrap_nat (by omega), Int.toNat_natCast]
theorem szSpanSS_ex (xs : List (List S146)) (hn : xs.length * 24 ≤ 140737488351232) (a : Int) : ∃ v, Ev (fun k => laws_szSpanSS.f k xs a) v := by
  unfold laws_szSpanSS.f
  by_cases c : wrap64 (a - (xs.length : Int)) < 0
  · simp only [if_pos c]; exact ⟨_, Ev.now _⟩
  simp only [if_neg c]
  refine walk_ex (fun k s i => laws_szSpanSS.l0 k xs s i) xs.length
    (fun s => ⟨s, Ev.ofSucc (g := fun k => laws_szSpanSS.l0 k xs s _) (fun k => by simp only [laws_szSpanSS.l0]; rw [if_neg (by omega)])⟩)
    (fun i hi s => ?_) _
  obtain ⟨y, hy⟩ := szSpanS_some xs[i] s
  by_cases cy : y < 0
  · refine .inl ⟨-1, Ev.ofSucc (g := fun k => laws_szSpanSS.l0 k xs s _) (fun k => ?_)⟩
    simp only [laws_szSpanSS.l0]
    unfold rd_L2
    rw [if_pos (by omega), if_pos (by omega), getD_at hi, hy, Option.bind_some, if_pos cy]
  · refine .inr ⟨y, 0, fun k hk => ?_⟩
    show laws_szSpanSS.l0 (k + 1) xs s _ = laws_szSpanSS.l0 k xs _ _
    simp only [laws_szSpanSS.l0]
    unfold rd_L2
    rw [if_pos (by omega), if_pos (by omega), getD_at hi, hy, Option.bind_some, if_neg cy, wrap_nat (by omega)]
theorem laws_eqSpanSS_ev (xs ys : List (List S117)) (hn : xs.length * 24 ≤ 140737488351232) (hi : ∀ x ∈ xs, x.length * 16 ≤ 140737488351232) : Ev (fun k => laws_eqSpanSS.f k xs ys) (yes (xs = ys)) := by
  unfold laws_eqSpanSS.f
  by_cases hl : xs.length = ys.length
  · simp only [if_pos (show (xs.length : Int) = (ys.length : Int) from by omega)]
    refine all2_ev (fun k i => laws_eqSpanSS.l0 k xs ys i) xs ys hl (fun k => ?_) (fun i h h' => ?_)
    · show laws_eqSpanSS.l0 (k + 1) xs ys _ = _
      simp only [laws_eqSpanSS.l0]; rw [if_neg (by omega)]
    · obtain ⟨K, hK⟩ := laws_eqSpanS_ev xs[i] ys[i] (hi _ (List.getElem_mem h))
      dsimp only at hK
      refine ⟨K, fun k hk => ?_⟩
      show (_ → laws_eqSpanSS.l0 (k + 1) xs ys _ = laws_eqSpanSS.l0 k xs ys _) ∧ (_ → laws_eqSpanSS.l0 (k + 1) xs ys _ = _)
      simp only [laws_eqSpanSS.l0]
      unfold rd_L6
      rw [if_pos (by omega), if_pos (by omega), if_pos (by omega), getD_at h, getD_at h', hK k hk, Option.bind_some, wrap_nat (by omega)]
      exact ⟨fun he => by rw [yes_pos he, if_pos rfl], fun he => by rw [yes_neg he, if_neg (by simp)]⟩
  · simp only [if_neg (show ¬ (xs.length : Int) = (ys.length : Int) from by omega)]
    exact (Ev.now false).eqs (yes_neg fun h => hl (by rw [h])).symm
theorem toIntSS_ev (xs : List (List Int)) (hn : xs.length * 24 ≤ 140737488351232) (hi : ∀ x ∈ xs, x.length * 8 ≤ 140737488351232) : Ev (fun k => laws_toIntSS.f k xs) (xs.map id) := by
  refine Ev.congr (f := fun k => laws_toIntSS.l0 k xs (List.replicate xs.length []) 0) (fun k => ?_) ?_
  · show laws_toIntSS.f k xs = _
    unfold laws_toIntSS.f
    rw [if_pos (by omega), if_pos (by rw [Int.toNat_natCast]; omega), Int.toNat_natCast]
  · refine fill_ev (fun k r i => laws_toIntSS.l0 k xs r i) xs id (fun k r hr => ?_) (fun i h => ?_) _ (by simp)
    · show laws_toIntSS.l0 (k + 1) xs r _ = _
      simp only [laws_toIntSS.l0]
      rw [if_neg (by omega)]
    · obtain ⟨K, hK⟩ := toIntS_ev xs[i] (hi _ (List.getElem_mem h))
      dsimp only at hK
      refine ⟨K, fun k r hk hr => ?_⟩
      show laws_toIntSS.l0 (k + 1) xs r _ = laws_toIntSS.l0 k xs _ _
      simp only [laws_toIntSS.l0]
      unfold rd_L3
      rw [if_pos (by omega), if_pos (by omega), getD_at h, hK k hk, Option.bind_some, if_pos (by omega), wrap_nat (by omega), Int.toNat_natCast]
      rfl
theorem szIntSS_ex (xs : List (List Int)) (hn : xs.length * 24 ≤ 140737488351232) (a : Int) : ∃ v, Ev (fun k => laws_szIntSS.f k xs a) v := by
  unfold laws_szIntSS.f
  by_cases c : wrap64 (a - (xs.length : Int)) < 0
  · simp only [if_pos c]; exact ⟨_, Ev.now _⟩
  simp only [if_neg c]
  refine walk_ex (fun k s i => laws_szIntSS.l0 k xs s i) xs.length
    (fun s => ⟨s, Ev.ofSucc (g := fun k => laws_szIntSS.l0 k xs s _) (fun k => by simp only [laws_szIntSS.l0]; rw [if_neg (by omega)])⟩)
    (fun i hi s => ?_) _
  obtain ⟨y, hy⟩ := szIntS_some xs[i] s
  by_cases cy : y < 0
  · refine .inl ⟨-1, Ev.ofSucc (g := fun k => laws_szIntSS.l0 k xs s _) (fun k => ?_)⟩
    simp only [laws_szIntSS.l0]
    unfold rd_L3
    rw [if_pos (by omega), if_pos (by omega), getD_at hi, hy, Option.bind_some, if_pos cy]
  · refine .inr ⟨y, 0, fun k hk => ?_⟩
    show laws_szIntSS.l0 (k + 1) xs s _ = laws_szIntSS.l0 k xs _ _
    simp only [laws_szIntSS.l0]
    unfold rd_L3
    rw [if_pos (by omega), if_pos (by omega), getD_at hi, hy, Option.bind_some, if_neg cy, wrap_nat (by omega)]
theorem laws_eqIntSS_ev (xs ys : List (List Int)) (hn : xs.length * 24 ≤ 140737488351232) (hi : ∀ x ∈ xs, x.length * 8 ≤ 140737488351232) : Ev (fun k => laws_eqIntSS.f k xs ys) (yes (xs = ys)) := by
  unfold laws_eqIntSS.f
  by_cases hl : xs.length = ys.length
  · simp only [if_pos (show (xs.length : Int) = (ys.length : Int) from by omega)]
    refine all2_ev (fun k i => laws_eqIntSS.l0 k xs ys i) xs ys hl (fun k => ?_) (fun i h h' => ?_)
    · show laws_eqIntSS.l0 (k + 1) xs ys _ = _
      simp only [laws_eqIntSS.l0]; rw [if_neg (by omega)]
    · obtain ⟨K, hK⟩ := laws_eqIntS_ev xs[i] ys[i] (hi _ (List.getElem_mem h))
      dsimp only at hK
      refine ⟨K, fun k hk => ?_⟩
      show (_ → laws_eqIntSS.l0 (k + 1) xs ys _ = laws_eqIntSS.l0 k xs ys _) ∧ (_ → laws_eqIntSS.l0 (k + 1) xs ys _ = _)
      simp only [laws_eqIntSS.l0]
      unfold rd_L3
      rw [if_pos (by omega), if_pos (by omega), if_pos (by omega), getD_at h, getD_at h', hK k hk, Option.bind_some, wrap_nat (by omega)]
      exact ⟨fun he => by rw [yes_pos he, if_pos rfl], fun he => by rw [yes_neg he, if_neg (by simp)]⟩
  · simp only [if_neg (show ¬ (xs.length : Int) = (ys.length : Int) from by omega)]
    exact (Ev.now false).eqs (yes_neg fun h => hl (by rw [h])).symm
structure DfaB (p : List (List S117)) (r : List (List Int)) (a : List Int) : Prop where
  p0 : p.length * 24 ≤ 140737488351232
  p1 : ∀ x ∈ p, x.length * 16 ≤ 140737488351232
  r0 : r.length * 24 ≤ 140737488351232
  r1 : ∀ x ∈ r, x.length * 8 ≤ 140737488351232
  a0 : a.length * 8 ≤ 140737488351232
structure DfaL (p : List (List S146)) (r : List (List Int)) (a : List Int) : Prop where
  p0 : p.length * 24 ≤ 140737488351232
  p1 : ∀ x ∈ p, x.length * 16 ≤ 140737488351232
  r0 : r.length * 24 ≤ 140737488351232
  r1 : ∀ x ∈ r, x.length * 8 ≤ 140737488351232
  a0 : a.length * 8 ≤ 140737488351232
def toParts (p : List (List S146)) : List (List S117) := p.map (fun l => l.map toSpan)
theorem DfaL.to {p r a} (h : DfaL p r a) : DfaB (toParts p) r a :=
  ⟨by unfold toParts; simpa using h.p0, fun x hx => by
    unfold toParts at hx
    obtain ⟨y, hy, rfl⟩ := List.mem_map.1 hx
    simpa using h.p1 y hy, h.r0, h.r1, h.a0⟩
theorem toDfa_ev {p r a} (h : DfaL p r a) : Ev (fun k => laws_toDfa.f k p r a) (toParts p, r, a) := by
  unfold laws_toDfa.f
  refine Ev.bind (toSpanSS_ev p h.p0 h.p1) (Ev.bind ((toIntSS_ev r h.r0 h.r1).eqs (show r.map id = r by simp)) (Ev.bind (toIntS_ev a h.a0) ?_))
  exact Ev.now _
theorem szDfa_ex {p r a} (h : DfaL p r a) (b : Int) : ∃ v, Ev (fun k => laws_szDfa.f k p r a b) v := by
  unfold laws_szDfa.f
  obtain ⟨v0, h0⟩ := szSpanSS_ex p h.p0 b
  by_cases c0 : v0 < 0
  · exact ⟨-1, Ev.bind h0 (by simp only [if_pos c0]; exact Ev.now _)⟩
  obtain ⟨v1, h1⟩ := szIntSS_ex r h.r0 v0
  by_cases c1 : v1 < 0
  · exact ⟨-1, Ev.bind h0 (by simp only [if_neg c0]; exact Ev.bind h1 (by simp only [if_pos c1]; exact Ev.now _))⟩
  obtain ⟨v2, h2⟩ := szIntS_some a v1
  by_cases c2 : v2 < 0
  · exact ⟨-1, Ev.bind h0 (by simp only [if_neg c0]; exact Ev.bind h1 (by simp only [if_neg c1, h2, Option.bind_some, if_pos c2]; exact Ev.now _))⟩
  · exact ⟨v2, Ev.bind h0 (by simp only [if_neg c0]; exact Ev.bind h1 (by simp only [if_neg c1, h2, Option.bind_some, if_neg c2]; exact Ev.now _))⟩
theorem laws_eqDfa_ev {p r a} (h : DfaB p r a) (p' r' a') : Ev (fun k => laws_eqDfa.f k p r a p' r' a') (yes (p = p' ∧ r = r' ∧ a = a')) := by
  unfold laws_eqDfa.f
  refine Ev.bind (laws_eqSpanSS_ev p p' h.p0 h.p1) ?_
  by_cases c0 : p = p'
  · simp only [yes_pos c0, if_true]
    refine Ev.bind (laws_eqIntSS_ev r r' h.r0 h.r1) ?_
    by_cases c1 : r = r'
    · simp only [yes_pos c1, if_true]
      refine Ev.bind (laws_eqIntS_ev a a' h.a0) ?_
      by_cases c2 : a = a'
      · simp only [yes_pos c2, if_true]; rw [yes_pos ⟨c0, c1, c2⟩]; exact Ev.now _
      · simp only [yes_neg c2, Bool.false_eq_true, if_false]; rw [yes_neg (fun h => c2 h.2.2)]; exact Ev.now _
    · simp only [yes_neg c1, Bool.false_eq_true, if_false]; rw [yes_neg (fun h => c1 h.2.1)]; exact Ev.now _
  · simp only [yes_neg c0, Bool.false_eq_true, if_false]; rw [yes_neg (fun h => c0 h.1)]; exact Ev.now _
end Go.Proofs.Ytigmibfacllhmaa.P

set_option linter.unusedVariables false
set_option linter.unusedSimpArgs false
namespace Go.Proofs.Ytigmibfacllhmaa.P
open Go.Proofs.YtigmibfacllhmaaW.PrintWords Go.RowKit Go.Proofs.Ytigmibfacllhmaa.Arr
abbrev partAt (x : List (List S117)) (i : Nat) : List S117 := rd_L6 x (i : Int)
theorem partAt_of {x : List (List S117)} {i : Nat} (h : i < x.length) : partAt x i = x[i] := by
  unfold partAt rd_L6
  exact getD_at h
theorem partAt_le {x : List (List S117)} (hx : ∀ p ∈ x, p.length * 16 ≤ 140737488351232) {i : Nat} (h : i < x.length) : (partAt x i).length * 16 ≤ 140737488351232 := by
  rw [partAt_of h]; exact hx _ (List.getElem_mem h)
noncomputable def anyI (x : List (List S117)) (i : Nat) (b : Nat) : Bool := yes (∃ j, j < i ∧ HasP (partAt x j) (b : Int))
theorem anyI_zero (x : List (List S117)) (b : Nat) : anyI x 0 b = false := yes_neg fun ⟨_, h, _⟩ => by omega
theorem anyI_succ (x : List (List S117)) (i b : Nat) : anyI x (i + 1) b = (anyI x i b || hasB (partAt x i) (b : Int)) := by
  unfold anyI hasB
  by_cases h1 : ∃ j, j < i ∧ HasP (partAt x j) (b : Int)
  · rw [yes_pos h1, Bool.true_or]
    obtain ⟨j, hj, h⟩ := h1
    exact yes_pos ⟨j, by omega, h⟩
  · rw [yes_neg h1, Bool.false_or]
    apply yes_congr
    constructor
    · rintro ⟨j, hj, h⟩
      rcases Nat.lt_or_ge j i with h2 | h2
      · exact absurd ⟨j, h2, h⟩ h1
      · have : j = i := by omega
        subst this; exact h
    · exact fun h => ⟨i, by omega, h⟩
def PartQ (x : List (List S117)) (i : Nat) : Prop :=
  SetP (partAt x i) ∧ (partAt x i).length ≠ 0 ∧ (0 < i → (spanAt (partAt x (i - 1)) 0).f0 < (spanAt (partAt x i) 0).f0) ∧ ∀ j, j < i → ¬ Meets (partAt x i) (partAt x j)
def RowQ (n m : Nat) (row : List Int) (a : Int) : Prop := row.length = n ∧ -1 ≤ a ∧ a ≤ 4 ∧ ∀ k, k < row.length → -1 ≤ rd row (k : Int) ∧ rd row (k : Int) < (m : Int)
def RowsP (x : List (List S117)) (r : List (List Int)) (a : List Int) : Prop :=
  1 ≤ r.length ∧ r.length ≤ 40 ∧ a.length = r.length ∧ ∀ i, i < r.length → RowQ x.length r.length (rd_L3 r (i : Int)) (rd a (i : Int))
noncomputable def cntI (x : List (List S117)) (i : Nat) : Nat := cnt (anyI x i) 256
def DfaP (x : List (List S117)) (r : List (List Int)) (a : List Int) : Prop := (∀ i, i < x.length → PartQ x i) ∧ cntI x x.length = 256 ∧ RowsP x r a
theorem cntI_zero (x : List (List S117)) : cntI x 0 = 0 := by
  unfold cntI
  have : ∀ n, cnt (anyI x 0) n = 0 := by
    intro n
    induction n with
    | zero => rfl
    | succ n ih => unfold cnt; rw [ih, anyI_zero]; rfl
  exact this 256
theorem cntI_succ (x : List (List S117)) (i : Nat) (h : ∀ j, j < i → ¬ Meets (partAt x i) (partAt x j)) : cntI x (i + 1) = cntI x i + cnt (fun b : Nat => hasB (partAt x i) (b : Int)) 256 := by
  unfold cntI
  rw [← cnt_or]
  · congr 1
    funext b
    exact anyI_succ x i b
  · rintro b hb ⟨h1, h2⟩
    obtain ⟨j, hj, h3⟩ := yes_iff.1 h1
    exact h j hj ⟨b, hb, yes_iff.1 h2, h3⟩
theorem cntI_le (x : List (List S117)) (i : Nat) : cntI x i ≤ 256 := cnt_le _ _
theorem impl_rows_ev {x : List (List S117)} {r : List (List Int)} {a : List Int} (d : DfaB x r a) (ha : a.length = r.length) :
    Ev (fun k => impl_DfaOk.l2 k r (r.length : Int) 0 x r a) (yes (∀ i, i < r.length → RowQ x.length r.length (rd_L3 r (i : Int)) (rd a (i : Int)))) := by
  have hr0 := d.r0
  have hx0 := d.p0
  have key := loop_ev (fun k (_ : Unit) i => impl_DfaOk.l2 k r (r.length : Int) i x r a) r.length (fun _ => ()) (fun i => RowQ x.length r.length (rd_L3 r (i : Int)) (rd a (i : Int))) false
    (fun i hi _ => by
      obtain ⟨row, hrow⟩ : ∃ y, y = rd_L3 r (i : Int) := ⟨_, rfl⟩
      have hrl : row.length * 8 ≤ 140737488351232 := by
        rw [hrow]; unfold rd_L3; rw [getD_at hi]; exact d.r1 _ (List.getElem_mem hi)
      have inner := loop_ev (fun k (_ : Unit) q => impl_DfaOk.l3 k r (r.length : Int) (i : Int) row (row.length : Int) q x r a) row.length (fun _ => ()) (fun q => -1 ≤ rd row (q : Int) ∧ rd row (q : Int) < (r.length : Int)) false
        (fun q hq _ => by
          have hw : wrap64 ((r.length : Int) - 1) = (r.length : Int) - 1 := wrap_id (by omega) (by omega)
          constructor
          · intro hQ s hs
            refine Ev.late (g := fun k => impl_DfaOk.l3 k r (r.length : Int) (i : Int) row (row.length : Int) (q : Int) x r a) ⟨0, fun k _ => ?_⟩ hs
            simp only [impl_DfaOk.l3, impl_in.f]
            rw [if_pos (by omega), if_pos (by omega), if_pos (by omega), if_pos (show rd row (q : Int) ≥ -1 from hQ.1), Option.bind_some, decide_eq_true (show rd row (q : Int) ≤ wrap64 ((r.length : Int) - 1) by rw [hw]; omega), if_pos rfl, wrap_nat (by omega)]
          · intro hQ
            refine Ev.ofSucc (g := fun k => impl_DfaOk.l3 k r (r.length : Int) (i : Int) row (row.length : Int) (q : Int) x r a) (fun k => ?_)
            simp only [impl_DfaOk.l3, impl_in.f]
            rw [if_pos (by omega), if_pos (by omega), if_pos (by omega), hw]
            by_cases c : rd row (q : Int) ≥ -1
            · rw [if_pos c, Option.bind_some, decide_eq_false (fun h => hQ ⟨c, by omega⟩), if_neg (by simp)]
            · rw [if_neg c, Option.bind_some, if_neg (by simp)])
      show (RowQ x.length r.length (rd_L3 r (i : Int)) (rd a (i : Int)) → _) ∧ (¬ RowQ x.length r.length (rd_L3 r (i : Int)) (rd a (i : Int)) → _)
      rw [← hrow]
      have bad : Ev (fun k => impl_DfaOk.j6 k row r (r.length : Int) (i : Int) true x r a) false := Ev.ofSucc (g := fun k => impl_DfaOk.j6 k row r (r.length : Int) (i : Int) true x r a) (fun k => by simp only [impl_DfaOk.j6, ↓reduceIte])
      have good : ∀ s, Ev (fun k => impl_DfaOk.l3 k r (r.length : Int) (i : Int) row (row.length : Int) 0 x r a) s → Ev (fun k => impl_DfaOk.j6 k row r (r.length : Int) (i : Int) false x r a) s := fun s hs => Ev.late (g := fun k => impl_DfaOk.j6 k row r (r.length : Int) (i : Int) false x r a) ⟨0, fun k _ => by simp only [impl_DfaOk.j6]; rw [if_neg (by simp)]⟩ hs
      have ask : ∀ s, Ev (fun k => impl_DfaOk.j6 k row r (r.length : Int) (i : Int) (!(yes (-1 ≤ rd a (i : Int) ∧ rd a (i : Int) ≤ 4))) x r a) s → row.length = x.length → Ev (fun k => impl_DfaOk.l2 k r (r.length : Int) (i : Int) x r a) s := by
        intro s hs hl
        refine Ev.late (g := fun k => impl_DfaOk.l2 k r (r.length : Int) (i : Int) x r a) ⟨0, fun k _ => ?_⟩ hs
        simp only [impl_DfaOk.l2, impl_in.f]
        rw [← hrow, if_pos (by omega), if_pos (by omega), if_pos (by omega), if_pos (by omega), if_pos (by omega)]
        by_cases c : rd a (i : Int) ≥ -1
        · rw [if_pos c, Option.bind_some]
          by_cases c2 : rd a (i : Int) ≤ 4
          · rw [decide_eq_true c2, yes_pos ⟨c, c2⟩]
          · rw [decide_eq_false c2, yes_neg fun h => c2 h.2]
        · rw [if_neg c, Option.bind_some, yes_neg fun h => c h.1]
      constructor
      · intro hQ s hs
        obtain ⟨h1, h2, h3, h4⟩ := hQ
        refine ask s ?_ h1
        rw [yes_pos ⟨h2, h3⟩]
        refine good s (inner.1 h4 s ?_)
        refine Ev.late (g := fun k => impl_DfaOk.l3 k r (r.length : Int) (i : Int) row (row.length : Int) (row.length : Int) x r a) ⟨0, fun k _ => ?_⟩ hs
        simp only [impl_DfaOk.l3]
        rw [if_neg (by omega), wrap_nat (by omega)]
      · intro hQ
        by_cases h1 : row.length = x.length
        · refine ask false ?_ h1
          by_cases h2 : -1 ≤ rd a (i : Int) ∧ rd a (i : Int) ≤ 4
          · rw [yes_pos h2]
            refine good false (inner.2 ?_)
            refine Classical.byContradiction fun hn => hQ ⟨h1, h2.1, h2.2, fun k hk => Classical.byContradiction fun hk2 => hn ⟨k, hk, hk2⟩⟩
          · rw [yes_neg h2]; exact bad
        · refine Ev.late (g := fun k => impl_DfaOk.l2 k r (r.length : Int) (i : Int) x r a) ⟨0, fun k _ => ?_⟩ bad
          simp only [impl_DfaOk.l2]
          rw [← hrow, if_pos (by omega), if_pos (by omega), if_pos (by omega), if_neg (by omega)])
  by_cases h : ∀ i, i < r.length → RowQ x.length r.length (rd_L3 r (i : Int)) (rd a (i : Int))
  · rw [yes_pos h]
    exact key.1 h true (Ev.ofSucc (g := fun k => impl_DfaOk.l2 k r (r.length : Int) (r.length : Int) x r a) (fun k => by simp only [impl_DfaOk.l2]; rw [if_neg (by omega)]))
  · rw [yes_neg h]
    exact key.2 (Classical.byContradiction fun hn => h fun i hi => Classical.byContradiction fun hk => hn ⟨i, hi, hk⟩)
theorem impl_tail_ev {x : List (List S117)} {r : List (List Int)} {a : List Int} (d : DfaB x r a) (last : Int) (m : Nat) (al : List Bool) :
    Ev (fun k => impl_DfaOk.l0 k last (m : Int) x (x.length : Int) (x.length : Int) x r a al) (yes (m = 256 ∧ RowsP x r a)) := by
  have hr0 := d.r0
  have ha0 := d.a0
  have bad : Ev (fun k => impl_DfaOk.j4 k true x r a) false := Ev.ofSucc (g := fun k => impl_DfaOk.j4 k true x r a) (fun k => by simp only [impl_DfaOk.j4, ↓reduceIte])
  by_cases c1 : m = 256
  · by_cases c2 : 1 ≤ r.length ∧ r.length ≤ 40
    · have e0 : ∀ k, impl_DfaOk.l0 (k + 1) last (m : Int) x (x.length : Int) (x.length : Int) x r a al = impl_DfaOk.j4 k ((a.length : Int) != (r.length : Int)) x r a := by
        intro k
        simp only [impl_DfaOk.l0, impl_in.f]
        rw [if_neg (by omega), if_pos (by omega), if_pos (by omega), Option.bind_some, decide_eq_true (by omega), if_pos rfl]
      refine Ev.late (g := fun k => impl_DfaOk.l0 k last (m : Int) x (x.length : Int) (x.length : Int) x r a al) ⟨0, fun k _ => e0 k⟩ ?_
      by_cases c3 : a.length = r.length
      · have hne : ((a.length : Int) != (r.length : Int)) = false := by rw [c3]; simp
        rw [hne]
        refine Ev.late (g := fun k => impl_DfaOk.j4 k false x r a) (f := fun k => impl_DfaOk.l2 k r (r.length : Int) 0 x r a) ⟨0, fun k _ => by simp only [impl_DfaOk.j4]; rw [if_neg (by simp)]⟩ ?_
        refine (impl_rows_ev d c3).eqs (yes_congr ⟨fun h => ⟨c1, c2.1, c2.2, c3, h⟩, fun h => h.2.2.2.2⟩)
      · have hne : ((a.length : Int) != (r.length : Int)) = true := by rw [bne_iff_ne]; omega
        rw [hne, yes_neg fun h => c3 h.2.2.2.1]
        exact bad
    · rw [yes_neg fun h => c2 ⟨h.2.1, h.2.2.1⟩]
      refine Ev.late (g := fun k => impl_DfaOk.l0 k last (m : Int) x (x.length : Int) (x.length : Int) x r a al) ⟨0, fun k _ => ?_⟩ bad
      simp only [impl_DfaOk.l0, impl_in.f]
      rw [if_neg (by omega), if_pos (by omega)]
      by_cases c : (r.length : Int) ≥ 1
      · rw [if_pos c, Option.bind_some, decide_eq_false (by omega), if_neg (by simp)]
      · rw [if_neg c, Option.bind_some, if_neg (by simp)]
  · rw [yes_neg fun h => c1 h.1]
    refine Ev.late (g := fun k => impl_DfaOk.l0 k last (m : Int) x (x.length : Int) (x.length : Int) x r a al) ⟨0, fun k _ => ?_⟩ bad
    simp only [impl_DfaOk.l0]
    rw [if_neg (by omega), if_neg (by omega)]
theorem repl_map (n : Nat) : List.replicate n false = (List.range n).map (fun _ : Nat => false) := by
  apply List.ext_getElem
  · simp
  · intro i h1 h2; simp
noncomputable def allI (x : List (List S117)) (i : Nat) : List Bool := (List.range 256).map fun b : Nat => anyI x i b
noncomputable def allJ (x : List (List S117)) (i b : Nat) : List Bool := (List.range 256).map fun c : Nat => anyI x i c || (decide (c < b) && hasB (partAt x i) (c : Int))
theorem allI_zero (x : List (List S117)) : List.replicate 256 false = allI x 0 := by
  rw [repl_map]; unfold allI
  congr 1
  funext b
  rw [anyI_zero]
theorem allJ_zero (x : List (List S117)) (i : Nat) : allJ x i 0 = allI x i := by
  unfold allJ allI
  congr 1
  funext c
  simp
theorem allJ_end (x : List (List S117)) (i : Nat) : allJ x i 256 = allI x (i + 1) := by
  unfold allJ allI
  apply List.map_congr_left
  intro c hc
  rw [List.mem_range] at hc
  rw [anyI_succ, decide_eq_true hc, Bool.true_and]
theorem allJ_yes (x : List (List S117)) (i b : Nat) (hb : b < 256) (h : hasB (partAt x i) (b : Int) = true) : setB 256 (allJ x i b) (b : Int) true = allJ x i (b + 1) := by
  unfold setB
  rw [padB_self _ _ (by unfold allJ; rw [List.length_map, List.length_range]), Int.toNat_natCast]
  apply List.ext_getElem
  · unfold allJ; rw [List.length_set, List.length_map, List.length_map]
  · intro c h1 h2
    unfold allJ at h1 h2 ⊢
    rw [List.getElem_set]
    simp only [List.getElem_map, List.getElem_range]
    by_cases hc : b = c
    · subst hc
      rw [if_pos rfl, h, decide_eq_true (Nat.lt_succ_self _), Bool.true_and, Bool.or_true]
    · rw [if_neg hc]
      congr 2
      by_cases h3 : c < b
      · rw [decide_eq_true h3, decide_eq_true (show c < b + 1 by omega)]
      · rw [decide_eq_false h3, decide_eq_false (show ¬ c < b + 1 by omega)]
theorem allJ_no (x : List (List S117)) (i b : Nat) (h : hasB (partAt x i) (b : Int) = false) : allJ x i b = allJ x i (b + 1) := by
  unfold allJ
  congr 1
  funext c
  congr 1
  by_cases hc : b = c
  · subst hc; rw [h, Bool.and_false, Bool.and_false]
  · congr 1
    by_cases h3 : c < b
    · rw [decide_eq_true h3, decide_eq_true (show c < b + 1 by omega)]
    · rw [decide_eq_false h3, decide_eq_false (show ¬ c < b + 1 by omega)]
noncomputable def lastI (x : List (List S117)) : Nat → Int
  | 0 => -1
  | i + 1 => (spanAt (partAt x i) 0).f0
theorem impl_parts_ev {x : List (List S117)} {r : List (List Int)} {a : List Int} (d : DfaB x r a) :
    ((∀ i, i < x.length → PartQ x i) → ∀ s, Ev (fun k => impl_DfaOk.l0 k (lastI x x.length) (cntI x x.length : Nat) x (x.length : Int) (x.length : Int) x r a (allI x x.length)) s → Ev (fun k => impl_DfaOk.f k x r a) s) ∧
    ((∃ i, i < x.length ∧ ¬ PartQ x i) → Ev (fun k => impl_DfaOk.f k x r a) false) := by
  have hx0 := d.p0
  have hf : ∀ k, impl_DfaOk.f k x r a = impl_DfaOk.l0 k (lastI x 0) (cntI x 0 : Nat) x (x.length : Int) 0 x r a (allI x 0) := by
    intro k
    unfold impl_DfaOk.f
    rw [← allI_zero, cntI_zero]
    rfl
  simp only [hf]
  refine loop_ev (fun k (s : Int × Nat × List Bool) i => impl_DfaOk.l0 k s.1 (s.2.1 : Int) x (x.length : Int) i x r a s.2.2) x.length (fun i => (lastI x i, cntI x i, allI x i)) (PartQ x) false (fun i hi hbelow => ?_)
  obtain ⟨p, hp⟩ : ∃ y, y = partAt x i := ⟨_, rfl⟩
  have hpl : p.length * 16 ≤ 140737488351232 := by rw [hp]; exact partAt_le d.p1 hi
  obtain ⟨K0, hK0⟩ := impl_SetOk_ev p hpl
  obtain ⟨K1, hK1⟩ := impl_bitsOf_ev p hpl
  dsimp only at hK0 hK1
  have hrd : rd_L6 x (i : Int) = p := hp.symm
  show (PartQ x i → ∀ s, Ev (fun k => impl_DfaOk.l0 k (lastI x (i + 1)) (cntI x (i + 1) : Nat) x (x.length : Int) ((i + 1 : Nat) : Int) x r a (allI x (i + 1))) s → Ev (fun k => impl_DfaOk.l0 k (lastI x i) (cntI x i : Nat) x (x.length : Int) (i : Int) x r a (allI x i)) s) ∧ (¬ PartQ x i → Ev (fun k => impl_DfaOk.l0 k (lastI x i) (cntI x i : Nat) x (x.length : Int) (i : Int) x r a (allI x i)) false)
  have bad : Ev (fun k => impl_DfaOk.j1 k (cntI x i : Nat) p x (x.length : Int) (i : Int) true x r a (allI x i)) false := Ev.ofSucc (g := fun k => impl_DfaOk.j1 k (cntI x i : Nat) p x (x.length : Int) (i : Int) true x r a (allI x i)) (fun k => by simp only [impl_DfaOk.j1, ↓reduceIte])
  by_cases c1 : SetP p
  · by_cases c2 : p.length = 0
    · refine ⟨fun hQ => absurd (hp ▸ c2) hQ.2.1, fun _ => ?_⟩
      refine Ev.late (g := fun k => impl_DfaOk.l0 k (lastI x i) (cntI x i : Nat) x (x.length : Int) (i : Int) x r a (allI x i)) ⟨K0, fun k hk => ?_⟩ bad
      simp only [impl_DfaOk.l0]
      rw [hrd, if_pos (by omega), if_pos (by omega), if_pos (by omega), hK0 k hk, Option.bind_some, yes_pos c1, if_pos rfl, if_pos (by omega)]
    · have hlast : ((spanAt p 0).f0 ≤ lastI x i) ↔ ¬ (0 < i → (spanAt (partAt x (i - 1)) 0).f0 < (spanAt p 0).f0) := by
        cases i with
        | zero =>
          obtain ⟨q1, _⟩ := c1 0 (by omega)
          have q1' : 0 ≤ (spanAt p 0).f0 := q1
          show (spanAt p 0).f0 ≤ -1 ↔ _
          exact ⟨fun h => by omega, fun h => absurd (fun h0 => absurd h0 (Nat.lt_irrefl 0)) h⟩
        | succ i =>
          show (spanAt p 0).f0 ≤ (spanAt (partAt x i) 0).f0 ↔ _
          have e : i + 1 - 1 = i := rfl
          rw [e]
          exact ⟨fun h h2 => by have := h2 (Nat.succ_pos _); omega, fun h => by
            rcases Int.lt_or_le (spanAt (partAt x i) 0).f0 (spanAt p 0).f0 with h3 | h3
            · exact absurd (fun _ => h3) h
            · exact h3⟩
      have toJ : ∀ s, Ev (fun k => impl_DfaOk.j1 k (cntI x i : Nat) p x (x.length : Int) (i : Int) (decide ((spanAt p 0).f0 ≤ lastI x i)) x r a (allI x i)) s → Ev (fun k => impl_DfaOk.l0 k (lastI x i) (cntI x i : Nat) x (x.length : Int) (i : Int) x r a (allI x i)) s := by
        intro s hs
        refine Ev.late (g := fun k => impl_DfaOk.l0 k (lastI x i) (cntI x i : Nat) x (x.length : Int) (i : Int) x r a (allI x i)) ⟨K0, fun k hk => ?_⟩ hs
        simp only [impl_DfaOk.l0]
        rw [hrd, if_pos (by omega), if_pos (by omega), if_pos (by omega), hK0 k hk, Option.bind_some, yes_pos c1, if_pos rfl, if_neg (by omega), if_pos (by omega)]
      by_cases c3 : (spanAt p 0).f0 ≤ lastI x i
      · refine ⟨fun hQ => absurd (hp ▸ hQ.2.2.1) (hlast.1 c3), fun _ => toJ false ?_⟩
        rw [decide_eq_true c3]; exact bad
      · have c3' : 0 < i → (spanAt (partAt x (i - 1)) 0).f0 < (spanAt p 0).f0 := Classical.byContradiction fun h => c3 (hlast.2 h)
        have hcn := cntI_le x i
        have inner := loop_ev (fun k (s : Nat × List Bool) b => impl_DfaOk.l1 k (spanAt p 0).f0 (s.1 : Int) x (x.length : Int) (i : Int) (bitsL p) b x r a s.2) 256 (fun b => (cntI x i + cnt (fun c : Nat => hasB p (c : Int)) b, allJ x i b)) (fun b => ¬ (hasB p (b : Int) = true ∧ anyI x i b = true)) false
          (fun b hb _ => by
            have hcb := cnt_le (fun c : Nat => hasB p (c : Int)) b
            have hg := getB_bitsL p b hb
            have hg2 : getB (allJ x i b) (b : Int) = anyI x i b := by
              unfold allJ
              rw [getB_map _ b hb, decide_eq_false (Nat.lt_irrefl _), Bool.false_and, Bool.or_false]
            show (¬ (hasB p (b : Int) = true ∧ anyI x i b = true) → ∀ s, Ev (fun k => impl_DfaOk.l1 k (spanAt p 0).f0 ((cntI x i + (cnt (fun c : Nat => hasB p (c : Int)) b + (if hasB p (b : Int) = true then 1 else 0)) : Nat) : Int) x (x.length : Int) (i : Int) (bitsL p) ((b + 1 : Nat) : Int) x r a (allJ x i (b + 1))) s → Ev (fun k => impl_DfaOk.l1 k (spanAt p 0).f0 ((cntI x i + cnt (fun c : Nat => hasB p (c : Int)) b : Nat) : Int) x (x.length : Int) (i : Int) (bitsL p) (b : Int) x r a (allJ x i b)) s) ∧ (¬ ¬ (hasB p (b : Int) = true ∧ anyI x i b = true) → Ev (fun k => impl_DfaOk.l1 k (spanAt p 0).f0 ((cntI x i + cnt (fun c : Nat => hasB p (c : Int)) b : Nat) : Int) x (x.length : Int) (i : Int) (bitsL p) (b : Int) x r a (allJ x i b)) false)
            by_cases hh : hasB p (b : Int) = true
            · have to3 : ∀ s, Ev (fun k => impl_DfaOk.j3 k (spanAt p 0).f0 ((cntI x i + cnt (fun c : Nat => hasB p (c : Int)) b : Nat) : Int) (b : Int) true x (x.length : Int) (i : Int) (bitsL p) (b : Int) (anyI x i b) x r a (allJ x i b)) s → Ev (fun k => impl_DfaOk.l1 k (spanAt p 0).f0 ((cntI x i + cnt (fun c : Nat => hasB p (c : Int)) b : Nat) : Int) x (x.length : Int) (i : Int) (bitsL p) (b : Int) x r a (allJ x i b)) s := by
                intro s hs
                refine Ev.late (g := fun k => impl_DfaOk.l1 k (spanAt p 0).f0 ((cntI x i + cnt (fun c : Nat => hasB p (c : Int)) b : Nat) : Int) x (x.length : Int) (i : Int) (bitsL p) (b : Int) x r a (allJ x i b)) ⟨0, fun k _ => ?_⟩ hs
                simp only [impl_DfaOk.l1]
                rw [if_pos (by omega), if_pos (by omega), hg, hh, if_pos rfl, hg2]
              constructor
              · intro hq s hs
                have ha : anyI x i b = false := Bool.eq_false_iff.2 fun h => hq ⟨hh, h⟩
                refine to3 s ?_
                rw [ha]
                rw [if_pos hh] at hs
                refine Ev.late (g := fun k => impl_DfaOk.j3 k (spanAt p 0).f0 ((cntI x i + cnt (fun c : Nat => hasB p (c : Int)) b : Nat) : Int) (b : Int) true x (x.length : Int) (i : Int) (bitsL p) (b : Int) false x r a (allJ x i b)) ⟨0, fun k _ => ?_⟩ hs
                simp only [impl_DfaOk.j3]
                rw [if_neg (by simp), if_pos trivial, if_pos (by omega), if_pos (by omega), wrap_nat (by omega), wrap_nat (by omega), allJ_yes x i b hb (hp ▸ hh), Nat.add_assoc]
              · intro hq
                have ha : anyI x i b = true := (Classical.not_not.1 hq).2
                refine to3 false ?_
                rw [ha]
                exact Ev.ofSucc (g := fun k => impl_DfaOk.j3 k (spanAt p 0).f0 ((cntI x i + cnt (fun c : Nat => hasB p (c : Int)) b : Nat) : Int) (b : Int) true x (x.length : Int) (i : Int) (bitsL p) (b : Int) true x r a (allJ x i b)) (fun k => by simp only [impl_DfaOk.j3, ↓reduceIte])
            · have hh' : hasB p (b : Int) = false := Bool.eq_false_iff.2 hh
              refine ⟨fun _ s hs => ?_, fun hq => absurd (Classical.not_not.1 hq).1 hh⟩
              rw [if_neg hh, Nat.add_zero] at hs
              refine Ev.late (g := fun k => impl_DfaOk.l1 k (spanAt p 0).f0 ((cntI x i + cnt (fun c : Nat => hasB p (c : Int)) b : Nat) : Int) x (x.length : Int) (i : Int) (bitsL p) (b : Int) x r a (allJ x i b)) (f := fun k => impl_DfaOk.j3 k (spanAt p 0).f0 ((cntI x i + cnt (fun c : Nat => hasB p (c : Int)) b : Nat) : Int) (b : Int) false x (x.length : Int) (i : Int) (bitsL p) (b : Int) false x r a (allJ x i b)) ⟨0, fun k _ => ?_⟩ ?_
              · simp only [impl_DfaOk.l1]
                rw [if_pos (by omega), if_pos (by omega), hg, hh', if_neg (by simp)]
              · refine Ev.late (g := fun k => impl_DfaOk.j3 k (spanAt p 0).f0 ((cntI x i + cnt (fun c : Nat => hasB p (c : Int)) b : Nat) : Int) (b : Int) false x (x.length : Int) (i : Int) (bitsL p) (b : Int) false x r a (allJ x i b)) ⟨0, fun k _ => ?_⟩ hs
                simp only [impl_DfaOk.j3]
                rw [if_neg (by simp), if_neg (by simp), wrap_nat (by omega), allJ_no x i b (hp ▸ hh')])
        have toL : ∀ s, Ev (fun k => impl_DfaOk.l1 k (spanAt p 0).f0 (cntI x i : Nat) x (x.length : Int) (i : Int) (bitsL p) 0 x r a (allI x i)) s → Ev (fun k => impl_DfaOk.l0 k (lastI x i) (cntI x i : Nat) x (x.length : Int) (i : Int) x r a (allI x i)) s := by
          intro s hs
          refine toJ s ?_
          rw [decide_eq_false c3]
          refine Ev.late (g := fun k => impl_DfaOk.j1 k (cntI x i : Nat) p x (x.length : Int) (i : Int) false x r a (allI x i)) ⟨K1, fun k hk => ?_⟩ hs
          simp only [impl_DfaOk.j1]
          rw [if_neg (by simp), if_pos (by omega), hK1 k hk, Option.bind_some]
        dsimp only at inner
        have hc0 : cnt (fun c : Nat => hasB p (c : Int)) 0 = 0 := by unfold cnt; rfl
        rw [hc0, Nat.add_zero, allJ_zero] at inner
        constructor
        · intro hQ s hs
          refine toL s (inner.1 (fun b hb ⟨h1, h2⟩ => ?_) s ?_)
          · obtain ⟨j, hj, h3⟩ := yes_iff.1 h2
            exact hQ.2.2.2 j hj ⟨b, hb, hp ▸ yes_iff.1 h1, h3⟩
          · refine Ev.late (g := fun k => impl_DfaOk.l1 k (spanAt p 0).f0 ((cntI x i + cnt (fun c : Nat => hasB p (c : Int)) 256 : Nat) : Int) x (x.length : Int) (i : Int) (bitsL p) (256 : Nat) x r a (allJ x i 256)) ⟨0, fun k _ => ?_⟩ hs
            simp only [impl_DfaOk.l1]
            rw [if_neg (by omega), wrap_nat (by omega), allJ_end, cntI_succ x i hQ.2.2.2, ← hp]
            show _ = impl_DfaOk.l0 k (spanAt (partAt x i) 0).f0 _ _ _ _ _ _ _ _
            rw [← hp]
        · intro hQ
          refine toL false (inner.2 ?_)
          refine Classical.byContradiction fun hn => hQ ⟨hp ▸ c1, hp ▸ c2, hp ▸ c3', fun j hj ⟨b, hb, h1, h2⟩ => hn ⟨b, hb, fun hq => hq ⟨yes_pos (hp ▸ h1), yes_pos ⟨j, hj, h2⟩⟩⟩⟩
  · refine ⟨fun hQ => absurd (hp ▸ hQ.1) c1, fun _ => ?_⟩
    refine Ev.late (g := fun k => impl_DfaOk.l0 k (lastI x i) (cntI x i : Nat) x (x.length : Int) (i : Int) x r a (allI x i)) ⟨K0, fun k hk => ?_⟩ bad
    simp only [impl_DfaOk.l0]
    rw [hrd, if_pos (by omega), if_pos (by omega), if_pos (by omega), hK0 k hk, Option.bind_some, yes_neg c1, if_neg (by simp)]
theorem impl_DfaOk_ev {x : List (List S117)} {r : List (List Int)} {a : List Int} (d : DfaB x r a) : Ev (fun k => impl_DfaOk.f k x r a) (yes (DfaP x r a)) := by
  by_cases h : ∀ i, i < x.length → PartQ x i
  · refine (impl_parts_ev d).1 h _ ((impl_tail_ev d _ _ _).eqs (yes_congr ⟨fun h2 => ⟨h, h2⟩, fun h2 => h2.2⟩))
  · rw [yes_neg fun h2 => h h2.1]
    exact (impl_parts_ev d).2 (Classical.byContradiction fun hn => h fun i hi => Classical.byContradiction fun hq => hn ⟨i, hi, hq⟩)
end Go.Proofs.Ytigmibfacllhmaa.P
