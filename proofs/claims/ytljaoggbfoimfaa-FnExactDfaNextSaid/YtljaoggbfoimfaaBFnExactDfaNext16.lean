/- FnExactDfaNext, part 17 of 18: the functions that it reaches as plain Lean functions, that the program's functions compute them, and what they come to. Conditions: stated at each theorem. -/
import Derived.KernelRfl
import Derived.Test.YtljaoggbfoimfaaBFnExactDfaNext0
import Derived.Test.YtljaoggbfoimfaaBFnExactDfaNext1
import Derived.Test.YtljaoggbfoimfaaBFnExactDfaNext13
import Derived.Test.YtljaoggbfoimfaaBFnExactDfaNext14
import Derived.Test.YtljaoggbfoimfaaBFnExactDfaNext15
namespace Go.Proofs.Ytljaoggbfoimfaa.P
open Go.RowKit Go.Proofs.YtljaoggbfoimfaaW.PrintWords Go.Proofs.YtljaoggbfoimfaaW.PrintLast Go.Proofs.YtljaoggbfoimfaaW.PrintMore
attribute [local go_sem] max2_int min2_int max_two min_two max_three min_three max_four min_four   -- for this text's walks alone
set_option linter.unusedVariables false
set_option linter.unusedSimpArgs false
mutual
def spec_DfaOk.j0 : Nat → Bool → List (List (S115)) → List (List Int) → List Int → Option (Bool)
  | 0, _, _, _, _ => none
  | k + 1, x29, x722000, x722001, x722002 => if x29 = true then (some false) else (spec_DfaOk.l0 k 0 x722000 x722001 x722002)
def spec_DfaOk.l0 : Nat → Int → List (List (S115)) → List (List Int) → List Int → Option (Bool)
  | 0, _, _, _, _ => none
  | k + 1, x3, x722000, x722001, x722002 => if x3 < (x722001.length : Int) then (if 0 ≤ x3 then (if ((rd_L14 x722001 x3).length : Int) = (x722000.length : Int) then (if x3 < (x722002.length : Int) then (if (rd x722002 x3) < (-1) then (spec_DfaOk.j2 k x3 true x722000 x722001 x722002) else (spec_DfaOk.j2 k x3 (decide ((rd x722002 x3) ≥ 5)) x722000 x722001 x722002)) else (none)) else (spec_DfaOk.j2 k x3 true x722000 x722001 x722002)) else (none)) else (some true)
def spec_DfaOk.j2 : Nat → Int → Bool → List (List (S115)) → List (List Int) → List Int → Option (Bool)
  | 0, _, _, _, _, _ => none
  | k + 1, x3, x62, x722000, x722001, x722002 => if x62 = true then (some false) else (spec_DfaOk.l1 k x3 0 x722000 x722001 x722002)
def spec_DfaOk.l1 : Nat → Int → Int → List (List (S115)) → List (List Int) → List Int → Option (Bool)
  | 0, _, _, _, _, _ => none
  | k + 1, x3, x4, x722000, x722001, x722002 => if 0 ≤ x3 then (if x3 < (x722001.length : Int) then (if x4 < ((rd_L14 x722001 x3).length : Int) then (if 0 ≤ x4 then (if (rd (rd_L14 x722001 x3) x4) < (-1) then (some false) else (if (rd (rd_L14 x722001 x3) x4) ≥ (x722001.length : Int) then (some false) else (spec_DfaOk.l1 k x3 (wrap64 (x4 + 1)) x722000 x722001 x722002))) else (none)) else (spec_DfaOk.l0 k (wrap64 (x3 + 1)) x722000 x722001 x722002)) else (none)) else (none)
end
def spec_DfaOk.f (k : Nat) (l0_0 : List (List (S115))) (l0_1 : List (List Int)) (l0_2 : List Int) : Option (Bool) := (spec_l7Parts.f k l0_0).bind fun t722 => (if t722 = true then (if (l0_1.length : Int) < 1 then (spec_DfaOk.j0 k true l0_0 l0_1 l0_2) else (if (l0_1.length : Int) > 40 then (spec_DfaOk.j0 k true l0_0 l0_1 l0_2) else (spec_DfaOk.j0 k ((l0_2.length : Int) != (l0_1.length : Int)) l0_0 l0_1 l0_2))) else (spec_DfaOk.j0 k true l0_0 l0_1 l0_2))
theorem spec_DfaOk.mono_l : ∀ k, (∀ y0 y1 y2 y3, LeO (spec_DfaOk.j0 k y0 y1 y2 y3) (spec_DfaOk.j0 (k + 1) y0 y1 y2 y3)) ∧ (∀ y0 y1 y2 y3, LeO (spec_DfaOk.l0 k y0 y1 y2 y3) (spec_DfaOk.l0 (k + 1) y0 y1 y2 y3)) ∧ (∀ y0 y1 y2 y3 y4, LeO (spec_DfaOk.j2 k y0 y1 y2 y3 y4) (spec_DfaOk.j2 (k + 1) y0 y1 y2 y3 y4)) ∧ (∀ y0 y1 y2 y3 y4, LeO (spec_DfaOk.l1 k y0 y1 y2 y3 y4) (spec_DfaOk.l1 (k + 1) y0 y1 y2 y3 y4))
  | 0 => ⟨fun _ _ _ _ r h => by simp [spec_DfaOk.j0] at h, fun _ _ _ _ r h => by simp [spec_DfaOk.l0] at h, fun _ _ _ _ _ r h => by simp [spec_DfaOk.j2] at h, fun _ _ _ _ _ r h => by simp [spec_DfaOk.l1] at h⟩
  | k + 1 => by
    obtain ⟨ih0, ih1, ih2, ih3⟩ := spec_DfaOk.mono_l k
    refine ⟨?_, ?_, ?_, ?_⟩
    · intro y0 y1 y2 y3
      unfold spec_DfaOk.j0
      repeat' first
      | (with_reducible exact ih0 _ _ _ _)
      | (with_reducible exact ih1 _ _ _ _)
      | (with_reducible exact ih2 _ _ _ _ _)
      | (with_reducible exact ih3 _ _ _ _ _)
      | (with_reducible exact spec_l7Parts.mono _ _)
      | (with_reducible exact LeO.refl _)
      | (with_reducible exact LeO.none _)
      | (with_reducible refine LeO.ite ?_ ?_)
      | (with_reducible refine LeO.bind ?_ (fun _ => ?_))
      | exact ih0 _ _ _ _
      | exact ih1 _ _ _ _
      | exact ih2 _ _ _ _ _
      | exact ih3 _ _ _ _ _
      | exact spec_l7Parts.mono _ _
      | exact LeO.none _
      | refine LeO.ite ?_ ?_
      | refine LeO.bind ?_ (fun _ => ?_)
    · intro y0 y1 y2 y3
      unfold spec_DfaOk.l0
      repeat' first
      | (with_reducible exact ih0 _ _ _ _)
      | (with_reducible exact ih1 _ _ _ _)
      | (with_reducible exact ih2 _ _ _ _ _)
      | (with_reducible exact ih3 _ _ _ _ _)
      | (with_reducible exact spec_l7Parts.mono _ _)
      | (with_reducible exact LeO.refl _)
      | (with_reducible exact LeO.none _)
      | (with_reducible refine LeO.ite ?_ ?_)
      | (with_reducible refine LeO.bind ?_ (fun _ => ?_))
      | exact ih0 _ _ _ _
      | exact ih1 _ _ _ _
      | exact ih2 _ _ _ _ _
      | exact ih3 _ _ _ _ _
      | exact spec_l7Parts.mono _ _
      | exact LeO.none _
      | refine LeO.ite ?_ ?_
      | refine LeO.bind ?_ (fun _ => ?_)
    · intro y0 y1 y2 y3 y4
      unfold spec_DfaOk.j2
      repeat' first
      | (with_reducible exact ih0 _ _ _ _)
      | (with_reducible exact ih1 _ _ _ _)
      | (with_reducible exact ih2 _ _ _ _ _)
      | (with_reducible exact ih3 _ _ _ _ _)
      | (with_reducible exact spec_l7Parts.mono _ _)
      | (with_reducible exact LeO.refl _)
      | (with_reducible exact LeO.none _)
      | (with_reducible refine LeO.ite ?_ ?_)
      | (with_reducible refine LeO.bind ?_ (fun _ => ?_))
      | exact ih0 _ _ _ _
      | exact ih1 _ _ _ _
      | exact ih2 _ _ _ _ _
      | exact ih3 _ _ _ _ _
      | exact spec_l7Parts.mono _ _
      | exact LeO.none _
      | refine LeO.ite ?_ ?_
      | refine LeO.bind ?_ (fun _ => ?_)
    · intro y0 y1 y2 y3 y4
      unfold spec_DfaOk.l1
      repeat' first
      | (with_reducible exact ih0 _ _ _ _)
      | (with_reducible exact ih1 _ _ _ _)
      | (with_reducible exact ih2 _ _ _ _ _)
      | (with_reducible exact ih3 _ _ _ _ _)
      | (with_reducible exact spec_l7Parts.mono _ _)
      | (with_reducible exact LeO.refl _)
      | (with_reducible exact LeO.none _)
      | (with_reducible refine LeO.ite ?_ ?_)
      | (with_reducible refine LeO.bind ?_ (fun _ => ?_))
      | exact ih0 _ _ _ _
      | exact ih1 _ _ _ _
      | exact ih2 _ _ _ _ _
      | exact ih3 _ _ _ _ _
      | exact spec_l7Parts.mono _ _
      | exact LeO.none _
      | refine LeO.ite ?_ ?_
      | refine LeO.bind ?_ (fun _ => ?_)
theorem spec_DfaOk.mono : ∀ a0 a1 a2 k, LeO (spec_DfaOk.f k a0 a1 a2) (spec_DfaOk.f (k + 1) a0 a1 a2) := by
  intro a0 a1 a2 k
  obtain ⟨ih0, ih1, ih2, ih3⟩ := spec_DfaOk.mono_l k
  unfold spec_DfaOk.f
  repeat' first
      | (with_reducible exact ih0 _ _ _ _)
      | (with_reducible exact ih1 _ _ _ _)
      | (with_reducible exact ih2 _ _ _ _ _)
      | (with_reducible exact ih3 _ _ _ _ _)
      | (with_reducible exact spec_l7Parts.mono _ _)
      | (with_reducible exact LeO.refl _)
      | (with_reducible exact LeO.none _)
      | (with_reducible refine LeO.ite ?_ ?_)
      | (with_reducible refine LeO.bind ?_ (fun _ => ?_))
      | exact ih0 _ _ _ _
      | exact ih1 _ _ _ _
      | exact ih2 _ _ _ _ _
      | exact ih3 _ _ _ _ _
      | exact spec_l7Parts.mono _ _
      | exact LeO.none _
      | refine LeO.ite ?_ ?_
      | refine LeO.bind ?_ (fun _ => ?_)
set_option maxHeartbeats 8000000 in
set_option maxRecDepth 100000 in
theorem spec_DfaOk.calls (k : Nat) (A0_0 : Option Addr) (c0_0 : Nat) (l0_0 : List (List (S115))) (A0_1 : Option Addr) (c0_1 : Nat) (l0_1 : List (List Int)) (A0_2 : Option Addr) (c0_2 : Nat) (l0_2 : List Int) (r : Bool) (w : World) (hr0_0 : Kd.C (Kd.slice 115 k115) w A0_0 l0_0.length l0_0) (hc0_0 : l0_0.length ≤ c0_0) (hr0_1 : Kd.C (Kd.slice 3 (Kd.int .i64)) w A0_1 l0_1.length l0_1) (hc0_1 : l0_1.length ≤ c0_1) (hr0_2 : Kd.C (Kd.int .i64) w A0_2 l0_2.length l0_2) (hc0_2 : l0_2.length ≤ c0_2) (h : spec_DfaOk.f k l0_0 l0_1 l0_2 = some r) :
    Calls Try.prog 47 #[.agg #[.slice A0_0 l0_0.length c0_0, .slice A0_1 l0_1.length c0_1, .slice A0_2 l0_2.length c0_2]] w fun e w' => e = .returned (.bool r) ∧ Below w.heap.size w w' := by
  have hu55 := Try.underlying55
  have HR0_0 := Aside0.mk hr0_0
  have HC0_0 := Aside0.mk hc0_0
  clear hr0_0 hc0_0
  have HR0_1 := Aside0.mk hr0_1
  have HC0_1 := Aside0.mk hc0_1
  clear hr0_1 hc0_1
  have HR0_2 := Aside0.mk hr0_2
  have HC0_2 := Aside0.mk hc0_2
  clear hr0_2 hc0_2
  have HB := Aside0.mk (Below.refl w.heap.size w)
  have H : ((spec_l7Parts.f k l0_0).bind fun t722 => (if t722 = true then (if (l0_1.length : Int) < 1 then (spec_DfaOk.j0 k true l0_0 l0_1 l0_2) else (if (l0_1.length : Int) > 40 then (spec_DfaOk.j0 k true l0_0 l0_1 l0_2) else (spec_DfaOk.j0 k ((l0_2.length : Int) != (l0_1.length : Int)) l0_0 l0_1 l0_2))) else (spec_DfaOk.j0 k true l0_0 l0_1 l0_2))) = some r := h
  clear h
  have HC2 := Aside0.mk H
  clear H
  go_enter Try.func47, Try.ntmps47
  go_upto_region 1 with (first | ((with_reducible refine gate_dst (N := 1) rfl ?_); (try (refine gate_guard (by rfl) ?_; dsimp only)); refine box_event ?hg (N := 1) ?hd (cs := #[.slice A0_0 l0_0.length c0_0, .slice A0_1 l0_1.length c0_1, .slice A0_2 l0_2.length c0_2]) (t := 55) ?hr ?_; (case hd => rfl); (case hg => rfl); (case hr => first | (go_simp; done) | (go_simp; rfl)); intro gb721 hg w3 hbox hb; have n0_ := Aside0.mk (below_step (by repeat (first | (with_reducible first | exact HB.out | apply below_alloc | apply pw_below_drewN | apply below_drew1) | exact HB.out)) hb); have n1_ := Aside0.mk (hbox); have n2_ := Aside0.mk ((by rw [hg]; exact (below_size (by repeat (first | (with_reducible first | exact HB.out | apply below_alloc | apply pw_below_drewN | apply below_drew1) | exact HB.out))) : w.heap.size ≤ gb721)); have n3_ := Aside0.mk ((by rw [hg]; exact (below_size (by repeat (first | (with_reducible first | exact HB.out | apply below_alloc | apply pw_below_drewN | apply below_drew1) | exact HB.out))) : w.heap.size ≤ gb721)); clear HB; have HB := n0_; have BK721 := n1_; have GW721 := n2_; have GE721 := n3_; clear n0_ n1_ n2_ n3_; clear hb hbox hg))
  repeat (go_quiet (first | ((with_reducible refine gate_dst (N := 1) rfl ?_); (try (refine gate_guard (by rfl) ?_; dsimp only)); refine box_event ?hg (N := 1) ?hd (cs := #[.slice A0_0 l0_0.length c0_0, .slice A0_1 l0_1.length c0_1, .slice A0_2 l0_2.length c0_2]) (t := 55) ?hr ?_; (case hd => rfl); (case hg => rfl); (case hr => first | (go_simp; done) | (go_simp; rfl)); intro gb721 hg w3 hbox hb; have n0_ := Aside0.mk (below_step (by repeat (first | (with_reducible first | exact HB.out | apply below_alloc | apply pw_below_drewN | apply below_drew1) | exact HB.out)) hb); have n1_ := Aside0.mk (hbox); have n2_ := Aside0.mk ((by rw [hg]; exact (below_size (by repeat (first | (with_reducible first | exact HB.out | apply below_alloc | apply pw_below_drewN | apply below_drew1) | exact HB.out))) : w.heap.size ≤ gb721)); have n3_ := Aside0.mk ((by rw [hg]; exact (below_size (by repeat (first | (with_reducible first | exact HB.out | apply below_alloc | apply pw_below_drewN | apply below_drew1) | exact HB.out))) : w.heap.size ≤ gb721)); clear HB; have HB := n0_; have BK721 := n1_; have GW721 := n2_; have GE721 := n3_; clear n0_ n1_ n2_ n3_; clear hb hbox hg)); go_upto_region 1 with (first | ((with_reducible refine gate_dst (N := 1) rfl ?_); (try (refine gate_guard (by rfl) ?_; dsimp only)); refine box_event ?hg (N := 1) ?hd (cs := #[.slice A0_0 l0_0.length c0_0, .slice A0_1 l0_1.length c0_1, .slice A0_2 l0_2.length c0_2]) (t := 55) ?hr ?_; (case hd => rfl); (case hg => rfl); (case hr => first | (go_simp; done) | (go_simp; rfl)); intro gb721 hg w3 hbox hb; have n0_ := Aside0.mk (below_step (by repeat (first | (with_reducible first | exact HB.out | apply below_alloc | apply pw_below_drewN | apply below_drew1) | exact HB.out)) hb); have n1_ := Aside0.mk (hbox); have n2_ := Aside0.mk ((by rw [hg]; exact (below_size (by repeat (first | (with_reducible first | exact HB.out | apply below_alloc | apply pw_below_drewN | apply below_drew1) | exact HB.out))) : w.heap.size ≤ gb721)); have n3_ := Aside0.mk ((by rw [hg]; exact (below_size (by repeat (first | (with_reducible first | exact HB.out | apply below_alloc | apply pw_below_drewN | apply below_drew1) | exact HB.out))) : w.heap.size ≤ gb721)); clear HB; have HB := n0_; have BK721 := n1_; have GW721 := n2_; have GE721 := n3_; clear n0_ n1_ n2_ n3_; clear hb hbox hg)))
  (try simp only [Act.put, List.setIfInBounds_toArray, List.set_cons_zero, List.set_cons_succ])
  go_cut [29] (fun v29 wc => ∃ (kq : Nat) (x29_1 : Bool), v29 = .bool x29_1 ∧ Aside0 (spec_DfaOk.j0 kq x29_1 l0_0 l0_1 l0_2 = some r) ∧ Aside0 (kq ≤ k) ∧ Aside0 (wc.heap[gb721]? = some (.cells #[(.slice A0_0 l0_0.length c0_0), (.slice A0_1 l0_1.length c0_1), (.slice A0_2 l0_2.length c0_2)] 55 (0, 0))) ∧ Aside0 (Below w.heap.size w wc))
  case first =>
    have H := HC2.out
    clear HC2
    replace H := Option.bind_eq_some_iff.mp H
    obtain ⟨t722, A40, H⟩ := H
    replace H : (if t722 = true then (if (l0_1.length : Int) < 1 then (spec_DfaOk.j0 k true l0_0 l0_1 l0_2) else (if (l0_1.length : Int) > 40 then (spec_DfaOk.j0 k true l0_0 l0_1 l0_2) else (spec_DfaOk.j0 k ((l0_2.length : Int) != (l0_1.length : Int)) l0_0 l0_1 l0_2))) else (spec_DfaOk.j0 k true l0_0 l0_1 l0_2)) = some r := H
    have A4 := Aside0.mk A40
    clear A40
    by_cases c5 : t722 = true
    · subst c5
      have H1 : (if (l0_1.length : Int) < 1 then (spec_DfaOk.j0 k true l0_0 l0_1 l0_2) else (if (l0_1.length : Int) > 40 then (spec_DfaOk.j0 k true l0_0 l0_1 l0_2) else (spec_DfaOk.j0 k ((l0_2.length : Int) != (l0_1.length : Int)) l0_0 l0_1 l0_2))) = some r := by rw [if_pos rfl] at H; exact H
      clear H
      have H := H1
      clear H1
      by_cases c6 : (l0_1.length : Int) < 1
      · rw [if_pos c6] at H
        have c6b0 : decide ((l0_1.length : Int) < 1) = true := decide_eq_true c6
        have c6b1 : decide (l0_1.length < 1) = true := decide_eq_true (by omega)
        clear c6
        (first | rw [c6b0] | (simp only [i64_w, i32_w]; rw [c6b0]) | skip)
        have H' := Aside0.mk H
        clear H
        have hcz7_0 : w3.cell? ⟨gb721, 0, none⟩ = some (.slice A0_0 l0_0.length c0_0) := (blk_cell BK721.out 0).trans rfl
        have hcz7_1 : w3.cell? ⟨gb721, 1, none⟩ = some (.slice A0_1 l0_1.length c0_1) := (blk_cell BK721.out 1).trans rfl
        have hcz7_2 : w3.cell? ⟨gb721, 2, none⟩ = some (.slice A0_2 l0_2.length c0_2) := (blk_cell BK721.out 2).trans rfl
        have hfz7_0 := blk_frozen BK721.out 0
        have hfz7_1 := blk_frozen BK721.out 1
        have hfz7_2 := blk_frozen BK721.out 2
        go_wp2_with (first | (go_at_call 85; (with_reducible refine (spec_l7Parts.calls k _ _ l0_0 true _ ?side1 ?side2 A4.out).mono ?_); (case side1 => repeat (first | exact (Kd.C_below HR0_0.out HB.out) | (with_reducible refine Kd.C_alloc ?_ _) | (with_reducible refine Kd.C_drewN ?_ _) | (with_reducible refine Kd.C_drew ?_))); (case side2 => exact HC0_0.out); rintro e w8 ⟨rfl, hb⟩; have n0_ := Aside0.mk (blk_below (g := gb721) (o := .cells #[.slice A0_0 l0_0.length c0_0, .slice A0_1 l0_1.length c0_1, .slice A0_2 l0_2.length c0_2] 55 (0, 0)) (by (with_reducible repeat (first | refine blk_drewN ?_ _ | refine blk_drew ?_ | refine blk_alloc ?_ _)); exact BK721.out) hb); have n1_ := Aside0.mk (below_step (by repeat (first | (with_reducible first | exact HB.out | apply below_alloc | apply pw_below_drewN | apply below_drew1 | refine below_set ?_ GE721.out) | exact HB.out)) hb); clear BK721; clear HB; have BK721 := n0_; have HB := n1_; clear n0_ n1_; (try clear hb); (try clear hb2); (try clear hk); (try clear hi); have hcz9_0 : w8.cell? ⟨gb721, 0, none⟩ = some (.slice A0_0 l0_0.length c0_0) := (blk_cell BK721.out 0).trans rfl; have hcz9_1 : w8.cell? ⟨gb721, 1, none⟩ = some (.slice A0_1 l0_1.length c0_1) := (blk_cell BK721.out 1).trans rfl; have hcz9_2 : w8.cell? ⟨gb721, 2, none⟩ = some (.slice A0_2 l0_2.length c0_2) := (blk_cell BK721.out 2).trans rfl; have hfz9_0 := blk_frozen BK721.out 0; have hfz9_1 := blk_frozen BK721.out 1; have hfz9_2 := blk_frozen BK721.out 2))
        repeat (go_quiet (first | (go_at_call 85; (with_reducible refine (spec_l7Parts.calls k _ _ l0_0 true _ ?side1 ?side2 A4.out).mono ?_); (case side1 => repeat (first | exact (Kd.C_below HR0_0.out HB.out) | (with_reducible refine Kd.C_alloc ?_ _) | (with_reducible refine Kd.C_drewN ?_ _) | (with_reducible refine Kd.C_drew ?_))); (case side2 => exact HC0_0.out); rintro e w8 ⟨rfl, hb⟩; have n0_ := Aside0.mk (blk_below (g := gb721) (o := .cells #[.slice A0_0 l0_0.length c0_0, .slice A0_1 l0_1.length c0_1, .slice A0_2 l0_2.length c0_2] 55 (0, 0)) (by (with_reducible repeat (first | refine blk_drewN ?_ _ | refine blk_drew ?_ | refine blk_alloc ?_ _)); exact BK721.out) hb); have n1_ := Aside0.mk (below_step (by repeat (first | (with_reducible first | exact HB.out | apply below_alloc | apply pw_below_drewN | apply below_drew1 | refine below_set ?_ GE721.out) | exact HB.out)) hb); clear BK721; clear HB; have BK721 := n0_; have HB := n1_; clear n0_ n1_; (try clear hb); (try clear hb2); (try clear hk); (try clear hi); have hcz9_0 : w8.cell? ⟨gb721, 0, none⟩ = some (.slice A0_0 l0_0.length c0_0) := (blk_cell BK721.out 0).trans rfl; have hcz9_1 : w8.cell? ⟨gb721, 1, none⟩ = some (.slice A0_1 l0_1.length c0_1) := (blk_cell BK721.out 1).trans rfl; have hcz9_2 : w8.cell? ⟨gb721, 2, none⟩ = some (.slice A0_2 l0_2.length c0_2) := (blk_cell BK721.out 2).trans rfl; have hfz9_0 := blk_frozen BK721.out 0; have hfz9_1 := blk_frozen BK721.out 1; have hfz9_2 := blk_frozen BK721.out 2)); try go_wp2_with (first | (go_at_call 85; (with_reducible refine (spec_l7Parts.calls k _ _ l0_0 true _ ?side1 ?side2 A4.out).mono ?_); (case side1 => repeat (first | exact (Kd.C_below HR0_0.out HB.out) | (with_reducible refine Kd.C_alloc ?_ _) | (with_reducible refine Kd.C_drewN ?_ _) | (with_reducible refine Kd.C_drew ?_))); (case side2 => exact HC0_0.out); rintro e w8 ⟨rfl, hb⟩; have n0_ := Aside0.mk (blk_below (g := gb721) (o := .cells #[.slice A0_0 l0_0.length c0_0, .slice A0_1 l0_1.length c0_1, .slice A0_2 l0_2.length c0_2] 55 (0, 0)) (by (with_reducible repeat (first | refine blk_drewN ?_ _ | refine blk_drew ?_ | refine blk_alloc ?_ _)); exact BK721.out) hb); have n1_ := Aside0.mk (below_step (by repeat (first | (with_reducible first | exact HB.out | apply below_alloc | apply pw_below_drewN | apply below_drew1 | refine below_set ?_ GE721.out) | exact HB.out)) hb); clear BK721; clear HB; have BK721 := n0_; have HB := n1_; clear n0_ n1_; (try clear hb); (try clear hb2); (try clear hk); (try clear hi); have hcz9_0 : w8.cell? ⟨gb721, 0, none⟩ = some (.slice A0_0 l0_0.length c0_0) := (blk_cell BK721.out 0).trans rfl; have hcz9_1 : w8.cell? ⟨gb721, 1, none⟩ = some (.slice A0_1 l0_1.length c0_1) := (blk_cell BK721.out 1).trans rfl; have hcz9_2 : w8.cell? ⟨gb721, 2, none⟩ = some (.slice A0_2 l0_2.length c0_2) := (blk_cell BK721.out 2).trans rfl; have hfz9_0 := blk_frozen BK721.out 0; have hfz9_1 := blk_frozen BK721.out 1; have hfz9_2 := blk_frozen BK721.out 2)))
        go_meet
        case rel => exact ⟨_, (true), (by first | rfl | (simp; done) | (simp [*]; done)), H', ⟨by first | omega | exact Nat.le_refl _⟩, ⟨by (with_reducible repeat (first | refine blk_drewN ?_ _ | refine blk_drew ?_ | refine blk_alloc ?_ _)); exact BK721.out⟩, ⟨by repeat (first | (with_reducible first | exact HB.out | apply below_alloc | apply pw_below_drewN | apply below_drew1 | refine below_set ?_ GE721.out) | exact HB.out)⟩⟩
      · rw [if_neg c6] at H
        have c6b0 : decide ((l0_1.length : Int) < 1) = false := decide_eq_false c6
        have c6b1 : decide (l0_1.length < 1) = false := decide_eq_false (by omega)
        clear c6
        (first | rw [c6b0] | (simp only [i64_w, i32_w]; rw [c6b0]) | skip)
        by_cases c10 : (l0_1.length : Int) > 40
        · rw [if_pos c10] at H
          have c10b0 : decide (40 < (l0_1.length : Int)) = true := decide_eq_true c10
          have c10b1 : decide (40 < l0_1.length) = true := decide_eq_true (by omega)
          clear c10
          have H' := Aside0.mk H
          clear H
          have hcz11_0 : w3.cell? ⟨gb721, 0, none⟩ = some (.slice A0_0 l0_0.length c0_0) := (blk_cell BK721.out 0).trans rfl
          have hcz11_1 : w3.cell? ⟨gb721, 1, none⟩ = some (.slice A0_1 l0_1.length c0_1) := (blk_cell BK721.out 1).trans rfl
          have hcz11_2 : w3.cell? ⟨gb721, 2, none⟩ = some (.slice A0_2 l0_2.length c0_2) := (blk_cell BK721.out 2).trans rfl
          have hfz11_0 := blk_frozen BK721.out 0
          have hfz11_1 := blk_frozen BK721.out 1
          have hfz11_2 := blk_frozen BK721.out 2
          go_wp2_with (first | (go_at_call 85; (with_reducible refine (spec_l7Parts.calls k _ _ l0_0 true _ ?side1 ?side2 A4.out).mono ?_); (case side1 => repeat (first | exact (Kd.C_below HR0_0.out HB.out) | (with_reducible refine Kd.C_alloc ?_ _) | (with_reducible refine Kd.C_drewN ?_ _) | (with_reducible refine Kd.C_drew ?_))); (case side2 => exact HC0_0.out); rintro e w12 ⟨rfl, hb⟩; have n0_ := Aside0.mk (blk_below (g := gb721) (o := .cells #[.slice A0_0 l0_0.length c0_0, .slice A0_1 l0_1.length c0_1, .slice A0_2 l0_2.length c0_2] 55 (0, 0)) (by (with_reducible repeat (first | refine blk_drewN ?_ _ | refine blk_drew ?_ | refine blk_alloc ?_ _)); exact BK721.out) hb); have n1_ := Aside0.mk (below_step (by repeat (first | (with_reducible first | exact HB.out | apply below_alloc | apply pw_below_drewN | apply below_drew1 | refine below_set ?_ GE721.out) | exact HB.out)) hb); clear BK721; clear HB; have BK721 := n0_; have HB := n1_; clear n0_ n1_; (try clear hb); (try clear hb2); (try clear hk); (try clear hi); have hcz13_0 : w12.cell? ⟨gb721, 0, none⟩ = some (.slice A0_0 l0_0.length c0_0) := (blk_cell BK721.out 0).trans rfl; have hcz13_1 : w12.cell? ⟨gb721, 1, none⟩ = some (.slice A0_1 l0_1.length c0_1) := (blk_cell BK721.out 1).trans rfl; have hcz13_2 : w12.cell? ⟨gb721, 2, none⟩ = some (.slice A0_2 l0_2.length c0_2) := (blk_cell BK721.out 2).trans rfl; have hfz13_0 := blk_frozen BK721.out 0; have hfz13_1 := blk_frozen BK721.out 1; have hfz13_2 := blk_frozen BK721.out 2))
          repeat (go_quiet (first | (go_at_call 85; (with_reducible refine (spec_l7Parts.calls k _ _ l0_0 true _ ?side1 ?side2 A4.out).mono ?_); (case side1 => repeat (first | exact (Kd.C_below HR0_0.out HB.out) | (with_reducible refine Kd.C_alloc ?_ _) | (with_reducible refine Kd.C_drewN ?_ _) | (with_reducible refine Kd.C_drew ?_))); (case side2 => exact HC0_0.out); rintro e w12 ⟨rfl, hb⟩; have n0_ := Aside0.mk (blk_below (g := gb721) (o := .cells #[.slice A0_0 l0_0.length c0_0, .slice A0_1 l0_1.length c0_1, .slice A0_2 l0_2.length c0_2] 55 (0, 0)) (by (with_reducible repeat (first | refine blk_drewN ?_ _ | refine blk_drew ?_ | refine blk_alloc ?_ _)); exact BK721.out) hb); have n1_ := Aside0.mk (below_step (by repeat (first | (with_reducible first | exact HB.out | apply below_alloc | apply pw_below_drewN | apply below_drew1 | refine below_set ?_ GE721.out) | exact HB.out)) hb); clear BK721; clear HB; have BK721 := n0_; have HB := n1_; clear n0_ n1_; (try clear hb); (try clear hb2); (try clear hk); (try clear hi); have hcz13_0 : w12.cell? ⟨gb721, 0, none⟩ = some (.slice A0_0 l0_0.length c0_0) := (blk_cell BK721.out 0).trans rfl; have hcz13_1 : w12.cell? ⟨gb721, 1, none⟩ = some (.slice A0_1 l0_1.length c0_1) := (blk_cell BK721.out 1).trans rfl; have hcz13_2 : w12.cell? ⟨gb721, 2, none⟩ = some (.slice A0_2 l0_2.length c0_2) := (blk_cell BK721.out 2).trans rfl; have hfz13_0 := blk_frozen BK721.out 0; have hfz13_1 := blk_frozen BK721.out 1; have hfz13_2 := blk_frozen BK721.out 2)); try go_wp2_with (first | (go_at_call 85; (with_reducible refine (spec_l7Parts.calls k _ _ l0_0 true _ ?side1 ?side2 A4.out).mono ?_); (case side1 => repeat (first | exact (Kd.C_below HR0_0.out HB.out) | (with_reducible refine Kd.C_alloc ?_ _) | (with_reducible refine Kd.C_drewN ?_ _) | (with_reducible refine Kd.C_drew ?_))); (case side2 => exact HC0_0.out); rintro e w12 ⟨rfl, hb⟩; have n0_ := Aside0.mk (blk_below (g := gb721) (o := .cells #[.slice A0_0 l0_0.length c0_0, .slice A0_1 l0_1.length c0_1, .slice A0_2 l0_2.length c0_2] 55 (0, 0)) (by (with_reducible repeat (first | refine blk_drewN ?_ _ | refine blk_drew ?_ | refine blk_alloc ?_ _)); exact BK721.out) hb); have n1_ := Aside0.mk (below_step (by repeat (first | (with_reducible first | exact HB.out | apply below_alloc | apply pw_below_drewN | apply below_drew1 | refine below_set ?_ GE721.out) | exact HB.out)) hb); clear BK721; clear HB; have BK721 := n0_; have HB := n1_; clear n0_ n1_; (try clear hb); (try clear hb2); (try clear hk); (try clear hi); have hcz13_0 : w12.cell? ⟨gb721, 0, none⟩ = some (.slice A0_0 l0_0.length c0_0) := (blk_cell BK721.out 0).trans rfl; have hcz13_1 : w12.cell? ⟨gb721, 1, none⟩ = some (.slice A0_1 l0_1.length c0_1) := (blk_cell BK721.out 1).trans rfl; have hcz13_2 : w12.cell? ⟨gb721, 2, none⟩ = some (.slice A0_2 l0_2.length c0_2) := (blk_cell BK721.out 2).trans rfl; have hfz13_0 := blk_frozen BK721.out 0; have hfz13_1 := blk_frozen BK721.out 1; have hfz13_2 := blk_frozen BK721.out 2)))
          go_meet
          case rel => exact ⟨_, (true), (by first | rfl | (simp; done) | (simp [*]; done)), H', ⟨by first | omega | exact Nat.le_refl _⟩, ⟨by (with_reducible repeat (first | refine blk_drewN ?_ _ | refine blk_drew ?_ | refine blk_alloc ?_ _)); exact BK721.out⟩, ⟨by repeat (first | (with_reducible first | exact HB.out | apply below_alloc | apply pw_below_drewN | apply below_drew1 | refine below_set ?_ GE721.out) | exact HB.out)⟩⟩
        · rw [if_neg c10] at H
          have c10b0 : decide (40 < (l0_1.length : Int)) = false := decide_eq_false c10
          have c10b1 : decide (40 < l0_1.length) = false := decide_eq_false (by omega)
          clear c10
          have H' := Aside0.mk H
          clear H
          have hcz14_0 : w3.cell? ⟨gb721, 0, none⟩ = some (.slice A0_0 l0_0.length c0_0) := (blk_cell BK721.out 0).trans rfl
          have hcz14_1 : w3.cell? ⟨gb721, 1, none⟩ = some (.slice A0_1 l0_1.length c0_1) := (blk_cell BK721.out 1).trans rfl
          have hcz14_2 : w3.cell? ⟨gb721, 2, none⟩ = some (.slice A0_2 l0_2.length c0_2) := (blk_cell BK721.out 2).trans rfl
          have hfz14_0 := blk_frozen BK721.out 0
          have hfz14_1 := blk_frozen BK721.out 1
          have hfz14_2 := blk_frozen BK721.out 2
          go_wp2_with (first | (go_at_call 85; (with_reducible refine (spec_l7Parts.calls k _ _ l0_0 true _ ?side1 ?side2 A4.out).mono ?_); (case side1 => repeat (first | exact (Kd.C_below HR0_0.out HB.out) | (with_reducible refine Kd.C_alloc ?_ _) | (with_reducible refine Kd.C_drewN ?_ _) | (with_reducible refine Kd.C_drew ?_))); (case side2 => exact HC0_0.out); rintro e w15 ⟨rfl, hb⟩; have n0_ := Aside0.mk (blk_below (g := gb721) (o := .cells #[.slice A0_0 l0_0.length c0_0, .slice A0_1 l0_1.length c0_1, .slice A0_2 l0_2.length c0_2] 55 (0, 0)) (by (with_reducible repeat (first | refine blk_drewN ?_ _ | refine blk_drew ?_ | refine blk_alloc ?_ _)); exact BK721.out) hb); have n1_ := Aside0.mk (below_step (by repeat (first | (with_reducible first | exact HB.out | apply below_alloc | apply pw_below_drewN | apply below_drew1 | refine below_set ?_ GE721.out) | exact HB.out)) hb); clear BK721; clear HB; have BK721 := n0_; have HB := n1_; clear n0_ n1_; (try clear hb); (try clear hb2); (try clear hk); (try clear hi); have hcz16_0 : w15.cell? ⟨gb721, 0, none⟩ = some (.slice A0_0 l0_0.length c0_0) := (blk_cell BK721.out 0).trans rfl; have hcz16_1 : w15.cell? ⟨gb721, 1, none⟩ = some (.slice A0_1 l0_1.length c0_1) := (blk_cell BK721.out 1).trans rfl; have hcz16_2 : w15.cell? ⟨gb721, 2, none⟩ = some (.slice A0_2 l0_2.length c0_2) := (blk_cell BK721.out 2).trans rfl; have hfz16_0 := blk_frozen BK721.out 0; have hfz16_1 := blk_frozen BK721.out 1; have hfz16_2 := blk_frozen BK721.out 2))
          repeat (go_quiet (first | (go_at_call 85; (with_reducible refine (spec_l7Parts.calls k _ _ l0_0 true _ ?side1 ?side2 A4.out).mono ?_); (case side1 => repeat (first | exact (Kd.C_below HR0_0.out HB.out) | (with_reducible refine Kd.C_alloc ?_ _) | (with_reducible refine Kd.C_drewN ?_ _) | (with_reducible refine Kd.C_drew ?_))); (case side2 => exact HC0_0.out); rintro e w15 ⟨rfl, hb⟩; have n0_ := Aside0.mk (blk_below (g := gb721) (o := .cells #[.slice A0_0 l0_0.length c0_0, .slice A0_1 l0_1.length c0_1, .slice A0_2 l0_2.length c0_2] 55 (0, 0)) (by (with_reducible repeat (first | refine blk_drewN ?_ _ | refine blk_drew ?_ | refine blk_alloc ?_ _)); exact BK721.out) hb); have n1_ := Aside0.mk (below_step (by repeat (first | (with_reducible first | exact HB.out | apply below_alloc | apply pw_below_drewN | apply below_drew1 | refine below_set ?_ GE721.out) | exact HB.out)) hb); clear BK721; clear HB; have BK721 := n0_; have HB := n1_; clear n0_ n1_; (try clear hb); (try clear hb2); (try clear hk); (try clear hi); have hcz16_0 : w15.cell? ⟨gb721, 0, none⟩ = some (.slice A0_0 l0_0.length c0_0) := (blk_cell BK721.out 0).trans rfl; have hcz16_1 : w15.cell? ⟨gb721, 1, none⟩ = some (.slice A0_1 l0_1.length c0_1) := (blk_cell BK721.out 1).trans rfl; have hcz16_2 : w15.cell? ⟨gb721, 2, none⟩ = some (.slice A0_2 l0_2.length c0_2) := (blk_cell BK721.out 2).trans rfl; have hfz16_0 := blk_frozen BK721.out 0; have hfz16_1 := blk_frozen BK721.out 1; have hfz16_2 := blk_frozen BK721.out 2)); try go_wp2_with (first | (go_at_call 85; (with_reducible refine (spec_l7Parts.calls k _ _ l0_0 true _ ?side1 ?side2 A4.out).mono ?_); (case side1 => repeat (first | exact (Kd.C_below HR0_0.out HB.out) | (with_reducible refine Kd.C_alloc ?_ _) | (with_reducible refine Kd.C_drewN ?_ _) | (with_reducible refine Kd.C_drew ?_))); (case side2 => exact HC0_0.out); rintro e w15 ⟨rfl, hb⟩; have n0_ := Aside0.mk (blk_below (g := gb721) (o := .cells #[.slice A0_0 l0_0.length c0_0, .slice A0_1 l0_1.length c0_1, .slice A0_2 l0_2.length c0_2] 55 (0, 0)) (by (with_reducible repeat (first | refine blk_drewN ?_ _ | refine blk_drew ?_ | refine blk_alloc ?_ _)); exact BK721.out) hb); have n1_ := Aside0.mk (below_step (by repeat (first | (with_reducible first | exact HB.out | apply below_alloc | apply pw_below_drewN | apply below_drew1 | refine below_set ?_ GE721.out) | exact HB.out)) hb); clear BK721; clear HB; have BK721 := n0_; have HB := n1_; clear n0_ n1_; (try clear hb); (try clear hb2); (try clear hk); (try clear hi); have hcz16_0 : w15.cell? ⟨gb721, 0, none⟩ = some (.slice A0_0 l0_0.length c0_0) := (blk_cell BK721.out 0).trans rfl; have hcz16_1 : w15.cell? ⟨gb721, 1, none⟩ = some (.slice A0_1 l0_1.length c0_1) := (blk_cell BK721.out 1).trans rfl; have hcz16_2 : w15.cell? ⟨gb721, 2, none⟩ = some (.slice A0_2 l0_2.length c0_2) := (blk_cell BK721.out 2).trans rfl; have hfz16_0 := blk_frozen BK721.out 0; have hfz16_1 := blk_frozen BK721.out 1; have hfz16_2 := blk_frozen BK721.out 2)))
          go_meet
          case rel => exact ⟨_, (((l0_2.length : Int) != (l0_1.length : Int))), (by first | rfl | (simp; done) | (simp [*]; done)), H', ⟨by first | omega | exact Nat.le_refl _⟩, ⟨by (with_reducible repeat (first | refine blk_drewN ?_ _ | refine blk_drew ?_ | refine blk_alloc ?_ _)); exact BK721.out⟩, ⟨by repeat (first | (with_reducible first | exact HB.out | apply below_alloc | apply pw_below_drewN | apply below_drew1 | refine below_set ?_ GE721.out) | exact HB.out)⟩⟩
    · replace c5 := Bool.eq_false_iff.mpr c5
      subst c5
      have H1 : (spec_DfaOk.j0 k true l0_0 l0_1 l0_2) = some r := by rw [if_neg (show ¬ (false = true) by decide)] at H; exact H
      clear H
      have H := H1
      clear H1
      have H' := Aside0.mk H
      clear H
      have hcz17_0 : w3.cell? ⟨gb721, 0, none⟩ = some (.slice A0_0 l0_0.length c0_0) := (blk_cell BK721.out 0).trans rfl
      have hcz17_1 : w3.cell? ⟨gb721, 1, none⟩ = some (.slice A0_1 l0_1.length c0_1) := (blk_cell BK721.out 1).trans rfl
      have hcz17_2 : w3.cell? ⟨gb721, 2, none⟩ = some (.slice A0_2 l0_2.length c0_2) := (blk_cell BK721.out 2).trans rfl
      have hfz17_0 := blk_frozen BK721.out 0
      have hfz17_1 := blk_frozen BK721.out 1
      have hfz17_2 := blk_frozen BK721.out 2
      go_wp2_with (first | (go_at_call 85; (with_reducible refine (spec_l7Parts.calls k _ _ l0_0 false _ ?side1 ?side2 A4.out).mono ?_); (case side1 => repeat (first | exact (Kd.C_below HR0_0.out HB.out) | (with_reducible refine Kd.C_alloc ?_ _) | (with_reducible refine Kd.C_drewN ?_ _) | (with_reducible refine Kd.C_drew ?_))); (case side2 => exact HC0_0.out); rintro e w18 ⟨rfl, hb⟩; have n0_ := Aside0.mk (blk_below (g := gb721) (o := .cells #[.slice A0_0 l0_0.length c0_0, .slice A0_1 l0_1.length c0_1, .slice A0_2 l0_2.length c0_2] 55 (0, 0)) (by (with_reducible repeat (first | refine blk_drewN ?_ _ | refine blk_drew ?_ | refine blk_alloc ?_ _)); exact BK721.out) hb); have n1_ := Aside0.mk (below_step (by repeat (first | (with_reducible first | exact HB.out | apply below_alloc | apply pw_below_drewN | apply below_drew1 | refine below_set ?_ GE721.out) | exact HB.out)) hb); clear BK721; clear HB; have BK721 := n0_; have HB := n1_; clear n0_ n1_; (try clear hb); (try clear hb2); (try clear hk); (try clear hi)))
      repeat (go_quiet (first | (go_at_call 85; (with_reducible refine (spec_l7Parts.calls k _ _ l0_0 false _ ?side1 ?side2 A4.out).mono ?_); (case side1 => repeat (first | exact (Kd.C_below HR0_0.out HB.out) | (with_reducible refine Kd.C_alloc ?_ _) | (with_reducible refine Kd.C_drewN ?_ _) | (with_reducible refine Kd.C_drew ?_))); (case side2 => exact HC0_0.out); rintro e w18 ⟨rfl, hb⟩; have n0_ := Aside0.mk (blk_below (g := gb721) (o := .cells #[.slice A0_0 l0_0.length c0_0, .slice A0_1 l0_1.length c0_1, .slice A0_2 l0_2.length c0_2] 55 (0, 0)) (by (with_reducible repeat (first | refine blk_drewN ?_ _ | refine blk_drew ?_ | refine blk_alloc ?_ _)); exact BK721.out) hb); have n1_ := Aside0.mk (below_step (by repeat (first | (with_reducible first | exact HB.out | apply below_alloc | apply pw_below_drewN | apply below_drew1 | refine below_set ?_ GE721.out) | exact HB.out)) hb); clear BK721; clear HB; have BK721 := n0_; have HB := n1_; clear n0_ n1_; (try clear hb); (try clear hb2); (try clear hk); (try clear hi))); try go_wp2_with (first | (go_at_call 85; (with_reducible refine (spec_l7Parts.calls k _ _ l0_0 false _ ?side1 ?side2 A4.out).mono ?_); (case side1 => repeat (first | exact (Kd.C_below HR0_0.out HB.out) | (with_reducible refine Kd.C_alloc ?_ _) | (with_reducible refine Kd.C_drewN ?_ _) | (with_reducible refine Kd.C_drew ?_))); (case side2 => exact HC0_0.out); rintro e w18 ⟨rfl, hb⟩; have n0_ := Aside0.mk (blk_below (g := gb721) (o := .cells #[.slice A0_0 l0_0.length c0_0, .slice A0_1 l0_1.length c0_1, .slice A0_2 l0_2.length c0_2] 55 (0, 0)) (by (with_reducible repeat (first | refine blk_drewN ?_ _ | refine blk_drew ?_ | refine blk_alloc ?_ _)); exact BK721.out) hb); have n1_ := Aside0.mk (below_step (by repeat (first | (with_reducible first | exact HB.out | apply below_alloc | apply pw_below_drewN | apply below_drew1 | refine below_set ?_ GE721.out) | exact HB.out)) hb); clear BK721; clear HB; have BK721 := n0_; have HB := n1_; clear n0_ n1_; (try clear hb); (try clear hb2); (try clear hk); (try clear hi))))
      go_meet
      case rel => exact ⟨_, (true), (by first | rfl | (simp; done) | (simp [*]; done)), H', ⟨by first | omega | exact Nat.le_refl _⟩, ⟨by (with_reducible repeat (first | refine blk_drewN ?_ _ | refine blk_drew ?_ | refine blk_alloc ?_ _)); exact BK721.out⟩, ⟨by repeat (first | (with_reducible first | exact HB.out | apply below_alloc | apply pw_below_drewN | apply below_drew1 | refine below_set ?_ GE721.out) | exact HB.out)⟩⟩
  case rest =>
    clear HC2
    try clear c1
    try clear p2
    try clear c4
    try clear c5
    try clear c6
    try clear c6b0
    try clear c6b1
    try clear c10
    try clear c10b0
    try clear c10b1
    try clear hcz11_0
    try clear hcz11_1
    try clear hcz11_2
    try clear hcz13_0
    try clear hcz13_1
    try clear hcz13_2
    try clear hcz14_0
    try clear hcz14_1
    try clear hcz14_2
    try clear hcz16_0
    try clear hcz16_1
    try clear hcz16_2
    try clear hcz17_0
    try clear hcz17_1
    try clear hcz17_2
    try clear hcz7_0
    try clear hcz7_1
    try clear hcz7_2
    try clear hcz9_0
    try clear hcz9_1
    try clear hcz9_2
    try clear hfz11_0
    try clear hfz11_1
    try clear hfz11_2
    try clear hfz13_0
    try clear hfz13_1
    try clear hfz13_2
    try clear hfz14_0
    try clear hfz14_1
    try clear hfz14_2
    try clear hfz16_0
    try clear hfz16_1
    try clear hfz16_2
    try clear hfz17_0
    try clear hfz17_1
    try clear hfz17_2
    try clear hfz7_0
    try clear hfz7_1
    try clear hfz7_2
    try clear hfz9_0
    try clear hfz9_1
    try clear hfz9_2
    obtain ⟨kq, x29_1, rfl, HA, HJ1, BK721, HB⟩ := hcut
    cases kq with
    | zero => exact absurd HA.out (by simp [spec_DfaOk.j0])
    | succ kj1 =>
      have H := HA.out
      clear HA
      simp only [spec_DfaOk.j0] at H
      by_cases c19 : x29_1 = true
      · subst c19
        have H1 : (some false) = some r := by rw [if_pos rfl] at H; exact H
        clear H
        have H := H1
        clear H1
        obtain rfl := Option.some.inj H
        go_wp2
        repeat (go_quiet (fail); try go_wp2)
        go_ret
        exact ⟨by first | rfl | (simp [errW_none, errW_some] <;> rfl) | (simp [*, errW_none, errW_some] <;> rfl), by repeat (first | (with_reducible first | exact HB.out | apply below_alloc | apply pw_below_drewN | apply below_drew1 | refine below_set ?_ GE721.out) | exact HB.out)⟩
      · replace c19 := Bool.eq_false_iff.mpr c19
        subst c19
        have H1 : (spec_DfaOk.l0 kj1 0 l0_0 l0_1 l0_2) = some r := by rw [if_neg (show ¬ (false = true) by decide)] at H; exact H
        clear H
        have H := H1
        clear H1
        have H' := Aside0.mk H
        clear H
        go_wp2
        repeat (go_quiet (fail); try go_wp2)
        go_loopg [3] kj1 (fun kq v3 w' => ∃ (x3_2 : Int), v3 = .int .i64 x3_2 ∧ Aside0 (spec_DfaOk.l0 kq x3_2 l0_0 l0_1 l0_2 = some r) ∧ Aside0 (kq ≤ kj1) ∧ Aside0 (w'.heap[gb721]? = some (.cells #[(.slice A0_0 l0_0.length c0_0), (.slice A0_1 l0_1.length c0_1), (.slice A0_2 l0_2.length c0_2)] 55 (0, 0))) ∧ Aside0 (Below w.heap.size w w'))
        case atStart => exact ⟨(0), (by first | rfl | (simp; done) | (simp [*]; done)), H', ⟨Nat.le_refl _⟩, ⟨by (with_reducible repeat (first | refine blk_drewN ?_ _ | refine blk_drew ?_ | refine blk_alloc ?_ _)); exact BK721.out⟩, ⟨by repeat (first | (with_reducible first | exact HB.out | apply below_alloc | apply pw_below_drewN | apply below_drew1 | refine below_set ?_ GE721.out) | exact HB.out)⟩⟩
        case round =>
          clear H'
          try clear c1
          try clear p2
          try clear c4
          try clear c5
          try clear c6
          try clear c6b0
          try clear c6b1
          try clear c10
          try clear c10b0
          try clear c10b1
          try clear c19
          try clear hcz11_0
          try clear hcz11_1
          try clear hcz11_2
          try clear hcz13_0
          try clear hcz13_1
          try clear hcz13_2
          try clear hcz14_0
          try clear hcz14_1
          try clear hcz14_2
          try clear hcz16_0
          try clear hcz16_1
          try clear hcz16_2
          try clear hcz17_0
          try clear hcz17_1
          try clear hcz17_2
          try clear hcz7_0
          try clear hcz7_1
          try clear hcz7_2
          try clear hcz9_0
          try clear hcz9_1
          try clear hcz9_2
          try clear hfz11_0
          try clear hfz11_1
          try clear hfz11_2
          try clear hfz13_0
          try clear hfz13_1
          try clear hfz13_2
          try clear hfz14_0
          try clear hfz14_1
          try clear hfz14_2
          try clear hfz16_0
          try clear hfz16_1
          try clear hfz16_2
          try clear hfz17_0
          try clear hfz17_1
          try clear hfz17_2
          try clear hfz7_0
          try clear hfz7_1
          try clear hfz7_2
          try clear hfz9_0
          try clear hfz9_1
          try clear hfz9_2
          try clear p2
          obtain ⟨x3_2, rfl, HA, HK2, BK721, HB⟩ := hrel
          cases gk with
          | zero => exact absurd HA.out (by simp [spec_DfaOk.l0])
          | succ k2 =>
            have H := HA.out
            clear HA
            simp only [spec_DfaOk.l0] at H
            by_cases c20 : x3_2 < (l0_1.length : Int)
            · rw [if_pos c20] at H
              have c20b0 : decide (x3_2 < (l0_1.length : Int)) = true := decide_eq_true c20
              clear c20
              have HC21 := Aside0.mk H
              clear H
              have hcz22_0 : wr.cell? ⟨gb721, 0, none⟩ = some (.slice A0_0 l0_0.length c0_0) := (blk_cell BK721.out 0).trans rfl
              have hcz22_1 : wr.cell? ⟨gb721, 1, none⟩ = some (.slice A0_1 l0_1.length c0_1) := (blk_cell BK721.out 1).trans rfl
              have hcz22_2 : wr.cell? ⟨gb721, 2, none⟩ = some (.slice A0_2 l0_2.length c0_2) := (blk_cell BK721.out 2).trans rfl
              have hfz22_0 := blk_frozen BK721.out 0
              have hfz22_1 := blk_frozen BK721.out 1
              have hfz22_2 := blk_frozen BK721.out 2
              go_upto_region 6 with (fail)
              repeat (go_quiet (fail); go_upto_region 6 with (fail))
              go_cut [62] (fun v62 wc => ∃ (kq : Nat) (x62_20 : Bool), v62 = .bool x62_20 ∧ Aside0 (spec_DfaOk.j2 kq x3_2 x62_20 l0_0 l0_1 l0_2 = some r) ∧ Aside0 (kq ≤ k2) ∧ Aside0 (wc.heap[gb721]? = some (.cells #[(.slice A0_0 l0_0.length c0_0), (.slice A0_1 l0_1.length c0_1), (.slice A0_2 l0_2.length c0_2)] 55 (0, 0))) ∧ Aside0 (Below w.heap.size w wc))
              case first =>
                have H := HC21.out
                clear HC21
                by_cases c23 : 0 ≤ x3_2
                · rw [if_pos c23] at H
                  have c23b0 : decide (0 ≤ x3_2) = true := decide_eq_true c23
                  clear c23
                  (first | rw [c23b0] | (simp only [i64_w, i32_w]; rw [c23b0]) | skip)
                  by_cases c24 : ((rd_L14 l0_1 x3_2).length : Int) = (l0_0.length : Int)
                  · rw [if_pos c24] at H
                    have c24b0 : (((rd_L14 l0_1 x3_2).length : Int) == (l0_0.length : Int)) = true := beq_iff_eq.mpr c24
                    have c24b1 : (((rd_L14 l0_1 x3_2).length : Int) != (l0_0.length : Int)) = false := bne_eq_false_iff_eq.mpr c24
                    have c24b2 : ((rd_L14 l0_1 x3_2).length == l0_0.length) = true := by first | simpa using c24 | (simp at c24 ⊢; omega)
                    clear c24
                    by_cases c25 : x3_2 < (l0_2.length : Int)
                    · rw [if_pos c25] at H
                      have c25b0 : decide (x3_2 < (l0_2.length : Int)) = true := decide_eq_true c25
                      clear c25
                      by_cases c26 : (rd l0_2 x3_2) < (-1)
                      · rw [if_pos c26] at H
                        have c26b0 : decide ((rd l0_2 x3_2) < (-1)) = true := decide_eq_true c26
                        clear c26
                        have H' := Aside0.mk H
                        clear H
                        have hcz27_0 : wr.cell? ⟨gb721, 0, none⟩ = some (.slice A0_0 l0_0.length c0_0) := (blk_cell BK721.out 0).trans rfl
                        have hcz27_1 : wr.cell? ⟨gb721, 1, none⟩ = some (.slice A0_1 l0_1.length c0_1) := (blk_cell BK721.out 1).trans rfl
                        have hcz27_2 : wr.cell? ⟨gb721, 2, none⟩ = some (.slice A0_2 l0_2.length c0_2) := (blk_cell BK721.out 2).trans rfl
                        have hfz27_0 := blk_frozen BK721.out 0
                        have hfz27_1 := blk_frozen BK721.out 1
                        have hfz27_2 := blk_frozen BK721.out 2
                        have p723 : 0 ≤ (x3_2 : Int) := of_decide_eq_true (by first | (with_reducible assumption) | assumption)
                        have q723 : x3_2 < (l0_1.length : Int) := of_decide_eq_true (by first | (with_reducible assumption) | assumption)
                        obtain ⟨ad723, A723_0, c723_0, e723, hx723_0, hl723_0, hi723_0⟩ := at_L14 HR0_1.out x3_2 p723 q723
                        cases e723
                        replace hx723_0 := (HB.out.cell (World.block_lt_of_cell? w _ hx723_0)).trans hx723_0
                        have HR723_0 := Aside0.mk hi723_0
                        have HC723_0 := Aside0.mk hl723_0
                        clear hi723_0 hl723_0
                        replace p723 := eq_true p723
                        replace q723 := eq_true q723
                        have p724 : 0 ≤ (x3_2 : Int) := of_decide_eq_true (by first | (with_reducible assumption) | assumption)
                        have q724 : x3_2 < (l0_2.length : Int) := of_decide_eq_true (by first | (with_reducible assumption) | assumption)
                        obtain ⟨ad724, e724, hx724_0⟩ := Kd.at_int HR0_2.out x3_2 p724 q724
                        cases e724
                        replace hx724_0 := (HB.out.cell (World.block_lt_of_cell? w _ hx724_0)).trans hx724_0
                        replace p724 := eq_true p724
                        replace q724 := eq_true q724
                        go_wp2
                        repeat (go_quiet (fail); try go_wp2)
                        go_meet
                        case rel => exact ⟨_, (true), (by first | rfl | (simp; done) | (simp [*]; done)), H', ⟨by have := HJ1.out; have := HK2.out; first | omega | exact Nat.le_refl _⟩, ⟨by (with_reducible repeat (first | refine blk_drewN ?_ _ | refine blk_drew ?_ | refine blk_alloc ?_ _)); exact BK721.out⟩, ⟨by repeat (first | (with_reducible first | exact HB.out | apply below_alloc | apply pw_below_drewN | apply below_drew1 | refine below_set ?_ GE721.out) | exact HB.out)⟩⟩
                      · rw [if_neg c26] at H
                        have c26b0 : decide ((rd l0_2 x3_2) < (-1)) = false := decide_eq_false c26
                        clear c26
                        have H' := Aside0.mk H
                        clear H
                        have hcz28_0 : wr.cell? ⟨gb721, 0, none⟩ = some (.slice A0_0 l0_0.length c0_0) := (blk_cell BK721.out 0).trans rfl
                        have hcz28_1 : wr.cell? ⟨gb721, 1, none⟩ = some (.slice A0_1 l0_1.length c0_1) := (blk_cell BK721.out 1).trans rfl
                        have hcz28_2 : wr.cell? ⟨gb721, 2, none⟩ = some (.slice A0_2 l0_2.length c0_2) := (blk_cell BK721.out 2).trans rfl
                        have hfz28_0 := blk_frozen BK721.out 0
                        have hfz28_1 := blk_frozen BK721.out 1
                        have hfz28_2 := blk_frozen BK721.out 2
                        have p723 : 0 ≤ (x3_2 : Int) := of_decide_eq_true (by first | (with_reducible assumption) | assumption)
                        have q723 : x3_2 < (l0_1.length : Int) := of_decide_eq_true (by first | (with_reducible assumption) | assumption)
                        obtain ⟨ad723, A723_0, c723_0, e723, hx723_0, hl723_0, hi723_0⟩ := at_L14 HR0_1.out x3_2 p723 q723
                        cases e723
                        replace hx723_0 := (HB.out.cell (World.block_lt_of_cell? w _ hx723_0)).trans hx723_0
                        have HR723_0 := Aside0.mk hi723_0
                        have HC723_0 := Aside0.mk hl723_0
                        clear hi723_0 hl723_0
                        replace p723 := eq_true p723
                        replace q723 := eq_true q723
                        have p724 : 0 ≤ (x3_2 : Int) := of_decide_eq_true (by first | (with_reducible assumption) | assumption)
                        have q724 : x3_2 < (l0_2.length : Int) := of_decide_eq_true (by first | (with_reducible assumption) | assumption)
                        obtain ⟨ad724, e724, hx724_0⟩ := Kd.at_int HR0_2.out x3_2 p724 q724
                        cases e724
                        replace hx724_0 := (HB.out.cell (World.block_lt_of_cell? w _ hx724_0)).trans hx724_0
                        replace p724 := eq_true p724
                        replace q724 := eq_true q724
                        have p725 : 0 ≤ (x3_2 : Int) := of_decide_eq_true (by first | (with_reducible assumption) | assumption)
                        have q725 : x3_2 < (l0_2.length : Int) := of_decide_eq_true (by first | (with_reducible assumption) | assumption)
                        obtain ⟨ad725, e725, hx725_0⟩ := Kd.at_int HR0_2.out x3_2 p725 q725
                        obtain rfl : ad724 = ad725 := (by injection e725)
                        replace hx725_0 := (HB.out.cell (World.block_lt_of_cell? w _ hx725_0)).trans hx725_0
                        replace p725 := eq_true p725
                        replace q725 := eq_true q725
                        go_wp2
                        repeat (go_quiet (fail); try go_wp2)
                        go_meet
                        case rel => exact ⟨_, (decide ((rd l0_2 x3_2) ≥ 5)), (by first | rfl | (simp; done) | (simp [*]; done)), H', ⟨by have := HJ1.out; have := HK2.out; first | omega | exact Nat.le_refl _⟩, ⟨by (with_reducible repeat (first | refine blk_drewN ?_ _ | refine blk_drew ?_ | refine blk_alloc ?_ _)); exact BK721.out⟩, ⟨by repeat (first | (with_reducible first | exact HB.out | apply below_alloc | apply pw_below_drewN | apply below_drew1 | refine below_set ?_ GE721.out) | exact HB.out)⟩⟩
                    · rw [if_neg c25] at H
                      exact absurd H (by simp)
                  · rw [if_neg c24] at H
                    have c24b0 : (((rd_L14 l0_1 x3_2).length : Int) == (l0_0.length : Int)) = false := beq_eq_false_iff_ne.mpr c24
                    have c24b1 : (((rd_L14 l0_1 x3_2).length : Int) != (l0_0.length : Int)) = true := bne_iff_ne.mpr c24
                    have c24b2 : ((rd_L14 l0_1 x3_2).length == l0_0.length) = false := by first | simpa using c24 | (simp at c24 ⊢; omega)
                    have H' := Aside0.mk H
                    clear H
                    have hcz29_0 : wr.cell? ⟨gb721, 0, none⟩ = some (.slice A0_0 l0_0.length c0_0) := (blk_cell BK721.out 0).trans rfl
                    have hcz29_1 : wr.cell? ⟨gb721, 1, none⟩ = some (.slice A0_1 l0_1.length c0_1) := (blk_cell BK721.out 1).trans rfl
                    have hcz29_2 : wr.cell? ⟨gb721, 2, none⟩ = some (.slice A0_2 l0_2.length c0_2) := (blk_cell BK721.out 2).trans rfl
                    have hfz29_0 := blk_frozen BK721.out 0
                    have hfz29_1 := blk_frozen BK721.out 1
                    have hfz29_2 := blk_frozen BK721.out 2
                    have p723 : 0 ≤ (x3_2 : Int) := of_decide_eq_true (by first | (with_reducible assumption) | assumption)
                    have q723 : x3_2 < (l0_1.length : Int) := of_decide_eq_true (by first | (with_reducible assumption) | assumption)
                    obtain ⟨ad723, A723_0, c723_0, e723, hx723_0, hl723_0, hi723_0⟩ := at_L14 HR0_1.out x3_2 p723 q723
                    cases e723
                    replace hx723_0 := (HB.out.cell (World.block_lt_of_cell? w _ hx723_0)).trans hx723_0
                    have HR723_0 := Aside0.mk hi723_0
                    have HC723_0 := Aside0.mk hl723_0
                    clear hi723_0 hl723_0
                    replace p723 := eq_true p723
                    replace q723 := eq_true q723
                    go_wp2
                    repeat (go_quiet (fail); try go_wp2)
                    go_meet
                    case rel => exact ⟨_, (true), (by first | rfl | (simp; done) | (simp [*]; done)), H', ⟨by have := HJ1.out; have := HK2.out; first | omega | exact Nat.le_refl _⟩, ⟨by (with_reducible repeat (first | refine blk_drewN ?_ _ | refine blk_drew ?_ | refine blk_alloc ?_ _)); exact BK721.out⟩, ⟨by repeat (first | (with_reducible first | exact HB.out | apply below_alloc | apply pw_below_drewN | apply below_drew1 | refine below_set ?_ GE721.out) | exact HB.out)⟩⟩
                · rw [if_neg c23] at H
                  exact absurd H (by simp)
              case rest =>
                clear HC21
                try clear c1
                try clear c2
                try clear p2
                try clear c4
                try clear c5
                try clear c6
                try clear c6b0
                try clear c6b1
                try clear c7
                try clear p7
                try clear q7
                try clear hx7
                try clear c10
                try clear c10b0
                try clear c10b1
                try clear c19
                try clear c20
                try clear c20b0
                try clear c23
                try clear c23b0
                try clear c24
                try clear c24b0
                try clear c24b1
                try clear c24b2
                try clear c25
                try clear c25b0
                try clear c26
                try clear c26b0
                try clear hcz11_0
                try clear hcz11_1
                try clear hcz11_2
                try clear hcz13_0
                try clear hcz13_1
                try clear hcz13_2
                try clear hcz14_0
                try clear hcz14_1
                try clear hcz14_2
                try clear hcz16_0
                try clear hcz16_1
                try clear hcz16_2
                try clear hcz17_0
                try clear hcz17_1
                try clear hcz17_2
                try clear hcz22_0
                try clear hcz22_1
                try clear hcz22_2
                try clear hcz27_0
                try clear hcz27_1
                try clear hcz27_2
                try clear hcz28_0
                try clear hcz28_1
                try clear hcz28_2
                try clear hcz29_0
                try clear hcz29_1
                try clear hcz29_2
                try clear hcz7_0
                try clear hcz7_1
                try clear hcz7_2
                try clear hcz9_0
                try clear hcz9_1
                try clear hcz9_2
                try clear hfz11_0
                try clear hfz11_1
                try clear hfz11_2
                try clear hfz13_0
                try clear hfz13_1
                try clear hfz13_2
                try clear hfz14_0
                try clear hfz14_1
                try clear hfz14_2
                try clear hfz16_0
                try clear hfz16_1
                try clear hfz16_2
                try clear hfz17_0
                try clear hfz17_1
                try clear hfz17_2
                try clear hfz22_0
                try clear hfz22_1
                try clear hfz22_2
                try clear hfz27_0
                try clear hfz27_1
                try clear hfz27_2
                try clear hfz28_0
                try clear hfz28_1
                try clear hfz28_2
                try clear hfz29_0
                try clear hfz29_1
                try clear hfz29_2
                try clear hfz7_0
                try clear hfz7_1
                try clear hfz7_2
                try clear hfz9_0
                try clear hfz9_1
                try clear hfz9_2
                try clear hx723_0
                try clear hx724_0
                try clear hx725_0
                try clear p2
                try clear p723
                try clear p724
                try clear p725
                try clear q723
                try clear q724
                try clear q725
                obtain ⟨kq, x62_20, rfl, HA, HJ20, BK721, HB⟩ := hcut
                cases kq with
                | zero => exact absurd HA.out (by simp [spec_DfaOk.j2])
                | succ kj20 =>
                  have H := HA.out
                  clear HA
                  simp only [spec_DfaOk.j2] at H
                  by_cases c30 : x62_20 = true
                  · subst c30
                    have H1 : (some false) = some r := by rw [if_pos rfl] at H; exact H
                    clear H
                    have H := H1
                    clear H1
                    obtain rfl := Option.some.inj H
                    go_wp2
                    repeat (go_quiet (fail); try go_wp2)
                    go_ret
                    exact ⟨by first | rfl | (simp [errW_none, errW_some] <;> rfl) | (simp [*, errW_none, errW_some] <;> rfl), by repeat (first | (with_reducible first | exact HB.out | apply below_alloc | apply pw_below_drewN | apply below_drew1 | refine below_set ?_ GE721.out) | exact HB.out)⟩
                  · replace c30 := Bool.eq_false_iff.mpr c30
                    subst c30
                    have H1 : (spec_DfaOk.l1 kj20 x3_2 0 l0_0 l0_1 l0_2) = some r := by rw [if_neg (show ¬ (false = true) by decide)] at H; exact H
                    clear H
                    have H := H1
                    clear H1
                    have H' := Aside0.mk H
                    clear H
                    go_wp2
                    repeat (go_quiet (fail); try go_wp2)
                    go_loopg [4] kj20 (fun kq v4 w' => ∃ (x4_4 : Int), v4 = .int .i64 x4_4 ∧ Aside0 (spec_DfaOk.l1 kq x3_2 x4_4 l0_0 l0_1 l0_2 = some r) ∧ Aside0 (kq ≤ kj20) ∧ Aside0 (w'.heap[gb721]? = some (.cells #[(.slice A0_0 l0_0.length c0_0), (.slice A0_1 l0_1.length c0_1), (.slice A0_2 l0_2.length c0_2)] 55 (0, 0))) ∧ Aside0 (Below w.heap.size w w'))
                    case atStart => exact ⟨(0), (by first | rfl | (simp; done) | (simp [*]; done)), H', ⟨Nat.le_refl _⟩, ⟨by (with_reducible repeat (first | refine blk_drewN ?_ _ | refine blk_drew ?_ | refine blk_alloc ?_ _)); exact BK721.out⟩, ⟨by repeat (first | (with_reducible first | exact HB.out | apply below_alloc | apply pw_below_drewN | apply below_drew1 | refine below_set ?_ GE721.out) | exact HB.out)⟩⟩
                    case round =>
                      clear H'
                      try clear c1
                      try clear c2
                      try clear p2
                      try clear c3
                      try clear c4
                      try clear c5
                      try clear c6
                      try clear c6b0
                      try clear c6b1
                      try clear c7
                      try clear p7
                      try clear q7
                      try clear hx7
                      try clear c10
                      try clear c10b0
                      try clear c10b1
                      try clear c19
                      try clear c20
                      try clear c20b0
                      try clear c23
                      try clear c23b0
                      try clear c24
                      try clear c24b0
                      try clear c24b1
                      try clear c24b2
                      try clear c25
                      try clear c25b0
                      try clear c26
                      try clear c26b0
                      try clear c30
                      try clear hcz11_0
                      try clear hcz11_1
                      try clear hcz11_2
                      try clear hcz13_0
                      try clear hcz13_1
                      try clear hcz13_2
                      try clear hcz14_0
                      try clear hcz14_1
                      try clear hcz14_2
                      try clear hcz16_0
                      try clear hcz16_1
                      try clear hcz16_2
                      try clear hcz17_0
                      try clear hcz17_1
                      try clear hcz17_2
                      try clear hcz22_0
                      try clear hcz22_1
                      try clear hcz22_2
                      try clear hcz27_0
                      try clear hcz27_1
                      try clear hcz27_2
                      try clear hcz28_0
                      try clear hcz28_1
                      try clear hcz28_2
                      try clear hcz29_0
                      try clear hcz29_1
                      try clear hcz29_2
                      try clear hcz7_0
                      try clear hcz7_1
                      try clear hcz7_2
                      try clear hcz9_0
                      try clear hcz9_1
                      try clear hcz9_2
                      try clear hfz11_0
                      try clear hfz11_1
                      try clear hfz11_2
                      try clear hfz13_0
                      try clear hfz13_1
                      try clear hfz13_2
                      try clear hfz14_0
                      try clear hfz14_1
                      try clear hfz14_2
                      try clear hfz16_0
                      try clear hfz16_1
                      try clear hfz16_2
                      try clear hfz17_0
                      try clear hfz17_1
                      try clear hfz17_2
                      try clear hfz22_0
                      try clear hfz22_1
                      try clear hfz22_2
                      try clear hfz27_0
                      try clear hfz27_1
                      try clear hfz27_2
                      try clear hfz28_0
                      try clear hfz28_1
                      try clear hfz28_2
                      try clear hfz29_0
                      try clear hfz29_1
                      try clear hfz29_2
                      try clear hfz7_0
                      try clear hfz7_1
                      try clear hfz7_2
                      try clear hfz9_0
                      try clear hfz9_1
                      try clear hfz9_2
                      try clear hx723_0
                      try clear hx724_0
                      try clear hx725_0
                      try clear p2
                      try clear p7
                      try clear p723
                      try clear p724
                      try clear p725
                      try clear q7
                      try clear q723
                      try clear q724
                      try clear q725
                      obtain ⟨x4_4, rfl, HA, HK4, BK721, HB⟩ := hrel
                      cases gk with
                      | zero => exact absurd HA.out (by simp [spec_DfaOk.l1])
                      | succ k4 =>
                        have H := HA.out
                        clear HA
                        simp only [spec_DfaOk.l1] at H
                        by_cases c31 : 0 ≤ x3_2
                        · rw [if_pos c31] at H
                          have c31b0 : decide (0 ≤ x3_2) = true := decide_eq_true c31
                          clear c31
                          by_cases c32 : x3_2 < (l0_1.length : Int)
                          · rw [if_pos c32] at H
                            have c32b0 : decide (x3_2 < (l0_1.length : Int)) = true := decide_eq_true c32
                            clear c32
                            by_cases c33 : x4_4 < ((rd_L14 l0_1 x3_2).length : Int)
                            · rw [if_pos c33] at H
                              have c33b0 : decide (x4_4 < ((rd_L14 l0_1 x3_2).length : Int)) = true := decide_eq_true c33
                              clear c33
                              by_cases c34 : 0 ≤ x4_4
                              · rw [if_pos c34] at H
                                have c34b0 : decide (0 ≤ x4_4) = true := decide_eq_true c34
                                clear c34
                                by_cases c35 : (rd (rd_L14 l0_1 x3_2) x4_4) < (-1)
                                · rw [if_pos c35] at H
                                  have c35b0 : decide ((rd (rd_L14 l0_1 x3_2) x4_4) < (-1)) = true := decide_eq_true c35
                                  clear c35
                                  obtain rfl := Option.some.inj H
                                  have hcz36_0 : wr.cell? ⟨gb721, 0, none⟩ = some (.slice A0_0 l0_0.length c0_0) := (blk_cell BK721.out 0).trans rfl
                                  have hcz36_1 : wr.cell? ⟨gb721, 1, none⟩ = some (.slice A0_1 l0_1.length c0_1) := (blk_cell BK721.out 1).trans rfl
                                  have hcz36_2 : wr.cell? ⟨gb721, 2, none⟩ = some (.slice A0_2 l0_2.length c0_2) := (blk_cell BK721.out 2).trans rfl
                                  have hfz36_0 := blk_frozen BK721.out 0
                                  have hfz36_1 := blk_frozen BK721.out 1
                                  have hfz36_2 := blk_frozen BK721.out 2
                                  have p726 : 0 ≤ (x3_2 : Int) := of_decide_eq_true (by first | (with_reducible assumption) | assumption)
                                  have q726 : x3_2 < (l0_1.length : Int) := of_decide_eq_true (by first | (with_reducible assumption) | assumption)
                                  obtain ⟨ad726, A726_0, c726_0, e726, hx726_0, hl726_0, hi726_0⟩ := at_L14 HR0_1.out x3_2 p726 q726
                                  cases e726
                                  replace hx726_0 := (HB.out.cell (World.block_lt_of_cell? w _ hx726_0)).trans hx726_0
                                  have HR726_0 := Aside0.mk hi726_0
                                  have HC726_0 := Aside0.mk hl726_0
                                  clear hi726_0 hl726_0
                                  replace p726 := eq_true p726
                                  replace q726 := eq_true q726
                                  have p727 : 0 ≤ (x3_2 : Int) := of_decide_eq_true (by first | (with_reducible assumption) | assumption)
                                  have q727 : x3_2 < (l0_1.length : Int) := of_decide_eq_true (by first | (with_reducible assumption) | assumption)
                                  obtain ⟨ad727, A727_0, c727_0, e727, hx727_0, hl727_0, hi727_0⟩ := at_L14 HR0_1.out x3_2 p727 q727
                                  obtain rfl : ad726 = ad727 := (by injection e727)
                                  replace hx727_0 := (HB.out.cell (World.block_lt_of_cell? w _ hx727_0)).trans hx727_0
                                  have HR727_0 := Aside0.mk hi727_0
                                  have HC727_0 := Aside0.mk hl727_0
                                  clear hi727_0 hl727_0
                                  replace p727 := eq_true p727
                                  replace q727 := eq_true q727
                                  have ea_ := Option.some.inj (hx726_0.symm.trans hx727_0)
                                  injection ea_ with ea_ en_ ec_
                                  subst ea_
                                  subst ec_
                                  clear en_
                                  have p728 : 0 ≤ (x4_4 : Int) := of_decide_eq_true (by first | (with_reducible assumption) | assumption)
                                  have q728 : x4_4 < ((rd_L14 l0_1 x3_2).length : Int) := of_decide_eq_true (by first | (with_reducible assumption) | assumption)
                                  obtain ⟨ad728, e728, hx728_0⟩ := Kd.at_int HR727_0.out x4_4 p728 q728
                                  cases e728
                                  replace hx728_0 := (HB.out.cell (World.block_lt_of_cell? w _ hx728_0)).trans hx728_0
                                  replace p728 := eq_true p728
                                  replace q728 := eq_true q728
                                  go_wp2
                                  repeat (go_quiet (fail); try go_wp2)
                                  go_ret
                                  exact ⟨by first | rfl | (simp [errW_none, errW_some] <;> rfl) | (simp [*, errW_none, errW_some] <;> rfl), by repeat (first | (with_reducible first | exact HB.out | apply below_alloc | apply pw_below_drewN | apply below_drew1 | refine below_set ?_ GE721.out) | exact HB.out)⟩
                                · rw [if_neg c35] at H
                                  have c35b0 : decide ((rd (rd_L14 l0_1 x3_2) x4_4) < (-1)) = false := decide_eq_false c35
                                  clear c35
                                  by_cases c37 : (rd (rd_L14 l0_1 x3_2) x4_4) ≥ (l0_1.length : Int)
                                  · rw [if_pos c37] at H
                                    have c37b0 : decide ((l0_1.length : Int) ≤ (rd (rd_L14 l0_1 x3_2) x4_4)) = true := decide_eq_true c37
                                    clear c37
                                    obtain rfl := Option.some.inj H
                                    have hcz38_0 : wr.cell? ⟨gb721, 0, none⟩ = some (.slice A0_0 l0_0.length c0_0) := (blk_cell BK721.out 0).trans rfl
                                    have hcz38_1 : wr.cell? ⟨gb721, 1, none⟩ = some (.slice A0_1 l0_1.length c0_1) := (blk_cell BK721.out 1).trans rfl
                                    have hcz38_2 : wr.cell? ⟨gb721, 2, none⟩ = some (.slice A0_2 l0_2.length c0_2) := (blk_cell BK721.out 2).trans rfl
                                    have hfz38_0 := blk_frozen BK721.out 0
                                    have hfz38_1 := blk_frozen BK721.out 1
                                    have hfz38_2 := blk_frozen BK721.out 2
                                    have p726 : 0 ≤ (x3_2 : Int) := of_decide_eq_true (by first | (with_reducible assumption) | assumption)
                                    have q726 : x3_2 < (l0_1.length : Int) := of_decide_eq_true (by first | (with_reducible assumption) | assumption)
                                    obtain ⟨ad726, A726_0, c726_0, e726, hx726_0, hl726_0, hi726_0⟩ := at_L14 HR0_1.out x3_2 p726 q726
                                    cases e726
                                    replace hx726_0 := (HB.out.cell (World.block_lt_of_cell? w _ hx726_0)).trans hx726_0
                                    have HR726_0 := Aside0.mk hi726_0
                                    have HC726_0 := Aside0.mk hl726_0
                                    clear hi726_0 hl726_0
                                    replace p726 := eq_true p726
                                    replace q726 := eq_true q726
                                    have p727 : 0 ≤ (x3_2 : Int) := of_decide_eq_true (by first | (with_reducible assumption) | assumption)
                                    have q727 : x3_2 < (l0_1.length : Int) := of_decide_eq_true (by first | (with_reducible assumption) | assumption)
                                    obtain ⟨ad727, A727_0, c727_0, e727, hx727_0, hl727_0, hi727_0⟩ := at_L14 HR0_1.out x3_2 p727 q727
                                    obtain rfl : ad726 = ad727 := (by injection e727)
                                    replace hx727_0 := (HB.out.cell (World.block_lt_of_cell? w _ hx727_0)).trans hx727_0
                                    have HR727_0 := Aside0.mk hi727_0
                                    have HC727_0 := Aside0.mk hl727_0
                                    clear hi727_0 hl727_0
                                    replace p727 := eq_true p727
                                    replace q727 := eq_true q727
                                    have ea_ := Option.some.inj (hx726_0.symm.trans hx727_0)
                                    injection ea_ with ea_ en_ ec_
                                    subst ea_
                                    subst ec_
                                    clear en_
                                    have p728 : 0 ≤ (x4_4 : Int) := of_decide_eq_true (by first | (with_reducible assumption) | assumption)
                                    have q728 : x4_4 < ((rd_L14 l0_1 x3_2).length : Int) := of_decide_eq_true (by first | (with_reducible assumption) | assumption)
                                    obtain ⟨ad728, e728, hx728_0⟩ := Kd.at_int HR727_0.out x4_4 p728 q728
                                    cases e728
                                    replace hx728_0 := (HB.out.cell (World.block_lt_of_cell? w _ hx728_0)).trans hx728_0
                                    replace p728 := eq_true p728
                                    replace q728 := eq_true q728
                                    have p729 : 0 ≤ (x3_2 : Int) := of_decide_eq_true (by first | (with_reducible assumption) | assumption)
                                    have q729 : x3_2 < (l0_1.length : Int) := of_decide_eq_true (by first | (with_reducible assumption) | assumption)
                                    obtain ⟨ad729, A729_0, c729_0, e729, hx729_0, hl729_0, hi729_0⟩ := at_L14 HR0_1.out x3_2 p729 q729
                                    obtain rfl : ad726 = ad729 := (by injection e729)
                                    replace hx729_0 := (HB.out.cell (World.block_lt_of_cell? w _ hx729_0)).trans hx729_0
                                    have HR729_0 := Aside0.mk hi729_0
                                    have HC729_0 := Aside0.mk hl729_0
                                    clear hi729_0 hl729_0
                                    replace p729 := eq_true p729
                                    replace q729 := eq_true q729
                                    have ea_ := Option.some.inj (hx726_0.symm.trans hx729_0)
                                    injection ea_ with ea_ en_ ec_
                                    subst ea_
                                    subst ec_
                                    clear en_
                                    have p730 : 0 ≤ (x4_4 : Int) := of_decide_eq_true (by first | (with_reducible assumption) | assumption)
                                    have q730 : x4_4 < ((rd_L14 l0_1 x3_2).length : Int) := of_decide_eq_true (by first | (with_reducible assumption) | assumption)
                                    obtain ⟨ad730, e730, hx730_0⟩ := Kd.at_int HR729_0.out x4_4 p730 q730
                                    cases e730
                                    replace hx730_0 := (HB.out.cell (World.block_lt_of_cell? w _ hx730_0)).trans hx730_0
                                    replace p730 := eq_true p730
                                    replace q730 := eq_true q730
                                    go_wp2
                                    repeat (go_quiet (fail); try go_wp2)
                                    go_ret
                                    exact ⟨by first | rfl | (simp [errW_none, errW_some] <;> rfl) | (simp [*, errW_none, errW_some] <;> rfl), by repeat (first | (with_reducible first | exact HB.out | apply below_alloc | apply pw_below_drewN | apply below_drew1 | refine below_set ?_ GE721.out) | exact HB.out)⟩
                                  · rw [if_neg c37] at H
                                    have c37b0 : decide ((l0_1.length : Int) ≤ (rd (rd_L14 l0_1 x3_2) x4_4)) = false := decide_eq_false c37
                                    clear c37
                                    have H' := Aside0.mk H
                                    clear H
                                    have hcz39_0 : wr.cell? ⟨gb721, 0, none⟩ = some (.slice A0_0 l0_0.length c0_0) := (blk_cell BK721.out 0).trans rfl
                                    have hcz39_1 : wr.cell? ⟨gb721, 1, none⟩ = some (.slice A0_1 l0_1.length c0_1) := (blk_cell BK721.out 1).trans rfl
                                    have hcz39_2 : wr.cell? ⟨gb721, 2, none⟩ = some (.slice A0_2 l0_2.length c0_2) := (blk_cell BK721.out 2).trans rfl
                                    have hfz39_0 := blk_frozen BK721.out 0
                                    have hfz39_1 := blk_frozen BK721.out 1
                                    have hfz39_2 := blk_frozen BK721.out 2
                                    have p726 : 0 ≤ (x3_2 : Int) := of_decide_eq_true (by first | (with_reducible assumption) | assumption)
                                    have q726 : x3_2 < (l0_1.length : Int) := of_decide_eq_true (by first | (with_reducible assumption) | assumption)
                                    obtain ⟨ad726, A726_0, c726_0, e726, hx726_0, hl726_0, hi726_0⟩ := at_L14 HR0_1.out x3_2 p726 q726
                                    cases e726
                                    replace hx726_0 := (HB.out.cell (World.block_lt_of_cell? w _ hx726_0)).trans hx726_0
                                    have HR726_0 := Aside0.mk hi726_0
                                    have HC726_0 := Aside0.mk hl726_0
                                    clear hi726_0 hl726_0
                                    replace p726 := eq_true p726
                                    replace q726 := eq_true q726
                                    have p727 : 0 ≤ (x3_2 : Int) := of_decide_eq_true (by first | (with_reducible assumption) | assumption)
                                    have q727 : x3_2 < (l0_1.length : Int) := of_decide_eq_true (by first | (with_reducible assumption) | assumption)
                                    obtain ⟨ad727, A727_0, c727_0, e727, hx727_0, hl727_0, hi727_0⟩ := at_L14 HR0_1.out x3_2 p727 q727
                                    obtain rfl : ad726 = ad727 := (by injection e727)
                                    replace hx727_0 := (HB.out.cell (World.block_lt_of_cell? w _ hx727_0)).trans hx727_0
                                    have HR727_0 := Aside0.mk hi727_0
                                    have HC727_0 := Aside0.mk hl727_0
                                    clear hi727_0 hl727_0
                                    replace p727 := eq_true p727
                                    replace q727 := eq_true q727
                                    have ea_ := Option.some.inj (hx726_0.symm.trans hx727_0)
                                    injection ea_ with ea_ en_ ec_
                                    subst ea_
                                    subst ec_
                                    clear en_
                                    have p728 : 0 ≤ (x4_4 : Int) := of_decide_eq_true (by first | (with_reducible assumption) | assumption)
                                    have q728 : x4_4 < ((rd_L14 l0_1 x3_2).length : Int) := of_decide_eq_true (by first | (with_reducible assumption) | assumption)
                                    obtain ⟨ad728, e728, hx728_0⟩ := Kd.at_int HR727_0.out x4_4 p728 q728
                                    cases e728
                                    replace hx728_0 := (HB.out.cell (World.block_lt_of_cell? w _ hx728_0)).trans hx728_0
                                    replace p728 := eq_true p728
                                    replace q728 := eq_true q728
                                    have p729 : 0 ≤ (x3_2 : Int) := of_decide_eq_true (by first | (with_reducible assumption) | assumption)
                                    have q729 : x3_2 < (l0_1.length : Int) := of_decide_eq_true (by first | (with_reducible assumption) | assumption)
                                    obtain ⟨ad729, A729_0, c729_0, e729, hx729_0, hl729_0, hi729_0⟩ := at_L14 HR0_1.out x3_2 p729 q729
                                    obtain rfl : ad726 = ad729 := (by injection e729)
                                    replace hx729_0 := (HB.out.cell (World.block_lt_of_cell? w _ hx729_0)).trans hx729_0
                                    have HR729_0 := Aside0.mk hi729_0
                                    have HC729_0 := Aside0.mk hl729_0
                                    clear hi729_0 hl729_0
                                    replace p729 := eq_true p729
                                    replace q729 := eq_true q729
                                    have ea_ := Option.some.inj (hx726_0.symm.trans hx729_0)
                                    injection ea_ with ea_ en_ ec_
                                    subst ea_
                                    subst ec_
                                    clear en_
                                    have p730 : 0 ≤ (x4_4 : Int) := of_decide_eq_true (by first | (with_reducible assumption) | assumption)
                                    have q730 : x4_4 < ((rd_L14 l0_1 x3_2).length : Int) := of_decide_eq_true (by first | (with_reducible assumption) | assumption)
                                    obtain ⟨ad730, e730, hx730_0⟩ := Kd.at_int HR729_0.out x4_4 p730 q730
                                    cases e730
                                    replace hx730_0 := (HB.out.cell (World.block_lt_of_cell? w _ hx730_0)).trans hx730_0
                                    replace p730 := eq_true p730
                                    replace q730 := eq_true q730
                                    go_wp2
                                    repeat (go_quiet (fail); try go_wp2)
                                    go_roundg k4
                                    case measure => have := HJ1.out; have := HK2.out; have := HJ20.out; have := HK4.out; omega
                                    case rel => exact ⟨(wrap64 (x4_4 + 1)), (by first | rfl | (simp; done) | (simp [*]; done)), H', ⟨by have := HJ1.out; have := HK2.out; have := HJ20.out; have := HK4.out; omega⟩, ⟨by (with_reducible repeat (first | refine blk_drewN ?_ _ | refine blk_drew ?_ | refine blk_alloc ?_ _)); exact BK721.out⟩, ⟨by repeat (first | (with_reducible first | exact HB.out | apply below_alloc | apply pw_below_drewN | apply below_drew1 | refine below_set ?_ GE721.out) | exact HB.out)⟩⟩
                              · rw [if_neg c34] at H
                                exact absurd H (by simp)
                            · rw [if_neg c33] at H
                              have c33b0 : decide (x4_4 < ((rd_L14 l0_1 x3_2).length : Int)) = false := decide_eq_false c33
                              clear c33
                              have H' := Aside0.mk H
                              clear H
                              have hcz40_0 : wr.cell? ⟨gb721, 0, none⟩ = some (.slice A0_0 l0_0.length c0_0) := (blk_cell BK721.out 0).trans rfl
                              have hcz40_1 : wr.cell? ⟨gb721, 1, none⟩ = some (.slice A0_1 l0_1.length c0_1) := (blk_cell BK721.out 1).trans rfl
                              have hcz40_2 : wr.cell? ⟨gb721, 2, none⟩ = some (.slice A0_2 l0_2.length c0_2) := (blk_cell BK721.out 2).trans rfl
                              have hfz40_0 := blk_frozen BK721.out 0
                              have hfz40_1 := blk_frozen BK721.out 1
                              have hfz40_2 := blk_frozen BK721.out 2
                              have p726 : 0 ≤ (x3_2 : Int) := of_decide_eq_true (by first | (with_reducible assumption) | assumption)
                              have q726 : x3_2 < (l0_1.length : Int) := of_decide_eq_true (by first | (with_reducible assumption) | assumption)
                              obtain ⟨ad726, A726_0, c726_0, e726, hx726_0, hl726_0, hi726_0⟩ := at_L14 HR0_1.out x3_2 p726 q726
                              cases e726
                              replace hx726_0 := (HB.out.cell (World.block_lt_of_cell? w _ hx726_0)).trans hx726_0
                              have HR726_0 := Aside0.mk hi726_0
                              have HC726_0 := Aside0.mk hl726_0
                              clear hi726_0 hl726_0
                              replace p726 := eq_true p726
                              replace q726 := eq_true q726
                              go_wp2
                              repeat (go_quiet (fail); try go_wp2)
                              go_roundg k4
                              case measure => have := HJ1.out; have := HK2.out; have := HJ20.out; have := HK4.out; omega
                              case rel => exact ⟨(wrap64 (x3_2 + 1)), (by first | rfl | (simp; done) | (simp [*]; done)), H', ⟨by have := HJ1.out; have := HK2.out; have := HJ20.out; have := HK4.out; omega⟩, ⟨by (with_reducible repeat (first | refine blk_drewN ?_ _ | refine blk_drew ?_ | refine blk_alloc ?_ _)); exact BK721.out⟩, ⟨by repeat (first | (with_reducible first | exact HB.out | apply below_alloc | apply pw_below_drewN | apply below_drew1 | refine below_set ?_ GE721.out) | exact HB.out)⟩⟩
                          · rw [if_neg c32] at H
                            exact absurd H (by simp)
                        · rw [if_neg c31] at H
                          exact absurd H (by simp)
            · rw [if_neg c20] at H
              have c20b0 : decide (x3_2 < (l0_1.length : Int)) = false := decide_eq_false c20
              clear c20
              obtain rfl := Option.some.inj H
              have hcz41_0 : wr.cell? ⟨gb721, 0, none⟩ = some (.slice A0_0 l0_0.length c0_0) := (blk_cell BK721.out 0).trans rfl
              have hcz41_1 : wr.cell? ⟨gb721, 1, none⟩ = some (.slice A0_1 l0_1.length c0_1) := (blk_cell BK721.out 1).trans rfl
              have hcz41_2 : wr.cell? ⟨gb721, 2, none⟩ = some (.slice A0_2 l0_2.length c0_2) := (blk_cell BK721.out 2).trans rfl
              have hfz41_0 := blk_frozen BK721.out 0
              have hfz41_1 := blk_frozen BK721.out 1
              have hfz41_2 := blk_frozen BK721.out 2
              go_wp2
              repeat (go_quiet (fail); try go_wp2)
              go_ret
              exact ⟨by first | rfl | (simp [errW_none, errW_some] <;> rfl) | (simp [*, errW_none, errW_some] <;> rfl), by repeat (first | (with_reducible first | exact HB.out | apply below_alloc | apply pw_below_drewN | apply below_drew1 | refine below_set ?_ GE721.out) | exact HB.out)⟩
end Go.Proofs.Ytljaoggbfoimfaa.P

namespace Go.Proofs.Ytljaoggbfoimfaa.P
open Go.RowKit Go.Proofs.YtljaoggbfoimfaaW.PrintWords Go.Proofs.YtljaoggbfoimfaaW.PrintLast Go.Proofs.YtljaoggbfoimfaaW.PrintMore
attribute [local go_sem] max2_int min2_int max_two min_two max_three min_three max_four min_four   -- for this text's walks alone
set_option linter.unusedVariables false
set_option linter.unusedSimpArgs false
def spec_l7Next.l0 : Nat → Int → Int → Int → List (List (S115)) → List (List Int) → List Int → Option (Int)
  | 0, _, _, _, _, _, _ => none
  | k + 1, x1, x2, x7, x783000, x783001, x783002 => if x7 < (x783000.length : Int) then (if 0 ≤ x7 then ((spec_SetHas.f k (rd_L11 x783000 x7) x2).bind fun t784 => (if t784 = true then (if 0 ≤ x1 then (if x1 < (x783001.length : Int) then (if x7 < ((rd_L14 x783001 x1).length : Int) then (some (rd (rd_L14 x783001 x1) x7)) else (none)) else (none)) else (none)) else (spec_l7Next.l0 k x1 x2 (wrap64 (x7 + 1)) x783000 x783001 x783002))) else (none)) else (some (-1))
def spec_l7Next.f (k : Nat) (l0_0 : List (List (S115))) (l0_1 : List (List Int)) (l0_2 : List Int) (a1 : Int) (a2 : Int) : Option (Int) := spec_l7Next.l0 k a1 a2 0 l0_0 l0_1 l0_2
theorem spec_l7Next.mono_l : ∀ k, (∀ y0 y1 y2 y3 y4 y5, LeO (spec_l7Next.l0 k y0 y1 y2 y3 y4 y5) (spec_l7Next.l0 (k + 1) y0 y1 y2 y3 y4 y5))
  | 0 => fun _ _ _ _ _ _ r h => by simp [spec_l7Next.l0] at h
  | k + 1 => by
    have ih0 := spec_l7Next.mono_l k
    · intro y0 y1 y2 y3 y4 y5
      unfold spec_l7Next.l0
      repeat' first
      | (with_reducible exact ih0 _ _ _ _ _ _)
      | (with_reducible exact spec_SetHas.mono _ _ _)
      | (with_reducible exact LeO.refl _)
      | (with_reducible exact LeO.none _)
      | (with_reducible refine LeO.ite ?_ ?_)
      | (with_reducible refine LeO.bind ?_ (fun _ => ?_))
      | exact ih0 _ _ _ _ _ _
      | exact spec_SetHas.mono _ _ _
      | exact LeO.none _
      | refine LeO.ite ?_ ?_
      | refine LeO.bind ?_ (fun _ => ?_)
theorem spec_l7Next.mono : ∀ a0 a1 a2 a3 a4 k, LeO (spec_l7Next.f k a0 a1 a2 a3 a4) (spec_l7Next.f (k + 1) a0 a1 a2 a3 a4) := by
  intro a0 a1 a2 a3 a4 k
  have ih0 := spec_l7Next.mono_l k
  unfold spec_l7Next.f
  repeat' first
      | (with_reducible exact ih0 _ _ _ _ _ _)
      | (with_reducible exact spec_SetHas.mono _ _ _)
      | (with_reducible exact LeO.refl _)
      | (with_reducible exact LeO.none _)
      | (with_reducible refine LeO.ite ?_ ?_)
      | (with_reducible refine LeO.bind ?_ (fun _ => ?_))
      | exact ih0 _ _ _ _ _ _
      | exact spec_SetHas.mono _ _ _
      | exact LeO.none _
      | refine LeO.ite ?_ ?_
      | refine LeO.bind ?_ (fun _ => ?_)
set_option maxHeartbeats 8000000 in
set_option maxRecDepth 100000 in
theorem spec_l7Next.calls (k : Nat) (A0_0 : Option Addr) (c0_0 : Nat) (l0_0 : List (List (S115))) (A0_1 : Option Addr) (c0_1 : Nat) (l0_1 : List (List Int)) (A0_2 : Option Addr) (c0_2 : Nat) (l0_2 : List Int) (a1 : Int) (a2 : Int) (r : Int) (w : World) (hr0_0 : Kd.C (Kd.slice 115 k115) w A0_0 l0_0.length l0_0) (hc0_0 : l0_0.length ≤ c0_0) (hr0_1 : Kd.C (Kd.slice 3 (Kd.int .i64)) w A0_1 l0_1.length l0_1) (hc0_1 : l0_1.length ≤ c0_1) (hr0_2 : Kd.C (Kd.int .i64) w A0_2 l0_2.length l0_2) (hc0_2 : l0_2.length ≤ c0_2) (h : spec_l7Next.f k l0_0 l0_1 l0_2 a1 a2 = some r) :
    Calls Try.prog 88 #[.agg #[.slice A0_0 l0_0.length c0_0, .slice A0_1 l0_1.length c0_1, .slice A0_2 l0_2.length c0_2], .int .i64 a1, .int .i64 a2] w fun e w' => e = .returned (.int .i64 r) ∧ Below w.heap.size w w' := by
  have hu55 := Try.underlying55
  have HR0_0 := Aside0.mk hr0_0
  have HC0_0 := Aside0.mk hc0_0
  clear hr0_0 hc0_0
  have HR0_1 := Aside0.mk hr0_1
  have HC0_1 := Aside0.mk hc0_1
  clear hr0_1 hc0_1
  have HR0_2 := Aside0.mk hr0_2
  have HC0_2 := Aside0.mk hc0_2
  clear hr0_2 hc0_2
  have HB := Aside0.mk (Below.refl w.heap.size w)
  have H : (spec_l7Next.l0 k a1 a2 0 l0_0 l0_1 l0_2) = some r := h
  clear h
  have H' := Aside0.mk H
  clear H
  go_enter Try.func88, Try.ntmps88
  go_wp2_with (first | ((with_reducible refine gate_dst (N := 3) rfl ?_); refine box_event ?hg (N := 3) ?hd (cs := #[.slice A0_0 l0_0.length c0_0, .slice A0_1 l0_1.length c0_1, .slice A0_2 l0_2.length c0_2]) (t := 55) ?hr ?_; (case hd => rfl); (case hg => rfl); (case hr => first | (go_simp; done) | (go_simp; rfl)); intro gb782 hg w4 hbox hb; have n0_ := Aside0.mk (below_step (by repeat (first | (with_reducible first | exact HB.out | apply below_alloc | apply pw_below_drewN | apply below_drew1) | exact HB.out)) hb); have n1_ := Aside0.mk (hbox); have n2_ := Aside0.mk ((by rw [hg]; exact (below_size (by repeat (first | (with_reducible first | exact HB.out | apply below_alloc | apply pw_below_drewN | apply below_drew1) | exact HB.out))) : w.heap.size ≤ gb782)); have n3_ := Aside0.mk ((by rw [hg]; exact (below_size (by repeat (first | (with_reducible first | exact HB.out | apply below_alloc | apply pw_below_drewN | apply below_drew1) | exact HB.out))) : w.heap.size ≤ gb782)); clear HB; have HB := n0_; have BK782 := n1_; have GW782 := n2_; have GE782 := n3_; clear n0_ n1_ n2_ n3_; clear hb hbox hg))
  go_loopg [7] k (fun kq v7 w' => ∃ (x7_1 : Int), v7 = .int .i64 x7_1 ∧ Aside0 (spec_l7Next.l0 kq a1 a2 x7_1 l0_0 l0_1 l0_2 = some r) ∧ Aside0 (kq ≤ k) ∧ Aside0 (w'.heap[gb782]? = some (.cells #[(.slice A0_0 l0_0.length c0_0), (.slice A0_1 l0_1.length c0_1), (.slice A0_2 l0_2.length c0_2)] 55 (0, 0))) ∧ Aside0 (Below w.heap.size w w'))
  case atStart => exact ⟨(0), (by first | rfl | (simp; done) | (simp [*]; done)), H', ⟨Nat.le_refl _⟩, ⟨by (with_reducible repeat (first | refine blk_drewN ?_ _ | refine blk_drew ?_ | refine blk_alloc ?_ _)); exact BK782.out⟩, ⟨by repeat (first | (with_reducible first | exact HB.out | apply below_alloc | apply pw_below_drewN | apply below_drew1 | refine below_set ?_ GE782.out) | exact HB.out)⟩⟩
  case round =>
    clear H'
    try clear p2
    obtain ⟨x7_1, rfl, HA, HK1, BK782, HB⟩ := hrel
    cases gk with
    | zero => exact absurd HA.out (by simp [spec_l7Next.l0])
    | succ k1 =>
      have H := HA.out
      clear HA
      simp only [spec_l7Next.l0] at H
      by_cases c5 : x7_1 < (l0_0.length : Int)
      · rw [if_pos c5] at H
        have c5b0 : decide (x7_1 < (l0_0.length : Int)) = true := decide_eq_true c5
        clear c5
        by_cases c6 : 0 ≤ x7_1
        · rw [if_pos c6] at H
          have c6b0 : decide (0 ≤ x7_1) = true := decide_eq_true c6
          clear c6
          replace H := Option.bind_eq_some_iff.mp H
          obtain ⟨t784, A70, H⟩ := H
          replace H : (if t784 = true then (if 0 ≤ a1 then (if a1 < (l0_1.length : Int) then (if x7_1 < ((rd_L14 l0_1 a1).length : Int) then (some (rd (rd_L14 l0_1 a1) x7_1)) else (none)) else (none)) else (none)) else (spec_l7Next.l0 k1 a1 a2 (wrap64 (x7_1 + 1)) l0_0 l0_1 l0_2)) = some r := H
          have A7 := Aside0.mk A70
          clear A70
          by_cases c8 : t784 = true
          · subst c8
            have H1 : (if 0 ≤ a1 then (if a1 < (l0_1.length : Int) then (if x7_1 < ((rd_L14 l0_1 a1).length : Int) then (some (rd (rd_L14 l0_1 a1) x7_1)) else (none)) else (none)) else (none)) = some r := by rw [if_pos rfl] at H; exact H
            clear H
            have H := H1
            clear H1
            by_cases c9 : 0 ≤ a1
            · rw [if_pos c9] at H
              have c9b0 : decide (0 ≤ a1) = true := decide_eq_true c9
              clear c9
              by_cases c10 : a1 < (l0_1.length : Int)
              · rw [if_pos c10] at H
                have c10b0 : decide (a1 < (l0_1.length : Int)) = true := decide_eq_true c10
                clear c10
                by_cases c11 : x7_1 < ((rd_L14 l0_1 a1).length : Int)
                · rw [if_pos c11] at H
                  have c11b0 : decide (x7_1 < ((rd_L14 l0_1 a1).length : Int)) = true := decide_eq_true c11
                  clear c11
                  obtain rfl := Option.some.inj H
                  have hcz12_0 : wr.cell? ⟨gb782, 0, none⟩ = some (.slice A0_0 l0_0.length c0_0) := (blk_cell BK782.out 0).trans rfl
                  have hcz12_1 : wr.cell? ⟨gb782, 1, none⟩ = some (.slice A0_1 l0_1.length c0_1) := (blk_cell BK782.out 1).trans rfl
                  have hcz12_2 : wr.cell? ⟨gb782, 2, none⟩ = some (.slice A0_2 l0_2.length c0_2) := (blk_cell BK782.out 2).trans rfl
                  have hfz12_0 := blk_frozen BK782.out 0
                  have hfz12_1 := blk_frozen BK782.out 1
                  have hfz12_2 := blk_frozen BK782.out 2
                  have p783 : 0 ≤ (x7_1 : Int) := of_decide_eq_true (by first | (with_reducible assumption) | assumption)
                  have q783 : x7_1 < (l0_0.length : Int) := of_decide_eq_true (by first | (with_reducible assumption) | assumption)
                  obtain ⟨ad783, A783_0, c783_0, e783, hx783_0, hl783_0, hi783_0⟩ := at_L11 HR0_0.out x7_1 p783 q783
                  cases e783
                  replace hx783_0 := (HB.out.cell (World.block_lt_of_cell? w _ hx783_0)).trans hx783_0
                  have HR783_0 := Aside0.mk hi783_0
                  have HC783_0 := Aside0.mk hl783_0
                  clear hi783_0 hl783_0
                  replace p783 := eq_true p783
                  replace q783 := eq_true q783
                  go_wp2_with (first | ((with_reducible refine gate_callee (f := 105) rfl ?_); refine goesL_ (some 21) rfl rfl Try.func105 (by kernel_rfl) rfl #[.slice A783_0 (rd_L11 l0_0 x7_1).length c783_0, .int .i64 a2] rfl (by (try simp only [List.map_toArray, List.map_cons, List.map_nil]); first | done | rfl | (simp only [List.length_drop, List.length_take]; rfl)) ?_; (with_reducible refine (spec_SetHas.calls k1 _ _ (rd_L11 l0_0 x7_1) a2 true _ ?side1 ?side2 A7.out).mono ?_); (case side1 => repeat (first | exact (Kd.C_below HR783_0.out HB.out) | (with_reducible refine Kd.C_alloc ?_ _) | (with_reducible refine Kd.C_drewN ?_ _) | (with_reducible refine Kd.C_drew ?_))); (case side2 => exact HC783_0.out); rintro e w' ⟨rfl, ⟨nd, rfl⟩⟩; refine ⟨_, rfl, ?_⟩; have p785 : 0 ≤ (a1 : Int) := of_decide_eq_true (by first | (with_reducible assumption) | assumption); have q785 : a1 < (l0_1.length : Int) := of_decide_eq_true (by first | (with_reducible assumption) | assumption); obtain ⟨ad785, A785_0, c785_0, e785, hx785_0, hl785_0, hi785_0⟩ := at_L14 HR0_1.out a1 p785 q785; cases e785; replace hx785_0 := (HB.out.cell (World.block_lt_of_cell? w _ hx785_0)).trans hx785_0; have HR785_0 := Aside0.mk hi785_0; have HC785_0 := Aside0.mk hl785_0; clear hi785_0 hl785_0; replace p785 := eq_true p785; replace q785 := eq_true q785; have p786 : 0 ≤ (x7_1 : Int) := of_decide_eq_true (by first | (with_reducible assumption) | assumption); have q786 : x7_1 < ((rd_L14 l0_1 a1).length : Int) := of_decide_eq_true (by first | (with_reducible assumption) | assumption); obtain ⟨ad786, e786, hx786_0⟩ := Kd.at_int HR785_0.out x7_1 p786 q786; cases e786; replace hx786_0 := (HB.out.cell (World.block_lt_of_cell? w _ hx786_0)).trans hx786_0; replace p786 := eq_true p786; replace q786 := eq_true q786))
                  go_ret
                  exact ⟨by first | rfl | (simp [errW_none, errW_some] <;> rfl) | (simp [*, errW_none, errW_some] <;> rfl), by repeat (first | (with_reducible first | exact HB.out | apply below_alloc | apply pw_below_drewN | apply below_drew1 | refine below_set ?_ GE782.out) | exact HB.out)⟩
                · rw [if_neg c11] at H
                  exact absurd H (by simp)
              · rw [if_neg c10] at H
                exact absurd H (by simp)
            · rw [if_neg c9] at H
              exact absurd H (by simp)
          · replace c8 := Bool.eq_false_iff.mpr c8
            subst c8
            have H1 : (spec_l7Next.l0 k1 a1 a2 (wrap64 (x7_1 + 1)) l0_0 l0_1 l0_2) = some r := by rw [if_neg (show ¬ (false = true) by decide)] at H; exact H
            clear H
            have H := H1
            clear H1
            have H' := Aside0.mk H
            clear H
            have hcz13_0 : wr.cell? ⟨gb782, 0, none⟩ = some (.slice A0_0 l0_0.length c0_0) := (blk_cell BK782.out 0).trans rfl
            have hcz13_1 : wr.cell? ⟨gb782, 1, none⟩ = some (.slice A0_1 l0_1.length c0_1) := (blk_cell BK782.out 1).trans rfl
            have hcz13_2 : wr.cell? ⟨gb782, 2, none⟩ = some (.slice A0_2 l0_2.length c0_2) := (blk_cell BK782.out 2).trans rfl
            have hfz13_0 := blk_frozen BK782.out 0
            have hfz13_1 := blk_frozen BK782.out 1
            have hfz13_2 := blk_frozen BK782.out 2
            have p783 : 0 ≤ (x7_1 : Int) := of_decide_eq_true (by first | (with_reducible assumption) | assumption)
            have q783 : x7_1 < (l0_0.length : Int) := of_decide_eq_true (by first | (with_reducible assumption) | assumption)
            obtain ⟨ad783, A783_0, c783_0, e783, hx783_0, hl783_0, hi783_0⟩ := at_L11 HR0_0.out x7_1 p783 q783
            cases e783
            replace hx783_0 := (HB.out.cell (World.block_lt_of_cell? w _ hx783_0)).trans hx783_0
            have HR783_0 := Aside0.mk hi783_0
            have HC783_0 := Aside0.mk hl783_0
            clear hi783_0 hl783_0
            replace p783 := eq_true p783
            replace q783 := eq_true q783
            go_wp2_with (first | ((with_reducible refine gate_callee (f := 105) rfl ?_); refine goesL_ (some 21) rfl rfl Try.func105 (by kernel_rfl) rfl #[.slice A783_0 (rd_L11 l0_0 x7_1).length c783_0, .int .i64 a2] rfl (by (try simp only [List.map_toArray, List.map_cons, List.map_nil]); first | done | rfl | (simp only [List.length_drop, List.length_take]; rfl)) ?_; (with_reducible refine (spec_SetHas.calls k1 _ _ (rd_L11 l0_0 x7_1) a2 false _ ?side1 ?side2 A7.out).mono ?_); (case side1 => repeat (first | exact (Kd.C_below HR783_0.out HB.out) | (with_reducible refine Kd.C_alloc ?_ _) | (with_reducible refine Kd.C_drewN ?_ _) | (with_reducible refine Kd.C_drew ?_))); (case side2 => exact HC783_0.out); rintro e w' ⟨rfl, ⟨nd, rfl⟩⟩; refine ⟨_, rfl, ?_⟩))
            go_roundg k1
            case measure => have := HK1.out; omega
            case rel => exact ⟨(wrap64 (x7_1 + 1)), (by first | rfl | (simp; done) | (simp [*]; done)), H', ⟨by have := HK1.out; omega⟩, ⟨by (with_reducible repeat (first | refine blk_drewN ?_ _ | refine blk_drew ?_ | refine blk_alloc ?_ _)); exact BK782.out⟩, ⟨by repeat (first | (with_reducible first | exact HB.out | apply below_alloc | apply pw_below_drewN | apply below_drew1 | refine below_set ?_ GE782.out) | exact HB.out)⟩⟩
        · rw [if_neg c6] at H
          exact absurd H (by simp)
      · rw [if_neg c5] at H
        have c5b0 : decide (x7_1 < (l0_0.length : Int)) = false := decide_eq_false c5
        clear c5
        obtain rfl := Option.some.inj H
        have hcz14_0 : wr.cell? ⟨gb782, 0, none⟩ = some (.slice A0_0 l0_0.length c0_0) := (blk_cell BK782.out 0).trans rfl
        have hcz14_1 : wr.cell? ⟨gb782, 1, none⟩ = some (.slice A0_1 l0_1.length c0_1) := (blk_cell BK782.out 1).trans rfl
        have hcz14_2 : wr.cell? ⟨gb782, 2, none⟩ = some (.slice A0_2 l0_2.length c0_2) := (blk_cell BK782.out 2).trans rfl
        have hfz14_0 := blk_frozen BK782.out 0
        have hfz14_1 := blk_frozen BK782.out 1
        have hfz14_2 := blk_frozen BK782.out 2
        go_wp2
        go_ret
        exact ⟨by first | rfl | (simp [errW_none, errW_some] <;> rfl) | (simp [*, errW_none, errW_some] <;> rfl), by repeat (first | (with_reducible first | exact HB.out | apply below_alloc | apply pw_below_drewN | apply below_drew1 | refine below_set ?_ GE782.out) | exact HB.out)⟩
end Go.Proofs.Ytljaoggbfoimfaa.P

namespace Go.Proofs.Ytljaoggbfoimfaa.P
open Go.RowKit Go.Proofs.YtljaoggbfoimfaaW.PrintWords Go.Proofs.YtljaoggbfoimfaaW.PrintLast Go.Proofs.YtljaoggbfoimfaaW.PrintMore
attribute [local go_sem] max2_int min2_int max_two min_two max_three min_three max_four min_four   -- for this text's walks alone
set_option linter.unusedVariables false
set_option linter.unusedSimpArgs false
def spec_DfaNext.f (k : Nat) (l0_0 : List (List (S115))) (l0_1 : List (List Int)) (l0_2 : List Int) (a1 : Int) (a2 : Int) : Option (Int) := (spec_DfaOk.f k l0_0 l0_1 l0_2).bind fun t788 => (if t788 = true then (if a1 < 0 then (some (-1)) else (if a1 ≥ (l0_1.length : Int) then (some (-1)) else ((spec_l7Next.f k l0_0 l0_1 l0_2 a1 a2).bind fun t789 => (some t789)))) else (some (-1)))
theorem spec_DfaNext.mono : ∀ a0 a1 a2 a3 a4 k, LeO (spec_DfaNext.f k a0 a1 a2 a3 a4) (spec_DfaNext.f (k + 1) a0 a1 a2 a3 a4) := by
  intro a0 a1 a2 a3 a4 k
  unfold spec_DfaNext.f
  repeat' first
      | (with_reducible exact spec_DfaOk.mono _ _ _ _)
      | (with_reducible exact spec_l7Next.mono _ _ _ _ _ _)
      | (with_reducible exact LeO.refl _)
      | (with_reducible exact LeO.none _)
      | (with_reducible refine LeO.ite ?_ ?_)
      | (with_reducible refine LeO.bind ?_ (fun _ => ?_))
      | exact spec_DfaOk.mono _ _ _ _
      | exact spec_l7Next.mono _ _ _ _ _ _
      | exact LeO.none _
      | refine LeO.ite ?_ ?_
      | refine LeO.bind ?_ (fun _ => ?_)
set_option maxHeartbeats 8000000 in
set_option maxRecDepth 100000 in
theorem spec_DfaNext.calls (k : Nat) (A0_0 : Option Addr) (c0_0 : Nat) (l0_0 : List (List (S115))) (A0_1 : Option Addr) (c0_1 : Nat) (l0_1 : List (List Int)) (A0_2 : Option Addr) (c0_2 : Nat) (l0_2 : List Int) (a1 : Int) (a2 : Int) (r : Int) (w : World) (hr0_0 : Kd.C (Kd.slice 115 k115) w A0_0 l0_0.length l0_0) (hc0_0 : l0_0.length ≤ c0_0) (hr0_1 : Kd.C (Kd.slice 3 (Kd.int .i64)) w A0_1 l0_1.length l0_1) (hc0_1 : l0_1.length ≤ c0_1) (hr0_2 : Kd.C (Kd.int .i64) w A0_2 l0_2.length l0_2) (hc0_2 : l0_2.length ≤ c0_2) (h : spec_DfaNext.f k l0_0 l0_1 l0_2 a1 a2 = some r) :
    Calls Try.prog 49 #[.agg #[.slice A0_0 l0_0.length c0_0, .slice A0_1 l0_1.length c0_1, .slice A0_2 l0_2.length c0_2], .int .i64 a1, .int .i64 a2] w fun e w' => e = .returned (.int .i64 r) ∧ Below w.heap.size w w' := by
  have hu55 := Try.underlying55
  have HR0_0 := Aside0.mk hr0_0
  have HC0_0 := Aside0.mk hc0_0
  clear hr0_0 hc0_0
  have HR0_1 := Aside0.mk hr0_1
  have HC0_1 := Aside0.mk hc0_1
  clear hr0_1 hc0_1
  have HR0_2 := Aside0.mk hr0_2
  have HC0_2 := Aside0.mk hc0_2
  clear hr0_2 hc0_2
  have HB := Aside0.mk (Below.refl w.heap.size w)
  have H : ((spec_DfaOk.f k l0_0 l0_1 l0_2).bind fun t788 => (if t788 = true then (if a1 < 0 then (some (-1)) else (if a1 ≥ (l0_1.length : Int) then (some (-1)) else ((spec_l7Next.f k l0_0 l0_1 l0_2 a1 a2).bind fun t789 => (some t789)))) else (some (-1)))) = some r := h
  clear h
  replace H := Option.bind_eq_some_iff.mp H
  obtain ⟨t788, A40, H⟩ := H
  replace H : (if t788 = true then (if a1 < 0 then (some (-1)) else (if a1 ≥ (l0_1.length : Int) then (some (-1)) else ((spec_l7Next.f k l0_0 l0_1 l0_2 a1 a2).bind fun t789 => (some t789)))) else (some (-1))) = some r := H
  have A4 := Aside0.mk A40
  clear A40
  by_cases c5 : t788 = true
  · subst c5
    have H1 : (if a1 < 0 then (some (-1)) else (if a1 ≥ (l0_1.length : Int) then (some (-1)) else ((spec_l7Next.f k l0_0 l0_1 l0_2 a1 a2).bind fun t789 => (some t789)))) = some r := by rw [if_pos rfl] at H; exact H
    clear H
    have H := H1
    clear H1
    by_cases c6 : a1 < 0
    · rw [if_pos c6] at H
      have c6b0 : decide (a1 < 0) = true := decide_eq_true c6
      clear c6
      obtain rfl := Option.some.inj H
      go_enter Try.func49, Try.ntmps49
      go_wp2_with (first | ((with_reducible refine gate_dst (N := 3) rfl ?_); (try (refine gate_guard (by rfl) ?_; dsimp only)); refine box_event ?hg (N := 3) ?hd (cs := #[.slice A0_0 l0_0.length c0_0, .slice A0_1 l0_1.length c0_1, .slice A0_2 l0_2.length c0_2]) (t := 55) ?hr ?_; (case hd => rfl); (case hg => rfl); (case hr => first | (go_simp; done) | (go_simp; rfl)); intro gb787 hg w7 hbox hb; have n0_ := Aside0.mk (below_step (by repeat (first | (with_reducible first | exact HB.out | apply below_alloc | apply pw_below_drewN | apply below_drew1) | exact HB.out)) hb); have n1_ := Aside0.mk (hbox); have n2_ := Aside0.mk ((by rw [hg]; exact (below_size (by repeat (first | (with_reducible first | exact HB.out | apply below_alloc | apply pw_below_drewN | apply below_drew1) | exact HB.out))) : w.heap.size ≤ gb787)); have n3_ := Aside0.mk ((by rw [hg]; exact (below_size (by repeat (first | (with_reducible first | exact HB.out | apply below_alloc | apply pw_below_drewN | apply below_drew1) | exact HB.out))) : w.heap.size ≤ gb787)); clear HB; have HB := n0_; have BK787 := n1_; have GW787 := n2_; have GE787 := n3_; clear n0_ n1_ n2_ n3_; clear hb hbox hg; have hcz8_0 : w7.cell? ⟨gb787, 0, none⟩ = some (.slice A0_0 l0_0.length c0_0) := (blk_cell BK787.out 0).trans rfl; have hcz8_1 : w7.cell? ⟨gb787, 1, none⟩ = some (.slice A0_1 l0_1.length c0_1) := (blk_cell BK787.out 1).trans rfl; have hcz8_2 : w7.cell? ⟨gb787, 2, none⟩ = some (.slice A0_2 l0_2.length c0_2) := (blk_cell BK787.out 2).trans rfl; have hfz8_0 := blk_frozen BK787.out 0; have hfz8_1 := blk_frozen BK787.out 1; have hfz8_2 := blk_frozen BK787.out 2) | ((with_reducible refine gate_callee (f := 47) rfl ?_); refine goesL_ (some 8) rfl rfl Try.func47 (by kernel_rfl) rfl #[.agg #[.slice A0_0 l0_0.length c0_0, .slice A0_1 l0_1.length c0_1, .slice A0_2 l0_2.length c0_2]] rfl (by (try simp only [List.map_toArray, List.map_cons, List.map_nil]); first | done | rfl | (simp only [List.length_drop, List.length_take]; rfl)) ?_; (with_reducible refine (spec_DfaOk.calls k _ _ l0_0 _ _ l0_1 _ _ l0_2 true _ ?side1 ?side2 ?side3 ?side4 ?side5 ?side6 A4.out).mono ?_); (case side1 => repeat (first | exact (Kd.C_below HR0_0.out HB.out) | (with_reducible refine Kd.C_alloc ?_ _) | (with_reducible refine Kd.C_drewN ?_ _) | (with_reducible refine Kd.C_drew ?_))); (case side2 => exact HC0_0.out); (case side3 => repeat (first | exact (Kd.C_below HR0_1.out HB.out) | (with_reducible refine Kd.C_alloc ?_ _) | (with_reducible refine Kd.C_drewN ?_ _) | (with_reducible refine Kd.C_drew ?_))); (case side4 => exact HC0_1.out); (case side5 => repeat (first | exact (Kd.C_below HR0_2.out HB.out) | (with_reducible refine Kd.C_alloc ?_ _) | (with_reducible refine Kd.C_drewN ?_ _) | (with_reducible refine Kd.C_drew ?_))); (case side6 => exact HC0_2.out); rintro e w9 ⟨rfl, hb⟩; refine ⟨_, rfl, ?_⟩; have n0_ := Aside0.mk (blk_below (g := gb787) (o := .cells #[.slice A0_0 l0_0.length c0_0, .slice A0_1 l0_1.length c0_1, .slice A0_2 l0_2.length c0_2] 55 (0, 0)) (by (with_reducible repeat (first | refine blk_drewN ?_ _ | refine blk_drew ?_ | refine blk_alloc ?_ _)); exact BK787.out) hb); have n1_ := Aside0.mk (below_step (by repeat (first | (with_reducible first | exact HB.out | apply below_alloc | apply pw_below_drewN | apply below_drew1 | refine below_set ?_ GE787.out) | exact HB.out)) hb); clear BK787; clear HB; have BK787 := n0_; have HB := n1_; clear n0_ n1_; (try clear hb); (try clear hb2); (try clear hk); (try clear hi)))
      go_ret
      exact ⟨by first | rfl | (simp [errW_none, errW_some] <;> rfl) | (simp [*, errW_none, errW_some] <;> rfl), by repeat (first | (with_reducible first | exact HB.out | apply below_alloc | apply pw_below_drewN | apply below_drew1 | refine below_set ?_ GE787.out) | exact HB.out)⟩
    · rw [if_neg c6] at H
      have c6b0 : decide (a1 < 0) = false := decide_eq_false c6
      clear c6
      by_cases c10 : a1 ≥ (l0_1.length : Int)
      · rw [if_pos c10] at H
        have c10b0 : decide ((l0_1.length : Int) ≤ a1) = true := decide_eq_true c10
        clear c10
        obtain rfl := Option.some.inj H
        go_enter Try.func49, Try.ntmps49
        go_wp2_with (first | ((with_reducible refine gate_dst (N := 3) rfl ?_); (try (refine gate_guard (by rfl) ?_; dsimp only)); refine box_event ?hg (N := 3) ?hd (cs := #[.slice A0_0 l0_0.length c0_0, .slice A0_1 l0_1.length c0_1, .slice A0_2 l0_2.length c0_2]) (t := 55) ?hr ?_; (case hd => rfl); (case hg => rfl); (case hr => first | (go_simp; done) | (go_simp; rfl)); intro gb787 hg w11 hbox hb; have n0_ := Aside0.mk (below_step (by repeat (first | (with_reducible first | exact HB.out | apply below_alloc | apply pw_below_drewN | apply below_drew1) | exact HB.out)) hb); have n1_ := Aside0.mk (hbox); have n2_ := Aside0.mk ((by rw [hg]; exact (below_size (by repeat (first | (with_reducible first | exact HB.out | apply below_alloc | apply pw_below_drewN | apply below_drew1) | exact HB.out))) : w.heap.size ≤ gb787)); have n3_ := Aside0.mk ((by rw [hg]; exact (below_size (by repeat (first | (with_reducible first | exact HB.out | apply below_alloc | apply pw_below_drewN | apply below_drew1) | exact HB.out))) : w.heap.size ≤ gb787)); clear HB; have HB := n0_; have BK787 := n1_; have GW787 := n2_; have GE787 := n3_; clear n0_ n1_ n2_ n3_; clear hb hbox hg; have hcz12_0 : w11.cell? ⟨gb787, 0, none⟩ = some (.slice A0_0 l0_0.length c0_0) := (blk_cell BK787.out 0).trans rfl; have hcz12_1 : w11.cell? ⟨gb787, 1, none⟩ = some (.slice A0_1 l0_1.length c0_1) := (blk_cell BK787.out 1).trans rfl; have hcz12_2 : w11.cell? ⟨gb787, 2, none⟩ = some (.slice A0_2 l0_2.length c0_2) := (blk_cell BK787.out 2).trans rfl; have hfz12_0 := blk_frozen BK787.out 0; have hfz12_1 := blk_frozen BK787.out 1; have hfz12_2 := blk_frozen BK787.out 2) | ((with_reducible refine gate_callee (f := 47) rfl ?_); refine goesL_ (some 8) rfl rfl Try.func47 (by kernel_rfl) rfl #[.agg #[.slice A0_0 l0_0.length c0_0, .slice A0_1 l0_1.length c0_1, .slice A0_2 l0_2.length c0_2]] rfl (by (try simp only [List.map_toArray, List.map_cons, List.map_nil]); first | done | rfl | (simp only [List.length_drop, List.length_take]; rfl)) ?_; (with_reducible refine (spec_DfaOk.calls k _ _ l0_0 _ _ l0_1 _ _ l0_2 true _ ?side1 ?side2 ?side3 ?side4 ?side5 ?side6 A4.out).mono ?_); (case side1 => repeat (first | exact (Kd.C_below HR0_0.out HB.out) | (with_reducible refine Kd.C_alloc ?_ _) | (with_reducible refine Kd.C_drewN ?_ _) | (with_reducible refine Kd.C_drew ?_))); (case side2 => exact HC0_0.out); (case side3 => repeat (first | exact (Kd.C_below HR0_1.out HB.out) | (with_reducible refine Kd.C_alloc ?_ _) | (with_reducible refine Kd.C_drewN ?_ _) | (with_reducible refine Kd.C_drew ?_))); (case side4 => exact HC0_1.out); (case side5 => repeat (first | exact (Kd.C_below HR0_2.out HB.out) | (with_reducible refine Kd.C_alloc ?_ _) | (with_reducible refine Kd.C_drewN ?_ _) | (with_reducible refine Kd.C_drew ?_))); (case side6 => exact HC0_2.out); rintro e w13 ⟨rfl, hb⟩; refine ⟨_, rfl, ?_⟩; have n0_ := Aside0.mk (blk_below (g := gb787) (o := .cells #[.slice A0_0 l0_0.length c0_0, .slice A0_1 l0_1.length c0_1, .slice A0_2 l0_2.length c0_2] 55 (0, 0)) (by (with_reducible repeat (first | refine blk_drewN ?_ _ | refine blk_drew ?_ | refine blk_alloc ?_ _)); exact BK787.out) hb); have n1_ := Aside0.mk (below_step (by repeat (first | (with_reducible first | exact HB.out | apply below_alloc | apply pw_below_drewN | apply below_drew1 | refine below_set ?_ GE787.out) | exact HB.out)) hb); clear BK787; clear HB; have BK787 := n0_; have HB := n1_; clear n0_ n1_; (try clear hb); (try clear hb2); (try clear hk); (try clear hi); have hcz14_0 : w13.cell? ⟨gb787, 0, none⟩ = some (.slice A0_0 l0_0.length c0_0) := (blk_cell BK787.out 0).trans rfl; have hcz14_1 : w13.cell? ⟨gb787, 1, none⟩ = some (.slice A0_1 l0_1.length c0_1) := (blk_cell BK787.out 1).trans rfl; have hcz14_2 : w13.cell? ⟨gb787, 2, none⟩ = some (.slice A0_2 l0_2.length c0_2) := (blk_cell BK787.out 2).trans rfl; have hfz14_0 := blk_frozen BK787.out 0; have hfz14_1 := blk_frozen BK787.out 1; have hfz14_2 := blk_frozen BK787.out 2))
        go_ret
        exact ⟨by first | rfl | (simp [errW_none, errW_some] <;> rfl) | (simp [*, errW_none, errW_some] <;> rfl), by repeat (first | (with_reducible first | exact HB.out | apply below_alloc | apply pw_below_drewN | apply below_drew1 | refine below_set ?_ GE787.out) | exact HB.out)⟩
      · rw [if_neg c10] at H
        have c10b0 : decide ((l0_1.length : Int) ≤ a1) = false := decide_eq_false c10
        clear c10
        replace H := Option.bind_eq_some_iff.mp H
        obtain ⟨t789, A150, H⟩ := H
        replace H : (some t789) = some r := H
        have A15 := Aside0.mk A150
        clear A150
        obtain rfl := Option.some.inj H
        go_enter Try.func49, Try.ntmps49
        go_wp2_with (first | ((with_reducible refine gate_dst (N := 3) rfl ?_); (try (refine gate_guard (by rfl) ?_; dsimp only)); refine box_event ?hg (N := 3) ?hd (cs := #[.slice A0_0 l0_0.length c0_0, .slice A0_1 l0_1.length c0_1, .slice A0_2 l0_2.length c0_2]) (t := 55) ?hr ?_; (case hd => rfl); (case hg => rfl); (case hr => first | (go_simp; done) | (go_simp; rfl)); intro gb787 hg w16 hbox hb; have n0_ := Aside0.mk (below_step (by repeat (first | (with_reducible first | exact HB.out | apply below_alloc | apply pw_below_drewN | apply below_drew1) | exact HB.out)) hb); have n1_ := Aside0.mk (hbox); have n2_ := Aside0.mk ((by rw [hg]; exact (below_size (by repeat (first | (with_reducible first | exact HB.out | apply below_alloc | apply pw_below_drewN | apply below_drew1) | exact HB.out))) : w.heap.size ≤ gb787)); have n3_ := Aside0.mk ((by rw [hg]; exact (below_size (by repeat (first | (with_reducible first | exact HB.out | apply below_alloc | apply pw_below_drewN | apply below_drew1) | exact HB.out))) : w.heap.size ≤ gb787)); clear HB; have HB := n0_; have BK787 := n1_; have GW787 := n2_; have GE787 := n3_; clear n0_ n1_ n2_ n3_; clear hb hbox hg; have hcz17_0 : w16.cell? ⟨gb787, 0, none⟩ = some (.slice A0_0 l0_0.length c0_0) := (blk_cell BK787.out 0).trans rfl; have hcz17_1 : w16.cell? ⟨gb787, 1, none⟩ = some (.slice A0_1 l0_1.length c0_1) := (blk_cell BK787.out 1).trans rfl; have hcz17_2 : w16.cell? ⟨gb787, 2, none⟩ = some (.slice A0_2 l0_2.length c0_2) := (blk_cell BK787.out 2).trans rfl; have hfz17_0 := blk_frozen BK787.out 0; have hfz17_1 := blk_frozen BK787.out 1; have hfz17_2 := blk_frozen BK787.out 2) | ((with_reducible refine gate_callee (f := 47) rfl ?_); refine goesL_ (some 8) rfl rfl Try.func47 (by kernel_rfl) rfl #[.agg #[.slice A0_0 l0_0.length c0_0, .slice A0_1 l0_1.length c0_1, .slice A0_2 l0_2.length c0_2]] rfl (by (try simp only [List.map_toArray, List.map_cons, List.map_nil]); first | done | rfl | (simp only [List.length_drop, List.length_take]; rfl)) ?_; (with_reducible refine (spec_DfaOk.calls k _ _ l0_0 _ _ l0_1 _ _ l0_2 true _ ?side1 ?side2 ?side3 ?side4 ?side5 ?side6 A4.out).mono ?_); (case side1 => repeat (first | exact (Kd.C_below HR0_0.out HB.out) | (with_reducible refine Kd.C_alloc ?_ _) | (with_reducible refine Kd.C_drewN ?_ _) | (with_reducible refine Kd.C_drew ?_))); (case side2 => exact HC0_0.out); (case side3 => repeat (first | exact (Kd.C_below HR0_1.out HB.out) | (with_reducible refine Kd.C_alloc ?_ _) | (with_reducible refine Kd.C_drewN ?_ _) | (with_reducible refine Kd.C_drew ?_))); (case side4 => exact HC0_1.out); (case side5 => repeat (first | exact (Kd.C_below HR0_2.out HB.out) | (with_reducible refine Kd.C_alloc ?_ _) | (with_reducible refine Kd.C_drewN ?_ _) | (with_reducible refine Kd.C_drew ?_))); (case side6 => exact HC0_2.out); rintro e w18 ⟨rfl, hb⟩; refine ⟨_, rfl, ?_⟩; have n0_ := Aside0.mk (blk_below (g := gb787) (o := .cells #[.slice A0_0 l0_0.length c0_0, .slice A0_1 l0_1.length c0_1, .slice A0_2 l0_2.length c0_2] 55 (0, 0)) (by (with_reducible repeat (first | refine blk_drewN ?_ _ | refine blk_drew ?_ | refine blk_alloc ?_ _)); exact BK787.out) hb); have n1_ := Aside0.mk (below_step (by repeat (first | (with_reducible first | exact HB.out | apply below_alloc | apply pw_below_drewN | apply below_drew1 | refine below_set ?_ GE787.out) | exact HB.out)) hb); clear BK787; clear HB; have BK787 := n0_; have HB := n1_; clear n0_ n1_; (try clear hb); (try clear hb2); (try clear hk); (try clear hi); have hcz19_0 : w18.cell? ⟨gb787, 0, none⟩ = some (.slice A0_0 l0_0.length c0_0) := (blk_cell BK787.out 0).trans rfl; have hcz19_1 : w18.cell? ⟨gb787, 1, none⟩ = some (.slice A0_1 l0_1.length c0_1) := (blk_cell BK787.out 1).trans rfl; have hcz19_2 : w18.cell? ⟨gb787, 2, none⟩ = some (.slice A0_2 l0_2.length c0_2) := (blk_cell BK787.out 2).trans rfl; have hfz19_0 := blk_frozen BK787.out 0; have hfz19_1 := blk_frozen BK787.out 1; have hfz19_2 := blk_frozen BK787.out 2) | ((with_reducible refine gate_callee (f := 88) rfl ?_); refine goesL_ (some 24) rfl rfl Try.func88 (by kernel_rfl) rfl #[.agg #[.slice A0_0 l0_0.length c0_0, .slice A0_1 l0_1.length c0_1, .slice A0_2 l0_2.length c0_2], .int .i64 a1, .int .i64 a2] rfl (by (try simp only [List.map_toArray, List.map_cons, List.map_nil]); first | done | rfl | (simp only [List.length_drop, List.length_take]; rfl)) ?_; (with_reducible refine (spec_l7Next.calls k _ _ l0_0 _ _ l0_1 _ _ l0_2 a1 a2 t789 _ ?side1 ?side2 ?side3 ?side4 ?side5 ?side6 A15.out).mono ?_); (case side1 => repeat (first | exact (Kd.C_below HR0_0.out HB.out) | (with_reducible refine Kd.C_alloc ?_ _) | (with_reducible refine Kd.C_drewN ?_ _) | (with_reducible refine Kd.C_drew ?_))); (case side2 => exact HC0_0.out); (case side3 => repeat (first | exact (Kd.C_below HR0_1.out HB.out) | (with_reducible refine Kd.C_alloc ?_ _) | (with_reducible refine Kd.C_drewN ?_ _) | (with_reducible refine Kd.C_drew ?_))); (case side4 => exact HC0_1.out); (case side5 => repeat (first | exact (Kd.C_below HR0_2.out HB.out) | (with_reducible refine Kd.C_alloc ?_ _) | (with_reducible refine Kd.C_drewN ?_ _) | (with_reducible refine Kd.C_drew ?_))); (case side6 => exact HC0_2.out); rintro e w20 ⟨rfl, hb⟩; refine ⟨_, rfl, ?_⟩; have n0_ := Aside0.mk (blk_below (g := gb787) (o := .cells #[.slice A0_0 l0_0.length c0_0, .slice A0_1 l0_1.length c0_1, .slice A0_2 l0_2.length c0_2] 55 (0, 0)) (by (with_reducible repeat (first | refine blk_drewN ?_ _ | refine blk_drew ?_ | refine blk_alloc ?_ _)); exact BK787.out) hb); have n1_ := Aside0.mk (below_step (by repeat (first | (with_reducible first | exact HB.out | apply below_alloc | apply pw_below_drewN | apply below_drew1 | refine below_set ?_ GE787.out) | exact HB.out)) hb); clear BK787; clear HB; have BK787 := n0_; have HB := n1_; clear n0_ n1_; (try clear hb); (try clear hb2); (try clear hk); (try clear hi)))
        go_ret
        exact ⟨by first | rfl | (simp [errW_none, errW_some] <;> rfl) | (simp [*, errW_none, errW_some] <;> rfl), by repeat (first | (with_reducible first | exact HB.out | apply below_alloc | apply pw_below_drewN | apply below_drew1 | refine below_set ?_ GE787.out) | exact HB.out)⟩
  · replace c5 := Bool.eq_false_iff.mpr c5
    subst c5
    have H1 : (some (-1)) = some r := by rw [if_neg (show ¬ (false = true) by decide)] at H; exact H
    clear H
    have H := H1
    clear H1
    obtain rfl := Option.some.inj H
    go_enter Try.func49, Try.ntmps49
    go_wp2_with (first | ((with_reducible refine gate_dst (N := 3) rfl ?_); (try (refine gate_guard (by rfl) ?_; dsimp only)); refine box_event ?hg (N := 3) ?hd (cs := #[.slice A0_0 l0_0.length c0_0, .slice A0_1 l0_1.length c0_1, .slice A0_2 l0_2.length c0_2]) (t := 55) ?hr ?_; (case hd => rfl); (case hg => rfl); (case hr => first | (go_simp; done) | (go_simp; rfl)); intro gb787 hg w21 hbox hb; have n0_ := Aside0.mk (below_step (by repeat (first | (with_reducible first | exact HB.out | apply below_alloc | apply pw_below_drewN | apply below_drew1) | exact HB.out)) hb); have n1_ := Aside0.mk (hbox); have n2_ := Aside0.mk ((by rw [hg]; exact (below_size (by repeat (first | (with_reducible first | exact HB.out | apply below_alloc | apply pw_below_drewN | apply below_drew1) | exact HB.out))) : w.heap.size ≤ gb787)); have n3_ := Aside0.mk ((by rw [hg]; exact (below_size (by repeat (first | (with_reducible first | exact HB.out | apply below_alloc | apply pw_below_drewN | apply below_drew1) | exact HB.out))) : w.heap.size ≤ gb787)); clear HB; have HB := n0_; have BK787 := n1_; have GW787 := n2_; have GE787 := n3_; clear n0_ n1_ n2_ n3_; clear hb hbox hg; have hcz22_0 : w21.cell? ⟨gb787, 0, none⟩ = some (.slice A0_0 l0_0.length c0_0) := (blk_cell BK787.out 0).trans rfl; have hcz22_1 : w21.cell? ⟨gb787, 1, none⟩ = some (.slice A0_1 l0_1.length c0_1) := (blk_cell BK787.out 1).trans rfl; have hcz22_2 : w21.cell? ⟨gb787, 2, none⟩ = some (.slice A0_2 l0_2.length c0_2) := (blk_cell BK787.out 2).trans rfl; have hfz22_0 := blk_frozen BK787.out 0; have hfz22_1 := blk_frozen BK787.out 1; have hfz22_2 := blk_frozen BK787.out 2) | ((with_reducible refine gate_callee (f := 47) rfl ?_); refine goesL_ (some 8) rfl rfl Try.func47 (by kernel_rfl) rfl #[.agg #[.slice A0_0 l0_0.length c0_0, .slice A0_1 l0_1.length c0_1, .slice A0_2 l0_2.length c0_2]] rfl (by (try simp only [List.map_toArray, List.map_cons, List.map_nil]); first | done | rfl | (simp only [List.length_drop, List.length_take]; rfl)) ?_; (with_reducible refine (spec_DfaOk.calls k _ _ l0_0 _ _ l0_1 _ _ l0_2 false _ ?side1 ?side2 ?side3 ?side4 ?side5 ?side6 A4.out).mono ?_); (case side1 => repeat (first | exact (Kd.C_below HR0_0.out HB.out) | (with_reducible refine Kd.C_alloc ?_ _) | (with_reducible refine Kd.C_drewN ?_ _) | (with_reducible refine Kd.C_drew ?_))); (case side2 => exact HC0_0.out); (case side3 => repeat (first | exact (Kd.C_below HR0_1.out HB.out) | (with_reducible refine Kd.C_alloc ?_ _) | (with_reducible refine Kd.C_drewN ?_ _) | (with_reducible refine Kd.C_drew ?_))); (case side4 => exact HC0_1.out); (case side5 => repeat (first | exact (Kd.C_below HR0_2.out HB.out) | (with_reducible refine Kd.C_alloc ?_ _) | (with_reducible refine Kd.C_drewN ?_ _) | (with_reducible refine Kd.C_drew ?_))); (case side6 => exact HC0_2.out); rintro e w23 ⟨rfl, hb⟩; refine ⟨_, rfl, ?_⟩; have n0_ := Aside0.mk (blk_below (g := gb787) (o := .cells #[.slice A0_0 l0_0.length c0_0, .slice A0_1 l0_1.length c0_1, .slice A0_2 l0_2.length c0_2] 55 (0, 0)) (by (with_reducible repeat (first | refine blk_drewN ?_ _ | refine blk_drew ?_ | refine blk_alloc ?_ _)); exact BK787.out) hb); have n1_ := Aside0.mk (below_step (by repeat (first | (with_reducible first | exact HB.out | apply below_alloc | apply pw_below_drewN | apply below_drew1 | refine below_set ?_ GE787.out) | exact HB.out)) hb); clear BK787; clear HB; have BK787 := n0_; have HB := n1_; clear n0_ n1_; (try clear hb); (try clear hb2); (try clear hk); (try clear hi)))
    go_ret
    exact ⟨by first | rfl | (simp [errW_none, errW_some] <;> rfl) | (simp [*, errW_none, errW_some] <;> rfl), by repeat (first | (with_reducible first | exact HB.out | apply below_alloc | apply pw_below_drewN | apply below_drew1 | refine below_set ?_ GE787.out) | exact HB.out)⟩
end Go.Proofs.Ytljaoggbfoimfaa.P

namespace Go.Proofs.Ytljaoggbfoimfaa.P
open Go.RowKit Go.Proofs.YtljaoggbfoimfaaW.PrintWords Go.Proofs.YtljaoggbfoimfaaW.PrintLast Go.Proofs.YtljaoggbfoimfaaW.PrintMore
attribute [local go_sem] max2_int min2_int max_two min_two max_three min_three max_four min_four   -- for this text's walks alone
set_option linter.unusedVariables false
set_option linter.unusedSimpArgs false
def laws_FnExactDfaNext.f (k : Nat) (l0_0 : List (List (S131))) (l0_1 : List (List Int)) (l0_2 : List Int) (a1 : Int) (a2 : Int) : Option (Bool) := (laws_szDfa.f k l0_0 l0_1 l0_2 1048576).bind fun t799 => (if t799 < 0 then (some true) else ((laws_toDfa.f k l0_0 l0_1 l0_2).bind fun bt800 => ((spec_DfaNext.f k bt800.1 bt800.2.1 bt800.2.2 a1 a2).bind fun t809 => ((laws_toDfa.f k l0_0 l0_1 l0_2).bind fun bt810 => ((impl_DfaNext.f k bt810.1 bt810.2.1 bt810.2.2 a1 a2).bind fun t820 => (if t820 = t809 then ((laws_toDfa.f k l0_0 l0_1 l0_2).bind fun bt821 => ((laws_eqDfa.f k bt810.1 bt810.2.1 bt810.2.2 bt821.1 bt821.2.1 bt821.2.2).bind fun t830 => (if t830 = true then (some true) else (some false)))) else (some false)))))))
theorem laws_FnExactDfaNext.mono : ∀ a0 a1 a2 a3 a4 k, LeO (laws_FnExactDfaNext.f k a0 a1 a2 a3 a4) (laws_FnExactDfaNext.f (k + 1) a0 a1 a2 a3 a4) := by
  intro a0 a1 a2 a3 a4 k
  unfold laws_FnExactDfaNext.f
  repeat' first
      | (with_reducible exact impl_DfaNext.mono _ _ _ _ _ _)
      | (with_reducible exact laws_eqDfa.mono _ _ _ _ _ _ _)
      | (with_reducible exact laws_szDfa.mono _ _ _ _ _)
      | (with_reducible exact laws_toDfa.mono _ _ _ _)
      | (with_reducible exact spec_DfaNext.mono _ _ _ _ _ _)
      | (with_reducible exact LeO.refl _)
      | (with_reducible exact LeO.none _)
      | (with_reducible refine LeO.ite ?_ ?_)
      | (with_reducible refine LeO.bind ?_ (fun _ => ?_))
      | exact impl_DfaNext.mono _ _ _ _ _ _
      | exact laws_eqDfa.mono _ _ _ _ _ _ _
      | exact laws_szDfa.mono _ _ _ _ _
      | exact laws_toDfa.mono _ _ _ _
      | exact spec_DfaNext.mono _ _ _ _ _ _
      | exact LeO.none _
      | refine LeO.ite ?_ ?_
      | refine LeO.bind ?_ (fun _ => ?_)
set_option maxHeartbeats 8000000 in
set_option maxRecDepth 100000 in
theorem laws_FnExactDfaNext.calls (k : Nat) (A0_0 : Option Addr) (c0_0 : Nat) (l0_0 : List (List (S131))) (A0_1 : Option Addr) (c0_1 : Nat) (l0_1 : List (List Int)) (A0_2 : Option Addr) (c0_2 : Nat) (l0_2 : List Int) (a1 : Int) (a2 : Int) (r : Bool) (w : World) (hr0_0 : Kd.C (Kd.slice 131 k131) w A0_0 l0_0.length l0_0) (hc0_0 : l0_0.length ≤ c0_0) (hr0_1 : Kd.C (Kd.slice 3 (Kd.int .i64)) w A0_1 l0_1.length l0_1) (hc0_1 : l0_1.length ≤ c0_1) (hr0_2 : Kd.C (Kd.int .i64) w A0_2 l0_2.length l0_2) (hc0_2 : l0_2.length ≤ c0_2) (hT0 : r = true) (h : laws_FnExactDfaNext.f k l0_0 l0_1 l0_2 a1 a2 = some r) :
    Calls Try.prog 13 #[.agg #[.slice A0_0 l0_0.length c0_0, .slice A0_1 l0_1.length c0_1, .slice A0_2 l0_2.length c0_2], .int .i64 a1, .int .i64 a2] w fun e w' => e = .returned (.bool r) ∧ Below w.heap.size w w' := by
  have HT := Aside0.mk hT0
  clear hT0
  have hu50 := Try.underlying50
  have hu55 := Try.underlying55
  have HR0_0 := Aside0.mk hr0_0
  have HC0_0 := Aside0.mk hc0_0
  clear hr0_0 hc0_0
  have HR0_1 := Aside0.mk hr0_1
  have HC0_1 := Aside0.mk hc0_1
  clear hr0_1 hc0_1
  have HR0_2 := Aside0.mk hr0_2
  have HC0_2 := Aside0.mk hc0_2
  clear hr0_2 hc0_2
  have HB := Aside0.mk (Below.refl w.heap.size w)
  have H : ((laws_szDfa.f k l0_0 l0_1 l0_2 1048576).bind fun t799 => (if t799 < 0 then (some true) else ((laws_toDfa.f k l0_0 l0_1 l0_2).bind fun bt800 => ((spec_DfaNext.f k bt800.1 bt800.2.1 bt800.2.2 a1 a2).bind fun t809 => ((laws_toDfa.f k l0_0 l0_1 l0_2).bind fun bt810 => ((impl_DfaNext.f k bt810.1 bt810.2.1 bt810.2.2 a1 a2).bind fun t820 => (if t820 = t809 then ((laws_toDfa.f k l0_0 l0_1 l0_2).bind fun bt821 => ((laws_eqDfa.f k bt810.1 bt810.2.1 bt810.2.2 bt821.1 bt821.2.1 bt821.2.2).bind fun t830 => (if t830 = true then (some true) else (some false)))) else (some false)))))))) = some r := h
  clear h
  replace H := Option.bind_eq_some_iff.mp H
  obtain ⟨t799, A40, H⟩ := H
  replace H : (if t799 < 0 then (some true) else ((laws_toDfa.f k l0_0 l0_1 l0_2).bind fun bt800 => ((spec_DfaNext.f k bt800.1 bt800.2.1 bt800.2.2 a1 a2).bind fun t809 => ((laws_toDfa.f k l0_0 l0_1 l0_2).bind fun bt810 => ((impl_DfaNext.f k bt810.1 bt810.2.1 bt810.2.2 a1 a2).bind fun t820 => (if t820 = t809 then ((laws_toDfa.f k l0_0 l0_1 l0_2).bind fun bt821 => ((laws_eqDfa.f k bt810.1 bt810.2.1 bt810.2.2 bt821.1 bt821.2.1 bt821.2.2).bind fun t830 => (if t830 = true then (some true) else (some false)))) else (some false))))))) = some r := H
  have A4 := Aside0.mk A40
  clear A40
  by_cases c5 : t799 < 0
  · rw [if_pos c5] at H
    have c5b0 : decide (t799 < 0) = true := decide_eq_true c5
    clear c5
    obtain rfl := Option.some.inj H
    go_enter Try.func13, Try.ntmps13
    go_wp2_with (first | ((with_reducible refine gate_dst (N := 3) rfl ?_); refine box_event ?hg (N := 3) ?hd (cs := #[.slice A0_0 l0_0.length c0_0, .slice A0_1 l0_1.length c0_1, .slice A0_2 l0_2.length c0_2]) (t := 50) ?hr ?_; (case hd => rfl); (case hg => rfl); (case hr => first | (go_simp; done) | (go_simp; rfl)); intro gb798 hg w6 hbox hb; have n0_ := Aside0.mk (below_step (by repeat (first | (with_reducible first | exact HB.out | apply below_alloc | apply pw_below_drewN | apply below_drew1) | exact HB.out)) hb); have n1_ := Aside0.mk (hbox); have n2_ := Aside0.mk ((by rw [hg]; exact (below_size (by repeat (first | (with_reducible first | exact HB.out | apply below_alloc | apply pw_below_drewN | apply below_drew1) | exact HB.out))) : w.heap.size ≤ gb798)); have n3_ := Aside0.mk ((by rw [hg]; exact (below_size (by repeat (first | (with_reducible first | exact HB.out | apply below_alloc | apply pw_below_drewN | apply below_drew1) | exact HB.out))) : w.heap.size ≤ gb798)); clear HB; have HB := n0_; have BK798 := n1_; have GW798 := n2_; have GE798 := n3_; clear n0_ n1_ n2_ n3_; clear hb hbox hg; have hcz7_0 : w6.cell? ⟨gb798, 0, none⟩ = some (.slice A0_0 l0_0.length c0_0) := (blk_cell BK798.out 0).trans rfl; have hcz7_1 : w6.cell? ⟨gb798, 1, none⟩ = some (.slice A0_1 l0_1.length c0_1) := (blk_cell BK798.out 1).trans rfl; have hcz7_2 : w6.cell? ⟨gb798, 2, none⟩ = some (.slice A0_2 l0_2.length c0_2) := (blk_cell BK798.out 2).trans rfl; have hfz7_0 := blk_frozen BK798.out 0; have hfz7_1 := blk_frozen BK798.out 1; have hfz7_2 := blk_frozen BK798.out 2) | ((with_reducible refine gate_callee (f := 35) rfl ?_); refine goesL_ (some 13) rfl rfl Try.func35 (by kernel_rfl) rfl #[.agg #[.slice A0_0 l0_0.length c0_0, .slice A0_1 l0_1.length c0_1, .slice A0_2 l0_2.length c0_2], .int .i64 1048576] rfl (by (try simp only [List.map_toArray, List.map_cons, List.map_nil]); first | done | rfl | (simp only [List.length_drop, List.length_take]; rfl)) ?_; (with_reducible refine (laws_szDfa.calls k _ _ l0_0 _ _ l0_1 _ _ l0_2 1048576 t799 _ ?side1 ?side2 ?side3 ?side4 ?side5 ?side6 A4.out).mono ?_); (case side1 => repeat (first | exact (Kd.C_below HR0_0.out HB.out) | (with_reducible refine Kd.C_alloc ?_ _) | (with_reducible refine Kd.C_drewN ?_ _) | (with_reducible refine Kd.C_drew ?_))); (case side2 => exact HC0_0.out); (case side3 => repeat (first | exact (Kd.C_below HR0_1.out HB.out) | (with_reducible refine Kd.C_alloc ?_ _) | (with_reducible refine Kd.C_drewN ?_ _) | (with_reducible refine Kd.C_drew ?_))); (case side4 => exact HC0_1.out); (case side5 => repeat (first | exact (Kd.C_below HR0_2.out HB.out) | (with_reducible refine Kd.C_alloc ?_ _) | (with_reducible refine Kd.C_drewN ?_ _) | (with_reducible refine Kd.C_drew ?_))); (case side6 => exact HC0_2.out); rintro e w8 ⟨rfl, hb⟩; refine ⟨_, rfl, ?_⟩; have n0_ := Aside0.mk (blk_below (g := gb798) (o := .cells #[.slice A0_0 l0_0.length c0_0, .slice A0_1 l0_1.length c0_1, .slice A0_2 l0_2.length c0_2] 50 (0, 0)) (by (with_reducible repeat (first | refine blk_drewN ?_ _ | refine blk_drew ?_ | refine blk_alloc ?_ _)); exact BK798.out) hb); have n1_ := Aside0.mk (below_step (by repeat (first | (with_reducible first | exact HB.out | apply below_alloc | apply pw_below_drewN | apply below_drew1 | refine below_set ?_ GE798.out) | exact HB.out)) hb); clear BK798; clear HB; have BK798 := n0_; have HB := n1_; clear n0_ n1_; (try clear hb); (try clear hb2); (try clear hk); (try clear hi)))
    go_ret
    exact ⟨by first | rfl | (simp [errW_none, errW_some] <;> rfl) | (simp [*, errW_none, errW_some] <;> rfl), by repeat (first | (with_reducible first | exact HB.out | apply below_alloc | apply pw_below_drewN | apply below_drew1 | refine below_set ?_ GE798.out) | exact HB.out)⟩
  · rw [if_neg c5] at H
    have c5b0 : decide (t799 < 0) = false := decide_eq_false c5
    clear c5
    replace H := Option.bind_eq_some_iff.mp H
    obtain ⟨⟨t800, t803, t806⟩, A90, H⟩ := H
    replace H : ((spec_DfaNext.f k t800 t803 t806 a1 a2).bind fun t809 => ((laws_toDfa.f k l0_0 l0_1 l0_2).bind fun bt810 => ((impl_DfaNext.f k bt810.1 bt810.2.1 bt810.2.2 a1 a2).bind fun t820 => (if t820 = t809 then ((laws_toDfa.f k l0_0 l0_1 l0_2).bind fun bt821 => ((laws_eqDfa.f k bt810.1 bt810.2.1 bt810.2.2 bt821.1 bt821.2.1 bt821.2.2).bind fun t830 => (if t830 = true then (some true) else (some false)))) else (some false))))) = some r := H
    have A9 := Aside0.mk A90
    clear A90
    replace H := Option.bind_eq_some_iff.mp H
    obtain ⟨t809, A100, H⟩ := H
    replace H : ((laws_toDfa.f k l0_0 l0_1 l0_2).bind fun bt810 => ((impl_DfaNext.f k bt810.1 bt810.2.1 bt810.2.2 a1 a2).bind fun t820 => (if t820 = t809 then ((laws_toDfa.f k l0_0 l0_1 l0_2).bind fun bt821 => ((laws_eqDfa.f k bt810.1 bt810.2.1 bt810.2.2 bt821.1 bt821.2.1 bt821.2.2).bind fun t830 => (if t830 = true then (some true) else (some false)))) else (some false)))) = some r := H
    have A10 := Aside0.mk A100
    clear A100
    replace H := Option.bind_eq_some_iff.mp H
    obtain ⟨⟨t810, t813, t816⟩, A110, H⟩ := H
    replace H : ((impl_DfaNext.f k t810 t813 t816 a1 a2).bind fun t820 => (if t820 = t809 then ((laws_toDfa.f k l0_0 l0_1 l0_2).bind fun bt821 => ((laws_eqDfa.f k t810 t813 t816 bt821.1 bt821.2.1 bt821.2.2).bind fun t830 => (if t830 = true then (some true) else (some false)))) else (some false))) = some r := H
    have A11 := Aside0.mk A110
    clear A110
    replace H := Option.bind_eq_some_iff.mp H
    obtain ⟨t820, A120, H⟩ := H
    replace H : (if t820 = t809 then ((laws_toDfa.f k l0_0 l0_1 l0_2).bind fun bt821 => ((laws_eqDfa.f k t810 t813 t816 bt821.1 bt821.2.1 bt821.2.2).bind fun t830 => (if t830 = true then (some true) else (some false)))) else (some false)) = some r := H
    have A12 := Aside0.mk A120
    clear A120
    by_cases c13 : t820 = t809
    · rw [if_pos c13] at H
      have c13b0 : (t820 == t809) = true := beq_iff_eq.mpr c13
      have c13b1 : (t820 != t809) = false := bne_eq_false_iff_eq.mpr c13
      clear c13
      replace H := Option.bind_eq_some_iff.mp H
      obtain ⟨⟨t821, t824, t827⟩, A140, H⟩ := H
      replace H : ((laws_eqDfa.f k t810 t813 t816 t821 t824 t827).bind fun t830 => (if t830 = true then (some true) else (some false))) = some r := H
      have A14 := Aside0.mk A140
      clear A140
      replace H := Option.bind_eq_some_iff.mp H
      obtain ⟨t830, A150, H⟩ := H
      replace H : (if t830 = true then (some true) else (some false)) = some r := H
      have A15 := Aside0.mk A150
      clear A150
      by_cases c16 : t830 = true
      · subst c16
        have H1 : (some true) = some r := by rw [if_pos rfl] at H; exact H
        clear H
        have H := H1
        clear H1
        obtain rfl := Option.some.inj H
        go_enter Try.func13, Try.ntmps13
        try go_wp2_with (first | ((with_reducible refine gate_dst (N := 3) rfl ?_); refine box_event ?hg (N := 3) ?hd (cs := #[.slice A0_0 l0_0.length c0_0, .slice A0_1 l0_1.length c0_1, .slice A0_2 l0_2.length c0_2]) (t := 50) ?hr ?_; (case hd => rfl); (case hg => rfl); (case hr => first | (go_simp; done) | (go_simp; rfl)); intro gb798 hg w17 hbox hb; have n0_ := Aside0.mk (below_step (by repeat (first | (with_reducible first | exact HB.out | apply below_alloc | apply pw_below_drewN | apply below_drew1) | exact HB.out)) hb); have n1_ := Aside0.mk (hbox); have n2_ := Aside0.mk ((by rw [hg]; exact (below_size (by repeat (first | (with_reducible first | exact HB.out | apply below_alloc | apply pw_below_drewN | apply below_drew1) | exact HB.out))) : w.heap.size ≤ gb798)); have n3_ := Aside0.mk ((by rw [hg]; exact (below_size (by repeat (first | (with_reducible first | exact HB.out | apply below_alloc | apply pw_below_drewN | apply below_drew1) | exact HB.out))) : w.heap.size ≤ gb798)); clear HB; have HB := n0_; have BK798 := n1_; have GW798 := n2_; have GE798 := n3_; clear n0_ n1_ n2_ n3_; clear hb hbox hg; have hcz18_0 : w17.cell? ⟨gb798, 0, none⟩ = some (.slice A0_0 l0_0.length c0_0) := (blk_cell BK798.out 0).trans rfl; have hcz18_1 : w17.cell? ⟨gb798, 1, none⟩ = some (.slice A0_1 l0_1.length c0_1) := (blk_cell BK798.out 1).trans rfl; have hcz18_2 : w17.cell? ⟨gb798, 2, none⟩ = some (.slice A0_2 l0_2.length c0_2) := (blk_cell BK798.out 2).trans rfl; have hfz18_0 := blk_frozen BK798.out 0; have hfz18_1 := blk_frozen BK798.out 1; have hfz18_2 := blk_frozen BK798.out 2) | ((with_reducible refine gate_callee (f := 35) rfl ?_); refine goesL_ (some 13) rfl rfl Try.func35 (by kernel_rfl) rfl #[.agg #[.slice A0_0 l0_0.length c0_0, .slice A0_1 l0_1.length c0_1, .slice A0_2 l0_2.length c0_2], .int .i64 1048576] rfl (by (try simp only [List.map_toArray, List.map_cons, List.map_nil]); first | done | rfl | (simp only [List.length_drop, List.length_take]; rfl)) ?_; (with_reducible refine (laws_szDfa.calls k _ _ l0_0 _ _ l0_1 _ _ l0_2 1048576 t799 _ ?side1 ?side2 ?side3 ?side4 ?side5 ?side6 A4.out).mono ?_); (case side1 => repeat (first | exact (Kd.C_below HR0_0.out HB.out) | (with_reducible refine Kd.C_alloc ?_ _) | (with_reducible refine Kd.C_drewN ?_ _) | (with_reducible refine Kd.C_drew ?_))); (case side2 => exact HC0_0.out); (case side3 => repeat (first | exact (Kd.C_below HR0_1.out HB.out) | (with_reducible refine Kd.C_alloc ?_ _) | (with_reducible refine Kd.C_drewN ?_ _) | (with_reducible refine Kd.C_drew ?_))); (case side4 => exact HC0_1.out); (case side5 => repeat (first | exact (Kd.C_below HR0_2.out HB.out) | (with_reducible refine Kd.C_alloc ?_ _) | (with_reducible refine Kd.C_drewN ?_ _) | (with_reducible refine Kd.C_drew ?_))); (case side6 => exact HC0_2.out); rintro e w19 ⟨rfl, hb⟩; refine ⟨_, rfl, ?_⟩; have n0_ := Aside0.mk (blk_below (g := gb798) (o := .cells #[.slice A0_0 l0_0.length c0_0, .slice A0_1 l0_1.length c0_1, .slice A0_2 l0_2.length c0_2] 50 (0, 0)) (by (with_reducible repeat (first | refine blk_drewN ?_ _ | refine blk_drew ?_ | refine blk_alloc ?_ _)); exact BK798.out) hb); have n1_ := Aside0.mk (below_step (by repeat (first | (with_reducible first | exact HB.out | apply below_alloc | apply pw_below_drewN | apply below_drew1 | refine below_set ?_ GE798.out) | exact HB.out)) hb); clear BK798; clear HB; have BK798 := n0_; have HB := n1_; clear n0_ n1_; (try clear hb); (try clear hb2); (try clear hk); (try clear hi); have hcz20_0 : w19.cell? ⟨gb798, 0, none⟩ = some (.slice A0_0 l0_0.length c0_0) := (blk_cell BK798.out 0).trans rfl; have hcz20_1 : w19.cell? ⟨gb798, 1, none⟩ = some (.slice A0_1 l0_1.length c0_1) := (blk_cell BK798.out 1).trans rfl; have hcz20_2 : w19.cell? ⟨gb798, 2, none⟩ = some (.slice A0_2 l0_2.length c0_2) := (blk_cell BK798.out 2).trans rfl; have hfz20_0 := blk_frozen BK798.out 0; have hfz20_1 := blk_frozen BK798.out 1; have hfz20_2 := blk_frozen BK798.out 2) | ((with_reducible refine gate_callee (f := 37) rfl ?_); refine goesL_ (some 17) rfl rfl Try.func37 (by kernel_rfl) rfl #[.agg #[.slice A0_0 l0_0.length c0_0, .slice A0_1 l0_1.length c0_1, .slice A0_2 l0_2.length c0_2]] rfl (by (try simp only [List.map_toArray, List.map_cons, List.map_nil]); first | done | rfl | (simp only [List.length_drop, List.length_take]; rfl)) ?_; (with_reducible refine (laws_toDfa.calls k _ _ l0_0 _ _ l0_1 _ _ l0_2 t800 t803 t806 _ ?side1 ?side2 ?side3 ?side4 ?side5 ?side6 A9.out).mono ?_); (case side1 => repeat (first | exact (Kd.C_below HR0_0.out HB.out) | (with_reducible refine Kd.C_alloc ?_ _) | (with_reducible refine Kd.C_drewN ?_ _) | (with_reducible refine Kd.C_drew ?_))); (case side2 => exact HC0_0.out); (case side3 => repeat (first | exact (Kd.C_below HR0_1.out HB.out) | (with_reducible refine Kd.C_alloc ?_ _) | (with_reducible refine Kd.C_drewN ?_ _) | (with_reducible refine Kd.C_drew ?_))); (case side4 => exact HC0_1.out); (case side5 => repeat (first | exact (Kd.C_below HR0_2.out HB.out) | (with_reducible refine Kd.C_alloc ?_ _) | (with_reducible refine Kd.C_drewN ?_ _) | (with_reducible refine Kd.C_drew ?_))); (case side6 => exact HC0_2.out); rintro e w21 ⟨v801, v804, v807, rfl, ho0, ho1, ho2, hb⟩; refine ⟨_, rfl, ?_⟩; have n0_ := Aside0.mk (Kd.S_lower ho0 (below_size (by repeat (first | (with_reducible first | exact HB.out | apply below_alloc | apply pw_below_drewN | apply below_drew1 | refine below_set ?_ GE798.out) | exact HB.out)))); have n1_ := Aside0.mk (Kd.S_lower ho1 (below_size (by repeat (first | (with_reducible first | exact HB.out | apply below_alloc | apply pw_below_drewN | apply below_drew1 | refine below_set ?_ GE798.out) | exact HB.out)))); have n2_ := Aside0.mk (Kd.R_lower ho2 (below_size (by repeat (first | (with_reducible first | exact HB.out | apply below_alloc | apply pw_below_drewN | apply below_drew1 | refine below_set ?_ GE798.out) | exact HB.out)))); have n3_ := Aside0.mk (blk_below (g := gb798) (o := .cells #[.slice A0_0 l0_0.length c0_0, .slice A0_1 l0_1.length c0_1, .slice A0_2 l0_2.length c0_2] 50 (0, 0)) (by (with_reducible repeat (first | refine blk_drewN ?_ _ | refine blk_drew ?_ | refine blk_alloc ?_ _)); exact BK798.out) hb); have n4_ := Aside0.mk (below_step (by repeat (first | (with_reducible first | exact HB.out | apply below_alloc | apply pw_below_drewN | apply below_drew1 | refine below_set ?_ GE798.out) | exact HB.out)) hb); clear BK798; clear HB; have HO802 := n0_; have HO805 := n1_; have HO808 := n2_; have BK798 := n3_; have HB := n4_; clear n0_ n1_ n2_ n3_ n4_; (try clear hb); (try clear hb2); (try clear hk); (try clear hi); (try clear ho0); (try clear ho1); (try clear ho2); obtain ⟨Ao22, co22, eo22⟩ := Kd.S_slice HO802.out; subst eo22; obtain ⟨Ao23, co23, eo23⟩ := Kd.S_slice HO805.out; subst eo23; obtain ⟨Ao24, co24, eo24⟩ := Kd.R_slice HO808.out; subst eo24) | ((with_reducible refine gate_callee (f := 49) rfl ?_); refine goesL_ (some 20) rfl rfl Try.func49 (by kernel_rfl) rfl #[.agg #[.slice Ao22 t800.length co22, .slice Ao23 t803.length co23, .slice Ao24 t806.length co24], .int .i64 a1, .int .i64 a2] rfl (by (try simp only [List.map_toArray, List.map_cons, List.map_nil]); first | done | rfl | (simp only [List.length_drop, List.length_take]; rfl)) ?_; (with_reducible refine (spec_DfaNext.calls k _ _ t800 _ _ t803 _ _ t806 a1 a2 t809 _ ?side1 ?side2 ?side3 ?side4 ?side5 ?side6 A10.out).mono ?_); (case side1 => repeat (first | exact (Kd.S_reads' HO802.out).2.2 | (with_reducible refine Kd.C_alloc ?_ _) | (with_reducible refine Kd.C_drewN ?_ _) | (with_reducible refine Kd.C_drew ?_))); (case side2 => exact (Kd.S_reads' HO802.out).2.1); (case side3 => repeat (first | exact (Kd.S_reads' HO805.out).2.2 | (with_reducible refine Kd.C_alloc ?_ _) | (with_reducible refine Kd.C_drewN ?_ _) | (with_reducible refine Kd.C_drew ?_))); (case side4 => exact (Kd.S_reads' HO805.out).2.1); (case side5 => repeat (first | exact (Kd.R_reads' HO808.out).2.2 | (with_reducible refine Kd.C_alloc ?_ _) | (with_reducible refine Kd.C_drewN ?_ _) | (with_reducible refine Kd.C_drew ?_))); (case side6 => exact (Kd.R_reads' HO808.out).2.1); rintro e w25 ⟨rfl, hb⟩; refine ⟨_, rfl, ?_⟩; have n0_ := Aside0.mk (Kd.S_below (by (with_reducible repeat (first | apply Kd.S_alloc | apply Kd.S_drewN | apply Kd.S_drew)); exact HO802.out) hb); have n1_ := Aside0.mk (Kd.S_below (by (with_reducible repeat (first | apply Kd.S_alloc | apply Kd.S_drewN | apply Kd.S_drew)); exact HO805.out) hb); have n2_ := Aside0.mk (Kd.R_below (by (with_reducible repeat (first | apply Kd.R_alloc | apply Kd.R_drewN | apply Kd.R_drew)); exact HO808.out) hb); have n3_ := Aside0.mk (blk_below (g := gb798) (o := .cells #[.slice A0_0 l0_0.length c0_0, .slice A0_1 l0_1.length c0_1, .slice A0_2 l0_2.length c0_2] 50 (0, 0)) (by (with_reducible repeat (first | refine blk_drewN ?_ _ | refine blk_drew ?_ | refine blk_alloc ?_ _)); exact BK798.out) hb); have n4_ := Aside0.mk (below_step (by repeat (first | (with_reducible first | exact HB.out | apply below_alloc | apply pw_below_drewN | apply below_drew1 | refine below_set ?_ GE798.out) | exact HB.out)) hb); clear HO802; clear HO805; clear HO808; clear BK798; clear HB; have HO802 := n0_; have HO805 := n1_; have HO808 := n2_; have BK798 := n3_; have HB := n4_; clear n0_ n1_ n2_ n3_ n4_; (try clear hb); (try clear hb2); (try clear hk); (try clear hi); have hcz26_0 : w25.cell? ⟨gb798, 0, none⟩ = some (.slice A0_0 l0_0.length c0_0) := (blk_cell BK798.out 0).trans rfl; have hcz26_1 : w25.cell? ⟨gb798, 1, none⟩ = some (.slice A0_1 l0_1.length c0_1) := (blk_cell BK798.out 1).trans rfl; have hcz26_2 : w25.cell? ⟨gb798, 2, none⟩ = some (.slice A0_2 l0_2.length c0_2) := (blk_cell BK798.out 2).trans rfl; have hfz26_0 := blk_frozen BK798.out 0; have hfz26_1 := blk_frozen BK798.out 1; have hfz26_2 := blk_frozen BK798.out 2) | ((with_reducible refine gate_callee (f := 37) rfl ?_); refine goesL_ (some 22) rfl rfl Try.func37 (by kernel_rfl) rfl #[.agg #[.slice A0_0 l0_0.length c0_0, .slice A0_1 l0_1.length c0_1, .slice A0_2 l0_2.length c0_2]] rfl (by (try simp only [List.map_toArray, List.map_cons, List.map_nil]); first | done | rfl | (simp only [List.length_drop, List.length_take]; rfl)) ?_; (with_reducible refine (laws_toDfa.calls k _ _ l0_0 _ _ l0_1 _ _ l0_2 t810 t813 t816 _ ?side1 ?side2 ?side3 ?side4 ?side5 ?side6 A11.out).mono ?_); (case side1 => repeat (first | exact (Kd.C_below HR0_0.out HB.out) | (with_reducible refine Kd.C_alloc ?_ _) | (with_reducible refine Kd.C_drewN ?_ _) | (with_reducible refine Kd.C_drew ?_))); (case side2 => exact HC0_0.out); (case side3 => repeat (first | exact (Kd.C_below HR0_1.out HB.out) | (with_reducible refine Kd.C_alloc ?_ _) | (with_reducible refine Kd.C_drewN ?_ _) | (with_reducible refine Kd.C_drew ?_))); (case side4 => exact HC0_1.out); (case side5 => repeat (first | exact (Kd.C_below HR0_2.out HB.out) | (with_reducible refine Kd.C_alloc ?_ _) | (with_reducible refine Kd.C_drewN ?_ _) | (with_reducible refine Kd.C_drew ?_))); (case side6 => exact HC0_2.out); rintro e w27 ⟨v811, v814, v817, rfl, ho0, ho1, ho2, hb⟩; refine ⟨_, rfl, ?_⟩; have n0_ := Aside0.mk (Kd.S_elder' (by (with_reducible repeat (first | apply Kd.S_alloc | apply Kd.S_drewN | apply Kd.S_drew)); exact HO802.out) (Kd.S_base ho0) hb); have n1_ := Aside0.mk (Kd.S_mono (Kd.S_told (Kd.S_told (Kd.S_old (by (with_reducible repeat (first | apply Kd.S_alloc | apply Kd.S_drewN | apply Kd.S_drew)); exact HO805.out) hb) (Kd.S_base ho1)) (Kd.R_base ho2)) (fun _ h_ => h_.1)); have n2_ := Aside0.mk (Kd.R_elder' (by (with_reducible repeat (first | apply Kd.R_alloc | apply Kd.R_drewN | apply Kd.R_drew)); exact HO808.out) (Kd.R_base ho2) hb); have n3_ := Aside0.mk (Kd.S_lower (Kd.S_new' ho0 (Kd.S_lt (by (with_reducible repeat (first | apply Kd.S_alloc | apply Kd.S_drewN | apply Kd.S_drew)); exact HO802.out))) (below_size (by repeat (first | (with_reducible first | exact HB.out | apply below_alloc | apply pw_below_drewN | apply below_drew1 | refine below_set ?_ GE798.out) | exact HB.out)))); have n4_ := Aside0.mk (Kd.S_lower (Kd.S_new' (Kd.S_new' ho1 (Kd.S_lt (by (with_reducible repeat (first | apply Kd.S_alloc | apply Kd.S_drewN | apply Kd.S_drew)); exact HO805.out))) (Kd.R_lt (by (with_reducible repeat (first | apply Kd.R_alloc | apply Kd.R_drewN | apply Kd.R_drew)); exact HO808.out))) (below_size (by repeat (first | (with_reducible first | exact HB.out | apply below_alloc | apply pw_below_drewN | apply below_drew1 | refine below_set ?_ GE798.out) | exact HB.out)))); have n5_ := Aside0.mk (Kd.R_lower (Kd.R_new' ho2 (Kd.R_lt (by (with_reducible repeat (first | apply Kd.R_alloc | apply Kd.R_drewN | apply Kd.R_drew)); exact HO808.out))) (below_size (by repeat (first | (with_reducible first | exact HB.out | apply below_alloc | apply pw_below_drewN | apply below_drew1 | refine below_set ?_ GE798.out) | exact HB.out)))); have n6_ := Aside0.mk (blk_below (g := gb798) (o := .cells #[.slice A0_0 l0_0.length c0_0, .slice A0_1 l0_1.length c0_1, .slice A0_2 l0_2.length c0_2] 50 (0, 0)) (by (with_reducible repeat (first | refine blk_drewN ?_ _ | refine blk_drew ?_ | refine blk_alloc ?_ _)); exact BK798.out) hb); have n7_ := Aside0.mk (below_step (by repeat (first | (with_reducible first | exact HB.out | apply below_alloc | apply pw_below_drewN | apply below_drew1 | refine below_set ?_ GE798.out) | exact HB.out)) hb); clear HO802; clear HO805; clear HO808; clear BK798; clear HB; have HO802 := n0_; have HO805 := n1_; have HO808 := n2_; have HO812 := n3_; have HO815 := n4_; have HO818 := n5_; have BK798 := n6_; have HB := n7_; clear n0_ n1_ n2_ n3_ n4_ n5_ n6_ n7_; (try clear hb); (try clear hb2); (try clear hk); (try clear hi); (try clear ho0); (try clear ho1); (try clear ho2)) | ((with_reducible refine gate_dst (N := 9) rfl ?_); refine box_event ?hg (N := 9) ?hd (cs := #[.slice none 0 0, .slice none 0 0, .slice none 0 0]) (t := 55) ?hr ?_; (case hd => rfl); (case hg => rfl); (case hr => first | (go_simp; done) | (go_simp; rfl)); intro gb819 hg w28 hbox hb; have n0_ := Aside0.mk (Kd.S_below (by (with_reducible repeat (first | apply Kd.S_alloc | apply Kd.S_drewN | apply Kd.S_drew)); exact HO802.out) hb); have n1_ := Aside0.mk (Kd.S_below (by (with_reducible repeat (first | apply Kd.S_alloc | apply Kd.S_drewN | apply Kd.S_drew)); exact HO805.out) hb); have n2_ := Aside0.mk (Kd.R_below (by (with_reducible repeat (first | apply Kd.R_alloc | apply Kd.R_drewN | apply Kd.R_drew)); exact HO808.out) hb); have n3_ := Aside0.mk (Kd.S_below (by (with_reducible repeat (first | apply Kd.S_alloc | apply Kd.S_drewN | apply Kd.S_drew)); exact HO812.out) hb); have n4_ := Aside0.mk (Kd.S_below (by (with_reducible repeat (first | apply Kd.S_alloc | apply Kd.S_drewN | apply Kd.S_drew)); exact HO815.out) hb); have n5_ := Aside0.mk (Kd.R_below (by (with_reducible repeat (first | apply Kd.R_alloc | apply Kd.R_drewN | apply Kd.R_drew)); exact HO818.out) hb); have n6_ := Aside0.mk (blk_below (g := gb798) (o := .cells #[.slice A0_0 l0_0.length c0_0, .slice A0_1 l0_1.length c0_1, .slice A0_2 l0_2.length c0_2] 50 (0, 0)) (by (with_reducible repeat (first | refine blk_drewN ?_ _ | refine blk_drew ?_ | refine blk_alloc ?_ _)); exact BK798.out) hb); have n7_ := Aside0.mk (below_step (by repeat (first | (with_reducible first | exact HB.out | apply below_alloc | apply pw_below_drewN | apply below_drew1 | refine below_set ?_ GE798.out) | exact HB.out)) hb); have n8_ := Aside0.mk (hbox); have n9_ := Aside0.mk ((by rw [hg]; exact (below_size (by repeat (first | (with_reducible first | exact HB.out | apply below_alloc | apply pw_below_drewN | apply below_drew1 | refine below_set ?_ GE798.out) | exact HB.out))) : w.heap.size ≤ gb819)); have n10_ := Aside0.mk ((by rw [hg]; exact (below_size (by repeat (first | (with_reducible first | exact HB.out | apply below_alloc | apply pw_below_drewN | apply below_drew1 | refine below_set ?_ GE798.out) | exact HB.out))) : w.heap.size ≤ gb819)); have n11_ := Aside0.mk ((by rw [hg]; exact Nat.ne_of_lt (blk_lt (g := gb798) (o := .cells #[.slice A0_0 l0_0.length c0_0, .slice A0_1 l0_1.length c0_1, .slice A0_2 l0_2.length c0_2] 50 (0, 0)) (by (with_reducible repeat (first | refine blk_drewN ?_ _ | refine blk_drew ?_ | refine blk_alloc ?_ _)); exact BK798.out)) : gb798 ≠ gb819)); have n12_ := Aside0.mk ((by rw [hg]; exact Nat.ne_of_gt (blk_lt (g := gb798) (o := .cells #[.slice A0_0 l0_0.length c0_0, .slice A0_1 l0_1.length c0_1, .slice A0_2 l0_2.length c0_2] 50 (0, 0)) (by (with_reducible repeat (first | refine blk_drewN ?_ _ | refine blk_drew ?_ | refine blk_alloc ?_ _)); exact BK798.out)) : gb819 ≠ gb798)); clear HO802; clear HO805; clear HO808; clear HO812; clear HO815; clear HO818; clear BK798; clear HB; have HO802 := n0_; have HO805 := n1_; have HO808 := n2_; have HO812 := n3_; have HO815 := n4_; have HO818 := n5_; have BK798 := n6_; have HB := n7_; have BK819 := n8_; have GW819 := n9_; have GE819 := n10_; have NB798_819 := n11_; have NB819_798 := n12_; clear n0_ n1_ n2_ n3_ n4_ n5_ n6_ n7_ n8_ n9_ n10_ n11_ n12_; clear hb hbox hg; obtain ⟨Ao29, co29, eo29⟩ := Kd.S_slice HO812.out; subst eo29; have hnb30 := NB819_798.out; have hnc30 := NB798_819.out; have hcz31_0 : w28.cell? ⟨gb819, 0, none⟩ = some (.slice none 0 0) := (blk_cell BK819.out 0).trans rfl; have hcz31_1 : w28.cell? ⟨gb819, 1, none⟩ = some (.slice none 0 0) := (blk_cell BK819.out 1).trans rfl; have hcz31_2 : w28.cell? ⟨gb819, 2, none⟩ = some (.slice none 0 0) := (blk_cell BK819.out 2).trans rfl; have hfz31_0 := blk_frozen BK819.out 0; have hfz31_1 := blk_frozen BK819.out 1; have hfz31_2 := blk_frozen BK819.out 2; obtain ⟨Ao32, co32, eo32⟩ := Kd.S_slice HO815.out; subst eo32; obtain ⟨Ao33, co33, eo33⟩ := Kd.R_slice HO818.out; subst eo33) | ((with_reducible refine gate_callee (f := 50) rfl ?_); refine goesL_ (some 26) rfl rfl Try.func50 (by kernel_rfl) rfl #[.agg #[.slice Ao29 t810.length co29, .slice Ao32 t813.length co32, .slice Ao33 t816.length co33], .int .i64 a1, .int .i64 a2] rfl (by (try simp only [List.map_toArray, List.map_cons, List.map_nil]); first | done | rfl | (simp only [List.length_drop, List.length_take]; rfl)) ?_; (with_reducible refine (impl_DfaNext.calls k _ _ t810 _ _ t813 _ _ t816 a1 a2 t820 _ ?side1 ?side2 ?side3 ?side4 ?side5 ?side6 A12.out).mono ?_); (case side1 => refine (Kd.S_reads' (e := 89) (base := w.heap.size) (ok := fun k_ => (True ∧ some k_ ≠ (.slice Ao22 t800.length co22 : Value).ownBlock)) (n := t810.length) (c := co29) ?_).2.2; exact (by (with_reducible repeat (first | apply Kd.S_alloc | apply Kd.S_drewN | apply Kd.S_drew)); exact (Kd.S_mono (Kd.S_far (p := ⟨gb819, 2, none⟩) (Kd.S_far (p := ⟨gb819, 1, none⟩) (Kd.S_far (p := ⟨gb819, 0, none⟩) (Kd.S_types HO812.out BK819.out (by decide)) (fun _ hk => hk.2) (.slice Ao29 t810.length co29)) (fun _ hk => hk.2) (.slice Ao32 t813.length co32)) (fun _ hk => hk.2) (.slice Ao33 t816.length co33)) (fun _ h_ => h_.1)))); (case side2 => exact (Kd.S_reads' HO812.out).2.1); (case side3 => refine (Kd.S_reads' (e := 48) (base := w.heap.size) (ok := fun k_ => ((some k_ ≠ (.slice Ao33 t816.length co33 : Value).ownBlock ∧ some k_ ≠ (.slice Ao23 t803.length co23 : Value).ownBlock) ∧ some k_ ≠ (.slice Ao24 t806.length co24 : Value).ownBlock)) (n := t813.length) (c := co32) ?_).2.2; exact (by (with_reducible repeat (first | apply Kd.S_alloc | apply Kd.S_drewN | apply Kd.S_drew)); exact (Kd.S_mono (Kd.S_far (p := ⟨gb819, 2, none⟩) (Kd.S_far (p := ⟨gb819, 1, none⟩) (Kd.S_far (p := ⟨gb819, 0, none⟩) (Kd.S_types HO815.out BK819.out (by decide)) (fun _ hk => hk.2) (.slice Ao29 t810.length co29)) (fun _ hk => hk.2) (.slice Ao32 t813.length co32)) (fun _ hk => hk.2) (.slice Ao33 t816.length co33)) (fun _ h_ => h_.1)))); (case side4 => exact (Kd.S_reads' HO815.out).2.1); (case side5 => refine (Kd.R_reads' (e := 3) (base := w.heap.size) (ok := fun k_ => (True ∧ some k_ ≠ (.slice Ao24 t806.length co24 : Value).ownBlock)) (n := t816.length) (c := co33) ?_).2.2; exact (by (with_reducible repeat (first | apply Kd.R_alloc | apply Kd.R_drewN | apply Kd.R_drew)); exact (Kd.R_mono (Kd.R_far (p := ⟨gb819, 2, none⟩) (Kd.R_far (p := ⟨gb819, 1, none⟩) (Kd.R_far (p := ⟨gb819, 0, none⟩) (Kd.R_types HO818.out BK819.out (by decide)) (fun _ hk => hk.2) (.slice Ao29 t810.length co29)) (fun _ hk => hk.2) (.slice Ao32 t813.length co32)) (fun _ hk => hk.2) (.slice Ao33 t816.length co33)) (fun _ h_ => h_.1)))); (case side6 => exact (Kd.R_reads' HO818.out).2.1); rintro e w34 ⟨rfl, hb⟩; refine ⟨_, rfl, ?_⟩; have n0_ := Aside0.mk (Kd.S_below (by (with_reducible repeat (first | apply Kd.S_alloc | apply Kd.S_drewN | apply Kd.S_drew)); exact (Kd.S_mono (Kd.S_far (p := ⟨gb819, 2, none⟩) (Kd.S_far (p := ⟨gb819, 1, none⟩) (Kd.S_far (p := ⟨gb819, 0, none⟩) (Kd.S_types HO802.out BK819.out (by decide)) (fun _ hk => hk.2) (.slice Ao29 t810.length co29)) (fun _ hk => hk.2) (.slice Ao32 t813.length co32)) (fun _ hk => hk.2) (.slice Ao33 t816.length co33)) (fun _ h_ => h_.1))) hb); have n1_ := Aside0.mk (Kd.S_below (by (with_reducible repeat (first | apply Kd.S_alloc | apply Kd.S_drewN | apply Kd.S_drew)); exact (Kd.S_mono (Kd.S_far (p := ⟨gb819, 2, none⟩) (Kd.S_far (p := ⟨gb819, 1, none⟩) (Kd.S_far (p := ⟨gb819, 0, none⟩) (Kd.S_types HO805.out BK819.out (by decide)) (fun _ hk => hk.2) (.slice Ao29 t810.length co29)) (fun _ hk => hk.2) (.slice Ao32 t813.length co32)) (fun _ hk => hk.2) (.slice Ao33 t816.length co33)) (fun _ h_ => h_.1))) hb); have n2_ := Aside0.mk (Kd.R_below (by (with_reducible repeat (first | apply Kd.R_alloc | apply Kd.R_drewN | apply Kd.R_drew)); exact (Kd.R_mono (Kd.R_far (p := ⟨gb819, 2, none⟩) (Kd.R_far (p := ⟨gb819, 1, none⟩) (Kd.R_far (p := ⟨gb819, 0, none⟩) (Kd.R_types HO808.out BK819.out (by decide)) (fun _ hk => hk.2) (.slice Ao29 t810.length co29)) (fun _ hk => hk.2) (.slice Ao32 t813.length co32)) (fun _ hk => hk.2) (.slice Ao33 t816.length co33)) (fun _ h_ => h_.1))) hb); have n3_ := Aside0.mk (Kd.S_below (by (with_reducible repeat (first | apply Kd.S_alloc | apply Kd.S_drewN | apply Kd.S_drew)); exact (Kd.S_mono (Kd.S_far (p := ⟨gb819, 2, none⟩) (Kd.S_far (p := ⟨gb819, 1, none⟩) (Kd.S_far (p := ⟨gb819, 0, none⟩) (Kd.S_types HO812.out BK819.out (by decide)) (fun _ hk => hk.2) (.slice Ao29 t810.length co29)) (fun _ hk => hk.2) (.slice Ao32 t813.length co32)) (fun _ hk => hk.2) (.slice Ao33 t816.length co33)) (fun _ h_ => h_.1))) hb); have n4_ := Aside0.mk (Kd.S_below (by (with_reducible repeat (first | apply Kd.S_alloc | apply Kd.S_drewN | apply Kd.S_drew)); exact (Kd.S_mono (Kd.S_far (p := ⟨gb819, 2, none⟩) (Kd.S_far (p := ⟨gb819, 1, none⟩) (Kd.S_far (p := ⟨gb819, 0, none⟩) (Kd.S_types HO815.out BK819.out (by decide)) (fun _ hk => hk.2) (.slice Ao29 t810.length co29)) (fun _ hk => hk.2) (.slice Ao32 t813.length co32)) (fun _ hk => hk.2) (.slice Ao33 t816.length co33)) (fun _ h_ => h_.1))) hb); have n5_ := Aside0.mk (Kd.R_below (by (with_reducible repeat (first | apply Kd.R_alloc | apply Kd.R_drewN | apply Kd.R_drew)); exact (Kd.R_mono (Kd.R_far (p := ⟨gb819, 2, none⟩) (Kd.R_far (p := ⟨gb819, 1, none⟩) (Kd.R_far (p := ⟨gb819, 0, none⟩) (Kd.R_types HO818.out BK819.out (by decide)) (fun _ hk => hk.2) (.slice Ao29 t810.length co29)) (fun _ hk => hk.2) (.slice Ao32 t813.length co32)) (fun _ hk => hk.2) (.slice Ao33 t816.length co33)) (fun _ h_ => h_.1))) hb); have n6_ := Aside0.mk (blk_below (g := gb798) (o := .cells #[.slice A0_0 l0_0.length c0_0, .slice A0_1 l0_1.length c0_1, .slice A0_2 l0_2.length c0_2] 50 (0, 0)) (by (with_reducible repeat (first | refine blk_drewN ?_ _ | refine blk_drew ?_ | refine blk_alloc ?_ _)); refine blk_far ?_ NB798_819.out _; (with_reducible repeat (first | refine blk_drewN ?_ _ | refine blk_drew ?_ | refine blk_alloc ?_ _)); refine blk_far ?_ NB798_819.out _; (with_reducible repeat (first | refine blk_drewN ?_ _ | refine blk_drew ?_ | refine blk_alloc ?_ _)); refine blk_far ?_ NB798_819.out _; (with_reducible repeat (first | refine blk_drewN ?_ _ | refine blk_drew ?_ | refine blk_alloc ?_ _)); exact BK798.out) hb); have n7_ := Aside0.mk (blk_below (g := gb819) (o := .cells #[.slice Ao29 t810.length co29, .slice Ao32 t813.length co32, .slice Ao33 t816.length co33] 55 (0, 0)) (by (with_reducible repeat (first | refine blk_drewN ?_ _ | refine blk_drew ?_ | refine blk_alloc ?_ _)); refine blk_put (cs := #[.slice Ao29 t810.length co29, .slice Ao32 t813.length co32, .slice none 0 0]) ?_ 2 _ rfl; (with_reducible repeat (first | refine blk_drewN ?_ _ | refine blk_drew ?_ | refine blk_alloc ?_ _)); refine blk_put (cs := #[.slice Ao29 t810.length co29, .slice none 0 0, .slice none 0 0]) ?_ 1 _ rfl; (with_reducible repeat (first | refine blk_drewN ?_ _ | refine blk_drew ?_ | refine blk_alloc ?_ _)); refine blk_put (cs := #[.slice none 0 0, .slice none 0 0, .slice none 0 0]) ?_ 0 _ rfl; (with_reducible repeat (first | refine blk_drewN ?_ _ | refine blk_drew ?_ | refine blk_alloc ?_ _)); exact BK819.out) hb); have n8_ := Aside0.mk (below_step (by repeat (first | (with_reducible first | exact HB.out | apply below_alloc | apply pw_below_drewN | apply below_drew1 | refine below_set ?_ GE798.out | refine below_set ?_ GE819.out) | exact HB.out)) hb); clear HO802; clear HO805; clear HO808; clear HO812; clear HO815; clear HO818; clear BK798; clear BK819; clear HB; have HO802 := n0_; have HO805 := n1_; have HO808 := n2_; have HO812 := n3_; have HO815 := n4_; have HO818 := n5_; have BK798 := n6_; have BK819 := n7_; have HB := n8_; clear n0_ n1_ n2_ n3_ n4_ n5_ n6_ n7_ n8_; (try clear hb); (try clear hb2); (try clear hk); (try clear hi)))
        have n0_ := Aside0.mk (Kd.S_drew HO802.out)
        have n1_ := Aside0.mk (Kd.S_drew HO805.out)
        have n2_ := Aside0.mk (Kd.R_drew HO808.out)
        have n3_ := Aside0.mk (Kd.S_drew HO812.out)
        have n4_ := Aside0.mk (Kd.S_drew HO815.out)
        have n5_ := Aside0.mk (Kd.R_drew HO818.out)
        have n6_ := Aside0.mk (blk_drew BK798.out)
        have n7_ := Aside0.mk (blk_drew BK819.out)
        have n8_ := Aside0.mk (below_drew1 HB.out)
        clear HO802
        clear HO805
        clear HO808
        clear HO812
        clear HO815
        clear HO818
        clear BK798
        clear BK819
        clear HB
        have HO802 := n0_
        have HO805 := n1_
        have HO808 := n2_
        have HO812 := n3_
        have HO815 := n4_
        have HO818 := n5_
        have BK798 := n6_
        have BK819 := n7_
        have HB := n8_
        clear n0_ n1_ n2_ n3_ n4_ n5_ n6_ n7_ n8_
        refine start_ (n := 5) (S := fun w' => w'.cell? ⟨gb819, 0, none⟩ = some (.slice Ao29 t810.length co29) ∧ w'.cell? ⟨gb819, 1, none⟩ = some (.slice Ao32 t813.length co32) ∧ w'.cell? ⟨gb819, 2, none⟩ = some (.slice Ao33 t816.length co33) ∧ w'.cell? ⟨gb798, 0, none⟩ = some (.slice A0_0 l0_0.length c0_0) ∧ w'.cell? ⟨gb798, 1, none⟩ = some (.slice A0_1 l0_1.length c0_1) ∧ w'.cell? ⟨gb798, 2, none⟩ = some (.slice A0_2 l0_2.length c0_2)) (ds := []) #[false, false, false, false, false] (by kernel_rfl) rfl rfl ⟨(blk_cell BK819.out 0).trans rfl, (blk_cell BK819.out 1).trans rfl, (blk_cell BK819.out 2).trans rfl, (blk_cell BK798.out 0).trans rfl, (blk_cell BK798.out 1).trans rfl, (blk_cell BK798.out 2).trans rfl⟩ (fun hHeld => ?_)
        generalize w34.drew = w35 at HO802 HO805 HO808 HO812 HO815 HO818 BK798 BK819 HB hHeld ⊢
        refine take_ (i := 0) (N := some 30) (v := ?_) (a' := ?_) #[true, false, false, false, false] rfl rfl (by kernel_rfl) (fun _ _ _ h => h) (Or.inl ⟨by rfl, ?_⟩) hHeld ?_ ?_
        rotate_left
        · rintro w' ⟨s0, s1, s2, s3, s4, s5⟩
          go_simp
          with_reducible rfl
        rotate_left
        · simp only [Act.put, List.setIfInBounds_toArray, List.set_cons_zero, List.set_cons_succ, i64_w, i32_w]
          rfl
        refine take_ (i := 1) (N := some 31) (v := ?_) (a' := ?_) #[true, true, false, false, false] rfl rfl (by kernel_rfl) (fun _ _ _ h => h) (Or.inl ⟨by rfl, ?_⟩) hHeld ?_ ?_
        rotate_left
        · rintro w' ⟨s0, s1, s2, s3, s4, s5⟩
          go_simp
          with_reducible rfl
        rotate_left
        · simp only [Act.put, List.setIfInBounds_toArray, List.set_cons_zero, List.set_cons_succ, i64_w, i32_w]
          rfl
        refine one_ (i := 2) (N := some 32) #[true, true, true, false, false] rfl rfl (by kernel_rfl) (by decide) (fun K hK => ?_)
        refine goes_ Try.func37 (by kernel_rfl) rfl #[.agg #[.slice A0_0 l0_0.length c0_0, .slice A0_1 l0_1.length c0_1, .slice A0_2 l0_2.length c0_2]] (by rfl) rfl rfl (by (try simp only [List.map_toArray, List.map_cons, List.map_nil]); first | done | rfl | (simp only [List.length_drop, List.length_take]; rfl)) ?_
        with_reducible refine (laws_toDfa.calls k _ _ l0_0 _ _ l0_1 _ _ l0_2 t821 t824 t827 _ ?side1 ?side2 ?side3 ?side4 ?side5 ?side6 A14.out).mono ?_
        (case side1 => repeat (first | exact (Kd.C_below HR0_0.out HB.out) | (with_reducible refine Kd.C_alloc ?_ _) | (with_reducible refine Kd.C_drewN ?_ _) | (with_reducible refine Kd.C_drew ?_)))
        (case side2 => exact HC0_0.out)
        (case side3 => repeat (first | exact (Kd.C_below HR0_1.out HB.out) | (with_reducible refine Kd.C_alloc ?_ _) | (with_reducible refine Kd.C_drewN ?_ _) | (with_reducible refine Kd.C_drew ?_)))
        (case side4 => exact HC0_1.out)
        (case side5 => repeat (first | exact (Kd.C_below HR0_2.out HB.out) | (with_reducible refine Kd.C_alloc ?_ _) | (with_reducible refine Kd.C_drewN ?_ _) | (with_reducible refine Kd.C_drew ?_)))
        (case side6 => exact HC0_2.out)
        rintro e w36 ⟨v822, v825, v828, rfl, ho0, ho1, ho2, hb⟩
        refine ⟨_, rfl, ?_⟩
        have n0_ := Aside0.mk (Kd.S_elder' (by (with_reducible repeat (first | apply Kd.S_alloc | apply Kd.S_drewN | apply Kd.S_drew)); exact HO802.out) (Kd.S_base ho0) hb)
        have n1_ := Aside0.mk (Kd.S_mono (Kd.S_told (Kd.S_told (Kd.S_old (by (with_reducible repeat (first | apply Kd.S_alloc | apply Kd.S_drewN | apply Kd.S_drew)); exact HO805.out) hb) (Kd.S_base ho1)) (Kd.R_base ho2)) (fun _ h_ => h_.1))
        have n2_ := Aside0.mk (Kd.R_elder' (by (with_reducible repeat (first | apply Kd.R_alloc | apply Kd.R_drewN | apply Kd.R_drew)); exact HO808.out) (Kd.R_base ho2) hb)
        have n3_ := Aside0.mk (Kd.S_elder' (by (with_reducible repeat (first | apply Kd.S_alloc | apply Kd.S_drewN | apply Kd.S_drew)); exact HO812.out) (Kd.S_base ho0) hb)
        have n4_ := Aside0.mk (Kd.S_mono (Kd.S_told (Kd.S_told (Kd.S_old (by (with_reducible repeat (first | apply Kd.S_alloc | apply Kd.S_drewN | apply Kd.S_drew)); exact HO815.out) hb) (Kd.S_base ho1)) (Kd.R_base ho2)) (fun _ h_ => h_.1))
        have n5_ := Aside0.mk (Kd.R_elder' (by (with_reducible repeat (first | apply Kd.R_alloc | apply Kd.R_drewN | apply Kd.R_drew)); exact HO818.out) (Kd.R_base ho2) hb)
        have n6_ := Aside0.mk (Kd.S_lower (Kd.S_new' (Kd.S_new' ho0 (Kd.S_lt (by (with_reducible repeat (first | apply Kd.S_alloc | apply Kd.S_drewN | apply Kd.S_drew)); exact HO802.out))) (Kd.S_lt (by (with_reducible repeat (first | apply Kd.S_alloc | apply Kd.S_drewN | apply Kd.S_drew)); exact HO812.out))) (below_size (by repeat (first | (with_reducible first | exact HB.out | apply below_alloc | apply pw_below_drewN | apply below_drew1 | refine below_set ?_ GE798.out | refine below_set ?_ GE819.out) | exact HB.out))))
        have n7_ := Aside0.mk (Kd.S_lower (Kd.S_new' (Kd.S_new' (Kd.S_new' (Kd.S_new' ho1 (Kd.S_lt (by (with_reducible repeat (first | apply Kd.S_alloc | apply Kd.S_drewN | apply Kd.S_drew)); exact HO805.out))) (Kd.R_lt (by (with_reducible repeat (first | apply Kd.R_alloc | apply Kd.R_drewN | apply Kd.R_drew)); exact HO808.out))) (Kd.S_lt (by (with_reducible repeat (first | apply Kd.S_alloc | apply Kd.S_drewN | apply Kd.S_drew)); exact HO815.out))) (Kd.R_lt (by (with_reducible repeat (first | apply Kd.R_alloc | apply Kd.R_drewN | apply Kd.R_drew)); exact HO818.out))) (below_size (by repeat (first | (with_reducible first | exact HB.out | apply below_alloc | apply pw_below_drewN | apply below_drew1 | refine below_set ?_ GE798.out | refine below_set ?_ GE819.out) | exact HB.out))))
        have n8_ := Aside0.mk (Kd.R_lower (Kd.R_new' (Kd.R_new' ho2 (Kd.R_lt (by (with_reducible repeat (first | apply Kd.R_alloc | apply Kd.R_drewN | apply Kd.R_drew)); exact HO808.out))) (Kd.R_lt (by (with_reducible repeat (first | apply Kd.R_alloc | apply Kd.R_drewN | apply Kd.R_drew)); exact HO818.out))) (below_size (by repeat (first | (with_reducible first | exact HB.out | apply below_alloc | apply pw_below_drewN | apply below_drew1 | refine below_set ?_ GE798.out | refine below_set ?_ GE819.out) | exact HB.out))))
        have n9_ := Aside0.mk (blk_below (g := gb798) (o := .cells #[.slice A0_0 l0_0.length c0_0, .slice A0_1 l0_1.length c0_1, .slice A0_2 l0_2.length c0_2] 50 (0, 0)) (by (with_reducible repeat (first | refine blk_drewN ?_ _ | refine blk_drew ?_ | refine blk_alloc ?_ _)); exact BK798.out) hb)
        have n10_ := Aside0.mk (blk_below (g := gb819) (o := .cells #[.slice Ao29 t810.length co29, .slice Ao32 t813.length co32, .slice Ao33 t816.length co33] 55 (0, 0)) (by (with_reducible repeat (first | refine blk_drewN ?_ _ | refine blk_drew ?_ | refine blk_alloc ?_ _)); exact BK819.out) hb)
        have n11_ := Aside0.mk (below_step (by repeat (first | (with_reducible first | exact HB.out | apply below_alloc | apply pw_below_drewN | apply below_drew1 | refine below_set ?_ GE798.out | refine below_set ?_ GE819.out) | exact HB.out)) hb)
        clear HO802
        clear HO805
        clear HO808
        clear HO812
        clear HO815
        clear HO818
        clear BK798
        clear BK819
        clear HB
        have HO802 := n0_
        have HO805 := n1_
        have HO808 := n2_
        have HO812 := n3_
        have HO815 := n4_
        have HO818 := n5_
        have HO823 := n6_
        have HO826 := n7_
        have HO829 := n8_
        have BK798 := n9_
        have BK819 := n10_
        have HB := n11_
        clear n0_ n1_ n2_ n3_ n4_ n5_ n6_ n7_ n8_ n9_ n10_ n11_
        (try clear hb)
        (try clear hb2)
        (try clear hk)
        (try clear hi)
        (try clear ho0)
        (try clear ho1)
        (try clear ho2)
        obtain ⟨Ao37, co37, eo37⟩ := Kd.S_slice HO823.out
        (first | subst eo37 | (injection eo37 with f1_ f2_ f3_; have f4_ := f1_.symm; have f5_ := f3_.symm; clear f1_ f2_ f3_; subst f4_; subst f5_))
        obtain ⟨Ao38, co38, eo38⟩ := Kd.S_slice HO826.out
        (first | subst eo38 | (injection eo38 with f1_ f2_ f3_; have f4_ := f1_.symm; have f5_ := f3_.symm; clear f1_ f2_ f3_; subst f4_; subst f5_))
        obtain ⟨Ao39, co39, eo39⟩ := Kd.R_slice HO829.out
        (first | subst eo39 | (injection eo39 with f1_ f2_ f3_; have f4_ := f1_.symm; have f5_ := f3_.symm; clear f1_ f2_ f3_; subst f4_; subst f5_))
        refine hK.out _ _ ⟨(blk_cell BK819.out 0).trans rfl, (blk_cell BK819.out 1).trans rfl, (blk_cell BK819.out 2).trans rfl, (blk_cell BK798.out 0).trans rfl, (blk_cell BK798.out 1).trans rfl, (blk_cell BK798.out 2).trans rfl⟩ (fun hHeld => ?_)
        clear hK K
        refine norm_ (a' := ?_) ?_ ?_
        rotate_left
        · show Act.put _ (some 32) _ = _
          simp only [Act.put, List.setIfInBounds_toArray, List.set_cons_zero, List.set_cons_succ, i64_w, i32_w]
          rfl
        refine one_ (i := 3) (N := some 33) #[true, true, true, true, false] rfl rfl (by kernel_rfl) (by decide) (fun K hK => ?_)
        refine goes_ Try.func39 (by kernel_rfl) rfl #[.agg #[.slice Ao29 t810.length co29, .slice Ao32 t813.length co32, .slice Ao33 t816.length co33], .agg #[.slice Ao37 t821.length co37, .slice Ao38 t824.length co38, .slice Ao39 t827.length co39]] (by rfl) rfl rfl (by (try simp only [List.map_toArray, List.map_cons, List.map_nil]); first | done | rfl | (simp only [List.length_drop, List.length_take]; rfl)) ?_
        with_reducible refine (laws_eqDfa.calls k _ _ t810 _ _ t813 _ _ t816 _ _ t821 _ _ t824 _ _ t827 true _ ?side1 ?side2 ?side3 ?side4 ?side5 ?side6 ?side7 ?side8 ?side9 ?side10 ?side11 ?side12 A15.out).mono ?_
        (case side1 => repeat (first | exact (Kd.S_reads' HO812.out).2.2 | (with_reducible refine Kd.C_alloc ?_ _) | (with_reducible refine Kd.C_drewN ?_ _) | (with_reducible refine Kd.C_drew ?_)))
        (case side2 => exact (Kd.S_reads' HO812.out).2.1)
        (case side3 => repeat (first | exact (Kd.S_reads' HO815.out).2.2 | (with_reducible refine Kd.C_alloc ?_ _) | (with_reducible refine Kd.C_drewN ?_ _) | (with_reducible refine Kd.C_drew ?_)))
        (case side4 => exact (Kd.S_reads' HO815.out).2.1)
        (case side5 => repeat (first | exact (Kd.R_reads' HO818.out).2.2 | (with_reducible refine Kd.C_alloc ?_ _) | (with_reducible refine Kd.C_drewN ?_ _) | (with_reducible refine Kd.C_drew ?_)))
        (case side6 => exact (Kd.R_reads' HO818.out).2.1)
        (case side7 => repeat (first | exact (Kd.S_reads' HO823.out).2.2 | (with_reducible refine Kd.C_alloc ?_ _) | (with_reducible refine Kd.C_drewN ?_ _) | (with_reducible refine Kd.C_drew ?_)))
        (case side8 => exact (Kd.S_reads' HO823.out).2.1)
        (case side9 => repeat (first | exact (Kd.S_reads' HO826.out).2.2 | (with_reducible refine Kd.C_alloc ?_ _) | (with_reducible refine Kd.C_drewN ?_ _) | (with_reducible refine Kd.C_drew ?_)))
        (case side10 => exact (Kd.S_reads' HO826.out).2.1)
        (case side11 => repeat (first | exact (Kd.R_reads' HO829.out).2.2 | (with_reducible refine Kd.C_alloc ?_ _) | (with_reducible refine Kd.C_drewN ?_ _) | (with_reducible refine Kd.C_drew ?_)))
        (case side12 => exact (Kd.R_reads' HO829.out).2.1)
        rintro e w40 ⟨rfl, hb⟩
        refine ⟨_, rfl, ?_⟩
        have n0_ := Aside0.mk (Kd.S_below (by (with_reducible repeat (first | apply Kd.S_alloc | apply Kd.S_drewN | apply Kd.S_drew)); exact HO802.out) hb)
        have n1_ := Aside0.mk (Kd.S_below (by (with_reducible repeat (first | apply Kd.S_alloc | apply Kd.S_drewN | apply Kd.S_drew)); exact HO805.out) hb)
        have n2_ := Aside0.mk (Kd.R_below (by (with_reducible repeat (first | apply Kd.R_alloc | apply Kd.R_drewN | apply Kd.R_drew)); exact HO808.out) hb)
        have n3_ := Aside0.mk (Kd.S_below (by (with_reducible repeat (first | apply Kd.S_alloc | apply Kd.S_drewN | apply Kd.S_drew)); exact HO812.out) hb)
        have n4_ := Aside0.mk (Kd.S_below (by (with_reducible repeat (first | apply Kd.S_alloc | apply Kd.S_drewN | apply Kd.S_drew)); exact HO815.out) hb)
        have n5_ := Aside0.mk (Kd.R_below (by (with_reducible repeat (first | apply Kd.R_alloc | apply Kd.R_drewN | apply Kd.R_drew)); exact HO818.out) hb)
        have n6_ := Aside0.mk (Kd.S_below (by (with_reducible repeat (first | apply Kd.S_alloc | apply Kd.S_drewN | apply Kd.S_drew)); exact HO823.out) hb)
        have n7_ := Aside0.mk (Kd.S_below (by (with_reducible repeat (first | apply Kd.S_alloc | apply Kd.S_drewN | apply Kd.S_drew)); exact HO826.out) hb)
        have n8_ := Aside0.mk (Kd.R_below (by (with_reducible repeat (first | apply Kd.R_alloc | apply Kd.R_drewN | apply Kd.R_drew)); exact HO829.out) hb)
        have n9_ := Aside0.mk (blk_below (g := gb798) (o := .cells #[.slice A0_0 l0_0.length c0_0, .slice A0_1 l0_1.length c0_1, .slice A0_2 l0_2.length c0_2] 50 (0, 0)) (by (with_reducible repeat (first | refine blk_drewN ?_ _ | refine blk_drew ?_ | refine blk_alloc ?_ _)); exact BK798.out) hb)
        have n10_ := Aside0.mk (blk_below (g := gb819) (o := .cells #[.slice Ao29 t810.length co29, .slice Ao32 t813.length co32, .slice Ao33 t816.length co33] 55 (0, 0)) (by (with_reducible repeat (first | refine blk_drewN ?_ _ | refine blk_drew ?_ | refine blk_alloc ?_ _)); exact BK819.out) hb)
        have n11_ := Aside0.mk (below_step (by repeat (first | (with_reducible first | exact HB.out | apply below_alloc | apply pw_below_drewN | apply below_drew1 | refine below_set ?_ GE798.out | refine below_set ?_ GE819.out) | exact HB.out)) hb)
        clear HO802
        clear HO805
        clear HO808
        clear HO812
        clear HO815
        clear HO818
        clear HO823
        clear HO826
        clear HO829
        clear BK798
        clear BK819
        clear HB
        have HO802 := n0_
        have HO805 := n1_
        have HO808 := n2_
        have HO812 := n3_
        have HO815 := n4_
        have HO818 := n5_
        have HO823 := n6_
        have HO826 := n7_
        have HO829 := n8_
        have BK798 := n9_
        have BK819 := n10_
        have HB := n11_
        clear n0_ n1_ n2_ n3_ n4_ n5_ n6_ n7_ n8_ n9_ n10_ n11_
        (try clear hb)
        (try clear hb2)
        (try clear hk)
        (try clear hi)
        refine hK.out _ _ ⟨(blk_cell BK819.out 0).trans rfl, (blk_cell BK819.out 1).trans rfl, (blk_cell BK819.out 2).trans rfl, (blk_cell BK798.out 0).trans rfl, (blk_cell BK798.out 1).trans rfl, (blk_cell BK798.out 2).trans rfl⟩ (fun hHeld => ?_)
        clear hK K
        refine norm_ (a' := ?_) ?_ ?_
        rotate_left
        · show Act.put _ (some 33) _ = _
          simp only [Act.put, List.setIfInBounds_toArray, List.set_cons_zero, List.set_cons_succ, i64_w, i32_w]
          rfl
        refine pure_ (i := 4) (N := some 34) (v := ?_) (a' := ?_) #[true, true, true, true, true] rfl rfl (by kernel_rfl) (fun _ _ _ h => h) (Or.inl ⟨by rfl, ?_⟩) ?_ ?_
        rotate_left
        · intro w'
          go_simp
          with_reducible rfl
        rotate_left
        · simp only [Act.put, List.setIfInBounds_toArray, List.set_cons_zero, List.set_cons_succ, i64_w, i32_w]
          rfl
        refine done_ (by kernel_rfl) ?_
        try go_wp2
        go_ret
        exact ⟨by first | rfl | (simp [errW_none, errW_some] <;> rfl) | (simp [*, errW_none, errW_some] <;> rfl), by repeat (first | (with_reducible first | exact HB.out | apply below_alloc | apply pw_below_drewN | apply below_drew1 | refine below_set ?_ GE798.out | refine below_set ?_ GE819.out) | exact HB.out)⟩
      · replace c16 := Bool.eq_false_iff.mpr c16
        subst c16
        have H1 : (some false) = some r := by rw [if_neg (show ¬ (false = true) by decide)] at H; exact H
        clear H
        have H := H1
        clear H1
        exact absurd ((Option.some.inj H).trans HT.out) (by decide)
    · rw [if_neg c13] at H
      have c13b0 : (t820 == t809) = false := beq_eq_false_iff_ne.mpr c13
      have c13b1 : (t820 != t809) = true := bne_iff_ne.mpr c13
      exact absurd ((Option.some.inj H).trans HT.out) (by decide)
end Go.Proofs.Ytljaoggbfoimfaa.P

set_option linter.unusedVariables false
set_option linter.unusedSimpArgs false
namespace Go.Proofs.Ytljaoggbfoimfaa.Pure
open Go.RowKit Go.Proofs.Ytljaoggbfoimfaa.P Go.Proofs.YtljaoggbfoimfaaW.PrintWords Go.Proofs.YtljaoggbfoimfaaW.PrintLast Go.Proofs.Ytljaoggbfoimfaa.Rd
namespace FnExactDfaNext
def B131 (x : S131) : Prop := ((Lit.int .i64 x.f0).wf = true) ∧ ((Lit.int .i64 x.f1).wf = true)
theorem rd131 (n : Nat) : Rd Try.prog n 131 k131 B131 :=
  ((Rd.iso (d := (Kd.pair (Kd.int .i64) (Kd.int .i64))) (Rd.struct Try.underlying131 rfl (by kernel_rfl) (Fs.cons (Rd.int _ Try.underlying3) rfl (by kernel_rfl) (Fs.one (Rd.int _ Try.underlying3) rfl (by kernel_rfl)))) (fun x : S131 => (x.f0, x.f1)) (fun p => ⟨p.1, p.2⟩) (fun _ => rfl)).le (Nat.le_succ n)).imp (fun _ hx => hx)
def Said : Prop := ∀ (l0_0 : (List (List S131))) (l0_1 : (List (List Int))) (l0_2 : (List Int)) (a1 : Int) (a2 : Int), (l0_0.length * 24 ≤ reachBytes ∧ ∀ y4 ∈ l0_0, (y4.length * 16 ≤ reachBytes ∧ ∀ y2 ∈ y4, B131 y2)) → (l0_1.length * 24 ≤ reachBytes ∧ ∀ y4 ∈ l0_1, (y4.length * 8 ≤ reachBytes ∧ ∀ y2 ∈ y4, (Lit.int .i64 y2).wf = true)) → (l0_2.length * 8 ≤ reachBytes ∧ ∀ y4 ∈ l0_2, (Lit.int .i64 y4).wf = true) → (Lit.int .i64 a1).wf = true → (Lit.int .i64 a2).wf = true → ∃ k, laws_FnExactDfaNext.f k l0_0 l0_1 l0_2 a1 a2 = some true
end FnExactDfaNext
end Go.Proofs.Ytljaoggbfoimfaa.Pure

set_option linter.unusedVariables false
set_option linter.unusedSimpArgs false
namespace Go.Proofs.Ytljaoggbfoimfaa.P
open Go.Proofs.YtljaoggbfoimfaaW.PrintWords Go.RowKit
noncomputable def yes (p : Prop) : Bool := @decide p (Classical.propDecidable p)
theorem yes_pos {p : Prop} (h : p) : yes p = true := by unfold yes; exact @decide_eq_true p (Classical.propDecidable p) h
theorem yes_neg {p : Prop} (h : ¬ p) : yes p = false := by unfold yes; exact @decide_eq_false p (Classical.propDecidable p) h
theorem yes_iff {p : Prop} : yes p = true ↔ p := by
  constructor
  · intro h
    by_cases hp : p
    · exact hp
    · rw [yes_neg hp] at h; cases h
  · exact yes_pos
theorem yes_congr {p q : Prop} (h : p ↔ q) : yes p = yes q := by rw [propext h]
end Go.Proofs.Ytljaoggbfoimfaa.P
namespace Go.Proofs.YtljaoggbfoimfaaW.PrintWords
theorem Ev.succ {α : Type} {g : Nat → Option α} {r : α} (h : Ev (fun k => g (k + 1)) r) : Ev g r := by
  obtain ⟨K, hK⟩ := h
  refine ⟨K + 1, fun k hk => ?_⟩
  obtain ⟨m, rfl⟩ : ∃ m, k = m + 1 := ⟨k - 1, by omega⟩
  exact hK m (by omega)
theorem Ev.late {α : Type} {g f : Nat → Option α} {r : α} (h : ∃ K, ∀ k, K ≤ k → g (k + 1) = f k) (k : Ev f r) : Ev g r := by
  obtain ⟨K, hK⟩ := h
  obtain ⟨K', hK'⟩ := k
  refine ⟨max K K' + 1, fun k hk => ?_⟩
  obtain ⟨m, rfl⟩ : ∃ m, k = m + 1 := ⟨k - 1, by omega⟩
  rw [hK m (by omega), hK' m (by omega)]
theorem Ev.eqs {α : Type} {g : Nat → Option α} {r q : α} (h : Ev g r) (e : r = q) : Ev g q := e ▸ h
theorem Ev.ofEq {α : Type} {g : Nat → Option α} {r : α} (h : ∀ k, g k = some r) : Ev g r := ⟨0, fun k _ => h k⟩
theorem Ev.ofSucc {α : Type} {g : Nat → Option α} {r : α} (h : ∀ k, g (k + 1) = some r) : Ev g r := Ev.succ (Ev.ofEq h)
theorem Ev.one {α : Type} {g : Nat → Option α} {r q : α} (h : Ev g r) (k : Ev g q) : r = q := by
  obtain ⟨K, hK⟩ := h
  obtain ⟨K', hK'⟩ := k
  have h1 := hK (max K K') (by omega)
  rw [hK' _ (by omega)] at h1
  exact (Option.some.inj h1).symm
theorem Ev.first {α β : Type} {g : Nat → Option α} {f : Nat → α → Option β} {a : α} {r : β} (h : Ev g a) (k : Ev (fun n => f n a) r) : Ev (fun n => (g n).bind (f n)) r := Ev.bind h k
end Go.Proofs.YtljaoggbfoimfaaW.PrintWords
namespace Go.Proofs.Ytljaoggbfoimfaa.P
open Go.Proofs.YtljaoggbfoimfaaW.PrintWords Go.RowKit
theorem wrap_nat {i : Nat} (h : i < 9000000000000000000) : wrap64 ((i : Int) + 1) = ((i + 1 : Nat) : Int) := by unfold wrap64; omega
theorem wrap_id {i : Int} (h0 : -9000000000000000000 ≤ i) (h : i < 9000000000000000000) : wrap64 i = i := by unfold wrap64; omega
theorem all2_ev {α : Type} (L : Nat → Int → Option Bool) (xs ys : List α) (hl : xs.length = ys.length)
    (hend : ∀ k, L (k + 1) (xs.length : Int) = some true)
    (hstep : ∀ (i : Nat) (h : i < xs.length) (h' : i < ys.length), ∃ K, ∀ k, K ≤ k → (xs[i] = ys[i] → L (k + 1) (i : Int) = L k ((i + 1 : Nat) : Int)) ∧ (xs[i] ≠ ys[i] → L (k + 1) (i : Int) = some false)) :
    Ev (fun k => L k 0) (yes (xs = ys)) := by
  have key : ∀ d i : Nat, i + d = xs.length → Ev (fun k => L k (i : Int)) (yes (xs.drop i = ys.drop i)) := by
    intro d
    induction d with
    | zero =>
      intro i hi
      have h0 : i = xs.length := by omega
      subst h0
      rw [yes_pos (by rw [List.drop_of_length_le (Nat.le_refl _), List.drop_of_length_le (by omega)])]
      exact Ev.ofSucc (g := fun k => L k (xs.length : Int)) hend
    | succ d ih =>
      intro i hi
      have h1 : i < xs.length := by omega
      have h2 : i < ys.length := by omega
      obtain ⟨K, hK⟩ := hstep i h1 h2
      rw [List.drop_eq_getElem_cons h1, List.drop_eq_getElem_cons h2]
      by_cases he : xs[i] = ys[i]
      · refine (Ev.late (g := fun k => L k (i : Int)) ⟨K, fun k hk => (hK k hk).1 he⟩ (ih (i + 1) (by omega))).eqs (yes_congr ?_)
        rw [List.cons_eq_cons]
        exact ⟨fun h => ⟨he, h⟩, fun h => h.2⟩
      · refine (Ev.late (g := fun k => L k (i : Int)) (f := fun _ => some false) ⟨K, fun k hk => (hK k hk).2 he⟩ (Ev.now false)).eqs (yes_neg ?_).symm
        rw [List.cons_eq_cons]
        exact fun h => he h.1
  exact (key xs.length 0 (by omega)).eqs (by simp)
theorem fill_ev {α β : Type} (L : Nat → List β → Int → Option (List β)) (xs : List α) (f : α → β)
    (hend : ∀ k r, r.length = xs.length → L (k + 1) r (xs.length : Int) = some r)
    (hstep : ∀ (i : Nat) (h : i < xs.length), ∃ K, ∀ k r, K ≤ k → r.length = xs.length → L (k + 1) r (i : Int) = L k (r.set i (f xs[i])) ((i + 1 : Nat) : Int))
    (r0 : List β) (h0 : r0.length = xs.length) : Ev (fun k => L k r0 0) (xs.map f) := by
  have key : ∀ d i : Nat, i + d = xs.length → ∀ r : List β, r.length = xs.length → (∀ j (h : j < xs.length), j < i → r[j]? = some (f xs[j])) → Ev (fun k => L k r (i : Int)) (xs.map f) := by
    intro d
    induction d with
    | zero =>
      intro i hi r hr hj
      have h0 : i = xs.length := by omega
      subst h0
      refine (Ev.ofSucc (g := fun k => L k r (xs.length : Int)) (fun k => hend k r hr)).eqs ?_
      apply List.ext_getElem?
      intro j
      rcases Nat.lt_or_ge j xs.length with h | h
      · rw [hj j h h]; simp [List.getElem?_eq_getElem h]
      · rw [List.getElem?_eq_none (by omega), List.getElem?_eq_none (by simpa using h)]
    | succ d ih =>
      intro i hi r hr hj
      have h1 : i < xs.length := by omega
      obtain ⟨K, hK⟩ := hstep i h1
      refine Ev.late (g := fun k => L k r (i : Int)) ⟨K, fun k hk => hK k r hk hr⟩ (ih (i + 1) (by omega) _ (by simpa using hr) (fun j h hlt => ?_))
      rcases Nat.lt_or_ge j i with h2 | h2
      · rw [List.getElem?_set_ne (by omega)]; exact hj j h h2
      · have : j = i := by omega
        subst this
        rw [List.getElem?_set_self (by omega)]
  exact key xs.length 0 (by omega) r0 h0 (fun j _ h => by omega)
theorem all_ev (L : Nat → Int → Option Bool) (n : Nat) (Q : Nat → Prop) (hend : ∀ k, L (k + 1) (n : Int) = some true)
    (hstep : ∀ (i : Nat), i < n → ∃ K, ∀ k, K ≤ k → (Q i → L (k + 1) (i : Int) = L k ((i + 1 : Nat) : Int)) ∧ (¬ Q i → L (k + 1) (i : Int) = some false)) :
    Ev (fun k => L k 0) (yes (∀ i, i < n → Q i)) := by
  have key : ∀ d i : Nat, i + d = n → Ev (fun k => L k (i : Int)) (yes (∀ j, i ≤ j → j < n → Q j)) := by
    intro d
    induction d with
    | zero =>
      intro i hi
      have h0 : i = n := by omega
      subst h0
      rw [yes_pos (fun j h1 h2 => by omega)]
      exact Ev.ofSucc (g := fun k => L k (i : Int)) hend
    | succ d ih =>
      intro i hi
      have h1 : i < n := by omega
      obtain ⟨K, hK⟩ := hstep i h1
      by_cases he : Q i
      · refine (Ev.late (g := fun k => L k (i : Int)) ⟨K, fun k hk => (hK k hk).1 he⟩ (ih (i + 1) (by omega))).eqs (yes_congr ?_)
        constructor
        · intro h j hj hn
          rcases Nat.lt_or_ge i j with h2 | h2
          · exact h j (by omega) hn
          · have : j = i := by omega
            subst this; exact he
        · exact fun h j hj hn => h j (by omega) hn
      · refine (Ev.late (g := fun k => L k (i : Int)) (f := fun _ => some false) ⟨K, fun k hk => (hK k hk).2 he⟩ (Ev.now false)).eqs (yes_neg fun h => he (h i (Nat.le_refl _) h1)).symm
  exact (key n 0 (by omega)).eqs (yes_congr ⟨fun h i hi => h i (Nat.zero_le _) hi, fun h j _ hj => h j hj⟩)
theorem walk_ex {σ β : Type} (L : Nat → σ → Int → Option β) (n : Nat) (hend : ∀ s, ∃ r, Ev (fun k => L k s (n : Int)) r)
    (hstep : ∀ (i : Nat), i < n → ∀ s : σ, (∃ r, Ev (fun k => L k s (i : Int)) r) ∨ ∃ s' K, ∀ k, K ≤ k → L (k + 1) s (i : Int) = L k s' ((i + 1 : Nat) : Int))
    (s : σ) : ∃ r, Ev (fun k => L k s 0) r := by
  have key : ∀ d i : Nat, i + d = n → ∀ s, ∃ r, Ev (fun k => L k s (i : Int)) r := by
    intro d
    induction d with
    | zero =>
      intro i hi s
      have h0 : i = n := by omega
      subst h0
      exact hend s
    | succ d ih =>
      intro i hi s
      rcases hstep i (by omega) s with h | ⟨s', hs⟩
      · exact h
      · obtain ⟨r, hr⟩ := ih (i + 1) (by omega) s'
        exact ⟨r, Ev.late (g := fun k => L k s (i : Int)) hs hr⟩
  exact key n 0 (by omega) s
theorem getD_at {α : Type} {xs : List α} {z : α} {i : Nat} (h : i < xs.length) : xs.getD (i : Int).toNat z = xs[i] := by
  simp [List.getD_eq_getElem?_getD, List.getElem?_eq_getElem h]
theorem run_ev2 {σ γ : Type} (L : Nat → σ → Int → Option γ) (n : Nat) (s : Nat → σ) (fin : γ)
    (hend : Ev (fun k => L k (s n) (n : Int)) fin)
    (hstep : ∀ (i : Nat), i < n → ∃ K, ∀ k, K ≤ k → L (k + 1) (s i) (i : Int) = L k (s (i + 1)) ((i + 1 : Nat) : Int)) : Ev (fun k => L k (s 0) 0) fin := by
  have key : ∀ d i : Nat, i + d = n → Ev (fun k => L k (s i) (i : Int)) fin := by
    intro d
    induction d with
    | zero =>
      intro i hi
      have h0 : i = n := by omega
      subst h0
      exact hend
    | succ d ih =>
      intro i hi
      exact Ev.late (g := fun k => L k (s i) (i : Int)) (hstep i (by omega)) (ih (i + 1) (by omega))
  exact key n 0 (by omega)
theorem scan_ev {β : Type} (L : Nat → Int → Option β) (n : Nat) (P : Nat → Prop) (rh : β) (hhit : ∀ j, j < n → P j → Ev (fun k => L k (j : Int)) rh)
    (hmiss : ∀ j, j < n → ¬ P j → ∃ K, ∀ k, K ≤ k → L (k + 1) (j : Int) = L k ((j + 1 : Nat) : Int)) :
    ((∃ j, j < n ∧ P j) → Ev (fun k => L k 0) rh) ∧ ((∀ j, j < n → ¬ P j) → ∀ r, Ev (fun k => L k (n : Int)) r → Ev (fun k => L k 0) r) := by
  constructor
  · have key : ∀ d j : Nat, j + d = n → (∃ j', j ≤ j' ∧ j' < n ∧ P j') → Ev (fun k => L k (j : Int)) rh := by
      intro d
      induction d with
      | zero => intro j hj ⟨j', h1, h2, _⟩; omega
      | succ d ih =>
        intro j hj ⟨j', h1, h2, h3⟩
        by_cases hp : P j
        · exact hhit j (by omega) hp
        · refine Ev.late (g := fun k => L k (j : Int)) (hmiss j (by omega) hp) (ih (j + 1) (by omega) ⟨j', ?_, h2, h3⟩)
          rcases Nat.lt_or_ge j j' with h | h
          · omega
          · have : j' = j := by omega
            subst this; exact absurd h3 hp
    exact fun ⟨j, h1, h2⟩ => key n 0 (by omega) ⟨j, Nat.zero_le _, h1, h2⟩
  · intro hno r hr
    have key : ∀ d j : Nat, j + d = n → Ev (fun k => L k (j : Int)) r := by
      intro d
      induction d with
      | zero =>
        intro j hj
        have : j = n := by omega
        subst this; exact hr
      | succ d ih => exact fun j hj => Ev.late (g := fun k => L k (j : Int)) (hmiss j (by omega) (hno j (by omega))) (ih (j + 1) (by omega))
    exact key n 0 (by omega)
end Go.Proofs.Ytljaoggbfoimfaa.P

set_option linter.unusedVariables false
set_option linter.unusedSimpArgs false
namespace Go.Proofs.Ytljaoggbfoimfaa.P
open Go.Proofs.YtljaoggbfoimfaaW.PrintWords Go.RowKit
abbrev spanAt (s : List S115) (i : Int) : S115 := rd_T115 s i
def SetQ (s : List S115) (i : Nat) : Prop :=
  0 ≤ (spanAt s i).f0 ∧ (spanAt s i).f0 ≤ (spanAt s i).f1 ∧ (spanAt s i).f1 ≤ 255 ∧ (0 < i → wrap64 ((spanAt s ((i : Int) - 1)).f1 + 1) < (spanAt s i).f0)
def SetP (s : List S115) : Prop := ∀ i, i < s.length → SetQ s i
theorem impl_SetOk_ev (s : List S115) (hn : s.length * 16 ≤ 140737488351232) : Ev (fun k => impl_SetOk.f k s) (yes (SetP s)) := by
  unfold impl_SetOk.f
  refine all_ev (fun k i => impl_SetOk.l0 k s s (s.length : Int) i) s.length (SetQ s) (fun k => ?_) (fun i hi => ⟨0, fun k _ => ?_⟩)
  · show impl_SetOk.l0 (k + 1) s s (s.length : Int) _ = _
    simp only [impl_SetOk.l0]; rw [if_neg (by omega)]
  · show (_ → impl_SetOk.l0 (k + 1) s s (s.length : Int) _ = impl_SetOk.l0 k s s (s.length : Int) _) ∧ (_ → impl_SetOk.l0 (k + 1) s s (s.length : Int) _ = _)
    have hw : 0 < i → wrap64 ((i : Int) - 1) = (i : Int) - 1 := fun h => by unfold wrap64; omega
    simp only [impl_SetOk.l0]
    rw [if_pos (by omega), if_pos (by omega), if_pos (by omega), wrap_nat (by omega)]
    unfold SetQ spanAt
    generalize hx : rd_T115 s (i : Int) = x
    by_cases c1 : x.f0 < 0
    · rw [if_pos c1]; exact ⟨fun h => by omega, fun _ => rfl⟩
    rw [if_neg c1]
    by_cases c2 : x.f1 < x.f0
    · rw [if_pos c2]; exact ⟨fun h => by omega, fun _ => rfl⟩
    rw [if_neg c2]
    by_cases c3 : x.f1 > 255
    · rw [if_pos c3]; exact ⟨fun h => by omega, fun _ => rfl⟩
    rw [if_neg c3]
    by_cases c4 : (i : Int) > 0
    · rw [if_pos c4, hw (by omega), if_pos (by omega), if_pos (by omega)]
      by_cases c5 : x.f0 ≤ wrap64 ((rd_T115 s ((i : Int) - 1)).f1 + 1)
      · rw [if_pos c5]; exact ⟨fun h => by have := h.2.2.2 (by omega); omega, fun _ => rfl⟩
      · rw [if_neg c5]; exact ⟨fun _ => rfl, fun h => absurd ⟨by omega, by omega, by omega, fun _ => by omega⟩ h⟩
    · rw [if_neg c4]; exact ⟨fun _ => rfl, fun h => absurd ⟨by omega, by omega, by omega, fun h => by omega⟩ h⟩
theorem spec_SetOk_ev (s : List S115) (hn : s.length * 16 ≤ 140737488351232) : Ev (fun k => spec_SetOk.f k s) (yes (SetP s)) := by
  unfold spec_SetOk.f
  refine all_ev (fun k i => spec_SetOk.l0 k s i) s.length (SetQ s) (fun k => ?_) (fun i hi => ⟨0, fun k _ => ?_⟩)
  · show spec_SetOk.l0 (k + 1) s _ = _
    simp only [spec_SetOk.l0]; rw [if_neg (by omega)]
  · show (_ → spec_SetOk.l0 (k + 1) s _ = spec_SetOk.l0 k s _) ∧ (_ → spec_SetOk.l0 (k + 1) s _ = _)
    have hw : 0 < i → wrap64 ((i : Int) - 1) = (i : Int) - 1 := fun h => by unfold wrap64; omega
    simp only [spec_SetOk.l0]
    rw [if_pos (by omega), if_pos (by omega), wrap_nat (by omega)]
    unfold SetQ spanAt
    generalize hx : rd_T115 s (i : Int) = x
    by_cases c1 : x.f0 < 0
    · rw [if_pos c1]; exact ⟨fun h => by omega, fun _ => rfl⟩
    rw [if_neg c1]
    by_cases c2 : x.f1 > 255
    · rw [if_pos c2]; exact ⟨fun h => by omega, fun _ => rfl⟩
    rw [if_neg c2]
    by_cases c3 : x.f0 > x.f1
    · rw [if_pos c3]; exact ⟨fun h => by omega, fun _ => rfl⟩
    rw [if_neg c3]
    by_cases c4 : (i : Int) > 0
    · rw [if_pos c4, hw (by omega), if_pos (by omega), if_pos (by omega)]
      by_cases c5 : x.f0 ≤ wrap64 ((rd_T115 s ((i : Int) - 1)).f1 + 1)
      · rw [if_pos c5]; exact ⟨fun h => by have := h.2.2.2 (by omega); omega, fun _ => rfl⟩
      · rw [if_neg c5]; exact ⟨fun _ => rfl, fun h => absurd ⟨by omega, by omega, by omega, fun _ => by omega⟩ h⟩
    · rw [if_neg c4]; exact ⟨fun _ => rfl, fun h => absurd ⟨by omega, by omega, by omega, fun h => by omega⟩ h⟩
end Go.Proofs.Ytljaoggbfoimfaa.P

set_option linter.unusedVariables false
set_option linter.unusedSimpArgs false
namespace Go.Proofs.Ytljaoggbfoimfaa.P
open Go.Proofs.YtljaoggbfoimfaaW.PrintWords Go.RowKit Go.Proofs.Ytljaoggbfoimfaa.Arr
theorem loop_ev {σ β : Type} (L : Nat → σ → Int → Option β) (n : Nat) (s : Nat → σ) (Q : Nat → Prop) (rf : β)
    (hstep : ∀ i, i < n → (∀ j, j < i → Q j) → (Q i → ∀ r, Ev (fun k => L k (s (i + 1)) ((i + 1 : Nat) : Int)) r → Ev (fun k => L k (s i) (i : Int)) r) ∧ (¬ Q i → Ev (fun k => L k (s i) (i : Int)) rf)) :
    ((∀ j, j < n → Q j) → ∀ r, Ev (fun k => L k (s n) (n : Int)) r → Ev (fun k => L k (s 0) 0) r) ∧ ((∃ j, j < n ∧ ¬ Q j) → Ev (fun k => L k (s 0) 0) rf) := by
  constructor
  · intro hq r hr
    have key : ∀ d i : Nat, i + d = n → Ev (fun k => L k (s i) (i : Int)) r := by
      intro d
      induction d with
      | zero => intro i hi; have h0 : i = n := by omega
                subst h0; exact hr
      | succ d ih => exact fun i hi => (hstep i (by omega) (fun j hj => hq j (by omega))).1 (hq i (by omega)) r (ih (i + 1) (by omega))
    exact key n 0 (by omega)
  · rintro ⟨j, hj, hn⟩
    have key : ∀ d i : Nat, i + d = n → (∀ j, j < i → Q j) → (∃ j, i ≤ j ∧ j < n ∧ ¬ Q j) → Ev (fun k => L k (s i) (i : Int)) rf := by
      intro d
      induction d with
      | zero => intro i hi _ ⟨j, h1, h2, _⟩; omega
      | succ d ih =>
        intro i hi hb ⟨j, h1, h2, h3⟩
        by_cases hQ : Q i
        · refine (hstep i (by omega) hb).1 hQ rf (ih (i + 1) (by omega) (fun j' hj' => ?_) ⟨j, ?_, h2, h3⟩)
          · rcases Nat.lt_or_ge j' i with h | h
            · exact hb j' h
            · have : j' = i := by omega
              subst this; exact hQ
          · rcases Nat.lt_or_ge i j with h | h
            · omega
            · have : j = i := by omega
              subst this; exact absurd hQ h3
        · exact (hstep i (by omega) hb).2 hQ
    exact key n 0 (by omega) (fun j h => by omega) ⟨j, Nat.zero_le _, hj, hn⟩
def covers (x : S115) (b : Int) : Prop := x.f0 ≤ b ∧ b ≤ x.f1
def HasP (s : List S115) (b : Int) : Prop := ∃ j, j < s.length ∧ covers (spanAt s (j : Int)) b
noncomputable def hasB (s : List S115) (b : Int) : Bool := yes (HasP s b)
theorem spec_SetHas_ev (s : List S115) (hn : s.length * 16 ≤ 140737488351232) (b : Int) : Ev (fun k => spec_SetHas.f k s b) (hasB s b) := by
  unfold spec_SetHas.f
  have key := scan_ev (fun k i => spec_SetHas.l0 k s b i) s.length (fun j => covers (spanAt s (j : Int)) b) true
    (fun j hj hp => Ev.ofSucc (g := fun k => spec_SetHas.l0 k s b (j : Int)) (fun k => by
      simp only [spec_SetHas.l0]
      rw [if_pos (by omega), if_pos (by omega), if_pos hp.1, if_pos hp.2]))
    (fun j hj hp => ⟨0, fun k _ => by
      simp only [spec_SetHas.l0]
      rw [if_pos (by omega), if_pos (by omega), wrap_nat (by omega)]
      by_cases c : b ≥ (rd_T115 s (j : Int)).f0
      · rw [if_pos c]
        rw [if_neg (fun h => hp ⟨c, h⟩)]
      · rw [if_neg c]⟩)
  by_cases h : HasP s b
  · unfold hasB; rw [yes_pos h]; exact key.1 h
  · unfold hasB; rw [yes_neg h]
    exact key.2 (fun j hj hp => h ⟨j, hj, hp⟩) false (Ev.ofSucc (g := fun k => spec_SetHas.l0 k s b _) (fun k => by simp only [spec_SetHas.l0]; rw [if_neg (by omega)]))
theorem impl_SetHas_ev (s : List S115) (hn : s.length * 16 ≤ 140737488351232) (b : Int) : Ev (fun k => impl_SetHas.f k s b) (hasB s b) := by
  unfold impl_SetHas.f
  have key := scan_ev (fun k i => impl_SetHas.l0 k b s (s.length : Int) i) s.length (fun j => covers (spanAt s (j : Int)) b) true
    (fun j hj hp => Ev.ofSucc (g := fun k => impl_SetHas.l0 k b s (s.length : Int) (j : Int)) (fun k => by
      simp only [impl_SetHas.l0, impl_in.f]
      rw [if_pos (by omega), if_pos (by omega), if_pos (by omega), if_pos hp.1, Option.bind_some, decide_eq_true hp.2, if_pos rfl]))
    (fun j hj hp => ⟨0, fun k _ => by
      simp only [impl_SetHas.l0, impl_in.f]
      rw [if_pos (by omega), if_pos (by omega), if_pos (by omega), wrap_nat (by omega)]
      by_cases c : b ≥ (rd_T115 s (j : Int)).f0
      · rw [if_pos c, Option.bind_some, decide_eq_false (fun h => hp ⟨c, h⟩), if_neg (by simp)]
      · rw [if_neg c, Option.bind_some, if_neg (by simp)]⟩)
  by_cases h : HasP s b
  · unfold hasB; rw [yes_pos h]; exact key.1 h
  · unfold hasB; rw [yes_neg h]
    exact key.2 (fun j hj hp => h ⟨j, hj, hp⟩) false (Ev.ofSucc (g := fun k => impl_SetHas.l0 k b s (s.length : Int) _) (fun k => by simp only [impl_SetHas.l0]; rw [if_neg (by omega)]))
noncomputable def bitsL (s : List S115) : List Bool := (List.range 256).map fun i : Nat => hasB s (i : Int)
theorem impl_bitsOf_ev (s : List S115) (hn : s.length * 16 ≤ 140737488351232) : Ev (fun k => impl_bitsOf.f k s) (bitsL s) := by
  unfold impl_bitsOf.f
  refine fill_ev (fun k r i => impl_bitsOf.l0 k s r i) (List.range 256) (fun i : Nat => hasB s (i : Int)) (fun k r hr => ?_) (fun i h => ?_) _ (by rw [List.length_replicate, List.length_range])
  · show impl_bitsOf.l0 (k + 1) s r _ = _
    simp only [impl_bitsOf.l0, List.length_range]
    rw [if_neg (by omega)]
  · rw [List.length_range] at h
    obtain ⟨K, hK⟩ := impl_SetHas_ev s hn (i : Int)
    dsimp only at hK
    refine ⟨K, fun k r hk hr => ?_⟩
    rw [List.length_range] at hr
    show impl_bitsOf.l0 (k + 1) s r _ = impl_bitsOf.l0 k s _ _
    simp only [impl_bitsOf.l0]
    rw [if_pos (by omega), if_pos (by omega), hK k hk, Option.bind_some, wrap_nat (by omega)]
    congr 1
    unfold setB
    rw [padB_self _ _ hr, Int.toNat_natCast, List.getElem_range]
theorem getB_map (f : Nat → Bool) (i : Nat) (h : i < 256) : getB ((List.range 256).map f) (i : Int) = f i := by
  unfold getB
  rw [getD_at (by simpa using h)]
  simp
theorem getB_bitsL (s : List S115) (i : Nat) (h : i < 256) : getB (bitsL s) (i : Int) = hasB s (i : Int) := getB_map _ i h
def cnt (f : Nat → Bool) : Nat → Nat
  | 0 => 0
  | n + 1 => cnt f n + (if f n = true then 1 else 0)
theorem cnt_le (f : Nat → Bool) : ∀ n, cnt f n ≤ n
  | 0 => Nat.le_refl _
  | n + 1 => by
    have := cnt_le f n
    unfold cnt
    split <;> omega
theorem cnt_or (f g : Nat → Bool) : ∀ n, (∀ b, b < n → ¬ (f b = true ∧ g b = true)) → cnt (fun b => f b || g b) n = cnt f n + cnt g n
  | 0, _ => rfl
  | n + 1, h => by
    have ih := cnt_or f g n (fun b hb => h b (by omega))
    have hh := h n (by omega)
    unfold cnt
    rw [ih]
    cases hf : f n <;> cases hg : g n <;> simp_all <;> omega
theorem spec_SetSize_ev (s : List S115) (hn : s.length * 16 ≤ 140737488351232) : Ev (fun k => spec_SetSize.f k s) ((cnt (fun b : Nat => hasB s (b : Int)) 256 : Nat) : Int) := by
  unfold spec_SetSize.f
  refine run_ev2 (fun k (m : Int) i => spec_SetSize.l0 k s m i) 256 (fun i => ((cnt (fun b : Nat => hasB s (b : Int)) i : Nat) : Int)) _ ?_ (fun i hi => ?_)
  · exact Ev.ofSucc (g := fun k => spec_SetSize.l0 k s _ _) (fun k => by simp only [spec_SetSize.l0]; rw [if_neg (by omega)])
  · obtain ⟨K, hK⟩ := spec_SetHas_ev s hn (i : Int)
    dsimp only at hK
    refine ⟨K, fun k hk => ?_⟩
    show spec_SetSize.l0 (k + 1) s _ _ = spec_SetSize.l0 k s _ _
    have hc := cnt_le (fun b : Nat => hasB s (b : Int)) i
    simp only [spec_SetSize.l0]
    rw [if_pos (by omega), hK k hk, Option.bind_some, wrap_nat (by omega), wrap_nat (by omega)]
    show _ = spec_SetSize.l0 k s ((cnt (fun b : Nat => hasB s (b : Int)) i + (if hasB s (i : Int) = true then 1 else 0) : Nat) : Int) _
    by_cases c : hasB s (i : Int) = true
    · rw [if_pos c, if_pos c]
    · rw [if_neg c, if_neg c]; rfl
theorem SetP.mono {s : List S115} (h : SetP s) : ∀ i, i < s.length → (spanAt s 0).f0 ≤ (spanAt s (i : Int)).f0
  | 0, _ => Int.le_refl _
  | i + 1, hi => by
    have ih := SetP.mono h i (by omega)
    obtain ⟨h1, h2, h3, _⟩ := h i (by omega)
    obtain ⟨_, _, _, h4⟩ := h (i + 1) hi
    have h5 := h4 (by omega)
    have he : (((i + 1 : Nat) : Int) - 1) = (i : Int) := by omega
    rw [he, wrap_id (by omega) (by omega)] at h5
    omega
theorem SetP.range {s : List S115} (h : SetP s) {b : Int} (hb : HasP s b) : 0 ≤ b ∧ b < 256 := by
  obtain ⟨j, hj, h1, h2⟩ := hb
  obtain ⟨h3, _, h4, _⟩ := h j hj
  exact ⟨by omega, by omega⟩
theorem spec_SetFirst_ev {s : List S115} (hn : s.length * 16 ≤ 140737488351232) (h : SetP s) (h0 : s.length ≠ 0) : Ev (fun k => spec_SetFirst.f k s) (spanAt s 0).f0 := by
  unfold spec_SetFirst.f
  obtain ⟨q1, q2, q3, _⟩ := h 0 (by omega)
  have q1' : 0 ≤ (spanAt s 0).f0 := q1
  have q2' : (spanAt s 0).f0 ≤ (spanAt s 0).f1 := q2
  have q3' : (spanAt s 0).f1 ≤ 255 := q3
  obtain ⟨m, hm⟩ : ∃ m : Nat, (spanAt s 0).f0 = (m : Int) := ⟨(spanAt s 0).f0.toNat, by omega⟩
  have hat : HasP s (m : Int) := ⟨0, by omega, by show (spanAt s 0).f0 ≤ _; omega, by show _ ≤ (spanAt s 0).f1; omega⟩
  refine (scan_ev (fun k i => spec_SetFirst.l0 k s i) (m + 1) (fun j => j = m) (spanAt s 0).f0 (fun j hj hp => ?_) (fun j hj hp => ?_)).1 ⟨m, by omega, rfl⟩
  · subst hp
    obtain ⟨K, hK⟩ := spec_SetHas_ev s hn (j : Int)
    dsimp only at hK
    refine Ev.succ (g := fun k => spec_SetFirst.l0 k s (j : Int)) ⟨K, fun k hk => ?_⟩
    simp only [spec_SetFirst.l0]
    rw [if_pos (by omega), hK k hk, Option.bind_some]
    unfold hasB
    rw [yes_pos hat, if_pos rfl, hm]
  · obtain ⟨K, hK⟩ := spec_SetHas_ev s hn (j : Int)
    dsimp only at hK
    refine ⟨K, fun k hk => ?_⟩
    simp only [spec_SetFirst.l0]
    rw [if_pos (by omega), hK k hk, Option.bind_some, wrap_nat (by omega)]
    unfold hasB
    rw [yes_neg (fun ⟨i, hi, h1, _⟩ => by have := h.mono i hi; omega), if_neg (by simp)]
theorem spec_l1Of_ne (x : List Bool) (hx : x.length = 256) : ∃ r, Ev (fun k => spec_l1Of.f k x) r ∧ (r ≠ [] ↔ ∃ i, i < 256 ∧ x.getD i false = true) := by
  unfold spec_l1Of.f
  have key : ∀ d i : Nat, i + d = 256 → ∀ y : List S115, y.length ≤ i → ∃ r, Ev (fun k => spec_l1Of.l0 k x y (i : Int)) r ∧ (r ≠ [] ↔ (y ≠ [] ∨ ∃ j, i ≤ j ∧ j < 256 ∧ x.getD j false = true)) := by
    intro d
    induction d with
    | zero =>
      intro i hi y _
      refine ⟨y, Ev.ofSucc (g := fun k => spec_l1Of.l0 k x y _) (fun k => by simp only [spec_l1Of.l0]; rw [if_neg (by omega)]), ?_⟩
      constructor
      · exact fun h => .inl h
      · rintro (h | ⟨j, h1, h2, _⟩)
        · exact h
        · omega
    | succ d ih =>
      intro i hi y hy
      by_cases c : x.getD i false = true
      · have go : ∀ y' : List S115, y'.length ≤ i + 1 → y' ≠ [] → (∀ k, spec_l1Of.l0 (k + 1) x y (i : Int) = spec_l1Of.l0 k x y' ((i + 1 : Nat) : Int)) → ∃ r, Ev (fun k => spec_l1Of.l0 k x y (i : Int)) r ∧ (r ≠ [] ↔ (y ≠ [] ∨ ∃ j, i ≤ j ∧ j < 256 ∧ x.getD j false = true)) := by
          intro y' hl hne he
          obtain ⟨r, hr, hi2⟩ := ih (i + 1) (by omega) y' hl
          exact ⟨r, Ev.late (g := fun k => spec_l1Of.l0 k x y (i : Int)) ⟨0, fun k _ => he k⟩ hr, ⟨fun _ => .inr ⟨i, Nat.le_refl _, by omega, c⟩, fun _ => hi2.2 (.inl hne)⟩⟩
        have hx0 : rdOf false x (i : Int) = true := by unfold rdOf; rw [Int.toNat_natCast]; exact c
        by_cases c1 : 0 < y.length
        · by_cases c2 : (rd_T115 y (wrap64 ((y.length : Int) - 1))).f1 = wrap64 ((i : Int) - 1)
          · refine go (y.set (wrap64 ((y.length : Int) - 1)).toNat ⟨(rd_T115 y (wrap64 ((y.length : Int) - 1))).f0, (i : Int)⟩) (by rw [List.length_set]; omega) (fun h => by have := congrArg List.length h; rw [List.length_set, List.length_nil] at this; omega) (fun k => ?_)
            have hw : wrap64 ((y.length : Int) - 1) = (y.length : Int) - 1 := wrap_id (by omega) (by omega)
            simp only [spec_l1Of.l0]
            rw [if_pos (by omega), if_pos (by omega), if_pos (by omega), if_pos hx0, if_pos (by omega), if_pos (by omega), if_pos (by omega), if_pos c2, wrap_nat (by omega)]
          · refine go (y ++ [⟨(i : Int), (i : Int)⟩]) (by simp; omega) (by simp) (fun k => ?_)
            have hw : wrap64 ((y.length : Int) - 1) = (y.length : Int) - 1 := wrap_id (by omega) (by omega)
            simp only [spec_l1Of.l0]
            rw [if_pos (by omega), if_pos (by omega), if_pos (by omega), if_pos hx0, if_pos (by omega), if_pos (by omega), if_pos (by omega), if_neg c2, if_pos (by omega), wrap_nat (by omega)]
        · refine go (y ++ [⟨(i : Int), (i : Int)⟩]) (by simp; omega) (by simp) (fun k => ?_)
          simp only [spec_l1Of.l0]
          rw [if_pos (by omega), if_pos (by omega), if_pos (by omega), if_pos hx0, if_neg (by omega), if_pos (by omega), wrap_nat (by omega)]
      · obtain ⟨r, hr, hi2⟩ := ih (i + 1) (by omega) y (by omega)
        have hx0 : ¬ rdOf false x (i : Int) = true := by unfold rdOf; rw [Int.toNat_natCast]; exact c
        refine ⟨r, Ev.late (g := fun k => spec_l1Of.l0 k x y (i : Int)) ⟨0, fun k _ => by
          simp only [spec_l1Of.l0]
          rw [if_pos (by omega), if_pos (by omega), if_pos (by omega), if_neg hx0, wrap_nat (by omega)]⟩ hr, hi2.trans ⟨?_, ?_⟩⟩
        · rintro (h | ⟨j, h1, h2, h3⟩)
          · exact .inl h
          · exact .inr ⟨j, by omega, h2, h3⟩
        · rintro (h | ⟨j, h1, h2, h3⟩)
          · exact .inl h
          · refine .inr ⟨j, ?_, h2, h3⟩
            rcases Nat.lt_or_ge i j with h | h
            · omega
            · have : j = i := by omega
              subst this; exact absurd h3 c
  obtain ⟨r, hr, h⟩ := key 256 0 (by omega) [] (by simp)
  refine ⟨r, hr, h.trans ⟨?_, ?_⟩⟩
  · rintro (h | ⟨j, h1, h2, h3⟩)
    · exact absurd rfl h
    · exact ⟨j, h2, h3⟩
  · rintro ⟨j, h2, h3⟩
    exact .inr ⟨j, Nat.zero_le _, h2, h3⟩
def Meets (s t : List S115) : Prop := ∃ b : Nat, b < 256 ∧ HasP s (b : Int) ∧ HasP t (b : Int)
theorem spec_SetMeet_ne {s t : List S115} (hs : s.length * 16 ≤ 140737488351232) (ht : t.length * 16 ≤ 140737488351232) (ps : SetP s) (pt : SetP t) : ∃ r, Ev (fun k => spec_SetMeet.f k s t) r ∧ (r ≠ [] ↔ Meets s t) := by
  let f : Nat → Bool := fun i => hasB s (i : Int) && hasB t (i : Int)
  obtain ⟨r, hr, h⟩ := spec_l1Of_ne ((List.range 256).map f) (by simp)
  refine ⟨r, ?_, h.trans ?_⟩
  · unfold spec_SetMeet.f
    simp only [if_pos (show 256 ≤ 281474976710656 by omega)]
    have hE : Ev (fun k => (spec_SetOk.f k s).bind fun t198 => (if t198 = true then ((spec_SetOk.f k t).bind fun t199 => (if t199 = true then ((spec_l1Of.f k ((List.range 256).map f)).bind fun t200 => (some t200)) else (some (([] : List S115))))) else (some (([] : List S115))))) r := by
      refine Ev.bind (spec_SetOk_ev s hs) ?_
      simp only [yes_pos ps, if_true]
      refine Ev.bind (spec_SetOk_ev t ht) ?_
      simp only [yes_pos pt, if_true]
      exact Ev.bind hr (Ev.now _)
    have key : ∀ d i : Nat, i + d = 256 → ∀ z : List Bool, z.length = 256 → (∀ j, j < i → z[j]? = some (f j)) → Ev (fun k => spec_SetMeet.l0 k s t z (i : Int)) r := by
      intro d
      induction d with
      | zero =>
        intro i hi z hz hj
        have hzf : z = (List.range 256).map f := by
          apply List.ext_getElem?
          intro j
          rcases Nat.lt_or_ge j 256 with h | h
          · rw [hj j (by omega)]; simp [h]
          · rw [List.getElem?_eq_none (by omega), List.getElem?_eq_none (by simpa using h)]
        subst hzf
        refine Ev.late (g := fun k => spec_SetMeet.l0 k s t _ (i : Int)) ⟨0, fun k _ => ?_⟩ hE
        simp only [spec_SetMeet.l0]
        rw [if_neg (by omega)]
      | succ d ih =>
        intro i hi z hz hj
        obtain ⟨K1, hK1⟩ := spec_SetHas_ev s hs (i : Int)
        obtain ⟨K2, hK2⟩ := spec_SetHas_ev t ht (i : Int)
        dsimp only at hK1 hK2
        refine Ev.late (g := fun k => spec_SetMeet.l0 k s t z (i : Int)) ⟨max K1 K2, fun k hk => ?_⟩ (ih (i + 1) (by omega) (z.set i (f i)) (by simpa using hz) (fun j hlt => ?_))
        · have e1 := hK1 k (by omega)
          have e2 := hK2 k (by omega)
          simp only [spec_SetMeet.l0]
          rw [if_pos (by omega), e1, Option.bind_some, wrap_nat (by omega)]
          by_cases c : hasB s (i : Int) = true
          · have hf : f i = hasB t (i : Int) := by show (hasB s (i : Int) && hasB t (i : Int)) = _; rw [c, Bool.true_and]
            rw [if_pos c, e2, Option.bind_some, if_pos (by omega), if_pos (by omega), Int.toNat_natCast, hf]
          · have hf : f i = false := by show (hasB s (i : Int) && hasB t (i : Int)) = _; rw [Bool.eq_false_iff.mpr c, Bool.false_and]
            rw [if_neg c, if_pos (by omega), if_pos (by omega), Int.toNat_natCast, hf]
        · rcases Nat.lt_or_ge j i with h2 | h2
          · rw [List.getElem?_set_ne (by omega)]; exact hj j h2
          · have : j = i := by omega
            subst this
            rw [List.getElem?_set_self (by omega)]
    exact key 256 0 (by omega) _ (List.length_replicate ..) (fun j h => by omega)
  · constructor
    · rintro ⟨i, hi, h⟩
      have h' : f i = true := by
        have e := getB_map f i hi
        unfold getB at e
        rw [Int.toNat_natCast] at e
        rw [← e]; exact h
      have h2 : hasB s (i : Int) = true ∧ hasB t (i : Int) = true := Bool.and_eq_true_iff.1 h'
      exact ⟨i, hi, yes_iff.1 h2.1, yes_iff.1 h2.2⟩
    · rintro ⟨i, hi, h1, h2⟩
      refine ⟨i, hi, ?_⟩
      have h' : f i = true := Bool.and_eq_true_iff.2 ⟨yes_pos h1, yes_pos h2⟩
      have e := getB_map f i hi
      unfold getB at e
      rw [Int.toNat_natCast] at e
      rw [e]; exact h'
end Go.Proofs.Ytljaoggbfoimfaa.P

namespace Go.Proofs.Ytljaoggbfoimfaa.P
open Go.RowKit Go.Proofs.YtljaoggbfoimfaaW.PrintWords Go.Proofs.YtljaoggbfoimfaaW.PrintLast Go.Proofs.YtljaoggbfoimfaaW.PrintMore
attribute [local go_sem] max2_int min2_int max_two min_two max_three min_three max_four min_four   -- for this text's walks alone
set_option linter.unusedVariables false
set_option linter.unusedSimpArgs false
theorem eqA115 (d : Nat) (w : World) (x0 y0 : Int) (x1 y1 : Int) :
    (Op.equalIn (d + 2) 115 (.agg #[.int .i64 x0, .int .i64 x1]) (.agg #[.int .i64 y0, .int .i64 y1])).run Try.prog w = .ok (x0 == y0 && (x1 == y1)) w := by
  refine eqA_of Try.underlying115 (by kernel_rfl) ?_
  refine eqf_cons (by rfl) (by go_simp; rfl) (by go_simp; rfl) (by go_simp) ?_
  exact eqf_last (by rfl) (by go_simp; rfl) (by go_simp; rfl) (by go_simp)
end Go.Proofs.Ytljaoggbfoimfaa.P

namespace Go.Proofs.Ytljaoggbfoimfaa.P
open Go.RowKit Go.Proofs.YtljaoggbfoimfaaW.PrintWords Go.Proofs.YtljaoggbfoimfaaW.PrintLast Go.Proofs.YtljaoggbfoimfaaW.PrintMore
attribute [local go_sem] max2_int min2_int max_two min_two max_three min_three max_four min_four   -- for this text's walks alone
set_option linter.unusedVariables false
set_option linter.unusedSimpArgs false
attribute [local go_sem high] eqA115
def spec_SetSame.l0 : Nat → List (S115) → List (S115) → Int → Option (Bool)
  | 0, _, _, _ => none
  | k + 1, x0, x1, x5 => if x5 < (x0.length : Int) then (if 0 ≤ x5 then (if x5 < (x1.length : Int) then (if (!(((rd_T115 x0 x5).f0) == ((rd_T115 x1 x5).f0)) || (!(((rd_T115 x0 x5).f1) == ((rd_T115 x1 x5).f1)))) = true then (some false) else (spec_SetSame.l0 k x0 x1 (wrap64 (x5 + 1)))) else (none)) else (none)) else (some true)
def spec_SetSame.f (k : Nat) (l0 : List (S115)) (l1 : List (S115)) : Option (Bool) := if (l0.length : Int) = (l1.length : Int) then (spec_SetSame.l0 k l0 l1 0) else (some false)
theorem spec_SetSame.mono_l : ∀ k, (∀ y0 y1 y2, LeO (spec_SetSame.l0 k y0 y1 y2) (spec_SetSame.l0 (k + 1) y0 y1 y2))
  | 0 => fun _ _ _ r h => by simp [spec_SetSame.l0] at h
  | k + 1 => by
    have ih0 := spec_SetSame.mono_l k
    · intro y0 y1 y2
      unfold spec_SetSame.l0
      repeat' first
      | (with_reducible exact ih0 _ _ _)
      | (with_reducible exact LeO.refl _)
      | (with_reducible exact LeO.none _)
      | (with_reducible refine LeO.ite ?_ ?_)
      | (with_reducible refine LeO.bind ?_ (fun _ => ?_))
      | exact ih0 _ _ _
      | exact LeO.none _
      | refine LeO.ite ?_ ?_
      | refine LeO.bind ?_ (fun _ => ?_)
theorem spec_SetSame.mono : ∀ a0 a1 k, LeO (spec_SetSame.f k a0 a1) (spec_SetSame.f (k + 1) a0 a1) := by
  intro a0 a1 k
  have ih0 := spec_SetSame.mono_l k
  unfold spec_SetSame.f
  repeat' first
      | (with_reducible exact ih0 _ _ _)
      | (with_reducible exact LeO.refl _)
      | (with_reducible exact LeO.none _)
      | (with_reducible refine LeO.ite ?_ ?_)
      | (with_reducible refine LeO.bind ?_ (fun _ => ?_))
      | exact ih0 _ _ _
      | exact LeO.none _
      | refine LeO.ite ?_ ?_
      | refine LeO.bind ?_ (fun _ => ?_)
set_option maxHeartbeats 8000000 in
set_option maxRecDepth 100000 in
theorem spec_SetSame.calls (k : Nat) (A0 : Option Addr) (c0 : Nat) (l0 : List (S115)) (A1 : Option Addr) (c1 : Nat) (l1 : List (S115)) (r : Bool) (w : World) (hr0 : Kd.C k115 w A0 l0.length l0) (hc0 : l0.length ≤ c0) (hr1 : Kd.C k115 w A1 l1.length l1) (hc1 : l1.length ≤ c1) (h : spec_SetSame.f k l0 l1 = some r) :
    Calls Try.prog 73 #[.slice A0 l0.length c0, .slice A1 l1.length c1] w fun e w' => e = .returned (.bool r) ∧ Drawn0 w w' := by
  have hu115 := Try.underlying115
  have HR0 := Aside0.mk hr0
  have HC0 := Aside0.mk hc0
  clear hr0 hc0
  have HR1 := Aside0.mk hr1
  have HC1 := Aside0.mk hc1
  clear hr1 hc1
  have H : (if (l0.length : Int) = (l1.length : Int) then (spec_SetSame.l0 k l0 l1 0) else (some false)) = some r := h
  clear h
  by_cases c3 : (l0.length : Int) = (l1.length : Int)
  · rw [if_pos c3] at H
    have c3b0 : ((l0.length : Int) == (l1.length : Int)) = true := beq_iff_eq.mpr c3
    have c3b1 : ((l0.length : Int) != (l1.length : Int)) = false := bne_eq_false_iff_eq.mpr c3
    have c3b2 : (l0.length == l1.length) = true := by first | simpa using c3 | (simp at c3 ⊢; omega)
    clear c3
    have H' := Aside0.mk H
    clear H
    go_enter Try.func73, Try.ntmps73
    go_wp2
    repeat (go_quiet (fail); try go_wp2)
    go_loopg [5] k (fun kq v5 w' => ∃ (x5_1 : Int), v5 = .int .i64 x5_1 ∧ Aside0 (spec_SetSame.l0 kq l0 l1 x5_1 = some r) ∧ Aside0 (kq ≤ k) ∧ Drawn0 w w')
    case atStart => exact ⟨(0), (by first | rfl | (simp; done) | (simp [*]; done)), H', ⟨Nat.le_refl _⟩, by repeat (first | exact Drawn0.refl _ | apply Drawn0.step)⟩
    case round =>
      clear H'
      try clear c1
      try clear p2
      try clear c3
      try clear c3b0
      try clear c3b1
      try clear c3b2
      obtain ⟨x5_1, rfl, HA, HK1, ⟨m1, rfl⟩⟩ := hrel
      cases gk with
      | zero => exact absurd HA.out (by simp [spec_SetSame.l0])
      | succ k1 =>
        have H := HA.out
        clear HA
        simp only [spec_SetSame.l0] at H
        by_cases c4 : x5_1 < (l0.length : Int)
        · rw [if_pos c4] at H
          have c4b0 : decide (x5_1 < (l0.length : Int)) = true := decide_eq_true c4
          clear c4
          by_cases c5 : 0 ≤ x5_1
          · rw [if_pos c5] at H
            have c5b0 : decide (0 ≤ x5_1) = true := decide_eq_true c5
            clear c5
            by_cases c6 : x5_1 < (l1.length : Int)
            · rw [if_pos c6] at H
              have c6b0 : decide (x5_1 < (l1.length : Int)) = true := decide_eq_true c6
              clear c6
              by_cases c7 : (!(((rd_T115 l0 x5_1).f0) == ((rd_T115 l1 x5_1).f0)) || (!(((rd_T115 l0 x5_1).f1) == ((rd_T115 l1 x5_1).f1)))) = true
              · rw [if_pos c7] at H
                have c7b0 : (!(((rd_T115 l0 x5_1).f0) == ((rd_T115 l1 x5_1).f0)) || (!(((rd_T115 l0 x5_1).f1) == ((rd_T115 l1 x5_1).f1)))) = true := c7
                clear c7
                obtain rfl := Option.some.inj H
                have p277 : 0 ≤ (x5_1 : Int) := of_decide_eq_true (by first | (with_reducible assumption) | assumption)
                have q277 : x5_1 < (l0.length : Int) := of_decide_eq_true (by first | (with_reducible assumption) | assumption)
                obtain ⟨ad277, e277, hx277_0, hx277_1⟩ := at_T115 HR0.out x5_1 p277 q277
                cases e277
                replace p277 := eq_true p277
                replace q277 := eq_true q277
                have p278 : 0 ≤ (x5_1 : Int) := of_decide_eq_true (by first | (with_reducible assumption) | assumption)
                have q278 : x5_1 < (l1.length : Int) := of_decide_eq_true (by first | (with_reducible assumption) | assumption)
                obtain ⟨ad278, e278, hx278_0, hx278_1⟩ := at_T115 HR1.out x5_1 p278 q278
                cases e278
                replace p278 := eq_true p278
                replace q278 := eq_true q278
                go_wp2
                repeat (go_quiet (fail); try go_wp2)
                go_ret
                exact ⟨by first | rfl | (simp; done) | (simp [*]; done), by repeat (first | exact Drawn0.refl _ | apply Drawn0.step)⟩
              · rw [if_neg c7] at H
                have c7b0 : (!(((rd_T115 l0 x5_1).f0) == ((rd_T115 l1 x5_1).f0)) || (!(((rd_T115 l0 x5_1).f1) == ((rd_T115 l1 x5_1).f1)))) = false := by simpa using c7
                clear c7
                have H' := Aside0.mk H
                clear H
                have p277 : 0 ≤ (x5_1 : Int) := of_decide_eq_true (by first | (with_reducible assumption) | assumption)
                have q277 : x5_1 < (l0.length : Int) := of_decide_eq_true (by first | (with_reducible assumption) | assumption)
                obtain ⟨ad277, e277, hx277_0, hx277_1⟩ := at_T115 HR0.out x5_1 p277 q277
                cases e277
                replace p277 := eq_true p277
                replace q277 := eq_true q277
                have p278 : 0 ≤ (x5_1 : Int) := of_decide_eq_true (by first | (with_reducible assumption) | assumption)
                have q278 : x5_1 < (l1.length : Int) := of_decide_eq_true (by first | (with_reducible assumption) | assumption)
                obtain ⟨ad278, e278, hx278_0, hx278_1⟩ := at_T115 HR1.out x5_1 p278 q278
                cases e278
                replace p278 := eq_true p278
                replace q278 := eq_true q278
                go_wp2
                repeat (go_quiet (fail); try go_wp2)
                go_roundg k1
                case measure => have := HK1.out; omega
                case rel => exact ⟨(wrap64 (x5_1 + 1)), (by first | rfl | (simp; done) | (simp [*]; done)), H', ⟨by have := HK1.out; omega⟩, by repeat (first | exact Drawn0.refl _ | apply Drawn0.step)⟩
            · rw [if_neg c6] at H
              exact absurd H (by simp)
          · rw [if_neg c5] at H
            exact absurd H (by simp)
        · rw [if_neg c4] at H
          have c4b0 : decide (x5_1 < (l0.length : Int)) = false := decide_eq_false c4
          clear c4
          obtain rfl := Option.some.inj H
          go_wp2
          repeat (go_quiet (fail); try go_wp2)
          go_ret
          exact ⟨by first | rfl | (simp; done) | (simp [*]; done), by repeat (first | exact Drawn0.refl _ | apply Drawn0.step)⟩
  · rw [if_neg c3] at H
    have c3b0 : ((l0.length : Int) == (l1.length : Int)) = false := beq_eq_false_iff_ne.mpr c3
    have c3b1 : ((l0.length : Int) != (l1.length : Int)) = true := bne_iff_ne.mpr c3
    have c3b2 : (l0.length == l1.length) = false := by first | simpa using c3 | (simp at c3 ⊢; omega)
    obtain rfl := Option.some.inj H
    go_enter Try.func73, Try.ntmps73
    go_wp2
    repeat (go_quiet (fail); try go_wp2)
    go_ret
    exact ⟨by first | rfl | (simp; done) | (simp [*]; done), by repeat (first | exact Drawn0.refl _ | apply Drawn0.step)⟩
end Go.Proofs.Ytljaoggbfoimfaa.P

namespace Go.Proofs.Ytljaoggbfoimfaa.P
open Go.RowKit Go.Proofs.YtljaoggbfoimfaaW.PrintWords Go.Proofs.YtljaoggbfoimfaaW.PrintLast Go.Proofs.YtljaoggbfoimfaaW.PrintMore
attribute [local go_sem] max2_int min2_int max_two min_two max_three min_three max_four min_four   -- for this text's walks alone
set_option linter.unusedVariables false
set_option linter.unusedSimpArgs false
attribute [local go_sem high] eqA115
def impl_same_impl_Span.l0 : Nat → List (S115) → List (S115) → Int → Int → Option (Bool)
  | 0, _, _, _, _ => none
  | k + 1, x0, x1, x12, x13 => if x13 < x12 then (if 0 ≤ x13 then (if x13 < (x0.length : Int) then (if x13 < (x1.length : Int) then (if (!(((rd_T115 x0 x13).f0) == ((rd_T115 x1 x13).f0)) || (!(((rd_T115 x0 x13).f1) == ((rd_T115 x1 x13).f1)))) = true then (some false) else (impl_same_impl_Span.l0 k x0 x1 x12 (wrap64 (x13 + 1)))) else (none)) else (none)) else (none)) else (some true)
def impl_same_impl_Span.f (k : Nat) (l0 : List (S115)) (l1 : List (S115)) : Option (Bool) := if (l0.length : Int) = (l1.length : Int) then (impl_same_impl_Span.l0 k l0 l1 (l0.length : Int) 0) else (some false)
theorem impl_same_impl_Span.mono_l : ∀ k, (∀ y0 y1 y2 y3, LeO (impl_same_impl_Span.l0 k y0 y1 y2 y3) (impl_same_impl_Span.l0 (k + 1) y0 y1 y2 y3))
  | 0 => fun _ _ _ _ r h => by simp [impl_same_impl_Span.l0] at h
  | k + 1 => by
    have ih0 := impl_same_impl_Span.mono_l k
    · intro y0 y1 y2 y3
      unfold impl_same_impl_Span.l0
      repeat' first
      | (with_reducible exact ih0 _ _ _ _)
      | (with_reducible exact LeO.refl _)
      | (with_reducible exact LeO.none _)
      | (with_reducible refine LeO.ite ?_ ?_)
      | (with_reducible refine LeO.bind ?_ (fun _ => ?_))
      | exact ih0 _ _ _ _
      | exact LeO.none _
      | refine LeO.ite ?_ ?_
      | refine LeO.bind ?_ (fun _ => ?_)
theorem impl_same_impl_Span.mono : ∀ a0 a1 k, LeO (impl_same_impl_Span.f k a0 a1) (impl_same_impl_Span.f (k + 1) a0 a1) := by
  intro a0 a1 k
  have ih0 := impl_same_impl_Span.mono_l k
  unfold impl_same_impl_Span.f
  repeat' first
      | (with_reducible exact ih0 _ _ _ _)
      | (with_reducible exact LeO.refl _)
      | (with_reducible exact LeO.none _)
      | (with_reducible refine LeO.ite ?_ ?_)
      | (with_reducible refine LeO.bind ?_ (fun _ => ?_))
      | exact ih0 _ _ _ _
      | exact LeO.none _
      | refine LeO.ite ?_ ?_
      | refine LeO.bind ?_ (fun _ => ?_)
set_option maxHeartbeats 8000000 in
set_option maxRecDepth 100000 in
theorem impl_same_impl_Span.calls (k : Nat) (A0 : Option Addr) (c0 : Nat) (l0 : List (S115)) (A1 : Option Addr) (c1 : Nat) (l1 : List (S115)) (r : Bool) (w : World) (hr0 : Kd.C k115 w A0 l0.length l0) (hc0 : l0.length ≤ c0) (hr1 : Kd.C k115 w A1 l1.length l1) (hc1 : l1.length ≤ c1) (h : impl_same_impl_Span.f k l0 l1 = some r) :
    Calls Try.prog 92 #[.slice A0 l0.length c0, .slice A1 l1.length c1] w fun e w' => e = .returned (.bool r) ∧ Drawn0 w w' := by
  have hu115 := Try.underlying115
  have HR0 := Aside0.mk hr0
  have HC0 := Aside0.mk hc0
  clear hr0 hc0
  have HR1 := Aside0.mk hr1
  have HC1 := Aside0.mk hc1
  clear hr1 hc1
  have H : (if (l0.length : Int) = (l1.length : Int) then (impl_same_impl_Span.l0 k l0 l1 (l0.length : Int) 0) else (some false)) = some r := h
  clear h
  by_cases c3 : (l0.length : Int) = (l1.length : Int)
  · rw [if_pos c3] at H
    have c3b0 : ((l0.length : Int) == (l1.length : Int)) = true := beq_iff_eq.mpr c3
    have c3b1 : ((l0.length : Int) != (l1.length : Int)) = false := bne_eq_false_iff_eq.mpr c3
    have c3b2 : (l0.length == l1.length) = true := by first | simpa using c3 | (simp at c3 ⊢; omega)
    clear c3
    have H' := Aside0.mk H
    clear H
    go_enter Try.func92, Try.ntmps92
    go_wp2
    repeat (go_quiet (fail); try go_wp2)
    go_loopg [13] k (fun kq v13 w' => ∃ (x13_1 : Int), v13 = .int .i64 x13_1 ∧ Aside0 (impl_same_impl_Span.l0 kq l0 l1 (l0.length : Int) x13_1 = some r) ∧ Aside0 (kq ≤ k) ∧ Drawn0 w w')
    case atStart => exact ⟨(0), (by first | rfl | (simp; done) | (simp [*]; done)), H', ⟨Nat.le_refl _⟩, by repeat (first | exact Drawn0.refl _ | apply Drawn0.step)⟩
    case round =>
      clear H'
      try clear c1
      try clear p2
      try clear c3
      try clear c3b0
      try clear c3b1
      try clear c3b2
      obtain ⟨x13_1, rfl, HA, HK1, ⟨m1, rfl⟩⟩ := hrel
      cases gk with
      | zero => exact absurd HA.out (by simp [impl_same_impl_Span.l0])
      | succ k1 =>
        have H := HA.out
        clear HA
        simp only [impl_same_impl_Span.l0] at H
        by_cases c4 : x13_1 < (l0.length : Int)
        · rw [if_pos c4] at H
          have c4b0 : decide (x13_1 < (l0.length : Int)) = true := decide_eq_true c4
          clear c4
          by_cases c5 : 0 ≤ x13_1
          · rw [if_pos c5] at H
            have c5b0 : decide (0 ≤ x13_1) = true := decide_eq_true c5
            clear c5
            by_cases c6 : x13_1 < (l0.length : Int)
            · rw [if_pos c6] at H
              have c6b0 : decide (x13_1 < (l0.length : Int)) = true := decide_eq_true c6
              clear c6
              by_cases c7 : x13_1 < (l1.length : Int)
              · rw [if_pos c7] at H
                have c7b0 : decide (x13_1 < (l1.length : Int)) = true := decide_eq_true c7
                clear c7
                by_cases c8 : (!(((rd_T115 l0 x13_1).f0) == ((rd_T115 l1 x13_1).f0)) || (!(((rd_T115 l0 x13_1).f1) == ((rd_T115 l1 x13_1).f1)))) = true
                · rw [if_pos c8] at H
                  have c8b0 : (!(((rd_T115 l0 x13_1).f0) == ((rd_T115 l1 x13_1).f0)) || (!(((rd_T115 l0 x13_1).f1) == ((rd_T115 l1 x13_1).f1)))) = true := c8
                  clear c8
                  obtain rfl := Option.some.inj H
                  have p344 : 0 ≤ (x13_1 : Int) := of_decide_eq_true (by first | (with_reducible assumption) | assumption)
                  have q344 : x13_1 < (l0.length : Int) := of_decide_eq_true (by first | (with_reducible assumption) | assumption)
                  obtain ⟨ad344, e344, hx344_0, hx344_1⟩ := at_T115 HR0.out x13_1 p344 q344
                  cases e344
                  replace p344 := eq_true p344
                  replace q344 := eq_true q344
                  have p345 : 0 ≤ (x13_1 : Int) := of_decide_eq_true (by first | (with_reducible assumption) | assumption)
                  have q345 : x13_1 < (l1.length : Int) := of_decide_eq_true (by first | (with_reducible assumption) | assumption)
                  obtain ⟨ad345, e345, hx345_0, hx345_1⟩ := at_T115 HR1.out x13_1 p345 q345
                  cases e345
                  replace p345 := eq_true p345
                  replace q345 := eq_true q345
                  go_wp2
                  repeat (go_quiet (fail); try go_wp2)
                  go_ret
                  exact ⟨by first | rfl | (simp; done) | (simp [*]; done), by repeat (first | exact Drawn0.refl _ | apply Drawn0.step)⟩
                · rw [if_neg c8] at H
                  have c8b0 : (!(((rd_T115 l0 x13_1).f0) == ((rd_T115 l1 x13_1).f0)) || (!(((rd_T115 l0 x13_1).f1) == ((rd_T115 l1 x13_1).f1)))) = false := by simpa using c8
                  clear c8
                  have H' := Aside0.mk H
                  clear H
                  have p344 : 0 ≤ (x13_1 : Int) := of_decide_eq_true (by first | (with_reducible assumption) | assumption)
                  have q344 : x13_1 < (l0.length : Int) := of_decide_eq_true (by first | (with_reducible assumption) | assumption)
                  obtain ⟨ad344, e344, hx344_0, hx344_1⟩ := at_T115 HR0.out x13_1 p344 q344
                  cases e344
                  replace p344 := eq_true p344
                  replace q344 := eq_true q344
                  have p345 : 0 ≤ (x13_1 : Int) := of_decide_eq_true (by first | (with_reducible assumption) | assumption)
                  have q345 : x13_1 < (l1.length : Int) := of_decide_eq_true (by first | (with_reducible assumption) | assumption)
                  obtain ⟨ad345, e345, hx345_0, hx345_1⟩ := at_T115 HR1.out x13_1 p345 q345
                  cases e345
                  replace p345 := eq_true p345
                  replace q345 := eq_true q345
                  go_wp2
                  repeat (go_quiet (fail); try go_wp2)
                  go_roundg k1
                  case measure => have := HK1.out; omega
                  case rel => exact ⟨(wrap64 (x13_1 + 1)), (by first | rfl | (simp; done) | (simp [*]; done)), H', ⟨by have := HK1.out; omega⟩, by repeat (first | exact Drawn0.refl _ | apply Drawn0.step)⟩
              · rw [if_neg c7] at H
                exact absurd H (by simp)
            · rw [if_neg c6] at H
              exact absurd H (by simp)
          · rw [if_neg c5] at H
            exact absurd H (by simp)
        · rw [if_neg c4] at H
          have c4b0 : decide (x13_1 < (l0.length : Int)) = false := decide_eq_false c4
          clear c4
          obtain rfl := Option.some.inj H
          go_wp2
          repeat (go_quiet (fail); try go_wp2)
          go_ret
          exact ⟨by first | rfl | (simp; done) | (simp [*]; done), by repeat (first | exact Drawn0.refl _ | apply Drawn0.step)⟩
  · rw [if_neg c3] at H
    have c3b0 : ((l0.length : Int) == (l1.length : Int)) = false := beq_eq_false_iff_ne.mpr c3
    have c3b1 : ((l0.length : Int) != (l1.length : Int)) = true := bne_iff_ne.mpr c3
    have c3b2 : (l0.length == l1.length) = false := by first | simpa using c3 | (simp at c3 ⊢; omega)
    obtain rfl := Option.some.inj H
    go_enter Try.func92, Try.ntmps92
    go_wp2
    repeat (go_quiet (fail); try go_wp2)
    go_ret
    exact ⟨by first | rfl | (simp; done) | (simp [*]; done), by repeat (first | exact Drawn0.refl _ | apply Drawn0.step)⟩
end Go.Proofs.Ytljaoggbfoimfaa.P

namespace Go.Proofs.Ytljaoggbfoimfaa.P
open Go.RowKit Go.Proofs.YtljaoggbfoimfaaW.PrintWords Go.Proofs.YtljaoggbfoimfaaW.PrintLast Go.Proofs.YtljaoggbfoimfaaW.PrintMore
attribute [local go_sem] max2_int min2_int max_two min_two max_three min_three max_four min_four   -- for this text's walks alone
set_option linter.unusedVariables false
set_option linter.unusedSimpArgs false
def impl_SetSame.f (k : Nat) (l0 : List (S115)) (l1 : List (S115)) : Option (Bool) := (impl_same_impl_Span.f k l0 l1).bind fun t453 => (some t453)
theorem impl_SetSame.mono : ∀ a0 a1 k, LeO (impl_SetSame.f k a0 a1) (impl_SetSame.f (k + 1) a0 a1) := by
  intro a0 a1 k
  unfold impl_SetSame.f
  repeat' first
      | (with_reducible exact impl_same_impl_Span.mono _ _ _)
      | (with_reducible exact LeO.refl _)
      | (with_reducible exact LeO.none _)
      | (with_reducible refine LeO.ite ?_ ?_)
      | (with_reducible refine LeO.bind ?_ (fun _ => ?_))
      | exact impl_same_impl_Span.mono _ _ _
      | exact LeO.none _
      | refine LeO.ite ?_ ?_
      | refine LeO.bind ?_ (fun _ => ?_)
set_option maxHeartbeats 8000000 in
set_option maxRecDepth 100000 in
theorem impl_SetSame.calls (k : Nat) (A0 : Option Addr) (c0 : Nat) (l0 : List (S115)) (A1 : Option Addr) (c1 : Nat) (l1 : List (S115)) (r : Bool) (w : World) (hr0 : Kd.C k115 w A0 l0.length l0) (hc0 : l0.length ≤ c0) (hr1 : Kd.C k115 w A1 l1.length l1) (hc1 : l1.length ≤ c1) (h : impl_SetSame.f k l0 l1 = some r) :
    Calls Try.prog 78 #[.slice A0 l0.length c0, .slice A1 l1.length c1] w fun e w' => e = .returned (.bool r) ∧ Drawn0 w w' := by
  have HR0 := Aside0.mk hr0
  have HC0 := Aside0.mk hc0
  clear hr0 hc0
  have HR1 := Aside0.mk hr1
  have HC1 := Aside0.mk hc1
  clear hr1 hc1
  have H : ((impl_same_impl_Span.f k l0 l1).bind fun t453 => (some t453)) = some r := h
  clear h
  replace H := Option.bind_eq_some_iff.mp H
  obtain ⟨t453, A30, H⟩ := H
  replace H : (some t453) = some r := H
  have A3 := Aside0.mk A30
  clear A30
  obtain rfl := Option.some.inj H
  go_enter Try.func78, Try.ntmps78
  go_wp2_with (first | ((with_reducible refine gate_callee (f := 92) rfl ?_); refine goesL_ (some 7) rfl rfl Try.func92 (by kernel_rfl) rfl #[.slice A0 l0.length c0, .slice A1 l1.length c1] rfl (by (try simp only [List.map_toArray, List.map_cons, List.map_nil]); first | done | rfl | (simp only [List.length_drop, List.length_take]; rfl)) ?_; (with_reducible refine (impl_same_impl_Span.calls k _ _ l0 _ _ l1 t453 _ ?side1 ?side2 ?side3 ?side4 A3.out).mono ?_); (case side1 => repeat (first | exact HR0.out | (with_reducible refine Kd.C_alloc ?_ _) | (with_reducible refine Kd.C_drewN ?_ _) | (with_reducible refine Kd.C_drew ?_))); (case side2 => exact HC0.out); (case side3 => repeat (first | exact HR1.out | (with_reducible refine Kd.C_alloc ?_ _) | (with_reducible refine Kd.C_drewN ?_ _) | (with_reducible refine Kd.C_drew ?_))); (case side4 => exact HC1.out); rintro e w' ⟨rfl, ⟨nd, rfl⟩⟩; refine ⟨_, rfl, ?_⟩))
  go_ret
  exact ⟨by first | rfl | (simp; done) | (simp [*]; done), by repeat (first | exact Drawn0.refl _ | apply Drawn0.step)⟩
end Go.Proofs.Ytljaoggbfoimfaa.P

set_option linter.unusedVariables false
set_option linter.unusedSimpArgs false
namespace Go.Proofs.Ytljaoggbfoimfaa.P
open Go.Proofs.YtljaoggbfoimfaaW.PrintWords Go.RowKit
def toSpan (x : S131) : S115 := ⟨x.f0, x.f1⟩
theorem toSpanS_ev (xs : List S131) (hn : xs.length * 16 ≤ 140737488351232) : Ev (fun k => laws_toSpanS.f k xs) (xs.map toSpan) := by
  refine Ev.congr (f := fun k => laws_toSpanS.l0 k xs (List.replicate xs.length z115) 0) (fun k => ?_) ?_
  · show laws_toSpanS.f k xs = _
    unfold laws_toSpanS.f
    rw [if_pos (by omega), if_pos (by rw [Int.toNat_natCast]; omega), Int.toNat_natCast]
  · refine fill_ev (fun k r i => laws_toSpanS.l0 k xs r i) xs toSpan (fun k r hr => ?_) (fun i h => ⟨0, fun k r _ hr => ?_⟩) _ (by simp)
    · show laws_toSpanS.l0 (k + 1) xs r _ = _
      simp only [laws_toSpanS.l0]
      rw [if_neg (by omega)]
    · show laws_toSpanS.l0 (k + 1) xs r _ = laws_toSpanS.l0 k xs _ _
      simp only [laws_toSpanS.l0, laws_toSpan.f]
      rw [if_pos (by omega), if_pos (by omega), Option.bind_some, if_pos (by omega), wrap_nat (by omega), Int.toNat_natCast]
      unfold rd_T131
      rw [getD_at h]
      rfl
theorem laws_eqSpanS_ev (xs ys : List S115) (hn : xs.length * 16 ≤ 140737488351232) : Ev (fun k => laws_eqSpanS.f k xs ys) (yes (xs = ys)) := by
  by_cases hl : xs.length = ys.length
  · refine Ev.congr (f := fun k => laws_eqSpanS.l0 k xs ys 0) (fun k => ?_) ?_
    · show laws_eqSpanS.f k xs ys = _
      unfold laws_eqSpanS.f
      rw [if_pos (by omega)]
    · refine all2_ev (fun k i => laws_eqSpanS.l0 k xs ys i) xs ys hl (fun k => ?_) (fun i h h' => ⟨0, fun k _ => ⟨fun he => ?_, fun he => ?_⟩⟩)
      · show laws_eqSpanS.l0 (k + 1) xs ys _ = _
        simp only [laws_eqSpanS.l0]
        rw [if_neg (by omega)]
      · show laws_eqSpanS.l0 (k + 1) xs ys _ = laws_eqSpanS.l0 k xs ys _
        simp only [laws_eqSpanS.l0, laws_eqSpan.f]
        rw [if_pos (by omega), if_pos (by omega), if_pos (by omega), wrap_nat (by omega)]
        unfold rd_T115
        rw [getD_at h, getD_at h', he]
        simp
      · show laws_eqSpanS.l0 (k + 1) xs ys _ = _
        simp only [laws_eqSpanS.l0, laws_eqSpan.f]
        rw [if_pos (by omega), if_pos (by omega), if_pos (by omega)]
        unfold rd_T115
        rw [getD_at h, getD_at h']
        have hne : ¬ (xs[i].f0 = ys[i].f0 ∧ xs[i].f1 = ys[i].f1) := fun ⟨e0, e1⟩ => he (by cases hx : xs[i]; cases hy : ys[i]; simp_all)
        by_cases e0 : xs[i].f0 = ys[i].f0 <;> by_cases e1 : xs[i].f1 = ys[i].f1 <;> simp_all
  · refine (Ev.congr (f := fun _ => some false) (fun k => ?_) (Ev.now false)).eqs (yes_neg fun h => hl (by rw [h])).symm
    show laws_eqSpanS.f k xs ys = _
    unfold laws_eqSpanS.f
    rw [if_neg (by omega)]
theorem szSpanS_some (xs : List S131) (a : Int) : ∃ v, laws_szSpanS.f xs a = some v := by
  unfold laws_szSpanS.f
  split <;> exact ⟨_, rfl⟩
end Go.Proofs.Ytljaoggbfoimfaa.P

set_option linter.unusedVariables false
set_option linter.unusedSimpArgs false
namespace Go.Proofs.Ytljaoggbfoimfaa.P
open Go.Proofs.YtljaoggbfoimfaaW.PrintWords Go.RowKit
theorem rd_at {xs : List Int} {i : Nat} (h : i < xs.length) : rd xs (i : Int) = xs[i] := by unfold rd; exact getD_at h
theorem toIntS_ev (xs : List Int) (hn : xs.length * 8 ≤ 140737488351232) : Ev (fun k => laws_toIntS.f k xs) xs := by
  refine Ev.congr (f := fun k => laws_toIntS.l0 k xs (List.replicate xs.length 0) 0) (fun k => ?_) ?_
  · show laws_toIntS.f k xs = _
    unfold laws_toIntS.f
    rw [if_pos (by omega), if_pos (by rw [Int.toNat_natCast]; omega), Int.toNat_natCast]
  · refine (fill_ev (fun k r i => laws_toIntS.l0 k xs r i) xs id (fun k r hr => ?_) (fun i h => ⟨0, fun k r _ hr => ?_⟩) _ (by simp)).eqs (by simp)
    · show laws_toIntS.l0 (k + 1) xs r _ = _
      simp only [laws_toIntS.l0]
      rw [if_neg (by omega)]
    · show laws_toIntS.l0 (k + 1) xs r _ = laws_toIntS.l0 k xs _ _
      simp only [laws_toIntS.l0]
      rw [if_pos (by omega), if_pos (by omega), if_pos (by omega), wrap_nat (by omega), Int.toNat_natCast, rd_at h]
      rfl
theorem szIntS_some (xs : List Int) (a : Int) : ∃ v, laws_szIntS.f xs a = some v := by
  unfold laws_szIntS.f
  split <;> exact ⟨_, rfl⟩
theorem laws_eqIntS_ev (xs ys : List Int) (hn : xs.length * 8 ≤ 140737488351232) : Ev (fun k => laws_eqIntS.f k xs ys) (yes (xs = ys)) := by
  unfold laws_eqIntS.f
  by_cases hl : xs.length = ys.length
  · simp only [if_pos (show (xs.length : Int) = (ys.length : Int) from by omega)]
    refine all2_ev (fun k i => laws_eqIntS.l0 k xs ys i) xs ys hl (fun k => ?_) (fun i h h' => ⟨0, fun k _ => ?_⟩)
    · show laws_eqIntS.l0 (k + 1) xs ys _ = _
      simp only [laws_eqIntS.l0]; rw [if_neg (by omega)]
    · show (_ → laws_eqIntS.l0 (k + 1) xs ys _ = laws_eqIntS.l0 k xs ys _) ∧ (_ → laws_eqIntS.l0 (k + 1) xs ys _ = _)
      simp only [laws_eqIntS.l0]
      rw [if_pos (by omega), if_pos (by omega), if_pos (by omega), rd_at h, rd_at h', wrap_nat (by omega)]
      exact ⟨fun he => by rw [if_pos he], fun he => by rw [if_neg he]⟩
  · simp only [if_neg (show ¬ (xs.length : Int) = (ys.length : Int) from by omega)]
    exact (Ev.now false).eqs (yes_neg fun h => hl (by rw [h])).symm
theorem toSpanSS_ev (xs : List (List S131)) (hn : xs.length * 24 ≤ 140737488351232) (hi : ∀ x ∈ xs, x.length * 16 ≤ 140737488351232) : Ev (fun k => laws_toSpanSS.f k xs) (xs.map (fun l => l.map toSpan)) := by
  refine Ev.congr (f := fun k => laws_toSpanSS.l0 k xs (List.replicate xs.length []) 0) (fun k => ?_) ?_
  · show laws_toSpanSS.f k xs = _
    unfold laws_toSpanSS.f
    rw [if_pos (by omega), if_pos (by rw [Int.toNat_natCast]; omega), Int.toNat_natCast]
  · refine fill_ev (fun k r i => laws_toSpanSS.l0 k xs r i) xs (fun l => l.map toSpan) (fun k r hr => ?_) (fun i h => ?_) _ (by simp)
    · show laws_toSpanSS.l0 (k + 1) xs r _ = _
      simp only [laws_toSpanSS.l0]
      rw [if_neg (by omega)]
    · obtain ⟨K, hK⟩ := toSpanS_ev xs[i] (hi _ (List.getElem_mem h))
      dsimp only at hK
      refine ⟨K, fun k r hk hr => ?_⟩
      show laws_toSpanSS.l0 (k + 1) xs r _ = laws_toSpanSS.l0 k xs _ _
      simp only [laws_toSpanSS.l0]
      unfold rd_L6
      rw [if_pos (by omega), if_pos (by omega), getD_at h, hK k hk, Option.bind_some, if_pos (by omega), wrap_nat (by omega), Int.toNat_natCast]
theorem szSpanSS_ex (xs : List (List S131)) (hn : xs.length * 24 ≤ 140737488351232) (a : Int) : ∃ v, Ev (fun k => laws_szSpanSS.f k xs a) v := by
  unfold laws_szSpanSS.f
  by_cases c : wrap64 (a - (xs.length : Int)) < 0
  · simp only [if_pos c]; exact ⟨_, Ev.now _⟩
  simp only [if_neg c]
  refine walk_ex (fun k s i => laws_szSpanSS.l0 k xs s i) xs.length
    (fun s => ⟨s, Ev.ofSucc (g := fun k => laws_szSpanSS.l0 k xs s _) (fun k => by simp only [laws_szSpanSS.l0]; rw [if_neg (by omega)])⟩)
    (fun i hi s => ?_) _
  obtain ⟨y, hy⟩ := szSpanS_some xs[i] s
  by_cases cy : y < 0
  · refine .inl ⟨-1, Ev.ofSucc (g := fun k => laws_szSpanSS.l0 k xs s _) (fun k => ?_)⟩
    simp only [laws_szSpanSS.l0]
    unfold rd_L6
    rw [if_pos (by omega), if_pos (by omega), getD_at hi, hy, Option.bind_some, if_pos cy]
  · refine .inr ⟨y, 0, fun k hk => ?_⟩
    show laws_szSpanSS.l0 (k + 1) xs s _ = laws_szSpanSS.l0 k xs _ _
    simp only [laws_szSpanSS.l0]
    unfold rd_L6
    rw [if_pos (by omega), if_pos (by omega), getD_at hi, hy, Option.bind_some, if_neg cy, wrap_nat (by omega)]
theorem laws_eqSpanSS_ev (xs ys : List (List S115)) (hn : xs.length * 24 ≤ 140737488351232) (hi : ∀ x ∈ xs, x.length * 16 ≤ 140737488351232) : Ev (fun k => laws_eqSpanSS.f k xs ys) (yes (xs = ys)) := by
  unfold laws_eqSpanSS.f
  by_cases hl : xs.length = ys.length
  · simp only [if_pos (show (xs.length : Int) = (ys.length : Int) from by omega)]
    refine all2_ev (fun k i => laws_eqSpanSS.l0 k xs ys i) xs ys hl (fun k => ?_) (fun i h h' => ?_)
    · show laws_eqSpanSS.l0 (k + 1) xs ys _ = _
      simp only [laws_eqSpanSS.l0]; rw [if_neg (by omega)]
    · obtain ⟨K, hK⟩ := laws_eqSpanS_ev xs[i] ys[i] (hi _ (List.getElem_mem h))
      dsimp only at hK
      refine ⟨K, fun k hk => ?_⟩
      show (_ → laws_eqSpanSS.l0 (k + 1) xs ys _ = laws_eqSpanSS.l0 k xs ys _) ∧ (_ → laws_eqSpanSS.l0 (k + 1) xs ys _ = _)
      simp only [laws_eqSpanSS.l0]
      unfold rd_L11
      rw [if_pos (by omega), if_pos (by omega), if_pos (by omega), getD_at h, getD_at h', hK k hk, Option.bind_some, wrap_nat (by omega)]
      exact ⟨fun he => by rw [yes_pos he, if_pos rfl], fun he => by rw [yes_neg he, if_neg (by simp)]⟩
  · simp only [if_neg (show ¬ (xs.length : Int) = (ys.length : Int) from by omega)]
    exact (Ev.now false).eqs (yes_neg fun h => hl (by rw [h])).symm
theorem toIntSS_ev (xs : List (List Int)) (hn : xs.length * 24 ≤ 140737488351232) (hi : ∀ x ∈ xs, x.length * 8 ≤ 140737488351232) : Ev (fun k => laws_toIntSS.f k xs) (xs.map id) := by
  refine Ev.congr (f := fun k => laws_toIntSS.l0 k xs (List.replicate xs.length []) 0) (fun k => ?_) ?_
  · show laws_toIntSS.f k xs = _
    unfold laws_toIntSS.f
    rw [if_pos (by omega), if_pos (by rw [Int.toNat_natCast]; omega), Int.toNat_natCast]
  · refine fill_ev (fun k r i => laws_toIntSS.l0 k xs r i) xs id (fun k r hr => ?_) (fun i h => ?_) _ (by simp)
    · show laws_toIntSS.l0 (k + 1) xs r _ = _
      simp only [laws_toIntSS.l0]
      rw [if_neg (by omega)]
    · obtain ⟨K, hK⟩ := toIntS_ev xs[i] (hi _ (List.getElem_mem h))
      dsimp only at hK
      refine ⟨K, fun k r hk hr => ?_⟩
      show laws_toIntSS.l0 (k + 1) xs r _ = laws_toIntSS.l0 k xs _ _
      simp only [laws_toIntSS.l0]
      unfold rd_L14
      rw [if_pos (by omega), if_pos (by omega), getD_at h, hK k hk, Option.bind_some, if_pos (by omega), wrap_nat (by omega), Int.toNat_natCast]
      rfl
theorem szIntSS_ex (xs : List (List Int)) (hn : xs.length * 24 ≤ 140737488351232) (a : Int) : ∃ v, Ev (fun k => laws_szIntSS.f k xs a) v := by
  unfold laws_szIntSS.f
  by_cases c : wrap64 (a - (xs.length : Int)) < 0
  · simp only [if_pos c]; exact ⟨_, Ev.now _⟩
  simp only [if_neg c]
  refine walk_ex (fun k s i => laws_szIntSS.l0 k xs s i) xs.length
    (fun s => ⟨s, Ev.ofSucc (g := fun k => laws_szIntSS.l0 k xs s _) (fun k => by simp only [laws_szIntSS.l0]; rw [if_neg (by omega)])⟩)
    (fun i hi s => ?_) _
  obtain ⟨y, hy⟩ := szIntS_some xs[i] s
  by_cases cy : y < 0
  · refine .inl ⟨-1, Ev.ofSucc (g := fun k => laws_szIntSS.l0 k xs s _) (fun k => ?_)⟩
    simp only [laws_szIntSS.l0]
    unfold rd_L14
    rw [if_pos (by omega), if_pos (by omega), getD_at hi, hy, Option.bind_some, if_pos cy]
  · refine .inr ⟨y, 0, fun k hk => ?_⟩
    show laws_szIntSS.l0 (k + 1) xs s _ = laws_szIntSS.l0 k xs _ _
    simp only [laws_szIntSS.l0]
    unfold rd_L14
    rw [if_pos (by omega), if_pos (by omega), getD_at hi, hy, Option.bind_some, if_neg cy, wrap_nat (by omega)]
theorem laws_eqIntSS_ev (xs ys : List (List Int)) (hn : xs.length * 24 ≤ 140737488351232) (hi : ∀ x ∈ xs, x.length * 8 ≤ 140737488351232) : Ev (fun k => laws_eqIntSS.f k xs ys) (yes (xs = ys)) := by
  unfold laws_eqIntSS.f
  by_cases hl : xs.length = ys.length
  · simp only [if_pos (show (xs.length : Int) = (ys.length : Int) from by omega)]
    refine all2_ev (fun k i => laws_eqIntSS.l0 k xs ys i) xs ys hl (fun k => ?_) (fun i h h' => ?_)
    · show laws_eqIntSS.l0 (k + 1) xs ys _ = _
      simp only [laws_eqIntSS.l0]; rw [if_neg (by omega)]
    · obtain ⟨K, hK⟩ := laws_eqIntS_ev xs[i] ys[i] (hi _ (List.getElem_mem h))
      dsimp only at hK
      refine ⟨K, fun k hk => ?_⟩
      show (_ → laws_eqIntSS.l0 (k + 1) xs ys _ = laws_eqIntSS.l0 k xs ys _) ∧ (_ → laws_eqIntSS.l0 (k + 1) xs ys _ = _)
      simp only [laws_eqIntSS.l0]
      unfold rd_L14
      rw [if_pos (by omega), if_pos (by omega), if_pos (by omega), getD_at h, getD_at h', hK k hk, Option.bind_some, wrap_nat (by omega)]
      exact ⟨fun he => by rw [yes_pos he, if_pos rfl], fun he => by rw [yes_neg he, if_neg (by simp)]⟩
  · simp only [if_neg (show ¬ (xs.length : Int) = (ys.length : Int) from by omega)]
    exact (Ev.now false).eqs (yes_neg fun h => hl (by rw [h])).symm
structure DfaB (p : List (List S115)) (r : List (List Int)) (a : List Int) : Prop where
  p0 : p.length * 24 ≤ 140737488351232
  p1 : ∀ x ∈ p, x.length * 16 ≤ 140737488351232
  r0 : r.length * 24 ≤ 140737488351232
  r1 : ∀ x ∈ r, x.length * 8 ≤ 140737488351232
  a0 : a.length * 8 ≤ 140737488351232
structure DfaL (p : List (List S131)) (r : List (List Int)) (a : List Int) : Prop where
  p0 : p.length * 24 ≤ 140737488351232
  p1 : ∀ x ∈ p, x.length * 16 ≤ 140737488351232
  r0 : r.length * 24 ≤ 140737488351232
  r1 : ∀ x ∈ r, x.length * 8 ≤ 140737488351232
  a0 : a.length * 8 ≤ 140737488351232
def toParts (p : List (List S131)) : List (List S115) := p.map (fun l => l.map toSpan)
theorem DfaL.to {p r a} (h : DfaL p r a) : DfaB (toParts p) r a :=
  ⟨by unfold toParts; simpa using h.p0, fun x hx => by
    unfold toParts at hx
    obtain ⟨y, hy, rfl⟩ := List.mem_map.1 hx
    simpa using h.p1 y hy, h.r0, h.r1, h.a0⟩
theorem toDfa_ev {p r a} (h : DfaL p r a) : Ev (fun k => laws_toDfa.f k p r a) (toParts p, r, a) := by
  unfold laws_toDfa.f
  refine Ev.bind (toSpanSS_ev p h.p0 h.p1) (Ev.bind ((toIntSS_ev r h.r0 h.r1).eqs (show r.map id = r by simp)) (Ev.bind (toIntS_ev a h.a0) ?_))
  exact Ev.now _
theorem szDfa_ex {p r a} (h : DfaL p r a) (b : Int) : ∃ v, Ev (fun k => laws_szDfa.f k p r a b) v := by
  unfold laws_szDfa.f
  obtain ⟨v0, h0⟩ := szSpanSS_ex p h.p0 b
  by_cases c0 : v0 < 0
  · exact ⟨-1, Ev.bind h0 (by simp only [if_pos c0]; exact Ev.now _)⟩
  obtain ⟨v1, h1⟩ := szIntSS_ex r h.r0 v0
  by_cases c1 : v1 < 0
  · exact ⟨-1, Ev.bind h0 (by simp only [if_neg c0]; exact Ev.bind h1 (by simp only [if_pos c1]; exact Ev.now _))⟩
  obtain ⟨v2, h2⟩ := szIntS_some a v1
  by_cases c2 : v2 < 0
  · exact ⟨-1, Ev.bind h0 (by simp only [if_neg c0]; exact Ev.bind h1 (by simp only [if_neg c1, h2, Option.bind_some, if_pos c2]; exact Ev.now _))⟩
  · exact ⟨v2, Ev.bind h0 (by simp only [if_neg c0]; exact Ev.bind h1 (by simp only [if_neg c1, h2, Option.bind_some, if_neg c2]; exact Ev.now _))⟩
theorem laws_eqDfa_ev {p r a} (h : DfaB p r a) (p' r' a') : Ev (fun k => laws_eqDfa.f k p r a p' r' a') (yes (p = p' ∧ r = r' ∧ a = a')) := by
  unfold laws_eqDfa.f
  refine Ev.bind (laws_eqSpanSS_ev p p' h.p0 h.p1) ?_
  by_cases c0 : p = p'
  · simp only [yes_pos c0, if_true]
    refine Ev.bind (laws_eqIntSS_ev r r' h.r0 h.r1) ?_
    by_cases c1 : r = r'
    · simp only [yes_pos c1, if_true]
      refine Ev.bind (laws_eqIntS_ev a a' h.a0) ?_
      by_cases c2 : a = a'
      · simp only [yes_pos c2, if_true]; rw [yes_pos ⟨c0, c1, c2⟩]; exact Ev.now _
      · simp only [yes_neg c2, Bool.false_eq_true, if_false]; rw [yes_neg (fun h => c2 h.2.2)]; exact Ev.now _
    · simp only [yes_neg c1, Bool.false_eq_true, if_false]; rw [yes_neg (fun h => c1 h.2.1)]; exact Ev.now _
  · simp only [yes_neg c0, Bool.false_eq_true, if_false]; rw [yes_neg (fun h => c0 h.1)]; exact Ev.now _
end Go.Proofs.Ytljaoggbfoimfaa.P
