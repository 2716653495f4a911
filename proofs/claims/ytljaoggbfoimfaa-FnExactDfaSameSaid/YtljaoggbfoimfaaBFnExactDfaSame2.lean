/- FnExactDfaSame, part 3 of 3: the functions that it reaches as plain Lean functions, that the program's functions compute them, and what they come to. Conditions: stated at each theorem. -/
import Derived.KernelRfl
import Derived.Test.YtljaoggbfoimfaaWWords
import Derived.Test.YtljaoggbfoimfaaRows
import Derived.WalkKit
import Derived.ProofKit
import Derived.OpenShut
import Derived.ShutString
import Derived.ChangeOld
import Derived.Below
import Derived.SizedLaws
import Derived.Carry
import Derived.Test.YtljaoggbfoimfaaBFnExactDfaSame0
import Derived.Test.YtljaoggbfoimfaaBFnExactDfaSame1
/- The functions of the seat as plain Lean functions, and that the program's functions compute them. Conditions: stated at each theorem. -/
namespace Go.Proofs.Ytljaoggbfoimfaa.P
open Go.RowKit Go.Proofs.YtljaoggbfoimfaaW.PrintWords Go.Proofs.YtljaoggbfoimfaaW.PrintLast Go.Proofs.YtljaoggbfoimfaaW.PrintMore
attribute [local go_sem] max2_int min2_int max_two min_two max_three min_three max_four min_four   -- for this text's walks alone
set_option linter.unusedVariables false
set_option linter.unusedSimpArgs false

/-! ### laws_FnExactDfaSame: function 9 -/
def laws_FnExactDfaSame.f (k : Nat) (l0_0 : List (List (S131))) (l0_1 : List (List Int)) (l0_2 : List Int) (l1_0 : List (List (S131))) (l1_1 : List (List Int)) (l1_2 : List Int) : Option (Bool) := (laws_szDfa.f k l0_0 l0_1 l0_2 1048576).bind fun t478 => (if t478 < 0 then (some true) else ((laws_szDfa.f k l1_0 l1_1 l1_2 t478).bind fun t479 => (if t479 < 0 then (some true) else ((laws_toDfa.f k l0_0 l0_1 l0_2).bind fun bt480 => ((laws_toDfa.f k l1_0 l1_1 l1_2).bind fun bt489 => ((spec_DfaSame.f k bt480.1 bt480.2.1 bt480.2.2 bt489.1 bt489.2.1 bt489.2.2).bind fun t498 => ((laws_toDfa.f k l0_0 l0_1 l0_2).bind fun bt499 => ((laws_toDfa.f k l1_0 l1_1 l1_2).bind fun bt509 => ((impl_DfaSame.f k bt499.1 bt499.2.1 bt499.2.2 bt509.1 bt509.2.1 bt509.2.2).bind fun t519 => (if (t519 != t498) = true then (some false) else ((laws_toDfa.f k l0_0 l0_1 l0_2).bind fun bt520 => ((laws_eqDfa.f k bt499.1 bt499.2.1 bt499.2.2 bt520.1 bt520.2.1 bt520.2.2).bind fun t529 => (if t529 = true then ((laws_toDfa.f k l1_0 l1_1 l1_2).bind fun bt530 => ((laws_eqDfa.f k bt509.1 bt509.2.1 bt509.2.2 bt530.1 bt530.2.1 bt530.2.2).bind fun t539 => (if t539 = true then (some true) else (some false)))) else (some false))))))))))))))
theorem laws_FnExactDfaSame.mono : ∀ a0 a1 a2 a3 a4 a5 k, LeO (laws_FnExactDfaSame.f k a0 a1 a2 a3 a4 a5) (laws_FnExactDfaSame.f (k + 1) a0 a1 a2 a3 a4 a5) := by
  intro a0 a1 a2 a3 a4 a5 k
  unfold laws_FnExactDfaSame.f
  repeat' first
      | (with_reducible exact impl_DfaSame.mono _ _ _ _ _ _ _)
      | (with_reducible exact laws_eqDfa.mono _ _ _ _ _ _ _)
      | (with_reducible exact laws_szDfa.mono _ _ _ _ _)
      | (with_reducible exact laws_toDfa.mono _ _ _ _)
      | (with_reducible exact spec_DfaSame.mono _ _ _ _ _ _ _)
      | (with_reducible exact LeO.refl _)
      | (with_reducible exact LeO.none _)
      | (with_reducible refine LeO.ite ?_ ?_)
      | (with_reducible refine LeO.bind ?_ (fun _ => ?_))
      | exact impl_DfaSame.mono _ _ _ _ _ _ _
      | exact laws_eqDfa.mono _ _ _ _ _ _ _
      | exact laws_szDfa.mono _ _ _ _ _
      | exact laws_toDfa.mono _ _ _ _
      | exact spec_DfaSame.mono _ _ _ _ _ _ _
      | exact LeO.none _
      | refine LeO.ite ?_ ?_
      | refine LeO.bind ?_ (fun _ => ?_)
set_option maxHeartbeats 8000000 in
set_option maxRecDepth 100000 in
theorem laws_FnExactDfaSame.calls (k : Nat) (A0_0 : Option Addr) (c0_0 : Nat) (l0_0 : List (List (S131))) (A0_1 : Option Addr) (c0_1 : Nat) (l0_1 : List (List Int)) (A0_2 : Option Addr) (c0_2 : Nat) (l0_2 : List Int) (A1_0 : Option Addr) (c1_0 : Nat) (l1_0 : List (List (S131))) (A1_1 : Option Addr) (c1_1 : Nat) (l1_1 : List (List Int)) (A1_2 : Option Addr) (c1_2 : Nat) (l1_2 : List Int) (r : Bool) (w : World) (hr0_0 : Kd.C (Kd.slice 131 k131) w A0_0 l0_0.length l0_0) (hc0_0 : l0_0.length ≤ c0_0) (hr0_1 : Kd.C (Kd.slice 3 (Kd.int .i64)) w A0_1 l0_1.length l0_1) (hc0_1 : l0_1.length ≤ c0_1) (hr0_2 : Kd.C (Kd.int .i64) w A0_2 l0_2.length l0_2) (hc0_2 : l0_2.length ≤ c0_2) (hr1_0 : Kd.C (Kd.slice 131 k131) w A1_0 l1_0.length l1_0) (hc1_0 : l1_0.length ≤ c1_0) (hr1_1 : Kd.C (Kd.slice 3 (Kd.int .i64)) w A1_1 l1_1.length l1_1) (hc1_1 : l1_1.length ≤ c1_1) (hr1_2 : Kd.C (Kd.int .i64) w A1_2 l1_2.length l1_2) (hc1_2 : l1_2.length ≤ c1_2) (hT0 : r = true) (h : laws_FnExactDfaSame.f k l0_0 l0_1 l0_2 l1_0 l1_1 l1_2 = some r) :
    Calls Try.prog 9 #[.agg #[.slice A0_0 l0_0.length c0_0, .slice A0_1 l0_1.length c0_1, .slice A0_2 l0_2.length c0_2], .agg #[.slice A1_0 l1_0.length c1_0, .slice A1_1 l1_1.length c1_1, .slice A1_2 l1_2.length c1_2]] w fun e w' => e = .returned (.bool r) ∧ Below w.heap.size w w' := by
  have HT := Aside0.mk hT0
  clear hT0
  have hu50 := Try.underlying50
  have hu55 := Try.underlying55
  have HR0_0 := Aside0.mk hr0_0
  have HC0_0 := Aside0.mk hc0_0
  clear hr0_0 hc0_0
  have HR0_1 := Aside0.mk hr0_1
  have HC0_1 := Aside0.mk hc0_1
  clear hr0_1 hc0_1
  have HR0_2 := Aside0.mk hr0_2
  have HC0_2 := Aside0.mk hc0_2
  clear hr0_2 hc0_2
  have HR1_0 := Aside0.mk hr1_0
  have HC1_0 := Aside0.mk hc1_0
  clear hr1_0 hc1_0
  have HR1_1 := Aside0.mk hr1_1
  have HC1_1 := Aside0.mk hc1_1
  clear hr1_1 hc1_1
  have HR1_2 := Aside0.mk hr1_2
  have HC1_2 := Aside0.mk hc1_2
  clear hr1_2 hc1_2
  have HB := Aside0.mk (Below.refl w.heap.size w)
  have H : ((laws_szDfa.f k l0_0 l0_1 l0_2 1048576).bind fun t478 => (if t478 < 0 then (some true) else ((laws_szDfa.f k l1_0 l1_1 l1_2 t478).bind fun t479 => (if t479 < 0 then (some true) else ((laws_toDfa.f k l0_0 l0_1 l0_2).bind fun bt480 => ((laws_toDfa.f k l1_0 l1_1 l1_2).bind fun bt489 => ((spec_DfaSame.f k bt480.1 bt480.2.1 bt480.2.2 bt489.1 bt489.2.1 bt489.2.2).bind fun t498 => ((laws_toDfa.f k l0_0 l0_1 l0_2).bind fun bt499 => ((laws_toDfa.f k l1_0 l1_1 l1_2).bind fun bt509 => ((impl_DfaSame.f k bt499.1 bt499.2.1 bt499.2.2 bt509.1 bt509.2.1 bt509.2.2).bind fun t519 => (if (t519 != t498) = true then (some false) else ((laws_toDfa.f k l0_0 l0_1 l0_2).bind fun bt520 => ((laws_eqDfa.f k bt499.1 bt499.2.1 bt499.2.2 bt520.1 bt520.2.1 bt520.2.2).bind fun t529 => (if t529 = true then ((laws_toDfa.f k l1_0 l1_1 l1_2).bind fun bt530 => ((laws_eqDfa.f k bt509.1 bt509.2.1 bt509.2.2 bt530.1 bt530.2.1 bt530.2.2).bind fun t539 => (if t539 = true then (some true) else (some false)))) else (some false))))))))))))))) = some r := h
  clear h
  replace H := Option.bind_eq_some_iff.mp H
  obtain ⟨t478, A30, H⟩ := H
  replace H : (if t478 < 0 then (some true) else ((laws_szDfa.f k l1_0 l1_1 l1_2 t478).bind fun t479 => (if t479 < 0 then (some true) else ((laws_toDfa.f k l0_0 l0_1 l0_2).bind fun bt480 => ((laws_toDfa.f k l1_0 l1_1 l1_2).bind fun bt489 => ((spec_DfaSame.f k bt480.1 bt480.2.1 bt480.2.2 bt489.1 bt489.2.1 bt489.2.2).bind fun t498 => ((laws_toDfa.f k l0_0 l0_1 l0_2).bind fun bt499 => ((laws_toDfa.f k l1_0 l1_1 l1_2).bind fun bt509 => ((impl_DfaSame.f k bt499.1 bt499.2.1 bt499.2.2 bt509.1 bt509.2.1 bt509.2.2).bind fun t519 => (if (t519 != t498) = true then (some false) else ((laws_toDfa.f k l0_0 l0_1 l0_2).bind fun bt520 => ((laws_eqDfa.f k bt499.1 bt499.2.1 bt499.2.2 bt520.1 bt520.2.1 bt520.2.2).bind fun t529 => (if t529 = true then ((laws_toDfa.f k l1_0 l1_1 l1_2).bind fun bt530 => ((laws_eqDfa.f k bt509.1 bt509.2.1 bt509.2.2 bt530.1 bt530.2.1 bt530.2.2).bind fun t539 => (if t539 = true then (some true) else (some false)))) else (some false)))))))))))))) = some r := H
  have A3 := Aside0.mk A30
  clear A30
  by_cases c4 : t478 < 0
  · rw [if_pos c4] at H
    have c4b0 : decide (t478 < 0) = true := decide_eq_true c4
    clear c4
    obtain rfl := Option.some.inj H
    go_enter Try.func9, Try.ntmps9
    go_wp2_with (first | ((with_reducible refine gate_dst (N := 2) rfl ?_); refine box_event ?hg (N := 2) ?hd (cs := #[.slice A0_0 l0_0.length c0_0, .slice A0_1 l0_1.length c0_1, .slice A0_2 l0_2.length c0_2]) (t := 50) ?hr ?_; (case hd => rfl); (case hg => rfl); (case hr => first | (go_simp; done) | (go_simp; rfl)); intro gb476 hg w5 hbox hb; have n0_ := Aside0.mk (below_step (by repeat (first | (with_reducible first | exact HB.out | apply below_alloc | apply pw_below_drewN | apply below_drew1) | exact HB.out)) hb); have n1_ := Aside0.mk (hbox); have n2_ := Aside0.mk ((by rw [hg]; exact (below_size (by repeat (first | (with_reducible first | exact HB.out | apply below_alloc | apply pw_below_drewN | apply below_drew1) | exact HB.out))) : w.heap.size ≤ gb476)); have n3_ := Aside0.mk ((by rw [hg]; exact (below_size (by repeat (first | (with_reducible first | exact HB.out | apply below_alloc | apply pw_below_drewN | apply below_drew1) | exact HB.out))) : w.heap.size ≤ gb476)); clear HB; have HB := n0_; have BK476 := n1_; have GW476 := n2_; have GE476 := n3_; clear n0_ n1_ n2_ n3_; clear hb hbox hg) | ((with_reducible refine gate_dst (N := 3) rfl ?_); refine box_event ?hg (N := 3) ?hd (cs := #[.slice A1_0 l1_0.length c1_0, .slice A1_1 l1_1.length c1_1, .slice A1_2 l1_2.length c1_2]) (t := 50) ?hr ?_; (case hd => rfl); (case hg => rfl); (case hr => first | (go_simp; done) | (go_simp; rfl)); intro gb477 hg w6 hbox hb; have n0_ := Aside0.mk (blk_below (g := gb476) (o := .cells #[.slice A0_0 l0_0.length c0_0, .slice A0_1 l0_1.length c0_1, .slice A0_2 l0_2.length c0_2] 50 (0, 0)) (by (with_reducible repeat (first | refine blk_drewN ?_ _ | refine blk_drew ?_ | refine blk_alloc ?_ _)); exact BK476.out) hb); have n1_ := Aside0.mk (below_step (by repeat (first | (with_reducible first | exact HB.out | apply below_alloc | apply pw_below_drewN | apply below_drew1 | refine below_set ?_ GE476.out) | exact HB.out)) hb); have n2_ := Aside0.mk (hbox); have n3_ := Aside0.mk ((by rw [hg]; exact (below_size (by repeat (first | (with_reducible first | exact HB.out | apply below_alloc | apply pw_below_drewN | apply below_drew1 | refine below_set ?_ GE476.out) | exact HB.out))) : w.heap.size ≤ gb477)); have n4_ := Aside0.mk ((by rw [hg]; exact (below_size (by repeat (first | (with_reducible first | exact HB.out | apply below_alloc | apply pw_below_drewN | apply below_drew1 | refine below_set ?_ GE476.out) | exact HB.out))) : w.heap.size ≤ gb477)); have n5_ := Aside0.mk ((by rw [hg]; exact Nat.ne_of_lt (blk_lt (g := gb476) (o := .cells #[.slice A0_0 l0_0.length c0_0, .slice A0_1 l0_1.length c0_1, .slice A0_2 l0_2.length c0_2] 50 (0, 0)) (by (with_reducible repeat (first | refine blk_drewN ?_ _ | refine blk_drew ?_ | refine blk_alloc ?_ _)); exact BK476.out)) : gb476 ≠ gb477)); have n6_ := Aside0.mk ((by rw [hg]; exact Nat.ne_of_gt (blk_lt (g := gb476) (o := .cells #[.slice A0_0 l0_0.length c0_0, .slice A0_1 l0_1.length c0_1, .slice A0_2 l0_2.length c0_2] 50 (0, 0)) (by (with_reducible repeat (first | refine blk_drewN ?_ _ | refine blk_drew ?_ | refine blk_alloc ?_ _)); exact BK476.out)) : gb477 ≠ gb476)); clear BK476; clear HB; have BK476 := n0_; have HB := n1_; have BK477 := n2_; have GW477 := n3_; have GE477 := n4_; have NB476_477 := n5_; have NB477_476 := n6_; clear n0_ n1_ n2_ n3_ n4_ n5_ n6_; clear hb hbox hg; have hnb7 := NB476_477.out; have hnc7 := NB477_476.out; have hcz8_0 : w6.cell? ⟨gb476, 0, none⟩ = some (.slice A0_0 l0_0.length c0_0) := (blk_cell BK476.out 0).trans rfl; have hcz8_1 : w6.cell? ⟨gb476, 1, none⟩ = some (.slice A0_1 l0_1.length c0_1) := (blk_cell BK476.out 1).trans rfl; have hcz8_2 : w6.cell? ⟨gb476, 2, none⟩ = some (.slice A0_2 l0_2.length c0_2) := (blk_cell BK476.out 2).trans rfl; have hfz8_0 := blk_frozen BK476.out 0; have hfz8_1 := blk_frozen BK476.out 1; have hfz8_2 := blk_frozen BK476.out 2) | ((with_reducible refine gate_callee (f := 35) rfl ?_); refine goesL_ (some 12) rfl rfl Try.func35 (by kernel_rfl) rfl #[.agg #[.slice A0_0 l0_0.length c0_0, .slice A0_1 l0_1.length c0_1, .slice A0_2 l0_2.length c0_2], .int .i64 1048576] rfl (by (try simp only [List.map_toArray, List.map_cons, List.map_nil]); first | done | rfl | (simp only [List.length_drop, List.length_take]; rfl)) ?_; (with_reducible refine (laws_szDfa.calls k _ _ l0_0 _ _ l0_1 _ _ l0_2 1048576 t478 _ ?side1 ?side2 ?side3 ?side4 ?side5 ?side6 A3.out).mono ?_); (case side1 => repeat (first | exact (Kd.C_below HR0_0.out HB.out) | (with_reducible refine Kd.C_alloc ?_ _) | (with_reducible refine Kd.C_drewN ?_ _) | (with_reducible refine Kd.C_drew ?_))); (case side2 => exact HC0_0.out); (case side3 => repeat (first | exact (Kd.C_below HR0_1.out HB.out) | (with_reducible refine Kd.C_alloc ?_ _) | (with_reducible refine Kd.C_drewN ?_ _) | (with_reducible refine Kd.C_drew ?_))); (case side4 => exact HC0_1.out); (case side5 => repeat (first | exact (Kd.C_below HR0_2.out HB.out) | (with_reducible refine Kd.C_alloc ?_ _) | (with_reducible refine Kd.C_drewN ?_ _) | (with_reducible refine Kd.C_drew ?_))); (case side6 => exact HC0_2.out); rintro e w9 ⟨rfl, hb⟩; refine ⟨_, rfl, ?_⟩; have n0_ := Aside0.mk (blk_below (g := gb476) (o := .cells #[.slice A0_0 l0_0.length c0_0, .slice A0_1 l0_1.length c0_1, .slice A0_2 l0_2.length c0_2] 50 (0, 0)) (by (with_reducible repeat (first | refine blk_drewN ?_ _ | refine blk_drew ?_ | refine blk_alloc ?_ _)); exact BK476.out) hb); have n1_ := Aside0.mk (blk_below (g := gb477) (o := .cells #[.slice A1_0 l1_0.length c1_0, .slice A1_1 l1_1.length c1_1, .slice A1_2 l1_2.length c1_2] 50 (0, 0)) (by (with_reducible repeat (first | refine blk_drewN ?_ _ | refine blk_drew ?_ | refine blk_alloc ?_ _)); exact BK477.out) hb); have n2_ := Aside0.mk (below_step (by repeat (first | (with_reducible first | exact HB.out | apply below_alloc | apply pw_below_drewN | apply below_drew1 | refine below_set ?_ GE476.out | refine below_set ?_ GE477.out) | exact HB.out)) hb); clear BK476; clear BK477; clear HB; have BK476 := n0_; have BK477 := n1_; have HB := n2_; clear n0_ n1_ n2_; (try clear hb); (try clear hb2); (try clear hk); (try clear hi)))
    go_ret
    exact ⟨by first | rfl | (simp [errW_none, errW_some] <;> rfl) | (simp [*, errW_none, errW_some] <;> rfl), by repeat (first | (with_reducible first | exact HB.out | apply below_alloc | apply pw_below_drewN | apply below_drew1 | refine below_set ?_ GE476.out | refine below_set ?_ GE477.out) | exact HB.out)⟩
  · rw [if_neg c4] at H
    have c4b0 : decide (t478 < 0) = false := decide_eq_false c4
    clear c4
    replace H := Option.bind_eq_some_iff.mp H
    obtain ⟨t479, A100, H⟩ := H
    replace H : (if t479 < 0 then (some true) else ((laws_toDfa.f k l0_0 l0_1 l0_2).bind fun bt480 => ((laws_toDfa.f k l1_0 l1_1 l1_2).bind fun bt489 => ((spec_DfaSame.f k bt480.1 bt480.2.1 bt480.2.2 bt489.1 bt489.2.1 bt489.2.2).bind fun t498 => ((laws_toDfa.f k l0_0 l0_1 l0_2).bind fun bt499 => ((laws_toDfa.f k l1_0 l1_1 l1_2).bind fun bt509 => ((impl_DfaSame.f k bt499.1 bt499.2.1 bt499.2.2 bt509.1 bt509.2.1 bt509.2.2).bind fun t519 => (if (t519 != t498) = true then (some false) else ((laws_toDfa.f k l0_0 l0_1 l0_2).bind fun bt520 => ((laws_eqDfa.f k bt499.1 bt499.2.1 bt499.2.2 bt520.1 bt520.2.1 bt520.2.2).bind fun t529 => (if t529 = true then ((laws_toDfa.f k l1_0 l1_1 l1_2).bind fun bt530 => ((laws_eqDfa.f k bt509.1 bt509.2.1 bt509.2.2 bt530.1 bt530.2.1 bt530.2.2).bind fun t539 => (if t539 = true then (some true) else (some false)))) else (some false)))))))))))) = some r := H
    have A10 := Aside0.mk A100
    clear A100
    by_cases c11 : t479 < 0
    · rw [if_pos c11] at H
      have c11b0 : decide (t479 < 0) = true := decide_eq_true c11
      clear c11
      obtain rfl := Option.some.inj H
      go_enter Try.func9, Try.ntmps9
      go_wp2_with (first | ((with_reducible refine gate_dst (N := 2) rfl ?_); refine box_event ?hg (N := 2) ?hd (cs := #[.slice A0_0 l0_0.length c0_0, .slice A0_1 l0_1.length c0_1, .slice A0_2 l0_2.length c0_2]) (t := 50) ?hr ?_; (case hd => rfl); (case hg => rfl); (case hr => first | (go_simp; done) | (go_simp; rfl)); intro gb476 hg w12 hbox hb; have n0_ := Aside0.mk (below_step (by repeat (first | (with_reducible first | exact HB.out | apply below_alloc | apply pw_below_drewN | apply below_drew1) | exact HB.out)) hb); have n1_ := Aside0.mk (hbox); have n2_ := Aside0.mk ((by rw [hg]; exact (below_size (by repeat (first | (with_reducible first | exact HB.out | apply below_alloc | apply pw_below_drewN | apply below_drew1) | exact HB.out))) : w.heap.size ≤ gb476)); have n3_ := Aside0.mk ((by rw [hg]; exact (below_size (by repeat (first | (with_reducible first | exact HB.out | apply below_alloc | apply pw_below_drewN | apply below_drew1) | exact HB.out))) : w.heap.size ≤ gb476)); clear HB; have HB := n0_; have BK476 := n1_; have GW476 := n2_; have GE476 := n3_; clear n0_ n1_ n2_ n3_; clear hb hbox hg) | ((with_reducible refine gate_dst (N := 3) rfl ?_); refine box_event ?hg (N := 3) ?hd (cs := #[.slice A1_0 l1_0.length c1_0, .slice A1_1 l1_1.length c1_1, .slice A1_2 l1_2.length c1_2]) (t := 50) ?hr ?_; (case hd => rfl); (case hg => rfl); (case hr => first | (go_simp; done) | (go_simp; rfl)); intro gb477 hg w13 hbox hb; have n0_ := Aside0.mk (blk_below (g := gb476) (o := .cells #[.slice A0_0 l0_0.length c0_0, .slice A0_1 l0_1.length c0_1, .slice A0_2 l0_2.length c0_2] 50 (0, 0)) (by (with_reducible repeat (first | refine blk_drewN ?_ _ | refine blk_drew ?_ | refine blk_alloc ?_ _)); exact BK476.out) hb); have n1_ := Aside0.mk (below_step (by repeat (first | (with_reducible first | exact HB.out | apply below_alloc | apply pw_below_drewN | apply below_drew1 | refine below_set ?_ GE476.out) | exact HB.out)) hb); have n2_ := Aside0.mk (hbox); have n3_ := Aside0.mk ((by rw [hg]; exact (below_size (by repeat (first | (with_reducible first | exact HB.out | apply below_alloc | apply pw_below_drewN | apply below_drew1 | refine below_set ?_ GE476.out) | exact HB.out))) : w.heap.size ≤ gb477)); have n4_ := Aside0.mk ((by rw [hg]; exact (below_size (by repeat (first | (with_reducible first | exact HB.out | apply below_alloc | apply pw_below_drewN | apply below_drew1 | refine below_set ?_ GE476.out) | exact HB.out))) : w.heap.size ≤ gb477)); have n5_ := Aside0.mk ((by rw [hg]; exact Nat.ne_of_lt (blk_lt (g := gb476) (o := .cells #[.slice A0_0 l0_0.length c0_0, .slice A0_1 l0_1.length c0_1, .slice A0_2 l0_2.length c0_2] 50 (0, 0)) (by (with_reducible repeat (first | refine blk_drewN ?_ _ | refine blk_drew ?_ | refine blk_alloc ?_ _)); exact BK476.out)) : gb476 ≠ gb477)); have n6_ := Aside0.mk ((by rw [hg]; exact Nat.ne_of_gt (blk_lt (g := gb476) (o := .cells #[.slice A0_0 l0_0.length c0_0, .slice A0_1 l0_1.length c0_1, .slice A0_2 l0_2.length c0_2] 50 (0, 0)) (by (with_reducible repeat (first | refine blk_drewN ?_ _ | refine blk_drew ?_ | refine blk_alloc ?_ _)); exact BK476.out)) : gb477 ≠ gb476)); clear BK476; clear HB; have BK476 := n0_; have HB := n1_; have BK477 := n2_; have GW477 := n3_; have GE477 := n4_; have NB476_477 := n5_; have NB477_476 := n6_; clear n0_ n1_ n2_ n3_ n4_ n5_ n6_; clear hb hbox hg; have hnb14 := NB476_477.out; have hnc14 := NB477_476.out; have hcz15_0 : w13.cell? ⟨gb476, 0, none⟩ = some (.slice A0_0 l0_0.length c0_0) := (blk_cell BK476.out 0).trans rfl; have hcz15_1 : w13.cell? ⟨gb476, 1, none⟩ = some (.slice A0_1 l0_1.length c0_1) := (blk_cell BK476.out 1).trans rfl; have hcz15_2 : w13.cell? ⟨gb476, 2, none⟩ = some (.slice A0_2 l0_2.length c0_2) := (blk_cell BK476.out 2).trans rfl; have hfz15_0 := blk_frozen BK476.out 0; have hfz15_1 := blk_frozen BK476.out 1; have hfz15_2 := blk_frozen BK476.out 2) | ((with_reducible refine gate_callee (f := 35) rfl ?_); refine goesL_ (some 12) rfl rfl Try.func35 (by kernel_rfl) rfl #[.agg #[.slice A0_0 l0_0.length c0_0, .slice A0_1 l0_1.length c0_1, .slice A0_2 l0_2.length c0_2], .int .i64 1048576] rfl (by (try simp only [List.map_toArray, List.map_cons, List.map_nil]); first | done | rfl | (simp only [List.length_drop, List.length_take]; rfl)) ?_; (with_reducible refine (laws_szDfa.calls k _ _ l0_0 _ _ l0_1 _ _ l0_2 1048576 t478 _ ?side1 ?side2 ?side3 ?side4 ?side5 ?side6 A3.out).mono ?_); (case side1 => repeat (first | exact (Kd.C_below HR0_0.out HB.out) | (with_reducible refine Kd.C_alloc ?_ _) | (with_reducible refine Kd.C_drewN ?_ _) | (with_reducible refine Kd.C_drew ?_))); (case side2 => exact HC0_0.out); (case side3 => repeat (first | exact (Kd.C_below HR0_1.out HB.out) | (with_reducible refine Kd.C_alloc ?_ _) | (with_reducible refine Kd.C_drewN ?_ _) | (with_reducible refine Kd.C_drew ?_))); (case side4 => exact HC0_1.out); (case side5 => repeat (first | exact (Kd.C_below HR0_2.out HB.out) | (with_reducible refine Kd.C_alloc ?_ _) | (with_reducible refine Kd.C_drewN ?_ _) | (with_reducible refine Kd.C_drew ?_))); (case side6 => exact HC0_2.out); rintro e w16 ⟨rfl, hb⟩; refine ⟨_, rfl, ?_⟩; have n0_ := Aside0.mk (blk_below (g := gb476) (o := .cells #[.slice A0_0 l0_0.length c0_0, .slice A0_1 l0_1.length c0_1, .slice A0_2 l0_2.length c0_2] 50 (0, 0)) (by (with_reducible repeat (first | refine blk_drewN ?_ _ | refine blk_drew ?_ | refine blk_alloc ?_ _)); exact BK476.out) hb); have n1_ := Aside0.mk (blk_below (g := gb477) (o := .cells #[.slice A1_0 l1_0.length c1_0, .slice A1_1 l1_1.length c1_1, .slice A1_2 l1_2.length c1_2] 50 (0, 0)) (by (with_reducible repeat (first | refine blk_drewN ?_ _ | refine blk_drew ?_ | refine blk_alloc ?_ _)); exact BK477.out) hb); have n2_ := Aside0.mk (below_step (by repeat (first | (with_reducible first | exact HB.out | apply below_alloc | apply pw_below_drewN | apply below_drew1 | refine below_set ?_ GE476.out | refine below_set ?_ GE477.out) | exact HB.out)) hb); clear BK476; clear BK477; clear HB; have BK476 := n0_; have BK477 := n1_; have HB := n2_; clear n0_ n1_ n2_; (try clear hb); (try clear hb2); (try clear hk); (try clear hi); have hcz17_0 : w16.cell? ⟨gb477, 0, none⟩ = some (.slice A1_0 l1_0.length c1_0) := (blk_cell BK477.out 0).trans rfl; have hcz17_1 : w16.cell? ⟨gb477, 1, none⟩ = some (.slice A1_1 l1_1.length c1_1) := (blk_cell BK477.out 1).trans rfl; have hcz17_2 : w16.cell? ⟨gb477, 2, none⟩ = some (.slice A1_2 l1_2.length c1_2) := (blk_cell BK477.out 2).trans rfl; have hfz17_0 := blk_frozen BK477.out 0; have hfz17_1 := blk_frozen BK477.out 1; have hfz17_2 := blk_frozen BK477.out 2) | ((with_reducible refine gate_callee (f := 35) rfl ?_); refine goesL_ (some 17) rfl rfl Try.func35 (by kernel_rfl) rfl #[.agg #[.slice A1_0 l1_0.length c1_0, .slice A1_1 l1_1.length c1_1, .slice A1_2 l1_2.length c1_2], .int .i64 t478] rfl (by (try simp only [List.map_toArray, List.map_cons, List.map_nil]); first | done | rfl | (simp only [List.length_drop, List.length_take]; rfl)) ?_; (with_reducible refine (laws_szDfa.calls k _ _ l1_0 _ _ l1_1 _ _ l1_2 t478 t479 _ ?side1 ?side2 ?side3 ?side4 ?side5 ?side6 A10.out).mono ?_); (case side1 => repeat (first | exact (Kd.C_below HR1_0.out HB.out) | (with_reducible refine Kd.C_alloc ?_ _) | (with_reducible refine Kd.C_drewN ?_ _) | (with_reducible refine Kd.C_drew ?_))); (case side2 => exact HC1_0.out); (case side3 => repeat (first | exact (Kd.C_below HR1_1.out HB.out) | (with_reducible refine Kd.C_alloc ?_ _) | (with_reducible refine Kd.C_drewN ?_ _) | (with_reducible refine Kd.C_drew ?_))); (case side4 => exact HC1_1.out); (case side5 => repeat (first | exact (Kd.C_below HR1_2.out HB.out) | (with_reducible refine Kd.C_alloc ?_ _) | (with_reducible refine Kd.C_drewN ?_ _) | (with_reducible refine Kd.C_drew ?_))); (case side6 => exact HC1_2.out); rintro e w18 ⟨rfl, hb⟩; refine ⟨_, rfl, ?_⟩; have n0_ := Aside0.mk (blk_below (g := gb476) (o := .cells #[.slice A0_0 l0_0.length c0_0, .slice A0_1 l0_1.length c0_1, .slice A0_2 l0_2.length c0_2] 50 (0, 0)) (by (with_reducible repeat (first | refine blk_drewN ?_ _ | refine blk_drew ?_ | refine blk_alloc ?_ _)); exact BK476.out) hb); have n1_ := Aside0.mk (blk_below (g := gb477) (o := .cells #[.slice A1_0 l1_0.length c1_0, .slice A1_1 l1_1.length c1_1, .slice A1_2 l1_2.length c1_2] 50 (0, 0)) (by (with_reducible repeat (first | refine blk_drewN ?_ _ | refine blk_drew ?_ | refine blk_alloc ?_ _)); exact BK477.out) hb); have n2_ := Aside0.mk (below_step (by repeat (first | (with_reducible first | exact HB.out | apply below_alloc | apply pw_below_drewN | apply below_drew1 | refine below_set ?_ GE476.out | refine below_set ?_ GE477.out) | exact HB.out)) hb); clear BK476; clear BK477; clear HB; have BK476 := n0_; have BK477 := n1_; have HB := n2_; clear n0_ n1_ n2_; (try clear hb); (try clear hb2); (try clear hk); (try clear hi)))
      go_ret
      exact ⟨by first | rfl | (simp [errW_none, errW_some] <;> rfl) | (simp [*, errW_none, errW_some] <;> rfl), by repeat (first | (with_reducible first | exact HB.out | apply below_alloc | apply pw_below_drewN | apply below_drew1 | refine below_set ?_ GE476.out | refine below_set ?_ GE477.out) | exact HB.out)⟩
    · rw [if_neg c11] at H
      have c11b0 : decide (t479 < 0) = false := decide_eq_false c11
      clear c11
      replace H := Option.bind_eq_some_iff.mp H
      obtain ⟨⟨t480, t483, t486⟩, A190, H⟩ := H
      replace H : ((laws_toDfa.f k l1_0 l1_1 l1_2).bind fun bt489 => ((spec_DfaSame.f k t480 t483 t486 bt489.1 bt489.2.1 bt489.2.2).bind fun t498 => ((laws_toDfa.f k l0_0 l0_1 l0_2).bind fun bt499 => ((laws_toDfa.f k l1_0 l1_1 l1_2).bind fun bt509 => ((impl_DfaSame.f k bt499.1 bt499.2.1 bt499.2.2 bt509.1 bt509.2.1 bt509.2.2).bind fun t519 => (if (t519 != t498) = true then (some false) else ((laws_toDfa.f k l0_0 l0_1 l0_2).bind fun bt520 => ((laws_eqDfa.f k bt499.1 bt499.2.1 bt499.2.2 bt520.1 bt520.2.1 bt520.2.2).bind fun t529 => (if t529 = true then ((laws_toDfa.f k l1_0 l1_1 l1_2).bind fun bt530 => ((laws_eqDfa.f k bt509.1 bt509.2.1 bt509.2.2 bt530.1 bt530.2.1 bt530.2.2).bind fun t539 => (if t539 = true then (some true) else (some false)))) else (some false)))))))))) = some r := H
      have A19 := Aside0.mk A190
      clear A190
      replace H := Option.bind_eq_some_iff.mp H
      obtain ⟨⟨t489, t492, t495⟩, A200, H⟩ := H
      replace H : ((spec_DfaSame.f k t480 t483 t486 t489 t492 t495).bind fun t498 => ((laws_toDfa.f k l0_0 l0_1 l0_2).bind fun bt499 => ((laws_toDfa.f k l1_0 l1_1 l1_2).bind fun bt509 => ((impl_DfaSame.f k bt499.1 bt499.2.1 bt499.2.2 bt509.1 bt509.2.1 bt509.2.2).bind fun t519 => (if (t519 != t498) = true then (some false) else ((laws_toDfa.f k l0_0 l0_1 l0_2).bind fun bt520 => ((laws_eqDfa.f k bt499.1 bt499.2.1 bt499.2.2 bt520.1 bt520.2.1 bt520.2.2).bind fun t529 => (if t529 = true then ((laws_toDfa.f k l1_0 l1_1 l1_2).bind fun bt530 => ((laws_eqDfa.f k bt509.1 bt509.2.1 bt509.2.2 bt530.1 bt530.2.1 bt530.2.2).bind fun t539 => (if t539 = true then (some true) else (some false)))) else (some false))))))))) = some r := H
      have A20 := Aside0.mk A200
      clear A200
      replace H := Option.bind_eq_some_iff.mp H
      obtain ⟨t498, A210, H⟩ := H
      replace H : ((laws_toDfa.f k l0_0 l0_1 l0_2).bind fun bt499 => ((laws_toDfa.f k l1_0 l1_1 l1_2).bind fun bt509 => ((impl_DfaSame.f k bt499.1 bt499.2.1 bt499.2.2 bt509.1 bt509.2.1 bt509.2.2).bind fun t519 => (if (t519 != t498) = true then (some false) else ((laws_toDfa.f k l0_0 l0_1 l0_2).bind fun bt520 => ((laws_eqDfa.f k bt499.1 bt499.2.1 bt499.2.2 bt520.1 bt520.2.1 bt520.2.2).bind fun t529 => (if t529 = true then ((laws_toDfa.f k l1_0 l1_1 l1_2).bind fun bt530 => ((laws_eqDfa.f k bt509.1 bt509.2.1 bt509.2.2 bt530.1 bt530.2.1 bt530.2.2).bind fun t539 => (if t539 = true then (some true) else (some false)))) else (some false)))))))) = some r := H
      have A21 := Aside0.mk A210
      clear A210
      replace H := Option.bind_eq_some_iff.mp H
      obtain ⟨⟨t499, t502, t505⟩, A220, H⟩ := H
      replace H : ((laws_toDfa.f k l1_0 l1_1 l1_2).bind fun bt509 => ((impl_DfaSame.f k t499 t502 t505 bt509.1 bt509.2.1 bt509.2.2).bind fun t519 => (if (t519 != t498) = true then (some false) else ((laws_toDfa.f k l0_0 l0_1 l0_2).bind fun bt520 => ((laws_eqDfa.f k t499 t502 t505 bt520.1 bt520.2.1 bt520.2.2).bind fun t529 => (if t529 = true then ((laws_toDfa.f k l1_0 l1_1 l1_2).bind fun bt530 => ((laws_eqDfa.f k bt509.1 bt509.2.1 bt509.2.2 bt530.1 bt530.2.1 bt530.2.2).bind fun t539 => (if t539 = true then (some true) else (some false)))) else (some false))))))) = some r := H
      have A22 := Aside0.mk A220
      clear A220
      replace H := Option.bind_eq_some_iff.mp H
      obtain ⟨⟨t509, t512, t515⟩, A230, H⟩ := H
      replace H : ((impl_DfaSame.f k t499 t502 t505 t509 t512 t515).bind fun t519 => (if (t519 != t498) = true then (some false) else ((laws_toDfa.f k l0_0 l0_1 l0_2).bind fun bt520 => ((laws_eqDfa.f k t499 t502 t505 bt520.1 bt520.2.1 bt520.2.2).bind fun t529 => (if t529 = true then ((laws_toDfa.f k l1_0 l1_1 l1_2).bind fun bt530 => ((laws_eqDfa.f k t509 t512 t515 bt530.1 bt530.2.1 bt530.2.2).bind fun t539 => (if t539 = true then (some true) else (some false)))) else (some false)))))) = some r := H
      have A23 := Aside0.mk A230
      clear A230
      replace H := Option.bind_eq_some_iff.mp H
      obtain ⟨t519, A240, H⟩ := H
      replace H : (if (t519 != t498) = true then (some false) else ((laws_toDfa.f k l0_0 l0_1 l0_2).bind fun bt520 => ((laws_eqDfa.f k t499 t502 t505 bt520.1 bt520.2.1 bt520.2.2).bind fun t529 => (if t529 = true then ((laws_toDfa.f k l1_0 l1_1 l1_2).bind fun bt530 => ((laws_eqDfa.f k t509 t512 t515 bt530.1 bt530.2.1 bt530.2.2).bind fun t539 => (if t539 = true then (some true) else (some false)))) else (some false))))) = some r := H
      have A24 := Aside0.mk A240
      clear A240
      by_cases c25 : (t519 != t498) = true
      · rw [if_pos c25] at H
        have c25b0 : (t519 != t498) = true := c25
        (try (have c25b1 : decide (t519 = t498) = false := by simpa using c25))
        (try (have c25b2 : (t519 == t498) = false := by simpa using c25))
        (try (have c25b3 : ¬ (t519 = t498) := by simpa using c25))
        clear c25
        exact absurd ((Option.some.inj H).trans HT.out) (by decide)
      · rw [if_neg c25] at H
        have c25b0 : (t519 != t498) = false := by simpa using c25
        (try (have c25b1 : decide (t519 = t498) = true := by simpa using c25))
        (try (have c25b2 : (t519 == t498) = true := by simpa using c25))
        clear c25
        replace H := Option.bind_eq_some_iff.mp H
        obtain ⟨⟨t520, t523, t526⟩, A260, H⟩ := H
        replace H : ((laws_eqDfa.f k t499 t502 t505 t520 t523 t526).bind fun t529 => (if t529 = true then ((laws_toDfa.f k l1_0 l1_1 l1_2).bind fun bt530 => ((laws_eqDfa.f k t509 t512 t515 bt530.1 bt530.2.1 bt530.2.2).bind fun t539 => (if t539 = true then (some true) else (some false)))) else (some false))) = some r := H
        have A26 := Aside0.mk A260
        clear A260
        replace H := Option.bind_eq_some_iff.mp H
        obtain ⟨t529, A270, H⟩ := H
        replace H : (if t529 = true then ((laws_toDfa.f k l1_0 l1_1 l1_2).bind fun bt530 => ((laws_eqDfa.f k t509 t512 t515 bt530.1 bt530.2.1 bt530.2.2).bind fun t539 => (if t539 = true then (some true) else (some false)))) else (some false)) = some r := H
        have A27 := Aside0.mk A270
        clear A270
        by_cases c28 : t529 = true
        · subst c28
          have H1 : ((laws_toDfa.f k l1_0 l1_1 l1_2).bind fun bt530 => ((laws_eqDfa.f k t509 t512 t515 bt530.1 bt530.2.1 bt530.2.2).bind fun t539 => (if t539 = true then (some true) else (some false)))) = some r := by rw [if_pos rfl] at H; exact H
          clear H
          have H := H1
          clear H1
          replace H := Option.bind_eq_some_iff.mp H
          obtain ⟨⟨t530, t533, t536⟩, A290, H⟩ := H
          replace H : ((laws_eqDfa.f k t509 t512 t515 t530 t533 t536).bind fun t539 => (if t539 = true then (some true) else (some false))) = some r := H
          have A29 := Aside0.mk A290
          clear A290
          replace H := Option.bind_eq_some_iff.mp H
          obtain ⟨t539, A300, H⟩ := H
          replace H : (if t539 = true then (some true) else (some false)) = some r := H
          have A30 := Aside0.mk A300
          clear A300
          by_cases c31 : t539 = true
          · subst c31
            have H1 : (some true) = some r := by rw [if_pos rfl] at H; exact H
            clear H
            have H := H1
            clear H1
            obtain rfl := Option.some.inj H
            go_enter Try.func9, Try.ntmps9
            try go_wp2_with (first | ((with_reducible refine gate_dst (N := 2) rfl ?_); refine box_event ?hg (N := 2) ?hd (cs := #[.slice A0_0 l0_0.length c0_0, .slice A0_1 l0_1.length c0_1, .slice A0_2 l0_2.length c0_2]) (t := 50) ?hr ?_; (case hd => rfl); (case hg => rfl); (case hr => first | (go_simp; done) | (go_simp; rfl)); intro gb476 hg w32 hbox hb; have n0_ := Aside0.mk (below_step (by repeat (first | (with_reducible first | exact HB.out | apply below_alloc | apply pw_below_drewN | apply below_drew1) | exact HB.out)) hb); have n1_ := Aside0.mk (hbox); have n2_ := Aside0.mk ((by rw [hg]; exact (below_size (by repeat (first | (with_reducible first | exact HB.out | apply below_alloc | apply pw_below_drewN | apply below_drew1) | exact HB.out))) : w.heap.size ≤ gb476)); have n3_ := Aside0.mk ((by rw [hg]; exact (below_size (by repeat (first | (with_reducible first | exact HB.out | apply below_alloc | apply pw_below_drewN | apply below_drew1) | exact HB.out))) : w.heap.size ≤ gb476)); clear HB; have HB := n0_; have BK476 := n1_; have GW476 := n2_; have GE476 := n3_; clear n0_ n1_ n2_ n3_; clear hb hbox hg) | ((with_reducible refine gate_dst (N := 3) rfl ?_); refine box_event ?hg (N := 3) ?hd (cs := #[.slice A1_0 l1_0.length c1_0, .slice A1_1 l1_1.length c1_1, .slice A1_2 l1_2.length c1_2]) (t := 50) ?hr ?_; (case hd => rfl); (case hg => rfl); (case hr => first | (go_simp; done) | (go_simp; rfl)); intro gb477 hg w33 hbox hb; have n0_ := Aside0.mk (blk_below (g := gb476) (o := .cells #[.slice A0_0 l0_0.length c0_0, .slice A0_1 l0_1.length c0_1, .slice A0_2 l0_2.length c0_2] 50 (0, 0)) (by (with_reducible repeat (first | refine blk_drewN ?_ _ | refine blk_drew ?_ | refine blk_alloc ?_ _)); exact BK476.out) hb); have n1_ := Aside0.mk (below_step (by repeat (first | (with_reducible first | exact HB.out | apply below_alloc | apply pw_below_drewN | apply below_drew1 | refine below_set ?_ GE476.out) | exact HB.out)) hb); have n2_ := Aside0.mk (hbox); have n3_ := Aside0.mk ((by rw [hg]; exact (below_size (by repeat (first | (with_reducible first | exact HB.out | apply below_alloc | apply pw_below_drewN | apply below_drew1 | refine below_set ?_ GE476.out) | exact HB.out))) : w.heap.size ≤ gb477)); have n4_ := Aside0.mk ((by rw [hg]; exact (below_size (by repeat (first | (with_reducible first | exact HB.out | apply below_alloc | apply pw_below_drewN | apply below_drew1 | refine below_set ?_ GE476.out) | exact HB.out))) : w.heap.size ≤ gb477)); have n5_ := Aside0.mk ((by rw [hg]; exact Nat.ne_of_lt (blk_lt (g := gb476) (o := .cells #[.slice A0_0 l0_0.length c0_0, .slice A0_1 l0_1.length c0_1, .slice A0_2 l0_2.length c0_2] 50 (0, 0)) (by (with_reducible repeat (first | refine blk_drewN ?_ _ | refine blk_drew ?_ | refine blk_alloc ?_ _)); exact BK476.out)) : gb476 ≠ gb477)); have n6_ := Aside0.mk ((by rw [hg]; exact Nat.ne_of_gt (blk_lt (g := gb476) (o := .cells #[.slice A0_0 l0_0.length c0_0, .slice A0_1 l0_1.length c0_1, .slice A0_2 l0_2.length c0_2] 50 (0, 0)) (by (with_reducible repeat (first | refine blk_drewN ?_ _ | refine blk_drew ?_ | refine blk_alloc ?_ _)); exact BK476.out)) : gb477 ≠ gb476)); clear BK476; clear HB; have BK476 := n0_; have HB := n1_; have BK477 := n2_; have GW477 := n3_; have GE477 := n4_; have NB476_477 := n5_; have NB477_476 := n6_; clear n0_ n1_ n2_ n3_ n4_ n5_ n6_; clear hb hbox hg; have hnb34 := NB476_477.out; have hnc34 := NB477_476.out; have hcz35_0 : w33.cell? ⟨gb476, 0, none⟩ = some (.slice A0_0 l0_0.length c0_0) := (blk_cell BK476.out 0).trans rfl; have hcz35_1 : w33.cell? ⟨gb476, 1, none⟩ = some (.slice A0_1 l0_1.length c0_1) := (blk_cell BK476.out 1).trans rfl; have hcz35_2 : w33.cell? ⟨gb476, 2, none⟩ = some (.slice A0_2 l0_2.length c0_2) := (blk_cell BK476.out 2).trans rfl; have hfz35_0 := blk_frozen BK476.out 0; have hfz35_1 := blk_frozen BK476.out 1; have hfz35_2 := blk_frozen BK476.out 2) | ((with_reducible refine gate_callee (f := 35) rfl ?_); refine goesL_ (some 12) rfl rfl Try.func35 (by kernel_rfl) rfl #[.agg #[.slice A0_0 l0_0.length c0_0, .slice A0_1 l0_1.length c0_1, .slice A0_2 l0_2.length c0_2], .int .i64 1048576] rfl (by (try simp only [List.map_toArray, List.map_cons, List.map_nil]); first | done | rfl | (simp only [List.length_drop, List.length_take]; rfl)) ?_; (with_reducible refine (laws_szDfa.calls k _ _ l0_0 _ _ l0_1 _ _ l0_2 1048576 t478 _ ?side1 ?side2 ?side3 ?side4 ?side5 ?side6 A3.out).mono ?_); (case side1 => repeat (first | exact (Kd.C_below HR0_0.out HB.out) | (with_reducible refine Kd.C_alloc ?_ _) | (with_reducible refine Kd.C_drewN ?_ _) | (with_reducible refine Kd.C_drew ?_))); (case side2 => exact HC0_0.out); (case side3 => repeat (first | exact (Kd.C_below HR0_1.out HB.out) | (with_reducible refine Kd.C_alloc ?_ _) | (with_reducible refine Kd.C_drewN ?_ _) | (with_reducible refine Kd.C_drew ?_))); (case side4 => exact HC0_1.out); (case side5 => repeat (first | exact (Kd.C_below HR0_2.out HB.out) | (with_reducible refine Kd.C_alloc ?_ _) | (with_reducible refine Kd.C_drewN ?_ _) | (with_reducible refine Kd.C_drew ?_))); (case side6 => exact HC0_2.out); rintro e w36 ⟨rfl, hb⟩; refine ⟨_, rfl, ?_⟩; have n0_ := Aside0.mk (blk_below (g := gb476) (o := .cells #[.slice A0_0 l0_0.length c0_0, .slice A0_1 l0_1.length c0_1, .slice A0_2 l0_2.length c0_2] 50 (0, 0)) (by (with_reducible repeat (first | refine blk_drewN ?_ _ | refine blk_drew ?_ | refine blk_alloc ?_ _)); exact BK476.out) hb); have n1_ := Aside0.mk (blk_below (g := gb477) (o := .cells #[.slice A1_0 l1_0.length c1_0, .slice A1_1 l1_1.length c1_1, .slice A1_2 l1_2.length c1_2] 50 (0, 0)) (by (with_reducible repeat (first | refine blk_drewN ?_ _ | refine blk_drew ?_ | refine blk_alloc ?_ _)); exact BK477.out) hb); have n2_ := Aside0.mk (below_step (by repeat (first | (with_reducible first | exact HB.out | apply below_alloc | apply pw_below_drewN | apply below_drew1 | refine below_set ?_ GE476.out | refine below_set ?_ GE477.out) | exact HB.out)) hb); clear BK476; clear BK477; clear HB; have BK476 := n0_; have BK477 := n1_; have HB := n2_; clear n0_ n1_ n2_; (try clear hb); (try clear hb2); (try clear hk); (try clear hi); have hcz37_0 : w36.cell? ⟨gb477, 0, none⟩ = some (.slice A1_0 l1_0.length c1_0) := (blk_cell BK477.out 0).trans rfl; have hcz37_1 : w36.cell? ⟨gb477, 1, none⟩ = some (.slice A1_1 l1_1.length c1_1) := (blk_cell BK477.out 1).trans rfl; have hcz37_2 : w36.cell? ⟨gb477, 2, none⟩ = some (.slice A1_2 l1_2.length c1_2) := (blk_cell BK477.out 2).trans rfl; have hfz37_0 := blk_frozen BK477.out 0; have hfz37_1 := blk_frozen BK477.out 1; have hfz37_2 := blk_frozen BK477.out 2) | ((with_reducible refine gate_callee (f := 35) rfl ?_); refine goesL_ (some 17) rfl rfl Try.func35 (by kernel_rfl) rfl #[.agg #[.slice A1_0 l1_0.length c1_0, .slice A1_1 l1_1.length c1_1, .slice A1_2 l1_2.length c1_2], .int .i64 t478] rfl (by (try simp only [List.map_toArray, List.map_cons, List.map_nil]); first | done | rfl | (simp only [List.length_drop, List.length_take]; rfl)) ?_; (with_reducible refine (laws_szDfa.calls k _ _ l1_0 _ _ l1_1 _ _ l1_2 t478 t479 _ ?side1 ?side2 ?side3 ?side4 ?side5 ?side6 A10.out).mono ?_); (case side1 => repeat (first | exact (Kd.C_below HR1_0.out HB.out) | (with_reducible refine Kd.C_alloc ?_ _) | (with_reducible refine Kd.C_drewN ?_ _) | (with_reducible refine Kd.C_drew ?_))); (case side2 => exact HC1_0.out); (case side3 => repeat (first | exact (Kd.C_below HR1_1.out HB.out) | (with_reducible refine Kd.C_alloc ?_ _) | (with_reducible refine Kd.C_drewN ?_ _) | (with_reducible refine Kd.C_drew ?_))); (case side4 => exact HC1_1.out); (case side5 => repeat (first | exact (Kd.C_below HR1_2.out HB.out) | (with_reducible refine Kd.C_alloc ?_ _) | (with_reducible refine Kd.C_drewN ?_ _) | (with_reducible refine Kd.C_drew ?_))); (case side6 => exact HC1_2.out); rintro e w38 ⟨rfl, hb⟩; refine ⟨_, rfl, ?_⟩; have n0_ := Aside0.mk (blk_below (g := gb476) (o := .cells #[.slice A0_0 l0_0.length c0_0, .slice A0_1 l0_1.length c0_1, .slice A0_2 l0_2.length c0_2] 50 (0, 0)) (by (with_reducible repeat (first | refine blk_drewN ?_ _ | refine blk_drew ?_ | refine blk_alloc ?_ _)); exact BK476.out) hb); have n1_ := Aside0.mk (blk_below (g := gb477) (o := .cells #[.slice A1_0 l1_0.length c1_0, .slice A1_1 l1_1.length c1_1, .slice A1_2 l1_2.length c1_2] 50 (0, 0)) (by (with_reducible repeat (first | refine blk_drewN ?_ _ | refine blk_drew ?_ | refine blk_alloc ?_ _)); exact BK477.out) hb); have n2_ := Aside0.mk (below_step (by repeat (first | (with_reducible first | exact HB.out | apply below_alloc | apply pw_below_drewN | apply below_drew1 | refine below_set ?_ GE476.out | refine below_set ?_ GE477.out) | exact HB.out)) hb); clear BK476; clear BK477; clear HB; have BK476 := n0_; have BK477 := n1_; have HB := n2_; clear n0_ n1_ n2_; (try clear hb); (try clear hb2); (try clear hk); (try clear hi)))
            have n0_ := Aside0.mk (blk_drew BK476.out)
            have n1_ := Aside0.mk (blk_drew BK477.out)
            have n2_ := Aside0.mk (below_drew1 HB.out)
            clear BK476
            clear BK477
            clear HB
            have BK476 := n0_
            have BK477 := n1_
            have HB := n2_
            clear n0_ n1_ n2_
            refine start_ (n := 6) (S := fun w' => w'.cell? ⟨gb476, 0, none⟩ = some (.slice A0_0 l0_0.length c0_0) ∧ w'.cell? ⟨gb476, 1, none⟩ = some (.slice A0_1 l0_1.length c0_1) ∧ w'.cell? ⟨gb476, 2, none⟩ = some (.slice A0_2 l0_2.length c0_2) ∧ w'.cell? ⟨gb477, 0, none⟩ = some (.slice A1_0 l1_0.length c1_0) ∧ w'.cell? ⟨gb477, 1, none⟩ = some (.slice A1_1 l1_1.length c1_1) ∧ w'.cell? ⟨gb477, 2, none⟩ = some (.slice A1_2 l1_2.length c1_2)) (ds := []) #[false, false, false, false, false, false] (by kernel_rfl) rfl rfl ⟨(blk_cell BK476.out 0).trans rfl, (blk_cell BK476.out 1).trans rfl, (blk_cell BK476.out 2).trans rfl, (blk_cell BK477.out 0).trans rfl, (blk_cell BK477.out 1).trans rfl, (blk_cell BK477.out 2).trans rfl⟩ (fun hHeld => ?_)
            generalize w38.drew = w39 at BK476 BK477 HB hHeld ⊢
            refine take_ (i := 0) (N := some 20) (v := ?_) (a' := ?_) #[true, false, false, false, false, false] rfl rfl (by kernel_rfl) (fun _ _ _ h => h) (Or.inl ⟨by rfl, ?_⟩) hHeld ?_ ?_
            rotate_left
            · rintro w' ⟨s0, s1, s2, s3, s4, s5⟩
              go_simp
              with_reducible rfl
            rotate_left
            · simp only [Act.put, List.setIfInBounds_toArray, List.set_cons_zero, List.set_cons_succ, i64_w, i32_w]
              rfl
            refine take_ (i := 2) (N := some 22) (v := ?_) (a' := ?_) #[true, false, true, false, false, false] rfl rfl (by kernel_rfl) (fun _ _ _ h => h) (Or.inl ⟨by rfl, ?_⟩) hHeld ?_ ?_
            rotate_left
            · rintro w' ⟨s0, s1, s2, s3, s4, s5⟩
              go_simp
              with_reducible rfl
            rotate_left
            · simp only [Act.put, List.setIfInBounds_toArray, List.set_cons_zero, List.set_cons_succ, i64_w, i32_w]
              rfl
            refine one_ (i := 1) (N := some 21) #[true, true, true, false, false, false] rfl rfl (by kernel_rfl) (by decide) (fun K hK => ?_)
            refine goes_ Try.func37 (by kernel_rfl) rfl #[.agg #[.slice A0_0 l0_0.length c0_0, .slice A0_1 l0_1.length c0_1, .slice A0_2 l0_2.length c0_2]] (by rfl) rfl rfl (by (try simp only [List.map_toArray, List.map_cons, List.map_nil]); first | done | rfl | (simp only [List.length_drop, List.length_take]; rfl)) ?_
            with_reducible refine (laws_toDfa.calls k _ _ l0_0 _ _ l0_1 _ _ l0_2 t480 t483 t486 _ ?side1 ?side2 ?side3 ?side4 ?side5 ?side6 A19.out).mono ?_
            (case side1 => repeat (first | exact (Kd.C_below HR0_0.out HB.out) | (with_reducible refine Kd.C_alloc ?_ _) | (with_reducible refine Kd.C_drewN ?_ _) | (with_reducible refine Kd.C_drew ?_)))
            (case side2 => exact HC0_0.out)
            (case side3 => repeat (first | exact (Kd.C_below HR0_1.out HB.out) | (with_reducible refine Kd.C_alloc ?_ _) | (with_reducible refine Kd.C_drewN ?_ _) | (with_reducible refine Kd.C_drew ?_)))
            (case side4 => exact HC0_1.out)
            (case side5 => repeat (first | exact (Kd.C_below HR0_2.out HB.out) | (with_reducible refine Kd.C_alloc ?_ _) | (with_reducible refine Kd.C_drewN ?_ _) | (with_reducible refine Kd.C_drew ?_)))
            (case side6 => exact HC0_2.out)
            rintro e w40 ⟨v481, v484, v487, rfl, ho0, ho1, ho2, hb⟩
            refine ⟨_, rfl, ?_⟩
            have n0_ := Aside0.mk (Kd.S_lower ho0 (below_size (by repeat (first | (with_reducible first | exact HB.out | apply below_alloc | apply pw_below_drewN | apply below_drew1 | refine below_set ?_ GE476.out | refine below_set ?_ GE477.out) | exact HB.out))))
            have n1_ := Aside0.mk (Kd.S_lower ho1 (below_size (by repeat (first | (with_reducible first | exact HB.out | apply below_alloc | apply pw_below_drewN | apply below_drew1 | refine below_set ?_ GE476.out | refine below_set ?_ GE477.out) | exact HB.out))))
            have n2_ := Aside0.mk (Kd.R_lower ho2 (below_size (by repeat (first | (with_reducible first | exact HB.out | apply below_alloc | apply pw_below_drewN | apply below_drew1 | refine below_set ?_ GE476.out | refine below_set ?_ GE477.out) | exact HB.out))))
            have n3_ := Aside0.mk (blk_below (g := gb476) (o := .cells #[.slice A0_0 l0_0.length c0_0, .slice A0_1 l0_1.length c0_1, .slice A0_2 l0_2.length c0_2] 50 (0, 0)) (by (with_reducible repeat (first | refine blk_drewN ?_ _ | refine blk_drew ?_ | refine blk_alloc ?_ _)); exact BK476.out) hb)
            have n4_ := Aside0.mk (blk_below (g := gb477) (o := .cells #[.slice A1_0 l1_0.length c1_0, .slice A1_1 l1_1.length c1_1, .slice A1_2 l1_2.length c1_2] 50 (0, 0)) (by (with_reducible repeat (first | refine blk_drewN ?_ _ | refine blk_drew ?_ | refine blk_alloc ?_ _)); exact BK477.out) hb)
            have n5_ := Aside0.mk (below_step (by repeat (first | (with_reducible first | exact HB.out | apply below_alloc | apply pw_below_drewN | apply below_drew1 | refine below_set ?_ GE476.out | refine below_set ?_ GE477.out) | exact HB.out)) hb)
            clear BK476
            clear BK477
            clear HB
            have HO482 := n0_
            have HO485 := n1_
            have HO488 := n2_
            have BK476 := n3_
            have BK477 := n4_
            have HB := n5_
            clear n0_ n1_ n2_ n3_ n4_ n5_
            (try clear hb)
            (try clear hb2)
            (try clear hk)
            (try clear hi)
            (try clear ho0)
            (try clear ho1)
            (try clear ho2)
            refine hK.out _ _ ⟨(blk_cell BK476.out 0).trans rfl, (blk_cell BK476.out 1).trans rfl, (blk_cell BK476.out 2).trans rfl, (blk_cell BK477.out 0).trans rfl, (blk_cell BK477.out 1).trans rfl, (blk_cell BK477.out 2).trans rfl⟩ (fun hHeld => ?_)
            clear hK K
            refine norm_ (a' := ?_) ?_ ?_
            rotate_left
            · show Act.put _ (some 21) _ = _
              simp only [Act.put, List.setIfInBounds_toArray, List.set_cons_zero, List.set_cons_succ, i64_w, i32_w]
              rfl
            refine one_ (i := 3) (N := some 23) #[true, true, true, true, false, false] rfl rfl (by kernel_rfl) (by decide) (fun K hK => ?_)
            refine goes_ Try.func37 (by kernel_rfl) rfl #[.agg #[.slice A1_0 l1_0.length c1_0, .slice A1_1 l1_1.length c1_1, .slice A1_2 l1_2.length c1_2]] (by rfl) rfl rfl (by (try simp only [List.map_toArray, List.map_cons, List.map_nil]); first | done | rfl | (simp only [List.length_drop, List.length_take]; rfl)) ?_
            with_reducible refine (laws_toDfa.calls k _ _ l1_0 _ _ l1_1 _ _ l1_2 t489 t492 t495 _ ?side1 ?side2 ?side3 ?side4 ?side5 ?side6 A20.out).mono ?_
            (case side1 => repeat (first | exact (Kd.C_below HR1_0.out HB.out) | (with_reducible refine Kd.C_alloc ?_ _) | (with_reducible refine Kd.C_drewN ?_ _) | (with_reducible refine Kd.C_drew ?_)))
            (case side2 => exact HC1_0.out)
            (case side3 => repeat (first | exact (Kd.C_below HR1_1.out HB.out) | (with_reducible refine Kd.C_alloc ?_ _) | (with_reducible refine Kd.C_drewN ?_ _) | (with_reducible refine Kd.C_drew ?_)))
            (case side4 => exact HC1_1.out)
            (case side5 => repeat (first | exact (Kd.C_below HR1_2.out HB.out) | (with_reducible refine Kd.C_alloc ?_ _) | (with_reducible refine Kd.C_drewN ?_ _) | (with_reducible refine Kd.C_drew ?_)))
            (case side6 => exact HC1_2.out)
            rintro e w41 ⟨v490, v493, v496, rfl, ho0, ho1, ho2, hb⟩
            refine ⟨_, rfl, ?_⟩
            have n0_ := Aside0.mk (Kd.S_elder' (by (with_reducible repeat (first | apply Kd.S_alloc | apply Kd.S_drewN | apply Kd.S_drew)); exact HO482.out) (Kd.S_base ho0) hb)
            have n1_ := Aside0.mk (Kd.S_mono (Kd.S_told (Kd.S_told (Kd.S_old (by (with_reducible repeat (first | apply Kd.S_alloc | apply Kd.S_drewN | apply Kd.S_drew)); exact HO485.out) hb) (Kd.S_base ho1)) (Kd.R_base ho2)) (fun _ h_ => h_.1))
            have n2_ := Aside0.mk (Kd.R_elder' (by (with_reducible repeat (first | apply Kd.R_alloc | apply Kd.R_drewN | apply Kd.R_drew)); exact HO488.out) (Kd.R_base ho2) hb)
            have n3_ := Aside0.mk (Kd.S_lower (Kd.S_new' ho0 (Kd.S_lt (by (with_reducible repeat (first | apply Kd.S_alloc | apply Kd.S_drewN | apply Kd.S_drew)); exact HO482.out))) (below_size (by repeat (first | (with_reducible first | exact HB.out | apply below_alloc | apply pw_below_drewN | apply below_drew1 | refine below_set ?_ GE476.out | refine below_set ?_ GE477.out) | exact HB.out))))
            have n4_ := Aside0.mk (Kd.S_lower (Kd.S_new' (Kd.S_new' ho1 (Kd.S_lt (by (with_reducible repeat (first | apply Kd.S_alloc | apply Kd.S_drewN | apply Kd.S_drew)); exact HO485.out))) (Kd.R_lt (by (with_reducible repeat (first | apply Kd.R_alloc | apply Kd.R_drewN | apply Kd.R_drew)); exact HO488.out))) (below_size (by repeat (first | (with_reducible first | exact HB.out | apply below_alloc | apply pw_below_drewN | apply below_drew1 | refine below_set ?_ GE476.out | refine below_set ?_ GE477.out) | exact HB.out))))
            have n5_ := Aside0.mk (Kd.R_lower (Kd.R_new' ho2 (Kd.R_lt (by (with_reducible repeat (first | apply Kd.R_alloc | apply Kd.R_drewN | apply Kd.R_drew)); exact HO488.out))) (below_size (by repeat (first | (with_reducible first | exact HB.out | apply below_alloc | apply pw_below_drewN | apply below_drew1 | refine below_set ?_ GE476.out | refine below_set ?_ GE477.out) | exact HB.out))))
            have n6_ := Aside0.mk (blk_below (g := gb476) (o := .cells #[.slice A0_0 l0_0.length c0_0, .slice A0_1 l0_1.length c0_1, .slice A0_2 l0_2.length c0_2] 50 (0, 0)) (by (with_reducible repeat (first | refine blk_drewN ?_ _ | refine blk_drew ?_ | refine blk_alloc ?_ _)); exact BK476.out) hb)
            have n7_ := Aside0.mk (blk_below (g := gb477) (o := .cells #[.slice A1_0 l1_0.length c1_0, .slice A1_1 l1_1.length c1_1, .slice A1_2 l1_2.length c1_2] 50 (0, 0)) (by (with_reducible repeat (first | refine blk_drewN ?_ _ | refine blk_drew ?_ | refine blk_alloc ?_ _)); exact BK477.out) hb)
            have n8_ := Aside0.mk (below_step (by repeat (first | (with_reducible first | exact HB.out | apply below_alloc | apply pw_below_drewN | apply below_drew1 | refine below_set ?_ GE476.out | refine below_set ?_ GE477.out) | exact HB.out)) hb)
            clear HO482
            clear HO485
            clear HO488
            clear BK476
            clear BK477
            clear HB
            have HO482 := n0_
            have HO485 := n1_
            have HO488 := n2_
            have HO491 := n3_
            have HO494 := n4_
            have HO497 := n5_
            have BK476 := n6_
            have BK477 := n7_
            have HB := n8_
            clear n0_ n1_ n2_ n3_ n4_ n5_ n6_ n7_ n8_
            (try clear hb)
            (try clear hb2)
            (try clear hk)
            (try clear hi)
            (try clear ho0)
            (try clear ho1)
            (try clear ho2)
            obtain ⟨Ao42, co42, eo42⟩ := Kd.S_slice HO482.out
            (first | subst eo42 | (injection eo42 with f1_ f2_ f3_; have f4_ := f1_.symm; have f5_ := f3_.symm; clear f1_ f2_ f3_; subst f4_; subst f5_))
            obtain ⟨Ao43, co43, eo43⟩ := Kd.S_slice HO485.out
            (first | subst eo43 | (injection eo43 with f1_ f2_ f3_; have f4_ := f1_.symm; have f5_ := f3_.symm; clear f1_ f2_ f3_; subst f4_; subst f5_))
            obtain ⟨Ao44, co44, eo44⟩ := Kd.R_slice HO488.out
            (first | subst eo44 | (injection eo44 with f1_ f2_ f3_; have f4_ := f1_.symm; have f5_ := f3_.symm; clear f1_ f2_ f3_; subst f4_; subst f5_))
            obtain ⟨Ao45, co45, eo45⟩ := Kd.S_slice HO491.out
            (first | subst eo45 | (injection eo45 with f1_ f2_ f3_; have f4_ := f1_.symm; have f5_ := f3_.symm; clear f1_ f2_ f3_; subst f4_; subst f5_))
            obtain ⟨Ao46, co46, eo46⟩ := Kd.S_slice HO494.out
            (first | subst eo46 | (injection eo46 with f1_ f2_ f3_; have f4_ := f1_.symm; have f5_ := f3_.symm; clear f1_ f2_ f3_; subst f4_; subst f5_))
            obtain ⟨Ao47, co47, eo47⟩ := Kd.R_slice HO497.out
            (first | subst eo47 | (injection eo47 with f1_ f2_ f3_; have f4_ := f1_.symm; have f5_ := f3_.symm; clear f1_ f2_ f3_; subst f4_; subst f5_))
            refine hK.out _ _ ⟨(blk_cell BK476.out 0).trans rfl, (blk_cell BK476.out 1).trans rfl, (blk_cell BK476.out 2).trans rfl, (blk_cell BK477.out 0).trans rfl, (blk_cell BK477.out 1).trans rfl, (blk_cell BK477.out 2).trans rfl⟩ (fun hHeld => ?_)
            clear hK K
            refine norm_ (a' := ?_) ?_ ?_
            rotate_left
            · show Act.put _ (some 23) _ = _
              simp only [Act.put, List.setIfInBounds_toArray, List.set_cons_zero, List.set_cons_succ, i64_w, i32_w]
              rfl
            refine one_ (i := 4) (N := some 24) #[true, true, true, true, true, false] rfl rfl (by kernel_rfl) (by decide) (fun K hK => ?_)
            refine goes_ Try.func36 (by kernel_rfl) rfl #[.agg #[.slice Ao42 t480.length co42, .slice Ao43 t483.length co43, .slice Ao44 t486.length co44], .agg #[.slice Ao45 t489.length co45, .slice Ao46 t492.length co46, .slice Ao47 t495.length co47]] (by rfl) rfl rfl (by (try simp only [List.map_toArray, List.map_cons, List.map_nil]); first | done | rfl | (simp only [List.length_drop, List.length_take]; rfl)) ?_
            with_reducible refine (spec_DfaSame.calls k _ _ t480 _ _ t483 _ _ t486 _ _ t489 _ _ t492 _ _ t495 t498 _ ?side1 ?side2 ?side3 ?side4 ?side5 ?side6 ?side7 ?side8 ?side9 ?side10 ?side11 ?side12 A21.out).mono ?_
            (case side1 => repeat (first | exact (Kd.S_reads' HO482.out).2.2 | (with_reducible refine Kd.C_alloc ?_ _) | (with_reducible refine Kd.C_drewN ?_ _) | (with_reducible refine Kd.C_drew ?_)))
            (case side2 => exact (Kd.S_reads' HO482.out).2.1)
            (case side3 => repeat (first | exact (Kd.S_reads' HO485.out).2.2 | (with_reducible refine Kd.C_alloc ?_ _) | (with_reducible refine Kd.C_drewN ?_ _) | (with_reducible refine Kd.C_drew ?_)))
            (case side4 => exact (Kd.S_reads' HO485.out).2.1)
            (case side5 => repeat (first | exact (Kd.R_reads' HO488.out).2.2 | (with_reducible refine Kd.C_alloc ?_ _) | (with_reducible refine Kd.C_drewN ?_ _) | (with_reducible refine Kd.C_drew ?_)))
            (case side6 => exact (Kd.R_reads' HO488.out).2.1)
            (case side7 => repeat (first | exact (Kd.S_reads' HO491.out).2.2 | (with_reducible refine Kd.C_alloc ?_ _) | (with_reducible refine Kd.C_drewN ?_ _) | (with_reducible refine Kd.C_drew ?_)))
            (case side8 => exact (Kd.S_reads' HO491.out).2.1)
            (case side9 => repeat (first | exact (Kd.S_reads' HO494.out).2.2 | (with_reducible refine Kd.C_alloc ?_ _) | (with_reducible refine Kd.C_drewN ?_ _) | (with_reducible refine Kd.C_drew ?_)))
            (case side10 => exact (Kd.S_reads' HO494.out).2.1)
            (case side11 => repeat (first | exact (Kd.R_reads' HO497.out).2.2 | (with_reducible refine Kd.C_alloc ?_ _) | (with_reducible refine Kd.C_drewN ?_ _) | (with_reducible refine Kd.C_drew ?_)))
            (case side12 => exact (Kd.R_reads' HO497.out).2.1)
            rintro e w48 ⟨rfl, hb⟩
            refine ⟨_, rfl, ?_⟩
            have n0_ := Aside0.mk (Kd.S_below (by (with_reducible repeat (first | apply Kd.S_alloc | apply Kd.S_drewN | apply Kd.S_drew)); exact HO482.out) hb)
            have n1_ := Aside0.mk (Kd.S_below (by (with_reducible repeat (first | apply Kd.S_alloc | apply Kd.S_drewN | apply Kd.S_drew)); exact HO485.out) hb)
            have n2_ := Aside0.mk (Kd.R_below (by (with_reducible repeat (first | apply Kd.R_alloc | apply Kd.R_drewN | apply Kd.R_drew)); exact HO488.out) hb)
            have n3_ := Aside0.mk (Kd.S_below (by (with_reducible repeat (first | apply Kd.S_alloc | apply Kd.S_drewN | apply Kd.S_drew)); exact HO491.out) hb)
            have n4_ := Aside0.mk (Kd.S_below (by (with_reducible repeat (first | apply Kd.S_alloc | apply Kd.S_drewN | apply Kd.S_drew)); exact HO494.out) hb)
            have n5_ := Aside0.mk (Kd.R_below (by (with_reducible repeat (first | apply Kd.R_alloc | apply Kd.R_drewN | apply Kd.R_drew)); exact HO497.out) hb)
            have n6_ := Aside0.mk (blk_below (g := gb476) (o := .cells #[.slice A0_0 l0_0.length c0_0, .slice A0_1 l0_1.length c0_1, .slice A0_2 l0_2.length c0_2] 50 (0, 0)) (by (with_reducible repeat (first | refine blk_drewN ?_ _ | refine blk_drew ?_ | refine blk_alloc ?_ _)); exact BK476.out) hb)
            have n7_ := Aside0.mk (blk_below (g := gb477) (o := .cells #[.slice A1_0 l1_0.length c1_0, .slice A1_1 l1_1.length c1_1, .slice A1_2 l1_2.length c1_2] 50 (0, 0)) (by (with_reducible repeat (first | refine blk_drewN ?_ _ | refine blk_drew ?_ | refine blk_alloc ?_ _)); exact BK477.out) hb)
            have n8_ := Aside0.mk (below_step (by repeat (first | (with_reducible first | exact HB.out | apply below_alloc | apply pw_below_drewN | apply below_drew1 | refine below_set ?_ GE476.out | refine below_set ?_ GE477.out) | exact HB.out)) hb)
            clear HO482
            clear HO485
            clear HO488
            clear HO491
            clear HO494
            clear HO497
            clear BK476
            clear BK477
            clear HB
            have HO482 := n0_
            have HO485 := n1_
            have HO488 := n2_
            have HO491 := n3_
            have HO494 := n4_
            have HO497 := n5_
            have BK476 := n6_
            have BK477 := n7_
            have HB := n8_
            clear n0_ n1_ n2_ n3_ n4_ n5_ n6_ n7_ n8_
            (try clear hb)
            (try clear hb2)
            (try clear hk)
            (try clear hi)
            refine hK.out _ _ ⟨(blk_cell BK476.out 0).trans rfl, (blk_cell BK476.out 1).trans rfl, (blk_cell BK476.out 2).trans rfl, (blk_cell BK477.out 0).trans rfl, (blk_cell BK477.out 1).trans rfl, (blk_cell BK477.out 2).trans rfl⟩ (fun hHeld => ?_)
            clear hK K
            refine norm_ (a' := ?_) ?_ ?_
            rotate_left
            · show Act.put _ (some 24) _ = _
              simp only [Act.put, List.setIfInBounds_toArray, List.set_cons_zero, List.set_cons_succ, i64_w, i32_w]
              rfl
            refine pure_ (i := 5) (N := some 6) (v := ?_) (a' := ?_) #[true, true, true, true, true, true] rfl rfl (by kernel_rfl) (fun _ _ _ h => h) (Or.inl ⟨by rfl, ?_⟩) ?_ ?_
            rotate_left
            · intro w'
              go_simp
              with_reducible rfl
            rotate_left
            · simp only [Act.put, List.setIfInBounds_toArray, List.set_cons_zero, List.set_cons_succ, i64_w, i32_w]
              rfl
            refine done_ (by kernel_rfl) ?_
            have hcz49_0 : w48.cell? ⟨gb476, 0, none⟩ = some (.slice A0_0 l0_0.length c0_0) := (blk_cell BK476.out 0).trans rfl
            have hcz49_1 : w48.cell? ⟨gb476, 1, none⟩ = some (.slice A0_1 l0_1.length c0_1) := (blk_cell BK476.out 1).trans rfl
            have hcz49_2 : w48.cell? ⟨gb476, 2, none⟩ = some (.slice A0_2 l0_2.length c0_2) := (blk_cell BK476.out 2).trans rfl
            have hfz49_0 := blk_frozen BK476.out 0
            have hfz49_1 := blk_frozen BK476.out 1
            have hfz49_2 := blk_frozen BK476.out 2
            try go_wp2_with (first | ((with_reducible refine gate_callee (f := 37) rfl ?_); refine goesL_ (some 26) rfl rfl Try.func37 (by kernel_rfl) rfl #[.agg #[.slice A0_0 l0_0.length c0_0, .slice A0_1 l0_1.length c0_1, .slice A0_2 l0_2.length c0_2]] rfl (by (try simp only [List.map_toArray, List.map_cons, List.map_nil]); first | done | rfl | (simp only [List.length_drop, List.length_take]; rfl)) ?_; (with_reducible refine (laws_toDfa.calls k _ _ l0_0 _ _ l0_1 _ _ l0_2 t499 t502 t505 _ ?side1 ?side2 ?side3 ?side4 ?side5 ?side6 A22.out).mono ?_); (case side1 => repeat (first | exact (Kd.C_below HR0_0.out HB.out) | (with_reducible refine Kd.C_alloc ?_ _) | (with_reducible refine Kd.C_drewN ?_ _) | (with_reducible refine Kd.C_drew ?_))); (case side2 => exact HC0_0.out); (case side3 => repeat (first | exact (Kd.C_below HR0_1.out HB.out) | (with_reducible refine Kd.C_alloc ?_ _) | (with_reducible refine Kd.C_drewN ?_ _) | (with_reducible refine Kd.C_drew ?_))); (case side4 => exact HC0_1.out); (case side5 => repeat (first | exact (Kd.C_below HR0_2.out HB.out) | (with_reducible refine Kd.C_alloc ?_ _) | (with_reducible refine Kd.C_drewN ?_ _) | (with_reducible refine Kd.C_drew ?_))); (case side6 => exact HC0_2.out); rintro e w50 ⟨v500, v503, v506, rfl, ho0, ho1, ho2, hb⟩; refine ⟨_, rfl, ?_⟩; have n0_ := Aside0.mk (Kd.S_elder' (by (with_reducible repeat (first | apply Kd.S_alloc | apply Kd.S_drewN | apply Kd.S_drew)); exact HO482.out) (Kd.S_base ho0) hb); have n1_ := Aside0.mk (Kd.S_mono (Kd.S_told (Kd.S_told (Kd.S_old (by (with_reducible repeat (first | apply Kd.S_alloc | apply Kd.S_drewN | apply Kd.S_drew)); exact HO485.out) hb) (Kd.S_base ho1)) (Kd.R_base ho2)) (fun _ h_ => h_.1)); have n2_ := Aside0.mk (Kd.R_elder' (by (with_reducible repeat (first | apply Kd.R_alloc | apply Kd.R_drewN | apply Kd.R_drew)); exact HO488.out) (Kd.R_base ho2) hb); have n3_ := Aside0.mk (Kd.S_elder' (by (with_reducible repeat (first | apply Kd.S_alloc | apply Kd.S_drewN | apply Kd.S_drew)); exact HO491.out) (Kd.S_base ho0) hb); have n4_ := Aside0.mk (Kd.S_mono (Kd.S_told (Kd.S_told (Kd.S_old (by (with_reducible repeat (first | apply Kd.S_alloc | apply Kd.S_drewN | apply Kd.S_drew)); exact HO494.out) hb) (Kd.S_base ho1)) (Kd.R_base ho2)) (fun _ h_ => h_.1)); have n5_ := Aside0.mk (Kd.R_elder' (by (with_reducible repeat (first | apply Kd.R_alloc | apply Kd.R_drewN | apply Kd.R_drew)); exact HO497.out) (Kd.R_base ho2) hb); have n6_ := Aside0.mk (Kd.S_lower (Kd.S_new' (Kd.S_new' ho0 (Kd.S_lt (by (with_reducible repeat (first | apply Kd.S_alloc | apply Kd.S_drewN | apply Kd.S_drew)); exact HO482.out))) (Kd.S_lt (by (with_reducible repeat (first | apply Kd.S_alloc | apply Kd.S_drewN | apply Kd.S_drew)); exact HO491.out))) (below_size (by repeat (first | (with_reducible first | exact HB.out | apply below_alloc | apply pw_below_drewN | apply below_drew1 | refine below_set ?_ GE476.out | refine below_set ?_ GE477.out) | exact HB.out)))); have n7_ := Aside0.mk (Kd.S_lower (Kd.S_new' (Kd.S_new' (Kd.S_new' (Kd.S_new' ho1 (Kd.S_lt (by (with_reducible repeat (first | apply Kd.S_alloc | apply Kd.S_drewN | apply Kd.S_drew)); exact HO485.out))) (Kd.R_lt (by (with_reducible repeat (first | apply Kd.R_alloc | apply Kd.R_drewN | apply Kd.R_drew)); exact HO488.out))) (Kd.S_lt (by (with_reducible repeat (first | apply Kd.S_alloc | apply Kd.S_drewN | apply Kd.S_drew)); exact HO494.out))) (Kd.R_lt (by (with_reducible repeat (first | apply Kd.R_alloc | apply Kd.R_drewN | apply Kd.R_drew)); exact HO497.out))) (below_size (by repeat (first | (with_reducible first | exact HB.out | apply below_alloc | apply pw_below_drewN | apply below_drew1 | refine below_set ?_ GE476.out | refine below_set ?_ GE477.out) | exact HB.out)))); have n8_ := Aside0.mk (Kd.R_lower (Kd.R_new' (Kd.R_new' ho2 (Kd.R_lt (by (with_reducible repeat (first | apply Kd.R_alloc | apply Kd.R_drewN | apply Kd.R_drew)); exact HO488.out))) (Kd.R_lt (by (with_reducible repeat (first | apply Kd.R_alloc | apply Kd.R_drewN | apply Kd.R_drew)); exact HO497.out))) (below_size (by repeat (first | (with_reducible first | exact HB.out | apply below_alloc | apply pw_below_drewN | apply below_drew1 | refine below_set ?_ GE476.out | refine below_set ?_ GE477.out) | exact HB.out)))); have n9_ := Aside0.mk (blk_below (g := gb476) (o := .cells #[.slice A0_0 l0_0.length c0_0, .slice A0_1 l0_1.length c0_1, .slice A0_2 l0_2.length c0_2] 50 (0, 0)) (by (with_reducible repeat (first | refine blk_drewN ?_ _ | refine blk_drew ?_ | refine blk_alloc ?_ _)); exact BK476.out) hb); have n10_ := Aside0.mk (blk_below (g := gb477) (o := .cells #[.slice A1_0 l1_0.length c1_0, .slice A1_1 l1_1.length c1_1, .slice A1_2 l1_2.length c1_2] 50 (0, 0)) (by (with_reducible repeat (first | refine blk_drewN ?_ _ | refine blk_drew ?_ | refine blk_alloc ?_ _)); exact BK477.out) hb); have n11_ := Aside0.mk (below_step (by repeat (first | (with_reducible first | exact HB.out | apply below_alloc | apply pw_below_drewN | apply below_drew1 | refine below_set ?_ GE476.out | refine below_set ?_ GE477.out) | exact HB.out)) hb); clear HO482; clear HO485; clear HO488; clear HO491; clear HO494; clear HO497; clear BK476; clear BK477; clear HB; have HO482 := n0_; have HO485 := n1_; have HO488 := n2_; have HO491 := n3_; have HO494 := n4_; have HO497 := n5_; have HO501 := n6_; have HO504 := n7_; have HO507 := n8_; have BK476 := n9_; have BK477 := n10_; have HB := n11_; clear n0_ n1_ n2_ n3_ n4_ n5_ n6_ n7_ n8_ n9_ n10_ n11_; (try clear hb); (try clear hb2); (try clear hk); (try clear hi); (try clear ho0); (try clear ho1); (try clear ho2)) | ((with_reducible refine gate_dst (N := 7) rfl ?_); refine box_event ?hg (N := 7) ?hd (cs := #[.slice none 0 0, .slice none 0 0, .slice none 0 0]) (t := 55) ?hr ?_; (case hd => rfl); (case hg => rfl); (case hr => first | (go_simp; done) | (go_simp; rfl)); intro gb508 hg w51 hbox hb; have n0_ := Aside0.mk (Kd.S_below (by (with_reducible repeat (first | apply Kd.S_alloc | apply Kd.S_drewN | apply Kd.S_drew)); exact HO482.out) hb); have n1_ := Aside0.mk (Kd.S_below (by (with_reducible repeat (first | apply Kd.S_alloc | apply Kd.S_drewN | apply Kd.S_drew)); exact HO485.out) hb); have n2_ := Aside0.mk (Kd.R_below (by (with_reducible repeat (first | apply Kd.R_alloc | apply Kd.R_drewN | apply Kd.R_drew)); exact HO488.out) hb); have n3_ := Aside0.mk (Kd.S_below (by (with_reducible repeat (first | apply Kd.S_alloc | apply Kd.S_drewN | apply Kd.S_drew)); exact HO491.out) hb); have n4_ := Aside0.mk (Kd.S_below (by (with_reducible repeat (first | apply Kd.S_alloc | apply Kd.S_drewN | apply Kd.S_drew)); exact HO494.out) hb); have n5_ := Aside0.mk (Kd.R_below (by (with_reducible repeat (first | apply Kd.R_alloc | apply Kd.R_drewN | apply Kd.R_drew)); exact HO497.out) hb); have n6_ := Aside0.mk (Kd.S_below (by (with_reducible repeat (first | apply Kd.S_alloc | apply Kd.S_drewN | apply Kd.S_drew)); exact HO501.out) hb); have n7_ := Aside0.mk (Kd.S_below (by (with_reducible repeat (first | apply Kd.S_alloc | apply Kd.S_drewN | apply Kd.S_drew)); exact HO504.out) hb); have n8_ := Aside0.mk (Kd.R_below (by (with_reducible repeat (first | apply Kd.R_alloc | apply Kd.R_drewN | apply Kd.R_drew)); exact HO507.out) hb); have n9_ := Aside0.mk (blk_below (g := gb476) (o := .cells #[.slice A0_0 l0_0.length c0_0, .slice A0_1 l0_1.length c0_1, .slice A0_2 l0_2.length c0_2] 50 (0, 0)) (by (with_reducible repeat (first | refine blk_drewN ?_ _ | refine blk_drew ?_ | refine blk_alloc ?_ _)); exact BK476.out) hb); have n10_ := Aside0.mk (blk_below (g := gb477) (o := .cells #[.slice A1_0 l1_0.length c1_0, .slice A1_1 l1_1.length c1_1, .slice A1_2 l1_2.length c1_2] 50 (0, 0)) (by (with_reducible repeat (first | refine blk_drewN ?_ _ | refine blk_drew ?_ | refine blk_alloc ?_ _)); exact BK477.out) hb); have n11_ := Aside0.mk (below_step (by repeat (first | (with_reducible first | exact HB.out | apply below_alloc | apply pw_below_drewN | apply below_drew1 | refine below_set ?_ GE476.out | refine below_set ?_ GE477.out) | exact HB.out)) hb); have n12_ := Aside0.mk (hbox); have n13_ := Aside0.mk ((by rw [hg]; exact (below_size (by repeat (first | (with_reducible first | exact HB.out | apply below_alloc | apply pw_below_drewN | apply below_drew1 | refine below_set ?_ GE476.out | refine below_set ?_ GE477.out) | exact HB.out))) : w.heap.size ≤ gb508)); have n14_ := Aside0.mk ((by rw [hg]; exact (below_size (by repeat (first | (with_reducible first | exact HB.out | apply below_alloc | apply pw_below_drewN | apply below_drew1 | refine below_set ?_ GE476.out | refine below_set ?_ GE477.out) | exact HB.out))) : w.heap.size ≤ gb508)); have n15_ := Aside0.mk ((by rw [hg]; exact Nat.ne_of_lt (blk_lt (g := gb476) (o := .cells #[.slice A0_0 l0_0.length c0_0, .slice A0_1 l0_1.length c0_1, .slice A0_2 l0_2.length c0_2] 50 (0, 0)) (by (with_reducible repeat (first | refine blk_drewN ?_ _ | refine blk_drew ?_ | refine blk_alloc ?_ _)); exact BK476.out)) : gb476 ≠ gb508)); have n16_ := Aside0.mk ((by rw [hg]; exact Nat.ne_of_gt (blk_lt (g := gb476) (o := .cells #[.slice A0_0 l0_0.length c0_0, .slice A0_1 l0_1.length c0_1, .slice A0_2 l0_2.length c0_2] 50 (0, 0)) (by (with_reducible repeat (first | refine blk_drewN ?_ _ | refine blk_drew ?_ | refine blk_alloc ?_ _)); exact BK476.out)) : gb508 ≠ gb476)); have n17_ := Aside0.mk ((by rw [hg]; exact Nat.ne_of_lt (blk_lt (g := gb477) (o := .cells #[.slice A1_0 l1_0.length c1_0, .slice A1_1 l1_1.length c1_1, .slice A1_2 l1_2.length c1_2] 50 (0, 0)) (by (with_reducible repeat (first | refine blk_drewN ?_ _ | refine blk_drew ?_ | refine blk_alloc ?_ _)); exact BK477.out)) : gb477 ≠ gb508)); have n18_ := Aside0.mk ((by rw [hg]; exact Nat.ne_of_gt (blk_lt (g := gb477) (o := .cells #[.slice A1_0 l1_0.length c1_0, .slice A1_1 l1_1.length c1_1, .slice A1_2 l1_2.length c1_2] 50 (0, 0)) (by (with_reducible repeat (first | refine blk_drewN ?_ _ | refine blk_drew ?_ | refine blk_alloc ?_ _)); exact BK477.out)) : gb508 ≠ gb477)); clear HO482; clear HO485; clear HO488; clear HO491; clear HO494; clear HO497; clear HO501; clear HO504; clear HO507; clear BK476; clear BK477; clear HB; have HO482 := n0_; have HO485 := n1_; have HO488 := n2_; have HO491 := n3_; have HO494 := n4_; have HO497 := n5_; have HO501 := n6_; have HO504 := n7_; have HO507 := n8_; have BK476 := n9_; have BK477 := n10_; have HB := n11_; have BK508 := n12_; have GW508 := n13_; have GE508 := n14_; have NB476_508 := n15_; have NB508_476 := n16_; have NB477_508 := n17_; have NB508_477 := n18_; clear n0_ n1_ n2_ n3_ n4_ n5_ n6_ n7_ n8_ n9_ n10_ n11_ n12_ n13_ n14_ n15_ n16_ n17_ n18_; clear hb hbox hg; obtain ⟨Ao52, co52, eo52⟩ := Kd.S_slice HO501.out; subst eo52; have hnb53 := NB508_476.out; have hnc53 := NB476_508.out; have hnb54 := NB508_477.out; have hnc54 := NB477_508.out; have hcz55_0 : w51.cell? ⟨gb508, 0, none⟩ = some (.slice none 0 0) := (blk_cell BK508.out 0).trans rfl; have hcz55_1 : w51.cell? ⟨gb508, 1, none⟩ = some (.slice none 0 0) := (blk_cell BK508.out 1).trans rfl; have hcz55_2 : w51.cell? ⟨gb508, 2, none⟩ = some (.slice none 0 0) := (blk_cell BK508.out 2).trans rfl; have hfz55_0 := blk_frozen BK508.out 0; have hfz55_1 := blk_frozen BK508.out 1; have hfz55_2 := blk_frozen BK508.out 2; obtain ⟨Ao56, co56, eo56⟩ := Kd.S_slice HO504.out; subst eo56; obtain ⟨Ao57, co57, eo57⟩ := Kd.R_slice HO507.out; subst eo57; have hcz58_0 : w51.cell? ⟨gb477, 0, none⟩ = some (.slice A1_0 l1_0.length c1_0) := (blk_cell BK477.out 0).trans rfl; have hcz58_1 : w51.cell? ⟨gb477, 1, none⟩ = some (.slice A1_1 l1_1.length c1_1) := (blk_cell BK477.out 1).trans rfl; have hcz58_2 : w51.cell? ⟨gb477, 2, none⟩ = some (.slice A1_2 l1_2.length c1_2) := (blk_cell BK477.out 2).trans rfl; have hfz58_0 := blk_frozen BK477.out 0; have hfz58_1 := blk_frozen BK477.out 1; have hfz58_2 := blk_frozen BK477.out 2) | ((with_reducible refine gate_callee (f := 37) rfl ?_); refine goesL_ (some 28) rfl rfl Try.func37 (by kernel_rfl) rfl #[.agg #[.slice A1_0 l1_0.length c1_0, .slice A1_1 l1_1.length c1_1, .slice A1_2 l1_2.length c1_2]] rfl (by (try simp only [List.map_toArray, List.map_cons, List.map_nil]); first | done | rfl | (simp only [List.length_drop, List.length_take]; rfl)) ?_; (with_reducible refine (laws_toDfa.calls k _ _ l1_0 _ _ l1_1 _ _ l1_2 t509 t512 t515 _ ?side1 ?side2 ?side3 ?side4 ?side5 ?side6 A23.out).mono ?_); (case side1 => exact Kd.C_below HR1_0.out (by repeat (first | (with_reducible first | exact HB.out | apply below_alloc | apply pw_below_drewN | apply below_drew1 | refine below_set ?_ GE476.out | refine below_set ?_ GE477.out | refine below_set ?_ GE508.out) | exact HB.out))); (case side2 => exact HC1_0.out); (case side3 => exact Kd.C_below HR1_1.out (by repeat (first | (with_reducible first | exact HB.out | apply below_alloc | apply pw_below_drewN | apply below_drew1 | refine below_set ?_ GE476.out | refine below_set ?_ GE477.out | refine below_set ?_ GE508.out) | exact HB.out))); (case side4 => exact HC1_1.out); (case side5 => exact Kd.C_below HR1_2.out (by repeat (first | (with_reducible first | exact HB.out | apply below_alloc | apply pw_below_drewN | apply below_drew1 | refine below_set ?_ GE476.out | refine below_set ?_ GE477.out | refine below_set ?_ GE508.out) | exact HB.out))); (case side6 => exact HC1_2.out); rintro e w59 ⟨v510, v513, v516, rfl, ho0, ho1, ho2, hb⟩; refine ⟨_, rfl, ?_⟩; have n0_ := Aside0.mk (Kd.S_elder' (by (with_reducible repeat (first | apply Kd.S_alloc | apply Kd.S_drewN | apply Kd.S_drew)); exact (Kd.S_mono (Kd.S_far (p := ⟨gb508, 2, none⟩) (Kd.S_far (p := ⟨gb508, 1, none⟩) (Kd.S_far (p := ⟨gb508, 0, none⟩) (Kd.S_types HO482.out BK508.out (by decide)) (fun _ hk => hk.2) (.slice Ao52 t499.length co52)) (fun _ hk => hk.2) (.slice Ao56 t502.length co56)) (fun _ hk => hk.2) (.slice Ao57 t505.length co57)) (fun _ h_ => h_.1))) (Kd.S_base ho0) hb); have n1_ := Aside0.mk (Kd.S_mono (Kd.S_told (Kd.S_told (Kd.S_old (by (with_reducible repeat (first | apply Kd.S_alloc | apply Kd.S_drewN | apply Kd.S_drew)); exact (Kd.S_mono (Kd.S_far (p := ⟨gb508, 2, none⟩) (Kd.S_far (p := ⟨gb508, 1, none⟩) (Kd.S_far (p := ⟨gb508, 0, none⟩) (Kd.S_types HO485.out BK508.out (by decide)) (fun _ hk => hk.2) (.slice Ao52 t499.length co52)) (fun _ hk => hk.2) (.slice Ao56 t502.length co56)) (fun _ hk => hk.2) (.slice Ao57 t505.length co57)) (fun _ h_ => h_.1))) hb) (Kd.S_base ho1)) (Kd.R_base ho2)) (fun _ h_ => h_.1)); have n2_ := Aside0.mk (Kd.R_elder' (by (with_reducible repeat (first | apply Kd.R_alloc | apply Kd.R_drewN | apply Kd.R_drew)); exact (Kd.R_mono (Kd.R_far (p := ⟨gb508, 2, none⟩) (Kd.R_far (p := ⟨gb508, 1, none⟩) (Kd.R_far (p := ⟨gb508, 0, none⟩) (Kd.R_types HO488.out BK508.out (by decide)) (fun _ hk => hk.2) (.slice Ao52 t499.length co52)) (fun _ hk => hk.2) (.slice Ao56 t502.length co56)) (fun _ hk => hk.2) (.slice Ao57 t505.length co57)) (fun _ h_ => h_.1))) (Kd.R_base ho2) hb); have n3_ := Aside0.mk (Kd.S_elder' (by (with_reducible repeat (first | apply Kd.S_alloc | apply Kd.S_drewN | apply Kd.S_drew)); exact (Kd.S_mono (Kd.S_far (p := ⟨gb508, 2, none⟩) (Kd.S_far (p := ⟨gb508, 1, none⟩) (Kd.S_far (p := ⟨gb508, 0, none⟩) (Kd.S_types HO491.out BK508.out (by decide)) (fun _ hk => hk.2) (.slice Ao52 t499.length co52)) (fun _ hk => hk.2) (.slice Ao56 t502.length co56)) (fun _ hk => hk.2) (.slice Ao57 t505.length co57)) (fun _ h_ => h_.1))) (Kd.S_base ho0) hb); have n4_ := Aside0.mk (Kd.S_mono (Kd.S_told (Kd.S_told (Kd.S_old (by (with_reducible repeat (first | apply Kd.S_alloc | apply Kd.S_drewN | apply Kd.S_drew)); exact (Kd.S_mono (Kd.S_far (p := ⟨gb508, 2, none⟩) (Kd.S_far (p := ⟨gb508, 1, none⟩) (Kd.S_far (p := ⟨gb508, 0, none⟩) (Kd.S_types HO494.out BK508.out (by decide)) (fun _ hk => hk.2) (.slice Ao52 t499.length co52)) (fun _ hk => hk.2) (.slice Ao56 t502.length co56)) (fun _ hk => hk.2) (.slice Ao57 t505.length co57)) (fun _ h_ => h_.1))) hb) (Kd.S_base ho1)) (Kd.R_base ho2)) (fun _ h_ => h_.1)); have n5_ := Aside0.mk (Kd.R_elder' (by (with_reducible repeat (first | apply Kd.R_alloc | apply Kd.R_drewN | apply Kd.R_drew)); exact (Kd.R_mono (Kd.R_far (p := ⟨gb508, 2, none⟩) (Kd.R_far (p := ⟨gb508, 1, none⟩) (Kd.R_far (p := ⟨gb508, 0, none⟩) (Kd.R_types HO497.out BK508.out (by decide)) (fun _ hk => hk.2) (.slice Ao52 t499.length co52)) (fun _ hk => hk.2) (.slice Ao56 t502.length co56)) (fun _ hk => hk.2) (.slice Ao57 t505.length co57)) (fun _ h_ => h_.1))) (Kd.R_base ho2) hb); have n6_ := Aside0.mk (Kd.S_elder' (by (with_reducible repeat (first | apply Kd.S_alloc | apply Kd.S_drewN | apply Kd.S_drew)); exact (Kd.S_mono (Kd.S_far (p := ⟨gb508, 2, none⟩) (Kd.S_far (p := ⟨gb508, 1, none⟩) (Kd.S_far (p := ⟨gb508, 0, none⟩) (Kd.S_types HO501.out BK508.out (by decide)) (fun _ hk => hk.2) (.slice Ao52 t499.length co52)) (fun _ hk => hk.2) (.slice Ao56 t502.length co56)) (fun _ hk => hk.2) (.slice Ao57 t505.length co57)) (fun _ h_ => h_.1))) (Kd.S_base ho0) hb); have n7_ := Aside0.mk (Kd.S_mono (Kd.S_told (Kd.S_told (Kd.S_old (by (with_reducible repeat (first | apply Kd.S_alloc | apply Kd.S_drewN | apply Kd.S_drew)); exact (Kd.S_mono (Kd.S_far (p := ⟨gb508, 2, none⟩) (Kd.S_far (p := ⟨gb508, 1, none⟩) (Kd.S_far (p := ⟨gb508, 0, none⟩) (Kd.S_types HO504.out BK508.out (by decide)) (fun _ hk => hk.2) (.slice Ao52 t499.length co52)) (fun _ hk => hk.2) (.slice Ao56 t502.length co56)) (fun _ hk => hk.2) (.slice Ao57 t505.length co57)) (fun _ h_ => h_.1))) hb) (Kd.S_base ho1)) (Kd.R_base ho2)) (fun _ h_ => h_.1)); have n8_ := Aside0.mk (Kd.R_elder' (by (with_reducible repeat (first | apply Kd.R_alloc | apply Kd.R_drewN | apply Kd.R_drew)); exact (Kd.R_mono (Kd.R_far (p := ⟨gb508, 2, none⟩) (Kd.R_far (p := ⟨gb508, 1, none⟩) (Kd.R_far (p := ⟨gb508, 0, none⟩) (Kd.R_types HO507.out BK508.out (by decide)) (fun _ hk => hk.2) (.slice Ao52 t499.length co52)) (fun _ hk => hk.2) (.slice Ao56 t502.length co56)) (fun _ hk => hk.2) (.slice Ao57 t505.length co57)) (fun _ h_ => h_.1))) (Kd.R_base ho2) hb); have n9_ := Aside0.mk (Kd.S_lower (Kd.S_new' (Kd.S_new' (Kd.S_new' ho0 (Kd.S_lt (by (with_reducible repeat (first | apply Kd.S_alloc | apply Kd.S_drewN | apply Kd.S_drew)); exact (Kd.S_mono (Kd.S_far (p := ⟨gb508, 2, none⟩) (Kd.S_far (p := ⟨gb508, 1, none⟩) (Kd.S_far (p := ⟨gb508, 0, none⟩) (Kd.S_types HO482.out BK508.out (by decide)) (fun _ hk => hk.2) (.slice Ao52 t499.length co52)) (fun _ hk => hk.2) (.slice Ao56 t502.length co56)) (fun _ hk => hk.2) (.slice Ao57 t505.length co57)) (fun _ h_ => h_.1))))) (Kd.S_lt (by (with_reducible repeat (first | apply Kd.S_alloc | apply Kd.S_drewN | apply Kd.S_drew)); exact (Kd.S_mono (Kd.S_far (p := ⟨gb508, 2, none⟩) (Kd.S_far (p := ⟨gb508, 1, none⟩) (Kd.S_far (p := ⟨gb508, 0, none⟩) (Kd.S_types HO491.out BK508.out (by decide)) (fun _ hk => hk.2) (.slice Ao52 t499.length co52)) (fun _ hk => hk.2) (.slice Ao56 t502.length co56)) (fun _ hk => hk.2) (.slice Ao57 t505.length co57)) (fun _ h_ => h_.1))))) (Kd.S_lt (by (with_reducible repeat (first | apply Kd.S_alloc | apply Kd.S_drewN | apply Kd.S_drew)); exact (Kd.S_mono (Kd.S_far (p := ⟨gb508, 2, none⟩) (Kd.S_far (p := ⟨gb508, 1, none⟩) (Kd.S_far (p := ⟨gb508, 0, none⟩) (Kd.S_types HO501.out BK508.out (by decide)) (fun _ hk => hk.2) (.slice Ao52 t499.length co52)) (fun _ hk => hk.2) (.slice Ao56 t502.length co56)) (fun _ hk => hk.2) (.slice Ao57 t505.length co57)) (fun _ h_ => h_.1))))) (below_size (by repeat (first | (with_reducible first | exact HB.out | apply below_alloc | apply pw_below_drewN | apply below_drew1 | refine below_set ?_ GE476.out | refine below_set ?_ GE477.out | refine below_set ?_ GE508.out) | exact HB.out)))); have n10_ := Aside0.mk (Kd.S_lower (Kd.S_new' (Kd.S_new' (Kd.S_new' (Kd.S_new' (Kd.S_new' (Kd.S_new' ho1 (Kd.S_lt (by (with_reducible repeat (first | apply Kd.S_alloc | apply Kd.S_drewN | apply Kd.S_drew)); exact (Kd.S_mono (Kd.S_far (p := ⟨gb508, 2, none⟩) (Kd.S_far (p := ⟨gb508, 1, none⟩) (Kd.S_far (p := ⟨gb508, 0, none⟩) (Kd.S_types HO485.out BK508.out (by decide)) (fun _ hk => hk.2) (.slice Ao52 t499.length co52)) (fun _ hk => hk.2) (.slice Ao56 t502.length co56)) (fun _ hk => hk.2) (.slice Ao57 t505.length co57)) (fun _ h_ => h_.1))))) (Kd.R_lt (by (with_reducible repeat (first | apply Kd.R_alloc | apply Kd.R_drewN | apply Kd.R_drew)); exact (Kd.R_mono (Kd.R_far (p := ⟨gb508, 2, none⟩) (Kd.R_far (p := ⟨gb508, 1, none⟩) (Kd.R_far (p := ⟨gb508, 0, none⟩) (Kd.R_types HO488.out BK508.out (by decide)) (fun _ hk => hk.2) (.slice Ao52 t499.length co52)) (fun _ hk => hk.2) (.slice Ao56 t502.length co56)) (fun _ hk => hk.2) (.slice Ao57 t505.length co57)) (fun _ h_ => h_.1))))) (Kd.S_lt (by (with_reducible repeat (first | apply Kd.S_alloc | apply Kd.S_drewN | apply Kd.S_drew)); exact (Kd.S_mono (Kd.S_far (p := ⟨gb508, 2, none⟩) (Kd.S_far (p := ⟨gb508, 1, none⟩) (Kd.S_far (p := ⟨gb508, 0, none⟩) (Kd.S_types HO494.out BK508.out (by decide)) (fun _ hk => hk.2) (.slice Ao52 t499.length co52)) (fun _ hk => hk.2) (.slice Ao56 t502.length co56)) (fun _ hk => hk.2) (.slice Ao57 t505.length co57)) (fun _ h_ => h_.1))))) (Kd.R_lt (by (with_reducible repeat (first | apply Kd.R_alloc | apply Kd.R_drewN | apply Kd.R_drew)); exact (Kd.R_mono (Kd.R_far (p := ⟨gb508, 2, none⟩) (Kd.R_far (p := ⟨gb508, 1, none⟩) (Kd.R_far (p := ⟨gb508, 0, none⟩) (Kd.R_types HO497.out BK508.out (by decide)) (fun _ hk => hk.2) (.slice Ao52 t499.length co52)) (fun _ hk => hk.2) (.slice Ao56 t502.length co56)) (fun _ hk => hk.2) (.slice Ao57 t505.length co57)) (fun _ h_ => h_.1))))) (Kd.S_lt (by (with_reducible repeat (first | apply Kd.S_alloc | apply Kd.S_drewN | apply Kd.S_drew)); exact (Kd.S_mono (Kd.S_far (p := ⟨gb508, 2, none⟩) (Kd.S_far (p := ⟨gb508, 1, none⟩) (Kd.S_far (p := ⟨gb508, 0, none⟩) (Kd.S_types HO504.out BK508.out (by decide)) (fun _ hk => hk.2) (.slice Ao52 t499.length co52)) (fun _ hk => hk.2) (.slice Ao56 t502.length co56)) (fun _ hk => hk.2) (.slice Ao57 t505.length co57)) (fun _ h_ => h_.1))))) (Kd.R_lt (by (with_reducible repeat (first | apply Kd.R_alloc | apply Kd.R_drewN | apply Kd.R_drew)); exact (Kd.R_mono (Kd.R_far (p := ⟨gb508, 2, none⟩) (Kd.R_far (p := ⟨gb508, 1, none⟩) (Kd.R_far (p := ⟨gb508, 0, none⟩) (Kd.R_types HO507.out BK508.out (by decide)) (fun _ hk => hk.2) (.slice Ao52 t499.length co52)) (fun _ hk => hk.2) (.slice Ao56 t502.length co56)) (fun _ hk => hk.2) (.slice Ao57 t505.length co57)) (fun _ h_ => h_.1))))) (below_size (by repeat (first | (with_reducible first | exact HB.out | apply below_alloc | apply pw_below_drewN | apply below_drew1 | refine below_set ?_ GE476.out | refine below_set ?_ GE477.out | refine below_set ?_ GE508.out) | exact HB.out)))); have n11_ := Aside0.mk (Kd.R_lower (Kd.R_new' (Kd.R_new' (Kd.R_new' ho2 (Kd.R_lt (by (with_reducible repeat (first | apply Kd.R_alloc | apply Kd.R_drewN | apply Kd.R_drew)); exact (Kd.R_mono (Kd.R_far (p := ⟨gb508, 2, none⟩) (Kd.R_far (p := ⟨gb508, 1, none⟩) (Kd.R_far (p := ⟨gb508, 0, none⟩) (Kd.R_types HO488.out BK508.out (by decide)) (fun _ hk => hk.2) (.slice Ao52 t499.length co52)) (fun _ hk => hk.2) (.slice Ao56 t502.length co56)) (fun _ hk => hk.2) (.slice Ao57 t505.length co57)) (fun _ h_ => h_.1))))) (Kd.R_lt (by (with_reducible repeat (first | apply Kd.R_alloc | apply Kd.R_drewN | apply Kd.R_drew)); exact (Kd.R_mono (Kd.R_far (p := ⟨gb508, 2, none⟩) (Kd.R_far (p := ⟨gb508, 1, none⟩) (Kd.R_far (p := ⟨gb508, 0, none⟩) (Kd.R_types HO497.out BK508.out (by decide)) (fun _ hk => hk.2) (.slice Ao52 t499.length co52)) (fun _ hk => hk.2) (.slice Ao56 t502.length co56)) (fun _ hk => hk.2) (.slice Ao57 t505.length co57)) (fun _ h_ => h_.1))))) (Kd.R_lt (by (with_reducible repeat (first | apply Kd.R_alloc | apply Kd.R_drewN | apply Kd.R_drew)); exact (Kd.R_mono (Kd.R_far (p := ⟨gb508, 2, none⟩) (Kd.R_far (p := ⟨gb508, 1, none⟩) (Kd.R_far (p := ⟨gb508, 0, none⟩) (Kd.R_types HO507.out BK508.out (by decide)) (fun _ hk => hk.2) (.slice Ao52 t499.length co52)) (fun _ hk => hk.2) (.slice Ao56 t502.length co56)) (fun _ hk => hk.2) (.slice Ao57 t505.length co57)) (fun _ h_ => h_.1))))) (below_size (by repeat (first | (with_reducible first | exact HB.out | apply below_alloc | apply pw_below_drewN | apply below_drew1 | refine below_set ?_ GE476.out | refine below_set ?_ GE477.out | refine below_set ?_ GE508.out) | exact HB.out)))); have n12_ := Aside0.mk (blk_below (g := gb476) (o := .cells #[.slice A0_0 l0_0.length c0_0, .slice A0_1 l0_1.length c0_1, .slice A0_2 l0_2.length c0_2] 50 (0, 0)) (by (with_reducible repeat (first | refine blk_drewN ?_ _ | refine blk_drew ?_ | refine blk_alloc ?_ _)); refine blk_far ?_ NB476_508.out _; (with_reducible repeat (first | refine blk_drewN ?_ _ | refine blk_drew ?_ | refine blk_alloc ?_ _)); refine blk_far ?_ NB476_508.out _; (with_reducible repeat (first | refine blk_drewN ?_ _ | refine blk_drew ?_ | refine blk_alloc ?_ _)); refine blk_far ?_ NB476_508.out _; (with_reducible repeat (first | refine blk_drewN ?_ _ | refine blk_drew ?_ | refine blk_alloc ?_ _)); exact BK476.out) hb); have n13_ := Aside0.mk (blk_below (g := gb477) (o := .cells #[.slice A1_0 l1_0.length c1_0, .slice A1_1 l1_1.length c1_1, .slice A1_2 l1_2.length c1_2] 50 (0, 0)) (by (with_reducible repeat (first | refine blk_drewN ?_ _ | refine blk_drew ?_ | refine blk_alloc ?_ _)); refine blk_far ?_ NB477_508.out _; (with_reducible repeat (first | refine blk_drewN ?_ _ | refine blk_drew ?_ | refine blk_alloc ?_ _)); refine blk_far ?_ NB477_508.out _; (with_reducible repeat (first | refine blk_drewN ?_ _ | refine blk_drew ?_ | refine blk_alloc ?_ _)); refine blk_far ?_ NB477_508.out _; (with_reducible repeat (first | refine blk_drewN ?_ _ | refine blk_drew ?_ | refine blk_alloc ?_ _)); exact BK477.out) hb); have n14_ := Aside0.mk (blk_below (g := gb508) (o := .cells #[.slice Ao52 t499.length co52, .slice Ao56 t502.length co56, .slice Ao57 t505.length co57] 55 (0, 0)) (by (with_reducible repeat (first | refine blk_drewN ?_ _ | refine blk_drew ?_ | refine blk_alloc ?_ _)); refine blk_put (cs := #[.slice Ao52 t499.length co52, .slice Ao56 t502.length co56, .slice none 0 0]) ?_ 2 _ rfl; (with_reducible repeat (first | refine blk_drewN ?_ _ | refine blk_drew ?_ | refine blk_alloc ?_ _)); refine blk_put (cs := #[.slice Ao52 t499.length co52, .slice none 0 0, .slice none 0 0]) ?_ 1 _ rfl; (with_reducible repeat (first | refine blk_drewN ?_ _ | refine blk_drew ?_ | refine blk_alloc ?_ _)); refine blk_put (cs := #[.slice none 0 0, .slice none 0 0, .slice none 0 0]) ?_ 0 _ rfl; (with_reducible repeat (first | refine blk_drewN ?_ _ | refine blk_drew ?_ | refine blk_alloc ?_ _)); exact BK508.out) hb); have n15_ := Aside0.mk (below_step (by repeat (first | (with_reducible first | exact HB.out | apply below_alloc | apply pw_below_drewN | apply below_drew1 | refine below_set ?_ GE476.out | refine below_set ?_ GE477.out | refine below_set ?_ GE508.out) | exact HB.out)) hb); clear HO482; clear HO485; clear HO488; clear HO491; clear HO494; clear HO497; clear HO501; clear HO504; clear HO507; clear BK476; clear BK477; clear BK508; clear HB; have HO482 := n0_; have HO485 := n1_; have HO488 := n2_; have HO491 := n3_; have HO494 := n4_; have HO497 := n5_; have HO501 := n6_; have HO504 := n7_; have HO507 := n8_; have HO511 := n9_; have HO514 := n10_; have HO517 := n11_; have BK476 := n12_; have BK477 := n13_; have BK508 := n14_; have HB := n15_; clear n0_ n1_ n2_ n3_ n4_ n5_ n6_ n7_ n8_ n9_ n10_ n11_ n12_ n13_ n14_ n15_; (try clear hb); (try clear hb2); (try clear hk); (try clear hi); (try clear ho0); (try clear ho1); (try clear ho2)) | ((with_reducible refine gate_dst (N := 8) rfl ?_); refine box_event ?hg (N := 8) ?hd (cs := #[.slice none 0 0, .slice none 0 0, .slice none 0 0]) (t := 55) ?hr ?_; (case hd => rfl); (case hg => rfl); (case hr => first | (go_simp; done) | (go_simp; rfl)); intro gb518 hg w60 hbox hb; have n0_ := Aside0.mk (Kd.S_below (by (with_reducible repeat (first | apply Kd.S_alloc | apply Kd.S_drewN | apply Kd.S_drew)); exact HO482.out) hb); have n1_ := Aside0.mk (Kd.S_below (by (with_reducible repeat (first | apply Kd.S_alloc | apply Kd.S_drewN | apply Kd.S_drew)); exact HO485.out) hb); have n2_ := Aside0.mk (Kd.R_below (by (with_reducible repeat (first | apply Kd.R_alloc | apply Kd.R_drewN | apply Kd.R_drew)); exact HO488.out) hb); have n3_ := Aside0.mk (Kd.S_below (by (with_reducible repeat (first | apply Kd.S_alloc | apply Kd.S_drewN | apply Kd.S_drew)); exact HO491.out) hb); have n4_ := Aside0.mk (Kd.S_below (by (with_reducible repeat (first | apply Kd.S_alloc | apply Kd.S_drewN | apply Kd.S_drew)); exact HO494.out) hb); have n5_ := Aside0.mk (Kd.R_below (by (with_reducible repeat (first | apply Kd.R_alloc | apply Kd.R_drewN | apply Kd.R_drew)); exact HO497.out) hb); have n6_ := Aside0.mk (Kd.S_below (by (with_reducible repeat (first | apply Kd.S_alloc | apply Kd.S_drewN | apply Kd.S_drew)); exact HO501.out) hb); have n7_ := Aside0.mk (Kd.S_below (by (with_reducible repeat (first | apply Kd.S_alloc | apply Kd.S_drewN | apply Kd.S_drew)); exact HO504.out) hb); have n8_ := Aside0.mk (Kd.R_below (by (with_reducible repeat (first | apply Kd.R_alloc | apply Kd.R_drewN | apply Kd.R_drew)); exact HO507.out) hb); have n9_ := Aside0.mk (Kd.S_below (by (with_reducible repeat (first | apply Kd.S_alloc | apply Kd.S_drewN | apply Kd.S_drew)); exact HO511.out) hb); have n10_ := Aside0.mk (Kd.S_below (by (with_reducible repeat (first | apply Kd.S_alloc | apply Kd.S_drewN | apply Kd.S_drew)); exact HO514.out) hb); have n11_ := Aside0.mk (Kd.R_below (by (with_reducible repeat (first | apply Kd.R_alloc | apply Kd.R_drewN | apply Kd.R_drew)); exact HO517.out) hb); have n12_ := Aside0.mk (blk_below (g := gb476) (o := .cells #[.slice A0_0 l0_0.length c0_0, .slice A0_1 l0_1.length c0_1, .slice A0_2 l0_2.length c0_2] 50 (0, 0)) (by (with_reducible repeat (first | refine blk_drewN ?_ _ | refine blk_drew ?_ | refine blk_alloc ?_ _)); exact BK476.out) hb); have n13_ := Aside0.mk (blk_below (g := gb477) (o := .cells #[.slice A1_0 l1_0.length c1_0, .slice A1_1 l1_1.length c1_1, .slice A1_2 l1_2.length c1_2] 50 (0, 0)) (by (with_reducible repeat (first | refine blk_drewN ?_ _ | refine blk_drew ?_ | refine blk_alloc ?_ _)); exact BK477.out) hb); have n14_ := Aside0.mk (blk_below (g := gb508) (o := .cells #[.slice Ao52 t499.length co52, .slice Ao56 t502.length co56, .slice Ao57 t505.length co57] 55 (0, 0)) (by (with_reducible repeat (first | refine blk_drewN ?_ _ | refine blk_drew ?_ | refine blk_alloc ?_ _)); exact BK508.out) hb); have n15_ := Aside0.mk (below_step (by repeat (first | (with_reducible first | exact HB.out | apply below_alloc | apply pw_below_drewN | apply below_drew1 | refine below_set ?_ GE476.out | refine below_set ?_ GE477.out | refine below_set ?_ GE508.out) | exact HB.out)) hb); have n16_ := Aside0.mk (hbox); have n17_ := Aside0.mk ((by rw [hg]; exact (below_size (by repeat (first | (with_reducible first | exact HB.out | apply below_alloc | apply pw_below_drewN | apply below_drew1 | refine below_set ?_ GE476.out | refine below_set ?_ GE477.out | refine below_set ?_ GE508.out) | exact HB.out))) : w.heap.size ≤ gb518)); have n18_ := Aside0.mk ((by rw [hg]; exact (below_size (by repeat (first | (with_reducible first | exact HB.out | apply below_alloc | apply pw_below_drewN | apply below_drew1 | refine below_set ?_ GE476.out | refine below_set ?_ GE477.out | refine below_set ?_ GE508.out) | exact HB.out))) : w.heap.size ≤ gb518)); have n19_ := Aside0.mk ((by rw [hg]; exact Nat.ne_of_lt (blk_lt (g := gb476) (o := .cells #[.slice A0_0 l0_0.length c0_0, .slice A0_1 l0_1.length c0_1, .slice A0_2 l0_2.length c0_2] 50 (0, 0)) (by (with_reducible repeat (first | refine blk_drewN ?_ _ | refine blk_drew ?_ | refine blk_alloc ?_ _)); exact BK476.out)) : gb476 ≠ gb518)); have n20_ := Aside0.mk ((by rw [hg]; exact Nat.ne_of_gt (blk_lt (g := gb476) (o := .cells #[.slice A0_0 l0_0.length c0_0, .slice A0_1 l0_1.length c0_1, .slice A0_2 l0_2.length c0_2] 50 (0, 0)) (by (with_reducible repeat (first | refine blk_drewN ?_ _ | refine blk_drew ?_ | refine blk_alloc ?_ _)); exact BK476.out)) : gb518 ≠ gb476)); have n21_ := Aside0.mk ((by rw [hg]; exact Nat.ne_of_lt (blk_lt (g := gb477) (o := .cells #[.slice A1_0 l1_0.length c1_0, .slice A1_1 l1_1.length c1_1, .slice A1_2 l1_2.length c1_2] 50 (0, 0)) (by (with_reducible repeat (first | refine blk_drewN ?_ _ | refine blk_drew ?_ | refine blk_alloc ?_ _)); exact BK477.out)) : gb477 ≠ gb518)); have n22_ := Aside0.mk ((by rw [hg]; exact Nat.ne_of_gt (blk_lt (g := gb477) (o := .cells #[.slice A1_0 l1_0.length c1_0, .slice A1_1 l1_1.length c1_1, .slice A1_2 l1_2.length c1_2] 50 (0, 0)) (by (with_reducible repeat (first | refine blk_drewN ?_ _ | refine blk_drew ?_ | refine blk_alloc ?_ _)); exact BK477.out)) : gb518 ≠ gb477)); have n23_ := Aside0.mk ((by rw [hg]; exact Nat.ne_of_lt (blk_lt (g := gb508) (o := .cells #[.slice Ao52 t499.length co52, .slice Ao56 t502.length co56, .slice Ao57 t505.length co57] 55 (0, 0)) (by (with_reducible repeat (first | refine blk_drewN ?_ _ | refine blk_drew ?_ | refine blk_alloc ?_ _)); exact BK508.out)) : gb508 ≠ gb518)); have n24_ := Aside0.mk ((by rw [hg]; exact Nat.ne_of_gt (blk_lt (g := gb508) (o := .cells #[.slice Ao52 t499.length co52, .slice Ao56 t502.length co56, .slice Ao57 t505.length co57] 55 (0, 0)) (by (with_reducible repeat (first | refine blk_drewN ?_ _ | refine blk_drew ?_ | refine blk_alloc ?_ _)); exact BK508.out)) : gb518 ≠ gb508)); clear HO482; clear HO485; clear HO488; clear HO491; clear HO494; clear HO497; clear HO501; clear HO504; clear HO507; clear HO511; clear HO514; clear HO517; clear BK476; clear BK477; clear BK508; clear HB; have HO482 := n0_; have HO485 := n1_; have HO488 := n2_; have HO491 := n3_; have HO494 := n4_; have HO497 := n5_; have HO501 := n6_; have HO504 := n7_; have HO507 := n8_; have HO511 := n9_; have HO514 := n10_; have HO517 := n11_; have BK476 := n12_; have BK477 := n13_; have BK508 := n14_; have HB := n15_; have BK518 := n16_; have GW518 := n17_; have GE518 := n18_; have NB476_518 := n19_; have NB518_476 := n20_; have NB477_518 := n21_; have NB518_477 := n22_; have NB508_518 := n23_; have NB518_508 := n24_; clear n0_ n1_ n2_ n3_ n4_ n5_ n6_ n7_ n8_ n9_ n10_ n11_ n12_ n13_ n14_ n15_ n16_ n17_ n18_ n19_ n20_ n21_ n22_ n23_ n24_; clear hb hbox hg; obtain ⟨Ao61, co61, eo61⟩ := Kd.S_slice HO511.out; subst eo61; have hnb62 := NB518_476.out; have hnc62 := NB476_518.out; have hnb63 := NB518_477.out; have hnc63 := NB477_518.out; have hnb64 := NB518_508.out; have hnc64 := NB508_518.out; have hcz65_0 : w60.cell? ⟨gb518, 0, none⟩ = some (.slice none 0 0) := (blk_cell BK518.out 0).trans rfl; have hcz65_1 : w60.cell? ⟨gb518, 1, none⟩ = some (.slice none 0 0) := (blk_cell BK518.out 1).trans rfl; have hcz65_2 : w60.cell? ⟨gb518, 2, none⟩ = some (.slice none 0 0) := (blk_cell BK518.out 2).trans rfl; have hfz65_0 := blk_frozen BK518.out 0; have hfz65_1 := blk_frozen BK518.out 1; have hfz65_2 := blk_frozen BK518.out 2; obtain ⟨Ao66, co66, eo66⟩ := Kd.S_slice HO514.out; subst eo66; obtain ⟨Ao67, co67, eo67⟩ := Kd.R_slice HO517.out; subst eo67; have hcz68_0 : w60.cell? ⟨gb508, 0, none⟩ = some (.slice Ao52 t499.length co52) := (blk_cell BK508.out 0).trans rfl; have hcz68_1 : w60.cell? ⟨gb508, 1, none⟩ = some (.slice Ao56 t502.length co56) := (blk_cell BK508.out 1).trans rfl; have hcz68_2 : w60.cell? ⟨gb508, 2, none⟩ = some (.slice Ao57 t505.length co57) := (blk_cell BK508.out 2).trans rfl; have hfz68_0 := blk_frozen BK508.out 0; have hfz68_1 := blk_frozen BK508.out 1; have hfz68_2 := blk_frozen BK508.out 2) | ((with_reducible refine gate_callee (f := 38) rfl ?_); refine goesL_ (some 31) rfl rfl Try.func38 (by kernel_rfl) rfl #[.agg #[.slice Ao52 t499.length co52, .slice Ao56 t502.length co56, .slice Ao57 t505.length co57], .agg #[.slice Ao61 t509.length co61, .slice Ao66 t512.length co66, .slice Ao67 t515.length co67]] rfl (by (try simp only [List.map_toArray, List.map_cons, List.map_nil]); first | done | rfl | (simp only [List.length_drop, List.length_take]; rfl)) ?_; (with_reducible refine (impl_DfaSame.calls k _ _ t499 _ _ t502 _ _ t505 _ _ t509 _ _ t512 _ _ t515 t519 _ ?side1 ?side2 ?side3 ?side4 ?side5 ?side6 ?side7 ?side8 ?side9 ?side10 ?side11 ?side12 A24.out).mono ?_); (case side1 => refine (Kd.S_reads' (e := 89) (base := w.heap.size) (ok := fun k_ => (((True ∧ some k_ ≠ (.slice Ao42 t480.length co42 : Value).ownBlock) ∧ some k_ ≠ (.slice Ao45 t489.length co45 : Value).ownBlock) ∧ some k_ ≠ (.slice Ao61 t509.length co61 : Value).ownBlock)) (n := t499.length) (c := co52) ?_).2.2; exact (by (with_reducible repeat (first | apply Kd.S_alloc | apply Kd.S_drewN | apply Kd.S_drew)); exact (Kd.S_mono (Kd.S_far (p := ⟨gb518, 2, none⟩) (Kd.S_far (p := ⟨gb518, 1, none⟩) (Kd.S_far (p := ⟨gb518, 0, none⟩) (Kd.S_types HO501.out BK518.out (by decide)) (fun _ hk => hk.2) (.slice Ao61 t509.length co61)) (fun _ hk => hk.2) (.slice Ao66 t512.length co66)) (fun _ hk => hk.2) (.slice Ao67 t515.length co67)) (fun _ h_ => h_.1)))); (case side2 => exact (Kd.S_reads' HO501.out).2.1); (case side3 => refine (Kd.S_reads' (e := 48) (base := w.heap.size) (ok := fun k_ => ((((((some k_ ≠ (.slice Ao57 t505.length co57 : Value).ownBlock ∧ some k_ ≠ (.slice Ao43 t483.length co43 : Value).ownBlock) ∧ some k_ ≠ (.slice Ao44 t486.length co44 : Value).ownBlock) ∧ some k_ ≠ (.slice Ao46 t492.length co46 : Value).ownBlock) ∧ some k_ ≠ (.slice Ao47 t495.length co47 : Value).ownBlock) ∧ some k_ ≠ (.slice Ao66 t512.length co66 : Value).ownBlock) ∧ some k_ ≠ (.slice Ao67 t515.length co67 : Value).ownBlock)) (n := t502.length) (c := co56) ?_).2.2; exact (by (with_reducible repeat (first | apply Kd.S_alloc | apply Kd.S_drewN | apply Kd.S_drew)); exact (Kd.S_mono (Kd.S_far (p := ⟨gb518, 2, none⟩) (Kd.S_far (p := ⟨gb518, 1, none⟩) (Kd.S_far (p := ⟨gb518, 0, none⟩) (Kd.S_types HO504.out BK518.out (by decide)) (fun _ hk => hk.2) (.slice Ao61 t509.length co61)) (fun _ hk => hk.2) (.slice Ao66 t512.length co66)) (fun _ hk => hk.2) (.slice Ao67 t515.length co67)) (fun _ h_ => h_.1)))); (case side4 => exact (Kd.S_reads' HO504.out).2.1); (case side5 => refine (Kd.R_reads' (e := 3) (base := w.heap.size) (ok := fun k_ => (((True ∧ some k_ ≠ (.slice Ao44 t486.length co44 : Value).ownBlock) ∧ some k_ ≠ (.slice Ao47 t495.length co47 : Value).ownBlock) ∧ some k_ ≠ (.slice Ao67 t515.length co67 : Value).ownBlock)) (n := t505.length) (c := co57) ?_).2.2; exact (by (with_reducible repeat (first | apply Kd.R_alloc | apply Kd.R_drewN | apply Kd.R_drew)); exact (Kd.R_mono (Kd.R_far (p := ⟨gb518, 2, none⟩) (Kd.R_far (p := ⟨gb518, 1, none⟩) (Kd.R_far (p := ⟨gb518, 0, none⟩) (Kd.R_types HO507.out BK518.out (by decide)) (fun _ hk => hk.2) (.slice Ao61 t509.length co61)) (fun _ hk => hk.2) (.slice Ao66 t512.length co66)) (fun _ hk => hk.2) (.slice Ao67 t515.length co67)) (fun _ h_ => h_.1)))); (case side6 => exact (Kd.R_reads' HO507.out).2.1); (case side7 => refine (Kd.S_reads' (e := 89) (base := w.heap.size) (ok := fun k_ => (((True ∧ some k_ ≠ (.slice Ao42 t480.length co42 : Value).ownBlock) ∧ some k_ ≠ (.slice Ao45 t489.length co45 : Value).ownBlock) ∧ some k_ ≠ (.slice Ao52 t499.length co52 : Value).ownBlock)) (n := t509.length) (c := co61) ?_).2.2; exact (by (with_reducible repeat (first | apply Kd.S_alloc | apply Kd.S_drewN | apply Kd.S_drew)); exact (Kd.S_mono (Kd.S_far (p := ⟨gb518, 2, none⟩) (Kd.S_far (p := ⟨gb518, 1, none⟩) (Kd.S_far (p := ⟨gb518, 0, none⟩) (Kd.S_types HO511.out BK518.out (by decide)) (fun _ hk => hk.2) (.slice Ao61 t509.length co61)) (fun _ hk => hk.2) (.slice Ao66 t512.length co66)) (fun _ hk => hk.2) (.slice Ao67 t515.length co67)) (fun _ h_ => h_.1)))); (case side8 => exact (Kd.S_reads' HO511.out).2.1); (case side9 => refine (Kd.S_reads' (e := 48) (base := w.heap.size) (ok := fun k_ => ((((((some k_ ≠ (.slice Ao67 t515.length co67 : Value).ownBlock ∧ some k_ ≠ (.slice Ao43 t483.length co43 : Value).ownBlock) ∧ some k_ ≠ (.slice Ao44 t486.length co44 : Value).ownBlock) ∧ some k_ ≠ (.slice Ao46 t492.length co46 : Value).ownBlock) ∧ some k_ ≠ (.slice Ao47 t495.length co47 : Value).ownBlock) ∧ some k_ ≠ (.slice Ao56 t502.length co56 : Value).ownBlock) ∧ some k_ ≠ (.slice Ao57 t505.length co57 : Value).ownBlock)) (n := t512.length) (c := co66) ?_).2.2; exact (by (with_reducible repeat (first | apply Kd.S_alloc | apply Kd.S_drewN | apply Kd.S_drew)); exact (Kd.S_mono (Kd.S_far (p := ⟨gb518, 2, none⟩) (Kd.S_far (p := ⟨gb518, 1, none⟩) (Kd.S_far (p := ⟨gb518, 0, none⟩) (Kd.S_types HO514.out BK518.out (by decide)) (fun _ hk => hk.2) (.slice Ao61 t509.length co61)) (fun _ hk => hk.2) (.slice Ao66 t512.length co66)) (fun _ hk => hk.2) (.slice Ao67 t515.length co67)) (fun _ h_ => h_.1)))); (case side10 => exact (Kd.S_reads' HO514.out).2.1); (case side11 => refine (Kd.R_reads' (e := 3) (base := w.heap.size) (ok := fun k_ => (((True ∧ some k_ ≠ (.slice Ao44 t486.length co44 : Value).ownBlock) ∧ some k_ ≠ (.slice Ao47 t495.length co47 : Value).ownBlock) ∧ some k_ ≠ (.slice Ao57 t505.length co57 : Value).ownBlock)) (n := t515.length) (c := co67) ?_).2.2; exact (by (with_reducible repeat (first | apply Kd.R_alloc | apply Kd.R_drewN | apply Kd.R_drew)); exact (Kd.R_mono (Kd.R_far (p := ⟨gb518, 2, none⟩) (Kd.R_far (p := ⟨gb518, 1, none⟩) (Kd.R_far (p := ⟨gb518, 0, none⟩) (Kd.R_types HO517.out BK518.out (by decide)) (fun _ hk => hk.2) (.slice Ao61 t509.length co61)) (fun _ hk => hk.2) (.slice Ao66 t512.length co66)) (fun _ hk => hk.2) (.slice Ao67 t515.length co67)) (fun _ h_ => h_.1)))); (case side12 => exact (Kd.R_reads' HO517.out).2.1); rintro e w69 ⟨rfl, hb⟩; refine ⟨_, rfl, ?_⟩; have n0_ := Aside0.mk (Kd.S_below (by (with_reducible repeat (first | apply Kd.S_alloc | apply Kd.S_drewN | apply Kd.S_drew)); exact (Kd.S_mono (Kd.S_far (p := ⟨gb518, 2, none⟩) (Kd.S_far (p := ⟨gb518, 1, none⟩) (Kd.S_far (p := ⟨gb518, 0, none⟩) (Kd.S_types HO482.out BK518.out (by decide)) (fun _ hk => hk.2) (.slice Ao61 t509.length co61)) (fun _ hk => hk.2) (.slice Ao66 t512.length co66)) (fun _ hk => hk.2) (.slice Ao67 t515.length co67)) (fun _ h_ => h_.1))) hb); have n1_ := Aside0.mk (Kd.S_below (by (with_reducible repeat (first | apply Kd.S_alloc | apply Kd.S_drewN | apply Kd.S_drew)); exact (Kd.S_mono (Kd.S_far (p := ⟨gb518, 2, none⟩) (Kd.S_far (p := ⟨gb518, 1, none⟩) (Kd.S_far (p := ⟨gb518, 0, none⟩) (Kd.S_types HO485.out BK518.out (by decide)) (fun _ hk => hk.2) (.slice Ao61 t509.length co61)) (fun _ hk => hk.2) (.slice Ao66 t512.length co66)) (fun _ hk => hk.2) (.slice Ao67 t515.length co67)) (fun _ h_ => h_.1))) hb); have n2_ := Aside0.mk (Kd.R_below (by (with_reducible repeat (first | apply Kd.R_alloc | apply Kd.R_drewN | apply Kd.R_drew)); exact (Kd.R_mono (Kd.R_far (p := ⟨gb518, 2, none⟩) (Kd.R_far (p := ⟨gb518, 1, none⟩) (Kd.R_far (p := ⟨gb518, 0, none⟩) (Kd.R_types HO488.out BK518.out (by decide)) (fun _ hk => hk.2) (.slice Ao61 t509.length co61)) (fun _ hk => hk.2) (.slice Ao66 t512.length co66)) (fun _ hk => hk.2) (.slice Ao67 t515.length co67)) (fun _ h_ => h_.1))) hb); have n3_ := Aside0.mk (Kd.S_below (by (with_reducible repeat (first | apply Kd.S_alloc | apply Kd.S_drewN | apply Kd.S_drew)); exact (Kd.S_mono (Kd.S_far (p := ⟨gb518, 2, none⟩) (Kd.S_far (p := ⟨gb518, 1, none⟩) (Kd.S_far (p := ⟨gb518, 0, none⟩) (Kd.S_types HO491.out BK518.out (by decide)) (fun _ hk => hk.2) (.slice Ao61 t509.length co61)) (fun _ hk => hk.2) (.slice Ao66 t512.length co66)) (fun _ hk => hk.2) (.slice Ao67 t515.length co67)) (fun _ h_ => h_.1))) hb); have n4_ := Aside0.mk (Kd.S_below (by (with_reducible repeat (first | apply Kd.S_alloc | apply Kd.S_drewN | apply Kd.S_drew)); exact (Kd.S_mono (Kd.S_far (p := ⟨gb518, 2, none⟩) (Kd.S_far (p := ⟨gb518, 1, none⟩) (Kd.S_far (p := ⟨gb518, 0, none⟩) (Kd.S_types HO494.out BK518.out (by decide)) (fun _ hk => hk.2) (.slice Ao61 t509.length co61)) (fun _ hk => hk.2) (.slice Ao66 t512.length co66)) (fun _ hk => hk.2) (.slice Ao67 t515.length co67)) (fun _ h_ => h_.1))) hb); have n5_ := Aside0.mk (Kd.R_below (by (with_reducible repeat (first | apply Kd.R_alloc | apply Kd.R_drewN | apply Kd.R_drew)); exact (Kd.R_mono (Kd.R_far (p := ⟨gb518, 2, none⟩) (Kd.R_far (p := ⟨gb518, 1, none⟩) (Kd.R_far (p := ⟨gb518, 0, none⟩) (Kd.R_types HO497.out BK518.out (by decide)) (fun _ hk => hk.2) (.slice Ao61 t509.length co61)) (fun _ hk => hk.2) (.slice Ao66 t512.length co66)) (fun _ hk => hk.2) (.slice Ao67 t515.length co67)) (fun _ h_ => h_.1))) hb); have n6_ := Aside0.mk (Kd.S_below (by (with_reducible repeat (first | apply Kd.S_alloc | apply Kd.S_drewN | apply Kd.S_drew)); exact (Kd.S_mono (Kd.S_far (p := ⟨gb518, 2, none⟩) (Kd.S_far (p := ⟨gb518, 1, none⟩) (Kd.S_far (p := ⟨gb518, 0, none⟩) (Kd.S_types HO501.out BK518.out (by decide)) (fun _ hk => hk.2) (.slice Ao61 t509.length co61)) (fun _ hk => hk.2) (.slice Ao66 t512.length co66)) (fun _ hk => hk.2) (.slice Ao67 t515.length co67)) (fun _ h_ => h_.1))) hb); have n7_ := Aside0.mk (Kd.S_below (by (with_reducible repeat (first | apply Kd.S_alloc | apply Kd.S_drewN | apply Kd.S_drew)); exact (Kd.S_mono (Kd.S_far (p := ⟨gb518, 2, none⟩) (Kd.S_far (p := ⟨gb518, 1, none⟩) (Kd.S_far (p := ⟨gb518, 0, none⟩) (Kd.S_types HO504.out BK518.out (by decide)) (fun _ hk => hk.2) (.slice Ao61 t509.length co61)) (fun _ hk => hk.2) (.slice Ao66 t512.length co66)) (fun _ hk => hk.2) (.slice Ao67 t515.length co67)) (fun _ h_ => h_.1))) hb); have n8_ := Aside0.mk (Kd.R_below (by (with_reducible repeat (first | apply Kd.R_alloc | apply Kd.R_drewN | apply Kd.R_drew)); exact (Kd.R_mono (Kd.R_far (p := ⟨gb518, 2, none⟩) (Kd.R_far (p := ⟨gb518, 1, none⟩) (Kd.R_far (p := ⟨gb518, 0, none⟩) (Kd.R_types HO507.out BK518.out (by decide)) (fun _ hk => hk.2) (.slice Ao61 t509.length co61)) (fun _ hk => hk.2) (.slice Ao66 t512.length co66)) (fun _ hk => hk.2) (.slice Ao67 t515.length co67)) (fun _ h_ => h_.1))) hb); have n9_ := Aside0.mk (Kd.S_below (by (with_reducible repeat (first | apply Kd.S_alloc | apply Kd.S_drewN | apply Kd.S_drew)); exact (Kd.S_mono (Kd.S_far (p := ⟨gb518, 2, none⟩) (Kd.S_far (p := ⟨gb518, 1, none⟩) (Kd.S_far (p := ⟨gb518, 0, none⟩) (Kd.S_types HO511.out BK518.out (by decide)) (fun _ hk => hk.2) (.slice Ao61 t509.length co61)) (fun _ hk => hk.2) (.slice Ao66 t512.length co66)) (fun _ hk => hk.2) (.slice Ao67 t515.length co67)) (fun _ h_ => h_.1))) hb); have n10_ := Aside0.mk (Kd.S_below (by (with_reducible repeat (first | apply Kd.S_alloc | apply Kd.S_drewN | apply Kd.S_drew)); exact (Kd.S_mono (Kd.S_far (p := ⟨gb518, 2, none⟩) (Kd.S_far (p := ⟨gb518, 1, none⟩) (Kd.S_far (p := ⟨gb518, 0, none⟩) (Kd.S_types HO514.out BK518.out (by decide)) (fun _ hk => hk.2) (.slice Ao61 t509.length co61)) (fun _ hk => hk.2) (.slice Ao66 t512.length co66)) (fun _ hk => hk.2) (.slice Ao67 t515.length co67)) (fun _ h_ => h_.1))) hb); have n11_ := Aside0.mk (Kd.R_below (by (with_reducible repeat (first | apply Kd.R_alloc | apply Kd.R_drewN | apply Kd.R_drew)); exact (Kd.R_mono (Kd.R_far (p := ⟨gb518, 2, none⟩) (Kd.R_far (p := ⟨gb518, 1, none⟩) (Kd.R_far (p := ⟨gb518, 0, none⟩) (Kd.R_types HO517.out BK518.out (by decide)) (fun _ hk => hk.2) (.slice Ao61 t509.length co61)) (fun _ hk => hk.2) (.slice Ao66 t512.length co66)) (fun _ hk => hk.2) (.slice Ao67 t515.length co67)) (fun _ h_ => h_.1))) hb); have n12_ := Aside0.mk (blk_below (g := gb476) (o := .cells #[.slice A0_0 l0_0.length c0_0, .slice A0_1 l0_1.length c0_1, .slice A0_2 l0_2.length c0_2] 50 (0, 0)) (by (with_reducible repeat (first | refine blk_drewN ?_ _ | refine blk_drew ?_ | refine blk_alloc ?_ _)); refine blk_far ?_ NB476_518.out _; (with_reducible repeat (first | refine blk_drewN ?_ _ | refine blk_drew ?_ | refine blk_alloc ?_ _)); refine blk_far ?_ NB476_518.out _; (with_reducible repeat (first | refine blk_drewN ?_ _ | refine blk_drew ?_ | refine blk_alloc ?_ _)); refine blk_far ?_ NB476_518.out _; (with_reducible repeat (first | refine blk_drewN ?_ _ | refine blk_drew ?_ | refine blk_alloc ?_ _)); exact BK476.out) hb); have n13_ := Aside0.mk (blk_below (g := gb477) (o := .cells #[.slice A1_0 l1_0.length c1_0, .slice A1_1 l1_1.length c1_1, .slice A1_2 l1_2.length c1_2] 50 (0, 0)) (by (with_reducible repeat (first | refine blk_drewN ?_ _ | refine blk_drew ?_ | refine blk_alloc ?_ _)); refine blk_far ?_ NB477_518.out _; (with_reducible repeat (first | refine blk_drewN ?_ _ | refine blk_drew ?_ | refine blk_alloc ?_ _)); refine blk_far ?_ NB477_518.out _; (with_reducible repeat (first | refine blk_drewN ?_ _ | refine blk_drew ?_ | refine blk_alloc ?_ _)); refine blk_far ?_ NB477_518.out _; (with_reducible repeat (first | refine blk_drewN ?_ _ | refine blk_drew ?_ | refine blk_alloc ?_ _)); exact BK477.out) hb); have n14_ := Aside0.mk (blk_below (g := gb508) (o := .cells #[.slice Ao52 t499.length co52, .slice Ao56 t502.length co56, .slice Ao57 t505.length co57] 55 (0, 0)) (by (with_reducible repeat (first | refine blk_drewN ?_ _ | refine blk_drew ?_ | refine blk_alloc ?_ _)); refine blk_far ?_ NB508_518.out _; (with_reducible repeat (first | refine blk_drewN ?_ _ | refine blk_drew ?_ | refine blk_alloc ?_ _)); refine blk_far ?_ NB508_518.out _; (with_reducible repeat (first | refine blk_drewN ?_ _ | refine blk_drew ?_ | refine blk_alloc ?_ _)); refine blk_far ?_ NB508_518.out _; (with_reducible repeat (first | refine blk_drewN ?_ _ | refine blk_drew ?_ | refine blk_alloc ?_ _)); exact BK508.out) hb); have n15_ := Aside0.mk (blk_below (g := gb518) (o := .cells #[.slice Ao61 t509.length co61, .slice Ao66 t512.length co66, .slice Ao67 t515.length co67] 55 (0, 0)) (by (with_reducible repeat (first | refine blk_drewN ?_ _ | refine blk_drew ?_ | refine blk_alloc ?_ _)); refine blk_put (cs := #[.slice Ao61 t509.length co61, .slice Ao66 t512.length co66, .slice none 0 0]) ?_ 2 _ rfl; (with_reducible repeat (first | refine blk_drewN ?_ _ | refine blk_drew ?_ | refine blk_alloc ?_ _)); refine blk_put (cs := #[.slice Ao61 t509.length co61, .slice none 0 0, .slice none 0 0]) ?_ 1 _ rfl; (with_reducible repeat (first | refine blk_drewN ?_ _ | refine blk_drew ?_ | refine blk_alloc ?_ _)); refine blk_put (cs := #[.slice none 0 0, .slice none 0 0, .slice none 0 0]) ?_ 0 _ rfl; (with_reducible repeat (first | refine blk_drewN ?_ _ | refine blk_drew ?_ | refine blk_alloc ?_ _)); exact BK518.out) hb); have n16_ := Aside0.mk (below_step (by repeat (first | (with_reducible first | exact HB.out | apply below_alloc | apply pw_below_drewN | apply below_drew1 | refine below_set ?_ GE476.out | refine below_set ?_ GE477.out | refine below_set ?_ GE508.out | refine below_set ?_ GE518.out) | exact HB.out)) hb); clear HO482; clear HO485; clear HO488; clear HO491; clear HO494; clear HO497; clear HO501; clear HO504; clear HO507; clear HO511; clear HO514; clear HO517; clear BK476; clear BK477; clear BK508; clear BK518; clear HB; have HO482 := n0_; have HO485 := n1_; have HO488 := n2_; have HO491 := n3_; have HO494 := n4_; have HO497 := n5_; have HO501 := n6_; have HO504 := n7_; have HO507 := n8_; have HO511 := n9_; have HO514 := n10_; have HO517 := n11_; have BK476 := n12_; have BK477 := n13_; have BK508 := n14_; have BK518 := n15_; have HB := n16_; clear n0_ n1_ n2_ n3_ n4_ n5_ n6_ n7_ n8_ n9_ n10_ n11_ n12_ n13_ n14_ n15_ n16_; (try clear hb); (try clear hb2); (try clear hk); (try clear hi)))
            have n0_ := Aside0.mk (Kd.S_drew HO482.out)
            have n1_ := Aside0.mk (Kd.S_drew HO485.out)
            have n2_ := Aside0.mk (Kd.R_drew HO488.out)
            have n3_ := Aside0.mk (Kd.S_drew HO491.out)
            have n4_ := Aside0.mk (Kd.S_drew HO494.out)
            have n5_ := Aside0.mk (Kd.R_drew HO497.out)
            have n6_ := Aside0.mk (Kd.S_drew HO501.out)
            have n7_ := Aside0.mk (Kd.S_drew HO504.out)
            have n8_ := Aside0.mk (Kd.R_drew HO507.out)
            have n9_ := Aside0.mk (Kd.S_drew HO511.out)
            have n10_ := Aside0.mk (Kd.S_drew HO514.out)
            have n11_ := Aside0.mk (Kd.R_drew HO517.out)
            have n12_ := Aside0.mk (blk_drew BK476.out)
            have n13_ := Aside0.mk (blk_drew BK477.out)
            have n14_ := Aside0.mk (blk_drew BK508.out)
            have n15_ := Aside0.mk (blk_drew BK518.out)
            have n16_ := Aside0.mk (below_drew1 HB.out)
            clear HO482
            clear HO485
            clear HO488
            clear HO491
            clear HO494
            clear HO497
            clear HO501
            clear HO504
            clear HO507
            clear HO511
            clear HO514
            clear HO517
            clear BK476
            clear BK477
            clear BK508
            clear BK518
            clear HB
            have HO482 := n0_
            have HO485 := n1_
            have HO488 := n2_
            have HO491 := n3_
            have HO494 := n4_
            have HO497 := n5_
            have HO501 := n6_
            have HO504 := n7_
            have HO507 := n8_
            have HO511 := n9_
            have HO514 := n10_
            have HO517 := n11_
            have BK476 := n12_
            have BK477 := n13_
            have BK508 := n14_
            have BK518 := n15_
            have HB := n16_
            clear n0_ n1_ n2_ n3_ n4_ n5_ n6_ n7_ n8_ n9_ n10_ n11_ n12_ n13_ n14_ n15_ n16_
            refine start_ (n := 5) (S := fun w' => w'.cell? ⟨gb508, 0, none⟩ = some (.slice Ao52 t499.length co52) ∧ w'.cell? ⟨gb508, 1, none⟩ = some (.slice Ao56 t502.length co56) ∧ w'.cell? ⟨gb508, 2, none⟩ = some (.slice Ao57 t505.length co57) ∧ w'.cell? ⟨gb476, 0, none⟩ = some (.slice A0_0 l0_0.length c0_0) ∧ w'.cell? ⟨gb476, 1, none⟩ = some (.slice A0_1 l0_1.length c0_1) ∧ w'.cell? ⟨gb476, 2, none⟩ = some (.slice A0_2 l0_2.length c0_2)) (ds := []) #[false, false, false, false, false] (by kernel_rfl) rfl rfl ⟨(blk_cell BK508.out 0).trans rfl, (blk_cell BK508.out 1).trans rfl, (blk_cell BK508.out 2).trans rfl, (blk_cell BK476.out 0).trans rfl, (blk_cell BK476.out 1).trans rfl, (blk_cell BK476.out 2).trans rfl⟩ (fun hHeld => ?_)
            generalize w69.drew = w70 at HO482 HO485 HO488 HO491 HO494 HO497 HO501 HO504 HO507 HO511 HO514 HO517 BK476 BK477 BK508 BK518 HB hHeld ⊢
            refine take_ (i := 0) (N := some 35) (v := ?_) (a' := ?_) #[true, false, false, false, false] rfl rfl (by kernel_rfl) (fun _ _ _ h => h) (Or.inl ⟨by rfl, ?_⟩) hHeld ?_ ?_
            rotate_left
            · rintro w' ⟨s0, s1, s2, s3, s4, s5⟩
              go_simp
              with_reducible rfl
            rotate_left
            · simp only [Act.put, List.setIfInBounds_toArray, List.set_cons_zero, List.set_cons_succ, i64_w, i32_w]
              rfl
            refine take_ (i := 1) (N := some 36) (v := ?_) (a' := ?_) #[true, true, false, false, false] rfl rfl (by kernel_rfl) (fun _ _ _ h => h) (Or.inl ⟨by rfl, ?_⟩) hHeld ?_ ?_
            rotate_left
            · rintro w' ⟨s0, s1, s2, s3, s4, s5⟩
              go_simp
              with_reducible rfl
            rotate_left
            · simp only [Act.put, List.setIfInBounds_toArray, List.set_cons_zero, List.set_cons_succ, i64_w, i32_w]
              rfl
            refine one_ (i := 2) (N := some 37) #[true, true, true, false, false] rfl rfl (by kernel_rfl) (by decide) (fun K hK => ?_)
            refine goes_ Try.func37 (by kernel_rfl) rfl #[.agg #[.slice A0_0 l0_0.length c0_0, .slice A0_1 l0_1.length c0_1, .slice A0_2 l0_2.length c0_2]] (by rfl) rfl rfl (by (try simp only [List.map_toArray, List.map_cons, List.map_nil]); first | done | rfl | (simp only [List.length_drop, List.length_take]; rfl)) ?_
            with_reducible refine (laws_toDfa.calls k _ _ l0_0 _ _ l0_1 _ _ l0_2 t520 t523 t526 _ ?side1 ?side2 ?side3 ?side4 ?side5 ?side6 A26.out).mono ?_
            (case side1 => repeat (first | exact (Kd.C_below HR0_0.out HB.out) | (with_reducible refine Kd.C_alloc ?_ _) | (with_reducible refine Kd.C_drewN ?_ _) | (with_reducible refine Kd.C_drew ?_)))
            (case side2 => exact HC0_0.out)
            (case side3 => repeat (first | exact (Kd.C_below HR0_1.out HB.out) | (with_reducible refine Kd.C_alloc ?_ _) | (with_reducible refine Kd.C_drewN ?_ _) | (with_reducible refine Kd.C_drew ?_)))
            (case side4 => exact HC0_1.out)
            (case side5 => repeat (first | exact (Kd.C_below HR0_2.out HB.out) | (with_reducible refine Kd.C_alloc ?_ _) | (with_reducible refine Kd.C_drewN ?_ _) | (with_reducible refine Kd.C_drew ?_)))
            (case side6 => exact HC0_2.out)
            rintro e w71 ⟨v521, v524, v527, rfl, ho0, ho1, ho2, hb⟩
            refine ⟨_, rfl, ?_⟩
            have n0_ := Aside0.mk (Kd.S_elder' (by (with_reducible repeat (first | apply Kd.S_alloc | apply Kd.S_drewN | apply Kd.S_drew)); exact HO482.out) (Kd.S_base ho0) hb)
            have n1_ := Aside0.mk (Kd.S_mono (Kd.S_told (Kd.S_told (Kd.S_old (by (with_reducible repeat (first | apply Kd.S_alloc | apply Kd.S_drewN | apply Kd.S_drew)); exact HO485.out) hb) (Kd.S_base ho1)) (Kd.R_base ho2)) (fun _ h_ => h_.1))
            have n2_ := Aside0.mk (Kd.R_elder' (by (with_reducible repeat (first | apply Kd.R_alloc | apply Kd.R_drewN | apply Kd.R_drew)); exact HO488.out) (Kd.R_base ho2) hb)
            have n3_ := Aside0.mk (Kd.S_elder' (by (with_reducible repeat (first | apply Kd.S_alloc | apply Kd.S_drewN | apply Kd.S_drew)); exact HO491.out) (Kd.S_base ho0) hb)
            have n4_ := Aside0.mk (Kd.S_mono (Kd.S_told (Kd.S_told (Kd.S_old (by (with_reducible repeat (first | apply Kd.S_alloc | apply Kd.S_drewN | apply Kd.S_drew)); exact HO494.out) hb) (Kd.S_base ho1)) (Kd.R_base ho2)) (fun _ h_ => h_.1))
            have n5_ := Aside0.mk (Kd.R_elder' (by (with_reducible repeat (first | apply Kd.R_alloc | apply Kd.R_drewN | apply Kd.R_drew)); exact HO497.out) (Kd.R_base ho2) hb)
            have n6_ := Aside0.mk (Kd.S_elder' (by (with_reducible repeat (first | apply Kd.S_alloc | apply Kd.S_drewN | apply Kd.S_drew)); exact HO501.out) (Kd.S_base ho0) hb)
            have n7_ := Aside0.mk (Kd.S_mono (Kd.S_told (Kd.S_told (Kd.S_old (by (with_reducible repeat (first | apply Kd.S_alloc | apply Kd.S_drewN | apply Kd.S_drew)); exact HO504.out) hb) (Kd.S_base ho1)) (Kd.R_base ho2)) (fun _ h_ => h_.1))
            have n8_ := Aside0.mk (Kd.R_elder' (by (with_reducible repeat (first | apply Kd.R_alloc | apply Kd.R_drewN | apply Kd.R_drew)); exact HO507.out) (Kd.R_base ho2) hb)
            have n9_ := Aside0.mk (Kd.S_elder' (by (with_reducible repeat (first | apply Kd.S_alloc | apply Kd.S_drewN | apply Kd.S_drew)); exact HO511.out) (Kd.S_base ho0) hb)
            have n10_ := Aside0.mk (Kd.S_mono (Kd.S_told (Kd.S_told (Kd.S_old (by (with_reducible repeat (first | apply Kd.S_alloc | apply Kd.S_drewN | apply Kd.S_drew)); exact HO514.out) hb) (Kd.S_base ho1)) (Kd.R_base ho2)) (fun _ h_ => h_.1))
            have n11_ := Aside0.mk (Kd.R_elder' (by (with_reducible repeat (first | apply Kd.R_alloc | apply Kd.R_drewN | apply Kd.R_drew)); exact HO517.out) (Kd.R_base ho2) hb)
            have n12_ := Aside0.mk (Kd.S_lower (Kd.S_new' (Kd.S_new' (Kd.S_new' (Kd.S_new' ho0 (Kd.S_lt (by (with_reducible repeat (first | apply Kd.S_alloc | apply Kd.S_drewN | apply Kd.S_drew)); exact HO482.out))) (Kd.S_lt (by (with_reducible repeat (first | apply Kd.S_alloc | apply Kd.S_drewN | apply Kd.S_drew)); exact HO491.out))) (Kd.S_lt (by (with_reducible repeat (first | apply Kd.S_alloc | apply Kd.S_drewN | apply Kd.S_drew)); exact HO501.out))) (Kd.S_lt (by (with_reducible repeat (first | apply Kd.S_alloc | apply Kd.S_drewN | apply Kd.S_drew)); exact HO511.out))) (below_size (by repeat (first | (with_reducible first | exact HB.out | apply below_alloc | apply pw_below_drewN | apply below_drew1 | refine below_set ?_ GE476.out | refine below_set ?_ GE477.out | refine below_set ?_ GE508.out | refine below_set ?_ GE518.out) | exact HB.out))))
            have n13_ := Aside0.mk (Kd.S_lower (Kd.S_new' (Kd.S_new' (Kd.S_new' (Kd.S_new' (Kd.S_new' (Kd.S_new' (Kd.S_new' (Kd.S_new' ho1 (Kd.S_lt (by (with_reducible repeat (first | apply Kd.S_alloc | apply Kd.S_drewN | apply Kd.S_drew)); exact HO485.out))) (Kd.R_lt (by (with_reducible repeat (first | apply Kd.R_alloc | apply Kd.R_drewN | apply Kd.R_drew)); exact HO488.out))) (Kd.S_lt (by (with_reducible repeat (first | apply Kd.S_alloc | apply Kd.S_drewN | apply Kd.S_drew)); exact HO494.out))) (Kd.R_lt (by (with_reducible repeat (first | apply Kd.R_alloc | apply Kd.R_drewN | apply Kd.R_drew)); exact HO497.out))) (Kd.S_lt (by (with_reducible repeat (first | apply Kd.S_alloc | apply Kd.S_drewN | apply Kd.S_drew)); exact HO504.out))) (Kd.R_lt (by (with_reducible repeat (first | apply Kd.R_alloc | apply Kd.R_drewN | apply Kd.R_drew)); exact HO507.out))) (Kd.S_lt (by (with_reducible repeat (first | apply Kd.S_alloc | apply Kd.S_drewN | apply Kd.S_drew)); exact HO514.out))) (Kd.R_lt (by (with_reducible repeat (first | apply Kd.R_alloc | apply Kd.R_drewN | apply Kd.R_drew)); exact HO517.out))) (below_size (by repeat (first | (with_reducible first | exact HB.out | apply below_alloc | apply pw_below_drewN | apply below_drew1 | refine below_set ?_ GE476.out | refine below_set ?_ GE477.out | refine below_set ?_ GE508.out | refine below_set ?_ GE518.out) | exact HB.out))))
            have n14_ := Aside0.mk (Kd.R_lower (Kd.R_new' (Kd.R_new' (Kd.R_new' (Kd.R_new' ho2 (Kd.R_lt (by (with_reducible repeat (first | apply Kd.R_alloc | apply Kd.R_drewN | apply Kd.R_drew)); exact HO488.out))) (Kd.R_lt (by (with_reducible repeat (first | apply Kd.R_alloc | apply Kd.R_drewN | apply Kd.R_drew)); exact HO497.out))) (Kd.R_lt (by (with_reducible repeat (first | apply Kd.R_alloc | apply Kd.R_drewN | apply Kd.R_drew)); exact HO507.out))) (Kd.R_lt (by (with_reducible repeat (first | apply Kd.R_alloc | apply Kd.R_drewN | apply Kd.R_drew)); exact HO517.out))) (below_size (by repeat (first | (with_reducible first | exact HB.out | apply below_alloc | apply pw_below_drewN | apply below_drew1 | refine below_set ?_ GE476.out | refine below_set ?_ GE477.out | refine below_set ?_ GE508.out | refine below_set ?_ GE518.out) | exact HB.out))))
            have n15_ := Aside0.mk (blk_below (g := gb476) (o := .cells #[.slice A0_0 l0_0.length c0_0, .slice A0_1 l0_1.length c0_1, .slice A0_2 l0_2.length c0_2] 50 (0, 0)) (by (with_reducible repeat (first | refine blk_drewN ?_ _ | refine blk_drew ?_ | refine blk_alloc ?_ _)); exact BK476.out) hb)
            have n16_ := Aside0.mk (blk_below (g := gb477) (o := .cells #[.slice A1_0 l1_0.length c1_0, .slice A1_1 l1_1.length c1_1, .slice A1_2 l1_2.length c1_2] 50 (0, 0)) (by (with_reducible repeat (first | refine blk_drewN ?_ _ | refine blk_drew ?_ | refine blk_alloc ?_ _)); exact BK477.out) hb)
            have n17_ := Aside0.mk (blk_below (g := gb508) (o := .cells #[.slice Ao52 t499.length co52, .slice Ao56 t502.length co56, .slice Ao57 t505.length co57] 55 (0, 0)) (by (with_reducible repeat (first | refine blk_drewN ?_ _ | refine blk_drew ?_ | refine blk_alloc ?_ _)); exact BK508.out) hb)
            have n18_ := Aside0.mk (blk_below (g := gb518) (o := .cells #[.slice Ao61 t509.length co61, .slice Ao66 t512.length co66, .slice Ao67 t515.length co67] 55 (0, 0)) (by (with_reducible repeat (first | refine blk_drewN ?_ _ | refine blk_drew ?_ | refine blk_alloc ?_ _)); exact BK518.out) hb)
            have n19_ := Aside0.mk (below_step (by repeat (first | (with_reducible first | exact HB.out | apply below_alloc | apply pw_below_drewN | apply below_drew1 | refine below_set ?_ GE476.out | refine below_set ?_ GE477.out | refine below_set ?_ GE508.out | refine below_set ?_ GE518.out) | exact HB.out)) hb)
            clear HO482
            clear HO485
            clear HO488
            clear HO491
            clear HO494
            clear HO497
            clear HO501
            clear HO504
            clear HO507
            clear HO511
            clear HO514
            clear HO517
            clear BK476
            clear BK477
            clear BK508
            clear BK518
            clear HB
            have HO482 := n0_
            have HO485 := n1_
            have HO488 := n2_
            have HO491 := n3_
            have HO494 := n4_
            have HO497 := n5_
            have HO501 := n6_
            have HO504 := n7_
            have HO507 := n8_
            have HO511 := n9_
            have HO514 := n10_
            have HO517 := n11_
            have HO522 := n12_
            have HO525 := n13_
            have HO528 := n14_
            have BK476 := n15_
            have BK477 := n16_
            have BK508 := n17_
            have BK518 := n18_
            have HB := n19_
            clear n0_ n1_ n2_ n3_ n4_ n5_ n6_ n7_ n8_ n9_ n10_ n11_ n12_ n13_ n14_ n15_ n16_ n17_ n18_ n19_
            (try clear hb)
            (try clear hb2)
            (try clear hk)
            (try clear hi)
            (try clear ho0)
            (try clear ho1)
            (try clear ho2)
            obtain ⟨Ao72, co72, eo72⟩ := Kd.S_slice HO522.out
            (first | subst eo72 | (injection eo72 with f1_ f2_ f3_; have f4_ := f1_.symm; have f5_ := f3_.symm; clear f1_ f2_ f3_; subst f4_; subst f5_))
            obtain ⟨Ao73, co73, eo73⟩ := Kd.S_slice HO525.out
            (first | subst eo73 | (injection eo73 with f1_ f2_ f3_; have f4_ := f1_.symm; have f5_ := f3_.symm; clear f1_ f2_ f3_; subst f4_; subst f5_))
            obtain ⟨Ao74, co74, eo74⟩ := Kd.R_slice HO528.out
            (first | subst eo74 | (injection eo74 with f1_ f2_ f3_; have f4_ := f1_.symm; have f5_ := f3_.symm; clear f1_ f2_ f3_; subst f4_; subst f5_))
            refine hK.out _ _ ⟨(blk_cell BK508.out 0).trans rfl, (blk_cell BK508.out 1).trans rfl, (blk_cell BK508.out 2).trans rfl, (blk_cell BK476.out 0).trans rfl, (blk_cell BK476.out 1).trans rfl, (blk_cell BK476.out 2).trans rfl⟩ (fun hHeld => ?_)
            clear hK K
            refine norm_ (a' := ?_) ?_ ?_
            rotate_left
            · show Act.put _ (some 37) _ = _
              simp only [Act.put, List.setIfInBounds_toArray, List.set_cons_zero, List.set_cons_succ, i64_w, i32_w]
              rfl
            refine one_ (i := 3) (N := some 38) #[true, true, true, true, false] rfl rfl (by kernel_rfl) (by decide) (fun K hK => ?_)
            refine goes_ Try.func39 (by kernel_rfl) rfl #[.agg #[.slice Ao52 t499.length co52, .slice Ao56 t502.length co56, .slice Ao57 t505.length co57], .agg #[.slice Ao72 t520.length co72, .slice Ao73 t523.length co73, .slice Ao74 t526.length co74]] (by rfl) rfl rfl (by (try simp only [List.map_toArray, List.map_cons, List.map_nil]); first | done | rfl | (simp only [List.length_drop, List.length_take]; rfl)) ?_
            with_reducible refine (laws_eqDfa.calls k _ _ t499 _ _ t502 _ _ t505 _ _ t520 _ _ t523 _ _ t526 true _ ?side1 ?side2 ?side3 ?side4 ?side5 ?side6 ?side7 ?side8 ?side9 ?side10 ?side11 ?side12 A27.out).mono ?_
            (case side1 => repeat (first | exact (Kd.S_reads' HO501.out).2.2 | (with_reducible refine Kd.C_alloc ?_ _) | (with_reducible refine Kd.C_drewN ?_ _) | (with_reducible refine Kd.C_drew ?_)))
            (case side2 => exact (Kd.S_reads' HO501.out).2.1)
            (case side3 => repeat (first | exact (Kd.S_reads' HO504.out).2.2 | (with_reducible refine Kd.C_alloc ?_ _) | (with_reducible refine Kd.C_drewN ?_ _) | (with_reducible refine Kd.C_drew ?_)))
            (case side4 => exact (Kd.S_reads' HO504.out).2.1)
            (case side5 => repeat (first | exact (Kd.R_reads' HO507.out).2.2 | (with_reducible refine Kd.C_alloc ?_ _) | (with_reducible refine Kd.C_drewN ?_ _) | (with_reducible refine Kd.C_drew ?_)))
            (case side6 => exact (Kd.R_reads' HO507.out).2.1)
            (case side7 => repeat (first | exact (Kd.S_reads' HO522.out).2.2 | (with_reducible refine Kd.C_alloc ?_ _) | (with_reducible refine Kd.C_drewN ?_ _) | (with_reducible refine Kd.C_drew ?_)))
            (case side8 => exact (Kd.S_reads' HO522.out).2.1)
            (case side9 => repeat (first | exact (Kd.S_reads' HO525.out).2.2 | (with_reducible refine Kd.C_alloc ?_ _) | (with_reducible refine Kd.C_drewN ?_ _) | (with_reducible refine Kd.C_drew ?_)))
            (case side10 => exact (Kd.S_reads' HO525.out).2.1)
            (case side11 => repeat (first | exact (Kd.R_reads' HO528.out).2.2 | (with_reducible refine Kd.C_alloc ?_ _) | (with_reducible refine Kd.C_drewN ?_ _) | (with_reducible refine Kd.C_drew ?_)))
            (case side12 => exact (Kd.R_reads' HO528.out).2.1)
            rintro e w75 ⟨rfl, hb⟩
            refine ⟨_, rfl, ?_⟩
            have n0_ := Aside0.mk (Kd.S_below (by (with_reducible repeat (first | apply Kd.S_alloc | apply Kd.S_drewN | apply Kd.S_drew)); exact HO482.out) hb)
            have n1_ := Aside0.mk (Kd.S_below (by (with_reducible repeat (first | apply Kd.S_alloc | apply Kd.S_drewN | apply Kd.S_drew)); exact HO485.out) hb)
            have n2_ := Aside0.mk (Kd.R_below (by (with_reducible repeat (first | apply Kd.R_alloc | apply Kd.R_drewN | apply Kd.R_drew)); exact HO488.out) hb)
            have n3_ := Aside0.mk (Kd.S_below (by (with_reducible repeat (first | apply Kd.S_alloc | apply Kd.S_drewN | apply Kd.S_drew)); exact HO491.out) hb)
            have n4_ := Aside0.mk (Kd.S_below (by (with_reducible repeat (first | apply Kd.S_alloc | apply Kd.S_drewN | apply Kd.S_drew)); exact HO494.out) hb)
            have n5_ := Aside0.mk (Kd.R_below (by (with_reducible repeat (first | apply Kd.R_alloc | apply Kd.R_drewN | apply Kd.R_drew)); exact HO497.out) hb)
            have n6_ := Aside0.mk (Kd.S_below (by (with_reducible repeat (first | apply Kd.S_alloc | apply Kd.S_drewN | apply Kd.S_drew)); exact HO501.out) hb)
            have n7_ := Aside0.mk (Kd.S_below (by (with_reducible repeat (first | apply Kd.S_alloc | apply Kd.S_drewN | apply Kd.S_drew)); exact HO504.out) hb)
            have n8_ := Aside0.mk (Kd.R_below (by (with_reducible repeat (first | apply Kd.R_alloc | apply Kd.R_drewN | apply Kd.R_drew)); exact HO507.out) hb)
            have n9_ := Aside0.mk (Kd.S_below (by (with_reducible repeat (first | apply Kd.S_alloc | apply Kd.S_drewN | apply Kd.S_drew)); exact HO511.out) hb)
            have n10_ := Aside0.mk (Kd.S_below (by (with_reducible repeat (first | apply Kd.S_alloc | apply Kd.S_drewN | apply Kd.S_drew)); exact HO514.out) hb)
            have n11_ := Aside0.mk (Kd.R_below (by (with_reducible repeat (first | apply Kd.R_alloc | apply Kd.R_drewN | apply Kd.R_drew)); exact HO517.out) hb)
            have n12_ := Aside0.mk (Kd.S_below (by (with_reducible repeat (first | apply Kd.S_alloc | apply Kd.S_drewN | apply Kd.S_drew)); exact HO522.out) hb)
            have n13_ := Aside0.mk (Kd.S_below (by (with_reducible repeat (first | apply Kd.S_alloc | apply Kd.S_drewN | apply Kd.S_drew)); exact HO525.out) hb)
            have n14_ := Aside0.mk (Kd.R_below (by (with_reducible repeat (first | apply Kd.R_alloc | apply Kd.R_drewN | apply Kd.R_drew)); exact HO528.out) hb)
            have n15_ := Aside0.mk (blk_below (g := gb476) (o := .cells #[.slice A0_0 l0_0.length c0_0, .slice A0_1 l0_1.length c0_1, .slice A0_2 l0_2.length c0_2] 50 (0, 0)) (by (with_reducible repeat (first | refine blk_drewN ?_ _ | refine blk_drew ?_ | refine blk_alloc ?_ _)); exact BK476.out) hb)
            have n16_ := Aside0.mk (blk_below (g := gb477) (o := .cells #[.slice A1_0 l1_0.length c1_0, .slice A1_1 l1_1.length c1_1, .slice A1_2 l1_2.length c1_2] 50 (0, 0)) (by (with_reducible repeat (first | refine blk_drewN ?_ _ | refine blk_drew ?_ | refine blk_alloc ?_ _)); exact BK477.out) hb)
            have n17_ := Aside0.mk (blk_below (g := gb508) (o := .cells #[.slice Ao52 t499.length co52, .slice Ao56 t502.length co56, .slice Ao57 t505.length co57] 55 (0, 0)) (by (with_reducible repeat (first | refine blk_drewN ?_ _ | refine blk_drew ?_ | refine blk_alloc ?_ _)); exact BK508.out) hb)
            have n18_ := Aside0.mk (blk_below (g := gb518) (o := .cells #[.slice Ao61 t509.length co61, .slice Ao66 t512.length co66, .slice Ao67 t515.length co67] 55 (0, 0)) (by (with_reducible repeat (first | refine blk_drewN ?_ _ | refine blk_drew ?_ | refine blk_alloc ?_ _)); exact BK518.out) hb)
            have n19_ := Aside0.mk (below_step (by repeat (first | (with_reducible first | exact HB.out | apply below_alloc | apply pw_below_drewN | apply below_drew1 | refine below_set ?_ GE476.out | refine below_set ?_ GE477.out | refine below_set ?_ GE508.out | refine below_set ?_ GE518.out) | exact HB.out)) hb)
            clear HO482
            clear HO485
            clear HO488
            clear HO491
            clear HO494
            clear HO497
            clear HO501
            clear HO504
            clear HO507
            clear HO511
            clear HO514
            clear HO517
            clear HO522
            clear HO525
            clear HO528
            clear BK476
            clear BK477
            clear BK508
            clear BK518
            clear HB
            have HO482 := n0_
            have HO485 := n1_
            have HO488 := n2_
            have HO491 := n3_
            have HO494 := n4_
            have HO497 := n5_
            have HO501 := n6_
            have HO504 := n7_
            have HO507 := n8_
            have HO511 := n9_
            have HO514 := n10_
            have HO517 := n11_
            have HO522 := n12_
            have HO525 := n13_
            have HO528 := n14_
            have BK476 := n15_
            have BK477 := n16_
            have BK508 := n17_
            have BK518 := n18_
            have HB := n19_
            clear n0_ n1_ n2_ n3_ n4_ n5_ n6_ n7_ n8_ n9_ n10_ n11_ n12_ n13_ n14_ n15_ n16_ n17_ n18_ n19_
            (try clear hb)
            (try clear hb2)
            (try clear hk)
            (try clear hi)
            refine hK.out _ _ ⟨(blk_cell BK508.out 0).trans rfl, (blk_cell BK508.out 1).trans rfl, (blk_cell BK508.out 2).trans rfl, (blk_cell BK476.out 0).trans rfl, (blk_cell BK476.out 1).trans rfl, (blk_cell BK476.out 2).trans rfl⟩ (fun hHeld => ?_)
            clear hK K
            refine norm_ (a' := ?_) ?_ ?_
            rotate_left
            · show Act.put _ (some 38) _ = _
              simp only [Act.put, List.setIfInBounds_toArray, List.set_cons_zero, List.set_cons_succ, i64_w, i32_w]
              rfl
            refine pure_ (i := 4) (N := some 39) (v := ?_) (a' := ?_) #[true, true, true, true, true] rfl rfl (by kernel_rfl) (fun _ _ _ h => h) (Or.inl ⟨by rfl, ?_⟩) ?_ ?_
            rotate_left
            · intro w'
              go_simp
              with_reducible rfl
            rotate_left
            · simp only [Act.put, List.setIfInBounds_toArray, List.set_cons_zero, List.set_cons_succ, i64_w, i32_w]
              rfl
            refine done_ (by kernel_rfl) ?_
            try go_wp2
            have n0_ := Aside0.mk (Kd.S_drew HO482.out)
            have n1_ := Aside0.mk (Kd.S_drew HO485.out)
            have n2_ := Aside0.mk (Kd.R_drew HO488.out)
            have n3_ := Aside0.mk (Kd.S_drew HO491.out)
            have n4_ := Aside0.mk (Kd.S_drew HO494.out)
            have n5_ := Aside0.mk (Kd.R_drew HO497.out)
            have n6_ := Aside0.mk (Kd.S_drew HO501.out)
            have n7_ := Aside0.mk (Kd.S_drew HO504.out)
            have n8_ := Aside0.mk (Kd.R_drew HO507.out)
            have n9_ := Aside0.mk (Kd.S_drew HO511.out)
            have n10_ := Aside0.mk (Kd.S_drew HO514.out)
            have n11_ := Aside0.mk (Kd.R_drew HO517.out)
            have n12_ := Aside0.mk (Kd.S_drew HO522.out)
            have n13_ := Aside0.mk (Kd.S_drew HO525.out)
            have n14_ := Aside0.mk (Kd.R_drew HO528.out)
            have n15_ := Aside0.mk (blk_drew BK476.out)
            have n16_ := Aside0.mk (blk_drew BK477.out)
            have n17_ := Aside0.mk (blk_drew BK508.out)
            have n18_ := Aside0.mk (blk_drew BK518.out)
            have n19_ := Aside0.mk (below_drew1 HB.out)
            clear HO482
            clear HO485
            clear HO488
            clear HO491
            clear HO494
            clear HO497
            clear HO501
            clear HO504
            clear HO507
            clear HO511
            clear HO514
            clear HO517
            clear HO522
            clear HO525
            clear HO528
            clear BK476
            clear BK477
            clear BK508
            clear BK518
            clear HB
            have HO482 := n0_
            have HO485 := n1_
            have HO488 := n2_
            have HO491 := n3_
            have HO494 := n4_
            have HO497 := n5_
            have HO501 := n6_
            have HO504 := n7_
            have HO507 := n8_
            have HO511 := n9_
            have HO514 := n10_
            have HO517 := n11_
            have HO522 := n12_
            have HO525 := n13_
            have HO528 := n14_
            have BK476 := n15_
            have BK477 := n16_
            have BK508 := n17_
            have BK518 := n18_
            have HB := n19_
            clear n0_ n1_ n2_ n3_ n4_ n5_ n6_ n7_ n8_ n9_ n10_ n11_ n12_ n13_ n14_ n15_ n16_ n17_ n18_ n19_
            refine start_ (n := 5) (S := fun w' => w'.cell? ⟨gb518, 0, none⟩ = some (.slice Ao61 t509.length co61) ∧ w'.cell? ⟨gb518, 1, none⟩ = some (.slice Ao66 t512.length co66) ∧ w'.cell? ⟨gb518, 2, none⟩ = some (.slice Ao67 t515.length co67) ∧ w'.cell? ⟨gb477, 0, none⟩ = some (.slice A1_0 l1_0.length c1_0) ∧ w'.cell? ⟨gb477, 1, none⟩ = some (.slice A1_1 l1_1.length c1_1) ∧ w'.cell? ⟨gb477, 2, none⟩ = some (.slice A1_2 l1_2.length c1_2)) (ds := []) #[false, false, false, false, false] (by kernel_rfl) rfl rfl ⟨(blk_cell BK518.out 0).trans rfl, (blk_cell BK518.out 1).trans rfl, (blk_cell BK518.out 2).trans rfl, (blk_cell BK477.out 0).trans rfl, (blk_cell BK477.out 1).trans rfl, (blk_cell BK477.out 2).trans rfl⟩ (fun hHeld => ?_)
            generalize w75.drew = w76 at HO482 HO485 HO488 HO491 HO494 HO497 HO501 HO504 HO507 HO511 HO514 HO517 HO522 HO525 HO528 BK476 BK477 BK508 BK518 HB hHeld ⊢
            refine take_ (i := 0) (N := some 40) (v := ?_) (a' := ?_) #[true, false, false, false, false] rfl rfl (by kernel_rfl) (fun _ _ _ h => h) (Or.inl ⟨by rfl, ?_⟩) hHeld ?_ ?_
            rotate_left
            · rintro w' ⟨s0, s1, s2, s3, s4, s5⟩
              go_simp
              with_reducible rfl
            rotate_left
            · simp only [Act.put, List.setIfInBounds_toArray, List.set_cons_zero, List.set_cons_succ, i64_w, i32_w]
              rfl
            refine take_ (i := 1) (N := some 41) (v := ?_) (a' := ?_) #[true, true, false, false, false] rfl rfl (by kernel_rfl) (fun _ _ _ h => h) (Or.inl ⟨by rfl, ?_⟩) hHeld ?_ ?_
            rotate_left
            · rintro w' ⟨s0, s1, s2, s3, s4, s5⟩
              go_simp
              with_reducible rfl
            rotate_left
            · simp only [Act.put, List.setIfInBounds_toArray, List.set_cons_zero, List.set_cons_succ, i64_w, i32_w]
              rfl
            refine one_ (i := 2) (N := some 42) #[true, true, true, false, false] rfl rfl (by kernel_rfl) (by decide) (fun K hK => ?_)
            refine goes_ Try.func37 (by kernel_rfl) rfl #[.agg #[.slice A1_0 l1_0.length c1_0, .slice A1_1 l1_1.length c1_1, .slice A1_2 l1_2.length c1_2]] (by rfl) rfl rfl (by (try simp only [List.map_toArray, List.map_cons, List.map_nil]); first | done | rfl | (simp only [List.length_drop, List.length_take]; rfl)) ?_
            with_reducible refine (laws_toDfa.calls k _ _ l1_0 _ _ l1_1 _ _ l1_2 t530 t533 t536 _ ?side1 ?side2 ?side3 ?side4 ?side5 ?side6 A29.out).mono ?_
            (case side1 => repeat (first | exact (Kd.C_below HR1_0.out HB.out) | (with_reducible refine Kd.C_alloc ?_ _) | (with_reducible refine Kd.C_drewN ?_ _) | (with_reducible refine Kd.C_drew ?_)))
            (case side2 => exact HC1_0.out)
            (case side3 => repeat (first | exact (Kd.C_below HR1_1.out HB.out) | (with_reducible refine Kd.C_alloc ?_ _) | (with_reducible refine Kd.C_drewN ?_ _) | (with_reducible refine Kd.C_drew ?_)))
            (case side4 => exact HC1_1.out)
            (case side5 => repeat (first | exact (Kd.C_below HR1_2.out HB.out) | (with_reducible refine Kd.C_alloc ?_ _) | (with_reducible refine Kd.C_drewN ?_ _) | (with_reducible refine Kd.C_drew ?_)))
            (case side6 => exact HC1_2.out)
            rintro e w77 ⟨v531, v534, v537, rfl, ho0, ho1, ho2, hb⟩
            refine ⟨_, rfl, ?_⟩
            have n0_ := Aside0.mk (Kd.S_elder' (by (with_reducible repeat (first | apply Kd.S_alloc | apply Kd.S_drewN | apply Kd.S_drew)); exact HO482.out) (Kd.S_base ho0) hb)
            have n1_ := Aside0.mk (Kd.S_mono (Kd.S_told (Kd.S_told (Kd.S_old (by (with_reducible repeat (first | apply Kd.S_alloc | apply Kd.S_drewN | apply Kd.S_drew)); exact HO485.out) hb) (Kd.S_base ho1)) (Kd.R_base ho2)) (fun _ h_ => h_.1))
            have n2_ := Aside0.mk (Kd.R_elder' (by (with_reducible repeat (first | apply Kd.R_alloc | apply Kd.R_drewN | apply Kd.R_drew)); exact HO488.out) (Kd.R_base ho2) hb)
            have n3_ := Aside0.mk (Kd.S_elder' (by (with_reducible repeat (first | apply Kd.S_alloc | apply Kd.S_drewN | apply Kd.S_drew)); exact HO491.out) (Kd.S_base ho0) hb)
            have n4_ := Aside0.mk (Kd.S_mono (Kd.S_told (Kd.S_told (Kd.S_old (by (with_reducible repeat (first | apply Kd.S_alloc | apply Kd.S_drewN | apply Kd.S_drew)); exact HO494.out) hb) (Kd.S_base ho1)) (Kd.R_base ho2)) (fun _ h_ => h_.1))
            have n5_ := Aside0.mk (Kd.R_elder' (by (with_reducible repeat (first | apply Kd.R_alloc | apply Kd.R_drewN | apply Kd.R_drew)); exact HO497.out) (Kd.R_base ho2) hb)
            have n6_ := Aside0.mk (Kd.S_elder' (by (with_reducible repeat (first | apply Kd.S_alloc | apply Kd.S_drewN | apply Kd.S_drew)); exact HO501.out) (Kd.S_base ho0) hb)
            have n7_ := Aside0.mk (Kd.S_mono (Kd.S_told (Kd.S_told (Kd.S_old (by (with_reducible repeat (first | apply Kd.S_alloc | apply Kd.S_drewN | apply Kd.S_drew)); exact HO504.out) hb) (Kd.S_base ho1)) (Kd.R_base ho2)) (fun _ h_ => h_.1))
            have n8_ := Aside0.mk (Kd.R_elder' (by (with_reducible repeat (first | apply Kd.R_alloc | apply Kd.R_drewN | apply Kd.R_drew)); exact HO507.out) (Kd.R_base ho2) hb)
            have n9_ := Aside0.mk (Kd.S_elder' (by (with_reducible repeat (first | apply Kd.S_alloc | apply Kd.S_drewN | apply Kd.S_drew)); exact HO511.out) (Kd.S_base ho0) hb)
            have n10_ := Aside0.mk (Kd.S_mono (Kd.S_told (Kd.S_told (Kd.S_old (by (with_reducible repeat (first | apply Kd.S_alloc | apply Kd.S_drewN | apply Kd.S_drew)); exact HO514.out) hb) (Kd.S_base ho1)) (Kd.R_base ho2)) (fun _ h_ => h_.1))
            have n11_ := Aside0.mk (Kd.R_elder' (by (with_reducible repeat (first | apply Kd.R_alloc | apply Kd.R_drewN | apply Kd.R_drew)); exact HO517.out) (Kd.R_base ho2) hb)
            have n12_ := Aside0.mk (Kd.S_elder' (by (with_reducible repeat (first | apply Kd.S_alloc | apply Kd.S_drewN | apply Kd.S_drew)); exact HO522.out) (Kd.S_base ho0) hb)
            have n13_ := Aside0.mk (Kd.S_mono (Kd.S_told (Kd.S_told (Kd.S_old (by (with_reducible repeat (first | apply Kd.S_alloc | apply Kd.S_drewN | apply Kd.S_drew)); exact HO525.out) hb) (Kd.S_base ho1)) (Kd.R_base ho2)) (fun _ h_ => h_.1))
            have n14_ := Aside0.mk (Kd.R_elder' (by (with_reducible repeat (first | apply Kd.R_alloc | apply Kd.R_drewN | apply Kd.R_drew)); exact HO528.out) (Kd.R_base ho2) hb)
            have n15_ := Aside0.mk (Kd.S_lower (Kd.S_new' (Kd.S_new' (Kd.S_new' (Kd.S_new' (Kd.S_new' ho0 (Kd.S_lt (by (with_reducible repeat (first | apply Kd.S_alloc | apply Kd.S_drewN | apply Kd.S_drew)); exact HO482.out))) (Kd.S_lt (by (with_reducible repeat (first | apply Kd.S_alloc | apply Kd.S_drewN | apply Kd.S_drew)); exact HO491.out))) (Kd.S_lt (by (with_reducible repeat (first | apply Kd.S_alloc | apply Kd.S_drewN | apply Kd.S_drew)); exact HO501.out))) (Kd.S_lt (by (with_reducible repeat (first | apply Kd.S_alloc | apply Kd.S_drewN | apply Kd.S_drew)); exact HO511.out))) (Kd.S_lt (by (with_reducible repeat (first | apply Kd.S_alloc | apply Kd.S_drewN | apply Kd.S_drew)); exact HO522.out))) (below_size (by repeat (first | (with_reducible first | exact HB.out | apply below_alloc | apply pw_below_drewN | apply below_drew1 | refine below_set ?_ GE476.out | refine below_set ?_ GE477.out | refine below_set ?_ GE508.out | refine below_set ?_ GE518.out) | exact HB.out))))
            have n16_ := Aside0.mk (Kd.S_lower (Kd.S_new' (Kd.S_new' (Kd.S_new' (Kd.S_new' (Kd.S_new' (Kd.S_new' (Kd.S_new' (Kd.S_new' (Kd.S_new' (Kd.S_new' ho1 (Kd.S_lt (by (with_reducible repeat (first | apply Kd.S_alloc | apply Kd.S_drewN | apply Kd.S_drew)); exact HO485.out))) (Kd.R_lt (by (with_reducible repeat (first | apply Kd.R_alloc | apply Kd.R_drewN | apply Kd.R_drew)); exact HO488.out))) (Kd.S_lt (by (with_reducible repeat (first | apply Kd.S_alloc | apply Kd.S_drewN | apply Kd.S_drew)); exact HO494.out))) (Kd.R_lt (by (with_reducible repeat (first | apply Kd.R_alloc | apply Kd.R_drewN | apply Kd.R_drew)); exact HO497.out))) (Kd.S_lt (by (with_reducible repeat (first | apply Kd.S_alloc | apply Kd.S_drewN | apply Kd.S_drew)); exact HO504.out))) (Kd.R_lt (by (with_reducible repeat (first | apply Kd.R_alloc | apply Kd.R_drewN | apply Kd.R_drew)); exact HO507.out))) (Kd.S_lt (by (with_reducible repeat (first | apply Kd.S_alloc | apply Kd.S_drewN | apply Kd.S_drew)); exact HO514.out))) (Kd.R_lt (by (with_reducible repeat (first | apply Kd.R_alloc | apply Kd.R_drewN | apply Kd.R_drew)); exact HO517.out))) (Kd.S_lt (by (with_reducible repeat (first | apply Kd.S_alloc | apply Kd.S_drewN | apply Kd.S_drew)); exact HO525.out))) (Kd.R_lt (by (with_reducible repeat (first | apply Kd.R_alloc | apply Kd.R_drewN | apply Kd.R_drew)); exact HO528.out))) (below_size (by repeat (first | (with_reducible first | exact HB.out | apply below_alloc | apply pw_below_drewN | apply below_drew1 | refine below_set ?_ GE476.out | refine below_set ?_ GE477.out | refine below_set ?_ GE508.out | refine below_set ?_ GE518.out) | exact HB.out))))
            have n17_ := Aside0.mk (Kd.R_lower (Kd.R_new' (Kd.R_new' (Kd.R_new' (Kd.R_new' (Kd.R_new' ho2 (Kd.R_lt (by (with_reducible repeat (first | apply Kd.R_alloc | apply Kd.R_drewN | apply Kd.R_drew)); exact HO488.out))) (Kd.R_lt (by (with_reducible repeat (first | apply Kd.R_alloc | apply Kd.R_drewN | apply Kd.R_drew)); exact HO497.out))) (Kd.R_lt (by (with_reducible repeat (first | apply Kd.R_alloc | apply Kd.R_drewN | apply Kd.R_drew)); exact HO507.out))) (Kd.R_lt (by (with_reducible repeat (first | apply Kd.R_alloc | apply Kd.R_drewN | apply Kd.R_drew)); exact HO517.out))) (Kd.R_lt (by (with_reducible repeat (first | apply Kd.R_alloc | apply Kd.R_drewN | apply Kd.R_drew)); exact HO528.out))) (below_size (by repeat (first | (with_reducible first | exact HB.out | apply below_alloc | apply pw_below_drewN | apply below_drew1 | refine below_set ?_ GE476.out | refine below_set ?_ GE477.out | refine below_set ?_ GE508.out | refine below_set ?_ GE518.out) | exact HB.out))))
            have n18_ := Aside0.mk (blk_below (g := gb476) (o := .cells #[.slice A0_0 l0_0.length c0_0, .slice A0_1 l0_1.length c0_1, .slice A0_2 l0_2.length c0_2] 50 (0, 0)) (by (with_reducible repeat (first | refine blk_drewN ?_ _ | refine blk_drew ?_ | refine blk_alloc ?_ _)); exact BK476.out) hb)
            have n19_ := Aside0.mk (blk_below (g := gb477) (o := .cells #[.slice A1_0 l1_0.length c1_0, .slice A1_1 l1_1.length c1_1, .slice A1_2 l1_2.length c1_2] 50 (0, 0)) (by (with_reducible repeat (first | refine blk_drewN ?_ _ | refine blk_drew ?_ | refine blk_alloc ?_ _)); exact BK477.out) hb)
            have n20_ := Aside0.mk (blk_below (g := gb508) (o := .cells #[.slice Ao52 t499.length co52, .slice Ao56 t502.length co56, .slice Ao57 t505.length co57] 55 (0, 0)) (by (with_reducible repeat (first | refine blk_drewN ?_ _ | refine blk_drew ?_ | refine blk_alloc ?_ _)); exact BK508.out) hb)
            have n21_ := Aside0.mk (blk_below (g := gb518) (o := .cells #[.slice Ao61 t509.length co61, .slice Ao66 t512.length co66, .slice Ao67 t515.length co67] 55 (0, 0)) (by (with_reducible repeat (first | refine blk_drewN ?_ _ | refine blk_drew ?_ | refine blk_alloc ?_ _)); exact BK518.out) hb)
            have n22_ := Aside0.mk (below_step (by repeat (first | (with_reducible first | exact HB.out | apply below_alloc | apply pw_below_drewN | apply below_drew1 | refine below_set ?_ GE476.out | refine below_set ?_ GE477.out | refine below_set ?_ GE508.out | refine below_set ?_ GE518.out) | exact HB.out)) hb)
            clear HO482
            clear HO485
            clear HO488
            clear HO491
            clear HO494
            clear HO497
            clear HO501
            clear HO504
            clear HO507
            clear HO511
            clear HO514
            clear HO517
            clear HO522
            clear HO525
            clear HO528
            clear BK476
            clear BK477
            clear BK508
            clear BK518
            clear HB
            have HO482 := n0_
            have HO485 := n1_
            have HO488 := n2_
            have HO491 := n3_
            have HO494 := n4_
            have HO497 := n5_
            have HO501 := n6_
            have HO504 := n7_
            have HO507 := n8_
            have HO511 := n9_
            have HO514 := n10_
            have HO517 := n11_
            have HO522 := n12_
            have HO525 := n13_
            have HO528 := n14_
            have HO532 := n15_
            have HO535 := n16_
            have HO538 := n17_
            have BK476 := n18_
            have BK477 := n19_
            have BK508 := n20_
            have BK518 := n21_
            have HB := n22_
            clear n0_ n1_ n2_ n3_ n4_ n5_ n6_ n7_ n8_ n9_ n10_ n11_ n12_ n13_ n14_ n15_ n16_ n17_ n18_ n19_ n20_ n21_ n22_
            (try clear hb)
            (try clear hb2)
            (try clear hk)
            (try clear hi)
            (try clear ho0)
            (try clear ho1)
            (try clear ho2)
            obtain ⟨Ao78, co78, eo78⟩ := Kd.S_slice HO532.out
            (first | subst eo78 | (injection eo78 with f1_ f2_ f3_; have f4_ := f1_.symm; have f5_ := f3_.symm; clear f1_ f2_ f3_; subst f4_; subst f5_))
            obtain ⟨Ao79, co79, eo79⟩ := Kd.S_slice HO535.out
            (first | subst eo79 | (injection eo79 with f1_ f2_ f3_; have f4_ := f1_.symm; have f5_ := f3_.symm; clear f1_ f2_ f3_; subst f4_; subst f5_))
            obtain ⟨Ao80, co80, eo80⟩ := Kd.R_slice HO538.out
            (first | subst eo80 | (injection eo80 with f1_ f2_ f3_; have f4_ := f1_.symm; have f5_ := f3_.symm; clear f1_ f2_ f3_; subst f4_; subst f5_))
            refine hK.out _ _ ⟨(blk_cell BK518.out 0).trans rfl, (blk_cell BK518.out 1).trans rfl, (blk_cell BK518.out 2).trans rfl, (blk_cell BK477.out 0).trans rfl, (blk_cell BK477.out 1).trans rfl, (blk_cell BK477.out 2).trans rfl⟩ (fun hHeld => ?_)
            clear hK K
            refine norm_ (a' := ?_) ?_ ?_
            rotate_left
            · show Act.put _ (some 42) _ = _
              simp only [Act.put, List.setIfInBounds_toArray, List.set_cons_zero, List.set_cons_succ, i64_w, i32_w]
              rfl
            refine one_ (i := 3) (N := some 43) #[true, true, true, true, false] rfl rfl (by kernel_rfl) (by decide) (fun K hK => ?_)
            refine goes_ Try.func39 (by kernel_rfl) rfl #[.agg #[.slice Ao61 t509.length co61, .slice Ao66 t512.length co66, .slice Ao67 t515.length co67], .agg #[.slice Ao78 t530.length co78, .slice Ao79 t533.length co79, .slice Ao80 t536.length co80]] (by rfl) rfl rfl (by (try simp only [List.map_toArray, List.map_cons, List.map_nil]); first | done | rfl | (simp only [List.length_drop, List.length_take]; rfl)) ?_
            with_reducible refine (laws_eqDfa.calls k _ _ t509 _ _ t512 _ _ t515 _ _ t530 _ _ t533 _ _ t536 true _ ?side1 ?side2 ?side3 ?side4 ?side5 ?side6 ?side7 ?side8 ?side9 ?side10 ?side11 ?side12 A30.out).mono ?_
            (case side1 => repeat (first | exact (Kd.S_reads' HO511.out).2.2 | (with_reducible refine Kd.C_alloc ?_ _) | (with_reducible refine Kd.C_drewN ?_ _) | (with_reducible refine Kd.C_drew ?_)))
            (case side2 => exact (Kd.S_reads' HO511.out).2.1)
            (case side3 => repeat (first | exact (Kd.S_reads' HO514.out).2.2 | (with_reducible refine Kd.C_alloc ?_ _) | (with_reducible refine Kd.C_drewN ?_ _) | (with_reducible refine Kd.C_drew ?_)))
            (case side4 => exact (Kd.S_reads' HO514.out).2.1)
            (case side5 => repeat (first | exact (Kd.R_reads' HO517.out).2.2 | (with_reducible refine Kd.C_alloc ?_ _) | (with_reducible refine Kd.C_drewN ?_ _) | (with_reducible refine Kd.C_drew ?_)))
            (case side6 => exact (Kd.R_reads' HO517.out).2.1)
            (case side7 => repeat (first | exact (Kd.S_reads' HO532.out).2.2 | (with_reducible refine Kd.C_alloc ?_ _) | (with_reducible refine Kd.C_drewN ?_ _) | (with_reducible refine Kd.C_drew ?_)))
            (case side8 => exact (Kd.S_reads' HO532.out).2.1)
            (case side9 => repeat (first | exact (Kd.S_reads' HO535.out).2.2 | (with_reducible refine Kd.C_alloc ?_ _) | (with_reducible refine Kd.C_drewN ?_ _) | (with_reducible refine Kd.C_drew ?_)))
            (case side10 => exact (Kd.S_reads' HO535.out).2.1)
            (case side11 => repeat (first | exact (Kd.R_reads' HO538.out).2.2 | (with_reducible refine Kd.C_alloc ?_ _) | (with_reducible refine Kd.C_drewN ?_ _) | (with_reducible refine Kd.C_drew ?_)))
            (case side12 => exact (Kd.R_reads' HO538.out).2.1)
            rintro e w81 ⟨rfl, hb⟩
            refine ⟨_, rfl, ?_⟩
            have n0_ := Aside0.mk (Kd.S_below (by (with_reducible repeat (first | apply Kd.S_alloc | apply Kd.S_drewN | apply Kd.S_drew)); exact HO482.out) hb)
            have n1_ := Aside0.mk (Kd.S_below (by (with_reducible repeat (first | apply Kd.S_alloc | apply Kd.S_drewN | apply Kd.S_drew)); exact HO485.out) hb)
            have n2_ := Aside0.mk (Kd.R_below (by (with_reducible repeat (first | apply Kd.R_alloc | apply Kd.R_drewN | apply Kd.R_drew)); exact HO488.out) hb)
            have n3_ := Aside0.mk (Kd.S_below (by (with_reducible repeat (first | apply Kd.S_alloc | apply Kd.S_drewN | apply Kd.S_drew)); exact HO491.out) hb)
            have n4_ := Aside0.mk (Kd.S_below (by (with_reducible repeat (first | apply Kd.S_alloc | apply Kd.S_drewN | apply Kd.S_drew)); exact HO494.out) hb)
            have n5_ := Aside0.mk (Kd.R_below (by (with_reducible repeat (first | apply Kd.R_alloc | apply Kd.R_drewN | apply Kd.R_drew)); exact HO497.out) hb)
            have n6_ := Aside0.mk (Kd.S_below (by (with_reducible repeat (first | apply Kd.S_alloc | apply Kd.S_drewN | apply Kd.S_drew)); exact HO501.out) hb)
            have n7_ := Aside0.mk (Kd.S_below (by (with_reducible repeat (first | apply Kd.S_alloc | apply Kd.S_drewN | apply Kd.S_drew)); exact HO504.out) hb)
            have n8_ := Aside0.mk (Kd.R_below (by (with_reducible repeat (first | apply Kd.R_alloc | apply Kd.R_drewN | apply Kd.R_drew)); exact HO507.out) hb)
            have n9_ := Aside0.mk (Kd.S_below (by (with_reducible repeat (first | apply Kd.S_alloc | apply Kd.S_drewN | apply Kd.S_drew)); exact HO511.out) hb)
            have n10_ := Aside0.mk (Kd.S_below (by (with_reducible repeat (first | apply Kd.S_alloc | apply Kd.S_drewN | apply Kd.S_drew)); exact HO514.out) hb)
            have n11_ := Aside0.mk (Kd.R_below (by (with_reducible repeat (first | apply Kd.R_alloc | apply Kd.R_drewN | apply Kd.R_drew)); exact HO517.out) hb)
            have n12_ := Aside0.mk (Kd.S_below (by (with_reducible repeat (first | apply Kd.S_alloc | apply Kd.S_drewN | apply Kd.S_drew)); exact HO522.out) hb)
            have n13_ := Aside0.mk (Kd.S_below (by (with_reducible repeat (first | apply Kd.S_alloc | apply Kd.S_drewN | apply Kd.S_drew)); exact HO525.out) hb)
            have n14_ := Aside0.mk (Kd.R_below (by (with_reducible repeat (first | apply Kd.R_alloc | apply Kd.R_drewN | apply Kd.R_drew)); exact HO528.out) hb)
            have n15_ := Aside0.mk (Kd.S_below (by (with_reducible repeat (first | apply Kd.S_alloc | apply Kd.S_drewN | apply Kd.S_drew)); exact HO532.out) hb)
            have n16_ := Aside0.mk (Kd.S_below (by (with_reducible repeat (first | apply Kd.S_alloc | apply Kd.S_drewN | apply Kd.S_drew)); exact HO535.out) hb)
            have n17_ := Aside0.mk (Kd.R_below (by (with_reducible repeat (first | apply Kd.R_alloc | apply Kd.R_drewN | apply Kd.R_drew)); exact HO538.out) hb)
            have n18_ := Aside0.mk (blk_below (g := gb476) (o := .cells #[.slice A0_0 l0_0.length c0_0, .slice A0_1 l0_1.length c0_1, .slice A0_2 l0_2.length c0_2] 50 (0, 0)) (by (with_reducible repeat (first | refine blk_drewN ?_ _ | refine blk_drew ?_ | refine blk_alloc ?_ _)); exact BK476.out) hb)
            have n19_ := Aside0.mk (blk_below (g := gb477) (o := .cells #[.slice A1_0 l1_0.length c1_0, .slice A1_1 l1_1.length c1_1, .slice A1_2 l1_2.length c1_2] 50 (0, 0)) (by (with_reducible repeat (first | refine blk_drewN ?_ _ | refine blk_drew ?_ | refine blk_alloc ?_ _)); exact BK477.out) hb)
            have n20_ := Aside0.mk (blk_below (g := gb508) (o := .cells #[.slice Ao52 t499.length co52, .slice Ao56 t502.length co56, .slice Ao57 t505.length co57] 55 (0, 0)) (by (with_reducible repeat (first | refine blk_drewN ?_ _ | refine blk_drew ?_ | refine blk_alloc ?_ _)); exact BK508.out) hb)
            have n21_ := Aside0.mk (blk_below (g := gb518) (o := .cells #[.slice Ao61 t509.length co61, .slice Ao66 t512.length co66, .slice Ao67 t515.length co67] 55 (0, 0)) (by (with_reducible repeat (first | refine blk_drewN ?_ _ | refine blk_drew ?_ | refine blk_alloc ?_ _)); exact BK518.out) hb)
            have n22_ := Aside0.mk (below_step (by repeat (first | (with_reducible first | exact HB.out | apply below_alloc | apply pw_below_drewN | apply below_drew1 | refine below_set ?_ GE476.out | refine below_set ?_ GE477.out | refine below_set ?_ GE508.out | refine below_set ?_ GE518.out) | exact HB.out)) hb)
            clear HO482
            clear HO485
            clear HO488
            clear HO491
            clear HO494
            clear HO497
            clear HO501
            clear HO504
            clear HO507
            clear HO511
            clear HO514
            clear HO517
            clear HO522
            clear HO525
            clear HO528
            clear HO532
            clear HO535
            clear HO538
            clear BK476
            clear BK477
            clear BK508
            clear BK518
            clear HB
            have HO482 := n0_
            have HO485 := n1_
            have HO488 := n2_
            have HO491 := n3_
            have HO494 := n4_
            have HO497 := n5_
            have HO501 := n6_
            have HO504 := n7_
            have HO507 := n8_
            have HO511 := n9_
            have HO514 := n10_
            have HO517 := n11_
            have HO522 := n12_
            have HO525 := n13_
            have HO528 := n14_
            have HO532 := n15_
            have HO535 := n16_
            have HO538 := n17_
            have BK476 := n18_
            have BK477 := n19_
            have BK508 := n20_
            have BK518 := n21_
            have HB := n22_
            clear n0_ n1_ n2_ n3_ n4_ n5_ n6_ n7_ n8_ n9_ n10_ n11_ n12_ n13_ n14_ n15_ n16_ n17_ n18_ n19_ n20_ n21_ n22_
            (try clear hb)
            (try clear hb2)
            (try clear hk)
            (try clear hi)
            refine hK.out _ _ ⟨(blk_cell BK518.out 0).trans rfl, (blk_cell BK518.out 1).trans rfl, (blk_cell BK518.out 2).trans rfl, (blk_cell BK477.out 0).trans rfl, (blk_cell BK477.out 1).trans rfl, (blk_cell BK477.out 2).trans rfl⟩ (fun hHeld => ?_)
            clear hK K
            refine norm_ (a' := ?_) ?_ ?_
            rotate_left
            · show Act.put _ (some 43) _ = _
              simp only [Act.put, List.setIfInBounds_toArray, List.set_cons_zero, List.set_cons_succ, i64_w, i32_w]
              rfl
            refine pure_ (i := 4) (N := some 44) (v := ?_) (a' := ?_) #[true, true, true, true, true] rfl rfl (by kernel_rfl) (fun _ _ _ h => h) (Or.inl ⟨by rfl, ?_⟩) ?_ ?_
            rotate_left
            · intro w'
              go_simp
              with_reducible rfl
            rotate_left
            · simp only [Act.put, List.setIfInBounds_toArray, List.set_cons_zero, List.set_cons_succ, i64_w, i32_w]
              rfl
            refine done_ (by kernel_rfl) ?_
            try go_wp2
            go_ret
            exact ⟨by first | rfl | (simp [errW_none, errW_some] <;> rfl) | (simp [*, errW_none, errW_some] <;> rfl), by repeat (first | (with_reducible first | exact HB.out | apply below_alloc | apply pw_below_drewN | apply below_drew1 | refine below_set ?_ GE476.out | refine below_set ?_ GE477.out | refine below_set ?_ GE508.out | refine below_set ?_ GE518.out) | exact HB.out)⟩
          · replace c31 := Bool.eq_false_iff.mpr c31
            subst c31
            have H1 : (some false) = some r := by rw [if_neg (show ¬ (false = true) by decide)] at H; exact H
            clear H
            have H := H1
            clear H1
            exact absurd ((Option.some.inj H).trans HT.out) (by decide)
        · replace c28 := Bool.eq_false_iff.mpr c28
          subst c28
          have H1 : (some false) = some r := by rw [if_neg (show ¬ (false = true) by decide)] at H; exact H
          clear H
          have H := H1
          clear H1
          exact absurd ((Option.some.inj H).trans HT.out) (by decide)

end Go.Proofs.Ytljaoggbfoimfaa.P

/- What the arguments of FnExactDfaSame are read as, and the plain statement that is left of it. -/
set_option linter.unusedVariables false
set_option linter.unusedSimpArgs false
namespace Go.Proofs.Ytljaoggbfoimfaa.Pure
open Go.RowKit Go.Proofs.Ytljaoggbfoimfaa.P Go.Proofs.YtljaoggbfoimfaaW.PrintWords Go.Proofs.YtljaoggbfoimfaaW.PrintLast Go.Proofs.Ytljaoggbfoimfaa.Rd
namespace FnExactDfaSame
def B131 (x : S131) : Prop := ((Lit.int .i64 x.f0).wf = true) ∧ ((Lit.int .i64 x.f1).wf = true)
theorem rd131 (n : Nat) : Rd Try.prog n 131 k131 B131 :=
  ((Rd.iso (d := (Kd.pair (Kd.int .i64) (Kd.int .i64))) (Rd.struct Try.underlying131 rfl (by kernel_rfl) (Fs.cons (Rd.int _ Try.underlying3) rfl (by kernel_rfl) (Fs.one (Rd.int _ Try.underlying3) rfl (by kernel_rfl)))) (fun x : S131 => (x.f0, x.f1)) (fun p => ⟨p.1, p.2⟩) (fun _ => rfl)).le (Nat.le_succ n)).imp (fun _ hx => hx)
def Said : Prop := ∀ (l0_0 : (List (List S131))) (l0_1 : (List (List Int))) (l0_2 : (List Int)) (l1_0 : (List (List S131))) (l1_1 : (List (List Int))) (l1_2 : (List Int)), (l0_0.length * 24 ≤ reachBytes ∧ ∀ y4 ∈ l0_0, (y4.length * 16 ≤ reachBytes ∧ ∀ y2 ∈ y4, B131 y2)) → (l0_1.length * 24 ≤ reachBytes ∧ ∀ y4 ∈ l0_1, (y4.length * 8 ≤ reachBytes ∧ ∀ y2 ∈ y4, (Lit.int .i64 y2).wf = true)) → (l0_2.length * 8 ≤ reachBytes ∧ ∀ y4 ∈ l0_2, (Lit.int .i64 y4).wf = true) → (l1_0.length * 24 ≤ reachBytes ∧ ∀ y4 ∈ l1_0, (y4.length * 16 ≤ reachBytes ∧ ∀ y2 ∈ y4, B131 y2)) → (l1_1.length * 24 ≤ reachBytes ∧ ∀ y4 ∈ l1_1, (y4.length * 8 ≤ reachBytes ∧ ∀ y2 ∈ y4, (Lit.int .i64 y2).wf = true)) → (l1_2.length * 8 ≤ reachBytes ∧ ∀ y4 ∈ l1_2, (Lit.int .i64 y4).wf = true) → ∃ k, laws_FnExactDfaSame.f k l0_0 l0_1 l0_2 l1_0 l1_1 l1_2 = some true
end FnExactDfaSame
end Go.Proofs.Ytljaoggbfoimfaa.Pure

/- Plain lemmas on functions with rounds: what a loop over a list comes to. Conditions: stated at each. -/
set_option linter.unusedVariables false
set_option linter.unusedSimpArgs false
namespace Go.Proofs.Ytljaoggbfoimfaa.P
open Go.Proofs.YtljaoggbfoimfaaW.PrintWords Go.RowKit

/-- Is it so, as a Bool. -/
noncomputable def yes (p : Prop) : Bool := @decide p (Classical.propDecidable p)
theorem yes_pos {p : Prop} (h : p) : yes p = true := by unfold yes; exact @decide_eq_true p (Classical.propDecidable p) h
theorem yes_neg {p : Prop} (h : ¬ p) : yes p = false := by unfold yes; exact @decide_eq_false p (Classical.propDecidable p) h
theorem yes_iff {p : Prop} : yes p = true ↔ p := by
  constructor
  · intro h
    by_cases hp : p
    · exact hp
    · rw [yes_neg hp] at h; cases h
  · exact yes_pos
theorem yes_congr {p q : Prop} (h : p ↔ q) : yes p = yes q := by rw [propext h]
theorem yes_bool (b : Bool) : yes (b = true) = b := by
  cases b
  · exact yes_neg (by simp)
  · exact yes_pos rfl
theorem yes_decide (p : Prop) [Decidable p] : decide p = yes p := by
  by_cases h : p
  · rw [yes_pos h, decide_eq_true h]
  · rw [yes_neg h, decide_eq_false h]

end Go.Proofs.Ytljaoggbfoimfaa.P
namespace Go.Proofs.YtljaoggbfoimfaaW.PrintWords
theorem Ev.succ {α : Type} {g : Nat → Option α} {r : α} (h : Ev (fun k => g (k + 1)) r) : Ev g r := by
  obtain ⟨K, hK⟩ := h
  refine ⟨K + 1, fun k hk => ?_⟩
  obtain ⟨m, rfl⟩ : ∃ m, k = m + 1 := ⟨k - 1, by omega⟩
  exact hK m (by omega)
theorem Ev.late {α : Type} {g f : Nat → Option α} {r : α} (h : ∃ K, ∀ k, K ≤ k → g (k + 1) = f k) (k : Ev f r) : Ev g r := by
  obtain ⟨K, hK⟩ := h
  obtain ⟨K', hK'⟩ := k
  refine ⟨max K K' + 1, fun k hk => ?_⟩
  obtain ⟨m, rfl⟩ : ∃ m, k = m + 1 := ⟨k - 1, by omega⟩
  rw [hK m (by omega), hK' m (by omega)]
theorem Ev.eqs {α : Type} {g : Nat → Option α} {r q : α} (h : Ev g r) (e : r = q) : Ev g q := e ▸ h
theorem Ev.ofEq {α : Type} {g : Nat → Option α} {r : α} (h : ∀ k, g k = some r) : Ev g r := ⟨0, fun k _ => h k⟩
theorem Ev.ofSucc {α : Type} {g : Nat → Option α} {r : α} (h : ∀ k, g (k + 1) = some r) : Ev g r := Ev.succ (Ev.ofEq h)
theorem Ev.one {α : Type} {g : Nat → Option α} {r q : α} (h : Ev g r) (k : Ev g q) : r = q := by
  obtain ⟨K, hK⟩ := h
  obtain ⟨K', hK'⟩ := k
  have h1 := hK (max K K') (by omega)
  rw [hK' _ (by omega)] at h1
  exact (Option.some.inj h1).symm
theorem Ev.eqn {α : Type} {g : Nat → Option α} {r : α} (h : Ev g r) : ∃ K, ∀ k, K ≤ k → g k = some r := h
/-- Ev as rewriting below a bind: what stands first is told. -/
theorem Ev.first {α β : Type} {g : Nat → Option α} {f : Nat → α → Option β} {a : α} {r : β} (h : Ev g a) (k : Ev (fun n => f n a) r) : Ev (fun n => (g n).bind (f n)) r := Ev.bind h k

end Go.Proofs.YtljaoggbfoimfaaW.PrintWords
namespace Go.Proofs.Ytljaoggbfoimfaa.P
open Go.Proofs.YtljaoggbfoimfaaW.PrintWords Go.RowKit
theorem wrap_nat {i : Nat} (h : i < 9000000000000000000) : wrap64 ((i : Int) + 1) = ((i + 1 : Nat) : Int) := by unfold wrap64; omega
theorem wrap_id {i : Int} (h0 : -9000000000000000000 ≤ i) (h : i < 9000000000000000000) : wrap64 i = i := by unfold wrap64; omega

/-- Two lists held against one another, place by place. -/
theorem all2_ev {α : Type} (L : Nat → Int → Option Bool) (xs ys : List α) (hl : xs.length = ys.length)
    (hend : ∀ k, L (k + 1) (xs.length : Int) = some true)
    (hstep : ∀ (i : Nat) (h : i < xs.length) (h' : i < ys.length), ∃ K, ∀ k, K ≤ k → (xs[i] = ys[i] → L (k + 1) (i : Int) = L k ((i + 1 : Nat) : Int)) ∧ (xs[i] ≠ ys[i] → L (k + 1) (i : Int) = some false)) :
    Ev (fun k => L k 0) (yes (xs = ys)) := by
  have key : ∀ d i : Nat, i + d = xs.length → Ev (fun k => L k (i : Int)) (yes (xs.drop i = ys.drop i)) := by
    intro d
    induction d with
    | zero =>
      intro i hi
      have h0 : i = xs.length := by omega
      subst h0
      rw [yes_pos (by rw [List.drop_of_length_le (Nat.le_refl _), List.drop_of_length_le (by omega)])]
      exact Ev.ofSucc (g := fun k => L k (xs.length : Int)) hend
    | succ d ih =>
      intro i hi
      have h1 : i < xs.length := by omega
      have h2 : i < ys.length := by omega
      obtain ⟨K, hK⟩ := hstep i h1 h2
      rw [List.drop_eq_getElem_cons h1, List.drop_eq_getElem_cons h2]
      by_cases he : xs[i] = ys[i]
      · refine (Ev.late (g := fun k => L k (i : Int)) ⟨K, fun k hk => (hK k hk).1 he⟩ (ih (i + 1) (by omega))).eqs (yes_congr ?_)
        rw [List.cons_eq_cons]
        exact ⟨fun h => ⟨he, h⟩, fun h => h.2⟩
      · refine (Ev.late (g := fun k => L k (i : Int)) (f := fun _ => some false) ⟨K, fun k hk => (hK k hk).2 he⟩ (Ev.now false)).eqs (yes_neg ?_).symm
        rw [List.cons_eq_cons]
        exact fun h => he h.1
  exact (key xs.length 0 (by omega)).eqs (by simp)

/-- A list that is filled place by place. -/
theorem fill_ev {α β : Type} (L : Nat → List β → Int → Option (List β)) (xs : List α) (f : α → β)
    (hend : ∀ k r, r.length = xs.length → L (k + 1) r (xs.length : Int) = some r)
    (hstep : ∀ (i : Nat) (h : i < xs.length), ∃ K, ∀ k r, K ≤ k → r.length = xs.length → L (k + 1) r (i : Int) = L k (r.set i (f xs[i])) ((i + 1 : Nat) : Int))
    (r0 : List β) (h0 : r0.length = xs.length) : Ev (fun k => L k r0 0) (xs.map f) := by
  have key : ∀ d i : Nat, i + d = xs.length → ∀ r : List β, r.length = xs.length → (∀ j (h : j < xs.length), j < i → r[j]? = some (f xs[j])) → Ev (fun k => L k r (i : Int)) (xs.map f) := by
    intro d
    induction d with
    | zero =>
      intro i hi r hr hj
      have h0 : i = xs.length := by omega
      subst h0
      refine (Ev.ofSucc (g := fun k => L k r (xs.length : Int)) (fun k => hend k r hr)).eqs ?_
      apply List.ext_getElem?
      intro j
      rcases Nat.lt_or_ge j xs.length with h | h
      · rw [hj j h h]; simp [List.getElem?_eq_getElem h]
      · rw [List.getElem?_eq_none (by omega), List.getElem?_eq_none (by simpa using h)]
    | succ d ih =>
      intro i hi r hr hj
      have h1 : i < xs.length := by omega
      obtain ⟨K, hK⟩ := hstep i h1
      refine Ev.late (g := fun k => L k r (i : Int)) ⟨K, fun k hk => hK k r hk hr⟩ (ih (i + 1) (by omega) _ (by simpa using hr) (fun j h hlt => ?_))
      rcases Nat.lt_or_ge j i with h2 | h2
      · rw [List.getElem?_set_ne (by omega)]; exact hj j h h2
      · have : j = i := by omega
        subst this
        rw [List.getElem?_set_self (by omega)]
  exact key xs.length 0 (by omega) r0 h0 (fun j _ h => by omega)

/-- A loop that goes over a list's places with a state. -/
theorem over_ev {α σ β : Type} (L : Nat → σ → Int → Option β) (xs : List α) (step : Nat → σ → α → σ) (fin : σ → β)
    (hend : ∀ s, Ev (fun k => L k s (xs.length : Int)) (fin s))
    (hstep : ∀ (i : Nat) (h : i < xs.length) (s : σ), ∃ K, ∀ k, K ≤ k → L (k + 1) s (i : Int) = L k (step i s xs[i]) ((i + 1 : Nat) : Int))
    (s : σ) : ∃ r, Ev (fun k => L k s 0) r := by
  have key : ∀ d i : Nat, i + d = xs.length → ∀ s, ∃ r, Ev (fun k => L k s (i : Int)) r := by
    intro d
    induction d with
    | zero =>
      intro i hi s
      have h0 : i = xs.length := by omega
      subst h0
      exact ⟨_, hend s⟩
    | succ d ih =>
      intro i hi s
      have h1 : i < xs.length := by omega
      obtain ⟨r, hr⟩ := ih (i + 1) (by omega) (step i s xs[i])
      exact ⟨r, Ev.late (g := fun k => L k s (i : Int)) (hstep i h1 s) hr⟩
  exact key xs.length 0 (by omega) s
/-- A loop that asks every place. -/
theorem all_ev (L : Nat → Int → Option Bool) (n : Nat) (Q : Nat → Prop) (hend : ∀ k, L (k + 1) (n : Int) = some true)
    (hstep : ∀ (i : Nat), i < n → ∃ K, ∀ k, K ≤ k → (Q i → L (k + 1) (i : Int) = L k ((i + 1 : Nat) : Int)) ∧ (¬ Q i → L (k + 1) (i : Int) = some false)) :
    Ev (fun k => L k 0) (yes (∀ i, i < n → Q i)) := by
  have key : ∀ d i : Nat, i + d = n → Ev (fun k => L k (i : Int)) (yes (∀ j, i ≤ j → j < n → Q j)) := by
    intro d
    induction d with
    | zero =>
      intro i hi
      have h0 : i = n := by omega
      subst h0
      rw [yes_pos (fun j h1 h2 => by omega)]
      exact Ev.ofSucc (g := fun k => L k (i : Int)) hend
    | succ d ih =>
      intro i hi
      have h1 : i < n := by omega
      obtain ⟨K, hK⟩ := hstep i h1
      by_cases he : Q i
      · refine (Ev.late (g := fun k => L k (i : Int)) ⟨K, fun k hk => (hK k hk).1 he⟩ (ih (i + 1) (by omega))).eqs (yes_congr ?_)
        constructor
        · intro h j hj hn
          rcases Nat.lt_or_ge i j with h2 | h2
          · exact h j (by omega) hn
          · have : j = i := by omega
            subst this; exact he
        · exact fun h j hj hn => h j (by omega) hn
      · refine (Ev.late (g := fun k => L k (i : Int)) (f := fun _ => some false) ⟨K, fun k hk => (hK k hk).2 he⟩ (Ev.now false)).eqs (yes_neg fun h => he (h i (Nat.le_refl _) h1)).symm
  exact (key n 0 (by omega)).eqs (yes_congr ⟨fun h i hi => h i (Nat.zero_le _) hi, fun h j _ hj => h j hj⟩)
theorem bytes_len (s : ByteArray) : s.data.toList.length = s.size := by
  rw [Array.length_toList]; rfl
theorem bytes_loop (s : ByteArray) : ∀ (d i : Nat) (r : List UInt8), i + d = s.size → ByteArray.toList.loop s i r = r.reverse ++ s.data.toList.drop i := by
  intro d
  induction d with
  | zero =>
    intro i r h
    unfold ByteArray.toList.loop
    rw [if_neg (by omega), List.drop_of_length_le (by rw [bytes_len]; omega), List.append_nil]
  | succ d ih =>
    intro i r h
    unfold ByteArray.toList.loop
    have hi : i < s.size := by omega
    have hi' : i < s.data.toList.length := by rw [bytes_len]; exact hi
    rw [if_pos hi, ih (i + 1) _ (by omega), List.drop_eq_getElem_cons hi']
    have : s.get! i = s.data.toList[i] := by
      have hd : i < s.data.size := hi
      show s.data[i]! = _
      rw [getElem!_pos s.data i hd, Array.getElem_toList]
    rw [this, List.reverse_cons, List.append_assoc, List.singleton_append]
theorem bytes_data (s : ByteArray) : s.toList = s.data.toList := by
  unfold ByteArray.toList
  rw [bytes_loop s s.size 0 [] (by omega)]
  rfl
theorem bytes_same {a b : ByteArray} : a.toList = b.toList ↔ a = b := by
  rw [bytes_data, bytes_data]
  constructor
  · intro h
    cases a; cases b
    congr 1
    exact Array.toList_inj.1 h
  · intro h; rw [h]
/-- A list that is filled place by place with what is told to exist. -/
theorem fill_ex {α β : Type} (L : Nat → List β → Int → Option (List β)) (xs : List α) (R : α → β → Prop)
    (hend : ∀ k r, r.length = xs.length → L (k + 1) r (xs.length : Int) = some r)
    (hstep : ∀ (i : Nat) (h : i < xs.length), ∃ y, R xs[i] y ∧ ∃ K, ∀ k r, K ≤ k → r.length = xs.length → L (k + 1) r (i : Int) = L k (r.set i y) ((i + 1 : Nat) : Int))
    (r0 : List β) (h0 : r0.length = xs.length) : ∃ ys : List β, ys.length = xs.length ∧ (∀ y ∈ ys, ∃ x ∈ xs, R x y) ∧ Ev (fun k => L k r0 0) ys := by
  have key : ∀ d i : Nat, i + d = xs.length → ∀ r : List β, r.length = xs.length → (∀ j (h : j < xs.length), j < i → ∃ y, r[j]? = some y ∧ R xs[j] y) → ∃ ys : List β, ys.length = xs.length ∧ (∀ y ∈ ys, ∃ x ∈ xs, R x y) ∧ Ev (fun k => L k r (i : Int)) ys := by
    intro d
    induction d with
    | zero =>
      intro i hi r hr hj
      have h0 : i = xs.length := by omega
      subst h0
      refine ⟨r, hr, fun y hy => ?_, Ev.ofSucc (g := fun k => L k r (xs.length : Int)) (fun k => hend k r hr)⟩
      obtain ⟨j, hj'⟩ := List.getElem?_of_mem hy
      have hjl : j < xs.length := by have := (List.getElem?_eq_some_iff.1 hj').1; omega
      obtain ⟨y', e, hR⟩ := hj j hjl hjl
      rw [hj'] at e
      cases e
      exact ⟨xs[j], List.getElem_mem _, hR⟩
    | succ d ih =>
      intro i hi r hr hj
      have h1 : i < xs.length := by omega
      obtain ⟨y, hR, K, hK⟩ := hstep i h1
      obtain ⟨ys, hl, hm, hE⟩ := ih (i + 1) (by omega) (r.set i y) (by simpa using hr) (fun j h hlt => by
        rcases Nat.lt_or_ge j i with h2 | h2
        · rw [List.getElem?_set_ne (by omega)]; exact hj j h h2
        · have : j = i := by omega
          subst this
          exact ⟨y, by rw [List.getElem?_set_self (by omega)], hR⟩)
      exact ⟨ys, hl, hm, Ev.late (g := fun k => L k r (i : Int)) ⟨K, fun k hk => hK k r hk hr⟩ hE⟩
  exact key xs.length 0 (by omega) r0 h0 (fun j _ h => by omega)
/-- A loop with a state, that may end early: it comes to something. -/
theorem walk_ex {σ β : Type} (L : Nat → σ → Int → Option β) (n : Nat) (hend : ∀ s, ∃ r, Ev (fun k => L k s (n : Int)) r)
    (hstep : ∀ (i : Nat), i < n → ∀ s : σ, (∃ r, Ev (fun k => L k s (i : Int)) r) ∨ ∃ s' K, ∀ k, K ≤ k → L (k + 1) s (i : Int) = L k s' ((i + 1 : Nat) : Int))
    (s : σ) : ∃ r, Ev (fun k => L k s 0) r := by
  have key : ∀ d i : Nat, i + d = n → ∀ s, ∃ r, Ev (fun k => L k s (i : Int)) r := by
    intro d
    induction d with
    | zero =>
      intro i hi s
      have h0 : i = n := by omega
      subst h0
      exact hend s
    | succ d ih =>
      intro i hi s
      rcases hstep i (by omega) s with h | ⟨s', hs⟩
      · exact h
      · obtain ⟨r, hr⟩ := ih (i + 1) (by omega) s'
        exact ⟨r, Ev.late (g := fun k => L k s (i : Int)) hs hr⟩
  exact key n 0 (by omega) s
theorem Ev_shift {α : Type} {g : Nat → Option α} {r : α} (h : Ev g r) : Ev (fun k => g (k + 1)) r := by
  obtain ⟨K, hK⟩ := h
  exact ⟨K, fun k hk => hK (k + 1) (by omega)⟩
theorem getD_at {α : Type} {xs : List α} {z : α} {i : Nat} (h : i < xs.length) : xs.getD (i : Int).toNat z = xs[i] := by
  simp [List.getD_eq_getElem?_getD, List.getElem?_eq_getElem h]
end Go.Proofs.Ytljaoggbfoimfaa.P

/- Plain lemmas on lists of flat structs: conversions, comparisons, sizes. Conditions: a list's length is within the reach. -/
set_option linter.unusedVariables false
set_option linter.unusedSimpArgs false
namespace Go.Proofs.Ytljaoggbfoimfaa.P
open Go.Proofs.YtljaoggbfoimfaaW.PrintWords Go.RowKit
/-! ### Span -/
def toSpan (x : S131) : S115 := ⟨x.f0, x.f1⟩
theorem toSpanS_ev (xs : List S131) (hn : xs.length * 16 ≤ 140737488351232) : Ev (fun k => laws_toSpanS.f k xs) (xs.map toSpan) := by
  refine Ev.congr (f := fun k => laws_toSpanS.l0 k xs (List.replicate xs.length z115) 0) (fun k => ?_) ?_
  · show laws_toSpanS.f k xs = _
    unfold laws_toSpanS.f
    rw [if_pos (by omega), if_pos (by rw [Int.toNat_natCast]; omega), Int.toNat_natCast]
  · refine fill_ev (fun k r i => laws_toSpanS.l0 k xs r i) xs toSpan (fun k r hr => ?_) (fun i h => ⟨0, fun k r _ hr => ?_⟩) _ (by simp)
    · show laws_toSpanS.l0 (k + 1) xs r _ = _
      simp only [laws_toSpanS.l0]
      rw [if_neg (by omega)]
    · show laws_toSpanS.l0 (k + 1) xs r _ = laws_toSpanS.l0 k xs _ _
      simp only [laws_toSpanS.l0, laws_toSpan.f]
      rw [if_pos (by omega), if_pos (by omega), Option.bind_some, if_pos (by omega), wrap_nat (by omega), Int.toNat_natCast]
      unfold rd_T131
      rw [getD_at h]
      rfl
theorem spec_SetSame_ev (xs ys : List S115) (hn : xs.length * 16 ≤ 140737488351232) : Ev (fun k => spec_SetSame.f k xs ys) (yes (xs = ys)) := by
  by_cases hl : xs.length = ys.length
  · refine Ev.congr (f := fun k => spec_SetSame.l0 k xs ys 0) (fun k => ?_) ?_
    · show spec_SetSame.f k xs ys = _
      unfold spec_SetSame.f
      rw [if_pos (by omega)]
    · refine all2_ev (fun k i => spec_SetSame.l0 k xs ys i) xs ys hl (fun k => ?_) (fun i h h' => ⟨0, fun k _ => ⟨fun he => ?_, fun he => ?_⟩⟩)
      · show spec_SetSame.l0 (k + 1) xs ys _ = _
        simp only [spec_SetSame.l0]
        rw [if_neg (by omega)]
      · show spec_SetSame.l0 (k + 1) xs ys _ = spec_SetSame.l0 k xs ys _
        simp only [spec_SetSame.l0]
        rw [if_pos (by omega), if_pos (by omega), if_pos (by omega), wrap_nat (by omega)]
        unfold rd_T115
        rw [getD_at h, getD_at h', he]
        simp
      · show spec_SetSame.l0 (k + 1) xs ys _ = _
        simp only [spec_SetSame.l0]
        rw [if_pos (by omega), if_pos (by omega), if_pos (by omega)]
        unfold rd_T115
        rw [getD_at h, getD_at h']
        have hne : ¬ (xs[i].f0 = ys[i].f0 ∧ xs[i].f1 = ys[i].f1) := fun ⟨e0, e1⟩ => he (by cases hx : xs[i]; cases hy : ys[i]; simp_all)
        by_cases e0 : xs[i].f0 = ys[i].f0 <;> by_cases e1 : xs[i].f1 = ys[i].f1 <;> simp_all
  · refine (Ev.congr (f := fun _ => some false) (fun k => ?_) (Ev.now false)).eqs (yes_neg fun h => hl (by rw [h])).symm
    show spec_SetSame.f k xs ys = _
    unfold spec_SetSame.f
    rw [if_neg (by omega)]
theorem impl_same_impl_Span_ev (xs ys : List S115) (hn : xs.length * 16 ≤ 140737488351232) : Ev (fun k => impl_same_impl_Span.f k xs ys) (yes (xs = ys)) := by
  by_cases hl : xs.length = ys.length
  · refine Ev.congr (f := fun k => impl_same_impl_Span.l0 k xs ys (xs.length : Int) 0) (fun k => ?_) ?_
    · show impl_same_impl_Span.f k xs ys = _
      unfold impl_same_impl_Span.f
      rw [if_pos (by omega)]
    · refine all2_ev (fun k i => impl_same_impl_Span.l0 k xs ys (xs.length : Int) i) xs ys hl (fun k => ?_) (fun i h h' => ⟨0, fun k _ => ⟨fun he => ?_, fun he => ?_⟩⟩)
      · show impl_same_impl_Span.l0 (k + 1) xs ys (xs.length : Int) _ = _
        simp only [impl_same_impl_Span.l0]
        rw [if_neg (by omega)]
      · show impl_same_impl_Span.l0 (k + 1) xs ys (xs.length : Int) _ = impl_same_impl_Span.l0 k xs ys (xs.length : Int) _
        simp only [impl_same_impl_Span.l0]
        rw [if_pos (by omega), if_pos (by omega), if_pos (by omega), if_pos (by omega), wrap_nat (by omega)]
        unfold rd_T115
        rw [getD_at h, getD_at h', he]
        simp
      · show impl_same_impl_Span.l0 (k + 1) xs ys (xs.length : Int) _ = _
        simp only [impl_same_impl_Span.l0]
        rw [if_pos (by omega), if_pos (by omega), if_pos (by omega), if_pos (by omega)]
        unfold rd_T115
        rw [getD_at h, getD_at h']
        have hne : ¬ (xs[i].f0 = ys[i].f0 ∧ xs[i].f1 = ys[i].f1) := fun ⟨e0, e1⟩ => he (by cases hx : xs[i]; cases hy : ys[i]; simp_all)
        by_cases e0 : xs[i].f0 = ys[i].f0 <;> by_cases e1 : xs[i].f1 = ys[i].f1 <;> simp_all
  · refine (Ev.congr (f := fun _ => some false) (fun k => ?_) (Ev.now false)).eqs (yes_neg fun h => hl (by rw [h])).symm
    show impl_same_impl_Span.f k xs ys = _
    unfold impl_same_impl_Span.f
    rw [if_neg (by omega)]
theorem impl_SetSame_ev (xs ys : List S115) (hn : xs.length * 16 ≤ 140737488351232) : Ev (fun k => impl_SetSame.f k xs ys) (yes (xs = ys)) := by
  refine (impl_same_impl_Span_ev xs ys hn).bind (f := fun _ t => some t) (Ev.now _)
theorem laws_eqSpanS_ev (xs ys : List S115) (hn : xs.length * 16 ≤ 140737488351232) : Ev (fun k => laws_eqSpanS.f k xs ys) (yes (xs = ys)) := by
  by_cases hl : xs.length = ys.length
  · refine Ev.congr (f := fun k => laws_eqSpanS.l0 k xs ys 0) (fun k => ?_) ?_
    · show laws_eqSpanS.f k xs ys = _
      unfold laws_eqSpanS.f
      rw [if_pos (by omega)]
    · refine all2_ev (fun k i => laws_eqSpanS.l0 k xs ys i) xs ys hl (fun k => ?_) (fun i h h' => ⟨0, fun k _ => ⟨fun he => ?_, fun he => ?_⟩⟩)
      · show laws_eqSpanS.l0 (k + 1) xs ys _ = _
        simp only [laws_eqSpanS.l0]
        rw [if_neg (by omega)]
      · show laws_eqSpanS.l0 (k + 1) xs ys _ = laws_eqSpanS.l0 k xs ys _
        simp only [laws_eqSpanS.l0, laws_eqSpan.f]
        rw [if_pos (by omega), if_pos (by omega), if_pos (by omega), wrap_nat (by omega)]
        unfold rd_T115
        rw [getD_at h, getD_at h', he]
        simp
      · show laws_eqSpanS.l0 (k + 1) xs ys _ = _
        simp only [laws_eqSpanS.l0, laws_eqSpan.f]
        rw [if_pos (by omega), if_pos (by omega), if_pos (by omega)]
        unfold rd_T115
        rw [getD_at h, getD_at h']
        have hne : ¬ (xs[i].f0 = ys[i].f0 ∧ xs[i].f1 = ys[i].f1) := fun ⟨e0, e1⟩ => he (by cases hx : xs[i]; cases hy : ys[i]; simp_all)
        by_cases e0 : xs[i].f0 = ys[i].f0 <;> by_cases e1 : xs[i].f1 = ys[i].f1 <;> simp_all
  · refine (Ev.congr (f := fun _ => some false) (fun k => ?_) (Ev.now false)).eqs (yes_neg fun h => hl (by rw [h])).symm
    show laws_eqSpanS.f k xs ys = _
    unfold laws_eqSpanS.f
    rw [if_neg (by omega)]
theorem szSpanS_some (xs : List S131) (a : Int) : ∃ v, laws_szSpanS.f xs a = some v := by
  unfold laws_szSpanS.f
  split <;> exact ⟨_, rfl⟩
end Go.Proofs.Ytljaoggbfoimfaa.P

/- Machines: lists of whole numbers, lists of lists, and machines of them: conversion, size, comparison. Conditions: each list is within the reach. -/
set_option linter.unusedVariables false
set_option linter.unusedSimpArgs false
namespace Go.Proofs.Ytljaoggbfoimfaa.P
open Go.Proofs.YtljaoggbfoimfaaW.PrintWords Go.RowKit

theorem rd_at {xs : List Int} {i : Nat} (h : i < xs.length) : rd xs (i : Int) = xs[i] := by unfold rd; exact getD_at h
theorem toIntS_ev (xs : List Int) (hn : xs.length * 8 ≤ 140737488351232) : Ev (fun k => laws_toIntS.f k xs) xs := by
  refine Ev.congr (f := fun k => laws_toIntS.l0 k xs (List.replicate xs.length 0) 0) (fun k => ?_) ?_
  · show laws_toIntS.f k xs = _
    unfold laws_toIntS.f
    rw [if_pos (by omega), if_pos (by rw [Int.toNat_natCast]; omega), Int.toNat_natCast]
  · refine (fill_ev (fun k r i => laws_toIntS.l0 k xs r i) xs id (fun k r hr => ?_) (fun i h => ⟨0, fun k r _ hr => ?_⟩) _ (by simp)).eqs (by simp)
    · show laws_toIntS.l0 (k + 1) xs r _ = _
      simp only [laws_toIntS.l0]
      rw [if_neg (by omega)]
    · show laws_toIntS.l0 (k + 1) xs r _ = laws_toIntS.l0 k xs _ _
      simp only [laws_toIntS.l0]
      rw [if_pos (by omega), if_pos (by omega), if_pos (by omega), wrap_nat (by omega), Int.toNat_natCast, rd_at h]
      rfl
theorem szIntS_some (xs : List Int) (a : Int) : ∃ v, laws_szIntS.f xs a = some v := by
  unfold laws_szIntS.f
  split <;> exact ⟨_, rfl⟩

theorem laws_eqIntS_ev (xs ys : List Int) (hn : xs.length * 8 ≤ 140737488351232) : Ev (fun k => laws_eqIntS.f k xs ys) (yes (xs = ys)) := by
  unfold laws_eqIntS.f
  by_cases hl : xs.length = ys.length
  · simp only [if_pos (show (xs.length : Int) = (ys.length : Int) from by omega)]
    refine all2_ev (fun k i => laws_eqIntS.l0 k xs ys i) xs ys hl (fun k => ?_) (fun i h h' => ⟨0, fun k _ => ?_⟩)
    · show laws_eqIntS.l0 (k + 1) xs ys _ = _
      simp only [laws_eqIntS.l0]; rw [if_neg (by omega)]
    · show (_ → laws_eqIntS.l0 (k + 1) xs ys _ = laws_eqIntS.l0 k xs ys _) ∧ (_ → laws_eqIntS.l0 (k + 1) xs ys _ = _)
      simp only [laws_eqIntS.l0]
      rw [if_pos (by omega), if_pos (by omega), if_pos (by omega), rd_at h, rd_at h', wrap_nat (by omega)]
      exact ⟨fun he => by rw [if_pos he], fun he => by rw [if_neg he]⟩
  · simp only [if_neg (show ¬ (xs.length : Int) = (ys.length : Int) from by omega)]
    exact (Ev.now false).eqs (yes_neg fun h => hl (by rw [h])).symm


theorem toSpanSS_ev (xs : List (List S131)) (hn : xs.length * 24 ≤ 140737488351232) (hi : ∀ x ∈ xs, x.length * 16 ≤ 140737488351232) : Ev (fun k => laws_toSpanSS.f k xs) (xs.map (fun l => l.map toSpan)) := by
  refine Ev.congr (f := fun k => laws_toSpanSS.l0 k xs (List.replicate xs.length []) 0) (fun k => ?_) ?_
  · show laws_toSpanSS.f k xs = _
    unfold laws_toSpanSS.f
    rw [if_pos (by omega), if_pos (by rw [Int.toNat_natCast]; omega), Int.toNat_natCast]
  · refine fill_ev (fun k r i => laws_toSpanSS.l0 k xs r i) xs (fun l => l.map toSpan) (fun k r hr => ?_) (fun i h => ?_) _ (by simp)
    · show laws_toSpanSS.l0 (k + 1) xs r _ = _
      simp only [laws_toSpanSS.l0]
      rw [if_neg (by omega)]
    · obtain ⟨K, hK⟩ := toSpanS_ev xs[i] (hi _ (List.getElem_mem h))
      dsimp only at hK
      refine ⟨K, fun k r hk hr => ?_⟩
      show laws_toSpanSS.l0 (k + 1) xs r _ = laws_toSpanSS.l0 k xs _ _
      simp only [laws_toSpanSS.l0]
      unfold rd_L6
      rw [if_pos (by omega), if_pos (by omega), getD_at h, hK k hk, Option.bind_some, if_pos (by omega), wrap_nat (by omega), Int.toNat_natCast]
theorem szSpanSS_ex (xs : List (List S131)) (hn : xs.length * 24 ≤ 140737488351232) (a : Int) : ∃ v, Ev (fun k => laws_szSpanSS.f k xs a) v := by
  unfold laws_szSpanSS.f
  by_cases c : wrap64 (a - (xs.length : Int)) < 0
  · simp only [if_pos c]; exact ⟨_, Ev.now _⟩
  simp only [if_neg c]
  refine walk_ex (fun k s i => laws_szSpanSS.l0 k xs s i) xs.length
    (fun s => ⟨s, Ev.ofSucc (g := fun k => laws_szSpanSS.l0 k xs s _) (fun k => by simp only [laws_szSpanSS.l0]; rw [if_neg (by omega)])⟩)
    (fun i hi s => ?_) _
  obtain ⟨y, hy⟩ := szSpanS_some xs[i] s
  by_cases cy : y < 0
  · refine .inl ⟨-1, Ev.ofSucc (g := fun k => laws_szSpanSS.l0 k xs s _) (fun k => ?_)⟩
    simp only [laws_szSpanSS.l0]
    unfold rd_L6
    rw [if_pos (by omega), if_pos (by omega), getD_at hi, hy, Option.bind_some, if_pos cy]
  · refine .inr ⟨y, 0, fun k hk => ?_⟩
    show laws_szSpanSS.l0 (k + 1) xs s _ = laws_szSpanSS.l0 k xs _ _
    simp only [laws_szSpanSS.l0]
    unfold rd_L6
    rw [if_pos (by omega), if_pos (by omega), getD_at hi, hy, Option.bind_some, if_neg cy, wrap_nat (by omega)]
theorem laws_eqSpanSS_ev (xs ys : List (List S115)) (hn : xs.length * 24 ≤ 140737488351232) (hi : ∀ x ∈ xs, x.length * 16 ≤ 140737488351232) : Ev (fun k => laws_eqSpanSS.f k xs ys) (yes (xs = ys)) := by
  unfold laws_eqSpanSS.f
  by_cases hl : xs.length = ys.length
  · simp only [if_pos (show (xs.length : Int) = (ys.length : Int) from by omega)]
    refine all2_ev (fun k i => laws_eqSpanSS.l0 k xs ys i) xs ys hl (fun k => ?_) (fun i h h' => ?_)
    · show laws_eqSpanSS.l0 (k + 1) xs ys _ = _
      simp only [laws_eqSpanSS.l0]; rw [if_neg (by omega)]
    · obtain ⟨K, hK⟩ := laws_eqSpanS_ev xs[i] ys[i] (hi _ (List.getElem_mem h))
      dsimp only at hK
      refine ⟨K, fun k hk => ?_⟩
      show (_ → laws_eqSpanSS.l0 (k + 1) xs ys _ = laws_eqSpanSS.l0 k xs ys _) ∧ (_ → laws_eqSpanSS.l0 (k + 1) xs ys _ = _)
      simp only [laws_eqSpanSS.l0]
      unfold rd_L11
      rw [if_pos (by omega), if_pos (by omega), if_pos (by omega), getD_at h, getD_at h', hK k hk, Option.bind_some, wrap_nat (by omega)]
      exact ⟨fun he => by rw [yes_pos he, if_pos rfl], fun he => by rw [yes_neg he, if_neg (by simp)]⟩
  · simp only [if_neg (show ¬ (xs.length : Int) = (ys.length : Int) from by omega)]
    exact (Ev.now false).eqs (yes_neg fun h => hl (by rw [h])).symm


theorem toIntSS_ev (xs : List (List Int)) (hn : xs.length * 24 ≤ 140737488351232) (hi : ∀ x ∈ xs, x.length * 8 ≤ 140737488351232) : Ev (fun k => laws_toIntSS.f k xs) (xs.map id) := by
  refine Ev.congr (f := fun k => laws_toIntSS.l0 k xs (List.replicate xs.length []) 0) (fun k => ?_) ?_
  · show laws_toIntSS.f k xs = _
    unfold laws_toIntSS.f
    rw [if_pos (by omega), if_pos (by rw [Int.toNat_natCast]; omega), Int.toNat_natCast]
  · refine fill_ev (fun k r i => laws_toIntSS.l0 k xs r i) xs id (fun k r hr => ?_) (fun i h => ?_) _ (by simp)
    · show laws_toIntSS.l0 (k + 1) xs r _ = _
      simp only [laws_toIntSS.l0]
      rw [if_neg (by omega)]
    · obtain ⟨K, hK⟩ := toIntS_ev xs[i] (hi _ (List.getElem_mem h))
      dsimp only at hK
      refine ⟨K, fun k r hk hr => ?_⟩
      show laws_toIntSS.l0 (k + 1) xs r _ = laws_toIntSS.l0 k xs _ _
      simp only [laws_toIntSS.l0]
      unfold rd_L14
      rw [if_pos (by omega), if_pos (by omega), getD_at h, hK k hk, Option.bind_some, if_pos (by omega), wrap_nat (by omega), Int.toNat_natCast]
      rfl
theorem szIntSS_ex (xs : List (List Int)) (hn : xs.length * 24 ≤ 140737488351232) (a : Int) : ∃ v, Ev (fun k => laws_szIntSS.f k xs a) v := by
  unfold laws_szIntSS.f
  by_cases c : wrap64 (a - (xs.length : Int)) < 0
  · simp only [if_pos c]; exact ⟨_, Ev.now _⟩
  simp only [if_neg c]
  refine walk_ex (fun k s i => laws_szIntSS.l0 k xs s i) xs.length
    (fun s => ⟨s, Ev.ofSucc (g := fun k => laws_szIntSS.l0 k xs s _) (fun k => by simp only [laws_szIntSS.l0]; rw [if_neg (by omega)])⟩)
    (fun i hi s => ?_) _
  obtain ⟨y, hy⟩ := szIntS_some xs[i] s
  by_cases cy : y < 0
  · refine .inl ⟨-1, Ev.ofSucc (g := fun k => laws_szIntSS.l0 k xs s _) (fun k => ?_)⟩
    simp only [laws_szIntSS.l0]
    unfold rd_L14
    rw [if_pos (by omega), if_pos (by omega), getD_at hi, hy, Option.bind_some, if_pos cy]
  · refine .inr ⟨y, 0, fun k hk => ?_⟩
    show laws_szIntSS.l0 (k + 1) xs s _ = laws_szIntSS.l0 k xs _ _
    simp only [laws_szIntSS.l0]
    unfold rd_L14
    rw [if_pos (by omega), if_pos (by omega), getD_at hi, hy, Option.bind_some, if_neg cy, wrap_nat (by omega)]
theorem laws_eqIntSS_ev (xs ys : List (List Int)) (hn : xs.length * 24 ≤ 140737488351232) (hi : ∀ x ∈ xs, x.length * 8 ≤ 140737488351232) : Ev (fun k => laws_eqIntSS.f k xs ys) (yes (xs = ys)) := by
  unfold laws_eqIntSS.f
  by_cases hl : xs.length = ys.length
  · simp only [if_pos (show (xs.length : Int) = (ys.length : Int) from by omega)]
    refine all2_ev (fun k i => laws_eqIntSS.l0 k xs ys i) xs ys hl (fun k => ?_) (fun i h h' => ?_)
    · show laws_eqIntSS.l0 (k + 1) xs ys _ = _
      simp only [laws_eqIntSS.l0]; rw [if_neg (by omega)]
    · obtain ⟨K, hK⟩ := laws_eqIntS_ev xs[i] ys[i] (hi _ (List.getElem_mem h))
      dsimp only at hK
      refine ⟨K, fun k hk => ?_⟩
      show (_ → laws_eqIntSS.l0 (k + 1) xs ys _ = laws_eqIntSS.l0 k xs ys _) ∧ (_ → laws_eqIntSS.l0 (k + 1) xs ys _ = _)
      simp only [laws_eqIntSS.l0]
      unfold rd_L14
      rw [if_pos (by omega), if_pos (by omega), if_pos (by omega), getD_at h, getD_at h', hK k hk, Option.bind_some, wrap_nat (by omega)]
      exact ⟨fun he => by rw [yes_pos he, if_pos rfl], fun he => by rw [yes_neg he, if_neg (by simp)]⟩
  · simp only [if_neg (show ¬ (xs.length : Int) = (ys.length : Int) from by omega)]
    exact (Ev.now false).eqs (yes_neg fun h => hl (by rw [h])).symm


/-- A machine as its three lists; each is within the reach. -/
structure DfaB (p : List (List S115)) (r : List (List Int)) (a : List Int) : Prop where
  p0 : p.length * 24 ≤ 140737488351232
  p1 : ∀ x ∈ p, x.length * 16 ≤ 140737488351232
  r0 : r.length * 24 ≤ 140737488351232
  r1 : ∀ x ∈ r, x.length * 8 ≤ 140737488351232
  a0 : a.length * 8 ≤ 140737488351232
structure DfaL (p : List (List S131)) (r : List (List Int)) (a : List Int) : Prop where
  p0 : p.length * 24 ≤ 140737488351232
  p1 : ∀ x ∈ p, x.length * 16 ≤ 140737488351232
  r0 : r.length * 24 ≤ 140737488351232
  r1 : ∀ x ∈ r, x.length * 8 ≤ 140737488351232
  a0 : a.length * 8 ≤ 140737488351232
def toParts (p : List (List S131)) : List (List S115) := p.map (fun l => l.map toSpan)
theorem DfaL.to {p r a} (h : DfaL p r a) : DfaB (toParts p) r a :=
  ⟨by unfold toParts; simpa using h.p0, fun x hx => by
    unfold toParts at hx
    obtain ⟨y, hy, rfl⟩ := List.mem_map.1 hx
    simpa using h.p1 y hy, h.r0, h.r1, h.a0⟩
theorem toDfa_ev {p r a} (h : DfaL p r a) : Ev (fun k => laws_toDfa.f k p r a) (toParts p, r, a) := by
  unfold laws_toDfa.f
  refine Ev.bind (toSpanSS_ev p h.p0 h.p1) (Ev.bind ((toIntSS_ev r h.r0 h.r1).eqs (show r.map id = r by simp)) (Ev.bind (toIntS_ev a h.a0) ?_))
  exact Ev.now _
theorem szDfa_ex {p r a} (h : DfaL p r a) (b : Int) : ∃ v, Ev (fun k => laws_szDfa.f k p r a b) v := by
  unfold laws_szDfa.f
  obtain ⟨v0, h0⟩ := szSpanSS_ex p h.p0 b
  by_cases c0 : v0 < 0
  · exact ⟨-1, Ev.bind h0 (by simp only [if_pos c0]; exact Ev.now _)⟩
  obtain ⟨v1, h1⟩ := szIntSS_ex r h.r0 v0
  by_cases c1 : v1 < 0
  · exact ⟨-1, Ev.bind h0 (by simp only [if_neg c0]; exact Ev.bind h1 (by simp only [if_pos c1]; exact Ev.now _))⟩
  obtain ⟨v2, h2⟩ := szIntS_some a v1
  by_cases c2 : v2 < 0
  · exact ⟨-1, Ev.bind h0 (by simp only [if_neg c0]; exact Ev.bind h1 (by simp only [if_neg c1, h2, Option.bind_some, if_pos c2]; exact Ev.now _))⟩
  · exact ⟨v2, Ev.bind h0 (by simp only [if_neg c0]; exact Ev.bind h1 (by simp only [if_neg c1, h2, Option.bind_some, if_neg c2]; exact Ev.now _))⟩
theorem laws_eqDfa_ev {p r a} (h : DfaB p r a) (p' r' a') : Ev (fun k => laws_eqDfa.f k p r a p' r' a') (yes (p = p' ∧ r = r' ∧ a = a')) := by
  unfold laws_eqDfa.f
  refine Ev.bind (laws_eqSpanSS_ev p p' h.p0 h.p1) ?_
  by_cases c0 : p = p'
  · simp only [yes_pos c0, if_true]
    refine Ev.bind (laws_eqIntSS_ev r r' h.r0 h.r1) ?_
    by_cases c1 : r = r'
    · simp only [yes_pos c1, if_true]
      refine Ev.bind (laws_eqIntS_ev a a' h.a0) ?_
      by_cases c2 : a = a'
      · simp only [yes_pos c2, if_true]; rw [yes_pos ⟨c0, c1, c2⟩]; exact Ev.now _
      · simp only [yes_neg c2, Bool.false_eq_true, if_false]; rw [yes_neg (fun h => c2 h.2.2)]; exact Ev.now _
    · simp only [yes_neg c1, Bool.false_eq_true, if_false]; rw [yes_neg (fun h => c1 h.2.1)]; exact Ev.now _
  · simp only [yes_neg c0, Bool.false_eq_true, if_false]; rw [yes_neg (fun h => c0 h.1)]; exact Ev.now _
end Go.Proofs.Ytljaoggbfoimfaa.P

/- Machines compared by the program and by the reference: alike. Conditions: each list is within the reach. -/
set_option linter.unusedVariables false
set_option linter.unusedSimpArgs false
namespace Go.Proofs.Ytljaoggbfoimfaa.P
open Go.Proofs.YtljaoggbfoimfaaW.PrintWords Go.RowKit
theorem spec_l7Ints_ev (xs ys : List Int) (hn : xs.length * 8 ≤ 140737488351232) : Ev (fun k => spec_l7Ints.f k xs ys) (yes (xs = ys)) := by
  unfold spec_l7Ints.f
  by_cases hl : xs.length = ys.length
  · simp only [if_pos (show (xs.length : Int) = (ys.length : Int) from by omega)]
    refine all2_ev (fun k i => spec_l7Ints.l0 k xs ys i) xs ys hl (fun k => ?_) (fun i h h' => ⟨0, fun k _ => ?_⟩)
    · show spec_l7Ints.l0 (k + 1) xs ys _ = _
      simp only [spec_l7Ints.l0]; rw [if_neg (by omega)]
    · show (_ → spec_l7Ints.l0 (k + 1) xs ys _ = spec_l7Ints.l0 k xs ys _) ∧ (_ → spec_l7Ints.l0 (k + 1) xs ys _ = _)
      simp only [spec_l7Ints.l0]
      rw [if_pos (by omega), if_pos (by omega), if_pos (by omega), rd_at h, rd_at h', wrap_nat (by omega)]
      exact ⟨fun he => by rw [if_pos he], fun he => by rw [if_neg he]⟩
  · simp only [if_neg (show ¬ (xs.length : Int) = (ys.length : Int) from by omega)]
    exact (Ev.now false).eqs (yes_neg fun h => hl (by rw [h])).symm
theorem impl_same_int_ev (xs ys : List Int) (hn : xs.length * 8 ≤ 140737488351232) : Ev (fun k => impl_same_int.f k xs ys) (yes (xs = ys)) := by
  unfold impl_same_int.f
  by_cases hl : xs.length = ys.length
  · simp only [if_pos (show (xs.length : Int) = (ys.length : Int) from by omega)]
    refine all2_ev (fun k i => impl_same_int.l0 k xs ys (xs.length : Int) i) xs ys hl (fun k => ?_) (fun i h h' => ⟨0, fun k _ => ?_⟩)
    · show impl_same_int.l0 (k + 1) xs ys (xs.length : Int) _ = _
      simp only [impl_same_int.l0]; rw [if_neg (by omega)]
    · show (_ → impl_same_int.l0 (k + 1) xs ys (xs.length : Int) _ = impl_same_int.l0 k xs ys (xs.length : Int) _) ∧ (_ → impl_same_int.l0 (k + 1) xs ys (xs.length : Int) _ = _)
      simp only [impl_same_int.l0]
      rw [if_pos (by omega), if_pos (by omega), if_pos (by omega), if_pos (by omega), rd_at h, rd_at h', wrap_nat (by omega)]
      exact ⟨fun he => by rw [if_pos he], fun he => by rw [if_neg he]⟩
  · simp only [if_neg (show ¬ (xs.length : Int) = (ys.length : Int) from by omega)]
    exact (Ev.now false).eqs (yes_neg fun h => hl (by rw [h])).symm

theorem impl_DfaSame_ev {p r a} (h : DfaB p r a) (p' r' a') : Ev (fun k => impl_DfaSame.f k p r a p' r' a') (yes (p = p' ∧ r = r' ∧ a = a')) := by
  have jt : Ev (fun k => impl_DfaSame.j0 k true p r a p' r' a') false := Ev.ofSucc (g := fun k => impl_DfaSame.j0 k true p r a p' r' a') fun k => by simp [impl_DfaSame.j0]
  have hp0 := h.p0
  have hr0 := h.r0
  unfold impl_DfaSame.f
  by_cases c0 : p.length = p'.length
  · simp only [if_pos (show (p.length : Int) = (p'.length : Int) from by omega)]
    by_cases c1 : r.length = r'.length
    · simp only [if_pos (show (r.length : Int) = (r'.length : Int) from by omega)]
      refine Ev.bind (impl_same_int_ev a a' h.a0) ?_
      by_cases c2 : a = a'
      · simp only [yes_pos c2, Bool.not_true]
        refine Ev.succ ?_
        simp only [impl_DfaSame.j0, Bool.false_eq_true, if_false]
        have hr : Ev (fun k => impl_DfaSame.l1 k (r.length : Int) 0 p r a p' r' a') (yes (r = r')) := by
          refine all2_ev (fun k i => impl_DfaSame.l1 k (r.length : Int) i p r a p' r' a') r r' c1 (fun k => ?_) (fun i h1 h2 => ?_)
          · show impl_DfaSame.l1 (k + 1) (r.length : Int) _ _ _ _ _ _ _ = _
            simp only [impl_DfaSame.l1]; rw [if_neg (by omega)]
          · obtain ⟨K, hK⟩ := impl_same_int_ev r[i] r'[i] (h.r1 _ (List.getElem_mem h1))
            dsimp only at hK
            refine ⟨K, fun k hk => ?_⟩
            show (_ → impl_DfaSame.l1 (k + 1) (r.length : Int) _ _ _ _ _ _ _ = impl_DfaSame.l1 k (r.length : Int) _ _ _ _ _ _ _) ∧ (_ → impl_DfaSame.l1 (k + 1) (r.length : Int) _ _ _ _ _ _ _ = _)
            simp only [impl_DfaSame.l1]
            unfold rd_L14
            rw [if_pos (by omega), if_pos (by omega), if_pos (by omega), if_pos (by omega), getD_at h1, getD_at h2, hK k hk, Option.bind_some, wrap_nat (by omega)]
            exact ⟨fun he => by rw [yes_pos he, if_pos rfl], fun he => by rw [yes_neg he, if_neg (by simp)]⟩
        -- the parts: a loop that goes on with the rows
        have key : ∀ d i : Nat, i + d = p.length → Ev (fun k => impl_DfaSame.l0 k (p.length : Int) (i : Int) p r a p' r' a') (yes (p.drop i = p'.drop i ∧ r = r')) := by
          intro d
          induction d with
          | zero =>
            intro i hi
            have h0 : i = p.length := by omega
            subst h0
            refine Ev.succ ?_
            simp only [impl_DfaSame.l0]
            simp only [if_neg (show ¬ (p.length : Int) < (p.length : Int) from by omega)]
            refine hr.eqs (yes_congr ?_)
            rw [List.drop_of_length_le (Nat.le_refl _), List.drop_of_length_le (by omega)]
            simp
          | succ d ih =>
            intro i hi
            have h1 : i < p.length := by omega
            have h2 : i < p'.length := by omega
            obtain ⟨K, hK⟩ := impl_SetSame_ev p[i] p'[i] (h.p1 _ (List.getElem_mem h1))
            dsimp only at hK
            have e : ∀ k, K ≤ k → impl_DfaSame.l0 (k + 1) (p.length : Int) (i : Int) p r a p' r' a' = if yes (p[i] = p'[i]) = true then impl_DfaSame.l0 k (p.length : Int) ((i + 1 : Nat) : Int) p r a p' r' a' else some false := by
              intro k hk
              simp only [impl_DfaSame.l0]
              unfold rd_L11
              rw [if_pos (by omega), if_pos (by omega), if_pos (by omega), if_pos (by omega), getD_at h1, getD_at h2, hK k hk, Option.bind_some, wrap_nat (by omega)]
            rw [List.drop_eq_getElem_cons h1, List.drop_eq_getElem_cons h2]
            by_cases he : p[i] = p'[i]
            · refine (Ev.late (g := fun k => impl_DfaSame.l0 k (p.length : Int) (i : Int) p r a p' r' a') ⟨K, fun k hk => by rw [e k hk, yes_pos he, if_pos rfl]⟩ (ih (i + 1) (by omega))).eqs (yes_congr ?_)
              rw [List.cons_eq_cons]
              exact ⟨fun h => ⟨⟨he, h.1⟩, h.2⟩, fun h => ⟨h.1.2, h.2⟩⟩
            · refine (Ev.late (g := fun k => impl_DfaSame.l0 k (p.length : Int) (i : Int) p r a p' r' a') (f := fun _ => some false) ⟨K, fun k hk => by rw [e k hk, yes_neg he, if_neg (by simp)]⟩ (Ev.now false)).eqs (yes_neg ?_).symm
              rw [List.cons_eq_cons]
              exact fun h => he h.1.1
        refine (key p.length 0 (by omega)).eqs (yes_congr ?_)
        simp [c2]
      · simp only [yes_neg c2, Bool.not_false]
        exact jt.eqs (yes_neg fun h => c2 h.2.2).symm
    · simp only [if_neg (show ¬ (r.length : Int) = (r'.length : Int) from by omega)]
      exact jt.eqs (yes_neg fun h => c1 (by rw [h.2.1])).symm
  · simp only [if_neg (show ¬ (p.length : Int) = (p'.length : Int) from by omega)]
    exact jt.eqs (yes_neg fun h => c0 (by rw [h.1])).symm

theorem spec_DfaSame_ev {p r a} (h : DfaB p r a) (p' r' a') : Ev (fun k => spec_DfaSame.f k p r a p' r' a') (yes (p = p' ∧ r = r' ∧ a = a')) := by
  have jt : Ev (fun k => spec_DfaSame.j0 k true p r a p' r' a') false := Ev.ofSucc (g := fun k => spec_DfaSame.j0 k true p r a p' r' a') fun k => by simp [spec_DfaSame.j0]
  have hp0 := h.p0
  have hr0 := h.r0
  unfold spec_DfaSame.f
  by_cases c0 : p.length = p'.length
  · simp only [if_pos (show (p.length : Int) = (p'.length : Int) from by omega)]
    by_cases c1 : r.length = r'.length
    · simp only [if_pos (show (r.length : Int) = (r'.length : Int) from by omega)]
      refine Ev.bind (spec_l7Ints_ev a a' h.a0) ?_
      by_cases c2 : a = a'
      · simp only [yes_pos c2, Bool.not_true]
        refine Ev.succ ?_
        simp only [spec_DfaSame.j0, Bool.false_eq_true, if_false]
        have hr : Ev (fun k => spec_DfaSame.l1 k 0 p r a p' r' a') (yes (r = r')) := by
          refine all2_ev (fun k i => spec_DfaSame.l1 k i p r a p' r' a') r r' c1 (fun k => ?_) (fun i h1 h2 => ?_)
          · show spec_DfaSame.l1 (k + 1) _ _ _ _ _ _ _ = _
            simp only [spec_DfaSame.l1]; rw [if_neg (by omega)]
          · obtain ⟨K, hK⟩ := spec_l7Ints_ev r[i] r'[i] (h.r1 _ (List.getElem_mem h1))
            dsimp only at hK
            refine ⟨K, fun k hk => ?_⟩
            show (_ → spec_DfaSame.l1 (k + 1) _ _ _ _ _ _ _ = spec_DfaSame.l1 k _ _ _ _ _ _ _) ∧ (_ → spec_DfaSame.l1 (k + 1) _ _ _ _ _ _ _ = _)
            simp only [spec_DfaSame.l1]
            unfold rd_L14
            rw [if_pos (by omega), if_pos (by omega), if_pos (by omega), getD_at h1, getD_at h2, hK k hk, Option.bind_some, wrap_nat (by omega)]
            exact ⟨fun he => by rw [yes_pos he, if_pos rfl], fun he => by rw [yes_neg he, if_neg (by simp)]⟩
        -- the parts: a loop that goes on with the rows
        have key : ∀ d i : Nat, i + d = p.length → Ev (fun k => spec_DfaSame.l0 k (i : Int) p r a p' r' a') (yes (p.drop i = p'.drop i ∧ r = r')) := by
          intro d
          induction d with
          | zero =>
            intro i hi
            have h0 : i = p.length := by omega
            subst h0
            refine Ev.succ ?_
            simp only [spec_DfaSame.l0]
            simp only [if_neg (show ¬ (p.length : Int) < (p.length : Int) from by omega)]
            refine hr.eqs (yes_congr ?_)
            rw [List.drop_of_length_le (Nat.le_refl _), List.drop_of_length_le (by omega)]
            simp
          | succ d ih =>
            intro i hi
            have h1 : i < p.length := by omega
            have h2 : i < p'.length := by omega
            obtain ⟨K, hK⟩ := spec_SetSame_ev p[i] p'[i] (h.p1 _ (List.getElem_mem h1))
            dsimp only at hK
            have e : ∀ k, K ≤ k → spec_DfaSame.l0 (k + 1) (i : Int) p r a p' r' a' = if yes (p[i] = p'[i]) = true then spec_DfaSame.l0 k ((i + 1 : Nat) : Int) p r a p' r' a' else some false := by
              intro k hk
              simp only [spec_DfaSame.l0]
              unfold rd_L11
              rw [if_pos (by omega), if_pos (by omega), if_pos (by omega), getD_at h1, getD_at h2, hK k hk, Option.bind_some, wrap_nat (by omega)]
            rw [List.drop_eq_getElem_cons h1, List.drop_eq_getElem_cons h2]
            by_cases he : p[i] = p'[i]
            · refine (Ev.late (g := fun k => spec_DfaSame.l0 k (i : Int) p r a p' r' a') ⟨K, fun k hk => by rw [e k hk, yes_pos he, if_pos rfl]⟩ (ih (i + 1) (by omega))).eqs (yes_congr ?_)
              rw [List.cons_eq_cons]
              exact ⟨fun h => ⟨⟨he, h.1⟩, h.2⟩, fun h => ⟨h.1.2, h.2⟩⟩
            · refine (Ev.late (g := fun k => spec_DfaSame.l0 k (i : Int) p r a p' r' a') (f := fun _ => some false) ⟨K, fun k hk => by rw [e k hk, yes_neg he, if_neg (by simp)]⟩ (Ev.now false)).eqs (yes_neg ?_).symm
              rw [List.cons_eq_cons]
              exact fun h => he h.1.1
        refine (key p.length 0 (by omega)).eqs (yes_congr ?_)
        simp [c2]
      · simp only [yes_neg c2, Bool.not_false]
        exact jt.eqs (yes_neg fun h => c2 h.2.2).symm
    · simp only [if_neg (show ¬ (r.length : Int) = (r'.length : Int) from by omega)]
      exact jt.eqs (yes_neg fun h => c1 (by rw [h.2.1])).symm
  · simp only [if_neg (show ¬ (p.length : Int) = (p'.length : Int) from by omega)]
    exact jt.eqs (yes_neg fun h => c0 (by rw [h.1])).symm
end Go.Proofs.Ytljaoggbfoimfaa.P

/- FnExactDfaSame, the plain statement: the program and the reference compare machines alike. Conditions: the arguments' lists are within the reach. -/
set_option linter.unusedVariables false
set_option linter.unusedSimpArgs false
namespace Go.Proofs.Ytljaoggbfoimfaa.Pure
open Go.Proofs.Ytljaoggbfoimfaa.P Go.Proofs.YtljaoggbfoimfaaW.PrintWords Go.RowKit

theorem FnExactDfaSame : FnExactDfaSame.Said := by
  intro p r a p' r' a' h0 h1 h2 h3 h4 h5
  have hr : reachBytes = 140737488351232 := rfl
  have d0 : DfaL p r a := ⟨hr ▸ h0.1, fun x hx => hr ▸ (h0.2 x hx).1, hr ▸ h1.1, fun x hx => hr ▸ (h1.2 x hx).1, hr ▸ h2.1⟩
  have d1 : DfaL p' r' a' := ⟨hr ▸ h3.1, fun x hx => hr ▸ (h3.2 x hx).1, hr ▸ h4.1, fun x hx => hr ▸ (h4.2 x hx).1, hr ▸ h5.1⟩
  apply Ev.rounds
  unfold laws_FnExactDfaSame.f
  obtain ⟨v0, e0⟩ := szDfa_ex d0 1048576
  refine Ev.bind e0 ?_
  by_cases c0 : v0 < 0
  · simp only [if_pos c0]; exact Ev.now _
  simp only [if_neg c0]
  obtain ⟨v1, e1⟩ := szDfa_ex d1 v0
  refine Ev.bind e1 ?_
  by_cases c1 : v1 < 0
  · simp only [if_pos c1]; exact Ev.now _
  simp only [if_neg c1]
  have a0 := toDfa_ev d0
  have a1 := toDfa_ev d1
  refine Ev.bind a0 (Ev.bind a1 (Ev.bind (spec_DfaSame_ev d0.to _ _ _) (Ev.bind a0 (Ev.bind a1 (Ev.bind (impl_DfaSame_ev d0.to _ _ _) ?_)))))
  simp only [bne_self_eq_false, Bool.false_eq_true, if_false]
  refine Ev.bind a0 (Ev.bind (laws_eqDfa_ev d0.to _ _ _) ?_)
  simp only [yes_pos, and_self, if_true]
  refine Ev.bind a1 (Ev.bind (laws_eqDfa_ev d1.to _ _ _) ?_)
  simp only [yes_pos, and_self, if_true]
  exact Ev.now _
end Go.Proofs.Ytljaoggbfoimfaa.Pure

/- FnExactDfaSame: for every input that can be read as data the law returns true and its arguments read as before. Conditions: those of the given row, no other. -/
namespace Go.Proofs.Ytljaoggbfoimfaa.fnExactDfaSame
open Go.ChangeShapes Go.WideShapes Go.ChangeAt Go.RowKit Go.Proofs.Ytljaoggbfoimfaa.Rd Go.Proofs.Ytljaoggbfoimfaa.Pure.FnExactDfaSame Go.Proofs.Ytljaoggbfoimfaa.P Go.Proofs.YtljaoggbfoimfaaW.PrintWords Go.Proofs.YtljaoggbfoimfaaW.PrintLast
open Go.ChangeMaps (open_string shut_string)
set_option linter.unusedVariables false
set_option linter.unusedSimpArgs false
theorem own : ownKnob Try.prog.godebug = none := by kernel_rfl
theorem laidOut : laidOutB Try.prog = true := by kernel_rfl
set_option maxRecDepth 100000 in
theorem lifted (os : Os) (started : os.Started) (H : Type) (enc : TypeId × Value → H) :
    ReturnsInHanded {} Try.checked os 9 .any (Rows.fnExactDfaSameSpec.pre6 enc Try.prog Try.f9 Rows.fnExactDfaSameRow.domain false) (Rows.fnExactDfaSameSpec.post enc Try.prog Try.f9 false true false false) := by
  refine returnsInHanded_of_change_sized (C := Try.checked) own started (by kernel_rfl) Try.func9
    (ChangeSpec.witness6 (enc := enc) (C := Try.checked) false ⟨#[], #[.agg #[.slice none 0 0, .slice none 0 0, .slice none 0 0], .agg #[.slice none 0 0, .slice none 0 0, .slice none 0 0]], []⟩ 8 (by kernel_rfl) (by kernel_rfl) (by kernel_rfl) (by kernel_rfl)) ?_
  intro W base args ds gs before hval0 hW hcnd hsz0 _
  have hsz : (DataW.weightsEach Try.prog (Try.f9.params.toList ++ Rows.fnExactDfaSameSpec.plain.varTypes Try.prog) (ds ++ gs)).all (· ≤ reachBytes) = true := hsz0
  have hval : ∀ (j : Nat) t v, Try.f9.params[j]? = some t → args[j]? = some v → Value.okWide Try.prog W .any base t v := hval0
  have hW' := hW
  obtain ⟨p, q, hA0, hV, rfl, hfz, hnd⟩ := hW
  have hA : DataW.TrodAll enc Try.prog W 0 (fun _ => true) true Try.f9.params.toList args.toList ds p := hA0
  rw [Try.params9] at hA hval hsz
  obtain ⟨v0, vs0, d0, ds0, p0, q0, hargs, rfl, rfl, h0, r0⟩ := trodAll_cons hA
  obtain ⟨v1, vs1, d1, ds1, p1, q1, rfl, rfl, rfl, h1, r1⟩ := trodAll_cons r0
  obtain ⟨rfl, rfl, rfl⟩ := trodAll_nil r1
  obtain rfl : args = #[v0, v1] := by cases args; simp_all
  obtain ⟨rfl, rfl⟩ := trodVars_none hV
  have z0 : ∀ q ∈ d0.weights Try.prog 50, q ≤ reachBytes := fun q hq => by simpa using List.all_eq_true.1 hsz q (DataW.weights_mem_each (j := 0) rfl rfl q hq)
  have k0 := h0
  have lt0 : ∀ x ∈ p0, x.block < W.heap.size := by obtain ⟨m, hm⟩ := k0; exact DataW.trod_lt m _ _ _ hm
  obtain ⟨x0, hx0, y0⟩ : ∃ x0 : (List (List S131)) × (List (List Int)) × (List Int), ((Kd.pair (Kd.slice 83 (Kd.slice 131 k131)) (Kd.pair (Kd.slice 48 (Kd.slice 3 (Kd.int .i64))) (Kd.slice 3 (Kd.int .i64))))).K W x0 v0.cells.toList ∧ ((x0.1.length * 24 ≤ reachBytes ∧ ∀ y4 ∈ x0.1, (y4.length * 16 ≤ reachBytes ∧ ∀ y2 ∈ y4, B131 y2))) ∧ (((x0.2.1.length * 24 ≤ reachBytes ∧ ∀ y6 ∈ x0.2.1, (y6.length * 8 ≤ reachBytes ∧ ∀ y2 ∈ y6, (Lit.int .i64 y2).wf = true))) ∧ (((x0.2.2.length * 8 ≤ reachBytes ∧ ∀ y6 ∈ x0.2.2, (Lit.int .i64 y6).wf = true)))) := Rd.arg (fun n => (Rd.struct Try.underlying50 rfl (by kernel_rfl) (Fs.cons ((Rd.slice (b := 24) ((Rd.slice (b := 16) (rd131 _) Try.underlying83 (by kernel_rfl) (by kernel_rfl)).le (Nat.le_succ _)) Try.underlying46 (by kernel_rfl) (by kernel_rfl)).le (Nat.le_succ _)) rfl (by kernel_rfl) (Fs.cons ((Rd.slice (b := 24) ((Rd.slice (b := 8) (Rd.int _ Try.underlying3) Try.underlying48 (by kernel_rfl) (by kernel_rfl)).le (Nat.le_succ _)) Try.underlying47 (by kernel_rfl) (by kernel_rfl)).le (Nat.le_succ _)) rfl (by kernel_rfl) (Fs.one ((Rd.slice (b := 8) (Rd.int _ Try.underlying3) Try.underlying48 (by kernel_rfl) (by kernel_rfl)).le (Nat.le_succ _)) rfl (by kernel_rfl))))).le (Nat.le_succ n)) h0 z0
  obtain ⟨cs0, rfl, hcs0⟩ := okWide_struct Try.underlying50 (hval 0 50 v0 rfl rfl)
  obtain ⟨e0_0, r0_0, he0, q0_0, e0_1, r0_1, rfl, q0_1, q0_2⟩ := hx0
  obtain ⟨A0_0, c0_0, rfl, hc0_0, hr0_0⟩ := q0_0
  obtain ⟨A0_1, c0_1, rfl, hc0_1, hr0_1⟩ := q0_1
  obtain ⟨A0_2, c0_2, rfl, hc0_2, hr0_2⟩ := q0_2
  obtain rfl : cs0 = #[.slice A0_0 x0.1.length c0_0, .slice A0_1 x0.2.1.length c0_1, .slice A0_2 x0.2.2.length c0_2] := by cases cs0; simpa [Value.cells] using he0
  have z1 : ∀ q ∈ d1.weights Try.prog 50, q ≤ reachBytes := fun q hq => by simpa using List.all_eq_true.1 hsz q (DataW.weights_mem_each (j := 1) rfl rfl q hq)
  have k1 := h1
  have lt1 : ∀ x ∈ p1, x.block < W.heap.size := by obtain ⟨m, hm⟩ := k1; exact DataW.trod_lt m _ _ _ hm
  obtain ⟨x1, hx1, y1⟩ : ∃ x1 : (List (List S131)) × (List (List Int)) × (List Int), ((Kd.pair (Kd.slice 83 (Kd.slice 131 k131)) (Kd.pair (Kd.slice 48 (Kd.slice 3 (Kd.int .i64))) (Kd.slice 3 (Kd.int .i64))))).K W x1 v1.cells.toList ∧ ((x1.1.length * 24 ≤ reachBytes ∧ ∀ y4 ∈ x1.1, (y4.length * 16 ≤ reachBytes ∧ ∀ y2 ∈ y4, B131 y2))) ∧ (((x1.2.1.length * 24 ≤ reachBytes ∧ ∀ y6 ∈ x1.2.1, (y6.length * 8 ≤ reachBytes ∧ ∀ y2 ∈ y6, (Lit.int .i64 y2).wf = true))) ∧ (((x1.2.2.length * 8 ≤ reachBytes ∧ ∀ y6 ∈ x1.2.2, (Lit.int .i64 y6).wf = true)))) := Rd.arg (fun n => (Rd.struct Try.underlying50 rfl (by kernel_rfl) (Fs.cons ((Rd.slice (b := 24) ((Rd.slice (b := 16) (rd131 _) Try.underlying83 (by kernel_rfl) (by kernel_rfl)).le (Nat.le_succ _)) Try.underlying46 (by kernel_rfl) (by kernel_rfl)).le (Nat.le_succ _)) rfl (by kernel_rfl) (Fs.cons ((Rd.slice (b := 24) ((Rd.slice (b := 8) (Rd.int _ Try.underlying3) Try.underlying48 (by kernel_rfl) (by kernel_rfl)).le (Nat.le_succ _)) Try.underlying47 (by kernel_rfl) (by kernel_rfl)).le (Nat.le_succ _)) rfl (by kernel_rfl) (Fs.one ((Rd.slice (b := 8) (Rd.int _ Try.underlying3) Try.underlying48 (by kernel_rfl) (by kernel_rfl)).le (Nat.le_succ _)) rfl (by kernel_rfl))))).le (Nat.le_succ n)) h1 z1
  obtain ⟨cs1, rfl, hcs1⟩ := okWide_struct Try.underlying50 (hval 1 50 v1 rfl rfl)
  obtain ⟨e1_0, r1_0, he1, q1_0, e1_1, r1_1, rfl, q1_1, q1_2⟩ := hx1
  obtain ⟨A1_0, c1_0, rfl, hc1_0, hr1_0⟩ := q1_0
  obtain ⟨A1_1, c1_1, rfl, hc1_1, hr1_1⟩ := q1_1
  obtain ⟨A1_2, c1_2, rfl, hc1_2, hr1_2⟩ := q1_2
  obtain rfl : cs1 = #[.slice A1_0 x1.1.length c1_0, .slice A1_1 x1.2.1.length c1_1, .slice A1_2 x1.2.2.length c1_2] := by cases cs1; simpa [Value.cells] using he1
  clear hA0 hval0 hsz0 hsz
  obtain ⟨k, hk⟩ := Pure.FnExactDfaSame x0.1 x0.2.1 x0.2.2 x1.1 x1.2.1 x1.2.2 y0.1 y0.2.1 y0.2.2 y1.1 y1.2.1 y1.2.2
  refine (laws_FnExactDfaSame.calls k A0_0 c0_0 x0.1 A0_1 c0_1 x0.2.1 A0_2 c0_2 x0.2.2 A1_0 c1_0 x1.1 A1_1 c1_1 x1.2.1 A1_2 c1_2 x1.2.2 true W hr0_0 hc0_0 hr0_1 hc0_1 hr0_2 hc0_2 hr1_0 hc1_0 hr1_1 hc1_1 hr1_2 hc1_2 rfl hk).mono fun e W' ⟨he, bel0⟩ => ?_
  have bel : Below W.heap.size W W' := bel0
  subst he
  exact ⟨_, rfl, _, _, _, [], _, [], hW', trodAll_mk1 (shut_bool Try.underlying4 _), (trodAll_cons_mk (Below.trod laidOut (by kernel_rfl) (of_decide_eq_true (by kernel_rfl)) k0 bel lt0) (trodAll_cons_mk (Below.trod laidOut (by kernel_rfl) (of_decide_eq_true (by kernel_rfl)) k1 bel lt1) trodAll_mk0)), rfl, bel.frame _, fun h => by cases h⟩
theorem over : Rows.fnExactDfaSameRow.holds Try.pinned (OpenSpec.ofChange Rows.fnExactDfaSameSpec) :=
  OpenClaim.holds_of_wide 9 Try.f9 rfl rfl rfl rfl rfl rfl rfl ⟨rfl, rfl, rfl, rfl, rfl⟩ rfl rfl rfl rfl rfl (by kernel_rfl) Try.func9 (by kernel_rfl)
    (of_decide_eq_true (by kernel_rfl)) (by unfold Func.isWrapper; first | (rw [if_pos (by decide +kernel)]; kernel_rfl) | (rw [if_neg (by decide +kernel)]; exact ⟨rfl, rfl⟩))
    (fun os started H enc _ => lifted os started H enc)
theorem proved : Rows.FnExactDfaSameSaid := over
end Go.Proofs.Ytljaoggbfoimfaa.fnExactDfaSame
namespace Go.Proofs.Ytljaoggbfoimfaa
/-- The row, under a short name, for the claim. -/
theorem fnExactDfaSame_holds : Rows.FnExactDfaSameSaid := fnExactDfaSame.proved
end Go.Proofs.Ytljaoggbfoimfaa
