/- The functions of the seat as plain Lean functions, and that the program's functions compute them. Conditions: stated at each theorem. -/
import Derived.Test.YtljaoggbfoimfaaP0
import Derived.Test.YtljaoggbfoimfaaPimpldoor
import Derived.Test.YtljaoggbfoimfaaPimplin
namespace Go.Proofs.Ytljaoggbfoimfaa.P
open Go.RowKit Go.Proofs.YtljaoggbfoimfaaW.PrintWords Go.Proofs.YtljaoggbfoimfaaW.PrintLast Go.Proofs.YtljaoggbfoimfaaW.PrintMore
attribute [local go_sem] max2_int min2_int max_two min_two max_three min_three max_four min_four   -- for this text's walks alone
set_option linter.unusedVariables false
set_option linter.unusedSimpArgs false

/-! ### impl_insOk: function 61 -/
def impl_insOk.j0 : Nat → List (S76) → Int → Bool → Int → Int → Int → Int → Option (Bool)
  | 0, _, _, _, _, _, _, _ => none
  | k + 1, x0, x11, x32, x217000, x217001, x217002, x217003 => if x32 = true then (if x217001 = 0 then (if x217002 = 0 then (some (x217003 == 0)) else (some false)) else (some false)) else (if x11 = 3 then (if x217001 ≥ 0 then (if x217001 ≤ x217002 then (if x217002 ≤ 255 then ((impl_door.f x0 x217003).bind fun t219 => (some t219)) else (some false)) else (some false)) else (some false)) else (some false))
def impl_insOk.f (k : Nat) (l0 : List (S76)) (a1 : Int) : Option (Bool) := if 0 ≤ a1 then (if a1 < (l0.length : Int) then (if ((rd_T76 l0 a1).f0) = 1 then ((impl_in.f ((rd_T76 l0 a1).f1) 0 4).bind fun t217 => (if t217 = true then (if ((rd_T76 l0 a1).f2) = 0 then (if ((rd_T76 l0 a1).f3) = 0 then ((impl_door.f l0 a1).bind fun t218 => (some t218)) else (some false)) else (some false)) else (some false))) else (if ((rd_T76 l0 a1).f0) = 2 then (impl_insOk.j0 k l0 ((rd_T76 l0 a1).f0) (((rd_T76 l0 a1).f0) == 2) ((rd_T76 l0 a1).f0) ((rd_T76 l0 a1).f1) ((rd_T76 l0 a1).f2) ((rd_T76 l0 a1).f3)) else (impl_insOk.j0 k l0 ((rd_T76 l0 a1).f0) (((rd_T76 l0 a1).f0) == 4) ((rd_T76 l0 a1).f0) ((rd_T76 l0 a1).f1) ((rd_T76 l0 a1).f2) ((rd_T76 l0 a1).f3)))) else (none)) else (none)
theorem impl_insOk.mono_l : ∀ k, (∀ y0 y1 y2 y3 y4 y5 y6, LeO (impl_insOk.j0 k y0 y1 y2 y3 y4 y5 y6) (impl_insOk.j0 (k + 1) y0 y1 y2 y3 y4 y5 y6))
  | 0 => fun _ _ _ _ _ _ _ r h => by simp [impl_insOk.j0] at h
  | k + 1 => by
    have ih0 := impl_insOk.mono_l k
    · intro y0 y1 y2 y3 y4 y5 y6
      unfold impl_insOk.j0
      repeat' first
      | (with_reducible exact ih0 _ _ _ _ _ _ _)
      | (with_reducible exact LeO.refl _)
      | (with_reducible exact LeO.none _)
      | (with_reducible refine LeO.ite ?_ ?_)
      | (with_reducible refine LeO.bind ?_ (fun _ => ?_))
      | exact ih0 _ _ _ _ _ _ _
      | exact LeO.none _
      | refine LeO.ite ?_ ?_
      | refine LeO.bind ?_ (fun _ => ?_)
theorem impl_insOk.mono : ∀ a0 a1 k, LeO (impl_insOk.f k a0 a1) (impl_insOk.f (k + 1) a0 a1) := by
  intro a0 a1 k
  have ih0 := impl_insOk.mono_l k
  unfold impl_insOk.f
  repeat' first
      | (with_reducible exact ih0 _ _ _ _ _ _ _)
      | (with_reducible exact LeO.refl _)
      | (with_reducible exact LeO.none _)
      | (with_reducible refine LeO.ite ?_ ?_)
      | (with_reducible refine LeO.bind ?_ (fun _ => ?_))
      | exact ih0 _ _ _ _ _ _ _
      | exact LeO.none _
      | refine LeO.ite ?_ ?_
      | refine LeO.bind ?_ (fun _ => ?_)
set_option maxHeartbeats 8000000 in
set_option maxRecDepth 100000 in
theorem impl_insOk.calls (k : Nat) (A0 : Option Addr) (c0 : Nat) (l0 : List (S76)) (a1 : Int) (r : Bool) (w : World) (hr0 : Kd.C k76 w A0 l0.length l0) (hc0 : l0.length ≤ c0) (h : impl_insOk.f k l0 a1 = some r) :
    Calls Try.prog 61 #[.slice A0 l0.length c0, .int .i64 a1] w fun e w' => e = .returned (.bool r) ∧ Below w.heap.size w w' := by
  have hu76 := Try.underlying76
  have HR0 := Aside0.mk hr0
  have HC0 := Aside0.mk hc0
  clear hr0 hc0
  have HB := Aside0.mk (Below.refl w.heap.size w)
  have H : (if 0 ≤ a1 then (if a1 < (l0.length : Int) then (if ((rd_T76 l0 a1).f0) = 1 then ((impl_in.f ((rd_T76 l0 a1).f1) 0 4).bind fun t217 => (if t217 = true then (if ((rd_T76 l0 a1).f2) = 0 then (if ((rd_T76 l0 a1).f3) = 0 then ((impl_door.f l0 a1).bind fun t218 => (some t218)) else (some false)) else (some false)) else (some false))) else (if ((rd_T76 l0 a1).f0) = 2 then (impl_insOk.j0 k l0 ((rd_T76 l0 a1).f0) (((rd_T76 l0 a1).f0) == 2) ((rd_T76 l0 a1).f0) ((rd_T76 l0 a1).f1) ((rd_T76 l0 a1).f2) ((rd_T76 l0 a1).f3)) else (impl_insOk.j0 k l0 ((rd_T76 l0 a1).f0) (((rd_T76 l0 a1).f0) == 4) ((rd_T76 l0 a1).f0) ((rd_T76 l0 a1).f1) ((rd_T76 l0 a1).f2) ((rd_T76 l0 a1).f3)))) else (none)) else (none)) = some r := h
  clear h
  by_cases c3 : 0 ≤ a1
  · rw [if_pos c3] at H
    have c3b0 : decide (0 ≤ a1) = true := decide_eq_true c3
    clear c3
    by_cases c4 : a1 < (l0.length : Int)
    · rw [if_pos c4] at H
      have c4b0 : decide (a1 < (l0.length : Int)) = true := decide_eq_true c4
      clear c4
      by_cases c5 : ((rd_T76 l0 a1).f0) = 1
      · rw [if_pos c5] at H
        have c5b0 : (((rd_T76 l0 a1).f0) == 1) = true := beq_iff_eq.mpr c5
        have c5b1 : (((rd_T76 l0 a1).f0) != 1) = false := bne_eq_false_iff_eq.mpr c5
        clear c5
        replace H := Option.bind_eq_some_iff.mp H
        obtain ⟨t217, A60, H⟩ := H
        replace H : (if t217 = true then (if ((rd_T76 l0 a1).f2) = 0 then (if ((rd_T76 l0 a1).f3) = 0 then ((impl_door.f l0 a1).bind fun t218 => (some t218)) else (some false)) else (some false)) else (some false)) = some r := H
        have A6 := Aside0.mk A60
        clear A60
        by_cases c7 : t217 = true
        · subst c7
          have H1 : (if ((rd_T76 l0 a1).f2) = 0 then (if ((rd_T76 l0 a1).f3) = 0 then ((impl_door.f l0 a1).bind fun t218 => (some t218)) else (some false)) else (some false)) = some r := by rw [if_pos rfl] at H; exact H
          clear H
          have H := H1
          clear H1
          by_cases c8 : ((rd_T76 l0 a1).f2) = 0
          · rw [if_pos c8] at H
            have c8b0 : (((rd_T76 l0 a1).f2) == 0) = true := beq_iff_eq.mpr c8
            have c8b1 : (((rd_T76 l0 a1).f2) != 0) = false := bne_eq_false_iff_eq.mpr c8
            clear c8
            by_cases c9 : ((rd_T76 l0 a1).f3) = 0
            · rw [if_pos c9] at H
              have c9b0 : (((rd_T76 l0 a1).f3) == 0) = true := beq_iff_eq.mpr c9
              have c9b1 : (((rd_T76 l0 a1).f3) != 0) = false := bne_eq_false_iff_eq.mpr c9
              clear c9
              replace H := Option.bind_eq_some_iff.mp H
              obtain ⟨t218, A100, H⟩ := H
              replace H : (some t218) = some r := H
              have A10 := Aside0.mk A100
              clear A100
              obtain rfl := Option.some.inj H
              have p215 : 0 ≤ (a1 : Int) := of_decide_eq_true (by first | (with_reducible assumption) | assumption)
              have q215 : a1 < (l0.length : Int) := of_decide_eq_true (by first | (with_reducible assumption) | assumption)
              obtain ⟨ad215, e215, hx215_0, hx215_1, hx215_2, hx215_3⟩ := at_T76 HR0.out a1 p215 q215
              cases e215
              replace p215 := eq_true p215
              replace q215 := eq_true q215
              go_enter Try.func61, Try.ntmps61
              go_wp2_with (first | ((with_reducible refine gate_dst (N := 5) rfl ?_); refine box_event ?hg (N := 5) ?hd (cs := #[.int .i64 0, .int .i64 0, .int .i64 0, .int .i64 0]) (t := 76) ?hr ?_; (case hd => rfl); (case hg => rfl); (case hr => first | (go_simp; done) | (go_simp; rfl)); intro gb216 hg w11 hbox hb; have n0_ := Aside0.mk (below_step (by repeat (first | (with_reducible first | exact HB.out | apply below_alloc | apply pw_below_drewN | apply below_drew1) | exact HB.out)) hb); have n1_ := Aside0.mk (hbox); have n2_ := Aside0.mk ((by rw [hg]; exact (below_size (by repeat (first | (with_reducible first | exact HB.out | apply below_alloc | apply pw_below_drewN | apply below_drew1) | exact HB.out))) : w.heap.size ≤ gb216)); have n3_ := Aside0.mk ((by rw [hg]; exact (below_size (by repeat (first | (with_reducible first | exact HB.out | apply below_alloc | apply pw_below_drewN | apply below_drew1) | exact HB.out))) : w.heap.size ≤ gb216)); clear HB; have HB := n0_; have BK216 := n1_; have GW216 := n2_; have GE216 := n3_; clear n0_ n1_ n2_ n3_; clear hb hbox hg; have hcz12_0 : w11.cell? ⟨gb216, 0, none⟩ = some (.int .i64 0) := (blk_cell BK216.out 0).trans rfl; have hcz12_1 : w11.cell? ⟨gb216, 1, none⟩ = some (.int .i64 0) := (blk_cell BK216.out 1).trans rfl; have hcz12_2 : w11.cell? ⟨gb216, 2, none⟩ = some (.int .i64 0) := (blk_cell BK216.out 2).trans rfl; have hcz12_3 : w11.cell? ⟨gb216, 3, none⟩ = some (.int .i64 0) := (blk_cell BK216.out 3).trans rfl; have hfz12_0 := blk_frozen BK216.out 0; have hfz12_1 := blk_frozen BK216.out 1; have hfz12_2 := blk_frozen BK216.out 2; have hfz12_3 := blk_frozen BK216.out 3) | ((with_reducible refine gate_callee (f := 51) rfl ?_); refine goesL_ (some 16) rfl rfl Try.func51 (by kernel_rfl) rfl #[.int .i64 ((rd_T76 l0 a1).f1), .int .i64 0, .int .i64 4] rfl (by (try simp only [List.map_toArray, List.map_cons, List.map_nil]); first | done | rfl | (simp only [List.length_drop, List.length_take]; rfl)) ?_; (with_reducible refine (impl_in.calls ((rd_T76 l0 a1).f1) 0 4 true _ A6.out).mono ?_); rintro e w' ⟨rfl, ⟨nd, rfl⟩⟩; refine ⟨_, rfl, ?_⟩) | (go_at_call 60; (with_reducible refine (impl_door.calls _ _ l0 a1 t218 _ ?side1 ?side2 A10.out).mono ?_); (case side1 => exact Kd.C_below HR0.out (by repeat (first | (with_reducible first | exact HB.out | apply below_alloc | apply pw_below_drewN | apply below_drew1 | refine below_set ?_ GE216.out) | exact HB.out))); (case side2 => exact HC0.out); rintro e w' ⟨rfl, ⟨nd, rfl⟩⟩))
              go_ret
              exact ⟨by first | rfl | (simp [errW_none, errW_some] <;> rfl) | (simp [*, errW_none, errW_some] <;> rfl), by repeat (first | (with_reducible first | exact HB.out | apply below_alloc | apply pw_below_drewN | apply below_drew1 | refine below_set ?_ GE216.out) | exact HB.out)⟩
            · rw [if_neg c9] at H
              have c9b0 : (((rd_T76 l0 a1).f3) == 0) = false := beq_eq_false_iff_ne.mpr c9
              have c9b1 : (((rd_T76 l0 a1).f3) != 0) = true := bne_iff_ne.mpr c9
              obtain rfl := Option.some.inj H
              have p215 : 0 ≤ (a1 : Int) := of_decide_eq_true (by first | (with_reducible assumption) | assumption)
              have q215 : a1 < (l0.length : Int) := of_decide_eq_true (by first | (with_reducible assumption) | assumption)
              obtain ⟨ad215, e215, hx215_0, hx215_1, hx215_2, hx215_3⟩ := at_T76 HR0.out a1 p215 q215
              cases e215
              replace p215 := eq_true p215
              replace q215 := eq_true q215
              go_enter Try.func61, Try.ntmps61
              go_wp2_with (first | ((with_reducible refine gate_dst (N := 5) rfl ?_); refine box_event ?hg (N := 5) ?hd (cs := #[.int .i64 0, .int .i64 0, .int .i64 0, .int .i64 0]) (t := 76) ?hr ?_; (case hd => rfl); (case hg => rfl); (case hr => first | (go_simp; done) | (go_simp; rfl)); intro gb216 hg w13 hbox hb; have n0_ := Aside0.mk (below_step (by repeat (first | (with_reducible first | exact HB.out | apply below_alloc | apply pw_below_drewN | apply below_drew1) | exact HB.out)) hb); have n1_ := Aside0.mk (hbox); have n2_ := Aside0.mk ((by rw [hg]; exact (below_size (by repeat (first | (with_reducible first | exact HB.out | apply below_alloc | apply pw_below_drewN | apply below_drew1) | exact HB.out))) : w.heap.size ≤ gb216)); have n3_ := Aside0.mk ((by rw [hg]; exact (below_size (by repeat (first | (with_reducible first | exact HB.out | apply below_alloc | apply pw_below_drewN | apply below_drew1) | exact HB.out))) : w.heap.size ≤ gb216)); clear HB; have HB := n0_; have BK216 := n1_; have GW216 := n2_; have GE216 := n3_; clear n0_ n1_ n2_ n3_; clear hb hbox hg; have hcz14_0 : w13.cell? ⟨gb216, 0, none⟩ = some (.int .i64 0) := (blk_cell BK216.out 0).trans rfl; have hcz14_1 : w13.cell? ⟨gb216, 1, none⟩ = some (.int .i64 0) := (blk_cell BK216.out 1).trans rfl; have hcz14_2 : w13.cell? ⟨gb216, 2, none⟩ = some (.int .i64 0) := (blk_cell BK216.out 2).trans rfl; have hcz14_3 : w13.cell? ⟨gb216, 3, none⟩ = some (.int .i64 0) := (blk_cell BK216.out 3).trans rfl; have hfz14_0 := blk_frozen BK216.out 0; have hfz14_1 := blk_frozen BK216.out 1; have hfz14_2 := blk_frozen BK216.out 2; have hfz14_3 := blk_frozen BK216.out 3) | ((with_reducible refine gate_callee (f := 51) rfl ?_); refine goesL_ (some 16) rfl rfl Try.func51 (by kernel_rfl) rfl #[.int .i64 ((rd_T76 l0 a1).f1), .int .i64 0, .int .i64 4] rfl (by (try simp only [List.map_toArray, List.map_cons, List.map_nil]); first | done | rfl | (simp only [List.length_drop, List.length_take]; rfl)) ?_; (with_reducible refine (impl_in.calls ((rd_T76 l0 a1).f1) 0 4 true _ A6.out).mono ?_); rintro e w' ⟨rfl, ⟨nd, rfl⟩⟩; refine ⟨_, rfl, ?_⟩))
              go_ret
              exact ⟨by first | rfl | (simp [errW_none, errW_some] <;> rfl) | (simp [*, errW_none, errW_some] <;> rfl), by repeat (first | (with_reducible first | exact HB.out | apply below_alloc | apply pw_below_drewN | apply below_drew1 | refine below_set ?_ GE216.out) | exact HB.out)⟩
          · rw [if_neg c8] at H
            have c8b0 : (((rd_T76 l0 a1).f2) == 0) = false := beq_eq_false_iff_ne.mpr c8
            have c8b1 : (((rd_T76 l0 a1).f2) != 0) = true := bne_iff_ne.mpr c8
            obtain rfl := Option.some.inj H
            have p215 : 0 ≤ (a1 : Int) := of_decide_eq_true (by first | (with_reducible assumption) | assumption)
            have q215 : a1 < (l0.length : Int) := of_decide_eq_true (by first | (with_reducible assumption) | assumption)
            obtain ⟨ad215, e215, hx215_0, hx215_1, hx215_2, hx215_3⟩ := at_T76 HR0.out a1 p215 q215
            cases e215
            replace p215 := eq_true p215
            replace q215 := eq_true q215
            go_enter Try.func61, Try.ntmps61
            go_wp2_with (first | ((with_reducible refine gate_dst (N := 5) rfl ?_); refine box_event ?hg (N := 5) ?hd (cs := #[.int .i64 0, .int .i64 0, .int .i64 0, .int .i64 0]) (t := 76) ?hr ?_; (case hd => rfl); (case hg => rfl); (case hr => first | (go_simp; done) | (go_simp; rfl)); intro gb216 hg w15 hbox hb; have n0_ := Aside0.mk (below_step (by repeat (first | (with_reducible first | exact HB.out | apply below_alloc | apply pw_below_drewN | apply below_drew1) | exact HB.out)) hb); have n1_ := Aside0.mk (hbox); have n2_ := Aside0.mk ((by rw [hg]; exact (below_size (by repeat (first | (with_reducible first | exact HB.out | apply below_alloc | apply pw_below_drewN | apply below_drew1) | exact HB.out))) : w.heap.size ≤ gb216)); have n3_ := Aside0.mk ((by rw [hg]; exact (below_size (by repeat (first | (with_reducible first | exact HB.out | apply below_alloc | apply pw_below_drewN | apply below_drew1) | exact HB.out))) : w.heap.size ≤ gb216)); clear HB; have HB := n0_; have BK216 := n1_; have GW216 := n2_; have GE216 := n3_; clear n0_ n1_ n2_ n3_; clear hb hbox hg; have hcz16_0 : w15.cell? ⟨gb216, 0, none⟩ = some (.int .i64 0) := (blk_cell BK216.out 0).trans rfl; have hcz16_1 : w15.cell? ⟨gb216, 1, none⟩ = some (.int .i64 0) := (blk_cell BK216.out 1).trans rfl; have hcz16_2 : w15.cell? ⟨gb216, 2, none⟩ = some (.int .i64 0) := (blk_cell BK216.out 2).trans rfl; have hcz16_3 : w15.cell? ⟨gb216, 3, none⟩ = some (.int .i64 0) := (blk_cell BK216.out 3).trans rfl; have hfz16_0 := blk_frozen BK216.out 0; have hfz16_1 := blk_frozen BK216.out 1; have hfz16_2 := blk_frozen BK216.out 2; have hfz16_3 := blk_frozen BK216.out 3) | ((with_reducible refine gate_callee (f := 51) rfl ?_); refine goesL_ (some 16) rfl rfl Try.func51 (by kernel_rfl) rfl #[.int .i64 ((rd_T76 l0 a1).f1), .int .i64 0, .int .i64 4] rfl (by (try simp only [List.map_toArray, List.map_cons, List.map_nil]); first | done | rfl | (simp only [List.length_drop, List.length_take]; rfl)) ?_; (with_reducible refine (impl_in.calls ((rd_T76 l0 a1).f1) 0 4 true _ A6.out).mono ?_); rintro e w' ⟨rfl, ⟨nd, rfl⟩⟩; refine ⟨_, rfl, ?_⟩))
            go_ret
            exact ⟨by first | rfl | (simp [errW_none, errW_some] <;> rfl) | (simp [*, errW_none, errW_some] <;> rfl), by repeat (first | (with_reducible first | exact HB.out | apply below_alloc | apply pw_below_drewN | apply below_drew1 | refine below_set ?_ GE216.out) | exact HB.out)⟩
        · replace c7 := Bool.eq_false_iff.mpr c7
          subst c7
          have H1 : (some false) = some r := by rw [if_neg (show ¬ (false = true) by decide)] at H; exact H
          clear H
          have H := H1
          clear H1
          obtain rfl := Option.some.inj H
          have p215 : 0 ≤ (a1 : Int) := of_decide_eq_true (by first | (with_reducible assumption) | assumption)
          have q215 : a1 < (l0.length : Int) := of_decide_eq_true (by first | (with_reducible assumption) | assumption)
          obtain ⟨ad215, e215, hx215_0, hx215_1, hx215_2, hx215_3⟩ := at_T76 HR0.out a1 p215 q215
          cases e215
          replace p215 := eq_true p215
          replace q215 := eq_true q215
          go_enter Try.func61, Try.ntmps61
          go_wp2_with (first | ((with_reducible refine gate_dst (N := 5) rfl ?_); refine box_event ?hg (N := 5) ?hd (cs := #[.int .i64 0, .int .i64 0, .int .i64 0, .int .i64 0]) (t := 76) ?hr ?_; (case hd => rfl); (case hg => rfl); (case hr => first | (go_simp; done) | (go_simp; rfl)); intro gb216 hg w17 hbox hb; have n0_ := Aside0.mk (below_step (by repeat (first | (with_reducible first | exact HB.out | apply below_alloc | apply pw_below_drewN | apply below_drew1) | exact HB.out)) hb); have n1_ := Aside0.mk (hbox); have n2_ := Aside0.mk ((by rw [hg]; exact (below_size (by repeat (first | (with_reducible first | exact HB.out | apply below_alloc | apply pw_below_drewN | apply below_drew1) | exact HB.out))) : w.heap.size ≤ gb216)); have n3_ := Aside0.mk ((by rw [hg]; exact (below_size (by repeat (first | (with_reducible first | exact HB.out | apply below_alloc | apply pw_below_drewN | apply below_drew1) | exact HB.out))) : w.heap.size ≤ gb216)); clear HB; have HB := n0_; have BK216 := n1_; have GW216 := n2_; have GE216 := n3_; clear n0_ n1_ n2_ n3_; clear hb hbox hg; have hcz18_0 : w17.cell? ⟨gb216, 0, none⟩ = some (.int .i64 0) := (blk_cell BK216.out 0).trans rfl; have hcz18_1 : w17.cell? ⟨gb216, 1, none⟩ = some (.int .i64 0) := (blk_cell BK216.out 1).trans rfl; have hcz18_2 : w17.cell? ⟨gb216, 2, none⟩ = some (.int .i64 0) := (blk_cell BK216.out 2).trans rfl; have hcz18_3 : w17.cell? ⟨gb216, 3, none⟩ = some (.int .i64 0) := (blk_cell BK216.out 3).trans rfl; have hfz18_0 := blk_frozen BK216.out 0; have hfz18_1 := blk_frozen BK216.out 1; have hfz18_2 := blk_frozen BK216.out 2; have hfz18_3 := blk_frozen BK216.out 3) | ((with_reducible refine gate_callee (f := 51) rfl ?_); refine goesL_ (some 16) rfl rfl Try.func51 (by kernel_rfl) rfl #[.int .i64 ((rd_T76 l0 a1).f1), .int .i64 0, .int .i64 4] rfl (by (try simp only [List.map_toArray, List.map_cons, List.map_nil]); first | done | rfl | (simp only [List.length_drop, List.length_take]; rfl)) ?_; (with_reducible refine (impl_in.calls ((rd_T76 l0 a1).f1) 0 4 false _ A6.out).mono ?_); rintro e w' ⟨rfl, ⟨nd, rfl⟩⟩; refine ⟨_, rfl, ?_⟩))
          go_ret
          exact ⟨by first | rfl | (simp [errW_none, errW_some] <;> rfl) | (simp [*, errW_none, errW_some] <;> rfl), by repeat (first | (with_reducible first | exact HB.out | apply below_alloc | apply pw_below_drewN | apply below_drew1 | refine below_set ?_ GE216.out) | exact HB.out)⟩
      · rw [if_neg c5] at H
        have c5b0 : (((rd_T76 l0 a1).f0) == 1) = false := beq_eq_false_iff_ne.mpr c5
        have c5b1 : (((rd_T76 l0 a1).f0) != 1) = true := bne_iff_ne.mpr c5
        have HC19 := Aside0.mk H
        clear H
        have p215 : 0 ≤ (a1 : Int) := of_decide_eq_true (by first | (with_reducible assumption) | assumption)
        have q215 : a1 < (l0.length : Int) := of_decide_eq_true (by first | (with_reducible assumption) | assumption)
        obtain ⟨ad215, e215, hx215_0, hx215_1, hx215_2, hx215_3⟩ := at_T76 HR0.out a1 p215 q215
        cases e215
        replace p215 := eq_true p215
        replace q215 := eq_true q215
        go_enter Try.func61, Try.ntmps61
        go_upto_if 32 with (first | ((with_reducible refine gate_dst (N := 5) rfl ?_); refine box_event ?hg (N := 5) ?hd (cs := #[.int .i64 0, .int .i64 0, .int .i64 0, .int .i64 0]) (t := 76) ?hr ?_; (case hd => rfl); (case hg => rfl); (case hr => first | (go_simp; done) | (go_simp; rfl)); intro gb216 hg w20 hbox hb; have n0_ := Aside0.mk (below_step (by repeat (first | (with_reducible first | exact HB.out | apply below_alloc | apply pw_below_drewN | apply below_drew1) | exact HB.out)) hb); have n1_ := Aside0.mk (hbox); have n2_ := Aside0.mk ((by rw [hg]; exact (below_size (by repeat (first | (with_reducible first | exact HB.out | apply below_alloc | apply pw_below_drewN | apply below_drew1) | exact HB.out))) : w.heap.size ≤ gb216)); have n3_ := Aside0.mk ((by rw [hg]; exact (below_size (by repeat (first | (with_reducible first | exact HB.out | apply below_alloc | apply pw_below_drewN | apply below_drew1) | exact HB.out))) : w.heap.size ≤ gb216)); clear HB; have HB := n0_; have BK216 := n1_; have GW216 := n2_; have GE216 := n3_; clear n0_ n1_ n2_ n3_; clear hb hbox hg; have hcz21_0 : w20.cell? ⟨gb216, 0, none⟩ = some (.int .i64 0) := (blk_cell BK216.out 0).trans rfl; have hcz21_1 : w20.cell? ⟨gb216, 1, none⟩ = some (.int .i64 0) := (blk_cell BK216.out 1).trans rfl; have hcz21_2 : w20.cell? ⟨gb216, 2, none⟩ = some (.int .i64 0) := (blk_cell BK216.out 2).trans rfl; have hcz21_3 : w20.cell? ⟨gb216, 3, none⟩ = some (.int .i64 0) := (blk_cell BK216.out 3).trans rfl; have hfz21_0 := blk_frozen BK216.out 0; have hfz21_1 := blk_frozen BK216.out 1; have hfz21_2 := blk_frozen BK216.out 2; have hfz21_3 := blk_frozen BK216.out 3))
        (try simp only [Act.put, List.setIfInBounds_toArray, List.set_cons_zero, List.set_cons_succ])
        go_cut [32] (fun v32 wc => ∃ (kq : Nat) (x32_18 : Bool), v32 = .bool x32_18 ∧ Aside0 (impl_insOk.j0 kq l0 ((rd_T76 l0 a1).f0) x32_18 ((rd_T76 l0 a1).f0) ((rd_T76 l0 a1).f1) ((rd_T76 l0 a1).f2) ((rd_T76 l0 a1).f3) = some r) ∧ Aside0 (kq ≤ k) ∧ Aside0 (wc.heap[gb216]? = some (.cells #[.int .i64 ((rd_T76 l0 a1).f0), .int .i64 ((rd_T76 l0 a1).f1), .int .i64 ((rd_T76 l0 a1).f2), .int .i64 ((rd_T76 l0 a1).f3)] 76 (0, 0))) ∧ Aside0 (Below w.heap.size w wc))
        case first =>
          have H := HC19.out
          clear HC19
          by_cases c22 : ((rd_T76 l0 a1).f0) = 2
          · rw [if_pos c22] at H
            have c22b0 : (((rd_T76 l0 a1).f0) == 2) = true := beq_iff_eq.mpr c22
            have c22b1 : (((rd_T76 l0 a1).f0) != 2) = false := bne_eq_false_iff_eq.mpr c22
            clear c22
            (first | rw [c22b0] | (simp only [i64_w, i32_w]; rw [c22b0]) | skip)
            have H' := Aside0.mk H
            clear H
            go_wp2
            go_meet
            case rel => exact ⟨_, ((((rd_T76 l0 a1).f0) == 2)), (by first | rfl | (simp; done) | (simp [*]; done)), H', ⟨by first | omega | exact Nat.le_refl _⟩, ⟨by (with_reducible repeat (first | refine blk_drewN ?_ _ | refine blk_drew ?_ | refine blk_alloc ?_ _)); refine blk_put (cs := #[.int .i64 ((rd_T76 l0 a1).f0), .int .i64 ((rd_T76 l0 a1).f1), .int .i64 ((rd_T76 l0 a1).f2), .int .i64 0]) ?_ 3 _ rfl; (with_reducible repeat (first | refine blk_drewN ?_ _ | refine blk_drew ?_ | refine blk_alloc ?_ _)); refine blk_put (cs := #[.int .i64 ((rd_T76 l0 a1).f0), .int .i64 ((rd_T76 l0 a1).f1), .int .i64 0, .int .i64 0]) ?_ 2 _ rfl; (with_reducible repeat (first | refine blk_drewN ?_ _ | refine blk_drew ?_ | refine blk_alloc ?_ _)); refine blk_put (cs := #[.int .i64 ((rd_T76 l0 a1).f0), .int .i64 0, .int .i64 0, .int .i64 0]) ?_ 1 _ rfl; (with_reducible repeat (first | refine blk_drewN ?_ _ | refine blk_drew ?_ | refine blk_alloc ?_ _)); refine blk_put (cs := #[.int .i64 0, .int .i64 0, .int .i64 0, .int .i64 0]) ?_ 0 _ rfl; (with_reducible repeat (first | refine blk_drewN ?_ _ | refine blk_drew ?_ | refine blk_alloc ?_ _)); exact BK216.out⟩, ⟨by repeat (first | (with_reducible first | exact HB.out | apply below_alloc | apply pw_below_drewN | apply below_drew1 | refine below_set ?_ GE216.out) | exact HB.out)⟩⟩
          · rw [if_neg c22] at H
            have c22b0 : (((rd_T76 l0 a1).f0) == 2) = false := beq_eq_false_iff_ne.mpr c22
            have c22b1 : (((rd_T76 l0 a1).f0) != 2) = true := bne_iff_ne.mpr c22
            (first | rw [c22b0] | (simp only [i64_w, i32_w]; rw [c22b0]) | skip)
            have H' := Aside0.mk H
            clear H
            go_wp2
            go_meet
            case rel => exact ⟨_, ((((rd_T76 l0 a1).f0) == 4)), (by first | rfl | (simp; done) | (simp [*]; done)), H', ⟨by first | omega | exact Nat.le_refl _⟩, ⟨by (with_reducible repeat (first | refine blk_drewN ?_ _ | refine blk_drew ?_ | refine blk_alloc ?_ _)); refine blk_put (cs := #[.int .i64 ((rd_T76 l0 a1).f0), .int .i64 ((rd_T76 l0 a1).f1), .int .i64 ((rd_T76 l0 a1).f2), .int .i64 0]) ?_ 3 _ rfl; (with_reducible repeat (first | refine blk_drewN ?_ _ | refine blk_drew ?_ | refine blk_alloc ?_ _)); refine blk_put (cs := #[.int .i64 ((rd_T76 l0 a1).f0), .int .i64 ((rd_T76 l0 a1).f1), .int .i64 0, .int .i64 0]) ?_ 2 _ rfl; (with_reducible repeat (first | refine blk_drewN ?_ _ | refine blk_drew ?_ | refine blk_alloc ?_ _)); refine blk_put (cs := #[.int .i64 ((rd_T76 l0 a1).f0), .int .i64 0, .int .i64 0, .int .i64 0]) ?_ 1 _ rfl; (with_reducible repeat (first | refine blk_drewN ?_ _ | refine blk_drew ?_ | refine blk_alloc ?_ _)); refine blk_put (cs := #[.int .i64 0, .int .i64 0, .int .i64 0, .int .i64 0]) ?_ 0 _ rfl; (with_reducible repeat (first | refine blk_drewN ?_ _ | refine blk_drew ?_ | refine blk_alloc ?_ _)); exact BK216.out⟩, ⟨by repeat (first | (with_reducible first | exact HB.out | apply below_alloc | apply pw_below_drewN | apply below_drew1 | refine below_set ?_ GE216.out) | exact HB.out)⟩⟩
        case rest =>
          clear HC19
          try clear c2
          try clear p2
          try clear q2
          try clear hx2
          try clear c3
          try clear c3b0
          try clear c4
          try clear c4b0
          try clear c5
          try clear c5b0
          try clear c5b1
          try clear c6
          try clear c7
          try clear c8
          try clear c8b0
          try clear c8b1
          try clear c9
          try clear c9b0
          try clear c9b1
          try clear p21
          try clear q21
          try clear hx21
          try clear c22
          try clear c22b0
          try clear c22b1
          try clear hcz12_0
          try clear hcz12_1
          try clear hcz12_2
          try clear hcz12_3
          try clear hcz14_0
          try clear hcz14_1
          try clear hcz14_2
          try clear hcz14_3
          try clear hcz16_0
          try clear hcz16_1
          try clear hcz16_2
          try clear hcz16_3
          try clear hcz18_0
          try clear hcz18_1
          try clear hcz18_2
          try clear hcz18_3
          try clear hcz21_0
          try clear hcz21_1
          try clear hcz21_2
          try clear hcz21_3
          try clear hfz12_0
          try clear hfz12_1
          try clear hfz12_2
          try clear hfz12_3
          try clear hfz14_0
          try clear hfz14_1
          try clear hfz14_2
          try clear hfz14_3
          try clear hfz16_0
          try clear hfz16_1
          try clear hfz16_2
          try clear hfz16_3
          try clear hfz18_0
          try clear hfz18_1
          try clear hfz18_2
          try clear hfz18_3
          try clear hfz21_0
          try clear hfz21_1
          try clear hfz21_2
          try clear hfz21_3
          try clear hx215_0
          try clear hx215_1
          try clear hx215_2
          try clear hx215_3
          try clear p215
          try clear q215
          obtain ⟨kq, x32_18, rfl, HA, HJ18, BK216, HB⟩ := hcut
          cases kq with
          | zero => exact absurd HA.out (by simp [impl_insOk.j0])
          | succ kj18 =>
            have H := HA.out
            clear HA
            simp only [impl_insOk.j0] at H
            by_cases c23 : x32_18 = true
            · subst c23
              have H1 : (if ((rd_T76 l0 a1).f1) = 0 then (if ((rd_T76 l0 a1).f2) = 0 then (some (((rd_T76 l0 a1).f3) == 0)) else (some false)) else (some false)) = some r := by rw [if_pos rfl] at H; exact H
              clear H
              have H := H1
              clear H1
              by_cases c24 : ((rd_T76 l0 a1).f1) = 0
              · rw [if_pos c24] at H
                have c24b0 : (((rd_T76 l0 a1).f1) == 0) = true := beq_iff_eq.mpr c24
                have c24b1 : (((rd_T76 l0 a1).f1) != 0) = false := bne_eq_false_iff_eq.mpr c24
                clear c24
                by_cases c25 : ((rd_T76 l0 a1).f2) = 0
                · rw [if_pos c25] at H
                  have c25b0 : (((rd_T76 l0 a1).f2) == 0) = true := beq_iff_eq.mpr c25
                  have c25b1 : (((rd_T76 l0 a1).f2) != 0) = false := bne_eq_false_iff_eq.mpr c25
                  clear c25
                  obtain rfl := Option.some.inj H
                  have hcz26_0 : wc.cell? ⟨gb216, 0, none⟩ = some (.int .i64 ((rd_T76 l0 a1).f0)) := (blk_cell BK216.out 0).trans rfl
                  have hcz26_1 : wc.cell? ⟨gb216, 1, none⟩ = some (.int .i64 ((rd_T76 l0 a1).f1)) := (blk_cell BK216.out 1).trans rfl
                  have hcz26_2 : wc.cell? ⟨gb216, 2, none⟩ = some (.int .i64 ((rd_T76 l0 a1).f2)) := (blk_cell BK216.out 2).trans rfl
                  have hcz26_3 : wc.cell? ⟨gb216, 3, none⟩ = some (.int .i64 ((rd_T76 l0 a1).f3)) := (blk_cell BK216.out 3).trans rfl
                  have hfz26_0 := blk_frozen BK216.out 0
                  have hfz26_1 := blk_frozen BK216.out 1
                  have hfz26_2 := blk_frozen BK216.out 2
                  have hfz26_3 := blk_frozen BK216.out 3
                  go_wp2
                  go_ret
                  exact ⟨by first | rfl | (simp [errW_none, errW_some] <;> rfl) | (simp [*, errW_none, errW_some] <;> rfl), by repeat (first | (with_reducible first | exact HB.out | apply below_alloc | apply pw_below_drewN | apply below_drew1 | refine below_set ?_ GE216.out) | exact HB.out)⟩
                · rw [if_neg c25] at H
                  have c25b0 : (((rd_T76 l0 a1).f2) == 0) = false := beq_eq_false_iff_ne.mpr c25
                  have c25b1 : (((rd_T76 l0 a1).f2) != 0) = true := bne_iff_ne.mpr c25
                  obtain rfl := Option.some.inj H
                  have hcz27_0 : wc.cell? ⟨gb216, 0, none⟩ = some (.int .i64 ((rd_T76 l0 a1).f0)) := (blk_cell BK216.out 0).trans rfl
                  have hcz27_1 : wc.cell? ⟨gb216, 1, none⟩ = some (.int .i64 ((rd_T76 l0 a1).f1)) := (blk_cell BK216.out 1).trans rfl
                  have hcz27_2 : wc.cell? ⟨gb216, 2, none⟩ = some (.int .i64 ((rd_T76 l0 a1).f2)) := (blk_cell BK216.out 2).trans rfl
                  have hcz27_3 : wc.cell? ⟨gb216, 3, none⟩ = some (.int .i64 ((rd_T76 l0 a1).f3)) := (blk_cell BK216.out 3).trans rfl
                  have hfz27_0 := blk_frozen BK216.out 0
                  have hfz27_1 := blk_frozen BK216.out 1
                  have hfz27_2 := blk_frozen BK216.out 2
                  have hfz27_3 := blk_frozen BK216.out 3
                  go_wp2
                  go_ret
                  exact ⟨by first | rfl | (simp [errW_none, errW_some] <;> rfl) | (simp [*, errW_none, errW_some] <;> rfl), by repeat (first | (with_reducible first | exact HB.out | apply below_alloc | apply pw_below_drewN | apply below_drew1 | refine below_set ?_ GE216.out) | exact HB.out)⟩
              · rw [if_neg c24] at H
                have c24b0 : (((rd_T76 l0 a1).f1) == 0) = false := beq_eq_false_iff_ne.mpr c24
                have c24b1 : (((rd_T76 l0 a1).f1) != 0) = true := bne_iff_ne.mpr c24
                obtain rfl := Option.some.inj H
                have hcz28_0 : wc.cell? ⟨gb216, 0, none⟩ = some (.int .i64 ((rd_T76 l0 a1).f0)) := (blk_cell BK216.out 0).trans rfl
                have hcz28_1 : wc.cell? ⟨gb216, 1, none⟩ = some (.int .i64 ((rd_T76 l0 a1).f1)) := (blk_cell BK216.out 1).trans rfl
                have hcz28_2 : wc.cell? ⟨gb216, 2, none⟩ = some (.int .i64 ((rd_T76 l0 a1).f2)) := (blk_cell BK216.out 2).trans rfl
                have hcz28_3 : wc.cell? ⟨gb216, 3, none⟩ = some (.int .i64 ((rd_T76 l0 a1).f3)) := (blk_cell BK216.out 3).trans rfl
                have hfz28_0 := blk_frozen BK216.out 0
                have hfz28_1 := blk_frozen BK216.out 1
                have hfz28_2 := blk_frozen BK216.out 2
                have hfz28_3 := blk_frozen BK216.out 3
                go_wp2
                go_ret
                exact ⟨by first | rfl | (simp [errW_none, errW_some] <;> rfl) | (simp [*, errW_none, errW_some] <;> rfl), by repeat (first | (with_reducible first | exact HB.out | apply below_alloc | apply pw_below_drewN | apply below_drew1 | refine below_set ?_ GE216.out) | exact HB.out)⟩
            · replace c23 := Bool.eq_false_iff.mpr c23
              subst c23
              have H1 : (if ((rd_T76 l0 a1).f0) = 3 then (if ((rd_T76 l0 a1).f1) ≥ 0 then (if ((rd_T76 l0 a1).f1) ≤ ((rd_T76 l0 a1).f2) then (if ((rd_T76 l0 a1).f2) ≤ 255 then ((impl_door.f l0 ((rd_T76 l0 a1).f3)).bind fun t219 => (some t219)) else (some false)) else (some false)) else (some false)) else (some false)) = some r := by rw [if_neg (show ¬ (false = true) by decide)] at H; exact H
              clear H
              have H := H1
              clear H1
              by_cases c29 : ((rd_T76 l0 a1).f0) = 3
              · rw [if_pos c29] at H
                have c29b0 : (((rd_T76 l0 a1).f0) == 3) = true := beq_iff_eq.mpr c29
                have c29b1 : (((rd_T76 l0 a1).f0) != 3) = false := bne_eq_false_iff_eq.mpr c29
                clear c29
                by_cases c30 : ((rd_T76 l0 a1).f1) ≥ 0
                · rw [if_pos c30] at H
                  have c30b0 : decide (0 ≤ ((rd_T76 l0 a1).f1)) = true := decide_eq_true c30
                  clear c30
                  by_cases c31 : ((rd_T76 l0 a1).f1) ≤ ((rd_T76 l0 a1).f2)
                  · rw [if_pos c31] at H
                    have c31b0 : decide (((rd_T76 l0 a1).f1) ≤ ((rd_T76 l0 a1).f2)) = true := decide_eq_true c31
                    clear c31
                    by_cases c32 : ((rd_T76 l0 a1).f2) ≤ 255
                    · rw [if_pos c32] at H
                      have c32b0 : decide (((rd_T76 l0 a1).f2) ≤ 255) = true := decide_eq_true c32
                      clear c32
                      replace H := Option.bind_eq_some_iff.mp H
                      obtain ⟨t219, A330, H⟩ := H
                      replace H : (some t219) = some r := H
                      have A33 := Aside0.mk A330
                      clear A330
                      obtain rfl := Option.some.inj H
                      have hcz34_0 : wc.cell? ⟨gb216, 0, none⟩ = some (.int .i64 ((rd_T76 l0 a1).f0)) := (blk_cell BK216.out 0).trans rfl
                      have hcz34_1 : wc.cell? ⟨gb216, 1, none⟩ = some (.int .i64 ((rd_T76 l0 a1).f1)) := (blk_cell BK216.out 1).trans rfl
                      have hcz34_2 : wc.cell? ⟨gb216, 2, none⟩ = some (.int .i64 ((rd_T76 l0 a1).f2)) := (blk_cell BK216.out 2).trans rfl
                      have hcz34_3 : wc.cell? ⟨gb216, 3, none⟩ = some (.int .i64 ((rd_T76 l0 a1).f3)) := (blk_cell BK216.out 3).trans rfl
                      have hfz34_0 := blk_frozen BK216.out 0
                      have hfz34_1 := blk_frozen BK216.out 1
                      have hfz34_2 := blk_frozen BK216.out 2
                      have hfz34_3 := blk_frozen BK216.out 3
                      go_wp2_with (first | (go_at_call 60; (with_reducible refine (impl_door.calls _ _ l0 ((rd_T76 l0 a1).f3) t219 _ ?side1 ?side2 A33.out).mono ?_); (case side1 => repeat (first | exact (Kd.C_below HR0.out HB.out) | (with_reducible refine Kd.C_alloc ?_ _) | (with_reducible refine Kd.C_drewN ?_ _) | (with_reducible refine Kd.C_drew ?_))); (case side2 => exact HC0.out); rintro e w' ⟨rfl, ⟨nd, rfl⟩⟩))
                      go_ret
                      exact ⟨by first | rfl | (simp [errW_none, errW_some] <;> rfl) | (simp [*, errW_none, errW_some] <;> rfl), by repeat (first | (with_reducible first | exact HB.out | apply below_alloc | apply pw_below_drewN | apply below_drew1 | refine below_set ?_ GE216.out) | exact HB.out)⟩
                    · rw [if_neg c32] at H
                      have c32b0 : decide (((rd_T76 l0 a1).f2) ≤ 255) = false := decide_eq_false c32
                      clear c32
                      obtain rfl := Option.some.inj H
                      have hcz35_0 : wc.cell? ⟨gb216, 0, none⟩ = some (.int .i64 ((rd_T76 l0 a1).f0)) := (blk_cell BK216.out 0).trans rfl
                      have hcz35_1 : wc.cell? ⟨gb216, 1, none⟩ = some (.int .i64 ((rd_T76 l0 a1).f1)) := (blk_cell BK216.out 1).trans rfl
                      have hcz35_2 : wc.cell? ⟨gb216, 2, none⟩ = some (.int .i64 ((rd_T76 l0 a1).f2)) := (blk_cell BK216.out 2).trans rfl
                      have hcz35_3 : wc.cell? ⟨gb216, 3, none⟩ = some (.int .i64 ((rd_T76 l0 a1).f3)) := (blk_cell BK216.out 3).trans rfl
                      have hfz35_0 := blk_frozen BK216.out 0
                      have hfz35_1 := blk_frozen BK216.out 1
                      have hfz35_2 := blk_frozen BK216.out 2
                      have hfz35_3 := blk_frozen BK216.out 3
                      go_wp2
                      go_ret
                      exact ⟨by first | rfl | (simp [errW_none, errW_some] <;> rfl) | (simp [*, errW_none, errW_some] <;> rfl), by repeat (first | (with_reducible first | exact HB.out | apply below_alloc | apply pw_below_drewN | apply below_drew1 | refine below_set ?_ GE216.out) | exact HB.out)⟩
                  · rw [if_neg c31] at H
                    have c31b0 : decide (((rd_T76 l0 a1).f1) ≤ ((rd_T76 l0 a1).f2)) = false := decide_eq_false c31
                    clear c31
                    obtain rfl := Option.some.inj H
                    have hcz36_0 : wc.cell? ⟨gb216, 0, none⟩ = some (.int .i64 ((rd_T76 l0 a1).f0)) := (blk_cell BK216.out 0).trans rfl
                    have hcz36_1 : wc.cell? ⟨gb216, 1, none⟩ = some (.int .i64 ((rd_T76 l0 a1).f1)) := (blk_cell BK216.out 1).trans rfl
                    have hcz36_2 : wc.cell? ⟨gb216, 2, none⟩ = some (.int .i64 ((rd_T76 l0 a1).f2)) := (blk_cell BK216.out 2).trans rfl
                    have hcz36_3 : wc.cell? ⟨gb216, 3, none⟩ = some (.int .i64 ((rd_T76 l0 a1).f3)) := (blk_cell BK216.out 3).trans rfl
                    have hfz36_0 := blk_frozen BK216.out 0
                    have hfz36_1 := blk_frozen BK216.out 1
                    have hfz36_2 := blk_frozen BK216.out 2
                    have hfz36_3 := blk_frozen BK216.out 3
                    go_wp2
                    go_ret
                    exact ⟨by first | rfl | (simp [errW_none, errW_some] <;> rfl) | (simp [*, errW_none, errW_some] <;> rfl), by repeat (first | (with_reducible first | exact HB.out | apply below_alloc | apply pw_below_drewN | apply below_drew1 | refine below_set ?_ GE216.out) | exact HB.out)⟩
                · rw [if_neg c30] at H
                  have c30b0 : decide (0 ≤ ((rd_T76 l0 a1).f1)) = false := decide_eq_false c30
                  clear c30
                  obtain rfl := Option.some.inj H
                  have hcz37_0 : wc.cell? ⟨gb216, 0, none⟩ = some (.int .i64 ((rd_T76 l0 a1).f0)) := (blk_cell BK216.out 0).trans rfl
                  have hcz37_1 : wc.cell? ⟨gb216, 1, none⟩ = some (.int .i64 ((rd_T76 l0 a1).f1)) := (blk_cell BK216.out 1).trans rfl
                  have hcz37_2 : wc.cell? ⟨gb216, 2, none⟩ = some (.int .i64 ((rd_T76 l0 a1).f2)) := (blk_cell BK216.out 2).trans rfl
                  have hcz37_3 : wc.cell? ⟨gb216, 3, none⟩ = some (.int .i64 ((rd_T76 l0 a1).f3)) := (blk_cell BK216.out 3).trans rfl
                  have hfz37_0 := blk_frozen BK216.out 0
                  have hfz37_1 := blk_frozen BK216.out 1
                  have hfz37_2 := blk_frozen BK216.out 2
                  have hfz37_3 := blk_frozen BK216.out 3
                  go_wp2
                  go_ret
                  exact ⟨by first | rfl | (simp [errW_none, errW_some] <;> rfl) | (simp [*, errW_none, errW_some] <;> rfl), by repeat (first | (with_reducible first | exact HB.out | apply below_alloc | apply pw_below_drewN | apply below_drew1 | refine below_set ?_ GE216.out) | exact HB.out)⟩
              · rw [if_neg c29] at H
                have c29b0 : (((rd_T76 l0 a1).f0) == 3) = false := beq_eq_false_iff_ne.mpr c29
                have c29b1 : (((rd_T76 l0 a1).f0) != 3) = true := bne_iff_ne.mpr c29
                obtain rfl := Option.some.inj H
                go_wp2
                go_ret
                exact ⟨by first | rfl | (simp [errW_none, errW_some] <;> rfl) | (simp [*, errW_none, errW_some] <;> rfl), by repeat (first | (with_reducible first | exact HB.out | apply below_alloc | apply pw_below_drewN | apply below_drew1 | refine below_set ?_ GE216.out) | exact HB.out)⟩
    · rw [if_neg c4] at H
      exact absurd H (by simp)
  · rw [if_neg c3] at H
    exact absurd H (by simp)

end Go.Proofs.Ytljaoggbfoimfaa.P
