/- FnExactProgRun, part 3 of 4: the functions that it reaches as plain Lean functions, that the program's functions compute them, and what they come to. Conditions: stated at each theorem. -/
import Derived.KernelRfl
import Derived.Test.YtljaoggbfoimfaaWWords
import Derived.Test.YtljaoggbfoimfaaBFnExactProgRun0
import Derived.Test.YtljaoggbfoimfaaBFnExactProgRun1
/- The functions of the seat as plain Lean functions, and that the program's functions compute them. Conditions: stated at each theorem. -/
namespace Go.Proofs.Ytljaoggbfoimfaa.P
open Go.RowKit Go.Proofs.YtljaoggbfoimfaaW.PrintWords Go.Proofs.YtljaoggbfoimfaaW.PrintLast Go.Proofs.YtljaoggbfoimfaaW.PrintMore
attribute [local go_sem] max2_int min2_int max_two min_two max_three min_three max_four min_four   -- for this text's walks alone
set_option linter.unusedVariables false
set_option linter.unusedSimpArgs false

/-! ### spec_l10At: function 62 -/
def spec_l10At.l0 : Nat → List (S76) → ByteArray → Int → Int → Int → Int → Int → Int → Int → Option (Int × Int × Int)
  | 0, _, _, _, _, _, _, _, _, _ => none
  | k + 1, x0, x1, x2, x9, x10, x11, x12, x13, x14 => if x14 < (x0.length : Int) then (if 0 ≤ x14 then (if ((rd_T76 x0 x14).f0) = 1 then (if x11 > x2 then (spec_l10At.l0 k x0 x1 x2 ((rd_T76 x0 x14).f1) x11 x11 x12 (wrap64 (x13 + 1)) (wrap64 (x14 + 1))) else (spec_l10At.l0 k x0 x1 x2 x9 x10 x11 x12 (wrap64 (x13 + 1)) (wrap64 (x14 + 1)))) else (if ((rd_T76 x0 x14).f0) = 2 then (if x11 ≥ (x1.size : Int) then (some (x9, x10, wrap64 (x13 + 1))) else (if 0 ≤ x11 then (if x11 < (x1.size : Int) then (spec_l10At.l0 k x0 x1 x2 x9 x10 (wrap64 (x11 + 1)) (wrap64 (bt x1 x11)) (wrap64 (x13 + 1)) (wrap64 (x14 + 1))) else (none)) else (none))) else (if ((rd_T76 x0 x14).f0) = 3 then (if x12 ≥ ((rd_T76 x0 x14).f1) then (if x12 ≤ ((rd_T76 x0 x14).f2) then (spec_l10At.l0 k x0 x1 x2 x9 x10 x11 x12 (wrap64 (x13 + 1)) ((rd_T76 x0 x14).f3)) else (spec_l10At.l0 k x0 x1 x2 x9 x10 x11 x12 (wrap64 (x13 + 1)) (wrap64 (x14 + 1)))) else (spec_l10At.l0 k x0 x1 x2 x9 x10 x11 x12 (wrap64 (x13 + 1)) (wrap64 (x14 + 1)))) else (some (x9, x10, wrap64 (x13 + 1)))))) else (none)) else (some (x9, x10, x13))
def spec_l10At.f (k : Nat) (l0 : List (S76)) (a1 : ByteArray) (a2 : Int) : Option (Int × Int × Int) := spec_l10At.l0 k l0 a1 a2 (-1) a2 a2 (-1) 0 0
theorem spec_l10At.mono_l : ∀ k, (∀ y0 y1 y2 y3 y4 y5 y6 y7 y8, LeO (spec_l10At.l0 k y0 y1 y2 y3 y4 y5 y6 y7 y8) (spec_l10At.l0 (k + 1) y0 y1 y2 y3 y4 y5 y6 y7 y8))
  | 0 => fun _ _ _ _ _ _ _ _ _ r h => by simp [spec_l10At.l0] at h
  | k + 1 => by
    have ih0 := spec_l10At.mono_l k
    · intro y0 y1 y2 y3 y4 y5 y6 y7 y8
      unfold spec_l10At.l0
      repeat' first
      | (with_reducible exact ih0 _ _ _ _ _ _ _ _ _)
      | (with_reducible exact LeO.refl _)
      | (with_reducible exact LeO.none _)
      | (with_reducible refine LeO.ite ?_ ?_)
      | (with_reducible refine LeO.bind ?_ (fun _ => ?_))
      | exact ih0 _ _ _ _ _ _ _ _ _
      | exact LeO.none _
      | refine LeO.ite ?_ ?_
      | refine LeO.bind ?_ (fun _ => ?_)
theorem spec_l10At.mono : ∀ a0 a1 a2 k, LeO (spec_l10At.f k a0 a1 a2) (spec_l10At.f (k + 1) a0 a1 a2) := by
  intro a0 a1 a2 k
  have ih0 := spec_l10At.mono_l k
  unfold spec_l10At.f
  repeat' first
      | (with_reducible exact ih0 _ _ _ _ _ _ _ _ _)
      | (with_reducible exact LeO.refl _)
      | (with_reducible exact LeO.none _)
      | (with_reducible refine LeO.ite ?_ ?_)
      | (with_reducible refine LeO.bind ?_ (fun _ => ?_))
      | exact ih0 _ _ _ _ _ _ _ _ _
      | exact LeO.none _
      | refine LeO.ite ?_ ?_
      | refine LeO.bind ?_ (fun _ => ?_)
set_option maxHeartbeats 8000000 in
set_option maxRecDepth 100000 in
theorem spec_l10At.calls (k : Nat) (A0 : Option Addr) (c0 : Nat) (l0 : List (S76)) (a1 : ByteArray) (a2 : Int) (r1 : Int) (r2 : Int) (r3 : Int) (w : World) (hr0 : Kd.C k76 w A0 l0.length l0) (hc0 : l0.length ≤ c0) (h : spec_l10At.f k l0 a1 a2 = some (r1, r2, r3)) :
    Calls Try.prog 62 #[.slice A0 l0.length c0, .string a1, .int .i64 a2] w fun e w' => e = .returned (.tuple #[.int .i64 r1, .int .i64 r2, .int .i64 r3]) ∧ Below w.heap.size w w' := by
  have hu76 := Try.underlying76
  have HR0 := Aside0.mk hr0
  have HC0 := Aside0.mk hc0
  clear hr0 hc0
  have HB := Aside0.mk (Below.refl w.heap.size w)
  have H : (spec_l10At.l0 k l0 a1 a2 (-1) a2 a2 (-1) 0 0) = some (r1, r2, r3) := h
  clear h
  have H' := Aside0.mk H
  clear H
  go_enter Try.func62, Try.ntmps62
  go_wp2
  go_loopg [9, 10, 11, 12, 13, 14] k (fun kq v9 v10 v11 v12 v13 v14 w' => ∃ (x9_1 : Int) (x10_1 : Int) (x11_1 : Int) (x12_1 : Int) (x13_1 : Int) (x14_1 : Int), v9 = .int .i64 x9_1 ∧ v10 = .int .i64 x10_1 ∧ v11 = .int .i64 x11_1 ∧ v12 = .int .i64 x12_1 ∧ v13 = .int .i64 x13_1 ∧ v14 = .int .i64 x14_1 ∧ Aside0 (spec_l10At.l0 kq l0 a1 a2 x9_1 x10_1 x11_1 x12_1 x13_1 x14_1 = some (r1, r2, r3)) ∧ Aside0 (kq ≤ k) ∧ Aside0 (Below w.heap.size w w'))
  case atStart => exact ⟨((-1)), (a2), (a2), ((-1)), (0), (0), (by first | rfl | (simp; done) | (simp [*]; done)), (by first | rfl | (simp; done) | (simp [*]; done)), (by first | rfl | (simp; done) | (simp [*]; done)), (by first | rfl | (simp; done) | (simp [*]; done)), (by first | rfl | (simp; done) | (simp [*]; done)), (by first | rfl | (simp; done) | (simp [*]; done)), H', ⟨Nat.le_refl _⟩, ⟨by repeat (first | (with_reducible first | exact HB.out | apply below_alloc | apply pw_below_drewN | apply below_drew1) | exact HB.out)⟩⟩
  case round =>
    clear H'
    try clear p2
    obtain ⟨x9_1, x10_1, x11_1, x12_1, x13_1, x14_1, rfl, rfl, rfl, rfl, rfl, rfl, HA, HK1, HB⟩ := hrel
    cases gk with
    | zero => exact absurd HA.out (by simp [spec_l10At.l0])
    | succ k1 =>
      have H := HA.out
      clear HA
      simp only [spec_l10At.l0] at H
      by_cases c4 : x14_1 < (l0.length : Int)
      · rw [if_pos c4] at H
        have c4b0 : decide (x14_1 < (l0.length : Int)) = true := decide_eq_true c4
        clear c4
        by_cases c5 : 0 ≤ x14_1
        · rw [if_pos c5] at H
          have c5b0 : decide (0 ≤ x14_1) = true := decide_eq_true c5
          clear c5
          by_cases c6 : ((rd_T76 l0 x14_1).f0) = 1
          · rw [if_pos c6] at H
            have c6b0 : (((rd_T76 l0 x14_1).f0) == 1) = true := beq_iff_eq.mpr c6
            have c6b1 : (((rd_T76 l0 x14_1).f0) != 1) = false := bne_eq_false_iff_eq.mpr c6
            clear c6
            by_cases c7 : x11_1 > a2
            · rw [if_pos c7] at H
              have c7b0 : decide (a2 < x11_1) = true := decide_eq_true c7
              clear c7
              have H' := Aside0.mk H
              clear H
              have p237 : 0 ≤ (x14_1 : Int) := of_decide_eq_true (by first | (with_reducible assumption) | assumption)
              have q237 : x14_1 < (l0.length : Int) := of_decide_eq_true (by first | (with_reducible assumption) | assumption)
              obtain ⟨ad237, e237, hx237_0, hx237_1, hx237_2, hx237_3⟩ := at_T76 HR0.out x14_1 p237 q237
              cases e237
              replace hx237_0 := (HB.out.cell (World.block_lt_of_cell? w _ hx237_0)).trans hx237_0
              replace hx237_1 := (HB.out.cell (World.block_lt_of_cell? w _ hx237_1)).trans hx237_1
              replace hx237_2 := (HB.out.cell (World.block_lt_of_cell? w _ hx237_2)).trans hx237_2
              replace hx237_3 := (HB.out.cell (World.block_lt_of_cell? w _ hx237_3)).trans hx237_3
              replace p237 := eq_true p237
              replace q237 := eq_true q237
              go_wp2_with (first | ((with_reducible refine gate_dst (N := 15) rfl ?_); refine box_event ?hg (N := 15) ?hd (cs := #[.int .i64 0, .int .i64 0, .int .i64 0, .int .i64 0]) (t := 76) ?hr ?_; (case hd => rfl); (case hg => rfl); (case hr => first | (go_simp; done) | (go_simp; rfl)); intro gb238 hg w8 hbox hb; have n0_ := Aside0.mk (below_step (by repeat (first | (with_reducible first | exact HB.out | apply below_alloc | apply pw_below_drewN | apply below_drew1) | exact HB.out)) hb); have n1_ := Aside0.mk (hbox); have n2_ := Aside0.mk ((by rw [hg]; exact (below_size (by repeat (first | (with_reducible first | exact HB.out | apply below_alloc | apply pw_below_drewN | apply below_drew1) | exact HB.out))) : w.heap.size ≤ gb238)); have n3_ := Aside0.mk ((by rw [hg]; exact (below_size (by repeat (first | (with_reducible first | exact HB.out | apply below_alloc | apply pw_below_drewN | apply below_drew1) | exact HB.out))) : w.heap.size ≤ gb238)); clear HB; have HB := n0_; have BK238 := n1_; have GW238 := n2_; have GE238 := n3_; clear n0_ n1_ n2_ n3_; clear hb hbox hg; have hcz9_0 : w8.cell? ⟨gb238, 0, none⟩ = some (.int .i64 0) := (blk_cell BK238.out 0).trans rfl; have hcz9_1 : w8.cell? ⟨gb238, 1, none⟩ = some (.int .i64 0) := (blk_cell BK238.out 1).trans rfl; have hcz9_2 : w8.cell? ⟨gb238, 2, none⟩ = some (.int .i64 0) := (blk_cell BK238.out 2).trans rfl; have hcz9_3 : w8.cell? ⟨gb238, 3, none⟩ = some (.int .i64 0) := (blk_cell BK238.out 3).trans rfl; have hfz9_0 := blk_frozen BK238.out 0; have hfz9_1 := blk_frozen BK238.out 1; have hfz9_2 := blk_frozen BK238.out 2; have hfz9_3 := blk_frozen BK238.out 3))
              go_roundg k1
              case measure => have := HK1.out; omega
              case rel => exact ⟨((rd_T76 l0 x14_1).f1), (x11_1), (x11_1), (x12_1), (wrap64 (x13_1 + 1)), (wrap64 (x14_1 + 1)), (by first | rfl | (simp; done) | (simp [*]; done)), (by first | rfl | (simp; done) | (simp [*]; done)), (by first | rfl | (simp; done) | (simp [*]; done)), (by first | rfl | (simp; done) | (simp [*]; done)), (by first | rfl | (simp; done) | (simp [*]; done)), (by first | rfl | (simp; done) | (simp [*]; done)), H', ⟨by have := HK1.out; omega⟩, ⟨by repeat (first | (with_reducible first | exact HB.out | apply below_alloc | apply pw_below_drewN | apply below_drew1 | refine below_set ?_ GE238.out) | exact HB.out)⟩⟩
            · rw [if_neg c7] at H
              have c7b0 : decide (a2 < x11_1) = false := decide_eq_false c7
              clear c7
              have H' := Aside0.mk H
              clear H
              have p237 : 0 ≤ (x14_1 : Int) := of_decide_eq_true (by first | (with_reducible assumption) | assumption)
              have q237 : x14_1 < (l0.length : Int) := of_decide_eq_true (by first | (with_reducible assumption) | assumption)
              obtain ⟨ad237, e237, hx237_0, hx237_1, hx237_2, hx237_3⟩ := at_T76 HR0.out x14_1 p237 q237
              cases e237
              replace hx237_0 := (HB.out.cell (World.block_lt_of_cell? w _ hx237_0)).trans hx237_0
              replace hx237_1 := (HB.out.cell (World.block_lt_of_cell? w _ hx237_1)).trans hx237_1
              replace hx237_2 := (HB.out.cell (World.block_lt_of_cell? w _ hx237_2)).trans hx237_2
              replace hx237_3 := (HB.out.cell (World.block_lt_of_cell? w _ hx237_3)).trans hx237_3
              replace p237 := eq_true p237
              replace q237 := eq_true q237
              go_wp2_with (first | ((with_reducible refine gate_dst (N := 15) rfl ?_); refine box_event ?hg (N := 15) ?hd (cs := #[.int .i64 0, .int .i64 0, .int .i64 0, .int .i64 0]) (t := 76) ?hr ?_; (case hd => rfl); (case hg => rfl); (case hr => first | (go_simp; done) | (go_simp; rfl)); intro gb238 hg w10 hbox hb; have n0_ := Aside0.mk (below_step (by repeat (first | (with_reducible first | exact HB.out | apply below_alloc | apply pw_below_drewN | apply below_drew1) | exact HB.out)) hb); have n1_ := Aside0.mk (hbox); have n2_ := Aside0.mk ((by rw [hg]; exact (below_size (by repeat (first | (with_reducible first | exact HB.out | apply below_alloc | apply pw_below_drewN | apply below_drew1) | exact HB.out))) : w.heap.size ≤ gb238)); have n3_ := Aside0.mk ((by rw [hg]; exact (below_size (by repeat (first | (with_reducible first | exact HB.out | apply below_alloc | apply pw_below_drewN | apply below_drew1) | exact HB.out))) : w.heap.size ≤ gb238)); clear HB; have HB := n0_; have BK238 := n1_; have GW238 := n2_; have GE238 := n3_; clear n0_ n1_ n2_ n3_; clear hb hbox hg; have hcz11_0 : w10.cell? ⟨gb238, 0, none⟩ = some (.int .i64 0) := (blk_cell BK238.out 0).trans rfl; have hcz11_1 : w10.cell? ⟨gb238, 1, none⟩ = some (.int .i64 0) := (blk_cell BK238.out 1).trans rfl; have hcz11_2 : w10.cell? ⟨gb238, 2, none⟩ = some (.int .i64 0) := (blk_cell BK238.out 2).trans rfl; have hcz11_3 : w10.cell? ⟨gb238, 3, none⟩ = some (.int .i64 0) := (blk_cell BK238.out 3).trans rfl; have hfz11_0 := blk_frozen BK238.out 0; have hfz11_1 := blk_frozen BK238.out 1; have hfz11_2 := blk_frozen BK238.out 2; have hfz11_3 := blk_frozen BK238.out 3))
              go_roundg k1
              case measure => have := HK1.out; omega
              case rel => exact ⟨(x9_1), (x10_1), (x11_1), (x12_1), (wrap64 (x13_1 + 1)), (wrap64 (x14_1 + 1)), (by first | rfl | (simp; done) | (simp [*]; done)), (by first | rfl | (simp; done) | (simp [*]; done)), (by first | rfl | (simp; done) | (simp [*]; done)), (by first | rfl | (simp; done) | (simp [*]; done)), (by first | rfl | (simp; done) | (simp [*]; done)), (by first | rfl | (simp; done) | (simp [*]; done)), H', ⟨by have := HK1.out; omega⟩, ⟨by repeat (first | (with_reducible first | exact HB.out | apply below_alloc | apply pw_below_drewN | apply below_drew1 | refine below_set ?_ GE238.out) | exact HB.out)⟩⟩
          · rw [if_neg c6] at H
            have c6b0 : (((rd_T76 l0 x14_1).f0) == 1) = false := beq_eq_false_iff_ne.mpr c6
            have c6b1 : (((rd_T76 l0 x14_1).f0) != 1) = true := bne_iff_ne.mpr c6
            by_cases c12 : ((rd_T76 l0 x14_1).f0) = 2
            · rw [if_pos c12] at H
              have c12b0 : (((rd_T76 l0 x14_1).f0) == 2) = true := beq_iff_eq.mpr c12
              have c12b1 : (((rd_T76 l0 x14_1).f0) != 2) = false := bne_eq_false_iff_eq.mpr c12
              clear c12
              by_cases c13 : x11_1 ≥ (a1.size : Int)
              · rw [if_pos c13] at H
                have c13b0 : decide ((a1.size : Int) ≤ x11_1) = true := decide_eq_true c13
                clear c13
                simp only [Option.some.injEq, Prod.mk.injEq] at H
                obtain ⟨rfl, rfl, rfl⟩ := H
                have p237 : 0 ≤ (x14_1 : Int) := of_decide_eq_true (by first | (with_reducible assumption) | assumption)
                have q237 : x14_1 < (l0.length : Int) := of_decide_eq_true (by first | (with_reducible assumption) | assumption)
                obtain ⟨ad237, e237, hx237_0, hx237_1, hx237_2, hx237_3⟩ := at_T76 HR0.out x14_1 p237 q237
                cases e237
                replace hx237_0 := (HB.out.cell (World.block_lt_of_cell? w _ hx237_0)).trans hx237_0
                replace hx237_1 := (HB.out.cell (World.block_lt_of_cell? w _ hx237_1)).trans hx237_1
                replace hx237_2 := (HB.out.cell (World.block_lt_of_cell? w _ hx237_2)).trans hx237_2
                replace hx237_3 := (HB.out.cell (World.block_lt_of_cell? w _ hx237_3)).trans hx237_3
                replace p237 := eq_true p237
                replace q237 := eq_true q237
                go_wp2_with (first | ((with_reducible refine gate_dst (N := 15) rfl ?_); refine box_event ?hg (N := 15) ?hd (cs := #[.int .i64 0, .int .i64 0, .int .i64 0, .int .i64 0]) (t := 76) ?hr ?_; (case hd => rfl); (case hg => rfl); (case hr => first | (go_simp; done) | (go_simp; rfl)); intro gb238 hg w14 hbox hb; have n0_ := Aside0.mk (below_step (by repeat (first | (with_reducible first | exact HB.out | apply below_alloc | apply pw_below_drewN | apply below_drew1) | exact HB.out)) hb); have n1_ := Aside0.mk (hbox); have n2_ := Aside0.mk ((by rw [hg]; exact (below_size (by repeat (first | (with_reducible first | exact HB.out | apply below_alloc | apply pw_below_drewN | apply below_drew1) | exact HB.out))) : w.heap.size ≤ gb238)); have n3_ := Aside0.mk ((by rw [hg]; exact (below_size (by repeat (first | (with_reducible first | exact HB.out | apply below_alloc | apply pw_below_drewN | apply below_drew1) | exact HB.out))) : w.heap.size ≤ gb238)); clear HB; have HB := n0_; have BK238 := n1_; have GW238 := n2_; have GE238 := n3_; clear n0_ n1_ n2_ n3_; clear hb hbox hg; have hcz15_0 : w14.cell? ⟨gb238, 0, none⟩ = some (.int .i64 0) := (blk_cell BK238.out 0).trans rfl; have hcz15_1 : w14.cell? ⟨gb238, 1, none⟩ = some (.int .i64 0) := (blk_cell BK238.out 1).trans rfl; have hcz15_2 : w14.cell? ⟨gb238, 2, none⟩ = some (.int .i64 0) := (blk_cell BK238.out 2).trans rfl; have hcz15_3 : w14.cell? ⟨gb238, 3, none⟩ = some (.int .i64 0) := (blk_cell BK238.out 3).trans rfl; have hfz15_0 := blk_frozen BK238.out 0; have hfz15_1 := blk_frozen BK238.out 1; have hfz15_2 := blk_frozen BK238.out 2; have hfz15_3 := blk_frozen BK238.out 3))
                go_ret3
                exact ⟨by first | rfl | (simp [errW_none, errW_some] <;> rfl) | (simp [*, errW_none, errW_some] <;> rfl), by repeat (first | (with_reducible first | exact HB.out | apply below_alloc | apply pw_below_drewN | apply below_drew1 | refine below_set ?_ GE238.out) | exact HB.out)⟩
              · rw [if_neg c13] at H
                have c13b0 : decide ((a1.size : Int) ≤ x11_1) = false := decide_eq_false c13
                clear c13
                by_cases c16 : 0 ≤ x11_1
                · rw [if_pos c16] at H
                  have c16b0 : decide (0 ≤ x11_1) = true := decide_eq_true c16
                  clear c16
                  by_cases c17 : x11_1 < (a1.size : Int)
                  · rw [if_pos c17] at H
                    have c17b0 : decide (x11_1 < (a1.size : Int)) = true := decide_eq_true c17
                    clear c17
                    have H' := Aside0.mk H
                    clear H
                    have p237 : 0 ≤ (x14_1 : Int) := of_decide_eq_true (by first | (with_reducible assumption) | assumption)
                    have q237 : x14_1 < (l0.length : Int) := of_decide_eq_true (by first | (with_reducible assumption) | assumption)
                    obtain ⟨ad237, e237, hx237_0, hx237_1, hx237_2, hx237_3⟩ := at_T76 HR0.out x14_1 p237 q237
                    cases e237
                    replace hx237_0 := (HB.out.cell (World.block_lt_of_cell? w _ hx237_0)).trans hx237_0
                    replace hx237_1 := (HB.out.cell (World.block_lt_of_cell? w _ hx237_1)).trans hx237_1
                    replace hx237_2 := (HB.out.cell (World.block_lt_of_cell? w _ hx237_2)).trans hx237_2
                    replace hx237_3 := (HB.out.cell (World.block_lt_of_cell? w _ hx237_3)).trans hx237_3
                    replace p237 := eq_true p237
                    replace q237 := eq_true q237
                    go_wp2_with (first | ((with_reducible refine gate_dst (N := 15) rfl ?_); refine box_event ?hg (N := 15) ?hd (cs := #[.int .i64 0, .int .i64 0, .int .i64 0, .int .i64 0]) (t := 76) ?hr ?_; (case hd => rfl); (case hg => rfl); (case hr => first | (go_simp; done) | (go_simp; rfl)); intro gb238 hg w19 hbox hb; have n0_ := Aside0.mk (below_step (by repeat (first | (with_reducible first | exact HB.out | apply below_alloc | apply pw_below_drewN | apply below_drew1) | exact HB.out)) hb); have n1_ := Aside0.mk (hbox); have n2_ := Aside0.mk ((by rw [hg]; exact (below_size (by repeat (first | (with_reducible first | exact HB.out | apply below_alloc | apply pw_below_drewN | apply below_drew1) | exact HB.out))) : w.heap.size ≤ gb238)); have n3_ := Aside0.mk ((by rw [hg]; exact (below_size (by repeat (first | (with_reducible first | exact HB.out | apply below_alloc | apply pw_below_drewN | apply below_drew1) | exact HB.out))) : w.heap.size ≤ gb238)); clear HB; have HB := n0_; have BK238 := n1_; have GW238 := n2_; have GE238 := n3_; clear n0_ n1_ n2_ n3_; clear hb hbox hg; have hcz20_0 : w19.cell? ⟨gb238, 0, none⟩ = some (.int .i64 0) := (blk_cell BK238.out 0).trans rfl; have hcz20_1 : w19.cell? ⟨gb238, 1, none⟩ = some (.int .i64 0) := (blk_cell BK238.out 1).trans rfl; have hcz20_2 : w19.cell? ⟨gb238, 2, none⟩ = some (.int .i64 0) := (blk_cell BK238.out 2).trans rfl; have hcz20_3 : w19.cell? ⟨gb238, 3, none⟩ = some (.int .i64 0) := (blk_cell BK238.out 3).trans rfl; have hfz20_0 := blk_frozen BK238.out 0; have hfz20_1 := blk_frozen BK238.out 1; have hfz20_2 := blk_frozen BK238.out 2; have hfz20_3 := blk_frozen BK238.out 3; have p18 : 0 ≤ (x11_1 : Int) := of_decide_eq_true (by first | (with_reducible assumption) | assumption); have q18 : x11_1 < (a1.size : Int) := of_decide_eq_true (by first | (with_reducible assumption) | assumption); have hx18 := bt_at a1 x11_1; replace p18 := eq_true p18; replace q18 := eq_true q18))
                    go_roundg k1
                    case measure => have := HK1.out; omega
                    case rel => exact ⟨(x9_1), (x10_1), (wrap64 (x11_1 + 1)), (wrap64 (bt a1 x11_1)), (wrap64 (x13_1 + 1)), (wrap64 (x14_1 + 1)), (by first | rfl | (simp; done) | (simp [*]; done)), (by first | rfl | (simp; done) | (simp [*]; done)), (by first | rfl | (simp; done) | (simp [*]; done)), (by first | rfl | (simp; done) | (simp [*]; done)), (by first | rfl | (simp; done) | (simp [*]; done)), (by first | rfl | (simp; done) | (simp [*]; done)), H', ⟨by have := HK1.out; omega⟩, ⟨by repeat (first | (with_reducible first | exact HB.out | apply below_alloc | apply pw_below_drewN | apply below_drew1 | refine below_set ?_ GE238.out) | exact HB.out)⟩⟩
                  · rw [if_neg c17] at H
                    exact absurd H (by simp)
                · rw [if_neg c16] at H
                  exact absurd H (by simp)
            · rw [if_neg c12] at H
              have c12b0 : (((rd_T76 l0 x14_1).f0) == 2) = false := beq_eq_false_iff_ne.mpr c12
              have c12b1 : (((rd_T76 l0 x14_1).f0) != 2) = true := bne_iff_ne.mpr c12
              by_cases c21 : ((rd_T76 l0 x14_1).f0) = 3
              · rw [if_pos c21] at H
                have c21b0 : (((rd_T76 l0 x14_1).f0) == 3) = true := beq_iff_eq.mpr c21
                have c21b1 : (((rd_T76 l0 x14_1).f0) != 3) = false := bne_eq_false_iff_eq.mpr c21
                clear c21
                by_cases c22 : x12_1 ≥ ((rd_T76 l0 x14_1).f1)
                · rw [if_pos c22] at H
                  have c22b0 : decide (((rd_T76 l0 x14_1).f1) ≤ x12_1) = true := decide_eq_true c22
                  clear c22
                  by_cases c23 : x12_1 ≤ ((rd_T76 l0 x14_1).f2)
                  · rw [if_pos c23] at H
                    have c23b0 : decide (x12_1 ≤ ((rd_T76 l0 x14_1).f2)) = true := decide_eq_true c23
                    clear c23
                    have H' := Aside0.mk H
                    clear H
                    have p237 : 0 ≤ (x14_1 : Int) := of_decide_eq_true (by first | (with_reducible assumption) | assumption)
                    have q237 : x14_1 < (l0.length : Int) := of_decide_eq_true (by first | (with_reducible assumption) | assumption)
                    obtain ⟨ad237, e237, hx237_0, hx237_1, hx237_2, hx237_3⟩ := at_T76 HR0.out x14_1 p237 q237
                    cases e237
                    replace hx237_0 := (HB.out.cell (World.block_lt_of_cell? w _ hx237_0)).trans hx237_0
                    replace hx237_1 := (HB.out.cell (World.block_lt_of_cell? w _ hx237_1)).trans hx237_1
                    replace hx237_2 := (HB.out.cell (World.block_lt_of_cell? w _ hx237_2)).trans hx237_2
                    replace hx237_3 := (HB.out.cell (World.block_lt_of_cell? w _ hx237_3)).trans hx237_3
                    replace p237 := eq_true p237
                    replace q237 := eq_true q237
                    go_wp2_with (first | ((with_reducible refine gate_dst (N := 15) rfl ?_); refine box_event ?hg (N := 15) ?hd (cs := #[.int .i64 0, .int .i64 0, .int .i64 0, .int .i64 0]) (t := 76) ?hr ?_; (case hd => rfl); (case hg => rfl); (case hr => first | (go_simp; done) | (go_simp; rfl)); intro gb238 hg w24 hbox hb; have n0_ := Aside0.mk (below_step (by repeat (first | (with_reducible first | exact HB.out | apply below_alloc | apply pw_below_drewN | apply below_drew1) | exact HB.out)) hb); have n1_ := Aside0.mk (hbox); have n2_ := Aside0.mk ((by rw [hg]; exact (below_size (by repeat (first | (with_reducible first | exact HB.out | apply below_alloc | apply pw_below_drewN | apply below_drew1) | exact HB.out))) : w.heap.size ≤ gb238)); have n3_ := Aside0.mk ((by rw [hg]; exact (below_size (by repeat (first | (with_reducible first | exact HB.out | apply below_alloc | apply pw_below_drewN | apply below_drew1) | exact HB.out))) : w.heap.size ≤ gb238)); clear HB; have HB := n0_; have BK238 := n1_; have GW238 := n2_; have GE238 := n3_; clear n0_ n1_ n2_ n3_; clear hb hbox hg; have hcz25_0 : w24.cell? ⟨gb238, 0, none⟩ = some (.int .i64 0) := (blk_cell BK238.out 0).trans rfl; have hcz25_1 : w24.cell? ⟨gb238, 1, none⟩ = some (.int .i64 0) := (blk_cell BK238.out 1).trans rfl; have hcz25_2 : w24.cell? ⟨gb238, 2, none⟩ = some (.int .i64 0) := (blk_cell BK238.out 2).trans rfl; have hcz25_3 : w24.cell? ⟨gb238, 3, none⟩ = some (.int .i64 0) := (blk_cell BK238.out 3).trans rfl; have hfz25_0 := blk_frozen BK238.out 0; have hfz25_1 := blk_frozen BK238.out 1; have hfz25_2 := blk_frozen BK238.out 2; have hfz25_3 := blk_frozen BK238.out 3))
                    go_roundg k1
                    case measure => have := HK1.out; omega
                    case rel => exact ⟨(x9_1), (x10_1), (x11_1), (x12_1), (wrap64 (x13_1 + 1)), ((rd_T76 l0 x14_1).f3), (by first | rfl | (simp; done) | (simp [*]; done)), (by first | rfl | (simp; done) | (simp [*]; done)), (by first | rfl | (simp; done) | (simp [*]; done)), (by first | rfl | (simp; done) | (simp [*]; done)), (by first | rfl | (simp; done) | (simp [*]; done)), (by first | rfl | (simp; done) | (simp [*]; done)), H', ⟨by have := HK1.out; omega⟩, ⟨by repeat (first | (with_reducible first | exact HB.out | apply below_alloc | apply pw_below_drewN | apply below_drew1 | refine below_set ?_ GE238.out) | exact HB.out)⟩⟩
                  · rw [if_neg c23] at H
                    have c23b0 : decide (x12_1 ≤ ((rd_T76 l0 x14_1).f2)) = false := decide_eq_false c23
                    clear c23
                    have H' := Aside0.mk H
                    clear H
                    have p237 : 0 ≤ (x14_1 : Int) := of_decide_eq_true (by first | (with_reducible assumption) | assumption)
                    have q237 : x14_1 < (l0.length : Int) := of_decide_eq_true (by first | (with_reducible assumption) | assumption)
                    obtain ⟨ad237, e237, hx237_0, hx237_1, hx237_2, hx237_3⟩ := at_T76 HR0.out x14_1 p237 q237
                    cases e237
                    replace hx237_0 := (HB.out.cell (World.block_lt_of_cell? w _ hx237_0)).trans hx237_0
                    replace hx237_1 := (HB.out.cell (World.block_lt_of_cell? w _ hx237_1)).trans hx237_1
                    replace hx237_2 := (HB.out.cell (World.block_lt_of_cell? w _ hx237_2)).trans hx237_2
                    replace hx237_3 := (HB.out.cell (World.block_lt_of_cell? w _ hx237_3)).trans hx237_3
                    replace p237 := eq_true p237
                    replace q237 := eq_true q237
                    go_wp2_with (first | ((with_reducible refine gate_dst (N := 15) rfl ?_); refine box_event ?hg (N := 15) ?hd (cs := #[.int .i64 0, .int .i64 0, .int .i64 0, .int .i64 0]) (t := 76) ?hr ?_; (case hd => rfl); (case hg => rfl); (case hr => first | (go_simp; done) | (go_simp; rfl)); intro gb238 hg w26 hbox hb; have n0_ := Aside0.mk (below_step (by repeat (first | (with_reducible first | exact HB.out | apply below_alloc | apply pw_below_drewN | apply below_drew1) | exact HB.out)) hb); have n1_ := Aside0.mk (hbox); have n2_ := Aside0.mk ((by rw [hg]; exact (below_size (by repeat (first | (with_reducible first | exact HB.out | apply below_alloc | apply pw_below_drewN | apply below_drew1) | exact HB.out))) : w.heap.size ≤ gb238)); have n3_ := Aside0.mk ((by rw [hg]; exact (below_size (by repeat (first | (with_reducible first | exact HB.out | apply below_alloc | apply pw_below_drewN | apply below_drew1) | exact HB.out))) : w.heap.size ≤ gb238)); clear HB; have HB := n0_; have BK238 := n1_; have GW238 := n2_; have GE238 := n3_; clear n0_ n1_ n2_ n3_; clear hb hbox hg; have hcz27_0 : w26.cell? ⟨gb238, 0, none⟩ = some (.int .i64 0) := (blk_cell BK238.out 0).trans rfl; have hcz27_1 : w26.cell? ⟨gb238, 1, none⟩ = some (.int .i64 0) := (blk_cell BK238.out 1).trans rfl; have hcz27_2 : w26.cell? ⟨gb238, 2, none⟩ = some (.int .i64 0) := (blk_cell BK238.out 2).trans rfl; have hcz27_3 : w26.cell? ⟨gb238, 3, none⟩ = some (.int .i64 0) := (blk_cell BK238.out 3).trans rfl; have hfz27_0 := blk_frozen BK238.out 0; have hfz27_1 := blk_frozen BK238.out 1; have hfz27_2 := blk_frozen BK238.out 2; have hfz27_3 := blk_frozen BK238.out 3))
                    go_roundg k1
                    case measure => have := HK1.out; omega
                    case rel => exact ⟨(x9_1), (x10_1), (x11_1), (x12_1), (wrap64 (x13_1 + 1)), (wrap64 (x14_1 + 1)), (by first | rfl | (simp; done) | (simp [*]; done)), (by first | rfl | (simp; done) | (simp [*]; done)), (by first | rfl | (simp; done) | (simp [*]; done)), (by first | rfl | (simp; done) | (simp [*]; done)), (by first | rfl | (simp; done) | (simp [*]; done)), (by first | rfl | (simp; done) | (simp [*]; done)), H', ⟨by have := HK1.out; omega⟩, ⟨by repeat (first | (with_reducible first | exact HB.out | apply below_alloc | apply pw_below_drewN | apply below_drew1 | refine below_set ?_ GE238.out) | exact HB.out)⟩⟩
                · rw [if_neg c22] at H
                  have c22b0 : decide (((rd_T76 l0 x14_1).f1) ≤ x12_1) = false := decide_eq_false c22
                  clear c22
                  have H' := Aside0.mk H
                  clear H
                  have p237 : 0 ≤ (x14_1 : Int) := of_decide_eq_true (by first | (with_reducible assumption) | assumption)
                  have q237 : x14_1 < (l0.length : Int) := of_decide_eq_true (by first | (with_reducible assumption) | assumption)
                  obtain ⟨ad237, e237, hx237_0, hx237_1, hx237_2, hx237_3⟩ := at_T76 HR0.out x14_1 p237 q237
                  cases e237
                  replace hx237_0 := (HB.out.cell (World.block_lt_of_cell? w _ hx237_0)).trans hx237_0
                  replace hx237_1 := (HB.out.cell (World.block_lt_of_cell? w _ hx237_1)).trans hx237_1
                  replace hx237_2 := (HB.out.cell (World.block_lt_of_cell? w _ hx237_2)).trans hx237_2
                  replace hx237_3 := (HB.out.cell (World.block_lt_of_cell? w _ hx237_3)).trans hx237_3
                  replace p237 := eq_true p237
                  replace q237 := eq_true q237
                  go_wp2_with (first | ((with_reducible refine gate_dst (N := 15) rfl ?_); refine box_event ?hg (N := 15) ?hd (cs := #[.int .i64 0, .int .i64 0, .int .i64 0, .int .i64 0]) (t := 76) ?hr ?_; (case hd => rfl); (case hg => rfl); (case hr => first | (go_simp; done) | (go_simp; rfl)); intro gb238 hg w28 hbox hb; have n0_ := Aside0.mk (below_step (by repeat (first | (with_reducible first | exact HB.out | apply below_alloc | apply pw_below_drewN | apply below_drew1) | exact HB.out)) hb); have n1_ := Aside0.mk (hbox); have n2_ := Aside0.mk ((by rw [hg]; exact (below_size (by repeat (first | (with_reducible first | exact HB.out | apply below_alloc | apply pw_below_drewN | apply below_drew1) | exact HB.out))) : w.heap.size ≤ gb238)); have n3_ := Aside0.mk ((by rw [hg]; exact (below_size (by repeat (first | (with_reducible first | exact HB.out | apply below_alloc | apply pw_below_drewN | apply below_drew1) | exact HB.out))) : w.heap.size ≤ gb238)); clear HB; have HB := n0_; have BK238 := n1_; have GW238 := n2_; have GE238 := n3_; clear n0_ n1_ n2_ n3_; clear hb hbox hg; have hcz29_0 : w28.cell? ⟨gb238, 0, none⟩ = some (.int .i64 0) := (blk_cell BK238.out 0).trans rfl; have hcz29_1 : w28.cell? ⟨gb238, 1, none⟩ = some (.int .i64 0) := (blk_cell BK238.out 1).trans rfl; have hcz29_2 : w28.cell? ⟨gb238, 2, none⟩ = some (.int .i64 0) := (blk_cell BK238.out 2).trans rfl; have hcz29_3 : w28.cell? ⟨gb238, 3, none⟩ = some (.int .i64 0) := (blk_cell BK238.out 3).trans rfl; have hfz29_0 := blk_frozen BK238.out 0; have hfz29_1 := blk_frozen BK238.out 1; have hfz29_2 := blk_frozen BK238.out 2; have hfz29_3 := blk_frozen BK238.out 3))
                  go_roundg k1
                  case measure => have := HK1.out; omega
                  case rel => exact ⟨(x9_1), (x10_1), (x11_1), (x12_1), (wrap64 (x13_1 + 1)), (wrap64 (x14_1 + 1)), (by first | rfl | (simp; done) | (simp [*]; done)), (by first | rfl | (simp; done) | (simp [*]; done)), (by first | rfl | (simp; done) | (simp [*]; done)), (by first | rfl | (simp; done) | (simp [*]; done)), (by first | rfl | (simp; done) | (simp [*]; done)), (by first | rfl | (simp; done) | (simp [*]; done)), H', ⟨by have := HK1.out; omega⟩, ⟨by repeat (first | (with_reducible first | exact HB.out | apply below_alloc | apply pw_below_drewN | apply below_drew1 | refine below_set ?_ GE238.out) | exact HB.out)⟩⟩
              · rw [if_neg c21] at H
                have c21b0 : (((rd_T76 l0 x14_1).f0) == 3) = false := beq_eq_false_iff_ne.mpr c21
                have c21b1 : (((rd_T76 l0 x14_1).f0) != 3) = true := bne_iff_ne.mpr c21
                simp only [Option.some.injEq, Prod.mk.injEq] at H
                obtain ⟨rfl, rfl, rfl⟩ := H
                have p237 : 0 ≤ (x14_1 : Int) := of_decide_eq_true (by first | (with_reducible assumption) | assumption)
                have q237 : x14_1 < (l0.length : Int) := of_decide_eq_true (by first | (with_reducible assumption) | assumption)
                obtain ⟨ad237, e237, hx237_0, hx237_1, hx237_2, hx237_3⟩ := at_T76 HR0.out x14_1 p237 q237
                cases e237
                replace hx237_0 := (HB.out.cell (World.block_lt_of_cell? w _ hx237_0)).trans hx237_0
                replace hx237_1 := (HB.out.cell (World.block_lt_of_cell? w _ hx237_1)).trans hx237_1
                replace hx237_2 := (HB.out.cell (World.block_lt_of_cell? w _ hx237_2)).trans hx237_2
                replace hx237_3 := (HB.out.cell (World.block_lt_of_cell? w _ hx237_3)).trans hx237_3
                replace p237 := eq_true p237
                replace q237 := eq_true q237
                go_wp2_with (first | ((with_reducible refine gate_dst (N := 15) rfl ?_); refine box_event ?hg (N := 15) ?hd (cs := #[.int .i64 0, .int .i64 0, .int .i64 0, .int .i64 0]) (t := 76) ?hr ?_; (case hd => rfl); (case hg => rfl); (case hr => first | (go_simp; done) | (go_simp; rfl)); intro gb238 hg w30 hbox hb; have n0_ := Aside0.mk (below_step (by repeat (first | (with_reducible first | exact HB.out | apply below_alloc | apply pw_below_drewN | apply below_drew1) | exact HB.out)) hb); have n1_ := Aside0.mk (hbox); have n2_ := Aside0.mk ((by rw [hg]; exact (below_size (by repeat (first | (with_reducible first | exact HB.out | apply below_alloc | apply pw_below_drewN | apply below_drew1) | exact HB.out))) : w.heap.size ≤ gb238)); have n3_ := Aside0.mk ((by rw [hg]; exact (below_size (by repeat (first | (with_reducible first | exact HB.out | apply below_alloc | apply pw_below_drewN | apply below_drew1) | exact HB.out))) : w.heap.size ≤ gb238)); clear HB; have HB := n0_; have BK238 := n1_; have GW238 := n2_; have GE238 := n3_; clear n0_ n1_ n2_ n3_; clear hb hbox hg; have hcz31_0 : w30.cell? ⟨gb238, 0, none⟩ = some (.int .i64 0) := (blk_cell BK238.out 0).trans rfl; have hcz31_1 : w30.cell? ⟨gb238, 1, none⟩ = some (.int .i64 0) := (blk_cell BK238.out 1).trans rfl; have hcz31_2 : w30.cell? ⟨gb238, 2, none⟩ = some (.int .i64 0) := (blk_cell BK238.out 2).trans rfl; have hcz31_3 : w30.cell? ⟨gb238, 3, none⟩ = some (.int .i64 0) := (blk_cell BK238.out 3).trans rfl; have hfz31_0 := blk_frozen BK238.out 0; have hfz31_1 := blk_frozen BK238.out 1; have hfz31_2 := blk_frozen BK238.out 2; have hfz31_3 := blk_frozen BK238.out 3))
                go_ret3
                exact ⟨by first | rfl | (simp [errW_none, errW_some] <;> rfl) | (simp [*, errW_none, errW_some] <;> rfl), by repeat (first | (with_reducible first | exact HB.out | apply below_alloc | apply pw_below_drewN | apply below_drew1 | refine below_set ?_ GE238.out) | exact HB.out)⟩
        · rw [if_neg c5] at H
          exact absurd H (by simp)
      · rw [if_neg c4] at H
        have c4b0 : decide (x14_1 < (l0.length : Int)) = false := decide_eq_false c4
        clear c4
        simp only [Option.some.injEq, Prod.mk.injEq] at H
        obtain ⟨rfl, rfl, rfl⟩ := H
        go_wp2
        go_ret3
        exact ⟨by first | rfl | (simp [errW_none, errW_some] <;> rfl) | (simp [*, errW_none, errW_some] <;> rfl), by repeat (first | (with_reducible first | exact HB.out | apply below_alloc | apply pw_below_drewN | apply below_drew1) | exact HB.out)⟩

end Go.Proofs.Ytljaoggbfoimfaa.P

/- The functions of the seat as plain Lean functions, and that the program's functions compute them. Conditions: stated at each theorem. -/
namespace Go.Proofs.Ytljaoggbfoimfaa.P
open Go.RowKit Go.Proofs.YtljaoggbfoimfaaW.PrintWords Go.Proofs.YtljaoggbfoimfaaW.PrintLast Go.Proofs.YtljaoggbfoimfaaW.PrintMore
attribute [local go_sem] max2_int min2_int max_two min_two max_three min_three max_four min_four   -- for this text's walks alone
set_option linter.unusedVariables false
set_option linter.unusedSimpArgs false

/-! ### spec_ProgRun: function 40 -/
mutual
def spec_ProgRun.j0 : Nat → List (S76) → ByteArray → List (S71) → Bool → Option ((List (S71)) × Int)
  | 0, _, _, _, _ => none
  | k + 1, x0, x1, x6, x19 => if x19 = true then (some (x6, 0)) else (spec_ProgRun.l0 k x0 x1 x6 0)
def spec_ProgRun.l0 : Nat → List (S76) → ByteArray → List (S71) → Int → Option ((List (S71)) × Int)
  | 0, _, _, _, _ => none
  | k + 1, x0, x1, x6, x7 => if x7 < (x1.size : Int) then ((spec_l10At.f k x0 x1 x7).bind fun bt544 => (if bt544.1 < 0 then (some (x6, x7)) else (if x6.length < 5864062014805 then (spec_ProgRun.l0 k x0 x1 (x6 ++ [(⟨bt544.1, x7, bt544.2.1⟩ : S71)]) bt544.2.1) else (none)))) else (some (x6, x7))
end
def spec_ProgRun.f (k : Nat) (l0 : List (S76)) (a1 : ByteArray) : Option ((List (S71)) × Int) := (some (([] : List (S71)) : List (S71))).bind fun y540 => ((spec_ProgOk.f k l0).bind fun t543 => (if t543 = true then (spec_ProgRun.j0 k l0 a1 y540 (decide ((a1.size : Int) > 200))) else (spec_ProgRun.j0 k l0 a1 y540 true)))
theorem spec_ProgRun.mono_l : ∀ k, (∀ y0 y1 y2 y3, LeO (spec_ProgRun.j0 k y0 y1 y2 y3) (spec_ProgRun.j0 (k + 1) y0 y1 y2 y3)) ∧ (∀ y0 y1 y2 y3, LeO (spec_ProgRun.l0 k y0 y1 y2 y3) (spec_ProgRun.l0 (k + 1) y0 y1 y2 y3))
  | 0 => ⟨fun _ _ _ _ r h => by simp [spec_ProgRun.j0] at h, fun _ _ _ _ r h => by simp [spec_ProgRun.l0] at h⟩
  | k + 1 => by
    obtain ⟨ih0, ih1⟩ := spec_ProgRun.mono_l k
    refine ⟨?_, ?_⟩
    · intro y0 y1 y2 y3
      unfold spec_ProgRun.j0
      repeat' first
      | (with_reducible exact ih0 _ _ _ _)
      | (with_reducible exact ih1 _ _ _ _)
      | (with_reducible exact spec_ProgOk.mono _ _)
      | (with_reducible exact spec_l10At.mono _ _ _ _)
      | (with_reducible exact LeO.refl _)
      | (with_reducible exact LeO.none _)
      | (with_reducible refine LeO.ite ?_ ?_)
      | (with_reducible refine LeO.bind ?_ (fun _ => ?_))
      | exact ih0 _ _ _ _
      | exact ih1 _ _ _ _
      | exact spec_ProgOk.mono _ _
      | exact spec_l10At.mono _ _ _ _
      | exact LeO.none _
      | refine LeO.ite ?_ ?_
      | refine LeO.bind ?_ (fun _ => ?_)
    · intro y0 y1 y2 y3
      unfold spec_ProgRun.l0
      repeat' first
      | (with_reducible exact ih0 _ _ _ _)
      | (with_reducible exact ih1 _ _ _ _)
      | (with_reducible exact spec_ProgOk.mono _ _)
      | (with_reducible exact spec_l10At.mono _ _ _ _)
      | (with_reducible exact LeO.refl _)
      | (with_reducible exact LeO.none _)
      | (with_reducible refine LeO.ite ?_ ?_)
      | (with_reducible refine LeO.bind ?_ (fun _ => ?_))
      | exact ih0 _ _ _ _
      | exact ih1 _ _ _ _
      | exact spec_ProgOk.mono _ _
      | exact spec_l10At.mono _ _ _ _
      | exact LeO.none _
      | refine LeO.ite ?_ ?_
      | refine LeO.bind ?_ (fun _ => ?_)
theorem spec_ProgRun.mono : ∀ a0 a1 k, LeO (spec_ProgRun.f k a0 a1) (spec_ProgRun.f (k + 1) a0 a1) := by
  intro a0 a1 k
  obtain ⟨ih0, ih1⟩ := spec_ProgRun.mono_l k
  unfold spec_ProgRun.f
  repeat' first
      | (with_reducible exact ih0 _ _ _ _)
      | (with_reducible exact ih1 _ _ _ _)
      | (with_reducible exact spec_ProgOk.mono _ _)
      | (with_reducible exact spec_l10At.mono _ _ _ _)
      | (with_reducible exact LeO.refl _)
      | (with_reducible exact LeO.none _)
      | (with_reducible refine LeO.ite ?_ ?_)
      | (with_reducible refine LeO.bind ?_ (fun _ => ?_))
      | exact ih0 _ _ _ _
      | exact ih1 _ _ _ _
      | exact spec_ProgOk.mono _ _
      | exact spec_l10At.mono _ _ _ _
      | exact LeO.none _
      | refine LeO.ite ?_ ?_
      | refine LeO.bind ?_ (fun _ => ?_)
set_option maxHeartbeats 8000000 in
set_option maxRecDepth 100000 in
theorem spec_ProgRun.calls (k : Nat) (A0 : Option Addr) (c0 : Nat) (l0 : List (S76)) (a1 : ByteArray) (r1 : List (S71)) (r2 : Int) (w : World) (hr0 : Kd.C k76 w A0 l0.length l0) (hc0 : l0.length ≤ c0) (h : spec_ProgRun.f k l0 a1 = some (r1, r2)) :
    Calls Try.prog 40 #[.slice A0 l0.length c0, .string a1] w fun e w' => ∃ v0_ : Value, e = .returned (.tuple #[v0_, .int .i64 r2]) ∧ Kd.R k71 71 w' w.heap.size (fun _ => True) v0_ r1 ∧ Below w.heap.size w w' := by
  have hu71 := Try.underlying71
  have HR0 := Aside0.mk hr0
  have HC0 := Aside0.mk hc0
  clear hr0 hc0
  have HB := Aside0.mk (Below.refl w.heap.size w)
  have H : ((some (([] : List (S71)) : List (S71))).bind fun y540 => ((spec_ProgOk.f k l0).bind fun t543 => (if t543 = true then (spec_ProgRun.j0 k l0 a1 y540 (decide ((a1.size : Int) > 200))) else (spec_ProgRun.j0 k l0 a1 y540 true)))) = some (r1, r2) := h
  clear h
  obtain ⟨y540, hy540⟩ : ∃ y_ : List (S71), y_ = (([] : List (S71))) := ⟨_, rfl⟩
  replace H : ((spec_ProgOk.f k l0).bind fun t543 => (if t543 = true then (spec_ProgRun.j0 k l0 a1 y540 (decide ((a1.size : Int) > 200))) else (spec_ProgRun.j0 k l0 a1 y540 true))) = some (r1, r2) := by first | (rw [hy540]; with_reducible exact H) | (have H2_ := (Option.bind_some _ _).symm.trans H; rw [hy540]; with_reducible exact H2_) | (have H2_ := (Option.bind_some _ _).symm.trans H; with_reducible exact H2_) | with_reducible exact H | (rw [hy540]; exact H) | exact H
  have Ny540 := Aside0.mk hy540
  clear hy540
  have HC3 := Aside0.mk H
  clear H
  go_enter Try.func40, Try.ntmps40
  go_upto_region 2 with (first | ((with_reducible refine gate_dst (N := 11) rfl ?_); (try (refine gate_guard (by rfl) ?_; dsimp only)); refine Kd.R_lit k71 _ 71 ?hg (N := 11) ?hd (xs := ([] : List (S71))) (inner := []) (ok := fun _ => True) (okp := fun _ => True) ?hr ?hp (fun _ hk => hk) trivial (Below.refl _ _) (Nat.le_refl _) (by simp) ?_; (case hd => rfl); (case hg => rfl); (case hr => first | (go_simp; done) | (go_simp; rfl)); (case hp => exact (Reps.none _ _)); intro v541 w4 ho5 hb hg_ hnew_; clear hg_ hnew_; (first | rw [← Ny540.out] at ho5 | (simp only [Int.reduceToNat] at ho5; rw [← Ny540.out] at ho5)); have n0_ := Aside0.mk (Kd.R_lower ho5 (below_size (by repeat (first | (with_reducible first | exact HB.out | apply below_alloc | apply pw_below_drewN | apply below_drew1) | exact HB.out)))); have n1_ := Aside0.mk (below_step (by repeat (first | (with_reducible first | exact HB.out | apply below_alloc | apply pw_below_drewN | apply below_drew1) | exact HB.out)) hb); clear HB; have HO542 := n0_; have HB := n1_; clear n0_ n1_; clear hb ho5))
  (try simp only [Act.put, List.setIfInBounds_toArray, List.set_cons_zero, List.set_cons_succ])
  go_cut [19] (fun v19 wc => ∃ (kq : Nat) (x19_2 : Bool), v19 = .bool x19_2 ∧ Aside0 (spec_ProgRun.j0 kq l0 a1 y540 x19_2 = some (r1, r2)) ∧ Aside0 (kq ≤ k) ∧ Aside0 (Kd.R k71 71 wc w.heap.size (fun _ => True) v541 y540) ∧ Aside0 (Below w.heap.size w wc))
  case first =>
    have H := HC3.out
    clear HC3
    replace H := Option.bind_eq_some_iff.mp H
    obtain ⟨t543, A60, H⟩ := H
    replace H : (if t543 = true then (spec_ProgRun.j0 k l0 a1 y540 (decide ((a1.size : Int) > 200))) else (spec_ProgRun.j0 k l0 a1 y540 true)) = some (r1, r2) := H
    have A6 := Aside0.mk A60
    clear A60
    by_cases c7 : t543 = true
    · subst c7
      have H1 : (spec_ProgRun.j0 k l0 a1 y540 (decide ((a1.size : Int) > 200))) = some (r1, r2) := by rw [if_pos rfl] at H; exact H
      clear H
      have H := H1
      clear H1
      have H' := Aside0.mk H
      clear H
      go_wp2_with (first | ((with_reducible refine gate_callee (f := 26) rfl ?_); refine goesL_ (some 13) rfl rfl Try.func26 (by kernel_rfl) rfl #[.slice A0 l0.length c0] rfl (by (try simp only [List.map_toArray, List.map_cons, List.map_nil]); first | done | rfl | (simp only [List.length_drop, List.length_take]; rfl)) ?_; (with_reducible refine (spec_ProgOk.calls k _ _ l0 true _ ?side1 ?side2 A6.out).mono ?_); (case side1 => repeat (first | exact (Kd.C_below HR0.out HB.out) | (with_reducible refine Kd.C_alloc ?_ _) | (with_reducible refine Kd.C_drewN ?_ _) | (with_reducible refine Kd.C_drew ?_))); (case side2 => exact HC0.out); rintro e w8 ⟨rfl, hb⟩; refine ⟨_, rfl, ?_⟩; have n0_ := Aside0.mk (Kd.R_below (by (with_reducible repeat (first | apply Kd.R_alloc | apply Kd.R_drewN | apply Kd.R_drew)); exact HO542.out) hb); have n1_ := Aside0.mk (below_step (by repeat (first | (with_reducible first | exact HB.out | apply below_alloc | apply pw_below_drewN | apply below_drew1) | exact HB.out)) hb); clear HO542; clear HB; have HO542 := n0_; have HB := n1_; clear n0_ n1_; (try clear hb); (try clear hb2); (try clear hk); (try clear hi)))
      go_meet
      case rel => exact ⟨_, (decide ((a1.size : Int) > 200)), (by first | rfl | (simp; done) | (simp [*]; done)), H', ⟨by first | omega | exact Nat.le_refl _⟩, ⟨by (with_reducible repeat (first | apply Kd.R_alloc | apply Kd.R_drewN | apply Kd.R_drew)); exact HO542.out⟩, ⟨by repeat (first | (with_reducible first | exact HB.out | apply below_alloc | apply pw_below_drewN | apply below_drew1) | exact HB.out)⟩⟩
    · replace c7 := Bool.eq_false_iff.mpr c7
      subst c7
      have H1 : (spec_ProgRun.j0 k l0 a1 y540 true) = some (r1, r2) := by rw [if_neg (show ¬ (false = true) by decide)] at H; exact H
      clear H
      have H := H1
      clear H1
      have H' := Aside0.mk H
      clear H
      go_wp2_with (first | ((with_reducible refine gate_callee (f := 26) rfl ?_); refine goesL_ (some 13) rfl rfl Try.func26 (by kernel_rfl) rfl #[.slice A0 l0.length c0] rfl (by (try simp only [List.map_toArray, List.map_cons, List.map_nil]); first | done | rfl | (simp only [List.length_drop, List.length_take]; rfl)) ?_; (with_reducible refine (spec_ProgOk.calls k _ _ l0 false _ ?side1 ?side2 A6.out).mono ?_); (case side1 => repeat (first | exact (Kd.C_below HR0.out HB.out) | (with_reducible refine Kd.C_alloc ?_ _) | (with_reducible refine Kd.C_drewN ?_ _) | (with_reducible refine Kd.C_drew ?_))); (case side2 => exact HC0.out); rintro e w9 ⟨rfl, hb⟩; refine ⟨_, rfl, ?_⟩; have n0_ := Aside0.mk (Kd.R_below (by (with_reducible repeat (first | apply Kd.R_alloc | apply Kd.R_drewN | apply Kd.R_drew)); exact HO542.out) hb); have n1_ := Aside0.mk (below_step (by repeat (first | (with_reducible first | exact HB.out | apply below_alloc | apply pw_below_drewN | apply below_drew1) | exact HB.out)) hb); clear HO542; clear HB; have HO542 := n0_; have HB := n1_; clear n0_ n1_; (try clear hb); (try clear hb2); (try clear hk); (try clear hi)))
      go_meet
      case rel => exact ⟨_, (true), (by first | rfl | (simp; done) | (simp [*]; done)), H', ⟨by first | omega | exact Nat.le_refl _⟩, ⟨by (with_reducible repeat (first | apply Kd.R_alloc | apply Kd.R_drewN | apply Kd.R_drew)); exact HO542.out⟩, ⟨by repeat (first | (with_reducible first | exact HB.out | apply below_alloc | apply pw_below_drewN | apply below_drew1) | exact HB.out)⟩⟩
  case rest =>
    clear HC3
    try clear c2
    try clear p2
    try clear c4
    try clear c7
    obtain ⟨kq, x19_2, rfl, HA, HJ2, HO_6, HB⟩ := hcut
    cases kq with
    | zero => exact absurd HA.out (by simp [spec_ProgRun.j0])
    | succ kj2 =>
      have H := HA.out
      clear HA
      simp only [spec_ProgRun.j0] at H
      by_cases c10 : x19_2 = true
      · subst c10
        have H1 : (some (y540, 0)) = some (r1, r2) := by rw [if_pos rfl] at H; exact H
        clear H
        have H := H1
        clear H1
        simp only [Option.some.injEq, Prod.mk.injEq] at H
        obtain ⟨rfl, rfl⟩ := H
        go_wp2
        go_ret2
        exact ⟨_, by first | rfl | (simp [errW_none, errW_some] <;> rfl) | (simp [*, errW_none, errW_some] <;> rfl), by (with_reducible repeat (first | apply Kd.R_alloc | apply Kd.R_drewN | apply Kd.R_drew)); exact HO_6.out, by repeat (first | (with_reducible first | exact HB.out | apply below_alloc | apply pw_below_drewN | apply below_drew1) | exact HB.out)⟩
      · replace c10 := Bool.eq_false_iff.mpr c10
        subst c10
        have H1 : (spec_ProgRun.l0 kj2 l0 a1 y540 0) = some (r1, r2) := by rw [if_neg (show ¬ (false = true) by decide)] at H; exact H
        clear H
        have H := H1
        clear H1
        have H' := Aside0.mk H
        clear H
        go_wp2
        go_loopg [6, 7] kj2 (fun kq v6 v7 w' => ∃ (x6_2 : List (S71)) (x7_2 : Int), v7 = .int .i64 x7_2 ∧ Aside0 (spec_ProgRun.l0 kq l0 a1 x6_2 x7_2 = some (r1, r2)) ∧ Aside0 (kq ≤ kj2) ∧ Aside0 (Kd.R k71 71 w' w.heap.size (fun _ => True) v6 x6_2) ∧ Aside0 (Below w.heap.size w w'))
        case atStart => exact ⟨(y540), (0), (by first | rfl | (simp; done) | (simp [*]; done)), H', ⟨Nat.le_refl _⟩, ⟨by (with_reducible repeat (first | apply Kd.R_alloc | apply Kd.R_drewN | apply Kd.R_drew)); exact HO_6.out⟩, ⟨by repeat (first | (with_reducible first | exact HB.out | apply below_alloc | apply pw_below_drewN | apply below_drew1) | exact HB.out)⟩⟩
        case round =>
          clear H'
          try clear c1
          try clear c2
          try clear p2
          try clear c4
          try clear c7
          try clear c10
          try clear p2
          obtain ⟨x6_2, x7_2, rfl, HA, HK2, HO_6, HB⟩ := hrel
          cases gk with
          | zero => exact absurd HA.out (by simp [spec_ProgRun.l0])
          | succ k2 =>
            have H := HA.out
            clear HA
            simp only [spec_ProgRun.l0] at H
            by_cases c11 : x7_2 < (a1.size : Int)
            · rw [if_pos c11] at H
              have c11b0 : decide (x7_2 < (a1.size : Int)) = true := decide_eq_true c11
              clear c11
              replace H := Option.bind_eq_some_iff.mp H
              obtain ⟨⟨t544, t545, t546⟩, A120, H⟩ := H
              replace H : (if t544 < 0 then (some (x6_2, x7_2)) else (if x6_2.length < 5864062014805 then (spec_ProgRun.l0 k2 l0 a1 (x6_2 ++ [(⟨t544, x7_2, t545⟩ : S71)]) t545) else (none))) = some (r1, r2) := H
              have A12 := Aside0.mk A120
              clear A120
              by_cases c13 : t544 < 0
              · rw [if_pos c13] at H
                have c13b0 : decide (t544 < 0) = true := decide_eq_true c13
                clear c13
                simp only [Option.some.injEq, Prod.mk.injEq] at H
                obtain ⟨rfl, rfl⟩ := H
                go_wp2_with (first | ((with_reducible refine gate_callee (f := 62) rfl ?_); refine goesL_ (some 29) rfl rfl Try.func62 (by kernel_rfl) rfl #[.slice A0 l0.length c0, .string a1, .int .i64 x7_2] rfl (by (try simp only [List.map_toArray, List.map_cons, List.map_nil]); first | done | rfl | (simp only [List.length_drop, List.length_take]; rfl)) ?_; (with_reducible refine (spec_l10At.calls k2 _ _ l0 a1 x7_2 t544 t545 t546 _ ?side1 ?side2 A12.out).mono ?_); (case side1 => repeat (first | exact (Kd.C_below HR0.out HB.out) | (with_reducible refine Kd.C_alloc ?_ _) | (with_reducible refine Kd.C_drewN ?_ _) | (with_reducible refine Kd.C_drew ?_))); (case side2 => exact HC0.out); rintro e w14 ⟨rfl, hb⟩; refine ⟨_, rfl, ?_⟩; have n0_ := Aside0.mk (Kd.R_below (by (with_reducible repeat (first | apply Kd.R_alloc | apply Kd.R_drewN | apply Kd.R_drew)); exact HO_6.out) hb); have n1_ := Aside0.mk (below_step (by repeat (first | (with_reducible first | exact HB.out | apply below_alloc | apply pw_below_drewN | apply below_drew1) | exact HB.out)) hb); clear HO_6; clear HB; have HO_6 := n0_; have HB := n1_; clear n0_ n1_; (try clear hb); (try clear hb2); (try clear hk); (try clear hi)))
                go_ret2
                exact ⟨_, by first | rfl | (simp [errW_none, errW_some] <;> rfl) | (simp [*, errW_none, errW_some] <;> rfl), by (with_reducible repeat (first | apply Kd.R_alloc | apply Kd.R_drewN | apply Kd.R_drew)); exact HO_6.out, by repeat (first | (with_reducible first | exact HB.out | apply below_alloc | apply pw_below_drewN | apply below_drew1) | exact HB.out)⟩
              · rw [if_neg c13] at H
                have c13b0 : decide (t544 < 0) = false := decide_eq_false c13
                clear c13
                by_cases c15 : x6_2.length < 5864062014805
                · rw [if_pos c15] at H
                  have LMc15 := Aside0.mk c15
                  clear c15
                  obtain ⟨y547, hy547⟩ : ∃ y_ : List (S71), y_ = (x6_2 ++ [(⟨t544, x7_2, t545⟩ : S71)]) := ⟨_, rfl⟩
                  replace H : (spec_ProgRun.l0 k2 l0 a1 y547 t545) = some (r1, r2) := by first | (rw [hy547]; with_reducible exact H) | (have H2_ := (Option.bind_some _ _).symm.trans H; rw [hy547]; with_reducible exact H2_) | (have H2_ := (Option.bind_some _ _).symm.trans H; with_reducible exact H2_) | with_reducible exact H | (rw [hy547]; exact H) | exact H
                  have Ny547 := Aside0.mk hy547
                  clear hy547
                  have H' := Aside0.mk H
                  clear H
                  go_wp2_with (first | ((with_reducible refine gate_callee (f := 62) rfl ?_); refine goesL_ (some 29) rfl rfl Try.func62 (by kernel_rfl) rfl #[.slice A0 l0.length c0, .string a1, .int .i64 x7_2] rfl (by (try simp only [List.map_toArray, List.map_cons, List.map_nil]); first | done | rfl | (simp only [List.length_drop, List.length_take]; rfl)) ?_; (with_reducible refine (spec_l10At.calls k2 _ _ l0 a1 x7_2 t544 t545 t546 _ ?side1 ?side2 A12.out).mono ?_); (case side1 => repeat (first | exact (Kd.C_below HR0.out HB.out) | (with_reducible refine Kd.C_alloc ?_ _) | (with_reducible refine Kd.C_drewN ?_ _) | (with_reducible refine Kd.C_drew ?_))); (case side2 => exact HC0.out); rintro e w16 ⟨rfl, hb⟩; refine ⟨_, rfl, ?_⟩; have n0_ := Aside0.mk (Kd.R_below (by (with_reducible repeat (first | apply Kd.R_alloc | apply Kd.R_drewN | apply Kd.R_drew)); exact HO_6.out) hb); have n1_ := Aside0.mk (below_step (by repeat (first | (with_reducible first | exact HB.out | apply below_alloc | apply pw_below_drewN | apply below_drew1) | exact HB.out)) hb); clear HO_6; clear HB; have HO_6 := n0_; have HB := n1_; clear n0_ n1_; (try clear hb); (try clear hb2); (try clear hk); (try clear hi)) | ((with_reducible refine gate_builtin (b := .append) (xs := #[.tmp 37, .tmp 42]) rfl ?_); (try (refine gate_guard (by rfl) ?_; dsimp only)); at_builtin; refine Kd.R_append k71 (w0 := w) w.heap.size rfl (.tmp 37) (.tmp 42) 26 71 (.agg #[(.int .i64 0), (.int .i64 0), (.int .i64 0)]) 24 rfl Try.underlying26 info71 rfl (by decide) (by omega) u6 x6_2 (⟨t544, x7_2, t545⟩ : S71) [.int .i64 t544, .int .i64 x7_2, .int .i64 t545] (fun _ => True) (fun _ => False) rfl rfl ?aP (fun _ hk => hk.elim) ?aF ?aO ?aB ?aS ?aL ?_; (case aP => exact k71_mkM _ _ _ (⟨t544, x7_2, t545⟩ : S71)); (case aB => exact (by repeat (first | (with_reducible first | exact HB.out | apply below_alloc | apply pw_below_drewN | apply below_drew1) | exact HB.out))); (case aF => exact (fun _ _ => trivial)); (case aO => exact (by (with_reducible repeat (first | apply Kd.R_alloc | apply Kd.R_drewN | apply Kd.R_drew)); exact HO_6.out)); (case aS => exact (below_size (by repeat (first | (with_reducible first | exact HB.out | apply below_alloc | apply pw_below_drewN | apply below_drew1) | exact HB.out)))); (case aL => have := LMc15.out; omega); intro v548 w17 ho hb hg hat; rw [← Ny547.out] at ho; have n0_ := Aside0.mk (hb); have n1_ := Aside0.mk (ho); clear HB; clear HO_6; have HB := n0_; have HO549 := n1_; clear n0_ n1_; clear ho hb hg hat))
                  go_roundg k2
                  case measure => have := HJ2.out; have := HK2.out; omega
                  case rel => exact ⟨(y547), (t545), (by first | rfl | (simp; done) | (simp [*]; done)), H', ⟨by have := HJ2.out; have := HK2.out; omega⟩, ⟨by (with_reducible repeat (first | apply Kd.R_alloc | apply Kd.R_drewN | apply Kd.R_drew)); exact HO549.out⟩, ⟨by repeat (first | (with_reducible first | exact HB.out | apply below_alloc | apply pw_below_drewN | apply below_drew1) | exact HB.out)⟩⟩
                · rw [if_neg c15] at H
                  exact absurd H (by simp)
            · rw [if_neg c11] at H
              have c11b0 : decide (x7_2 < (a1.size : Int)) = false := decide_eq_false c11
              clear c11
              simp only [Option.some.injEq, Prod.mk.injEq] at H
              obtain ⟨rfl, rfl⟩ := H
              go_wp2
              go_ret2
              exact ⟨_, by first | rfl | (simp [errW_none, errW_some] <;> rfl) | (simp [*, errW_none, errW_some] <;> rfl), by (with_reducible repeat (first | apply Kd.R_alloc | apply Kd.R_drewN | apply Kd.R_drew)); exact HO_6.out, by repeat (first | (with_reducible first | exact HB.out | apply below_alloc | apply pw_below_drewN | apply below_drew1) | exact HB.out)⟩

end Go.Proofs.Ytljaoggbfoimfaa.P

/- The functions of the seat as plain Lean functions, and that the program's functions compute them. Conditions: stated at each theorem. -/
namespace Go.Proofs.Ytljaoggbfoimfaa.P
open Go.RowKit Go.Proofs.YtljaoggbfoimfaaW.PrintWords Go.Proofs.YtljaoggbfoimfaaW.PrintLast Go.Proofs.YtljaoggbfoimfaaW.PrintMore
attribute [local go_sem] max2_int min2_int max_two min_two max_three min_three max_four min_four   -- for this text's walks alone
set_option linter.unusedVariables false
set_option linter.unusedSimpArgs false

/-! ### laws_FnExactProgRun: function 10 -/
mutual
def laws_FnExactProgRun.j0 : Nat → List (S78) → ByteArray → List (S71) → Int → List (S76) → List (S71) → Int → Bool → Option (Bool)
  | 0, _, _, _, _, _, _, _, _ => none
  | k + 1, x0, x1, x6, x7, x8, x9, x10, x47 => if x47 = true then (some false) else ((laws_toInsS.f k x0).bind fun t589 => ((laws_eqInsS.f k x8 t589).bind fun t592 => (if t592 = true then ((laws_markInsS.f k x8 1).bind fun bt593 => (if bt593.1 < 0 then (laws_FnExactProgRun.j1 k x0 x1 x6 x7 x9 true) else ((laws_eqTokenS.f k x9 x6).bind fun t595 => (if t595 = true then (laws_FnExactProgRun.j1 k x0 x1 x6 x7 x9 (x10 != x7)) else (laws_FnExactProgRun.j1 k x0 x1 x6 x7 x9 true))))) else (some false))))
def laws_FnExactProgRun.j1 : Nat → List (S78) → ByteArray → List (S71) → Int → List (S71) → Bool → Option (Bool)
  | 0, _, _, _, _, _, _ => none
  | k + 1, x0, x1, x6, x7, x9, x68 => if x68 = true then (some false) else ((laws_markTokenS.f k x9 1).bind fun bt596 => ((laws_heldTokenS.f k bt596.2 1).bind fun t598 => (if t598 < 0 then (some false) else (if t598 = bt596.1 then ((laws_toInsS.f k x0).bind fun t599 => ((impl_ProgRun.f k t599 x1).bind fun bt602 => ((laws_eqTokenS.f k bt602.1 x6).bind fun t606 => (if t606 = true then (laws_FnExactProgRun.j2 k bt596.2 bt596.1 (bt602.2 != x7)) else (laws_FnExactProgRun.j2 k bt596.2 bt596.1 true))))) else (some false)))))
def laws_FnExactProgRun.j2 : Nat → List (S71) → Int → Bool → Option (Bool)
  | 0, _, _, _ => none
  | k + 1, x9, x12, x95 => if x95 = true then (some false) else ((laws_heldTokenS.f k x9 1).bind fun t607 => (if t607 < 0 then (some false) else (if t607 = x12 then (some true) else (some false))))
end
def laws_FnExactProgRun.f (k : Nat) (l0 : List (S78)) (a1 : ByteArray) : Option (Bool) := if (a1.size : Int) > 1048576 then (some true) else ((laws_szInsS.f l0 1048576).bind fun t573 => (if t573 < 0 then (some true) else ((laws_toInsS.f k l0).bind fun t574 => ((spec_ProgRun.f k t574 a1).bind fun bt577 => ((laws_toInsS.f k l0).bind fun t581 => ((impl_ProgRun.f k t581 a1).bind fun bt584 => ((laws_eqTokenS.f k bt584.1 bt577.1).bind fun t588 => (if t588 = true then (laws_FnExactProgRun.j0 k l0 a1 bt577.1 bt577.2 t581 bt584.1 bt584.2 (bt584.2 != bt577.2)) else (laws_FnExactProgRun.j0 k l0 a1 bt577.1 bt577.2 t581 bt584.1 bt584.2 true)))))))))
theorem laws_FnExactProgRun.mono_l : ∀ k, (∀ y0 y1 y2 y3 y4 y5 y6 y7, LeO (laws_FnExactProgRun.j0 k y0 y1 y2 y3 y4 y5 y6 y7) (laws_FnExactProgRun.j0 (k + 1) y0 y1 y2 y3 y4 y5 y6 y7)) ∧ (∀ y0 y1 y2 y3 y4 y5, LeO (laws_FnExactProgRun.j1 k y0 y1 y2 y3 y4 y5) (laws_FnExactProgRun.j1 (k + 1) y0 y1 y2 y3 y4 y5)) ∧ (∀ y0 y1 y2, LeO (laws_FnExactProgRun.j2 k y0 y1 y2) (laws_FnExactProgRun.j2 (k + 1) y0 y1 y2))
  | 0 => ⟨fun _ _ _ _ _ _ _ _ r h => by simp [laws_FnExactProgRun.j0] at h, fun _ _ _ _ _ _ r h => by simp [laws_FnExactProgRun.j1] at h, fun _ _ _ r h => by simp [laws_FnExactProgRun.j2] at h⟩
  | k + 1 => by
    obtain ⟨ih0, ih1, ih2⟩ := laws_FnExactProgRun.mono_l k
    refine ⟨?_, ?_, ?_⟩
    · intro y0 y1 y2 y3 y4 y5 y6 y7
      unfold laws_FnExactProgRun.j0
      repeat' first
      | (with_reducible exact ih0 _ _ _ _ _ _ _ _)
      | (with_reducible exact ih1 _ _ _ _ _ _)
      | (with_reducible exact ih2 _ _ _)
      | (with_reducible exact impl_ProgRun.mono _ _ _)
      | (with_reducible exact laws_eqInsS.mono _ _ _)
      | (with_reducible exact laws_eqTokenS.mono _ _ _)
      | (with_reducible exact laws_heldTokenS.mono _ _ _)
      | (with_reducible exact laws_markInsS.mono _ _ _)
      | (with_reducible exact laws_markTokenS.mono _ _ _)
      | (with_reducible exact laws_toInsS.mono _ _)
      | (with_reducible exact spec_ProgRun.mono _ _ _)
      | (with_reducible exact LeO.refl _)
      | (with_reducible exact LeO.none _)
      | (with_reducible refine LeO.ite ?_ ?_)
      | (with_reducible refine LeO.bind ?_ (fun _ => ?_))
      | exact ih0 _ _ _ _ _ _ _ _
      | exact ih1 _ _ _ _ _ _
      | exact ih2 _ _ _
      | exact impl_ProgRun.mono _ _ _
      | exact laws_eqInsS.mono _ _ _
      | exact laws_eqTokenS.mono _ _ _
      | exact laws_heldTokenS.mono _ _ _
      | exact laws_markInsS.mono _ _ _
      | exact laws_markTokenS.mono _ _ _
      | exact laws_toInsS.mono _ _
      | exact spec_ProgRun.mono _ _ _
      | exact LeO.none _
      | refine LeO.ite ?_ ?_
      | refine LeO.bind ?_ (fun _ => ?_)
    · intro y0 y1 y2 y3 y4 y5
      unfold laws_FnExactProgRun.j1
      repeat' first
      | (with_reducible exact ih0 _ _ _ _ _ _ _ _)
      | (with_reducible exact ih1 _ _ _ _ _ _)
      | (with_reducible exact ih2 _ _ _)
      | (with_reducible exact impl_ProgRun.mono _ _ _)
      | (with_reducible exact laws_eqInsS.mono _ _ _)
      | (with_reducible exact laws_eqTokenS.mono _ _ _)
      | (with_reducible exact laws_heldTokenS.mono _ _ _)
      | (with_reducible exact laws_markInsS.mono _ _ _)
      | (with_reducible exact laws_markTokenS.mono _ _ _)
      | (with_reducible exact laws_toInsS.mono _ _)
      | (with_reducible exact spec_ProgRun.mono _ _ _)
      | (with_reducible exact LeO.refl _)
      | (with_reducible exact LeO.none _)
      | (with_reducible refine LeO.ite ?_ ?_)
      | (with_reducible refine LeO.bind ?_ (fun _ => ?_))
      | exact ih0 _ _ _ _ _ _ _ _
      | exact ih1 _ _ _ _ _ _
      | exact ih2 _ _ _
      | exact impl_ProgRun.mono _ _ _
      | exact laws_eqInsS.mono _ _ _
      | exact laws_eqTokenS.mono _ _ _
      | exact laws_heldTokenS.mono _ _ _
      | exact laws_markInsS.mono _ _ _
      | exact laws_markTokenS.mono _ _ _
      | exact laws_toInsS.mono _ _
      | exact spec_ProgRun.mono _ _ _
      | exact LeO.none _
      | refine LeO.ite ?_ ?_
      | refine LeO.bind ?_ (fun _ => ?_)
    · intro y0 y1 y2
      unfold laws_FnExactProgRun.j2
      repeat' first
      | (with_reducible exact ih0 _ _ _ _ _ _ _ _)
      | (with_reducible exact ih1 _ _ _ _ _ _)
      | (with_reducible exact ih2 _ _ _)
      | (with_reducible exact impl_ProgRun.mono _ _ _)
      | (with_reducible exact laws_eqInsS.mono _ _ _)
      | (with_reducible exact laws_eqTokenS.mono _ _ _)
      | (with_reducible exact laws_heldTokenS.mono _ _ _)
      | (with_reducible exact laws_markInsS.mono _ _ _)
      | (with_reducible exact laws_markTokenS.mono _ _ _)
      | (with_reducible exact laws_toInsS.mono _ _)
      | (with_reducible exact spec_ProgRun.mono _ _ _)
      | (with_reducible exact LeO.refl _)
      | (with_reducible exact LeO.none _)
      | (with_reducible refine LeO.ite ?_ ?_)
      | (with_reducible refine LeO.bind ?_ (fun _ => ?_))
      | exact ih0 _ _ _ _ _ _ _ _
      | exact ih1 _ _ _ _ _ _
      | exact ih2 _ _ _
      | exact impl_ProgRun.mono _ _ _
      | exact laws_eqInsS.mono _ _ _
      | exact laws_eqTokenS.mono _ _ _
      | exact laws_heldTokenS.mono _ _ _
      | exact laws_markInsS.mono _ _ _
      | exact laws_markTokenS.mono _ _ _
      | exact laws_toInsS.mono _ _
      | exact spec_ProgRun.mono _ _ _
      | exact LeO.none _
      | refine LeO.ite ?_ ?_
      | refine LeO.bind ?_ (fun _ => ?_)
theorem laws_FnExactProgRun.mono : ∀ a0 a1 k, LeO (laws_FnExactProgRun.f k a0 a1) (laws_FnExactProgRun.f (k + 1) a0 a1) := by
  intro a0 a1 k
  obtain ⟨ih0, ih1, ih2⟩ := laws_FnExactProgRun.mono_l k
  unfold laws_FnExactProgRun.f
  repeat' first
      | (with_reducible exact ih0 _ _ _ _ _ _ _ _)
      | (with_reducible exact ih1 _ _ _ _ _ _)
      | (with_reducible exact ih2 _ _ _)
      | (with_reducible exact impl_ProgRun.mono _ _ _)
      | (with_reducible exact laws_eqInsS.mono _ _ _)
      | (with_reducible exact laws_eqTokenS.mono _ _ _)
      | (with_reducible exact laws_heldTokenS.mono _ _ _)
      | (with_reducible exact laws_markInsS.mono _ _ _)
      | (with_reducible exact laws_markTokenS.mono _ _ _)
      | (with_reducible exact laws_toInsS.mono _ _)
      | (with_reducible exact spec_ProgRun.mono _ _ _)
      | (with_reducible exact LeO.refl _)
      | (with_reducible exact LeO.none _)
      | (with_reducible refine LeO.ite ?_ ?_)
      | (with_reducible refine LeO.bind ?_ (fun _ => ?_))
      | exact ih0 _ _ _ _ _ _ _ _
      | exact ih1 _ _ _ _ _ _
      | exact ih2 _ _ _
      | exact impl_ProgRun.mono _ _ _
      | exact laws_eqInsS.mono _ _ _
      | exact laws_eqTokenS.mono _ _ _
      | exact laws_heldTokenS.mono _ _ _
      | exact laws_markInsS.mono _ _ _
      | exact laws_markTokenS.mono _ _ _
      | exact laws_toInsS.mono _ _
      | exact spec_ProgRun.mono _ _ _
      | exact LeO.none _
      | refine LeO.ite ?_ ?_
      | refine LeO.bind ?_ (fun _ => ?_)
set_option maxHeartbeats 8000000 in
set_option maxRecDepth 100000 in
theorem laws_FnExactProgRun.calls (k : Nat) (A0 : Option Addr) (c0 : Nat) (l0 : List (S78)) (a1 : ByteArray) (r : Bool) (w : World) (hr0 : Kd.C k78 w A0 l0.length l0) (hc0 : l0.length ≤ c0) (hT0 : r = true) (h : laws_FnExactProgRun.f k l0 a1 = some r) :
    Calls Try.prog 10 #[.slice A0 l0.length c0, .string a1] w fun e w' => e = .returned (.bool r) ∧ Below w.heap.size w w' := by
  have HT := Aside0.mk hT0
  clear hT0
  have HR0 := Aside0.mk hr0
  have HC0 := Aside0.mk hc0
  clear hr0 hc0
  have HB := Aside0.mk (Below.refl w.heap.size w)
  have H : (if (a1.size : Int) > 1048576 then (some true) else ((laws_szInsS.f l0 1048576).bind fun t573 => (if t573 < 0 then (some true) else ((laws_toInsS.f k l0).bind fun t574 => ((spec_ProgRun.f k t574 a1).bind fun bt577 => ((laws_toInsS.f k l0).bind fun t581 => ((impl_ProgRun.f k t581 a1).bind fun bt584 => ((laws_eqTokenS.f k bt584.1 bt577.1).bind fun t588 => (if t588 = true then (laws_FnExactProgRun.j0 k l0 a1 bt577.1 bt577.2 t581 bt584.1 bt584.2 (bt584.2 != bt577.2)) else (laws_FnExactProgRun.j0 k l0 a1 bt577.1 bt577.2 t581 bt584.1 bt584.2 true)))))))))) = some r := h
  clear h
  by_cases c3 : (a1.size : Int) > 1048576
  · rw [if_pos c3] at H
    have c3b0 : decide (1048576 < (a1.size : Int)) = true := decide_eq_true c3
    have c3b1 : decide (1048576 < a1.size) = true := decide_eq_true (by omega)
    clear c3
    obtain rfl := Option.some.inj H
    go_enter Try.func10, Try.ntmps10
    go_wp2
    go_ret
    exact ⟨by first | rfl | (simp [errW_none, errW_some] <;> rfl) | (simp [*, errW_none, errW_some] <;> rfl), by repeat (first | (with_reducible first | exact HB.out | apply below_alloc | apply pw_below_drewN | apply below_drew1) | exact HB.out)⟩
  · rw [if_neg c3] at H
    have c3b0 : decide (1048576 < (a1.size : Int)) = false := decide_eq_false c3
    have c3b1 : decide (1048576 < a1.size) = false := decide_eq_false (by omega)
    clear c3
    replace H := Option.bind_eq_some_iff.mp H
    obtain ⟨t573, A40, H⟩ := H
    replace H : (if t573 < 0 then (some true) else ((laws_toInsS.f k l0).bind fun t574 => ((spec_ProgRun.f k t574 a1).bind fun bt577 => ((laws_toInsS.f k l0).bind fun t581 => ((impl_ProgRun.f k t581 a1).bind fun bt584 => ((laws_eqTokenS.f k bt584.1 bt577.1).bind fun t588 => (if t588 = true then (laws_FnExactProgRun.j0 k l0 a1 bt577.1 bt577.2 t581 bt584.1 bt584.2 (bt584.2 != bt577.2)) else (laws_FnExactProgRun.j0 k l0 a1 bt577.1 bt577.2 t581 bt584.1 bt584.2 true)))))))) = some r := H
    have A4 := Aside0.mk A40
    clear A40
    by_cases c5 : t573 < 0
    · rw [if_pos c5] at H
      have c5b0 : decide (t573 < 0) = true := decide_eq_true c5
      clear c5
      obtain rfl := Option.some.inj H
      go_enter Try.func10, Try.ntmps10
      go_wp2_with (first | ((with_reducible refine gate_callee (f := 21) rfl ?_); refine goesL_ (some 21) rfl rfl Try.func21 (by kernel_rfl) rfl #[.slice A0 l0.length c0, .int .i64 1048576] rfl (by (try simp only [List.map_toArray, List.map_cons, List.map_nil]); first | done | rfl | (simp only [List.length_drop, List.length_take]; rfl)) ?_; (with_reducible refine (laws_szInsS.calls _ _ l0 1048576 t573 _ ?side1 ?side2 A4.out).mono ?_); (case side1 => repeat (first | exact HR0.out | (with_reducible refine Kd.C_alloc ?_ _) | (with_reducible refine Kd.C_drewN ?_ _) | (with_reducible refine Kd.C_drew ?_))); (case side2 => exact HC0.out); rintro e w' ⟨rfl, ⟨nd, rfl⟩⟩; refine ⟨_, rfl, ?_⟩))
      go_ret
      exact ⟨by first | rfl | (simp [errW_none, errW_some] <;> rfl) | (simp [*, errW_none, errW_some] <;> rfl), by repeat (first | (with_reducible first | exact HB.out | apply below_alloc | apply pw_below_drewN | apply below_drew1) | exact HB.out)⟩
    · rw [if_neg c5] at H
      have c5b0 : decide (t573 < 0) = false := decide_eq_false c5
      clear c5
      replace H := Option.bind_eq_some_iff.mp H
      obtain ⟨t574, A60, H⟩ := H
      replace H : ((spec_ProgRun.f k t574 a1).bind fun bt577 => ((laws_toInsS.f k l0).bind fun t581 => ((impl_ProgRun.f k t581 a1).bind fun bt584 => ((laws_eqTokenS.f k bt584.1 bt577.1).bind fun t588 => (if t588 = true then (laws_FnExactProgRun.j0 k l0 a1 bt577.1 bt577.2 t581 bt584.1 bt584.2 (bt584.2 != bt577.2)) else (laws_FnExactProgRun.j0 k l0 a1 bt577.1 bt577.2 t581 bt584.1 bt584.2 true)))))) = some r := H
      have A6 := Aside0.mk A60
      clear A60
      replace H := Option.bind_eq_some_iff.mp H
      obtain ⟨⟨t577, t578⟩, A70, H⟩ := H
      replace H : ((laws_toInsS.f k l0).bind fun t581 => ((impl_ProgRun.f k t581 a1).bind fun bt584 => ((laws_eqTokenS.f k bt584.1 t577).bind fun t588 => (if t588 = true then (laws_FnExactProgRun.j0 k l0 a1 t577 t578 t581 bt584.1 bt584.2 (bt584.2 != t578)) else (laws_FnExactProgRun.j0 k l0 a1 t577 t578 t581 bt584.1 bt584.2 true))))) = some r := H
      have A7 := Aside0.mk A70
      clear A70
      replace H := Option.bind_eq_some_iff.mp H
      obtain ⟨t581, A80, H⟩ := H
      replace H : ((impl_ProgRun.f k t581 a1).bind fun bt584 => ((laws_eqTokenS.f k bt584.1 t577).bind fun t588 => (if t588 = true then (laws_FnExactProgRun.j0 k l0 a1 t577 t578 t581 bt584.1 bt584.2 (bt584.2 != t578)) else (laws_FnExactProgRun.j0 k l0 a1 t577 t578 t581 bt584.1 bt584.2 true)))) = some r := H
      have A8 := Aside0.mk A80
      clear A80
      replace H := Option.bind_eq_some_iff.mp H
      obtain ⟨⟨t584, t585⟩, A90, H⟩ := H
      replace H : ((laws_eqTokenS.f k t584 t577).bind fun t588 => (if t588 = true then (laws_FnExactProgRun.j0 k l0 a1 t577 t578 t581 t584 t585 (t585 != t578)) else (laws_FnExactProgRun.j0 k l0 a1 t577 t578 t581 t584 t585 true))) = some r := H
      have A9 := Aside0.mk A90
      clear A90
      have HC10 := Aside0.mk H
      clear H
      go_enter Try.func10, Try.ntmps10
      go_upto_region 10 with (first | ((with_reducible refine gate_callee (f := 21) rfl ?_); refine goesL_ (some 21) rfl rfl Try.func21 (by kernel_rfl) rfl #[.slice A0 l0.length c0, .int .i64 1048576] rfl (by (try simp only [List.map_toArray, List.map_cons, List.map_nil]); first | done | rfl | (simp only [List.length_drop, List.length_take]; rfl)) ?_; (with_reducible refine (laws_szInsS.calls _ _ l0 1048576 t573 _ ?side1 ?side2 A4.out).mono ?_); (case side1 => repeat (first | exact HR0.out | (with_reducible refine Kd.C_alloc ?_ _) | (with_reducible refine Kd.C_drewN ?_ _) | (with_reducible refine Kd.C_drew ?_))); (case side2 => exact HC0.out); rintro e w' ⟨rfl, ⟨nd, rfl⟩⟩; refine ⟨_, rfl, ?_⟩) | ((with_reducible refine gate_callee (f := 23) rfl ?_); refine goesL_ (some 26) rfl rfl Try.func23 (by kernel_rfl) rfl #[.slice A0 l0.length c0] rfl (by (try simp only [List.map_toArray, List.map_cons, List.map_nil]); first | done | rfl | (simp only [List.length_drop, List.length_take]; rfl)) ?_; (with_reducible refine (laws_toInsS.calls k _ _ l0 t574 _ ?side1 ?side2 A6.out).mono ?_); (case side1 => repeat (first | exact HR0.out | (with_reducible refine Kd.C_alloc ?_ _) | (with_reducible refine Kd.C_drewN ?_ _) | (with_reducible refine Kd.C_drew ?_))); (case side2 => exact HC0.out); rintro e w11 ⟨v575, rfl, ho0, hb⟩; refine ⟨_, rfl, ?_⟩; have n0_ := Aside0.mk (Kd.R_lower ho0 (below_size (by repeat (first | (with_reducible first | exact HB.out | apply below_alloc | apply pw_below_drewN | apply below_drew1) | exact HB.out)))); have n1_ := Aside0.mk (below_step (by repeat (first | (with_reducible first | exact HB.out | apply below_alloc | apply pw_below_drewN | apply below_drew1) | exact HB.out)) hb); clear HB; have HO576 := n0_; have HB := n1_; clear n0_ n1_; (try clear hb); (try clear hb2); (try clear hk); (try clear hi); (try clear ho0); obtain ⟨Ao12, co12, eo12⟩ := Kd.R_slice HO576.out; subst eo12) | ((with_reducible refine gate_callee (f := 40) rfl ?_); refine goesL_ (some 28) rfl rfl Try.func40 (by kernel_rfl) rfl #[.slice Ao12 t574.length co12, .string a1] rfl (by (try simp only [List.map_toArray, List.map_cons, List.map_nil]); first | done | rfl | (simp only [List.length_drop, List.length_take]; rfl)) ?_; (with_reducible refine (spec_ProgRun.calls k _ _ t574 a1 t577 t578 _ ?side1 ?side2 A7.out).mono ?_); (case side1 => repeat (first | exact (Kd.R_reads' HO576.out).2.2 | (with_reducible refine Kd.C_alloc ?_ _) | (with_reducible refine Kd.C_drewN ?_ _) | (with_reducible refine Kd.C_drew ?_))); (case side2 => exact (Kd.R_reads' HO576.out).2.1); rintro e w13 ⟨v579, rfl, ho0, hb⟩; refine ⟨_, rfl, ?_⟩; have n0_ := Aside0.mk (Kd.R_below (by (with_reducible repeat (first | apply Kd.R_alloc | apply Kd.R_drewN | apply Kd.R_drew)); exact HO576.out) hb); have n1_ := Aside0.mk (Kd.R_lower ho0 (below_size (by repeat (first | (with_reducible first | exact HB.out | apply below_alloc | apply pw_below_drewN | apply below_drew1) | exact HB.out)))); have n2_ := Aside0.mk (below_step (by repeat (first | (with_reducible first | exact HB.out | apply below_alloc | apply pw_below_drewN | apply below_drew1) | exact HB.out)) hb); clear HO576; clear HB; have HO576 := n0_; have HO580 := n1_; have HB := n2_; clear n0_ n1_ n2_; (try clear hb); (try clear hb2); (try clear hk); (try clear hi); (try clear ho0)) | ((with_reducible refine gate_callee (f := 23) rfl ?_); refine goesL_ (some 32) rfl rfl Try.func23 (by kernel_rfl) rfl #[.slice A0 l0.length c0] rfl (by (try simp only [List.map_toArray, List.map_cons, List.map_nil]); first | done | rfl | (simp only [List.length_drop, List.length_take]; rfl)) ?_; (with_reducible refine (laws_toInsS.calls k _ _ l0 t581 _ ?side1 ?side2 A8.out).mono ?_); (case side1 => repeat (first | exact (Kd.C_below HR0.out HB.out) | (with_reducible refine Kd.C_alloc ?_ _) | (with_reducible refine Kd.C_drewN ?_ _) | (with_reducible refine Kd.C_drew ?_))); (case side2 => exact HC0.out); rintro e w14 ⟨v582, rfl, ho0, hb⟩; refine ⟨_, rfl, ?_⟩; have n0_ := Aside0.mk (Kd.R_elder' (by (with_reducible repeat (first | apply Kd.R_alloc | apply Kd.R_drewN | apply Kd.R_drew)); exact HO576.out) (Kd.R_base ho0) hb); have n1_ := Aside0.mk (Kd.R_below (by (with_reducible repeat (first | apply Kd.R_alloc | apply Kd.R_drewN | apply Kd.R_drew)); exact HO580.out) hb); have n2_ := Aside0.mk (Kd.R_lower (Kd.R_new' ho0 (Kd.R_lt (by (with_reducible repeat (first | apply Kd.R_alloc | apply Kd.R_drewN | apply Kd.R_drew)); exact HO576.out))) (below_size (by repeat (first | (with_reducible first | exact HB.out | apply below_alloc | apply pw_below_drewN | apply below_drew1) | exact HB.out)))); have n3_ := Aside0.mk (below_step (by repeat (first | (with_reducible first | exact HB.out | apply below_alloc | apply pw_below_drewN | apply below_drew1) | exact HB.out)) hb); clear HO576; clear HO580; clear HB; have HO576 := n0_; have HO580 := n1_; have HO583 := n2_; have HB := n3_; clear n0_ n1_ n2_ n3_; (try clear hb); (try clear hb2); (try clear hk); (try clear hi); (try clear ho0); obtain ⟨Ao15, co15, eo15⟩ := Kd.R_slice HO583.out; subst eo15) | ((with_reducible refine gate_callee (f := 41) rfl ?_); refine goesL_ (some 36) rfl rfl Try.func41 (by kernel_rfl) rfl #[.slice Ao15 t581.length co15, .string a1] rfl (by (try simp only [List.map_toArray, List.map_cons, List.map_nil]); first | done | rfl | (simp only [List.length_drop, List.length_take]; rfl)) ?_; (with_reducible refine (impl_ProgRun.calls k _ _ t581 a1 t584 t585 _ ?side1 ?side2 A9.out).mono ?_); (case side1 => repeat (first | exact (Kd.R_reads' HO583.out).2.2 | (with_reducible refine Kd.C_alloc ?_ _) | (with_reducible refine Kd.C_drewN ?_ _) | (with_reducible refine Kd.C_drew ?_))); (case side2 => exact (Kd.R_reads' HO583.out).2.1); rintro e w16 ⟨v586, rfl, ho0, hb⟩; refine ⟨_, rfl, ?_⟩; have n0_ := Aside0.mk (Kd.R_below (by (with_reducible repeat (first | apply Kd.R_alloc | apply Kd.R_drewN | apply Kd.R_drew)); exact HO576.out) hb); have n1_ := Aside0.mk (Kd.R_elder' (by (with_reducible repeat (first | apply Kd.R_alloc | apply Kd.R_drewN | apply Kd.R_drew)); exact HO580.out) (Kd.R_base ho0) hb); have n2_ := Aside0.mk (Kd.R_below (by (with_reducible repeat (first | apply Kd.R_alloc | apply Kd.R_drewN | apply Kd.R_drew)); exact HO583.out) hb); have n3_ := Aside0.mk (Kd.R_lower (Kd.R_new' ho0 (Kd.R_lt (by (with_reducible repeat (first | apply Kd.R_alloc | apply Kd.R_drewN | apply Kd.R_drew)); exact HO580.out))) (below_size (by repeat (first | (with_reducible first | exact HB.out | apply below_alloc | apply pw_below_drewN | apply below_drew1) | exact HB.out)))); have n4_ := Aside0.mk (below_step (by repeat (first | (with_reducible first | exact HB.out | apply below_alloc | apply pw_below_drewN | apply below_drew1) | exact HB.out)) hb); clear HO576; clear HO580; clear HO583; clear HB; have HO576 := n0_; have HO580 := n1_; have HO583 := n2_; have HO587 := n3_; have HB := n4_; clear n0_ n1_ n2_ n3_ n4_; (try clear hb); (try clear hb2); (try clear hk); (try clear hi); (try clear ho0)))
      (try simp only [Act.put, List.setIfInBounds_toArray, List.set_cons_zero, List.set_cons_succ])
      go_cut [47] (fun v47 wc => ∃ (kq : Nat) (x47_9 : Bool), v47 = .bool x47_9 ∧ Aside0 (laws_FnExactProgRun.j0 kq l0 a1 t577 t578 t581 t584 t585 x47_9 = some r) ∧ Aside0 (kq ≤ k) ∧ Aside0 (Kd.R k71 71 wc w.heap.size (fun k_ => some k_ ≠ (v586 : Value).ownBlock) v579 t577) ∧ Aside0 (Kd.R k76 76 wc w.heap.size (fun _ => True) (.slice Ao15 t581.length co15) t581) ∧ Aside0 (Kd.R k71 71 wc w.heap.size (fun k_ => some k_ ≠ (v579 : Value).ownBlock) v586 t584) ∧ Aside0 (Below w.heap.size w wc))
      case first =>
        have H := HC10.out
        clear HC10
        replace H := Option.bind_eq_some_iff.mp H
        obtain ⟨t588, A170, H⟩ := H
        replace H : (if t588 = true then (laws_FnExactProgRun.j0 k l0 a1 t577 t578 t581 t584 t585 (t585 != t578)) else (laws_FnExactProgRun.j0 k l0 a1 t577 t578 t581 t584 t585 true)) = some r := H
        have A17 := Aside0.mk A170
        clear A170
        by_cases c18 : t588 = true
        · subst c18
          have H1 : (laws_FnExactProgRun.j0 k l0 a1 t577 t578 t581 t584 t585 (t585 != t578)) = some r := by rw [if_pos rfl] at H; exact H
          clear H
          have H := H1
          clear H1
          have H' := Aside0.mk H
          clear H
          obtain ⟨Ao19, co19, eo19⟩ := Kd.R_slice HO587.out
          subst eo19
          obtain ⟨Ao20, co20, eo20⟩ := Kd.R_slice HO580.out
          subst eo20
          go_wp2_with (first | ((with_reducible refine gate_callee (f := 20) rfl ?_); refine goesL_ (some 41) rfl rfl Try.func20 (by kernel_rfl) rfl #[.slice Ao19 t584.length co19, .slice Ao20 t577.length co20] rfl (by (try simp only [List.map_toArray, List.map_cons, List.map_nil]); first | done | rfl | (simp only [List.length_drop, List.length_take]; rfl)) ?_; (with_reducible refine (laws_eqTokenS.calls k _ _ t584 _ _ t577 true _ ?side1 ?side2 ?side3 ?side4 A17.out).mono ?_); (case side1 => repeat (first | exact (Kd.R_reads' HO587.out).2.2 | (with_reducible refine Kd.C_alloc ?_ _) | (with_reducible refine Kd.C_drewN ?_ _) | (with_reducible refine Kd.C_drew ?_))); (case side2 => exact (Kd.R_reads' HO587.out).2.1); (case side3 => repeat (first | exact (Kd.R_reads' HO580.out).2.2 | (with_reducible refine Kd.C_alloc ?_ _) | (with_reducible refine Kd.C_drewN ?_ _) | (with_reducible refine Kd.C_drew ?_))); (case side4 => exact (Kd.R_reads' HO580.out).2.1); rintro e w21 ⟨rfl, hb⟩; refine ⟨_, rfl, ?_⟩; have n0_ := Aside0.mk (Kd.R_below (by (with_reducible repeat (first | apply Kd.R_alloc | apply Kd.R_drewN | apply Kd.R_drew)); exact HO576.out) hb); have n1_ := Aside0.mk (Kd.R_below (by (with_reducible repeat (first | apply Kd.R_alloc | apply Kd.R_drewN | apply Kd.R_drew)); exact HO580.out) hb); have n2_ := Aside0.mk (Kd.R_below (by (with_reducible repeat (first | apply Kd.R_alloc | apply Kd.R_drewN | apply Kd.R_drew)); exact HO583.out) hb); have n3_ := Aside0.mk (Kd.R_below (by (with_reducible repeat (first | apply Kd.R_alloc | apply Kd.R_drewN | apply Kd.R_drew)); exact HO587.out) hb); have n4_ := Aside0.mk (below_step (by repeat (first | (with_reducible first | exact HB.out | apply below_alloc | apply pw_below_drewN | apply below_drew1) | exact HB.out)) hb); clear HO576; clear HO580; clear HO583; clear HO587; clear HB; have HO576 := n0_; have HO580 := n1_; have HO583 := n2_; have HO587 := n3_; have HB := n4_; clear n0_ n1_ n2_ n3_ n4_; (try clear hb); (try clear hb2); (try clear hk); (try clear hi)))
          go_meet
          case rel => exact ⟨_, ((t585 != t578)), (by first | rfl | (simp; done) | (simp [*]; done)), H', ⟨by first | omega | exact Nat.le_refl _⟩, ⟨by (with_reducible repeat (first | apply Kd.R_alloc | apply Kd.R_drewN | apply Kd.R_drew)); exact Kd.R_mono HO580.out (fun _ hk => hk.2)⟩, ⟨by (with_reducible repeat (first | apply Kd.R_alloc | apply Kd.R_drewN | apply Kd.R_drew)); exact Kd.R_mono HO583.out (fun _ hk => trivial)⟩, ⟨by (with_reducible repeat (first | apply Kd.R_alloc | apply Kd.R_drewN | apply Kd.R_drew)); exact Kd.R_mono HO587.out (fun _ hk => hk.2)⟩, ⟨by repeat (first | (with_reducible first | exact HB.out | apply below_alloc | apply pw_below_drewN | apply below_drew1) | exact HB.out)⟩⟩
        · replace c18 := Bool.eq_false_iff.mpr c18
          subst c18
          have H1 : (laws_FnExactProgRun.j0 k l0 a1 t577 t578 t581 t584 t585 true) = some r := by rw [if_neg (show ¬ (false = true) by decide)] at H; exact H
          clear H
          have H := H1
          clear H1
          have H' := Aside0.mk H
          clear H
          obtain ⟨Ao22, co22, eo22⟩ := Kd.R_slice HO587.out
          subst eo22
          obtain ⟨Ao23, co23, eo23⟩ := Kd.R_slice HO580.out
          subst eo23
          go_wp2_with (first | ((with_reducible refine gate_callee (f := 20) rfl ?_); refine goesL_ (some 41) rfl rfl Try.func20 (by kernel_rfl) rfl #[.slice Ao22 t584.length co22, .slice Ao23 t577.length co23] rfl (by (try simp only [List.map_toArray, List.map_cons, List.map_nil]); first | done | rfl | (simp only [List.length_drop, List.length_take]; rfl)) ?_; (with_reducible refine (laws_eqTokenS.calls k _ _ t584 _ _ t577 false _ ?side1 ?side2 ?side3 ?side4 A17.out).mono ?_); (case side1 => repeat (first | exact (Kd.R_reads' HO587.out).2.2 | (with_reducible refine Kd.C_alloc ?_ _) | (with_reducible refine Kd.C_drewN ?_ _) | (with_reducible refine Kd.C_drew ?_))); (case side2 => exact (Kd.R_reads' HO587.out).2.1); (case side3 => repeat (first | exact (Kd.R_reads' HO580.out).2.2 | (with_reducible refine Kd.C_alloc ?_ _) | (with_reducible refine Kd.C_drewN ?_ _) | (with_reducible refine Kd.C_drew ?_))); (case side4 => exact (Kd.R_reads' HO580.out).2.1); rintro e w24 ⟨rfl, hb⟩; refine ⟨_, rfl, ?_⟩; have n0_ := Aside0.mk (Kd.R_below (by (with_reducible repeat (first | apply Kd.R_alloc | apply Kd.R_drewN | apply Kd.R_drew)); exact HO576.out) hb); have n1_ := Aside0.mk (Kd.R_below (by (with_reducible repeat (first | apply Kd.R_alloc | apply Kd.R_drewN | apply Kd.R_drew)); exact HO580.out) hb); have n2_ := Aside0.mk (Kd.R_below (by (with_reducible repeat (first | apply Kd.R_alloc | apply Kd.R_drewN | apply Kd.R_drew)); exact HO583.out) hb); have n3_ := Aside0.mk (Kd.R_below (by (with_reducible repeat (first | apply Kd.R_alloc | apply Kd.R_drewN | apply Kd.R_drew)); exact HO587.out) hb); have n4_ := Aside0.mk (below_step (by repeat (first | (with_reducible first | exact HB.out | apply below_alloc | apply pw_below_drewN | apply below_drew1) | exact HB.out)) hb); clear HO576; clear HO580; clear HO583; clear HO587; clear HB; have HO576 := n0_; have HO580 := n1_; have HO583 := n2_; have HO587 := n3_; have HB := n4_; clear n0_ n1_ n2_ n3_ n4_; (try clear hb); (try clear hb2); (try clear hk); (try clear hi)))
          go_meet
          case rel => exact ⟨_, (true), (by first | rfl | (simp; done) | (simp [*]; done)), H', ⟨by first | omega | exact Nat.le_refl _⟩, ⟨by (with_reducible repeat (first | apply Kd.R_alloc | apply Kd.R_drewN | apply Kd.R_drew)); exact Kd.R_mono HO580.out (fun _ hk => hk.2)⟩, ⟨by (with_reducible repeat (first | apply Kd.R_alloc | apply Kd.R_drewN | apply Kd.R_drew)); exact Kd.R_mono HO583.out (fun _ hk => trivial)⟩, ⟨by (with_reducible repeat (first | apply Kd.R_alloc | apply Kd.R_drewN | apply Kd.R_drew)); exact Kd.R_mono HO587.out (fun _ hk => hk.2)⟩, ⟨by repeat (first | (with_reducible first | exact HB.out | apply below_alloc | apply pw_below_drewN | apply below_drew1) | exact HB.out)⟩⟩
      case rest =>
        clear HC10
        try clear c1
        try clear c2
        try clear p2
        try clear c3
        try clear c3b0
        try clear c3b1
        try clear c4
        try clear c5
        try clear c5b0
        try clear c10
        try clear c18
        try clear c20
        try clear c21
        try clear c23
        obtain ⟨kq, x47_9, rfl, HA, HJ9, HO_6, HO_8, HO_9, HB⟩ := hcut
        cases kq with
        | zero => exact absurd HA.out (by simp [laws_FnExactProgRun.j0])
        | succ kj9 =>
          have H := HA.out
          clear HA
          simp only [laws_FnExactProgRun.j0] at H
          by_cases c25 : x47_9 = true
          · subst c25
            have H1 : (some false) = some r := by rw [if_pos rfl] at H; exact H
            clear H
            have H := H1
            clear H1
            exact absurd ((Option.some.inj H).trans HT.out) (by decide)
          · replace c25 := Bool.eq_false_iff.mpr c25
            subst c25
            have H1 : ((laws_toInsS.f kj9 l0).bind fun t589 => ((laws_eqInsS.f kj9 t581 t589).bind fun t592 => (if t592 = true then ((laws_markInsS.f kj9 t581 1).bind fun bt593 => (if bt593.1 < 0 then (laws_FnExactProgRun.j1 kj9 l0 a1 t577 t578 t584 true) else ((laws_eqTokenS.f kj9 t584 t577).bind fun t595 => (if t595 = true then (laws_FnExactProgRun.j1 kj9 l0 a1 t577 t578 t584 (t585 != t578)) else (laws_FnExactProgRun.j1 kj9 l0 a1 t577 t578 t584 true))))) else (some false)))) = some r := by rw [if_neg (show ¬ (false = true) by decide)] at H; exact H
            clear H
            have H := H1
            clear H1
            replace H := Option.bind_eq_some_iff.mp H
            obtain ⟨t589, A260, H⟩ := H
            replace H : ((laws_eqInsS.f kj9 t581 t589).bind fun t592 => (if t592 = true then ((laws_markInsS.f kj9 t581 1).bind fun bt593 => (if bt593.1 < 0 then (laws_FnExactProgRun.j1 kj9 l0 a1 t577 t578 t584 true) else ((laws_eqTokenS.f kj9 t584 t577).bind fun t595 => (if t595 = true then (laws_FnExactProgRun.j1 kj9 l0 a1 t577 t578 t584 (t585 != t578)) else (laws_FnExactProgRun.j1 kj9 l0 a1 t577 t578 t584 true))))) else (some false))) = some r := H
            have A26 := Aside0.mk A260
            clear A260
            replace H := Option.bind_eq_some_iff.mp H
            obtain ⟨t592, A270, H⟩ := H
            replace H : (if t592 = true then ((laws_markInsS.f kj9 t581 1).bind fun bt593 => (if bt593.1 < 0 then (laws_FnExactProgRun.j1 kj9 l0 a1 t577 t578 t584 true) else ((laws_eqTokenS.f kj9 t584 t577).bind fun t595 => (if t595 = true then (laws_FnExactProgRun.j1 kj9 l0 a1 t577 t578 t584 (t585 != t578)) else (laws_FnExactProgRun.j1 kj9 l0 a1 t577 t578 t584 true))))) else (some false)) = some r := H
            have A27 := Aside0.mk A270
            clear A270
            by_cases c28 : t592 = true
            · subst c28
              have H1 : ((laws_markInsS.f kj9 t581 1).bind fun bt593 => (if bt593.1 < 0 then (laws_FnExactProgRun.j1 kj9 l0 a1 t577 t578 t584 true) else ((laws_eqTokenS.f kj9 t584 t577).bind fun t595 => (if t595 = true then (laws_FnExactProgRun.j1 kj9 l0 a1 t577 t578 t584 (t585 != t578)) else (laws_FnExactProgRun.j1 kj9 l0 a1 t577 t578 t584 true))))) = some r := by rw [if_pos rfl] at H; exact H
              clear H
              have H := H1
              clear H1
              replace H := Option.bind_eq_some_iff.mp H
              obtain ⟨⟨t593, t594⟩, A290, H⟩ := H
              replace H : (if t593 < 0 then (laws_FnExactProgRun.j1 kj9 l0 a1 t577 t578 t584 true) else ((laws_eqTokenS.f kj9 t584 t577).bind fun t595 => (if t595 = true then (laws_FnExactProgRun.j1 kj9 l0 a1 t577 t578 t584 (t585 != t578)) else (laws_FnExactProgRun.j1 kj9 l0 a1 t577 t578 t584 true)))) = some r := H
              have A29 := Aside0.mk A290
              clear A290
              have HC30 := Aside0.mk H
              clear H
              go_upto_region 16 with (first | ((with_reducible refine gate_callee (f := 23) rfl ?_); refine goesL_ (some 50) rfl rfl Try.func23 (by kernel_rfl) rfl #[.slice A0 l0.length c0] rfl (by (try simp only [List.map_toArray, List.map_cons, List.map_nil]); first | done | rfl | (simp only [List.length_drop, List.length_take]; rfl)) ?_; (with_reducible refine (laws_toInsS.calls kj9 _ _ l0 t589 _ ?side1 ?side2 A26.out).mono ?_); (case side1 => repeat (first | exact (Kd.C_below HR0.out HB.out) | (with_reducible refine Kd.C_alloc ?_ _) | (with_reducible refine Kd.C_drewN ?_ _) | (with_reducible refine Kd.C_drew ?_))); (case side2 => exact HC0.out); rintro e w31 ⟨v590, rfl, ho0, hb⟩; refine ⟨_, rfl, ?_⟩; have n0_ := Aside0.mk (Kd.R_below (by (with_reducible repeat (first | apply Kd.R_alloc | apply Kd.R_drewN | apply Kd.R_drew)); exact HO_6.out) hb); have n1_ := Aside0.mk (Kd.R_elder' (by (with_reducible repeat (first | apply Kd.R_alloc | apply Kd.R_drewN | apply Kd.R_drew)); exact HO_8.out) (Kd.R_base ho0) hb); have n2_ := Aside0.mk (Kd.R_below (by (with_reducible repeat (first | apply Kd.R_alloc | apply Kd.R_drewN | apply Kd.R_drew)); exact HO_9.out) hb); have n3_ := Aside0.mk (Kd.R_lower (Kd.R_new' ho0 (Kd.R_lt (by (with_reducible repeat (first | apply Kd.R_alloc | apply Kd.R_drewN | apply Kd.R_drew)); exact HO_8.out))) (below_size (by repeat (first | (with_reducible first | exact HB.out | apply below_alloc | apply pw_below_drewN | apply below_drew1) | exact HB.out)))); have n4_ := Aside0.mk (below_step (by repeat (first | (with_reducible first | exact HB.out | apply below_alloc | apply pw_below_drewN | apply below_drew1) | exact HB.out)) hb); clear HO_6; clear HO_8; clear HO_9; clear HB; have HO_6 := n0_; have HO_8 := n1_; have HO_9 := n2_; have HO591 := n3_; have HB := n4_; clear n0_ n1_ n2_ n3_ n4_; (try clear hb); (try clear hb2); (try clear hk); (try clear hi); (try clear ho0); obtain ⟨Ao32, co32, eo32⟩ := Kd.R_slice HO591.out; subst eo32) | ((with_reducible refine gate_callee (f := 25) rfl ?_); refine goesL_ (some 51) rfl rfl Try.func25 (by kernel_rfl) rfl #[.slice Ao15 t581.length co15, .slice Ao32 t589.length co32] rfl (by (try simp only [List.map_toArray, List.map_cons, List.map_nil]); first | done | rfl | (simp only [List.length_drop, List.length_take]; rfl)) ?_; (with_reducible refine (laws_eqInsS.calls kj9 _ _ t581 _ _ t589 true _ ?side1 ?side2 ?side3 ?side4 A27.out).mono ?_); (case side1 => repeat (first | exact (Kd.R_reads' HO_8.out).2.2 | (with_reducible refine Kd.C_alloc ?_ _) | (with_reducible refine Kd.C_drewN ?_ _) | (with_reducible refine Kd.C_drew ?_))); (case side2 => exact (Kd.R_reads' HO_8.out).2.1); (case side3 => repeat (first | exact (Kd.R_reads' HO591.out).2.2 | (with_reducible refine Kd.C_alloc ?_ _) | (with_reducible refine Kd.C_drewN ?_ _) | (with_reducible refine Kd.C_drew ?_))); (case side4 => exact (Kd.R_reads' HO591.out).2.1); rintro e w33 ⟨rfl, hb⟩; refine ⟨_, rfl, ?_⟩; have n0_ := Aside0.mk (Kd.R_below (by (with_reducible repeat (first | apply Kd.R_alloc | apply Kd.R_drewN | apply Kd.R_drew)); exact HO_6.out) hb); have n1_ := Aside0.mk (Kd.R_below (by (with_reducible repeat (first | apply Kd.R_alloc | apply Kd.R_drewN | apply Kd.R_drew)); exact HO_8.out) hb); have n2_ := Aside0.mk (Kd.R_below (by (with_reducible repeat (first | apply Kd.R_alloc | apply Kd.R_drewN | apply Kd.R_drew)); exact HO_9.out) hb); have n3_ := Aside0.mk (Kd.R_below (by (with_reducible repeat (first | apply Kd.R_alloc | apply Kd.R_drewN | apply Kd.R_drew)); exact HO591.out) hb); have n4_ := Aside0.mk (below_step (by repeat (first | (with_reducible first | exact HB.out | apply below_alloc | apply pw_below_drewN | apply below_drew1) | exact HB.out)) hb); clear HO_6; clear HO_8; clear HO_9; clear HO591; clear HB; have HO_6 := n0_; have HO_8 := n1_; have HO_9 := n2_; have HO591 := n3_; have HB := n4_; clear n0_ n1_ n2_ n3_ n4_; (try clear hb); (try clear hb2); (try clear hk); (try clear hi)) | ((with_reducible refine gate_callee (f := 42) rfl ?_); refine goesL_ (some 55) rfl rfl Try.func42 (by kernel_rfl) rfl #[.slice Ao15 t581.length co15, .int .i64 1] rfl (by (try simp only [List.map_toArray, List.map_cons, List.map_nil]); first | done | rfl | (simp only [List.length_drop, List.length_take]; rfl)) ?_; (with_reducible refine (laws_markInsS.calls kj9 (fun k_ => some k_ = (.slice Ao15 t581.length co15 : Value).ownBlock) (.slice Ao15 t581.length co15) t581 1 t593 t594 w _ ?side1 ?side2 A29.out).mono ?_); (case side1 => repeat (first | (with_reducible first | exact HB.out | apply below_alloc | apply pw_below_drewN | apply below_drew1) | exact HB.out)); (case side2 => exact Kd.R_tight rfl HO_8.out); rintro e w34 ⟨rfl, hy0, hb, hkp⟩; refine ⟨_, rfl, ?_⟩; have n0_ := Aside0.mk (Kd.R_mono (ok' := fun k_ => some k_ ≠ (v586 : Value).ownBlock) (Kd.R_keptB ((Kd.R_apart' HO_6.out (Kd.R_typed HO_8.out) (by decide))) hkp (fun k_ hk_ hs_ => (hk_.2) hs_)) (fun k_ hk_ => hk_.1.1)); have n1_ := Aside0.mk (Kd.R_reok rfl hy0 (fun k_ e_ => HO_8.out.1 k_ e_)); have n2_ := Aside0.mk (Kd.R_mono (ok' := fun k_ => some k_ ≠ (v579 : Value).ownBlock) (Kd.R_keptB ((Kd.R_apart' HO_9.out (Kd.R_typed HO_8.out) (by decide))) hkp (fun k_ hk_ hs_ => (hk_.2) hs_)) (fun k_ hk_ => hk_.1.1)); have n3_ := Aside0.mk (Kd.R_mono (ok' := fun k_ => some k_ ≠ (.slice Ao15 t581.length co15 : Value).ownBlock) (Kd.R_keptB (HO591.out) hkp (fun k_ hk_ hs_ => (hk_.2) hs_)) (fun k_ hk_ => hk_.1.2)); have n4_ := Aside0.mk (hb); clear HO_6; clear HO_8; clear HO_9; clear HO591; clear HB; have HO_6 := n0_; have HO_8 := n1_; have HO_9 := n2_; have HO591 := n3_; have HB := n4_; clear n0_ n1_ n2_ n3_ n4_; (try clear hb); (try clear hkp); (try clear hy0)))
              (try simp only [Act.put, List.setIfInBounds_toArray, List.set_cons_zero, List.set_cons_succ])
              go_cut [68] (fun v68 wc => ∃ (kq : Nat) (x68_29 : Bool), v68 = .bool x68_29 ∧ Aside0 (laws_FnExactProgRun.j1 kq l0 a1 t577 t578 t584 x68_29 = some r) ∧ Aside0 (kq ≤ kj9) ∧ Aside0 (Kd.R k71 71 wc w.heap.size (fun k_ => some k_ ≠ (v586 : Value).ownBlock) v579 t577) ∧ Aside0 (Kd.R k71 71 wc w.heap.size (fun k_ => some k_ ≠ (v579 : Value).ownBlock) v586 t584) ∧ Aside0 (Below w.heap.size w wc))
              case first =>
                have H := HC30.out
                clear HC30
                by_cases c35 : t593 < 0
                · rw [if_pos c35] at H
                  have c35b0 : decide (t593 < 0) = true := decide_eq_true c35
                  clear c35
                  (first | rw [c35b0] | (simp only [i64_w, i32_w]; rw [c35b0]) | skip)
                  have H' := Aside0.mk H
                  clear H
                  go_wp2
                  go_meet
                  case rel => exact ⟨_, (true), (by first | rfl | (simp; done) | (simp [*]; done)), H', ⟨by have := HJ9.out; first | omega | exact Nat.le_refl _⟩, ⟨by (with_reducible repeat (first | apply Kd.R_alloc | apply Kd.R_drewN | apply Kd.R_drew)); exact HO_6.out⟩, ⟨by (with_reducible repeat (first | apply Kd.R_alloc | apply Kd.R_drewN | apply Kd.R_drew)); exact HO_9.out⟩, ⟨by repeat (first | (with_reducible first | exact HB.out | apply below_alloc | apply pw_below_drewN | apply below_drew1) | exact HB.out)⟩⟩
                · rw [if_neg c35] at H
                  have c35b0 : decide (t593 < 0) = false := decide_eq_false c35
                  clear c35
                  (first | rw [c35b0] | (simp only [i64_w, i32_w]; rw [c35b0]) | skip)
                  replace H := Option.bind_eq_some_iff.mp H
                  obtain ⟨t595, A360, H⟩ := H
                  replace H : (if t595 = true then (laws_FnExactProgRun.j1 kj9 l0 a1 t577 t578 t584 (t585 != t578)) else (laws_FnExactProgRun.j1 kj9 l0 a1 t577 t578 t584 true)) = some r := H
                  have A36 := Aside0.mk A360
                  clear A360
                  by_cases c37 : t595 = true
                  · subst c37
                    have H1 : (laws_FnExactProgRun.j1 kj9 l0 a1 t577 t578 t584 (t585 != t578)) = some r := by rw [if_pos rfl] at H; exact H
                    clear H
                    have H := H1
                    clear H1
                    have H' := Aside0.mk H
                    clear H
                    obtain ⟨Ao38, co38, eo38⟩ := Kd.R_slice HO_9.out
                    subst eo38
                    obtain ⟨Ao39, co39, eo39⟩ := Kd.R_slice HO_6.out
                    subst eo39
                    go_wp2_with (first | (go_at_call 20; (with_reducible refine (laws_eqTokenS.calls kj9 _ _ t584 _ _ t577 true _ ?side1 ?side2 ?side3 ?side4 A36.out).mono ?_); (case side1 => repeat (first | exact (Kd.R_reads' HO_9.out).2.2 | (with_reducible refine Kd.C_alloc ?_ _) | (with_reducible refine Kd.C_drewN ?_ _) | (with_reducible refine Kd.C_drew ?_))); (case side2 => exact (Kd.R_reads' HO_9.out).2.1); (case side3 => repeat (first | exact (Kd.R_reads' HO_6.out).2.2 | (with_reducible refine Kd.C_alloc ?_ _) | (with_reducible refine Kd.C_drewN ?_ _) | (with_reducible refine Kd.C_drew ?_))); (case side4 => exact (Kd.R_reads' HO_6.out).2.1); rintro e w40 ⟨rfl, hb⟩; have n0_ := Aside0.mk (Kd.R_below (by (with_reducible repeat (first | apply Kd.R_alloc | apply Kd.R_drewN | apply Kd.R_drew)); exact HO_6.out) hb); have n1_ := Aside0.mk (Kd.R_below (by (with_reducible repeat (first | apply Kd.R_alloc | apply Kd.R_drewN | apply Kd.R_drew)); exact HO_8.out) hb); have n2_ := Aside0.mk (Kd.R_below (by (with_reducible repeat (first | apply Kd.R_alloc | apply Kd.R_drewN | apply Kd.R_drew)); exact HO_9.out) hb); have n3_ := Aside0.mk (Kd.R_below (by (with_reducible repeat (first | apply Kd.R_alloc | apply Kd.R_drewN | apply Kd.R_drew)); exact HO591.out) hb); have n4_ := Aside0.mk (below_step (by repeat (first | (with_reducible first | exact HB.out | apply below_alloc | apply pw_below_drewN | apply below_drew1) | exact HB.out)) hb); clear HO_6; clear HO_8; clear HO_9; clear HO591; clear HB; have HO_6 := n0_; have HO_8 := n1_; have HO_9 := n2_; have HO591 := n3_; have HB := n4_; clear n0_ n1_ n2_ n3_ n4_; (try clear hb); (try clear hb2); (try clear hk); (try clear hi)))
                    go_meet
                    case rel => exact ⟨_, ((t585 != t578)), (by first | rfl | (simp; done) | (simp [*]; done)), H', ⟨by have := HJ9.out; first | omega | exact Nat.le_refl _⟩, ⟨by (with_reducible repeat (first | apply Kd.R_alloc | apply Kd.R_drewN | apply Kd.R_drew)); exact HO_6.out⟩, ⟨by (with_reducible repeat (first | apply Kd.R_alloc | apply Kd.R_drewN | apply Kd.R_drew)); exact HO_9.out⟩, ⟨by repeat (first | (with_reducible first | exact HB.out | apply below_alloc | apply pw_below_drewN | apply below_drew1) | exact HB.out)⟩⟩
                  · replace c37 := Bool.eq_false_iff.mpr c37
                    subst c37
                    have H1 : (laws_FnExactProgRun.j1 kj9 l0 a1 t577 t578 t584 true) = some r := by rw [if_neg (show ¬ (false = true) by decide)] at H; exact H
                    clear H
                    have H := H1
                    clear H1
                    have H' := Aside0.mk H
                    clear H
                    obtain ⟨Ao41, co41, eo41⟩ := Kd.R_slice HO_9.out
                    subst eo41
                    obtain ⟨Ao42, co42, eo42⟩ := Kd.R_slice HO_6.out
                    subst eo42
                    go_wp2_with (first | (go_at_call 20; (with_reducible refine (laws_eqTokenS.calls kj9 _ _ t584 _ _ t577 false _ ?side1 ?side2 ?side3 ?side4 A36.out).mono ?_); (case side1 => repeat (first | exact (Kd.R_reads' HO_9.out).2.2 | (with_reducible refine Kd.C_alloc ?_ _) | (with_reducible refine Kd.C_drewN ?_ _) | (with_reducible refine Kd.C_drew ?_))); (case side2 => exact (Kd.R_reads' HO_9.out).2.1); (case side3 => repeat (first | exact (Kd.R_reads' HO_6.out).2.2 | (with_reducible refine Kd.C_alloc ?_ _) | (with_reducible refine Kd.C_drewN ?_ _) | (with_reducible refine Kd.C_drew ?_))); (case side4 => exact (Kd.R_reads' HO_6.out).2.1); rintro e w43 ⟨rfl, hb⟩; have n0_ := Aside0.mk (Kd.R_below (by (with_reducible repeat (first | apply Kd.R_alloc | apply Kd.R_drewN | apply Kd.R_drew)); exact HO_6.out) hb); have n1_ := Aside0.mk (Kd.R_below (by (with_reducible repeat (first | apply Kd.R_alloc | apply Kd.R_drewN | apply Kd.R_drew)); exact HO_8.out) hb); have n2_ := Aside0.mk (Kd.R_below (by (with_reducible repeat (first | apply Kd.R_alloc | apply Kd.R_drewN | apply Kd.R_drew)); exact HO_9.out) hb); have n3_ := Aside0.mk (Kd.R_below (by (with_reducible repeat (first | apply Kd.R_alloc | apply Kd.R_drewN | apply Kd.R_drew)); exact HO591.out) hb); have n4_ := Aside0.mk (below_step (by repeat (first | (with_reducible first | exact HB.out | apply below_alloc | apply pw_below_drewN | apply below_drew1) | exact HB.out)) hb); clear HO_6; clear HO_8; clear HO_9; clear HO591; clear HB; have HO_6 := n0_; have HO_8 := n1_; have HO_9 := n2_; have HO591 := n3_; have HB := n4_; clear n0_ n1_ n2_ n3_ n4_; (try clear hb); (try clear hb2); (try clear hk); (try clear hi)))
                    go_meet
                    case rel => exact ⟨_, (true), (by first | rfl | (simp; done) | (simp [*]; done)), H', ⟨by have := HJ9.out; first | omega | exact Nat.le_refl _⟩, ⟨by (with_reducible repeat (first | apply Kd.R_alloc | apply Kd.R_drewN | apply Kd.R_drew)); exact HO_6.out⟩, ⟨by (with_reducible repeat (first | apply Kd.R_alloc | apply Kd.R_drewN | apply Kd.R_drew)); exact HO_9.out⟩, ⟨by repeat (first | (with_reducible first | exact HB.out | apply below_alloc | apply pw_below_drewN | apply below_drew1) | exact HB.out)⟩⟩
              case rest =>
                clear HC30
                try clear c1
                try clear c2
                try clear p2
                try clear c3
                try clear c3b0
                try clear c3b1
                try clear c4
                try clear c5
                try clear c5b0
                try clear c10
                try clear c18
                try clear c20
                try clear c21
                try clear c23
                try clear c25
                try clear c28
                try clear c35
                try clear c35b0
                try clear c37
                try clear c40
                try clear c41
                try clear c42
                try clear p2
                obtain ⟨kq, x68_29, rfl, HA, HJ29, HO_6, HO_9, HB⟩ := hcut
                cases kq with
                | zero => exact absurd HA.out (by simp [laws_FnExactProgRun.j1])
                | succ kj29 =>
                  have H := HA.out
                  clear HA
                  simp only [laws_FnExactProgRun.j1] at H
                  by_cases c44 : x68_29 = true
                  · subst c44
                    have H1 : (some false) = some r := by rw [if_pos rfl] at H; exact H
                    clear H
                    have H := H1
                    clear H1
                    exact absurd ((Option.some.inj H).trans HT.out) (by decide)
                  · replace c44 := Bool.eq_false_iff.mpr c44
                    subst c44
                    have H1 : ((laws_markTokenS.f kj29 t584 1).bind fun bt596 => ((laws_heldTokenS.f kj29 bt596.2 1).bind fun t598 => (if t598 < 0 then (some false) else (if t598 = bt596.1 then ((laws_toInsS.f kj29 l0).bind fun t599 => ((impl_ProgRun.f kj29 t599 a1).bind fun bt602 => ((laws_eqTokenS.f kj29 bt602.1 t577).bind fun t606 => (if t606 = true then (laws_FnExactProgRun.j2 kj29 bt596.2 bt596.1 (bt602.2 != t578)) else (laws_FnExactProgRun.j2 kj29 bt596.2 bt596.1 true))))) else (some false))))) = some r := by rw [if_neg (show ¬ (false = true) by decide)] at H; exact H
                    clear H
                    have H := H1
                    clear H1
                    replace H := Option.bind_eq_some_iff.mp H
                    obtain ⟨⟨t596, t597⟩, A450, H⟩ := H
                    replace H : ((laws_heldTokenS.f kj29 t597 1).bind fun t598 => (if t598 < 0 then (some false) else (if t598 = t596 then ((laws_toInsS.f kj29 l0).bind fun t599 => ((impl_ProgRun.f kj29 t599 a1).bind fun bt602 => ((laws_eqTokenS.f kj29 bt602.1 t577).bind fun t606 => (if t606 = true then (laws_FnExactProgRun.j2 kj29 t597 t596 (bt602.2 != t578)) else (laws_FnExactProgRun.j2 kj29 t597 t596 true))))) else (some false)))) = some r := H
                    have A45 := Aside0.mk A450
                    clear A450
                    replace H := Option.bind_eq_some_iff.mp H
                    obtain ⟨t598, A460, H⟩ := H
                    replace H : (if t598 < 0 then (some false) else (if t598 = t596 then ((laws_toInsS.f kj29 l0).bind fun t599 => ((impl_ProgRun.f kj29 t599 a1).bind fun bt602 => ((laws_eqTokenS.f kj29 bt602.1 t577).bind fun t606 => (if t606 = true then (laws_FnExactProgRun.j2 kj29 t597 t596 (bt602.2 != t578)) else (laws_FnExactProgRun.j2 kj29 t597 t596 true))))) else (some false))) = some r := H
                    have A46 := Aside0.mk A460
                    clear A460
                    by_cases c47 : t598 < 0
                    · rw [if_pos c47] at H
                      have c47b0 : decide (t598 < 0) = true := decide_eq_true c47
                      clear c47
                      exact absurd ((Option.some.inj H).trans HT.out) (by decide)
                    · rw [if_neg c47] at H
                      have c47b0 : decide (t598 < 0) = false := decide_eq_false c47
                      clear c47
                      by_cases c48 : t598 = t596
                      · rw [if_pos c48] at H
                        have c48b0 : (t598 == t596) = true := beq_iff_eq.mpr c48
                        have c48b1 : (t598 != t596) = false := bne_eq_false_iff_eq.mpr c48
                        clear c48
                        replace H := Option.bind_eq_some_iff.mp H
                        obtain ⟨t599, A490, H⟩ := H
                        replace H : ((impl_ProgRun.f kj29 t599 a1).bind fun bt602 => ((laws_eqTokenS.f kj29 bt602.1 t577).bind fun t606 => (if t606 = true then (laws_FnExactProgRun.j2 kj29 t597 t596 (bt602.2 != t578)) else (laws_FnExactProgRun.j2 kj29 t597 t596 true)))) = some r := H
                        have A49 := Aside0.mk A490
                        clear A490
                        replace H := Option.bind_eq_some_iff.mp H
                        obtain ⟨⟨t602, t603⟩, A500, H⟩ := H
                        replace H : ((laws_eqTokenS.f kj29 t602 t577).bind fun t606 => (if t606 = true then (laws_FnExactProgRun.j2 kj29 t597 t596 (t603 != t578)) else (laws_FnExactProgRun.j2 kj29 t597 t596 true))) = some r := H
                        have A50 := Aside0.mk A500
                        clear A500
                        have HC51 := Aside0.mk H
                        clear H
                        obtain ⟨Ao52, co52, eo52⟩ := Kd.R_slice HO_9.out
                        subst eo52
                        go_upto_region 27 with (first | ((with_reducible refine gate_callee (f := 43) rfl ?_); refine goesL_ (some 71) rfl rfl Try.func43 (by kernel_rfl) rfl #[.slice Ao52 t584.length co52, .int .i64 1] rfl (by (try simp only [List.map_toArray, List.map_cons, List.map_nil]); first | done | rfl | (simp only [List.length_drop, List.length_take]; rfl)) ?_; (with_reducible refine (laws_markTokenS.calls kj29 (fun k_ => some k_ = (.slice Ao52 t584.length co52 : Value).ownBlock) (.slice Ao52 t584.length co52) t584 1 t596 t597 w _ ?side1 ?side2 A45.out).mono ?_); (case side1 => repeat (first | (with_reducible first | exact HB.out | apply below_alloc | apply pw_below_drewN | apply below_drew1) | exact HB.out)); (case side2 => exact Kd.R_tight rfl HO_9.out); rintro e w53 ⟨rfl, hy0, hb, hkp⟩; refine ⟨_, rfl, ?_⟩; have n0_ := Aside0.mk (Kd.R_mono (ok' := fun k_ => some k_ ≠ (.slice Ao52 t584.length co52 : Value).ownBlock) (Kd.R_keptB (HO_6.out) hkp (fun k_ hk_ hs_ => (hk_) hs_)) (fun k_ hk_ => hk_.1)); have n1_ := Aside0.mk (Kd.R_reok rfl hy0 (fun k_ e_ => HO_9.out.1 k_ e_)); have n2_ := Aside0.mk (hb); clear HO_6; clear HO_9; clear HB; have HO_6 := n0_; have HO_9 := n1_; have HB := n2_; clear n0_ n1_ n2_; (try clear hb); (try clear hkp); (try clear hy0)) | ((with_reducible refine gate_callee (f := 44) rfl ?_); refine goesL_ (some 74) rfl rfl Try.func44 (by kernel_rfl) rfl #[.slice Ao52 t597.length co52, .int .i64 1] rfl (by (try simp only [List.map_toArray, List.map_cons, List.map_nil]); first | done | (rw [show t597.length = t584.length from (Kd.R_reads' HO_9.out).1.symm] <;> rfl) | rfl | (simp only [List.length_drop, List.length_take]; rfl)) ?_; (with_reducible refine (laws_heldTokenS.calls kj29 _ _ t597 1 t598 _ ?side1 ?side2 A46.out).mono ?_); (case side1 => repeat (first | exact (Kd.R_reads' HO_9.out).2.2 | (with_reducible refine Kd.C_alloc ?_ _) | (with_reducible refine Kd.C_drewN ?_ _) | (with_reducible refine Kd.C_drew ?_))); (case side2 => rw [show t597.length = t584.length from (Kd.R_reads' HO_9.out).1.symm]; exact (Kd.R_reads' HO_9.out).2.1); rintro e w' ⟨rfl, ⟨nd, rfl⟩⟩; refine ⟨_, rfl, ?_⟩) | ((with_reducible refine gate_callee (f := 23) rfl ?_); refine goesL_ (some 82) rfl rfl Try.func23 (by kernel_rfl) rfl #[.slice A0 l0.length c0] rfl (by (try simp only [List.map_toArray, List.map_cons, List.map_nil]); first | done | rfl | (simp only [List.length_drop, List.length_take]; rfl)) ?_; (with_reducible refine (laws_toInsS.calls kj29 _ _ l0 t599 _ ?side1 ?side2 A49.out).mono ?_); (case side1 => repeat (first | exact (Kd.C_below HR0.out (by repeat (first | (with_reducible first | exact HB.out | apply below_alloc | apply pw_below_drewN | apply below_drew1) | exact HB.out))) | (with_reducible refine Kd.C_alloc ?_ _) | (with_reducible refine Kd.C_drewN ?_ _) | (with_reducible refine Kd.C_drew ?_))); (case side2 => exact HC0.out); rintro e w54 ⟨v600, rfl, ho0, hb⟩; refine ⟨_, rfl, ?_⟩; have n0_ := Aside0.mk (Kd.R_below (by (with_reducible repeat (first | apply Kd.R_alloc | apply Kd.R_drewN | apply Kd.R_drew)); exact HO_6.out) hb); have n1_ := Aside0.mk (Kd.R_below (by (with_reducible repeat (first | apply Kd.R_alloc | apply Kd.R_drewN | apply Kd.R_drew)); exact HO_9.out) hb); have n2_ := Aside0.mk (Kd.R_lower ho0 (below_size (by repeat (first | (with_reducible first | exact HB.out | apply below_alloc | apply pw_below_drewN | apply below_drew1) | exact HB.out)))); have n3_ := Aside0.mk (below_step (by repeat (first | (with_reducible first | exact HB.out | apply below_alloc | apply pw_below_drewN | apply below_drew1) | exact HB.out)) hb); clear HO_6; clear HO_9; clear HB; have HO_6 := n0_; have HO_9 := n1_; have HO601 := n2_; have HB := n3_; clear n0_ n1_ n2_ n3_; (try clear hb); (try clear hb2); (try clear hk); (try clear hi); (try clear ho0); obtain ⟨Ao55, co55, eo55⟩ := Kd.R_slice HO601.out; subst eo55) | ((with_reducible refine gate_callee (f := 41) rfl ?_); refine goesL_ (some 84) rfl rfl Try.func41 (by kernel_rfl) rfl #[.slice Ao55 t599.length co55, .string a1] rfl (by (try simp only [List.map_toArray, List.map_cons, List.map_nil]); first | done | rfl | (simp only [List.length_drop, List.length_take]; rfl)) ?_; (with_reducible refine (impl_ProgRun.calls kj29 _ _ t599 a1 t602 t603 _ ?side1 ?side2 A50.out).mono ?_); (case side1 => repeat (first | exact (Kd.R_reads' HO601.out).2.2 | (with_reducible refine Kd.C_alloc ?_ _) | (with_reducible refine Kd.C_drewN ?_ _) | (with_reducible refine Kd.C_drew ?_))); (case side2 => exact (Kd.R_reads' HO601.out).2.1); rintro e w56 ⟨v604, rfl, ho0, hb⟩; refine ⟨_, rfl, ?_⟩; have n0_ := Aside0.mk (Kd.R_elder' (by (with_reducible repeat (first | apply Kd.R_alloc | apply Kd.R_drewN | apply Kd.R_drew)); exact HO_6.out) (Kd.R_base ho0) hb); have n1_ := Aside0.mk (Kd.R_elder' (by (with_reducible repeat (first | apply Kd.R_alloc | apply Kd.R_drewN | apply Kd.R_drew)); exact HO_9.out) (Kd.R_base ho0) hb); have n2_ := Aside0.mk (Kd.R_below (by (with_reducible repeat (first | apply Kd.R_alloc | apply Kd.R_drewN | apply Kd.R_drew)); exact HO601.out) hb); have n3_ := Aside0.mk (Kd.R_lower (Kd.R_new' (Kd.R_new' ho0 (Kd.R_lt (by (with_reducible repeat (first | apply Kd.R_alloc | apply Kd.R_drewN | apply Kd.R_drew)); exact HO_6.out))) (Kd.R_lt (by (with_reducible repeat (first | apply Kd.R_alloc | apply Kd.R_drewN | apply Kd.R_drew)); exact HO_9.out))) (below_size (by repeat (first | (with_reducible first | exact HB.out | apply below_alloc | apply pw_below_drewN | apply below_drew1) | exact HB.out)))); have n4_ := Aside0.mk (below_step (by repeat (first | (with_reducible first | exact HB.out | apply below_alloc | apply pw_below_drewN | apply below_drew1) | exact HB.out)) hb); clear HO_6; clear HO_9; clear HO601; clear HB; have HO_6 := n0_; have HO_9 := n1_; have HO601 := n2_; have HO605 := n3_; have HB := n4_; clear n0_ n1_ n2_ n3_ n4_; (try clear hb); (try clear hb2); (try clear hk); (try clear hi); (try clear ho0)))
                        (try simp only [Act.put, List.setIfInBounds_toArray, List.set_cons_zero, List.set_cons_succ])
                        go_cut [95] (fun v95 wc => ∃ (kq : Nat) (x95_50 : Bool), v95 = .bool x95_50 ∧ Aside0 (laws_FnExactProgRun.j2 kq t597 t596 x95_50 = some r) ∧ Aside0 (kq ≤ kj29) ∧ Aside0 (Kd.R k71 71 wc w.heap.size (fun _ => True) (.slice Ao52 t584.length co52) t597) ∧ Aside0 (Below w.heap.size w wc))
                        case first =>
                          have H := HC51.out
                          clear HC51
                          replace H := Option.bind_eq_some_iff.mp H
                          obtain ⟨t606, A570, H⟩ := H
                          replace H : (if t606 = true then (laws_FnExactProgRun.j2 kj29 t597 t596 (t603 != t578)) else (laws_FnExactProgRun.j2 kj29 t597 t596 true)) = some r := H
                          have A57 := Aside0.mk A570
                          clear A570
                          by_cases c58 : t606 = true
                          · subst c58
                            have H1 : (laws_FnExactProgRun.j2 kj29 t597 t596 (t603 != t578)) = some r := by rw [if_pos rfl] at H; exact H
                            clear H
                            have H := H1
                            clear H1
                            have H' := Aside0.mk H
                            clear H
                            obtain ⟨Ao59, co59, eo59⟩ := Kd.R_slice HO605.out
                            subst eo59
                            obtain ⟨Ao60, co60, eo60⟩ := Kd.R_slice HO_6.out
                            subst eo60
                            go_wp2_with (first | ((with_reducible refine gate_callee (f := 20) rfl ?_); refine goesL_ (some 89) rfl rfl Try.func20 (by kernel_rfl) rfl #[.slice Ao59 t602.length co59, .slice Ao60 t577.length co60] rfl (by (try simp only [List.map_toArray, List.map_cons, List.map_nil]); first | done | rfl | (simp only [List.length_drop, List.length_take]; rfl)) ?_; (with_reducible refine (laws_eqTokenS.calls kj29 _ _ t602 _ _ t577 true _ ?side1 ?side2 ?side3 ?side4 A57.out).mono ?_); (case side1 => repeat (first | exact (Kd.R_reads' HO605.out).2.2 | (with_reducible refine Kd.C_alloc ?_ _) | (with_reducible refine Kd.C_drewN ?_ _) | (with_reducible refine Kd.C_drew ?_))); (case side2 => exact (Kd.R_reads' HO605.out).2.1); (case side3 => repeat (first | exact (Kd.R_reads' HO_6.out).2.2 | (with_reducible refine Kd.C_alloc ?_ _) | (with_reducible refine Kd.C_drewN ?_ _) | (with_reducible refine Kd.C_drew ?_))); (case side4 => exact (Kd.R_reads' HO_6.out).2.1); rintro e w61 ⟨rfl, hb⟩; refine ⟨_, rfl, ?_⟩; have n0_ := Aside0.mk (Kd.R_below (by (with_reducible repeat (first | apply Kd.R_alloc | apply Kd.R_drewN | apply Kd.R_drew)); exact HO_6.out) hb); have n1_ := Aside0.mk (Kd.R_below (by (with_reducible repeat (first | apply Kd.R_alloc | apply Kd.R_drewN | apply Kd.R_drew)); exact HO_9.out) hb); have n2_ := Aside0.mk (Kd.R_below (by (with_reducible repeat (first | apply Kd.R_alloc | apply Kd.R_drewN | apply Kd.R_drew)); exact HO601.out) hb); have n3_ := Aside0.mk (Kd.R_below (by (with_reducible repeat (first | apply Kd.R_alloc | apply Kd.R_drewN | apply Kd.R_drew)); exact HO605.out) hb); have n4_ := Aside0.mk (below_step (by repeat (first | (with_reducible first | exact HB.out | apply below_alloc | apply pw_below_drewN | apply below_drew1) | exact HB.out)) hb); clear HO_6; clear HO_9; clear HO601; clear HO605; clear HB; have HO_6 := n0_; have HO_9 := n1_; have HO601 := n2_; have HO605 := n3_; have HB := n4_; clear n0_ n1_ n2_ n3_ n4_; (try clear hb); (try clear hb2); (try clear hk); (try clear hi)))
                            go_meet
                            case rel => exact ⟨_, ((t603 != t578)), (by first | rfl | (simp; done) | (simp [*]; done)), H', ⟨by have := HJ9.out; have := HJ29.out; first | omega | exact Nat.le_refl _⟩, ⟨by (with_reducible repeat (first | apply Kd.R_alloc | apply Kd.R_drewN | apply Kd.R_drew)); exact Kd.R_mono HO_9.out (fun _ hk => trivial)⟩, ⟨by repeat (first | (with_reducible first | exact HB.out | apply below_alloc | apply pw_below_drewN | apply below_drew1) | exact HB.out)⟩⟩
                          · replace c58 := Bool.eq_false_iff.mpr c58
                            subst c58
                            have H1 : (laws_FnExactProgRun.j2 kj29 t597 t596 true) = some r := by rw [if_neg (show ¬ (false = true) by decide)] at H; exact H
                            clear H
                            have H := H1
                            clear H1
                            have H' := Aside0.mk H
                            clear H
                            obtain ⟨Ao62, co62, eo62⟩ := Kd.R_slice HO605.out
                            subst eo62
                            obtain ⟨Ao63, co63, eo63⟩ := Kd.R_slice HO_6.out
                            subst eo63
                            go_wp2_with (first | ((with_reducible refine gate_callee (f := 20) rfl ?_); refine goesL_ (some 89) rfl rfl Try.func20 (by kernel_rfl) rfl #[.slice Ao62 t602.length co62, .slice Ao63 t577.length co63] rfl (by (try simp only [List.map_toArray, List.map_cons, List.map_nil]); first | done | rfl | (simp only [List.length_drop, List.length_take]; rfl)) ?_; (with_reducible refine (laws_eqTokenS.calls kj29 _ _ t602 _ _ t577 false _ ?side1 ?side2 ?side3 ?side4 A57.out).mono ?_); (case side1 => repeat (first | exact (Kd.R_reads' HO605.out).2.2 | (with_reducible refine Kd.C_alloc ?_ _) | (with_reducible refine Kd.C_drewN ?_ _) | (with_reducible refine Kd.C_drew ?_))); (case side2 => exact (Kd.R_reads' HO605.out).2.1); (case side3 => repeat (first | exact (Kd.R_reads' HO_6.out).2.2 | (with_reducible refine Kd.C_alloc ?_ _) | (with_reducible refine Kd.C_drewN ?_ _) | (with_reducible refine Kd.C_drew ?_))); (case side4 => exact (Kd.R_reads' HO_6.out).2.1); rintro e w64 ⟨rfl, hb⟩; refine ⟨_, rfl, ?_⟩; have n0_ := Aside0.mk (Kd.R_below (by (with_reducible repeat (first | apply Kd.R_alloc | apply Kd.R_drewN | apply Kd.R_drew)); exact HO_6.out) hb); have n1_ := Aside0.mk (Kd.R_below (by (with_reducible repeat (first | apply Kd.R_alloc | apply Kd.R_drewN | apply Kd.R_drew)); exact HO_9.out) hb); have n2_ := Aside0.mk (Kd.R_below (by (with_reducible repeat (first | apply Kd.R_alloc | apply Kd.R_drewN | apply Kd.R_drew)); exact HO601.out) hb); have n3_ := Aside0.mk (Kd.R_below (by (with_reducible repeat (first | apply Kd.R_alloc | apply Kd.R_drewN | apply Kd.R_drew)); exact HO605.out) hb); have n4_ := Aside0.mk (below_step (by repeat (first | (with_reducible first | exact HB.out | apply below_alloc | apply pw_below_drewN | apply below_drew1) | exact HB.out)) hb); clear HO_6; clear HO_9; clear HO601; clear HO605; clear HB; have HO_6 := n0_; have HO_9 := n1_; have HO601 := n2_; have HO605 := n3_; have HB := n4_; clear n0_ n1_ n2_ n3_ n4_; (try clear hb); (try clear hb2); (try clear hk); (try clear hi)))
                            go_meet
                            case rel => exact ⟨_, (true), (by first | rfl | (simp; done) | (simp [*]; done)), H', ⟨by have := HJ9.out; have := HJ29.out; first | omega | exact Nat.le_refl _⟩, ⟨by (with_reducible repeat (first | apply Kd.R_alloc | apply Kd.R_drewN | apply Kd.R_drew)); exact Kd.R_mono HO_9.out (fun _ hk => trivial)⟩, ⟨by repeat (first | (with_reducible first | exact HB.out | apply below_alloc | apply pw_below_drewN | apply below_drew1) | exact HB.out)⟩⟩
                        case rest =>
                          clear HC51
                          try clear c1
                          try clear c2
                          try clear p2
                          try clear c3
                          try clear c3b0
                          try clear c3b1
                          try clear c4
                          try clear c5
                          try clear c5b0
                          try clear c10
                          try clear c18
                          try clear c20
                          try clear c21
                          try clear c23
                          try clear c25
                          try clear c28
                          try clear c35
                          try clear c35b0
                          try clear c37
                          try clear c40
                          try clear c41
                          try clear c42
                          try clear c43
                          try clear c44
                          try clear c47
                          try clear c47b0
                          try clear c48
                          try clear c48b0
                          try clear c48b1
                          try clear c58
                          try clear p2
                          obtain ⟨kq, x95_50, rfl, HA, HJ50, HO_9, HB⟩ := hcut
                          have hl9_50 := (Kd.R_reads' HO_9.out).1
                          rw [hl9_50] at HO_9
                          (try simp only [hl9_50])
                          cases kq with
                          | zero => exact absurd HA.out (by simp [laws_FnExactProgRun.j2])
                          | succ kj50 =>
                            have H := HA.out
                            clear HA
                            simp only [laws_FnExactProgRun.j2] at H
                            by_cases c65 : x95_50 = true
                            · subst c65
                              have H1 : (some false) = some r := by rw [if_pos rfl] at H; exact H
                              clear H
                              have H := H1
                              clear H1
                              exact absurd ((Option.some.inj H).trans HT.out) (by decide)
                            · replace c65 := Bool.eq_false_iff.mpr c65
                              subst c65
                              have H1 : ((laws_heldTokenS.f kj50 t597 1).bind fun t607 => (if t607 < 0 then (some false) else (if t607 = t596 then (some true) else (some false)))) = some r := by rw [if_neg (show ¬ (false = true) by decide)] at H; exact H
                              clear H
                              have H := H1
                              clear H1
                              replace H := Option.bind_eq_some_iff.mp H
                              obtain ⟨t607, A660, H⟩ := H
                              replace H : (if t607 < 0 then (some false) else (if t607 = t596 then (some true) else (some false))) = some r := H
                              have A66 := Aside0.mk A660
                              clear A660
                              by_cases c67 : t607 < 0
                              · rw [if_pos c67] at H
                                have c67b0 : decide (t607 < 0) = true := decide_eq_true c67
                                clear c67
                                exact absurd ((Option.some.inj H).trans HT.out) (by decide)
                              · rw [if_neg c67] at H
                                have c67b0 : decide (t607 < 0) = false := decide_eq_false c67
                                clear c67
                                by_cases c68 : t607 = t596
                                · rw [if_pos c68] at H
                                  have c68b0 : (t607 == t596) = true := beq_iff_eq.mpr c68
                                  have c68b1 : (t607 != t596) = false := bne_eq_false_iff_eq.mpr c68
                                  clear c68
                                  obtain rfl := Option.some.inj H
                                  go_wp2_with (first | ((with_reducible refine gate_callee (f := 44) rfl ?_); refine goesL_ (some 98) rfl rfl Try.func44 (by kernel_rfl) rfl #[.slice Ao52 t597.length co52, .int .i64 1] rfl (by (try simp only [List.map_toArray, List.map_cons, List.map_nil]); first | done | rfl | (simp only [List.length_drop, List.length_take]; rfl)) ?_; (with_reducible refine (laws_heldTokenS.calls kj50 _ _ t597 1 t607 _ ?side1 ?side2 A66.out).mono ?_); (case side1 => repeat (first | exact (Kd.R_reads' HO_9.out).2.2 | (with_reducible refine Kd.C_alloc ?_ _) | (with_reducible refine Kd.C_drewN ?_ _) | (with_reducible refine Kd.C_drew ?_))); (case side2 => exact (Kd.R_reads' HO_9.out).2.1); rintro e w' ⟨rfl, ⟨nd, rfl⟩⟩; refine ⟨_, rfl, ?_⟩))
                                  go_ret
                                  exact ⟨by first | rfl | (simp [errW_none, errW_some] <;> rfl) | (simp [*, errW_none, errW_some] <;> rfl), by repeat (first | (with_reducible first | exact HB.out | apply below_alloc | apply pw_below_drewN | apply below_drew1) | exact HB.out)⟩
                                · rw [if_neg c68] at H
                                  have c68b0 : (t607 == t596) = false := beq_eq_false_iff_ne.mpr c68
                                  have c68b1 : (t607 != t596) = true := bne_iff_ne.mpr c68
                                  exact absurd ((Option.some.inj H).trans HT.out) (by decide)
                      · rw [if_neg c48] at H
                        have c48b0 : (t598 == t596) = false := beq_eq_false_iff_ne.mpr c48
                        have c48b1 : (t598 != t596) = true := bne_iff_ne.mpr c48
                        exact absurd ((Option.some.inj H).trans HT.out) (by decide)
            · replace c28 := Bool.eq_false_iff.mpr c28
              subst c28
              have H1 : (some false) = some r := by rw [if_neg (show ¬ (false = true) by decide)] at H; exact H
              clear H
              have H := H1
              clear H1
              exact absurd ((Option.some.inj H).trans HT.out) (by decide)

end Go.Proofs.Ytljaoggbfoimfaa.P

/- What the arguments of FnExactProgRun are read as, and the plain statement that is left of it. -/
set_option linter.unusedVariables false
set_option linter.unusedSimpArgs false
namespace Go.Proofs.Ytljaoggbfoimfaa.Pure
open Go.RowKit Go.Proofs.Ytljaoggbfoimfaa.P Go.Proofs.YtljaoggbfoimfaaW.PrintWords Go.Proofs.YtljaoggbfoimfaaW.PrintLast Go.Proofs.Ytljaoggbfoimfaa.Rd
namespace FnExactProgRun
def B78 (x : S78) : Prop := ((Lit.int .i64 x.f0).wf = true) ∧ ((Lit.int .i64 x.f1).wf = true) ∧ ((Lit.int .i64 x.f2).wf = true) ∧ ((Lit.int .i64 x.f3).wf = true)
theorem rd78 (n : Nat) : Rd Try.prog n 78 k78 B78 :=
  ((Rd.iso (d := (Kd.pair (Kd.int .i64) (Kd.pair (Kd.int .i64) (Kd.pair (Kd.int .i64) (Kd.int .i64))))) (Rd.struct Try.underlying78 rfl (by kernel_rfl) (Fs.cons (Rd.int _ Try.underlying3) rfl (by kernel_rfl) (Fs.cons (Rd.int _ Try.underlying3) rfl (by kernel_rfl) (Fs.cons (Rd.int _ Try.underlying3) rfl (by kernel_rfl) (Fs.one (Rd.int _ Try.underlying3) rfl (by kernel_rfl)))))) (fun x : S78 => (x.f0, x.f1, x.f2, x.f3)) (fun p => ⟨p.1, p.2.1, p.2.2.1, p.2.2.2⟩) (fun _ => rfl)).le (Nat.le_succ n)).imp (fun _ hx => hx)
def Said : Prop := ∀ (l0 : (List S78)) (a1 : ByteArray), (l0.length * 32 ≤ reachBytes ∧ ∀ y2 ∈ l0, B78 y2) → a1.size ≤ reachBytes → ∃ k, laws_FnExactProgRun.f k l0 a1 = some true
end FnExactProgRun
end Go.Proofs.Ytljaoggbfoimfaa.Pure

/- Plain lemmas on functions with rounds: what a loop over a list comes to. Conditions: stated at each. -/
set_option linter.unusedVariables false
set_option linter.unusedSimpArgs false
namespace Go.Proofs.Ytljaoggbfoimfaa.P
open Go.Proofs.YtljaoggbfoimfaaW.PrintWords Go.RowKit

/-- Is it so, as a Bool. -/
noncomputable def yes (p : Prop) : Bool := @decide p (Classical.propDecidable p)
theorem yes_pos {p : Prop} (h : p) : yes p = true := by unfold yes; exact @decide_eq_true p (Classical.propDecidable p) h
theorem yes_neg {p : Prop} (h : ¬ p) : yes p = false := by unfold yes; exact @decide_eq_false p (Classical.propDecidable p) h
theorem yes_iff {p : Prop} : yes p = true ↔ p := by
  constructor
  · intro h
    by_cases hp : p
    · exact hp
    · rw [yes_neg hp] at h; cases h
  · exact yes_pos
theorem yes_congr {p q : Prop} (h : p ↔ q) : yes p = yes q := by rw [propext h]
theorem yes_bool (b : Bool) : yes (b = true) = b := by
  cases b
  · exact yes_neg (by simp)
  · exact yes_pos rfl
theorem yes_decide (p : Prop) [Decidable p] : decide p = yes p := by
  by_cases h : p
  · rw [yes_pos h, decide_eq_true h]
  · rw [yes_neg h, decide_eq_false h]

end Go.Proofs.Ytljaoggbfoimfaa.P
namespace Go.Proofs.YtljaoggbfoimfaaW.PrintWords
theorem Ev.succ {α : Type} {g : Nat → Option α} {r : α} (h : Ev (fun k => g (k + 1)) r) : Ev g r := by
  obtain ⟨K, hK⟩ := h
  refine ⟨K + 1, fun k hk => ?_⟩
  obtain ⟨m, rfl⟩ : ∃ m, k = m + 1 := ⟨k - 1, by omega⟩
  exact hK m (by omega)
theorem Ev.late {α : Type} {g f : Nat → Option α} {r : α} (h : ∃ K, ∀ k, K ≤ k → g (k + 1) = f k) (k : Ev f r) : Ev g r := by
  obtain ⟨K, hK⟩ := h
  obtain ⟨K', hK'⟩ := k
  refine ⟨max K K' + 1, fun k hk => ?_⟩
  obtain ⟨m, rfl⟩ : ∃ m, k = m + 1 := ⟨k - 1, by omega⟩
  rw [hK m (by omega), hK' m (by omega)]
theorem Ev.eqs {α : Type} {g : Nat → Option α} {r q : α} (h : Ev g r) (e : r = q) : Ev g q := e ▸ h
theorem Ev.ofEq {α : Type} {g : Nat → Option α} {r : α} (h : ∀ k, g k = some r) : Ev g r := ⟨0, fun k _ => h k⟩
theorem Ev.ofSucc {α : Type} {g : Nat → Option α} {r : α} (h : ∀ k, g (k + 1) = some r) : Ev g r := Ev.succ (Ev.ofEq h)
theorem Ev.one {α : Type} {g : Nat → Option α} {r q : α} (h : Ev g r) (k : Ev g q) : r = q := by
  obtain ⟨K, hK⟩ := h
  obtain ⟨K', hK'⟩ := k
  have h1 := hK (max K K') (by omega)
  rw [hK' _ (by omega)] at h1
  exact (Option.some.inj h1).symm
theorem Ev.eqn {α : Type} {g : Nat → Option α} {r : α} (h : Ev g r) : ∃ K, ∀ k, K ≤ k → g k = some r := h
/-- Ev as rewriting below a bind: what stands first is told. -/
theorem Ev.first {α β : Type} {g : Nat → Option α} {f : Nat → α → Option β} {a : α} {r : β} (h : Ev g a) (k : Ev (fun n => f n a) r) : Ev (fun n => (g n).bind (f n)) r := Ev.bind h k

end Go.Proofs.YtljaoggbfoimfaaW.PrintWords
namespace Go.Proofs.Ytljaoggbfoimfaa.P
open Go.Proofs.YtljaoggbfoimfaaW.PrintWords Go.RowKit
theorem wrap_nat {i : Nat} (h : i < 9000000000000000000) : wrap64 ((i : Int) + 1) = ((i + 1 : Nat) : Int) := by unfold wrap64; omega
theorem wrap_id {i : Int} (h0 : -9000000000000000000 ≤ i) (h : i < 9000000000000000000) : wrap64 i = i := by unfold wrap64; omega

/-- Two lists held against one another, place by place. -/
theorem all2_ev {α : Type} (L : Nat → Int → Option Bool) (xs ys : List α) (hl : xs.length = ys.length)
    (hend : ∀ k, L (k + 1) (xs.length : Int) = some true)
    (hstep : ∀ (i : Nat) (h : i < xs.length) (h' : i < ys.length), ∃ K, ∀ k, K ≤ k → (xs[i] = ys[i] → L (k + 1) (i : Int) = L k ((i + 1 : Nat) : Int)) ∧ (xs[i] ≠ ys[i] → L (k + 1) (i : Int) = some false)) :
    Ev (fun k => L k 0) (yes (xs = ys)) := by
  have key : ∀ d i : Nat, i + d = xs.length → Ev (fun k => L k (i : Int)) (yes (xs.drop i = ys.drop i)) := by
    intro d
    induction d with
    | zero =>
      intro i hi
      have h0 : i = xs.length := by omega
      subst h0
      rw [yes_pos (by rw [List.drop_of_length_le (Nat.le_refl _), List.drop_of_length_le (by omega)])]
      exact Ev.ofSucc (g := fun k => L k (xs.length : Int)) hend
    | succ d ih =>
      intro i hi
      have h1 : i < xs.length := by omega
      have h2 : i < ys.length := by omega
      obtain ⟨K, hK⟩ := hstep i h1 h2
      rw [List.drop_eq_getElem_cons h1, List.drop_eq_getElem_cons h2]
      by_cases he : xs[i] = ys[i]
      · refine (Ev.late (g := fun k => L k (i : Int)) ⟨K, fun k hk => (hK k hk).1 he⟩ (ih (i + 1) (by omega))).eqs (yes_congr ?_)
        rw [List.cons_eq_cons]
        exact ⟨fun h => ⟨he, h⟩, fun h => h.2⟩
      · refine (Ev.late (g := fun k => L k (i : Int)) (f := fun _ => some false) ⟨K, fun k hk => (hK k hk).2 he⟩ (Ev.now false)).eqs (yes_neg ?_).symm
        rw [List.cons_eq_cons]
        exact fun h => he h.1
  exact (key xs.length 0 (by omega)).eqs (by simp)

/-- A list that is filled place by place. -/
theorem fill_ev {α β : Type} (L : Nat → List β → Int → Option (List β)) (xs : List α) (f : α → β)
    (hend : ∀ k r, r.length = xs.length → L (k + 1) r (xs.length : Int) = some r)
    (hstep : ∀ (i : Nat) (h : i < xs.length), ∃ K, ∀ k r, K ≤ k → r.length = xs.length → L (k + 1) r (i : Int) = L k (r.set i (f xs[i])) ((i + 1 : Nat) : Int))
    (r0 : List β) (h0 : r0.length = xs.length) : Ev (fun k => L k r0 0) (xs.map f) := by
  have key : ∀ d i : Nat, i + d = xs.length → ∀ r : List β, r.length = xs.length → (∀ j (h : j < xs.length), j < i → r[j]? = some (f xs[j])) → Ev (fun k => L k r (i : Int)) (xs.map f) := by
    intro d
    induction d with
    | zero =>
      intro i hi r hr hj
      have h0 : i = xs.length := by omega
      subst h0
      refine (Ev.ofSucc (g := fun k => L k r (xs.length : Int)) (fun k => hend k r hr)).eqs ?_
      apply List.ext_getElem?
      intro j
      rcases Nat.lt_or_ge j xs.length with h | h
      · rw [hj j h h]; simp [List.getElem?_eq_getElem h]
      · rw [List.getElem?_eq_none (by omega), List.getElem?_eq_none (by simpa using h)]
    | succ d ih =>
      intro i hi r hr hj
      have h1 : i < xs.length := by omega
      obtain ⟨K, hK⟩ := hstep i h1
      refine Ev.late (g := fun k => L k r (i : Int)) ⟨K, fun k hk => hK k r hk hr⟩ (ih (i + 1) (by omega) _ (by simpa using hr) (fun j h hlt => ?_))
      rcases Nat.lt_or_ge j i with h2 | h2
      · rw [List.getElem?_set_ne (by omega)]; exact hj j h h2
      · have : j = i := by omega
        subst this
        rw [List.getElem?_set_self (by omega)]
  exact key xs.length 0 (by omega) r0 h0 (fun j _ h => by omega)

/-- A loop that goes over a list's places with a state. -/
theorem over_ev {α σ β : Type} (L : Nat → σ → Int → Option β) (xs : List α) (step : Nat → σ → α → σ) (fin : σ → β)
    (hend : ∀ s, Ev (fun k => L k s (xs.length : Int)) (fin s))
    (hstep : ∀ (i : Nat) (h : i < xs.length) (s : σ), ∃ K, ∀ k, K ≤ k → L (k + 1) s (i : Int) = L k (step i s xs[i]) ((i + 1 : Nat) : Int))
    (s : σ) : ∃ r, Ev (fun k => L k s 0) r := by
  have key : ∀ d i : Nat, i + d = xs.length → ∀ s, ∃ r, Ev (fun k => L k s (i : Int)) r := by
    intro d
    induction d with
    | zero =>
      intro i hi s
      have h0 : i = xs.length := by omega
      subst h0
      exact ⟨_, hend s⟩
    | succ d ih =>
      intro i hi s
      have h1 : i < xs.length := by omega
      obtain ⟨r, hr⟩ := ih (i + 1) (by omega) (step i s xs[i])
      exact ⟨r, Ev.late (g := fun k => L k s (i : Int)) (hstep i h1 s) hr⟩
  exact key xs.length 0 (by omega) s
/-- A loop that asks every place. -/
theorem all_ev (L : Nat → Int → Option Bool) (n : Nat) (Q : Nat → Prop) (hend : ∀ k, L (k + 1) (n : Int) = some true)
    (hstep : ∀ (i : Nat), i < n → ∃ K, ∀ k, K ≤ k → (Q i → L (k + 1) (i : Int) = L k ((i + 1 : Nat) : Int)) ∧ (¬ Q i → L (k + 1) (i : Int) = some false)) :
    Ev (fun k => L k 0) (yes (∀ i, i < n → Q i)) := by
  have key : ∀ d i : Nat, i + d = n → Ev (fun k => L k (i : Int)) (yes (∀ j, i ≤ j → j < n → Q j)) := by
    intro d
    induction d with
    | zero =>
      intro i hi
      have h0 : i = n := by omega
      subst h0
      rw [yes_pos (fun j h1 h2 => by omega)]
      exact Ev.ofSucc (g := fun k => L k (i : Int)) hend
    | succ d ih =>
      intro i hi
      have h1 : i < n := by omega
      obtain ⟨K, hK⟩ := hstep i h1
      by_cases he : Q i
      · refine (Ev.late (g := fun k => L k (i : Int)) ⟨K, fun k hk => (hK k hk).1 he⟩ (ih (i + 1) (by omega))).eqs (yes_congr ?_)
        constructor
        · intro h j hj hn
          rcases Nat.lt_or_ge i j with h2 | h2
          · exact h j (by omega) hn
          · have : j = i := by omega
            subst this; exact he
        · exact fun h j hj hn => h j (by omega) hn
      · refine (Ev.late (g := fun k => L k (i : Int)) (f := fun _ => some false) ⟨K, fun k hk => (hK k hk).2 he⟩ (Ev.now false)).eqs (yes_neg fun h => he (h i (Nat.le_refl _) h1)).symm
  exact (key n 0 (by omega)).eqs (yes_congr ⟨fun h i hi => h i (Nat.zero_le _) hi, fun h j _ hj => h j hj⟩)
theorem bytes_len (s : ByteArray) : s.data.toList.length = s.size := by
  rw [Array.length_toList]; rfl
theorem bytes_loop (s : ByteArray) : ∀ (d i : Nat) (r : List UInt8), i + d = s.size → ByteArray.toList.loop s i r = r.reverse ++ s.data.toList.drop i := by
  intro d
  induction d with
  | zero =>
    intro i r h
    unfold ByteArray.toList.loop
    rw [if_neg (by omega), List.drop_of_length_le (by rw [bytes_len]; omega), List.append_nil]
  | succ d ih =>
    intro i r h
    unfold ByteArray.toList.loop
    have hi : i < s.size := by omega
    have hi' : i < s.data.toList.length := by rw [bytes_len]; exact hi
    rw [if_pos hi, ih (i + 1) _ (by omega), List.drop_eq_getElem_cons hi']
    have : s.get! i = s.data.toList[i] := by
      have hd : i < s.data.size := hi
      show s.data[i]! = _
      rw [getElem!_pos s.data i hd, Array.getElem_toList]
    rw [this, List.reverse_cons, List.append_assoc, List.singleton_append]
theorem bytes_data (s : ByteArray) : s.toList = s.data.toList := by
  unfold ByteArray.toList
  rw [bytes_loop s s.size 0 [] (by omega)]
  rfl
theorem bytes_same {a b : ByteArray} : a.toList = b.toList ↔ a = b := by
  rw [bytes_data, bytes_data]
  constructor
  · intro h
    cases a; cases b
    congr 1
    exact Array.toList_inj.1 h
  · intro h; rw [h]
/-- A list that is filled place by place with what is told to exist. -/
theorem fill_ex {α β : Type} (L : Nat → List β → Int → Option (List β)) (xs : List α) (R : α → β → Prop)
    (hend : ∀ k r, r.length = xs.length → L (k + 1) r (xs.length : Int) = some r)
    (hstep : ∀ (i : Nat) (h : i < xs.length), ∃ y, R xs[i] y ∧ ∃ K, ∀ k r, K ≤ k → r.length = xs.length → L (k + 1) r (i : Int) = L k (r.set i y) ((i + 1 : Nat) : Int))
    (r0 : List β) (h0 : r0.length = xs.length) : ∃ ys : List β, ys.length = xs.length ∧ (∀ y ∈ ys, ∃ x ∈ xs, R x y) ∧ Ev (fun k => L k r0 0) ys := by
  have key : ∀ d i : Nat, i + d = xs.length → ∀ r : List β, r.length = xs.length → (∀ j (h : j < xs.length), j < i → ∃ y, r[j]? = some y ∧ R xs[j] y) → ∃ ys : List β, ys.length = xs.length ∧ (∀ y ∈ ys, ∃ x ∈ xs, R x y) ∧ Ev (fun k => L k r (i : Int)) ys := by
    intro d
    induction d with
    | zero =>
      intro i hi r hr hj
      have h0 : i = xs.length := by omega
      subst h0
      refine ⟨r, hr, fun y hy => ?_, Ev.ofSucc (g := fun k => L k r (xs.length : Int)) (fun k => hend k r hr)⟩
      obtain ⟨j, hj'⟩ := List.getElem?_of_mem hy
      have hjl : j < xs.length := by have := (List.getElem?_eq_some_iff.1 hj').1; omega
      obtain ⟨y', e, hR⟩ := hj j hjl hjl
      rw [hj'] at e
      cases e
      exact ⟨xs[j], List.getElem_mem _, hR⟩
    | succ d ih =>
      intro i hi r hr hj
      have h1 : i < xs.length := by omega
      obtain ⟨y, hR, K, hK⟩ := hstep i h1
      obtain ⟨ys, hl, hm, hE⟩ := ih (i + 1) (by omega) (r.set i y) (by simpa using hr) (fun j h hlt => by
        rcases Nat.lt_or_ge j i with h2 | h2
        · rw [List.getElem?_set_ne (by omega)]; exact hj j h h2
        · have : j = i := by omega
          subst this
          exact ⟨y, by rw [List.getElem?_set_self (by omega)], hR⟩)
      exact ⟨ys, hl, hm, Ev.late (g := fun k => L k r (i : Int)) ⟨K, fun k hk => hK k r hk hr⟩ hE⟩
  exact key xs.length 0 (by omega) r0 h0 (fun j _ h => by omega)
/-- A loop with a state, that may end early: it comes to something. -/
theorem walk_ex {σ β : Type} (L : Nat → σ → Int → Option β) (n : Nat) (hend : ∀ s, ∃ r, Ev (fun k => L k s (n : Int)) r)
    (hstep : ∀ (i : Nat), i < n → ∀ s : σ, (∃ r, Ev (fun k => L k s (i : Int)) r) ∨ ∃ s' K, ∀ k, K ≤ k → L (k + 1) s (i : Int) = L k s' ((i + 1 : Nat) : Int))
    (s : σ) : ∃ r, Ev (fun k => L k s 0) r := by
  have key : ∀ d i : Nat, i + d = n → ∀ s, ∃ r, Ev (fun k => L k s (i : Int)) r := by
    intro d
    induction d with
    | zero =>
      intro i hi s
      have h0 : i = n := by omega
      subst h0
      exact hend s
    | succ d ih =>
      intro i hi s
      rcases hstep i (by omega) s with h | ⟨s', hs⟩
      · exact h
      · obtain ⟨r, hr⟩ := ih (i + 1) (by omega) s'
        exact ⟨r, Ev.late (g := fun k => L k s (i : Int)) hs hr⟩
  exact key n 0 (by omega) s
theorem Ev_shift {α : Type} {g : Nat → Option α} {r : α} (h : Ev g r) : Ev (fun k => g (k + 1)) r := by
  obtain ⟨K, hK⟩ := h
  exact ⟨K, fun k hk => hK (k + 1) (by omega)⟩
theorem getD_at {α : Type} {xs : List α} {z : α} {i : Nat} (h : i < xs.length) : xs.getD (i : Int).toNat z = xs[i] := by
  simp [List.getD_eq_getElem?_getD, List.getElem?_eq_getElem h]
/-- A list that is overwritten place by place, whatever it held. -/
theorem mark_ev {β γ : Type} (L : Nat → List β → Int → Option γ) (n : Nat) (f : Nat → β) (fin : List β → γ)
    (hend : ∀ k r, r.length = n → L (k + 1) r (n : Int) = some (fin r))
    (hstep : ∀ (i : Nat), i < n → ∀ k r, r.length = n → L (k + 1) r (i : Int) = L k (r.set i (f i)) ((i + 1 : Nat) : Int))
    (r0 : List β) (h0 : r0.length = n) : Ev (fun k => L k r0 0) (fin ((List.range n).map f)) := by
  have key : ∀ d i : Nat, i + d = n → ∀ r : List β, r.length = n → (∀ j, j < i → r[j]? = some (f j)) → Ev (fun k => L k r (i : Int)) (fin ((List.range n).map f)) := by
    intro d
    induction d with
    | zero =>
      intro i hi r hr hj
      have h0 : i = n := by omega
      subst h0
      refine (Ev.ofSucc (g := fun k => L k r (i : Int)) (fun k => hend k r hr)).eqs ?_
      congr 1
      apply List.ext_getElem?
      intro j
      rcases Nat.lt_or_ge j i with h | h
      · rw [hj j h]; simp [h]
      · rw [List.getElem?_eq_none (by omega), List.getElem?_eq_none (by simpa using h)]
    | succ d ih =>
      intro i hi r hr hj
      refine Ev.late (g := fun k => L k r (i : Int)) ⟨0, fun k _ => hstep i (by omega) k r hr⟩ (ih (i + 1) (by omega) _ (by simpa using hr) (fun j hlt => ?_))
      rcases Nat.lt_or_ge j i with h2 | h2
      · rw [List.getElem?_set_ne (by omega)]; exact hj j h2
      · have : j = i := by omega
        subst this
        rw [List.getElem?_set_self (by omega)]
  exact key n 0 (by omega) r0 h0 (fun j h => by omega)
/-- A loop that goes straight on to its end. -/
theorem run_ev {σ γ : Type} (L : Nat → σ → Int → Option γ) (n : Nat) (s : Nat → σ) (fin : γ)
    (hend : ∀ k, L (k + 1) (s n) (n : Int) = some fin)
    (hstep : ∀ (i : Nat), i < n → ∀ k, L (k + 1) (s i) (i : Int) = L k (s (i + 1)) ((i + 1 : Nat) : Int)) : Ev (fun k => L k (s 0) 0) fin := by
  have key : ∀ d i : Nat, i + d = n → Ev (fun k => L k (s i) (i : Int)) fin := by
    intro d
    induction d with
    | zero =>
      intro i hi
      have h0 : i = n := by omega
      subst h0
      exact Ev.ofSucc (g := fun k => L k (s i) (i : Int)) hend
    | succ d ih =>
      intro i hi
      exact Ev.late (g := fun k => L k (s i) (i : Int)) ⟨0, fun k _ => hstep i (by omega) k⟩ (ih (i + 1) (by omega))
  exact key n 0 (by omega)
theorem getD_set {α : Type} {xs : List α} {z x : α} {i : Nat} (h : i < xs.length) : (xs.set i x).getD (i : Int).toNat z = x := by
  rw [getD_at (by simpa using h)]
  simp
end Go.Proofs.Ytljaoggbfoimfaa.P

/- The functions of the seat as plain Lean functions, and that the program's functions compute them. Conditions: stated at each theorem. -/
namespace Go.Proofs.Ytljaoggbfoimfaa.P
open Go.RowKit Go.Proofs.YtljaoggbfoimfaaW.PrintWords Go.Proofs.YtljaoggbfoimfaaW.PrintLast Go.Proofs.YtljaoggbfoimfaaW.PrintMore
attribute [local go_sem] max2_int min2_int max_two min_two max_three min_three max_four min_four   -- for this text's walks alone
set_option linter.unusedVariables false
set_option linter.unusedSimpArgs false

theorem eqA76 (d : Nat) (w : World) (x0 y0 : Int) (x1 y1 : Int) (x2 y2 : Int) (x3 y3 : Int) :
    (Op.equalIn (d + 2) 76 (.agg #[.int .i64 x0, .int .i64 x1, .int .i64 x2, .int .i64 x3]) (.agg #[.int .i64 y0, .int .i64 y1, .int .i64 y2, .int .i64 y3])).run Try.prog w = .ok (x0 == y0 && (x1 == y1 && (x2 == y2 && (x3 == y3)))) w := by
  refine eqA_of Try.underlying76 (by kernel_rfl) ?_
  refine eqf_cons (by rfl) (by go_simp; rfl) (by go_simp; rfl) (by go_simp) ?_
  refine eqf_cons (by rfl) (by go_simp; rfl) (by go_simp; rfl) (by go_simp) ?_
  refine eqf_cons (by rfl) (by go_simp; rfl) (by go_simp; rfl) (by go_simp) ?_
  exact eqf_last (by rfl) (by go_simp; rfl) (by go_simp; rfl) (by go_simp)
end Go.Proofs.Ytljaoggbfoimfaa.P

/- The functions of the seat as plain Lean functions, and that the program's functions compute them. Conditions: stated at each theorem. -/
namespace Go.Proofs.Ytljaoggbfoimfaa.P
open Go.RowKit Go.Proofs.YtljaoggbfoimfaaW.PrintWords Go.Proofs.YtljaoggbfoimfaaW.PrintLast Go.Proofs.YtljaoggbfoimfaaW.PrintMore
attribute [local go_sem] max2_int min2_int max_two min_two max_three min_three max_four min_four   -- for this text's walks alone
set_option linter.unusedVariables false
set_option linter.unusedSimpArgs false

attribute [local go_sem high] eqA76
/-! ### spec_ProgSame: function 22 -/
def spec_ProgSame.l0 : Nat → List (S76) → List (S76) → Int → Option (Bool)
  | 0, _, _, _ => none
  | k + 1, x0, x1, x5 => if x5 < (x0.length : Int) then (if 0 ≤ x5 then (if x5 < (x1.length : Int) then (if (!(((rd_T76 x0 x5).f0) == ((rd_T76 x1 x5).f0)) || (!(((rd_T76 x0 x5).f1) == ((rd_T76 x1 x5).f1)) || (!(((rd_T76 x0 x5).f2) == ((rd_T76 x1 x5).f2)) || (!(((rd_T76 x0 x5).f3) == ((rd_T76 x1 x5).f3)))))) = true then (some false) else (spec_ProgSame.l0 k x0 x1 (wrap64 (x5 + 1)))) else (none)) else (none)) else (some true)
def spec_ProgSame.f (k : Nat) (l0 : List (S76)) (l1 : List (S76)) : Option (Bool) := if (l0.length : Int) = (l1.length : Int) then (spec_ProgSame.l0 k l0 l1 0) else (some false)
theorem spec_ProgSame.mono_l : ∀ k, (∀ y0 y1 y2, LeO (spec_ProgSame.l0 k y0 y1 y2) (spec_ProgSame.l0 (k + 1) y0 y1 y2))
  | 0 => fun _ _ _ r h => by simp [spec_ProgSame.l0] at h
  | k + 1 => by
    have ih0 := spec_ProgSame.mono_l k
    · intro y0 y1 y2
      unfold spec_ProgSame.l0
      repeat' first
      | (with_reducible exact ih0 _ _ _)
      | (with_reducible exact LeO.refl _)
      | (with_reducible exact LeO.none _)
      | (with_reducible refine LeO.ite ?_ ?_)
      | (with_reducible refine LeO.bind ?_ (fun _ => ?_))
      | exact ih0 _ _ _
      | exact LeO.none _
      | refine LeO.ite ?_ ?_
      | refine LeO.bind ?_ (fun _ => ?_)
theorem spec_ProgSame.mono : ∀ a0 a1 k, LeO (spec_ProgSame.f k a0 a1) (spec_ProgSame.f (k + 1) a0 a1) := by
  intro a0 a1 k
  have ih0 := spec_ProgSame.mono_l k
  unfold spec_ProgSame.f
  repeat' first
      | (with_reducible exact ih0 _ _ _)
      | (with_reducible exact LeO.refl _)
      | (with_reducible exact LeO.none _)
      | (with_reducible refine LeO.ite ?_ ?_)
      | (with_reducible refine LeO.bind ?_ (fun _ => ?_))
      | exact ih0 _ _ _
      | exact LeO.none _
      | refine LeO.ite ?_ ?_
      | refine LeO.bind ?_ (fun _ => ?_)
set_option maxHeartbeats 8000000 in
set_option maxRecDepth 100000 in
theorem spec_ProgSame.calls (k : Nat) (A0 : Option Addr) (c0 : Nat) (l0 : List (S76)) (A1 : Option Addr) (c1 : Nat) (l1 : List (S76)) (r : Bool) (w : World) (hr0 : Kd.C k76 w A0 l0.length l0) (hc0 : l0.length ≤ c0) (hr1 : Kd.C k76 w A1 l1.length l1) (hc1 : l1.length ≤ c1) (h : spec_ProgSame.f k l0 l1 = some r) :
    Calls Try.prog 22 #[.slice A0 l0.length c0, .slice A1 l1.length c1] w fun e w' => e = .returned (.bool r) ∧ Drawn0 w w' := by
  have hu76 := Try.underlying76
  have HR0 := Aside0.mk hr0
  have HC0 := Aside0.mk hc0
  clear hr0 hc0
  have HR1 := Aside0.mk hr1
  have HC1 := Aside0.mk hc1
  clear hr1 hc1
  have H : (if (l0.length : Int) = (l1.length : Int) then (spec_ProgSame.l0 k l0 l1 0) else (some false)) = some r := h
  clear h
  by_cases c3 : (l0.length : Int) = (l1.length : Int)
  · rw [if_pos c3] at H
    have c3b0 : ((l0.length : Int) == (l1.length : Int)) = true := beq_iff_eq.mpr c3
    have c3b1 : ((l0.length : Int) != (l1.length : Int)) = false := bne_eq_false_iff_eq.mpr c3
    have c3b2 : (l0.length == l1.length) = true := by first | simpa using c3 | (simp at c3 ⊢; omega)
    clear c3
    have H' := Aside0.mk H
    clear H
    go_enter Try.func22, Try.ntmps22
    go_wp2
    repeat (go_quiet (fail); try go_wp2)
    go_loopg [5] k (fun kq v5 w' => ∃ (x5_1 : Int), v5 = .int .i64 x5_1 ∧ Aside0 (spec_ProgSame.l0 kq l0 l1 x5_1 = some r) ∧ Aside0 (kq ≤ k) ∧ Drawn0 w w')
    case atStart => exact ⟨(0), (by first | rfl | (simp; done) | (simp [*]; done)), H', ⟨Nat.le_refl _⟩, by repeat (first | exact Drawn0.refl _ | apply Drawn0.step)⟩
    case round =>
      clear H'
      try clear c1
      try clear c2
      try clear p2
      try clear c3
      try clear c3b0
      try clear c3b1
      try clear c3b2
      obtain ⟨x5_1, rfl, HA, HK1, ⟨m1, rfl⟩⟩ := hrel
      cases gk with
      | zero => exact absurd HA.out (by simp [spec_ProgSame.l0])
      | succ k1 =>
        have H := HA.out
        clear HA
        simp only [spec_ProgSame.l0] at H
        by_cases c4 : x5_1 < (l0.length : Int)
        · rw [if_pos c4] at H
          have c4b0 : decide (x5_1 < (l0.length : Int)) = true := decide_eq_true c4
          clear c4
          by_cases c5 : 0 ≤ x5_1
          · rw [if_pos c5] at H
            have c5b0 : decide (0 ≤ x5_1) = true := decide_eq_true c5
            clear c5
            by_cases c6 : x5_1 < (l1.length : Int)
            · rw [if_pos c6] at H
              have c6b0 : decide (x5_1 < (l1.length : Int)) = true := decide_eq_true c6
              clear c6
              by_cases c7 : (!(((rd_T76 l0 x5_1).f0) == ((rd_T76 l1 x5_1).f0)) || (!(((rd_T76 l0 x5_1).f1) == ((rd_T76 l1 x5_1).f1)) || (!(((rd_T76 l0 x5_1).f2) == ((rd_T76 l1 x5_1).f2)) || (!(((rd_T76 l0 x5_1).f3) == ((rd_T76 l1 x5_1).f3)))))) = true
              · rw [if_pos c7] at H
                have c7b0 : (!(((rd_T76 l0 x5_1).f0) == ((rd_T76 l1 x5_1).f0)) || (!(((rd_T76 l0 x5_1).f1) == ((rd_T76 l1 x5_1).f1)) || (!(((rd_T76 l0 x5_1).f2) == ((rd_T76 l1 x5_1).f2)) || (!(((rd_T76 l0 x5_1).f3) == ((rd_T76 l1 x5_1).f3)))))) = true := c7
                clear c7
                obtain rfl := Option.some.inj H
                have p150 : 0 ≤ (x5_1 : Int) := of_decide_eq_true (by first | (with_reducible assumption) | assumption)
                have q150 : x5_1 < (l0.length : Int) := of_decide_eq_true (by first | (with_reducible assumption) | assumption)
                obtain ⟨ad150, e150, hx150_0, hx150_1, hx150_2, hx150_3⟩ := at_T76 HR0.out x5_1 p150 q150
                cases e150
                replace p150 := eq_true p150
                replace q150 := eq_true q150
                have p151 : 0 ≤ (x5_1 : Int) := of_decide_eq_true (by first | (with_reducible assumption) | assumption)
                have q151 : x5_1 < (l1.length : Int) := of_decide_eq_true (by first | (with_reducible assumption) | assumption)
                obtain ⟨ad151, e151, hx151_0, hx151_1, hx151_2, hx151_3⟩ := at_T76 HR1.out x5_1 p151 q151
                cases e151
                replace p151 := eq_true p151
                replace q151 := eq_true q151
                go_wp2
                repeat (go_quiet (fail); try go_wp2)
                go_ret
                exact ⟨by first | rfl | (simp; done) | (simp [*]; done), by repeat (first | exact Drawn0.refl _ | apply Drawn0.step)⟩
              · rw [if_neg c7] at H
                have c7b0 : (!(((rd_T76 l0 x5_1).f0) == ((rd_T76 l1 x5_1).f0)) || (!(((rd_T76 l0 x5_1).f1) == ((rd_T76 l1 x5_1).f1)) || (!(((rd_T76 l0 x5_1).f2) == ((rd_T76 l1 x5_1).f2)) || (!(((rd_T76 l0 x5_1).f3) == ((rd_T76 l1 x5_1).f3)))))) = false := by simpa using c7
                clear c7
                have H' := Aside0.mk H
                clear H
                have p150 : 0 ≤ (x5_1 : Int) := of_decide_eq_true (by first | (with_reducible assumption) | assumption)
                have q150 : x5_1 < (l0.length : Int) := of_decide_eq_true (by first | (with_reducible assumption) | assumption)
                obtain ⟨ad150, e150, hx150_0, hx150_1, hx150_2, hx150_3⟩ := at_T76 HR0.out x5_1 p150 q150
                cases e150
                replace p150 := eq_true p150
                replace q150 := eq_true q150
                have p151 : 0 ≤ (x5_1 : Int) := of_decide_eq_true (by first | (with_reducible assumption) | assumption)
                have q151 : x5_1 < (l1.length : Int) := of_decide_eq_true (by first | (with_reducible assumption) | assumption)
                obtain ⟨ad151, e151, hx151_0, hx151_1, hx151_2, hx151_3⟩ := at_T76 HR1.out x5_1 p151 q151
                cases e151
                replace p151 := eq_true p151
                replace q151 := eq_true q151
                go_wp2
                repeat (go_quiet (fail); try go_wp2)
                go_roundg k1
                case measure => have := HK1.out; omega
                case rel => exact ⟨(wrap64 (x5_1 + 1)), (by first | rfl | (simp; done) | (simp [*]; done)), H', ⟨by have := HK1.out; omega⟩, by repeat (first | exact Drawn0.refl _ | apply Drawn0.step)⟩
            · rw [if_neg c6] at H
              exact absurd H (by simp)
          · rw [if_neg c5] at H
            exact absurd H (by simp)
        · rw [if_neg c4] at H
          have c4b0 : decide (x5_1 < (l0.length : Int)) = false := decide_eq_false c4
          clear c4
          obtain rfl := Option.some.inj H
          go_wp2
          repeat (go_quiet (fail); try go_wp2)
          go_ret
          exact ⟨by first | rfl | (simp; done) | (simp [*]; done), by repeat (first | exact Drawn0.refl _ | apply Drawn0.step)⟩
  · rw [if_neg c3] at H
    have c3b0 : ((l0.length : Int) == (l1.length : Int)) = false := beq_eq_false_iff_ne.mpr c3
    have c3b1 : ((l0.length : Int) != (l1.length : Int)) = true := bne_iff_ne.mpr c3
    have c3b2 : (l0.length == l1.length) = false := by first | simpa using c3 | (simp at c3 ⊢; omega)
    obtain rfl := Option.some.inj H
    go_enter Try.func22, Try.ntmps22
    go_wp2
    repeat (go_quiet (fail); try go_wp2)
    go_ret
    exact ⟨by first | rfl | (simp; done) | (simp [*]; done), by repeat (first | exact Drawn0.refl _ | apply Drawn0.step)⟩

end Go.Proofs.Ytljaoggbfoimfaa.P

/- The functions of the seat as plain Lean functions, and that the program's functions compute them. Conditions: stated at each theorem. -/
namespace Go.Proofs.Ytljaoggbfoimfaa.P
open Go.RowKit Go.Proofs.YtljaoggbfoimfaaW.PrintWords Go.Proofs.YtljaoggbfoimfaaW.PrintLast Go.Proofs.YtljaoggbfoimfaaW.PrintMore
attribute [local go_sem] max2_int min2_int max_two min_two max_three min_three max_four min_four   -- for this text's walks alone
set_option linter.unusedVariables false
set_option linter.unusedSimpArgs false

attribute [local go_sem high] eqA76
/-! ### impl_same_impl_Ins: function 56 -/
def impl_same_impl_Ins.l0 : Nat → List (S76) → List (S76) → Int → Int → Option (Bool)
  | 0, _, _, _, _ => none
  | k + 1, x0, x1, x12, x13 => if x13 < x12 then (if 0 ≤ x13 then (if x13 < (x0.length : Int) then (if x13 < (x1.length : Int) then (if (!(((rd_T76 x0 x13).f0) == ((rd_T76 x1 x13).f0)) || (!(((rd_T76 x0 x13).f1) == ((rd_T76 x1 x13).f1)) || (!(((rd_T76 x0 x13).f2) == ((rd_T76 x1 x13).f2)) || (!(((rd_T76 x0 x13).f3) == ((rd_T76 x1 x13).f3)))))) = true then (some false) else (impl_same_impl_Ins.l0 k x0 x1 x12 (wrap64 (x13 + 1)))) else (none)) else (none)) else (none)) else (some true)
def impl_same_impl_Ins.f (k : Nat) (l0 : List (S76)) (l1 : List (S76)) : Option (Bool) := if (l0.length : Int) = (l1.length : Int) then (impl_same_impl_Ins.l0 k l0 l1 (l0.length : Int) 0) else (some false)
theorem impl_same_impl_Ins.mono_l : ∀ k, (∀ y0 y1 y2 y3, LeO (impl_same_impl_Ins.l0 k y0 y1 y2 y3) (impl_same_impl_Ins.l0 (k + 1) y0 y1 y2 y3))
  | 0 => fun _ _ _ _ r h => by simp [impl_same_impl_Ins.l0] at h
  | k + 1 => by
    have ih0 := impl_same_impl_Ins.mono_l k
    · intro y0 y1 y2 y3
      unfold impl_same_impl_Ins.l0
      repeat' first
      | (with_reducible exact ih0 _ _ _ _)
      | (with_reducible exact LeO.refl _)
      | (with_reducible exact LeO.none _)
      | (with_reducible refine LeO.ite ?_ ?_)
      | (with_reducible refine LeO.bind ?_ (fun _ => ?_))
      | exact ih0 _ _ _ _
      | exact LeO.none _
      | refine LeO.ite ?_ ?_
      | refine LeO.bind ?_ (fun _ => ?_)
theorem impl_same_impl_Ins.mono : ∀ a0 a1 k, LeO (impl_same_impl_Ins.f k a0 a1) (impl_same_impl_Ins.f (k + 1) a0 a1) := by
  intro a0 a1 k
  have ih0 := impl_same_impl_Ins.mono_l k
  unfold impl_same_impl_Ins.f
  repeat' first
      | (with_reducible exact ih0 _ _ _ _)
      | (with_reducible exact LeO.refl _)
      | (with_reducible exact LeO.none _)
      | (with_reducible refine LeO.ite ?_ ?_)
      | (with_reducible refine LeO.bind ?_ (fun _ => ?_))
      | exact ih0 _ _ _ _
      | exact LeO.none _
      | refine LeO.ite ?_ ?_
      | refine LeO.bind ?_ (fun _ => ?_)
set_option maxHeartbeats 8000000 in
set_option maxRecDepth 100000 in
theorem impl_same_impl_Ins.calls (k : Nat) (A0 : Option Addr) (c0 : Nat) (l0 : List (S76)) (A1 : Option Addr) (c1 : Nat) (l1 : List (S76)) (r : Bool) (w : World) (hr0 : Kd.C k76 w A0 l0.length l0) (hc0 : l0.length ≤ c0) (hr1 : Kd.C k76 w A1 l1.length l1) (hc1 : l1.length ≤ c1) (h : impl_same_impl_Ins.f k l0 l1 = some r) :
    Calls Try.prog 56 #[.slice A0 l0.length c0, .slice A1 l1.length c1] w fun e w' => e = .returned (.bool r) ∧ Drawn0 w w' := by
  have hu76 := Try.underlying76
  have HR0 := Aside0.mk hr0
  have HC0 := Aside0.mk hc0
  clear hr0 hc0
  have HR1 := Aside0.mk hr1
  have HC1 := Aside0.mk hc1
  clear hr1 hc1
  have H : (if (l0.length : Int) = (l1.length : Int) then (impl_same_impl_Ins.l0 k l0 l1 (l0.length : Int) 0) else (some false)) = some r := h
  clear h
  by_cases c3 : (l0.length : Int) = (l1.length : Int)
  · rw [if_pos c3] at H
    have c3b0 : ((l0.length : Int) == (l1.length : Int)) = true := beq_iff_eq.mpr c3
    have c3b1 : ((l0.length : Int) != (l1.length : Int)) = false := bne_eq_false_iff_eq.mpr c3
    have c3b2 : (l0.length == l1.length) = true := by first | simpa using c3 | (simp at c3 ⊢; omega)
    clear c3
    have H' := Aside0.mk H
    clear H
    go_enter Try.func56, Try.ntmps56
    go_wp2
    repeat (go_quiet (fail); try go_wp2)
    go_loopg [13] k (fun kq v13 w' => ∃ (x13_1 : Int), v13 = .int .i64 x13_1 ∧ Aside0 (impl_same_impl_Ins.l0 kq l0 l1 (l0.length : Int) x13_1 = some r) ∧ Aside0 (kq ≤ k) ∧ Drawn0 w w')
    case atStart => exact ⟨(0), (by first | rfl | (simp; done) | (simp [*]; done)), H', ⟨Nat.le_refl _⟩, by repeat (first | exact Drawn0.refl _ | apply Drawn0.step)⟩
    case round =>
      clear H'
      try clear c1
      try clear p2
      try clear c3
      try clear c3b0
      try clear c3b1
      try clear c3b2
      obtain ⟨x13_1, rfl, HA, HK1, ⟨m1, rfl⟩⟩ := hrel
      cases gk with
      | zero => exact absurd HA.out (by simp [impl_same_impl_Ins.l0])
      | succ k1 =>
        have H := HA.out
        clear HA
        simp only [impl_same_impl_Ins.l0] at H
        by_cases c4 : x13_1 < (l0.length : Int)
        · rw [if_pos c4] at H
          have c4b0 : decide (x13_1 < (l0.length : Int)) = true := decide_eq_true c4
          clear c4
          by_cases c5 : 0 ≤ x13_1
          · rw [if_pos c5] at H
            have c5b0 : decide (0 ≤ x13_1) = true := decide_eq_true c5
            clear c5
            by_cases c6 : x13_1 < (l0.length : Int)
            · rw [if_pos c6] at H
              have c6b0 : decide (x13_1 < (l0.length : Int)) = true := decide_eq_true c6
              clear c6
              by_cases c7 : x13_1 < (l1.length : Int)
              · rw [if_pos c7] at H
                have c7b0 : decide (x13_1 < (l1.length : Int)) = true := decide_eq_true c7
                clear c7
                by_cases c8 : (!(((rd_T76 l0 x13_1).f0) == ((rd_T76 l1 x13_1).f0)) || (!(((rd_T76 l0 x13_1).f1) == ((rd_T76 l1 x13_1).f1)) || (!(((rd_T76 l0 x13_1).f2) == ((rd_T76 l1 x13_1).f2)) || (!(((rd_T76 l0 x13_1).f3) == ((rd_T76 l1 x13_1).f3)))))) = true
                · rw [if_pos c8] at H
                  have c8b0 : (!(((rd_T76 l0 x13_1).f0) == ((rd_T76 l1 x13_1).f0)) || (!(((rd_T76 l0 x13_1).f1) == ((rd_T76 l1 x13_1).f1)) || (!(((rd_T76 l0 x13_1).f2) == ((rd_T76 l1 x13_1).f2)) || (!(((rd_T76 l0 x13_1).f3) == ((rd_T76 l1 x13_1).f3)))))) = true := c8
                  clear c8
                  obtain rfl := Option.some.inj H
                  have p164 : 0 ≤ (x13_1 : Int) := of_decide_eq_true (by first | (with_reducible assumption) | assumption)
                  have q164 : x13_1 < (l0.length : Int) := of_decide_eq_true (by first | (with_reducible assumption) | assumption)
                  obtain ⟨ad164, e164, hx164_0, hx164_1, hx164_2, hx164_3⟩ := at_T76 HR0.out x13_1 p164 q164
                  cases e164
                  replace p164 := eq_true p164
                  replace q164 := eq_true q164
                  have p165 : 0 ≤ (x13_1 : Int) := of_decide_eq_true (by first | (with_reducible assumption) | assumption)
                  have q165 : x13_1 < (l1.length : Int) := of_decide_eq_true (by first | (with_reducible assumption) | assumption)
                  obtain ⟨ad165, e165, hx165_0, hx165_1, hx165_2, hx165_3⟩ := at_T76 HR1.out x13_1 p165 q165
                  cases e165
                  replace p165 := eq_true p165
                  replace q165 := eq_true q165
                  go_wp2
                  repeat (go_quiet (fail); try go_wp2)
                  go_ret
                  exact ⟨by first | rfl | (simp; done) | (simp [*]; done), by repeat (first | exact Drawn0.refl _ | apply Drawn0.step)⟩
                · rw [if_neg c8] at H
                  have c8b0 : (!(((rd_T76 l0 x13_1).f0) == ((rd_T76 l1 x13_1).f0)) || (!(((rd_T76 l0 x13_1).f1) == ((rd_T76 l1 x13_1).f1)) || (!(((rd_T76 l0 x13_1).f2) == ((rd_T76 l1 x13_1).f2)) || (!(((rd_T76 l0 x13_1).f3) == ((rd_T76 l1 x13_1).f3)))))) = false := by simpa using c8
                  clear c8
                  have H' := Aside0.mk H
                  clear H
                  have p164 : 0 ≤ (x13_1 : Int) := of_decide_eq_true (by first | (with_reducible assumption) | assumption)
                  have q164 : x13_1 < (l0.length : Int) := of_decide_eq_true (by first | (with_reducible assumption) | assumption)
                  obtain ⟨ad164, e164, hx164_0, hx164_1, hx164_2, hx164_3⟩ := at_T76 HR0.out x13_1 p164 q164
                  cases e164
                  replace p164 := eq_true p164
                  replace q164 := eq_true q164
                  have p165 : 0 ≤ (x13_1 : Int) := of_decide_eq_true (by first | (with_reducible assumption) | assumption)
                  have q165 : x13_1 < (l1.length : Int) := of_decide_eq_true (by first | (with_reducible assumption) | assumption)
                  obtain ⟨ad165, e165, hx165_0, hx165_1, hx165_2, hx165_3⟩ := at_T76 HR1.out x13_1 p165 q165
                  cases e165
                  replace p165 := eq_true p165
                  replace q165 := eq_true q165
                  go_wp2
                  repeat (go_quiet (fail); try go_wp2)
                  go_roundg k1
                  case measure => have := HK1.out; omega
                  case rel => exact ⟨(wrap64 (x13_1 + 1)), (by first | rfl | (simp; done) | (simp [*]; done)), H', ⟨by have := HK1.out; omega⟩, by repeat (first | exact Drawn0.refl _ | apply Drawn0.step)⟩
              · rw [if_neg c7] at H
                exact absurd H (by simp)
            · rw [if_neg c6] at H
              exact absurd H (by simp)
          · rw [if_neg c5] at H
            exact absurd H (by simp)
        · rw [if_neg c4] at H
          have c4b0 : decide (x13_1 < (l0.length : Int)) = false := decide_eq_false c4
          clear c4
          obtain rfl := Option.some.inj H
          go_wp2
          repeat (go_quiet (fail); try go_wp2)
          go_ret
          exact ⟨by first | rfl | (simp; done) | (simp [*]; done), by repeat (first | exact Drawn0.refl _ | apply Drawn0.step)⟩
  · rw [if_neg c3] at H
    have c3b0 : ((l0.length : Int) == (l1.length : Int)) = false := beq_eq_false_iff_ne.mpr c3
    have c3b1 : ((l0.length : Int) != (l1.length : Int)) = true := bne_iff_ne.mpr c3
    have c3b2 : (l0.length == l1.length) = false := by first | simpa using c3 | (simp at c3 ⊢; omega)
    obtain rfl := Option.some.inj H
    go_enter Try.func56, Try.ntmps56
    go_wp2
    repeat (go_quiet (fail); try go_wp2)
    go_ret
    exact ⟨by first | rfl | (simp; done) | (simp [*]; done), by repeat (first | exact Drawn0.refl _ | apply Drawn0.step)⟩

end Go.Proofs.Ytljaoggbfoimfaa.P

/- The functions of the seat as plain Lean functions, and that the program's functions compute them. Conditions: stated at each theorem. -/
namespace Go.Proofs.Ytljaoggbfoimfaa.P
open Go.RowKit Go.Proofs.YtljaoggbfoimfaaW.PrintWords Go.Proofs.YtljaoggbfoimfaaW.PrintLast Go.Proofs.YtljaoggbfoimfaaW.PrintMore
attribute [local go_sem] max2_int min2_int max_two min_two max_three min_three max_four min_four   -- for this text's walks alone
set_option linter.unusedVariables false
set_option linter.unusedSimpArgs false

/-! ### impl_ProgSame: function 24 -/
def impl_ProgSame.f (k : Nat) (l0 : List (S76)) (l1 : List (S76)) : Option (Bool) := (impl_same_impl_Ins.f k l0 l1).bind fun t166 => (some t166)
theorem impl_ProgSame.mono : ∀ a0 a1 k, LeO (impl_ProgSame.f k a0 a1) (impl_ProgSame.f (k + 1) a0 a1) := by
  intro a0 a1 k
  unfold impl_ProgSame.f
  repeat' first
      | (with_reducible exact impl_same_impl_Ins.mono _ _ _)
      | (with_reducible exact LeO.refl _)
      | (with_reducible exact LeO.none _)
      | (with_reducible refine LeO.ite ?_ ?_)
      | (with_reducible refine LeO.bind ?_ (fun _ => ?_))
      | exact impl_same_impl_Ins.mono _ _ _
      | exact LeO.none _
      | refine LeO.ite ?_ ?_
      | refine LeO.bind ?_ (fun _ => ?_)
set_option maxHeartbeats 8000000 in
set_option maxRecDepth 100000 in
theorem impl_ProgSame.calls (k : Nat) (A0 : Option Addr) (c0 : Nat) (l0 : List (S76)) (A1 : Option Addr) (c1 : Nat) (l1 : List (S76)) (r : Bool) (w : World) (hr0 : Kd.C k76 w A0 l0.length l0) (hc0 : l0.length ≤ c0) (hr1 : Kd.C k76 w A1 l1.length l1) (hc1 : l1.length ≤ c1) (h : impl_ProgSame.f k l0 l1 = some r) :
    Calls Try.prog 24 #[.slice A0 l0.length c0, .slice A1 l1.length c1] w fun e w' => e = .returned (.bool r) ∧ Drawn0 w w' := by
  have HR0 := Aside0.mk hr0
  have HC0 := Aside0.mk hc0
  clear hr0 hc0
  have HR1 := Aside0.mk hr1
  have HC1 := Aside0.mk hc1
  clear hr1 hc1
  have H : ((impl_same_impl_Ins.f k l0 l1).bind fun t166 => (some t166)) = some r := h
  clear h
  replace H := Option.bind_eq_some_iff.mp H
  obtain ⟨t166, A30, H⟩ := H
  replace H : (some t166) = some r := H
  have A3 := Aside0.mk A30
  clear A30
  obtain rfl := Option.some.inj H
  go_enter Try.func24, Try.ntmps24
  go_wp2_with (first | ((with_reducible refine gate_callee (f := 56) rfl ?_); refine goesL_ (some 7) rfl rfl Try.func56 (by kernel_rfl) rfl #[.slice A0 l0.length c0, .slice A1 l1.length c1] rfl (by (try simp only [List.map_toArray, List.map_cons, List.map_nil]); first | done | rfl | (simp only [List.length_drop, List.length_take]; rfl)) ?_; (with_reducible refine (impl_same_impl_Ins.calls k _ _ l0 _ _ l1 t166 _ ?side1 ?side2 ?side3 ?side4 A3.out).mono ?_); (case side1 => repeat (first | exact HR0.out | (with_reducible refine Kd.C_alloc ?_ _) | (with_reducible refine Kd.C_drewN ?_ _) | (with_reducible refine Kd.C_drew ?_))); (case side2 => exact HC0.out); (case side3 => repeat (first | exact HR1.out | (with_reducible refine Kd.C_alloc ?_ _) | (with_reducible refine Kd.C_drewN ?_ _) | (with_reducible refine Kd.C_drew ?_))); (case side4 => exact HC1.out); rintro e w' ⟨rfl, ⟨nd, rfl⟩⟩; refine ⟨_, rfl, ?_⟩))
  go_ret
  exact ⟨by first | rfl | (simp; done) | (simp [*]; done), by repeat (first | exact Drawn0.refl _ | apply Drawn0.step)⟩

end Go.Proofs.Ytljaoggbfoimfaa.P

/- Plain lemmas on lists of flat structs: conversions, comparisons, sizes. Conditions: a list's length is within the reach. -/
set_option linter.unusedVariables false
set_option linter.unusedSimpArgs false
namespace Go.Proofs.Ytljaoggbfoimfaa.P
open Go.Proofs.YtljaoggbfoimfaaW.PrintWords Go.RowKit
/-! ### Ins -/
def toIns (x : S78) : S76 := ⟨x.f0, x.f1, x.f2, x.f3⟩
theorem toInsS_ev (xs : List S78) (hn : xs.length * 32 ≤ 140737488351232) : Ev (fun k => laws_toInsS.f k xs) (xs.map toIns) := by
  refine Ev.congr (f := fun k => laws_toInsS.l0 k xs (List.replicate xs.length z76) 0) (fun k => ?_) ?_
  · show laws_toInsS.f k xs = _
    unfold laws_toInsS.f
    rw [if_pos (by omega), if_pos (by rw [Int.toNat_natCast]; omega), Int.toNat_natCast]
  · refine fill_ev (fun k r i => laws_toInsS.l0 k xs r i) xs toIns (fun k r hr => ?_) (fun i h => ⟨0, fun k r _ hr => ?_⟩) _ (by simp)
    · show laws_toInsS.l0 (k + 1) xs r _ = _
      simp only [laws_toInsS.l0]
      rw [if_neg (by omega)]
    · show laws_toInsS.l0 (k + 1) xs r _ = laws_toInsS.l0 k xs _ _
      simp only [laws_toInsS.l0, laws_toIns.f]
      rw [if_pos (by omega), if_pos (by omega), Option.bind_some, if_pos (by omega), wrap_nat (by omega), Int.toNat_natCast]
      unfold rd_T78
      rw [getD_at h]
      rfl
theorem spec_ProgSame_ev (xs ys : List S76) (hn : xs.length * 32 ≤ 140737488351232) : Ev (fun k => spec_ProgSame.f k xs ys) (yes (xs = ys)) := by
  by_cases hl : xs.length = ys.length
  · refine Ev.congr (f := fun k => spec_ProgSame.l0 k xs ys 0) (fun k => ?_) ?_
    · show spec_ProgSame.f k xs ys = _
      unfold spec_ProgSame.f
      rw [if_pos (by omega)]
    · refine all2_ev (fun k i => spec_ProgSame.l0 k xs ys i) xs ys hl (fun k => ?_) (fun i h h' => ⟨0, fun k _ => ⟨fun he => ?_, fun he => ?_⟩⟩)
      · show spec_ProgSame.l0 (k + 1) xs ys _ = _
        simp only [spec_ProgSame.l0]
        rw [if_neg (by omega)]
      · show spec_ProgSame.l0 (k + 1) xs ys _ = spec_ProgSame.l0 k xs ys _
        simp only [spec_ProgSame.l0]
        rw [if_pos (by omega), if_pos (by omega), if_pos (by omega), wrap_nat (by omega)]
        unfold rd_T76
        rw [getD_at h, getD_at h', he]
        simp
      · show spec_ProgSame.l0 (k + 1) xs ys _ = _
        simp only [spec_ProgSame.l0]
        rw [if_pos (by omega), if_pos (by omega), if_pos (by omega)]
        unfold rd_T76
        rw [getD_at h, getD_at h']
        have hne : ¬ (xs[i].f0 = ys[i].f0 ∧ xs[i].f1 = ys[i].f1 ∧ xs[i].f2 = ys[i].f2 ∧ xs[i].f3 = ys[i].f3) := fun ⟨e0, e1, e2, e3⟩ => he (by cases hx : xs[i]; cases hy : ys[i]; simp_all)
        by_cases e0 : xs[i].f0 = ys[i].f0 <;> by_cases e1 : xs[i].f1 = ys[i].f1 <;> by_cases e2 : xs[i].f2 = ys[i].f2 <;> by_cases e3 : xs[i].f3 = ys[i].f3 <;> simp_all
  · refine (Ev.congr (f := fun _ => some false) (fun k => ?_) (Ev.now false)).eqs (yes_neg fun h => hl (by rw [h])).symm
    show spec_ProgSame.f k xs ys = _
    unfold spec_ProgSame.f
    rw [if_neg (by omega)]
theorem impl_same_impl_Ins_ev (xs ys : List S76) (hn : xs.length * 32 ≤ 140737488351232) : Ev (fun k => impl_same_impl_Ins.f k xs ys) (yes (xs = ys)) := by
  by_cases hl : xs.length = ys.length
  · refine Ev.congr (f := fun k => impl_same_impl_Ins.l0 k xs ys (xs.length : Int) 0) (fun k => ?_) ?_
    · show impl_same_impl_Ins.f k xs ys = _
      unfold impl_same_impl_Ins.f
      rw [if_pos (by omega)]
    · refine all2_ev (fun k i => impl_same_impl_Ins.l0 k xs ys (xs.length : Int) i) xs ys hl (fun k => ?_) (fun i h h' => ⟨0, fun k _ => ⟨fun he => ?_, fun he => ?_⟩⟩)
      · show impl_same_impl_Ins.l0 (k + 1) xs ys (xs.length : Int) _ = _
        simp only [impl_same_impl_Ins.l0]
        rw [if_neg (by omega)]
      · show impl_same_impl_Ins.l0 (k + 1) xs ys (xs.length : Int) _ = impl_same_impl_Ins.l0 k xs ys (xs.length : Int) _
        simp only [impl_same_impl_Ins.l0]
        rw [if_pos (by omega), if_pos (by omega), if_pos (by omega), if_pos (by omega), wrap_nat (by omega)]
        unfold rd_T76
        rw [getD_at h, getD_at h', he]
        simp
      · show impl_same_impl_Ins.l0 (k + 1) xs ys (xs.length : Int) _ = _
        simp only [impl_same_impl_Ins.l0]
        rw [if_pos (by omega), if_pos (by omega), if_pos (by omega), if_pos (by omega)]
        unfold rd_T76
        rw [getD_at h, getD_at h']
        have hne : ¬ (xs[i].f0 = ys[i].f0 ∧ xs[i].f1 = ys[i].f1 ∧ xs[i].f2 = ys[i].f2 ∧ xs[i].f3 = ys[i].f3) := fun ⟨e0, e1, e2, e3⟩ => he (by cases hx : xs[i]; cases hy : ys[i]; simp_all)
        by_cases e0 : xs[i].f0 = ys[i].f0 <;> by_cases e1 : xs[i].f1 = ys[i].f1 <;> by_cases e2 : xs[i].f2 = ys[i].f2 <;> by_cases e3 : xs[i].f3 = ys[i].f3 <;> simp_all
  · refine (Ev.congr (f := fun _ => some false) (fun k => ?_) (Ev.now false)).eqs (yes_neg fun h => hl (by rw [h])).symm
    show impl_same_impl_Ins.f k xs ys = _
    unfold impl_same_impl_Ins.f
    rw [if_neg (by omega)]
theorem impl_ProgSame_ev (xs ys : List S76) (hn : xs.length * 32 ≤ 140737488351232) : Ev (fun k => impl_ProgSame.f k xs ys) (yes (xs = ys)) := by
  refine (impl_same_impl_Ins_ev xs ys hn).bind (f := fun _ t => some t) (Ev.now _)
theorem laws_eqInsS_ev (xs ys : List S76) (hn : xs.length * 32 ≤ 140737488351232) : Ev (fun k => laws_eqInsS.f k xs ys) (yes (xs = ys)) := by
  by_cases hl : xs.length = ys.length
  · refine Ev.congr (f := fun k => laws_eqInsS.l0 k xs ys 0) (fun k => ?_) ?_
    · show laws_eqInsS.f k xs ys = _
      unfold laws_eqInsS.f
      rw [if_pos (by omega)]
    · refine all2_ev (fun k i => laws_eqInsS.l0 k xs ys i) xs ys hl (fun k => ?_) (fun i h h' => ⟨0, fun k _ => ⟨fun he => ?_, fun he => ?_⟩⟩)
      · show laws_eqInsS.l0 (k + 1) xs ys _ = _
        simp only [laws_eqInsS.l0]
        rw [if_neg (by omega)]
      · show laws_eqInsS.l0 (k + 1) xs ys _ = laws_eqInsS.l0 k xs ys _
        simp only [laws_eqInsS.l0, laws_eqIns.f]
        rw [if_pos (by omega), if_pos (by omega), if_pos (by omega), wrap_nat (by omega)]
        unfold rd_T76
        rw [getD_at h, getD_at h', he]
        simp
      · show laws_eqInsS.l0 (k + 1) xs ys _ = _
        simp only [laws_eqInsS.l0, laws_eqIns.f]
        rw [if_pos (by omega), if_pos (by omega), if_pos (by omega)]
        unfold rd_T76
        rw [getD_at h, getD_at h']
        have hne : ¬ (xs[i].f0 = ys[i].f0 ∧ xs[i].f1 = ys[i].f1 ∧ xs[i].f2 = ys[i].f2 ∧ xs[i].f3 = ys[i].f3) := fun ⟨e0, e1, e2, e3⟩ => he (by cases hx : xs[i]; cases hy : ys[i]; simp_all)
        by_cases e0 : xs[i].f0 = ys[i].f0 <;> by_cases e1 : xs[i].f1 = ys[i].f1 <;> by_cases e2 : xs[i].f2 = ys[i].f2 <;> by_cases e3 : xs[i].f3 = ys[i].f3 <;> simp_all
  · refine (Ev.congr (f := fun _ => some false) (fun k => ?_) (Ev.now false)).eqs (yes_neg fun h => hl (by rw [h])).symm
    show laws_eqInsS.f k xs ys = _
    unfold laws_eqInsS.f
    rw [if_neg (by omega)]
theorem szInsS_some (xs : List S78) (a : Int) : ∃ v, laws_szInsS.f xs a = some v := by
  unfold laws_szInsS.f
  split <;> exact ⟨_, rfl⟩
end Go.Proofs.Ytljaoggbfoimfaa.P

/- The functions of the seat as plain Lean functions, and that the program's functions compute them. Conditions: stated at each theorem. -/
namespace Go.Proofs.Ytljaoggbfoimfaa.P
open Go.RowKit Go.Proofs.YtljaoggbfoimfaaW.PrintWords Go.Proofs.YtljaoggbfoimfaaW.PrintLast Go.Proofs.YtljaoggbfoimfaaW.PrintMore
attribute [local go_sem] max2_int min2_int max_two min_two max_three min_three max_four min_four   -- for this text's walks alone
set_option linter.unusedVariables false
set_option linter.unusedSimpArgs false

/-! ### impl_ProgAt: function 29 -/
def impl_ProgAt.f (k : Nat) (l0 : List (S76)) (a1 : ByteArray) (a2 : Int) : Option (Int × Int × Int) := (impl_ProgOk.f k l0).bind fun t246 => (if t246 = true then (if (a1.size : Int) > 200 then (some ((-1), a2, 0)) else ((impl_in.f a2 0 (a1.size : Int)).bind fun t247 => (if t247 = true then ((impl_progAt.f k l0 a1 a2).bind fun bt248 => (some (bt248.1, bt248.2.1, bt248.2.2))) else (some ((-1), a2, 0))))) else (some ((-1), a2, 0)))
theorem impl_ProgAt.mono : ∀ a0 a1 a2 k, LeO (impl_ProgAt.f k a0 a1 a2) (impl_ProgAt.f (k + 1) a0 a1 a2) := by
  intro a0 a1 a2 k
  unfold impl_ProgAt.f
  repeat' first
      | (with_reducible exact impl_ProgOk.mono _ _)
      | (with_reducible exact impl_progAt.mono _ _ _ _)
      | (with_reducible exact LeO.refl _)
      | (with_reducible exact LeO.none _)
      | (with_reducible refine LeO.ite ?_ ?_)
      | (with_reducible refine LeO.bind ?_ (fun _ => ?_))
      | exact impl_ProgOk.mono _ _
      | exact impl_progAt.mono _ _ _ _
      | exact LeO.none _
      | refine LeO.ite ?_ ?_
      | refine LeO.bind ?_ (fun _ => ?_)
set_option maxHeartbeats 8000000 in
set_option maxRecDepth 100000 in
theorem impl_ProgAt.calls (k : Nat) (A0 : Option Addr) (c0 : Nat) (l0 : List (S76)) (a1 : ByteArray) (a2 : Int) (r1 : Int) (r2 : Int) (r3 : Int) (w : World) (hr0 : Kd.C k76 w A0 l0.length l0) (hc0 : l0.length ≤ c0) (h : impl_ProgAt.f k l0 a1 a2 = some (r1, r2, r3)) :
    Calls Try.prog 29 #[.slice A0 l0.length c0, .string a1, .int .i64 a2] w fun e w' => e = .returned (.tuple #[.int .i64 r1, .int .i64 r2, .int .i64 r3]) ∧ Below w.heap.size w w' := by
  have HR0 := Aside0.mk hr0
  have HC0 := Aside0.mk hc0
  clear hr0 hc0
  have HB := Aside0.mk (Below.refl w.heap.size w)
  have H : ((impl_ProgOk.f k l0).bind fun t246 => (if t246 = true then (if (a1.size : Int) > 200 then (some ((-1), a2, 0)) else ((impl_in.f a2 0 (a1.size : Int)).bind fun t247 => (if t247 = true then ((impl_progAt.f k l0 a1 a2).bind fun bt248 => (some (bt248.1, bt248.2.1, bt248.2.2))) else (some ((-1), a2, 0))))) else (some ((-1), a2, 0)))) = some (r1, r2, r3) := h
  clear h
  replace H := Option.bind_eq_some_iff.mp H
  obtain ⟨t246, A40, H⟩ := H
  replace H : (if t246 = true then (if (a1.size : Int) > 200 then (some ((-1), a2, 0)) else ((impl_in.f a2 0 (a1.size : Int)).bind fun t247 => (if t247 = true then ((impl_progAt.f k l0 a1 a2).bind fun bt248 => (some (bt248.1, bt248.2.1, bt248.2.2))) else (some ((-1), a2, 0))))) else (some ((-1), a2, 0))) = some (r1, r2, r3) := H
  have A4 := Aside0.mk A40
  clear A40
  by_cases c5 : t246 = true
  · subst c5
    have H1 : (if (a1.size : Int) > 200 then (some ((-1), a2, 0)) else ((impl_in.f a2 0 (a1.size : Int)).bind fun t247 => (if t247 = true then ((impl_progAt.f k l0 a1 a2).bind fun bt248 => (some (bt248.1, bt248.2.1, bt248.2.2))) else (some ((-1), a2, 0))))) = some (r1, r2, r3) := by rw [if_pos rfl] at H; exact H
    clear H
    have H := H1
    clear H1
    by_cases c6 : (a1.size : Int) > 200
    · rw [if_pos c6] at H
      have c6b0 : decide (200 < (a1.size : Int)) = true := decide_eq_true c6
      have c6b1 : decide (200 < a1.size) = true := decide_eq_true (by omega)
      clear c6
      simp only [Option.some.injEq, Prod.mk.injEq] at H
      obtain ⟨rfl, rfl, rfl⟩ := H
      go_enter Try.func29, Try.ntmps29
      go_wp2_with (first | ((with_reducible refine gate_callee (f := 27) rfl ?_); refine goesL_ (some 10) rfl rfl Try.func27 (by kernel_rfl) rfl #[.slice A0 l0.length c0] rfl (by (try simp only [List.map_toArray, List.map_cons, List.map_nil]); first | done | rfl | (simp only [List.length_drop, List.length_take]; rfl)) ?_; (with_reducible refine (impl_ProgOk.calls k _ _ l0 true _ ?side1 ?side2 A4.out).mono ?_); (case side1 => repeat (first | exact HR0.out | (with_reducible refine Kd.C_alloc ?_ _) | (with_reducible refine Kd.C_drewN ?_ _) | (with_reducible refine Kd.C_drew ?_))); (case side2 => exact HC0.out); rintro e w7 ⟨rfl, hb⟩; refine ⟨_, rfl, ?_⟩; have n0_ := Aside0.mk (below_step (by repeat (first | (with_reducible first | exact HB.out | apply below_alloc | apply pw_below_drewN | apply below_drew1) | exact HB.out)) hb); clear HB; have HB := n0_; clear n0_; (try clear hb); (try clear hb2); (try clear hk); (try clear hi)))
      go_ret3
      exact ⟨by first | rfl | (simp [errW_none, errW_some] <;> rfl) | (simp [*, errW_none, errW_some] <;> rfl), by repeat (first | (with_reducible first | exact HB.out | apply below_alloc | apply pw_below_drewN | apply below_drew1) | exact HB.out)⟩
    · rw [if_neg c6] at H
      have c6b0 : decide (200 < (a1.size : Int)) = false := decide_eq_false c6
      have c6b1 : decide (200 < a1.size) = false := decide_eq_false (by omega)
      clear c6
      replace H := Option.bind_eq_some_iff.mp H
      obtain ⟨t247, A80, H⟩ := H
      replace H : (if t247 = true then ((impl_progAt.f k l0 a1 a2).bind fun bt248 => (some (bt248.1, bt248.2.1, bt248.2.2))) else (some ((-1), a2, 0))) = some (r1, r2, r3) := H
      have A8 := Aside0.mk A80
      clear A80
      by_cases c9 : t247 = true
      · subst c9
        have H1 : ((impl_progAt.f k l0 a1 a2).bind fun bt248 => (some (bt248.1, bt248.2.1, bt248.2.2))) = some (r1, r2, r3) := by rw [if_pos rfl] at H; exact H
        clear H
        have H := H1
        clear H1
        replace H := Option.bind_eq_some_iff.mp H
        obtain ⟨⟨t248, t249, t250⟩, A100, H⟩ := H
        replace H : (some (t248, t249, t250)) = some (r1, r2, r3) := H
        have A10 := Aside0.mk A100
        clear A100
        simp only [Option.some.injEq, Prod.mk.injEq] at H
        obtain ⟨rfl, rfl, rfl⟩ := H
        go_enter Try.func29, Try.ntmps29
        go_wp2_with (first | ((with_reducible refine gate_callee (f := 27) rfl ?_); refine goesL_ (some 10) rfl rfl Try.func27 (by kernel_rfl) rfl #[.slice A0 l0.length c0] rfl (by (try simp only [List.map_toArray, List.map_cons, List.map_nil]); first | done | rfl | (simp only [List.length_drop, List.length_take]; rfl)) ?_; (with_reducible refine (impl_ProgOk.calls k _ _ l0 true _ ?side1 ?side2 A4.out).mono ?_); (case side1 => repeat (first | exact HR0.out | (with_reducible refine Kd.C_alloc ?_ _) | (with_reducible refine Kd.C_drewN ?_ _) | (with_reducible refine Kd.C_drew ?_))); (case side2 => exact HC0.out); rintro e w11 ⟨rfl, hb⟩; refine ⟨_, rfl, ?_⟩; have n0_ := Aside0.mk (below_step (by repeat (first | (with_reducible first | exact HB.out | apply below_alloc | apply pw_below_drewN | apply below_drew1) | exact HB.out)) hb); clear HB; have HB := n0_; clear n0_; (try clear hb); (try clear hb2); (try clear hk); (try clear hi)) | (go_at_call 51; (with_reducible refine (impl_in.calls a2 0 (a1.size : Int) true _ A8.out).mono ?_); rintro e w' ⟨rfl, ⟨nd, rfl⟩⟩) | ((with_reducible refine gate_callee (f := 63) rfl ?_); refine goesL_ (some 28) rfl rfl Try.func63 (by kernel_rfl) rfl #[.slice A0 l0.length c0, .string a1, .int .i64 a2] rfl (by (try simp only [List.map_toArray, List.map_cons, List.map_nil]); first | done | rfl | (simp only [List.length_drop, List.length_take]; rfl)) ?_; (with_reducible refine (impl_progAt.calls k _ _ l0 a1 a2 t248 t249 t250 _ ?side1 ?side2 A10.out).mono ?_); (case side1 => repeat (first | exact (Kd.C_below HR0.out (by repeat (first | (with_reducible first | exact HB.out | apply below_alloc | apply pw_below_drewN | apply below_drew1) | exact HB.out))) | (with_reducible refine Kd.C_alloc ?_ _) | (with_reducible refine Kd.C_drewN ?_ _) | (with_reducible refine Kd.C_drew ?_))); (case side2 => exact HC0.out); rintro e w12 ⟨rfl, hb⟩; refine ⟨_, rfl, ?_⟩; have n0_ := Aside0.mk (below_step (by repeat (first | (with_reducible first | exact HB.out | apply below_alloc | apply pw_below_drewN | apply below_drew1) | exact HB.out)) hb); clear HB; have HB := n0_; clear n0_; (try clear hb); (try clear hb2); (try clear hk); (try clear hi)))
        go_ret3
        exact ⟨by first | rfl | (simp [errW_none, errW_some] <;> rfl) | (simp [*, errW_none, errW_some] <;> rfl), by repeat (first | (with_reducible first | exact HB.out | apply below_alloc | apply pw_below_drewN | apply below_drew1) | exact HB.out)⟩
      · replace c9 := Bool.eq_false_iff.mpr c9
        subst c9
        have H1 : (some ((-1), a2, 0)) = some (r1, r2, r3) := by rw [if_neg (show ¬ (false = true) by decide)] at H; exact H
        clear H
        have H := H1
        clear H1
        simp only [Option.some.injEq, Prod.mk.injEq] at H
        obtain ⟨rfl, rfl, rfl⟩ := H
        go_enter Try.func29, Try.ntmps29
        go_wp2_with (first | ((with_reducible refine gate_callee (f := 27) rfl ?_); refine goesL_ (some 10) rfl rfl Try.func27 (by kernel_rfl) rfl #[.slice A0 l0.length c0] rfl (by (try simp only [List.map_toArray, List.map_cons, List.map_nil]); first | done | rfl | (simp only [List.length_drop, List.length_take]; rfl)) ?_; (with_reducible refine (impl_ProgOk.calls k _ _ l0 true _ ?side1 ?side2 A4.out).mono ?_); (case side1 => repeat (first | exact HR0.out | (with_reducible refine Kd.C_alloc ?_ _) | (with_reducible refine Kd.C_drewN ?_ _) | (with_reducible refine Kd.C_drew ?_))); (case side2 => exact HC0.out); rintro e w13 ⟨rfl, hb⟩; refine ⟨_, rfl, ?_⟩; have n0_ := Aside0.mk (below_step (by repeat (first | (with_reducible first | exact HB.out | apply below_alloc | apply pw_below_drewN | apply below_drew1) | exact HB.out)) hb); clear HB; have HB := n0_; clear n0_; (try clear hb); (try clear hb2); (try clear hk); (try clear hi)) | (go_at_call 51; (with_reducible refine (impl_in.calls a2 0 (a1.size : Int) false _ A8.out).mono ?_); rintro e w' ⟨rfl, ⟨nd, rfl⟩⟩))
        go_ret3
        exact ⟨by first | rfl | (simp [errW_none, errW_some] <;> rfl) | (simp [*, errW_none, errW_some] <;> rfl), by repeat (first | (with_reducible first | exact HB.out | apply below_alloc | apply pw_below_drewN | apply below_drew1) | exact HB.out)⟩
  · replace c5 := Bool.eq_false_iff.mpr c5
    subst c5
    have H1 : (some ((-1), a2, 0)) = some (r1, r2, r3) := by rw [if_neg (show ¬ (false = true) by decide)] at H; exact H
    clear H
    have H := H1
    clear H1
    simp only [Option.some.injEq, Prod.mk.injEq] at H
    obtain ⟨rfl, rfl, rfl⟩ := H
    go_enter Try.func29, Try.ntmps29
    go_wp2_with (first | ((with_reducible refine gate_callee (f := 27) rfl ?_); refine goesL_ (some 10) rfl rfl Try.func27 (by kernel_rfl) rfl #[.slice A0 l0.length c0] rfl (by (try simp only [List.map_toArray, List.map_cons, List.map_nil]); first | done | rfl | (simp only [List.length_drop, List.length_take]; rfl)) ?_; (with_reducible refine (impl_ProgOk.calls k _ _ l0 false _ ?side1 ?side2 A4.out).mono ?_); (case side1 => repeat (first | exact HR0.out | (with_reducible refine Kd.C_alloc ?_ _) | (with_reducible refine Kd.C_drewN ?_ _) | (with_reducible refine Kd.C_drew ?_))); (case side2 => exact HC0.out); rintro e w14 ⟨rfl, hb⟩; refine ⟨_, rfl, ?_⟩; have n0_ := Aside0.mk (below_step (by repeat (first | (with_reducible first | exact HB.out | apply below_alloc | apply pw_below_drewN | apply below_drew1) | exact HB.out)) hb); clear HB; have HB := n0_; clear n0_; (try clear hb); (try clear hb2); (try clear hk); (try clear hi)))
    go_ret3
    exact ⟨by first | rfl | (simp [errW_none, errW_some] <;> rfl) | (simp [*, errW_none, errW_some] <;> rfl), by repeat (first | (with_reducible first | exact HB.out | apply below_alloc | apply pw_below_drewN | apply below_drew1) | exact HB.out)⟩

end Go.Proofs.Ytljaoggbfoimfaa.P

/- The functions of the seat as plain Lean functions, and that the program's functions compute them. Conditions: stated at each theorem. -/
namespace Go.Proofs.Ytljaoggbfoimfaa.P
open Go.RowKit Go.Proofs.YtljaoggbfoimfaaW.PrintWords Go.Proofs.YtljaoggbfoimfaaW.PrintLast Go.Proofs.YtljaoggbfoimfaaW.PrintMore
attribute [local go_sem] max2_int min2_int max_two min_two max_three min_three max_four min_four   -- for this text's walks alone
set_option linter.unusedVariables false
set_option linter.unusedSimpArgs false

/-! ### spec_ProgAt: function 28 -/
def spec_ProgAt.f (k : Nat) (l0 : List (S76)) (a1 : ByteArray) (a2 : Int) : Option (Int × Int × Int) := (spec_ProgOk.f k l0).bind fun t239 => (if t239 = true then (if (a1.size : Int) > 200 then (some ((-1), a2, 0)) else (if a2 < 0 then (some ((-1), a2, 0)) else (if a2 > (a1.size : Int) then (some ((-1), a2, 0)) else ((spec_l10At.f k l0 a1 a2).bind fun bt240 => (some (bt240.1, bt240.2.1, bt240.2.2)))))) else (some ((-1), a2, 0)))
theorem spec_ProgAt.mono : ∀ a0 a1 a2 k, LeO (spec_ProgAt.f k a0 a1 a2) (spec_ProgAt.f (k + 1) a0 a1 a2) := by
  intro a0 a1 a2 k
  unfold spec_ProgAt.f
  repeat' first
      | (with_reducible exact spec_ProgOk.mono _ _)
      | (with_reducible exact spec_l10At.mono _ _ _ _)
      | (with_reducible exact LeO.refl _)
      | (with_reducible exact LeO.none _)
      | (with_reducible refine LeO.ite ?_ ?_)
      | (with_reducible refine LeO.bind ?_ (fun _ => ?_))
      | exact spec_ProgOk.mono _ _
      | exact spec_l10At.mono _ _ _ _
      | exact LeO.none _
      | refine LeO.ite ?_ ?_
      | refine LeO.bind ?_ (fun _ => ?_)
set_option maxHeartbeats 8000000 in
set_option maxRecDepth 100000 in
theorem spec_ProgAt.calls (k : Nat) (A0 : Option Addr) (c0 : Nat) (l0 : List (S76)) (a1 : ByteArray) (a2 : Int) (r1 : Int) (r2 : Int) (r3 : Int) (w : World) (hr0 : Kd.C k76 w A0 l0.length l0) (hc0 : l0.length ≤ c0) (h : spec_ProgAt.f k l0 a1 a2 = some (r1, r2, r3)) :
    Calls Try.prog 28 #[.slice A0 l0.length c0, .string a1, .int .i64 a2] w fun e w' => e = .returned (.tuple #[.int .i64 r1, .int .i64 r2, .int .i64 r3]) ∧ Below w.heap.size w w' := by
  have HR0 := Aside0.mk hr0
  have HC0 := Aside0.mk hc0
  clear hr0 hc0
  have HB := Aside0.mk (Below.refl w.heap.size w)
  have H : ((spec_ProgOk.f k l0).bind fun t239 => (if t239 = true then (if (a1.size : Int) > 200 then (some ((-1), a2, 0)) else (if a2 < 0 then (some ((-1), a2, 0)) else (if a2 > (a1.size : Int) then (some ((-1), a2, 0)) else ((spec_l10At.f k l0 a1 a2).bind fun bt240 => (some (bt240.1, bt240.2.1, bt240.2.2)))))) else (some ((-1), a2, 0)))) = some (r1, r2, r3) := h
  clear h
  replace H := Option.bind_eq_some_iff.mp H
  obtain ⟨t239, A40, H⟩ := H
  replace H : (if t239 = true then (if (a1.size : Int) > 200 then (some ((-1), a2, 0)) else (if a2 < 0 then (some ((-1), a2, 0)) else (if a2 > (a1.size : Int) then (some ((-1), a2, 0)) else ((spec_l10At.f k l0 a1 a2).bind fun bt240 => (some (bt240.1, bt240.2.1, bt240.2.2)))))) else (some ((-1), a2, 0))) = some (r1, r2, r3) := H
  have A4 := Aside0.mk A40
  clear A40
  by_cases c5 : t239 = true
  · subst c5
    have H1 : (if (a1.size : Int) > 200 then (some ((-1), a2, 0)) else (if a2 < 0 then (some ((-1), a2, 0)) else (if a2 > (a1.size : Int) then (some ((-1), a2, 0)) else ((spec_l10At.f k l0 a1 a2).bind fun bt240 => (some (bt240.1, bt240.2.1, bt240.2.2)))))) = some (r1, r2, r3) := by rw [if_pos rfl] at H; exact H
    clear H
    have H := H1
    clear H1
    by_cases c6 : (a1.size : Int) > 200
    · rw [if_pos c6] at H
      have c6b0 : decide (200 < (a1.size : Int)) = true := decide_eq_true c6
      have c6b1 : decide (200 < a1.size) = true := decide_eq_true (by omega)
      clear c6
      simp only [Option.some.injEq, Prod.mk.injEq] at H
      obtain ⟨rfl, rfl, rfl⟩ := H
      go_enter Try.func28, Try.ntmps28
      go_wp2_with (first | ((with_reducible refine gate_callee (f := 26) rfl ?_); refine goesL_ (some 10) rfl rfl Try.func26 (by kernel_rfl) rfl #[.slice A0 l0.length c0] rfl (by (try simp only [List.map_toArray, List.map_cons, List.map_nil]); first | done | rfl | (simp only [List.length_drop, List.length_take]; rfl)) ?_; (with_reducible refine (spec_ProgOk.calls k _ _ l0 true _ ?side1 ?side2 A4.out).mono ?_); (case side1 => repeat (first | exact HR0.out | (with_reducible refine Kd.C_alloc ?_ _) | (with_reducible refine Kd.C_drewN ?_ _) | (with_reducible refine Kd.C_drew ?_))); (case side2 => exact HC0.out); rintro e w7 ⟨rfl, hb⟩; refine ⟨_, rfl, ?_⟩; have n0_ := Aside0.mk (below_step (by repeat (first | (with_reducible first | exact HB.out | apply below_alloc | apply pw_below_drewN | apply below_drew1) | exact HB.out)) hb); clear HB; have HB := n0_; clear n0_; (try clear hb); (try clear hb2); (try clear hk); (try clear hi)))
      go_ret3
      exact ⟨by first | rfl | (simp [errW_none, errW_some] <;> rfl) | (simp [*, errW_none, errW_some] <;> rfl), by repeat (first | (with_reducible first | exact HB.out | apply below_alloc | apply pw_below_drewN | apply below_drew1) | exact HB.out)⟩
    · rw [if_neg c6] at H
      have c6b0 : decide (200 < (a1.size : Int)) = false := decide_eq_false c6
      have c6b1 : decide (200 < a1.size) = false := decide_eq_false (by omega)
      clear c6
      by_cases c8 : a2 < 0
      · rw [if_pos c8] at H
        have c8b0 : decide (a2 < 0) = true := decide_eq_true c8
        clear c8
        simp only [Option.some.injEq, Prod.mk.injEq] at H
        obtain ⟨rfl, rfl, rfl⟩ := H
        go_enter Try.func28, Try.ntmps28
        go_wp2_with (first | ((with_reducible refine gate_callee (f := 26) rfl ?_); refine goesL_ (some 10) rfl rfl Try.func26 (by kernel_rfl) rfl #[.slice A0 l0.length c0] rfl (by (try simp only [List.map_toArray, List.map_cons, List.map_nil]); first | done | rfl | (simp only [List.length_drop, List.length_take]; rfl)) ?_; (with_reducible refine (spec_ProgOk.calls k _ _ l0 true _ ?side1 ?side2 A4.out).mono ?_); (case side1 => repeat (first | exact HR0.out | (with_reducible refine Kd.C_alloc ?_ _) | (with_reducible refine Kd.C_drewN ?_ _) | (with_reducible refine Kd.C_drew ?_))); (case side2 => exact HC0.out); rintro e w9 ⟨rfl, hb⟩; refine ⟨_, rfl, ?_⟩; have n0_ := Aside0.mk (below_step (by repeat (first | (with_reducible first | exact HB.out | apply below_alloc | apply pw_below_drewN | apply below_drew1) | exact HB.out)) hb); clear HB; have HB := n0_; clear n0_; (try clear hb); (try clear hb2); (try clear hk); (try clear hi)))
        go_ret3
        exact ⟨by first | rfl | (simp [errW_none, errW_some] <;> rfl) | (simp [*, errW_none, errW_some] <;> rfl), by repeat (first | (with_reducible first | exact HB.out | apply below_alloc | apply pw_below_drewN | apply below_drew1) | exact HB.out)⟩
      · rw [if_neg c8] at H
        have c8b0 : decide (a2 < 0) = false := decide_eq_false c8
        clear c8
        by_cases c10 : a2 > (a1.size : Int)
        · rw [if_pos c10] at H
          have c10b0 : decide ((a1.size : Int) < a2) = true := decide_eq_true c10
          clear c10
          simp only [Option.some.injEq, Prod.mk.injEq] at H
          obtain ⟨rfl, rfl, rfl⟩ := H
          go_enter Try.func28, Try.ntmps28
          go_wp2_with (first | ((with_reducible refine gate_callee (f := 26) rfl ?_); refine goesL_ (some 10) rfl rfl Try.func26 (by kernel_rfl) rfl #[.slice A0 l0.length c0] rfl (by (try simp only [List.map_toArray, List.map_cons, List.map_nil]); first | done | rfl | (simp only [List.length_drop, List.length_take]; rfl)) ?_; (with_reducible refine (spec_ProgOk.calls k _ _ l0 true _ ?side1 ?side2 A4.out).mono ?_); (case side1 => repeat (first | exact HR0.out | (with_reducible refine Kd.C_alloc ?_ _) | (with_reducible refine Kd.C_drewN ?_ _) | (with_reducible refine Kd.C_drew ?_))); (case side2 => exact HC0.out); rintro e w11 ⟨rfl, hb⟩; refine ⟨_, rfl, ?_⟩; have n0_ := Aside0.mk (below_step (by repeat (first | (with_reducible first | exact HB.out | apply below_alloc | apply pw_below_drewN | apply below_drew1) | exact HB.out)) hb); clear HB; have HB := n0_; clear n0_; (try clear hb); (try clear hb2); (try clear hk); (try clear hi)))
          go_ret3
          exact ⟨by first | rfl | (simp [errW_none, errW_some] <;> rfl) | (simp [*, errW_none, errW_some] <;> rfl), by repeat (first | (with_reducible first | exact HB.out | apply below_alloc | apply pw_below_drewN | apply below_drew1) | exact HB.out)⟩
        · rw [if_neg c10] at H
          have c10b0 : decide ((a1.size : Int) < a2) = false := decide_eq_false c10
          clear c10
          replace H := Option.bind_eq_some_iff.mp H
          obtain ⟨⟨t240, t241, t242⟩, A120, H⟩ := H
          replace H : (some (t240, t241, t242)) = some (r1, r2, r3) := H
          have A12 := Aside0.mk A120
          clear A120
          simp only [Option.some.injEq, Prod.mk.injEq] at H
          obtain ⟨rfl, rfl, rfl⟩ := H
          go_enter Try.func28, Try.ntmps28
          go_wp2_with (first | ((with_reducible refine gate_callee (f := 26) rfl ?_); refine goesL_ (some 10) rfl rfl Try.func26 (by kernel_rfl) rfl #[.slice A0 l0.length c0] rfl (by (try simp only [List.map_toArray, List.map_cons, List.map_nil]); first | done | rfl | (simp only [List.length_drop, List.length_take]; rfl)) ?_; (with_reducible refine (spec_ProgOk.calls k _ _ l0 true _ ?side1 ?side2 A4.out).mono ?_); (case side1 => repeat (first | exact HR0.out | (with_reducible refine Kd.C_alloc ?_ _) | (with_reducible refine Kd.C_drewN ?_ _) | (with_reducible refine Kd.C_drew ?_))); (case side2 => exact HC0.out); rintro e w13 ⟨rfl, hb⟩; refine ⟨_, rfl, ?_⟩; have n0_ := Aside0.mk (below_step (by repeat (first | (with_reducible first | exact HB.out | apply below_alloc | apply pw_below_drewN | apply below_drew1) | exact HB.out)) hb); clear HB; have HB := n0_; clear n0_; (try clear hb); (try clear hb2); (try clear hk); (try clear hi)) | ((with_reducible refine gate_callee (f := 62) rfl ?_); refine goesL_ (some 31) rfl rfl Try.func62 (by kernel_rfl) rfl #[.slice A0 l0.length c0, .string a1, .int .i64 a2] rfl (by (try simp only [List.map_toArray, List.map_cons, List.map_nil]); first | done | rfl | (simp only [List.length_drop, List.length_take]; rfl)) ?_; (with_reducible refine (spec_l10At.calls k _ _ l0 a1 a2 t240 t241 t242 _ ?side1 ?side2 A12.out).mono ?_); (case side1 => repeat (first | exact (Kd.C_below HR0.out HB.out) | (with_reducible refine Kd.C_alloc ?_ _) | (with_reducible refine Kd.C_drewN ?_ _) | (with_reducible refine Kd.C_drew ?_))); (case side2 => exact HC0.out); rintro e w14 ⟨rfl, hb⟩; refine ⟨_, rfl, ?_⟩; have n0_ := Aside0.mk (below_step (by repeat (first | (with_reducible first | exact HB.out | apply below_alloc | apply pw_below_drewN | apply below_drew1) | exact HB.out)) hb); clear HB; have HB := n0_; clear n0_; (try clear hb); (try clear hb2); (try clear hk); (try clear hi)))
          go_ret3
          exact ⟨by first | rfl | (simp [errW_none, errW_some] <;> rfl) | (simp [*, errW_none, errW_some] <;> rfl), by repeat (first | (with_reducible first | exact HB.out | apply below_alloc | apply pw_below_drewN | apply below_drew1) | exact HB.out)⟩
  · replace c5 := Bool.eq_false_iff.mpr c5
    subst c5
    have H1 : (some ((-1), a2, 0)) = some (r1, r2, r3) := by rw [if_neg (show ¬ (false = true) by decide)] at H; exact H
    clear H
    have H := H1
    clear H1
    simp only [Option.some.injEq, Prod.mk.injEq] at H
    obtain ⟨rfl, rfl, rfl⟩ := H
    go_enter Try.func28, Try.ntmps28
    go_wp2_with (first | ((with_reducible refine gate_callee (f := 26) rfl ?_); refine goesL_ (some 10) rfl rfl Try.func26 (by kernel_rfl) rfl #[.slice A0 l0.length c0] rfl (by (try simp only [List.map_toArray, List.map_cons, List.map_nil]); first | done | rfl | (simp only [List.length_drop, List.length_take]; rfl)) ?_; (with_reducible refine (spec_ProgOk.calls k _ _ l0 false _ ?side1 ?side2 A4.out).mono ?_); (case side1 => repeat (first | exact HR0.out | (with_reducible refine Kd.C_alloc ?_ _) | (with_reducible refine Kd.C_drewN ?_ _) | (with_reducible refine Kd.C_drew ?_))); (case side2 => exact HC0.out); rintro e w15 ⟨rfl, hb⟩; refine ⟨_, rfl, ?_⟩; have n0_ := Aside0.mk (below_step (by repeat (first | (with_reducible first | exact HB.out | apply below_alloc | apply pw_below_drewN | apply below_drew1) | exact HB.out)) hb); clear HB; have HB := n0_; clear n0_; (try clear hb); (try clear hb2); (try clear hk); (try clear hi)))
    go_ret3
    exact ⟨by first | rfl | (simp [errW_none, errW_some] <;> rfl) | (simp [*, errW_none, errW_some] <;> rfl), by repeat (first | (with_reducible first | exact HB.out | apply below_alloc | apply pw_below_drewN | apply below_drew1) | exact HB.out)⟩

end Go.Proofs.Ytljaoggbfoimfaa.P

/- Programs: when one is right, and what running one at a place comes to: the program's functions and the reference's answer alike. Conditions: stated at each. -/
set_option linter.unusedVariables false
set_option linter.unusedSimpArgs false
namespace Go.Proofs.Ytljaoggbfoimfaa.P
open Go.Proofs.YtljaoggbfoimfaaW.PrintWords Go.RowKit

abbrev insAt (p : List S76) (i : Int) : S76 := rd_T76 p i
def DoorP (p : List S76) (i : Int) : Prop := 0 ≤ i ∧ i < (p.length : Int) ∧ ((insAt p i).f0 = 2 ∨ ((insAt p i).f0 = 1 ∧ i + 1 < (p.length : Int) ∧ (insAt p (i + 1)).f0 = 2))
def InsP (p : List S76) (i : Int) : Prop :=
  ((insAt p i).f0 = 1 ∧ 0 ≤ (insAt p i).f1 ∧ (insAt p i).f1 ≤ 4 ∧ (insAt p i).f2 = 0 ∧ (insAt p i).f3 = 0 ∧ DoorP p i) ∨
  (((insAt p i).f0 = 2 ∨ (insAt p i).f0 = 4) ∧ (insAt p i).f1 = 0 ∧ (insAt p i).f2 = 0 ∧ (insAt p i).f3 = 0) ∨
  ((insAt p i).f0 = 3 ∧ 0 ≤ (insAt p i).f1 ∧ (insAt p i).f1 ≤ (insAt p i).f2 ∧ (insAt p i).f2 ≤ 255 ∧ DoorP p (insAt p i).f3)
def ProgP (p : List S76) : Prop := 1 ≤ p.length ∧ p.length ≤ 1500 ∧ DoorP p 0 ∧ (insAt p ((p.length : Int) - 1)).f0 = 4 ∧ ∀ i : Nat, i < p.length → InsP p i

theorem in_f (a b c : Int) : impl_in.f a b c = some (yes (b ≤ a ∧ a ≤ c)) := by
  unfold impl_in.f
  by_cases h : a ≥ b
  · rw [if_pos h]
    by_cases h2 : a ≤ c
    · rw [decide_eq_true h2, yes_pos ⟨h, h2⟩]
    · rw [decide_eq_false h2, yes_neg (fun x => h2 x.2)]
  · rw [if_neg h, yes_neg (fun x => h x.1)]

theorem door_spec (p : List S76) (hn : p.length * 32 ≤ 140737488351232) (i : Int) (h0 : 0 ≤ i) (h1 : i < (p.length : Int)) : spec_l10Door.f p i = some (yes (DoorP p i)) := by
  have hw : wrap64 (i + 1) = i + 1 := by unfold wrap64; omega
  unfold spec_l10Door.f
  rw [if_pos h0, if_pos h1, hw]
  by_cases c1 : (rd_T76 p i).f0 = 1
  · rw [if_pos c1]
    by_cases c2 : i + 1 < (p.length : Int)
    · rw [if_pos c2, if_pos (by omega)]
      by_cases c3 : (rd_T76 p (i + 1)).f0 = 2
      · rw [yes_pos ⟨h0, h1, .inr ⟨c1, c2, c3⟩⟩]; simp [c3]
      · rw [yes_neg]
        · simp [c3]
        · rintro ⟨_, _, h | ⟨_, _, h⟩⟩
          · rw [c1] at h; omega
          · exact c3 h
    · rw [if_neg c2, yes_neg]
      rintro ⟨_, _, h | ⟨_, h, _⟩⟩
      · rw [c1] at h; omega
      · exact c2 h
  · rw [if_neg c1]
    by_cases c3 : (rd_T76 p i).f0 = 2
    · rw [yes_pos ⟨h0, h1, .inl c3⟩]; simp [c3]
    · rw [yes_neg]
      · simp [c3]
      · rintro ⟨_, _, h | ⟨h, _, _⟩⟩
        · exact c3 h
        · exact c1 h
theorem door_impl (p : List S76) (hn : p.length * 32 ≤ 140737488351232) (i : Int) : impl_door.f p i = some (yes (DoorP p i)) := by
  have hw1 : wrap64 ((p.length : Int) - 1) = (p.length : Int) - 1 := by unfold wrap64; omega
  unfold impl_door.f
  rw [in_f, Option.bind_some, hw1]
  by_cases h : 0 ≤ i ∧ i ≤ (p.length : Int) - 1
  · obtain ⟨h0, h1⟩ := h
    have hw : wrap64 (i + 1) = i + 1 := by unfold wrap64; omega
    rw [yes_pos ⟨h0, h1⟩, if_pos rfl, if_pos h0, if_pos (by omega), hw]
    by_cases c3 : (rd_T76 p i).f0 = 2
    · rw [if_pos c3, yes_pos ⟨h0, by omega, .inl c3⟩]
    · rw [if_neg c3]
      by_cases c1 : (rd_T76 p i).f0 = 1
      · rw [if_pos c1]
        by_cases c2 : i + 1 < (p.length : Int)
        · rw [if_pos c2, if_pos (by omega)]
          by_cases c4 : (rd_T76 p (i + 1)).f0 = 2
          · rw [yes_pos ⟨h0, by omega, .inr ⟨c1, c2, c4⟩⟩]; simp [c4]
          · rw [yes_neg]
            · simp [c4]
            · rintro ⟨_, _, h | ⟨_, _, h⟩⟩
              · exact c3 h
              · exact c4 h
        · rw [if_neg c2, yes_neg]
          rintro ⟨_, _, h | ⟨_, h, _⟩⟩
          · exact c3 h
          · exact c2 h
      · rw [if_neg c1, yes_neg]
        rintro ⟨_, _, h | ⟨h, _, _⟩⟩
        · exact c3 h
        · exact c1 h
  · rw [yes_neg h, yes_neg]
    · simp
    · rintro ⟨h1, h2, _⟩
      exact h ⟨h1, by omega⟩

theorem ins_impl (p : List S76) (hn : p.length * 32 ≤ 140737488351232) (k : Nat) (i : Nat) (h : i < p.length) : impl_insOk.f (k + 1) p (i : Int) = some (yes (InsP p i)) := by
  unfold impl_insOk.f
  rw [if_pos (by omega), if_pos (by omega)]
  simp only [impl_insOk.j0, in_f, door_impl p hn, Option.bind_some]
  generalize hx : rd_T76 p (i : Int) = x
  have hI : InsP p i ↔ ((x.f0 = 1 ∧ 0 ≤ x.f1 ∧ x.f1 ≤ 4 ∧ x.f2 = 0 ∧ x.f3 = 0 ∧ DoorP p i) ∨ ((x.f0 = 2 ∨ x.f0 = 4) ∧ x.f1 = 0 ∧ x.f2 = 0 ∧ x.f3 = 0) ∨ (x.f0 = 3 ∧ 0 ≤ x.f1 ∧ x.f1 ≤ x.f2 ∧ x.f2 ≤ 255 ∧ DoorP p x.f3)) := by
    unfold InsP insAt; rw [hx]
  rw [yes_congr hI]
  by_cases c1 : x.f0 = 1
  · rw [if_pos c1]
    by_cases c2 : 0 ≤ x.f1 ∧ x.f1 ≤ 4
    · rw [yes_pos c2, if_pos rfl]
      by_cases c3 : x.f2 = 0
      · rw [if_pos c3]
        by_cases c4 : x.f3 = 0
        · rw [if_pos c4]; congr 1; apply yes_congr
          constructor
          · intro hd; exact .inl ⟨c1, c2.1, c2.2, c3, c4, hd⟩
          · rintro (h | h | h)
            · exact h.2.2.2.2.2
            · omega
            · omega
        · rw [if_neg c4, yes_neg]; omega
      · rw [if_neg c3, yes_neg]; omega
    · rw [yes_neg c2, if_neg (by simp), yes_neg]; omega
  · rw [if_neg c1]
    by_cases c2 : x.f0 = 2
    · rw [if_pos c2, if_pos (by simp [c2])]
      by_cases c3 : x.f1 = 0
      · rw [if_pos c3]
        by_cases c4 : x.f2 = 0
        · rw [if_pos c4]
          by_cases c5 : x.f3 = 0
          · rw [yes_pos (.inr (.inl ⟨.inl c2, c3, c4, c5⟩))]; simp [c5]
          · rw [yes_neg (by omega)]; simp [c5]
        · rw [if_neg c4, yes_neg]; omega
      · rw [if_neg c3, yes_neg]; omega
    · rw [if_neg c2]
      by_cases c6 : x.f0 = 4
      · rw [if_pos (by simp [c6])]
        by_cases c3 : x.f1 = 0
        · rw [if_pos c3]
          by_cases c4 : x.f2 = 0
          · rw [if_pos c4]
            by_cases c5 : x.f3 = 0
            · rw [yes_pos (.inr (.inl ⟨.inr c6, c3, c4, c5⟩))]; simp [c5]
            · rw [yes_neg (by omega)]; simp [c5]
          · rw [if_neg c4, yes_neg]; omega
        · rw [if_neg c3, yes_neg]; omega
      · rw [if_neg (by simpa using c6)]
        by_cases c7 : x.f0 = 3
        · rw [if_pos c7]
          by_cases c8 : x.f1 ≥ 0
          · rw [if_pos c8]
            by_cases c9 : x.f1 ≤ x.f2
            · rw [if_pos c9]
              by_cases c10 : x.f2 ≤ 255
              · rw [if_pos c10]; congr 1; apply yes_congr
                constructor
                · intro hd; exact .inr (.inr ⟨c7, c8, c9, c10, hd⟩)
                · rintro (h | h | h)
                  · omega
                  · omega
                  · exact h.2.2.2.2
              · rw [if_neg c10, yes_neg]; omega
            · rw [if_neg c9, yes_neg]; omega
          · rw [if_neg c8, yes_neg]; omega
        · rw [if_neg c7, yes_neg]; omega

theorem ins_spec (k : Nat) (a b c d n : Int) : spec_l10Ins.f (k + 1) a b c d n = some (yes ((a = 1 ∧ 0 ≤ b ∧ b ≤ 4 ∧ c = 0 ∧ d = 0) ∨ ((a = 2 ∨ a = 4) ∧ b = 0 ∧ c = 0 ∧ d = 0) ∨ (a = 3 ∧ 0 ≤ b ∧ b ≤ c ∧ c ≤ 255 ∧ 0 ≤ d ∧ d < n))) := by
  unfold spec_l10Ins.f
  simp only [spec_l10Ins.j0]
  by_cases c1 : a = 1
  · rw [if_pos c1]
    by_cases c2 : b ≥ 0
    · rw [if_pos c2]
      by_cases c3 : b < 5
      · rw [if_pos c3]
        by_cases c4 : c = 0
        · rw [if_pos c4]
          by_cases c5 : d = 0
          · rw [yes_pos (by omega)]; simp [c5]
          · rw [yes_neg (by omega)]; simp [c5]
        · rw [if_neg c4, yes_neg]; omega
      · rw [if_neg c3, yes_neg]; omega
    · rw [if_neg c2, yes_neg]; omega
  · rw [if_neg c1]
    have fin : (if b = 0 then if c = 0 then some (d == 0) else some false else some false) = some (yes (b = 0 ∧ c = 0 ∧ d = 0)) := by
      by_cases c3 : b = 0
      · rw [if_pos c3]
        by_cases c4 : c = 0
        · rw [if_pos c4]
          by_cases c5 : d = 0
          · rw [yes_pos (by omega)]; simp [c5]
          · rw [yes_neg (by omega)]; simp [c5]
        · rw [if_neg c4, yes_neg]; omega
      · rw [if_neg c3, yes_neg]; omega
    by_cases c2 : a = 2
    · rw [if_pos c2, if_pos (by simp [c2]), fin]; congr 1; apply yes_congr; omega
    · rw [if_neg c2]
      by_cases c6 : a = 4
      · rw [if_pos (by simp [c6]), fin]; congr 1; apply yes_congr; omega
      · rw [if_neg (by simpa using c6)]
        by_cases c7 : a = 3
        · rw [if_pos c7]
          by_cases c8 : b ≥ 0
          · rw [if_pos c8]
            by_cases c9 : b ≤ c
            · rw [if_pos c9]
              by_cases c10 : c ≤ 255
              · rw [if_pos c10]
                by_cases c11 : d ≥ 0
                · rw [if_pos c11, yes_decide]; congr 1; apply yes_congr; omega
                · rw [if_neg c11, yes_neg]; omega
              · rw [if_neg c10, yes_neg]; omega
            · rw [if_neg c9, yes_neg]; omega
          · rw [if_neg c8, yes_neg]; omega
        · rw [if_neg c7, yes_neg]; omega

theorem impl_ProgOk_ev (p : List S76) (hn : p.length * 32 ≤ 140737488351232) : Ev (fun k => impl_ProgOk.f k p) (yes (ProgP p)) := by
  have hw1 : wrap64 ((p.length : Int) - 1) = (p.length : Int) - 1 := by unfold wrap64; omega
  unfold impl_ProgOk.f
  simp only [in_f, door_impl p hn, Option.bind_some, hw1]
  have jt : Ev (fun k => impl_ProgOk.j0 k p true) false := Ev.ofSucc (g := fun k => impl_ProgOk.j0 k p true) fun k => by simp [impl_ProgOk.j0]
  by_cases c1 : 1 ≤ (p.length : Int) ∧ (p.length : Int) ≤ 1500
  · simp only [yes_pos c1, if_true]
    by_cases c2 : DoorP p 0
    · simp only [yes_pos c2, if_true]
      simp only [if_pos (show (0 : Int) ≤ (p.length : Int) - 1 by omega), if_pos (show (p.length : Int) - 1 < (p.length : Int) by omega)]
      by_cases c3 : (rd_T76 p ((p.length : Int) - 1)).f0 = 4
      · rw [show ((rd_T76 p ((p.length : Int) - 1)).f0 != 4) = false by simp [c3]]
        refine Ev.succ ?_
        simp only [impl_ProgOk.j0, Bool.false_eq_true, if_false]
        refine (all_ev (fun k i => impl_ProgOk.l0 k p (p.length : Int) i) p.length (fun i => InsP p i) (fun k => ?_) (fun i hi => ⟨1, fun k hk => ?_⟩)).eqs (yes_congr ?_)
        · show impl_ProgOk.l0 (k + 1) p _ _ = _
          simp only [impl_ProgOk.l0]; rw [if_neg (by omega)]
        · obtain ⟨k, rfl⟩ : ∃ m, k = m + 1 := ⟨k - 1, by omega⟩
          show (_ → impl_ProgOk.l0 (k + 1 + 1) p _ _ = impl_ProgOk.l0 (k + 1) p _ _) ∧ (_ → impl_ProgOk.l0 (k + 1 + 1) p _ _ = _)
          rw [impl_ProgOk.l0, if_pos (by omega), ins_impl p hn k i hi, Option.bind_some, wrap_nat (by omega)]
          exact ⟨fun h => by rw [yes_pos h, if_pos rfl], fun h => by rw [yes_neg h, if_neg (by simp)]⟩
        · exact ⟨fun h => ⟨by omega, by omega, c2, c3, h⟩, fun h => h.2.2.2.2⟩
      · rw [show ((rd_T76 p ((p.length : Int) - 1)).f0 != 4) = true by simp [c3]]
        exact jt.eqs (yes_neg fun h => c3 h.2.2.2.1).symm
    · simp only [yes_neg c2, Bool.false_eq_true, if_false]
      exact jt.eqs (yes_neg fun h => c2 h.2.2.1).symm
  · simp only [yes_neg c1, Bool.false_eq_true, if_false]
    exact jt.eqs (yes_neg fun h => c1 ⟨by have := h.1; omega, by have := h.2.1; omega⟩).symm

theorem spec_ProgOk_ev (p : List S76) (hn : p.length * 32 ≤ 140737488351232) : Ev (fun k => spec_ProgOk.f k p) (yes (ProgP p)) := by
  have hw1 : wrap64 ((p.length : Int) - 1) = (p.length : Int) - 1 := by unfold wrap64; omega
  unfold spec_ProgOk.f
  simp only [hw1]
  have jt : Ev (fun k => spec_ProgOk.j0 k p true) false := Ev.ofSucc (g := fun k => spec_ProgOk.j0 k p true) fun k => by simp [spec_ProgOk.j0]
  by_cases c0 : (p.length : Int) < 1
  · simp only [if_pos c0]
    exact jt.eqs (yes_neg fun h => by have := h.1; omega).symm
  simp only [if_neg c0]
  by_cases c1 : (p.length : Int) > 1500
  · simp only [if_pos c1]
    exact jt.eqs (yes_neg fun h => by have := h.2.1; omega).symm
  simp only [if_neg c1]
  simp only [door_spec p hn 0 (by omega) (by omega), Option.bind_some]
  by_cases c2 : DoorP p 0
  · simp only [yes_pos c2, if_true]
    simp only [if_pos (show (0 : Int) ≤ (p.length : Int) - 1 by omega), if_pos (show (p.length : Int) - 1 < (p.length : Int) by omega)]
    by_cases c3 : (rd_T76 p ((p.length : Int) - 1)).f0 = 4
    · rw [show ((rd_T76 p ((p.length : Int) - 1)).f0 != 4) = false by simp [c3]]
      refine Ev.succ ?_
      simp only [spec_ProgOk.j0, Bool.false_eq_true, if_false]
      refine (all_ev (fun k i => spec_ProgOk.l0 k p i) p.length (fun i => InsP p i) (fun k => ?_) (fun i hi => ⟨1, fun k hk => ?_⟩)).eqs (yes_congr ?_)
      · show spec_ProgOk.l0 (k + 1) p _ = _
        simp only [spec_ProgOk.l0]; rw [if_neg (by omega)]
      · obtain ⟨k, rfl⟩ : ∃ m, k = m + 1 := ⟨k - 1, by omega⟩
        show (_ → spec_ProgOk.l0 (k + 1 + 1) p _ = spec_ProgOk.l0 (k + 1) p _) ∧ (_ → spec_ProgOk.l0 (k + 1 + 1) p _ = _)
        rw [spec_ProgOk.l0, if_pos (by omega), if_pos (by omega), ins_spec, Option.bind_some, wrap_nat (by omega), door_spec p hn i (by omega) (by omega)]
        simp only [Option.bind_some]
        generalize hx : rd_T76 p (i : Int) = x
        have hI : InsP p i ↔ ((x.f0 = 1 ∧ 0 ≤ x.f1 ∧ x.f1 ≤ 4 ∧ x.f2 = 0 ∧ x.f3 = 0 ∧ DoorP p i) ∨ ((x.f0 = 2 ∨ x.f0 = 4) ∧ x.f1 = 0 ∧ x.f2 = 0 ∧ x.f3 = 0) ∨ (x.f0 = 3 ∧ 0 ≤ x.f1 ∧ x.f1 ≤ x.f2 ∧ x.f2 ≤ 255 ∧ DoorP p x.f3)) := by
          unfold InsP insAt; rw [hx]
        rw [hI]
        have hD : DoorP p x.f3 → 0 ≤ x.f3 ∧ x.f3 < (p.length : Int) := fun h => ⟨h.1, h.2.1⟩
        by_cases q : (x.f0 = 1 ∧ 0 ≤ x.f1 ∧ x.f1 ≤ 4 ∧ x.f2 = 0 ∧ x.f3 = 0) ∨ ((x.f0 = 2 ∨ x.f0 = 4) ∧ x.f1 = 0 ∧ x.f2 = 0 ∧ x.f3 = 0) ∨ (x.f0 = 3 ∧ 0 ≤ x.f1 ∧ x.f1 ≤ x.f2 ∧ x.f2 ≤ 255 ∧ 0 ≤ x.f3 ∧ x.f3 < (p.length : Int))
        · rw [yes_pos q, if_pos rfl]
          by_cases c3 : x.f0 = 3
          · rw [if_pos c3, door_spec p hn x.f3 (by omega) (by omega), Option.bind_some]
            by_cases d3 : DoorP p x.f3
            · rw [yes_pos d3, if_pos rfl, if_neg (by omega)]
              exact ⟨fun _ => rfl, fun h => absurd (.inr (.inr ⟨c3, by omega, by omega, by omega, d3⟩)) h⟩
            · rw [yes_neg d3, if_neg (by simp)]
              refine ⟨fun h => ?_, fun _ => rfl⟩
              rcases h with h | h | h
              · omega
              · omega
              · exact absurd h.2.2.2.2 d3
          · rw [if_neg c3]
            by_cases c1 : x.f0 = 1
            · rw [if_pos c1]
              by_cases d1 : DoorP p i
              · rw [yes_pos d1, if_pos rfl]
                exact ⟨fun _ => rfl, fun h => absurd (.inl ⟨c1, by omega, by omega, by omega, by omega, d1⟩) h⟩
              · rw [yes_neg d1, if_neg (by simp)]
                refine ⟨fun h => ?_, fun _ => rfl⟩
                rcases h with h | h | h
                · exact absurd h.2.2.2.2.2 d1
                · omega
                · omega
            · rw [if_neg c1]
              exact ⟨fun _ => rfl, fun h => absurd (.inr (.inl (by omega))) h⟩
        · rw [yes_neg q, if_neg (by simp)]
          refine ⟨fun h => absurd ?_ q, fun _ => rfl⟩
          rcases h with h | h | h
          · exact .inl ⟨h.1, h.2.1, h.2.2.1, h.2.2.2.1, h.2.2.2.2.1⟩
          · exact .inr (.inl h)
          · exact .inr (.inr ⟨h.1, h.2.1, h.2.2.1, h.2.2.2.1, hD h.2.2.2.2⟩)
      · exact ⟨fun h => ⟨by omega, by omega, c2, c3, h⟩, fun h => h.2.2.2.2⟩
    · rw [show ((rd_T76 p ((p.length : Int) - 1)).f0 != 4) = true by simp [c3]]
      exact jt.eqs (yes_neg fun h => c3 h.2.2.2.1).symm
  · simp only [yes_neg c2, Bool.false_eq_true, if_false]
    exact jt.eqs (yes_neg fun h => c2 h.2.2.1).symm

/-! ### running -/
theorem insP_at {p : List S76} (h : ProgP p) (i : Int) (h0 : 0 ≤ i) (h1 : i < (p.length : Int)) : InsP p i := by
  have := h.2.2.2.2 i.toNat (by omega)
  rwa [Int.toNat_of_nonneg h0] at this
theorem run_same {p : List S76} (hp : ProgP p) (t : ByteArray) (at_ : Int) : ∀ (k : Nat) (rule tt i b st pc : Int), 0 ≤ pc → spec_l10At.l0 k p t at_ rule tt i b st pc = impl_progAt.l0 k p t at_ rule tt st i b pc
  | 0, _, _, _, _, _, _, _ => rfl
  | k + 1, rule, tt, i, b, st, pc, h0 => by
    have ih := run_same hp t at_ k
    simp only [spec_l10At.l0, impl_progAt.l0, in_f, Option.bind_some]
    by_cases h1 : pc < (p.length : Int)
    · have hl := hp.2.1
      have hw : wrap64 (pc + 1) = pc + 1 := by unfold wrap64; omega
      have hI := insP_at hp pc h0 h1
      unfold InsP insAt at hI
      rw [if_pos h1, if_pos h1, if_pos h0, if_pos h0, hw]
      generalize hx : rd_T76 p pc = x at hI ⊢
      by_cases c1 : x.f0 = 1
      · rw [if_pos c1, if_pos c1, ih _ _ _ _ _ _ (by omega), ih _ _ _ _ _ _ (by omega)]
      · rw [if_neg c1, if_neg c1]
        by_cases c2 : x.f0 = 2
        · rw [if_pos c2, if_pos c2, ih _ _ _ _ _ _ (by omega)]
        · rw [if_neg c2, if_neg c2]
          by_cases c3 : x.f0 = 3
          · have hd : DoorP p x.f3 := by
              rcases hI with h | h | h
              · omega
              · omega
              · exact h.2.2.2.2
            have h30 := hd.1
            have h31 := hd.2.1
            have hw3 : wrap64 (wrap64 (x.f3 - 1) + 1) = x.f3 := by unfold wrap64; omega
            rw [if_pos c3, if_pos c3, hw3, ih _ _ _ _ _ _ (by omega), ih _ _ _ _ _ _ (by omega)]
            by_cases d1 : b ≥ x.f1
            · rw [if_pos d1]
              by_cases d2 : b ≤ x.f2
              · rw [if_pos d2, yes_pos ⟨d1, d2⟩, if_pos rfl]
              · rw [if_neg d2, yes_neg (fun h => d2 h.2), if_neg (by simp)]
            · rw [if_neg d1, yes_neg (fun h => d1 h.1), if_neg (by simp)]
          · rw [if_neg c3, if_neg c3]
            have c4 : x.f0 = 4 := by
              rcases hI with h | h | h <;> omega
            rw [if_pos c4]
    · rw [if_neg h1, if_neg h1]

theorem run_some {p : List S76} (hp : ProgP p) (t : ByteArray) (ht : t.size ≤ 200) (at_ : Int) : ∀ (N : Nat) (fresh : Bool) (d : Nat) (rule tt i b st pc : Int), 0 ≤ pc → pc ≤ (p.length : Int) → 0 ≤ i → i ≤ (t.size : Int) → (d : Int) = (t.size : Int) - i →
    (fresh = true → pc < (p.length : Int) ∧ DoorP p pc) → d * (2 * p.length + 2) + (if fresh = true then 0 else p.length + 1) + (p.length - pc.toNat) < N → ∃ r, Ev (fun k => impl_progAt.l0 k p t at_ rule tt st i b pc) r
  | 0, _, _, _, _, _, _, _, _, _, _, _, _, _, _, h => absurd h (Nat.not_lt_zero _)
  | N + 1, fresh, d, rule, tt, i, b, st, pc, h0, h1, hi0, hi1, hd, hf, hN => by
    have ih := run_some hp t ht at_ N
    have hl := hp.2.1
    by_cases h2 : pc < (p.length : Int)
    · have hw : wrap64 (pc + 1) = pc + 1 := by unfold wrap64; omega
      have hI := insP_at hp pc h0 h2
      unfold InsP insAt at hI
      have step : ∀ {g : Nat → Option (Int × Int × Int)}, (∀ k, impl_progAt.l0 (k + 1) p t at_ rule tt st i b pc = g k) → (∃ r, Ev g r) → ∃ r, Ev (fun k => impl_progAt.l0 k p t at_ rule tt st i b pc) r := fun hg ⟨r, hr⟩ => ⟨r, Ev.step hg hr⟩
      by_cases c1 : (rd_T76 p pc).f0 = 1
      · have hf' : fresh = true → pc + 1 < (p.length : Int) ∧ DoorP p (pc + 1) := by
          intro h
          obtain ⟨_, _, _, h4⟩ := hf h
          rcases h4 with h4 | ⟨_, h5, h6⟩
          · unfold insAt at h4; omega
          · exact ⟨h5, by omega, h5, .inl h6⟩
        have hNN : d * (2 * p.length + 2) + (if fresh = true then 0 else p.length + 1) + (p.length - (pc + 1).toNat) < N := by omega
        by_cases c2 : i > at_
        · refine step (fun k => ?_) (ih fresh d (rd_T76 p pc).f1 i i b (wrap64 (st + 1)) (pc + 1) (by omega) (by omega) hi0 hi1 hd hf' hNN)
          simp only [impl_progAt.l0]
          rw [if_pos h2, if_pos h0, if_pos c1, if_pos c2, hw]
        · refine step (fun k => ?_) (ih fresh d rule tt i b (wrap64 (st + 1)) (pc + 1) (by omega) (by omega) hi0 hi1 hd hf' hNN)
          simp only [impl_progAt.l0]
          rw [if_pos h2, if_pos h0, if_pos c1, if_neg c2, hw]
      · by_cases c2 : (rd_T76 p pc).f0 = 2
        · by_cases c3 : i ≥ (t.size : Int)
          · refine step (g := fun _ => some (rule, tt, wrap64 (st + 1))) (fun k => ?_) ⟨_, Ev.now _⟩
            simp only [impl_progAt.l0]
            rw [if_pos h2, if_pos h0, if_neg c1, if_pos c2, if_pos c3]
          · obtain ⟨d, rfl⟩ : ∃ m, d = m + 1 := ⟨d - 1, by omega⟩
            have hm : (d + 1) * (2 * p.length + 2) = d * (2 * p.length + 2) + (2 * p.length + 2) := Nat.succ_mul _ _
            have hwi : wrap64 (i + 1) = i + 1 := by unfold wrap64; omega
            refine step (fun k => ?_) (ih false d rule tt (i + 1) (wrap64 (bt t i)) (wrap64 (st + 1)) (pc + 1) (by omega) (by omega) (by omega) (by omega) (by omega) (fun h => by cases h) (by
              rw [if_neg (by simp)]
              split at hN <;> omega))
            simp only [impl_progAt.l0]
            rw [if_pos h2, if_pos h0, if_neg c1, if_pos c2, if_neg c3, if_pos hi0, if_pos (by omega), hw, hwi]
        · have hnf : fresh = false := by
            rcases Bool.eq_false_or_eq_true fresh with h | h
            · obtain ⟨_, _, _, h4⟩ := hf h
              unfold insAt at h4; omega
            · exact h
          subst hnf
          rw [if_neg (by simp)] at hN
          by_cases c3 : (rd_T76 p pc).f0 = 3
          · have hd3 : DoorP p (rd_T76 p pc).f3 := by
              rcases hI with h | h | h
              · omega
              · omega
              · exact h.2.2.2.2
            have h30 := hd3.1
            have h31 := hd3.2.1
            have hw3 : wrap64 (wrap64 ((rd_T76 p pc).f3 - 1) + 1) = (rd_T76 p pc).f3 := by unfold wrap64; omega
            by_cases c4 : (rd_T76 p pc).f1 ≤ b ∧ b ≤ (rd_T76 p pc).f2
            · refine step (fun k => ?_) (ih true d rule tt i b (wrap64 (st + 1)) (rd_T76 p pc).f3 h30 (by omega) hi0 hi1 hd (fun _ => ⟨h31, hd3⟩) (by rw [if_pos rfl]; omega))
              simp only [impl_progAt.l0, in_f, Option.bind_some]
              rw [if_pos h2, if_pos h0, if_neg c1, if_neg c2, if_pos c3, yes_pos c4, if_pos rfl, hw3]
            · refine step (fun k => ?_) (ih false d rule tt i b (wrap64 (st + 1)) (pc + 1) (by omega) (by omega) hi0 hi1 hd (fun h => by cases h) (by rw [if_neg (by simp)]; omega))
              simp only [impl_progAt.l0, in_f, Option.bind_some]
              rw [if_pos h2, if_pos h0, if_neg c1, if_neg c2, if_pos c3, yes_neg c4, if_neg (by simp), hw]
          · have c4 : (rd_T76 p pc).f0 = 4 := by rcases hI with h | h | h <;> omega
            refine step (g := fun _ => some (rule, tt, wrap64 (st + 1))) (fun k => ?_) ⟨_, Ev.now _⟩
            simp only [impl_progAt.l0]
            rw [if_pos h2, if_pos h0, if_neg c1, if_neg c2, if_neg c3, if_pos c4]
    · refine ⟨(rule, tt, st), Ev.ofSucc (g := fun k => impl_progAt.l0 k p t at_ rule tt st i b pc) (fun k => ?_)⟩
      simp only [impl_progAt.l0]; rw [if_neg h2]

/-- What running a program at a place comes tt, for both. -/
theorem progAt_ev {p : List S76} (hp : ProgP p) (t : ByteArray) (ht : t.size ≤ 200) (a : Int) (h0 : 0 ≤ a) (h1 : a ≤ (t.size : Int)) : ∃ r, Ev (fun k => impl_progAt.f k p t a) r ∧ Ev (fun k => spec_l10At.f k p t a) r := by
  obtain ⟨r, hr⟩ := run_some hp t ht a _ false ((t.size : Int) - a).toNat (-1) a a (-1) 0 0 (by omega) (by omega) h0 h1 (by omega) (fun h => by cases h) (Nat.lt_succ_self _)
  refine ⟨r, hr, ?_⟩
  unfold spec_l10At.f
  simp only [run_same hp t a _ _ _ _ _ _ _ (show (0 : Int) ≤ 0 by omega)]
  exact hr
theorem ProgAt_ev (p : List S76) (hn : p.length * 32 ≤ 140737488351232) (t : ByteArray) (a : Int) : ∃ r, Ev (fun k => impl_ProgAt.f k p t a) r ∧ Ev (fun k => spec_ProgAt.f k p t a) r := by
  have hI := impl_ProgOk_ev p hn
  have hS := spec_ProgOk_ev p hn
  have e0 : (∃ r : Int × Int × Int, Ev (fun k => if yes (ProgP p) = true then (if (t.size : Int) > 200 then (some ((-1), a, 0)) else ((impl_in.f a 0 (t.size : Int)).bind fun t247 => (if t247 = true then ((impl_progAt.f k p t a).bind fun bt248 => (some (bt248.1, bt248.2.1, bt248.2.2))) else (some ((-1), a, 0))))) else (some ((-1), a, 0))) r ∧
      Ev (fun k => if yes (ProgP p) = true then (if (t.size : Int) > 200 then (some ((-1), a, 0)) else (if a < 0 then (some ((-1), a, 0)) else (if a > (t.size : Int) then (some ((-1), a, 0)) else ((spec_l10At.f k p t a).bind fun bt240 => (some (bt240.1, bt240.2.1, bt240.2.2)))))) else (some ((-1), a, 0))) r) := by
    by_cases c0 : ProgP p
    · simp only [yes_pos c0, if_true]
      by_cases c1 : (t.size : Int) > 200
      · simp only [if_pos c1]; exact ⟨_, Ev.now _, Ev.now _⟩
      · simp only [if_neg c1, in_f, Option.bind_some]
        by_cases c2 : 0 ≤ a ∧ a ≤ (t.size : Int)
        · simp only [yes_pos c2, if_true, if_neg (show ¬ a < 0 by omega), if_neg (show ¬ a > (t.size : Int) by omega)]
          obtain ⟨r, h1, h2⟩ := progAt_ev c0 t (by omega) a c2.1 c2.2
          exact ⟨_, Ev.bind h1 (Ev.now _), Ev.bind h2 (Ev.now _)⟩
        · simp only [yes_neg c2, Bool.false_eq_true, if_false]
          refine ⟨_, Ev.now _, ?_⟩
          by_cases c3 : a < 0
          · simp only [if_pos c3]; exact Ev.now _
          · simp only [if_neg c3, if_pos (show a > (t.size : Int) by omega)]; exact Ev.now _
    · simp only [yes_neg c0, Bool.false_eq_true, if_false]
      exact ⟨_, Ev.now _, Ev.now _⟩
  obtain ⟨r, h1, h2⟩ := e0
  exact ⟨r, Ev.bind hI h1, Ev.bind hS h2⟩
end Go.Proofs.Ytljaoggbfoimfaa.P

/- Running a right program over a whole text: the program's and the reference's tokens and end are the same. Conditions: stated at each. -/
set_option linter.unusedVariables false
set_option linter.unusedSimpArgs false
namespace Go.Proofs.Ytljaoggbfoimfaa.P
open Go.Proofs.YtljaoggbfoimfaaW.PrintWords Go.RowKit

theorem run_bound (p : List S76) (t : ByteArray) (ht : t.size ≤ 200) (a : Int) : ∀ (k : Nat) (rule tt i b st pc : Int) (r : Int × Int × Int), 0 ≤ i → i ≤ (t.size : Int) → (rule < 0 ∨ (a < tt ∧ tt ≤ (t.size : Int))) →
    impl_progAt.l0 k p t a rule tt st i b pc = some r → r.1 < 0 ∨ (a < r.2.1 ∧ r.2.1 ≤ (t.size : Int))
  | 0, _, _, _, _, _, _, _, _, _, _, h => by simp [impl_progAt.l0] at h
  | k + 1, rule, tt, i, b, st, pc, r, h0, h1, hv, h => by
    have ih := run_bound p t ht a k
    have hw : i < (t.size : Int) → wrap64 (i + 1) = i + 1 := fun h => by unfold wrap64; omega
    simp only [impl_progAt.l0, in_f, Option.bind_some] at h
    by_cases c1 : pc < (p.length : Int)
    · rw [if_pos c1] at h
      by_cases c2 : 0 ≤ pc
      · rw [if_pos c2] at h
        by_cases d1 : (rd_T76 p pc).f0 = 1
        · rw [if_pos d1] at h
          by_cases d2 : i > a
          · rw [if_pos d2] at h
            exact ih _ _ _ _ _ _ _ h0 h1 (.inr ⟨by omega, h1⟩) h
          · rw [if_neg d2] at h
            exact ih _ _ _ _ _ _ _ h0 h1 hv h
        · rw [if_neg d1] at h
          by_cases d2 : (rd_T76 p pc).f0 = 2
          · rw [if_pos d2] at h
            by_cases d3 : i ≥ (t.size : Int)
            · rw [if_pos d3] at h
              cases h
              exact hv
            · rw [if_neg d3, if_pos h0, if_pos (by omega), hw (by omega)] at h
              exact ih _ _ _ _ _ _ _ (by omega) (by omega) hv h
          · rw [if_neg d2] at h
            by_cases d3 : (rd_T76 p pc).f0 = 3
            · rw [if_pos d3] at h
              by_cases d4 : (rd_T76 p pc).f1 ≤ b ∧ b ≤ (rd_T76 p pc).f2
              · rw [yes_pos d4, if_pos rfl] at h
                exact ih _ _ _ _ _ _ _ h0 h1 hv h
              · rw [yes_neg d4, if_neg (by simp)] at h
                exact ih _ _ _ _ _ _ _ h0 h1 hv h
            · rw [if_neg d3] at h
              by_cases d4 : (rd_T76 p pc).f0 = 4
              · rw [if_pos d4] at h
                cases h
                exact hv
              · rw [if_neg d4] at h
                exact ih _ _ _ _ _ _ _ h0 h1 hv h
      · rw [if_neg c2] at h; cases h
    · rw [if_neg c1] at h
      cases h
      exact hv

theorem progRun_loop {p : List S76} (hp : ProgP p) (t : ByteArray) (ht : t.size ≤ 200) : ∀ (d : Nat) (out : List S71) (a : Int), 0 ≤ a → a ≤ (t.size : Int) → (t.size : Int) - a ≤ d → (out.length : Int) ≤ a →
    ∃ r : List S71 × Int, Ev (fun k => impl_ProgRun.l0 k p t out a) r ∧ Ev (fun k => spec_ProgRun.l0 k p t out a) r ∧ (r.1.length : Int) ≤ (t.size : Int) := by
  intro d
  induction d with
  | zero =>
    intro out a h0 h1 hd hl
    refine ⟨(out, a), Ev.ofSucc (g := fun k => impl_ProgRun.l0 k p t out a) (fun k => ?_), Ev.ofSucc (g := fun k => spec_ProgRun.l0 k p t out a) (fun k => ?_), by show (out.length : Int) ≤ _; omega⟩
    · simp only [impl_ProgRun.l0, impl_copied_impl_Token.f]
      rw [if_neg (by omega), if_pos (by omega)]; rfl
    · simp only [spec_ProgRun.l0]
      rw [if_neg (by omega)]
  | succ d ih =>
    intro out a h0 h1 hd hl
    by_cases c : a < (t.size : Int)
    · obtain ⟨⟨q0, q1, q2⟩, hi, hs⟩ := progAt_ev hp t ht a h0 h1
      have hb : q0 < 0 ∨ (a < q1 ∧ q1 ≤ (t.size : Int)) := by
        obtain ⟨K, hK⟩ := hi
        have := hK K (Nat.le_refl _)
        exact run_bound p t ht a K _ _ _ _ _ _ _ h0 h1 (.inl (by omega)) this
      by_cases c2 : q0 < 0
      · refine ⟨(out, a), Ev.succ ?_, Ev.succ ?_, by show (out.length : Int) ≤ _; omega⟩
        · simp only [impl_ProgRun.l0, if_pos c]
          refine Ev.bind hi ?_
          simp only [if_pos c2, impl_copied_impl_Token.f, if_pos (show out.length * 24 ≤ 140737488355328 by omega), Option.bind_some]
          exact Ev.now _
        · simp only [spec_ProgRun.l0, if_pos c]
          refine Ev.bind hs ?_
          simp only [if_pos c2]
          exact Ev.now _
      · have hq : a < q1 ∧ q1 ≤ (t.size : Int) := by omega
        obtain ⟨r, e1, e2, e3⟩ := ih (out ++ [⟨q0, a, q1⟩]) q1 (by omega) hq.2 (by omega) (by simp; omega)
        refine ⟨r, Ev.succ ?_, Ev.succ ?_, e3⟩
        · simp only [impl_ProgRun.l0, if_pos c]
          refine Ev.bind hi ?_
          simp only [if_neg c2, if_pos (show out.length < 5864062014805 by omega)]
          exact e1
        · simp only [spec_ProgRun.l0, if_pos c]
          refine Ev.bind hs ?_
          simp only [if_neg c2, if_pos (show out.length < 5864062014805 by omega)]
          exact e2
    · refine ⟨(out, a), Ev.ofSucc (g := fun k => impl_ProgRun.l0 k p t out a) (fun k => ?_), Ev.ofSucc (g := fun k => spec_ProgRun.l0 k p t out a) (fun k => ?_), by show (out.length : Int) ≤ _; omega⟩
      · simp only [impl_ProgRun.l0, impl_copied_impl_Token.f]
        rw [if_neg c, if_pos (by omega)]; rfl
      · simp only [spec_ProgRun.l0]
        rw [if_neg c]

theorem ProgRun_ev (p : List S76) (hn : p.length * 32 ≤ 140737488351232) (t : ByteArray) : ∃ r : List S71 × Int, Ev (fun k => impl_ProgRun.f k p t) r ∧ Ev (fun k => spec_ProgRun.f k p t) r ∧ (r.1.length : Int) ≤ 200 := by
  have hI := impl_ProgOk_ev p hn
  have hS := spec_ProgOk_ev p hn
  have ji : Ev (fun k => impl_ProgRun.j0 k p t true) (([] : List S71), 0) := Ev.ofSucc (g := fun k => impl_ProgRun.j0 k p t true) fun k => by simp [impl_ProgRun.j0]
  have js : Ev (fun k => spec_ProgRun.j0 k p t [] true) (([] : List S71), 0) := Ev.ofSucc (g := fun k => spec_ProgRun.j0 k p t [] true) fun k => by simp [spec_ProgRun.j0]
  by_cases c0 : ProgP p
  · rw [yes_pos c0] at hI hS
    by_cases c1 : (t.size : Int) > 200
    · refine ⟨([], 0), ?_, ?_, by simp⟩
      · unfold impl_ProgRun.f
        refine Ev.bind hI ?_
        simp only [if_true, decide_eq_true c1]
        exact ji
      · unfold spec_ProgRun.f
        simp only [Option.bind_some]
        refine Ev.bind hS ?_
        simp only [if_true, decide_eq_true c1]
        exact js
    · obtain ⟨r, h1, h2, h3⟩ := progRun_loop c0 t (by omega) t.size [] 0 (by omega) (by omega) (by omega) (by simp)
      refine ⟨r, ?_, ?_, by omega⟩
      · unfold impl_ProgRun.f
        refine Ev.bind hI ?_
        simp only [if_true, decide_eq_false c1]
        refine Ev.succ ?_
        simp only [impl_ProgRun.j0, Bool.false_eq_true, if_false]
        exact h1
      · unfold spec_ProgRun.f
        simp only [Option.bind_some]
        refine Ev.bind hS ?_
        simp only [if_true, decide_eq_false c1]
        refine Ev.succ ?_
        simp only [spec_ProgRun.j0, Bool.false_eq_true, if_false]
        exact h2
  · rw [yes_neg c0] at hI hS
    refine ⟨([], 0), ?_, ?_, by simp⟩
    · unfold impl_ProgRun.f
      refine Ev.bind hI ?_
      simp only [Bool.false_eq_true, if_false]
      exact ji
    · unfold spec_ProgRun.f
      simp only [Option.bind_some]
      refine Ev.bind hS ?_
      simp only [Bool.false_eq_true, if_false]
      exact js
end Go.Proofs.Ytljaoggbfoimfaa.P

/- The functions of the seat as plain Lean functions, and that the program's functions compute them. Conditions: stated at each theorem. -/
namespace Go.Proofs.Ytljaoggbfoimfaa.P
open Go.RowKit Go.Proofs.YtljaoggbfoimfaaW.PrintWords Go.Proofs.YtljaoggbfoimfaaW.PrintLast Go.Proofs.YtljaoggbfoimfaaW.PrintMore
attribute [local go_sem] max2_int min2_int max_two min_two max_three min_three max_four min_four   -- for this text's walks alone
set_option linter.unusedVariables false
set_option linter.unusedSimpArgs false

/-! ### laws_toToken: function 52 -/
def laws_toToken.f (a0_0 : Int) (a0_1 : Int) (a0_2 : Int) : Option (Int × Int × Int) := some (a0_0, a0_1, a0_2)
set_option maxHeartbeats 8000000 in
set_option maxRecDepth 100000 in
theorem laws_toToken.calls (a0_0 : Int) (a0_1 : Int) (a0_2 : Int) (r1 : Int) (r2 : Int) (r3 : Int) (w : World) (h : laws_toToken.f a0_0 a0_1 a0_2 = some (r1, r2, r3)) :
    Calls Try.prog 52 #[.agg #[.int .i64 a0_0, .int .i64 a0_1, .int .i64 a0_2]] w fun e w' => e = .returned (.agg #[.int .i64 r1, .int .i64 r2, .int .i64 r3]) ∧ Below w.heap.size w w' := by
  have hu73 := Try.underlying73
  have hu71 := Try.underlying71
  have HB := Aside0.mk (Below.refl w.heap.size w)
  have H : (some (a0_0, a0_1, a0_2)) = some (r1, r2, r3) := h
  clear h
  simp only [Option.some.injEq, Prod.mk.injEq] at H
  obtain ⟨rfl, rfl, rfl⟩ := H
  go_enter Try.func52, Try.ntmps52
  go_wp2_with (first | ((with_reducible refine gate_dst (N := 1) rfl ?_); refine box_event ?hg (N := 1) ?hd (cs := #[.int .i64 a0_0, .int .i64 a0_1, .int .i64 a0_2]) (t := 73) ?hr ?_; (case hd => rfl); (case hg => rfl); (case hr => first | (go_simp; done) | (go_simp; rfl)); intro gb107 hg w2 hbox hb; have n0_ := Aside0.mk (below_step (by repeat (first | (with_reducible first | exact HB.out | apply below_alloc | apply pw_below_drewN | apply below_drew1) | exact HB.out)) hb); have n1_ := Aside0.mk (hbox); have n2_ := Aside0.mk ((by rw [hg]; exact (below_size (by repeat (first | (with_reducible first | exact HB.out | apply below_alloc | apply pw_below_drewN | apply below_drew1) | exact HB.out))) : w.heap.size ≤ gb107)); have n3_ := Aside0.mk ((by rw [hg]; exact (below_size (by repeat (first | (with_reducible first | exact HB.out | apply below_alloc | apply pw_below_drewN | apply below_drew1) | exact HB.out))) : w.heap.size ≤ gb107)); clear HB; have HB := n0_; have BK107 := n1_; have GW107 := n2_; have GE107 := n3_; clear n0_ n1_ n2_ n3_; clear hb hbox hg) | ((with_reducible refine gate_dst (N := 2) rfl ?_); refine box_event ?hg (N := 2) ?hd (cs := #[.int .i64 0, .int .i64 0, .int .i64 0]) (t := 71) ?hr ?_; (case hd => rfl); (case hg => rfl); (case hr => first | (go_simp; done) | (go_simp; rfl)); intro gb108 hg w3 hbox hb; have n0_ := Aside0.mk (blk_below (g := gb107) (o := .cells #[.int .i64 a0_0, .int .i64 a0_1, .int .i64 a0_2] 73 (0, 0)) (by (with_reducible repeat (first | refine blk_drewN ?_ _ | refine blk_drew ?_ | refine blk_alloc ?_ _)); exact BK107.out) hb); have n1_ := Aside0.mk (below_step (by repeat (first | (with_reducible first | exact HB.out | apply below_alloc | apply pw_below_drewN | apply below_drew1 | refine below_set ?_ GE107.out) | exact HB.out)) hb); have n2_ := Aside0.mk (hbox); have n3_ := Aside0.mk ((by rw [hg]; exact (below_size (by repeat (first | (with_reducible first | exact HB.out | apply below_alloc | apply pw_below_drewN | apply below_drew1 | refine below_set ?_ GE107.out) | exact HB.out))) : w.heap.size ≤ gb108)); have n4_ := Aside0.mk ((by rw [hg]; exact (below_size (by repeat (first | (with_reducible first | exact HB.out | apply below_alloc | apply pw_below_drewN | apply below_drew1 | refine below_set ?_ GE107.out) | exact HB.out))) : w.heap.size ≤ gb108)); have n5_ := Aside0.mk ((by rw [hg]; exact Nat.ne_of_lt (blk_lt (g := gb107) (o := .cells #[.int .i64 a0_0, .int .i64 a0_1, .int .i64 a0_2] 73 (0, 0)) (by (with_reducible repeat (first | refine blk_drewN ?_ _ | refine blk_drew ?_ | refine blk_alloc ?_ _)); exact BK107.out)) : gb107 ≠ gb108)); have n6_ := Aside0.mk ((by rw [hg]; exact Nat.ne_of_gt (blk_lt (g := gb107) (o := .cells #[.int .i64 a0_0, .int .i64 a0_1, .int .i64 a0_2] 73 (0, 0)) (by (with_reducible repeat (first | refine blk_drewN ?_ _ | refine blk_drew ?_ | refine blk_alloc ?_ _)); exact BK107.out)) : gb108 ≠ gb107)); clear BK107; clear HB; have BK107 := n0_; have HB := n1_; have BK108 := n2_; have GW108 := n3_; have GE108 := n4_; have NB107_108 := n5_; have NB108_107 := n6_; clear n0_ n1_ n2_ n3_ n4_ n5_ n6_; clear hb hbox hg) | ((with_reducible refine gate_dst (N := 3) rfl ?_); refine box_event ?hg (N := 3) ?hd (cs := #[.int .i64 0, .int .i64 0, .int .i64 0]) (t := 71) ?hr ?_; (case hd => rfl); (case hg => rfl); (case hr => first | (go_simp; done) | (go_simp; rfl)); intro gb109 hg w4 hbox hb; have n0_ := Aside0.mk (blk_below (g := gb107) (o := .cells #[.int .i64 a0_0, .int .i64 a0_1, .int .i64 a0_2] 73 (0, 0)) (by (with_reducible repeat (first | refine blk_drewN ?_ _ | refine blk_drew ?_ | refine blk_alloc ?_ _)); exact BK107.out) hb); have n1_ := Aside0.mk (blk_below (g := gb108) (o := .cells #[.int .i64 0, .int .i64 0, .int .i64 0] 71 (0, 0)) (by (with_reducible repeat (first | refine blk_drewN ?_ _ | refine blk_drew ?_ | refine blk_alloc ?_ _)); exact BK108.out) hb); have n2_ := Aside0.mk (below_step (by repeat (first | (with_reducible first | exact HB.out | apply below_alloc | apply pw_below_drewN | apply below_drew1 | refine below_set ?_ GE107.out | refine below_set ?_ GE108.out) | exact HB.out)) hb); have n3_ := Aside0.mk (hbox); have n4_ := Aside0.mk ((by rw [hg]; exact (below_size (by repeat (first | (with_reducible first | exact HB.out | apply below_alloc | apply pw_below_drewN | apply below_drew1 | refine below_set ?_ GE107.out | refine below_set ?_ GE108.out) | exact HB.out))) : w.heap.size ≤ gb109)); have n5_ := Aside0.mk ((by rw [hg]; exact (below_size (by repeat (first | (with_reducible first | exact HB.out | apply below_alloc | apply pw_below_drewN | apply below_drew1 | refine below_set ?_ GE107.out | refine below_set ?_ GE108.out) | exact HB.out))) : w.heap.size ≤ gb109)); have n6_ := Aside0.mk ((by rw [hg]; exact Nat.ne_of_lt (blk_lt (g := gb107) (o := .cells #[.int .i64 a0_0, .int .i64 a0_1, .int .i64 a0_2] 73 (0, 0)) (by (with_reducible repeat (first | refine blk_drewN ?_ _ | refine blk_drew ?_ | refine blk_alloc ?_ _)); exact BK107.out)) : gb107 ≠ gb109)); have n7_ := Aside0.mk ((by rw [hg]; exact Nat.ne_of_gt (blk_lt (g := gb107) (o := .cells #[.int .i64 a0_0, .int .i64 a0_1, .int .i64 a0_2] 73 (0, 0)) (by (with_reducible repeat (first | refine blk_drewN ?_ _ | refine blk_drew ?_ | refine blk_alloc ?_ _)); exact BK107.out)) : gb109 ≠ gb107)); have n8_ := Aside0.mk ((by rw [hg]; exact Nat.ne_of_lt (blk_lt (g := gb108) (o := .cells #[.int .i64 0, .int .i64 0, .int .i64 0] 71 (0, 0)) (by (with_reducible repeat (first | refine blk_drewN ?_ _ | refine blk_drew ?_ | refine blk_alloc ?_ _)); exact BK108.out)) : gb108 ≠ gb109)); have n9_ := Aside0.mk ((by rw [hg]; exact Nat.ne_of_gt (blk_lt (g := gb108) (o := .cells #[.int .i64 0, .int .i64 0, .int .i64 0] 71 (0, 0)) (by (with_reducible repeat (first | refine blk_drewN ?_ _ | refine blk_drew ?_ | refine blk_alloc ?_ _)); exact BK108.out)) : gb109 ≠ gb108)); clear BK107; clear BK108; clear HB; have BK107 := n0_; have BK108 := n1_; have HB := n2_; have BK109 := n3_; have GW109 := n4_; have GE109 := n5_; have NB107_109 := n6_; have NB109_107 := n7_; have NB108_109 := n8_; have NB109_108 := n9_; clear n0_ n1_ n2_ n3_ n4_ n5_ n6_ n7_ n8_ n9_; clear hb hbox hg; have hnb5 := NB107_108.out; have hnc5 := NB108_107.out; have hnb6 := NB107_109.out; have hnc6 := NB109_107.out; have hcz7_0 : w4.cell? ⟨gb107, 0, none⟩ = some (.int .i64 a0_0) := (blk_cell BK107.out 0).trans rfl; have hcz7_1 : w4.cell? ⟨gb107, 1, none⟩ = some (.int .i64 a0_1) := (blk_cell BK107.out 1).trans rfl; have hcz7_2 : w4.cell? ⟨gb107, 2, none⟩ = some (.int .i64 a0_2) := (blk_cell BK107.out 2).trans rfl; have hfz7_0 := blk_frozen BK107.out 0; have hfz7_1 := blk_frozen BK107.out 1; have hfz7_2 := blk_frozen BK107.out 2; have hnb8 := NB109_108.out; have hnc8 := NB108_109.out; have hcz9_0 : w4.cell? ⟨gb109, 0, none⟩ = some (.int .i64 0) := (blk_cell BK109.out 0).trans rfl; have hcz9_1 : w4.cell? ⟨gb109, 1, none⟩ = some (.int .i64 0) := (blk_cell BK109.out 1).trans rfl; have hcz9_2 : w4.cell? ⟨gb109, 2, none⟩ = some (.int .i64 0) := (blk_cell BK109.out 2).trans rfl; have hfz9_0 := blk_frozen BK109.out 0; have hfz9_1 := blk_frozen BK109.out 1; have hfz9_2 := blk_frozen BK109.out 2; have hcz10_0 : w4.cell? ⟨gb108, 0, none⟩ = some (.int .i64 0) := (blk_cell BK108.out 0).trans rfl; have hcz10_1 : w4.cell? ⟨gb108, 1, none⟩ = some (.int .i64 0) := (blk_cell BK108.out 1).trans rfl; have hcz10_2 : w4.cell? ⟨gb108, 2, none⟩ = some (.int .i64 0) := (blk_cell BK108.out 2).trans rfl; have hfz10_0 := blk_frozen BK108.out 0; have hfz10_1 := blk_frozen BK108.out 1; have hfz10_2 := blk_frozen BK108.out 2))
  refine bodyPost_ret (results_cell_row rfl _ _ gb108 71 #[.int .i64 a0_0, .int .i64 a0_1, .int .i64 a0_2] (0, 0) _ rfl (by (with_reducible repeat (first | refine blk_drewN ?_ _ | refine blk_drew ?_ | refine blk_alloc ?_ _)); refine blk_put (cs := #[.int .i64 a0_0, .int .i64 a0_1, .int .i64 0]) ?_ 2 _ rfl; (with_reducible repeat (first | refine blk_drewN ?_ _ | refine blk_drew ?_ | refine blk_alloc ?_ _)); refine blk_put (cs := #[.int .i64 a0_0, .int .i64 0, .int .i64 0]) ?_ 1 _ rfl; (with_reducible repeat (first | refine blk_drewN ?_ _ | refine blk_drew ?_ | refine blk_alloc ?_ _)); refine blk_put (cs := #[.int .i64 0, .int .i64 0, .int .i64 0]) ?_ 0 _ rfl; (with_reducible repeat (first | refine blk_drewN ?_ _ | refine blk_drew ?_ | refine blk_alloc ?_ _)); refine blk_far ?_ NB108_109.out _; (with_reducible repeat (first | refine blk_drewN ?_ _ | refine blk_drew ?_ | refine blk_alloc ?_ _)); refine blk_far ?_ NB108_109.out _; (with_reducible repeat (first | refine blk_drewN ?_ _ | refine blk_drew ?_ | refine blk_alloc ?_ _)); refine blk_far ?_ NB108_109.out _; (with_reducible repeat (first | refine blk_drewN ?_ _ | refine blk_drew ?_ | refine blk_alloc ?_ _)); exact BK108.out) Try.underlying71 rfl (by kernel_rfl)) rfl ?_
  exact ⟨by first | rfl | (simp [errW_none, errW_some] <;> rfl) | (simp [*, errW_none, errW_some] <;> rfl), by repeat (first | (with_reducible first | exact HB.out | apply below_alloc | apply pw_below_drewN | apply below_drew1 | refine below_set ?_ GE107.out | refine below_set ?_ GE108.out | refine below_set ?_ GE109.out) | exact HB.out)⟩

end Go.Proofs.Ytljaoggbfoimfaa.P

/- The functions of the seat as plain Lean functions, and that the program's functions compute them. Conditions: stated at each theorem. -/
namespace Go.Proofs.Ytljaoggbfoimfaa.P
open Go.RowKit Go.Proofs.YtljaoggbfoimfaaW.PrintWords Go.Proofs.YtljaoggbfoimfaaW.PrintLast Go.Proofs.YtljaoggbfoimfaaW.PrintMore
attribute [local go_sem] max2_int min2_int max_two min_two max_three min_three max_four min_four   -- for this text's walks alone
set_option linter.unusedVariables false
set_option linter.unusedSimpArgs false

/-! ### laws_toTokenS: function 18 -/
def laws_toTokenS.l0 : Nat → List (S73) → List (S71) → Int → Option ((List (S71)))
  | 0, _, _, _ => none
  | k + 1, x0, x3, x4 => if x4 < (x0.length : Int) then (if 0 ≤ x4 then ((laws_toToken.f ((rd_T73 x0 x4).f0) ((rd_T73 x0 x4).f1) ((rd_T73 x0 x4).f2)).bind fun bt114 => (if x4 < (x3.length : Int) then (laws_toTokenS.l0 k x0 (x3.set (x4 : Int).toNat (⟨bt114.1, bt114.2.1, bt114.2.2⟩ : S71)) (wrap64 (x4 + 1))) else (none))) else (none)) else (some x3)
def laws_toTokenS.f (k : Nat) (l0 : List (S73)) : Option ((List (S71))) := if 0 ≤ (l0.length : Int) then (if ((l0.length : Int) : Int).toNat ≤ 11728124029610 then (laws_toTokenS.l0 k l0 (List.replicate ((l0.length : Int) : Int).toNat z71) 0) else (none)) else (none)
theorem laws_toTokenS.mono_l : ∀ k, (∀ y0 y1 y2, LeO (laws_toTokenS.l0 k y0 y1 y2) (laws_toTokenS.l0 (k + 1) y0 y1 y2))
  | 0 => fun _ _ _ r h => by simp [laws_toTokenS.l0] at h
  | k + 1 => by
    have ih0 := laws_toTokenS.mono_l k
    · intro y0 y1 y2
      unfold laws_toTokenS.l0
      repeat' first
      | (with_reducible exact ih0 _ _ _)
      | (with_reducible exact LeO.refl _)
      | (with_reducible exact LeO.none _)
      | (with_reducible refine LeO.ite ?_ ?_)
      | (with_reducible refine LeO.bind ?_ (fun _ => ?_))
      | exact ih0 _ _ _
      | exact LeO.none _
      | refine LeO.ite ?_ ?_
      | refine LeO.bind ?_ (fun _ => ?_)
theorem laws_toTokenS.mono : ∀ a0 k, LeO (laws_toTokenS.f k a0) (laws_toTokenS.f (k + 1) a0) := by
  intro a0 k
  have ih0 := laws_toTokenS.mono_l k
  unfold laws_toTokenS.f
  repeat' first
      | (with_reducible exact ih0 _ _ _)
      | (with_reducible exact LeO.refl _)
      | (with_reducible exact LeO.none _)
      | (with_reducible refine LeO.ite ?_ ?_)
      | (with_reducible refine LeO.bind ?_ (fun _ => ?_))
      | exact ih0 _ _ _
      | exact LeO.none _
      | refine LeO.ite ?_ ?_
      | refine LeO.bind ?_ (fun _ => ?_)
set_option maxHeartbeats 8000000 in
set_option maxRecDepth 100000 in
theorem laws_toTokenS.calls (k : Nat) (A0 : Option Addr) (c0 : Nat) (l0 : List (S73)) (r : List (S71)) (w : World) (hr0 : Kd.C k73 w A0 l0.length l0) (hc0 : l0.length ≤ c0) (h : laws_toTokenS.f k l0 = some r) :
    Calls Try.prog 18 #[.slice A0 l0.length c0] w fun e w' => ∃ v0_ : Value, e = .returned (v0_) ∧ Kd.R k71 71 w' w.heap.size (fun _ => True) v0_ r ∧ Below w.heap.size w w' := by
  have hu73 := Try.underlying73
  have hu71 := Try.underlying71
  have HR0 := Aside0.mk hr0
  have HC0 := Aside0.mk hc0
  clear hr0 hc0
  have HB := Aside0.mk (Below.refl w.heap.size w)
  have H : (if 0 ≤ (l0.length : Int) then (if ((l0.length : Int) : Int).toNat ≤ 11728124029610 then (laws_toTokenS.l0 k l0 (List.replicate ((l0.length : Int) : Int).toNat z71) 0) else (none)) else (none)) = some r := h
  clear h
  by_cases c2 : 0 ≤ (l0.length : Int)
  · rw [if_pos c2] at H
    have c2b0 := eq_true c2
    have c2b1 : decide (0 ≤ (l0.length : Int)) = true := decide_eq_true c2
    clear c2
    by_cases c3 : ((l0.length : Int) : Int).toNat ≤ 11728124029610
    · rw [if_pos c3] at H
      have c3b0 := eq_true c3
      have c3b1 : decide (((l0.length : Int) : Int).toNat ≤ 11728124029610) = true := decide_eq_true c3
      clear c3
      obtain ⟨y110, hy110⟩ : ∃ y_ : List (S71), y_ = (List.replicate ((l0.length : Int) : Int).toNat z71) := ⟨_, rfl⟩
      replace H : (laws_toTokenS.l0 k l0 y110 0) = some r := by first | (rw [hy110]; with_reducible exact H) | (have H2_ := (Option.bind_some _ _).symm.trans H; rw [hy110]; with_reducible exact H2_) | (have H2_ := (Option.bind_some _ _).symm.trans H; with_reducible exact H2_) | with_reducible exact H | (rw [hy110]; exact H) | exact H
      have Ny110 := Aside0.mk hy110
      clear hy110
      have H' := Aside0.mk H
      clear H
      go_enter Try.func18, Try.ntmps18
      go_wp2_with (first | ((with_reducible refine gate_dst (N := 7) rfl ?_); refine Kd.R_make k71 _ 71 rfl (N := 7) rfl 26 _ _ rfl (l0.length : Int) rfl rfl Try.underlying26 (.agg #[(.int .i64 0), (.int .i64 0), (.int .i64 0)]) 24 info71 rfl (by decide) (by omega) z71 (ok := fun _ => True) (okp := fun _ => True) (k71_mkM _ _ _ z71 ) (fun _ hk => hk) trivial (of_decide_eq_true (by first | (with_reducible assumption) | assumption)) (Nat.le_trans (Nat.mul_le_mul_right _ (of_decide_eq_true (by first | (with_reducible assumption) | assumption) : (l0.length : Int).toNat ≤ 11728124029610)) (by omega)) (Below.refl _ _) (Nat.le_refl _) ?_; intro v111 w4 ho5 hb hg_ hnew_; clear hg_ hnew_; (first | rw [← Ny110.out] at ho5 | (simp only [Int.reduceToNat] at ho5; rw [← Ny110.out] at ho5)); have n0_ := Aside0.mk (Kd.R_lower ho5 (below_size (by repeat (first | (with_reducible first | exact HB.out | apply below_alloc | apply pw_below_drewN | apply below_drew1) | exact HB.out)))); have n1_ := Aside0.mk (below_step (by repeat (first | (with_reducible first | exact HB.out | apply below_alloc | apply pw_below_drewN | apply below_drew1) | exact HB.out)) hb); clear HB; have HO112 := n0_; have HB := n1_; clear n0_ n1_; clear hb ho5))
      go_loopg [4] k (fun kq v4 w' => ∃ (x3_1 : List (S71)) (x4_1 : Int), v4 = .int .i64 x4_1 ∧ Aside0 (laws_toTokenS.l0 kq l0 x3_1 x4_1 = some r) ∧ Aside0 (kq ≤ k) ∧ Aside0 (Kd.R k71 71 w' w.heap.size (fun _ => True) v111 x3_1) ∧ Aside0 (Below w.heap.size w w'))
      case atStart => exact ⟨(y110), (0), (by first | rfl | (simp; done) | (simp [*]; done)), H', ⟨Nat.le_refl _⟩, ⟨by (with_reducible repeat (first | apply Kd.R_alloc | apply Kd.R_drewN | apply Kd.R_drew)); exact HO112.out⟩, ⟨by repeat (first | (with_reducible first | exact HB.out | apply below_alloc | apply pw_below_drewN | apply below_drew1) | exact HB.out)⟩⟩
      case round =>
        clear H'
        try clear c1
        try clear c2
        try clear c2b0
        try clear c2b1
        try clear p2
        try clear c3
        try clear c3b0
        try clear c3b1
        obtain ⟨x3_1, x4_1, rfl, HA, HK1, HO_3, HB⟩ := hrel
        cases gk with
        | zero => exact absurd HA.out (by simp [laws_toTokenS.l0])
        | succ k1 =>
          have H := HA.out
          clear HA
          simp only [laws_toTokenS.l0] at H
          by_cases c6 : x4_1 < (l0.length : Int)
          · rw [if_pos c6] at H
            have c6b0 : decide (x4_1 < (l0.length : Int)) = true := decide_eq_true c6
            clear c6
            by_cases c7 : 0 ≤ x4_1
            · rw [if_pos c7] at H
              have c7b0 : decide (0 ≤ x4_1) = true := decide_eq_true c7
              clear c7
              replace H := Option.bind_eq_some_iff.mp H
              obtain ⟨⟨t114, t115, t116⟩, A80, H⟩ := H
              replace H : (if x4_1 < (x3_1.length : Int) then (laws_toTokenS.l0 k1 l0 (x3_1.set (x4_1 : Int).toNat (⟨t114, t115, t116⟩ : S71)) (wrap64 (x4_1 + 1))) else (none)) = some r := H
              have A8 := Aside0.mk A80
              clear A80
              by_cases c9 : x4_1 < (x3_1.length : Int)
              · rw [if_pos c9] at H
                have c9b0 : decide (x4_1 < (x3_1.length : Int)) = true := decide_eq_true c9
                clear c9
                obtain ⟨y117, hy117⟩ : ∃ y_ : List (S71), y_ = (x3_1.set (x4_1 : Int).toNat (⟨t114, t115, t116⟩ : S71)) := ⟨_, rfl⟩
                replace H : (laws_toTokenS.l0 k1 l0 y117 (wrap64 (x4_1 + 1))) = some r := by first | (rw [hy117]; with_reducible exact H) | (have H2_ := (Option.bind_some _ _).symm.trans H; rw [hy117]; with_reducible exact H2_) | (have H2_ := (Option.bind_some _ _).symm.trans H; with_reducible exact H2_) | with_reducible exact H | (rw [hy117]; exact H) | exact H
                have Ny117 := Aside0.mk hy117
                clear hy117
                have H' := Aside0.mk H
                clear H
                have p113 : 0 ≤ (x4_1 : Int) := of_decide_eq_true (by first | (with_reducible assumption) | assumption)
                have q113 : x4_1 < (l0.length : Int) := of_decide_eq_true (by first | (with_reducible assumption) | assumption)
                obtain ⟨ad113, e113, hx113_0, hx113_1, hx113_2⟩ := at_T73 HR0.out x4_1 p113 q113
                cases e113
                replace hx113_0 := (HB.out.cell (World.block_lt_of_cell? w _ hx113_0)).trans hx113_0
                replace hx113_1 := (HB.out.cell (World.block_lt_of_cell? w _ hx113_1)).trans hx113_1
                replace hx113_2 := (HB.out.cell (World.block_lt_of_cell? w _ hx113_2)).trans hx113_2
                replace p113 := eq_true p113
                replace q113 := eq_true q113
                go_wp2_with (first | ((with_reducible refine gate_callee (f := 52) rfl ?_); refine goesL_ (some 20) rfl rfl Try.func52 (by kernel_rfl) rfl #[.agg #[.int .i64 ((rd_T73 l0 x4_1).f0), .int .i64 ((rd_T73 l0 x4_1).f1), .int .i64 ((rd_T73 l0 x4_1).f2)]] rfl (by (try simp only [List.map_toArray, List.map_cons, List.map_nil]); first | done | rfl | (simp only [List.length_drop, List.length_take]; rfl)) ?_; (with_reducible refine (laws_toToken.calls ((rd_T73 l0 x4_1).f0) ((rd_T73 l0 x4_1).f1) ((rd_T73 l0 x4_1).f2) t114 t115 t116 _ A8.out).mono ?_); rintro e w11 ⟨rfl, hb⟩; refine ⟨_, rfl, ?_⟩; have n0_ := Aside0.mk (Kd.R_below (by (with_reducible repeat (first | apply Kd.R_alloc | apply Kd.R_drewN | apply Kd.R_drew)); exact HO_3.out) hb); have n1_ := Aside0.mk (below_step (by repeat (first | (with_reducible first | exact HB.out | apply below_alloc | apply pw_below_drewN | apply below_drew1) | exact HB.out)) hb); clear HO_3; clear HB; have HO_3 := n0_; have HB := n1_; clear n0_ n1_; (try clear hb); (try clear hb2); (try clear hk); (try clear hi); have p10 : 0 ≤ (x4_1 : Int) := of_decide_eq_true (by first | (with_reducible assumption) | assumption); have q10 : (x4_1 : Int) < ((x3_1.length : Int) : Int) := of_decide_eq_true (by first | (with_reducible assumption) | assumption); obtain ⟨go10, co10, eo10, gb10, gl10, cl10, HG10⟩ := Kd.R_form HO_3.out (by omega); (first | cases eo10 | (injection eo10 with ea_ en_ ec_; (first | subst ea_ | (injection ea_ with ea_; subst ea_)); subst ec_; clear en_)); have GB10 := Aside0.mk gb10; have GG10 := Aside0.mk HG10; clear gb10 gl10 HG10; obtain ⟨ce10, hcl10, hM10, hcc10, hfr10⟩ := Kd.R_elem HO_3.out z71 (x4_1 : Int) p10 q10; obtain rfl := k71_openM hM10; have hx10_0 : w11.cell? ⟨go10, (x4_1 : Int).toNat * 3, none⟩ = some (.int .i64 ((rd_T71 x3_1 x4_1).f0)) := hcc10 0 _ rfl; have hx10_1 : w11.cell? ⟨go10, (x4_1 : Int).toNat * 3 + 1, none⟩ = some (.int .i64 ((rd_T71 x3_1 x4_1).f1)) := hcc10 1 _ rfl; have hx10_2 : w11.cell? ⟨go10, (x4_1 : Int).toNat * 3 + 2, none⟩ = some (.int .i64 ((rd_T71 x3_1 x4_1).f2)) := hcc10 2 _ rfl; have hf10_0 : w11.frozen? ⟨go10, (x4_1 : Int).toNat * 3, none⟩ = false := hfr10 0; have hf10_1 : w11.frozen? ⟨go10, (x4_1 : Int).toNat * 3 + 1, none⟩ = false := hfr10 1; have hf10_2 : w11.frozen? ⟨go10, (x4_1 : Int).toNat * 3 + 2, none⟩ = false := hfr10 2; clear hcl10 hcc10 hfr10; (try clear hM10); replace p10 := eq_true p10; replace q10 := eq_true q10; have HX12 := Aside0.mk (show Kd.R k71 71 w11 w.heap.size (fun _ => True) (.slice (some ⟨go10, 0, none⟩) x3_1.length co10) x3_1 from (by (with_reducible repeat (first | apply Kd.R_alloc | apply Kd.R_drewN | apply Kd.R_drew)); exact HO_3.out)); obtain ⟨ce12, hcl12, hM12, hcc12, hfr12⟩ := Kd.R_elem HX12.out z71 (x4_1 : Int) (of_decide_eq_true (by first | (with_reducible assumption) | assumption)) (by have h_ : (x4_1 : Int) < ((x3_1.length : Int) : Int) := of_decide_eq_true (by first | (with_reducible assumption) | assumption); first | exact h_ | (have e_ := (Kd.R_reads' HO_3.out).1; omega) | simpa using h_); obtain rfl := k71_openM hM12; have HP12 := Kd.R_seg HX12.out (x4_1 : Int) (of_decide_eq_true (by first | (with_reducible assumption) | assumption)) (by have h_ : (x4_1 : Int) < ((x3_1.length : Int) : Int) := of_decide_eq_true (by first | (with_reducible assumption) | assumption); first | exact h_ | (have e_ := (Kd.R_reads' HO_3.out).1; omega) | simpa using h_) (seg := [.int .i64 t114, .int .i64 t115, .int .i64 t116]) (j := 0) hcl12 hcc12 (show 3 ≤ 3 from by decide) (x' := (⟨t114, t115, t116⟩ : S71)) (k71_mkM _ _ _ (⟨t114, t115, t116⟩ : S71) ) (fun _ hk => hk); have hx12_0 := hcc12 0 _ rfl; (try simp only [show (k71).sz = 3 from rfl, Nat.mul_one, Nat.add_zero] at hx12_0); have hf12_0 := hfr12 0; (try simp only [show (k71).sz = 3 from rfl, Nat.mul_one, Nat.add_zero] at hf12_0); have hx12_1 := hcc12 1 _ rfl; (try simp only [show (k71).sz = 3 from rfl, Nat.mul_one, Nat.add_zero] at hx12_1); have hf12_1 := hfr12 1; (try simp only [show (k71).sz = 3 from rfl, Nat.mul_one, Nat.add_zero] at hf12_1); have hx12_2 := hcc12 2 _ rfl; (try simp only [show (k71).sz = 3 from rfl, Nat.mul_one, Nat.add_zero] at hx12_2); have hf12_2 := hfr12 2; (try simp only [show (k71).sz = 3 from rfl, Nat.mul_one, Nat.add_zero] at hf12_2); clear hcl12 hcc12 hfr12; (try clear hM12)) | ((with_reducible refine gate_store (t := 71) (p := 21) rfl ?_); refine store_event (t := 71) (p := 21) (v := ?vo_w13) (w1 := (((w11.setCell ⟨go10, (x4_1 : Int).toNat * 3, none⟩ (.int .i64 t114)).setCell ⟨go10, (x4_1 : Int).toNat * 3 + 1, none⟩ (.int .i64 t115)).setCell ⟨go10, (x4_1 : Int).toNat * 3 + 2, none⟩ (.int .i64 t116))) ?hg ?ho ?hn ?hr ?_; (case ho => rfl); (case hg => rfl); (case hn => rfl); (case hr => first | (go_simp; done) | (go_simp; rfl)); intro w13 hw; have hg : w11.grownBy w13 (some go10) := (by rw [hw]; exact HP12.2); have hp_ : Kd.R k71 71 w13 w.heap.size (fun _ => True) (.slice (some ⟨go10, 0, none⟩) x3_1.length co10) y117 := (by rw [hw, Ny117.out]; exact HP12.1); clear HP12; have n0_ := Aside0.mk (hp_); have n1_ := Aside0.mk ((by rw [hw]; exact below_set (below_set (below_set (HB.out) GB10.out) GB10.out) GB10.out : Below w.heap.size w w13)); clear HO_3; clear HB; have HO_3 := n0_; have HB := n1_; clear n0_ n1_; clear hg hw hp_))
                go_roundg k1
                case measure => have := HK1.out; omega
                case rel => exact ⟨(y117), (wrap64 (x4_1 + 1)), (by first | rfl | (simp; done) | (simp [*]; done)), H', ⟨by have := HK1.out; omega⟩, ⟨by (with_reducible repeat (first | apply Kd.R_alloc | apply Kd.R_drewN | apply Kd.R_drew)); exact HO_3.out⟩, ⟨by repeat (first | (with_reducible first | exact HB.out | apply below_alloc | apply pw_below_drewN | apply below_drew1) | exact HB.out)⟩⟩
              · rw [if_neg c9] at H
                exact absurd H (by simp)
            · rw [if_neg c7] at H
              exact absurd H (by simp)
          · rw [if_neg c6] at H
            have c6b0 : decide (x4_1 < (l0.length : Int)) = false := decide_eq_false c6
            clear c6
            obtain rfl := Option.some.inj H
            go_wp2
            go_ret
            exact ⟨_, by first | rfl | (simp [errW_none, errW_some] <;> rfl) | (simp [*, errW_none, errW_some] <;> rfl), by (with_reducible repeat (first | apply Kd.R_alloc | apply Kd.R_drewN | apply Kd.R_drew)); exact HO_3.out, by repeat (first | (with_reducible first | exact HB.out | apply below_alloc | apply pw_below_drewN | apply below_drew1) | exact HB.out)⟩
    · rw [if_neg c3] at H
      exact absurd H (by simp)
  · rw [if_neg c2] at H
    exact absurd H (by simp)

end Go.Proofs.Ytljaoggbfoimfaa.P

/- The functions of the seat as plain Lean functions, and that the program's functions compute them. Conditions: stated at each theorem. -/
namespace Go.Proofs.Ytljaoggbfoimfaa.P
open Go.RowKit Go.Proofs.YtljaoggbfoimfaaW.PrintWords Go.Proofs.YtljaoggbfoimfaaW.PrintLast Go.Proofs.YtljaoggbfoimfaaW.PrintMore
attribute [local go_sem] max2_int min2_int max_two min_two max_three min_three max_four min_four   -- for this text's walks alone
set_option linter.unusedVariables false
set_option linter.unusedSimpArgs false

theorem eqA71 (d : Nat) (w : World) (x0 y0 : Int) (x1 y1 : Int) (x2 y2 : Int) :
    (Op.equalIn (d + 2) 71 (.agg #[.int .i64 x0, .int .i64 x1, .int .i64 x2]) (.agg #[.int .i64 y0, .int .i64 y1, .int .i64 y2])).run Try.prog w = .ok (x0 == y0 && (x1 == y1 && (x2 == y2))) w := by
  refine eqA_of Try.underlying71 (by kernel_rfl) ?_
  refine eqf_cons (by rfl) (by go_simp; rfl) (by go_simp; rfl) (by go_simp) ?_
  refine eqf_cons (by rfl) (by go_simp; rfl) (by go_simp; rfl) (by go_simp) ?_
  exact eqf_last (by rfl) (by go_simp; rfl) (by go_simp; rfl) (by go_simp)
end Go.Proofs.Ytljaoggbfoimfaa.P
