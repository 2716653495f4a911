/- FnExactLexAt, part 17 of 18: the functions that it reaches as plain Lean functions, that the program's functions compute them, and what they come to. Conditions: stated at each theorem. -/
import Derived.KernelRfl
import Derived.Test.YtigmibfacllhmaaBFnExactLexAt0
import Derived.Test.YtigmibfacllhmaaBFnExactLexAt1
import Derived.Test.YtigmibfacllhmaaBFnExactLexAt12
import Derived.Test.YtigmibfacllhmaaBFnExactLexAt13
import Derived.Test.YtigmibfacllhmaaBFnExactLexAt14
import Derived.Test.YtigmibfacllhmaaBFnExactLexAt15
namespace Go.Proofs.Ytigmibfacllhmaa.P
open Go.RowKit Go.Proofs.YtigmibfacllhmaaW.PrintWords Go.Proofs.YtigmibfacllhmaaW.PrintLast Go.Proofs.YtigmibfacllhmaaW.PrintMore
attribute [local go_sem] max2_int min2_int max_two min_two max_three min_three max_four min_four   -- for this text's walks alone
set_option linter.unusedVariables false
set_option linter.unusedSimpArgs false
mutual
def spec_l9At.l0 : Nat → ByteArray → Int → Int → Int → Int → List (List (S117)) → List (List Int) → List Int → Option (Int × Int)
  | 0, _, _, _, _, _, _, _, _ => none
  | k + 1, x1, x8, x9, x10, x11, x344000, x344001, x344002 => if x11 < (x1.size : Int) then (spec_l9At.j1 k x1 x8 x9 x10 x11 (decide (x10 ≥ 0)) x344000 x344001 x344002) else (spec_l9At.j1 k x1 x8 x9 x10 x11 false x344000 x344001 x344002)
def spec_l9At.j1 : Nat → ByteArray → Int → Int → Int → Int → Bool → List (List (S117)) → List (List Int) → List Int → Option (Int × Int)
  | 0, _, _, _, _, _, _, _, _, _ => none
  | k + 1, x1, x8, x9, x10, x11, x21, x344000, x344001, x344002 => if x21 = true then (if 0 ≤ x11 then (if x11 < (x1.size : Int) then ((spec_l7Next.f k x344000 x344001 x344002 x10 (wrap64 (bt x1 x11))).bind fun t344 => (if t344 ≥ 0 then (if 0 ≤ t344 then (if t344 < (x344002.length : Int) then (if (rd x344002 t344) ≥ 0 then (spec_l9At.l0 k x1 (rd x344002 t344) (wrap64 (x11 + 1)) t344 (wrap64 (x11 + 1)) x344000 x344001 x344002) else (spec_l9At.l0 k x1 x8 x9 t344 (wrap64 (x11 + 1)) x344000 x344001 x344002)) else (none)) else (none)) else (spec_l9At.l0 k x1 x8 x9 t344 (wrap64 (x11 + 1)) x344000 x344001 x344002))) else (none)) else (none)) else (some (x8, x9))
end
def spec_l9At.f (k : Nat) (l0_0 : List (List (S117))) (l0_1 : List (List Int)) (l0_2 : List Int) (a1 : ByteArray) (a2 : Int) : Option (Int × Int) := spec_l9At.l0 k a1 (-1) a2 0 a2 l0_0 l0_1 l0_2
theorem spec_l9At.mono_l : ∀ k, (∀ y0 y1 y2 y3 y4 y5 y6 y7, LeO (spec_l9At.l0 k y0 y1 y2 y3 y4 y5 y6 y7) (spec_l9At.l0 (k + 1) y0 y1 y2 y3 y4 y5 y6 y7)) ∧ (∀ y0 y1 y2 y3 y4 y5 y6 y7 y8, LeO (spec_l9At.j1 k y0 y1 y2 y3 y4 y5 y6 y7 y8) (spec_l9At.j1 (k + 1) y0 y1 y2 y3 y4 y5 y6 y7 y8))
  | 0 => ⟨fun _ _ _ _ _ _ _ _ r h => by simp [spec_l9At.l0] at h, fun _ _ _ _ _ _ _ _ _ r h => by simp [spec_l9At.j1] at h⟩
  | k + 1 => by
    obtain ⟨ih0, ih1⟩ := spec_l9At.mono_l k
    refine ⟨?_, ?_⟩
    · intro y0 y1 y2 y3 y4 y5 y6 y7
      unfold spec_l9At.l0
      repeat' first
      | (with_reducible exact ih0 _ _ _ _ _ _ _ _)
      | (with_reducible exact ih1 _ _ _ _ _ _ _ _ _)
      | (with_reducible exact spec_l7Next.mono _ _ _ _ _ _)
      | (with_reducible exact LeO.refl _)
      | (with_reducible exact LeO.none _)
      | (with_reducible refine LeO.ite ?_ ?_)
      | (with_reducible refine LeO.bind ?_ (fun _ => ?_))
      | exact ih0 _ _ _ _ _ _ _ _
      | exact ih1 _ _ _ _ _ _ _ _ _
      | exact spec_l7Next.mono _ _ _ _ _ _
      | exact LeO.none _
      | refine LeO.ite ?_ ?_
      | refine LeO.bind ?_ (fun _ => ?_)
    · intro y0 y1 y2 y3 y4 y5 y6 y7 y8
      unfold spec_l9At.j1
      repeat' first
      | (with_reducible exact ih0 _ _ _ _ _ _ _ _)
      | (with_reducible exact ih1 _ _ _ _ _ _ _ _ _)
      | (with_reducible exact spec_l7Next.mono _ _ _ _ _ _)
      | (with_reducible exact LeO.refl _)
      | (with_reducible exact LeO.none _)
      | (with_reducible refine LeO.ite ?_ ?_)
      | (with_reducible refine LeO.bind ?_ (fun _ => ?_))
      | exact ih0 _ _ _ _ _ _ _ _
      | exact ih1 _ _ _ _ _ _ _ _ _
      | exact spec_l7Next.mono _ _ _ _ _ _
      | exact LeO.none _
      | refine LeO.ite ?_ ?_
      | refine LeO.bind ?_ (fun _ => ?_)
theorem spec_l9At.mono : ∀ a0 a1 a2 a3 a4 k, LeO (spec_l9At.f k a0 a1 a2 a3 a4) (spec_l9At.f (k + 1) a0 a1 a2 a3 a4) := by
  intro a0 a1 a2 a3 a4 k
  obtain ⟨ih0, ih1⟩ := spec_l9At.mono_l k
  unfold spec_l9At.f
  repeat' first
      | (with_reducible exact ih0 _ _ _ _ _ _ _ _)
      | (with_reducible exact ih1 _ _ _ _ _ _ _ _ _)
      | (with_reducible exact spec_l7Next.mono _ _ _ _ _ _)
      | (with_reducible exact LeO.refl _)
      | (with_reducible exact LeO.none _)
      | (with_reducible refine LeO.ite ?_ ?_)
      | (with_reducible refine LeO.bind ?_ (fun _ => ?_))
      | exact ih0 _ _ _ _ _ _ _ _
      | exact ih1 _ _ _ _ _ _ _ _ _
      | exact spec_l7Next.mono _ _ _ _ _ _
      | exact LeO.none _
      | refine LeO.ite ?_ ?_
      | refine LeO.bind ?_ (fun _ => ?_)
def spec_l9At.T7 : Bool × List (List Nat × List Nat) := (true, [([], []), ([], []), ([], []), ([], []), ([2, 3], [2, 3]), ([4], [4]), ([0, 1, 5], [0, 1, 5]), ([6, 6, 0, 1, 2, 3, 4, 5, 6], [1, 6])])
def spec_l9At.B7 : List Nat := [0, 0, 0, 0, 12, 28, 63, 127]
theorem spec_l9At.tab7 : rtab .any (opsOf Try.f63 7) = spec_l9At.T7 := by kernel_rfl
theorem spec_l9At.bits7 : waitsOk spec_l9At.T7.2 spec_l9At.B7 = true := by kernel_rfl
set_option maxHeartbeats 8000000 in
set_option maxRecDepth 100000 in
theorem spec_l9At.calls (k : Nat) (A0_0 : Option Addr) (c0_0 : Nat) (l0_0 : List (List (S117))) (A0_1 : Option Addr) (c0_1 : Nat) (l0_1 : List (List Int)) (A0_2 : Option Addr) (c0_2 : Nat) (l0_2 : List Int) (a1 : ByteArray) (a2 : Int) (r1 : Int) (r2 : Int) (w : World) (hr0_0 : Kd.C (Kd.slice 117 k117) w A0_0 l0_0.length l0_0) (hc0_0 : l0_0.length ≤ c0_0) (hr0_1 : Kd.C (Kd.slice 3 (Kd.int .i64)) w A0_1 l0_1.length l0_1) (hc0_1 : l0_1.length ≤ c0_1) (hr0_2 : Kd.C (Kd.int .i64) w A0_2 l0_2.length l0_2) (hc0_2 : l0_2.length ≤ c0_2) (h : spec_l9At.f k l0_0 l0_1 l0_2 a1 a2 = some (r1, r2)) :
    Calls Try.prog 63 #[.agg #[.slice A0_0 l0_0.length c0_0, .slice A0_1 l0_1.length c0_1, .slice A0_2 l0_2.length c0_2], .string a1, .int .i64 a2] w fun e w' => e = .returned (.tuple #[.int .i64 r1, .int .i64 r2]) ∧ Below w.heap.size w w' := by
  have hu31 := Try.underlying31
  have HR0_0 := Aside0.mk hr0_0
  have HC0_0 := Aside0.mk hc0_0
  clear hr0_0 hc0_0
  have HR0_1 := Aside0.mk hr0_1
  have HC0_1 := Aside0.mk hc0_1
  clear hr0_1 hc0_1
  have HR0_2 := Aside0.mk hr0_2
  have HC0_2 := Aside0.mk hc0_2
  clear hr0_2 hc0_2
  have HB := Aside0.mk (Below.refl w.heap.size w)
  have H : (spec_l9At.l0 k a1 (-1) a2 0 a2 l0_0 l0_1 l0_2) = some (r1, r2) := h
  clear h
  have H' := Aside0.mk H
  clear H
  go_enter Try.func63, Try.ntmps63
  go_wp2_with (first | ((with_reducible refine gate_dst (N := 3) rfl ?_); refine box_event ?hg (N := 3) ?hd (cs := #[.slice A0_0 l0_0.length c0_0, .slice A0_1 l0_1.length c0_1, .slice A0_2 l0_2.length c0_2]) (t := 31) ?hr ?_; (case hd => rfl); (case hg => rfl); (case hr => first | (go_simp; done) | (go_simp; rfl)); intro gb343 hg w4 hbox hb; have n0_ := Aside0.mk (below_step (by repeat (first | (with_reducible first | exact HB.out | apply below_alloc | apply pw_below_drewN | apply below_drew1) | exact HB.out)) hb); have n1_ := Aside0.mk (hbox); have n2_ := Aside0.mk ((by rw [hg]; exact (below_size (by repeat (first | (with_reducible first | exact HB.out | apply below_alloc | apply pw_below_drewN | apply below_drew1) | exact HB.out))) : w.heap.size ≤ gb343)); have n3_ := Aside0.mk ((by rw [hg]; exact (below_size (by repeat (first | (with_reducible first | exact HB.out | apply below_alloc | apply pw_below_drewN | apply below_drew1) | exact HB.out))) : w.heap.size ≤ gb343)); clear HB; have HB := n0_; have BK343 := n1_; have GW343 := n2_; have GE343 := n3_; clear n0_ n1_ n2_ n3_; clear hb hbox hg))
  go_loopg [8, 9, 10, 11] k (fun kq v8 v9 v10 v11 w' => ∃ (x8_1 : Int) (x9_1 : Int) (x10_1 : Int) (x11_1 : Int), v8 = .int .i64 x8_1 ∧ v9 = .int .i64 x9_1 ∧ v10 = .int .i64 x10_1 ∧ v11 = .int .i64 x11_1 ∧ Aside0 (spec_l9At.l0 kq a1 x8_1 x9_1 x10_1 x11_1 l0_0 l0_1 l0_2 = some (r1, r2)) ∧ Aside0 (kq ≤ k) ∧ Aside0 (w'.heap[gb343]? = some (.cells #[(.slice A0_0 l0_0.length c0_0), (.slice A0_1 l0_1.length c0_1), (.slice A0_2 l0_2.length c0_2)] 31 (0, 0))) ∧ Aside0 (Below w.heap.size w w'))
  case atStart => exact ⟨((-1)), (a2), (0), (a2), (by first | rfl | (simp; done) | (simp [*]; done)), (by first | rfl | (simp; done) | (simp [*]; done)), (by first | rfl | (simp; done) | (simp [*]; done)), (by first | rfl | (simp; done) | (simp [*]; done)), H', ⟨Nat.le_refl _⟩, ⟨by (with_reducible repeat (first | refine blk_drewN ?_ _ | refine blk_drew ?_ | refine blk_alloc ?_ _)); exact BK343.out⟩, ⟨by repeat (first | (with_reducible first | exact HB.out | apply below_alloc | apply pw_below_drewN | apply below_drew1 | refine below_set ?_ GE343.out) | exact HB.out)⟩⟩
  case round =>
    clear H'
    try clear p2
    obtain ⟨x8_1, x9_1, x10_1, x11_1, rfl, rfl, rfl, rfl, HA, HK1, BK343, HB⟩ := hrel
    cases gk with
    | zero => exact absurd HA.out (by simp [spec_l9At.l0])
    | succ k1 =>
      have H := HA.out
      clear HA
      simp only [spec_l9At.l0] at H
      have HC5 := Aside0.mk H
      clear H
      go_upto_region 5 with (fail)
      go_cut [21] (fun v21 wc => ∃ (kq : Nat) (x21_4 : Bool), v21 = .bool x21_4 ∧ Aside0 (spec_l9At.j1 kq a1 x8_1 x9_1 x10_1 x11_1 x21_4 l0_0 l0_1 l0_2 = some (r1, r2)) ∧ Aside0 (kq ≤ k1) ∧ Aside0 (wc.heap[gb343]? = some (.cells #[(.slice A0_0 l0_0.length c0_0), (.slice A0_1 l0_1.length c0_1), (.slice A0_2 l0_2.length c0_2)] 31 (0, 0))) ∧ Aside0 (Below w.heap.size w wc))
      case first =>
        have H := HC5.out
        clear HC5
        by_cases c6 : x11_1 < (a1.size : Int)
        · rw [if_pos c6] at H
          have c6b0 : decide (x11_1 < (a1.size : Int)) = true := decide_eq_true c6
          clear c6
          (first | rw [c6b0] | (simp only [i64_w, i32_w]; rw [c6b0]) | skip)
          have H' := Aside0.mk H
          clear H
          go_wp2
          go_meet
          case rel => exact ⟨_, (decide (x10_1 ≥ 0)), (by first | rfl | (simp; done) | (simp [*]; done)), H', ⟨by have := HK1.out; first | omega | exact Nat.le_refl _⟩, ⟨by (with_reducible repeat (first | refine blk_drewN ?_ _ | refine blk_drew ?_ | refine blk_alloc ?_ _)); exact BK343.out⟩, ⟨by repeat (first | (with_reducible first | exact HB.out | apply below_alloc | apply pw_below_drewN | apply below_drew1 | refine below_set ?_ GE343.out) | exact HB.out)⟩⟩
        · rw [if_neg c6] at H
          have c6b0 : decide (x11_1 < (a1.size : Int)) = false := decide_eq_false c6
          clear c6
          (first | rw [c6b0] | (simp only [i64_w, i32_w]; rw [c6b0]) | skip)
          have H' := Aside0.mk H
          clear H
          go_wp2
          go_meet
          case rel => exact ⟨_, (false), (by first | rfl | (simp; done) | (simp [*]; done)), H', ⟨by have := HK1.out; first | omega | exact Nat.le_refl _⟩, ⟨by (with_reducible repeat (first | refine blk_drewN ?_ _ | refine blk_drew ?_ | refine blk_alloc ?_ _)); exact BK343.out⟩, ⟨by repeat (first | (with_reducible first | exact HB.out | apply below_alloc | apply pw_below_drewN | apply below_drew1 | refine below_set ?_ GE343.out) | exact HB.out)⟩⟩
      case rest =>
        clear HC5
        try clear p2
        try clear c6
        try clear c6b0
        try clear p2
        obtain ⟨kq, x21_4, rfl, HA, HJ4, BK343, HB⟩ := hcut
        cases kq with
        | zero => exact absurd HA.out (by simp [spec_l9At.j1])
        | succ kj4 =>
          have H := HA.out
          clear HA
          simp only [spec_l9At.j1] at H
          by_cases c7 : x21_4 = true
          · subst c7
            have H1 : (if 0 ≤ x11_1 then (if x11_1 < (a1.size : Int) then ((spec_l7Next.f kj4 l0_0 l0_1 l0_2 x10_1 (wrap64 (bt a1 x11_1))).bind fun t344 => (if t344 ≥ 0 then (if 0 ≤ t344 then (if t344 < (l0_2.length : Int) then (if (rd l0_2 t344) ≥ 0 then (spec_l9At.l0 kj4 a1 (rd l0_2 t344) (wrap64 (x11_1 + 1)) t344 (wrap64 (x11_1 + 1)) l0_0 l0_1 l0_2) else (spec_l9At.l0 kj4 a1 x8_1 x9_1 t344 (wrap64 (x11_1 + 1)) l0_0 l0_1 l0_2)) else (none)) else (none)) else (spec_l9At.l0 kj4 a1 x8_1 x9_1 t344 (wrap64 (x11_1 + 1)) l0_0 l0_1 l0_2))) else (none)) else (none)) = some (r1, r2) := by rw [if_pos rfl] at H; exact H
            clear H
            have H := H1
            clear H1
            by_cases c8 : 0 ≤ x11_1
            · rw [if_pos c8] at H
              have c8b0 : decide (0 ≤ x11_1) = true := decide_eq_true c8
              clear c8
              by_cases c9 : x11_1 < (a1.size : Int)
              · rw [if_pos c9] at H
                have c9b0 : decide (x11_1 < (a1.size : Int)) = true := decide_eq_true c9
                clear c9
                replace H := Option.bind_eq_some_iff.mp H
                obtain ⟨t344, A110, H⟩ := H
                replace H : (if t344 ≥ 0 then (if 0 ≤ t344 then (if t344 < (l0_2.length : Int) then (if (rd l0_2 t344) ≥ 0 then (spec_l9At.l0 kj4 a1 (rd l0_2 t344) (wrap64 (x11_1 + 1)) t344 (wrap64 (x11_1 + 1)) l0_0 l0_1 l0_2) else (spec_l9At.l0 kj4 a1 x8_1 x9_1 t344 (wrap64 (x11_1 + 1)) l0_0 l0_1 l0_2)) else (none)) else (none)) else (spec_l9At.l0 kj4 a1 x8_1 x9_1 t344 (wrap64 (x11_1 + 1)) l0_0 l0_1 l0_2)) = some (r1, r2) := H
                have A11 := Aside0.mk A110
                clear A110
                by_cases c12 : t344 ≥ 0
                · rw [if_pos c12] at H
                  have c12b0 : decide (0 ≤ t344) = true := decide_eq_true c12
                  clear c12
                  by_cases c13 : 0 ≤ t344
                  · rw [if_pos c13] at H
                    have c13b0 : decide (0 ≤ t344) = true := decide_eq_true c13
                    clear c13
                    by_cases c14 : t344 < (l0_2.length : Int)
                    · rw [if_pos c14] at H
                      have c14b0 : decide (t344 < (l0_2.length : Int)) = true := decide_eq_true c14
                      clear c14
                      by_cases c15 : (rd l0_2 t344) ≥ 0
                      · rw [if_pos c15] at H
                        have c15b0 : decide (0 ≤ (rd l0_2 t344)) = true := decide_eq_true c15
                        clear c15
                        have H' := Aside0.mk H
                        clear H
                        try go_wp2
                        have n0_ := Aside0.mk (blk_drew BK343.out)
                        have n1_ := Aside0.mk (below_drew1 HB.out)
                        clear BK343
                        clear HB
                        have BK343 := n0_
                        have HB := n1_
                        clear n0_ n1_
                        have p10 : 0 ≤ (x11_1 : Int) := of_decide_eq_true (by first | (with_reducible assumption) | assumption)
                        have q10 : x11_1 < (a1.size : Int) := of_decide_eq_true (by first | (with_reducible assumption) | assumption)
                        have hx10 := bt_at a1 x11_1
                        replace p10 := eq_true p10
                        replace q10 := eq_true q10
                        refine start_ (n := 8) (S := fun w' => w'.cell? ⟨gb343, 0, none⟩ = some (.slice A0_0 l0_0.length c0_0) ∧ w'.cell? ⟨gb343, 1, none⟩ = some (.slice A0_1 l0_1.length c0_1) ∧ w'.cell? ⟨gb343, 2, none⟩ = some (.slice A0_2 l0_2.length c0_2)) (ds := []) #[false, false, false, false, false, false, false, false] (by kernel_rfl) rfl rfl ⟨(blk_cell BK343.out 0).trans rfl, (blk_cell BK343.out 1).trans rfl, (blk_cell BK343.out 2).trans rfl⟩ (fun hHeld => ?_); refine with_tabW spec_l9At.tab7 spec_l9At.bits7 (fun HT_ HW_ => ?_)
                        generalize wc.drew = w16 at BK343 HB hHeld ⊢
                        refine pure_ (i := 1) (N := some 25) (v := ?_) (a' := ?_) #[false, true, false, false, false, false, false, false] rfl rfl (any_of HT_.out (by kernel_rfl)) (fun _ _ _ h => h) (Or.inl ⟨by rfl, ?_⟩) ?_ ?_
                        rotate_left
                        · intro w'
                          go_simp
                          with_reducible rfl
                        rotate_left
                        · simp only [Act.put, List.setIfInBounds_toArray, List.set_cons_zero, List.set_cons_succ, i64_w, i32_w]
                          rfl
                        refine pure_ (i := 2) (N := some 26) (v := ?_) (a' := ?_) #[false, true, true, false, false, false, false, false] rfl rfl (any_of HT_.out (by kernel_rfl)) (fun _ _ _ h => h) (Or.inl ⟨by rfl, ?_⟩) ?_ ?_
                        rotate_left
                        · intro w'
                          go_simp
                          with_reducible rfl
                        rotate_left
                        · simp only [Act.put, List.setIfInBounds_toArray, List.set_cons_zero, List.set_cons_succ, i64_w, i32_w]
                          rfl
                        refine pure_ (i := 3) (N := some 27) (v := ?_) (a' := ?_) #[false, true, true, true, false, false, false, false] rfl rfl (any_of HT_.out (by kernel_rfl)) (fun _ _ _ h => h) (Or.inl ⟨by rfl, ?_⟩) ?_ ?_
                        rotate_left
                        · intro w'
                          go_simp
                          with_reducible rfl
                        rotate_left
                        · simp only [Act.put, List.setIfInBounds_toArray, List.set_cons_zero, List.set_cons_succ, i64_w, i32_w]
                          rfl
                        refine take_ (i := 0) (N := some 24) (v := ?_) (a' := ?_) #[true, true, true, true, false, false, false, false] rfl rfl (take_ofW HT_.out HW_.out (by kernel_rfl)) (fun _ _ _ h => h) (Or.inl ⟨by rfl, ?_⟩) hHeld ?_ ?_
                        rotate_left
                        · rintro w' ⟨s0, s1, s2⟩
                          go_simp
                          with_reducible rfl
                        rotate_left
                        · simp only [Act.put, List.setIfInBounds_toArray, List.set_cons_zero, List.set_cons_succ, i64_w, i32_w]
                          rfl
                        refine take_ (i := 4) (N := some 28) (v := ?_) (a' := ?_) #[true, true, true, true, true, false, false, false] rfl rfl (take_ofW HT_.out HW_.out (by kernel_rfl)) (fun _ _ _ h => h) (Or.inl ⟨by rfl, ?_⟩) hHeld ?_ ?_
                        rotate_left
                        · rintro w' ⟨s0, s1, s2⟩
                          go_simp
                          with_reducible rfl
                        rotate_left
                        · simp only [Act.put, List.setIfInBounds_toArray, List.set_cons_zero, List.set_cons_succ, i64_w, i32_w]
                          rfl
                        refine pure_ (i := 5) (N := some 29) (v := ?_) (a' := ?_) #[true, true, true, true, true, true, false, false] rfl rfl (any_of HT_.out (by kernel_rfl)) (fun _ _ _ h => h) (Or.inl ⟨by rfl, ?_⟩) ?_ ?_
                        rotate_left
                        · intro w'
                          go_simp
                          with_reducible rfl
                        rotate_left
                        · simp only [Act.put, List.setIfInBounds_toArray, List.set_cons_zero, List.set_cons_succ, i64_w, i32_w]
                          rfl
                        refine one_ (i := 6) (N := some 30) #[true, true, true, true, true, true, true, false] rfl rfl (one_of HT_.out (by kernel_rfl)) (by decide) (fun K hK => ?_)
                        refine goes_ Try.func103 (by kernel_rfl) rfl #[.agg #[.slice A0_0 l0_0.length c0_0, .slice A0_1 l0_1.length c0_1, .slice A0_2 l0_2.length c0_2], .int .i64 x10_1, .int .i64 (wrap64 (bt a1 x11_1))] (by rfl) rfl rfl (by (try simp only [List.map_toArray, List.map_cons, List.map_nil]); first | done | rfl | (simp only [List.length_drop, List.length_take]; rfl)) ?_
                        with_reducible refine (spec_l7Next.calls kj4 _ _ l0_0 _ _ l0_1 _ _ l0_2 x10_1 (wrap64 (bt a1 x11_1)) t344 _ ?side1 ?side2 ?side3 ?side4 ?side5 ?side6 A11.out).mono ?_
                        (case side1 => repeat (first | exact (Kd.C_below HR0_0.out HB.out) | (with_reducible refine Kd.C_alloc ?_ _) | (with_reducible refine Kd.C_drewN ?_ _) | (with_reducible refine Kd.C_drew ?_)))
                        (case side2 => exact HC0_0.out)
                        (case side3 => repeat (first | exact (Kd.C_below HR0_1.out HB.out) | (with_reducible refine Kd.C_alloc ?_ _) | (with_reducible refine Kd.C_drewN ?_ _) | (with_reducible refine Kd.C_drew ?_)))
                        (case side4 => exact HC0_1.out)
                        (case side5 => repeat (first | exact (Kd.C_below HR0_2.out HB.out) | (with_reducible refine Kd.C_alloc ?_ _) | (with_reducible refine Kd.C_drewN ?_ _) | (with_reducible refine Kd.C_drew ?_)))
                        (case side6 => exact HC0_2.out)
                        rintro e w17 ⟨rfl, hb⟩
                        refine ⟨_, rfl, ?_⟩
                        have n0_ := Aside0.mk (blk_below (g := gb343) (o := .cells #[.slice A0_0 l0_0.length c0_0, .slice A0_1 l0_1.length c0_1, .slice A0_2 l0_2.length c0_2] 31 (0, 0)) (by (with_reducible repeat (first | refine blk_drewN ?_ _ | refine blk_drew ?_ | refine blk_alloc ?_ _)); exact BK343.out) hb)
                        have n1_ := Aside0.mk (below_step (by repeat (first | (with_reducible first | exact HB.out | apply below_alloc | apply pw_below_drewN | apply below_drew1 | refine below_set ?_ GE343.out) | exact HB.out)) hb)
                        clear BK343
                        clear HB
                        have BK343 := n0_
                        have HB := n1_
                        clear n0_ n1_
                        (try clear hb)
                        (try clear hb2)
                        (try clear hk)
                        (try clear hi)
                        refine hK.out _ _ ⟨(blk_cell BK343.out 0).trans rfl, (blk_cell BK343.out 1).trans rfl, (blk_cell BK343.out 2).trans rfl⟩ (fun hHeld => ?_)
                        clear hK K
                        refine norm_ (a' := ?_) ?_ ?_
                        rotate_left
                        · show Act.put _ (some 30) _ = _
                          simp only [Act.put, List.setIfInBounds_toArray, List.set_cons_zero, List.set_cons_succ, i64_w, i32_w]
                          rfl
                        refine pure_ (i := 7) (N := some 10) (v := ?_) (a' := ?_) #[true, true, true, true, true, true, true, true] rfl rfl (any_of HT_.out (by kernel_rfl)) (fun _ _ _ h => h) (Or.inl ⟨by rfl, ?_⟩) ?_ ?_
                        rotate_left
                        · intro w'
                          go_simp
                          with_reducible rfl
                        rotate_left
                        · simp only [Act.put, List.setIfInBounds_toArray, List.set_cons_zero, List.set_cons_succ, i64_w, i32_w]
                          rfl
                        refine done_ (done_of HT_.out (by kernel_rfl)) ?_
                        have hcz18_0 : w17.cell? ⟨gb343, 0, none⟩ = some (.slice A0_0 l0_0.length c0_0) := (blk_cell BK343.out 0).trans rfl
                        have hcz18_1 : w17.cell? ⟨gb343, 1, none⟩ = some (.slice A0_1 l0_1.length c0_1) := (blk_cell BK343.out 1).trans rfl
                        have hcz18_2 : w17.cell? ⟨gb343, 2, none⟩ = some (.slice A0_2 l0_2.length c0_2) := (blk_cell BK343.out 2).trans rfl
                        have hfz18_0 := blk_frozen BK343.out 0
                        have hfz18_1 := blk_frozen BK343.out 1
                        have hfz18_2 := blk_frozen BK343.out 2
                        have p345 : 0 ≤ (t344 : Int) := of_decide_eq_true (by first | (with_reducible assumption) | assumption)
                        have q345 : t344 < (l0_2.length : Int) := of_decide_eq_true (by first | (with_reducible assumption) | assumption)
                        obtain ⟨ad345, e345, hx345_0⟩ := Kd.at_int HR0_2.out t344 p345 q345
                        cases e345
                        replace hx345_0 := (HB.out.cell (World.block_lt_of_cell? w _ hx345_0)).trans hx345_0
                        replace p345 := eq_true p345
                        replace q345 := eq_true q345
                        have p346 : 0 ≤ (t344 : Int) := of_decide_eq_true (by first | (with_reducible assumption) | assumption)
                        have q346 : t344 < (l0_2.length : Int) := of_decide_eq_true (by first | (with_reducible assumption) | assumption)
                        obtain ⟨ad346, e346, hx346_0⟩ := Kd.at_int HR0_2.out t344 p346 q346
                        obtain rfl : ad345 = ad346 := (by injection e346)
                        replace hx346_0 := (HB.out.cell (World.block_lt_of_cell? w _ hx346_0)).trans hx346_0
                        replace p346 := eq_true p346
                        replace q346 := eq_true q346
                        try go_wp2
                        go_roundg kj4
                        case measure => have := HK1.out; have := HJ4.out; omega
                        case rel => exact ⟨(rd l0_2 t344), (wrap64 (x11_1 + 1)), (t344), (wrap64 (x11_1 + 1)), (by first | rfl | (simp; done) | (simp [*]; done)), (by first | rfl | (simp; done) | (simp [*]; done)), (by first | rfl | (simp; done) | (simp [*]; done)), (by first | rfl | (simp; done) | (simp [*]; done)), H', ⟨by have := HK1.out; have := HJ4.out; omega⟩, ⟨by (with_reducible repeat (first | refine blk_drewN ?_ _ | refine blk_drew ?_ | refine blk_alloc ?_ _)); exact BK343.out⟩, ⟨by repeat (first | (with_reducible first | exact HB.out | apply below_alloc | apply pw_below_drewN | apply below_drew1 | refine below_set ?_ GE343.out) | exact HB.out)⟩⟩
                      · rw [if_neg c15] at H
                        have c15b0 : decide (0 ≤ (rd l0_2 t344)) = false := decide_eq_false c15
                        clear c15
                        have H' := Aside0.mk H
                        clear H
                        try go_wp2
                        have n0_ := Aside0.mk (blk_drew BK343.out)
                        have n1_ := Aside0.mk (below_drew1 HB.out)
                        clear BK343
                        clear HB
                        have BK343 := n0_
                        have HB := n1_
                        clear n0_ n1_
                        have p10 : 0 ≤ (x11_1 : Int) := of_decide_eq_true (by first | (with_reducible assumption) | assumption)
                        have q10 : x11_1 < (a1.size : Int) := of_decide_eq_true (by first | (with_reducible assumption) | assumption)
                        have hx10 := bt_at a1 x11_1
                        replace p10 := eq_true p10
                        replace q10 := eq_true q10
                        refine start_ (n := 8) (S := fun w' => w'.cell? ⟨gb343, 0, none⟩ = some (.slice A0_0 l0_0.length c0_0) ∧ w'.cell? ⟨gb343, 1, none⟩ = some (.slice A0_1 l0_1.length c0_1) ∧ w'.cell? ⟨gb343, 2, none⟩ = some (.slice A0_2 l0_2.length c0_2)) (ds := []) #[false, false, false, false, false, false, false, false] (by kernel_rfl) rfl rfl ⟨(blk_cell BK343.out 0).trans rfl, (blk_cell BK343.out 1).trans rfl, (blk_cell BK343.out 2).trans rfl⟩ (fun hHeld => ?_); refine with_tabW spec_l9At.tab7 spec_l9At.bits7 (fun HT_ HW_ => ?_)
                        generalize wc.drew = w19 at BK343 HB hHeld ⊢
                        refine pure_ (i := 1) (N := some 25) (v := ?_) (a' := ?_) #[false, true, false, false, false, false, false, false] rfl rfl (any_of HT_.out (by kernel_rfl)) (fun _ _ _ h => h) (Or.inl ⟨by rfl, ?_⟩) ?_ ?_
                        rotate_left
                        · intro w'
                          go_simp
                          with_reducible rfl
                        rotate_left
                        · simp only [Act.put, List.setIfInBounds_toArray, List.set_cons_zero, List.set_cons_succ, i64_w, i32_w]
                          rfl
                        refine pure_ (i := 2) (N := some 26) (v := ?_) (a' := ?_) #[false, true, true, false, false, false, false, false] rfl rfl (any_of HT_.out (by kernel_rfl)) (fun _ _ _ h => h) (Or.inl ⟨by rfl, ?_⟩) ?_ ?_
                        rotate_left
                        · intro w'
                          go_simp
                          with_reducible rfl
                        rotate_left
                        · simp only [Act.put, List.setIfInBounds_toArray, List.set_cons_zero, List.set_cons_succ, i64_w, i32_w]
                          rfl
                        refine pure_ (i := 3) (N := some 27) (v := ?_) (a' := ?_) #[false, true, true, true, false, false, false, false] rfl rfl (any_of HT_.out (by kernel_rfl)) (fun _ _ _ h => h) (Or.inl ⟨by rfl, ?_⟩) ?_ ?_
                        rotate_left
                        · intro w'
                          go_simp
                          with_reducible rfl
                        rotate_left
                        · simp only [Act.put, List.setIfInBounds_toArray, List.set_cons_zero, List.set_cons_succ, i64_w, i32_w]
                          rfl
                        refine take_ (i := 0) (N := some 24) (v := ?_) (a' := ?_) #[true, true, true, true, false, false, false, false] rfl rfl (take_ofW HT_.out HW_.out (by kernel_rfl)) (fun _ _ _ h => h) (Or.inl ⟨by rfl, ?_⟩) hHeld ?_ ?_
                        rotate_left
                        · rintro w' ⟨s0, s1, s2⟩
                          go_simp
                          with_reducible rfl
                        rotate_left
                        · simp only [Act.put, List.setIfInBounds_toArray, List.set_cons_zero, List.set_cons_succ, i64_w, i32_w]
                          rfl
                        refine take_ (i := 4) (N := some 28) (v := ?_) (a' := ?_) #[true, true, true, true, true, false, false, false] rfl rfl (take_ofW HT_.out HW_.out (by kernel_rfl)) (fun _ _ _ h => h) (Or.inl ⟨by rfl, ?_⟩) hHeld ?_ ?_
                        rotate_left
                        · rintro w' ⟨s0, s1, s2⟩
                          go_simp
                          with_reducible rfl
                        rotate_left
                        · simp only [Act.put, List.setIfInBounds_toArray, List.set_cons_zero, List.set_cons_succ, i64_w, i32_w]
                          rfl
                        refine pure_ (i := 5) (N := some 29) (v := ?_) (a' := ?_) #[true, true, true, true, true, true, false, false] rfl rfl (any_of HT_.out (by kernel_rfl)) (fun _ _ _ h => h) (Or.inl ⟨by rfl, ?_⟩) ?_ ?_
                        rotate_left
                        · intro w'
                          go_simp
                          with_reducible rfl
                        rotate_left
                        · simp only [Act.put, List.setIfInBounds_toArray, List.set_cons_zero, List.set_cons_succ, i64_w, i32_w]
                          rfl
                        refine one_ (i := 6) (N := some 30) #[true, true, true, true, true, true, true, false] rfl rfl (one_of HT_.out (by kernel_rfl)) (by decide) (fun K hK => ?_)
                        refine goes_ Try.func103 (by kernel_rfl) rfl #[.agg #[.slice A0_0 l0_0.length c0_0, .slice A0_1 l0_1.length c0_1, .slice A0_2 l0_2.length c0_2], .int .i64 x10_1, .int .i64 (wrap64 (bt a1 x11_1))] (by rfl) rfl rfl (by (try simp only [List.map_toArray, List.map_cons, List.map_nil]); first | done | rfl | (simp only [List.length_drop, List.length_take]; rfl)) ?_
                        with_reducible refine (spec_l7Next.calls kj4 _ _ l0_0 _ _ l0_1 _ _ l0_2 x10_1 (wrap64 (bt a1 x11_1)) t344 _ ?side1 ?side2 ?side3 ?side4 ?side5 ?side6 A11.out).mono ?_
                        (case side1 => repeat (first | exact (Kd.C_below HR0_0.out HB.out) | (with_reducible refine Kd.C_alloc ?_ _) | (with_reducible refine Kd.C_drewN ?_ _) | (with_reducible refine Kd.C_drew ?_)))
                        (case side2 => exact HC0_0.out)
                        (case side3 => repeat (first | exact (Kd.C_below HR0_1.out HB.out) | (with_reducible refine Kd.C_alloc ?_ _) | (with_reducible refine Kd.C_drewN ?_ _) | (with_reducible refine Kd.C_drew ?_)))
                        (case side4 => exact HC0_1.out)
                        (case side5 => repeat (first | exact (Kd.C_below HR0_2.out HB.out) | (with_reducible refine Kd.C_alloc ?_ _) | (with_reducible refine Kd.C_drewN ?_ _) | (with_reducible refine Kd.C_drew ?_)))
                        (case side6 => exact HC0_2.out)
                        rintro e w20 ⟨rfl, hb⟩
                        refine ⟨_, rfl, ?_⟩
                        have n0_ := Aside0.mk (blk_below (g := gb343) (o := .cells #[.slice A0_0 l0_0.length c0_0, .slice A0_1 l0_1.length c0_1, .slice A0_2 l0_2.length c0_2] 31 (0, 0)) (by (with_reducible repeat (first | refine blk_drewN ?_ _ | refine blk_drew ?_ | refine blk_alloc ?_ _)); exact BK343.out) hb)
                        have n1_ := Aside0.mk (below_step (by repeat (first | (with_reducible first | exact HB.out | apply below_alloc | apply pw_below_drewN | apply below_drew1 | refine below_set ?_ GE343.out) | exact HB.out)) hb)
                        clear BK343
                        clear HB
                        have BK343 := n0_
                        have HB := n1_
                        clear n0_ n1_
                        (try clear hb)
                        (try clear hb2)
                        (try clear hk)
                        (try clear hi)
                        refine hK.out _ _ ⟨(blk_cell BK343.out 0).trans rfl, (blk_cell BK343.out 1).trans rfl, (blk_cell BK343.out 2).trans rfl⟩ (fun hHeld => ?_)
                        clear hK K
                        refine norm_ (a' := ?_) ?_ ?_
                        rotate_left
                        · show Act.put _ (some 30) _ = _
                          simp only [Act.put, List.setIfInBounds_toArray, List.set_cons_zero, List.set_cons_succ, i64_w, i32_w]
                          rfl
                        refine pure_ (i := 7) (N := some 10) (v := ?_) (a' := ?_) #[true, true, true, true, true, true, true, true] rfl rfl (any_of HT_.out (by kernel_rfl)) (fun _ _ _ h => h) (Or.inl ⟨by rfl, ?_⟩) ?_ ?_
                        rotate_left
                        · intro w'
                          go_simp
                          with_reducible rfl
                        rotate_left
                        · simp only [Act.put, List.setIfInBounds_toArray, List.set_cons_zero, List.set_cons_succ, i64_w, i32_w]
                          rfl
                        refine done_ (done_of HT_.out (by kernel_rfl)) ?_
                        have hcz21_0 : w20.cell? ⟨gb343, 0, none⟩ = some (.slice A0_0 l0_0.length c0_0) := (blk_cell BK343.out 0).trans rfl
                        have hcz21_1 : w20.cell? ⟨gb343, 1, none⟩ = some (.slice A0_1 l0_1.length c0_1) := (blk_cell BK343.out 1).trans rfl
                        have hcz21_2 : w20.cell? ⟨gb343, 2, none⟩ = some (.slice A0_2 l0_2.length c0_2) := (blk_cell BK343.out 2).trans rfl
                        have hfz21_0 := blk_frozen BK343.out 0
                        have hfz21_1 := blk_frozen BK343.out 1
                        have hfz21_2 := blk_frozen BK343.out 2
                        have p345 : 0 ≤ (t344 : Int) := of_decide_eq_true (by first | (with_reducible assumption) | assumption)
                        have q345 : t344 < (l0_2.length : Int) := of_decide_eq_true (by first | (with_reducible assumption) | assumption)
                        obtain ⟨ad345, e345, hx345_0⟩ := Kd.at_int HR0_2.out t344 p345 q345
                        cases e345
                        replace hx345_0 := (HB.out.cell (World.block_lt_of_cell? w _ hx345_0)).trans hx345_0
                        replace p345 := eq_true p345
                        replace q345 := eq_true q345
                        try go_wp2
                        go_roundg kj4
                        case measure => have := HK1.out; have := HJ4.out; omega
                        case rel => exact ⟨(x8_1), (x9_1), (t344), (wrap64 (x11_1 + 1)), (by first | rfl | (simp; done) | (simp [*]; done)), (by first | rfl | (simp; done) | (simp [*]; done)), (by first | rfl | (simp; done) | (simp [*]; done)), (by first | rfl | (simp; done) | (simp [*]; done)), H', ⟨by have := HK1.out; have := HJ4.out; omega⟩, ⟨by (with_reducible repeat (first | refine blk_drewN ?_ _ | refine blk_drew ?_ | refine blk_alloc ?_ _)); exact BK343.out⟩, ⟨by repeat (first | (with_reducible first | exact HB.out | apply below_alloc | apply pw_below_drewN | apply below_drew1 | refine below_set ?_ GE343.out) | exact HB.out)⟩⟩
                    · rw [if_neg c14] at H
                      exact absurd H (by simp)
                  · rw [if_neg c13] at H
                    exact absurd H (by simp)
                · rw [if_neg c12] at H
                  have c12b0 : decide (0 ≤ t344) = false := decide_eq_false c12
                  clear c12
                  have H' := Aside0.mk H
                  clear H
                  try go_wp2
                  have n0_ := Aside0.mk (blk_drew BK343.out)
                  have n1_ := Aside0.mk (below_drew1 HB.out)
                  clear BK343
                  clear HB
                  have BK343 := n0_
                  have HB := n1_
                  clear n0_ n1_
                  have p10 : 0 ≤ (x11_1 : Int) := of_decide_eq_true (by first | (with_reducible assumption) | assumption)
                  have q10 : x11_1 < (a1.size : Int) := of_decide_eq_true (by first | (with_reducible assumption) | assumption)
                  have hx10 := bt_at a1 x11_1
                  replace p10 := eq_true p10
                  replace q10 := eq_true q10
                  refine start_ (n := 8) (S := fun w' => w'.cell? ⟨gb343, 0, none⟩ = some (.slice A0_0 l0_0.length c0_0) ∧ w'.cell? ⟨gb343, 1, none⟩ = some (.slice A0_1 l0_1.length c0_1) ∧ w'.cell? ⟨gb343, 2, none⟩ = some (.slice A0_2 l0_2.length c0_2)) (ds := []) #[false, false, false, false, false, false, false, false] (by kernel_rfl) rfl rfl ⟨(blk_cell BK343.out 0).trans rfl, (blk_cell BK343.out 1).trans rfl, (blk_cell BK343.out 2).trans rfl⟩ (fun hHeld => ?_); refine with_tabW spec_l9At.tab7 spec_l9At.bits7 (fun HT_ HW_ => ?_)
                  generalize wc.drew = w22 at BK343 HB hHeld ⊢
                  refine pure_ (i := 1) (N := some 25) (v := ?_) (a' := ?_) #[false, true, false, false, false, false, false, false] rfl rfl (any_of HT_.out (by kernel_rfl)) (fun _ _ _ h => h) (Or.inl ⟨by rfl, ?_⟩) ?_ ?_
                  rotate_left
                  · intro w'
                    go_simp
                    with_reducible rfl
                  rotate_left
                  · simp only [Act.put, List.setIfInBounds_toArray, List.set_cons_zero, List.set_cons_succ, i64_w, i32_w]
                    rfl
                  refine pure_ (i := 2) (N := some 26) (v := ?_) (a' := ?_) #[false, true, true, false, false, false, false, false] rfl rfl (any_of HT_.out (by kernel_rfl)) (fun _ _ _ h => h) (Or.inl ⟨by rfl, ?_⟩) ?_ ?_
                  rotate_left
                  · intro w'
                    go_simp
                    with_reducible rfl
                  rotate_left
                  · simp only [Act.put, List.setIfInBounds_toArray, List.set_cons_zero, List.set_cons_succ, i64_w, i32_w]
                    rfl
                  refine pure_ (i := 3) (N := some 27) (v := ?_) (a' := ?_) #[false, true, true, true, false, false, false, false] rfl rfl (any_of HT_.out (by kernel_rfl)) (fun _ _ _ h => h) (Or.inl ⟨by rfl, ?_⟩) ?_ ?_
                  rotate_left
                  · intro w'
                    go_simp
                    with_reducible rfl
                  rotate_left
                  · simp only [Act.put, List.setIfInBounds_toArray, List.set_cons_zero, List.set_cons_succ, i64_w, i32_w]
                    rfl
                  refine take_ (i := 0) (N := some 24) (v := ?_) (a' := ?_) #[true, true, true, true, false, false, false, false] rfl rfl (take_ofW HT_.out HW_.out (by kernel_rfl)) (fun _ _ _ h => h) (Or.inl ⟨by rfl, ?_⟩) hHeld ?_ ?_
                  rotate_left
                  · rintro w' ⟨s0, s1, s2⟩
                    go_simp
                    with_reducible rfl
                  rotate_left
                  · simp only [Act.put, List.setIfInBounds_toArray, List.set_cons_zero, List.set_cons_succ, i64_w, i32_w]
                    rfl
                  refine take_ (i := 4) (N := some 28) (v := ?_) (a' := ?_) #[true, true, true, true, true, false, false, false] rfl rfl (take_ofW HT_.out HW_.out (by kernel_rfl)) (fun _ _ _ h => h) (Or.inl ⟨by rfl, ?_⟩) hHeld ?_ ?_
                  rotate_left
                  · rintro w' ⟨s0, s1, s2⟩
                    go_simp
                    with_reducible rfl
                  rotate_left
                  · simp only [Act.put, List.setIfInBounds_toArray, List.set_cons_zero, List.set_cons_succ, i64_w, i32_w]
                    rfl
                  refine pure_ (i := 5) (N := some 29) (v := ?_) (a' := ?_) #[true, true, true, true, true, true, false, false] rfl rfl (any_of HT_.out (by kernel_rfl)) (fun _ _ _ h => h) (Or.inl ⟨by rfl, ?_⟩) ?_ ?_
                  rotate_left
                  · intro w'
                    go_simp
                    with_reducible rfl
                  rotate_left
                  · simp only [Act.put, List.setIfInBounds_toArray, List.set_cons_zero, List.set_cons_succ, i64_w, i32_w]
                    rfl
                  refine one_ (i := 6) (N := some 30) #[true, true, true, true, true, true, true, false] rfl rfl (one_of HT_.out (by kernel_rfl)) (by decide) (fun K hK => ?_)
                  refine goes_ Try.func103 (by kernel_rfl) rfl #[.agg #[.slice A0_0 l0_0.length c0_0, .slice A0_1 l0_1.length c0_1, .slice A0_2 l0_2.length c0_2], .int .i64 x10_1, .int .i64 (wrap64 (bt a1 x11_1))] (by rfl) rfl rfl (by (try simp only [List.map_toArray, List.map_cons, List.map_nil]); first | done | rfl | (simp only [List.length_drop, List.length_take]; rfl)) ?_
                  with_reducible refine (spec_l7Next.calls kj4 _ _ l0_0 _ _ l0_1 _ _ l0_2 x10_1 (wrap64 (bt a1 x11_1)) t344 _ ?side1 ?side2 ?side3 ?side4 ?side5 ?side6 A11.out).mono ?_
                  (case side1 => repeat (first | exact (Kd.C_below HR0_0.out HB.out) | (with_reducible refine Kd.C_alloc ?_ _) | (with_reducible refine Kd.C_drewN ?_ _) | (with_reducible refine Kd.C_drew ?_)))
                  (case side2 => exact HC0_0.out)
                  (case side3 => repeat (first | exact (Kd.C_below HR0_1.out HB.out) | (with_reducible refine Kd.C_alloc ?_ _) | (with_reducible refine Kd.C_drewN ?_ _) | (with_reducible refine Kd.C_drew ?_)))
                  (case side4 => exact HC0_1.out)
                  (case side5 => repeat (first | exact (Kd.C_below HR0_2.out HB.out) | (with_reducible refine Kd.C_alloc ?_ _) | (with_reducible refine Kd.C_drewN ?_ _) | (with_reducible refine Kd.C_drew ?_)))
                  (case side6 => exact HC0_2.out)
                  rintro e w23 ⟨rfl, hb⟩
                  refine ⟨_, rfl, ?_⟩
                  have n0_ := Aside0.mk (blk_below (g := gb343) (o := .cells #[.slice A0_0 l0_0.length c0_0, .slice A0_1 l0_1.length c0_1, .slice A0_2 l0_2.length c0_2] 31 (0, 0)) (by (with_reducible repeat (first | refine blk_drewN ?_ _ | refine blk_drew ?_ | refine blk_alloc ?_ _)); exact BK343.out) hb)
                  have n1_ := Aside0.mk (below_step (by repeat (first | (with_reducible first | exact HB.out | apply below_alloc | apply pw_below_drewN | apply below_drew1 | refine below_set ?_ GE343.out) | exact HB.out)) hb)
                  clear BK343
                  clear HB
                  have BK343 := n0_
                  have HB := n1_
                  clear n0_ n1_
                  (try clear hb)
                  (try clear hb2)
                  (try clear hk)
                  (try clear hi)
                  refine hK.out _ _ ⟨(blk_cell BK343.out 0).trans rfl, (blk_cell BK343.out 1).trans rfl, (blk_cell BK343.out 2).trans rfl⟩ (fun hHeld => ?_)
                  clear hK K
                  refine norm_ (a' := ?_) ?_ ?_
                  rotate_left
                  · show Act.put _ (some 30) _ = _
                    simp only [Act.put, List.setIfInBounds_toArray, List.set_cons_zero, List.set_cons_succ, i64_w, i32_w]
                    rfl
                  refine pure_ (i := 7) (N := some 10) (v := ?_) (a' := ?_) #[true, true, true, true, true, true, true, true] rfl rfl (any_of HT_.out (by kernel_rfl)) (fun _ _ _ h => h) (Or.inl ⟨by rfl, ?_⟩) ?_ ?_
                  rotate_left
                  · intro w'
                    go_simp
                    with_reducible rfl
                  rotate_left
                  · simp only [Act.put, List.setIfInBounds_toArray, List.set_cons_zero, List.set_cons_succ, i64_w, i32_w]
                    rfl
                  refine done_ (done_of HT_.out (by kernel_rfl)) ?_
                  try go_wp2
                  go_roundg kj4
                  case measure => have := HK1.out; have := HJ4.out; omega
                  case rel => exact ⟨(x8_1), (x9_1), (t344), (wrap64 (x11_1 + 1)), (by first | rfl | (simp; done) | (simp [*]; done)), (by first | rfl | (simp; done) | (simp [*]; done)), (by first | rfl | (simp; done) | (simp [*]; done)), (by first | rfl | (simp; done) | (simp [*]; done)), H', ⟨by have := HK1.out; have := HJ4.out; omega⟩, ⟨by (with_reducible repeat (first | refine blk_drewN ?_ _ | refine blk_drew ?_ | refine blk_alloc ?_ _)); exact BK343.out⟩, ⟨by repeat (first | (with_reducible first | exact HB.out | apply below_alloc | apply pw_below_drewN | apply below_drew1 | refine below_set ?_ GE343.out) | exact HB.out)⟩⟩
              · rw [if_neg c9] at H
                exact absurd H (by simp)
            · rw [if_neg c8] at H
              exact absurd H (by simp)
          · replace c7 := Bool.eq_false_iff.mpr c7
            subst c7
            have H1 : (some (x8_1, x9_1)) = some (r1, r2) := by rw [if_neg (show ¬ (false = true) by decide)] at H; exact H
            clear H
            have H := H1
            clear H1
            simp only [Option.some.injEq, Prod.mk.injEq] at H
            obtain ⟨rfl, rfl⟩ := H
            go_wp2
            go_ret2
            exact ⟨by first | rfl | (simp [errW_none, errW_some] <;> rfl) | (simp [*, errW_none, errW_some] <;> rfl), by repeat (first | (with_reducible first | exact HB.out | apply below_alloc | apply pw_below_drewN | apply below_drew1 | refine below_set ?_ GE343.out) | exact HB.out)⟩
end Go.Proofs.Ytigmibfacllhmaa.P

namespace Go.Proofs.Ytigmibfacllhmaa.P
open Go.RowKit Go.Proofs.YtigmibfacllhmaaW.PrintWords Go.Proofs.YtigmibfacllhmaaW.PrintLast Go.Proofs.YtigmibfacllhmaaW.PrintMore
attribute [local go_sem] max2_int min2_int max_two min_two max_three min_three max_four min_four   -- for this text's walks alone
set_option linter.unusedVariables false
set_option linter.unusedSimpArgs false
def spec_LexAt.f (k : Nat) (l0_0 : List (List (S117))) (l0_1 : List (List Int)) (l0_2 : List Int) (a1 : ByteArray) (a2 : Int) : Option (Int × Int) := (spec_DfaOk.f k l0_0 l0_1 l0_2).bind fun t348 => (if t348 = true then (if (a1.size : Int) > 200 then (some ((-1), a2)) else (if a2 < 0 then (some ((-1), a2)) else (if a2 > (a1.size : Int) then (some ((-1), a2)) else ((spec_l9At.f k l0_0 l0_1 l0_2 a1 a2).bind fun bt349 => (some (bt349.1, bt349.2)))))) else (some ((-1), a2)))
theorem spec_LexAt.mono : ∀ a0 a1 a2 a3 a4 k, LeO (spec_LexAt.f k a0 a1 a2 a3 a4) (spec_LexAt.f (k + 1) a0 a1 a2 a3 a4) := by
  intro a0 a1 a2 a3 a4 k
  unfold spec_LexAt.f
  repeat' first
      | (with_reducible exact spec_DfaOk.mono _ _ _ _)
      | (with_reducible exact spec_l9At.mono _ _ _ _ _ _)
      | (with_reducible exact LeO.refl _)
      | (with_reducible exact LeO.none _)
      | (with_reducible refine LeO.ite ?_ ?_)
      | (with_reducible refine LeO.bind ?_ (fun _ => ?_))
      | exact spec_DfaOk.mono _ _ _ _
      | exact spec_l9At.mono _ _ _ _ _ _
      | exact LeO.none _
      | refine LeO.ite ?_ ?_
      | refine LeO.bind ?_ (fun _ => ?_)
set_option maxHeartbeats 8000000 in
set_option maxRecDepth 100000 in
theorem spec_LexAt.calls (k : Nat) (A0_0 : Option Addr) (c0_0 : Nat) (l0_0 : List (List (S117))) (A0_1 : Option Addr) (c0_1 : Nat) (l0_1 : List (List Int)) (A0_2 : Option Addr) (c0_2 : Nat) (l0_2 : List Int) (a1 : ByteArray) (a2 : Int) (r1 : Int) (r2 : Int) (w : World) (hr0_0 : Kd.C (Kd.slice 117 k117) w A0_0 l0_0.length l0_0) (hc0_0 : l0_0.length ≤ c0_0) (hr0_1 : Kd.C (Kd.slice 3 (Kd.int .i64)) w A0_1 l0_1.length l0_1) (hc0_1 : l0_1.length ≤ c0_1) (hr0_2 : Kd.C (Kd.int .i64) w A0_2 l0_2.length l0_2) (hc0_2 : l0_2.length ≤ c0_2) (h : spec_LexAt.f k l0_0 l0_1 l0_2 a1 a2 = some (r1, r2)) :
    Calls Try.prog 20 #[.agg #[.slice A0_0 l0_0.length c0_0, .slice A0_1 l0_1.length c0_1, .slice A0_2 l0_2.length c0_2], .string a1, .int .i64 a2] w fun e w' => e = .returned (.tuple #[.int .i64 r1, .int .i64 r2]) ∧ Below w.heap.size w w' := by
  have hu31 := Try.underlying31
  have HR0_0 := Aside0.mk hr0_0
  have HC0_0 := Aside0.mk hc0_0
  clear hr0_0 hc0_0
  have HR0_1 := Aside0.mk hr0_1
  have HC0_1 := Aside0.mk hc0_1
  clear hr0_1 hc0_1
  have HR0_2 := Aside0.mk hr0_2
  have HC0_2 := Aside0.mk hc0_2
  clear hr0_2 hc0_2
  have HB := Aside0.mk (Below.refl w.heap.size w)
  have H : ((spec_DfaOk.f k l0_0 l0_1 l0_2).bind fun t348 => (if t348 = true then (if (a1.size : Int) > 200 then (some ((-1), a2)) else (if a2 < 0 then (some ((-1), a2)) else (if a2 > (a1.size : Int) then (some ((-1), a2)) else ((spec_l9At.f k l0_0 l0_1 l0_2 a1 a2).bind fun bt349 => (some (bt349.1, bt349.2)))))) else (some ((-1), a2)))) = some (r1, r2) := h
  clear h
  replace H := Option.bind_eq_some_iff.mp H
  obtain ⟨t348, A40, H⟩ := H
  replace H : (if t348 = true then (if (a1.size : Int) > 200 then (some ((-1), a2)) else (if a2 < 0 then (some ((-1), a2)) else (if a2 > (a1.size : Int) then (some ((-1), a2)) else ((spec_l9At.f k l0_0 l0_1 l0_2 a1 a2).bind fun bt349 => (some (bt349.1, bt349.2)))))) else (some ((-1), a2))) = some (r1, r2) := H
  have A4 := Aside0.mk A40
  clear A40
  by_cases c5 : t348 = true
  · subst c5
    have H1 : (if (a1.size : Int) > 200 then (some ((-1), a2)) else (if a2 < 0 then (some ((-1), a2)) else (if a2 > (a1.size : Int) then (some ((-1), a2)) else ((spec_l9At.f k l0_0 l0_1 l0_2 a1 a2).bind fun bt349 => (some (bt349.1, bt349.2)))))) = some (r1, r2) := by rw [if_pos rfl] at H; exact H
    clear H
    have H := H1
    clear H1
    by_cases c6 : (a1.size : Int) > 200
    · rw [if_pos c6] at H
      have c6b0 : decide (200 < (a1.size : Int)) = true := decide_eq_true c6
      have c6b1 : decide (200 < a1.size) = true := decide_eq_true (by omega)
      clear c6
      simp only [Option.some.injEq, Prod.mk.injEq] at H
      obtain ⟨rfl, rfl⟩ := H
      go_enter Try.func20, Try.ntmps20
      go_wp2_with (first | ((with_reducible refine gate_dst (N := 3) rfl ?_); (try (refine gate_guard (by rfl) ?_; dsimp only)); refine box_event ?hg (N := 3) ?hd (cs := #[.slice A0_0 l0_0.length c0_0, .slice A0_1 l0_1.length c0_1, .slice A0_2 l0_2.length c0_2]) (t := 31) ?hr ?_; (case hd => rfl); (case hg => rfl); (case hr => first | (go_simp; done) | (go_simp; rfl)); intro gb347 hg w7 hbox hb; have n0_ := Aside0.mk (below_step (by repeat (first | (with_reducible first | exact HB.out | apply below_alloc | apply pw_below_drewN | apply below_drew1) | exact HB.out)) hb); have n1_ := Aside0.mk (hbox); have n2_ := Aside0.mk ((by rw [hg]; exact (below_size (by repeat (first | (with_reducible first | exact HB.out | apply below_alloc | apply pw_below_drewN | apply below_drew1) | exact HB.out))) : w.heap.size ≤ gb347)); have n3_ := Aside0.mk ((by rw [hg]; exact (below_size (by repeat (first | (with_reducible first | exact HB.out | apply below_alloc | apply pw_below_drewN | apply below_drew1) | exact HB.out))) : w.heap.size ≤ gb347)); clear HB; have HB := n0_; have BK347 := n1_; have GW347 := n2_; have GE347 := n3_; clear n0_ n1_ n2_ n3_; clear hb hbox hg; have hcz8_0 : w7.cell? ⟨gb347, 0, none⟩ = some (.slice A0_0 l0_0.length c0_0) := (blk_cell BK347.out 0).trans rfl; have hcz8_1 : w7.cell? ⟨gb347, 1, none⟩ = some (.slice A0_1 l0_1.length c0_1) := (blk_cell BK347.out 1).trans rfl; have hcz8_2 : w7.cell? ⟨gb347, 2, none⟩ = some (.slice A0_2 l0_2.length c0_2) := (blk_cell BK347.out 2).trans rfl; have hfz8_0 := blk_frozen BK347.out 0; have hfz8_1 := blk_frozen BK347.out 1; have hfz8_2 := blk_frozen BK347.out 2) | ((with_reducible refine gate_callee (f := 54) rfl ?_); refine goesL_ (some 9) rfl rfl Try.func54 (by kernel_rfl) rfl #[.agg #[.slice A0_0 l0_0.length c0_0, .slice A0_1 l0_1.length c0_1, .slice A0_2 l0_2.length c0_2]] rfl (by (try simp only [List.map_toArray, List.map_cons, List.map_nil]); first | done | rfl | (simp only [List.length_drop, List.length_take]; rfl)) ?_; (with_reducible refine (spec_DfaOk.calls k _ _ l0_0 _ _ l0_1 _ _ l0_2 true _ ?side1 ?side2 ?side3 ?side4 ?side5 ?side6 A4.out).mono ?_); (case side1 => repeat (first | exact (Kd.C_below HR0_0.out HB.out) | (with_reducible refine Kd.C_alloc ?_ _) | (with_reducible refine Kd.C_drewN ?_ _) | (with_reducible refine Kd.C_drew ?_))); (case side2 => exact HC0_0.out); (case side3 => repeat (first | exact (Kd.C_below HR0_1.out HB.out) | (with_reducible refine Kd.C_alloc ?_ _) | (with_reducible refine Kd.C_drewN ?_ _) | (with_reducible refine Kd.C_drew ?_))); (case side4 => exact HC0_1.out); (case side5 => repeat (first | exact (Kd.C_below HR0_2.out HB.out) | (with_reducible refine Kd.C_alloc ?_ _) | (with_reducible refine Kd.C_drewN ?_ _) | (with_reducible refine Kd.C_drew ?_))); (case side6 => exact HC0_2.out); rintro e w9 ⟨rfl, hb⟩; refine ⟨_, rfl, ?_⟩; have n0_ := Aside0.mk (blk_below (g := gb347) (o := .cells #[.slice A0_0 l0_0.length c0_0, .slice A0_1 l0_1.length c0_1, .slice A0_2 l0_2.length c0_2] 31 (0, 0)) (by (with_reducible repeat (first | refine blk_drewN ?_ _ | refine blk_drew ?_ | refine blk_alloc ?_ _)); exact BK347.out) hb); have n1_ := Aside0.mk (below_step (by repeat (first | (with_reducible first | exact HB.out | apply below_alloc | apply pw_below_drewN | apply below_drew1 | refine below_set ?_ GE347.out) | exact HB.out)) hb); clear BK347; clear HB; have BK347 := n0_; have HB := n1_; clear n0_ n1_; (try clear hb); (try clear hb2); (try clear hk); (try clear hi)))
      go_ret2
      exact ⟨by first | rfl | (simp [errW_none, errW_some] <;> rfl) | (simp [*, errW_none, errW_some] <;> rfl), by repeat (first | (with_reducible first | exact HB.out | apply below_alloc | apply pw_below_drewN | apply below_drew1 | refine below_set ?_ GE347.out) | exact HB.out)⟩
    · rw [if_neg c6] at H
      have c6b0 : decide (200 < (a1.size : Int)) = false := decide_eq_false c6
      have c6b1 : decide (200 < a1.size) = false := decide_eq_false (by omega)
      clear c6
      by_cases c10 : a2 < 0
      · rw [if_pos c10] at H
        have c10b0 : decide (a2 < 0) = true := decide_eq_true c10
        clear c10
        simp only [Option.some.injEq, Prod.mk.injEq] at H
        obtain ⟨rfl, rfl⟩ := H
        go_enter Try.func20, Try.ntmps20
        go_wp2_with (first | ((with_reducible refine gate_dst (N := 3) rfl ?_); (try (refine gate_guard (by rfl) ?_; dsimp only)); refine box_event ?hg (N := 3) ?hd (cs := #[.slice A0_0 l0_0.length c0_0, .slice A0_1 l0_1.length c0_1, .slice A0_2 l0_2.length c0_2]) (t := 31) ?hr ?_; (case hd => rfl); (case hg => rfl); (case hr => first | (go_simp; done) | (go_simp; rfl)); intro gb347 hg w11 hbox hb; have n0_ := Aside0.mk (below_step (by repeat (first | (with_reducible first | exact HB.out | apply below_alloc | apply pw_below_drewN | apply below_drew1) | exact HB.out)) hb); have n1_ := Aside0.mk (hbox); have n2_ := Aside0.mk ((by rw [hg]; exact (below_size (by repeat (first | (with_reducible first | exact HB.out | apply below_alloc | apply pw_below_drewN | apply below_drew1) | exact HB.out))) : w.heap.size ≤ gb347)); have n3_ := Aside0.mk ((by rw [hg]; exact (below_size (by repeat (first | (with_reducible first | exact HB.out | apply below_alloc | apply pw_below_drewN | apply below_drew1) | exact HB.out))) : w.heap.size ≤ gb347)); clear HB; have HB := n0_; have BK347 := n1_; have GW347 := n2_; have GE347 := n3_; clear n0_ n1_ n2_ n3_; clear hb hbox hg; have hcz12_0 : w11.cell? ⟨gb347, 0, none⟩ = some (.slice A0_0 l0_0.length c0_0) := (blk_cell BK347.out 0).trans rfl; have hcz12_1 : w11.cell? ⟨gb347, 1, none⟩ = some (.slice A0_1 l0_1.length c0_1) := (blk_cell BK347.out 1).trans rfl; have hcz12_2 : w11.cell? ⟨gb347, 2, none⟩ = some (.slice A0_2 l0_2.length c0_2) := (blk_cell BK347.out 2).trans rfl; have hfz12_0 := blk_frozen BK347.out 0; have hfz12_1 := blk_frozen BK347.out 1; have hfz12_2 := blk_frozen BK347.out 2) | ((with_reducible refine gate_callee (f := 54) rfl ?_); refine goesL_ (some 9) rfl rfl Try.func54 (by kernel_rfl) rfl #[.agg #[.slice A0_0 l0_0.length c0_0, .slice A0_1 l0_1.length c0_1, .slice A0_2 l0_2.length c0_2]] rfl (by (try simp only [List.map_toArray, List.map_cons, List.map_nil]); first | done | rfl | (simp only [List.length_drop, List.length_take]; rfl)) ?_; (with_reducible refine (spec_DfaOk.calls k _ _ l0_0 _ _ l0_1 _ _ l0_2 true _ ?side1 ?side2 ?side3 ?side4 ?side5 ?side6 A4.out).mono ?_); (case side1 => repeat (first | exact (Kd.C_below HR0_0.out HB.out) | (with_reducible refine Kd.C_alloc ?_ _) | (with_reducible refine Kd.C_drewN ?_ _) | (with_reducible refine Kd.C_drew ?_))); (case side2 => exact HC0_0.out); (case side3 => repeat (first | exact (Kd.C_below HR0_1.out HB.out) | (with_reducible refine Kd.C_alloc ?_ _) | (with_reducible refine Kd.C_drewN ?_ _) | (with_reducible refine Kd.C_drew ?_))); (case side4 => exact HC0_1.out); (case side5 => repeat (first | exact (Kd.C_below HR0_2.out HB.out) | (with_reducible refine Kd.C_alloc ?_ _) | (with_reducible refine Kd.C_drewN ?_ _) | (with_reducible refine Kd.C_drew ?_))); (case side6 => exact HC0_2.out); rintro e w13 ⟨rfl, hb⟩; refine ⟨_, rfl, ?_⟩; have n0_ := Aside0.mk (blk_below (g := gb347) (o := .cells #[.slice A0_0 l0_0.length c0_0, .slice A0_1 l0_1.length c0_1, .slice A0_2 l0_2.length c0_2] 31 (0, 0)) (by (with_reducible repeat (first | refine blk_drewN ?_ _ | refine blk_drew ?_ | refine blk_alloc ?_ _)); exact BK347.out) hb); have n1_ := Aside0.mk (below_step (by repeat (first | (with_reducible first | exact HB.out | apply below_alloc | apply pw_below_drewN | apply below_drew1 | refine below_set ?_ GE347.out) | exact HB.out)) hb); clear BK347; clear HB; have BK347 := n0_; have HB := n1_; clear n0_ n1_; (try clear hb); (try clear hb2); (try clear hk); (try clear hi)))
        go_ret2
        exact ⟨by first | rfl | (simp [errW_none, errW_some] <;> rfl) | (simp [*, errW_none, errW_some] <;> rfl), by repeat (first | (with_reducible first | exact HB.out | apply below_alloc | apply pw_below_drewN | apply below_drew1 | refine below_set ?_ GE347.out) | exact HB.out)⟩
      · rw [if_neg c10] at H
        have c10b0 : decide (a2 < 0) = false := decide_eq_false c10
        clear c10
        by_cases c14 : a2 > (a1.size : Int)
        · rw [if_pos c14] at H
          have c14b0 : decide ((a1.size : Int) < a2) = true := decide_eq_true c14
          clear c14
          simp only [Option.some.injEq, Prod.mk.injEq] at H
          obtain ⟨rfl, rfl⟩ := H
          go_enter Try.func20, Try.ntmps20
          go_wp2_with (first | ((with_reducible refine gate_dst (N := 3) rfl ?_); (try (refine gate_guard (by rfl) ?_; dsimp only)); refine box_event ?hg (N := 3) ?hd (cs := #[.slice A0_0 l0_0.length c0_0, .slice A0_1 l0_1.length c0_1, .slice A0_2 l0_2.length c0_2]) (t := 31) ?hr ?_; (case hd => rfl); (case hg => rfl); (case hr => first | (go_simp; done) | (go_simp; rfl)); intro gb347 hg w15 hbox hb; have n0_ := Aside0.mk (below_step (by repeat (first | (with_reducible first | exact HB.out | apply below_alloc | apply pw_below_drewN | apply below_drew1) | exact HB.out)) hb); have n1_ := Aside0.mk (hbox); have n2_ := Aside0.mk ((by rw [hg]; exact (below_size (by repeat (first | (with_reducible first | exact HB.out | apply below_alloc | apply pw_below_drewN | apply below_drew1) | exact HB.out))) : w.heap.size ≤ gb347)); have n3_ := Aside0.mk ((by rw [hg]; exact (below_size (by repeat (first | (with_reducible first | exact HB.out | apply below_alloc | apply pw_below_drewN | apply below_drew1) | exact HB.out))) : w.heap.size ≤ gb347)); clear HB; have HB := n0_; have BK347 := n1_; have GW347 := n2_; have GE347 := n3_; clear n0_ n1_ n2_ n3_; clear hb hbox hg; have hcz16_0 : w15.cell? ⟨gb347, 0, none⟩ = some (.slice A0_0 l0_0.length c0_0) := (blk_cell BK347.out 0).trans rfl; have hcz16_1 : w15.cell? ⟨gb347, 1, none⟩ = some (.slice A0_1 l0_1.length c0_1) := (blk_cell BK347.out 1).trans rfl; have hcz16_2 : w15.cell? ⟨gb347, 2, none⟩ = some (.slice A0_2 l0_2.length c0_2) := (blk_cell BK347.out 2).trans rfl; have hfz16_0 := blk_frozen BK347.out 0; have hfz16_1 := blk_frozen BK347.out 1; have hfz16_2 := blk_frozen BK347.out 2) | ((with_reducible refine gate_callee (f := 54) rfl ?_); refine goesL_ (some 9) rfl rfl Try.func54 (by kernel_rfl) rfl #[.agg #[.slice A0_0 l0_0.length c0_0, .slice A0_1 l0_1.length c0_1, .slice A0_2 l0_2.length c0_2]] rfl (by (try simp only [List.map_toArray, List.map_cons, List.map_nil]); first | done | rfl | (simp only [List.length_drop, List.length_take]; rfl)) ?_; (with_reducible refine (spec_DfaOk.calls k _ _ l0_0 _ _ l0_1 _ _ l0_2 true _ ?side1 ?side2 ?side3 ?side4 ?side5 ?side6 A4.out).mono ?_); (case side1 => repeat (first | exact (Kd.C_below HR0_0.out HB.out) | (with_reducible refine Kd.C_alloc ?_ _) | (with_reducible refine Kd.C_drewN ?_ _) | (with_reducible refine Kd.C_drew ?_))); (case side2 => exact HC0_0.out); (case side3 => repeat (first | exact (Kd.C_below HR0_1.out HB.out) | (with_reducible refine Kd.C_alloc ?_ _) | (with_reducible refine Kd.C_drewN ?_ _) | (with_reducible refine Kd.C_drew ?_))); (case side4 => exact HC0_1.out); (case side5 => repeat (first | exact (Kd.C_below HR0_2.out HB.out) | (with_reducible refine Kd.C_alloc ?_ _) | (with_reducible refine Kd.C_drewN ?_ _) | (with_reducible refine Kd.C_drew ?_))); (case side6 => exact HC0_2.out); rintro e w17 ⟨rfl, hb⟩; refine ⟨_, rfl, ?_⟩; have n0_ := Aside0.mk (blk_below (g := gb347) (o := .cells #[.slice A0_0 l0_0.length c0_0, .slice A0_1 l0_1.length c0_1, .slice A0_2 l0_2.length c0_2] 31 (0, 0)) (by (with_reducible repeat (first | refine blk_drewN ?_ _ | refine blk_drew ?_ | refine blk_alloc ?_ _)); exact BK347.out) hb); have n1_ := Aside0.mk (below_step (by repeat (first | (with_reducible first | exact HB.out | apply below_alloc | apply pw_below_drewN | apply below_drew1 | refine below_set ?_ GE347.out) | exact HB.out)) hb); clear BK347; clear HB; have BK347 := n0_; have HB := n1_; clear n0_ n1_; (try clear hb); (try clear hb2); (try clear hk); (try clear hi)))
          go_ret2
          exact ⟨by first | rfl | (simp [errW_none, errW_some] <;> rfl) | (simp [*, errW_none, errW_some] <;> rfl), by repeat (first | (with_reducible first | exact HB.out | apply below_alloc | apply pw_below_drewN | apply below_drew1 | refine below_set ?_ GE347.out) | exact HB.out)⟩
        · rw [if_neg c14] at H
          have c14b0 : decide ((a1.size : Int) < a2) = false := decide_eq_false c14
          clear c14
          replace H := Option.bind_eq_some_iff.mp H
          obtain ⟨⟨t349, t350⟩, A180, H⟩ := H
          replace H : (some (t349, t350)) = some (r1, r2) := H
          have A18 := Aside0.mk A180
          clear A180
          simp only [Option.some.injEq, Prod.mk.injEq] at H
          obtain ⟨rfl, rfl⟩ := H
          go_enter Try.func20, Try.ntmps20
          go_wp2_with (first | ((with_reducible refine gate_dst (N := 3) rfl ?_); (try (refine gate_guard (by rfl) ?_; dsimp only)); refine box_event ?hg (N := 3) ?hd (cs := #[.slice A0_0 l0_0.length c0_0, .slice A0_1 l0_1.length c0_1, .slice A0_2 l0_2.length c0_2]) (t := 31) ?hr ?_; (case hd => rfl); (case hg => rfl); (case hr => first | (go_simp; done) | (go_simp; rfl)); intro gb347 hg w19 hbox hb; have n0_ := Aside0.mk (below_step (by repeat (first | (with_reducible first | exact HB.out | apply below_alloc | apply pw_below_drewN | apply below_drew1) | exact HB.out)) hb); have n1_ := Aside0.mk (hbox); have n2_ := Aside0.mk ((by rw [hg]; exact (below_size (by repeat (first | (with_reducible first | exact HB.out | apply below_alloc | apply pw_below_drewN | apply below_drew1) | exact HB.out))) : w.heap.size ≤ gb347)); have n3_ := Aside0.mk ((by rw [hg]; exact (below_size (by repeat (first | (with_reducible first | exact HB.out | apply below_alloc | apply pw_below_drewN | apply below_drew1) | exact HB.out))) : w.heap.size ≤ gb347)); clear HB; have HB := n0_; have BK347 := n1_; have GW347 := n2_; have GE347 := n3_; clear n0_ n1_ n2_ n3_; clear hb hbox hg; have hcz20_0 : w19.cell? ⟨gb347, 0, none⟩ = some (.slice A0_0 l0_0.length c0_0) := (blk_cell BK347.out 0).trans rfl; have hcz20_1 : w19.cell? ⟨gb347, 1, none⟩ = some (.slice A0_1 l0_1.length c0_1) := (blk_cell BK347.out 1).trans rfl; have hcz20_2 : w19.cell? ⟨gb347, 2, none⟩ = some (.slice A0_2 l0_2.length c0_2) := (blk_cell BK347.out 2).trans rfl; have hfz20_0 := blk_frozen BK347.out 0; have hfz20_1 := blk_frozen BK347.out 1; have hfz20_2 := blk_frozen BK347.out 2) | ((with_reducible refine gate_callee (f := 54) rfl ?_); refine goesL_ (some 9) rfl rfl Try.func54 (by kernel_rfl) rfl #[.agg #[.slice A0_0 l0_0.length c0_0, .slice A0_1 l0_1.length c0_1, .slice A0_2 l0_2.length c0_2]] rfl (by (try simp only [List.map_toArray, List.map_cons, List.map_nil]); first | done | rfl | (simp only [List.length_drop, List.length_take]; rfl)) ?_; (with_reducible refine (spec_DfaOk.calls k _ _ l0_0 _ _ l0_1 _ _ l0_2 true _ ?side1 ?side2 ?side3 ?side4 ?side5 ?side6 A4.out).mono ?_); (case side1 => repeat (first | exact (Kd.C_below HR0_0.out HB.out) | (with_reducible refine Kd.C_alloc ?_ _) | (with_reducible refine Kd.C_drewN ?_ _) | (with_reducible refine Kd.C_drew ?_))); (case side2 => exact HC0_0.out); (case side3 => repeat (first | exact (Kd.C_below HR0_1.out HB.out) | (with_reducible refine Kd.C_alloc ?_ _) | (with_reducible refine Kd.C_drewN ?_ _) | (with_reducible refine Kd.C_drew ?_))); (case side4 => exact HC0_1.out); (case side5 => repeat (first | exact (Kd.C_below HR0_2.out HB.out) | (with_reducible refine Kd.C_alloc ?_ _) | (with_reducible refine Kd.C_drewN ?_ _) | (with_reducible refine Kd.C_drew ?_))); (case side6 => exact HC0_2.out); rintro e w21 ⟨rfl, hb⟩; refine ⟨_, rfl, ?_⟩; have n0_ := Aside0.mk (blk_below (g := gb347) (o := .cells #[.slice A0_0 l0_0.length c0_0, .slice A0_1 l0_1.length c0_1, .slice A0_2 l0_2.length c0_2] 31 (0, 0)) (by (with_reducible repeat (first | refine blk_drewN ?_ _ | refine blk_drew ?_ | refine blk_alloc ?_ _)); exact BK347.out) hb); have n1_ := Aside0.mk (below_step (by repeat (first | (with_reducible first | exact HB.out | apply below_alloc | apply pw_below_drewN | apply below_drew1 | refine below_set ?_ GE347.out) | exact HB.out)) hb); clear BK347; clear HB; have BK347 := n0_; have HB := n1_; clear n0_ n1_; (try clear hb); (try clear hb2); (try clear hk); (try clear hi); have hcz22_0 : w21.cell? ⟨gb347, 0, none⟩ = some (.slice A0_0 l0_0.length c0_0) := (blk_cell BK347.out 0).trans rfl; have hcz22_1 : w21.cell? ⟨gb347, 1, none⟩ = some (.slice A0_1 l0_1.length c0_1) := (blk_cell BK347.out 1).trans rfl; have hcz22_2 : w21.cell? ⟨gb347, 2, none⟩ = some (.slice A0_2 l0_2.length c0_2) := (blk_cell BK347.out 2).trans rfl; have hfz22_0 := blk_frozen BK347.out 0; have hfz22_1 := blk_frozen BK347.out 1; have hfz22_2 := blk_frozen BK347.out 2) | ((with_reducible refine gate_callee (f := 63) rfl ?_); refine goesL_ (some 30) rfl rfl Try.func63 (by kernel_rfl) rfl #[.agg #[.slice A0_0 l0_0.length c0_0, .slice A0_1 l0_1.length c0_1, .slice A0_2 l0_2.length c0_2], .string a1, .int .i64 a2] rfl (by (try simp only [List.map_toArray, List.map_cons, List.map_nil]); first | done | rfl | (simp only [List.length_drop, List.length_take]; rfl)) ?_; (with_reducible refine (spec_l9At.calls k _ _ l0_0 _ _ l0_1 _ _ l0_2 a1 a2 t349 t350 _ ?side1 ?side2 ?side3 ?side4 ?side5 ?side6 A18.out).mono ?_); (case side1 => repeat (first | exact (Kd.C_below HR0_0.out HB.out) | (with_reducible refine Kd.C_alloc ?_ _) | (with_reducible refine Kd.C_drewN ?_ _) | (with_reducible refine Kd.C_drew ?_))); (case side2 => exact HC0_0.out); (case side3 => repeat (first | exact (Kd.C_below HR0_1.out HB.out) | (with_reducible refine Kd.C_alloc ?_ _) | (with_reducible refine Kd.C_drewN ?_ _) | (with_reducible refine Kd.C_drew ?_))); (case side4 => exact HC0_1.out); (case side5 => repeat (first | exact (Kd.C_below HR0_2.out HB.out) | (with_reducible refine Kd.C_alloc ?_ _) | (with_reducible refine Kd.C_drewN ?_ _) | (with_reducible refine Kd.C_drew ?_))); (case side6 => exact HC0_2.out); rintro e w23 ⟨rfl, hb⟩; refine ⟨_, rfl, ?_⟩; have n0_ := Aside0.mk (blk_below (g := gb347) (o := .cells #[.slice A0_0 l0_0.length c0_0, .slice A0_1 l0_1.length c0_1, .slice A0_2 l0_2.length c0_2] 31 (0, 0)) (by (with_reducible repeat (first | refine blk_drewN ?_ _ | refine blk_drew ?_ | refine blk_alloc ?_ _)); exact BK347.out) hb); have n1_ := Aside0.mk (below_step (by repeat (first | (with_reducible first | exact HB.out | apply below_alloc | apply pw_below_drewN | apply below_drew1 | refine below_set ?_ GE347.out) | exact HB.out)) hb); clear BK347; clear HB; have BK347 := n0_; have HB := n1_; clear n0_ n1_; (try clear hb); (try clear hb2); (try clear hk); (try clear hi)))
          go_ret2
          exact ⟨by first | rfl | (simp [errW_none, errW_some] <;> rfl) | (simp [*, errW_none, errW_some] <;> rfl), by repeat (first | (with_reducible first | exact HB.out | apply below_alloc | apply pw_below_drewN | apply below_drew1 | refine below_set ?_ GE347.out) | exact HB.out)⟩
  · replace c5 := Bool.eq_false_iff.mpr c5
    subst c5
    have H1 : (some ((-1), a2)) = some (r1, r2) := by rw [if_neg (show ¬ (false = true) by decide)] at H; exact H
    clear H
    have H := H1
    clear H1
    simp only [Option.some.injEq, Prod.mk.injEq] at H
    obtain ⟨rfl, rfl⟩ := H
    go_enter Try.func20, Try.ntmps20
    go_wp2_with (first | ((with_reducible refine gate_dst (N := 3) rfl ?_); (try (refine gate_guard (by rfl) ?_; dsimp only)); refine box_event ?hg (N := 3) ?hd (cs := #[.slice A0_0 l0_0.length c0_0, .slice A0_1 l0_1.length c0_1, .slice A0_2 l0_2.length c0_2]) (t := 31) ?hr ?_; (case hd => rfl); (case hg => rfl); (case hr => first | (go_simp; done) | (go_simp; rfl)); intro gb347 hg w24 hbox hb; have n0_ := Aside0.mk (below_step (by repeat (first | (with_reducible first | exact HB.out | apply below_alloc | apply pw_below_drewN | apply below_drew1) | exact HB.out)) hb); have n1_ := Aside0.mk (hbox); have n2_ := Aside0.mk ((by rw [hg]; exact (below_size (by repeat (first | (with_reducible first | exact HB.out | apply below_alloc | apply pw_below_drewN | apply below_drew1) | exact HB.out))) : w.heap.size ≤ gb347)); have n3_ := Aside0.mk ((by rw [hg]; exact (below_size (by repeat (first | (with_reducible first | exact HB.out | apply below_alloc | apply pw_below_drewN | apply below_drew1) | exact HB.out))) : w.heap.size ≤ gb347)); clear HB; have HB := n0_; have BK347 := n1_; have GW347 := n2_; have GE347 := n3_; clear n0_ n1_ n2_ n3_; clear hb hbox hg; have hcz25_0 : w24.cell? ⟨gb347, 0, none⟩ = some (.slice A0_0 l0_0.length c0_0) := (blk_cell BK347.out 0).trans rfl; have hcz25_1 : w24.cell? ⟨gb347, 1, none⟩ = some (.slice A0_1 l0_1.length c0_1) := (blk_cell BK347.out 1).trans rfl; have hcz25_2 : w24.cell? ⟨gb347, 2, none⟩ = some (.slice A0_2 l0_2.length c0_2) := (blk_cell BK347.out 2).trans rfl; have hfz25_0 := blk_frozen BK347.out 0; have hfz25_1 := blk_frozen BK347.out 1; have hfz25_2 := blk_frozen BK347.out 2) | ((with_reducible refine gate_callee (f := 54) rfl ?_); refine goesL_ (some 9) rfl rfl Try.func54 (by kernel_rfl) rfl #[.agg #[.slice A0_0 l0_0.length c0_0, .slice A0_1 l0_1.length c0_1, .slice A0_2 l0_2.length c0_2]] rfl (by (try simp only [List.map_toArray, List.map_cons, List.map_nil]); first | done | rfl | (simp only [List.length_drop, List.length_take]; rfl)) ?_; (with_reducible refine (spec_DfaOk.calls k _ _ l0_0 _ _ l0_1 _ _ l0_2 false _ ?side1 ?side2 ?side3 ?side4 ?side5 ?side6 A4.out).mono ?_); (case side1 => repeat (first | exact (Kd.C_below HR0_0.out HB.out) | (with_reducible refine Kd.C_alloc ?_ _) | (with_reducible refine Kd.C_drewN ?_ _) | (with_reducible refine Kd.C_drew ?_))); (case side2 => exact HC0_0.out); (case side3 => repeat (first | exact (Kd.C_below HR0_1.out HB.out) | (with_reducible refine Kd.C_alloc ?_ _) | (with_reducible refine Kd.C_drewN ?_ _) | (with_reducible refine Kd.C_drew ?_))); (case side4 => exact HC0_1.out); (case side5 => repeat (first | exact (Kd.C_below HR0_2.out HB.out) | (with_reducible refine Kd.C_alloc ?_ _) | (with_reducible refine Kd.C_drewN ?_ _) | (with_reducible refine Kd.C_drew ?_))); (case side6 => exact HC0_2.out); rintro e w26 ⟨rfl, hb⟩; refine ⟨_, rfl, ?_⟩; have n0_ := Aside0.mk (blk_below (g := gb347) (o := .cells #[.slice A0_0 l0_0.length c0_0, .slice A0_1 l0_1.length c0_1, .slice A0_2 l0_2.length c0_2] 31 (0, 0)) (by (with_reducible repeat (first | refine blk_drewN ?_ _ | refine blk_drew ?_ | refine blk_alloc ?_ _)); exact BK347.out) hb); have n1_ := Aside0.mk (below_step (by repeat (first | (with_reducible first | exact HB.out | apply below_alloc | apply pw_below_drewN | apply below_drew1 | refine below_set ?_ GE347.out) | exact HB.out)) hb); clear BK347; clear HB; have BK347 := n0_; have HB := n1_; clear n0_ n1_; (try clear hb); (try clear hb2); (try clear hk); (try clear hi)))
    go_ret2
    exact ⟨by first | rfl | (simp [errW_none, errW_some] <;> rfl) | (simp [*, errW_none, errW_some] <;> rfl), by repeat (first | (with_reducible first | exact HB.out | apply below_alloc | apply pw_below_drewN | apply below_drew1 | refine below_set ?_ GE347.out) | exact HB.out)⟩
end Go.Proofs.Ytigmibfacllhmaa.P

namespace Go.Proofs.Ytigmibfacllhmaa.P
open Go.RowKit Go.Proofs.YtigmibfacllhmaaW.PrintWords Go.Proofs.YtigmibfacllhmaaW.PrintLast Go.Proofs.YtigmibfacllhmaaW.PrintMore
attribute [local go_sem] max2_int min2_int max_two min_two max_three min_three max_four min_four   -- for this text's walks alone
set_option linter.unusedVariables false
set_option linter.unusedSimpArgs false
def laws_FnExactLexAt.j0 : Nat → Bool → List (List (S146)) → List (List Int) → List Int → List (List (S117)) → List (List Int) → List Int → Option (Bool)
  | 0, _, _, _, _, _, _, _ => none
  | k + 1, x45, x364000, x364001, x364002, x386000, x386001, x386002 => if x45 = true then (some false) else ((laws_toDfa.f k x364000 x364001 x364002).bind fun bt388 => ((laws_eqDfa.f k x386000 x386001 x386002 bt388.1 bt388.2.1 bt388.2.2).bind fun t397 => (if t397 = true then (some true) else (some false))))
def laws_FnExactLexAt.f (k : Nat) (l0_0 : List (List (S146))) (l0_1 : List (List Int)) (l0_2 : List Int) (a1 : ByteArray) (a2 : Int) : Option (Bool) := if (a1.size : Int) > 1048576 then (some true) else ((laws_szDfa.f k l0_0 l0_1 l0_2 1048576).bind fun t364 => (if t364 < 0 then (some true) else ((laws_toDfa.f k l0_0 l0_1 l0_2).bind fun bt365 => ((spec_LexAt.f k bt365.1 bt365.2.1 bt365.2.2 a1 a2).bind fun bt374 => ((laws_toDfa.f k l0_0 l0_1 l0_2).bind fun bt376 => ((impl_LexAt.f k bt376.1 bt376.2.1 bt376.2.2 a1 a2).bind fun bt386 => (if bt386.1 = bt374.1 then (laws_FnExactLexAt.j0 k (bt386.2 != bt374.2) l0_0 l0_1 l0_2 bt376.1 bt376.2.1 bt376.2.2) else (laws_FnExactLexAt.j0 k true l0_0 l0_1 l0_2 bt376.1 bt376.2.1 bt376.2.2))))))))
theorem laws_FnExactLexAt.mono_l : ∀ k, (∀ y0 y1 y2 y3 y4 y5 y6, LeO (laws_FnExactLexAt.j0 k y0 y1 y2 y3 y4 y5 y6) (laws_FnExactLexAt.j0 (k + 1) y0 y1 y2 y3 y4 y5 y6))
  | 0 => fun _ _ _ _ _ _ _ r h => by simp [laws_FnExactLexAt.j0] at h
  | k + 1 => by
    have ih0 := laws_FnExactLexAt.mono_l k
    · intro y0 y1 y2 y3 y4 y5 y6
      unfold laws_FnExactLexAt.j0
      repeat' first
      | (with_reducible exact ih0 _ _ _ _ _ _ _)
      | (with_reducible exact impl_LexAt.mono _ _ _ _ _ _)
      | (with_reducible exact laws_eqDfa.mono _ _ _ _ _ _ _)
      | (with_reducible exact laws_szDfa.mono _ _ _ _ _)
      | (with_reducible exact laws_toDfa.mono _ _ _ _)
      | (with_reducible exact spec_LexAt.mono _ _ _ _ _ _)
      | (with_reducible exact LeO.refl _)
      | (with_reducible exact LeO.none _)
      | (with_reducible refine LeO.ite ?_ ?_)
      | (with_reducible refine LeO.bind ?_ (fun _ => ?_))
      | exact ih0 _ _ _ _ _ _ _
      | exact impl_LexAt.mono _ _ _ _ _ _
      | exact laws_eqDfa.mono _ _ _ _ _ _ _
      | exact laws_szDfa.mono _ _ _ _ _
      | exact laws_toDfa.mono _ _ _ _
      | exact spec_LexAt.mono _ _ _ _ _ _
      | exact LeO.none _
      | refine LeO.ite ?_ ?_
      | refine LeO.bind ?_ (fun _ => ?_)
theorem laws_FnExactLexAt.mono : ∀ a0 a1 a2 a3 a4 k, LeO (laws_FnExactLexAt.f k a0 a1 a2 a3 a4) (laws_FnExactLexAt.f (k + 1) a0 a1 a2 a3 a4) := by
  intro a0 a1 a2 a3 a4 k
  have ih0 := laws_FnExactLexAt.mono_l k
  unfold laws_FnExactLexAt.f
  repeat' first
      | (with_reducible exact ih0 _ _ _ _ _ _ _)
      | (with_reducible exact impl_LexAt.mono _ _ _ _ _ _)
      | (with_reducible exact laws_eqDfa.mono _ _ _ _ _ _ _)
      | (with_reducible exact laws_szDfa.mono _ _ _ _ _)
      | (with_reducible exact laws_toDfa.mono _ _ _ _)
      | (with_reducible exact spec_LexAt.mono _ _ _ _ _ _)
      | (with_reducible exact LeO.refl _)
      | (with_reducible exact LeO.none _)
      | (with_reducible refine LeO.ite ?_ ?_)
      | (with_reducible refine LeO.bind ?_ (fun _ => ?_))
      | exact ih0 _ _ _ _ _ _ _
      | exact impl_LexAt.mono _ _ _ _ _ _
      | exact laws_eqDfa.mono _ _ _ _ _ _ _
      | exact laws_szDfa.mono _ _ _ _ _
      | exact laws_toDfa.mono _ _ _ _
      | exact spec_LexAt.mono _ _ _ _ _ _
      | exact LeO.none _
      | refine LeO.ite ?_ ?_
      | refine LeO.bind ?_ (fun _ => ?_)
set_option maxHeartbeats 8000000 in
set_option maxRecDepth 100000 in
theorem laws_FnExactLexAt.calls (k : Nat) (A0_0 : Option Addr) (c0_0 : Nat) (l0_0 : List (List (S146))) (A0_1 : Option Addr) (c0_1 : Nat) (l0_1 : List (List Int)) (A0_2 : Option Addr) (c0_2 : Nat) (l0_2 : List Int) (a1 : ByteArray) (a2 : Int) (r : Bool) (w : World) (hr0_0 : Kd.C (Kd.slice 146 k146) w A0_0 l0_0.length l0_0) (hc0_0 : l0_0.length ≤ c0_0) (hr0_1 : Kd.C (Kd.slice 3 (Kd.int .i64)) w A0_1 l0_1.length l0_1) (hc0_1 : l0_1.length ≤ c0_1) (hr0_2 : Kd.C (Kd.int .i64) w A0_2 l0_2.length l0_2) (hc0_2 : l0_2.length ≤ c0_2) (hT0 : r = true) (h : laws_FnExactLexAt.f k l0_0 l0_1 l0_2 a1 a2 = some r) :
    Calls Try.prog 5 #[.agg #[.slice A0_0 l0_0.length c0_0, .slice A0_1 l0_1.length c0_1, .slice A0_2 l0_2.length c0_2], .string a1, .int .i64 a2] w fun e w' => e = .returned (.bool r) ∧ Below w.heap.size w w' := by
  have HT := Aside0.mk hT0
  clear hT0
  have hu26 := Try.underlying26
  have hu31 := Try.underlying31
  have HR0_0 := Aside0.mk hr0_0
  have HC0_0 := Aside0.mk hc0_0
  clear hr0_0 hc0_0
  have HR0_1 := Aside0.mk hr0_1
  have HC0_1 := Aside0.mk hc0_1
  clear hr0_1 hc0_1
  have HR0_2 := Aside0.mk hr0_2
  have HC0_2 := Aside0.mk hc0_2
  clear hr0_2 hc0_2
  have HB := Aside0.mk (Below.refl w.heap.size w)
  have H : (if (a1.size : Int) > 1048576 then (some true) else ((laws_szDfa.f k l0_0 l0_1 l0_2 1048576).bind fun t364 => (if t364 < 0 then (some true) else ((laws_toDfa.f k l0_0 l0_1 l0_2).bind fun bt365 => ((spec_LexAt.f k bt365.1 bt365.2.1 bt365.2.2 a1 a2).bind fun bt374 => ((laws_toDfa.f k l0_0 l0_1 l0_2).bind fun bt376 => ((impl_LexAt.f k bt376.1 bt376.2.1 bt376.2.2 a1 a2).bind fun bt386 => (if bt386.1 = bt374.1 then (laws_FnExactLexAt.j0 k (bt386.2 != bt374.2) l0_0 l0_1 l0_2 bt376.1 bt376.2.1 bt376.2.2) else (laws_FnExactLexAt.j0 k true l0_0 l0_1 l0_2 bt376.1 bt376.2.1 bt376.2.2))))))))) = some r := h
  clear h
  by_cases c4 : (a1.size : Int) > 1048576
  · rw [if_pos c4] at H
    have c4b0 : decide (1048576 < (a1.size : Int)) = true := decide_eq_true c4
    have c4b1 : decide (1048576 < a1.size) = true := decide_eq_true (by omega)
    clear c4
    obtain rfl := Option.some.inj H
    go_enter Try.func5, Try.ntmps5
    go_wp2_with (first | ((with_reducible refine gate_dst (N := 3) rfl ?_); refine box_event ?hg (N := 3) ?hd (cs := #[.slice A0_0 l0_0.length c0_0, .slice A0_1 l0_1.length c0_1, .slice A0_2 l0_2.length c0_2]) (t := 26) ?hr ?_; (case hd => rfl); (case hg => rfl); (case hr => first | (go_simp; done) | (go_simp; rfl)); intro gb363 hg w5 hbox hb; have n0_ := Aside0.mk (below_step (by repeat (first | (with_reducible first | exact HB.out | apply below_alloc | apply pw_below_drewN | apply below_drew1) | exact HB.out)) hb); have n1_ := Aside0.mk (hbox); have n2_ := Aside0.mk ((by rw [hg]; exact (below_size (by repeat (first | (with_reducible first | exact HB.out | apply below_alloc | apply pw_below_drewN | apply below_drew1) | exact HB.out))) : w.heap.size ≤ gb363)); have n3_ := Aside0.mk ((by rw [hg]; exact (below_size (by repeat (first | (with_reducible first | exact HB.out | apply below_alloc | apply pw_below_drewN | apply below_drew1) | exact HB.out))) : w.heap.size ≤ gb363)); clear HB; have HB := n0_; have BK363 := n1_; have GW363 := n2_; have GE363 := n3_; clear n0_ n1_ n2_ n3_; clear hb hbox hg))
    go_ret
    exact ⟨by first | rfl | (simp [errW_none, errW_some] <;> rfl) | (simp [*, errW_none, errW_some] <;> rfl), by repeat (first | (with_reducible first | exact HB.out | apply below_alloc | apply pw_below_drewN | apply below_drew1 | refine below_set ?_ GE363.out) | exact HB.out)⟩
  · rw [if_neg c4] at H
    have c4b0 : decide (1048576 < (a1.size : Int)) = false := decide_eq_false c4
    have c4b1 : decide (1048576 < a1.size) = false := decide_eq_false (by omega)
    clear c4
    replace H := Option.bind_eq_some_iff.mp H
    obtain ⟨t364, A60, H⟩ := H
    replace H : (if t364 < 0 then (some true) else ((laws_toDfa.f k l0_0 l0_1 l0_2).bind fun bt365 => ((spec_LexAt.f k bt365.1 bt365.2.1 bt365.2.2 a1 a2).bind fun bt374 => ((laws_toDfa.f k l0_0 l0_1 l0_2).bind fun bt376 => ((impl_LexAt.f k bt376.1 bt376.2.1 bt376.2.2 a1 a2).bind fun bt386 => (if bt386.1 = bt374.1 then (laws_FnExactLexAt.j0 k (bt386.2 != bt374.2) l0_0 l0_1 l0_2 bt376.1 bt376.2.1 bt376.2.2) else (laws_FnExactLexAt.j0 k true l0_0 l0_1 l0_2 bt376.1 bt376.2.1 bt376.2.2))))))) = some r := H
    have A6 := Aside0.mk A60
    clear A60
    by_cases c7 : t364 < 0
    · rw [if_pos c7] at H
      have c7b0 : decide (t364 < 0) = true := decide_eq_true c7
      clear c7
      obtain rfl := Option.some.inj H
      go_enter Try.func5, Try.ntmps5
      go_wp2_with (first | ((with_reducible refine gate_dst (N := 3) rfl ?_); refine box_event ?hg (N := 3) ?hd (cs := #[.slice A0_0 l0_0.length c0_0, .slice A0_1 l0_1.length c0_1, .slice A0_2 l0_2.length c0_2]) (t := 26) ?hr ?_; (case hd => rfl); (case hg => rfl); (case hr => first | (go_simp; done) | (go_simp; rfl)); intro gb363 hg w8 hbox hb; have n0_ := Aside0.mk (below_step (by repeat (first | (with_reducible first | exact HB.out | apply below_alloc | apply pw_below_drewN | apply below_drew1) | exact HB.out)) hb); have n1_ := Aside0.mk (hbox); have n2_ := Aside0.mk ((by rw [hg]; exact (below_size (by repeat (first | (with_reducible first | exact HB.out | apply below_alloc | apply pw_below_drewN | apply below_drew1) | exact HB.out))) : w.heap.size ≤ gb363)); have n3_ := Aside0.mk ((by rw [hg]; exact (below_size (by repeat (first | (with_reducible first | exact HB.out | apply below_alloc | apply pw_below_drewN | apply below_drew1) | exact HB.out))) : w.heap.size ≤ gb363)); clear HB; have HB := n0_; have BK363 := n1_; have GW363 := n2_; have GE363 := n3_; clear n0_ n1_ n2_ n3_; clear hb hbox hg; have hcz9_0 : w8.cell? ⟨gb363, 0, none⟩ = some (.slice A0_0 l0_0.length c0_0) := (blk_cell BK363.out 0).trans rfl; have hcz9_1 : w8.cell? ⟨gb363, 1, none⟩ = some (.slice A0_1 l0_1.length c0_1) := (blk_cell BK363.out 1).trans rfl; have hcz9_2 : w8.cell? ⟨gb363, 2, none⟩ = some (.slice A0_2 l0_2.length c0_2) := (blk_cell BK363.out 2).trans rfl; have hfz9_0 := blk_frozen BK363.out 0; have hfz9_1 := blk_frozen BK363.out 1; have hfz9_2 := blk_frozen BK363.out 2) | ((with_reducible refine gate_callee (f := 13) rfl ?_); refine goesL_ (some 18) rfl rfl Try.func13 (by kernel_rfl) rfl #[.agg #[.slice A0_0 l0_0.length c0_0, .slice A0_1 l0_1.length c0_1, .slice A0_2 l0_2.length c0_2], .int .i64 1048576] rfl (by (try simp only [List.map_toArray, List.map_cons, List.map_nil]); first | done | rfl | (simp only [List.length_drop, List.length_take]; rfl)) ?_; (with_reducible refine (laws_szDfa.calls k _ _ l0_0 _ _ l0_1 _ _ l0_2 1048576 t364 _ ?side1 ?side2 ?side3 ?side4 ?side5 ?side6 A6.out).mono ?_); (case side1 => repeat (first | exact (Kd.C_below HR0_0.out HB.out) | (with_reducible refine Kd.C_alloc ?_ _) | (with_reducible refine Kd.C_drewN ?_ _) | (with_reducible refine Kd.C_drew ?_))); (case side2 => exact HC0_0.out); (case side3 => repeat (first | exact (Kd.C_below HR0_1.out HB.out) | (with_reducible refine Kd.C_alloc ?_ _) | (with_reducible refine Kd.C_drewN ?_ _) | (with_reducible refine Kd.C_drew ?_))); (case side4 => exact HC0_1.out); (case side5 => repeat (first | exact (Kd.C_below HR0_2.out HB.out) | (with_reducible refine Kd.C_alloc ?_ _) | (with_reducible refine Kd.C_drewN ?_ _) | (with_reducible refine Kd.C_drew ?_))); (case side6 => exact HC0_2.out); rintro e w10 ⟨rfl, hb⟩; refine ⟨_, rfl, ?_⟩; have n0_ := Aside0.mk (blk_below (g := gb363) (o := .cells #[.slice A0_0 l0_0.length c0_0, .slice A0_1 l0_1.length c0_1, .slice A0_2 l0_2.length c0_2] 26 (0, 0)) (by (with_reducible repeat (first | refine blk_drewN ?_ _ | refine blk_drew ?_ | refine blk_alloc ?_ _)); exact BK363.out) hb); have n1_ := Aside0.mk (below_step (by repeat (first | (with_reducible first | exact HB.out | apply below_alloc | apply pw_below_drewN | apply below_drew1 | refine below_set ?_ GE363.out) | exact HB.out)) hb); clear BK363; clear HB; have BK363 := n0_; have HB := n1_; clear n0_ n1_; (try clear hb); (try clear hb2); (try clear hk); (try clear hi)))
      go_ret
      exact ⟨by first | rfl | (simp [errW_none, errW_some] <;> rfl) | (simp [*, errW_none, errW_some] <;> rfl), by repeat (first | (with_reducible first | exact HB.out | apply below_alloc | apply pw_below_drewN | apply below_drew1 | refine below_set ?_ GE363.out) | exact HB.out)⟩
    · rw [if_neg c7] at H
      have c7b0 : decide (t364 < 0) = false := decide_eq_false c7
      clear c7
      replace H := Option.bind_eq_some_iff.mp H
      obtain ⟨⟨t365, t368, t371⟩, A110, H⟩ := H
      replace H : ((spec_LexAt.f k t365 t368 t371 a1 a2).bind fun bt374 => ((laws_toDfa.f k l0_0 l0_1 l0_2).bind fun bt376 => ((impl_LexAt.f k bt376.1 bt376.2.1 bt376.2.2 a1 a2).bind fun bt386 => (if bt386.1 = bt374.1 then (laws_FnExactLexAt.j0 k (bt386.2 != bt374.2) l0_0 l0_1 l0_2 bt376.1 bt376.2.1 bt376.2.2) else (laws_FnExactLexAt.j0 k true l0_0 l0_1 l0_2 bt376.1 bt376.2.1 bt376.2.2))))) = some r := H
      have A11 := Aside0.mk A110
      clear A110
      replace H := Option.bind_eq_some_iff.mp H
      obtain ⟨⟨t374, t375⟩, A120, H⟩ := H
      replace H : ((laws_toDfa.f k l0_0 l0_1 l0_2).bind fun bt376 => ((impl_LexAt.f k bt376.1 bt376.2.1 bt376.2.2 a1 a2).bind fun bt386 => (if bt386.1 = t374 then (laws_FnExactLexAt.j0 k (bt386.2 != t375) l0_0 l0_1 l0_2 bt376.1 bt376.2.1 bt376.2.2) else (laws_FnExactLexAt.j0 k true l0_0 l0_1 l0_2 bt376.1 bt376.2.1 bt376.2.2)))) = some r := H
      have A12 := Aside0.mk A120
      clear A120
      replace H := Option.bind_eq_some_iff.mp H
      obtain ⟨⟨t376, t379, t382⟩, A130, H⟩ := H
      replace H : ((impl_LexAt.f k t376 t379 t382 a1 a2).bind fun bt386 => (if bt386.1 = t374 then (laws_FnExactLexAt.j0 k (bt386.2 != t375) l0_0 l0_1 l0_2 t376 t379 t382) else (laws_FnExactLexAt.j0 k true l0_0 l0_1 l0_2 t376 t379 t382))) = some r := H
      have A13 := Aside0.mk A130
      clear A130
      replace H := Option.bind_eq_some_iff.mp H
      obtain ⟨⟨t386, t387⟩, A140, H⟩ := H
      replace H : (if t386 = t374 then (laws_FnExactLexAt.j0 k (t387 != t375) l0_0 l0_1 l0_2 t376 t379 t382) else (laws_FnExactLexAt.j0 k true l0_0 l0_1 l0_2 t376 t379 t382)) = some r := H
      have A14 := Aside0.mk A140
      clear A140
      have HC15 := Aside0.mk H
      clear H
      go_enter Try.func5, Try.ntmps5
      go_upto_region 10 with (first | ((with_reducible refine gate_dst (N := 3) rfl ?_); refine box_event ?hg (N := 3) ?hd (cs := #[.slice A0_0 l0_0.length c0_0, .slice A0_1 l0_1.length c0_1, .slice A0_2 l0_2.length c0_2]) (t := 26) ?hr ?_; (case hd => rfl); (case hg => rfl); (case hr => first | (go_simp; done) | (go_simp; rfl)); intro gb363 hg w16 hbox hb; have n0_ := Aside0.mk (below_step (by repeat (first | (with_reducible first | exact HB.out | apply below_alloc | apply pw_below_drewN | apply below_drew1) | exact HB.out)) hb); have n1_ := Aside0.mk (hbox); have n2_ := Aside0.mk ((by rw [hg]; exact (below_size (by repeat (first | (with_reducible first | exact HB.out | apply below_alloc | apply pw_below_drewN | apply below_drew1) | exact HB.out))) : w.heap.size ≤ gb363)); have n3_ := Aside0.mk ((by rw [hg]; exact (below_size (by repeat (first | (with_reducible first | exact HB.out | apply below_alloc | apply pw_below_drewN | apply below_drew1) | exact HB.out))) : w.heap.size ≤ gb363)); clear HB; have HB := n0_; have BK363 := n1_; have GW363 := n2_; have GE363 := n3_; clear n0_ n1_ n2_ n3_; clear hb hbox hg; have hcz17_0 : w16.cell? ⟨gb363, 0, none⟩ = some (.slice A0_0 l0_0.length c0_0) := (blk_cell BK363.out 0).trans rfl; have hcz17_1 : w16.cell? ⟨gb363, 1, none⟩ = some (.slice A0_1 l0_1.length c0_1) := (blk_cell BK363.out 1).trans rfl; have hcz17_2 : w16.cell? ⟨gb363, 2, none⟩ = some (.slice A0_2 l0_2.length c0_2) := (blk_cell BK363.out 2).trans rfl; have hfz17_0 := blk_frozen BK363.out 0; have hfz17_1 := blk_frozen BK363.out 1; have hfz17_2 := blk_frozen BK363.out 2) | ((with_reducible refine gate_callee (f := 13) rfl ?_); refine goesL_ (some 18) rfl rfl Try.func13 (by kernel_rfl) rfl #[.agg #[.slice A0_0 l0_0.length c0_0, .slice A0_1 l0_1.length c0_1, .slice A0_2 l0_2.length c0_2], .int .i64 1048576] rfl (by (try simp only [List.map_toArray, List.map_cons, List.map_nil]); first | done | rfl | (simp only [List.length_drop, List.length_take]; rfl)) ?_; (with_reducible refine (laws_szDfa.calls k _ _ l0_0 _ _ l0_1 _ _ l0_2 1048576 t364 _ ?side1 ?side2 ?side3 ?side4 ?side5 ?side6 A6.out).mono ?_); (case side1 => repeat (first | exact (Kd.C_below HR0_0.out HB.out) | (with_reducible refine Kd.C_alloc ?_ _) | (with_reducible refine Kd.C_drewN ?_ _) | (with_reducible refine Kd.C_drew ?_))); (case side2 => exact HC0_0.out); (case side3 => repeat (first | exact (Kd.C_below HR0_1.out HB.out) | (with_reducible refine Kd.C_alloc ?_ _) | (with_reducible refine Kd.C_drewN ?_ _) | (with_reducible refine Kd.C_drew ?_))); (case side4 => exact HC0_1.out); (case side5 => repeat (first | exact (Kd.C_below HR0_2.out HB.out) | (with_reducible refine Kd.C_alloc ?_ _) | (with_reducible refine Kd.C_drewN ?_ _) | (with_reducible refine Kd.C_drew ?_))); (case side6 => exact HC0_2.out); rintro e w18 ⟨rfl, hb⟩; refine ⟨_, rfl, ?_⟩; have n0_ := Aside0.mk (blk_below (g := gb363) (o := .cells #[.slice A0_0 l0_0.length c0_0, .slice A0_1 l0_1.length c0_1, .slice A0_2 l0_2.length c0_2] 26 (0, 0)) (by (with_reducible repeat (first | refine blk_drewN ?_ _ | refine blk_drew ?_ | refine blk_alloc ?_ _)); exact BK363.out) hb); have n1_ := Aside0.mk (below_step (by repeat (first | (with_reducible first | exact HB.out | apply below_alloc | apply pw_below_drewN | apply below_drew1 | refine below_set ?_ GE363.out) | exact HB.out)) hb); clear BK363; clear HB; have BK363 := n0_; have HB := n1_; clear n0_ n1_; (try clear hb); (try clear hb2); (try clear hk); (try clear hi); have hcz19_0 : w18.cell? ⟨gb363, 0, none⟩ = some (.slice A0_0 l0_0.length c0_0) := (blk_cell BK363.out 0).trans rfl; have hcz19_1 : w18.cell? ⟨gb363, 1, none⟩ = some (.slice A0_1 l0_1.length c0_1) := (blk_cell BK363.out 1).trans rfl; have hcz19_2 : w18.cell? ⟨gb363, 2, none⟩ = some (.slice A0_2 l0_2.length c0_2) := (blk_cell BK363.out 2).trans rfl; have hfz19_0 := blk_frozen BK363.out 0; have hfz19_1 := blk_frozen BK363.out 1; have hfz19_2 := blk_frozen BK363.out 2) | ((with_reducible refine gate_callee (f := 15) rfl ?_); refine goesL_ (some 23) rfl rfl Try.func15 (by kernel_rfl) rfl #[.agg #[.slice A0_0 l0_0.length c0_0, .slice A0_1 l0_1.length c0_1, .slice A0_2 l0_2.length c0_2]] rfl (by (try simp only [List.map_toArray, List.map_cons, List.map_nil]); first | done | rfl | (simp only [List.length_drop, List.length_take]; rfl)) ?_; (with_reducible refine (laws_toDfa.calls k _ _ l0_0 _ _ l0_1 _ _ l0_2 t365 t368 t371 _ ?side1 ?side2 ?side3 ?side4 ?side5 ?side6 A11.out).mono ?_); (case side1 => repeat (first | exact (Kd.C_below HR0_0.out HB.out) | (with_reducible refine Kd.C_alloc ?_ _) | (with_reducible refine Kd.C_drewN ?_ _) | (with_reducible refine Kd.C_drew ?_))); (case side2 => exact HC0_0.out); (case side3 => repeat (first | exact (Kd.C_below HR0_1.out HB.out) | (with_reducible refine Kd.C_alloc ?_ _) | (with_reducible refine Kd.C_drewN ?_ _) | (with_reducible refine Kd.C_drew ?_))); (case side4 => exact HC0_1.out); (case side5 => repeat (first | exact (Kd.C_below HR0_2.out HB.out) | (with_reducible refine Kd.C_alloc ?_ _) | (with_reducible refine Kd.C_drewN ?_ _) | (with_reducible refine Kd.C_drew ?_))); (case side6 => exact HC0_2.out); rintro e w20 ⟨v366, v369, v372, rfl, ho0, ho1, ho2, hb⟩; refine ⟨_, rfl, ?_⟩; have n0_ := Aside0.mk (Kd.S_lower ho0 (below_size (by repeat (first | (with_reducible first | exact HB.out | apply below_alloc | apply pw_below_drewN | apply below_drew1 | refine below_set ?_ GE363.out) | exact HB.out)))); have n1_ := Aside0.mk (Kd.S_lower ho1 (below_size (by repeat (first | (with_reducible first | exact HB.out | apply below_alloc | apply pw_below_drewN | apply below_drew1 | refine below_set ?_ GE363.out) | exact HB.out)))); have n2_ := Aside0.mk (Kd.R_lower ho2 (below_size (by repeat (first | (with_reducible first | exact HB.out | apply below_alloc | apply pw_below_drewN | apply below_drew1 | refine below_set ?_ GE363.out) | exact HB.out)))); have n3_ := Aside0.mk (blk_below (g := gb363) (o := .cells #[.slice A0_0 l0_0.length c0_0, .slice A0_1 l0_1.length c0_1, .slice A0_2 l0_2.length c0_2] 26 (0, 0)) (by (with_reducible repeat (first | refine blk_drewN ?_ _ | refine blk_drew ?_ | refine blk_alloc ?_ _)); exact BK363.out) hb); have n4_ := Aside0.mk (below_step (by repeat (first | (with_reducible first | exact HB.out | apply below_alloc | apply pw_below_drewN | apply below_drew1 | refine below_set ?_ GE363.out) | exact HB.out)) hb); clear BK363; clear HB; have HO367 := n0_; have HO370 := n1_; have HO373 := n2_; have BK363 := n3_; have HB := n4_; clear n0_ n1_ n2_ n3_ n4_; (try clear hb); (try clear hb2); (try clear hk); (try clear hi); (try clear ho0); (try clear ho1); (try clear ho2); obtain ⟨Ao21, co21, eo21⟩ := Kd.S_slice HO367.out; subst eo21; obtain ⟨Ao22, co22, eo22⟩ := Kd.S_slice HO370.out; subst eo22; obtain ⟨Ao23, co23, eo23⟩ := Kd.R_slice HO373.out; subst eo23) | ((with_reducible refine gate_callee (f := 20) rfl ?_); refine goesL_ (some 26) rfl rfl Try.func20 (by kernel_rfl) rfl #[.agg #[.slice Ao21 t365.length co21, .slice Ao22 t368.length co22, .slice Ao23 t371.length co23], .string a1, .int .i64 a2] rfl (by (try simp only [List.map_toArray, List.map_cons, List.map_nil]); first | done | rfl | (simp only [List.length_drop, List.length_take]; rfl)) ?_; (with_reducible refine (spec_LexAt.calls k _ _ t365 _ _ t368 _ _ t371 a1 a2 t374 t375 _ ?side1 ?side2 ?side3 ?side4 ?side5 ?side6 A12.out).mono ?_); (case side1 => repeat (first | exact (Kd.S_reads' HO367.out).2.2 | (with_reducible refine Kd.C_alloc ?_ _) | (with_reducible refine Kd.C_drewN ?_ _) | (with_reducible refine Kd.C_drew ?_))); (case side2 => exact (Kd.S_reads' HO367.out).2.1); (case side3 => repeat (first | exact (Kd.S_reads' HO370.out).2.2 | (with_reducible refine Kd.C_alloc ?_ _) | (with_reducible refine Kd.C_drewN ?_ _) | (with_reducible refine Kd.C_drew ?_))); (case side4 => exact (Kd.S_reads' HO370.out).2.1); (case side5 => repeat (first | exact (Kd.R_reads' HO373.out).2.2 | (with_reducible refine Kd.C_alloc ?_ _) | (with_reducible refine Kd.C_drewN ?_ _) | (with_reducible refine Kd.C_drew ?_))); (case side6 => exact (Kd.R_reads' HO373.out).2.1); rintro e w24 ⟨rfl, hb⟩; refine ⟨_, rfl, ?_⟩; have n0_ := Aside0.mk (Kd.S_below (by (with_reducible repeat (first | apply Kd.S_alloc | apply Kd.S_drewN | apply Kd.S_drew)); exact HO367.out) hb); have n1_ := Aside0.mk (Kd.S_below (by (with_reducible repeat (first | apply Kd.S_alloc | apply Kd.S_drewN | apply Kd.S_drew)); exact HO370.out) hb); have n2_ := Aside0.mk (Kd.R_below (by (with_reducible repeat (first | apply Kd.R_alloc | apply Kd.R_drewN | apply Kd.R_drew)); exact HO373.out) hb); have n3_ := Aside0.mk (blk_below (g := gb363) (o := .cells #[.slice A0_0 l0_0.length c0_0, .slice A0_1 l0_1.length c0_1, .slice A0_2 l0_2.length c0_2] 26 (0, 0)) (by (with_reducible repeat (first | refine blk_drewN ?_ _ | refine blk_drew ?_ | refine blk_alloc ?_ _)); exact BK363.out) hb); have n4_ := Aside0.mk (below_step (by repeat (first | (with_reducible first | exact HB.out | apply below_alloc | apply pw_below_drewN | apply below_drew1 | refine below_set ?_ GE363.out) | exact HB.out)) hb); clear HO367; clear HO370; clear HO373; clear BK363; clear HB; have HO367 := n0_; have HO370 := n1_; have HO373 := n2_; have BK363 := n3_; have HB := n4_; clear n0_ n1_ n2_ n3_ n4_; (try clear hb); (try clear hb2); (try clear hk); (try clear hi); have hcz25_0 : w24.cell? ⟨gb363, 0, none⟩ = some (.slice A0_0 l0_0.length c0_0) := (blk_cell BK363.out 0).trans rfl; have hcz25_1 : w24.cell? ⟨gb363, 1, none⟩ = some (.slice A0_1 l0_1.length c0_1) := (blk_cell BK363.out 1).trans rfl; have hcz25_2 : w24.cell? ⟨gb363, 2, none⟩ = some (.slice A0_2 l0_2.length c0_2) := (blk_cell BK363.out 2).trans rfl; have hfz25_0 := blk_frozen BK363.out 0; have hfz25_1 := blk_frozen BK363.out 1; have hfz25_2 := blk_frozen BK363.out 2) | ((with_reducible refine gate_callee (f := 15) rfl ?_); refine goesL_ (some 30) rfl rfl Try.func15 (by kernel_rfl) rfl #[.agg #[.slice A0_0 l0_0.length c0_0, .slice A0_1 l0_1.length c0_1, .slice A0_2 l0_2.length c0_2]] rfl (by (try simp only [List.map_toArray, List.map_cons, List.map_nil]); first | done | rfl | (simp only [List.length_drop, List.length_take]; rfl)) ?_; (with_reducible refine (laws_toDfa.calls k _ _ l0_0 _ _ l0_1 _ _ l0_2 t376 t379 t382 _ ?side1 ?side2 ?side3 ?side4 ?side5 ?side6 A13.out).mono ?_); (case side1 => repeat (first | exact (Kd.C_below HR0_0.out HB.out) | (with_reducible refine Kd.C_alloc ?_ _) | (with_reducible refine Kd.C_drewN ?_ _) | (with_reducible refine Kd.C_drew ?_))); (case side2 => exact HC0_0.out); (case side3 => repeat (first | exact (Kd.C_below HR0_1.out HB.out) | (with_reducible refine Kd.C_alloc ?_ _) | (with_reducible refine Kd.C_drewN ?_ _) | (with_reducible refine Kd.C_drew ?_))); (case side4 => exact HC0_1.out); (case side5 => repeat (first | exact (Kd.C_below HR0_2.out HB.out) | (with_reducible refine Kd.C_alloc ?_ _) | (with_reducible refine Kd.C_drewN ?_ _) | (with_reducible refine Kd.C_drew ?_))); (case side6 => exact HC0_2.out); rintro e w26 ⟨v377, v380, v383, rfl, ho0, ho1, ho2, hb⟩; refine ⟨_, rfl, ?_⟩; have n0_ := Aside0.mk (Kd.S_elder' (by (with_reducible repeat (first | apply Kd.S_alloc | apply Kd.S_drewN | apply Kd.S_drew)); exact HO367.out) (Kd.S_base ho0) hb); have n1_ := Aside0.mk (Kd.S_mono (Kd.S_told (Kd.S_told (Kd.S_old (by (with_reducible repeat (first | apply Kd.S_alloc | apply Kd.S_drewN | apply Kd.S_drew)); exact HO370.out) hb) (Kd.S_base ho1)) (Kd.R_base ho2)) (fun _ h_ => h_.1)); have n2_ := Aside0.mk (Kd.R_elder' (by (with_reducible repeat (first | apply Kd.R_alloc | apply Kd.R_drewN | apply Kd.R_drew)); exact HO373.out) (Kd.R_base ho2) hb); have n3_ := Aside0.mk (Kd.S_lower (Kd.S_new' ho0 (Kd.S_lt (by (with_reducible repeat (first | apply Kd.S_alloc | apply Kd.S_drewN | apply Kd.S_drew)); exact HO367.out))) (below_size (by repeat (first | (with_reducible first | exact HB.out | apply below_alloc | apply pw_below_drewN | apply below_drew1 | refine below_set ?_ GE363.out) | exact HB.out)))); have n4_ := Aside0.mk (Kd.S_lower (Kd.S_new' (Kd.S_new' ho1 (Kd.S_lt (by (with_reducible repeat (first | apply Kd.S_alloc | apply Kd.S_drewN | apply Kd.S_drew)); exact HO370.out))) (Kd.R_lt (by (with_reducible repeat (first | apply Kd.R_alloc | apply Kd.R_drewN | apply Kd.R_drew)); exact HO373.out))) (below_size (by repeat (first | (with_reducible first | exact HB.out | apply below_alloc | apply pw_below_drewN | apply below_drew1 | refine below_set ?_ GE363.out) | exact HB.out)))); have n5_ := Aside0.mk (Kd.R_lower (Kd.R_new' ho2 (Kd.R_lt (by (with_reducible repeat (first | apply Kd.R_alloc | apply Kd.R_drewN | apply Kd.R_drew)); exact HO373.out))) (below_size (by repeat (first | (with_reducible first | exact HB.out | apply below_alloc | apply pw_below_drewN | apply below_drew1 | refine below_set ?_ GE363.out) | exact HB.out)))); have n6_ := Aside0.mk (blk_below (g := gb363) (o := .cells #[.slice A0_0 l0_0.length c0_0, .slice A0_1 l0_1.length c0_1, .slice A0_2 l0_2.length c0_2] 26 (0, 0)) (by (with_reducible repeat (first | refine blk_drewN ?_ _ | refine blk_drew ?_ | refine blk_alloc ?_ _)); exact BK363.out) hb); have n7_ := Aside0.mk (below_step (by repeat (first | (with_reducible first | exact HB.out | apply below_alloc | apply pw_below_drewN | apply below_drew1 | refine below_set ?_ GE363.out) | exact HB.out)) hb); clear HO367; clear HO370; clear HO373; clear BK363; clear HB; have HO367 := n0_; have HO370 := n1_; have HO373 := n2_; have HO378 := n3_; have HO381 := n4_; have HO384 := n5_; have BK363 := n6_; have HB := n7_; clear n0_ n1_ n2_ n3_ n4_ n5_ n6_ n7_; (try clear hb); (try clear hb2); (try clear hk); (try clear hi); (try clear ho0); (try clear ho1); (try clear ho2)) | ((with_reducible refine gate_dst (N := 10) rfl ?_); refine box_event ?hg (N := 10) ?hd (cs := #[.slice none 0 0, .slice none 0 0, .slice none 0 0]) (t := 31) ?hr ?_; (case hd => rfl); (case hg => rfl); (case hr => first | (go_simp; done) | (go_simp; rfl)); intro gb385 hg w27 hbox hb; have n0_ := Aside0.mk (Kd.S_below (by (with_reducible repeat (first | apply Kd.S_alloc | apply Kd.S_drewN | apply Kd.S_drew)); exact HO367.out) hb); have n1_ := Aside0.mk (Kd.S_below (by (with_reducible repeat (first | apply Kd.S_alloc | apply Kd.S_drewN | apply Kd.S_drew)); exact HO370.out) hb); have n2_ := Aside0.mk (Kd.R_below (by (with_reducible repeat (first | apply Kd.R_alloc | apply Kd.R_drewN | apply Kd.R_drew)); exact HO373.out) hb); have n3_ := Aside0.mk (Kd.S_below (by (with_reducible repeat (first | apply Kd.S_alloc | apply Kd.S_drewN | apply Kd.S_drew)); exact HO378.out) hb); have n4_ := Aside0.mk (Kd.S_below (by (with_reducible repeat (first | apply Kd.S_alloc | apply Kd.S_drewN | apply Kd.S_drew)); exact HO381.out) hb); have n5_ := Aside0.mk (Kd.R_below (by (with_reducible repeat (first | apply Kd.R_alloc | apply Kd.R_drewN | apply Kd.R_drew)); exact HO384.out) hb); have n6_ := Aside0.mk (blk_below (g := gb363) (o := .cells #[.slice A0_0 l0_0.length c0_0, .slice A0_1 l0_1.length c0_1, .slice A0_2 l0_2.length c0_2] 26 (0, 0)) (by (with_reducible repeat (first | refine blk_drewN ?_ _ | refine blk_drew ?_ | refine blk_alloc ?_ _)); exact BK363.out) hb); have n7_ := Aside0.mk (below_step (by repeat (first | (with_reducible first | exact HB.out | apply below_alloc | apply pw_below_drewN | apply below_drew1 | refine below_set ?_ GE363.out) | exact HB.out)) hb); have n8_ := Aside0.mk (hbox); have n9_ := Aside0.mk ((by rw [hg]; exact (below_size (by repeat (first | (with_reducible first | exact HB.out | apply below_alloc | apply pw_below_drewN | apply below_drew1 | refine below_set ?_ GE363.out) | exact HB.out))) : w.heap.size ≤ gb385)); have n10_ := Aside0.mk ((by rw [hg]; exact (below_size (by repeat (first | (with_reducible first | exact HB.out | apply below_alloc | apply pw_below_drewN | apply below_drew1 | refine below_set ?_ GE363.out) | exact HB.out))) : w.heap.size ≤ gb385)); have n11_ := Aside0.mk ((by rw [hg]; exact Nat.ne_of_lt (blk_lt (g := gb363) (o := .cells #[.slice A0_0 l0_0.length c0_0, .slice A0_1 l0_1.length c0_1, .slice A0_2 l0_2.length c0_2] 26 (0, 0)) (by (with_reducible repeat (first | refine blk_drewN ?_ _ | refine blk_drew ?_ | refine blk_alloc ?_ _)); exact BK363.out)) : gb363 ≠ gb385)); have n12_ := Aside0.mk ((by rw [hg]; exact Nat.ne_of_gt (blk_lt (g := gb363) (o := .cells #[.slice A0_0 l0_0.length c0_0, .slice A0_1 l0_1.length c0_1, .slice A0_2 l0_2.length c0_2] 26 (0, 0)) (by (with_reducible repeat (first | refine blk_drewN ?_ _ | refine blk_drew ?_ | refine blk_alloc ?_ _)); exact BK363.out)) : gb385 ≠ gb363)); clear HO367; clear HO370; clear HO373; clear HO378; clear HO381; clear HO384; clear BK363; clear HB; have HO367 := n0_; have HO370 := n1_; have HO373 := n2_; have HO378 := n3_; have HO381 := n4_; have HO384 := n5_; have BK363 := n6_; have HB := n7_; have BK385 := n8_; have GW385 := n9_; have GE385 := n10_; have NB363_385 := n11_; have NB385_363 := n12_; clear n0_ n1_ n2_ n3_ n4_ n5_ n6_ n7_ n8_ n9_ n10_ n11_ n12_; clear hb hbox hg; obtain ⟨Ao28, co28, eo28⟩ := Kd.S_slice HO378.out; subst eo28; have hnb29 := NB385_363.out; have hnc29 := NB363_385.out; have hcz30_0 : w27.cell? ⟨gb385, 0, none⟩ = some (.slice none 0 0) := (blk_cell BK385.out 0).trans rfl; have hcz30_1 : w27.cell? ⟨gb385, 1, none⟩ = some (.slice none 0 0) := (blk_cell BK385.out 1).trans rfl; have hcz30_2 : w27.cell? ⟨gb385, 2, none⟩ = some (.slice none 0 0) := (blk_cell BK385.out 2).trans rfl; have hfz30_0 := blk_frozen BK385.out 0; have hfz30_1 := blk_frozen BK385.out 1; have hfz30_2 := blk_frozen BK385.out 2; obtain ⟨Ao31, co31, eo31⟩ := Kd.S_slice HO381.out; subst eo31; obtain ⟨Ao32, co32, eo32⟩ := Kd.R_slice HO384.out; subst eo32) | ((with_reducible refine gate_callee (f := 21) rfl ?_); refine goesL_ (some 35) rfl rfl Try.func21 (by kernel_rfl) rfl #[.agg #[.slice Ao28 t376.length co28, .slice Ao31 t379.length co31, .slice Ao32 t382.length co32], .string a1, .int .i64 a2] rfl (by (try simp only [List.map_toArray, List.map_cons, List.map_nil]); first | done | rfl | (simp only [List.length_drop, List.length_take]; rfl)) ?_; (with_reducible refine (impl_LexAt.calls k _ _ t376 _ _ t379 _ _ t382 a1 a2 t386 t387 _ ?side1 ?side2 ?side3 ?side4 ?side5 ?side6 A14.out).mono ?_); (case side1 => refine (Kd.S_reads' (e := 80) (base := w.heap.size) (ok := fun k_ => (True ∧ some k_ ≠ (.slice Ao21 t365.length co21 : Value).ownBlock)) (n := t376.length) (c := co28) ?_).2.2; exact (by (with_reducible repeat (first | apply Kd.S_alloc | apply Kd.S_drewN | apply Kd.S_drew)); exact (Kd.S_mono (Kd.S_far (p := ⟨gb385, 2, none⟩) (Kd.S_far (p := ⟨gb385, 1, none⟩) (Kd.S_far (p := ⟨gb385, 0, none⟩) (Kd.S_types HO378.out BK385.out (by decide)) (fun _ hk => hk.2) (.slice Ao28 t376.length co28)) (fun _ hk => hk.2) (.slice Ao31 t379.length co31)) (fun _ hk => hk.2) (.slice Ao32 t382.length co32)) (fun _ h_ => h_.1)))); (case side2 => exact (Kd.S_reads' HO378.out).2.1); (case side3 => refine (Kd.S_reads' (e := 24) (base := w.heap.size) (ok := fun k_ => ((some k_ ≠ (.slice Ao32 t382.length co32 : Value).ownBlock ∧ some k_ ≠ (.slice Ao22 t368.length co22 : Value).ownBlock) ∧ some k_ ≠ (.slice Ao23 t371.length co23 : Value).ownBlock)) (n := t379.length) (c := co31) ?_).2.2; exact (by (with_reducible repeat (first | apply Kd.S_alloc | apply Kd.S_drewN | apply Kd.S_drew)); exact (Kd.S_mono (Kd.S_far (p := ⟨gb385, 2, none⟩) (Kd.S_far (p := ⟨gb385, 1, none⟩) (Kd.S_far (p := ⟨gb385, 0, none⟩) (Kd.S_types HO381.out BK385.out (by decide)) (fun _ hk => hk.2) (.slice Ao28 t376.length co28)) (fun _ hk => hk.2) (.slice Ao31 t379.length co31)) (fun _ hk => hk.2) (.slice Ao32 t382.length co32)) (fun _ h_ => h_.1)))); (case side4 => exact (Kd.S_reads' HO381.out).2.1); (case side5 => refine (Kd.R_reads' (e := 3) (base := w.heap.size) (ok := fun k_ => (True ∧ some k_ ≠ (.slice Ao23 t371.length co23 : Value).ownBlock)) (n := t382.length) (c := co32) ?_).2.2; exact (by (with_reducible repeat (first | apply Kd.R_alloc | apply Kd.R_drewN | apply Kd.R_drew)); exact (Kd.R_mono (Kd.R_far (p := ⟨gb385, 2, none⟩) (Kd.R_far (p := ⟨gb385, 1, none⟩) (Kd.R_far (p := ⟨gb385, 0, none⟩) (Kd.R_types HO384.out BK385.out (by decide)) (fun _ hk => hk.2) (.slice Ao28 t376.length co28)) (fun _ hk => hk.2) (.slice Ao31 t379.length co31)) (fun _ hk => hk.2) (.slice Ao32 t382.length co32)) (fun _ h_ => h_.1)))); (case side6 => exact (Kd.R_reads' HO384.out).2.1); rintro e w33 ⟨rfl, hb⟩; refine ⟨_, rfl, ?_⟩; have n0_ := Aside0.mk (Kd.S_below (by (with_reducible repeat (first | apply Kd.S_alloc | apply Kd.S_drewN | apply Kd.S_drew)); exact (Kd.S_mono (Kd.S_far (p := ⟨gb385, 2, none⟩) (Kd.S_far (p := ⟨gb385, 1, none⟩) (Kd.S_far (p := ⟨gb385, 0, none⟩) (Kd.S_types HO367.out BK385.out (by decide)) (fun _ hk => hk.2) (.slice Ao28 t376.length co28)) (fun _ hk => hk.2) (.slice Ao31 t379.length co31)) (fun _ hk => hk.2) (.slice Ao32 t382.length co32)) (fun _ h_ => h_.1))) hb); have n1_ := Aside0.mk (Kd.S_below (by (with_reducible repeat (first | apply Kd.S_alloc | apply Kd.S_drewN | apply Kd.S_drew)); exact (Kd.S_mono (Kd.S_far (p := ⟨gb385, 2, none⟩) (Kd.S_far (p := ⟨gb385, 1, none⟩) (Kd.S_far (p := ⟨gb385, 0, none⟩) (Kd.S_types HO370.out BK385.out (by decide)) (fun _ hk => hk.2) (.slice Ao28 t376.length co28)) (fun _ hk => hk.2) (.slice Ao31 t379.length co31)) (fun _ hk => hk.2) (.slice Ao32 t382.length co32)) (fun _ h_ => h_.1))) hb); have n2_ := Aside0.mk (Kd.R_below (by (with_reducible repeat (first | apply Kd.R_alloc | apply Kd.R_drewN | apply Kd.R_drew)); exact (Kd.R_mono (Kd.R_far (p := ⟨gb385, 2, none⟩) (Kd.R_far (p := ⟨gb385, 1, none⟩) (Kd.R_far (p := ⟨gb385, 0, none⟩) (Kd.R_types HO373.out BK385.out (by decide)) (fun _ hk => hk.2) (.slice Ao28 t376.length co28)) (fun _ hk => hk.2) (.slice Ao31 t379.length co31)) (fun _ hk => hk.2) (.slice Ao32 t382.length co32)) (fun _ h_ => h_.1))) hb); have n3_ := Aside0.mk (Kd.S_below (by (with_reducible repeat (first | apply Kd.S_alloc | apply Kd.S_drewN | apply Kd.S_drew)); exact (Kd.S_mono (Kd.S_far (p := ⟨gb385, 2, none⟩) (Kd.S_far (p := ⟨gb385, 1, none⟩) (Kd.S_far (p := ⟨gb385, 0, none⟩) (Kd.S_types HO378.out BK385.out (by decide)) (fun _ hk => hk.2) (.slice Ao28 t376.length co28)) (fun _ hk => hk.2) (.slice Ao31 t379.length co31)) (fun _ hk => hk.2) (.slice Ao32 t382.length co32)) (fun _ h_ => h_.1))) hb); have n4_ := Aside0.mk (Kd.S_below (by (with_reducible repeat (first | apply Kd.S_alloc | apply Kd.S_drewN | apply Kd.S_drew)); exact (Kd.S_mono (Kd.S_far (p := ⟨gb385, 2, none⟩) (Kd.S_far (p := ⟨gb385, 1, none⟩) (Kd.S_far (p := ⟨gb385, 0, none⟩) (Kd.S_types HO381.out BK385.out (by decide)) (fun _ hk => hk.2) (.slice Ao28 t376.length co28)) (fun _ hk => hk.2) (.slice Ao31 t379.length co31)) (fun _ hk => hk.2) (.slice Ao32 t382.length co32)) (fun _ h_ => h_.1))) hb); have n5_ := Aside0.mk (Kd.R_below (by (with_reducible repeat (first | apply Kd.R_alloc | apply Kd.R_drewN | apply Kd.R_drew)); exact (Kd.R_mono (Kd.R_far (p := ⟨gb385, 2, none⟩) (Kd.R_far (p := ⟨gb385, 1, none⟩) (Kd.R_far (p := ⟨gb385, 0, none⟩) (Kd.R_types HO384.out BK385.out (by decide)) (fun _ hk => hk.2) (.slice Ao28 t376.length co28)) (fun _ hk => hk.2) (.slice Ao31 t379.length co31)) (fun _ hk => hk.2) (.slice Ao32 t382.length co32)) (fun _ h_ => h_.1))) hb); have n6_ := Aside0.mk (blk_below (g := gb363) (o := .cells #[.slice A0_0 l0_0.length c0_0, .slice A0_1 l0_1.length c0_1, .slice A0_2 l0_2.length c0_2] 26 (0, 0)) (by (with_reducible repeat (first | refine blk_drewN ?_ _ | refine blk_drew ?_ | refine blk_alloc ?_ _)); refine blk_far ?_ NB363_385.out _; (with_reducible repeat (first | refine blk_drewN ?_ _ | refine blk_drew ?_ | refine blk_alloc ?_ _)); refine blk_far ?_ NB363_385.out _; (with_reducible repeat (first | refine blk_drewN ?_ _ | refine blk_drew ?_ | refine blk_alloc ?_ _)); refine blk_far ?_ NB363_385.out _; (with_reducible repeat (first | refine blk_drewN ?_ _ | refine blk_drew ?_ | refine blk_alloc ?_ _)); exact BK363.out) hb); have n7_ := Aside0.mk (blk_below (g := gb385) (o := .cells #[.slice Ao28 t376.length co28, .slice Ao31 t379.length co31, .slice Ao32 t382.length co32] 31 (0, 0)) (by (with_reducible repeat (first | refine blk_drewN ?_ _ | refine blk_drew ?_ | refine blk_alloc ?_ _)); refine blk_put (cs := #[.slice Ao28 t376.length co28, .slice Ao31 t379.length co31, .slice none 0 0]) ?_ 2 _ rfl; (with_reducible repeat (first | refine blk_drewN ?_ _ | refine blk_drew ?_ | refine blk_alloc ?_ _)); refine blk_put (cs := #[.slice Ao28 t376.length co28, .slice none 0 0, .slice none 0 0]) ?_ 1 _ rfl; (with_reducible repeat (first | refine blk_drewN ?_ _ | refine blk_drew ?_ | refine blk_alloc ?_ _)); refine blk_put (cs := #[.slice none 0 0, .slice none 0 0, .slice none 0 0]) ?_ 0 _ rfl; (with_reducible repeat (first | refine blk_drewN ?_ _ | refine blk_drew ?_ | refine blk_alloc ?_ _)); exact BK385.out) hb); have n8_ := Aside0.mk (below_step (by repeat (first | (with_reducible first | exact HB.out | apply below_alloc | apply pw_below_drewN | apply below_drew1 | refine below_set ?_ GE363.out | refine below_set ?_ GE385.out) | exact HB.out)) hb); clear HO367; clear HO370; clear HO373; clear HO378; clear HO381; clear HO384; clear BK363; clear BK385; clear HB; have HO367 := n0_; have HO370 := n1_; have HO373 := n2_; have HO378 := n3_; have HO381 := n4_; have HO384 := n5_; have BK363 := n6_; have BK385 := n7_; have HB := n8_; clear n0_ n1_ n2_ n3_ n4_ n5_ n6_ n7_ n8_; (try clear hb); (try clear hb2); (try clear hk); (try clear hi)))
      (try simp only [Act.put, List.setIfInBounds_toArray, List.set_cons_zero, List.set_cons_succ])
      go_cut [45] (fun v45 wc => ∃ (kq : Nat) (x45_14 : Bool), v45 = .bool x45_14 ∧ Aside0 (laws_FnExactLexAt.j0 kq x45_14 l0_0 l0_1 l0_2 t376 t379 t382 = some r) ∧ Aside0 (kq ≤ k) ∧ Aside0 (Kd.S (Kd.slice 117 k117) 80 wc w.heap.size (fun _ => True) (.slice Ao28 t376.length co28) t376) ∧ Aside0 (Kd.S (Kd.slice 3 (Kd.int .i64)) 24 wc w.heap.size (fun k_ => some k_ ≠ ((.slice Ao32 t382.length co32) : Value).ownBlock) (.slice Ao31 t379.length co31) t379) ∧ Aside0 (Kd.R (Kd.int .i64) 3 wc w.heap.size (fun _ => True) (.slice Ao32 t382.length co32) t382) ∧ Aside0 (wc.heap[gb363]? = some (.cells #[(.slice A0_0 l0_0.length c0_0), (.slice A0_1 l0_1.length c0_1), (.slice A0_2 l0_2.length c0_2)] 26 (0, 0))) ∧ Aside0 (wc.heap[gb385]? = some (.cells #[(.slice Ao28 t376.length co28), (.slice Ao31 t379.length co31), (.slice Ao32 t382.length co32)] 31 (0, 0))) ∧ Aside0 (Below w.heap.size w wc))
      case first =>
        have H := HC15.out
        clear HC15
        by_cases c34 : t386 = t374
        · rw [if_pos c34] at H
          have c34b0 : (t386 == t374) = true := beq_iff_eq.mpr c34
          have c34b1 : (t386 != t374) = false := bne_eq_false_iff_eq.mpr c34
          clear c34
          (first | rw [c34b0] | (simp only [i64_w, i32_w]; rw [c34b0]) | skip)
          have H' := Aside0.mk H
          clear H
          go_wp2
          go_meet
          case rel => exact ⟨_, ((t387 != t375)), (by first | rfl | (simp; done) | (simp [*]; done)), H', ⟨by first | omega | exact Nat.le_refl _⟩, ⟨by (with_reducible repeat (first | apply Kd.S_alloc | apply Kd.S_drewN | apply Kd.S_drew)); exact Kd.S_mono HO378.out (fun _ hk => trivial)⟩, ⟨by (with_reducible repeat (first | apply Kd.S_alloc | apply Kd.S_drewN | apply Kd.S_drew)); exact Kd.S_mono HO381.out (fun _ hk => hk.1.1)⟩, ⟨by (with_reducible repeat (first | apply Kd.R_alloc | apply Kd.R_drewN | apply Kd.R_drew)); exact Kd.R_mono HO384.out (fun _ hk => trivial)⟩, ⟨by (with_reducible repeat (first | refine blk_drewN ?_ _ | refine blk_drew ?_ | refine blk_alloc ?_ _)); exact BK363.out⟩, ⟨by (with_reducible repeat (first | refine blk_drewN ?_ _ | refine blk_drew ?_ | refine blk_alloc ?_ _)); exact BK385.out⟩, ⟨by repeat (first | (with_reducible first | exact HB.out | apply below_alloc | apply pw_below_drewN | apply below_drew1 | refine below_set ?_ GE363.out | refine below_set ?_ GE385.out) | exact HB.out)⟩⟩
        · rw [if_neg c34] at H
          have c34b0 : (t386 == t374) = false := beq_eq_false_iff_ne.mpr c34
          have c34b1 : (t386 != t374) = true := bne_iff_ne.mpr c34
          (first | rw [c34b0] | (simp only [i64_w, i32_w]; rw [c34b0]) | skip)
          have H' := Aside0.mk H
          clear H
          go_wp2
          go_meet
          case rel => exact ⟨_, (true), (by first | rfl | (simp; done) | (simp [*]; done)), H', ⟨by first | omega | exact Nat.le_refl _⟩, ⟨by (with_reducible repeat (first | apply Kd.S_alloc | apply Kd.S_drewN | apply Kd.S_drew)); exact Kd.S_mono HO378.out (fun _ hk => trivial)⟩, ⟨by (with_reducible repeat (first | apply Kd.S_alloc | apply Kd.S_drewN | apply Kd.S_drew)); exact Kd.S_mono HO381.out (fun _ hk => hk.1.1)⟩, ⟨by (with_reducible repeat (first | apply Kd.R_alloc | apply Kd.R_drewN | apply Kd.R_drew)); exact Kd.R_mono HO384.out (fun _ hk => trivial)⟩, ⟨by (with_reducible repeat (first | refine blk_drewN ?_ _ | refine blk_drew ?_ | refine blk_alloc ?_ _)); exact BK363.out⟩, ⟨by (with_reducible repeat (first | refine blk_drewN ?_ _ | refine blk_drew ?_ | refine blk_alloc ?_ _)); exact BK385.out⟩, ⟨by repeat (first | (with_reducible first | exact HB.out | apply below_alloc | apply pw_below_drewN | apply below_drew1 | refine below_set ?_ GE363.out | refine below_set ?_ GE385.out) | exact HB.out)⟩⟩
      case rest =>
        clear HC15
        try clear c1
        try clear c2
        try clear p2
        try clear c3
        try clear c4
        try clear c4b0
        try clear c4b1
        try clear c5
        try clear c7
        try clear c7b0
        try clear c13
        try clear c15
        try clear c20
        try clear c21
        try clear c29
        try clear c34
        try clear c34b0
        try clear c34b1
        try clear hcz17_0
        try clear hcz17_1
        try clear hcz17_2
        try clear hcz19_0
        try clear hcz19_1
        try clear hcz19_2
        try clear hcz25_0
        try clear hcz25_1
        try clear hcz25_2
        try clear hcz30_0
        try clear hcz30_1
        try clear hcz30_2
        try clear hcz9_0
        try clear hcz9_1
        try clear hcz9_2
        try clear hfz17_0
        try clear hfz17_1
        try clear hfz17_2
        try clear hfz19_0
        try clear hfz19_1
        try clear hfz19_2
        try clear hfz25_0
        try clear hfz25_1
        try clear hfz25_2
        try clear hfz30_0
        try clear hfz30_1
        try clear hfz30_2
        try clear hfz9_0
        try clear hfz9_1
        try clear hfz9_2
        obtain ⟨kq, x45_14, rfl, HA, HJ14, HO_386000, HO_386001, HO_386002, BK363, BK385, HB⟩ := hcut
        cases kq with
        | zero => exact absurd HA.out (by simp [laws_FnExactLexAt.j0])
        | succ kj14 =>
          have H := HA.out
          clear HA
          simp only [laws_FnExactLexAt.j0] at H
          by_cases c35 : x45_14 = true
          · subst c35
            have H1 : (some false) = some r := by rw [if_pos rfl] at H; exact H
            clear H
            have H := H1
            clear H1
            exact absurd ((Option.some.inj H).trans HT.out) (by decide)
          · replace c35 := Bool.eq_false_iff.mpr c35
            subst c35
            have H1 : ((laws_toDfa.f kj14 l0_0 l0_1 l0_2).bind fun bt388 => ((laws_eqDfa.f kj14 t376 t379 t382 bt388.1 bt388.2.1 bt388.2.2).bind fun t397 => (if t397 = true then (some true) else (some false)))) = some r := by rw [if_neg (show ¬ (false = true) by decide)] at H; exact H
            clear H
            have H := H1
            clear H1
            replace H := Option.bind_eq_some_iff.mp H
            obtain ⟨⟨t388, t391, t394⟩, A360, H⟩ := H
            replace H : ((laws_eqDfa.f kj14 t376 t379 t382 t388 t391 t394).bind fun t397 => (if t397 = true then (some true) else (some false))) = some r := H
            have A36 := Aside0.mk A360
            clear A360
            replace H := Option.bind_eq_some_iff.mp H
            obtain ⟨t397, A370, H⟩ := H
            replace H : (if t397 = true then (some true) else (some false)) = some r := H
            have A37 := Aside0.mk A370
            clear A370
            by_cases c38 : t397 = true
            · subst c38
              have H1 : (some true) = some r := by rw [if_pos rfl] at H; exact H
              clear H
              have H := H1
              clear H1
              obtain rfl := Option.some.inj H
              try go_wp2
              have n0_ := Aside0.mk (Kd.S_drew HO_386000.out)
              have n1_ := Aside0.mk (Kd.S_drew HO_386001.out)
              have n2_ := Aside0.mk (Kd.R_drew HO_386002.out)
              have n3_ := Aside0.mk (blk_drew BK363.out)
              have n4_ := Aside0.mk (blk_drew BK385.out)
              have n5_ := Aside0.mk (below_drew1 HB.out)
              clear HO_386000
              clear HO_386001
              clear HO_386002
              clear BK363
              clear BK385
              clear HB
              have HO_386000 := n0_
              have HO_386001 := n1_
              have HO_386002 := n2_
              have BK363 := n3_
              have BK385 := n4_
              have HB := n5_
              clear n0_ n1_ n2_ n3_ n4_ n5_
              refine start_ (n := 5) (S := fun w' => w'.cell? ⟨gb385, 0, none⟩ = some (.slice Ao28 t376.length co28) ∧ w'.cell? ⟨gb385, 1, none⟩ = some (.slice Ao31 t379.length co31) ∧ w'.cell? ⟨gb385, 2, none⟩ = some (.slice Ao32 t382.length co32) ∧ w'.cell? ⟨gb363, 0, none⟩ = some (.slice A0_0 l0_0.length c0_0) ∧ w'.cell? ⟨gb363, 1, none⟩ = some (.slice A0_1 l0_1.length c0_1) ∧ w'.cell? ⟨gb363, 2, none⟩ = some (.slice A0_2 l0_2.length c0_2)) (ds := []) #[false, false, false, false, false] (by kernel_rfl) rfl rfl ⟨(blk_cell BK385.out 0).trans rfl, (blk_cell BK385.out 1).trans rfl, (blk_cell BK385.out 2).trans rfl, (blk_cell BK363.out 0).trans rfl, (blk_cell BK363.out 1).trans rfl, (blk_cell BK363.out 2).trans rfl⟩ (fun hHeld => ?_)
              generalize wc.drew = w39 at HO_386000 HO_386001 HO_386002 BK363 BK385 HB hHeld ⊢
              refine take_ (i := 0) (N := some 46) (v := ?_) (a' := ?_) #[true, false, false, false, false] rfl rfl (by kernel_rfl) (fun _ _ _ h => h) (Or.inl ⟨by rfl, ?_⟩) hHeld ?_ ?_
              rotate_left
              · rintro w' ⟨s0, s1, s2, s3, s4, s5⟩
                go_simp
                with_reducible rfl
              rotate_left
              · simp only [Act.put, List.setIfInBounds_toArray, List.set_cons_zero, List.set_cons_succ, i64_w, i32_w]
                rfl
              refine take_ (i := 1) (N := some 47) (v := ?_) (a' := ?_) #[true, true, false, false, false] rfl rfl (by kernel_rfl) (fun _ _ _ h => h) (Or.inl ⟨by rfl, ?_⟩) hHeld ?_ ?_
              rotate_left
              · rintro w' ⟨s0, s1, s2, s3, s4, s5⟩
                go_simp
                with_reducible rfl
              rotate_left
              · simp only [Act.put, List.setIfInBounds_toArray, List.set_cons_zero, List.set_cons_succ, i64_w, i32_w]
                rfl
              refine one_ (i := 2) (N := some 48) #[true, true, true, false, false] rfl rfl (by kernel_rfl) (by decide) (fun K hK => ?_)
              refine goes_ Try.func15 (by kernel_rfl) rfl #[.agg #[.slice A0_0 l0_0.length c0_0, .slice A0_1 l0_1.length c0_1, .slice A0_2 l0_2.length c0_2]] (by rfl) rfl rfl (by (try simp only [List.map_toArray, List.map_cons, List.map_nil]); first | done | rfl | (simp only [List.length_drop, List.length_take]; rfl)) ?_
              with_reducible refine (laws_toDfa.calls kj14 _ _ l0_0 _ _ l0_1 _ _ l0_2 t388 t391 t394 _ ?side1 ?side2 ?side3 ?side4 ?side5 ?side6 A36.out).mono ?_
              (case side1 => repeat (first | exact (Kd.C_below HR0_0.out HB.out) | (with_reducible refine Kd.C_alloc ?_ _) | (with_reducible refine Kd.C_drewN ?_ _) | (with_reducible refine Kd.C_drew ?_)))
              (case side2 => exact HC0_0.out)
              (case side3 => repeat (first | exact (Kd.C_below HR0_1.out HB.out) | (with_reducible refine Kd.C_alloc ?_ _) | (with_reducible refine Kd.C_drewN ?_ _) | (with_reducible refine Kd.C_drew ?_)))
              (case side4 => exact HC0_1.out)
              (case side5 => repeat (first | exact (Kd.C_below HR0_2.out HB.out) | (with_reducible refine Kd.C_alloc ?_ _) | (with_reducible refine Kd.C_drewN ?_ _) | (with_reducible refine Kd.C_drew ?_)))
              (case side6 => exact HC0_2.out)
              rintro e w40 ⟨v389, v392, v395, rfl, ho0, ho1, ho2, hb⟩
              refine ⟨_, rfl, ?_⟩
              have n0_ := Aside0.mk (Kd.S_elder' (by (with_reducible repeat (first | apply Kd.S_alloc | apply Kd.S_drewN | apply Kd.S_drew)); exact HO_386000.out) (Kd.S_base ho0) hb)
              have n1_ := Aside0.mk (Kd.S_mono (Kd.S_told (Kd.S_told (Kd.S_old (by (with_reducible repeat (first | apply Kd.S_alloc | apply Kd.S_drewN | apply Kd.S_drew)); exact HO_386001.out) hb) (Kd.S_base ho1)) (Kd.R_base ho2)) (fun _ h_ => h_.1))
              have n2_ := Aside0.mk (Kd.R_elder' (by (with_reducible repeat (first | apply Kd.R_alloc | apply Kd.R_drewN | apply Kd.R_drew)); exact HO_386002.out) (Kd.R_base ho2) hb)
              have n3_ := Aside0.mk (Kd.S_lower (Kd.S_new' ho0 (Kd.S_lt (by (with_reducible repeat (first | apply Kd.S_alloc | apply Kd.S_drewN | apply Kd.S_drew)); exact HO_386000.out))) (below_size (by repeat (first | (with_reducible first | exact HB.out | apply below_alloc | apply pw_below_drewN | apply below_drew1 | refine below_set ?_ GE363.out | refine below_set ?_ GE385.out) | exact HB.out))))
              have n4_ := Aside0.mk (Kd.S_lower (Kd.S_new' (Kd.S_new' ho1 (Kd.S_lt (by (with_reducible repeat (first | apply Kd.S_alloc | apply Kd.S_drewN | apply Kd.S_drew)); exact HO_386001.out))) (Kd.R_lt (by (with_reducible repeat (first | apply Kd.R_alloc | apply Kd.R_drewN | apply Kd.R_drew)); exact HO_386002.out))) (below_size (by repeat (first | (with_reducible first | exact HB.out | apply below_alloc | apply pw_below_drewN | apply below_drew1 | refine below_set ?_ GE363.out | refine below_set ?_ GE385.out) | exact HB.out))))
              have n5_ := Aside0.mk (Kd.R_lower (Kd.R_new' ho2 (Kd.R_lt (by (with_reducible repeat (first | apply Kd.R_alloc | apply Kd.R_drewN | apply Kd.R_drew)); exact HO_386002.out))) (below_size (by repeat (first | (with_reducible first | exact HB.out | apply below_alloc | apply pw_below_drewN | apply below_drew1 | refine below_set ?_ GE363.out | refine below_set ?_ GE385.out) | exact HB.out))))
              have n6_ := Aside0.mk (blk_below (g := gb363) (o := .cells #[.slice A0_0 l0_0.length c0_0, .slice A0_1 l0_1.length c0_1, .slice A0_2 l0_2.length c0_2] 26 (0, 0)) (by (with_reducible repeat (first | refine blk_drewN ?_ _ | refine blk_drew ?_ | refine blk_alloc ?_ _)); exact BK363.out) hb)
              have n7_ := Aside0.mk (blk_below (g := gb385) (o := .cells #[.slice Ao28 t376.length co28, .slice Ao31 t379.length co31, .slice Ao32 t382.length co32] 31 (0, 0)) (by (with_reducible repeat (first | refine blk_drewN ?_ _ | refine blk_drew ?_ | refine blk_alloc ?_ _)); exact BK385.out) hb)
              have n8_ := Aside0.mk (below_step (by repeat (first | (with_reducible first | exact HB.out | apply below_alloc | apply pw_below_drewN | apply below_drew1 | refine below_set ?_ GE363.out | refine below_set ?_ GE385.out) | exact HB.out)) hb)
              clear HO_386000
              clear HO_386001
              clear HO_386002
              clear BK363
              clear BK385
              clear HB
              have HO_386000 := n0_
              have HO_386001 := n1_
              have HO_386002 := n2_
              have HO390 := n3_
              have HO393 := n4_
              have HO396 := n5_
              have BK363 := n6_
              have BK385 := n7_
              have HB := n8_
              clear n0_ n1_ n2_ n3_ n4_ n5_ n6_ n7_ n8_
              (try clear hb)
              (try clear hb2)
              (try clear hk)
              (try clear hi)
              (try clear ho0)
              (try clear ho1)
              (try clear ho2)
              obtain ⟨Ao41, co41, eo41⟩ := Kd.S_slice HO390.out
              (first | subst eo41 | (injection eo41 with f1_ f2_ f3_; have f4_ := f1_.symm; have f5_ := f3_.symm; clear f1_ f2_ f3_; subst f4_; subst f5_))
              obtain ⟨Ao42, co42, eo42⟩ := Kd.S_slice HO393.out
              (first | subst eo42 | (injection eo42 with f1_ f2_ f3_; have f4_ := f1_.symm; have f5_ := f3_.symm; clear f1_ f2_ f3_; subst f4_; subst f5_))
              obtain ⟨Ao43, co43, eo43⟩ := Kd.R_slice HO396.out
              (first | subst eo43 | (injection eo43 with f1_ f2_ f3_; have f4_ := f1_.symm; have f5_ := f3_.symm; clear f1_ f2_ f3_; subst f4_; subst f5_))
              refine hK.out _ _ ⟨(blk_cell BK385.out 0).trans rfl, (blk_cell BK385.out 1).trans rfl, (blk_cell BK385.out 2).trans rfl, (blk_cell BK363.out 0).trans rfl, (blk_cell BK363.out 1).trans rfl, (blk_cell BK363.out 2).trans rfl⟩ (fun hHeld => ?_)
              clear hK K
              refine norm_ (a' := ?_) ?_ ?_
              rotate_left
              · show Act.put _ (some 48) _ = _
                simp only [Act.put, List.setIfInBounds_toArray, List.set_cons_zero, List.set_cons_succ, i64_w, i32_w]
                rfl
              refine one_ (i := 3) (N := some 49) #[true, true, true, true, false] rfl rfl (by kernel_rfl) (by decide) (fun K hK => ?_)
              refine goes_ Try.func17 (by kernel_rfl) rfl #[.agg #[.slice Ao28 t376.length co28, .slice Ao31 t379.length co31, .slice Ao32 t382.length co32], .agg #[.slice Ao41 t388.length co41, .slice Ao42 t391.length co42, .slice Ao43 t394.length co43]] (by rfl) rfl rfl (by (try simp only [List.map_toArray, List.map_cons, List.map_nil]); first | done | rfl | (simp only [List.length_drop, List.length_take]; rfl)) ?_
              with_reducible refine (laws_eqDfa.calls kj14 _ _ t376 _ _ t379 _ _ t382 _ _ t388 _ _ t391 _ _ t394 true _ ?side1 ?side2 ?side3 ?side4 ?side5 ?side6 ?side7 ?side8 ?side9 ?side10 ?side11 ?side12 A37.out).mono ?_
              (case side1 => repeat (first | exact (Kd.S_reads' HO_386000.out).2.2 | (with_reducible refine Kd.C_alloc ?_ _) | (with_reducible refine Kd.C_drewN ?_ _) | (with_reducible refine Kd.C_drew ?_)))
              (case side2 => exact (Kd.S_reads' HO_386000.out).2.1)
              (case side3 => repeat (first | exact (Kd.S_reads' HO_386001.out).2.2 | (with_reducible refine Kd.C_alloc ?_ _) | (with_reducible refine Kd.C_drewN ?_ _) | (with_reducible refine Kd.C_drew ?_)))
              (case side4 => exact (Kd.S_reads' HO_386001.out).2.1)
              (case side5 => repeat (first | exact (Kd.R_reads' HO_386002.out).2.2 | (with_reducible refine Kd.C_alloc ?_ _) | (with_reducible refine Kd.C_drewN ?_ _) | (with_reducible refine Kd.C_drew ?_)))
              (case side6 => exact (Kd.R_reads' HO_386002.out).2.1)
              (case side7 => repeat (first | exact (Kd.S_reads' HO390.out).2.2 | (with_reducible refine Kd.C_alloc ?_ _) | (with_reducible refine Kd.C_drewN ?_ _) | (with_reducible refine Kd.C_drew ?_)))
              (case side8 => exact (Kd.S_reads' HO390.out).2.1)
              (case side9 => repeat (first | exact (Kd.S_reads' HO393.out).2.2 | (with_reducible refine Kd.C_alloc ?_ _) | (with_reducible refine Kd.C_drewN ?_ _) | (with_reducible refine Kd.C_drew ?_)))
              (case side10 => exact (Kd.S_reads' HO393.out).2.1)
              (case side11 => repeat (first | exact (Kd.R_reads' HO396.out).2.2 | (with_reducible refine Kd.C_alloc ?_ _) | (with_reducible refine Kd.C_drewN ?_ _) | (with_reducible refine Kd.C_drew ?_)))
              (case side12 => exact (Kd.R_reads' HO396.out).2.1)
              rintro e w44 ⟨rfl, hb⟩
              refine ⟨_, rfl, ?_⟩
              have n0_ := Aside0.mk (Kd.S_below (by (with_reducible repeat (first | apply Kd.S_alloc | apply Kd.S_drewN | apply Kd.S_drew)); exact HO_386000.out) hb)
              have n1_ := Aside0.mk (Kd.S_below (by (with_reducible repeat (first | apply Kd.S_alloc | apply Kd.S_drewN | apply Kd.S_drew)); exact HO_386001.out) hb)
              have n2_ := Aside0.mk (Kd.R_below (by (with_reducible repeat (first | apply Kd.R_alloc | apply Kd.R_drewN | apply Kd.R_drew)); exact HO_386002.out) hb)
              have n3_ := Aside0.mk (Kd.S_below (by (with_reducible repeat (first | apply Kd.S_alloc | apply Kd.S_drewN | apply Kd.S_drew)); exact HO390.out) hb)
              have n4_ := Aside0.mk (Kd.S_below (by (with_reducible repeat (first | apply Kd.S_alloc | apply Kd.S_drewN | apply Kd.S_drew)); exact HO393.out) hb)
              have n5_ := Aside0.mk (Kd.R_below (by (with_reducible repeat (first | apply Kd.R_alloc | apply Kd.R_drewN | apply Kd.R_drew)); exact HO396.out) hb)
              have n6_ := Aside0.mk (blk_below (g := gb363) (o := .cells #[.slice A0_0 l0_0.length c0_0, .slice A0_1 l0_1.length c0_1, .slice A0_2 l0_2.length c0_2] 26 (0, 0)) (by (with_reducible repeat (first | refine blk_drewN ?_ _ | refine blk_drew ?_ | refine blk_alloc ?_ _)); exact BK363.out) hb)
              have n7_ := Aside0.mk (blk_below (g := gb385) (o := .cells #[.slice Ao28 t376.length co28, .slice Ao31 t379.length co31, .slice Ao32 t382.length co32] 31 (0, 0)) (by (with_reducible repeat (first | refine blk_drewN ?_ _ | refine blk_drew ?_ | refine blk_alloc ?_ _)); exact BK385.out) hb)
              have n8_ := Aside0.mk (below_step (by repeat (first | (with_reducible first | exact HB.out | apply below_alloc | apply pw_below_drewN | apply below_drew1 | refine below_set ?_ GE363.out | refine below_set ?_ GE385.out) | exact HB.out)) hb)
              clear HO_386000
              clear HO_386001
              clear HO_386002
              clear HO390
              clear HO393
              clear HO396
              clear BK363
              clear BK385
              clear HB
              have HO_386000 := n0_
              have HO_386001 := n1_
              have HO_386002 := n2_
              have HO390 := n3_
              have HO393 := n4_
              have HO396 := n5_
              have BK363 := n6_
              have BK385 := n7_
              have HB := n8_
              clear n0_ n1_ n2_ n3_ n4_ n5_ n6_ n7_ n8_
              (try clear hb)
              (try clear hb2)
              (try clear hk)
              (try clear hi)
              refine hK.out _ _ ⟨(blk_cell BK385.out 0).trans rfl, (blk_cell BK385.out 1).trans rfl, (blk_cell BK385.out 2).trans rfl, (blk_cell BK363.out 0).trans rfl, (blk_cell BK363.out 1).trans rfl, (blk_cell BK363.out 2).trans rfl⟩ (fun hHeld => ?_)
              clear hK K
              refine norm_ (a' := ?_) ?_ ?_
              rotate_left
              · show Act.put _ (some 49) _ = _
                simp only [Act.put, List.setIfInBounds_toArray, List.set_cons_zero, List.set_cons_succ, i64_w, i32_w]
                rfl
              refine pure_ (i := 4) (N := some 50) (v := ?_) (a' := ?_) #[true, true, true, true, true] rfl rfl (by kernel_rfl) (fun _ _ _ h => h) (Or.inl ⟨by rfl, ?_⟩) ?_ ?_
              rotate_left
              · intro w'
                go_simp
                with_reducible rfl
              rotate_left
              · simp only [Act.put, List.setIfInBounds_toArray, List.set_cons_zero, List.set_cons_succ, i64_w, i32_w]
                rfl
              refine done_ (by kernel_rfl) ?_
              try go_wp2
              go_ret
              exact ⟨by first | rfl | (simp [errW_none, errW_some] <;> rfl) | (simp [*, errW_none, errW_some] <;> rfl), by repeat (first | (with_reducible first | exact HB.out | apply below_alloc | apply pw_below_drewN | apply below_drew1 | refine below_set ?_ GE363.out | refine below_set ?_ GE385.out) | exact HB.out)⟩
            · replace c38 := Bool.eq_false_iff.mpr c38
              subst c38
              have H1 : (some false) = some r := by rw [if_neg (show ¬ (false = true) by decide)] at H; exact H
              clear H
              have H := H1
              clear H1
              exact absurd ((Option.some.inj H).trans HT.out) (by decide)
end Go.Proofs.Ytigmibfacllhmaa.P

set_option linter.unusedVariables false
set_option linter.unusedSimpArgs false
namespace Go.Proofs.Ytigmibfacllhmaa.Pure
open Go.RowKit Go.Proofs.Ytigmibfacllhmaa.P Go.Proofs.YtigmibfacllhmaaW.PrintWords Go.Proofs.YtigmibfacllhmaaW.PrintLast Go.Proofs.Ytigmibfacllhmaa.Rd
namespace FnExactLexAt
def B146 (x : S146) : Prop := ((Lit.int .i64 x.f0).wf = true) ∧ ((Lit.int .i64 x.f1).wf = true)
theorem rd146 (n : Nat) : Rd Try.prog n 146 k146 B146 :=
  ((Rd.iso (d := (Kd.pair (Kd.int .i64) (Kd.int .i64))) (Rd.struct Try.underlying146 rfl (by kernel_rfl) (Fs.cons (Rd.int _ Try.underlying3) rfl (by kernel_rfl) (Fs.one (Rd.int _ Try.underlying3) rfl (by kernel_rfl)))) (fun x : S146 => (x.f0, x.f1)) (fun p => ⟨p.1, p.2⟩) (fun _ => rfl)).le (Nat.le_succ n)).imp (fun _ hx => hx)
def Said : Prop := ∀ (l0_0 : (List (List S146))) (l0_1 : (List (List Int))) (l0_2 : (List Int)) (a1 : ByteArray) (a2 : Int), (l0_0.length * 24 ≤ reachBytes ∧ ∀ y4 ∈ l0_0, (y4.length * 16 ≤ reachBytes ∧ ∀ y2 ∈ y4, B146 y2)) → (l0_1.length * 24 ≤ reachBytes ∧ ∀ y4 ∈ l0_1, (y4.length * 8 ≤ reachBytes ∧ ∀ y2 ∈ y4, (Lit.int .i64 y2).wf = true)) → (l0_2.length * 8 ≤ reachBytes ∧ ∀ y4 ∈ l0_2, (Lit.int .i64 y4).wf = true) → a1.size ≤ reachBytes → (Lit.int .i64 a2).wf = true → ∃ k, laws_FnExactLexAt.f k l0_0 l0_1 l0_2 a1 a2 = some true
end FnExactLexAt
end Go.Proofs.Ytigmibfacllhmaa.Pure

set_option linter.unusedVariables false
set_option linter.unusedSimpArgs false
namespace Go.Proofs.Ytigmibfacllhmaa.P
open Go.Proofs.YtigmibfacllhmaaW.PrintWords Go.RowKit
noncomputable def yes (p : Prop) : Bool := @decide p (Classical.propDecidable p)
theorem yes_pos {p : Prop} (h : p) : yes p = true := by unfold yes; exact @decide_eq_true p (Classical.propDecidable p) h
theorem yes_neg {p : Prop} (h : ¬ p) : yes p = false := by unfold yes; exact @decide_eq_false p (Classical.propDecidable p) h
theorem yes_iff {p : Prop} : yes p = true ↔ p := by
  constructor
  · intro h
    by_cases hp : p
    · exact hp
    · rw [yes_neg hp] at h; cases h
  · exact yes_pos
theorem yes_congr {p q : Prop} (h : p ↔ q) : yes p = yes q := by rw [propext h]
end Go.Proofs.Ytigmibfacllhmaa.P
namespace Go.Proofs.YtigmibfacllhmaaW.PrintWords
theorem Ev.succ {α : Type} {g : Nat → Option α} {r : α} (h : Ev (fun k => g (k + 1)) r) : Ev g r := by
  obtain ⟨K, hK⟩ := h
  refine ⟨K + 1, fun k hk => ?_⟩
  obtain ⟨m, rfl⟩ : ∃ m, k = m + 1 := ⟨k - 1, by omega⟩
  exact hK m (by omega)
theorem Ev.late {α : Type} {g f : Nat → Option α} {r : α} (h : ∃ K, ∀ k, K ≤ k → g (k + 1) = f k) (k : Ev f r) : Ev g r := by
  obtain ⟨K, hK⟩ := h
  obtain ⟨K', hK'⟩ := k
  refine ⟨max K K' + 1, fun k hk => ?_⟩
  obtain ⟨m, rfl⟩ : ∃ m, k = m + 1 := ⟨k - 1, by omega⟩
  rw [hK m (by omega), hK' m (by omega)]
theorem Ev.eqs {α : Type} {g : Nat → Option α} {r q : α} (h : Ev g r) (e : r = q) : Ev g q := e ▸ h
theorem Ev.ofEq {α : Type} {g : Nat → Option α} {r : α} (h : ∀ k, g k = some r) : Ev g r := ⟨0, fun k _ => h k⟩
theorem Ev.ofSucc {α : Type} {g : Nat → Option α} {r : α} (h : ∀ k, g (k + 1) = some r) : Ev g r := Ev.succ (Ev.ofEq h)
theorem Ev.one {α : Type} {g : Nat → Option α} {r q : α} (h : Ev g r) (k : Ev g q) : r = q := by
  obtain ⟨K, hK⟩ := h
  obtain ⟨K', hK'⟩ := k
  have h1 := hK (max K K') (by omega)
  rw [hK' _ (by omega)] at h1
  exact (Option.some.inj h1).symm
theorem Ev.first {α β : Type} {g : Nat → Option α} {f : Nat → α → Option β} {a : α} {r : β} (h : Ev g a) (k : Ev (fun n => f n a) r) : Ev (fun n => (g n).bind (f n)) r := Ev.bind h k
end Go.Proofs.YtigmibfacllhmaaW.PrintWords
namespace Go.Proofs.Ytigmibfacllhmaa.P
open Go.Proofs.YtigmibfacllhmaaW.PrintWords Go.RowKit
theorem wrap_nat {i : Nat} (h : i < 9000000000000000000) : wrap64 ((i : Int) + 1) = ((i + 1 : Nat) : Int) := by unfold wrap64; omega
theorem wrap_id {i : Int} (h0 : -9000000000000000000 ≤ i) (h : i < 9000000000000000000) : wrap64 i = i := by unfold wrap64; omega
theorem all2_ev {α : Type} (L : Nat → Int → Option Bool) (xs ys : List α) (hl : xs.length = ys.length)
    (hend : ∀ k, L (k + 1) (xs.length : Int) = some true)
    (hstep : ∀ (i : Nat) (h : i < xs.length) (h' : i < ys.length), ∃ K, ∀ k, K ≤ k → (xs[i] = ys[i] → L (k + 1) (i : Int) = L k ((i + 1 : Nat) : Int)) ∧ (xs[i] ≠ ys[i] → L (k + 1) (i : Int) = some false)) :
    Ev (fun k => L k 0) (yes (xs = ys)) := by
  have key : ∀ d i : Nat, i + d = xs.length → Ev (fun k => L k (i : Int)) (yes (xs.drop i = ys.drop i)) := by
    intro d
    induction d with
    | zero =>
      intro i hi
      have h0 : i = xs.length := by omega
      subst h0
      rw [yes_pos (by rw [List.drop_of_length_le (Nat.le_refl _), List.drop_of_length_le (by omega)])]
      exact Ev.ofSucc (g := fun k => L k (xs.length : Int)) hend
    | succ d ih =>
      intro i hi
      have h1 : i < xs.length := by omega
      have h2 : i < ys.length := by omega
      obtain ⟨K, hK⟩ := hstep i h1 h2
      rw [List.drop_eq_getElem_cons h1, List.drop_eq_getElem_cons h2]
      by_cases he : xs[i] = ys[i]
      · refine (Ev.late (g := fun k => L k (i : Int)) ⟨K, fun k hk => (hK k hk).1 he⟩ (ih (i + 1) (by omega))).eqs (yes_congr ?_)
        rw [List.cons_eq_cons]
        exact ⟨fun h => ⟨he, h⟩, fun h => h.2⟩
      · refine (Ev.late (g := fun k => L k (i : Int)) (f := fun _ => some false) ⟨K, fun k hk => (hK k hk).2 he⟩ (Ev.now false)).eqs (yes_neg ?_).symm
        rw [List.cons_eq_cons]
        exact fun h => he h.1
  exact (key xs.length 0 (by omega)).eqs (by simp)
theorem fill_ev {α β : Type} (L : Nat → List β → Int → Option (List β)) (xs : List α) (f : α → β)
    (hend : ∀ k r, r.length = xs.length → L (k + 1) r (xs.length : Int) = some r)
    (hstep : ∀ (i : Nat) (h : i < xs.length), ∃ K, ∀ k r, K ≤ k → r.length = xs.length → L (k + 1) r (i : Int) = L k (r.set i (f xs[i])) ((i + 1 : Nat) : Int))
    (r0 : List β) (h0 : r0.length = xs.length) : Ev (fun k => L k r0 0) (xs.map f) := by
  have key : ∀ d i : Nat, i + d = xs.length → ∀ r : List β, r.length = xs.length → (∀ j (h : j < xs.length), j < i → r[j]? = some (f xs[j])) → Ev (fun k => L k r (i : Int)) (xs.map f) := by
    intro d
    induction d with
    | zero =>
      intro i hi r hr hj
      have h0 : i = xs.length := by omega
      subst h0
      refine (Ev.ofSucc (g := fun k => L k r (xs.length : Int)) (fun k => hend k r hr)).eqs ?_
      apply List.ext_getElem?
      intro j
      rcases Nat.lt_or_ge j xs.length with h | h
      · rw [hj j h h]; simp [List.getElem?_eq_getElem h]
      · rw [List.getElem?_eq_none (by omega), List.getElem?_eq_none (by simpa using h)]
    | succ d ih =>
      intro i hi r hr hj
      have h1 : i < xs.length := by omega
      obtain ⟨K, hK⟩ := hstep i h1
      refine Ev.late (g := fun k => L k r (i : Int)) ⟨K, fun k hk => hK k r hk hr⟩ (ih (i + 1) (by omega) _ (by simpa using hr) (fun j h hlt => ?_))
      rcases Nat.lt_or_ge j i with h2 | h2
      · rw [List.getElem?_set_ne (by omega)]; exact hj j h h2
      · have : j = i := by omega
        subst this
        rw [List.getElem?_set_self (by omega)]
  exact key xs.length 0 (by omega) r0 h0 (fun j _ h => by omega)
theorem all_ev (L : Nat → Int → Option Bool) (n : Nat) (Q : Nat → Prop) (hend : ∀ k, L (k + 1) (n : Int) = some true)
    (hstep : ∀ (i : Nat), i < n → ∃ K, ∀ k, K ≤ k → (Q i → L (k + 1) (i : Int) = L k ((i + 1 : Nat) : Int)) ∧ (¬ Q i → L (k + 1) (i : Int) = some false)) :
    Ev (fun k => L k 0) (yes (∀ i, i < n → Q i)) := by
  have key : ∀ d i : Nat, i + d = n → Ev (fun k => L k (i : Int)) (yes (∀ j, i ≤ j → j < n → Q j)) := by
    intro d
    induction d with
    | zero =>
      intro i hi
      have h0 : i = n := by omega
      subst h0
      rw [yes_pos (fun j h1 h2 => by omega)]
      exact Ev.ofSucc (g := fun k => L k (i : Int)) hend
    | succ d ih =>
      intro i hi
      have h1 : i < n := by omega
      obtain ⟨K, hK⟩ := hstep i h1
      by_cases he : Q i
      · refine (Ev.late (g := fun k => L k (i : Int)) ⟨K, fun k hk => (hK k hk).1 he⟩ (ih (i + 1) (by omega))).eqs (yes_congr ?_)
        constructor
        · intro h j hj hn
          rcases Nat.lt_or_ge i j with h2 | h2
          · exact h j (by omega) hn
          · have : j = i := by omega
            subst this; exact he
        · exact fun h j hj hn => h j (by omega) hn
      · refine (Ev.late (g := fun k => L k (i : Int)) (f := fun _ => some false) ⟨K, fun k hk => (hK k hk).2 he⟩ (Ev.now false)).eqs (yes_neg fun h => he (h i (Nat.le_refl _) h1)).symm
  exact (key n 0 (by omega)).eqs (yes_congr ⟨fun h i hi => h i (Nat.zero_le _) hi, fun h j _ hj => h j hj⟩)
theorem walk_ex {σ β : Type} (L : Nat → σ → Int → Option β) (n : Nat) (hend : ∀ s, ∃ r, Ev (fun k => L k s (n : Int)) r)
    (hstep : ∀ (i : Nat), i < n → ∀ s : σ, (∃ r, Ev (fun k => L k s (i : Int)) r) ∨ ∃ s' K, ∀ k, K ≤ k → L (k + 1) s (i : Int) = L k s' ((i + 1 : Nat) : Int))
    (s : σ) : ∃ r, Ev (fun k => L k s 0) r := by
  have key : ∀ d i : Nat, i + d = n → ∀ s, ∃ r, Ev (fun k => L k s (i : Int)) r := by
    intro d
    induction d with
    | zero =>
      intro i hi s
      have h0 : i = n := by omega
      subst h0
      exact hend s
    | succ d ih =>
      intro i hi s
      rcases hstep i (by omega) s with h | ⟨s', hs⟩
      · exact h
      · obtain ⟨r, hr⟩ := ih (i + 1) (by omega) s'
        exact ⟨r, Ev.late (g := fun k => L k s (i : Int)) hs hr⟩
  exact key n 0 (by omega) s
theorem getD_at {α : Type} {xs : List α} {z : α} {i : Nat} (h : i < xs.length) : xs.getD (i : Int).toNat z = xs[i] := by
  simp [List.getD_eq_getElem?_getD, List.getElem?_eq_getElem h]
theorem run_ev2 {σ γ : Type} (L : Nat → σ → Int → Option γ) (n : Nat) (s : Nat → σ) (fin : γ)
    (hend : Ev (fun k => L k (s n) (n : Int)) fin)
    (hstep : ∀ (i : Nat), i < n → ∃ K, ∀ k, K ≤ k → L (k + 1) (s i) (i : Int) = L k (s (i + 1)) ((i + 1 : Nat) : Int)) : Ev (fun k => L k (s 0) 0) fin := by
  have key : ∀ d i : Nat, i + d = n → Ev (fun k => L k (s i) (i : Int)) fin := by
    intro d
    induction d with
    | zero =>
      intro i hi
      have h0 : i = n := by omega
      subst h0
      exact hend
    | succ d ih =>
      intro i hi
      exact Ev.late (g := fun k => L k (s i) (i : Int)) (hstep i (by omega)) (ih (i + 1) (by omega))
  exact key n 0 (by omega)
theorem scan_ev {β : Type} (L : Nat → Int → Option β) (n : Nat) (P : Nat → Prop) (rh : β) (hhit : ∀ j, j < n → P j → Ev (fun k => L k (j : Int)) rh)
    (hmiss : ∀ j, j < n → ¬ P j → ∃ K, ∀ k, K ≤ k → L (k + 1) (j : Int) = L k ((j + 1 : Nat) : Int)) :
    ((∃ j, j < n ∧ P j) → Ev (fun k => L k 0) rh) ∧ ((∀ j, j < n → ¬ P j) → ∀ r, Ev (fun k => L k (n : Int)) r → Ev (fun k => L k 0) r) := by
  constructor
  · have key : ∀ d j : Nat, j + d = n → (∃ j', j ≤ j' ∧ j' < n ∧ P j') → Ev (fun k => L k (j : Int)) rh := by
      intro d
      induction d with
      | zero => intro j hj ⟨j', h1, h2, _⟩; omega
      | succ d ih =>
        intro j hj ⟨j', h1, h2, h3⟩
        by_cases hp : P j
        · exact hhit j (by omega) hp
        · refine Ev.late (g := fun k => L k (j : Int)) (hmiss j (by omega) hp) (ih (j + 1) (by omega) ⟨j', ?_, h2, h3⟩)
          rcases Nat.lt_or_ge j j' with h | h
          · omega
          · have : j' = j := by omega
            subst this; exact absurd h3 hp
    exact fun ⟨j, h1, h2⟩ => key n 0 (by omega) ⟨j, Nat.zero_le _, h1, h2⟩
  · intro hno r hr
    have key : ∀ d j : Nat, j + d = n → Ev (fun k => L k (j : Int)) r := by
      intro d
      induction d with
      | zero =>
        intro j hj
        have : j = n := by omega
        subst this; exact hr
      | succ d ih => exact fun j hj => Ev.late (g := fun k => L k (j : Int)) (hmiss j (by omega) (hno j (by omega))) (ih (j + 1) (by omega))
    exact key n 0 (by omega)
end Go.Proofs.Ytigmibfacllhmaa.P

set_option linter.unusedVariables false
set_option linter.unusedSimpArgs false
namespace Go.Proofs.Ytigmibfacllhmaa.P
open Go.Proofs.YtigmibfacllhmaaW.PrintWords Go.RowKit
abbrev spanAt (s : List S117) (i : Int) : S117 := rd_T117 s i
def SetQ (s : List S117) (i : Nat) : Prop :=
  0 ≤ (spanAt s i).f0 ∧ (spanAt s i).f0 ≤ (spanAt s i).f1 ∧ (spanAt s i).f1 ≤ 255 ∧ (0 < i → wrap64 ((spanAt s ((i : Int) - 1)).f1 + 1) < (spanAt s i).f0)
def SetP (s : List S117) : Prop := ∀ i, i < s.length → SetQ s i
theorem impl_SetOk_ev (s : List S117) (hn : s.length * 16 ≤ 140737488351232) : Ev (fun k => impl_SetOk.f k s) (yes (SetP s)) := by
  unfold impl_SetOk.f
  refine all_ev (fun k i => impl_SetOk.l0 k s s (s.length : Int) i) s.length (SetQ s) (fun k => ?_) (fun i hi => ⟨0, fun k _ => ?_⟩)
  · show impl_SetOk.l0 (k + 1) s s (s.length : Int) _ = _
    simp only [impl_SetOk.l0]; rw [if_neg (by omega)]
  · show (_ → impl_SetOk.l0 (k + 1) s s (s.length : Int) _ = impl_SetOk.l0 k s s (s.length : Int) _) ∧ (_ → impl_SetOk.l0 (k + 1) s s (s.length : Int) _ = _)
    have hw : 0 < i → wrap64 ((i : Int) - 1) = (i : Int) - 1 := fun h => by unfold wrap64; omega
    simp only [impl_SetOk.l0]
    rw [if_pos (by omega), if_pos (by omega), if_pos (by omega), wrap_nat (by omega)]
    unfold SetQ spanAt
    generalize hx : rd_T117 s (i : Int) = x
    by_cases c1 : x.f0 < 0
    · rw [if_pos c1]; exact ⟨fun h => by omega, fun _ => rfl⟩
    rw [if_neg c1]
    by_cases c2 : x.f1 < x.f0
    · rw [if_pos c2]; exact ⟨fun h => by omega, fun _ => rfl⟩
    rw [if_neg c2]
    by_cases c3 : x.f1 > 255
    · rw [if_pos c3]; exact ⟨fun h => by omega, fun _ => rfl⟩
    rw [if_neg c3]
    by_cases c4 : (i : Int) > 0
    · rw [if_pos c4, hw (by omega), if_pos (by omega), if_pos (by omega)]
      by_cases c5 : x.f0 ≤ wrap64 ((rd_T117 s ((i : Int) - 1)).f1 + 1)
      · rw [if_pos c5]; exact ⟨fun h => by have := h.2.2.2 (by omega); omega, fun _ => rfl⟩
      · rw [if_neg c5]; exact ⟨fun _ => rfl, fun h => absurd ⟨by omega, by omega, by omega, fun _ => by omega⟩ h⟩
    · rw [if_neg c4]; exact ⟨fun _ => rfl, fun h => absurd ⟨by omega, by omega, by omega, fun h => by omega⟩ h⟩
theorem spec_SetOk_ev (s : List S117) (hn : s.length * 16 ≤ 140737488351232) : Ev (fun k => spec_SetOk.f k s) (yes (SetP s)) := by
  unfold spec_SetOk.f
  refine all_ev (fun k i => spec_SetOk.l0 k s i) s.length (SetQ s) (fun k => ?_) (fun i hi => ⟨0, fun k _ => ?_⟩)
  · show spec_SetOk.l0 (k + 1) s _ = _
    simp only [spec_SetOk.l0]; rw [if_neg (by omega)]
  · show (_ → spec_SetOk.l0 (k + 1) s _ = spec_SetOk.l0 k s _) ∧ (_ → spec_SetOk.l0 (k + 1) s _ = _)
    have hw : 0 < i → wrap64 ((i : Int) - 1) = (i : Int) - 1 := fun h => by unfold wrap64; omega
    simp only [spec_SetOk.l0]
    rw [if_pos (by omega), if_pos (by omega), wrap_nat (by omega)]
    unfold SetQ spanAt
    generalize hx : rd_T117 s (i : Int) = x
    by_cases c1 : x.f0 < 0
    · rw [if_pos c1]; exact ⟨fun h => by omega, fun _ => rfl⟩
    rw [if_neg c1]
    by_cases c2 : x.f1 > 255
    · rw [if_pos c2]; exact ⟨fun h => by omega, fun _ => rfl⟩
    rw [if_neg c2]
    by_cases c3 : x.f0 > x.f1
    · rw [if_pos c3]; exact ⟨fun h => by omega, fun _ => rfl⟩
    rw [if_neg c3]
    by_cases c4 : (i : Int) > 0
    · rw [if_pos c4, hw (by omega), if_pos (by omega), if_pos (by omega)]
      by_cases c5 : x.f0 ≤ wrap64 ((rd_T117 s ((i : Int) - 1)).f1 + 1)
      · rw [if_pos c5]; exact ⟨fun h => by have := h.2.2.2 (by omega); omega, fun _ => rfl⟩
      · rw [if_neg c5]; exact ⟨fun _ => rfl, fun h => absurd ⟨by omega, by omega, by omega, fun _ => by omega⟩ h⟩
    · rw [if_neg c4]; exact ⟨fun _ => rfl, fun h => absurd ⟨by omega, by omega, by omega, fun h => by omega⟩ h⟩
end Go.Proofs.Ytigmibfacllhmaa.P

set_option linter.unusedVariables false
set_option linter.unusedSimpArgs false
namespace Go.Proofs.Ytigmibfacllhmaa.P
open Go.Proofs.YtigmibfacllhmaaW.PrintWords Go.RowKit Go.Proofs.Ytigmibfacllhmaa.Arr
theorem loop_ev {σ β : Type} (L : Nat → σ → Int → Option β) (n : Nat) (s : Nat → σ) (Q : Nat → Prop) (rf : β)
    (hstep : ∀ i, i < n → (∀ j, j < i → Q j) → (Q i → ∀ r, Ev (fun k => L k (s (i + 1)) ((i + 1 : Nat) : Int)) r → Ev (fun k => L k (s i) (i : Int)) r) ∧ (¬ Q i → Ev (fun k => L k (s i) (i : Int)) rf)) :
    ((∀ j, j < n → Q j) → ∀ r, Ev (fun k => L k (s n) (n : Int)) r → Ev (fun k => L k (s 0) 0) r) ∧ ((∃ j, j < n ∧ ¬ Q j) → Ev (fun k => L k (s 0) 0) rf) := by
  constructor
  · intro hq r hr
    have key : ∀ d i : Nat, i + d = n → Ev (fun k => L k (s i) (i : Int)) r := by
      intro d
      induction d with
      | zero => intro i hi; have h0 : i = n := by omega
                subst h0; exact hr
      | succ d ih => exact fun i hi => (hstep i (by omega) (fun j hj => hq j (by omega))).1 (hq i (by omega)) r (ih (i + 1) (by omega))
    exact key n 0 (by omega)
  · rintro ⟨j, hj, hn⟩
    have key : ∀ d i : Nat, i + d = n → (∀ j, j < i → Q j) → (∃ j, i ≤ j ∧ j < n ∧ ¬ Q j) → Ev (fun k => L k (s i) (i : Int)) rf := by
      intro d
      induction d with
      | zero => intro i hi _ ⟨j, h1, h2, _⟩; omega
      | succ d ih =>
        intro i hi hb ⟨j, h1, h2, h3⟩
        by_cases hQ : Q i
        · refine (hstep i (by omega) hb).1 hQ rf (ih (i + 1) (by omega) (fun j' hj' => ?_) ⟨j, ?_, h2, h3⟩)
          · rcases Nat.lt_or_ge j' i with h | h
            · exact hb j' h
            · have : j' = i := by omega
              subst this; exact hQ
          · rcases Nat.lt_or_ge i j with h | h
            · omega
            · have : j = i := by omega
              subst this; exact absurd hQ h3
        · exact (hstep i (by omega) hb).2 hQ
    exact key n 0 (by omega) (fun j h => by omega) ⟨j, Nat.zero_le _, hj, hn⟩
def covers (x : S117) (b : Int) : Prop := x.f0 ≤ b ∧ b ≤ x.f1
def HasP (s : List S117) (b : Int) : Prop := ∃ j, j < s.length ∧ covers (spanAt s (j : Int)) b
noncomputable def hasB (s : List S117) (b : Int) : Bool := yes (HasP s b)
theorem spec_SetHas_ev (s : List S117) (hn : s.length * 16 ≤ 140737488351232) (b : Int) : Ev (fun k => spec_SetHas.f k s b) (hasB s b) := by
  unfold spec_SetHas.f
  have key := scan_ev (fun k i => spec_SetHas.l0 k s b i) s.length (fun j => covers (spanAt s (j : Int)) b) true
    (fun j hj hp => Ev.ofSucc (g := fun k => spec_SetHas.l0 k s b (j : Int)) (fun k => by
      simp only [spec_SetHas.l0]
      rw [if_pos (by omega), if_pos (by omega), if_pos hp.1, if_pos hp.2]))
    (fun j hj hp => ⟨0, fun k _ => by
      simp only [spec_SetHas.l0]
      rw [if_pos (by omega), if_pos (by omega), wrap_nat (by omega)]
      by_cases c : b ≥ (rd_T117 s (j : Int)).f0
      · rw [if_pos c]
        rw [if_neg (fun h => hp ⟨c, h⟩)]
      · rw [if_neg c]⟩)
  by_cases h : HasP s b
  · unfold hasB; rw [yes_pos h]; exact key.1 h
  · unfold hasB; rw [yes_neg h]
    exact key.2 (fun j hj hp => h ⟨j, hj, hp⟩) false (Ev.ofSucc (g := fun k => spec_SetHas.l0 k s b _) (fun k => by simp only [spec_SetHas.l0]; rw [if_neg (by omega)]))
theorem impl_SetHas_ev (s : List S117) (hn : s.length * 16 ≤ 140737488351232) (b : Int) : Ev (fun k => impl_SetHas.f k s b) (hasB s b) := by
  unfold impl_SetHas.f
  have key := scan_ev (fun k i => impl_SetHas.l0 k b s (s.length : Int) i) s.length (fun j => covers (spanAt s (j : Int)) b) true
    (fun j hj hp => Ev.ofSucc (g := fun k => impl_SetHas.l0 k b s (s.length : Int) (j : Int)) (fun k => by
      simp only [impl_SetHas.l0, impl_in.f]
      rw [if_pos (by omega), if_pos (by omega), if_pos (by omega), if_pos hp.1, Option.bind_some, decide_eq_true hp.2, if_pos rfl]))
    (fun j hj hp => ⟨0, fun k _ => by
      simp only [impl_SetHas.l0, impl_in.f]
      rw [if_pos (by omega), if_pos (by omega), if_pos (by omega), wrap_nat (by omega)]
      by_cases c : b ≥ (rd_T117 s (j : Int)).f0
      · rw [if_pos c, Option.bind_some, decide_eq_false (fun h => hp ⟨c, h⟩), if_neg (by simp)]
      · rw [if_neg c, Option.bind_some, if_neg (by simp)]⟩)
  by_cases h : HasP s b
  · unfold hasB; rw [yes_pos h]; exact key.1 h
  · unfold hasB; rw [yes_neg h]
    exact key.2 (fun j hj hp => h ⟨j, hj, hp⟩) false (Ev.ofSucc (g := fun k => impl_SetHas.l0 k b s (s.length : Int) _) (fun k => by simp only [impl_SetHas.l0]; rw [if_neg (by omega)]))
noncomputable def bitsL (s : List S117) : List Bool := (List.range 256).map fun i : Nat => hasB s (i : Int)
theorem impl_bitsOf_ev (s : List S117) (hn : s.length * 16 ≤ 140737488351232) : Ev (fun k => impl_bitsOf.f k s) (bitsL s) := by
  unfold impl_bitsOf.f
  refine fill_ev (fun k r i => impl_bitsOf.l0 k s r i) (List.range 256) (fun i : Nat => hasB s (i : Int)) (fun k r hr => ?_) (fun i h => ?_) _ (by rw [List.length_replicate, List.length_range])
  · show impl_bitsOf.l0 (k + 1) s r _ = _
    simp only [impl_bitsOf.l0, List.length_range]
    rw [if_neg (by omega)]
  · rw [List.length_range] at h
    obtain ⟨K, hK⟩ := impl_SetHas_ev s hn (i : Int)
    dsimp only at hK
    refine ⟨K, fun k r hk hr => ?_⟩
    rw [List.length_range] at hr
    show impl_bitsOf.l0 (k + 1) s r _ = impl_bitsOf.l0 k s _ _
    simp only [impl_bitsOf.l0]
    rw [if_pos (by omega), if_pos (by omega), hK k hk, Option.bind_some, wrap_nat (by omega)]
    congr 1
    unfold setB
    rw [padB_self _ _ hr, Int.toNat_natCast, List.getElem_range]
theorem getB_map (f : Nat → Bool) (i : Nat) (h : i < 256) : getB ((List.range 256).map f) (i : Int) = f i := by
  unfold getB
  rw [getD_at (by simpa using h)]
  simp
theorem getB_bitsL (s : List S117) (i : Nat) (h : i < 256) : getB (bitsL s) (i : Int) = hasB s (i : Int) := getB_map _ i h
def cnt (f : Nat → Bool) : Nat → Nat
  | 0 => 0
  | n + 1 => cnt f n + (if f n = true then 1 else 0)
theorem cnt_le (f : Nat → Bool) : ∀ n, cnt f n ≤ n
  | 0 => Nat.le_refl _
  | n + 1 => by
    have := cnt_le f n
    unfold cnt
    split <;> omega
theorem cnt_or (f g : Nat → Bool) : ∀ n, (∀ b, b < n → ¬ (f b = true ∧ g b = true)) → cnt (fun b => f b || g b) n = cnt f n + cnt g n
  | 0, _ => rfl
  | n + 1, h => by
    have ih := cnt_or f g n (fun b hb => h b (by omega))
    have hh := h n (by omega)
    unfold cnt
    rw [ih]
    cases hf : f n <;> cases hg : g n <;> simp_all <;> omega
theorem spec_SetSize_ev (s : List S117) (hn : s.length * 16 ≤ 140737488351232) : Ev (fun k => spec_SetSize.f k s) ((cnt (fun b : Nat => hasB s (b : Int)) 256 : Nat) : Int) := by
  unfold spec_SetSize.f
  refine run_ev2 (fun k (m : Int) i => spec_SetSize.l0 k s m i) 256 (fun i => ((cnt (fun b : Nat => hasB s (b : Int)) i : Nat) : Int)) _ ?_ (fun i hi => ?_)
  · exact Ev.ofSucc (g := fun k => spec_SetSize.l0 k s _ _) (fun k => by simp only [spec_SetSize.l0]; rw [if_neg (by omega)])
  · obtain ⟨K, hK⟩ := spec_SetHas_ev s hn (i : Int)
    dsimp only at hK
    refine ⟨K, fun k hk => ?_⟩
    show spec_SetSize.l0 (k + 1) s _ _ = spec_SetSize.l0 k s _ _
    have hc := cnt_le (fun b : Nat => hasB s (b : Int)) i
    simp only [spec_SetSize.l0]
    rw [if_pos (by omega), hK k hk, Option.bind_some, wrap_nat (by omega), wrap_nat (by omega)]
    show _ = spec_SetSize.l0 k s ((cnt (fun b : Nat => hasB s (b : Int)) i + (if hasB s (i : Int) = true then 1 else 0) : Nat) : Int) _
    by_cases c : hasB s (i : Int) = true
    · rw [if_pos c, if_pos c]
    · rw [if_neg c, if_neg c]; rfl
theorem SetP.mono {s : List S117} (h : SetP s) : ∀ i, i < s.length → (spanAt s 0).f0 ≤ (spanAt s (i : Int)).f0
  | 0, _ => Int.le_refl _
  | i + 1, hi => by
    have ih := SetP.mono h i (by omega)
    obtain ⟨h1, h2, h3, _⟩ := h i (by omega)
    obtain ⟨_, _, _, h4⟩ := h (i + 1) hi
    have h5 := h4 (by omega)
    have he : (((i + 1 : Nat) : Int) - 1) = (i : Int) := by omega
    rw [he, wrap_id (by omega) (by omega)] at h5
    omega
theorem SetP.range {s : List S117} (h : SetP s) {b : Int} (hb : HasP s b) : 0 ≤ b ∧ b < 256 := by
  obtain ⟨j, hj, h1, h2⟩ := hb
  obtain ⟨h3, _, h4, _⟩ := h j hj
  exact ⟨by omega, by omega⟩
theorem spec_SetFirst_ev {s : List S117} (hn : s.length * 16 ≤ 140737488351232) (h : SetP s) (h0 : s.length ≠ 0) : Ev (fun k => spec_SetFirst.f k s) (spanAt s 0).f0 := by
  unfold spec_SetFirst.f
  obtain ⟨q1, q2, q3, _⟩ := h 0 (by omega)
  have q1' : 0 ≤ (spanAt s 0).f0 := q1
  have q2' : (spanAt s 0).f0 ≤ (spanAt s 0).f1 := q2
  have q3' : (spanAt s 0).f1 ≤ 255 := q3
  obtain ⟨m, hm⟩ : ∃ m : Nat, (spanAt s 0).f0 = (m : Int) := ⟨(spanAt s 0).f0.toNat, by omega⟩
  have hat : HasP s (m : Int) := ⟨0, by omega, by show (spanAt s 0).f0 ≤ _; omega, by show _ ≤ (spanAt s 0).f1; omega⟩
  refine (scan_ev (fun k i => spec_SetFirst.l0 k s i) (m + 1) (fun j => j = m) (spanAt s 0).f0 (fun j hj hp => ?_) (fun j hj hp => ?_)).1 ⟨m, by omega, rfl⟩
  · subst hp
    obtain ⟨K, hK⟩ := spec_SetHas_ev s hn (j : Int)
    dsimp only at hK
    refine Ev.succ (g := fun k => spec_SetFirst.l0 k s (j : Int)) ⟨K, fun k hk => ?_⟩
    simp only [spec_SetFirst.l0]
    rw [if_pos (by omega), hK k hk, Option.bind_some]
    unfold hasB
    rw [yes_pos hat, if_pos rfl, hm]
  · obtain ⟨K, hK⟩ := spec_SetHas_ev s hn (j : Int)
    dsimp only at hK
    refine ⟨K, fun k hk => ?_⟩
    simp only [spec_SetFirst.l0]
    rw [if_pos (by omega), hK k hk, Option.bind_some, wrap_nat (by omega)]
    unfold hasB
    rw [yes_neg (fun ⟨i, hi, h1, _⟩ => by have := h.mono i hi; omega), if_neg (by simp)]
theorem spec_l1Of_ne (x : List Bool) (hx : x.length = 256) : ∃ r, Ev (fun k => spec_l1Of.f k x) r ∧ (r ≠ [] ↔ ∃ i, i < 256 ∧ x.getD i false = true) := by
  unfold spec_l1Of.f
  have key : ∀ d i : Nat, i + d = 256 → ∀ y : List S117, y.length ≤ i → ∃ r, Ev (fun k => spec_l1Of.l0 k x y (i : Int)) r ∧ (r ≠ [] ↔ (y ≠ [] ∨ ∃ j, i ≤ j ∧ j < 256 ∧ x.getD j false = true)) := by
    intro d
    induction d with
    | zero =>
      intro i hi y _
      refine ⟨y, Ev.ofSucc (g := fun k => spec_l1Of.l0 k x y _) (fun k => by simp only [spec_l1Of.l0]; rw [if_neg (by omega)]), ?_⟩
      constructor
      · exact fun h => .inl h
      · rintro (h | ⟨j, h1, h2, _⟩)
        · exact h
        · omega
    | succ d ih =>
      intro i hi y hy
      by_cases c : x.getD i false = true
      · have go : ∀ y' : List S117, y'.length ≤ i + 1 → y' ≠ [] → (∀ k, spec_l1Of.l0 (k + 1) x y (i : Int) = spec_l1Of.l0 k x y' ((i + 1 : Nat) : Int)) → ∃ r, Ev (fun k => spec_l1Of.l0 k x y (i : Int)) r ∧ (r ≠ [] ↔ (y ≠ [] ∨ ∃ j, i ≤ j ∧ j < 256 ∧ x.getD j false = true)) := by
          intro y' hl hne he
          obtain ⟨r, hr, hi2⟩ := ih (i + 1) (by omega) y' hl
          exact ⟨r, Ev.late (g := fun k => spec_l1Of.l0 k x y (i : Int)) ⟨0, fun k _ => he k⟩ hr, ⟨fun _ => .inr ⟨i, Nat.le_refl _, by omega, c⟩, fun _ => hi2.2 (.inl hne)⟩⟩
        have hx0 : rdOf false x (i : Int) = true := by unfold rdOf; rw [Int.toNat_natCast]; exact c
        by_cases c1 : 0 < y.length
        · by_cases c2 : (rd_T117 y (wrap64 ((y.length : Int) - 1))).f1 = wrap64 ((i : Int) - 1)
          · refine go (y.set (wrap64 ((y.length : Int) - 1)).toNat ⟨(rd_T117 y (wrap64 ((y.length : Int) - 1))).f0, (i : Int)⟩) (by rw [List.length_set]; omega) (fun h => by have := congrArg List.length h; rw [List.length_set, List.length_nil] at this; omega) (fun k => ?_)
            have hw : wrap64 ((y.length : Int) - 1) = (y.length : Int) - 1 := wrap_id (by omega) (by omega)
            simp only [spec_l1Of.l0]
            rw [if_pos (by omega), if_pos (by omega), if_pos (by omega), if_pos hx0, if_pos (by omega), if_pos (by omega), if_pos (by omega), if_pos c2, wrap_nat (by omega)]
          · refine go (y ++ [⟨(i : Int), (i : Int)⟩]) (by simp; omega) (by simp) (fun k => ?_)
            have hw : wrap64 ((y.length : Int) - 1) = (y.length : Int) - 1 := wrap_id (by omega) (by omega)
            simp only [spec_l1Of.l0]
            rw [if_pos (by omega), if_pos (by omega), if_pos (by omega), if_pos hx0, if_pos (by omega), if_pos (by omega), if_pos (by omega), if_neg c2, if_pos (by omega), wrap_nat (by omega)]
        · refine go (y ++ [⟨(i : Int), (i : Int)⟩]) (by simp; omega) (by simp) (fun k => ?_)
          simp only [spec_l1Of.l0]
          rw [if_pos (by omega), if_pos (by omega), if_pos (by omega), if_pos hx0, if_neg (by omega), if_pos (by omega), wrap_nat (by omega)]
      · obtain ⟨r, hr, hi2⟩ := ih (i + 1) (by omega) y (by omega)
        have hx0 : ¬ rdOf false x (i : Int) = true := by unfold rdOf; rw [Int.toNat_natCast]; exact c
        refine ⟨r, Ev.late (g := fun k => spec_l1Of.l0 k x y (i : Int)) ⟨0, fun k _ => by
          simp only [spec_l1Of.l0]
          rw [if_pos (by omega), if_pos (by omega), if_pos (by omega), if_neg hx0, wrap_nat (by omega)]⟩ hr, hi2.trans ⟨?_, ?_⟩⟩
        · rintro (h | ⟨j, h1, h2, h3⟩)
          · exact .inl h
          · exact .inr ⟨j, by omega, h2, h3⟩
        · rintro (h | ⟨j, h1, h2, h3⟩)
          · exact .inl h
          · refine .inr ⟨j, ?_, h2, h3⟩
            rcases Nat.lt_or_ge i j with h | h
            · omega
            · have : j = i := by omega
              subst this; exact absurd h3 c
  obtain ⟨r, hr, h⟩ := key 256 0 (by omega) [] (by simp)
  refine ⟨r, hr, h.trans ⟨?_, ?_⟩⟩
  · rintro (h | ⟨j, h1, h2, h3⟩)
    · exact absurd rfl h
    · exact ⟨j, h2, h3⟩
  · rintro ⟨j, h2, h3⟩
    exact .inr ⟨j, Nat.zero_le _, h2, h3⟩
def Meets (s t : List S117) : Prop := ∃ b : Nat, b < 256 ∧ HasP s (b : Int) ∧ HasP t (b : Int)
theorem spec_SetMeet_ne {s t : List S117} (hs : s.length * 16 ≤ 140737488351232) (ht : t.length * 16 ≤ 140737488351232) (ps : SetP s) (pt : SetP t) : ∃ r, Ev (fun k => spec_SetMeet.f k s t) r ∧ (r ≠ [] ↔ Meets s t) := by
  let f : Nat → Bool := fun i => hasB s (i : Int) && hasB t (i : Int)
  obtain ⟨r, hr, h⟩ := spec_l1Of_ne ((List.range 256).map f) (by simp)
  refine ⟨r, ?_, h.trans ?_⟩
  · unfold spec_SetMeet.f
    simp only [if_pos (show 256 ≤ 281474976710656 by omega)]
    have hE : Ev (fun k => (spec_SetOk.f k s).bind fun t198 => (if t198 = true then ((spec_SetOk.f k t).bind fun t199 => (if t199 = true then ((spec_l1Of.f k ((List.range 256).map f)).bind fun t200 => (some t200)) else (some (([] : List S117))))) else (some (([] : List S117))))) r := by
      refine Ev.bind (spec_SetOk_ev s hs) ?_
      simp only [yes_pos ps, if_true]
      refine Ev.bind (spec_SetOk_ev t ht) ?_
      simp only [yes_pos pt, if_true]
      exact Ev.bind hr (Ev.now _)
    have key : ∀ d i : Nat, i + d = 256 → ∀ z : List Bool, z.length = 256 → (∀ j, j < i → z[j]? = some (f j)) → Ev (fun k => spec_SetMeet.l0 k s t z (i : Int)) r := by
      intro d
      induction d with
      | zero =>
        intro i hi z hz hj
        have hzf : z = (List.range 256).map f := by
          apply List.ext_getElem?
          intro j
          rcases Nat.lt_or_ge j 256 with h | h
          · rw [hj j (by omega)]; simp [h]
          · rw [List.getElem?_eq_none (by omega), List.getElem?_eq_none (by simpa using h)]
        subst hzf
        refine Ev.late (g := fun k => spec_SetMeet.l0 k s t _ (i : Int)) ⟨0, fun k _ => ?_⟩ hE
        simp only [spec_SetMeet.l0]
        rw [if_neg (by omega)]
      | succ d ih =>
        intro i hi z hz hj
        obtain ⟨K1, hK1⟩ := spec_SetHas_ev s hs (i : Int)
        obtain ⟨K2, hK2⟩ := spec_SetHas_ev t ht (i : Int)
        dsimp only at hK1 hK2
        refine Ev.late (g := fun k => spec_SetMeet.l0 k s t z (i : Int)) ⟨max K1 K2, fun k hk => ?_⟩ (ih (i + 1) (by omega) (z.set i (f i)) (by simpa using hz) (fun j hlt => ?_))
        · have e1 := hK1 k (by omega)
          have e2 := hK2 k (by omega)
          simp only [spec_SetMeet.l0]
          rw [if_pos (by omega), e1, Option.bind_some, wrap_nat (by omega)]
          by_cases c : hasB s (i : Int) = true
          · have hf : f i = hasB t (i : Int) := by show (hasB s (i : Int) && hasB t (i : Int)) = _; rw [c, Bool.true_and]
            rw [if_pos c, e2, Option.bind_some, if_pos (by omega), if_pos (by omega), Int.toNat_natCast, hf]
          · have hf : f i = false := by show (hasB s (i : Int) && hasB t (i : Int)) = _; rw [Bool.eq_false_iff.mpr c, Bool.false_and]
            rw [if_neg c, if_pos (by omega), if_pos (by omega), Int.toNat_natCast, hf]
        · rcases Nat.lt_or_ge j i with h2 | h2
          · rw [List.getElem?_set_ne (by omega)]; exact hj j h2
          · have : j = i := by omega
            subst this
            rw [List.getElem?_set_self (by omega)]
    exact key 256 0 (by omega) _ (List.length_replicate ..) (fun j h => by omega)
  · constructor
    · rintro ⟨i, hi, h⟩
      have h' : f i = true := by
        have e := getB_map f i hi
        unfold getB at e
        rw [Int.toNat_natCast] at e
        rw [← e]; exact h
      have h2 : hasB s (i : Int) = true ∧ hasB t (i : Int) = true := Bool.and_eq_true_iff.1 h'
      exact ⟨i, hi, yes_iff.1 h2.1, yes_iff.1 h2.2⟩
    · rintro ⟨i, hi, h1, h2⟩
      refine ⟨i, hi, ?_⟩
      have h' : f i = true := Bool.and_eq_true_iff.2 ⟨yes_pos h1, yes_pos h2⟩
      have e := getB_map f i hi
      unfold getB at e
      rw [Int.toNat_natCast] at e
      rw [e]; exact h'
end Go.Proofs.Ytigmibfacllhmaa.P

set_option linter.unusedVariables false
set_option linter.unusedSimpArgs false
namespace Go.Proofs.Ytigmibfacllhmaa.P
open Go.Proofs.YtigmibfacllhmaaW.PrintWords Go.RowKit
def toSpan (x : S146) : S117 := ⟨x.f0, x.f1⟩
theorem toSpanS_ev (xs : List S146) (hn : xs.length * 16 ≤ 140737488351232) : Ev (fun k => laws_toSpanS.f k xs) (xs.map toSpan) := by
  refine Ev.congr (f := fun k => laws_toSpanS.l0 k xs (List.replicate xs.length z117) 0) (fun k => ?_) ?_
  · show laws_toSpanS.f k xs = _
    unfold laws_toSpanS.f
    rw [if_pos (by omega), if_pos (by rw [Int.toNat_natCast]; omega), Int.toNat_natCast]
  · refine fill_ev (fun k r i => laws_toSpanS.l0 k xs r i) xs toSpan (fun k r hr => ?_) (fun i h => ⟨0, fun k r _ hr => ?_⟩) _ (by simp)
    · show laws_toSpanS.l0 (k + 1) xs r _ = _
      simp only [laws_toSpanS.l0]
      rw [if_neg (by omega)]
    · show laws_toSpanS.l0 (k + 1) xs r _ = laws_toSpanS.l0 k xs _ _
      simp only [laws_toSpanS.l0, laws_toSpan.f]
      rw [if_pos (by omega), if_pos (by omega), Option.bind_some, if_pos (by omega), wrap_nat (by omega), Int.toNat_natCast]
      unfold rd_T146
      rw [getD_at h]
      rfl
theorem laws_eqSpanS_ev (xs ys : List S117) (hn : xs.length * 16 ≤ 140737488351232) : Ev (fun k => laws_eqSpanS.f k xs ys) (yes (xs = ys)) := by
  by_cases hl : xs.length = ys.length
  · refine Ev.congr (f := fun k => laws_eqSpanS.l0 k xs ys 0) (fun k => ?_) ?_
    · show laws_eqSpanS.f k xs ys = _
      unfold laws_eqSpanS.f
      rw [if_pos (by omega)]
    · refine all2_ev (fun k i => laws_eqSpanS.l0 k xs ys i) xs ys hl (fun k => ?_) (fun i h h' => ⟨0, fun k _ => ⟨fun he => ?_, fun he => ?_⟩⟩)
      · show laws_eqSpanS.l0 (k + 1) xs ys _ = _
        simp only [laws_eqSpanS.l0]
        rw [if_neg (by omega)]
      · show laws_eqSpanS.l0 (k + 1) xs ys _ = laws_eqSpanS.l0 k xs ys _
        simp only [laws_eqSpanS.l0, laws_eqSpan.f]
        rw [if_pos (by omega), if_pos (by omega), if_pos (by omega), wrap_nat (by omega)]
        unfold rd_T117
        rw [getD_at h, getD_at h', he]
        simp
      · show laws_eqSpanS.l0 (k + 1) xs ys _ = _
        simp only [laws_eqSpanS.l0, laws_eqSpan.f]
        rw [if_pos (by omega), if_pos (by omega), if_pos (by omega)]
        unfold rd_T117
        rw [getD_at h, getD_at h']
        have hne : ¬ (xs[i].f0 = ys[i].f0 ∧ xs[i].f1 = ys[i].f1) := fun ⟨e0, e1⟩ => he (by cases hx : xs[i]; cases hy : ys[i]; simp_all)
        by_cases e0 : xs[i].f0 = ys[i].f0 <;> by_cases e1 : xs[i].f1 = ys[i].f1 <;> simp_all
  · refine (Ev.congr (f := fun _ => some false) (fun k => ?_) (Ev.now false)).eqs (yes_neg fun h => hl (by rw [h])).symm
    show laws_eqSpanS.f k xs ys = _
    unfold laws_eqSpanS.f
    rw [if_neg (by omega)]
theorem szSpanS_some (xs : List S146) (a : Int) : ∃ v, laws_szSpanS.f xs a = some v := by
  unfold laws_szSpanS.f
  split <;> exact ⟨_, rfl⟩
end Go.Proofs.Ytigmibfacllhmaa.P

set_option linter.unusedVariables false
set_option linter.unusedSimpArgs false
namespace Go.Proofs.Ytigmibfacllhmaa.P
open Go.Proofs.YtigmibfacllhmaaW.PrintWords Go.RowKit
theorem rd_at {xs : List Int} {i : Nat} (h : i < xs.length) : rd xs (i : Int) = xs[i] := by unfold rd; exact getD_at h
theorem toIntS_ev (xs : List Int) (hn : xs.length * 8 ≤ 140737488351232) : Ev (fun k => laws_toIntS.f k xs) xs := by
  refine Ev.congr (f := fun k => laws_toIntS.l0 k xs (List.replicate xs.length 0) 0) (fun k => ?_) ?_
  · show laws_toIntS.f k xs = _
    unfold laws_toIntS.f
    rw [if_pos (by omega), if_pos (by rw [Int.toNat_natCast]; omega), Int.toNat_natCast]
  · refine (fill_ev (fun k r i => laws_toIntS.l0 k xs r i) xs id (fun k r hr => ?_) (fun i h => ⟨0, fun k r _ hr => ?_⟩) _ (by simp)).eqs (by simp)
    · show laws_toIntS.l0 (k + 1) xs r _ = _
      simp only [laws_toIntS.l0]
      rw [if_neg (by omega)]
    · show laws_toIntS.l0 (k + 1) xs r _ = laws_toIntS.l0 k xs _ _
      simp only [laws_toIntS.l0]
      rw [if_pos (by omega), if_pos (by omega), if_pos (by omega), wrap_nat (by omega), Int.toNat_natCast, rd_at h]
      rfl
theorem szIntS_some (xs : List Int) (a : Int) : ∃ v, laws_szIntS.f xs a = some v := by
  unfold laws_szIntS.f
  split <;> exact ⟨_, rfl⟩
theorem laws_eqIntS_ev (xs ys : List Int) (hn : xs.length * 8 ≤ 140737488351232) : Ev (fun k => laws_eqIntS.f k xs ys) (yes (xs = ys)) := by
  unfold laws_eqIntS.f
  by_cases hl : xs.length = ys.length
  · simp only [if_pos (show (xs.length : Int) = (ys.length : Int) from by omega)]
    refine all2_ev (fun k i => laws_eqIntS.l0 k xs ys i) xs ys hl (fun k => ?_) (fun i h h' => ⟨0, fun k _ => ?_⟩)
    · show laws_eqIntS.l0 (k + 1) xs ys _ = _
      simp only [laws_eqIntS.l0]; rw [if_neg (by omega)]
    · show (_ → laws_eqIntS.l0 (k + 1) xs ys _ = laws_eqIntS.l0 k xs ys _) ∧ (_ → laws_eqIntS.l0 (k + 1) xs ys _ = _)
      simp only [laws_eqIntS.l0]
      rw [if_pos (by omega), if_pos (by omega), if_pos (by omega), rd_at h, rd_at h', wrap_nat (by omega)]
      exact ⟨fun he => by rw [if_pos he], fun he => by rw [if_neg he]⟩
  · simp only [if_neg (show ¬ (xs.length : Int) = (ys.length : Int) from by omega)]
    exact (Ev.now false).eqs (yes_neg fun h => hl (by rw [h])).symm
theorem toSpanSS_ev (xs : List (List S146)) (hn : xs.length * 24 ≤ 140737488351232) (hi : ∀ x ∈ xs, x.length * 16 ≤ 140737488351232) : Ev (fun k => laws_toSpanSS.f k xs) (xs.map (fun l => l.map toSpan)) := by
  refine Ev.congr (f := fun k => laws_toSpanSS.l0 k xs (List.replicate xs.length []) 0) (fun k => ?_) ?_
  · show laws_toSpanSS.f k xs = _
    unfold laws_toSpanSS.f
    rw [if_pos (by omega), if_pos (by rw [Int.toNat_natCast]; omega), Int.toNat_natCast]
  · refine fill_ev (fun k r i => laws_toSpanSS.l0 k xs r i) xs (fun l => l.map toSpan) (fun k r hr => ?_) (fun i h => ?_) _ (by simp)
    · show laws_toSpanSS.l0 (k + 1) xs r _ = _
      simp only [laws_toSpanSS.l0]
      rw [if_neg (by omega)]
    · obtain ⟨K, hK⟩ := toSpanS_ev xs[i] (hi _ (List.getElem_mem h))
      dsimp only at hK
      refine ⟨K, fun k r hk hr => ?_⟩
      show laws_toSpanSS.l0 (k + 1) xs r _ = laws_toSpanSS.l0 k xs _ _
      simp only [laws_toSpanSS.l0]
      unfold rd_L2
      rw [if_pos (by omega), if_pos (by omega), getD_at h, hK k hk, Option.bind_some, if_pos (by omega), wrap_nat (by omega), Int.toNat_natCast]
theorem szSpanSS_ex (xs : List (List S146)) (hn : xs.length * 24 ≤ 140737488351232) (a : Int) : ∃ v, Ev (fun k => laws_szSpanSS.f k xs a) v := by
  unfold laws_szSpanSS.f
  by_cases c : wrap64 (a - (xs.length : Int)) < 0
  · simp only [if_pos c]; exact ⟨_, Ev.now _⟩
  simp only [if_neg c]
  refine walk_ex (fun k s i => laws_szSpanSS.l0 k xs s i) xs.length
    (fun s => ⟨s, Ev.ofSucc (g := fun k => laws_szSpanSS.l0 k xs s _) (fun k => by simp only [laws_szSpanSS.l0]; rw [if_neg (by omega)])⟩)
    (fun i hi s => ?_) _
  obtain ⟨y, hy⟩ := szSpanS_some xs[i] s
  by_cases cy : y < 0
  · refine .inl ⟨-1, Ev.ofSucc (g := fun k => laws_szSpanSS.l0 k xs s _) (fun k => ?_)⟩
    simp only [laws_szSpanSS.l0]
    unfold rd_L2
    rw [if_pos (by omega), if_pos (by omega), getD_at hi, hy, Option.bind_some, if_pos cy]
  · refine .inr ⟨y, 0, fun k hk => ?_⟩
    show laws_szSpanSS.l0 (k + 1) xs s _ = laws_szSpanSS.l0 k xs _ _
    simp only [laws_szSpanSS.l0]
    unfold rd_L2
    rw [if_pos (by omega), if_pos (by omega), getD_at hi, hy, Option.bind_some, if_neg cy, wrap_nat (by omega)]
theorem laws_eqSpanSS_ev (xs ys : List (List S117)) (hn : xs.length * 24 ≤ 140737488351232) (hi : ∀ x ∈ xs, x.length * 16 ≤ 140737488351232) : Ev (fun k => laws_eqSpanSS.f k xs ys) (yes (xs = ys)) := by
  unfold laws_eqSpanSS.f
  by_cases hl : xs.length = ys.length
  · simp only [if_pos (show (xs.length : Int) = (ys.length : Int) from by omega)]
    refine all2_ev (fun k i => laws_eqSpanSS.l0 k xs ys i) xs ys hl (fun k => ?_) (fun i h h' => ?_)
    · show laws_eqSpanSS.l0 (k + 1) xs ys _ = _
      simp only [laws_eqSpanSS.l0]; rw [if_neg (by omega)]
    · obtain ⟨K, hK⟩ := laws_eqSpanS_ev xs[i] ys[i] (hi _ (List.getElem_mem h))
      dsimp only at hK
      refine ⟨K, fun k hk => ?_⟩
      show (_ → laws_eqSpanSS.l0 (k + 1) xs ys _ = laws_eqSpanSS.l0 k xs ys _) ∧ (_ → laws_eqSpanSS.l0 (k + 1) xs ys _ = _)
      simp only [laws_eqSpanSS.l0]
      unfold rd_L6
      rw [if_pos (by omega), if_pos (by omega), if_pos (by omega), getD_at h, getD_at h', hK k hk, Option.bind_some, wrap_nat (by omega)]
      exact ⟨fun he => by rw [yes_pos he, if_pos rfl], fun he => by rw [yes_neg he, if_neg (by simp)]⟩
  · simp only [if_neg (show ¬ (xs.length : Int) = (ys.length : Int) from by omega)]
    exact (Ev.now false).eqs (yes_neg fun h => hl (by rw [h])).symm
theorem toIntSS_ev (xs : List (List Int)) (hn : xs.length * 24 ≤ 140737488351232) (hi : ∀ x ∈ xs, x.length * 8 ≤ 140737488351232) : Ev (fun k => laws_toIntSS.f k xs) (xs.map id) := by
  refine Ev.congr (f := fun k => laws_toIntSS.l0 k xs (List.replicate xs.length []) 0) (fun k => ?_) ?_
  · show laws_toIntSS.f k xs = _
    unfold laws_toIntSS.f
    rw [if_pos (by omega), if_pos (by rw [Int.toNat_natCast]; omega), Int.toNat_natCast]
  · refine fill_ev (fun k r i => laws_toIntSS.l0 k xs r i) xs id (fun k r hr => ?_) (fun i h => ?_) _ (by simp)
    · show laws_toIntSS.l0 (k + 1) xs r _ = _
      simp only [laws_toIntSS.l0]
      rw [if_neg (by omega)]
    · obtain ⟨K, hK⟩ := toIntS_ev xs[i] (hi _ (List.getElem_mem h))
      dsimp only at hK
      refine ⟨K, fun k r hk hr => ?_⟩
      show laws_toIntSS.l0 (k + 1) xs r _ = laws_toIntSS.l0 k xs _ _
      simp only [laws_toIntSS.l0]
      unfold rd_L3
      rw [if_pos (by omega), if_pos (by omega), getD_at h, hK k hk, Option.bind_some, if_pos (by omega), wrap_nat (by omega), Int.toNat_natCast]
      rfl
theorem szIntSS_ex (xs : List (List Int)) (hn : xs.length * 24 ≤ 140737488351232) (a : Int) : ∃ v, Ev (fun k => laws_szIntSS.f k xs a) v := by
  unfold laws_szIntSS.f
  by_cases c : wrap64 (a - (xs.length : Int)) < 0
  · simp only [if_pos c]; exact ⟨_, Ev.now _⟩
  simp only [if_neg c]
  refine walk_ex (fun k s i => laws_szIntSS.l0 k xs s i) xs.length
    (fun s => ⟨s, Ev.ofSucc (g := fun k => laws_szIntSS.l0 k xs s _) (fun k => by simp only [laws_szIntSS.l0]; rw [if_neg (by omega)])⟩)
    (fun i hi s => ?_) _
  obtain ⟨y, hy⟩ := szIntS_some xs[i] s
  by_cases cy : y < 0
  · refine .inl ⟨-1, Ev.ofSucc (g := fun k => laws_szIntSS.l0 k xs s _) (fun k => ?_)⟩
    simp only [laws_szIntSS.l0]
    unfold rd_L3
    rw [if_pos (by omega), if_pos (by omega), getD_at hi, hy, Option.bind_some, if_pos cy]
  · refine .inr ⟨y, 0, fun k hk => ?_⟩
    show laws_szIntSS.l0 (k + 1) xs s _ = laws_szIntSS.l0 k xs _ _
    simp only [laws_szIntSS.l0]
    unfold rd_L3
    rw [if_pos (by omega), if_pos (by omega), getD_at hi, hy, Option.bind_some, if_neg cy, wrap_nat (by omega)]
theorem laws_eqIntSS_ev (xs ys : List (List Int)) (hn : xs.length * 24 ≤ 140737488351232) (hi : ∀ x ∈ xs, x.length * 8 ≤ 140737488351232) : Ev (fun k => laws_eqIntSS.f k xs ys) (yes (xs = ys)) := by
  unfold laws_eqIntSS.f
  by_cases hl : xs.length = ys.length
  · simp only [if_pos (show (xs.length : Int) = (ys.length : Int) from by omega)]
    refine all2_ev (fun k i => laws_eqIntSS.l0 k xs ys i) xs ys hl (fun k => ?_) (fun i h h' => ?_)
    · show laws_eqIntSS.l0 (k + 1) xs ys _ = _
      simp only [laws_eqIntSS.l0]; rw [if_neg (by omega)]
    · obtain ⟨K, hK⟩ := laws_eqIntS_ev xs[i] ys[i] (hi _ (List.getElem_mem h))
      dsimp only at hK
      refine ⟨K, fun k hk => ?_⟩
      show (_ → laws_eqIntSS.l0 (k + 1) xs ys _ = laws_eqIntSS.l0 k xs ys _) ∧ (_ → laws_eqIntSS.l0 (k + 1) xs ys _ = _)
      simp only [laws_eqIntSS.l0]
      unfold rd_L3
      rw [if_pos (by omega), if_pos (by omega), if_pos (by omega), getD_at h, getD_at h', hK k hk, Option.bind_some, wrap_nat (by omega)]
      exact ⟨fun he => by rw [yes_pos he, if_pos rfl], fun he => by rw [yes_neg he, if_neg (by simp)]⟩
  · simp only [if_neg (show ¬ (xs.length : Int) = (ys.length : Int) from by omega)]
    exact (Ev.now false).eqs (yes_neg fun h => hl (by rw [h])).symm
structure DfaB (p : List (List S117)) (r : List (List Int)) (a : List Int) : Prop where
  p0 : p.length * 24 ≤ 140737488351232
  p1 : ∀ x ∈ p, x.length * 16 ≤ 140737488351232
  r0 : r.length * 24 ≤ 140737488351232
  r1 : ∀ x ∈ r, x.length * 8 ≤ 140737488351232
  a0 : a.length * 8 ≤ 140737488351232
structure DfaL (p : List (List S146)) (r : List (List Int)) (a : List Int) : Prop where
  p0 : p.length * 24 ≤ 140737488351232
  p1 : ∀ x ∈ p, x.length * 16 ≤ 140737488351232
  r0 : r.length * 24 ≤ 140737488351232
  r1 : ∀ x ∈ r, x.length * 8 ≤ 140737488351232
  a0 : a.length * 8 ≤ 140737488351232
def toParts (p : List (List S146)) : List (List S117) := p.map (fun l => l.map toSpan)
theorem DfaL.to {p r a} (h : DfaL p r a) : DfaB (toParts p) r a :=
  ⟨by unfold toParts; simpa using h.p0, fun x hx => by
    unfold toParts at hx
    obtain ⟨y, hy, rfl⟩ := List.mem_map.1 hx
    simpa using h.p1 y hy, h.r0, h.r1, h.a0⟩
theorem toDfa_ev {p r a} (h : DfaL p r a) : Ev (fun k => laws_toDfa.f k p r a) (toParts p, r, a) := by
  unfold laws_toDfa.f
  refine Ev.bind (toSpanSS_ev p h.p0 h.p1) (Ev.bind ((toIntSS_ev r h.r0 h.r1).eqs (show r.map id = r by simp)) (Ev.bind (toIntS_ev a h.a0) ?_))
  exact Ev.now _
theorem szDfa_ex {p r a} (h : DfaL p r a) (b : Int) : ∃ v, Ev (fun k => laws_szDfa.f k p r a b) v := by
  unfold laws_szDfa.f
  obtain ⟨v0, h0⟩ := szSpanSS_ex p h.p0 b
  by_cases c0 : v0 < 0
  · exact ⟨-1, Ev.bind h0 (by simp only [if_pos c0]; exact Ev.now _)⟩
  obtain ⟨v1, h1⟩ := szIntSS_ex r h.r0 v0
  by_cases c1 : v1 < 0
  · exact ⟨-1, Ev.bind h0 (by simp only [if_neg c0]; exact Ev.bind h1 (by simp only [if_pos c1]; exact Ev.now _))⟩
  obtain ⟨v2, h2⟩ := szIntS_some a v1
  by_cases c2 : v2 < 0
  · exact ⟨-1, Ev.bind h0 (by simp only [if_neg c0]; exact Ev.bind h1 (by simp only [if_neg c1, h2, Option.bind_some, if_pos c2]; exact Ev.now _))⟩
  · exact ⟨v2, Ev.bind h0 (by simp only [if_neg c0]; exact Ev.bind h1 (by simp only [if_neg c1, h2, Option.bind_some, if_neg c2]; exact Ev.now _))⟩
theorem laws_eqDfa_ev {p r a} (h : DfaB p r a) (p' r' a') : Ev (fun k => laws_eqDfa.f k p r a p' r' a') (yes (p = p' ∧ r = r' ∧ a = a')) := by
  unfold laws_eqDfa.f
  refine Ev.bind (laws_eqSpanSS_ev p p' h.p0 h.p1) ?_
  by_cases c0 : p = p'
  · simp only [yes_pos c0, if_true]
    refine Ev.bind (laws_eqIntSS_ev r r' h.r0 h.r1) ?_
    by_cases c1 : r = r'
    · simp only [yes_pos c1, if_true]
      refine Ev.bind (laws_eqIntS_ev a a' h.a0) ?_
      by_cases c2 : a = a'
      · simp only [yes_pos c2, if_true]; rw [yes_pos ⟨c0, c1, c2⟩]; exact Ev.now _
      · simp only [yes_neg c2, Bool.false_eq_true, if_false]; rw [yes_neg (fun h => c2 h.2.2)]; exact Ev.now _
    · simp only [yes_neg c1, Bool.false_eq_true, if_false]; rw [yes_neg (fun h => c1 h.2.1)]; exact Ev.now _
  · simp only [yes_neg c0, Bool.false_eq_true, if_false]; rw [yes_neg (fun h => c0 h.1)]; exact Ev.now _
end Go.Proofs.Ytigmibfacllhmaa.P

set_option linter.unusedVariables false
set_option linter.unusedSimpArgs false
namespace Go.Proofs.Ytigmibfacllhmaa.P
open Go.Proofs.YtigmibfacllhmaaW.PrintWords Go.RowKit Go.Proofs.Ytigmibfacllhmaa.Arr
abbrev partAt (x : List (List S117)) (i : Nat) : List S117 := rd_L6 x (i : Int)
theorem partAt_of {x : List (List S117)} {i : Nat} (h : i < x.length) : partAt x i = x[i] := by
  unfold partAt rd_L6
  exact getD_at h
theorem partAt_le {x : List (List S117)} (hx : ∀ p ∈ x, p.length * 16 ≤ 140737488351232) {i : Nat} (h : i < x.length) : (partAt x i).length * 16 ≤ 140737488351232 := by
  rw [partAt_of h]; exact hx _ (List.getElem_mem h)
noncomputable def anyI (x : List (List S117)) (i : Nat) (b : Nat) : Bool := yes (∃ j, j < i ∧ HasP (partAt x j) (b : Int))
theorem anyI_zero (x : List (List S117)) (b : Nat) : anyI x 0 b = false := yes_neg fun ⟨_, h, _⟩ => by omega
theorem anyI_succ (x : List (List S117)) (i b : Nat) : anyI x (i + 1) b = (anyI x i b || hasB (partAt x i) (b : Int)) := by
  unfold anyI hasB
  by_cases h1 : ∃ j, j < i ∧ HasP (partAt x j) (b : Int)
  · rw [yes_pos h1, Bool.true_or]
    obtain ⟨j, hj, h⟩ := h1
    exact yes_pos ⟨j, by omega, h⟩
  · rw [yes_neg h1, Bool.false_or]
    apply yes_congr
    constructor
    · rintro ⟨j, hj, h⟩
      rcases Nat.lt_or_ge j i with h2 | h2
      · exact absurd ⟨j, h2, h⟩ h1
      · have : j = i := by omega
        subst this; exact h
    · exact fun h => ⟨i, by omega, h⟩
def PartQ (x : List (List S117)) (i : Nat) : Prop :=
  SetP (partAt x i) ∧ (partAt x i).length ≠ 0 ∧ (0 < i → (spanAt (partAt x (i - 1)) 0).f0 < (spanAt (partAt x i) 0).f0) ∧ ∀ j, j < i → ¬ Meets (partAt x i) (partAt x j)
def RowQ (n m : Nat) (row : List Int) (a : Int) : Prop := row.length = n ∧ -1 ≤ a ∧ a ≤ 4 ∧ ∀ k, k < row.length → -1 ≤ rd row (k : Int) ∧ rd row (k : Int) < (m : Int)
def RowsP (x : List (List S117)) (r : List (List Int)) (a : List Int) : Prop :=
  1 ≤ r.length ∧ r.length ≤ 40 ∧ a.length = r.length ∧ ∀ i, i < r.length → RowQ x.length r.length (rd_L3 r (i : Int)) (rd a (i : Int))
noncomputable def cntI (x : List (List S117)) (i : Nat) : Nat := cnt (anyI x i) 256
def DfaP (x : List (List S117)) (r : List (List Int)) (a : List Int) : Prop := (∀ i, i < x.length → PartQ x i) ∧ cntI x x.length = 256 ∧ RowsP x r a
theorem cntI_zero (x : List (List S117)) : cntI x 0 = 0 := by
  unfold cntI
  have : ∀ n, cnt (anyI x 0) n = 0 := by
    intro n
    induction n with
    | zero => rfl
    | succ n ih => unfold cnt; rw [ih, anyI_zero]; rfl
  exact this 256
theorem cntI_succ (x : List (List S117)) (i : Nat) (h : ∀ j, j < i → ¬ Meets (partAt x i) (partAt x j)) : cntI x (i + 1) = cntI x i + cnt (fun b : Nat => hasB (partAt x i) (b : Int)) 256 := by
  unfold cntI
  rw [← cnt_or]
  · congr 1
    funext b
    exact anyI_succ x i b
  · rintro b hb ⟨h1, h2⟩
    obtain ⟨j, hj, h3⟩ := yes_iff.1 h1
    exact h j hj ⟨b, hb, yes_iff.1 h2, h3⟩
theorem cntI_le (x : List (List S117)) (i : Nat) : cntI x i ≤ 256 := cnt_le _ _
theorem impl_rows_ev {x : List (List S117)} {r : List (List Int)} {a : List Int} (d : DfaB x r a) (ha : a.length = r.length) :
    Ev (fun k => impl_DfaOk.l2 k r (r.length : Int) 0 x r a) (yes (∀ i, i < r.length → RowQ x.length r.length (rd_L3 r (i : Int)) (rd a (i : Int)))) := by
  have hr0 := d.r0
  have hx0 := d.p0
  have key := loop_ev (fun k (_ : Unit) i => impl_DfaOk.l2 k r (r.length : Int) i x r a) r.length (fun _ => ()) (fun i => RowQ x.length r.length (rd_L3 r (i : Int)) (rd a (i : Int))) false
    (fun i hi _ => by
      obtain ⟨row, hrow⟩ : ∃ y, y = rd_L3 r (i : Int) := ⟨_, rfl⟩
      have hrl : row.length * 8 ≤ 140737488351232 := by
        rw [hrow]; unfold rd_L3; rw [getD_at hi]; exact d.r1 _ (List.getElem_mem hi)
      have inner := loop_ev (fun k (_ : Unit) q => impl_DfaOk.l3 k r (r.length : Int) (i : Int) row (row.length : Int) q x r a) row.length (fun _ => ()) (fun q => -1 ≤ rd row (q : Int) ∧ rd row (q : Int) < (r.length : Int)) false
        (fun q hq _ => by
          have hw : wrap64 ((r.length : Int) - 1) = (r.length : Int) - 1 := wrap_id (by omega) (by omega)
          constructor
          · intro hQ s hs
            refine Ev.late (g := fun k => impl_DfaOk.l3 k r (r.length : Int) (i : Int) row (row.length : Int) (q : Int) x r a) ⟨0, fun k _ => ?_⟩ hs
            simp only [impl_DfaOk.l3, impl_in.f]
            rw [if_pos (by omega), if_pos (by omega), if_pos (by omega), if_pos (show rd row (q : Int) ≥ -1 from hQ.1), Option.bind_some, decide_eq_true (show rd row (q : Int) ≤ wrap64 ((r.length : Int) - 1) by rw [hw]; omega), if_pos rfl, wrap_nat (by omega)]
          · intro hQ
            refine Ev.ofSucc (g := fun k => impl_DfaOk.l3 k r (r.length : Int) (i : Int) row (row.length : Int) (q : Int) x r a) (fun k => ?_)
            simp only [impl_DfaOk.l3, impl_in.f]
            rw [if_pos (by omega), if_pos (by omega), if_pos (by omega), hw]
            by_cases c : rd row (q : Int) ≥ -1
            · rw [if_pos c, Option.bind_some, decide_eq_false (fun h => hQ ⟨c, by omega⟩), if_neg (by simp)]
            · rw [if_neg c, Option.bind_some, if_neg (by simp)])
      show (RowQ x.length r.length (rd_L3 r (i : Int)) (rd a (i : Int)) → _) ∧ (¬ RowQ x.length r.length (rd_L3 r (i : Int)) (rd a (i : Int)) → _)
      rw [← hrow]
      have bad : Ev (fun k => impl_DfaOk.j6 k row r (r.length : Int) (i : Int) true x r a) false := Ev.ofSucc (g := fun k => impl_DfaOk.j6 k row r (r.length : Int) (i : Int) true x r a) (fun k => by simp only [impl_DfaOk.j6, ↓reduceIte])
      have good : ∀ s, Ev (fun k => impl_DfaOk.l3 k r (r.length : Int) (i : Int) row (row.length : Int) 0 x r a) s → Ev (fun k => impl_DfaOk.j6 k row r (r.length : Int) (i : Int) false x r a) s := fun s hs => Ev.late (g := fun k => impl_DfaOk.j6 k row r (r.length : Int) (i : Int) false x r a) ⟨0, fun k _ => by simp only [impl_DfaOk.j6]; rw [if_neg (by simp)]⟩ hs
      have ask : ∀ s, Ev (fun k => impl_DfaOk.j6 k row r (r.length : Int) (i : Int) (!(yes (-1 ≤ rd a (i : Int) ∧ rd a (i : Int) ≤ 4))) x r a) s → row.length = x.length → Ev (fun k => impl_DfaOk.l2 k r (r.length : Int) (i : Int) x r a) s := by
        intro s hs hl
        refine Ev.late (g := fun k => impl_DfaOk.l2 k r (r.length : Int) (i : Int) x r a) ⟨0, fun k _ => ?_⟩ hs
        simp only [impl_DfaOk.l2, impl_in.f]
        rw [← hrow, if_pos (by omega), if_pos (by omega), if_pos (by omega), if_pos (by omega), if_pos (by omega)]
        by_cases c : rd a (i : Int) ≥ -1
        · rw [if_pos c, Option.bind_some]
          by_cases c2 : rd a (i : Int) ≤ 4
          · rw [decide_eq_true c2, yes_pos ⟨c, c2⟩]
          · rw [decide_eq_false c2, yes_neg fun h => c2 h.2]
        · rw [if_neg c, Option.bind_some, yes_neg fun h => c h.1]
      constructor
      · intro hQ s hs
        obtain ⟨h1, h2, h3, h4⟩ := hQ
        refine ask s ?_ h1
        rw [yes_pos ⟨h2, h3⟩]
        refine good s (inner.1 h4 s ?_)
        refine Ev.late (g := fun k => impl_DfaOk.l3 k r (r.length : Int) (i : Int) row (row.length : Int) (row.length : Int) x r a) ⟨0, fun k _ => ?_⟩ hs
        simp only [impl_DfaOk.l3]
        rw [if_neg (by omega), wrap_nat (by omega)]
      · intro hQ
        by_cases h1 : row.length = x.length
        · refine ask false ?_ h1
          by_cases h2 : -1 ≤ rd a (i : Int) ∧ rd a (i : Int) ≤ 4
          · rw [yes_pos h2]
            refine good false (inner.2 ?_)
            refine Classical.byContradiction fun hn => hQ ⟨h1, h2.1, h2.2, fun k hk => Classical.byContradiction fun hk2 => hn ⟨k, hk, hk2⟩⟩
          · rw [yes_neg h2]; exact bad
        · refine Ev.late (g := fun k => impl_DfaOk.l2 k r (r.length : Int) (i : Int) x r a) ⟨0, fun k _ => ?_⟩ bad
          simp only [impl_DfaOk.l2]
          rw [← hrow, if_pos (by omega), if_pos (by omega), if_pos (by omega), if_neg (by omega)])
  by_cases h : ∀ i, i < r.length → RowQ x.length r.length (rd_L3 r (i : Int)) (rd a (i : Int))
  · rw [yes_pos h]
    exact key.1 h true (Ev.ofSucc (g := fun k => impl_DfaOk.l2 k r (r.length : Int) (r.length : Int) x r a) (fun k => by simp only [impl_DfaOk.l2]; rw [if_neg (by omega)]))
  · rw [yes_neg h]
    exact key.2 (Classical.byContradiction fun hn => h fun i hi => Classical.byContradiction fun hk => hn ⟨i, hi, hk⟩)
theorem impl_tail_ev {x : List (List S117)} {r : List (List Int)} {a : List Int} (d : DfaB x r a) (last : Int) (m : Nat) (al : List Bool) :
    Ev (fun k => impl_DfaOk.l0 k last (m : Int) x (x.length : Int) (x.length : Int) x r a al) (yes (m = 256 ∧ RowsP x r a)) := by
  have hr0 := d.r0
  have ha0 := d.a0
  have bad : Ev (fun k => impl_DfaOk.j4 k true x r a) false := Ev.ofSucc (g := fun k => impl_DfaOk.j4 k true x r a) (fun k => by simp only [impl_DfaOk.j4, ↓reduceIte])
  by_cases c1 : m = 256
  · by_cases c2 : 1 ≤ r.length ∧ r.length ≤ 40
    · have e0 : ∀ k, impl_DfaOk.l0 (k + 1) last (m : Int) x (x.length : Int) (x.length : Int) x r a al = impl_DfaOk.j4 k ((a.length : Int) != (r.length : Int)) x r a := by
        intro k
        simp only [impl_DfaOk.l0, impl_in.f]
        rw [if_neg (by omega), if_pos (by omega), if_pos (by omega), Option.bind_some, decide_eq_true (by omega), if_pos rfl]
      refine Ev.late (g := fun k => impl_DfaOk.l0 k last (m : Int) x (x.length : Int) (x.length : Int) x r a al) ⟨0, fun k _ => e0 k⟩ ?_
      by_cases c3 : a.length = r.length
      · have hne : ((a.length : Int) != (r.length : Int)) = false := by rw [c3]; simp
        rw [hne]
        refine Ev.late (g := fun k => impl_DfaOk.j4 k false x r a) (f := fun k => impl_DfaOk.l2 k r (r.length : Int) 0 x r a) ⟨0, fun k _ => by simp only [impl_DfaOk.j4]; rw [if_neg (by simp)]⟩ ?_
        refine (impl_rows_ev d c3).eqs (yes_congr ⟨fun h => ⟨c1, c2.1, c2.2, c3, h⟩, fun h => h.2.2.2.2⟩)
      · have hne : ((a.length : Int) != (r.length : Int)) = true := by rw [bne_iff_ne]; omega
        rw [hne, yes_neg fun h => c3 h.2.2.2.1]
        exact bad
    · rw [yes_neg fun h => c2 ⟨h.2.1, h.2.2.1⟩]
      refine Ev.late (g := fun k => impl_DfaOk.l0 k last (m : Int) x (x.length : Int) (x.length : Int) x r a al) ⟨0, fun k _ => ?_⟩ bad
      simp only [impl_DfaOk.l0, impl_in.f]
      rw [if_neg (by omega), if_pos (by omega)]
      by_cases c : (r.length : Int) ≥ 1
      · rw [if_pos c, Option.bind_some, decide_eq_false (by omega), if_neg (by simp)]
      · rw [if_neg c, Option.bind_some, if_neg (by simp)]
  · rw [yes_neg fun h => c1 h.1]
    refine Ev.late (g := fun k => impl_DfaOk.l0 k last (m : Int) x (x.length : Int) (x.length : Int) x r a al) ⟨0, fun k _ => ?_⟩ bad
    simp only [impl_DfaOk.l0]
    rw [if_neg (by omega), if_neg (by omega)]
theorem repl_map (n : Nat) : List.replicate n false = (List.range n).map (fun _ : Nat => false) := by
  apply List.ext_getElem
  · simp
  · intro i h1 h2; simp
noncomputable def allI (x : List (List S117)) (i : Nat) : List Bool := (List.range 256).map fun b : Nat => anyI x i b
noncomputable def allJ (x : List (List S117)) (i b : Nat) : List Bool := (List.range 256).map fun c : Nat => anyI x i c || (decide (c < b) && hasB (partAt x i) (c : Int))
theorem allI_zero (x : List (List S117)) : List.replicate 256 false = allI x 0 := by
  rw [repl_map]; unfold allI
  congr 1
  funext b
  rw [anyI_zero]
theorem allJ_zero (x : List (List S117)) (i : Nat) : allJ x i 0 = allI x i := by
  unfold allJ allI
  congr 1
  funext c
  simp
theorem allJ_end (x : List (List S117)) (i : Nat) : allJ x i 256 = allI x (i + 1) := by
  unfold allJ allI
  apply List.map_congr_left
  intro c hc
  rw [List.mem_range] at hc
  rw [anyI_succ, decide_eq_true hc, Bool.true_and]
theorem allJ_yes (x : List (List S117)) (i b : Nat) (hb : b < 256) (h : hasB (partAt x i) (b : Int) = true) : setB 256 (allJ x i b) (b : Int) true = allJ x i (b + 1) := by
  unfold setB
  rw [padB_self _ _ (by unfold allJ; rw [List.length_map, List.length_range]), Int.toNat_natCast]
  apply List.ext_getElem
  · unfold allJ; rw [List.length_set, List.length_map, List.length_map]
  · intro c h1 h2
    unfold allJ at h1 h2 ⊢
    rw [List.getElem_set]
    simp only [List.getElem_map, List.getElem_range]
    by_cases hc : b = c
    · subst hc
      rw [if_pos rfl, h, decide_eq_true (Nat.lt_succ_self _), Bool.true_and, Bool.or_true]
    · rw [if_neg hc]
      congr 2
      by_cases h3 : c < b
      · rw [decide_eq_true h3, decide_eq_true (show c < b + 1 by omega)]
      · rw [decide_eq_false h3, decide_eq_false (show ¬ c < b + 1 by omega)]
theorem allJ_no (x : List (List S117)) (i b : Nat) (h : hasB (partAt x i) (b : Int) = false) : allJ x i b = allJ x i (b + 1) := by
  unfold allJ
  congr 1
  funext c
  congr 1
  by_cases hc : b = c
  · subst hc; rw [h, Bool.and_false, Bool.and_false]
  · congr 1
    by_cases h3 : c < b
    · rw [decide_eq_true h3, decide_eq_true (show c < b + 1 by omega)]
    · rw [decide_eq_false h3, decide_eq_false (show ¬ c < b + 1 by omega)]
noncomputable def lastI (x : List (List S117)) : Nat → Int
  | 0 => -1
  | i + 1 => (spanAt (partAt x i) 0).f0
theorem impl_parts_ev {x : List (List S117)} {r : List (List Int)} {a : List Int} (d : DfaB x r a) :
    ((∀ i, i < x.length → PartQ x i) → ∀ s, Ev (fun k => impl_DfaOk.l0 k (lastI x x.length) (cntI x x.length : Nat) x (x.length : Int) (x.length : Int) x r a (allI x x.length)) s → Ev (fun k => impl_DfaOk.f k x r a) s) ∧
    ((∃ i, i < x.length ∧ ¬ PartQ x i) → Ev (fun k => impl_DfaOk.f k x r a) false) := by
  have hx0 := d.p0
  have hf : ∀ k, impl_DfaOk.f k x r a = impl_DfaOk.l0 k (lastI x 0) (cntI x 0 : Nat) x (x.length : Int) 0 x r a (allI x 0) := by
    intro k
    unfold impl_DfaOk.f
    rw [← allI_zero, cntI_zero]
    rfl
  simp only [hf]
  refine loop_ev (fun k (s : Int × Nat × List Bool) i => impl_DfaOk.l0 k s.1 (s.2.1 : Int) x (x.length : Int) i x r a s.2.2) x.length (fun i => (lastI x i, cntI x i, allI x i)) (PartQ x) false (fun i hi hbelow => ?_)
  obtain ⟨p, hp⟩ : ∃ y, y = partAt x i := ⟨_, rfl⟩
  have hpl : p.length * 16 ≤ 140737488351232 := by rw [hp]; exact partAt_le d.p1 hi
  obtain ⟨K0, hK0⟩ := impl_SetOk_ev p hpl
  obtain ⟨K1, hK1⟩ := impl_bitsOf_ev p hpl
  dsimp only at hK0 hK1
  have hrd : rd_L6 x (i : Int) = p := hp.symm
  show (PartQ x i → ∀ s, Ev (fun k => impl_DfaOk.l0 k (lastI x (i + 1)) (cntI x (i + 1) : Nat) x (x.length : Int) ((i + 1 : Nat) : Int) x r a (allI x (i + 1))) s → Ev (fun k => impl_DfaOk.l0 k (lastI x i) (cntI x i : Nat) x (x.length : Int) (i : Int) x r a (allI x i)) s) ∧ (¬ PartQ x i → Ev (fun k => impl_DfaOk.l0 k (lastI x i) (cntI x i : Nat) x (x.length : Int) (i : Int) x r a (allI x i)) false)
  have bad : Ev (fun k => impl_DfaOk.j1 k (cntI x i : Nat) p x (x.length : Int) (i : Int) true x r a (allI x i)) false := Ev.ofSucc (g := fun k => impl_DfaOk.j1 k (cntI x i : Nat) p x (x.length : Int) (i : Int) true x r a (allI x i)) (fun k => by simp only [impl_DfaOk.j1, ↓reduceIte])
  by_cases c1 : SetP p
  · by_cases c2 : p.length = 0
    · refine ⟨fun hQ => absurd (hp ▸ c2) hQ.2.1, fun _ => ?_⟩
      refine Ev.late (g := fun k => impl_DfaOk.l0 k (lastI x i) (cntI x i : Nat) x (x.length : Int) (i : Int) x r a (allI x i)) ⟨K0, fun k hk => ?_⟩ bad
      simp only [impl_DfaOk.l0]
      rw [hrd, if_pos (by omega), if_pos (by omega), if_pos (by omega), hK0 k hk, Option.bind_some, yes_pos c1, if_pos rfl, if_pos (by omega)]
    · have hlast : ((spanAt p 0).f0 ≤ lastI x i) ↔ ¬ (0 < i → (spanAt (partAt x (i - 1)) 0).f0 < (spanAt p 0).f0) := by
        cases i with
        | zero =>
          obtain ⟨q1, _⟩ := c1 0 (by omega)
          have q1' : 0 ≤ (spanAt p 0).f0 := q1
          show (spanAt p 0).f0 ≤ -1 ↔ _
          exact ⟨fun h => by omega, fun h => absurd (fun h0 => absurd h0 (Nat.lt_irrefl 0)) h⟩
        | succ i =>
          show (spanAt p 0).f0 ≤ (spanAt (partAt x i) 0).f0 ↔ _
          have e : i + 1 - 1 = i := rfl
          rw [e]
          exact ⟨fun h h2 => by have := h2 (Nat.succ_pos _); omega, fun h => by
            rcases Int.lt_or_le (spanAt (partAt x i) 0).f0 (spanAt p 0).f0 with h3 | h3
            · exact absurd (fun _ => h3) h
            · exact h3⟩
      have toJ : ∀ s, Ev (fun k => impl_DfaOk.j1 k (cntI x i : Nat) p x (x.length : Int) (i : Int) (decide ((spanAt p 0).f0 ≤ lastI x i)) x r a (allI x i)) s → Ev (fun k => impl_DfaOk.l0 k (lastI x i) (cntI x i : Nat) x (x.length : Int) (i : Int) x r a (allI x i)) s := by
        intro s hs
        refine Ev.late (g := fun k => impl_DfaOk.l0 k (lastI x i) (cntI x i : Nat) x (x.length : Int) (i : Int) x r a (allI x i)) ⟨K0, fun k hk => ?_⟩ hs
        simp only [impl_DfaOk.l0]
        rw [hrd, if_pos (by omega), if_pos (by omega), if_pos (by omega), hK0 k hk, Option.bind_some, yes_pos c1, if_pos rfl, if_neg (by omega), if_pos (by omega)]
      by_cases c3 : (spanAt p 0).f0 ≤ lastI x i
      · refine ⟨fun hQ => absurd (hp ▸ hQ.2.2.1) (hlast.1 c3), fun _ => toJ false ?_⟩
        rw [decide_eq_true c3]; exact bad
      · have c3' : 0 < i → (spanAt (partAt x (i - 1)) 0).f0 < (spanAt p 0).f0 := Classical.byContradiction fun h => c3 (hlast.2 h)
        have hcn := cntI_le x i
        have inner := loop_ev (fun k (s : Nat × List Bool) b => impl_DfaOk.l1 k (spanAt p 0).f0 (s.1 : Int) x (x.length : Int) (i : Int) (bitsL p) b x r a s.2) 256 (fun b => (cntI x i + cnt (fun c : Nat => hasB p (c : Int)) b, allJ x i b)) (fun b => ¬ (hasB p (b : Int) = true ∧ anyI x i b = true)) false
          (fun b hb _ => by
            have hcb := cnt_le (fun c : Nat => hasB p (c : Int)) b
            have hg := getB_bitsL p b hb
            have hg2 : getB (allJ x i b) (b : Int) = anyI x i b := by
              unfold allJ
              rw [getB_map _ b hb, decide_eq_false (Nat.lt_irrefl _), Bool.false_and, Bool.or_false]
            show (¬ (hasB p (b : Int) = true ∧ anyI x i b = true) → ∀ s, Ev (fun k => impl_DfaOk.l1 k (spanAt p 0).f0 ((cntI x i + (cnt (fun c : Nat => hasB p (c : Int)) b + (if hasB p (b : Int) = true then 1 else 0)) : Nat) : Int) x (x.length : Int) (i : Int) (bitsL p) ((b + 1 : Nat) : Int) x r a (allJ x i (b + 1))) s → Ev (fun k => impl_DfaOk.l1 k (spanAt p 0).f0 ((cntI x i + cnt (fun c : Nat => hasB p (c : Int)) b : Nat) : Int) x (x.length : Int) (i : Int) (bitsL p) (b : Int) x r a (allJ x i b)) s) ∧ (¬ ¬ (hasB p (b : Int) = true ∧ anyI x i b = true) → Ev (fun k => impl_DfaOk.l1 k (spanAt p 0).f0 ((cntI x i + cnt (fun c : Nat => hasB p (c : Int)) b : Nat) : Int) x (x.length : Int) (i : Int) (bitsL p) (b : Int) x r a (allJ x i b)) false)
            by_cases hh : hasB p (b : Int) = true
            · have to3 : ∀ s, Ev (fun k => impl_DfaOk.j3 k (spanAt p 0).f0 ((cntI x i + cnt (fun c : Nat => hasB p (c : Int)) b : Nat) : Int) (b : Int) true x (x.length : Int) (i : Int) (bitsL p) (b : Int) (anyI x i b) x r a (allJ x i b)) s → Ev (fun k => impl_DfaOk.l1 k (spanAt p 0).f0 ((cntI x i + cnt (fun c : Nat => hasB p (c : Int)) b : Nat) : Int) x (x.length : Int) (i : Int) (bitsL p) (b : Int) x r a (allJ x i b)) s := by
                intro s hs
                refine Ev.late (g := fun k => impl_DfaOk.l1 k (spanAt p 0).f0 ((cntI x i + cnt (fun c : Nat => hasB p (c : Int)) b : Nat) : Int) x (x.length : Int) (i : Int) (bitsL p) (b : Int) x r a (allJ x i b)) ⟨0, fun k _ => ?_⟩ hs
                simp only [impl_DfaOk.l1]
                rw [if_pos (by omega), if_pos (by omega), hg, hh, if_pos rfl, hg2]
              constructor
              · intro hq s hs
                have ha : anyI x i b = false := Bool.eq_false_iff.2 fun h => hq ⟨hh, h⟩
                refine to3 s ?_
                rw [ha]
                rw [if_pos hh] at hs
                refine Ev.late (g := fun k => impl_DfaOk.j3 k (spanAt p 0).f0 ((cntI x i + cnt (fun c : Nat => hasB p (c : Int)) b : Nat) : Int) (b : Int) true x (x.length : Int) (i : Int) (bitsL p) (b : Int) false x r a (allJ x i b)) ⟨0, fun k _ => ?_⟩ hs
                simp only [impl_DfaOk.j3]
                rw [if_neg (by simp), if_pos trivial, if_pos (by omega), if_pos (by omega), wrap_nat (by omega), wrap_nat (by omega), allJ_yes x i b hb (hp ▸ hh), Nat.add_assoc]
              · intro hq
                have ha : anyI x i b = true := (Classical.not_not.1 hq).2
                refine to3 false ?_
                rw [ha]
                exact Ev.ofSucc (g := fun k => impl_DfaOk.j3 k (spanAt p 0).f0 ((cntI x i + cnt (fun c : Nat => hasB p (c : Int)) b : Nat) : Int) (b : Int) true x (x.length : Int) (i : Int) (bitsL p) (b : Int) true x r a (allJ x i b)) (fun k => by simp only [impl_DfaOk.j3, ↓reduceIte])
            · have hh' : hasB p (b : Int) = false := Bool.eq_false_iff.2 hh
              refine ⟨fun _ s hs => ?_, fun hq => absurd (Classical.not_not.1 hq).1 hh⟩
              rw [if_neg hh, Nat.add_zero] at hs
              refine Ev.late (g := fun k => impl_DfaOk.l1 k (spanAt p 0).f0 ((cntI x i + cnt (fun c : Nat => hasB p (c : Int)) b : Nat) : Int) x (x.length : Int) (i : Int) (bitsL p) (b : Int) x r a (allJ x i b)) (f := fun k => impl_DfaOk.j3 k (spanAt p 0).f0 ((cntI x i + cnt (fun c : Nat => hasB p (c : Int)) b : Nat) : Int) (b : Int) false x (x.length : Int) (i : Int) (bitsL p) (b : Int) false x r a (allJ x i b)) ⟨0, fun k _ => ?_⟩ ?_
              · simp only [impl_DfaOk.l1]
                rw [if_pos (by omega), if_pos (by omega), hg, hh', if_neg (by simp)]
              · refine Ev.late (g := fun k => impl_DfaOk.j3 k (spanAt p 0).f0 ((cntI x i + cnt (fun c : Nat => hasB p (c : Int)) b : Nat) : Int) (b : Int) false x (x.length : Int) (i : Int) (bitsL p) (b : Int) false x r a (allJ x i b)) ⟨0, fun k _ => ?_⟩ hs
                simp only [impl_DfaOk.j3]
                rw [if_neg (by simp), if_neg (by simp), wrap_nat (by omega), allJ_no x i b (hp ▸ hh')])
        have toL : ∀ s, Ev (fun k => impl_DfaOk.l1 k (spanAt p 0).f0 (cntI x i : Nat) x (x.length : Int) (i : Int) (bitsL p) 0 x r a (allI x i)) s → Ev (fun k => impl_DfaOk.l0 k (lastI x i) (cntI x i : Nat) x (x.length : Int) (i : Int) x r a (allI x i)) s := by
          intro s hs
          refine toJ s ?_
          rw [decide_eq_false c3]
          refine Ev.late (g := fun k => impl_DfaOk.j1 k (cntI x i : Nat) p x (x.length : Int) (i : Int) false x r a (allI x i)) ⟨K1, fun k hk => ?_⟩ hs
          simp only [impl_DfaOk.j1]
          rw [if_neg (by simp), if_pos (by omega), hK1 k hk, Option.bind_some]
        dsimp only at inner
        have hc0 : cnt (fun c : Nat => hasB p (c : Int)) 0 = 0 := by unfold cnt; rfl
        rw [hc0, Nat.add_zero, allJ_zero] at inner
        constructor
        · intro hQ s hs
          refine toL s (inner.1 (fun b hb ⟨h1, h2⟩ => ?_) s ?_)
          · obtain ⟨j, hj, h3⟩ := yes_iff.1 h2
            exact hQ.2.2.2 j hj ⟨b, hb, hp ▸ yes_iff.1 h1, h3⟩
          · refine Ev.late (g := fun k => impl_DfaOk.l1 k (spanAt p 0).f0 ((cntI x i + cnt (fun c : Nat => hasB p (c : Int)) 256 : Nat) : Int) x (x.length : Int) (i : Int) (bitsL p) (256 : Nat) x r a (allJ x i 256)) ⟨0, fun k _ => ?_⟩ hs
            simp only [impl_DfaOk.l1]
            rw [if_neg (by omega), wrap_nat (by omega), allJ_end, cntI_succ x i hQ.2.2.2, ← hp]
            show _ = impl_DfaOk.l0 k (spanAt (partAt x i) 0).f0 _ _ _ _ _ _ _ _
            rw [← hp]
        · intro hQ
          refine toL false (inner.2 ?_)
          refine Classical.byContradiction fun hn => hQ ⟨hp ▸ c1, hp ▸ c2, hp ▸ c3', fun j hj ⟨b, hb, h1, h2⟩ => hn ⟨b, hb, fun hq => hq ⟨yes_pos (hp ▸ h1), yes_pos ⟨j, hj, h2⟩⟩⟩⟩
  · refine ⟨fun hQ => absurd (hp ▸ hQ.1) c1, fun _ => ?_⟩
    refine Ev.late (g := fun k => impl_DfaOk.l0 k (lastI x i) (cntI x i : Nat) x (x.length : Int) (i : Int) x r a (allI x i)) ⟨K0, fun k hk => ?_⟩ bad
    simp only [impl_DfaOk.l0]
    rw [hrd, if_pos (by omega), if_pos (by omega), if_pos (by omega), hK0 k hk, Option.bind_some, yes_neg c1, if_neg (by simp)]
theorem impl_DfaOk_ev {x : List (List S117)} {r : List (List Int)} {a : List Int} (d : DfaB x r a) : Ev (fun k => impl_DfaOk.f k x r a) (yes (DfaP x r a)) := by
  by_cases h : ∀ i, i < x.length → PartQ x i
  · refine (impl_parts_ev d).1 h _ ((impl_tail_ev d _ _ _).eqs (yes_congr ⟨fun h2 => ⟨h, h2⟩, fun h2 => h2.2⟩))
  · rw [yes_neg fun h2 => h h2.1]
    exact (impl_parts_ev d).2 (Classical.byContradiction fun hn => h fun i hi => Classical.byContradiction fun hq => hn ⟨i, hi, hq⟩)
end Go.Proofs.Ytigmibfacllhmaa.P

set_option linter.unusedVariables false
set_option linter.unusedSimpArgs false
namespace Go.Proofs.Ytigmibfacllhmaa.P
open Go.Proofs.YtigmibfacllhmaaW.PrintWords Go.RowKit Go.Proofs.Ytigmibfacllhmaa.Arr
theorem spec_l7Parts_ev {x : List (List S117)} (hx0 : x.length * 24 ≤ 140737488351232) (hx1 : ∀ p ∈ x, p.length * 16 ≤ 140737488351232) : Ev (fun k => spec_l7Parts.f k x) (yes ((∀ i, i < x.length → PartQ x i) ∧ cntI x x.length = 256)) := by
  have hf : ∀ k, spec_l7Parts.f k x = spec_l7Parts.l0 k x (cntI x 0 : Nat) 0 := by
    intro k
    unfold spec_l7Parts.f
    rw [cntI_zero]
    rfl
  simp only [hf]
  have key := loop_ev (fun k (s : Nat) i => spec_l7Parts.l0 k x (s : Int) i) x.length (fun i => cntI x i) (PartQ x) false (fun i hi hbelow => by
    obtain ⟨p, hp⟩ : ∃ y, y = partAt x i := ⟨_, rfl⟩
    have hpl : p.length * 16 ≤ 140737488351232 := by rw [hp]; exact partAt_le hx1 hi
    obtain ⟨K0, hK0⟩ := spec_SetOk_ev p hpl
    dsimp only at hK0
    have hrd : rd_L6 x (i : Int) = p := hp.symm
    show (PartQ x i → ∀ s, Ev (fun k => spec_l7Parts.l0 k x (cntI x (i + 1) : Nat) ((i + 1 : Nat) : Int)) s → Ev (fun k => spec_l7Parts.l0 k x (cntI x i : Nat) (i : Int)) s) ∧ (¬ PartQ x i → Ev (fun k => spec_l7Parts.l0 k x (cntI x i : Nat) (i : Int)) false)
    have bad : Ev (fun k => spec_l7Parts.j1 k x (cntI x i : Nat) (i : Int) true) false := Ev.ofSucc (g := fun k => spec_l7Parts.j1 k x (cntI x i : Nat) (i : Int) true) (fun k => by simp only [spec_l7Parts.j1, ↓reduceIte])
    by_cases c1 : SetP p
    · by_cases c2 : p.length = 0
      · refine ⟨fun hQ => absurd (hp ▸ c2) hQ.2.1, fun _ => ?_⟩
        refine Ev.late (g := fun k => spec_l7Parts.l0 k x (cntI x i : Nat) (i : Int)) ⟨K0, fun k hk => ?_⟩ bad
        simp only [spec_l7Parts.l0]
        rw [hrd, if_pos (by omega), if_pos (by omega), hK0 k hk, Option.bind_some, yes_pos c1, if_pos rfl, if_pos (by omega)]
      · obtain ⟨K2, hK2⟩ := spec_SetFirst_ev hpl c1 c2
        dsimp only at hK2
        have toJ : ∃ b : Bool, (b = true ↔ ¬ (0 < i → (spanAt (partAt x (i - 1)) 0).f0 < (spanAt p 0).f0)) ∧ ∀ s, Ev (fun k => spec_l7Parts.j1 k x (cntI x i : Nat) (i : Int) b) s → Ev (fun k => spec_l7Parts.l0 k x (cntI x i : Nat) (i : Int)) s := by
          cases i with
          | zero =>
            refine ⟨false, ⟨fun h => by simp at h, fun h => absurd (fun h0 => absurd h0 (Nat.lt_irrefl 0)) h⟩, fun s hs => ?_⟩
            refine Ev.late (g := fun k => spec_l7Parts.l0 k x (cntI x 0 : Nat) ((0 : Nat) : Int)) ⟨K0, fun k hk => ?_⟩ hs
            simp only [spec_l7Parts.l0]
            rw [hrd, if_pos (by omega), if_pos (by omega), hK0 k hk, Option.bind_some, yes_pos c1, if_pos rfl, if_neg (by omega), if_neg (by omega)]
          | succ i =>
            have hb := hbelow i (Nat.lt_succ_self i)
            obtain ⟨K3, hK3⟩ := spec_SetFirst_ev (partAt_le hx1 (show i < x.length by omega)) hb.1 hb.2.1
            dsimp only at hK3
            refine ⟨decide ((spanAt p 0).f0 ≤ (spanAt (partAt x i) 0).f0), ?_, fun s hs => ?_⟩
            · rw [decide_eq_true_iff]
              have e : i + 1 - 1 = i := rfl
              rw [e]
              exact ⟨fun h h2 => by have := h2 (Nat.succ_pos _); omega, fun h => by
                rcases Int.lt_or_le (spanAt (partAt x i) 0).f0 (spanAt p 0).f0 with h3 | h3
                · exact absurd (fun _ => h3) h
                · exact h3⟩
            · refine Ev.late (g := fun k => spec_l7Parts.l0 k x (cntI x (i + 1) : Nat) ((i + 1 : Nat) : Int)) ⟨max K0 (max K2 K3), fun k hk => ?_⟩ hs
              have hw : wrap64 (((i + 1 : Nat) : Int) - 1) = (i : Int) := by rw [wrap_id (by omega) (by omega)]; omega
              have h3 : spec_SetFirst.f k (rd_L6 x (i : Int)) = some (spanAt (partAt x i) 0).f0 := hK3 k (by omega)
              simp only [spec_l7Parts.l0]
              rw [hrd, if_pos (by omega), if_pos (by omega), hK0 k (by omega), Option.bind_some, yes_pos c1, if_pos rfl, if_neg (by omega), if_pos (by omega), hK2 k (by omega), Option.bind_some, hw, if_pos (by omega), if_pos (by omega), h3, Option.bind_some]
        obtain ⟨b, hb, toJ⟩ := toJ
        by_cases c3 : 0 < i → (spanAt (partAt x (i - 1)) 0).f0 < (spanAt p 0).f0
        · have hbf : b = false := Bool.eq_false_iff.2 fun h => hb.1 h c3
          have hcn := cntI_le x i
          have inner := loop_ev (fun k (_ : Unit) j => spec_l7Parts.l1 k x (cntI x i : Nat) (i : Int) j) i (fun _ => ()) (fun j => ¬ Meets p (partAt x j)) false (fun j hj _ => by
            have hq := hbelow j hj
            obtain ⟨m, ⟨K4, hK4⟩, hm⟩ := spec_SetMeet_ne hpl (partAt_le hx1 (show j < x.length by omega)) c1 hq.1
            dsimp only at hK4
            have h4 : ∀ k, K4 ≤ k → spec_SetMeet.f k p (rd_L6 x (j : Int)) = some m := hK4
            constructor
            · intro hn s hs
              have hm0 : m = [] := Classical.byContradiction fun h => hn (hm.1 h)
              refine Ev.late (g := fun k => spec_l7Parts.l1 k x (cntI x i : Nat) (i : Int) (j : Int)) ⟨K4, fun k hk => ?_⟩ hs
              simp only [spec_l7Parts.l1]
              rw [hrd, if_pos (by omega), if_pos (by omega), if_pos (by omega), if_pos (by omega), if_pos (by omega), h4 k hk, Option.bind_some, hm0, if_neg (by simp), wrap_nat (by omega)]
            · intro hn
              have hm0 : m ≠ [] := hm.2 (Classical.not_not.1 hn)
              have hml : 0 < m.length := List.length_pos_iff.2 hm0
              refine Ev.succ (g := fun k => spec_l7Parts.l1 k x (cntI x i : Nat) (i : Int) (j : Int)) ⟨K4, fun k hk => ?_⟩
              simp only [spec_l7Parts.l1]
              rw [hrd, if_pos (by omega), if_pos (by omega), if_pos (by omega), if_pos (by omega), if_pos (by omega), h4 k hk, Option.bind_some, if_pos (by omega)])
          have toL : ∀ s, Ev (fun k => spec_l7Parts.l1 k x (cntI x i : Nat) (i : Int) 0) s → Ev (fun k => spec_l7Parts.l0 k x (cntI x i : Nat) (i : Int)) s := by
            intro s hs
            refine toJ s ?_
            rw [hbf]
            refine Ev.late (g := fun k => spec_l7Parts.j1 k x (cntI x i : Nat) (i : Int) false) ⟨0, fun k _ => ?_⟩ hs
            simp only [spec_l7Parts.j1]
            rw [if_neg (by simp)]
          obtain ⟨K5, hK5⟩ := spec_SetSize_ev p hpl
          dsimp only at hK5
          constructor
          · intro hQ s hs
            refine toL s (inner.1 (fun j hj => hp ▸ hQ.2.2.2 j hj) s ?_)
            refine Ev.late (g := fun k => spec_l7Parts.l1 k x (cntI x i : Nat) (i : Int) (i : Int)) ⟨K5, fun k hk => ?_⟩ hs
            have hcl := cnt_le (fun b : Nat => hasB p (b : Int)) 256
            have hcs := cntI_succ x i hQ.2.2.2
            rw [← hp] at hcs
            simp only [spec_l7Parts.l1]
            rw [hrd, if_neg (by omega), if_pos (by omega), if_pos (by omega), hK5 k hk, Option.bind_some, wrap_nat (by omega), wrap_id (by omega) (by omega), hcs, Int.natCast_add (cntI x i)]
          · intro hQ
            refine toL false (inner.2 ?_)
            exact Classical.byContradiction fun hn => hQ ⟨hp ▸ c1, hp ▸ c2, hp ▸ c3, fun j hj hm => hn ⟨j, hj, fun h => h (hp ▸ hm)⟩⟩
        · refine ⟨fun hQ => absurd (hp ▸ hQ.2.2.1) c3, fun _ => toJ false ?_⟩
          rw [hb.2 c3]; exact bad
    · refine ⟨fun hQ => absurd (hp ▸ hQ.1) c1, fun _ => ?_⟩
      refine Ev.late (g := fun k => spec_l7Parts.l0 k x (cntI x i : Nat) (i : Int)) ⟨K0, fun k hk => ?_⟩ bad
      simp only [spec_l7Parts.l0]
      rw [hrd, if_pos (by omega), if_pos (by omega), hK0 k hk, Option.bind_some, yes_neg c1, if_neg (by simp)])
  by_cases h : ∀ i, i < x.length → PartQ x i
  · refine key.1 h _ (Ev.ofSucc (g := fun k => spec_l7Parts.l0 k x (cntI x x.length : Nat) (x.length : Int)) (fun k => ?_))
    simp only [spec_l7Parts.l0]
    rw [if_neg (by omega)]
    by_cases c : cntI x x.length = 256
    · rw [yes_pos ⟨h, c⟩, c]; rfl
    · rw [yes_neg fun h2 => c h2.2]
      congr 1
      rw [beq_eq_false_iff_ne]
      omega
  · rw [yes_neg fun h2 => h h2.1]
    exact key.2 (Classical.byContradiction fun hn => h fun i hi => Classical.byContradiction fun hq => hn ⟨i, hi, hq⟩)
theorem spec_rows_ev {x : List (List S117)} {r : List (List Int)} {a : List Int} (d : DfaB x r a) (ha : a.length = r.length) :
    Ev (fun k => spec_DfaOk.l0 k 0 x r a) (yes (∀ i, i < r.length → RowQ x.length r.length (rd_L3 r (i : Int)) (rd a (i : Int)))) := by
  have hr0 := d.r0
  have hx0 := d.p0
  have key := loop_ev (fun k (_ : Unit) i => spec_DfaOk.l0 k i x r a) r.length (fun _ => ()) (fun i => RowQ x.length r.length (rd_L3 r (i : Int)) (rd a (i : Int))) false
    (fun i hi _ => by
      obtain ⟨row, hrow⟩ : ∃ y, y = rd_L3 r (i : Int) := ⟨_, rfl⟩
      have hrl : row.length * 8 ≤ 140737488351232 := by
        rw [hrow]; unfold rd_L3; rw [getD_at hi]; exact d.r1 _ (List.getElem_mem hi)
      have inner := loop_ev (fun k (_ : Unit) q => spec_DfaOk.l1 k (i : Int) q x r a) row.length (fun _ => ()) (fun q => -1 ≤ rd row (q : Int) ∧ rd row (q : Int) < (r.length : Int)) false
        (fun q hq _ => by
          constructor
          · intro hQ s hs
            refine Ev.late (g := fun k => spec_DfaOk.l1 k (i : Int) (q : Int) x r a) ⟨0, fun k _ => ?_⟩ hs
            simp only [spec_DfaOk.l1]
            rw [← hrow, if_pos (by omega), if_pos (by omega), if_pos (by omega), if_pos (by omega), if_neg (by omega), if_neg (by omega), wrap_nat (by omega)]
          · intro hQ
            refine Ev.ofSucc (g := fun k => spec_DfaOk.l1 k (i : Int) (q : Int) x r a) (fun k => ?_)
            simp only [spec_DfaOk.l1]
            rw [← hrow, if_pos (by omega), if_pos (by omega), if_pos (by omega), if_pos (by omega)]
            by_cases c : rd row (q : Int) < -1
            · rw [if_pos c]
            · rw [if_neg c, if_pos (by omega)])
      show (RowQ x.length r.length (rd_L3 r (i : Int)) (rd a (i : Int)) → _) ∧ (¬ RowQ x.length r.length (rd_L3 r (i : Int)) (rd a (i : Int)) → _)
      rw [← hrow]
      have bad : Ev (fun k => spec_DfaOk.j2 k (i : Int) true x r a) false := Ev.ofSucc (g := fun k => spec_DfaOk.j2 k (i : Int) true x r a) (fun k => by simp only [spec_DfaOk.j2, ↓reduceIte])
      have good : ∀ s, Ev (fun k => spec_DfaOk.l1 k (i : Int) 0 x r a) s → Ev (fun k => spec_DfaOk.j2 k (i : Int) false x r a) s := fun s hs => Ev.late (g := fun k => spec_DfaOk.j2 k (i : Int) false x r a) ⟨0, fun k _ => by simp only [spec_DfaOk.j2]; rw [if_neg (by simp)]⟩ hs
      have ask : ∀ s, Ev (fun k => spec_DfaOk.j2 k (i : Int) (!(yes (-1 ≤ rd a (i : Int) ∧ rd a (i : Int) ≤ 4))) x r a) s → row.length = x.length → Ev (fun k => spec_DfaOk.l0 k (i : Int) x r a) s := by
        intro s hs hl
        refine Ev.late (g := fun k => spec_DfaOk.l0 k (i : Int) x r a) ⟨0, fun k _ => ?_⟩ hs
        simp only [spec_DfaOk.l0]
        rw [← hrow, if_pos (by omega), if_pos (by omega), if_pos (by omega), if_pos (by omega)]
        by_cases c : rd a (i : Int) < -1
        · rw [if_pos c, yes_neg fun h => by omega]; rfl
        · rw [if_neg c]
          by_cases c2 : rd a (i : Int) ≥ 5
          · rw [decide_eq_true c2, yes_neg fun h => by omega]; rfl
          · rw [decide_eq_false c2, yes_pos ⟨by omega, by omega⟩]; rfl
      constructor
      · intro hQ s hs
        obtain ⟨h1, h2, h3, h4⟩ := hQ
        refine ask s ?_ h1
        rw [yes_pos ⟨h2, h3⟩]
        refine good s (inner.1 h4 s ?_)
        refine Ev.late (g := fun k => spec_DfaOk.l1 k (i : Int) (row.length : Int) x r a) ⟨0, fun k _ => ?_⟩ hs
        simp only [spec_DfaOk.l1]
        rw [← hrow, if_pos (by omega), if_pos (by omega), if_neg (by omega), wrap_nat (by omega)]
      · intro hQ
        by_cases h1 : row.length = x.length
        · refine ask false ?_ h1
          by_cases h2 : -1 ≤ rd a (i : Int) ∧ rd a (i : Int) ≤ 4
          · rw [yes_pos h2]
            refine good false (inner.2 ?_)
            refine Classical.byContradiction fun hn => hQ ⟨h1, h2.1, h2.2, fun k hk => Classical.byContradiction fun hk2 => hn ⟨k, hk, hk2⟩⟩
          · rw [yes_neg h2]; exact bad
        · refine Ev.late (g := fun k => spec_DfaOk.l0 k (i : Int) x r a) ⟨0, fun k _ => ?_⟩ bad
          simp only [spec_DfaOk.l0]
          rw [← hrow, if_pos (by omega), if_pos (by omega), if_neg (by omega)])
  by_cases h : ∀ i, i < r.length → RowQ x.length r.length (rd_L3 r (i : Int)) (rd a (i : Int))
  · rw [yes_pos h]
    exact key.1 h true (Ev.ofSucc (g := fun k => spec_DfaOk.l0 k (r.length : Int) x r a) (fun k => by simp only [spec_DfaOk.l0]; rw [if_neg (by omega)]))
  · rw [yes_neg h]
    exact key.2 (Classical.byContradiction fun hn => h fun i hi => Classical.byContradiction fun hk => hn ⟨i, hi, hk⟩)
theorem spec_DfaOk_ev {x : List (List S117)} {r : List (List Int)} {a : List Int} (d : DfaB x r a) : Ev (fun k => spec_DfaOk.f k x r a) (yes (DfaP x r a)) := by
  have hr0 := d.r0
  have ha0 := d.a0
  have bad : Ev (fun k => spec_DfaOk.j0 k true x r a) false := Ev.ofSucc (g := fun k => spec_DfaOk.j0 k true x r a) (fun k => by simp only [spec_DfaOk.j0, ↓reduceIte])
  unfold spec_DfaOk.f
  refine Ev.bind (spec_l7Parts_ev d.p0 d.p1) ?_
  by_cases c0 : (∀ i, i < x.length → PartQ x i) ∧ cntI x x.length = 256
  · simp only [yes_pos c0, ↓reduceIte]
    by_cases c1 : (r.length : Int) < 1
    · simp only [if_pos c1]
      rw [yes_neg fun h => by have := h.2.2.1; omega]; exact bad
    simp only [if_neg c1]
    by_cases c2 : (r.length : Int) > 40
    · simp only [if_pos c2]
      rw [yes_neg fun h => by have := h.2.2.2.1; omega]; exact bad
    simp only [if_neg c2]
    by_cases c3 : a.length = r.length
    · have hne : ((a.length : Int) != (r.length : Int)) = false := by rw [c3]; simp
      rw [hne]
      refine Ev.late (g := fun k => spec_DfaOk.j0 k false x r a) (f := fun k => spec_DfaOk.l0 k 0 x r a) ⟨0, fun k _ => by simp only [spec_DfaOk.j0]; rw [if_neg (by simp)]⟩ ?_
      exact (spec_rows_ev d c3).eqs (yes_congr ⟨fun h => ⟨c0.1, c0.2, by omega, by omega, c3, h⟩, fun h => h.2.2.2.2.2⟩)
    · have hne : ((a.length : Int) != (r.length : Int)) = true := by rw [bne_iff_ne]; omega
      rw [hne, yes_neg fun h => c3 h.2.2.2.2.1]
      exact bad
  · simp only [yes_neg c0, Bool.false_eq_true, ↓reduceIte]
    rw [yes_neg fun h => c0 ⟨h.1, h.2.1⟩]; exact bad
end Go.Proofs.Ytigmibfacllhmaa.P

set_option linter.unusedVariables false
set_option linter.unusedSimpArgs false
namespace Go.Proofs.Ytigmibfacllhmaa.P
open Go.Proofs.YtigmibfacllhmaaW.PrintWords Go.RowKit
def IsPart (x : List (List S117)) (b : Int) (i : Nat) : Prop := i < x.length ∧ HasP (partAt x i) b ∧ ∀ j, j < i → ¬ HasP (partAt x j) b
theorem part_or (x : List (List S117)) (b : Int) : (∃ i, IsPart x b i) ∨ ∀ i, i < x.length → ¬ HasP (partAt x i) b := by
  by_cases h : ∃ i, i < x.length ∧ HasP (partAt x i) b
  · left
    have key : ∀ n i, i ≤ n → i < x.length → HasP (partAt x i) b → ∃ i, IsPart x b i := by
      intro n
      induction n with
      | zero => exact fun i h0 h1 h2 => ⟨i, h1, h2, fun j hj => by omega⟩
      | succ n ih =>
        intro i h0 h1 h2
        by_cases hb : ∃ j, j < i ∧ HasP (partAt x j) b
        · obtain ⟨j, hj, hj2⟩ := hb
          exact ih j (by omega) (by omega) hj2
        · exact ⟨i, h1, h2, fun j hj hj2 => hb ⟨j, hj, hj2⟩⟩
    obtain ⟨i, h1, h2⟩ := h
    exact key i i (Nat.le_refl _) h1 h2
  · exact .inr fun i hi hp => h ⟨i, hi, hp⟩
theorem DfaP.row {x : List (List S117)} {r : List (List Int)} {a : List Int} (h : DfaP x r a) {i : Nat} (hi : i < r.length) : (rd_L3 r (i : Int)).length = x.length := (h.2.2.2.2.2 i hi).1
theorem spec_l7Next_ev {x : List (List S117)} {r : List (List Int)} {a : List Int} (d : DfaB x r a) (h : DfaP x r a) (s : Nat) (hs : s < r.length) (b : Int) :
    (∀ i, IsPart x b i → Ev (fun k => spec_l7Next.f k x r a (s : Int) b) (rd (rd_L3 r (s : Int)) (i : Int))) ∧ ((∀ i, i < x.length → ¬ HasP (partAt x i) b) → Ev (fun k => spec_l7Next.f k x r a (s : Int) b) (-1)) := by
  have hx0 := d.p0
  have hl := h.row hs
  unfold spec_l7Next.f
  constructor
  · rintro i ⟨hi, hp, hno⟩
    refine (scan_ev (fun k j => spec_l7Next.l0 k (s : Int) b j x r a) (i + 1) (fun j => j = i) _ (fun j hj hij => ?_) (fun j hj hij => ?_)).1 ⟨i, Nat.lt_succ_self i, rfl⟩
    · subst hij
      obtain ⟨K, hK⟩ := spec_SetHas_ev (partAt x j) (partAt_le d.p1 hi) b
      dsimp only at hK
      refine Ev.succ (g := fun k => spec_l7Next.l0 k (s : Int) b (j : Int) x r a) ⟨K, fun k hk => ?_⟩
      simp only [spec_l7Next.l0]
      rw [if_pos (by omega), if_pos (by omega), hK k hk, Option.bind_some]
      unfold hasB
      rw [yes_pos hp, if_pos rfl, if_pos (by omega), if_pos (by omega), if_pos (by omega)]
    · obtain ⟨K, hK⟩ := spec_SetHas_ev (partAt x j) (partAt_le d.p1 (show j < x.length by omega)) b
      dsimp only at hK
      refine ⟨K, fun k hk => ?_⟩
      simp only [spec_l7Next.l0]
      rw [if_pos (by omega), if_pos (by omega), hK k hk, Option.bind_some, wrap_nat (by omega)]
      unfold hasB
      rw [yes_neg (hno j (by omega)), if_neg (by simp)]
  · intro hno
    refine (scan_ev (fun k j => spec_l7Next.l0 k (s : Int) b j x r a) x.length (fun j => False) (-1) (fun j hj hij => hij.elim) (fun j hj _ => ?_)).2 (fun j _ h => h) _ ?_
    · obtain ⟨K, hK⟩ := spec_SetHas_ev (partAt x j) (partAt_le d.p1 hj) b
      dsimp only at hK
      refine ⟨K, fun k hk => ?_⟩
      simp only [spec_l7Next.l0]
      rw [if_pos (by omega), if_pos (by omega), hK k hk, Option.bind_some, wrap_nat (by omega)]
      unfold hasB
      rw [yes_neg (hno j hj), if_neg (by simp)]
    · exact Ev.ofSucc (g := fun k => spec_l7Next.l0 k (s : Int) b (x.length : Int) x r a) (fun k => by simp only [spec_l7Next.l0]; rw [if_neg (by omega)])
theorem cnt_full (f : Nat → Bool) : ∀ n, cnt f n = n → ∀ b, b < n → f b = true
  | 0, _, b, hb => by omega
  | n + 1, h, b, hb => by
    have h1 := cnt_le f n
    unfold cnt at h
    by_cases c : f n = true
    · rw [if_pos c] at h
      rcases Nat.lt_or_ge b n with h2 | h2
      · exact cnt_full f n (by omega) b h2
      · have : b = n := by omega
        subst this; exact c
    · rw [if_neg c] at h; omega
theorem DfaP.part {x : List (List S117)} {r : List (List Int)} {a : List Int} (h : DfaP x r a) {b : Nat} (hb : b < 256) : ∃ i, IsPart x (b : Int) i := by
  rcases part_or x (b : Int) with hp | hno
  · exact hp
  · have := cnt_full _ 256 h.2.1 b hb
    obtain ⟨j, hj, hp⟩ := yes_iff.1 this
    exact absurd hp (hno j hj)
theorem DfaP.apart {x : List (List S117)} {r : List (List Int)} {a : List Int} (h : DfaP x r a) {i j : Nat} (hi : i < x.length) (hj : j < i) {b : Nat} (hb : b < 256) (h1 : HasP (partAt x i) (b : Int)) : ¬ HasP (partAt x j) (b : Int) :=
  fun h2 => (h.1 i hi).2.2.2 j hj ⟨b, hb, h1, h2⟩
theorem loop_rel {σ β : Type} (L : Nat → σ → Int → Option β) (n : Nat) (Rl : Nat → σ → Prop) (s0 : σ) (h0 : Rl 0 s0)
    (hstep : ∀ i, i < n → ∀ s, Rl i s → ∃ s', Rl (i + 1) s' ∧ ∀ r, Ev (fun k => L k s' ((i + 1 : Nat) : Int)) r → Ev (fun k => L k s (i : Int)) r) :
    ∃ s, Rl n s ∧ ∀ r, Ev (fun k => L k s (n : Int)) r → Ev (fun k => L k s0 0) r := by
  have key : ∀ i, i ≤ n → ∃ s, Rl i s ∧ ∀ r, Ev (fun k => L k s (i : Int)) r → Ev (fun k => L k s0 0) r := by
    intro i
    induction i with
    | zero => exact fun _ => ⟨s0, h0, fun r h => h⟩
    | succ i ih =>
      intro hi
      obtain ⟨s, hs, h⟩ := ih (by omega)
      obtain ⟨s', hs', h'⟩ := hstep i (by omega) s hs
      exact ⟨s', hs', fun r hr => h r (h' r hr)⟩
  exact key n (Nat.le_refl _)
end Go.Proofs.Ytigmibfacllhmaa.P

set_option linter.unusedVariables false
set_option linter.unusedSimpArgs false
namespace Go.Proofs.Ytigmibfacllhmaa.P
open Go.Proofs.YtigmibfacllhmaaW.PrintWords Go.RowKit Go.Proofs.Ytigmibfacllhmaa.Arr
theorem rd_padI (n : Nat) (l : List Int) (b : Nat) (hb : b < n) : rd (padI n l) (b : Int) = rd l (b : Int) := by
  simp [rd, padI, hb]
theorem length_setA (out : List (List Int)) (s b v : Int) : (setA out s b v).length = out.length := by simp [setA]
theorem rd_setA (out : List (List Int)) (s b : Nat) (v : Int) (hs : s < out.length) (hb : b < 256) (s' b' : Nat) (hb' : b' < 256) :
    rd (rdA (setA out (s : Int) (b : Int) v) (s' : Int)) (b' : Int) = if s' = s ∧ b' = b then v else rd (rdA out (s' : Int)) (b' : Int) := by
  unfold setA rdA
  simp only [Int.toNat_natCast]
  by_cases c : s' = s
  · subst c
    have e1 : ∀ y : List Int, (out.set s' y).getD s' [] = y := by
      intro y
      rw [List.getD_eq_getElem?_getD, List.getElem?_set_self hs]; rfl
    rw [e1]
    by_cases c2 : b' = b
    · subst c2
      rw [if_pos ⟨rfl, rfl⟩]
      unfold rd
      rw [Int.toNat_natCast, List.getD_eq_getElem?_getD, List.getElem?_set_self (by simp [padI]; exact hb')]; rfl
    · have e2 := rd_padI 256 (out.getD s' []) b' hb'
      rw [if_neg (fun h => c2 h.2), ← e2]
      unfold rd
      rw [Int.toNat_natCast, List.getD_eq_getElem?_getD, List.getElem?_set_ne (fun h => c2 h.symm), ← List.getD_eq_getElem?_getD]
  · rw [if_neg (fun h => c h.1)]
    have e1 : ∀ y : List Int, (out.set s y).getD s' [] = out.getD s' [] := by
      intro y
      rw [List.getD_eq_getElem?_getD, List.getElem?_set_ne (fun h => c h.symm), ← List.getD_eq_getElem?_getD]
    rw [e1]
abbrev rowAt (r : List (List Int)) (s : Nat) : List Int := rd_L3 r (s : Int)
def TabP (x : List (List S117)) (r : List (List Int)) (t : List (List Int)) : Prop :=
  t.length = r.length ∧ ∀ s : Nat, s < r.length → ∀ b : Nat, b < 256 → ∀ i : Nat, IsPart x (b : Int) i → rd (rdA t (s : Int)) (b : Int) = rd (rowAt r s) (i : Int)
theorem impl_table_ev {x : List (List S117)} {r : List (List Int)} {a : List Int} (d : DfaB x r a) (h : DfaP x r a) : ∃ t, Ev (fun k => impl_table.f k x r a) t ∧ TabP x r t := by
  have hx0 := d.p0
  have hr0 := d.r0
  have hr40 := h.2.2.2.1
  unfold impl_table.f
  simp only [if_pos (show r.length ≤ 137438953472 by omega)]
  have key := loop_rel (fun k out i => impl_table.l0 k out i x r a) x.length (fun i out => out.length = r.length ∧ ∀ s : Nat, s < r.length → ∀ b : Nat, b < 256 → ∀ j : Nat, j < i → HasP (partAt x j) (b : Int) → rd (rdA out (s : Int)) (b : Int) = rd (rowAt r s) (j : Int)) (List.replicate r.length []) ⟨List.length_replicate .., fun s _ b _ j hj => by omega⟩
    (fun i hi out hout => by
      obtain ⟨hl, hv⟩ := hout
      obtain ⟨K0, hK0⟩ := impl_bitsOf_ev (partAt x i) (partAt_le d.p1 hi)
      dsimp only at hK0
      have hb := loop_rel (fun k out b => impl_table.l1 k out (i : Int) (bitsL (partAt x i)) b x r a) 256 (fun b out => out.length = r.length ∧ (∀ s : Nat, s < r.length → ∀ b : Nat, b < 256 → ∀ j : Nat, j < i → HasP (partAt x j) (b : Int) → rd (rdA out (s : Int)) (b : Int) = rd (rowAt r s) (j : Int)) ∧ ∀ s : Nat, s < r.length → ∀ c : Nat, c < b → HasP (partAt x i) (c : Int) → rd (rdA out (s : Int)) (c : Int) = rd (rowAt r s) (i : Int)) out ⟨hl, hv, fun s _ c hc => by omega⟩
        (fun b hb out hout => by
          obtain ⟨hl, hv, hw⟩ := hout
          have hg := getB_bitsL (partAt x i) b hb
          by_cases c : HasP (partAt x i) (b : Int)
          · have hgt : getB (bitsL (partAt x i)) (b : Int) = true := by rw [hg]; exact yes_pos c
            obtain ⟨out', ⟨hl', hv', hw', hs'⟩, hE⟩ := loop_rel (fun k out s => impl_table.l2 k out (i : Int) (bitsL (partAt x i)) (b : Int) true s x r a) r.length (fun s out => out.length = r.length ∧ (∀ s : Nat, s < r.length → ∀ b : Nat, b < 256 → ∀ j : Nat, j < i → HasP (partAt x j) (b : Int) → rd (rdA out (s : Int)) (b : Int) = rd (rowAt r s) (j : Int)) ∧ (∀ s : Nat, s < r.length → ∀ c : Nat, c < b → HasP (partAt x i) (c : Int) → rd (rdA out (s : Int)) (c : Int) = rd (rowAt r s) (i : Int)) ∧ ∀ s' : Nat, s' < s → rd (rdA out (s' : Int)) (b : Int) = rd (rowAt r s') (i : Int)) out ⟨hl, hv, hw, fun s' hs' => by omega⟩
              (fun s hs out hout => by
                obtain ⟨hl, hv, hw, hs2⟩ := hout
                have hrow : (rd_L3 r (s : Int)).length = x.length := h.row hs
                refine ⟨setA out (s : Int) (b : Int) (rd (rowAt r s) (i : Int)), ⟨by rw [length_setA]; exact hl, ?_, ?_, ?_⟩, fun q hq => ?_⟩
                · intro s1 hs1 b1 hb1 j hj hp
                  rw [rd_setA out s b _ (by omega) hb s1 b1 hb1, if_neg (fun he => by
                    obtain ⟨_, rfl⟩ := he
                    exact h.apart hi hj hb1 c hp)]
                  exact hv s1 hs1 b1 hb1 j hj hp
                · intro s1 hs1 c1 hc1 hp
                  rw [rd_setA out s b _ (by omega) hb s1 c1 (by omega), if_neg (fun he => by omega)]
                  exact hw s1 hs1 c1 hc1 hp
                · intro s1 hs1
                  rw [rd_setA out s b _ (by omega) hb s1 b hb]
                  by_cases c2 : s1 = s
                  · subst c2; rw [if_pos ⟨rfl, rfl⟩]
                  · rw [if_neg (fun he => c2 he.1)]; exact hs2 s1 (by omega)
                · refine Ev.late (g := fun k => impl_table.l2 k out (i : Int) (bitsL (partAt x i)) (b : Int) true (s : Int) x r a) ⟨0, fun k _ => ?_⟩ hq
                  simp only [impl_table.l2]
                  rw [if_pos (by omega), if_pos trivial, if_pos (by omega), if_pos (by omega), wrap_nat (by omega)])
            refine ⟨out', ⟨hl', hv', fun s hs c1 hc1 hp => ?_⟩, fun q hq => ?_⟩
            · rcases Nat.lt_or_ge c1 b with h2 | h2
              · exact hw' s hs c1 h2 hp
              · have : c1 = b := by omega
                subst this; exact hs' s hs
            · refine Ev.late (g := fun k => impl_table.l1 k out (i : Int) (bitsL (partAt x i)) (b : Int) x r a) ⟨0, fun k _ => ?_⟩ (hE q (Ev.late (g := fun k => impl_table.l2 k out' (i : Int) (bitsL (partAt x i)) (b : Int) true (r.length : Int) x r a) ⟨0, fun k _ => ?_⟩ hq))
              · simp only [impl_table.l1]
                rw [if_pos (by omega), if_pos (by omega), hgt]
              · simp only [impl_table.l2]
                rw [if_neg (by omega), wrap_nat (by omega)]
          · have hgf : getB (bitsL (partAt x i)) (b : Int) = false := by rw [hg]; exact yes_neg c
            obtain ⟨out', rfl, hE⟩ := loop_rel (fun k out s => impl_table.l2 k out (i : Int) (bitsL (partAt x i)) (b : Int) false s x r a) r.length (fun _ o => o = out) out rfl
              (fun s hs o ho => ⟨o, ho, fun q hq => by
                refine Ev.late (g := fun k => impl_table.l2 k o (i : Int) (bitsL (partAt x i)) (b : Int) false (s : Int) x r a) ⟨0, fun k _ => ?_⟩ hq
                simp only [impl_table.l2]
                rw [if_pos (by omega), if_neg (by simp), wrap_nat (by omega)]⟩)
            refine ⟨out', ⟨hl, hv, fun s hs c1 hc1 hp => ?_⟩, fun q hq => ?_⟩
            · rcases Nat.lt_or_ge c1 b with h2 | h2
              · exact hw s hs c1 h2 hp
              · have : c1 = b := by omega
                subst this; exact absurd hp c
            · refine Ev.late (g := fun k => impl_table.l1 k out' (i : Int) (bitsL (partAt x i)) (b : Int) x r a) ⟨0, fun k _ => ?_⟩ (hE q (Ev.late (g := fun k => impl_table.l2 k out' (i : Int) (bitsL (partAt x i)) (b : Int) false (r.length : Int) x r a) ⟨0, fun k _ => ?_⟩ hq))
              · simp only [impl_table.l1]
                rw [if_pos (by omega), if_pos (by omega), hgf]
              · simp only [impl_table.l2]
                rw [if_neg (by omega), wrap_nat (by omega)])
      obtain ⟨out', ⟨hl', hv', hw'⟩, hE⟩ := hb
      refine ⟨out', ⟨hl', fun s hs b hb j hj hp => ?_⟩, fun q hq => ?_⟩
      · rcases Nat.lt_or_ge j i with h2 | h2
        · exact hv' s hs b hb j h2 hp
        · have : j = i := by omega
          subst this; exact hw' s hs b hb hp
      · refine Ev.late (g := fun k => impl_table.l0 k out (i : Int) x r a) ⟨K0, fun k hk => ?_⟩ (hE q (Ev.late (g := fun k => impl_table.l1 k out' (i : Int) (bitsL (partAt x i)) ((256 : Nat) : Int) x r a) ⟨0, fun k _ => ?_⟩ hq))
        · simp only [impl_table.l0]
          rw [if_pos (by omega), if_pos (by omega)]
          show (impl_bitsOf.f k (partAt x i)).bind _ = _
          rw [hK0 k hk, Option.bind_some]
        · simp only [impl_table.l1]
          rw [if_neg (by omega), wrap_nat (by omega)])
  obtain ⟨t, ⟨hl, hv⟩, hE⟩ := key
  refine ⟨t, hE t (Ev.ofSucc (g := fun k => impl_table.l0 k t (x.length : Int) x r a) (fun k => by simp only [impl_table.l0]; rw [if_neg (by omega)])), hl, fun s hs b hb i hi => hv s hs b hb i hi.1 hi.2.1⟩
end Go.Proofs.Ytigmibfacllhmaa.P
