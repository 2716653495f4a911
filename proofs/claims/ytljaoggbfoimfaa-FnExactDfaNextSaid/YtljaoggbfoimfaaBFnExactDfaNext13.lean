/- FnExactDfaNext, part 14 of 18: the functions that it reaches as plain Lean functions, that the program's functions compute them, and what they come to. Conditions: stated at each theorem. -/
import Derived.Test.YtljaoggbfoimfaaProg
import Derived.Below
import Derived.Deep.Draws
import Derived.Deep.AppendLies
import Derived.Maps.AppendAt
import Derived.OwnWalk
import Derived.Laws.BytesArg
import Derived.Laws.MakeOwn
import Derived.Laws.OwnMore
import Derived.Deep.OwnRows
import Derived.Tactics
import Derived.Lib.ConvBytes
import Derived.Laws.Slices
import Derived.WalkKit
import Derived.KernelRfl
import Derived.RowKit3
import Derived.Deep.LoopGhost
import Derived.Deep.QuietTactic
import Derived.BigQuiet
import Derived.WideLaws
import Derived.Deep.DeepCutAuto
import Derived.Deep.CutBlock
import Derived.Deep.RegionHeld3
import Derived.Laws.Rows
import Derived.Lib.AppendStr
import Derived.ArgAppend
import Derived.Laws.IdiomCopy
import Derived.OrdersHeld
import Derived.Laws.BitsLemmas
import Derived.RowKit
import Derived.Laws.Tables
import Derived.Test.YtljaoggbfoimfaaBFnExactDfaNext0
import Derived.Test.YtljaoggbfoimfaaBFnExactDfaNext2
import Derived.Test.YtljaoggbfoimfaaBFnExactDfaNext3
import Derived.Test.YtljaoggbfoimfaaBFnExactDfaNext4
import Derived.Test.YtljaoggbfoimfaaBFnExactDfaNext5
import Derived.Test.YtljaoggbfoimfaaBFnExactDfaNext6
import Derived.Test.YtljaoggbfoimfaaBFnExactDfaNext7
import Derived.Test.YtljaoggbfoimfaaBFnExactDfaNext8
import Derived.Test.YtljaoggbfoimfaaBFnExactDfaNext9
import Derived.Test.YtljaoggbfoimfaaBFnExactDfaNext10
import Derived.Test.YtljaoggbfoimfaaBFnExactDfaNext11
import Derived.Test.YtljaoggbfoimfaaBFnExactDfaNext12
namespace Go.Proofs.Ytljaoggbfoimfaa.P
open Go.RowKit Go.Proofs.YtljaoggbfoimfaaW.PrintWords Go.Proofs.YtljaoggbfoimfaaW.PrintLast Go.Proofs.YtljaoggbfoimfaaW.PrintMore
attribute [local go_sem] max2_int min2_int max_two min_two max_three min_three max_four min_four   -- for this text's walks alone
set_option linter.unusedVariables false
set_option linter.unusedSimpArgs false
def errW : Option Int → Value
  | none => .nilIface
  | some c => .iface 0 (.int .i64 c)
theorem errW_none : errW none = .nilIface := rfl
theorem errW_some (c : Int) : errW (some c) = .iface 0 (.int .i64 c) := rfl
theorem info3 : (Try.prog.info? 3).map (fun i => (i.zero, i.size, i.bytes)) = some (some (.int .i64 0), 1, 8) := by kernel_rfl
theorem info4 : (Try.prog.info? 4).map (fun i => (i.zero, i.size, i.bytes)) = some (some (.bool false), 1, 1) := by kernel_rfl
theorem info48 : (Try.prog.info? 48).map (fun i => (i.zero, i.size, i.bytes)) = some (some (.slice none 0 0), 1, 24) := by kernel_rfl
theorem info89 : (Try.prog.info? 89).map (fun i => (i.zero, i.size, i.bytes)) = some (some (.slice none 0 0), 1, 24) := by kernel_rfl
theorem info115 : (Try.prog.info? 115).map (fun i => (i.zero, i.size, i.bytes)) = some (some (.agg #[(.int .i64 0), (.int .i64 0)]), 2, 16) := by kernel_rfl
structure S73 where
  f0 : Int
  f1 : Int
  f2 : Int
structure S71 where
  f0 : Int
  f1 : Int
  f2 : Int
structure S78 where
  f0 : Int
  f1 : Int
  f2 : Int
  f3 : Int
structure S76 where
  f0 : Int
  f1 : Int
  f2 : Int
  f3 : Int
structure S131 where
  f0 : Int
  f1 : Int
def z131 : S131 := ⟨(0 : Int), (0 : Int)⟩
def k131 : Kd S131 := Kd.iso (Kd.pair (Kd.int .i64) (Kd.int .i64)) (fun x : S131 => (x.f0, x.f1))
theorem k131_open {w : World} {x : S131} {cs : List Value} (h : k131.K w x cs) : cs = [.int .i64 x.f0, .int .i64 x.f1] := by
  obtain ⟨_, _, rfl, rfl, rfl⟩ := h
  exact rfl
def rd_T131 (xs : List S131) (i : Int) : S131 := xs.getD i.toNat z131
theorem at_T131 {w : World} {A : Option Addr} {n : Nat} {xs : List S131} (h : Kd.C k131 w A n xs) (i : Int) (h0 : 0 ≤ i) (h1 : i < n) : ∃ ad , A = some ad ∧ w.cell? (ad.add (i.toNat * 2)) = some (.int .i64 (rd_T131 xs i).f0) ∧ w.cell? ⟨(ad.add (i.toNat * 2)).block, (ad.add (i.toNat * 2)).off + 1, none⟩ = some (.int .i64 (rd_T131 xs i).f1) := by
  obtain ⟨ad, c, e, _, hK, hc0⟩ := Kd.C_get h z131 i h0 h1
  have hc : ∀ j u, c[j]? = some u → w.cell? (ad.add (i.toNat * 2 + j)) = some u := hc0
  obtain rfl := k131_open hK
  exact ⟨ad, e, hc 0 _ rfl, by rw [← add_field _ _ 1 (by omega)]; exact hc 1 _ rfl⟩
def rd_L6 (xs : List (List S131)) (i : Int) : (List S131) := xs.getD i.toNat ([] : List S131)
theorem at_L6 {w : World} {A : Option Addr} {n : Nat} {xs : List (List S131)} (h : Kd.C (Kd.slice 131 k131) w A n xs) (i : Int) (h0 : 0 ≤ i) (h1 : i < n) : ∃ ad A0 c0, A = some ad ∧ w.cell? (ad.add i.toNat) = some (.slice A0 (rd_L6 xs i).length c0) ∧ (rd_L6 xs i).length ≤ c0 ∧ k131.C w A0 (rd_L6 xs i).length (rd_L6 xs i) := by
  obtain ⟨ad, c, e, _, hK, hc0⟩ := Kd.C_get h ([] : List S131) i h0 h1
  have hc : ∀ j u, c[j]? = some u → w.cell? (ad.add (i.toNat * 1 + j)) = some u := hc0
  obtain ⟨A0, c0, rfl, l0, g0⟩ := hK
  exact ⟨ad, A0, c0, e, by have hq := hc 0 _ rfl; rwa [Nat.mul_one, Nat.add_zero] at hq, l0, g0⟩
structure S86 where
  f0 : Int
  f1 : (List S131)
  f2 : (List S86)
structure S88 where
  f0 : ByteArray
  f1 : S86
structure S115 where
  f0 : Int
  f1 : Int
def z115 : S115 := ⟨(0 : Int), (0 : Int)⟩
def k115 : Kd S115 := Kd.iso (Kd.pair (Kd.int .i64) (Kd.int .i64)) (fun x : S115 => (x.f0, x.f1))
theorem k115_open {w : World} {x : S115} {cs : List Value} (h : k115.K w x cs) : cs = [.int .i64 x.f0, .int .i64 x.f1] := by
  obtain ⟨_, _, rfl, rfl, rfl⟩ := h
  exact rfl
theorem k115_openM {w : World} {base : Nat} {ok : Nat → Prop} {x : S115} {cs : List Value} (h : k115.M w base ok x cs) : cs = [.int .i64 x.f0, .int .i64 x.f1] := by
  obtain ⟨_, _, rfl, rfl, rfl⟩ := h
  exact rfl
theorem k115_mkM (w : World) (base : Nat) (ok : Nat → Prop) (x : S115)  : k115.M w base ok x [.int .i64 x.f0, .int .i64 x.f1] := ⟨[.int .i64 x.f0], [.int .i64 x.f1], rfl, rfl, rfl⟩
def rd_T115 (xs : List S115) (i : Int) : S115 := xs.getD i.toNat z115
theorem at_T115 {w : World} {A : Option Addr} {n : Nat} {xs : List S115} (h : Kd.C k115 w A n xs) (i : Int) (h0 : 0 ≤ i) (h1 : i < n) : ∃ ad , A = some ad ∧ w.cell? (ad.add (i.toNat * 2)) = some (.int .i64 (rd_T115 xs i).f0) ∧ w.cell? ⟨(ad.add (i.toNat * 2)).block, (ad.add (i.toNat * 2)).off + 1, none⟩ = some (.int .i64 (rd_T115 xs i).f1) := by
  obtain ⟨ad, c, e, _, hK, hc0⟩ := Kd.C_get h z115 i h0 h1
  have hc : ∀ j u, c[j]? = some u → w.cell? (ad.add (i.toNat * 2 + j)) = some u := hc0
  obtain rfl := k115_open hK
  exact ⟨ad, e, hc 0 _ rfl, by rw [← add_field _ _ 1 (by omega)]; exact hc 1 _ rfl⟩
def rd_L11 (xs : List (List S115)) (i : Int) : (List S115) := xs.getD i.toNat ([] : List S115)
theorem at_L11 {w : World} {A : Option Addr} {n : Nat} {xs : List (List S115)} (h : Kd.C (Kd.slice 115 k115) w A n xs) (i : Int) (h0 : 0 ≤ i) (h1 : i < n) : ∃ ad A0 c0, A = some ad ∧ w.cell? (ad.add i.toNat) = some (.slice A0 (rd_L11 xs i).length c0) ∧ (rd_L11 xs i).length ≤ c0 ∧ k115.C w A0 (rd_L11 xs i).length (rd_L11 xs i) := by
  obtain ⟨ad, c, e, _, hK, hc0⟩ := Kd.C_get h ([] : List S115) i h0 h1
  have hc : ∀ j u, c[j]? = some u → w.cell? (ad.add (i.toNat * 1 + j)) = some u := hc0
  obtain ⟨A0, c0, rfl, l0, g0⟩ := hK
  exact ⟨ad, A0, c0, e, by have hq := hc 0 _ rfl; rwa [Nat.mul_one, Nat.add_zero] at hq, l0, g0⟩
structure S92 where
  f0 : Int
  f1 : (List S115)
  f2 : (List S92)
structure S94 where
  f0 : ByteArray
  f1 : S92
def rd_L14 (xs : List (List Int)) (i : Int) : (List Int) := xs.getD i.toNat ([] : List Int)
theorem at_L14 {w : World} {A : Option Addr} {n : Nat} {xs : List (List Int)} (h : Kd.C (Kd.slice 3 (Kd.int .i64)) w A n xs) (i : Int) (h0 : 0 ≤ i) (h1 : i < n) : ∃ ad A0 c0, A = some ad ∧ w.cell? (ad.add i.toNat) = some (.slice A0 (rd_L14 xs i).length c0) ∧ (rd_L14 xs i).length ≤ c0 ∧ (Kd.int .i64).C w A0 (rd_L14 xs i).length (rd_L14 xs i) := by
  obtain ⟨ad, c, e, _, hK, hc0⟩ := Kd.C_get h ([] : List Int) i h0 h1
  have hc : ∀ j u, c[j]? = some u → w.cell? (ad.add (i.toNat * 1 + j)) = some u := hc0
  obtain ⟨A0, c0, rfl, l0, g0⟩ := hK
  exact ⟨ad, A0, c0, e, by have hq := hc 0 _ rfl; rwa [Nat.mul_one, Nat.add_zero] at hq, l0, g0⟩
end Go.Proofs.Ytljaoggbfoimfaa.P

set_option linter.unusedVariables false
set_option linter.unusedSimpArgs false
namespace Go.Proofs.Ytljaoggbfoimfaa.Arr
open Go.RowKit Go.Proofs.YtljaoggbfoimfaaW.PrintWords Go.Proofs.YtljaoggbfoimfaaW.PrintLast
def padB (n : Nat) (l : List Bool) : List Bool := (List.range n).map fun i => l.getD i false
def cellsB (n : Nat) (l : List Bool) : Array Value := ((padB n l).map Value.bool).toArray
def getB (l : List Bool) (i : Int) : Bool := l.getD i.toNat false
def setB (n : Nat) (l : List Bool) (i : Int) (b : Bool) : List Bool := (padB n l).set i.toNat b
theorem length_padB (n : Nat) (l : List Bool) : (padB n l).length = n := by simp [padB]
theorem length_setB (n : Nat) (l : List Bool) (i : Int) (b : Bool) : (setB n l i b).length = n := by simp [setB, length_padB]
theorem padB_self (l : List Bool) (n : Nat) (h : l.length = n) : padB n l = l := by
  apply List.ext_getElem
  · simp [padB, h]
  · intro i h1 h2
    simp only [padB, List.getElem_map, List.getElem_range]
    simp [List.getD_eq_getElem?_getD, List.getElem?_eq_getElem h2]
theorem padB_setB (n : Nat) (l : List Bool) (i : Int) (b : Bool) : padB n (setB n l i b) = setB n l i b := padB_self _ _ (length_setB ..)
theorem size_cellsB (n : Nat) (l : List Bool) : (cellsB n l).size = n := by simp [cellsB, length_padB]
theorem one_cellsB (n : Nat) (l : List Bool) : (cellsB n l).all (·.oneCell') = true := by
  simp [cellsB, Array.all_eq_true, Value.oneCell']
theorem cellsB_get (n : Nat) (l : List Bool) (i : Int) (h0 : 0 ≤ i) (h1 : i < (n : Int)) : (cellsB n l)[i.toNat]? = some (.bool (getB l i)) := by
  have hl : i.toNat < n := by omega
  simp [cellsB, getB, padB, hl]
theorem cellsB_put (n : Nat) (l : List Bool) (i : Int) (b : Bool) : (cellsB n l).setIfInBounds i.toNat (.bool b) = cellsB n (setB n l i b) := by
  simp only [cellsB, padB_setB]
  simp [setB, List.map_set]
theorem cell_arr {w : World} {g n : Nat} {t : TypeId} {l : List Bool} (h : w.heap[g]? = some (.cells (cellsB n l) t (0, 0))) (i : Int) (h0 : 0 ≤ i) (h1 : i < (n : Int)) : w.cell? ⟨g, i.toNat, none⟩ = some (.bool (getB l i)) := by
  rw [cell_of_row w g i.toNat _ t (0, 0) h]
  exact cellsB_get n l i h0 h1
theorem put_arr {w : World} {g n : Nat} {t : TypeId} {l : List Bool} (h : w.heap[g]? = some (.cells (cellsB n l) t (0, 0))) (i : Int) (b : Bool) : (w.setCell ⟨g, i.toNat, none⟩ (.bool b)).heap[g]? = some (.cells (cellsB n (setB n l i b)) t (0, 0)) :=
  blk_put h i.toNat (.bool b) (cellsB_put n l i b)
theorem below_row {B : Nat} {w0 w : World} {g : Nat} {t : TypeId} {old : Array Value} (h : Below B w0 w) (hg : w.heap[g]? = some (.cells old t (0, 0))) (hB : B ≤ g) (cs : Array Value) : Below B w0 (w.setRow g cs) := by
  refine h.trans ⟨rfl, rfl, rfl, by simp [World.setRow], fun i hi => ?_⟩
  simp only [World.setRow, Array.getElem?_modify]
  rw [if_neg (by omega)]
theorem row_here {w : World} {g : Nat} {t : TypeId} {old : Array Value} (h : w.heap[g]? = some (.cells old t (0, 0))) (cs : Array Value) : (w.setRow g cs).heap[g]? = some (.cells cs t (0, 0)) := setRow_heap w g _ _ t (0, 0) h
section
variable {P : Program} {ops : Array Oper} {rest : List Oper} {o : Oper} {a : Act} {w : World} {Q : Exit → Act → World → Prop}
theorem wp_index_arr (hgd : o.guard = none) (T e : TypeId) (x i : Operand) (ho : o.op = .index T x i) (n : Nat) (l : List Bool) (j : Int) (hx : a.eval x = .agg (cellsB n l)) (hi : a.eval i = .int .i64 j)
    (h0 : 0 ≤ j) (h1 : j < (n : Int)) (hu : P.underlying T = some (.array n e)) (he : P.underlying e = some .bool) (hs : (P.info? e).map (·.size) = some 1)
    (h : wpList P ops Q rest (a.put o.dst (.bool (getB l j))) w) : wpList P ops Q (o :: rest) a w := by
  obtain ⟨i0, hi0, hs1⟩ := Option.map_eq_some_iff.1 hs
  have hg := cellsB_get n l j h0 h1
  have hrun : (execOp a.eval o).run P w = .ok (.value (.bool (getB l j))) w := by
    have hagg : (isAgg e).run P w = .ok false w := by
      unfold isAgg
      rw [Sem.run_bind, run_underlying he w]
      rfl
    have h2 : (i0.size : Nat) = 1 := hs1
    simp [execOp, ho, Instr.index, hx, hi, asIntOf, run_underlying hu, h0, h1, Sem.run_bind, part, hagg, sizeOf, typeInfo, hi0, h2, hg]
  exact Kd.event_run hgd hrun h
end
end Go.Proofs.Ytljaoggbfoimfaa.Arr

namespace Go.Proofs.Ytljaoggbfoimfaa.P
open Go.RowKit Go.Proofs.YtljaoggbfoimfaaW.PrintWords Go.Proofs.YtljaoggbfoimfaaW.PrintLast Go.Proofs.YtljaoggbfoimfaaW.PrintMore
attribute [local go_sem] max2_int min2_int max_two min_two max_three min_three max_four min_four   -- for this text's walks alone
set_option linter.unusedVariables false
set_option linter.unusedSimpArgs false
def impl_SetOk.l0 : Nat → List (S115) → List (S115) → Int → Int → Option (Bool)
  | 0, _, _, _, _ => none
  | k + 1, x0, x5, x6, x7 => if x7 < x6 then (if 0 ≤ x7 then (if x7 < (x5.length : Int) then (if ((rd_T115 x5 x7).f0) < 0 then (some false) else (if ((rd_T115 x5 x7).f1) < ((rd_T115 x5 x7).f0) then (some false) else (if ((rd_T115 x5 x7).f1) > 255 then (some false) else (if x7 > 0 then (if 0 ≤ (wrap64 (x7 - 1)) then (if (wrap64 (x7 - 1)) < (x0.length : Int) then (if ((rd_T115 x5 x7).f0) ≤ (wrap64 (((rd_T115 x0 (wrap64 (x7 - 1))).f1) + 1)) then (some false) else (impl_SetOk.l0 k x0 x5 x6 (wrap64 (x7 + 1)))) else (none)) else (none)) else (impl_SetOk.l0 k x0 x5 x6 (wrap64 (x7 + 1))))))) else (none)) else (none)) else (some true)
def impl_SetOk.f (k : Nat) (l0 : List (S115)) : Option (Bool) := impl_SetOk.l0 k l0 l0 (l0.length : Int) 0
theorem impl_SetOk.mono_l : ∀ k, (∀ y0 y1 y2 y3, LeO (impl_SetOk.l0 k y0 y1 y2 y3) (impl_SetOk.l0 (k + 1) y0 y1 y2 y3))
  | 0 => fun _ _ _ _ r h => by simp [impl_SetOk.l0] at h
  | k + 1 => by
    have ih0 := impl_SetOk.mono_l k
    · intro y0 y1 y2 y3
      unfold impl_SetOk.l0
      repeat' first
      | (with_reducible exact ih0 _ _ _ _)
      | (with_reducible exact LeO.refl _)
      | (with_reducible exact LeO.none _)
      | (with_reducible refine LeO.ite ?_ ?_)
      | (with_reducible refine LeO.bind ?_ (fun _ => ?_))
      | exact ih0 _ _ _ _
      | exact LeO.none _
      | refine LeO.ite ?_ ?_
      | refine LeO.bind ?_ (fun _ => ?_)
theorem impl_SetOk.mono : ∀ a0 k, LeO (impl_SetOk.f k a0) (impl_SetOk.f (k + 1) a0) := by
  intro a0 k
  have ih0 := impl_SetOk.mono_l k
  unfold impl_SetOk.f
  repeat' first
      | (with_reducible exact ih0 _ _ _ _)
      | (with_reducible exact LeO.refl _)
      | (with_reducible exact LeO.none _)
      | (with_reducible refine LeO.ite ?_ ?_)
      | (with_reducible refine LeO.bind ?_ (fun _ => ?_))
      | exact ih0 _ _ _ _
      | exact LeO.none _
      | refine LeO.ite ?_ ?_
      | refine LeO.bind ?_ (fun _ => ?_)
set_option maxHeartbeats 8000000 in
set_option maxRecDepth 100000 in
theorem impl_SetOk.calls (k : Nat) (A0 : Option Addr) (c0 : Nat) (l0 : List (S115)) (r : Bool) (w : World) (hr0 : Kd.C k115 w A0 l0.length l0) (hc0 : l0.length ≤ c0) (h : impl_SetOk.f k l0 = some r) :
    Calls Try.prog 86 #[.slice A0 l0.length c0] w fun e w' => e = .returned (.bool r) ∧ Below w.heap.size w w' := by
  have hu115 := Try.underlying115
  have HR0 := Aside0.mk hr0
  have HC0 := Aside0.mk hc0
  clear hr0 hc0
  have HB := Aside0.mk (Below.refl w.heap.size w)
  have H : (impl_SetOk.l0 k l0 l0 (l0.length : Int) 0) = some r := h
  clear h
  have H' := Aside0.mk H
  clear H
  go_enter Try.func86, Try.ntmps86
  go_wp2
  repeat (go_quiet (fail); try go_wp2)
  go_loopg [7] k (fun kq v7 w' => ∃ (x7_1 : Int), v7 = .int .i64 x7_1 ∧ Aside0 (impl_SetOk.l0 kq l0 l0 (l0.length : Int) x7_1 = some r) ∧ Aside0 (kq ≤ k) ∧ Aside0 (Below w.heap.size w w'))
  case atStart => exact ⟨(0), (by first | rfl | (simp; done) | (simp [*]; done)), H', ⟨Nat.le_refl _⟩, ⟨by repeat (first | (with_reducible first | exact HB.out | apply below_alloc | apply pw_below_drewN | apply below_drew1) | exact HB.out)⟩⟩
  case round =>
    clear H'
    obtain ⟨x7_1, rfl, HA, HK1, HB⟩ := hrel
    cases gk with
    | zero => exact absurd HA.out (by simp [impl_SetOk.l0])
    | succ k1 =>
      have H := HA.out
      clear HA
      simp only [impl_SetOk.l0] at H
      by_cases c2 : x7_1 < (l0.length : Int)
      · rw [if_pos c2] at H
        have c2b0 : decide (x7_1 < (l0.length : Int)) = true := decide_eq_true c2
        clear c2
        by_cases c3 : 0 ≤ x7_1
        · rw [if_pos c3] at H
          have c3b0 : decide (0 ≤ x7_1) = true := decide_eq_true c3
          clear c3
          by_cases c4 : x7_1 < (l0.length : Int)
          · rw [if_pos c4] at H
            have c4b0 : decide (x7_1 < (l0.length : Int)) = true := decide_eq_true c4
            clear c4
            by_cases c5 : ((rd_T115 l0 x7_1).f0) < 0
            · rw [if_pos c5] at H
              have c5b0 : decide (((rd_T115 l0 x7_1).f0) < 0) = true := decide_eq_true c5
              clear c5
              obtain rfl := Option.some.inj H
              have p632 : 0 ≤ (x7_1 : Int) := of_decide_eq_true (by first | (with_reducible assumption) | assumption)
              have q632 : x7_1 < (l0.length : Int) := of_decide_eq_true (by first | (with_reducible assumption) | assumption)
              obtain ⟨ad632, e632, hx632_0, hx632_1⟩ := at_T115 HR0.out x7_1 p632 q632
              cases e632
              replace hx632_0 := (HB.out.cell (World.block_lt_of_cell? w _ hx632_0)).trans hx632_0
              replace hx632_1 := (HB.out.cell (World.block_lt_of_cell? w _ hx632_1)).trans hx632_1
              replace p632 := eq_true p632
              replace q632 := eq_true q632
              go_wp2_with (first | ((with_reducible refine gate_dst (N := 4) rfl ?_); refine box_event ?hg (N := 4) ?hd (cs := #[.int .i64 0, .int .i64 0]) (t := 115) ?hr ?_; (case hd => rfl); (case hg => rfl); (case hr => first | (go_simp; done) | (go_simp; rfl)); intro gb633 hg w6 hbox hb; have n0_ := Aside0.mk (below_step (by repeat (first | (with_reducible first | exact HB.out | apply below_alloc | apply pw_below_drewN | apply below_drew1) | exact HB.out)) hb); have n1_ := Aside0.mk (hbox); have n2_ := Aside0.mk ((by rw [hg]; exact (below_size (by repeat (first | (with_reducible first | exact HB.out | apply below_alloc | apply pw_below_drewN | apply below_drew1) | exact HB.out))) : w.heap.size ≤ gb633)); have n3_ := Aside0.mk ((by rw [hg]; exact (below_size (by repeat (first | (with_reducible first | exact HB.out | apply below_alloc | apply pw_below_drewN | apply below_drew1) | exact HB.out))) : w.heap.size ≤ gb633)); clear HB; have HB := n0_; have BK633 := n1_; have GW633 := n2_; have GE633 := n3_; clear n0_ n1_ n2_ n3_; clear hb hbox hg; have hcz7_0 : w6.cell? ⟨gb633, 0, none⟩ = some (.int .i64 0) := (blk_cell BK633.out 0).trans rfl; have hcz7_1 : w6.cell? ⟨gb633, 1, none⟩ = some (.int .i64 0) := (blk_cell BK633.out 1).trans rfl; have hfz7_0 := blk_frozen BK633.out 0; have hfz7_1 := blk_frozen BK633.out 1))
              repeat (go_quiet (first | ((with_reducible refine gate_dst (N := 4) rfl ?_); refine box_event ?hg (N := 4) ?hd (cs := #[.int .i64 0, .int .i64 0]) (t := 115) ?hr ?_; (case hd => rfl); (case hg => rfl); (case hr => first | (go_simp; done) | (go_simp; rfl)); intro gb633 hg w6 hbox hb; have n0_ := Aside0.mk (below_step (by repeat (first | (with_reducible first | exact HB.out | apply below_alloc | apply pw_below_drewN | apply below_drew1) | exact HB.out)) hb); have n1_ := Aside0.mk (hbox); have n2_ := Aside0.mk ((by rw [hg]; exact (below_size (by repeat (first | (with_reducible first | exact HB.out | apply below_alloc | apply pw_below_drewN | apply below_drew1) | exact HB.out))) : w.heap.size ≤ gb633)); have n3_ := Aside0.mk ((by rw [hg]; exact (below_size (by repeat (first | (with_reducible first | exact HB.out | apply below_alloc | apply pw_below_drewN | apply below_drew1) | exact HB.out))) : w.heap.size ≤ gb633)); clear HB; have HB := n0_; have BK633 := n1_; have GW633 := n2_; have GE633 := n3_; clear n0_ n1_ n2_ n3_; clear hb hbox hg; have hcz7_0 : w6.cell? ⟨gb633, 0, none⟩ = some (.int .i64 0) := (blk_cell BK633.out 0).trans rfl; have hcz7_1 : w6.cell? ⟨gb633, 1, none⟩ = some (.int .i64 0) := (blk_cell BK633.out 1).trans rfl; have hfz7_0 := blk_frozen BK633.out 0; have hfz7_1 := blk_frozen BK633.out 1)); try go_wp2_with (first | ((with_reducible refine gate_dst (N := 4) rfl ?_); refine box_event ?hg (N := 4) ?hd (cs := #[.int .i64 0, .int .i64 0]) (t := 115) ?hr ?_; (case hd => rfl); (case hg => rfl); (case hr => first | (go_simp; done) | (go_simp; rfl)); intro gb633 hg w6 hbox hb; have n0_ := Aside0.mk (below_step (by repeat (first | (with_reducible first | exact HB.out | apply below_alloc | apply pw_below_drewN | apply below_drew1) | exact HB.out)) hb); have n1_ := Aside0.mk (hbox); have n2_ := Aside0.mk ((by rw [hg]; exact (below_size (by repeat (first | (with_reducible first | exact HB.out | apply below_alloc | apply pw_below_drewN | apply below_drew1) | exact HB.out))) : w.heap.size ≤ gb633)); have n3_ := Aside0.mk ((by rw [hg]; exact (below_size (by repeat (first | (with_reducible first | exact HB.out | apply below_alloc | apply pw_below_drewN | apply below_drew1) | exact HB.out))) : w.heap.size ≤ gb633)); clear HB; have HB := n0_; have BK633 := n1_; have GW633 := n2_; have GE633 := n3_; clear n0_ n1_ n2_ n3_; clear hb hbox hg; have hcz7_0 : w6.cell? ⟨gb633, 0, none⟩ = some (.int .i64 0) := (blk_cell BK633.out 0).trans rfl; have hcz7_1 : w6.cell? ⟨gb633, 1, none⟩ = some (.int .i64 0) := (blk_cell BK633.out 1).trans rfl; have hfz7_0 := blk_frozen BK633.out 0; have hfz7_1 := blk_frozen BK633.out 1)))
              go_ret
              exact ⟨by first | rfl | (simp [errW_none, errW_some] <;> rfl) | (simp [*, errW_none, errW_some] <;> rfl), by repeat (first | (with_reducible first | exact HB.out | apply below_alloc | apply pw_below_drewN | apply below_drew1 | refine below_set ?_ GE633.out) | exact HB.out)⟩
            · rw [if_neg c5] at H
              have c5b0 : decide (((rd_T115 l0 x7_1).f0) < 0) = false := decide_eq_false c5
              clear c5
              by_cases c8 : ((rd_T115 l0 x7_1).f1) < ((rd_T115 l0 x7_1).f0)
              · rw [if_pos c8] at H
                have c8b0 : decide (((rd_T115 l0 x7_1).f1) < ((rd_T115 l0 x7_1).f0)) = true := decide_eq_true c8
                clear c8
                obtain rfl := Option.some.inj H
                have p632 : 0 ≤ (x7_1 : Int) := of_decide_eq_true (by first | (with_reducible assumption) | assumption)
                have q632 : x7_1 < (l0.length : Int) := of_decide_eq_true (by first | (with_reducible assumption) | assumption)
                obtain ⟨ad632, e632, hx632_0, hx632_1⟩ := at_T115 HR0.out x7_1 p632 q632
                cases e632
                replace hx632_0 := (HB.out.cell (World.block_lt_of_cell? w _ hx632_0)).trans hx632_0
                replace hx632_1 := (HB.out.cell (World.block_lt_of_cell? w _ hx632_1)).trans hx632_1
                replace p632 := eq_true p632
                replace q632 := eq_true q632
                go_wp2_with (first | ((with_reducible refine gate_dst (N := 4) rfl ?_); refine box_event ?hg (N := 4) ?hd (cs := #[.int .i64 0, .int .i64 0]) (t := 115) ?hr ?_; (case hd => rfl); (case hg => rfl); (case hr => first | (go_simp; done) | (go_simp; rfl)); intro gb633 hg w9 hbox hb; have n0_ := Aside0.mk (below_step (by repeat (first | (with_reducible first | exact HB.out | apply below_alloc | apply pw_below_drewN | apply below_drew1) | exact HB.out)) hb); have n1_ := Aside0.mk (hbox); have n2_ := Aside0.mk ((by rw [hg]; exact (below_size (by repeat (first | (with_reducible first | exact HB.out | apply below_alloc | apply pw_below_drewN | apply below_drew1) | exact HB.out))) : w.heap.size ≤ gb633)); have n3_ := Aside0.mk ((by rw [hg]; exact (below_size (by repeat (first | (with_reducible first | exact HB.out | apply below_alloc | apply pw_below_drewN | apply below_drew1) | exact HB.out))) : w.heap.size ≤ gb633)); clear HB; have HB := n0_; have BK633 := n1_; have GW633 := n2_; have GE633 := n3_; clear n0_ n1_ n2_ n3_; clear hb hbox hg; have hcz10_0 : w9.cell? ⟨gb633, 0, none⟩ = some (.int .i64 0) := (blk_cell BK633.out 0).trans rfl; have hcz10_1 : w9.cell? ⟨gb633, 1, none⟩ = some (.int .i64 0) := (blk_cell BK633.out 1).trans rfl; have hfz10_0 := blk_frozen BK633.out 0; have hfz10_1 := blk_frozen BK633.out 1))
                repeat (go_quiet (first | ((with_reducible refine gate_dst (N := 4) rfl ?_); refine box_event ?hg (N := 4) ?hd (cs := #[.int .i64 0, .int .i64 0]) (t := 115) ?hr ?_; (case hd => rfl); (case hg => rfl); (case hr => first | (go_simp; done) | (go_simp; rfl)); intro gb633 hg w9 hbox hb; have n0_ := Aside0.mk (below_step (by repeat (first | (with_reducible first | exact HB.out | apply below_alloc | apply pw_below_drewN | apply below_drew1) | exact HB.out)) hb); have n1_ := Aside0.mk (hbox); have n2_ := Aside0.mk ((by rw [hg]; exact (below_size (by repeat (first | (with_reducible first | exact HB.out | apply below_alloc | apply pw_below_drewN | apply below_drew1) | exact HB.out))) : w.heap.size ≤ gb633)); have n3_ := Aside0.mk ((by rw [hg]; exact (below_size (by repeat (first | (with_reducible first | exact HB.out | apply below_alloc | apply pw_below_drewN | apply below_drew1) | exact HB.out))) : w.heap.size ≤ gb633)); clear HB; have HB := n0_; have BK633 := n1_; have GW633 := n2_; have GE633 := n3_; clear n0_ n1_ n2_ n3_; clear hb hbox hg; have hcz10_0 : w9.cell? ⟨gb633, 0, none⟩ = some (.int .i64 0) := (blk_cell BK633.out 0).trans rfl; have hcz10_1 : w9.cell? ⟨gb633, 1, none⟩ = some (.int .i64 0) := (blk_cell BK633.out 1).trans rfl; have hfz10_0 := blk_frozen BK633.out 0; have hfz10_1 := blk_frozen BK633.out 1)); try go_wp2_with (first | ((with_reducible refine gate_dst (N := 4) rfl ?_); refine box_event ?hg (N := 4) ?hd (cs := #[.int .i64 0, .int .i64 0]) (t := 115) ?hr ?_; (case hd => rfl); (case hg => rfl); (case hr => first | (go_simp; done) | (go_simp; rfl)); intro gb633 hg w9 hbox hb; have n0_ := Aside0.mk (below_step (by repeat (first | (with_reducible first | exact HB.out | apply below_alloc | apply pw_below_drewN | apply below_drew1) | exact HB.out)) hb); have n1_ := Aside0.mk (hbox); have n2_ := Aside0.mk ((by rw [hg]; exact (below_size (by repeat (first | (with_reducible first | exact HB.out | apply below_alloc | apply pw_below_drewN | apply below_drew1) | exact HB.out))) : w.heap.size ≤ gb633)); have n3_ := Aside0.mk ((by rw [hg]; exact (below_size (by repeat (first | (with_reducible first | exact HB.out | apply below_alloc | apply pw_below_drewN | apply below_drew1) | exact HB.out))) : w.heap.size ≤ gb633)); clear HB; have HB := n0_; have BK633 := n1_; have GW633 := n2_; have GE633 := n3_; clear n0_ n1_ n2_ n3_; clear hb hbox hg; have hcz10_0 : w9.cell? ⟨gb633, 0, none⟩ = some (.int .i64 0) := (blk_cell BK633.out 0).trans rfl; have hcz10_1 : w9.cell? ⟨gb633, 1, none⟩ = some (.int .i64 0) := (blk_cell BK633.out 1).trans rfl; have hfz10_0 := blk_frozen BK633.out 0; have hfz10_1 := blk_frozen BK633.out 1)))
                go_ret
                exact ⟨by first | rfl | (simp [errW_none, errW_some] <;> rfl) | (simp [*, errW_none, errW_some] <;> rfl), by repeat (first | (with_reducible first | exact HB.out | apply below_alloc | apply pw_below_drewN | apply below_drew1 | refine below_set ?_ GE633.out) | exact HB.out)⟩
              · rw [if_neg c8] at H
                have c8b0 : decide (((rd_T115 l0 x7_1).f1) < ((rd_T115 l0 x7_1).f0)) = false := decide_eq_false c8
                clear c8
                by_cases c11 : ((rd_T115 l0 x7_1).f1) > 255
                · rw [if_pos c11] at H
                  have c11b0 : decide (255 < ((rd_T115 l0 x7_1).f1)) = true := decide_eq_true c11
                  clear c11
                  obtain rfl := Option.some.inj H
                  have p632 : 0 ≤ (x7_1 : Int) := of_decide_eq_true (by first | (with_reducible assumption) | assumption)
                  have q632 : x7_1 < (l0.length : Int) := of_decide_eq_true (by first | (with_reducible assumption) | assumption)
                  obtain ⟨ad632, e632, hx632_0, hx632_1⟩ := at_T115 HR0.out x7_1 p632 q632
                  cases e632
                  replace hx632_0 := (HB.out.cell (World.block_lt_of_cell? w _ hx632_0)).trans hx632_0
                  replace hx632_1 := (HB.out.cell (World.block_lt_of_cell? w _ hx632_1)).trans hx632_1
                  replace p632 := eq_true p632
                  replace q632 := eq_true q632
                  go_wp2_with (first | ((with_reducible refine gate_dst (N := 4) rfl ?_); refine box_event ?hg (N := 4) ?hd (cs := #[.int .i64 0, .int .i64 0]) (t := 115) ?hr ?_; (case hd => rfl); (case hg => rfl); (case hr => first | (go_simp; done) | (go_simp; rfl)); intro gb633 hg w12 hbox hb; have n0_ := Aside0.mk (below_step (by repeat (first | (with_reducible first | exact HB.out | apply below_alloc | apply pw_below_drewN | apply below_drew1) | exact HB.out)) hb); have n1_ := Aside0.mk (hbox); have n2_ := Aside0.mk ((by rw [hg]; exact (below_size (by repeat (first | (with_reducible first | exact HB.out | apply below_alloc | apply pw_below_drewN | apply below_drew1) | exact HB.out))) : w.heap.size ≤ gb633)); have n3_ := Aside0.mk ((by rw [hg]; exact (below_size (by repeat (first | (with_reducible first | exact HB.out | apply below_alloc | apply pw_below_drewN | apply below_drew1) | exact HB.out))) : w.heap.size ≤ gb633)); clear HB; have HB := n0_; have BK633 := n1_; have GW633 := n2_; have GE633 := n3_; clear n0_ n1_ n2_ n3_; clear hb hbox hg; have hcz13_0 : w12.cell? ⟨gb633, 0, none⟩ = some (.int .i64 0) := (blk_cell BK633.out 0).trans rfl; have hcz13_1 : w12.cell? ⟨gb633, 1, none⟩ = some (.int .i64 0) := (blk_cell BK633.out 1).trans rfl; have hfz13_0 := blk_frozen BK633.out 0; have hfz13_1 := blk_frozen BK633.out 1))
                  repeat (go_quiet (first | ((with_reducible refine gate_dst (N := 4) rfl ?_); refine box_event ?hg (N := 4) ?hd (cs := #[.int .i64 0, .int .i64 0]) (t := 115) ?hr ?_; (case hd => rfl); (case hg => rfl); (case hr => first | (go_simp; done) | (go_simp; rfl)); intro gb633 hg w12 hbox hb; have n0_ := Aside0.mk (below_step (by repeat (first | (with_reducible first | exact HB.out | apply below_alloc | apply pw_below_drewN | apply below_drew1) | exact HB.out)) hb); have n1_ := Aside0.mk (hbox); have n2_ := Aside0.mk ((by rw [hg]; exact (below_size (by repeat (first | (with_reducible first | exact HB.out | apply below_alloc | apply pw_below_drewN | apply below_drew1) | exact HB.out))) : w.heap.size ≤ gb633)); have n3_ := Aside0.mk ((by rw [hg]; exact (below_size (by repeat (first | (with_reducible first | exact HB.out | apply below_alloc | apply pw_below_drewN | apply below_drew1) | exact HB.out))) : w.heap.size ≤ gb633)); clear HB; have HB := n0_; have BK633 := n1_; have GW633 := n2_; have GE633 := n3_; clear n0_ n1_ n2_ n3_; clear hb hbox hg; have hcz13_0 : w12.cell? ⟨gb633, 0, none⟩ = some (.int .i64 0) := (blk_cell BK633.out 0).trans rfl; have hcz13_1 : w12.cell? ⟨gb633, 1, none⟩ = some (.int .i64 0) := (blk_cell BK633.out 1).trans rfl; have hfz13_0 := blk_frozen BK633.out 0; have hfz13_1 := blk_frozen BK633.out 1)); try go_wp2_with (first | ((with_reducible refine gate_dst (N := 4) rfl ?_); refine box_event ?hg (N := 4) ?hd (cs := #[.int .i64 0, .int .i64 0]) (t := 115) ?hr ?_; (case hd => rfl); (case hg => rfl); (case hr => first | (go_simp; done) | (go_simp; rfl)); intro gb633 hg w12 hbox hb; have n0_ := Aside0.mk (below_step (by repeat (first | (with_reducible first | exact HB.out | apply below_alloc | apply pw_below_drewN | apply below_drew1) | exact HB.out)) hb); have n1_ := Aside0.mk (hbox); have n2_ := Aside0.mk ((by rw [hg]; exact (below_size (by repeat (first | (with_reducible first | exact HB.out | apply below_alloc | apply pw_below_drewN | apply below_drew1) | exact HB.out))) : w.heap.size ≤ gb633)); have n3_ := Aside0.mk ((by rw [hg]; exact (below_size (by repeat (first | (with_reducible first | exact HB.out | apply below_alloc | apply pw_below_drewN | apply below_drew1) | exact HB.out))) : w.heap.size ≤ gb633)); clear HB; have HB := n0_; have BK633 := n1_; have GW633 := n2_; have GE633 := n3_; clear n0_ n1_ n2_ n3_; clear hb hbox hg; have hcz13_0 : w12.cell? ⟨gb633, 0, none⟩ = some (.int .i64 0) := (blk_cell BK633.out 0).trans rfl; have hcz13_1 : w12.cell? ⟨gb633, 1, none⟩ = some (.int .i64 0) := (blk_cell BK633.out 1).trans rfl; have hfz13_0 := blk_frozen BK633.out 0; have hfz13_1 := blk_frozen BK633.out 1)))
                  go_ret
                  exact ⟨by first | rfl | (simp [errW_none, errW_some] <;> rfl) | (simp [*, errW_none, errW_some] <;> rfl), by repeat (first | (with_reducible first | exact HB.out | apply below_alloc | apply pw_below_drewN | apply below_drew1 | refine below_set ?_ GE633.out) | exact HB.out)⟩
                · rw [if_neg c11] at H
                  have c11b0 : decide (255 < ((rd_T115 l0 x7_1).f1)) = false := decide_eq_false c11
                  clear c11
                  by_cases c14 : x7_1 > 0
                  · rw [if_pos c14] at H
                    have c14b0 : decide (0 < x7_1) = true := decide_eq_true c14
                    clear c14
                    obtain ⟨ji15, hji15⟩ : ∃ j_ : Int, (wrap64 (x7_1 - 1)) = j_ := ⟨_, rfl⟩
                    replace H : (if 0 ≤ (ji15) then (if (ji15) < (l0.length : Int) then (if ((rd_T115 l0 x7_1).f0) ≤ (wrap64 (((rd_T115 l0 (ji15)).f1) + 1)) then (some false) else (impl_SetOk.l0 k1 l0 l0 (l0.length : Int) (wrap64 (x7_1 + 1)))) else (none)) else (none)) = some r := by first | (rw [hji15] at H; exact H) | (simp only [hji15] at H ⊢; exact H)
                    have hji15w : (IntKind.i64.wrap (x7_1 - 1)) = ji15 := (i64_w _).trans hji15
                    by_cases c16 : 0 ≤ (ji15)
                    · rw [if_pos c16] at H
                      have c16b0 : decide (0 ≤ (ji15)) = true := decide_eq_true c16
                      clear c16
                      by_cases c17 : (ji15) < (l0.length : Int)
                      · rw [if_pos c17] at H
                        have c17b0 : decide ((ji15) < (l0.length : Int)) = true := decide_eq_true c17
                        clear c17
                        by_cases c18 : ((rd_T115 l0 x7_1).f0) ≤ (wrap64 (((rd_T115 l0 (ji15)).f1) + 1))
                        · rw [if_pos c18] at H
                          have c18b0 : decide (((rd_T115 l0 x7_1).f0) ≤ (wrap64 (((rd_T115 l0 (ji15)).f1) + 1))) = true := decide_eq_true c18
                          clear c18
                          obtain rfl := Option.some.inj H
                          have p632 : 0 ≤ (x7_1 : Int) := of_decide_eq_true (by first | (with_reducible assumption) | assumption)
                          have q632 : x7_1 < (l0.length : Int) := of_decide_eq_true (by first | (with_reducible assumption) | assumption)
                          obtain ⟨ad632, e632, hx632_0, hx632_1⟩ := at_T115 HR0.out x7_1 p632 q632
                          cases e632
                          replace hx632_0 := (HB.out.cell (World.block_lt_of_cell? w _ hx632_0)).trans hx632_0
                          replace hx632_1 := (HB.out.cell (World.block_lt_of_cell? w _ hx632_1)).trans hx632_1
                          replace p632 := eq_true p632
                          replace q632 := eq_true q632
                          go_wp2_with (first | ((with_reducible refine gate_dst (N := 4) rfl ?_); refine box_event ?hg (N := 4) ?hd (cs := #[.int .i64 0, .int .i64 0]) (t := 115) ?hr ?_; (case hd => rfl); (case hg => rfl); (case hr => first | (go_simp; done) | (go_simp; rfl)); intro gb633 hg w19 hbox hb; have n0_ := Aside0.mk (below_step (by repeat (first | (with_reducible first | exact HB.out | apply below_alloc | apply pw_below_drewN | apply below_drew1) | exact HB.out)) hb); have n1_ := Aside0.mk (hbox); have n2_ := Aside0.mk ((by rw [hg]; exact (below_size (by repeat (first | (with_reducible first | exact HB.out | apply below_alloc | apply pw_below_drewN | apply below_drew1) | exact HB.out))) : w.heap.size ≤ gb633)); have n3_ := Aside0.mk ((by rw [hg]; exact (below_size (by repeat (first | (with_reducible first | exact HB.out | apply below_alloc | apply pw_below_drewN | apply below_drew1) | exact HB.out))) : w.heap.size ≤ gb633)); clear HB; have HB := n0_; have BK633 := n1_; have GW633 := n2_; have GE633 := n3_; clear n0_ n1_ n2_ n3_; clear hb hbox hg; have hcz20_0 : w19.cell? ⟨gb633, 0, none⟩ = some (.int .i64 0) := (blk_cell BK633.out 0).trans rfl; have hcz20_1 : w19.cell? ⟨gb633, 1, none⟩ = some (.int .i64 0) := (blk_cell BK633.out 1).trans rfl; have hfz20_0 := blk_frozen BK633.out 0; have hfz20_1 := blk_frozen BK633.out 1; have p634 : 0 ≤ ((ji15) : Int) := of_decide_eq_true (by first | (with_reducible assumption) | assumption); have q634 : (ji15) < (l0.length : Int) := of_decide_eq_true (by first | (with_reducible assumption) | assumption); obtain ⟨ad634, e634, hx634_0, hx634_1⟩ := at_T115 HR0.out (ji15) p634 q634; obtain rfl : ad632 = ad634 := (by injection e634); have hn634_0 : ad632.block ≠ gb633 := Nat.ne_of_lt (Nat.lt_of_lt_of_le (by have := World.block_lt_of_cell? _ _ hx634_0; first | rwa [add_block] at this | exact this) GW633.out); have hn634_1 : ad632.block ≠ gb633 := Nat.ne_of_lt (Nat.lt_of_lt_of_le (by have := World.block_lt_of_cell? _ _ hx634_0; first | rwa [add_block] at this | exact this) GW633.out); replace hx634_0 := (HB.out.cell (World.block_lt_of_cell? w _ hx634_0)).trans hx634_0; replace hx634_1 := (HB.out.cell (World.block_lt_of_cell? w _ hx634_1)).trans hx634_1; replace hx634_0 := (cell_far (p := ⟨gb633, 0, none⟩) (by first | (rw [add_block]; exact hn634_0) | (show (Addr.add _ _).block ≠ _; rw [add_block]; exact hn634_0) | exact hn634_0) (.int .i64 ((rd_T115 l0 x7_1).f0))).trans hx634_0; replace hx634_1 := (cell_far (p := ⟨gb633, 0, none⟩) (by first | (rw [add_block]; exact hn634_0) | (show (Addr.add _ _).block ≠ _; rw [add_block]; exact hn634_0) | exact hn634_0) (.int .i64 ((rd_T115 l0 x7_1).f0))).trans hx634_1; replace hx634_0 := (cell_far (p := ⟨gb633, 1, none⟩) (by first | (rw [add_block]; exact hn634_1) | (show (Addr.add _ _).block ≠ _; rw [add_block]; exact hn634_1) | exact hn634_1) (.int .i64 ((rd_T115 l0 x7_1).f1))).trans hx634_0; replace hx634_1 := (cell_far (p := ⟨gb633, 1, none⟩) (by first | (rw [add_block]; exact hn634_1) | (show (Addr.add _ _).block ≠ _; rw [add_block]; exact hn634_1) | exact hn634_1) (.int .i64 ((rd_T115 l0 x7_1).f1))).trans hx634_1; (try have hy634_0 := fun (n_ : Nat) => (show ((((w19.drewN n_).setCell ⟨gb633, 0, none⟩ (.int .i64 ((rd_T115 l0 x7_1).f0))).setCell ⟨gb633, 1, none⟩ (.int .i64 ((rd_T115 l0 x7_1).f1)))).cell? _ = some _ from hx634_0)); (try have hy634_1 := fun (n_ : Nat) => (show ((((w19.drewN n_).setCell ⟨gb633, 0, none⟩ (.int .i64 ((rd_T115 l0 x7_1).f0))).setCell ⟨gb633, 1, none⟩ (.int .i64 ((rd_T115 l0 x7_1).f1)))).cell? _ = some _ from hx634_1)); clear hn634_0; clear hn634_1; replace p634 := eq_true p634; replace q634 := eq_true q634))
                          repeat (go_quiet (first | ((with_reducible refine gate_dst (N := 4) rfl ?_); refine box_event ?hg (N := 4) ?hd (cs := #[.int .i64 0, .int .i64 0]) (t := 115) ?hr ?_; (case hd => rfl); (case hg => rfl); (case hr => first | (go_simp; done) | (go_simp; rfl)); intro gb633 hg w19 hbox hb; have n0_ := Aside0.mk (below_step (by repeat (first | (with_reducible first | exact HB.out | apply below_alloc | apply pw_below_drewN | apply below_drew1) | exact HB.out)) hb); have n1_ := Aside0.mk (hbox); have n2_ := Aside0.mk ((by rw [hg]; exact (below_size (by repeat (first | (with_reducible first | exact HB.out | apply below_alloc | apply pw_below_drewN | apply below_drew1) | exact HB.out))) : w.heap.size ≤ gb633)); have n3_ := Aside0.mk ((by rw [hg]; exact (below_size (by repeat (first | (with_reducible first | exact HB.out | apply below_alloc | apply pw_below_drewN | apply below_drew1) | exact HB.out))) : w.heap.size ≤ gb633)); clear HB; have HB := n0_; have BK633 := n1_; have GW633 := n2_; have GE633 := n3_; clear n0_ n1_ n2_ n3_; clear hb hbox hg; have hcz20_0 : w19.cell? ⟨gb633, 0, none⟩ = some (.int .i64 0) := (blk_cell BK633.out 0).trans rfl; have hcz20_1 : w19.cell? ⟨gb633, 1, none⟩ = some (.int .i64 0) := (blk_cell BK633.out 1).trans rfl; have hfz20_0 := blk_frozen BK633.out 0; have hfz20_1 := blk_frozen BK633.out 1; have p634 : 0 ≤ ((ji15) : Int) := of_decide_eq_true (by first | (with_reducible assumption) | assumption); have q634 : (ji15) < (l0.length : Int) := of_decide_eq_true (by first | (with_reducible assumption) | assumption); obtain ⟨ad634, e634, hx634_0, hx634_1⟩ := at_T115 HR0.out (ji15) p634 q634; obtain rfl : ad632 = ad634 := (by injection e634); have hn634_0 : ad632.block ≠ gb633 := Nat.ne_of_lt (Nat.lt_of_lt_of_le (by have := World.block_lt_of_cell? _ _ hx634_0; first | rwa [add_block] at this | exact this) GW633.out); have hn634_1 : ad632.block ≠ gb633 := Nat.ne_of_lt (Nat.lt_of_lt_of_le (by have := World.block_lt_of_cell? _ _ hx634_0; first | rwa [add_block] at this | exact this) GW633.out); replace hx634_0 := (HB.out.cell (World.block_lt_of_cell? w _ hx634_0)).trans hx634_0; replace hx634_1 := (HB.out.cell (World.block_lt_of_cell? w _ hx634_1)).trans hx634_1; replace hx634_0 := (cell_far (p := ⟨gb633, 0, none⟩) (by first | (rw [add_block]; exact hn634_0) | (show (Addr.add _ _).block ≠ _; rw [add_block]; exact hn634_0) | exact hn634_0) (.int .i64 ((rd_T115 l0 x7_1).f0))).trans hx634_0; replace hx634_1 := (cell_far (p := ⟨gb633, 0, none⟩) (by first | (rw [add_block]; exact hn634_0) | (show (Addr.add _ _).block ≠ _; rw [add_block]; exact hn634_0) | exact hn634_0) (.int .i64 ((rd_T115 l0 x7_1).f0))).trans hx634_1; replace hx634_0 := (cell_far (p := ⟨gb633, 1, none⟩) (by first | (rw [add_block]; exact hn634_1) | (show (Addr.add _ _).block ≠ _; rw [add_block]; exact hn634_1) | exact hn634_1) (.int .i64 ((rd_T115 l0 x7_1).f1))).trans hx634_0; replace hx634_1 := (cell_far (p := ⟨gb633, 1, none⟩) (by first | (rw [add_block]; exact hn634_1) | (show (Addr.add _ _).block ≠ _; rw [add_block]; exact hn634_1) | exact hn634_1) (.int .i64 ((rd_T115 l0 x7_1).f1))).trans hx634_1; (try have hy634_0 := fun (n_ : Nat) => (show ((((w19.drewN n_).setCell ⟨gb633, 0, none⟩ (.int .i64 ((rd_T115 l0 x7_1).f0))).setCell ⟨gb633, 1, none⟩ (.int .i64 ((rd_T115 l0 x7_1).f1)))).cell? _ = some _ from hx634_0)); (try have hy634_1 := fun (n_ : Nat) => (show ((((w19.drewN n_).setCell ⟨gb633, 0, none⟩ (.int .i64 ((rd_T115 l0 x7_1).f0))).setCell ⟨gb633, 1, none⟩ (.int .i64 ((rd_T115 l0 x7_1).f1)))).cell? _ = some _ from hx634_1)); clear hn634_0; clear hn634_1; replace p634 := eq_true p634; replace q634 := eq_true q634)); try go_wp2_with (first | ((with_reducible refine gate_dst (N := 4) rfl ?_); refine box_event ?hg (N := 4) ?hd (cs := #[.int .i64 0, .int .i64 0]) (t := 115) ?hr ?_; (case hd => rfl); (case hg => rfl); (case hr => first | (go_simp; done) | (go_simp; rfl)); intro gb633 hg w19 hbox hb; have n0_ := Aside0.mk (below_step (by repeat (first | (with_reducible first | exact HB.out | apply below_alloc | apply pw_below_drewN | apply below_drew1) | exact HB.out)) hb); have n1_ := Aside0.mk (hbox); have n2_ := Aside0.mk ((by rw [hg]; exact (below_size (by repeat (first | (with_reducible first | exact HB.out | apply below_alloc | apply pw_below_drewN | apply below_drew1) | exact HB.out))) : w.heap.size ≤ gb633)); have n3_ := Aside0.mk ((by rw [hg]; exact (below_size (by repeat (first | (with_reducible first | exact HB.out | apply below_alloc | apply pw_below_drewN | apply below_drew1) | exact HB.out))) : w.heap.size ≤ gb633)); clear HB; have HB := n0_; have BK633 := n1_; have GW633 := n2_; have GE633 := n3_; clear n0_ n1_ n2_ n3_; clear hb hbox hg; have hcz20_0 : w19.cell? ⟨gb633, 0, none⟩ = some (.int .i64 0) := (blk_cell BK633.out 0).trans rfl; have hcz20_1 : w19.cell? ⟨gb633, 1, none⟩ = some (.int .i64 0) := (blk_cell BK633.out 1).trans rfl; have hfz20_0 := blk_frozen BK633.out 0; have hfz20_1 := blk_frozen BK633.out 1; have p634 : 0 ≤ ((ji15) : Int) := of_decide_eq_true (by first | (with_reducible assumption) | assumption); have q634 : (ji15) < (l0.length : Int) := of_decide_eq_true (by first | (with_reducible assumption) | assumption); obtain ⟨ad634, e634, hx634_0, hx634_1⟩ := at_T115 HR0.out (ji15) p634 q634; obtain rfl : ad632 = ad634 := (by injection e634); have hn634_0 : ad632.block ≠ gb633 := Nat.ne_of_lt (Nat.lt_of_lt_of_le (by have := World.block_lt_of_cell? _ _ hx634_0; first | rwa [add_block] at this | exact this) GW633.out); have hn634_1 : ad632.block ≠ gb633 := Nat.ne_of_lt (Nat.lt_of_lt_of_le (by have := World.block_lt_of_cell? _ _ hx634_0; first | rwa [add_block] at this | exact this) GW633.out); replace hx634_0 := (HB.out.cell (World.block_lt_of_cell? w _ hx634_0)).trans hx634_0; replace hx634_1 := (HB.out.cell (World.block_lt_of_cell? w _ hx634_1)).trans hx634_1; replace hx634_0 := (cell_far (p := ⟨gb633, 0, none⟩) (by first | (rw [add_block]; exact hn634_0) | (show (Addr.add _ _).block ≠ _; rw [add_block]; exact hn634_0) | exact hn634_0) (.int .i64 ((rd_T115 l0 x7_1).f0))).trans hx634_0; replace hx634_1 := (cell_far (p := ⟨gb633, 0, none⟩) (by first | (rw [add_block]; exact hn634_0) | (show (Addr.add _ _).block ≠ _; rw [add_block]; exact hn634_0) | exact hn634_0) (.int .i64 ((rd_T115 l0 x7_1).f0))).trans hx634_1; replace hx634_0 := (cell_far (p := ⟨gb633, 1, none⟩) (by first | (rw [add_block]; exact hn634_1) | (show (Addr.add _ _).block ≠ _; rw [add_block]; exact hn634_1) | exact hn634_1) (.int .i64 ((rd_T115 l0 x7_1).f1))).trans hx634_0; replace hx634_1 := (cell_far (p := ⟨gb633, 1, none⟩) (by first | (rw [add_block]; exact hn634_1) | (show (Addr.add _ _).block ≠ _; rw [add_block]; exact hn634_1) | exact hn634_1) (.int .i64 ((rd_T115 l0 x7_1).f1))).trans hx634_1; (try have hy634_0 := fun (n_ : Nat) => (show ((((w19.drewN n_).setCell ⟨gb633, 0, none⟩ (.int .i64 ((rd_T115 l0 x7_1).f0))).setCell ⟨gb633, 1, none⟩ (.int .i64 ((rd_T115 l0 x7_1).f1)))).cell? _ = some _ from hx634_0)); (try have hy634_1 := fun (n_ : Nat) => (show ((((w19.drewN n_).setCell ⟨gb633, 0, none⟩ (.int .i64 ((rd_T115 l0 x7_1).f0))).setCell ⟨gb633, 1, none⟩ (.int .i64 ((rd_T115 l0 x7_1).f1)))).cell? _ = some _ from hx634_1)); clear hn634_0; clear hn634_1; replace p634 := eq_true p634; replace q634 := eq_true q634)))
                          go_ret
                          exact ⟨by first | rfl | (simp [errW_none, errW_some] <;> rfl) | (simp only [← hji15]; first | rfl | (simp [errW_none, errW_some] <;> rfl)) | (simp [*, errW_none, errW_some] <;> rfl), by repeat (first | (with_reducible first | exact HB.out | apply below_alloc | apply pw_below_drewN | apply below_drew1 | refine below_set ?_ GE633.out) | exact HB.out)⟩
                        · rw [if_neg c18] at H
                          have c18b0 : decide (((rd_T115 l0 x7_1).f0) ≤ (wrap64 (((rd_T115 l0 (ji15)).f1) + 1))) = false := decide_eq_false c18
                          clear c18
                          have H' := Aside0.mk H
                          clear H
                          have p632 : 0 ≤ (x7_1 : Int) := of_decide_eq_true (by first | (with_reducible assumption) | assumption)
                          have q632 : x7_1 < (l0.length : Int) := of_decide_eq_true (by first | (with_reducible assumption) | assumption)
                          obtain ⟨ad632, e632, hx632_0, hx632_1⟩ := at_T115 HR0.out x7_1 p632 q632
                          cases e632
                          replace hx632_0 := (HB.out.cell (World.block_lt_of_cell? w _ hx632_0)).trans hx632_0
                          replace hx632_1 := (HB.out.cell (World.block_lt_of_cell? w _ hx632_1)).trans hx632_1
                          replace p632 := eq_true p632
                          replace q632 := eq_true q632
                          go_wp2_with (first | ((with_reducible refine gate_dst (N := 4) rfl ?_); refine box_event ?hg (N := 4) ?hd (cs := #[.int .i64 0, .int .i64 0]) (t := 115) ?hr ?_; (case hd => rfl); (case hg => rfl); (case hr => first | (go_simp; done) | (go_simp; rfl)); intro gb633 hg w21 hbox hb; have n0_ := Aside0.mk (below_step (by repeat (first | (with_reducible first | exact HB.out | apply below_alloc | apply pw_below_drewN | apply below_drew1) | exact HB.out)) hb); have n1_ := Aside0.mk (hbox); have n2_ := Aside0.mk ((by rw [hg]; exact (below_size (by repeat (first | (with_reducible first | exact HB.out | apply below_alloc | apply pw_below_drewN | apply below_drew1) | exact HB.out))) : w.heap.size ≤ gb633)); have n3_ := Aside0.mk ((by rw [hg]; exact (below_size (by repeat (first | (with_reducible first | exact HB.out | apply below_alloc | apply pw_below_drewN | apply below_drew1) | exact HB.out))) : w.heap.size ≤ gb633)); clear HB; have HB := n0_; have BK633 := n1_; have GW633 := n2_; have GE633 := n3_; clear n0_ n1_ n2_ n3_; clear hb hbox hg; have hcz22_0 : w21.cell? ⟨gb633, 0, none⟩ = some (.int .i64 0) := (blk_cell BK633.out 0).trans rfl; have hcz22_1 : w21.cell? ⟨gb633, 1, none⟩ = some (.int .i64 0) := (blk_cell BK633.out 1).trans rfl; have hfz22_0 := blk_frozen BK633.out 0; have hfz22_1 := blk_frozen BK633.out 1; have p634 : 0 ≤ ((ji15) : Int) := of_decide_eq_true (by first | (with_reducible assumption) | assumption); have q634 : (ji15) < (l0.length : Int) := of_decide_eq_true (by first | (with_reducible assumption) | assumption); obtain ⟨ad634, e634, hx634_0, hx634_1⟩ := at_T115 HR0.out (ji15) p634 q634; obtain rfl : ad632 = ad634 := (by injection e634); have hn634_0 : ad632.block ≠ gb633 := Nat.ne_of_lt (Nat.lt_of_lt_of_le (by have := World.block_lt_of_cell? _ _ hx634_0; first | rwa [add_block] at this | exact this) GW633.out); have hn634_1 : ad632.block ≠ gb633 := Nat.ne_of_lt (Nat.lt_of_lt_of_le (by have := World.block_lt_of_cell? _ _ hx634_0; first | rwa [add_block] at this | exact this) GW633.out); replace hx634_0 := (HB.out.cell (World.block_lt_of_cell? w _ hx634_0)).trans hx634_0; replace hx634_1 := (HB.out.cell (World.block_lt_of_cell? w _ hx634_1)).trans hx634_1; replace hx634_0 := (cell_far (p := ⟨gb633, 0, none⟩) (by first | (rw [add_block]; exact hn634_0) | (show (Addr.add _ _).block ≠ _; rw [add_block]; exact hn634_0) | exact hn634_0) (.int .i64 ((rd_T115 l0 x7_1).f0))).trans hx634_0; replace hx634_1 := (cell_far (p := ⟨gb633, 0, none⟩) (by first | (rw [add_block]; exact hn634_0) | (show (Addr.add _ _).block ≠ _; rw [add_block]; exact hn634_0) | exact hn634_0) (.int .i64 ((rd_T115 l0 x7_1).f0))).trans hx634_1; replace hx634_0 := (cell_far (p := ⟨gb633, 1, none⟩) (by first | (rw [add_block]; exact hn634_1) | (show (Addr.add _ _).block ≠ _; rw [add_block]; exact hn634_1) | exact hn634_1) (.int .i64 ((rd_T115 l0 x7_1).f1))).trans hx634_0; replace hx634_1 := (cell_far (p := ⟨gb633, 1, none⟩) (by first | (rw [add_block]; exact hn634_1) | (show (Addr.add _ _).block ≠ _; rw [add_block]; exact hn634_1) | exact hn634_1) (.int .i64 ((rd_T115 l0 x7_1).f1))).trans hx634_1; (try have hy634_0 := fun (n_ : Nat) => (show ((((w21.drewN n_).setCell ⟨gb633, 0, none⟩ (.int .i64 ((rd_T115 l0 x7_1).f0))).setCell ⟨gb633, 1, none⟩ (.int .i64 ((rd_T115 l0 x7_1).f1)))).cell? _ = some _ from hx634_0)); (try have hy634_1 := fun (n_ : Nat) => (show ((((w21.drewN n_).setCell ⟨gb633, 0, none⟩ (.int .i64 ((rd_T115 l0 x7_1).f0))).setCell ⟨gb633, 1, none⟩ (.int .i64 ((rd_T115 l0 x7_1).f1)))).cell? _ = some _ from hx634_1)); clear hn634_0; clear hn634_1; replace p634 := eq_true p634; replace q634 := eq_true q634))
                          repeat (go_quiet (first | ((with_reducible refine gate_dst (N := 4) rfl ?_); refine box_event ?hg (N := 4) ?hd (cs := #[.int .i64 0, .int .i64 0]) (t := 115) ?hr ?_; (case hd => rfl); (case hg => rfl); (case hr => first | (go_simp; done) | (go_simp; rfl)); intro gb633 hg w21 hbox hb; have n0_ := Aside0.mk (below_step (by repeat (first | (with_reducible first | exact HB.out | apply below_alloc | apply pw_below_drewN | apply below_drew1) | exact HB.out)) hb); have n1_ := Aside0.mk (hbox); have n2_ := Aside0.mk ((by rw [hg]; exact (below_size (by repeat (first | (with_reducible first | exact HB.out | apply below_alloc | apply pw_below_drewN | apply below_drew1) | exact HB.out))) : w.heap.size ≤ gb633)); have n3_ := Aside0.mk ((by rw [hg]; exact (below_size (by repeat (first | (with_reducible first | exact HB.out | apply below_alloc | apply pw_below_drewN | apply below_drew1) | exact HB.out))) : w.heap.size ≤ gb633)); clear HB; have HB := n0_; have BK633 := n1_; have GW633 := n2_; have GE633 := n3_; clear n0_ n1_ n2_ n3_; clear hb hbox hg; have hcz22_0 : w21.cell? ⟨gb633, 0, none⟩ = some (.int .i64 0) := (blk_cell BK633.out 0).trans rfl; have hcz22_1 : w21.cell? ⟨gb633, 1, none⟩ = some (.int .i64 0) := (blk_cell BK633.out 1).trans rfl; have hfz22_0 := blk_frozen BK633.out 0; have hfz22_1 := blk_frozen BK633.out 1; have p634 : 0 ≤ ((ji15) : Int) := of_decide_eq_true (by first | (with_reducible assumption) | assumption); have q634 : (ji15) < (l0.length : Int) := of_decide_eq_true (by first | (with_reducible assumption) | assumption); obtain ⟨ad634, e634, hx634_0, hx634_1⟩ := at_T115 HR0.out (ji15) p634 q634; obtain rfl : ad632 = ad634 := (by injection e634); have hn634_0 : ad632.block ≠ gb633 := Nat.ne_of_lt (Nat.lt_of_lt_of_le (by have := World.block_lt_of_cell? _ _ hx634_0; first | rwa [add_block] at this | exact this) GW633.out); have hn634_1 : ad632.block ≠ gb633 := Nat.ne_of_lt (Nat.lt_of_lt_of_le (by have := World.block_lt_of_cell? _ _ hx634_0; first | rwa [add_block] at this | exact this) GW633.out); replace hx634_0 := (HB.out.cell (World.block_lt_of_cell? w _ hx634_0)).trans hx634_0; replace hx634_1 := (HB.out.cell (World.block_lt_of_cell? w _ hx634_1)).trans hx634_1; replace hx634_0 := (cell_far (p := ⟨gb633, 0, none⟩) (by first | (rw [add_block]; exact hn634_0) | (show (Addr.add _ _).block ≠ _; rw [add_block]; exact hn634_0) | exact hn634_0) (.int .i64 ((rd_T115 l0 x7_1).f0))).trans hx634_0; replace hx634_1 := (cell_far (p := ⟨gb633, 0, none⟩) (by first | (rw [add_block]; exact hn634_0) | (show (Addr.add _ _).block ≠ _; rw [add_block]; exact hn634_0) | exact hn634_0) (.int .i64 ((rd_T115 l0 x7_1).f0))).trans hx634_1; replace hx634_0 := (cell_far (p := ⟨gb633, 1, none⟩) (by first | (rw [add_block]; exact hn634_1) | (show (Addr.add _ _).block ≠ _; rw [add_block]; exact hn634_1) | exact hn634_1) (.int .i64 ((rd_T115 l0 x7_1).f1))).trans hx634_0; replace hx634_1 := (cell_far (p := ⟨gb633, 1, none⟩) (by first | (rw [add_block]; exact hn634_1) | (show (Addr.add _ _).block ≠ _; rw [add_block]; exact hn634_1) | exact hn634_1) (.int .i64 ((rd_T115 l0 x7_1).f1))).trans hx634_1; (try have hy634_0 := fun (n_ : Nat) => (show ((((w21.drewN n_).setCell ⟨gb633, 0, none⟩ (.int .i64 ((rd_T115 l0 x7_1).f0))).setCell ⟨gb633, 1, none⟩ (.int .i64 ((rd_T115 l0 x7_1).f1)))).cell? _ = some _ from hx634_0)); (try have hy634_1 := fun (n_ : Nat) => (show ((((w21.drewN n_).setCell ⟨gb633, 0, none⟩ (.int .i64 ((rd_T115 l0 x7_1).f0))).setCell ⟨gb633, 1, none⟩ (.int .i64 ((rd_T115 l0 x7_1).f1)))).cell? _ = some _ from hx634_1)); clear hn634_0; clear hn634_1; replace p634 := eq_true p634; replace q634 := eq_true q634)); try go_wp2_with (first | ((with_reducible refine gate_dst (N := 4) rfl ?_); refine box_event ?hg (N := 4) ?hd (cs := #[.int .i64 0, .int .i64 0]) (t := 115) ?hr ?_; (case hd => rfl); (case hg => rfl); (case hr => first | (go_simp; done) | (go_simp; rfl)); intro gb633 hg w21 hbox hb; have n0_ := Aside0.mk (below_step (by repeat (first | (with_reducible first | exact HB.out | apply below_alloc | apply pw_below_drewN | apply below_drew1) | exact HB.out)) hb); have n1_ := Aside0.mk (hbox); have n2_ := Aside0.mk ((by rw [hg]; exact (below_size (by repeat (first | (with_reducible first | exact HB.out | apply below_alloc | apply pw_below_drewN | apply below_drew1) | exact HB.out))) : w.heap.size ≤ gb633)); have n3_ := Aside0.mk ((by rw [hg]; exact (below_size (by repeat (first | (with_reducible first | exact HB.out | apply below_alloc | apply pw_below_drewN | apply below_drew1) | exact HB.out))) : w.heap.size ≤ gb633)); clear HB; have HB := n0_; have BK633 := n1_; have GW633 := n2_; have GE633 := n3_; clear n0_ n1_ n2_ n3_; clear hb hbox hg; have hcz22_0 : w21.cell? ⟨gb633, 0, none⟩ = some (.int .i64 0) := (blk_cell BK633.out 0).trans rfl; have hcz22_1 : w21.cell? ⟨gb633, 1, none⟩ = some (.int .i64 0) := (blk_cell BK633.out 1).trans rfl; have hfz22_0 := blk_frozen BK633.out 0; have hfz22_1 := blk_frozen BK633.out 1; have p634 : 0 ≤ ((ji15) : Int) := of_decide_eq_true (by first | (with_reducible assumption) | assumption); have q634 : (ji15) < (l0.length : Int) := of_decide_eq_true (by first | (with_reducible assumption) | assumption); obtain ⟨ad634, e634, hx634_0, hx634_1⟩ := at_T115 HR0.out (ji15) p634 q634; obtain rfl : ad632 = ad634 := (by injection e634); have hn634_0 : ad632.block ≠ gb633 := Nat.ne_of_lt (Nat.lt_of_lt_of_le (by have := World.block_lt_of_cell? _ _ hx634_0; first | rwa [add_block] at this | exact this) GW633.out); have hn634_1 : ad632.block ≠ gb633 := Nat.ne_of_lt (Nat.lt_of_lt_of_le (by have := World.block_lt_of_cell? _ _ hx634_0; first | rwa [add_block] at this | exact this) GW633.out); replace hx634_0 := (HB.out.cell (World.block_lt_of_cell? w _ hx634_0)).trans hx634_0; replace hx634_1 := (HB.out.cell (World.block_lt_of_cell? w _ hx634_1)).trans hx634_1; replace hx634_0 := (cell_far (p := ⟨gb633, 0, none⟩) (by first | (rw [add_block]; exact hn634_0) | (show (Addr.add _ _).block ≠ _; rw [add_block]; exact hn634_0) | exact hn634_0) (.int .i64 ((rd_T115 l0 x7_1).f0))).trans hx634_0; replace hx634_1 := (cell_far (p := ⟨gb633, 0, none⟩) (by first | (rw [add_block]; exact hn634_0) | (show (Addr.add _ _).block ≠ _; rw [add_block]; exact hn634_0) | exact hn634_0) (.int .i64 ((rd_T115 l0 x7_1).f0))).trans hx634_1; replace hx634_0 := (cell_far (p := ⟨gb633, 1, none⟩) (by first | (rw [add_block]; exact hn634_1) | (show (Addr.add _ _).block ≠ _; rw [add_block]; exact hn634_1) | exact hn634_1) (.int .i64 ((rd_T115 l0 x7_1).f1))).trans hx634_0; replace hx634_1 := (cell_far (p := ⟨gb633, 1, none⟩) (by first | (rw [add_block]; exact hn634_1) | (show (Addr.add _ _).block ≠ _; rw [add_block]; exact hn634_1) | exact hn634_1) (.int .i64 ((rd_T115 l0 x7_1).f1))).trans hx634_1; (try have hy634_0 := fun (n_ : Nat) => (show ((((w21.drewN n_).setCell ⟨gb633, 0, none⟩ (.int .i64 ((rd_T115 l0 x7_1).f0))).setCell ⟨gb633, 1, none⟩ (.int .i64 ((rd_T115 l0 x7_1).f1)))).cell? _ = some _ from hx634_0)); (try have hy634_1 := fun (n_ : Nat) => (show ((((w21.drewN n_).setCell ⟨gb633, 0, none⟩ (.int .i64 ((rd_T115 l0 x7_1).f0))).setCell ⟨gb633, 1, none⟩ (.int .i64 ((rd_T115 l0 x7_1).f1)))).cell? _ = some _ from hx634_1)); clear hn634_0; clear hn634_1; replace p634 := eq_true p634; replace q634 := eq_true q634)))
                          go_roundg k1
                          case measure => have := HK1.out; omega
                          case rel => exact ⟨(wrap64 (x7_1 + 1)), (by first | rfl | (simp; done) | (simp [*]; done)), H', ⟨by have := HK1.out; omega⟩, ⟨by repeat (first | (with_reducible first | exact HB.out | apply below_alloc | apply pw_below_drewN | apply below_drew1 | refine below_set ?_ GE633.out) | exact HB.out)⟩⟩
                      · rw [if_neg c17] at H
                        exact absurd H (by simp)
                    · rw [if_neg c16] at H
                      exact absurd H (by simp)
                  · rw [if_neg c14] at H
                    have c14b0 : decide (0 < x7_1) = false := decide_eq_false c14
                    clear c14
                    have H' := Aside0.mk H
                    clear H
                    have p632 : 0 ≤ (x7_1 : Int) := of_decide_eq_true (by first | (with_reducible assumption) | assumption)
                    have q632 : x7_1 < (l0.length : Int) := of_decide_eq_true (by first | (with_reducible assumption) | assumption)
                    obtain ⟨ad632, e632, hx632_0, hx632_1⟩ := at_T115 HR0.out x7_1 p632 q632
                    cases e632
                    replace hx632_0 := (HB.out.cell (World.block_lt_of_cell? w _ hx632_0)).trans hx632_0
                    replace hx632_1 := (HB.out.cell (World.block_lt_of_cell? w _ hx632_1)).trans hx632_1
                    replace p632 := eq_true p632
                    replace q632 := eq_true q632
                    go_wp2_with (first | ((with_reducible refine gate_dst (N := 4) rfl ?_); refine box_event ?hg (N := 4) ?hd (cs := #[.int .i64 0, .int .i64 0]) (t := 115) ?hr ?_; (case hd => rfl); (case hg => rfl); (case hr => first | (go_simp; done) | (go_simp; rfl)); intro gb633 hg w23 hbox hb; have n0_ := Aside0.mk (below_step (by repeat (first | (with_reducible first | exact HB.out | apply below_alloc | apply pw_below_drewN | apply below_drew1) | exact HB.out)) hb); have n1_ := Aside0.mk (hbox); have n2_ := Aside0.mk ((by rw [hg]; exact (below_size (by repeat (first | (with_reducible first | exact HB.out | apply below_alloc | apply pw_below_drewN | apply below_drew1) | exact HB.out))) : w.heap.size ≤ gb633)); have n3_ := Aside0.mk ((by rw [hg]; exact (below_size (by repeat (first | (with_reducible first | exact HB.out | apply below_alloc | apply pw_below_drewN | apply below_drew1) | exact HB.out))) : w.heap.size ≤ gb633)); clear HB; have HB := n0_; have BK633 := n1_; have GW633 := n2_; have GE633 := n3_; clear n0_ n1_ n2_ n3_; clear hb hbox hg; have hcz24_0 : w23.cell? ⟨gb633, 0, none⟩ = some (.int .i64 0) := (blk_cell BK633.out 0).trans rfl; have hcz24_1 : w23.cell? ⟨gb633, 1, none⟩ = some (.int .i64 0) := (blk_cell BK633.out 1).trans rfl; have hfz24_0 := blk_frozen BK633.out 0; have hfz24_1 := blk_frozen BK633.out 1))
                    repeat (go_quiet (first | ((with_reducible refine gate_dst (N := 4) rfl ?_); refine box_event ?hg (N := 4) ?hd (cs := #[.int .i64 0, .int .i64 0]) (t := 115) ?hr ?_; (case hd => rfl); (case hg => rfl); (case hr => first | (go_simp; done) | (go_simp; rfl)); intro gb633 hg w23 hbox hb; have n0_ := Aside0.mk (below_step (by repeat (first | (with_reducible first | exact HB.out | apply below_alloc | apply pw_below_drewN | apply below_drew1) | exact HB.out)) hb); have n1_ := Aside0.mk (hbox); have n2_ := Aside0.mk ((by rw [hg]; exact (below_size (by repeat (first | (with_reducible first | exact HB.out | apply below_alloc | apply pw_below_drewN | apply below_drew1) | exact HB.out))) : w.heap.size ≤ gb633)); have n3_ := Aside0.mk ((by rw [hg]; exact (below_size (by repeat (first | (with_reducible first | exact HB.out | apply below_alloc | apply pw_below_drewN | apply below_drew1) | exact HB.out))) : w.heap.size ≤ gb633)); clear HB; have HB := n0_; have BK633 := n1_; have GW633 := n2_; have GE633 := n3_; clear n0_ n1_ n2_ n3_; clear hb hbox hg; have hcz24_0 : w23.cell? ⟨gb633, 0, none⟩ = some (.int .i64 0) := (blk_cell BK633.out 0).trans rfl; have hcz24_1 : w23.cell? ⟨gb633, 1, none⟩ = some (.int .i64 0) := (blk_cell BK633.out 1).trans rfl; have hfz24_0 := blk_frozen BK633.out 0; have hfz24_1 := blk_frozen BK633.out 1)); try go_wp2_with (first | ((with_reducible refine gate_dst (N := 4) rfl ?_); refine box_event ?hg (N := 4) ?hd (cs := #[.int .i64 0, .int .i64 0]) (t := 115) ?hr ?_; (case hd => rfl); (case hg => rfl); (case hr => first | (go_simp; done) | (go_simp; rfl)); intro gb633 hg w23 hbox hb; have n0_ := Aside0.mk (below_step (by repeat (first | (with_reducible first | exact HB.out | apply below_alloc | apply pw_below_drewN | apply below_drew1) | exact HB.out)) hb); have n1_ := Aside0.mk (hbox); have n2_ := Aside0.mk ((by rw [hg]; exact (below_size (by repeat (first | (with_reducible first | exact HB.out | apply below_alloc | apply pw_below_drewN | apply below_drew1) | exact HB.out))) : w.heap.size ≤ gb633)); have n3_ := Aside0.mk ((by rw [hg]; exact (below_size (by repeat (first | (with_reducible first | exact HB.out | apply below_alloc | apply pw_below_drewN | apply below_drew1) | exact HB.out))) : w.heap.size ≤ gb633)); clear HB; have HB := n0_; have BK633 := n1_; have GW633 := n2_; have GE633 := n3_; clear n0_ n1_ n2_ n3_; clear hb hbox hg; have hcz24_0 : w23.cell? ⟨gb633, 0, none⟩ = some (.int .i64 0) := (blk_cell BK633.out 0).trans rfl; have hcz24_1 : w23.cell? ⟨gb633, 1, none⟩ = some (.int .i64 0) := (blk_cell BK633.out 1).trans rfl; have hfz24_0 := blk_frozen BK633.out 0; have hfz24_1 := blk_frozen BK633.out 1)))
                    go_roundg k1
                    case measure => have := HK1.out; omega
                    case rel => exact ⟨(wrap64 (x7_1 + 1)), (by first | rfl | (simp; done) | (simp [*]; done)), H', ⟨by have := HK1.out; omega⟩, ⟨by repeat (first | (with_reducible first | exact HB.out | apply below_alloc | apply pw_below_drewN | apply below_drew1 | refine below_set ?_ GE633.out) | exact HB.out)⟩⟩
          · rw [if_neg c4] at H
            exact absurd H (by simp)
        · rw [if_neg c3] at H
          exact absurd H (by simp)
      · rw [if_neg c2] at H
        have c2b0 : decide (x7_1 < (l0.length : Int)) = false := decide_eq_false c2
        clear c2
        obtain rfl := Option.some.inj H
        go_wp2
        repeat (go_quiet (fail); try go_wp2)
        go_ret
        exact ⟨by first | rfl | (simp [errW_none, errW_some] <;> rfl) | (simp [*, errW_none, errW_some] <;> rfl), by repeat (first | (with_reducible first | exact HB.out | apply below_alloc | apply pw_below_drewN | apply below_drew1) | exact HB.out)⟩
end Go.Proofs.Ytljaoggbfoimfaa.P

namespace Go.Proofs.Ytljaoggbfoimfaa.P
open Go.RowKit Go.Proofs.YtljaoggbfoimfaaW.PrintWords Go.Proofs.YtljaoggbfoimfaaW.PrintLast Go.Proofs.YtljaoggbfoimfaaW.PrintMore
attribute [local go_sem] max2_int min2_int max_two min_two max_three min_three max_four min_four   -- for this text's walks alone
set_option linter.unusedVariables false
set_option linter.unusedSimpArgs false
def impl_in.f (a0 : Int) (a1 : Int) (a2 : Int) : Option (Bool) := if a0 ≥ a1 then (some (decide (a0 ≤ a2))) else (some false)
set_option maxHeartbeats 8000000 in
set_option maxRecDepth 100000 in
theorem impl_in.calls (a0 : Int) (a1 : Int) (a2 : Int) (r : Bool) (w : World) (h : impl_in.f a0 a1 a2 = some r) :
    Calls Try.prog 51 #[.int .i64 a0, .int .i64 a1, .int .i64 a2] w fun e w' => e = .returned (.bool r) ∧ Drawn0 w w' := by
  have H : (if a0 ≥ a1 then (some (decide (a0 ≤ a2))) else (some false)) = some r := h
  clear h
  by_cases c4 : a0 ≥ a1
  · rw [if_pos c4] at H
    have c4b0 : decide (a1 ≤ a0) = true := decide_eq_true c4
    clear c4
    obtain rfl := Option.some.inj H
    go_enter Try.func51, Try.ntmps51
    go_wp2
    go_ret
    exact ⟨by first | rfl | (simp; done) | (simp [*]; done), by repeat (first | exact Drawn0.refl _ | apply Drawn0.step)⟩
  · rw [if_neg c4] at H
    have c4b0 : decide (a1 ≤ a0) = false := decide_eq_false c4
    clear c4
    obtain rfl := Option.some.inj H
    go_enter Try.func51, Try.ntmps51
    go_wp2
    go_ret
    exact ⟨by first | rfl | (simp; done) | (simp [*]; done), by repeat (first | exact Drawn0.refl _ | apply Drawn0.step)⟩
end Go.Proofs.Ytljaoggbfoimfaa.P

namespace Go.Proofs.Ytljaoggbfoimfaa.P
open Go.RowKit Go.Proofs.YtljaoggbfoimfaaW.PrintWords Go.Proofs.YtljaoggbfoimfaaW.PrintLast Go.Proofs.YtljaoggbfoimfaaW.PrintMore
attribute [local go_sem] max2_int min2_int max_two min_two max_three min_three max_four min_four   -- for this text's walks alone
set_option linter.unusedVariables false
set_option linter.unusedSimpArgs false
def impl_SetHas.l0 : Nat → Int → List (S115) → Int → Int → Option (Bool)
  | 0, _, _, _, _ => none
  | k + 1, x1, x7, x8, x9 => if x9 < x8 then (if 0 ≤ x9 then (if x9 < (x7.length : Int) then ((impl_in.f x1 ((rd_T115 x7 x9).f0) ((rd_T115 x7 x9).f1)).bind fun t733 => (if t733 = true then (some true) else (impl_SetHas.l0 k x1 x7 x8 (wrap64 (x9 + 1))))) else (none)) else (none)) else (some false)
def impl_SetHas.f (k : Nat) (l0 : List (S115)) (a1 : Int) : Option (Bool) := impl_SetHas.l0 k a1 l0 (l0.length : Int) 0
theorem impl_SetHas.mono_l : ∀ k, (∀ y0 y1 y2 y3, LeO (impl_SetHas.l0 k y0 y1 y2 y3) (impl_SetHas.l0 (k + 1) y0 y1 y2 y3))
  | 0 => fun _ _ _ _ r h => by simp [impl_SetHas.l0] at h
  | k + 1 => by
    have ih0 := impl_SetHas.mono_l k
    · intro y0 y1 y2 y3
      unfold impl_SetHas.l0
      repeat' first
      | (with_reducible exact ih0 _ _ _ _)
      | (with_reducible exact LeO.refl _)
      | (with_reducible exact LeO.none _)
      | (with_reducible refine LeO.ite ?_ ?_)
      | (with_reducible refine LeO.bind ?_ (fun _ => ?_))
      | exact ih0 _ _ _ _
      | exact LeO.none _
      | refine LeO.ite ?_ ?_
      | refine LeO.bind ?_ (fun _ => ?_)
theorem impl_SetHas.mono : ∀ a0 a1 k, LeO (impl_SetHas.f k a0 a1) (impl_SetHas.f (k + 1) a0 a1) := by
  intro a0 a1 k
  have ih0 := impl_SetHas.mono_l k
  unfold impl_SetHas.f
  repeat' first
      | (with_reducible exact ih0 _ _ _ _)
      | (with_reducible exact LeO.refl _)
      | (with_reducible exact LeO.none _)
      | (with_reducible refine LeO.ite ?_ ?_)
      | (with_reducible refine LeO.bind ?_ (fun _ => ?_))
      | exact ih0 _ _ _ _
      | exact LeO.none _
      | refine LeO.ite ?_ ?_
      | refine LeO.bind ?_ (fun _ => ?_)
set_option maxHeartbeats 8000000 in
set_option maxRecDepth 100000 in
theorem impl_SetHas.calls (k : Nat) (A0 : Option Addr) (c0 : Nat) (l0 : List (S115)) (a1 : Int) (r : Bool) (w : World) (hr0 : Kd.C k115 w A0 l0.length l0) (hc0 : l0.length ≤ c0) (h : impl_SetHas.f k l0 a1 = some r) :
    Calls Try.prog 89 #[.slice A0 l0.length c0, .int .i64 a1] w fun e w' => e = .returned (.bool r) ∧ Below w.heap.size w w' := by
  have hu115 := Try.underlying115
  have HR0 := Aside0.mk hr0
  have HC0 := Aside0.mk hc0
  clear hr0 hc0
  have HB := Aside0.mk (Below.refl w.heap.size w)
  have H : (impl_SetHas.l0 k a1 l0 (l0.length : Int) 0) = some r := h
  clear h
  have H' := Aside0.mk H
  clear H
  go_enter Try.func89, Try.ntmps89
  go_wp2
  go_loopg [9] k (fun kq v9 w' => ∃ (x9_1 : Int), v9 = .int .i64 x9_1 ∧ Aside0 (impl_SetHas.l0 kq a1 l0 (l0.length : Int) x9_1 = some r) ∧ Aside0 (kq ≤ k) ∧ Aside0 (Below w.heap.size w w'))
  case atStart => exact ⟨(0), (by first | rfl | (simp; done) | (simp [*]; done)), H', ⟨Nat.le_refl _⟩, ⟨by repeat (first | (with_reducible first | exact HB.out | apply below_alloc | apply pw_below_drewN | apply below_drew1) | exact HB.out)⟩⟩
  case round =>
    clear H'
    try clear p2
    obtain ⟨x9_1, rfl, HA, HK1, HB⟩ := hrel
    cases gk with
    | zero => exact absurd HA.out (by simp [impl_SetHas.l0])
    | succ k1 =>
      have H := HA.out
      clear HA
      simp only [impl_SetHas.l0] at H
      by_cases c3 : x9_1 < (l0.length : Int)
      · rw [if_pos c3] at H
        have c3b0 : decide (x9_1 < (l0.length : Int)) = true := decide_eq_true c3
        clear c3
        by_cases c4 : 0 ≤ x9_1
        · rw [if_pos c4] at H
          have c4b0 : decide (0 ≤ x9_1) = true := decide_eq_true c4
          clear c4
          by_cases c5 : x9_1 < (l0.length : Int)
          · rw [if_pos c5] at H
            have c5b0 : decide (x9_1 < (l0.length : Int)) = true := decide_eq_true c5
            clear c5
            replace H := Option.bind_eq_some_iff.mp H
            obtain ⟨t733, A60, H⟩ := H
            replace H : (if t733 = true then (some true) else (impl_SetHas.l0 k1 a1 l0 (l0.length : Int) (wrap64 (x9_1 + 1)))) = some r := H
            have A6 := Aside0.mk A60
            clear A60
            by_cases c7 : t733 = true
            · subst c7
              have H1 : (some true) = some r := by rw [if_pos rfl] at H; exact H
              clear H
              have H := H1
              clear H1
              obtain rfl := Option.some.inj H
              have p731 : 0 ≤ (x9_1 : Int) := of_decide_eq_true (by first | (with_reducible assumption) | assumption)
              have q731 : x9_1 < (l0.length : Int) := of_decide_eq_true (by first | (with_reducible assumption) | assumption)
              obtain ⟨ad731, e731, hx731_0, hx731_1⟩ := at_T115 HR0.out x9_1 p731 q731
              cases e731
              replace hx731_0 := (HB.out.cell (World.block_lt_of_cell? w _ hx731_0)).trans hx731_0
              replace hx731_1 := (HB.out.cell (World.block_lt_of_cell? w _ hx731_1)).trans hx731_1
              replace p731 := eq_true p731
              replace q731 := eq_true q731
              go_wp2_with (first | ((with_reducible refine gate_dst (N := 6) rfl ?_); refine box_event ?hg (N := 6) ?hd (cs := #[.int .i64 0, .int .i64 0]) (t := 115) ?hr ?_; (case hd => rfl); (case hg => rfl); (case hr => first | (go_simp; done) | (go_simp; rfl)); intro gb732 hg w8 hbox hb; have n0_ := Aside0.mk (below_step (by repeat (first | (with_reducible first | exact HB.out | apply below_alloc | apply pw_below_drewN | apply below_drew1) | exact HB.out)) hb); have n1_ := Aside0.mk (hbox); have n2_ := Aside0.mk ((by rw [hg]; exact (below_size (by repeat (first | (with_reducible first | exact HB.out | apply below_alloc | apply pw_below_drewN | apply below_drew1) | exact HB.out))) : w.heap.size ≤ gb732)); have n3_ := Aside0.mk ((by rw [hg]; exact (below_size (by repeat (first | (with_reducible first | exact HB.out | apply below_alloc | apply pw_below_drewN | apply below_drew1) | exact HB.out))) : w.heap.size ≤ gb732)); clear HB; have HB := n0_; have BK732 := n1_; have GW732 := n2_; have GE732 := n3_; clear n0_ n1_ n2_ n3_; clear hb hbox hg; have hcz9_0 : w8.cell? ⟨gb732, 0, none⟩ = some (.int .i64 0) := (blk_cell BK732.out 0).trans rfl; have hcz9_1 : w8.cell? ⟨gb732, 1, none⟩ = some (.int .i64 0) := (blk_cell BK732.out 1).trans rfl; have hfz9_0 := blk_frozen BK732.out 0; have hfz9_1 := blk_frozen BK732.out 1) | ((with_reducible refine gate_callee (f := 51) rfl ?_); refine goesL_ (some 18) rfl rfl Try.func51 (by kernel_rfl) rfl #[.int .i64 a1, .int .i64 ((rd_T115 l0 x9_1).f0), .int .i64 ((rd_T115 l0 x9_1).f1)] rfl (by (try simp only [List.map_toArray, List.map_cons, List.map_nil]); first | done | rfl | (simp only [List.length_drop, List.length_take]; rfl)) ?_; (with_reducible refine (impl_in.calls a1 ((rd_T115 l0 x9_1).f0) ((rd_T115 l0 x9_1).f1) true _ A6.out).mono ?_); rintro e w' ⟨rfl, ⟨nd, rfl⟩⟩; refine ⟨_, rfl, ?_⟩))
              go_ret
              exact ⟨by first | rfl | (simp [errW_none, errW_some] <;> rfl) | (simp [*, errW_none, errW_some] <;> rfl), by repeat (first | (with_reducible first | exact HB.out | apply below_alloc | apply pw_below_drewN | apply below_drew1 | refine below_set ?_ GE732.out) | exact HB.out)⟩
            · replace c7 := Bool.eq_false_iff.mpr c7
              subst c7
              have H1 : (impl_SetHas.l0 k1 a1 l0 (l0.length : Int) (wrap64 (x9_1 + 1))) = some r := by rw [if_neg (show ¬ (false = true) by decide)] at H; exact H
              clear H
              have H := H1
              clear H1
              have H' := Aside0.mk H
              clear H
              have p731 : 0 ≤ (x9_1 : Int) := of_decide_eq_true (by first | (with_reducible assumption) | assumption)
              have q731 : x9_1 < (l0.length : Int) := of_decide_eq_true (by first | (with_reducible assumption) | assumption)
              obtain ⟨ad731, e731, hx731_0, hx731_1⟩ := at_T115 HR0.out x9_1 p731 q731
              cases e731
              replace hx731_0 := (HB.out.cell (World.block_lt_of_cell? w _ hx731_0)).trans hx731_0
              replace hx731_1 := (HB.out.cell (World.block_lt_of_cell? w _ hx731_1)).trans hx731_1
              replace p731 := eq_true p731
              replace q731 := eq_true q731
              go_wp2_with (first | ((with_reducible refine gate_dst (N := 6) rfl ?_); refine box_event ?hg (N := 6) ?hd (cs := #[.int .i64 0, .int .i64 0]) (t := 115) ?hr ?_; (case hd => rfl); (case hg => rfl); (case hr => first | (go_simp; done) | (go_simp; rfl)); intro gb732 hg w10 hbox hb; have n0_ := Aside0.mk (below_step (by repeat (first | (with_reducible first | exact HB.out | apply below_alloc | apply pw_below_drewN | apply below_drew1) | exact HB.out)) hb); have n1_ := Aside0.mk (hbox); have n2_ := Aside0.mk ((by rw [hg]; exact (below_size (by repeat (first | (with_reducible first | exact HB.out | apply below_alloc | apply pw_below_drewN | apply below_drew1) | exact HB.out))) : w.heap.size ≤ gb732)); have n3_ := Aside0.mk ((by rw [hg]; exact (below_size (by repeat (first | (with_reducible first | exact HB.out | apply below_alloc | apply pw_below_drewN | apply below_drew1) | exact HB.out))) : w.heap.size ≤ gb732)); clear HB; have HB := n0_; have BK732 := n1_; have GW732 := n2_; have GE732 := n3_; clear n0_ n1_ n2_ n3_; clear hb hbox hg; have hcz11_0 : w10.cell? ⟨gb732, 0, none⟩ = some (.int .i64 0) := (blk_cell BK732.out 0).trans rfl; have hcz11_1 : w10.cell? ⟨gb732, 1, none⟩ = some (.int .i64 0) := (blk_cell BK732.out 1).trans rfl; have hfz11_0 := blk_frozen BK732.out 0; have hfz11_1 := blk_frozen BK732.out 1) | ((with_reducible refine gate_callee (f := 51) rfl ?_); refine goesL_ (some 18) rfl rfl Try.func51 (by kernel_rfl) rfl #[.int .i64 a1, .int .i64 ((rd_T115 l0 x9_1).f0), .int .i64 ((rd_T115 l0 x9_1).f1)] rfl (by (try simp only [List.map_toArray, List.map_cons, List.map_nil]); first | done | rfl | (simp only [List.length_drop, List.length_take]; rfl)) ?_; (with_reducible refine (impl_in.calls a1 ((rd_T115 l0 x9_1).f0) ((rd_T115 l0 x9_1).f1) false _ A6.out).mono ?_); rintro e w' ⟨rfl, ⟨nd, rfl⟩⟩; refine ⟨_, rfl, ?_⟩))
              go_roundg k1
              case measure => have := HK1.out; omega
              case rel => exact ⟨(wrap64 (x9_1 + 1)), (by first | rfl | (simp; done) | (simp [*]; done)), H', ⟨by have := HK1.out; omega⟩, ⟨by repeat (first | (with_reducible first | exact HB.out | apply below_alloc | apply pw_below_drewN | apply below_drew1 | refine below_set ?_ GE732.out) | exact HB.out)⟩⟩
          · rw [if_neg c5] at H
            exact absurd H (by simp)
        · rw [if_neg c4] at H
          exact absurd H (by simp)
      · rw [if_neg c3] at H
        have c3b0 : decide (x9_1 < (l0.length : Int)) = false := decide_eq_false c3
        clear c3
        obtain rfl := Option.some.inj H
        go_wp2
        go_ret
        exact ⟨by first | rfl | (simp [errW_none, errW_some] <;> rfl) | (simp [*, errW_none, errW_some] <;> rfl), by repeat (first | (with_reducible first | exact HB.out | apply below_alloc | apply pw_below_drewN | apply below_drew1) | exact HB.out)⟩
end Go.Proofs.Ytljaoggbfoimfaa.P

set_option linter.unusedVariables false
set_option linter.unusedSimpArgs false
namespace Go.Proofs.Ytljaoggbfoimfaa.P
open Go.RowKit Go.Proofs.YtljaoggbfoimfaaW.PrintWords Go.Proofs.YtljaoggbfoimfaaW.PrintLast Go.Proofs.YtljaoggbfoimfaaW.PrintMore Go.Proofs.Ytljaoggbfoimfaa.Arr
def impl_bitsOf.l0 : Nat → List S115 → List Bool → Int → Option (List Bool)
  | 0, _, _, _ => none
  | k + 1, s, o, i => if i < 256 then (if 0 ≤ i then ((impl_SetHas.f k s i).bind fun t => impl_bitsOf.l0 k s (setB 256 o i t) (wrap64 (i + 1))) else none) else some o
def impl_bitsOf.f (k : Nat) (l0 : List S115) : Option (List Bool) := impl_bitsOf.l0 k l0 (List.replicate 256 false) 0
theorem impl_bitsOf.mono_l : ∀ k, (∀ y0 y1 y2, LeO (impl_bitsOf.l0 k y0 y1 y2) (impl_bitsOf.l0 (k + 1) y0 y1 y2))
  | 0 => fun _ _ _ r h => by simp [impl_bitsOf.l0] at h
  | k + 1 => by
    have ih0 := impl_bitsOf.mono_l k
    intro y0 y1 y2
    unfold impl_bitsOf.l0
    repeat' first
      | (with_reducible exact ih0 _ _ _)
      | (with_reducible exact impl_SetHas.mono _ _ _)
      | (with_reducible exact LeO.refl _)
      | (with_reducible exact LeO.none _)
      | (with_reducible refine LeO.ite ?_ ?_)
      | (with_reducible refine LeO.bind ?_ (fun _ => ?_))
theorem impl_bitsOf.mono : ∀ a0 k, LeO (impl_bitsOf.f k a0) (impl_bitsOf.f (k + 1) a0) := fun a0 k => impl_bitsOf.mono_l k _ _ _
theorem zeroB : Try.zeroCells112 = cellsB 256 (List.replicate 256 false) := by kernel_rfl
def IsBits (w : World) (g : Nat) (l : List Bool) : Prop := w.heap[g]? = some (.cells (cellsB 256 l) 112 (0, 0))
set_option maxHeartbeats 8000000 in
set_option maxRecDepth 100000 in
theorem impl_bitsOf.calls (k : Nat) (A0 : Option Addr) (c0 : Nat) (l0 : List S115) (r : List Bool) (w : World) (hr0 : Kd.C k115 w A0 l0.length l0) (hc0 : l0.length ≤ c0) (h : impl_bitsOf.f k l0 = some r) :
    Calls Try.prog 87 #[.slice A0 l0.length c0] w fun e w' => e = .returned (.agg (cellsB 256 r)) ∧ Below w.heap.size w w' := by
  have HR0 := Aside0.mk hr0
  have HC0 := Aside0.mk hc0
  clear hr0 hc0
  have H' := Aside0.mk (show impl_bitsOf.l0 k l0 (List.replicate 256 false) 0 = some r from h)
  clear h
  have hsz : w.heap.size + 1 = (w.alloc (.cells Try.zeroCells112 112)).heap.size := by simp
  have HZ := Aside0.mk hsz
  clear hsz
  go_enter Try.func87, Try.ntmps87
  go_wp2
  go_loopg [5] k (fun kq v5 w' => ∃ (x5_1 : Int) (o : List Bool), v5 = .int .i64 x5_1 ∧ Aside0 (impl_bitsOf.l0 kq l0 o x5_1 = some r) ∧ Aside0 (kq ≤ k) ∧ Aside0 (IsBits w' w.heap.size (List.replicate 256 false)) ∧ Aside0 (IsBits w' (w.heap.size + 1) o) ∧ Aside0 (Below w.heap.size w w'))
  case atStart =>
    refine ⟨0, List.replicate 256 false, rfl, H', ⟨Nat.le_refl _⟩, ⟨?_⟩, ⟨?_⟩, ⟨((Below.refl _ _).alloc (Nat.le_refl _) _).alloc (by simp) _⟩⟩
    · refine blk_alloc ?_ _
      show _ = some (Obj.cells _ _ _)
      rw [← zeroB]
      exact blk_new _ _
    · rw [HZ.out]
      show _ = some (Obj.cells _ _ _)
      rw [← zeroB]
      exact blk_new _ _
  case round =>
    clear H'
    obtain ⟨x5_1, o, rfl, HA, HK1, HB0, HB1, HB⟩ := hrel
    cases gk with
    | zero => exact absurd HA.out (by simp [impl_bitsOf.l0])
    | succ k1 =>
      have H := HA.out
      clear HA
      simp only [impl_bitsOf.l0] at H
      by_cases c2 : x5_1 < 256
      · rw [if_pos c2] at H
        have c2b0 : decide (x5_1 < 256) = true := decide_eq_true c2
        by_cases c3 : 0 ≤ x5_1
        · rw [if_pos c3] at H
          have c3b0 : decide (0 ≤ x5_1) = true := decide_eq_true c3
          replace H := Option.bind_eq_some_iff.mp H
          obtain ⟨t1, A30, H⟩ := H
          have A3 := Aside0.mk A30
          have H' := Aside0.mk H
          clear A30 H
          have hc1 := cell_arr HB1.out x5_1 c3 c2
          have hf1 := blk_frozen HB1.out x5_1.toNat
          have p2 := eq_true c2
          have p3 := eq_true c3
          clear c2 c3
          go_wp2_with (first | ((with_reducible refine gate_callee (f := 89) rfl ?_); refine goesL_ (some 11) rfl rfl Try.func89 (by kernel_rfl) rfl #[.slice A0 l0.length c0, .int .i64 x5_1] rfl (by (try simp only [List.map_toArray, List.map_cons, List.map_nil]); first | done | rfl) ?_; (with_reducible refine (impl_SetHas.calls k1 _ _ l0 x5_1 t1 _ ?side1 ?side2 A3.out).mono ?_); (case side1 => exact Kd.C_below HR0.out HB.out); (case side2 => exact HC0.out); rintro e w1 ⟨rfl, hb1⟩; refine ⟨_, rfl, ?_⟩; have HB0' : Aside0 (IsBits w1 _ _) := ⟨blk_below HB0.out hb1⟩; have HB1' : Aside0 (IsBits w1 _ _) := ⟨blk_below HB1.out hb1⟩; have HBn := Aside0.mk (below_step HB.out hb1); have hc2 := cell_arr HB1'.out x5_1 (of_decide_eq_true c3b0) (of_decide_eq_true c2b0); have hf2 := blk_frozen HB1'.out x5_1.toNat; clear HB0 HB1 HB hb1 hc1 hf1))
          go_roundg k1
          case measure => have := HK1.out; omega
          case rel =>
            have h0 : 0 ≤ x5_1 := of_decide_eq_true c3b0
            have h1 : x5_1 < 256 := of_decide_eq_true c2b0
            refine ⟨wrap64 (x5_1 + 1), setB 256 o x5_1 t1, rfl, H', ⟨by have := HK1.out; omega⟩, ⟨blk_far HB0'.out (by simp) _⟩, ⟨put_arr HB1'.out x5_1 t1⟩, ⟨below_set HBn.out (Nat.le_succ _)⟩⟩
        · rw [if_neg c3] at H
          cases H
      · rw [if_neg c2] at H
        have c2b0 : decide (x5_1 < 256) = false := decide_eq_false c2
        clear c2
        obtain rfl := Option.some.inj H
        go_wp2_with (first | ((with_reducible refine gate_dst (N := 14) rfl ?_); refine wpList_load_row rfl 112 (.tmp 3) rfl (w.heap.size + 1) rfl 112 (cellsB 256 o) (0, 0) _ HB1.out Try.underlying112 rfl (by rw [size_cellsB]; kernel_rfl) ?_) | ((with_reducible refine gate_store (t := 112) (p := 2) rfl ?_); refine wpList_store_row rfl 112 (.tmp 2) (.tmp 14) rfl w.heap.size (cellsB 256 o) rfl rfl 112 _ HB0.out (by rw [size_cellsB]; kernel_rfl) (by rw [size_cellsB, size_cellsB]) (one_cellsB _ _) ?_; have HR : Aside0 (_ = some (Obj.cells (cellsB 256 o) _ _)) := ⟨row_here HB0.out (cellsB 256 o)⟩; have HB' := Aside0.mk (below_row HB.out HB0.out (Nat.le_refl _) (cellsB 256 o)); clear HB0 HB1 HB))
        exact bodyPost_ret (v := .agg (cellsB 256 o)) (results_cell_row rfl _ _ w.heap.size 112 (cellsB 256 o) (0, 0) _ rfl HR.out Try.underlying112 rfl (by rw [size_cellsB]; kernel_rfl)) rfl ⟨rfl, HB'.out⟩
end Go.Proofs.Ytljaoggbfoimfaa.P

namespace Go.Proofs.Ytljaoggbfoimfaa.P
open Go.RowKit Go.Proofs.YtljaoggbfoimfaaW.PrintWords Go.Proofs.YtljaoggbfoimfaaW.PrintLast Go.Proofs.YtljaoggbfoimfaaW.PrintMore
attribute [local go_sem] max2_int min2_int max_two min_two max_three min_three max_four min_four   -- for this text's walks alone
set_option linter.unusedVariables false
set_option linter.unusedSimpArgs false
open Go.Proofs.Ytljaoggbfoimfaa.Arr
mutual
def impl_DfaOk.l0 : Nat → Int → Int → List (List (S115)) → Int → Int → List (List (S115)) → List (List Int) → List Int → List Bool → Option (Bool)
  | 0, _, _, _, _, _, _, _, _, _ => none
  | k + 1, x4, x5, x15, x16, x17, x735000, x735001, x735002, x736000 => if x17 < x16 then (if 0 ≤ x17 then (if x17 < (x15.length : Int) then ((impl_SetOk.f k (rd_L11 x15 x17)).bind fun t737 => (if t737 = true then (if ((rd_L11 x15 x17).length : Int) = 0 then (impl_DfaOk.j1 k x5 (rd_L11 x15 x17) x15 x16 x17 true x735000 x735001 x735002 x736000) else (if 0 < ((rd_L11 x15 x17).length : Int) then (impl_DfaOk.j1 k x5 (rd_L11 x15 x17) x15 x16 x17 (decide (((rd_T115 (rd_L11 x15 x17) 0).f0) ≤ x4)) x735000 x735001 x735002 x736000) else (none))) else (impl_DfaOk.j1 k x5 (rd_L11 x15 x17) x15 x16 x17 true x735000 x735001 x735002 x736000))) else (none)) else (none)) else (if x5 = 256 then ((impl_in.f (x735001.length : Int) 1 40).bind fun t743 => (if t743 = true then (impl_DfaOk.j4 k ((x735002.length : Int) != (x735001.length : Int)) x735000 x735001 x735002) else (impl_DfaOk.j4 k true x735000 x735001 x735002))) else (impl_DfaOk.j4 k true x735000 x735001 x735002))
def impl_DfaOk.j1 : Nat → Int → List (S115) → List (List (S115)) → Int → Int → Bool → List (List (S115)) → List (List Int) → List Int → List Bool → Option (Bool)
  | 0, _, _, _, _, _, _, _, _, _, _ => none
  | k + 1, x5, x7, x15, x16, x17, x36, x735000, x735001, x735002, x736000 => if x36 = true then (some false) else (if 0 < (x7.length : Int) then ((impl_bitsOf.f k x7).bind fun t740 => (impl_DfaOk.l1 k ((rd_T115 x7 0).f0) x5 x15 x16 x17 t740 0 x735000 x735001 x735002 x736000)) else (none))
def impl_DfaOk.l1 : Nat → Int → Int → List (List (S115)) → Int → Int → List Bool → Int → List (List (S115)) → List (List Int) → List Int → List Bool → Option (Bool)
  | 0, _, _, _, _, _, _, _, _, _, _, _ => none
  | k + 1, x4, x5, x15, x16, x17, x42, x43, x735000, x735001, x735002, x736000 => if x43 < 256 then (if 0 ≤ x43 then (if getB x42 x43 = true then (impl_DfaOk.j3 k x4 x5 x43 (getB x42 x43) x15 x16 x17 x42 x43 (getB x736000 x43) x735000 x735001 x735002 x736000) else (impl_DfaOk.j3 k x4 x5 x43 (getB x42 x43) x15 x16 x17 x42 x43 false x735000 x735001 x735002 x736000)) else (none)) else (impl_DfaOk.l0 k x4 x5 x15 x16 (wrap64 (x17 + 1)) x735000 x735001 x735002 x736000)
def impl_DfaOk.j3 : Nat → Int → Int → Int → Bool → List (List (S115)) → Int → Int → List Bool → Int → Bool → List (List (S115)) → List (List Int) → List Int → List Bool → Option (Bool)
  | 0, _, _, _, _, _, _, _, _, _, _, _, _, _, _ => none
  | k + 1, x4, x5, x8, x9, x15, x16, x17, x42, x43, x52, x735000, x735001, x735002, x736000 => if x52 = true then (some false) else (if x9 = true then (if 0 ≤ x8 then (if x8 < 256 then (impl_DfaOk.l1 k x4 (wrap64 (x5 + 1)) x15 x16 x17 x42 (wrap64 (x43 + 1)) x735000 x735001 x735002 (setB 256 x736000 x8 true)) else (none)) else (none)) else (impl_DfaOk.l1 k x4 x5 x15 x16 x17 x42 (wrap64 (x43 + 1)) x735000 x735001 x735002 x736000))
def impl_DfaOk.j4 : Nat → Bool → List (List (S115)) → List (List Int) → List Int → Option (Bool)
  | 0, _, _, _, _ => none
  | k + 1, x77, x735000, x735001, x735002 => if x77 = true then (some false) else (impl_DfaOk.l2 k x735001 (x735001.length : Int) 0 x735000 x735001 x735002)
def impl_DfaOk.l2 : Nat → List (List Int) → Int → Int → List (List (S115)) → List (List Int) → List Int → Option (Bool)
  | 0, _, _, _, _, _, _ => none
  | k + 1, x79, x80, x81, x735000, x735001, x735002 => if x81 < x80 then (if 0 ≤ x81 then (if x81 < (x79.length : Int) then (if ((rd_L14 x79 x81).length : Int) = (x735000.length : Int) then (if x81 < (x735002.length : Int) then ((impl_in.f (rd x735002 x81) (-1) 4).bind fun t746 => (impl_DfaOk.j6 k (rd_L14 x79 x81) x79 x80 x81 (!t746) x735000 x735001 x735002)) else (none)) else (impl_DfaOk.j6 k (rd_L14 x79 x81) x79 x80 x81 true x735000 x735001 x735002)) else (none)) else (none)) else (some true)
def impl_DfaOk.j6 : Nat → List Int → List (List Int) → Int → Int → Bool → List (List (S115)) → List (List Int) → List Int → Option (Bool)
  | 0, _, _, _, _, _, _, _, _ => none
  | k + 1, x11, x79, x80, x81, x100, x735000, x735001, x735002 => if x100 = true then (some false) else (impl_DfaOk.l3 k x79 x80 x81 x11 (x11.length : Int) 0 x735000 x735001 x735002)
def impl_DfaOk.l3 : Nat → List (List Int) → Int → Int → List Int → Int → Int → List (List (S115)) → List (List Int) → List Int → Option (Bool)
  | 0, _, _, _, _, _, _, _, _, _ => none
  | k + 1, x79, x80, x81, x101, x102, x103, x735000, x735001, x735002 => if x103 < x102 then (if 0 ≤ x103 then (if x103 < (x101.length : Int) then ((impl_in.f (rd x101 x103) (-1) (wrap64 ((x735001.length : Int) - 1))).bind fun t748 => (if t748 = true then (impl_DfaOk.l3 k x79 x80 x81 x101 x102 (wrap64 (x103 + 1)) x735000 x735001 x735002) else (some false))) else (none)) else (none)) else (impl_DfaOk.l2 k x79 x80 (wrap64 (x81 + 1)) x735000 x735001 x735002)
end
def impl_DfaOk.f (k : Nat) (l0_0 : List (List (S115))) (l0_1 : List (List Int)) (l0_2 : List Int) : Option (Bool) := impl_DfaOk.l0 k (-1) 0 l0_0 (l0_0.length : Int) 0 l0_0 l0_1 l0_2 (List.replicate 256 false)
theorem impl_DfaOk.mono_l : ∀ k, (∀ y0 y1 y2 y3 y4 y5 y6 y7 y8, LeO (impl_DfaOk.l0 k y0 y1 y2 y3 y4 y5 y6 y7 y8) (impl_DfaOk.l0 (k + 1) y0 y1 y2 y3 y4 y5 y6 y7 y8)) ∧ (∀ y0 y1 y2 y3 y4 y5 y6 y7 y8 y9, LeO (impl_DfaOk.j1 k y0 y1 y2 y3 y4 y5 y6 y7 y8 y9) (impl_DfaOk.j1 (k + 1) y0 y1 y2 y3 y4 y5 y6 y7 y8 y9)) ∧ (∀ y0 y1 y2 y3 y4 y5 y6 y7 y8 y9 y10, LeO (impl_DfaOk.l1 k y0 y1 y2 y3 y4 y5 y6 y7 y8 y9 y10) (impl_DfaOk.l1 (k + 1) y0 y1 y2 y3 y4 y5 y6 y7 y8 y9 y10)) ∧ (∀ y0 y1 y2 y3 y4 y5 y6 y7 y8 y9 y10 y11 y12 y13, LeO (impl_DfaOk.j3 k y0 y1 y2 y3 y4 y5 y6 y7 y8 y9 y10 y11 y12 y13) (impl_DfaOk.j3 (k + 1) y0 y1 y2 y3 y4 y5 y6 y7 y8 y9 y10 y11 y12 y13)) ∧ (∀ y0 y1 y2 y3, LeO (impl_DfaOk.j4 k y0 y1 y2 y3) (impl_DfaOk.j4 (k + 1) y0 y1 y2 y3)) ∧ (∀ y0 y1 y2 y3 y4 y5, LeO (impl_DfaOk.l2 k y0 y1 y2 y3 y4 y5) (impl_DfaOk.l2 (k + 1) y0 y1 y2 y3 y4 y5)) ∧ (∀ y0 y1 y2 y3 y4 y5 y6 y7, LeO (impl_DfaOk.j6 k y0 y1 y2 y3 y4 y5 y6 y7) (impl_DfaOk.j6 (k + 1) y0 y1 y2 y3 y4 y5 y6 y7)) ∧ (∀ y0 y1 y2 y3 y4 y5 y6 y7 y8, LeO (impl_DfaOk.l3 k y0 y1 y2 y3 y4 y5 y6 y7 y8) (impl_DfaOk.l3 (k + 1) y0 y1 y2 y3 y4 y5 y6 y7 y8))
  | 0 => ⟨fun _ _ _ _ _ _ _ _ _ r h => by simp [impl_DfaOk.l0] at h, fun _ _ _ _ _ _ _ _ _ _ r h => by simp [impl_DfaOk.j1] at h, fun _ _ _ _ _ _ _ _ _ _ _ r h => by simp [impl_DfaOk.l1] at h, fun _ _ _ _ _ _ _ _ _ _ _ _ _ _ r h => by simp [impl_DfaOk.j3] at h, fun _ _ _ _ r h => by simp [impl_DfaOk.j4] at h, fun _ _ _ _ _ _ r h => by simp [impl_DfaOk.l2] at h, fun _ _ _ _ _ _ _ _ r h => by simp [impl_DfaOk.j6] at h, fun _ _ _ _ _ _ _ _ _ r h => by simp [impl_DfaOk.l3] at h⟩
  | k + 1 => by
    obtain ⟨ih0, ih1, ih2, ih3, ih4, ih5, ih6, ih7⟩ := impl_DfaOk.mono_l k
    refine ⟨?_, ?_, ?_, ?_, ?_, ?_, ?_, ?_⟩
    · intro y0 y1 y2 y3 y4 y5 y6 y7 y8
      unfold impl_DfaOk.l0
      repeat' first
      | (with_reducible exact ih0 _ _ _ _ _ _ _ _ _)
      | (with_reducible exact ih1 _ _ _ _ _ _ _ _ _ _)
      | (with_reducible exact ih2 _ _ _ _ _ _ _ _ _ _ _)
      | (with_reducible exact ih3 _ _ _ _ _ _ _ _ _ _ _ _ _ _)
      | (with_reducible exact ih4 _ _ _ _)
      | (with_reducible exact ih5 _ _ _ _ _ _)
      | (with_reducible exact ih6 _ _ _ _ _ _ _ _)
      | (with_reducible exact ih7 _ _ _ _ _ _ _ _ _)
      | (with_reducible exact impl_SetOk.mono _ _)
      | (with_reducible exact impl_bitsOf.mono _ _)
      | (with_reducible exact LeO.refl _)
      | (with_reducible exact LeO.none _)
      | (with_reducible refine LeO.ite ?_ ?_)
      | (with_reducible refine LeO.bind ?_ (fun _ => ?_))
      | exact ih0 _ _ _ _ _ _ _ _ _
      | exact ih1 _ _ _ _ _ _ _ _ _ _
      | exact ih2 _ _ _ _ _ _ _ _ _ _ _
      | exact ih3 _ _ _ _ _ _ _ _ _ _ _ _ _ _
      | exact ih4 _ _ _ _
      | exact ih5 _ _ _ _ _ _
      | exact ih6 _ _ _ _ _ _ _ _
      | exact ih7 _ _ _ _ _ _ _ _ _
      | exact impl_SetOk.mono _ _
      | exact impl_bitsOf.mono _ _
      | exact LeO.none _
      | refine LeO.ite ?_ ?_
      | refine LeO.bind ?_ (fun _ => ?_)
    · intro y0 y1 y2 y3 y4 y5 y6 y7 y8 y9
      unfold impl_DfaOk.j1
      repeat' first
      | (with_reducible exact ih0 _ _ _ _ _ _ _ _ _)
      | (with_reducible exact ih1 _ _ _ _ _ _ _ _ _ _)
      | (with_reducible exact ih2 _ _ _ _ _ _ _ _ _ _ _)
      | (with_reducible exact ih3 _ _ _ _ _ _ _ _ _ _ _ _ _ _)
      | (with_reducible exact ih4 _ _ _ _)
      | (with_reducible exact ih5 _ _ _ _ _ _)
      | (with_reducible exact ih6 _ _ _ _ _ _ _ _)
      | (with_reducible exact ih7 _ _ _ _ _ _ _ _ _)
      | (with_reducible exact impl_SetOk.mono _ _)
      | (with_reducible exact impl_bitsOf.mono _ _)
      | (with_reducible exact LeO.refl _)
      | (with_reducible exact LeO.none _)
      | (with_reducible refine LeO.ite ?_ ?_)
      | (with_reducible refine LeO.bind ?_ (fun _ => ?_))
      | exact ih0 _ _ _ _ _ _ _ _ _
      | exact ih1 _ _ _ _ _ _ _ _ _ _
      | exact ih2 _ _ _ _ _ _ _ _ _ _ _
      | exact ih3 _ _ _ _ _ _ _ _ _ _ _ _ _ _
      | exact ih4 _ _ _ _
      | exact ih5 _ _ _ _ _ _
      | exact ih6 _ _ _ _ _ _ _ _
      | exact ih7 _ _ _ _ _ _ _ _ _
      | exact impl_SetOk.mono _ _
      | exact impl_bitsOf.mono _ _
      | exact LeO.none _
      | refine LeO.ite ?_ ?_
      | refine LeO.bind ?_ (fun _ => ?_)
    · intro y0 y1 y2 y3 y4 y5 y6 y7 y8 y9 y10
      unfold impl_DfaOk.l1
      repeat' first
      | (with_reducible exact ih0 _ _ _ _ _ _ _ _ _)
      | (with_reducible exact ih1 _ _ _ _ _ _ _ _ _ _)
      | (with_reducible exact ih2 _ _ _ _ _ _ _ _ _ _ _)
      | (with_reducible exact ih3 _ _ _ _ _ _ _ _ _ _ _ _ _ _)
      | (with_reducible exact ih4 _ _ _ _)
      | (with_reducible exact ih5 _ _ _ _ _ _)
      | (with_reducible exact ih6 _ _ _ _ _ _ _ _)
      | (with_reducible exact ih7 _ _ _ _ _ _ _ _ _)
      | (with_reducible exact impl_SetOk.mono _ _)
      | (with_reducible exact impl_bitsOf.mono _ _)
      | (with_reducible exact LeO.refl _)
      | (with_reducible exact LeO.none _)
      | (with_reducible refine LeO.ite ?_ ?_)
      | (with_reducible refine LeO.bind ?_ (fun _ => ?_))
      | exact ih0 _ _ _ _ _ _ _ _ _
      | exact ih1 _ _ _ _ _ _ _ _ _ _
      | exact ih2 _ _ _ _ _ _ _ _ _ _ _
      | exact ih3 _ _ _ _ _ _ _ _ _ _ _ _ _ _
      | exact ih4 _ _ _ _
      | exact ih5 _ _ _ _ _ _
      | exact ih6 _ _ _ _ _ _ _ _
      | exact ih7 _ _ _ _ _ _ _ _ _
      | exact impl_SetOk.mono _ _
      | exact impl_bitsOf.mono _ _
      | exact LeO.none _
      | refine LeO.ite ?_ ?_
      | refine LeO.bind ?_ (fun _ => ?_)
    · intro y0 y1 y2 y3 y4 y5 y6 y7 y8 y9 y10 y11 y12 y13
      unfold impl_DfaOk.j3
      repeat' first
      | (with_reducible exact ih0 _ _ _ _ _ _ _ _ _)
      | (with_reducible exact ih1 _ _ _ _ _ _ _ _ _ _)
      | (with_reducible exact ih2 _ _ _ _ _ _ _ _ _ _ _)
      | (with_reducible exact ih3 _ _ _ _ _ _ _ _ _ _ _ _ _ _)
      | (with_reducible exact ih4 _ _ _ _)
      | (with_reducible exact ih5 _ _ _ _ _ _)
      | (with_reducible exact ih6 _ _ _ _ _ _ _ _)
      | (with_reducible exact ih7 _ _ _ _ _ _ _ _ _)
      | (with_reducible exact impl_SetOk.mono _ _)
      | (with_reducible exact impl_bitsOf.mono _ _)
      | (with_reducible exact LeO.refl _)
      | (with_reducible exact LeO.none _)
      | (with_reducible refine LeO.ite ?_ ?_)
      | (with_reducible refine LeO.bind ?_ (fun _ => ?_))
      | exact ih0 _ _ _ _ _ _ _ _ _
      | exact ih1 _ _ _ _ _ _ _ _ _ _
      | exact ih2 _ _ _ _ _ _ _ _ _ _ _
      | exact ih3 _ _ _ _ _ _ _ _ _ _ _ _ _ _
      | exact ih4 _ _ _ _
      | exact ih5 _ _ _ _ _ _
      | exact ih6 _ _ _ _ _ _ _ _
      | exact ih7 _ _ _ _ _ _ _ _ _
      | exact impl_SetOk.mono _ _
      | exact impl_bitsOf.mono _ _
      | exact LeO.none _
      | refine LeO.ite ?_ ?_
      | refine LeO.bind ?_ (fun _ => ?_)
    · intro y0 y1 y2 y3
      unfold impl_DfaOk.j4
      repeat' first
      | (with_reducible exact ih0 _ _ _ _ _ _ _ _ _)
      | (with_reducible exact ih1 _ _ _ _ _ _ _ _ _ _)
      | (with_reducible exact ih2 _ _ _ _ _ _ _ _ _ _ _)
      | (with_reducible exact ih3 _ _ _ _ _ _ _ _ _ _ _ _ _ _)
      | (with_reducible exact ih4 _ _ _ _)
      | (with_reducible exact ih5 _ _ _ _ _ _)
      | (with_reducible exact ih6 _ _ _ _ _ _ _ _)
      | (with_reducible exact ih7 _ _ _ _ _ _ _ _ _)
      | (with_reducible exact impl_SetOk.mono _ _)
      | (with_reducible exact impl_bitsOf.mono _ _)
      | (with_reducible exact LeO.refl _)
      | (with_reducible exact LeO.none _)
      | (with_reducible refine LeO.ite ?_ ?_)
      | (with_reducible refine LeO.bind ?_ (fun _ => ?_))
      | exact ih0 _ _ _ _ _ _ _ _ _
      | exact ih1 _ _ _ _ _ _ _ _ _ _
      | exact ih2 _ _ _ _ _ _ _ _ _ _ _
      | exact ih3 _ _ _ _ _ _ _ _ _ _ _ _ _ _
      | exact ih4 _ _ _ _
      | exact ih5 _ _ _ _ _ _
      | exact ih6 _ _ _ _ _ _ _ _
      | exact ih7 _ _ _ _ _ _ _ _ _
      | exact impl_SetOk.mono _ _
      | exact impl_bitsOf.mono _ _
      | exact LeO.none _
      | refine LeO.ite ?_ ?_
      | refine LeO.bind ?_ (fun _ => ?_)
    · intro y0 y1 y2 y3 y4 y5
      unfold impl_DfaOk.l2
      repeat' first
      | (with_reducible exact ih0 _ _ _ _ _ _ _ _ _)
      | (with_reducible exact ih1 _ _ _ _ _ _ _ _ _ _)
      | (with_reducible exact ih2 _ _ _ _ _ _ _ _ _ _ _)
      | (with_reducible exact ih3 _ _ _ _ _ _ _ _ _ _ _ _ _ _)
      | (with_reducible exact ih4 _ _ _ _)
      | (with_reducible exact ih5 _ _ _ _ _ _)
      | (with_reducible exact ih6 _ _ _ _ _ _ _ _)
      | (with_reducible exact ih7 _ _ _ _ _ _ _ _ _)
      | (with_reducible exact impl_SetOk.mono _ _)
      | (with_reducible exact impl_bitsOf.mono _ _)
      | (with_reducible exact LeO.refl _)
      | (with_reducible exact LeO.none _)
      | (with_reducible refine LeO.ite ?_ ?_)
      | (with_reducible refine LeO.bind ?_ (fun _ => ?_))
      | exact ih0 _ _ _ _ _ _ _ _ _
      | exact ih1 _ _ _ _ _ _ _ _ _ _
      | exact ih2 _ _ _ _ _ _ _ _ _ _ _
      | exact ih3 _ _ _ _ _ _ _ _ _ _ _ _ _ _
      | exact ih4 _ _ _ _
      | exact ih5 _ _ _ _ _ _
      | exact ih6 _ _ _ _ _ _ _ _
      | exact ih7 _ _ _ _ _ _ _ _ _
      | exact impl_SetOk.mono _ _
      | exact impl_bitsOf.mono _ _
      | exact LeO.none _
      | refine LeO.ite ?_ ?_
      | refine LeO.bind ?_ (fun _ => ?_)
    · intro y0 y1 y2 y3 y4 y5 y6 y7
      unfold impl_DfaOk.j6
      repeat' first
      | (with_reducible exact ih0 _ _ _ _ _ _ _ _ _)
      | (with_reducible exact ih1 _ _ _ _ _ _ _ _ _ _)
      | (with_reducible exact ih2 _ _ _ _ _ _ _ _ _ _ _)
      | (with_reducible exact ih3 _ _ _ _ _ _ _ _ _ _ _ _ _ _)
      | (with_reducible exact ih4 _ _ _ _)
      | (with_reducible exact ih5 _ _ _ _ _ _)
      | (with_reducible exact ih6 _ _ _ _ _ _ _ _)
      | (with_reducible exact ih7 _ _ _ _ _ _ _ _ _)
      | (with_reducible exact impl_SetOk.mono _ _)
      | (with_reducible exact impl_bitsOf.mono _ _)
      | (with_reducible exact LeO.refl _)
      | (with_reducible exact LeO.none _)
      | (with_reducible refine LeO.ite ?_ ?_)
      | (with_reducible refine LeO.bind ?_ (fun _ => ?_))
      | exact ih0 _ _ _ _ _ _ _ _ _
      | exact ih1 _ _ _ _ _ _ _ _ _ _
      | exact ih2 _ _ _ _ _ _ _ _ _ _ _
      | exact ih3 _ _ _ _ _ _ _ _ _ _ _ _ _ _
      | exact ih4 _ _ _ _
      | exact ih5 _ _ _ _ _ _
      | exact ih6 _ _ _ _ _ _ _ _
      | exact ih7 _ _ _ _ _ _ _ _ _
      | exact impl_SetOk.mono _ _
      | exact impl_bitsOf.mono _ _
      | exact LeO.none _
      | refine LeO.ite ?_ ?_
      | refine LeO.bind ?_ (fun _ => ?_)
    · intro y0 y1 y2 y3 y4 y5 y6 y7 y8
      unfold impl_DfaOk.l3
      repeat' first
      | (with_reducible exact ih0 _ _ _ _ _ _ _ _ _)
      | (with_reducible exact ih1 _ _ _ _ _ _ _ _ _ _)
      | (with_reducible exact ih2 _ _ _ _ _ _ _ _ _ _ _)
      | (with_reducible exact ih3 _ _ _ _ _ _ _ _ _ _ _ _ _ _)
      | (with_reducible exact ih4 _ _ _ _)
      | (with_reducible exact ih5 _ _ _ _ _ _)
      | (with_reducible exact ih6 _ _ _ _ _ _ _ _)
      | (with_reducible exact ih7 _ _ _ _ _ _ _ _ _)
      | (with_reducible exact impl_SetOk.mono _ _)
      | (with_reducible exact impl_bitsOf.mono _ _)
      | (with_reducible exact LeO.refl _)
      | (with_reducible exact LeO.none _)
      | (with_reducible refine LeO.ite ?_ ?_)
      | (with_reducible refine LeO.bind ?_ (fun _ => ?_))
      | exact ih0 _ _ _ _ _ _ _ _ _
      | exact ih1 _ _ _ _ _ _ _ _ _ _
      | exact ih2 _ _ _ _ _ _ _ _ _ _ _
      | exact ih3 _ _ _ _ _ _ _ _ _ _ _ _ _ _
      | exact ih4 _ _ _ _
      | exact ih5 _ _ _ _ _ _
      | exact ih6 _ _ _ _ _ _ _ _
      | exact ih7 _ _ _ _ _ _ _ _ _
      | exact impl_SetOk.mono _ _
      | exact impl_bitsOf.mono _ _
      | exact LeO.none _
      | refine LeO.ite ?_ ?_
      | refine LeO.bind ?_ (fun _ => ?_)
theorem impl_DfaOk.mono : ∀ a0 a1 a2 k, LeO (impl_DfaOk.f k a0 a1 a2) (impl_DfaOk.f (k + 1) a0 a1 a2) := by
  intro a0 a1 a2 k
  obtain ⟨ih0, ih1, ih2, ih3, ih4, ih5, ih6, ih7⟩ := impl_DfaOk.mono_l k
  unfold impl_DfaOk.f
  repeat' first
      | (with_reducible exact ih0 _ _ _ _ _ _ _ _ _)
      | (with_reducible exact ih1 _ _ _ _ _ _ _ _ _ _)
      | (with_reducible exact ih2 _ _ _ _ _ _ _ _ _ _ _)
      | (with_reducible exact ih3 _ _ _ _ _ _ _ _ _ _ _ _ _ _)
      | (with_reducible exact ih4 _ _ _ _)
      | (with_reducible exact ih5 _ _ _ _ _ _)
      | (with_reducible exact ih6 _ _ _ _ _ _ _ _)
      | (with_reducible exact ih7 _ _ _ _ _ _ _ _ _)
      | (with_reducible exact impl_SetOk.mono _ _)
      | (with_reducible exact impl_bitsOf.mono _ _)
      | (with_reducible exact LeO.refl _)
      | (with_reducible exact LeO.none _)
      | (with_reducible refine LeO.ite ?_ ?_)
      | (with_reducible refine LeO.bind ?_ (fun _ => ?_))
      | exact ih0 _ _ _ _ _ _ _ _ _
      | exact ih1 _ _ _ _ _ _ _ _ _ _
      | exact ih2 _ _ _ _ _ _ _ _ _ _ _
      | exact ih3 _ _ _ _ _ _ _ _ _ _ _ _ _ _
      | exact ih4 _ _ _ _
      | exact ih5 _ _ _ _ _ _
      | exact ih6 _ _ _ _ _ _ _ _
      | exact ih7 _ _ _ _ _ _ _ _ _
      | exact impl_SetOk.mono _ _
      | exact impl_bitsOf.mono _ _
      | exact LeO.none _
      | refine LeO.ite ?_ ?_
      | refine LeO.bind ?_ (fun _ => ?_)
set_option maxHeartbeats 8000000 in
set_option maxRecDepth 100000 in
theorem impl_DfaOk.calls (k : Nat) (A0_0 : Option Addr) (c0_0 : Nat) (l0_0 : List (List (S115))) (A0_1 : Option Addr) (c0_1 : Nat) (l0_1 : List (List Int)) (A0_2 : Option Addr) (c0_2 : Nat) (l0_2 : List Int) (r : Bool) (w : World) (hr0_0 : Kd.C (Kd.slice 115 k115) w A0_0 l0_0.length l0_0) (hc0_0 : l0_0.length ≤ c0_0) (hr0_1 : Kd.C (Kd.slice 3 (Kd.int .i64)) w A0_1 l0_1.length l0_1) (hc0_1 : l0_1.length ≤ c0_1) (hr0_2 : Kd.C (Kd.int .i64) w A0_2 l0_2.length l0_2) (hc0_2 : l0_2.length ≤ c0_2) (h : impl_DfaOk.f k l0_0 l0_1 l0_2 = some r) :
    Calls Try.prog 48 #[.agg #[.slice A0_0 l0_0.length c0_0, .slice A0_1 l0_1.length c0_1, .slice A0_2 l0_2.length c0_2]] w fun e w' => e = .returned (.bool r) ∧ Below w.heap.size w w' := by
  have hu55 := Try.underlying55
  have HR0_0 := Aside0.mk hr0_0
  have HC0_0 := Aside0.mk hc0_0
  clear hr0_0 hc0_0
  have HR0_1 := Aside0.mk hr0_1
  have HC0_1 := Aside0.mk hc0_1
  clear hr0_1 hc0_1
  have HR0_2 := Aside0.mk hr0_2
  have HC0_2 := Aside0.mk hc0_2
  clear hr0_2 hc0_2
  have HB := Aside0.mk (Below.refl w.heap.size w)
  have H : (impl_DfaOk.l0 k (-1) 0 l0_0 (l0_0.length : Int) 0 l0_0 l0_1 l0_2 (List.replicate 256 false)) = some r := h
  clear h
  have H' := Aside0.mk H
  clear H
  go_enter Try.func48, Try.ntmps48
  go_wp2_with (first | ((with_reducible refine gate_dst (N := 1) rfl ?_); (try (refine gate_guard (by rfl) ?_; dsimp only)); refine box_event ?hg (N := 1) ?hd (cs := #[.slice A0_0 l0_0.length c0_0, .slice A0_1 l0_1.length c0_1, .slice A0_2 l0_2.length c0_2]) (t := 55) ?hr ?_; (case hd => rfl); (case hg => rfl); (case hr => first | (go_simp; done) | (go_simp; rfl)); intro gb734 hg w2 hbox hb; have n0_ := Aside0.mk (below_step (by repeat (first | (with_reducible first | exact HB.out | apply below_alloc | apply pw_below_drewN | apply below_drew1) | exact HB.out)) hb); have n1_ := Aside0.mk (hbox); have n2_ := Aside0.mk ((by rw [hg]; exact (below_size (by repeat (first | (with_reducible first | exact HB.out | apply below_alloc | apply pw_below_drewN | apply below_drew1) | exact HB.out))) : w.heap.size ≤ gb734)); have n3_ := Aside0.mk ((by rw [hg]; exact (below_size (by repeat (first | (with_reducible first | exact HB.out | apply below_alloc | apply pw_below_drewN | apply below_drew1) | exact HB.out))) : w.heap.size ≤ gb734)); clear HB; have HB := n0_; have BK734 := n1_; have GW734 := n2_; have GE734 := n3_; clear n0_ n1_ n2_ n3_; clear hb hbox hg) | ((with_reducible refine gate_dst (N := 3) rfl ?_); (try (refine gate_guard (by rfl) ?_; dsimp only)); refine box_event ?hg (N := 3) ?hd (cs := cellsB 256 (List.replicate 256 false)) (t := 112) ?hr ?_; (case hd => rfl); (case hg => rfl); (case hr => first | (go_simp; done) | (go_simp; rfl) | (go_simp; rw [show Try.zeroCells112 = cellsB 256 (List.replicate 256 false) from by kernel_rfl]; done) | (go_simp; rw [show Try.zeroCells112 = cellsB 256 (List.replicate 256 false) from by kernel_rfl]; rfl)); intro gb735 hg w3 hbox hb; have n0_ := Aside0.mk (blk_below (g := gb734) (o := .cells #[.slice A0_0 l0_0.length c0_0, .slice A0_1 l0_1.length c0_1, .slice A0_2 l0_2.length c0_2] 55 (0, 0)) (by (with_reducible repeat (first | refine blk_drewN ?_ _ | refine blk_drew ?_ | refine blk_alloc ?_ _)); exact BK734.out) hb); have n1_ := Aside0.mk (below_step (by repeat (first | (with_reducible first | exact HB.out | apply below_alloc | apply pw_below_drewN | apply below_drew1 | refine below_set ?_ GE734.out) | exact HB.out)) hb); have n2_ := Aside0.mk (hbox); have n3_ := Aside0.mk ((by rw [hg]; exact (below_size (by repeat (first | (with_reducible first | exact HB.out | apply below_alloc | apply pw_below_drewN | apply below_drew1 | refine below_set ?_ GE734.out) | exact HB.out))) : w.heap.size ≤ gb735)); have n4_ := Aside0.mk ((by rw [hg]; exact (below_size (by repeat (first | (with_reducible first | exact HB.out | apply below_alloc | apply pw_below_drewN | apply below_drew1 | refine below_set ?_ GE734.out) | exact HB.out))) : w.heap.size ≤ gb735)); have n5_ := Aside0.mk ((by rw [hg]; exact Nat.ne_of_lt (blk_lt (g := gb734) (o := .cells #[.slice A0_0 l0_0.length c0_0, .slice A0_1 l0_1.length c0_1, .slice A0_2 l0_2.length c0_2] 55 (0, 0)) (by (with_reducible repeat (first | refine blk_drewN ?_ _ | refine blk_drew ?_ | refine blk_alloc ?_ _)); exact BK734.out)) : gb734 ≠ gb735)); have n6_ := Aside0.mk ((by rw [hg]; exact Nat.ne_of_gt (blk_lt (g := gb734) (o := .cells #[.slice A0_0 l0_0.length c0_0, .slice A0_1 l0_1.length c0_1, .slice A0_2 l0_2.length c0_2] 55 (0, 0)) (by (with_reducible repeat (first | refine blk_drewN ?_ _ | refine blk_drew ?_ | refine blk_alloc ?_ _)); exact BK734.out)) : gb735 ≠ gb734)); clear BK734; clear HB; have BK734 := n0_; have HB := n1_; have BK735 := n2_; have GW735 := n3_; have GE735 := n4_; have NB734_735 := n5_; have NB735_734 := n6_; clear n0_ n1_ n2_ n3_ n4_ n5_ n6_; clear hb hbox hg; have hnb4 := NB734_735.out; have hnc4 := NB735_734.out; have hcz5_0 : w3.cell? ⟨gb734, 0, none⟩ = some (.slice A0_0 l0_0.length c0_0) := (blk_cell BK734.out 0).trans rfl; have hcz5_1 : w3.cell? ⟨gb734, 1, none⟩ = some (.slice A0_1 l0_1.length c0_1) := (blk_cell BK734.out 1).trans rfl; have hcz5_2 : w3.cell? ⟨gb734, 2, none⟩ = some (.slice A0_2 l0_2.length c0_2) := (blk_cell BK734.out 2).trans rfl; have hfz5_0 := blk_frozen BK734.out 0; have hfz5_1 := blk_frozen BK734.out 1; have hfz5_2 := blk_frozen BK734.out 2))
  go_loopg [4, 5, 17] k (fun kq v4 v5 v17 w' => ∃ (x4_1 : Int) (x5_1 : Int) (x17_1 : Int) (x736000_1 : List Bool), v4 = .int .i64 x4_1 ∧ v5 = .int .i64 x5_1 ∧ v17 = .int .i64 x17_1 ∧ Aside0 (impl_DfaOk.l0 kq x4_1 x5_1 l0_0 (l0_0.length : Int) x17_1 l0_0 l0_1 l0_2 x736000_1 = some r) ∧ Aside0 (kq ≤ k) ∧ Aside0 (w'.heap[gb734]? = some (.cells #[(.slice A0_0 l0_0.length c0_0), (.slice A0_1 l0_1.length c0_1), (.slice A0_2 l0_2.length c0_2)] 55 (0, 0))) ∧ Aside0 (w'.heap[gb735]? = some (.cells (cellsB 256 x736000_1) 112 (0, 0))) ∧ Aside0 (Below w.heap.size w w'))
  case atStart => exact ⟨((-1)), (0), (0), ((List.replicate 256 false)), (by first | rfl | (simp; done) | (simp [*]; done)), (by first | rfl | (simp; done) | (simp [*]; done)), (by first | rfl | (simp; done) | (simp [*]; done)), H', ⟨Nat.le_refl _⟩, ⟨by (with_reducible repeat (first | refine blk_drewN ?_ _ | refine blk_drew ?_ | refine blk_alloc ?_ _)); exact BK734.out⟩, ⟨by (with_reducible repeat (first | refine blk_drewN ?_ _ | refine blk_drew ?_ | refine blk_alloc ?_ _)); exact BK735.out⟩, ⟨by repeat (first | (with_reducible first | exact HB.out | apply below_alloc | apply pw_below_drewN | apply below_drew1 | refine below_set ?_ GE734.out | refine below_set ?_ GE735.out) | exact HB.out)⟩⟩
  case round =>
    clear H'
    try clear p2
    try clear c4
    try clear hcz5_0
    try clear hcz5_1
    try clear hcz5_2
    try clear hfz5_0
    try clear hfz5_1
    try clear hfz5_2
    obtain ⟨x4_1, x5_1, x17_1, x736000_1, rfl, rfl, rfl, HA, HK1, BK734, BK735, HB⟩ := hrel
    cases gk with
    | zero => exact absurd HA.out (by simp [impl_DfaOk.l0])
    | succ k1 =>
      have H := HA.out
      clear HA
      simp only [impl_DfaOk.l0] at H
      by_cases c6 : x17_1 < (l0_0.length : Int)
      · rw [if_pos c6] at H
        have c6b0 : decide (x17_1 < (l0_0.length : Int)) = true := decide_eq_true c6
        clear c6
        by_cases c7 : 0 ≤ x17_1
        · rw [if_pos c7] at H
          have c7b0 : decide (0 ≤ x17_1) = true := decide_eq_true c7
          clear c7
          by_cases c8 : x17_1 < (l0_0.length : Int)
          · rw [if_pos c8] at H
            have c8b0 : decide (x17_1 < (l0_0.length : Int)) = true := decide_eq_true c8
            clear c8
            have HC9 := Aside0.mk H
            clear H
            have p736 : 0 ≤ (x17_1 : Int) := of_decide_eq_true (by first | (with_reducible assumption) | assumption)
            have q736 : x17_1 < (l0_0.length : Int) := of_decide_eq_true (by first | (with_reducible assumption) | assumption)
            obtain ⟨ad736, A736_0, c736_0, e736, hx736_0, hl736_0, hi736_0⟩ := at_L11 HR0_0.out x17_1 p736 q736
            cases e736
            replace hx736_0 := (HB.out.cell (World.block_lt_of_cell? w _ hx736_0)).trans hx736_0
            have HR736_0 := Aside0.mk hi736_0
            have HC736_0 := Aside0.mk hl736_0
            clear hi736_0 hl736_0
            replace p736 := eq_true p736
            replace q736 := eq_true q736
            go_upto_region 7 with (fail)
            go_cut [36] (fun v36 wc => ∃ (kq : Nat) (x36_8 : Bool), v36 = .bool x36_8 ∧ Aside0 (impl_DfaOk.j1 kq x5_1 (rd_L11 l0_0 x17_1) l0_0 (l0_0.length : Int) x17_1 x36_8 l0_0 l0_1 l0_2 x736000_1 = some r) ∧ Aside0 (kq ≤ k1) ∧ Aside0 (wc.heap[gb734]? = some (.cells #[(.slice (some ad736) l0_0.length c0_0), (.slice A0_1 l0_1.length c0_1), (.slice A0_2 l0_2.length c0_2)] 55 (0, 0))) ∧ Aside0 (wc.heap[gb735]? = some (.cells (cellsB 256 x736000_1) 112 (0, 0))) ∧ Aside0 (Below w.heap.size w wc))
            case first =>
              have H := HC9.out
              clear HC9
              replace H := Option.bind_eq_some_iff.mp H
              obtain ⟨t737, A100, H⟩ := H
              replace H : (if t737 = true then (if ((rd_L11 l0_0 x17_1).length : Int) = 0 then (impl_DfaOk.j1 k1 x5_1 (rd_L11 l0_0 x17_1) l0_0 (l0_0.length : Int) x17_1 true l0_0 l0_1 l0_2 x736000_1) else (if 0 < ((rd_L11 l0_0 x17_1).length : Int) then (impl_DfaOk.j1 k1 x5_1 (rd_L11 l0_0 x17_1) l0_0 (l0_0.length : Int) x17_1 (decide (((rd_T115 (rd_L11 l0_0 x17_1) 0).f0) ≤ x4_1)) l0_0 l0_1 l0_2 x736000_1) else (none))) else (impl_DfaOk.j1 k1 x5_1 (rd_L11 l0_0 x17_1) l0_0 (l0_0.length : Int) x17_1 true l0_0 l0_1 l0_2 x736000_1)) = some r := H
              have A10 := Aside0.mk A100
              clear A100
              by_cases c11 : t737 = true
              · subst c11
                have H1 : (if ((rd_L11 l0_0 x17_1).length : Int) = 0 then (impl_DfaOk.j1 k1 x5_1 (rd_L11 l0_0 x17_1) l0_0 (l0_0.length : Int) x17_1 true l0_0 l0_1 l0_2 x736000_1) else (if 0 < ((rd_L11 l0_0 x17_1).length : Int) then (impl_DfaOk.j1 k1 x5_1 (rd_L11 l0_0 x17_1) l0_0 (l0_0.length : Int) x17_1 (decide (((rd_T115 (rd_L11 l0_0 x17_1) 0).f0) ≤ x4_1)) l0_0 l0_1 l0_2 x736000_1) else (none))) = some r := by rw [if_pos rfl] at H; exact H
                clear H
                have H := H1
                clear H1
                by_cases c12 : ((rd_L11 l0_0 x17_1).length : Int) = 0
                · rw [if_pos c12] at H
                  have c12b0 : (((rd_L11 l0_0 x17_1).length : Int) == 0) = true := beq_iff_eq.mpr c12
                  have c12b1 : (((rd_L11 l0_0 x17_1).length : Int) != 0) = false := bne_eq_false_iff_eq.mpr c12
                  clear c12
                  (first | rw [c12b0] | (simp only [i64_w, i32_w]; rw [c12b0]) | skip)
                  have H' := Aside0.mk H
                  clear H
                  go_wp2_with (first | ((with_reducible refine gate_callee (f := 86) rfl ?_); refine goesL_ (some 22) rfl rfl Try.func86 (by kernel_rfl) rfl #[.slice A736_0 (rd_L11 l0_0 x17_1).length c736_0] rfl (by (try simp only [List.map_toArray, List.map_cons, List.map_nil]); first | done | rfl | (simp only [List.length_drop, List.length_take]; rfl)) ?_; (with_reducible refine (impl_SetOk.calls k1 _ _ (rd_L11 l0_0 x17_1) true _ ?side1 ?side2 A10.out).mono ?_); (case side1 => repeat (first | exact (Kd.C_below HR736_0.out HB.out) | (with_reducible refine Kd.C_alloc ?_ _) | (with_reducible refine Kd.C_drewN ?_ _) | (with_reducible refine Kd.C_drew ?_))); (case side2 => exact HC736_0.out); rintro e w13 ⟨rfl, hb⟩; refine ⟨_, rfl, ?_⟩; have n0_ := Aside0.mk (blk_below (g := gb734) (o := .cells #[.slice (some ad736) l0_0.length c0_0, .slice A0_1 l0_1.length c0_1, .slice A0_2 l0_2.length c0_2] 55 (0, 0)) (by (with_reducible repeat (first | refine blk_drewN ?_ _ | refine blk_drew ?_ | refine blk_alloc ?_ _)); exact BK734.out) hb); have n1_ := Aside0.mk (blk_below (g := gb735) (o := .cells (cellsB 256 x736000_1) 112 (0, 0)) (by (with_reducible repeat (first | refine blk_drewN ?_ _ | refine blk_drew ?_ | refine blk_alloc ?_ _)); exact BK735.out) hb); have n2_ := Aside0.mk (below_step (by repeat (first | (with_reducible first | exact HB.out | apply below_alloc | apply pw_below_drewN | apply below_drew1 | refine below_set ?_ GE734.out | refine below_set ?_ GE735.out) | exact HB.out)) hb); clear BK734; clear BK735; clear HB; have BK734 := n0_; have BK735 := n1_; have HB := n2_; clear n0_ n1_ n2_; (try clear hb); (try clear hb2); (try clear hk); (try clear hi)))
                  go_meet
                  case rel => exact ⟨_, (true), (by first | rfl | (simp; done) | (simp [*]; done)), H', ⟨by have := HK1.out; first | omega | exact Nat.le_refl _⟩, ⟨by (with_reducible repeat (first | refine blk_drewN ?_ _ | refine blk_drew ?_ | refine blk_alloc ?_ _)); exact BK734.out⟩, ⟨by (with_reducible repeat (first | refine blk_drewN ?_ _ | refine blk_drew ?_ | refine blk_alloc ?_ _)); exact BK735.out⟩, ⟨by repeat (first | (with_reducible first | exact HB.out | apply below_alloc | apply pw_below_drewN | apply below_drew1 | refine below_set ?_ GE734.out | refine below_set ?_ GE735.out) | exact HB.out)⟩⟩
                · rw [if_neg c12] at H
                  have c12b0 : (((rd_L11 l0_0 x17_1).length : Int) == 0) = false := beq_eq_false_iff_ne.mpr c12
                  have c12b1 : (((rd_L11 l0_0 x17_1).length : Int) != 0) = true := bne_iff_ne.mpr c12
                  have c12b2 : ¬ ((rd_L11 l0_0 x17_1) = []) := fun h_ => c12 (by rw [h_]; rfl)
                  (first | rw [c12b0] | (simp only [i64_w, i32_w]; rw [c12b0]) | skip)
                  by_cases c14 : 0 < ((rd_L11 l0_0 x17_1).length : Int)
                  · rw [if_pos c14] at H
                    have c14b0 : decide (0 < ((rd_L11 l0_0 x17_1).length : Int)) = true := decide_eq_true c14
                    have c14b1 : decide (0 < (rd_L11 l0_0 x17_1).length) = true := decide_eq_true (by omega)
                    clear c14
                    have H' := Aside0.mk H
                    clear H
                    go_wp2_with (first | ((with_reducible refine gate_callee (f := 86) rfl ?_); refine goesL_ (some 22) rfl rfl Try.func86 (by kernel_rfl) rfl #[.slice A736_0 (rd_L11 l0_0 x17_1).length c736_0] rfl (by (try simp only [List.map_toArray, List.map_cons, List.map_nil]); first | done | rfl | (simp only [List.length_drop, List.length_take]; rfl)) ?_; (with_reducible refine (impl_SetOk.calls k1 _ _ (rd_L11 l0_0 x17_1) true _ ?side1 ?side2 A10.out).mono ?_); (case side1 => repeat (first | exact (Kd.C_below HR736_0.out HB.out) | (with_reducible refine Kd.C_alloc ?_ _) | (with_reducible refine Kd.C_drewN ?_ _) | (with_reducible refine Kd.C_drew ?_))); (case side2 => exact HC736_0.out); rintro e w15 ⟨rfl, hb⟩; refine ⟨_, rfl, ?_⟩; have n0_ := Aside0.mk (blk_below (g := gb734) (o := .cells #[.slice (some ad736) l0_0.length c0_0, .slice A0_1 l0_1.length c0_1, .slice A0_2 l0_2.length c0_2] 55 (0, 0)) (by (with_reducible repeat (first | refine blk_drewN ?_ _ | refine blk_drew ?_ | refine blk_alloc ?_ _)); exact BK734.out) hb); have n1_ := Aside0.mk (blk_below (g := gb735) (o := .cells (cellsB 256 x736000_1) 112 (0, 0)) (by (with_reducible repeat (first | refine blk_drewN ?_ _ | refine blk_drew ?_ | refine blk_alloc ?_ _)); exact BK735.out) hb); have n2_ := Aside0.mk (below_step (by repeat (first | (with_reducible first | exact HB.out | apply below_alloc | apply pw_below_drewN | apply below_drew1 | refine below_set ?_ GE734.out | refine below_set ?_ GE735.out) | exact HB.out)) hb); clear BK734; clear BK735; clear HB; have BK734 := n0_; have BK735 := n1_; have HB := n2_; clear n0_ n1_ n2_; (try clear hb); (try clear hb2); (try clear hk); (try clear hi); have p738 : 0 ≤ (0 : Int) := (by omega); have q738 : 0 < ((rd_L11 l0_0 x17_1).length : Int) := of_decide_eq_true (by first | (with_reducible assumption) | assumption); obtain ⟨ad738, e738, hx738_0, hx738_1⟩ := at_T115 HR736_0.out 0 p738 q738; cases e738; have qi738 : (0 < (rd_L11 l0_0 x17_1).length) = True := eq_true (by omega); (try rw [show ((0 : Int)).toNat = 0 from rfl] at hx738_0); (try rw [show 0 * 2 = 0 from rfl] at hx738_0); (try rw [Addr.add_zero'] at hx738_0); (try rw [show ((0 : Int)).toNat = 0 from rfl] at hx738_1); (try rw [show 0 * 2 = 0 from rfl] at hx738_1); (try rw [Addr.add_zero'] at hx738_1); replace hx738_0 := (HB.out.cell (World.block_lt_of_cell? w _ hx738_0)).trans hx738_0; replace hx738_1 := (HB.out.cell (World.block_lt_of_cell? w _ hx738_1)).trans hx738_1; replace p738 := eq_true p738; replace q738 := eq_true q738))
                    go_meet
                    case rel => exact ⟨_, (decide (((rd_T115 (rd_L11 l0_0 x17_1) 0).f0) ≤ x4_1)), (by first | rfl | (simp; done) | (simp [*]; done)), H', ⟨by have := HK1.out; first | omega | exact Nat.le_refl _⟩, ⟨by (with_reducible repeat (first | refine blk_drewN ?_ _ | refine blk_drew ?_ | refine blk_alloc ?_ _)); exact BK734.out⟩, ⟨by (with_reducible repeat (first | refine blk_drewN ?_ _ | refine blk_drew ?_ | refine blk_alloc ?_ _)); exact BK735.out⟩, ⟨by repeat (first | (with_reducible first | exact HB.out | apply below_alloc | apply pw_below_drewN | apply below_drew1 | refine below_set ?_ GE734.out | refine below_set ?_ GE735.out) | exact HB.out)⟩⟩
                  · rw [if_neg c14] at H
                    exact absurd H (by simp)
              · replace c11 := Bool.eq_false_iff.mpr c11
                subst c11
                have H1 : (impl_DfaOk.j1 k1 x5_1 (rd_L11 l0_0 x17_1) l0_0 (l0_0.length : Int) x17_1 true l0_0 l0_1 l0_2 x736000_1) = some r := by rw [if_neg (show ¬ (false = true) by decide)] at H; exact H
                clear H
                have H := H1
                clear H1
                have H' := Aside0.mk H
                clear H
                go_wp2_with (first | ((with_reducible refine gate_callee (f := 86) rfl ?_); refine goesL_ (some 22) rfl rfl Try.func86 (by kernel_rfl) rfl #[.slice A736_0 (rd_L11 l0_0 x17_1).length c736_0] rfl (by (try simp only [List.map_toArray, List.map_cons, List.map_nil]); first | done | rfl | (simp only [List.length_drop, List.length_take]; rfl)) ?_; (with_reducible refine (impl_SetOk.calls k1 _ _ (rd_L11 l0_0 x17_1) false _ ?side1 ?side2 A10.out).mono ?_); (case side1 => repeat (first | exact (Kd.C_below HR736_0.out HB.out) | (with_reducible refine Kd.C_alloc ?_ _) | (with_reducible refine Kd.C_drewN ?_ _) | (with_reducible refine Kd.C_drew ?_))); (case side2 => exact HC736_0.out); rintro e w16 ⟨rfl, hb⟩; refine ⟨_, rfl, ?_⟩; have n0_ := Aside0.mk (blk_below (g := gb734) (o := .cells #[.slice (some ad736) l0_0.length c0_0, .slice A0_1 l0_1.length c0_1, .slice A0_2 l0_2.length c0_2] 55 (0, 0)) (by (with_reducible repeat (first | refine blk_drewN ?_ _ | refine blk_drew ?_ | refine blk_alloc ?_ _)); exact BK734.out) hb); have n1_ := Aside0.mk (blk_below (g := gb735) (o := .cells (cellsB 256 x736000_1) 112 (0, 0)) (by (with_reducible repeat (first | refine blk_drewN ?_ _ | refine blk_drew ?_ | refine blk_alloc ?_ _)); exact BK735.out) hb); have n2_ := Aside0.mk (below_step (by repeat (first | (with_reducible first | exact HB.out | apply below_alloc | apply pw_below_drewN | apply below_drew1 | refine below_set ?_ GE734.out | refine below_set ?_ GE735.out) | exact HB.out)) hb); clear BK734; clear BK735; clear HB; have BK734 := n0_; have BK735 := n1_; have HB := n2_; clear n0_ n1_ n2_; (try clear hb); (try clear hb2); (try clear hk); (try clear hi)))
                go_meet
                case rel => exact ⟨_, (true), (by first | rfl | (simp; done) | (simp [*]; done)), H', ⟨by have := HK1.out; first | omega | exact Nat.le_refl _⟩, ⟨by (with_reducible repeat (first | refine blk_drewN ?_ _ | refine blk_drew ?_ | refine blk_alloc ?_ _)); exact BK734.out⟩, ⟨by (with_reducible repeat (first | refine blk_drewN ?_ _ | refine blk_drew ?_ | refine blk_alloc ?_ _)); exact BK735.out⟩, ⟨by repeat (first | (with_reducible first | exact HB.out | apply below_alloc | apply pw_below_drewN | apply below_drew1 | refine below_set ?_ GE734.out | refine below_set ?_ GE735.out) | exact HB.out)⟩⟩
            case rest =>
              clear HC9
              try clear c1
              try clear p2
              try clear c4
              try clear c6
              try clear c6b0
              try clear c7
              try clear c7b0
              try clear p7
              try clear q7
              try clear hx7
              try clear qi7
              try clear c8
              try clear c8b0
              try clear c11
              try clear c12
              try clear c12b0
              try clear c12b1
              try clear c12b2
              try clear c14
              try clear c14b0
              try clear c14b1
              try clear hcz5_0
              try clear hcz5_1
              try clear hcz5_2
              try clear hfz5_0
              try clear hfz5_1
              try clear hfz5_2
              try clear hx736_0
              try clear hx738_0
              try clear hx738_1
              try clear p2
              try clear p736
              try clear p738
              try clear q736
              try clear q738
              obtain ⟨kq, x36_8, rfl, HA, HJ8, BK734, BK735, HB⟩ := hcut
              cases kq with
              | zero => exact absurd HA.out (by simp [impl_DfaOk.j1])
              | succ kj8 =>
                have H := HA.out
                clear HA
                simp only [impl_DfaOk.j1] at H
                by_cases c17 : x36_8 = true
                · subst c17
                  have H1 : (some false) = some r := by rw [if_pos rfl] at H; exact H
                  clear H
                  have H := H1
                  clear H1
                  obtain rfl := Option.some.inj H
                  go_wp2
                  go_ret
                  exact ⟨by first | rfl | (simp [errW_none, errW_some] <;> rfl) | (simp [*, errW_none, errW_some] <;> rfl), by repeat (first | (with_reducible first | exact HB.out | apply below_alloc | apply pw_below_drewN | apply below_drew1 | refine below_set ?_ GE734.out | refine below_set ?_ GE735.out) | exact HB.out)⟩
                · replace c17 := Bool.eq_false_iff.mpr c17
                  subst c17
                  have H1 : (if 0 < ((rd_L11 l0_0 x17_1).length : Int) then ((impl_bitsOf.f kj8 (rd_L11 l0_0 x17_1)).bind fun t740 => (impl_DfaOk.l1 kj8 ((rd_T115 (rd_L11 l0_0 x17_1) 0).f0) x5_1 l0_0 (l0_0.length : Int) x17_1 t740 0 l0_0 l0_1 l0_2 x736000_1)) else (none)) = some r := by rw [if_neg (show ¬ (false = true) by decide)] at H; exact H
                  clear H
                  have H := H1
                  clear H1
                  by_cases c18 : 0 < ((rd_L11 l0_0 x17_1).length : Int)
                  · rw [if_pos c18] at H
                    have c18b0 : decide (0 < ((rd_L11 l0_0 x17_1).length : Int)) = true := decide_eq_true c18
                    have c18b1 : decide (0 < (rd_L11 l0_0 x17_1).length) = true := decide_eq_true (by omega)
                    clear c18
                    replace H := Option.bind_eq_some_iff.mp H
                    obtain ⟨t740, A190, H⟩ := H
                    replace H : (impl_DfaOk.l1 kj8 ((rd_T115 (rd_L11 l0_0 x17_1) 0).f0) x5_1 l0_0 (l0_0.length : Int) x17_1 t740 0 l0_0 l0_1 l0_2 x736000_1) = some r := H
                    have A19 := Aside0.mk A190
                    clear A190
                    have H' := Aside0.mk H
                    clear H
                    have p739 : 0 ≤ (0 : Int) := (by omega)
                    have q739 : 0 < ((rd_L11 l0_0 x17_1).length : Int) := of_decide_eq_true (by first | (with_reducible assumption) | assumption)
                    obtain ⟨ad739, e739, hx739_0, hx739_1⟩ := at_T115 HR736_0.out 0 p739 q739
                    cases e739
                    have qi739 : (0 < (rd_L11 l0_0 x17_1).length) = True := eq_true (by omega)
                    (try rw [show ((0 : Int)).toNat = 0 from rfl] at hx739_0)
                    (try rw [show 0 * 2 = 0 from rfl] at hx739_0)
                    (try rw [Addr.add_zero'] at hx739_0)
                    (try rw [show ((0 : Int)).toNat = 0 from rfl] at hx739_1)
                    (try rw [show 0 * 2 = 0 from rfl] at hx739_1)
                    (try rw [Addr.add_zero'] at hx739_1)
                    replace hx739_0 := (HB.out.cell (World.block_lt_of_cell? w _ hx739_0)).trans hx739_0
                    replace hx739_1 := (HB.out.cell (World.block_lt_of_cell? w _ hx739_1)).trans hx739_1
                    replace p739 := eq_true p739
                    replace q739 := eq_true q739
                    go_wp2_with (first | ((with_reducible refine gate_callee (f := 87) rfl ?_); refine goesL_ (some 42) rfl rfl Try.func87 (by kernel_rfl) rfl #[.slice (some ad739) (rd_L11 l0_0 x17_1).length c736_0] rfl (by (try simp only [List.map_toArray, List.map_cons, List.map_nil]); first | done | rfl | (simp only [List.length_drop, List.length_take]; rfl)) ?_; (with_reducible refine (impl_bitsOf.calls kj8 _ _ (rd_L11 l0_0 x17_1) t740 _ ?side1 ?side2 A19.out).mono ?_); (case side1 => repeat (first | exact (Kd.C_below HR736_0.out HB.out) | (with_reducible refine Kd.C_alloc ?_ _) | (with_reducible refine Kd.C_drewN ?_ _) | (with_reducible refine Kd.C_drew ?_))); (case side2 => exact HC736_0.out); rintro e w20 ⟨rfl, hb⟩; refine ⟨_, rfl, ?_⟩; have n0_ := Aside0.mk (blk_below (g := gb734) (o := .cells #[.slice (some ad736) l0_0.length c0_0, .slice A0_1 l0_1.length c0_1, .slice A0_2 l0_2.length c0_2] 55 (0, 0)) (by (with_reducible repeat (first | refine blk_drewN ?_ _ | refine blk_drew ?_ | refine blk_alloc ?_ _)); exact BK734.out) hb); have n1_ := Aside0.mk (blk_below (g := gb735) (o := .cells (cellsB 256 x736000_1) 112 (0, 0)) (by (with_reducible repeat (first | refine blk_drewN ?_ _ | refine blk_drew ?_ | refine blk_alloc ?_ _)); exact BK735.out) hb); have n2_ := Aside0.mk (below_step (by repeat (first | (with_reducible first | exact HB.out | apply below_alloc | apply pw_below_drewN | apply below_drew1 | refine below_set ?_ GE734.out | refine below_set ?_ GE735.out) | exact HB.out)) hb); clear BK734; clear BK735; clear HB; have BK734 := n0_; have BK735 := n1_; have HB := n2_; clear n0_ n1_ n2_; (try clear hb); (try clear hb2); (try clear hk); (try clear hi)))
                    go_loopg [5, 43] kj8 (fun kq v5 v43 w' => ∃ (x5_3 : Int) (x43_3 : Int) (x736000_3 : List Bool), v5 = .int .i64 x5_3 ∧ v43 = .int .i64 x43_3 ∧ Aside0 (impl_DfaOk.l1 kq ((rd_T115 (rd_L11 l0_0 x17_1) 0).f0) x5_3 l0_0 (l0_0.length : Int) x17_1 t740 x43_3 l0_0 l0_1 l0_2 x736000_3 = some r) ∧ Aside0 (kq ≤ kj8) ∧ Aside0 (w'.heap[gb734]? = some (.cells #[(.slice (some ad736) l0_0.length c0_0), (.slice A0_1 l0_1.length c0_1), (.slice A0_2 l0_2.length c0_2)] 55 (0, 0))) ∧ Aside0 (w'.heap[gb735]? = some (.cells (cellsB 256 x736000_3) 112 (0, 0))) ∧ Aside0 (Below w.heap.size w w'))
                    case atStart => exact ⟨(x5_1), (0), (x736000_1), (by first | rfl | (simp; done) | (simp [*]; done)), (by first | rfl | (simp; done) | (simp [*]; done)), H', ⟨Nat.le_refl _⟩, ⟨by (with_reducible repeat (first | refine blk_drewN ?_ _ | refine blk_drew ?_ | refine blk_alloc ?_ _)); exact BK734.out⟩, ⟨by (with_reducible repeat (first | refine blk_drewN ?_ _ | refine blk_drew ?_ | refine blk_alloc ?_ _)); exact BK735.out⟩, ⟨by repeat (first | (with_reducible first | exact HB.out | apply below_alloc | apply pw_below_drewN | apply below_drew1 | refine below_set ?_ GE734.out | refine below_set ?_ GE735.out) | exact HB.out)⟩⟩
                    case round =>
                      clear H'
                      try clear c1
                      try clear p2
                      try clear c4
                      try clear c6
                      try clear c6b0
                      try clear c7
                      try clear c7b0
                      try clear p7
                      try clear q7
                      try clear hx7
                      try clear qi7
                      try clear c8
                      try clear c8b0
                      try clear c11
                      try clear c12
                      try clear c12b0
                      try clear c12b1
                      try clear c12b2
                      try clear c14
                      try clear c14b0
                      try clear c14b1
                      try clear c17
                      try clear c18
                      try clear c18b0
                      try clear c18b1
                      try clear hcz5_0
                      try clear hcz5_1
                      try clear hcz5_2
                      try clear hfz5_0
                      try clear hfz5_1
                      try clear hfz5_2
                      try clear hx736_0
                      try clear hx738_0
                      try clear hx738_1
                      try clear hx739_0
                      try clear hx739_1
                      try clear p2
                      try clear p7
                      try clear p736
                      try clear p738
                      try clear p739
                      try clear q7
                      try clear q736
                      try clear q738
                      try clear q739
                      obtain ⟨x5_3, x43_3, x736000_3, rfl, rfl, HA, HK3, BK734, BK735, HB⟩ := hrel
                      cases gk with
                      | zero => exact absurd HA.out (by simp [impl_DfaOk.l1])
                      | succ k3 =>
                        have H := HA.out
                        clear HA
                        simp only [impl_DfaOk.l1] at H
                        by_cases c21 : x43_3 < 256
                        · rw [if_pos c21] at H
                          have c21b0 : decide (x43_3 < 256) = true := decide_eq_true c21
                          clear c21
                          by_cases c22 : 0 ≤ x43_3
                          · rw [if_pos c22] at H
                            have c22b0 : decide (0 ≤ x43_3) = true := decide_eq_true c22
                            clear c22
                            obtain ⟨bq23, hbq23⟩ : ∃ b_ : Bool, b_ = (getB t740 x43_3) := ⟨_, rfl⟩
                            replace H : (if bq23 = true then (impl_DfaOk.j3 k3 ((rd_T115 (rd_L11 l0_0 x17_1) 0).f0) x5_3 x43_3 bq23 l0_0 (l0_0.length : Int) x17_1 t740 x43_3 (getB x736000_3 x43_3) l0_0 l0_1 l0_2 x736000_3) else (impl_DfaOk.j3 k3 ((rd_T115 (rd_L11 l0_0 x17_1) 0).f0) x5_3 x43_3 bq23 l0_0 (l0_0.length : Int) x17_1 t740 x43_3 false l0_0 l0_1 l0_2 x736000_3)) = some r := by first | (rw [← hbq23] at H; exact H) | exact H
                            have Nbq23 := Aside0.mk hbq23
                            clear hbq23
                            have HC24 := Aside0.mk H
                            clear H
                            have p25 : 0 ≤ (x43_3 : Int) := of_decide_eq_true (by first | (with_reducible assumption) | assumption)
                            have q25 : (x43_3 : Int) < 256 := of_decide_eq_true (by first | (with_reducible assumption) | assumption)
                            go_upto_region 13 with (first | ((with_reducible refine gate_dst (N := 46) rfl ?_); refine wp_index_arr rfl 112 4 (.tmp 42) (.tmp 43) rfl 256 t740 x43_3 rfl rfl p25 q25 Try.underlying112 (by kernel_rfl) (by kernel_rfl) ?_; (try rw [← Nbq23.out])))
                            (try simp only [Act.put, List.setIfInBounds_toArray, List.set_cons_zero, List.set_cons_succ])
                            go_cut [52] (fun v52 wc => ∃ (kq : Nat) (x52_23 : Bool), v52 = .bool x52_23 ∧ Aside0 (impl_DfaOk.j3 kq ((rd_T115 (rd_L11 l0_0 x17_1) 0).f0) x5_3 x43_3 bq23 l0_0 (l0_0.length : Int) x17_1 t740 x43_3 x52_23 l0_0 l0_1 l0_2 x736000_3 = some r) ∧ Aside0 (kq ≤ k3) ∧ Aside0 (wc.heap[gb734]? = some (.cells #[(.slice (some ad736) l0_0.length c0_0), (.slice A0_1 l0_1.length c0_1), (.slice A0_2 l0_2.length c0_2)] 55 (0, 0))) ∧ Aside0 (wc.heap[gb735]? = some (.cells (cellsB 256 x736000_3) 112 (0, 0))) ∧ Aside0 (Below w.heap.size w wc))
                            case first =>
                              have H := HC24.out
                              clear HC24
                              by_cases c26 : bq23 = true
                              · subst c26
                                have H1 : (impl_DfaOk.j3 k3 ((rd_T115 (rd_L11 l0_0 x17_1) 0).f0) x5_3 x43_3 true l0_0 (l0_0.length : Int) x17_1 t740 x43_3 (getB x736000_3 x43_3) l0_0 l0_1 l0_2 x736000_3) = some r := by rw [if_pos rfl] at H; exact H
                                clear H
                                have H := H1
                                clear H1
                                obtain ⟨bq27, hbq27⟩ : ∃ b_ : Bool, b_ = (getB x736000_3 x43_3) := ⟨_, rfl⟩
                                replace H : (impl_DfaOk.j3 k3 ((rd_T115 (rd_L11 l0_0 x17_1) 0).f0) x5_3 x43_3 true l0_0 (l0_0.length : Int) x17_1 t740 x43_3 bq27 l0_0 l0_1 l0_2 x736000_3) = some r := by first | (rw [← hbq27] at H; exact H) | exact H
                                have Nbq27 := Aside0.mk hbq27
                                clear hbq27
                                have H' := Aside0.mk H
                                clear H
                                have hnb28 := NB735_734.out
                                have hnc28 := NB734_735.out
                                have pz741 : 0 ≤ (x43_3 : Int) := of_decide_eq_true (by first | (with_reducible assumption) | assumption)
                                have qz741 : (x43_3 : Int) < 256 := of_decide_eq_true (by first | (with_reducible assumption) | assumption)
                                have hxz741 : wr.cell? ⟨gb735, (x43_3 : Int).toNat, none⟩ = some (.bool (getB x736000_3 x43_3)) := cell_arr BK735.out x43_3 pz741 qz741
                                have hfz741 := blk_frozen BK735.out (x43_3 : Int).toNat
                                replace pz741 := eq_true pz741
                                replace qz741 := eq_true qz741
                                (try rw [← Nbq23.out] at hxz741)
                                (try rw [← Nbq27.out] at hxz741)
                                go_wp2
                                go_meet
                                case rel => exact ⟨_, (bq27), (by first | rfl | (simp; done) | (simp [*]; done)), H', ⟨by have := HK1.out; have := HJ8.out; have := HK3.out; first | omega | exact Nat.le_refl _⟩, ⟨by (with_reducible repeat (first | refine blk_drewN ?_ _ | refine blk_drew ?_ | refine blk_alloc ?_ _)); exact BK734.out⟩, ⟨by (with_reducible repeat (first | refine blk_drewN ?_ _ | refine blk_drew ?_ | refine blk_alloc ?_ _)); exact BK735.out⟩, ⟨by repeat (first | (with_reducible first | exact HB.out | apply below_alloc | apply pw_below_drewN | apply below_drew1 | refine below_set ?_ GE734.out | refine below_set ?_ GE735.out) | exact HB.out)⟩⟩
                              · replace c26 := Bool.eq_false_iff.mpr c26
                                subst c26
                                have H1 : (impl_DfaOk.j3 k3 ((rd_T115 (rd_L11 l0_0 x17_1) 0).f0) x5_3 x43_3 false l0_0 (l0_0.length : Int) x17_1 t740 x43_3 false l0_0 l0_1 l0_2 x736000_3) = some r := by rw [if_neg (show ¬ (false = true) by decide)] at H; exact H
                                clear H
                                have H := H1
                                clear H1
                                have H' := Aside0.mk H
                                clear H
                                go_wp2
                                go_meet
                                case rel => exact ⟨_, (false), (by first | rfl | (simp; done) | (simp [*]; done)), H', ⟨by have := HK1.out; have := HJ8.out; have := HK3.out; first | omega | exact Nat.le_refl _⟩, ⟨by (with_reducible repeat (first | refine blk_drewN ?_ _ | refine blk_drew ?_ | refine blk_alloc ?_ _)); exact BK734.out⟩, ⟨by (with_reducible repeat (first | refine blk_drewN ?_ _ | refine blk_drew ?_ | refine blk_alloc ?_ _)); exact BK735.out⟩, ⟨by repeat (first | (with_reducible first | exact HB.out | apply below_alloc | apply pw_below_drewN | apply below_drew1 | refine below_set ?_ GE734.out | refine below_set ?_ GE735.out) | exact HB.out)⟩⟩
                            case rest =>
                              clear HC24
                              try clear c1
                              try clear c2
                              try clear p2
                              try clear q2
                              try clear c4
                              try clear c6
                              try clear c6b0
                              try clear c7
                              try clear c7b0
                              try clear p7
                              try clear q7
                              try clear hx7
                              try clear qi7
                              try clear c8
                              try clear c8b0
                              try clear c11
                              try clear c12
                              try clear c12b0
                              try clear c12b1
                              try clear c12b2
                              try clear c14
                              try clear c14b0
                              try clear c14b1
                              try clear c17
                              try clear c18
                              try clear c18b0
                              try clear c18b1
                              try clear c21
                              try clear c21b0
                              try clear c22
                              try clear c22b0
                              try clear q23
                              try clear p25
                              try clear q25
                              try clear c26
                              try clear q27
                              try clear c28
                              try clear hcz5_0
                              try clear hcz5_1
                              try clear hcz5_2
                              try clear hfz5_0
                              try clear hfz5_1
                              try clear hfz5_2
                              try clear hx736_0
                              try clear hx738_0
                              try clear hx738_1
                              try clear hx739_0
                              try clear hx739_1
                              try clear p2
                              try clear p25
                              try clear p7
                              try clear p736
                              try clear p738
                              try clear p739
                              try clear q25
                              try clear q7
                              try clear q736
                              try clear q738
                              try clear q739
                              obtain ⟨kq, x52_23, rfl, HA, HJ23, BK734, BK735, HB⟩ := hcut
                              cases kq with
                              | zero => exact absurd HA.out (by simp [impl_DfaOk.j3])
                              | succ kj23 =>
                                have H := HA.out
                                clear HA
                                simp only [impl_DfaOk.j3] at H
                                by_cases c29 : x52_23 = true
                                · subst c29
                                  have H1 : (some false) = some r := by rw [if_pos rfl] at H; exact H
                                  clear H
                                  have H := H1
                                  clear H1
                                  obtain rfl := Option.some.inj H
                                  go_wp2
                                  go_ret
                                  exact ⟨by first | rfl | (simp [errW_none, errW_some] <;> rfl) | (simp [*, errW_none, errW_some] <;> rfl), by repeat (first | (with_reducible first | exact HB.out | apply below_alloc | apply pw_below_drewN | apply below_drew1 | refine below_set ?_ GE734.out | refine below_set ?_ GE735.out) | exact HB.out)⟩
                                · replace c29 := Bool.eq_false_iff.mpr c29
                                  subst c29
                                  have H1 : (if bq23 = true then (if 0 ≤ x43_3 then (if x43_3 < 256 then (impl_DfaOk.l1 kj23 ((rd_T115 (rd_L11 l0_0 x17_1) 0).f0) (wrap64 (x5_3 + 1)) l0_0 (l0_0.length : Int) x17_1 t740 (wrap64 (x43_3 + 1)) l0_0 l0_1 l0_2 (setB 256 x736000_3 x43_3 true)) else (none)) else (none)) else (impl_DfaOk.l1 kj23 ((rd_T115 (rd_L11 l0_0 x17_1) 0).f0) x5_3 l0_0 (l0_0.length : Int) x17_1 t740 (wrap64 (x43_3 + 1)) l0_0 l0_1 l0_2 x736000_3)) = some r := by rw [if_neg (show ¬ (false = true) by decide)] at H; exact H
                                  clear H
                                  have H := H1
                                  clear H1
                                  by_cases c30 : bq23 = true
                                  · subst c30
                                    have H1 : (if 0 ≤ x43_3 then (if x43_3 < 256 then (impl_DfaOk.l1 kj23 ((rd_T115 (rd_L11 l0_0 x17_1) 0).f0) (wrap64 (x5_3 + 1)) l0_0 (l0_0.length : Int) x17_1 t740 (wrap64 (x43_3 + 1)) l0_0 l0_1 l0_2 (setB 256 x736000_3 x43_3 true)) else (none)) else (none)) = some r := by rw [if_pos rfl] at H; exact H
                                    clear H
                                    have H := H1
                                    clear H1
                                    by_cases c31 : 0 ≤ x43_3
                                    · rw [if_pos c31] at H
                                      have c31b0 : decide (0 ≤ x43_3) = true := decide_eq_true c31
                                      clear c31
                                      by_cases c32 : x43_3 < 256
                                      · rw [if_pos c32] at H
                                        have c32b0 : decide (x43_3 < 256) = true := decide_eq_true c32
                                        clear c32
                                        obtain ⟨bq33, hbq33⟩ : ∃ b_ : Bool, b_ = (getB x736000_3 x43_3) := ⟨_, rfl⟩
                                        replace H : (impl_DfaOk.l1 kj23 ((rd_T115 (rd_L11 l0_0 x17_1) 0).f0) (wrap64 (x5_3 + 1)) l0_0 (l0_0.length : Int) x17_1 t740 (wrap64 (x43_3 + 1)) l0_0 l0_1 l0_2 (setB 256 x736000_3 x43_3 true)) = some r := by first | (rw [← hbq33] at H; exact H) | exact H
                                        have Nbq33 := Aside0.mk hbq33
                                        clear hbq33
                                        have H' := Aside0.mk H
                                        clear H
                                        have hnb34 := NB735_734.out
                                        have hnc34 := NB734_735.out
                                        have pz742 : 0 ≤ (x43_3 : Int) := of_decide_eq_true (by first | (with_reducible assumption) | assumption)
                                        have qz742 : (x43_3 : Int) < 256 := of_decide_eq_true (by first | (with_reducible assumption) | assumption)
                                        have hxz742 : wc.cell? ⟨gb735, (x43_3 : Int).toNat, none⟩ = some (.bool (getB x736000_3 x43_3)) := cell_arr BK735.out x43_3 pz742 qz742
                                        have hfz742 := blk_frozen BK735.out (x43_3 : Int).toNat
                                        replace pz742 := eq_true pz742
                                        replace qz742 := eq_true qz742
                                        (try rw [← Nbq23.out] at hxz742)
                                        (try rw [← Nbq33.out] at hxz742)
                                        go_wp2_with (first | ((with_reducible refine gate_store (t := 4) (p := 55) rfl ?_); refine store_event (t := 4) (p := 55) (v := ?vo_w35) (w1 := (wc.setCell ⟨gb735, (x43_3 : Int).toNat, none⟩ (.bool true))) ?hg ?ho ?hn ?hr ?_; (case ho => rfl); (case hg => rfl); (case hn => rfl); (case hr => first | (go_simp; done) | (go_simp; rfl)); intro w35 hw; have n0_ : Aside0 (w35.heap[gb734]? = some (.cells #[.slice (some ad736) l0_0.length c0_0, .slice A0_1 l0_1.length c0_1, .slice A0_2 l0_2.length c0_2] 55 (0, 0))) := ⟨(by rw [hw]; exact (by (with_reducible repeat (first | refine blk_drewN ?_ _ | refine blk_drew ?_ | refine blk_alloc ?_ _)); refine blk_far ?_ NB734_735.out _; (with_reducible repeat (first | refine blk_drewN ?_ _ | refine blk_drew ?_ | refine blk_alloc ?_ _)); exact BK734.out))⟩; have n1_ : Aside0 (w35.heap[gb735]? = some (.cells (cellsB 256 (setB 256 x736000_3 x43_3 true)) 112 (0, 0))) := ⟨(by rw [hw]; exact (by (with_reducible repeat (first | refine blk_drewN ?_ _ | refine blk_drew ?_ | refine blk_alloc ?_ _)); refine put_arr ?_ x43_3 true; (with_reducible repeat (first | refine blk_drewN ?_ _ | refine blk_drew ?_ | refine blk_alloc ?_ _)); exact BK735.out))⟩; have n2_ : Aside0 (Below w.heap.size w w35) := ⟨(by rw [hw]; exact (by repeat (first | (with_reducible first | exact HB.out | apply below_alloc | apply pw_below_drewN | apply below_drew1 | refine below_set ?_ GE734.out | refine below_set ?_ GE735.out) | exact HB.out)))⟩; clear hw; clear BK734; clear BK735; clear HB; have BK734 := n0_; have BK735 := n1_; have HB := n2_; clear n0_ n1_ n2_))
                                        go_roundg kj23
                                        case measure => have := HK1.out; have := HJ8.out; have := HK3.out; have := HJ23.out; omega
                                        case rel => exact ⟨(wrap64 (x5_3 + 1)), (wrap64 (x43_3 + 1)), (setB 256 x736000_3 x43_3 true), (by first | rfl | (simp; done) | (simp [*]; done)), (by first | rfl | (simp; done) | (simp [*]; done)), H', ⟨by have := HK1.out; have := HJ8.out; have := HK3.out; have := HJ23.out; omega⟩, ⟨by (with_reducible repeat (first | refine blk_drewN ?_ _ | refine blk_drew ?_ | refine blk_alloc ?_ _)); exact BK734.out⟩, ⟨by (with_reducible repeat (first | refine blk_drewN ?_ _ | refine blk_drew ?_ | refine blk_alloc ?_ _)); exact BK735.out⟩, ⟨by repeat (first | (with_reducible first | exact HB.out | apply below_alloc | apply pw_below_drewN | apply below_drew1 | refine below_set ?_ GE734.out | refine below_set ?_ GE735.out) | exact HB.out)⟩⟩
                                      · rw [if_neg c32] at H
                                        exact absurd H (by simp)
                                    · rw [if_neg c31] at H
                                      exact absurd H (by simp)
                                  · replace c30 := Bool.eq_false_iff.mpr c30
                                    subst c30
                                    have H1 : (impl_DfaOk.l1 kj23 ((rd_T115 (rd_L11 l0_0 x17_1) 0).f0) x5_3 l0_0 (l0_0.length : Int) x17_1 t740 (wrap64 (x43_3 + 1)) l0_0 l0_1 l0_2 x736000_3) = some r := by rw [if_neg (show ¬ (false = true) by decide)] at H; exact H
                                    clear H
                                    have H := H1
                                    clear H1
                                    have H' := Aside0.mk H
                                    clear H
                                    go_wp2
                                    go_roundg kj23
                                    case measure => have := HK1.out; have := HJ8.out; have := HK3.out; have := HJ23.out; omega
                                    case rel => exact ⟨(x5_3), (wrap64 (x43_3 + 1)), (x736000_3), (by first | rfl | (simp; done) | (simp [*]; done)), (by first | rfl | (simp; done) | (simp [*]; done)), H', ⟨by have := HK1.out; have := HJ8.out; have := HK3.out; have := HJ23.out; omega⟩, ⟨by (with_reducible repeat (first | refine blk_drewN ?_ _ | refine blk_drew ?_ | refine blk_alloc ?_ _)); exact BK734.out⟩, ⟨by (with_reducible repeat (first | refine blk_drewN ?_ _ | refine blk_drew ?_ | refine blk_alloc ?_ _)); exact BK735.out⟩, ⟨by repeat (first | (with_reducible first | exact HB.out | apply below_alloc | apply pw_below_drewN | apply below_drew1 | refine below_set ?_ GE734.out | refine below_set ?_ GE735.out) | exact HB.out)⟩⟩
                          · rw [if_neg c22] at H
                            exact absurd H (by simp)
                        · rw [if_neg c21] at H
                          have c21b0 : decide (x43_3 < 256) = false := decide_eq_false c21
                          clear c21
                          have H' := Aside0.mk H
                          clear H
                          go_wp2
                          go_roundg k3
                          case measure => have := HK1.out; have := HJ8.out; have := HK3.out; omega
                          case rel => exact ⟨(((rd_T115 (rd_L11 l0_0 x17_1) 0).f0)), (x5_3), (wrap64 (x17_1 + 1)), (x736000_3), (by first | rfl | (simp; done) | (simp [*]; done)), (by first | rfl | (simp; done) | (simp [*]; done)), (by first | rfl | (simp; done) | (simp [*]; done)), H', ⟨by have := HK1.out; have := HJ8.out; have := HK3.out; omega⟩, ⟨by (with_reducible repeat (first | refine blk_drewN ?_ _ | refine blk_drew ?_ | refine blk_alloc ?_ _)); exact BK734.out⟩, ⟨by (with_reducible repeat (first | refine blk_drewN ?_ _ | refine blk_drew ?_ | refine blk_alloc ?_ _)); exact BK735.out⟩, ⟨by repeat (first | (with_reducible first | exact HB.out | apply below_alloc | apply pw_below_drewN | apply below_drew1 | refine below_set ?_ GE734.out | refine below_set ?_ GE735.out) | exact HB.out)⟩⟩
                  · rw [if_neg c18] at H
                    exact absurd H (by simp)
          · rw [if_neg c8] at H
            exact absurd H (by simp)
        · rw [if_neg c7] at H
          exact absurd H (by simp)
      · rw [if_neg c6] at H
        have c6b0 : decide (x17_1 < (l0_0.length : Int)) = false := decide_eq_false c6
        clear c6
        have HC36 := Aside0.mk H
        clear H
        go_upto_region 20 with (fail)
        go_cut [77] (fun v77 wc => ∃ (kq : Nat) (x77_35 : Bool), v77 = .bool x77_35 ∧ Aside0 (impl_DfaOk.j4 kq x77_35 l0_0 l0_1 l0_2 = some r) ∧ Aside0 (kq ≤ k1) ∧ Aside0 (wc.heap[gb734]? = some (.cells #[(.slice A0_0 l0_0.length c0_0), (.slice A0_1 l0_1.length c0_1), (.slice A0_2 l0_2.length c0_2)] 55 (0, 0))) ∧ Aside0 (wc.heap[gb735]? = some (.cells (cellsB 256 x736000_1) 112 (0, 0))) ∧ Aside0 (Below w.heap.size w wc))
        case first =>
          have H := HC36.out
          clear HC36
          by_cases c37 : x5_1 = 256
          · rw [if_pos c37] at H
            have c37b0 : (x5_1 == 256) = true := beq_iff_eq.mpr c37
            have c37b1 : (x5_1 != 256) = false := bne_eq_false_iff_eq.mpr c37
            clear c37
            (first | rw [c37b0] | (simp only [i64_w, i32_w]; rw [c37b0]) | skip)
            replace H := Option.bind_eq_some_iff.mp H
            obtain ⟨t743, A380, H⟩ := H
            replace H : (if t743 = true then (impl_DfaOk.j4 k1 ((l0_2.length : Int) != (l0_1.length : Int)) l0_0 l0_1 l0_2) else (impl_DfaOk.j4 k1 true l0_0 l0_1 l0_2)) = some r := H
            have A38 := Aside0.mk A380
            clear A380
            by_cases c39 : t743 = true
            · subst c39
              have H1 : (impl_DfaOk.j4 k1 ((l0_2.length : Int) != (l0_1.length : Int)) l0_0 l0_1 l0_2) = some r := by rw [if_pos rfl] at H; exact H
              clear H
              have H := H1
              clear H1
              have H' := Aside0.mk H
              clear H
              have hnb40 := NB734_735.out
              have hnc40 := NB735_734.out
              have hcz41_0 : wr.cell? ⟨gb734, 0, none⟩ = some (.slice A0_0 l0_0.length c0_0) := (blk_cell BK734.out 0).trans rfl
              have hcz41_1 : wr.cell? ⟨gb734, 1, none⟩ = some (.slice A0_1 l0_1.length c0_1) := (blk_cell BK734.out 1).trans rfl
              have hcz41_2 : wr.cell? ⟨gb734, 2, none⟩ = some (.slice A0_2 l0_2.length c0_2) := (blk_cell BK734.out 2).trans rfl
              have hfz41_0 := blk_frozen BK734.out 0
              have hfz41_1 := blk_frozen BK734.out 1
              have hfz41_2 := blk_frozen BK734.out 2
              go_wp2_with (first | (go_at_call 51; (with_reducible refine (impl_in.calls (l0_1.length : Int) 1 40 true _ A38.out).mono ?_); rintro e w' ⟨rfl, ⟨nd, rfl⟩⟩))
              go_meet
              case rel => exact ⟨_, (((l0_2.length : Int) != (l0_1.length : Int))), (by first | rfl | (simp; done) | (simp [*]; done)), H', ⟨by have := HK1.out; first | omega | exact Nat.le_refl _⟩, ⟨by (with_reducible repeat (first | refine blk_drewN ?_ _ | refine blk_drew ?_ | refine blk_alloc ?_ _)); exact BK734.out⟩, ⟨by (with_reducible repeat (first | refine blk_drewN ?_ _ | refine blk_drew ?_ | refine blk_alloc ?_ _)); exact BK735.out⟩, ⟨by repeat (first | (with_reducible first | exact HB.out | apply below_alloc | apply pw_below_drewN | apply below_drew1 | refine below_set ?_ GE734.out | refine below_set ?_ GE735.out) | exact HB.out)⟩⟩
            · replace c39 := Bool.eq_false_iff.mpr c39
              subst c39
              have H1 : (impl_DfaOk.j4 k1 true l0_0 l0_1 l0_2) = some r := by rw [if_neg (show ¬ (false = true) by decide)] at H; exact H
              clear H
              have H := H1
              clear H1
              have H' := Aside0.mk H
              clear H
              have hnb42 := NB734_735.out
              have hnc42 := NB735_734.out
              have hcz43_0 : wr.cell? ⟨gb734, 0, none⟩ = some (.slice A0_0 l0_0.length c0_0) := (blk_cell BK734.out 0).trans rfl
              have hcz43_1 : wr.cell? ⟨gb734, 1, none⟩ = some (.slice A0_1 l0_1.length c0_1) := (blk_cell BK734.out 1).trans rfl
              have hcz43_2 : wr.cell? ⟨gb734, 2, none⟩ = some (.slice A0_2 l0_2.length c0_2) := (blk_cell BK734.out 2).trans rfl
              have hfz43_0 := blk_frozen BK734.out 0
              have hfz43_1 := blk_frozen BK734.out 1
              have hfz43_2 := blk_frozen BK734.out 2
              go_wp2_with (first | (go_at_call 51; (with_reducible refine (impl_in.calls (l0_1.length : Int) 1 40 false _ A38.out).mono ?_); rintro e w' ⟨rfl, ⟨nd, rfl⟩⟩))
              go_meet
              case rel => exact ⟨_, (true), (by first | rfl | (simp; done) | (simp [*]; done)), H', ⟨by have := HK1.out; first | omega | exact Nat.le_refl _⟩, ⟨by (with_reducible repeat (first | refine blk_drewN ?_ _ | refine blk_drew ?_ | refine blk_alloc ?_ _)); exact BK734.out⟩, ⟨by (with_reducible repeat (first | refine blk_drewN ?_ _ | refine blk_drew ?_ | refine blk_alloc ?_ _)); exact BK735.out⟩, ⟨by repeat (first | (with_reducible first | exact HB.out | apply below_alloc | apply pw_below_drewN | apply below_drew1 | refine below_set ?_ GE734.out | refine below_set ?_ GE735.out) | exact HB.out)⟩⟩
          · rw [if_neg c37] at H
            have c37b0 : (x5_1 == 256) = false := beq_eq_false_iff_ne.mpr c37
            have c37b1 : (x5_1 != 256) = true := bne_iff_ne.mpr c37
            (first | rw [c37b0] | (simp only [i64_w, i32_w]; rw [c37b0]) | skip)
            have H' := Aside0.mk H
            clear H
            go_wp2
            go_meet
            case rel => exact ⟨_, (true), (by first | rfl | (simp; done) | (simp [*]; done)), H', ⟨by have := HK1.out; first | omega | exact Nat.le_refl _⟩, ⟨by (with_reducible repeat (first | refine blk_drewN ?_ _ | refine blk_drew ?_ | refine blk_alloc ?_ _)); exact BK734.out⟩, ⟨by (with_reducible repeat (first | refine blk_drewN ?_ _ | refine blk_drew ?_ | refine blk_alloc ?_ _)); exact BK735.out⟩, ⟨by repeat (first | (with_reducible first | exact HB.out | apply below_alloc | apply pw_below_drewN | apply below_drew1 | refine below_set ?_ GE734.out | refine below_set ?_ GE735.out) | exact HB.out)⟩⟩
        case rest =>
          clear HC36
          try clear c1
          try clear c2
          try clear p2
          try clear q2
          try clear c3
          try clear q3
          try clear c4
          try clear c6
          try clear c6b0
          try clear p6
          try clear c7
          try clear c7b0
          try clear p7
          try clear q7
          try clear hx7
          try clear qi7
          try clear c8
          try clear c8b0
          try clear c11
          try clear c12
          try clear c12b0
          try clear c12b1
          try clear c12b2
          try clear c14
          try clear c14b0
          try clear c14b1
          try clear c17
          try clear c18
          try clear c18b0
          try clear c18b1
          try clear c21
          try clear c21b0
          try clear c22
          try clear c22b0
          try clear q23
          try clear p25
          try clear q25
          try clear c26
          try clear q27
          try clear c28
          try clear c29
          try clear c30
          try clear c31
          try clear c31b0
          try clear c32
          try clear c32b0
          try clear q33
          try clear c34
          try clear c37
          try clear c37b0
          try clear c37b1
          try clear c39
          try clear c40
          try clear c42
          try clear hcz41_0
          try clear hcz41_1
          try clear hcz41_2
          try clear hcz43_0
          try clear hcz43_1
          try clear hcz43_2
          try clear hcz5_0
          try clear hcz5_1
          try clear hcz5_2
          try clear hfz41_0
          try clear hfz41_1
          try clear hfz41_2
          try clear hfz43_0
          try clear hfz43_1
          try clear hfz43_2
          try clear hfz5_0
          try clear hfz5_1
          try clear hfz5_2
          try clear hx736_0
          try clear hx738_0
          try clear hx738_1
          try clear hx739_0
          try clear hx739_1
          try clear p2
          try clear p25
          try clear p7
          try clear p736
          try clear p738
          try clear p739
          try clear q2
          try clear q23
          try clear q25
          try clear q27
          try clear q7
          try clear q736
          try clear q738
          try clear q739
          obtain ⟨kq, x77_35, rfl, HA, HJ35, BK734, BK735, HB⟩ := hcut
          cases kq with
          | zero => exact absurd HA.out (by simp [impl_DfaOk.j4])
          | succ kj35 =>
            have H := HA.out
            clear HA
            simp only [impl_DfaOk.j4] at H
            by_cases c44 : x77_35 = true
            · subst c44
              have H1 : (some false) = some r := by rw [if_pos rfl] at H; exact H
              clear H
              have H := H1
              clear H1
              obtain rfl := Option.some.inj H
              go_wp2
              go_ret
              exact ⟨by first | rfl | (simp [errW_none, errW_some] <;> rfl) | (simp [*, errW_none, errW_some] <;> rfl), by repeat (first | (with_reducible first | exact HB.out | apply below_alloc | apply pw_below_drewN | apply below_drew1 | refine below_set ?_ GE734.out | refine below_set ?_ GE735.out) | exact HB.out)⟩
            · replace c44 := Bool.eq_false_iff.mpr c44
              subst c44
              have H1 : (impl_DfaOk.l2 kj35 l0_1 (l0_1.length : Int) 0 l0_0 l0_1 l0_2) = some r := by rw [if_neg (show ¬ (false = true) by decide)] at H; exact H
              clear H
              have H := H1
              clear H1
              have H' := Aside0.mk H
              clear H
              have hnb45 := NB734_735.out
              have hnc45 := NB735_734.out
              have hcz46_0 : wc.cell? ⟨gb734, 0, none⟩ = some (.slice A0_0 l0_0.length c0_0) := (blk_cell BK734.out 0).trans rfl
              have hcz46_1 : wc.cell? ⟨gb734, 1, none⟩ = some (.slice A0_1 l0_1.length c0_1) := (blk_cell BK734.out 1).trans rfl
              have hcz46_2 : wc.cell? ⟨gb734, 2, none⟩ = some (.slice A0_2 l0_2.length c0_2) := (blk_cell BK734.out 2).trans rfl
              have hfz46_0 := blk_frozen BK734.out 0
              have hfz46_1 := blk_frozen BK734.out 1
              have hfz46_2 := blk_frozen BK734.out 2
              go_wp2
              go_loopg [81] kj35 (fun kq v81 w' => ∃ (x81_3 : Int), v81 = .int .i64 x81_3 ∧ Aside0 (impl_DfaOk.l2 kq l0_1 (l0_1.length : Int) x81_3 l0_0 l0_1 l0_2 = some r) ∧ Aside0 (kq ≤ kj35) ∧ Aside0 (w'.heap[gb734]? = some (.cells #[(.slice A0_0 l0_0.length c0_0), (.slice A0_1 l0_1.length c0_1), (.slice A0_2 l0_2.length c0_2)] 55 (0, 0))) ∧ Aside0 (w'.heap[gb735]? = some (.cells (cellsB 256 x736000_1) 112 (0, 0))) ∧ Aside0 (Below w.heap.size w w'))
              case atStart => exact ⟨(0), (by first | rfl | (simp; done) | (simp [*]; done)), H', ⟨Nat.le_refl _⟩, ⟨by (with_reducible repeat (first | refine blk_drewN ?_ _ | refine blk_drew ?_ | refine blk_alloc ?_ _)); exact BK734.out⟩, ⟨by (with_reducible repeat (first | refine blk_drewN ?_ _ | refine blk_drew ?_ | refine blk_alloc ?_ _)); exact BK735.out⟩, ⟨by repeat (first | (with_reducible first | exact HB.out | apply below_alloc | apply pw_below_drewN | apply below_drew1 | refine below_set ?_ GE734.out | refine below_set ?_ GE735.out) | exact HB.out)⟩⟩
              case round =>
                clear H'
                try clear c1
                try clear c2
                try clear p2
                try clear q2
                try clear c3
                try clear q3
                try clear c4
                try clear c6
                try clear c6b0
                try clear p6
                try clear c7
                try clear c7b0
                try clear p7
                try clear q7
                try clear hx7
                try clear qi7
                try clear c8
                try clear c8b0
                try clear c11
                try clear c12
                try clear c12b0
                try clear c12b1
                try clear c12b2
                try clear c14
                try clear c14b0
                try clear c14b1
                try clear c17
                try clear c18
                try clear c18b0
                try clear c18b1
                try clear c21
                try clear c21b0
                try clear c22
                try clear c22b0
                try clear q23
                try clear p25
                try clear q25
                try clear c26
                try clear q27
                try clear c28
                try clear c29
                try clear c30
                try clear c31
                try clear c31b0
                try clear c32
                try clear c32b0
                try clear q33
                try clear c34
                try clear c37
                try clear c37b0
                try clear c37b1
                try clear c39
                try clear c40
                try clear c42
                try clear c44
                try clear c45
                try clear hcz41_0
                try clear hcz41_1
                try clear hcz41_2
                try clear hcz43_0
                try clear hcz43_1
                try clear hcz43_2
                try clear hcz46_0
                try clear hcz46_1
                try clear hcz46_2
                try clear hcz5_0
                try clear hcz5_1
                try clear hcz5_2
                try clear hfz41_0
                try clear hfz41_1
                try clear hfz41_2
                try clear hfz43_0
                try clear hfz43_1
                try clear hfz43_2
                try clear hfz46_0
                try clear hfz46_1
                try clear hfz46_2
                try clear hfz5_0
                try clear hfz5_1
                try clear hfz5_2
                try clear hx736_0
                try clear hx738_0
                try clear hx738_1
                try clear hx739_0
                try clear hx739_1
                try clear p2
                try clear p25
                try clear p6
                try clear p7
                try clear p736
                try clear p738
                try clear p739
                try clear q2
                try clear q23
                try clear q25
                try clear q27
                try clear q3
                try clear q33
                try clear q7
                try clear q736
                try clear q738
                try clear q739
                obtain ⟨x81_3, rfl, HA, HK3, BK734, BK735, HB⟩ := hrel
                cases gk with
                | zero => exact absurd HA.out (by simp [impl_DfaOk.l2])
                | succ k3 =>
                  have H := HA.out
                  clear HA
                  simp only [impl_DfaOk.l2] at H
                  by_cases c47 : x81_3 < (l0_1.length : Int)
                  · rw [if_pos c47] at H
                    have c47b0 : decide (x81_3 < (l0_1.length : Int)) = true := decide_eq_true c47
                    clear c47
                    by_cases c48 : 0 ≤ x81_3
                    · rw [if_pos c48] at H
                      have c48b0 : decide (0 ≤ x81_3) = true := decide_eq_true c48
                      clear c48
                      by_cases c49 : x81_3 < (l0_1.length : Int)
                      · rw [if_pos c49] at H
                        have c49b0 : decide (x81_3 < (l0_1.length : Int)) = true := decide_eq_true c49
                        clear c49
                        have HC50 := Aside0.mk H
                        clear H
                        have p744 : 0 ≤ (x81_3 : Int) := of_decide_eq_true (by first | (with_reducible assumption) | assumption)
                        have q744 : x81_3 < (l0_1.length : Int) := of_decide_eq_true (by first | (with_reducible assumption) | assumption)
                        obtain ⟨ad744, A744_0, c744_0, e744, hx744_0, hl744_0, hi744_0⟩ := at_L14 HR0_1.out x81_3 p744 q744
                        cases e744
                        replace hx744_0 := (HB.out.cell (World.block_lt_of_cell? w _ hx744_0)).trans hx744_0
                        have HR744_0 := Aside0.mk hi744_0
                        have HC744_0 := Aside0.mk hl744_0
                        clear hi744_0 hl744_0
                        replace p744 := eq_true p744
                        replace q744 := eq_true q744
                        go_upto_region 25 with (fail)
                        go_cut [100] (fun v100 wc => ∃ (kq : Nat) (x100_49 : Bool), v100 = .bool x100_49 ∧ Aside0 (impl_DfaOk.j6 kq (rd_L14 l0_1 x81_3) l0_1 (l0_1.length : Int) x81_3 x100_49 l0_0 l0_1 l0_2 = some r) ∧ Aside0 (kq ≤ k3) ∧ Aside0 (wc.heap[gb734]? = some (.cells #[(.slice A0_0 l0_0.length c0_0), (.slice (some ad744) l0_1.length c0_1), (.slice A0_2 l0_2.length c0_2)] 55 (0, 0))) ∧ Aside0 (wc.heap[gb735]? = some (.cells (cellsB 256 x736000_1) 112 (0, 0))) ∧ Aside0 (Below w.heap.size w wc))
                        case first =>
                          have H := HC50.out
                          clear HC50
                          by_cases c51 : ((rd_L14 l0_1 x81_3).length : Int) = (l0_0.length : Int)
                          · rw [if_pos c51] at H
                            have c51b0 : (((rd_L14 l0_1 x81_3).length : Int) == (l0_0.length : Int)) = true := beq_iff_eq.mpr c51
                            have c51b1 : (((rd_L14 l0_1 x81_3).length : Int) != (l0_0.length : Int)) = false := bne_eq_false_iff_eq.mpr c51
                            have c51b2 : ((rd_L14 l0_1 x81_3).length == l0_0.length) = true := by first | simpa using c51 | (simp at c51 ⊢; omega)
                            clear c51
                            (first | rw [c51b0] | (simp only [i64_w, i32_w]; rw [c51b0]) | skip)
                            by_cases c52 : x81_3 < (l0_2.length : Int)
                            · rw [if_pos c52] at H
                              have c52b0 : decide (x81_3 < (l0_2.length : Int)) = true := decide_eq_true c52
                              clear c52
                              replace H := Option.bind_eq_some_iff.mp H
                              obtain ⟨t746, A530, H⟩ := H
                              replace H : (impl_DfaOk.j6 k3 (rd_L14 l0_1 x81_3) l0_1 (l0_1.length : Int) x81_3 (!t746) l0_0 l0_1 l0_2) = some r := H
                              have A53 := Aside0.mk A530
                              clear A530
                              have H' := Aside0.mk H
                              clear H
                              have hnb54 := NB734_735.out
                              have hnc54 := NB735_734.out
                              have hcz55_0 : wr.cell? ⟨gb734, 0, none⟩ = some (.slice A0_0 l0_0.length c0_0) := (blk_cell BK734.out 0).trans rfl
                              have hcz55_1 : wr.cell? ⟨gb734, 1, none⟩ = some (.slice (some ad744) l0_1.length c0_1) := (blk_cell BK734.out 1).trans rfl
                              have hcz55_2 : wr.cell? ⟨gb734, 2, none⟩ = some (.slice A0_2 l0_2.length c0_2) := (blk_cell BK734.out 2).trans rfl
                              have hfz55_0 := blk_frozen BK734.out 0
                              have hfz55_1 := blk_frozen BK734.out 1
                              have hfz55_2 := blk_frozen BK734.out 2
                              have p745 : 0 ≤ (x81_3 : Int) := of_decide_eq_true (by first | (with_reducible assumption) | assumption)
                              have q745 : x81_3 < (l0_2.length : Int) := of_decide_eq_true (by first | (with_reducible assumption) | assumption)
                              obtain ⟨ad745, e745, hx745_0⟩ := Kd.at_int HR0_2.out x81_3 p745 q745
                              cases e745
                              replace hx745_0 := (HB.out.cell (World.block_lt_of_cell? w _ hx745_0)).trans hx745_0
                              replace p745 := eq_true p745
                              replace q745 := eq_true q745
                              go_wp2_with (first | (go_at_call 51; (with_reducible refine (impl_in.calls (rd l0_2 x81_3) (-1) 4 t746 _ A53.out).mono ?_); rintro e w' ⟨rfl, ⟨nd, rfl⟩⟩))
                              go_meet
                              case rel => exact ⟨_, (!t746), (by first | rfl | (simp; done) | (simp [*]; done)), H', ⟨by have := HK1.out; have := HJ35.out; have := HK3.out; first | omega | exact Nat.le_refl _⟩, ⟨by (with_reducible repeat (first | refine blk_drewN ?_ _ | refine blk_drew ?_ | refine blk_alloc ?_ _)); exact BK734.out⟩, ⟨by (with_reducible repeat (first | refine blk_drewN ?_ _ | refine blk_drew ?_ | refine blk_alloc ?_ _)); exact BK735.out⟩, ⟨by repeat (first | (with_reducible first | exact HB.out | apply below_alloc | apply pw_below_drewN | apply below_drew1 | refine below_set ?_ GE734.out | refine below_set ?_ GE735.out) | exact HB.out)⟩⟩
                            · rw [if_neg c52] at H
                              exact absurd H (by simp)
                          · rw [if_neg c51] at H
                            have c51b0 : (((rd_L14 l0_1 x81_3).length : Int) == (l0_0.length : Int)) = false := beq_eq_false_iff_ne.mpr c51
                            have c51b1 : (((rd_L14 l0_1 x81_3).length : Int) != (l0_0.length : Int)) = true := bne_iff_ne.mpr c51
                            have c51b2 : ((rd_L14 l0_1 x81_3).length == l0_0.length) = false := by first | simpa using c51 | (simp at c51 ⊢; omega)
                            (first | rw [c51b0] | (simp only [i64_w, i32_w]; rw [c51b0]) | skip)
                            have H' := Aside0.mk H
                            clear H
                            have hnb56 := NB734_735.out
                            have hnc56 := NB735_734.out
                            have hcz57_0 : wr.cell? ⟨gb734, 0, none⟩ = some (.slice A0_0 l0_0.length c0_0) := (blk_cell BK734.out 0).trans rfl
                            have hcz57_1 : wr.cell? ⟨gb734, 1, none⟩ = some (.slice (some ad744) l0_1.length c0_1) := (blk_cell BK734.out 1).trans rfl
                            have hcz57_2 : wr.cell? ⟨gb734, 2, none⟩ = some (.slice A0_2 l0_2.length c0_2) := (blk_cell BK734.out 2).trans rfl
                            have hfz57_0 := blk_frozen BK734.out 0
                            have hfz57_1 := blk_frozen BK734.out 1
                            have hfz57_2 := blk_frozen BK734.out 2
                            go_wp2
                            go_meet
                            case rel => exact ⟨_, (true), (by first | rfl | (simp; done) | (simp [*]; done)), H', ⟨by have := HK1.out; have := HJ35.out; have := HK3.out; first | omega | exact Nat.le_refl _⟩, ⟨by (with_reducible repeat (first | refine blk_drewN ?_ _ | refine blk_drew ?_ | refine blk_alloc ?_ _)); exact BK734.out⟩, ⟨by (with_reducible repeat (first | refine blk_drewN ?_ _ | refine blk_drew ?_ | refine blk_alloc ?_ _)); exact BK735.out⟩, ⟨by repeat (first | (with_reducible first | exact HB.out | apply below_alloc | apply pw_below_drewN | apply below_drew1 | refine below_set ?_ GE734.out | refine below_set ?_ GE735.out) | exact HB.out)⟩⟩
                        case rest =>
                          clear HC50
                          try clear c1
                          try clear c2
                          try clear p2
                          try clear q2
                          try clear c3
                          try clear q3
                          try clear c4
                          try clear c5
                          try clear c6
                          try clear c6b0
                          try clear p6
                          try clear c7
                          try clear c7b0
                          try clear p7
                          try clear q7
                          try clear hx7
                          try clear qi7
                          try clear c8
                          try clear c8b0
                          try clear c11
                          try clear c12
                          try clear c12b0
                          try clear c12b1
                          try clear c12b2
                          try clear c14
                          try clear c14b0
                          try clear c14b1
                          try clear c17
                          try clear c18
                          try clear c18b0
                          try clear c18b1
                          try clear c21
                          try clear c21b0
                          try clear c22
                          try clear c22b0
                          try clear q23
                          try clear p25
                          try clear q25
                          try clear c26
                          try clear q27
                          try clear c28
                          try clear c29
                          try clear c30
                          try clear c31
                          try clear c31b0
                          try clear c32
                          try clear c32b0
                          try clear q33
                          try clear c34
                          try clear c37
                          try clear c37b0
                          try clear c37b1
                          try clear c39
                          try clear c40
                          try clear c42
                          try clear c44
                          try clear c45
                          try clear c47
                          try clear c47b0
                          try clear c48
                          try clear c48b0
                          try clear c49
                          try clear c49b0
                          try clear c51
                          try clear c51b0
                          try clear c51b1
                          try clear c51b2
                          try clear c52
                          try clear c52b0
                          try clear c54
                          try clear c56
                          try clear hcz41_0
                          try clear hcz41_1
                          try clear hcz41_2
                          try clear hcz43_0
                          try clear hcz43_1
                          try clear hcz43_2
                          try clear hcz46_0
                          try clear hcz46_1
                          try clear hcz46_2
                          try clear hcz55_0
                          try clear hcz55_1
                          try clear hcz55_2
                          try clear hcz57_0
                          try clear hcz57_1
                          try clear hcz57_2
                          try clear hcz5_0
                          try clear hcz5_1
                          try clear hcz5_2
                          try clear hfz41_0
                          try clear hfz41_1
                          try clear hfz41_2
                          try clear hfz43_0
                          try clear hfz43_1
                          try clear hfz43_2
                          try clear hfz46_0
                          try clear hfz46_1
                          try clear hfz46_2
                          try clear hfz55_0
                          try clear hfz55_1
                          try clear hfz55_2
                          try clear hfz57_0
                          try clear hfz57_1
                          try clear hfz57_2
                          try clear hfz5_0
                          try clear hfz5_1
                          try clear hfz5_2
                          try clear hx736_0
                          try clear hx738_0
                          try clear hx738_1
                          try clear hx739_0
                          try clear hx739_1
                          try clear hx744_0
                          try clear hx745_0
                          try clear p2
                          try clear p25
                          try clear p6
                          try clear p7
                          try clear p736
                          try clear p738
                          try clear p739
                          try clear p744
                          try clear p745
                          try clear q2
                          try clear q23
                          try clear q25
                          try clear q27
                          try clear q3
                          try clear q33
                          try clear q7
                          try clear q736
                          try clear q738
                          try clear q739
                          try clear q744
                          try clear q745
                          obtain ⟨kq, x100_49, rfl, HA, HJ49, BK734, BK735, HB⟩ := hcut
                          cases kq with
                          | zero => exact absurd HA.out (by simp [impl_DfaOk.j6])
                          | succ kj49 =>
                            have H := HA.out
                            clear HA
                            simp only [impl_DfaOk.j6] at H
                            by_cases c58 : x100_49 = true
                            · subst c58
                              have H1 : (some false) = some r := by rw [if_pos rfl] at H; exact H
                              clear H
                              have H := H1
                              clear H1
                              obtain rfl := Option.some.inj H
                              go_wp2
                              go_ret
                              exact ⟨by first | rfl | (simp [errW_none, errW_some] <;> rfl) | (simp [*, errW_none, errW_some] <;> rfl), by repeat (first | (with_reducible first | exact HB.out | apply below_alloc | apply pw_below_drewN | apply below_drew1 | refine below_set ?_ GE734.out | refine below_set ?_ GE735.out) | exact HB.out)⟩
                            · replace c58 := Bool.eq_false_iff.mpr c58
                              subst c58
                              have H1 : (impl_DfaOk.l3 kj49 l0_1 (l0_1.length : Int) x81_3 (rd_L14 l0_1 x81_3) ((rd_L14 l0_1 x81_3).length : Int) 0 l0_0 l0_1 l0_2) = some r := by rw [if_neg (show ¬ (false = true) by decide)] at H; exact H
                              clear H
                              have H := H1
                              clear H1
                              have H' := Aside0.mk H
                              clear H
                              go_wp2
                              go_loopg [103] kj49 (fun kq v103 w' => ∃ (x103_5 : Int), v103 = .int .i64 x103_5 ∧ Aside0 (impl_DfaOk.l3 kq l0_1 (l0_1.length : Int) x81_3 (rd_L14 l0_1 x81_3) ((rd_L14 l0_1 x81_3).length : Int) x103_5 l0_0 l0_1 l0_2 = some r) ∧ Aside0 (kq ≤ kj49) ∧ Aside0 (w'.heap[gb734]? = some (.cells #[(.slice A0_0 l0_0.length c0_0), (.slice (some ad744) l0_1.length c0_1), (.slice A0_2 l0_2.length c0_2)] 55 (0, 0))) ∧ Aside0 (w'.heap[gb735]? = some (.cells (cellsB 256 x736000_1) 112 (0, 0))) ∧ Aside0 (Below w.heap.size w w'))
                              case atStart => exact ⟨(0), (by first | rfl | (simp; done) | (simp [*]; done)), H', ⟨Nat.le_refl _⟩, ⟨by (with_reducible repeat (first | refine blk_drewN ?_ _ | refine blk_drew ?_ | refine blk_alloc ?_ _)); exact BK734.out⟩, ⟨by (with_reducible repeat (first | refine blk_drewN ?_ _ | refine blk_drew ?_ | refine blk_alloc ?_ _)); exact BK735.out⟩, ⟨by repeat (first | (with_reducible first | exact HB.out | apply below_alloc | apply pw_below_drewN | apply below_drew1 | refine below_set ?_ GE734.out | refine below_set ?_ GE735.out) | exact HB.out)⟩⟩
                              case round =>
                                clear H'
                                try clear c1
                                try clear c2
                                try clear p2
                                try clear q2
                                try clear c3
                                try clear q3
                                try clear c4
                                try clear c5
                                try clear c6
                                try clear c6b0
                                try clear p6
                                try clear c7
                                try clear c7b0
                                try clear p7
                                try clear q7
                                try clear hx7
                                try clear qi7
                                try clear c8
                                try clear c8b0
                                try clear c11
                                try clear c12
                                try clear c12b0
                                try clear c12b1
                                try clear c12b2
                                try clear c14
                                try clear c14b0
                                try clear c14b1
                                try clear c17
                                try clear c18
                                try clear c18b0
                                try clear c18b1
                                try clear c21
                                try clear c21b0
                                try clear c22
                                try clear c22b0
                                try clear q23
                                try clear p25
                                try clear q25
                                try clear c26
                                try clear q27
                                try clear c28
                                try clear c29
                                try clear c30
                                try clear c31
                                try clear c31b0
                                try clear c32
                                try clear c32b0
                                try clear q33
                                try clear c34
                                try clear c37
                                try clear c37b0
                                try clear c37b1
                                try clear c39
                                try clear c40
                                try clear c42
                                try clear c44
                                try clear c45
                                try clear c47
                                try clear c47b0
                                try clear c48
                                try clear c48b0
                                try clear c49
                                try clear c49b0
                                try clear c51
                                try clear c51b0
                                try clear c51b1
                                try clear c51b2
                                try clear c52
                                try clear c52b0
                                try clear c54
                                try clear c56
                                try clear c58
                                try clear hcz41_0
                                try clear hcz41_1
                                try clear hcz41_2
                                try clear hcz43_0
                                try clear hcz43_1
                                try clear hcz43_2
                                try clear hcz46_0
                                try clear hcz46_1
                                try clear hcz46_2
                                try clear hcz55_0
                                try clear hcz55_1
                                try clear hcz55_2
                                try clear hcz57_0
                                try clear hcz57_1
                                try clear hcz57_2
                                try clear hcz5_0
                                try clear hcz5_1
                                try clear hcz5_2
                                try clear hfz41_0
                                try clear hfz41_1
                                try clear hfz41_2
                                try clear hfz43_0
                                try clear hfz43_1
                                try clear hfz43_2
                                try clear hfz46_0
                                try clear hfz46_1
                                try clear hfz46_2
                                try clear hfz55_0
                                try clear hfz55_1
                                try clear hfz55_2
                                try clear hfz57_0
                                try clear hfz57_1
                                try clear hfz57_2
                                try clear hfz5_0
                                try clear hfz5_1
                                try clear hfz5_2
                                try clear hx736_0
                                try clear hx738_0
                                try clear hx738_1
                                try clear hx739_0
                                try clear hx739_1
                                try clear hx744_0
                                try clear hx745_0
                                try clear p2
                                try clear p25
                                try clear p6
                                try clear p7
                                try clear p736
                                try clear p738
                                try clear p739
                                try clear p744
                                try clear p745
                                try clear q2
                                try clear q23
                                try clear q25
                                try clear q27
                                try clear q3
                                try clear q33
                                try clear q7
                                try clear q736
                                try clear q738
                                try clear q739
                                try clear q744
                                try clear q745
                                obtain ⟨x103_5, rfl, HA, HK5, BK734, BK735, HB⟩ := hrel
                                cases gk with
                                | zero => exact absurd HA.out (by simp [impl_DfaOk.l3])
                                | succ k5 =>
                                  have H := HA.out
                                  clear HA
                                  simp only [impl_DfaOk.l3] at H
                                  by_cases c59 : x103_5 < ((rd_L14 l0_1 x81_3).length : Int)
                                  · rw [if_pos c59] at H
                                    have c59b0 : decide (x103_5 < ((rd_L14 l0_1 x81_3).length : Int)) = true := decide_eq_true c59
                                    clear c59
                                    by_cases c60 : 0 ≤ x103_5
                                    · rw [if_pos c60] at H
                                      have c60b0 : decide (0 ≤ x103_5) = true := decide_eq_true c60
                                      clear c60
                                      by_cases c61 : x103_5 < ((rd_L14 l0_1 x81_3).length : Int)
                                      · rw [if_pos c61] at H
                                        have c61b0 : decide (x103_5 < ((rd_L14 l0_1 x81_3).length : Int)) = true := decide_eq_true c61
                                        clear c61
                                        replace H := Option.bind_eq_some_iff.mp H
                                        obtain ⟨t748, A620, H⟩ := H
                                        replace H : (if t748 = true then (impl_DfaOk.l3 k5 l0_1 (l0_1.length : Int) x81_3 (rd_L14 l0_1 x81_3) ((rd_L14 l0_1 x81_3).length : Int) (wrap64 (x103_5 + 1)) l0_0 l0_1 l0_2) else (some false)) = some r := H
                                        have A62 := Aside0.mk A620
                                        clear A620
                                        by_cases c63 : t748 = true
                                        · subst c63
                                          have H1 : (impl_DfaOk.l3 k5 l0_1 (l0_1.length : Int) x81_3 (rd_L14 l0_1 x81_3) ((rd_L14 l0_1 x81_3).length : Int) (wrap64 (x103_5 + 1)) l0_0 l0_1 l0_2) = some r := by rw [if_pos rfl] at H; exact H
                                          clear H
                                          have H := H1
                                          clear H1
                                          have H' := Aside0.mk H
                                          clear H
                                          have p747 : 0 ≤ (x103_5 : Int) := of_decide_eq_true (by first | (with_reducible assumption) | assumption)
                                          have q747 : x103_5 < ((rd_L14 l0_1 x81_3).length : Int) := of_decide_eq_true (by first | (with_reducible assumption) | assumption)
                                          obtain ⟨ad747, e747, hx747_0⟩ := Kd.at_int HR744_0.out x103_5 p747 q747
                                          cases e747
                                          replace hx747_0 := (HB.out.cell (World.block_lt_of_cell? w _ hx747_0)).trans hx747_0
                                          replace p747 := eq_true p747
                                          replace q747 := eq_true q747
                                          have hnb64 := NB734_735.out
                                          have hnc64 := NB735_734.out
                                          have hcz65_0 : wr.cell? ⟨gb734, 0, none⟩ = some (.slice A0_0 l0_0.length c0_0) := (blk_cell BK734.out 0).trans rfl
                                          have hcz65_1 : wr.cell? ⟨gb734, 1, none⟩ = some (.slice (some ad744) l0_1.length c0_1) := (blk_cell BK734.out 1).trans rfl
                                          have hcz65_2 : wr.cell? ⟨gb734, 2, none⟩ = some (.slice A0_2 l0_2.length c0_2) := (blk_cell BK734.out 2).trans rfl
                                          have hfz65_0 := blk_frozen BK734.out 0
                                          have hfz65_1 := blk_frozen BK734.out 1
                                          have hfz65_2 := blk_frozen BK734.out 2
                                          go_wp2_with (first | ((with_reducible refine gate_callee (f := 51) rfl ?_); refine goesL_ (some 112) rfl rfl Try.func51 (by kernel_rfl) rfl #[.int .i64 (rd (rd_L14 l0_1 x81_3) x103_5), .int .i64 (-1), .int .i64 (wrap64 ((l0_1.length : Int) - 1))] rfl (by (try simp only [List.map_toArray, List.map_cons, List.map_nil]); first | done | rfl | (simp only [List.length_drop, List.length_take]; rfl)) ?_; (with_reducible refine (impl_in.calls (rd (rd_L14 l0_1 x81_3) x103_5) (-1) (wrap64 ((l0_1.length : Int) - 1)) true _ A62.out).mono ?_); rintro e w' ⟨rfl, ⟨nd, rfl⟩⟩; refine ⟨_, rfl, ?_⟩))
                                          go_roundg k5
                                          case measure => have := HK1.out; have := HJ35.out; have := HK3.out; have := HJ49.out; have := HK5.out; omega
                                          case rel => exact ⟨(wrap64 (x103_5 + 1)), (by first | rfl | (simp; done) | (simp [*]; done)), H', ⟨by have := HK1.out; have := HJ35.out; have := HK3.out; have := HJ49.out; have := HK5.out; omega⟩, ⟨by (with_reducible repeat (first | refine blk_drewN ?_ _ | refine blk_drew ?_ | refine blk_alloc ?_ _)); exact BK734.out⟩, ⟨by (with_reducible repeat (first | refine blk_drewN ?_ _ | refine blk_drew ?_ | refine blk_alloc ?_ _)); exact BK735.out⟩, ⟨by repeat (first | (with_reducible first | exact HB.out | apply below_alloc | apply pw_below_drewN | apply below_drew1 | refine below_set ?_ GE734.out | refine below_set ?_ GE735.out) | exact HB.out)⟩⟩
                                        · replace c63 := Bool.eq_false_iff.mpr c63
                                          subst c63
                                          have H1 : (some false) = some r := by rw [if_neg (show ¬ (false = true) by decide)] at H; exact H
                                          clear H
                                          have H := H1
                                          clear H1
                                          obtain rfl := Option.some.inj H
                                          have p747 : 0 ≤ (x103_5 : Int) := of_decide_eq_true (by first | (with_reducible assumption) | assumption)
                                          have q747 : x103_5 < ((rd_L14 l0_1 x81_3).length : Int) := of_decide_eq_true (by first | (with_reducible assumption) | assumption)
                                          obtain ⟨ad747, e747, hx747_0⟩ := Kd.at_int HR744_0.out x103_5 p747 q747
                                          cases e747
                                          replace hx747_0 := (HB.out.cell (World.block_lt_of_cell? w _ hx747_0)).trans hx747_0
                                          replace p747 := eq_true p747
                                          replace q747 := eq_true q747
                                          have hnb66 := NB734_735.out
                                          have hnc66 := NB735_734.out
                                          have hcz67_0 : wr.cell? ⟨gb734, 0, none⟩ = some (.slice A0_0 l0_0.length c0_0) := (blk_cell BK734.out 0).trans rfl
                                          have hcz67_1 : wr.cell? ⟨gb734, 1, none⟩ = some (.slice (some ad744) l0_1.length c0_1) := (blk_cell BK734.out 1).trans rfl
                                          have hcz67_2 : wr.cell? ⟨gb734, 2, none⟩ = some (.slice A0_2 l0_2.length c0_2) := (blk_cell BK734.out 2).trans rfl
                                          have hfz67_0 := blk_frozen BK734.out 0
                                          have hfz67_1 := blk_frozen BK734.out 1
                                          have hfz67_2 := blk_frozen BK734.out 2
                                          go_wp2_with (first | ((with_reducible refine gate_callee (f := 51) rfl ?_); refine goesL_ (some 112) rfl rfl Try.func51 (by kernel_rfl) rfl #[.int .i64 (rd (rd_L14 l0_1 x81_3) x103_5), .int .i64 (-1), .int .i64 (wrap64 ((l0_1.length : Int) - 1))] rfl (by (try simp only [List.map_toArray, List.map_cons, List.map_nil]); first | done | rfl | (simp only [List.length_drop, List.length_take]; rfl)) ?_; (with_reducible refine (impl_in.calls (rd (rd_L14 l0_1 x81_3) x103_5) (-1) (wrap64 ((l0_1.length : Int) - 1)) false _ A62.out).mono ?_); rintro e w' ⟨rfl, ⟨nd, rfl⟩⟩; refine ⟨_, rfl, ?_⟩))
                                          go_ret
                                          exact ⟨by first | rfl | (simp [errW_none, errW_some] <;> rfl) | (simp [*, errW_none, errW_some] <;> rfl), by repeat (first | (with_reducible first | exact HB.out | apply below_alloc | apply pw_below_drewN | apply below_drew1 | refine below_set ?_ GE734.out | refine below_set ?_ GE735.out) | exact HB.out)⟩
                                      · rw [if_neg c61] at H
                                        exact absurd H (by simp)
                                    · rw [if_neg c60] at H
                                      exact absurd H (by simp)
                                  · rw [if_neg c59] at H
                                    have c59b0 : decide (x103_5 < ((rd_L14 l0_1 x81_3).length : Int)) = false := decide_eq_false c59
                                    clear c59
                                    have H' := Aside0.mk H
                                    clear H
                                    go_wp2
                                    go_roundg k5
                                    case measure => have := HK1.out; have := HJ35.out; have := HK3.out; have := HJ49.out; have := HK5.out; omega
                                    case rel => exact ⟨(wrap64 (x81_3 + 1)), (by first | rfl | (simp; done) | (simp [*]; done)), H', ⟨by have := HK1.out; have := HJ35.out; have := HK3.out; have := HJ49.out; have := HK5.out; omega⟩, ⟨by (with_reducible repeat (first | refine blk_drewN ?_ _ | refine blk_drew ?_ | refine blk_alloc ?_ _)); exact BK734.out⟩, ⟨by (with_reducible repeat (first | refine blk_drewN ?_ _ | refine blk_drew ?_ | refine blk_alloc ?_ _)); exact BK735.out⟩, ⟨by repeat (first | (with_reducible first | exact HB.out | apply below_alloc | apply pw_below_drewN | apply below_drew1 | refine below_set ?_ GE734.out | refine below_set ?_ GE735.out) | exact HB.out)⟩⟩
                      · rw [if_neg c49] at H
                        exact absurd H (by simp)
                    · rw [if_neg c48] at H
                      exact absurd H (by simp)
                  · rw [if_neg c47] at H
                    have c47b0 : decide (x81_3 < (l0_1.length : Int)) = false := decide_eq_false c47
                    clear c47
                    obtain rfl := Option.some.inj H
                    go_wp2
                    go_ret
                    exact ⟨by first | rfl | (simp [errW_none, errW_some] <;> rfl) | (simp [*, errW_none, errW_some] <;> rfl), by repeat (first | (with_reducible first | exact HB.out | apply below_alloc | apply pw_below_drewN | apply below_drew1 | refine below_set ?_ GE734.out | refine below_set ?_ GE735.out) | exact HB.out)⟩
end Go.Proofs.Ytljaoggbfoimfaa.P

namespace Go.Proofs.Ytljaoggbfoimfaa.P
open Go.RowKit Go.Proofs.YtljaoggbfoimfaaW.PrintWords Go.Proofs.YtljaoggbfoimfaaW.PrintLast Go.Proofs.YtljaoggbfoimfaaW.PrintMore
attribute [local go_sem] max2_int min2_int max_two min_two max_three min_three max_four min_four   -- for this text's walks alone
set_option linter.unusedVariables false
set_option linter.unusedSimpArgs false
mutual
def impl_DfaNext.j0 : Nat → Int → Int → Bool → List (List (S115)) → List (List Int) → List Int → Option (Int)
  | 0, _, _, _, _, _, _ => none
  | k + 1, x1, x2, x25, x791000, x791001, x791002 => if x25 = true then (some (-1)) else (impl_DfaNext.l0 k x1 x2 x791000 (x791000.length : Int) 0 x791000 x791001 x791002)
def impl_DfaNext.l0 : Nat → Int → Int → List (List (S115)) → Int → Int → List (List (S115)) → List (List Int) → List Int → Option (Int)
  | 0, _, _, _, _, _, _, _, _ => none
  | k + 1, x1, x2, x27, x28, x29, x791000, x791001, x791002 => if x29 < x28 then (if 0 ≤ x29 then (if x29 < (x27.length : Int) then ((impl_SetHas.f k (rd_L11 x27 x29) x2).bind fun t795 => (if t795 = true then (if 0 ≤ x1 then (if x1 < (x791001.length : Int) then (if x29 < ((rd_L14 x791001 x1).length : Int) then (some (rd (rd_L14 x791001 x1) x29)) else (none)) else (none)) else (none)) else (impl_DfaNext.l0 k x1 x2 x27 x28 (wrap64 (x29 + 1)) x791000 x791001 x791002))) else (none)) else (none)) else (some (-1))
end
def impl_DfaNext.f (k : Nat) (l0_0 : List (List (S115))) (l0_1 : List (List Int)) (l0_2 : List Int) (a1 : Int) (a2 : Int) : Option (Int) := (impl_DfaOk.f k l0_0 l0_1 l0_2).bind fun t791 => (if t791 = true then ((impl_in.f a1 0 (wrap64 ((l0_1.length : Int) - 1))).bind fun t792 => (if t792 = true then ((impl_in.f a2 0 255).bind fun t793 => (impl_DfaNext.j0 k a1 a2 (!t793) l0_0 l0_1 l0_2)) else (impl_DfaNext.j0 k a1 a2 true l0_0 l0_1 l0_2))) else (impl_DfaNext.j0 k a1 a2 true l0_0 l0_1 l0_2))
theorem impl_DfaNext.mono_l : ∀ k, (∀ y0 y1 y2 y3 y4 y5, LeO (impl_DfaNext.j0 k y0 y1 y2 y3 y4 y5) (impl_DfaNext.j0 (k + 1) y0 y1 y2 y3 y4 y5)) ∧ (∀ y0 y1 y2 y3 y4 y5 y6 y7, LeO (impl_DfaNext.l0 k y0 y1 y2 y3 y4 y5 y6 y7) (impl_DfaNext.l0 (k + 1) y0 y1 y2 y3 y4 y5 y6 y7))
  | 0 => ⟨fun _ _ _ _ _ _ r h => by simp [impl_DfaNext.j0] at h, fun _ _ _ _ _ _ _ _ r h => by simp [impl_DfaNext.l0] at h⟩
  | k + 1 => by
    obtain ⟨ih0, ih1⟩ := impl_DfaNext.mono_l k
    refine ⟨?_, ?_⟩
    · intro y0 y1 y2 y3 y4 y5
      unfold impl_DfaNext.j0
      repeat' first
      | (with_reducible exact ih0 _ _ _ _ _ _)
      | (with_reducible exact ih1 _ _ _ _ _ _ _ _)
      | (with_reducible exact impl_DfaOk.mono _ _ _ _)
      | (with_reducible exact impl_SetHas.mono _ _ _)
      | (with_reducible exact LeO.refl _)
      | (with_reducible exact LeO.none _)
      | (with_reducible refine LeO.ite ?_ ?_)
      | (with_reducible refine LeO.bind ?_ (fun _ => ?_))
      | exact ih0 _ _ _ _ _ _
      | exact ih1 _ _ _ _ _ _ _ _
      | exact impl_DfaOk.mono _ _ _ _
      | exact impl_SetHas.mono _ _ _
      | exact LeO.none _
      | refine LeO.ite ?_ ?_
      | refine LeO.bind ?_ (fun _ => ?_)
    · intro y0 y1 y2 y3 y4 y5 y6 y7
      unfold impl_DfaNext.l0
      repeat' first
      | (with_reducible exact ih0 _ _ _ _ _ _)
      | (with_reducible exact ih1 _ _ _ _ _ _ _ _)
      | (with_reducible exact impl_DfaOk.mono _ _ _ _)
      | (with_reducible exact impl_SetHas.mono _ _ _)
      | (with_reducible exact LeO.refl _)
      | (with_reducible exact LeO.none _)
      | (with_reducible refine LeO.ite ?_ ?_)
      | (with_reducible refine LeO.bind ?_ (fun _ => ?_))
      | exact ih0 _ _ _ _ _ _
      | exact ih1 _ _ _ _ _ _ _ _
      | exact impl_DfaOk.mono _ _ _ _
      | exact impl_SetHas.mono _ _ _
      | exact LeO.none _
      | refine LeO.ite ?_ ?_
      | refine LeO.bind ?_ (fun _ => ?_)
theorem impl_DfaNext.mono : ∀ a0 a1 a2 a3 a4 k, LeO (impl_DfaNext.f k a0 a1 a2 a3 a4) (impl_DfaNext.f (k + 1) a0 a1 a2 a3 a4) := by
  intro a0 a1 a2 a3 a4 k
  obtain ⟨ih0, ih1⟩ := impl_DfaNext.mono_l k
  unfold impl_DfaNext.f
  repeat' first
      | (with_reducible exact ih0 _ _ _ _ _ _)
      | (with_reducible exact ih1 _ _ _ _ _ _ _ _)
      | (with_reducible exact impl_DfaOk.mono _ _ _ _)
      | (with_reducible exact impl_SetHas.mono _ _ _)
      | (with_reducible exact LeO.refl _)
      | (with_reducible exact LeO.none _)
      | (with_reducible refine LeO.ite ?_ ?_)
      | (with_reducible refine LeO.bind ?_ (fun _ => ?_))
      | exact ih0 _ _ _ _ _ _
      | exact ih1 _ _ _ _ _ _ _ _
      | exact impl_DfaOk.mono _ _ _ _
      | exact impl_SetHas.mono _ _ _
      | exact LeO.none _
      | refine LeO.ite ?_ ?_
      | refine LeO.bind ?_ (fun _ => ?_)
set_option maxHeartbeats 8000000 in
set_option maxRecDepth 100000 in
theorem impl_DfaNext.calls (k : Nat) (A0_0 : Option Addr) (c0_0 : Nat) (l0_0 : List (List (S115))) (A0_1 : Option Addr) (c0_1 : Nat) (l0_1 : List (List Int)) (A0_2 : Option Addr) (c0_2 : Nat) (l0_2 : List Int) (a1 : Int) (a2 : Int) (r : Int) (w : World) (hr0_0 : Kd.C (Kd.slice 115 k115) w A0_0 l0_0.length l0_0) (hc0_0 : l0_0.length ≤ c0_0) (hr0_1 : Kd.C (Kd.slice 3 (Kd.int .i64)) w A0_1 l0_1.length l0_1) (hc0_1 : l0_1.length ≤ c0_1) (hr0_2 : Kd.C (Kd.int .i64) w A0_2 l0_2.length l0_2) (hc0_2 : l0_2.length ≤ c0_2) (h : impl_DfaNext.f k l0_0 l0_1 l0_2 a1 a2 = some r) :
    Calls Try.prog 50 #[.agg #[.slice A0_0 l0_0.length c0_0, .slice A0_1 l0_1.length c0_1, .slice A0_2 l0_2.length c0_2], .int .i64 a1, .int .i64 a2] w fun e w' => e = .returned (.int .i64 r) ∧ Below w.heap.size w w' := by
  have hu55 := Try.underlying55
  have HR0_0 := Aside0.mk hr0_0
  have HC0_0 := Aside0.mk hc0_0
  clear hr0_0 hc0_0
  have HR0_1 := Aside0.mk hr0_1
  have HC0_1 := Aside0.mk hc0_1
  clear hr0_1 hc0_1
  have HR0_2 := Aside0.mk hr0_2
  have HC0_2 := Aside0.mk hc0_2
  clear hr0_2 hc0_2
  have HB := Aside0.mk (Below.refl w.heap.size w)
  have H : ((impl_DfaOk.f k l0_0 l0_1 l0_2).bind fun t791 => (if t791 = true then ((impl_in.f a1 0 (wrap64 ((l0_1.length : Int) - 1))).bind fun t792 => (if t792 = true then ((impl_in.f a2 0 255).bind fun t793 => (impl_DfaNext.j0 k a1 a2 (!t793) l0_0 l0_1 l0_2)) else (impl_DfaNext.j0 k a1 a2 true l0_0 l0_1 l0_2))) else (impl_DfaNext.j0 k a1 a2 true l0_0 l0_1 l0_2))) = some r := h
  clear h
  have HC4 := Aside0.mk H
  clear H
  go_enter Try.func50, Try.ntmps50
  go_upto_region 1 with (first | ((with_reducible refine gate_dst (N := 3) rfl ?_); (try (refine gate_guard (by rfl) ?_; dsimp only)); refine box_event ?hg (N := 3) ?hd (cs := #[.slice A0_0 l0_0.length c0_0, .slice A0_1 l0_1.length c0_1, .slice A0_2 l0_2.length c0_2]) (t := 55) ?hr ?_; (case hd => rfl); (case hg => rfl); (case hr => first | (go_simp; done) | (go_simp; rfl)); intro gb790 hg w5 hbox hb; have n0_ := Aside0.mk (below_step (by repeat (first | (with_reducible first | exact HB.out | apply below_alloc | apply pw_below_drewN | apply below_drew1) | exact HB.out)) hb); have n1_ := Aside0.mk (hbox); have n2_ := Aside0.mk ((by rw [hg]; exact (below_size (by repeat (first | (with_reducible first | exact HB.out | apply below_alloc | apply pw_below_drewN | apply below_drew1) | exact HB.out))) : w.heap.size ≤ gb790)); have n3_ := Aside0.mk ((by rw [hg]; exact (below_size (by repeat (first | (with_reducible first | exact HB.out | apply below_alloc | apply pw_below_drewN | apply below_drew1) | exact HB.out))) : w.heap.size ≤ gb790)); clear HB; have HB := n0_; have BK790 := n1_; have GW790 := n2_; have GE790 := n3_; clear n0_ n1_ n2_ n3_; clear hb hbox hg))
  (try simp only [Act.put, List.setIfInBounds_toArray, List.set_cons_zero, List.set_cons_succ])
  go_cut [25] (fun v25 wc => ∃ (kq : Nat) (x25_3 : Bool), v25 = .bool x25_3 ∧ Aside0 (impl_DfaNext.j0 kq a1 a2 x25_3 l0_0 l0_1 l0_2 = some r) ∧ Aside0 (kq ≤ k) ∧ Aside0 (wc.heap[gb790]? = some (.cells #[(.slice A0_0 l0_0.length c0_0), (.slice A0_1 l0_1.length c0_1), (.slice A0_2 l0_2.length c0_2)] 55 (0, 0))) ∧ Aside0 (Below w.heap.size w wc))
  case first =>
    have H := HC4.out
    clear HC4
    replace H := Option.bind_eq_some_iff.mp H
    obtain ⟨t791, A60, H⟩ := H
    replace H : (if t791 = true then ((impl_in.f a1 0 (wrap64 ((l0_1.length : Int) - 1))).bind fun t792 => (if t792 = true then ((impl_in.f a2 0 255).bind fun t793 => (impl_DfaNext.j0 k a1 a2 (!t793) l0_0 l0_1 l0_2)) else (impl_DfaNext.j0 k a1 a2 true l0_0 l0_1 l0_2))) else (impl_DfaNext.j0 k a1 a2 true l0_0 l0_1 l0_2)) = some r := H
    have A6 := Aside0.mk A60
    clear A60
    by_cases c7 : t791 = true
    · subst c7
      have H1 : ((impl_in.f a1 0 (wrap64 ((l0_1.length : Int) - 1))).bind fun t792 => (if t792 = true then ((impl_in.f a2 0 255).bind fun t793 => (impl_DfaNext.j0 k a1 a2 (!t793) l0_0 l0_1 l0_2)) else (impl_DfaNext.j0 k a1 a2 true l0_0 l0_1 l0_2))) = some r := by rw [if_pos rfl] at H; exact H
      clear H
      have H := H1
      clear H1
      replace H := Option.bind_eq_some_iff.mp H
      obtain ⟨t792, A80, H⟩ := H
      replace H : (if t792 = true then ((impl_in.f a2 0 255).bind fun t793 => (impl_DfaNext.j0 k a1 a2 (!t793) l0_0 l0_1 l0_2)) else (impl_DfaNext.j0 k a1 a2 true l0_0 l0_1 l0_2)) = some r := H
      have A8 := Aside0.mk A80
      clear A80
      by_cases c9 : t792 = true
      · subst c9
        have H1 : ((impl_in.f a2 0 255).bind fun t793 => (impl_DfaNext.j0 k a1 a2 (!t793) l0_0 l0_1 l0_2)) = some r := by rw [if_pos rfl] at H; exact H
        clear H
        have H := H1
        clear H1
        replace H := Option.bind_eq_some_iff.mp H
        obtain ⟨t793, A100, H⟩ := H
        replace H : (impl_DfaNext.j0 k a1 a2 (!t793) l0_0 l0_1 l0_2) = some r := H
        have A10 := Aside0.mk A100
        clear A100
        have H' := Aside0.mk H
        clear H
        have hcz11_0 : w5.cell? ⟨gb790, 0, none⟩ = some (.slice A0_0 l0_0.length c0_0) := (blk_cell BK790.out 0).trans rfl
        have hcz11_1 : w5.cell? ⟨gb790, 1, none⟩ = some (.slice A0_1 l0_1.length c0_1) := (blk_cell BK790.out 1).trans rfl
        have hcz11_2 : w5.cell? ⟨gb790, 2, none⟩ = some (.slice A0_2 l0_2.length c0_2) := (blk_cell BK790.out 2).trans rfl
        have hfz11_0 := blk_frozen BK790.out 0
        have hfz11_1 := blk_frozen BK790.out 1
        have hfz11_2 := blk_frozen BK790.out 2
        go_wp2_with (first | ((with_reducible refine gate_callee (f := 48) rfl ?_); refine goesL_ (some 10) rfl rfl Try.func48 (by kernel_rfl) rfl #[.agg #[.slice A0_0 l0_0.length c0_0, .slice A0_1 l0_1.length c0_1, .slice A0_2 l0_2.length c0_2]] rfl (by (try simp only [List.map_toArray, List.map_cons, List.map_nil]); first | done | rfl | (simp only [List.length_drop, List.length_take]; rfl)) ?_; (with_reducible refine (impl_DfaOk.calls k _ _ l0_0 _ _ l0_1 _ _ l0_2 true _ ?side1 ?side2 ?side3 ?side4 ?side5 ?side6 A6.out).mono ?_); (case side1 => repeat (first | exact (Kd.C_below HR0_0.out HB.out) | (with_reducible refine Kd.C_alloc ?_ _) | (with_reducible refine Kd.C_drewN ?_ _) | (with_reducible refine Kd.C_drew ?_))); (case side2 => exact HC0_0.out); (case side3 => repeat (first | exact (Kd.C_below HR0_1.out HB.out) | (with_reducible refine Kd.C_alloc ?_ _) | (with_reducible refine Kd.C_drewN ?_ _) | (with_reducible refine Kd.C_drew ?_))); (case side4 => exact HC0_1.out); (case side5 => repeat (first | exact (Kd.C_below HR0_2.out HB.out) | (with_reducible refine Kd.C_alloc ?_ _) | (with_reducible refine Kd.C_drewN ?_ _) | (with_reducible refine Kd.C_drew ?_))); (case side6 => exact HC0_2.out); rintro e w12 ⟨rfl, hb⟩; refine ⟨_, rfl, ?_⟩; have n0_ := Aside0.mk (blk_below (g := gb790) (o := .cells #[.slice A0_0 l0_0.length c0_0, .slice A0_1 l0_1.length c0_1, .slice A0_2 l0_2.length c0_2] 55 (0, 0)) (by (with_reducible repeat (first | refine blk_drewN ?_ _ | refine blk_drew ?_ | refine blk_alloc ?_ _)); exact BK790.out) hb); have n1_ := Aside0.mk (below_step (by repeat (first | (with_reducible first | exact HB.out | apply below_alloc | apply pw_below_drewN | apply below_drew1 | refine below_set ?_ GE790.out) | exact HB.out)) hb); clear BK790; clear HB; have BK790 := n0_; have HB := n1_; clear n0_ n1_; (try clear hb); (try clear hb2); (try clear hk); (try clear hi); have hcz13_0 : w12.cell? ⟨gb790, 0, none⟩ = some (.slice A0_0 l0_0.length c0_0) := (blk_cell BK790.out 0).trans rfl; have hcz13_1 : w12.cell? ⟨gb790, 1, none⟩ = some (.slice A0_1 l0_1.length c0_1) := (blk_cell BK790.out 1).trans rfl; have hcz13_2 : w12.cell? ⟨gb790, 2, none⟩ = some (.slice A0_2 l0_2.length c0_2) := (blk_cell BK790.out 2).trans rfl; have hfz13_0 := blk_frozen BK790.out 0; have hfz13_1 := blk_frozen BK790.out 1; have hfz13_2 := blk_frozen BK790.out 2) | (go_at_call 51; (with_reducible refine (impl_in.calls a1 0 (wrap64 ((l0_1.length : Int) - 1)) true _ A8.out).mono ?_); rintro e w' ⟨rfl, ⟨nd, rfl⟩⟩) | (go_at_call 51; (with_reducible refine (impl_in.calls a2 0 255 t793 _ A10.out).mono ?_); rintro e w' ⟨rfl, ⟨nd, rfl⟩⟩))
        go_meet
        case rel => exact ⟨_, (!t793), (by first | rfl | (simp; done) | (simp [*]; done)), H', ⟨by first | omega | exact Nat.le_refl _⟩, ⟨by (with_reducible repeat (first | refine blk_drewN ?_ _ | refine blk_drew ?_ | refine blk_alloc ?_ _)); exact BK790.out⟩, ⟨by repeat (first | (with_reducible first | exact HB.out | apply below_alloc | apply pw_below_drewN | apply below_drew1 | refine below_set ?_ GE790.out) | exact HB.out)⟩⟩
      · replace c9 := Bool.eq_false_iff.mpr c9
        subst c9
        have H1 : (impl_DfaNext.j0 k a1 a2 true l0_0 l0_1 l0_2) = some r := by rw [if_neg (show ¬ (false = true) by decide)] at H; exact H
        clear H
        have H := H1
        clear H1
        have H' := Aside0.mk H
        clear H
        have hcz14_0 : w5.cell? ⟨gb790, 0, none⟩ = some (.slice A0_0 l0_0.length c0_0) := (blk_cell BK790.out 0).trans rfl
        have hcz14_1 : w5.cell? ⟨gb790, 1, none⟩ = some (.slice A0_1 l0_1.length c0_1) := (blk_cell BK790.out 1).trans rfl
        have hcz14_2 : w5.cell? ⟨gb790, 2, none⟩ = some (.slice A0_2 l0_2.length c0_2) := (blk_cell BK790.out 2).trans rfl
        have hfz14_0 := blk_frozen BK790.out 0
        have hfz14_1 := blk_frozen BK790.out 1
        have hfz14_2 := blk_frozen BK790.out 2
        go_wp2_with (first | ((with_reducible refine gate_callee (f := 48) rfl ?_); refine goesL_ (some 10) rfl rfl Try.func48 (by kernel_rfl) rfl #[.agg #[.slice A0_0 l0_0.length c0_0, .slice A0_1 l0_1.length c0_1, .slice A0_2 l0_2.length c0_2]] rfl (by (try simp only [List.map_toArray, List.map_cons, List.map_nil]); first | done | rfl | (simp only [List.length_drop, List.length_take]; rfl)) ?_; (with_reducible refine (impl_DfaOk.calls k _ _ l0_0 _ _ l0_1 _ _ l0_2 true _ ?side1 ?side2 ?side3 ?side4 ?side5 ?side6 A6.out).mono ?_); (case side1 => repeat (first | exact (Kd.C_below HR0_0.out HB.out) | (with_reducible refine Kd.C_alloc ?_ _) | (with_reducible refine Kd.C_drewN ?_ _) | (with_reducible refine Kd.C_drew ?_))); (case side2 => exact HC0_0.out); (case side3 => repeat (first | exact (Kd.C_below HR0_1.out HB.out) | (with_reducible refine Kd.C_alloc ?_ _) | (with_reducible refine Kd.C_drewN ?_ _) | (with_reducible refine Kd.C_drew ?_))); (case side4 => exact HC0_1.out); (case side5 => repeat (first | exact (Kd.C_below HR0_2.out HB.out) | (with_reducible refine Kd.C_alloc ?_ _) | (with_reducible refine Kd.C_drewN ?_ _) | (with_reducible refine Kd.C_drew ?_))); (case side6 => exact HC0_2.out); rintro e w15 ⟨rfl, hb⟩; refine ⟨_, rfl, ?_⟩; have n0_ := Aside0.mk (blk_below (g := gb790) (o := .cells #[.slice A0_0 l0_0.length c0_0, .slice A0_1 l0_1.length c0_1, .slice A0_2 l0_2.length c0_2] 55 (0, 0)) (by (with_reducible repeat (first | refine blk_drewN ?_ _ | refine blk_drew ?_ | refine blk_alloc ?_ _)); exact BK790.out) hb); have n1_ := Aside0.mk (below_step (by repeat (first | (with_reducible first | exact HB.out | apply below_alloc | apply pw_below_drewN | apply below_drew1 | refine below_set ?_ GE790.out) | exact HB.out)) hb); clear BK790; clear HB; have BK790 := n0_; have HB := n1_; clear n0_ n1_; (try clear hb); (try clear hb2); (try clear hk); (try clear hi); have hcz16_0 : w15.cell? ⟨gb790, 0, none⟩ = some (.slice A0_0 l0_0.length c0_0) := (blk_cell BK790.out 0).trans rfl; have hcz16_1 : w15.cell? ⟨gb790, 1, none⟩ = some (.slice A0_1 l0_1.length c0_1) := (blk_cell BK790.out 1).trans rfl; have hcz16_2 : w15.cell? ⟨gb790, 2, none⟩ = some (.slice A0_2 l0_2.length c0_2) := (blk_cell BK790.out 2).trans rfl; have hfz16_0 := blk_frozen BK790.out 0; have hfz16_1 := blk_frozen BK790.out 1; have hfz16_2 := blk_frozen BK790.out 2) | (go_at_call 51; (with_reducible refine (impl_in.calls a1 0 (wrap64 ((l0_1.length : Int) - 1)) false _ A8.out).mono ?_); rintro e w' ⟨rfl, ⟨nd, rfl⟩⟩))
        go_meet
        case rel => exact ⟨_, (true), (by first | rfl | (simp; done) | (simp [*]; done)), H', ⟨by first | omega | exact Nat.le_refl _⟩, ⟨by (with_reducible repeat (first | refine blk_drewN ?_ _ | refine blk_drew ?_ | refine blk_alloc ?_ _)); exact BK790.out⟩, ⟨by repeat (first | (with_reducible first | exact HB.out | apply below_alloc | apply pw_below_drewN | apply below_drew1 | refine below_set ?_ GE790.out) | exact HB.out)⟩⟩
    · replace c7 := Bool.eq_false_iff.mpr c7
      subst c7
      have H1 : (impl_DfaNext.j0 k a1 a2 true l0_0 l0_1 l0_2) = some r := by rw [if_neg (show ¬ (false = true) by decide)] at H; exact H
      clear H
      have H := H1
      clear H1
      have H' := Aside0.mk H
      clear H
      have hcz17_0 : w5.cell? ⟨gb790, 0, none⟩ = some (.slice A0_0 l0_0.length c0_0) := (blk_cell BK790.out 0).trans rfl
      have hcz17_1 : w5.cell? ⟨gb790, 1, none⟩ = some (.slice A0_1 l0_1.length c0_1) := (blk_cell BK790.out 1).trans rfl
      have hcz17_2 : w5.cell? ⟨gb790, 2, none⟩ = some (.slice A0_2 l0_2.length c0_2) := (blk_cell BK790.out 2).trans rfl
      have hfz17_0 := blk_frozen BK790.out 0
      have hfz17_1 := blk_frozen BK790.out 1
      have hfz17_2 := blk_frozen BK790.out 2
      go_wp2_with (first | ((with_reducible refine gate_callee (f := 48) rfl ?_); refine goesL_ (some 10) rfl rfl Try.func48 (by kernel_rfl) rfl #[.agg #[.slice A0_0 l0_0.length c0_0, .slice A0_1 l0_1.length c0_1, .slice A0_2 l0_2.length c0_2]] rfl (by (try simp only [List.map_toArray, List.map_cons, List.map_nil]); first | done | rfl | (simp only [List.length_drop, List.length_take]; rfl)) ?_; (with_reducible refine (impl_DfaOk.calls k _ _ l0_0 _ _ l0_1 _ _ l0_2 false _ ?side1 ?side2 ?side3 ?side4 ?side5 ?side6 A6.out).mono ?_); (case side1 => repeat (first | exact (Kd.C_below HR0_0.out HB.out) | (with_reducible refine Kd.C_alloc ?_ _) | (with_reducible refine Kd.C_drewN ?_ _) | (with_reducible refine Kd.C_drew ?_))); (case side2 => exact HC0_0.out); (case side3 => repeat (first | exact (Kd.C_below HR0_1.out HB.out) | (with_reducible refine Kd.C_alloc ?_ _) | (with_reducible refine Kd.C_drewN ?_ _) | (with_reducible refine Kd.C_drew ?_))); (case side4 => exact HC0_1.out); (case side5 => repeat (first | exact (Kd.C_below HR0_2.out HB.out) | (with_reducible refine Kd.C_alloc ?_ _) | (with_reducible refine Kd.C_drewN ?_ _) | (with_reducible refine Kd.C_drew ?_))); (case side6 => exact HC0_2.out); rintro e w18 ⟨rfl, hb⟩; refine ⟨_, rfl, ?_⟩; have n0_ := Aside0.mk (blk_below (g := gb790) (o := .cells #[.slice A0_0 l0_0.length c0_0, .slice A0_1 l0_1.length c0_1, .slice A0_2 l0_2.length c0_2] 55 (0, 0)) (by (with_reducible repeat (first | refine blk_drewN ?_ _ | refine blk_drew ?_ | refine blk_alloc ?_ _)); exact BK790.out) hb); have n1_ := Aside0.mk (below_step (by repeat (first | (with_reducible first | exact HB.out | apply below_alloc | apply pw_below_drewN | apply below_drew1 | refine below_set ?_ GE790.out) | exact HB.out)) hb); clear BK790; clear HB; have BK790 := n0_; have HB := n1_; clear n0_ n1_; (try clear hb); (try clear hb2); (try clear hk); (try clear hi)))
      go_meet
      case rel => exact ⟨_, (true), (by first | rfl | (simp; done) | (simp [*]; done)), H', ⟨by first | omega | exact Nat.le_refl _⟩, ⟨by (with_reducible repeat (first | refine blk_drewN ?_ _ | refine blk_drew ?_ | refine blk_alloc ?_ _)); exact BK790.out⟩, ⟨by repeat (first | (with_reducible first | exact HB.out | apply below_alloc | apply pw_below_drewN | apply below_drew1 | refine below_set ?_ GE790.out) | exact HB.out)⟩⟩
  case rest =>
    clear HC4
    try clear p2
    try clear c4
    try clear c5
    try clear p6
    try clear c7
    try clear c9
    try clear hcz11_0
    try clear hcz11_1
    try clear hcz11_2
    try clear hcz13_0
    try clear hcz13_1
    try clear hcz13_2
    try clear hcz14_0
    try clear hcz14_1
    try clear hcz14_2
    try clear hcz16_0
    try clear hcz16_1
    try clear hcz16_2
    try clear hcz17_0
    try clear hcz17_1
    try clear hcz17_2
    try clear hfz11_0
    try clear hfz11_1
    try clear hfz11_2
    try clear hfz13_0
    try clear hfz13_1
    try clear hfz13_2
    try clear hfz14_0
    try clear hfz14_1
    try clear hfz14_2
    try clear hfz16_0
    try clear hfz16_1
    try clear hfz16_2
    try clear hfz17_0
    try clear hfz17_1
    try clear hfz17_2
    obtain ⟨kq, x25_3, rfl, HA, HJ3, BK790, HB⟩ := hcut
    cases kq with
    | zero => exact absurd HA.out (by simp [impl_DfaNext.j0])
    | succ kj3 =>
      have H := HA.out
      clear HA
      simp only [impl_DfaNext.j0] at H
      by_cases c19 : x25_3 = true
      · subst c19
        have H1 : (some (-1)) = some r := by rw [if_pos rfl] at H; exact H
        clear H
        have H := H1
        clear H1
        obtain rfl := Option.some.inj H
        go_wp2
        go_ret
        exact ⟨by first | rfl | (simp [errW_none, errW_some] <;> rfl) | (simp [*, errW_none, errW_some] <;> rfl), by repeat (first | (with_reducible first | exact HB.out | apply below_alloc | apply pw_below_drewN | apply below_drew1 | refine below_set ?_ GE790.out) | exact HB.out)⟩
      · replace c19 := Bool.eq_false_iff.mpr c19
        subst c19
        have H1 : (impl_DfaNext.l0 kj3 a1 a2 l0_0 (l0_0.length : Int) 0 l0_0 l0_1 l0_2) = some r := by rw [if_neg (show ¬ (false = true) by decide)] at H; exact H
        clear H
        have H := H1
        clear H1
        have H' := Aside0.mk H
        clear H
        have hcz20_0 : wc.cell? ⟨gb790, 0, none⟩ = some (.slice A0_0 l0_0.length c0_0) := (blk_cell BK790.out 0).trans rfl
        have hcz20_1 : wc.cell? ⟨gb790, 1, none⟩ = some (.slice A0_1 l0_1.length c0_1) := (blk_cell BK790.out 1).trans rfl
        have hcz20_2 : wc.cell? ⟨gb790, 2, none⟩ = some (.slice A0_2 l0_2.length c0_2) := (blk_cell BK790.out 2).trans rfl
        have hfz20_0 := blk_frozen BK790.out 0
        have hfz20_1 := blk_frozen BK790.out 1
        have hfz20_2 := blk_frozen BK790.out 2
        go_wp2
        go_loopg [29] kj3 (fun kq v29 w' => ∃ (x29_2 : Int), v29 = .int .i64 x29_2 ∧ Aside0 (impl_DfaNext.l0 kq a1 a2 l0_0 (l0_0.length : Int) x29_2 l0_0 l0_1 l0_2 = some r) ∧ Aside0 (kq ≤ kj3) ∧ Aside0 (w'.heap[gb790]? = some (.cells #[(.slice A0_0 l0_0.length c0_0), (.slice A0_1 l0_1.length c0_1), (.slice A0_2 l0_2.length c0_2)] 55 (0, 0))) ∧ Aside0 (Below w.heap.size w w'))
        case atStart => exact ⟨(0), (by first | rfl | (simp; done) | (simp [*]; done)), H', ⟨Nat.le_refl _⟩, ⟨by (with_reducible repeat (first | refine blk_drewN ?_ _ | refine blk_drew ?_ | refine blk_alloc ?_ _)); exact BK790.out⟩, ⟨by repeat (first | (with_reducible first | exact HB.out | apply below_alloc | apply pw_below_drewN | apply below_drew1 | refine below_set ?_ GE790.out) | exact HB.out)⟩⟩
        case round =>
          clear H'
          try clear c1
          try clear p2
          try clear c4
          try clear c5
          try clear p6
          try clear c7
          try clear c9
          try clear c19
          try clear hcz11_0
          try clear hcz11_1
          try clear hcz11_2
          try clear hcz13_0
          try clear hcz13_1
          try clear hcz13_2
          try clear hcz14_0
          try clear hcz14_1
          try clear hcz14_2
          try clear hcz16_0
          try clear hcz16_1
          try clear hcz16_2
          try clear hcz17_0
          try clear hcz17_1
          try clear hcz17_2
          try clear hcz20_0
          try clear hcz20_1
          try clear hcz20_2
          try clear hfz11_0
          try clear hfz11_1
          try clear hfz11_2
          try clear hfz13_0
          try clear hfz13_1
          try clear hfz13_2
          try clear hfz14_0
          try clear hfz14_1
          try clear hfz14_2
          try clear hfz16_0
          try clear hfz16_1
          try clear hfz16_2
          try clear hfz17_0
          try clear hfz17_1
          try clear hfz17_2
          try clear hfz20_0
          try clear hfz20_1
          try clear hfz20_2
          try clear p2
          try clear p6
          obtain ⟨x29_2, rfl, HA, HK2, BK790, HB⟩ := hrel
          cases gk with
          | zero => exact absurd HA.out (by simp [impl_DfaNext.l0])
          | succ k2 =>
            have H := HA.out
            clear HA
            simp only [impl_DfaNext.l0] at H
            by_cases c21 : x29_2 < (l0_0.length : Int)
            · rw [if_pos c21] at H
              have c21b0 : decide (x29_2 < (l0_0.length : Int)) = true := decide_eq_true c21
              clear c21
              by_cases c22 : 0 ≤ x29_2
              · rw [if_pos c22] at H
                have c22b0 : decide (0 ≤ x29_2) = true := decide_eq_true c22
                clear c22
                by_cases c23 : x29_2 < (l0_0.length : Int)
                · rw [if_pos c23] at H
                  have c23b0 : decide (x29_2 < (l0_0.length : Int)) = true := decide_eq_true c23
                  clear c23
                  replace H := Option.bind_eq_some_iff.mp H
                  obtain ⟨t795, A240, H⟩ := H
                  replace H : (if t795 = true then (if 0 ≤ a1 then (if a1 < (l0_1.length : Int) then (if x29_2 < ((rd_L14 l0_1 a1).length : Int) then (some (rd (rd_L14 l0_1 a1) x29_2)) else (none)) else (none)) else (none)) else (impl_DfaNext.l0 k2 a1 a2 l0_0 (l0_0.length : Int) (wrap64 (x29_2 + 1)) l0_0 l0_1 l0_2)) = some r := H
                  have A24 := Aside0.mk A240
                  clear A240
                  by_cases c25 : t795 = true
                  · subst c25
                    have H1 : (if 0 ≤ a1 then (if a1 < (l0_1.length : Int) then (if x29_2 < ((rd_L14 l0_1 a1).length : Int) then (some (rd (rd_L14 l0_1 a1) x29_2)) else (none)) else (none)) else (none)) = some r := by rw [if_pos rfl] at H; exact H
                    clear H
                    have H := H1
                    clear H1
                    by_cases c26 : 0 ≤ a1
                    · rw [if_pos c26] at H
                      have c26b0 : decide (0 ≤ a1) = true := decide_eq_true c26
                      clear c26
                      by_cases c27 : a1 < (l0_1.length : Int)
                      · rw [if_pos c27] at H
                        have c27b0 : decide (a1 < (l0_1.length : Int)) = true := decide_eq_true c27
                        clear c27
                        by_cases c28 : x29_2 < ((rd_L14 l0_1 a1).length : Int)
                        · rw [if_pos c28] at H
                          have c28b0 : decide (x29_2 < ((rd_L14 l0_1 a1).length : Int)) = true := decide_eq_true c28
                          clear c28
                          obtain rfl := Option.some.inj H
                          have p794 : 0 ≤ (x29_2 : Int) := of_decide_eq_true (by first | (with_reducible assumption) | assumption)
                          have q794 : x29_2 < (l0_0.length : Int) := of_decide_eq_true (by first | (with_reducible assumption) | assumption)
                          obtain ⟨ad794, A794_0, c794_0, e794, hx794_0, hl794_0, hi794_0⟩ := at_L11 HR0_0.out x29_2 p794 q794
                          cases e794
                          replace hx794_0 := (HB.out.cell (World.block_lt_of_cell? w _ hx794_0)).trans hx794_0
                          have HR794_0 := Aside0.mk hi794_0
                          have HC794_0 := Aside0.mk hl794_0
                          clear hi794_0 hl794_0
                          replace p794 := eq_true p794
                          replace q794 := eq_true q794
                          go_wp2_with (first | ((with_reducible refine gate_callee (f := 89) rfl ?_); refine goesL_ (some 36) rfl rfl Try.func89 (by kernel_rfl) rfl #[.slice A794_0 (rd_L11 l0_0 x29_2).length c794_0, .int .i64 a2] rfl (by (try simp only [List.map_toArray, List.map_cons, List.map_nil]); first | done | rfl | (simp only [List.length_drop, List.length_take]; rfl)) ?_; (with_reducible refine (impl_SetHas.calls k2 _ _ (rd_L11 l0_0 x29_2) a2 true _ ?side1 ?side2 A24.out).mono ?_); (case side1 => repeat (first | exact (Kd.C_below HR794_0.out HB.out) | (with_reducible refine Kd.C_alloc ?_ _) | (with_reducible refine Kd.C_drewN ?_ _) | (with_reducible refine Kd.C_drew ?_))); (case side2 => exact HC794_0.out); rintro e w29 ⟨rfl, hb⟩; refine ⟨_, rfl, ?_⟩; have n0_ := Aside0.mk (blk_below (g := gb790) (o := .cells #[.slice (some ad794) l0_0.length c0_0, .slice A0_1 l0_1.length c0_1, .slice A0_2 l0_2.length c0_2] 55 (0, 0)) (by (with_reducible repeat (first | refine blk_drewN ?_ _ | refine blk_drew ?_ | refine blk_alloc ?_ _)); exact BK790.out) hb); have n1_ := Aside0.mk (below_step (by repeat (first | (with_reducible first | exact HB.out | apply below_alloc | apply pw_below_drewN | apply below_drew1 | refine below_set ?_ GE790.out) | exact HB.out)) hb); clear BK790; clear HB; have BK790 := n0_; have HB := n1_; clear n0_ n1_; (try clear hb); (try clear hb2); (try clear hk); (try clear hi); have hcz30_0 : w29.cell? ⟨gb790, 0, none⟩ = some (.slice (some ad794) l0_0.length c0_0) := (blk_cell BK790.out 0).trans rfl; have hcz30_1 : w29.cell? ⟨gb790, 1, none⟩ = some (.slice A0_1 l0_1.length c0_1) := (blk_cell BK790.out 1).trans rfl; have hcz30_2 : w29.cell? ⟨gb790, 2, none⟩ = some (.slice A0_2 l0_2.length c0_2) := (blk_cell BK790.out 2).trans rfl; have hfz30_0 := blk_frozen BK790.out 0; have hfz30_1 := blk_frozen BK790.out 1; have hfz30_2 := blk_frozen BK790.out 2; have p796 : 0 ≤ (a1 : Int) := of_decide_eq_true (by first | (with_reducible assumption) | assumption); have q796 : a1 < (l0_1.length : Int) := of_decide_eq_true (by first | (with_reducible assumption) | assumption); obtain ⟨ad796, A796_0, c796_0, e796, hx796_0, hl796_0, hi796_0⟩ := at_L14 HR0_1.out a1 p796 q796; cases e796; replace hx796_0 := (HB.out.cell (World.block_lt_of_cell? w _ hx796_0)).trans hx796_0; have HR796_0 := Aside0.mk hi796_0; have HC796_0 := Aside0.mk hl796_0; clear hi796_0 hl796_0; replace p796 := eq_true p796; replace q796 := eq_true q796; have p797 : 0 ≤ (x29_2 : Int) := of_decide_eq_true (by first | (with_reducible assumption) | assumption); have q797 : x29_2 < ((rd_L14 l0_1 a1).length : Int) := of_decide_eq_true (by first | (with_reducible assumption) | assumption); obtain ⟨ad797, e797, hx797_0⟩ := Kd.at_int HR796_0.out x29_2 p797 q797; cases e797; replace hx797_0 := (HB.out.cell (World.block_lt_of_cell? w _ hx797_0)).trans hx797_0; replace p797 := eq_true p797; replace q797 := eq_true q797))
                          go_ret
                          exact ⟨by first | rfl | (simp [errW_none, errW_some] <;> rfl) | (simp [*, errW_none, errW_some] <;> rfl), by repeat (first | (with_reducible first | exact HB.out | apply below_alloc | apply pw_below_drewN | apply below_drew1 | refine below_set ?_ GE790.out) | exact HB.out)⟩
                        · rw [if_neg c28] at H
                          exact absurd H (by simp)
                      · rw [if_neg c27] at H
                        exact absurd H (by simp)
                    · rw [if_neg c26] at H
                      exact absurd H (by simp)
                  · replace c25 := Bool.eq_false_iff.mpr c25
                    subst c25
                    have H1 : (impl_DfaNext.l0 k2 a1 a2 l0_0 (l0_0.length : Int) (wrap64 (x29_2 + 1)) l0_0 l0_1 l0_2) = some r := by rw [if_neg (show ¬ (false = true) by decide)] at H; exact H
                    clear H
                    have H := H1
                    clear H1
                    have H' := Aside0.mk H
                    clear H
                    have p794 : 0 ≤ (x29_2 : Int) := of_decide_eq_true (by first | (with_reducible assumption) | assumption)
                    have q794 : x29_2 < (l0_0.length : Int) := of_decide_eq_true (by first | (with_reducible assumption) | assumption)
                    obtain ⟨ad794, A794_0, c794_0, e794, hx794_0, hl794_0, hi794_0⟩ := at_L11 HR0_0.out x29_2 p794 q794
                    cases e794
                    replace hx794_0 := (HB.out.cell (World.block_lt_of_cell? w _ hx794_0)).trans hx794_0
                    have HR794_0 := Aside0.mk hi794_0
                    have HC794_0 := Aside0.mk hl794_0
                    clear hi794_0 hl794_0
                    replace p794 := eq_true p794
                    replace q794 := eq_true q794
                    go_wp2_with (first | ((with_reducible refine gate_callee (f := 89) rfl ?_); refine goesL_ (some 36) rfl rfl Try.func89 (by kernel_rfl) rfl #[.slice A794_0 (rd_L11 l0_0 x29_2).length c794_0, .int .i64 a2] rfl (by (try simp only [List.map_toArray, List.map_cons, List.map_nil]); first | done | rfl | (simp only [List.length_drop, List.length_take]; rfl)) ?_; (with_reducible refine (impl_SetHas.calls k2 _ _ (rd_L11 l0_0 x29_2) a2 false _ ?side1 ?side2 A24.out).mono ?_); (case side1 => repeat (first | exact (Kd.C_below HR794_0.out HB.out) | (with_reducible refine Kd.C_alloc ?_ _) | (with_reducible refine Kd.C_drewN ?_ _) | (with_reducible refine Kd.C_drew ?_))); (case side2 => exact HC794_0.out); rintro e w31 ⟨rfl, hb⟩; refine ⟨_, rfl, ?_⟩; have n0_ := Aside0.mk (blk_below (g := gb790) (o := .cells #[.slice (some ad794) l0_0.length c0_0, .slice A0_1 l0_1.length c0_1, .slice A0_2 l0_2.length c0_2] 55 (0, 0)) (by (with_reducible repeat (first | refine blk_drewN ?_ _ | refine blk_drew ?_ | refine blk_alloc ?_ _)); exact BK790.out) hb); have n1_ := Aside0.mk (below_step (by repeat (first | (with_reducible first | exact HB.out | apply below_alloc | apply pw_below_drewN | apply below_drew1 | refine below_set ?_ GE790.out) | exact HB.out)) hb); clear BK790; clear HB; have BK790 := n0_; have HB := n1_; clear n0_ n1_; (try clear hb); (try clear hb2); (try clear hk); (try clear hi)))
                    go_roundg k2
                    case measure => have := HJ3.out; have := HK2.out; omega
                    case rel => exact ⟨(wrap64 (x29_2 + 1)), (by first | rfl | (simp; done) | (simp [*]; done)), H', ⟨by have := HJ3.out; have := HK2.out; omega⟩, ⟨by (with_reducible repeat (first | refine blk_drewN ?_ _ | refine blk_drew ?_ | refine blk_alloc ?_ _)); exact BK790.out⟩, ⟨by repeat (first | (with_reducible first | exact HB.out | apply below_alloc | apply pw_below_drewN | apply below_drew1 | refine below_set ?_ GE790.out) | exact HB.out)⟩⟩
                · rw [if_neg c23] at H
                  exact absurd H (by simp)
              · rw [if_neg c22] at H
                exact absurd H (by simp)
            · rw [if_neg c21] at H
              have c21b0 : decide (x29_2 < (l0_0.length : Int)) = false := decide_eq_false c21
              clear c21
              obtain rfl := Option.some.inj H
              go_wp2
              go_ret
              exact ⟨by first | rfl | (simp [errW_none, errW_some] <;> rfl) | (simp [*, errW_none, errW_some] <;> rfl), by repeat (first | (with_reducible first | exact HB.out | apply below_alloc | apply pw_below_drewN | apply below_drew1 | refine below_set ?_ GE790.out) | exact HB.out)⟩
end Go.Proofs.Ytljaoggbfoimfaa.P

namespace Go.Proofs.Ytljaoggbfoimfaa.P
open Go.RowKit Go.Proofs.YtljaoggbfoimfaaW.PrintWords Go.Proofs.YtljaoggbfoimfaaW.PrintLast Go.Proofs.YtljaoggbfoimfaaW.PrintMore
attribute [local go_sem] max2_int min2_int max_two min_two max_three min_three max_four min_four   -- for this text's walks alone
set_option linter.unusedVariables false
set_option linter.unusedSimpArgs false
def laws_eqIntS.l0 : Nat → List Int → List Int → Int → Option (Bool)
  | 0, _, _, _ => none
  | k + 1, x0, x1, x5 => if x5 < (x0.length : Int) then (if 0 ≤ x5 then (if x5 < (x1.length : Int) then (if (rd x0 x5) = (rd x1 x5) then (laws_eqIntS.l0 k x0 x1 (wrap64 (x5 + 1))) else (some false)) else (none)) else (none)) else (some true)
def laws_eqIntS.f (k : Nat) (l0 : List Int) (l1 : List Int) : Option (Bool) := if (l0.length : Int) = (l1.length : Int) then (laws_eqIntS.l0 k l0 l1 0) else (some false)
theorem laws_eqIntS.mono_l : ∀ k, (∀ y0 y1 y2, LeO (laws_eqIntS.l0 k y0 y1 y2) (laws_eqIntS.l0 (k + 1) y0 y1 y2))
  | 0 => fun _ _ _ r h => by simp [laws_eqIntS.l0] at h
  | k + 1 => by
    have ih0 := laws_eqIntS.mono_l k
    · intro y0 y1 y2
      unfold laws_eqIntS.l0
      repeat' first
      | (with_reducible exact ih0 _ _ _)
      | (with_reducible exact LeO.refl _)
      | (with_reducible exact LeO.none _)
      | (with_reducible refine LeO.ite ?_ ?_)
      | (with_reducible refine LeO.bind ?_ (fun _ => ?_))
      | exact ih0 _ _ _
      | exact LeO.none _
      | refine LeO.ite ?_ ?_
      | refine LeO.bind ?_ (fun _ => ?_)
theorem laws_eqIntS.mono : ∀ a0 a1 k, LeO (laws_eqIntS.f k a0 a1) (laws_eqIntS.f (k + 1) a0 a1) := by
  intro a0 a1 k
  have ih0 := laws_eqIntS.mono_l k
  unfold laws_eqIntS.f
  repeat' first
      | (with_reducible exact ih0 _ _ _)
      | (with_reducible exact LeO.refl _)
      | (with_reducible exact LeO.none _)
      | (with_reducible refine LeO.ite ?_ ?_)
      | (with_reducible refine LeO.bind ?_ (fun _ => ?_))
      | exact ih0 _ _ _
      | exact LeO.none _
      | refine LeO.ite ?_ ?_
      | refine LeO.bind ?_ (fun _ => ?_)
set_option maxHeartbeats 8000000 in
set_option maxRecDepth 100000 in
theorem laws_eqIntS.calls (k : Nat) (A0 : Option Addr) (c0 : Nat) (l0 : List Int) (A1 : Option Addr) (c1 : Nat) (l1 : List Int) (r : Bool) (w : World) (hr0 : Kd.C (Kd.int .i64) w A0 l0.length l0) (hc0 : l0.length ≤ c0) (hr1 : Kd.C (Kd.int .i64) w A1 l1.length l1) (hc1 : l1.length ≤ c1) (h : laws_eqIntS.f k l0 l1 = some r) :
    Calls Try.prog 81 #[.slice A0 l0.length c0, .slice A1 l1.length c1] w fun e w' => e = .returned (.bool r) ∧ Drawn0 w w' := by
  have HR0 := Aside0.mk hr0
  have HC0 := Aside0.mk hc0
  clear hr0 hc0
  have HR1 := Aside0.mk hr1
  have HC1 := Aside0.mk hc1
  clear hr1 hc1
  have H : (if (l0.length : Int) = (l1.length : Int) then (laws_eqIntS.l0 k l0 l1 0) else (some false)) = some r := h
  clear h
  by_cases c3 : (l0.length : Int) = (l1.length : Int)
  · rw [if_pos c3] at H
    have c3b0 : ((l0.length : Int) == (l1.length : Int)) = true := beq_iff_eq.mpr c3
    have c3b1 : ((l0.length : Int) != (l1.length : Int)) = false := bne_eq_false_iff_eq.mpr c3
    have c3b2 : (l0.length == l1.length) = true := by first | simpa using c3 | (simp at c3 ⊢; omega)
    clear c3
    have H' := Aside0.mk H
    clear H
    go_enter Try.func81, Try.ntmps81
    go_wp2
    repeat (go_quiet (fail); try go_wp2)
    go_loopg [5] k (fun kq v5 w' => ∃ (x5_1 : Int), v5 = .int .i64 x5_1 ∧ Aside0 (laws_eqIntS.l0 kq l0 l1 x5_1 = some r) ∧ Aside0 (kq ≤ k) ∧ Drawn0 w w')
    case atStart => exact ⟨(0), (by first | rfl | (simp; done) | (simp [*]; done)), H', ⟨Nat.le_refl _⟩, by repeat (first | exact Drawn0.refl _ | apply Drawn0.step)⟩
    case round =>
      clear H'
      try clear c1
      try clear p2
      try clear c3
      try clear c3b0
      try clear c3b1
      try clear c3b2
      obtain ⟨x5_1, rfl, HA, HK1, ⟨m1, rfl⟩⟩ := hrel
      cases gk with
      | zero => exact absurd HA.out (by simp [laws_eqIntS.l0])
      | succ k1 =>
        have H := HA.out
        clear HA
        simp only [laws_eqIntS.l0] at H
        by_cases c4 : x5_1 < (l0.length : Int)
        · rw [if_pos c4] at H
          have c4b0 : decide (x5_1 < (l0.length : Int)) = true := decide_eq_true c4
          clear c4
          by_cases c5 : 0 ≤ x5_1
          · rw [if_pos c5] at H
            have c5b0 : decide (0 ≤ x5_1) = true := decide_eq_true c5
            clear c5
            by_cases c6 : x5_1 < (l1.length : Int)
            · rw [if_pos c6] at H
              have c6b0 : decide (x5_1 < (l1.length : Int)) = true := decide_eq_true c6
              clear c6
              by_cases c7 : (rd l0 x5_1) = (rd l1 x5_1)
              · rw [if_pos c7] at H
                have c7b0 : ((rd l0 x5_1) == (rd l1 x5_1)) = true := beq_iff_eq.mpr c7
                have c7b1 : ((rd l0 x5_1) != (rd l1 x5_1)) = false := bne_eq_false_iff_eq.mpr c7
                clear c7
                have H' := Aside0.mk H
                clear H
                have p466 : 0 ≤ (x5_1 : Int) := of_decide_eq_true (by first | (with_reducible assumption) | assumption)
                have q466 : x5_1 < (l0.length : Int) := of_decide_eq_true (by first | (with_reducible assumption) | assumption)
                obtain ⟨ad466, e466, hx466_0⟩ := Kd.at_int HR0.out x5_1 p466 q466
                cases e466
                replace p466 := eq_true p466
                replace q466 := eq_true q466
                have p467 : 0 ≤ (x5_1 : Int) := of_decide_eq_true (by first | (with_reducible assumption) | assumption)
                have q467 : x5_1 < (l1.length : Int) := of_decide_eq_true (by first | (with_reducible assumption) | assumption)
                obtain ⟨ad467, e467, hx467_0⟩ := Kd.at_int HR1.out x5_1 p467 q467
                cases e467
                replace p467 := eq_true p467
                replace q467 := eq_true q467
                go_wp2
                repeat (go_quiet (fail); try go_wp2)
                go_roundg k1
                case measure => have := HK1.out; omega
                case rel => exact ⟨(wrap64 (x5_1 + 1)), (by first | rfl | (simp; done) | (simp [*]; done)), H', ⟨by have := HK1.out; omega⟩, by repeat (first | exact Drawn0.refl _ | apply Drawn0.step)⟩
              · rw [if_neg c7] at H
                have c7b0 : ((rd l0 x5_1) == (rd l1 x5_1)) = false := beq_eq_false_iff_ne.mpr c7
                have c7b1 : ((rd l0 x5_1) != (rd l1 x5_1)) = true := bne_iff_ne.mpr c7
                obtain rfl := Option.some.inj H
                have p466 : 0 ≤ (x5_1 : Int) := of_decide_eq_true (by first | (with_reducible assumption) | assumption)
                have q466 : x5_1 < (l0.length : Int) := of_decide_eq_true (by first | (with_reducible assumption) | assumption)
                obtain ⟨ad466, e466, hx466_0⟩ := Kd.at_int HR0.out x5_1 p466 q466
                cases e466
                replace p466 := eq_true p466
                replace q466 := eq_true q466
                have p467 : 0 ≤ (x5_1 : Int) := of_decide_eq_true (by first | (with_reducible assumption) | assumption)
                have q467 : x5_1 < (l1.length : Int) := of_decide_eq_true (by first | (with_reducible assumption) | assumption)
                obtain ⟨ad467, e467, hx467_0⟩ := Kd.at_int HR1.out x5_1 p467 q467
                cases e467
                replace p467 := eq_true p467
                replace q467 := eq_true q467
                go_wp2
                repeat (go_quiet (fail); try go_wp2)
                go_ret
                exact ⟨by first | rfl | (simp; done) | (simp [*]; done), by repeat (first | exact Drawn0.refl _ | apply Drawn0.step)⟩
            · rw [if_neg c6] at H
              exact absurd H (by simp)
          · rw [if_neg c5] at H
            exact absurd H (by simp)
        · rw [if_neg c4] at H
          have c4b0 : decide (x5_1 < (l0.length : Int)) = false := decide_eq_false c4
          clear c4
          obtain rfl := Option.some.inj H
          go_wp2
          repeat (go_quiet (fail); try go_wp2)
          go_ret
          exact ⟨by first | rfl | (simp; done) | (simp [*]; done), by repeat (first | exact Drawn0.refl _ | apply Drawn0.step)⟩
  · rw [if_neg c3] at H
    have c3b0 : ((l0.length : Int) == (l1.length : Int)) = false := beq_eq_false_iff_ne.mpr c3
    have c3b1 : ((l0.length : Int) != (l1.length : Int)) = true := bne_iff_ne.mpr c3
    have c3b2 : (l0.length == l1.length) = false := by first | simpa using c3 | (simp at c3 ⊢; omega)
    obtain rfl := Option.some.inj H
    go_enter Try.func81, Try.ntmps81
    go_wp2
    repeat (go_quiet (fail); try go_wp2)
    go_ret
    exact ⟨by first | rfl | (simp; done) | (simp [*]; done), by repeat (first | exact Drawn0.refl _ | apply Drawn0.step)⟩
end Go.Proofs.Ytljaoggbfoimfaa.P

namespace Go.Proofs.Ytljaoggbfoimfaa.P
open Go.RowKit Go.Proofs.YtljaoggbfoimfaaW.PrintWords Go.Proofs.YtljaoggbfoimfaaW.PrintLast Go.Proofs.YtljaoggbfoimfaaW.PrintMore
attribute [local go_sem] max2_int min2_int max_two min_two max_three min_three max_four min_four   -- for this text's walks alone
set_option linter.unusedVariables false
set_option linter.unusedSimpArgs false
def laws_eqIntSS.l0 : Nat → List (List Int) → List (List Int) → Int → Option (Bool)
  | 0, _, _, _ => none
  | k + 1, x0, x1, x5 => if x5 < (x0.length : Int) then (if 0 ≤ x5 then (if x5 < (x1.length : Int) then ((laws_eqIntS.f k (rd_L14 x0 x5) (rd_L14 x1 x5)).bind fun t470 => (if t470 = true then (laws_eqIntSS.l0 k x0 x1 (wrap64 (x5 + 1))) else (some false))) else (none)) else (none)) else (some true)
def laws_eqIntSS.f (k : Nat) (l0 : List (List Int)) (l1 : List (List Int)) : Option (Bool) := if (l0.length : Int) = (l1.length : Int) then (laws_eqIntSS.l0 k l0 l1 0) else (some false)
theorem laws_eqIntSS.mono_l : ∀ k, (∀ y0 y1 y2, LeO (laws_eqIntSS.l0 k y0 y1 y2) (laws_eqIntSS.l0 (k + 1) y0 y1 y2))
  | 0 => fun _ _ _ r h => by simp [laws_eqIntSS.l0] at h
  | k + 1 => by
    have ih0 := laws_eqIntSS.mono_l k
    · intro y0 y1 y2
      unfold laws_eqIntSS.l0
      repeat' first
      | (with_reducible exact ih0 _ _ _)
      | (with_reducible exact laws_eqIntS.mono _ _ _)
      | (with_reducible exact LeO.refl _)
      | (with_reducible exact LeO.none _)
      | (with_reducible refine LeO.ite ?_ ?_)
      | (with_reducible refine LeO.bind ?_ (fun _ => ?_))
      | exact ih0 _ _ _
      | exact laws_eqIntS.mono _ _ _
      | exact LeO.none _
      | refine LeO.ite ?_ ?_
      | refine LeO.bind ?_ (fun _ => ?_)
theorem laws_eqIntSS.mono : ∀ a0 a1 k, LeO (laws_eqIntSS.f k a0 a1) (laws_eqIntSS.f (k + 1) a0 a1) := by
  intro a0 a1 k
  have ih0 := laws_eqIntSS.mono_l k
  unfold laws_eqIntSS.f
  repeat' first
      | (with_reducible exact ih0 _ _ _)
      | (with_reducible exact laws_eqIntS.mono _ _ _)
      | (with_reducible exact LeO.refl _)
      | (with_reducible exact LeO.none _)
      | (with_reducible refine LeO.ite ?_ ?_)
      | (with_reducible refine LeO.bind ?_ (fun _ => ?_))
      | exact ih0 _ _ _
      | exact laws_eqIntS.mono _ _ _
      | exact LeO.none _
      | refine LeO.ite ?_ ?_
      | refine LeO.bind ?_ (fun _ => ?_)
set_option maxHeartbeats 8000000 in
set_option maxRecDepth 100000 in
theorem laws_eqIntSS.calls (k : Nat) (A0 : Option Addr) (c0 : Nat) (l0 : List (List Int)) (A1 : Option Addr) (c1 : Nat) (l1 : List (List Int)) (r : Bool) (w : World) (hr0 : Kd.C (Kd.slice 3 (Kd.int .i64)) w A0 l0.length l0) (hc0 : l0.length ≤ c0) (hr1 : Kd.C (Kd.slice 3 (Kd.int .i64)) w A1 l1.length l1) (hc1 : l1.length ≤ c1) (h : laws_eqIntSS.f k l0 l1 = some r) :
    Calls Try.prog 80 #[.slice A0 l0.length c0, .slice A1 l1.length c1] w fun e w' => e = .returned (.bool r) ∧ Drawn0 w w' := by
  have HR0 := Aside0.mk hr0
  have HC0 := Aside0.mk hc0
  clear hr0 hc0
  have HR1 := Aside0.mk hr1
  have HC1 := Aside0.mk hc1
  clear hr1 hc1
  have H : (if (l0.length : Int) = (l1.length : Int) then (laws_eqIntSS.l0 k l0 l1 0) else (some false)) = some r := h
  clear h
  by_cases c3 : (l0.length : Int) = (l1.length : Int)
  · rw [if_pos c3] at H
    have c3b0 : ((l0.length : Int) == (l1.length : Int)) = true := beq_iff_eq.mpr c3
    have c3b1 : ((l0.length : Int) != (l1.length : Int)) = false := bne_eq_false_iff_eq.mpr c3
    have c3b2 : (l0.length == l1.length) = true := by first | simpa using c3 | (simp at c3 ⊢; omega)
    clear c3
    have H' := Aside0.mk H
    clear H
    go_enter Try.func80, Try.ntmps80
    go_wp2
    repeat (go_quiet (fail); try go_wp2)
    go_loopg [5] k (fun kq v5 w' => ∃ (x5_1 : Int), v5 = .int .i64 x5_1 ∧ Aside0 (laws_eqIntSS.l0 kq l0 l1 x5_1 = some r) ∧ Aside0 (kq ≤ k) ∧ Drawn0 w w')
    case atStart => exact ⟨(0), (by first | rfl | (simp; done) | (simp [*]; done)), H', ⟨Nat.le_refl _⟩, by repeat (first | exact Drawn0.refl _ | apply Drawn0.step)⟩
    case round =>
      clear H'
      try clear c1
      try clear p2
      try clear c3
      try clear c3b0
      try clear c3b1
      try clear c3b2
      obtain ⟨x5_1, rfl, HA, HK1, ⟨m1, rfl⟩⟩ := hrel
      cases gk with
      | zero => exact absurd HA.out (by simp [laws_eqIntSS.l0])
      | succ k1 =>
        have H := HA.out
        clear HA
        simp only [laws_eqIntSS.l0] at H
        by_cases c4 : x5_1 < (l0.length : Int)
        · rw [if_pos c4] at H
          have c4b0 : decide (x5_1 < (l0.length : Int)) = true := decide_eq_true c4
          clear c4
          by_cases c5 : 0 ≤ x5_1
          · rw [if_pos c5] at H
            have c5b0 : decide (0 ≤ x5_1) = true := decide_eq_true c5
            clear c5
            by_cases c6 : x5_1 < (l1.length : Int)
            · rw [if_pos c6] at H
              have c6b0 : decide (x5_1 < (l1.length : Int)) = true := decide_eq_true c6
              clear c6
              replace H := Option.bind_eq_some_iff.mp H
              obtain ⟨t470, A70, H⟩ := H
              replace H : (if t470 = true then (laws_eqIntSS.l0 k1 l0 l1 (wrap64 (x5_1 + 1))) else (some false)) = some r := H
              have A7 := Aside0.mk A70
              clear A70
              by_cases c8 : t470 = true
              · subst c8
                have H1 : (laws_eqIntSS.l0 k1 l0 l1 (wrap64 (x5_1 + 1))) = some r := by rw [if_pos rfl] at H; exact H
                clear H
                have H := H1
                clear H1
                have H' := Aside0.mk H
                clear H
                have p468 : 0 ≤ (x5_1 : Int) := of_decide_eq_true (by first | (with_reducible assumption) | assumption)
                have q468 : x5_1 < (l0.length : Int) := of_decide_eq_true (by first | (with_reducible assumption) | assumption)
                obtain ⟨ad468, A468_0, c468_0, e468, hx468_0, hl468_0, hi468_0⟩ := at_L14 HR0.out x5_1 p468 q468
                cases e468
                have HR468_0 := Aside0.mk hi468_0
                have HC468_0 := Aside0.mk hl468_0
                clear hi468_0 hl468_0
                replace p468 := eq_true p468
                replace q468 := eq_true q468
                have p469 : 0 ≤ (x5_1 : Int) := of_decide_eq_true (by first | (with_reducible assumption) | assumption)
                have q469 : x5_1 < (l1.length : Int) := of_decide_eq_true (by first | (with_reducible assumption) | assumption)
                obtain ⟨ad469, A469_0, c469_0, e469, hx469_0, hl469_0, hi469_0⟩ := at_L14 HR1.out x5_1 p469 q469
                cases e469
                have HR469_0 := Aside0.mk hi469_0
                have HC469_0 := Aside0.mk hl469_0
                clear hi469_0 hl469_0
                replace p469 := eq_true p469
                replace q469 := eq_true q469
                go_wp2_with (first | (go_at_call 81; (with_reducible refine (laws_eqIntS.calls k1 _ _ (rd_L14 l0 x5_1) _ _ (rd_L14 l1 x5_1) true _ ?side1 ?side2 ?side3 ?side4 A7.out).mono ?_); (case side1 => repeat (first | exact HR468_0.out | (with_reducible refine Kd.C_alloc ?_ _) | (with_reducible refine Kd.C_drewN ?_ _) | (with_reducible refine Kd.C_drew ?_))); (case side2 => exact HC468_0.out); (case side3 => repeat (first | exact HR469_0.out | (with_reducible refine Kd.C_alloc ?_ _) | (with_reducible refine Kd.C_drewN ?_ _) | (with_reducible refine Kd.C_drew ?_))); (case side4 => exact HC469_0.out); rintro e w' ⟨rfl, ⟨nd, rfl⟩⟩; (try first | exact ⟨rfl, _, World.drewN_drewN _ _ _⟩ | exact ⟨rfl, _, Eq.trans (World.drewN_drewN _ _ _) (congrArg (World.drewN _) (Nat.add_assoc _ _ _))⟩)))
                repeat (go_quiet (first | (go_at_call 81; (with_reducible refine (laws_eqIntS.calls k1 _ _ (rd_L14 l0 x5_1) _ _ (rd_L14 l1 x5_1) true _ ?side1 ?side2 ?side3 ?side4 A7.out).mono ?_); (case side1 => repeat (first | exact HR468_0.out | (with_reducible refine Kd.C_alloc ?_ _) | (with_reducible refine Kd.C_drewN ?_ _) | (with_reducible refine Kd.C_drew ?_))); (case side2 => exact HC468_0.out); (case side3 => repeat (first | exact HR469_0.out | (with_reducible refine Kd.C_alloc ?_ _) | (with_reducible refine Kd.C_drewN ?_ _) | (with_reducible refine Kd.C_drew ?_))); (case side4 => exact HC469_0.out); rintro e w' ⟨rfl, ⟨nd, rfl⟩⟩; (try first | exact ⟨rfl, _, World.drewN_drewN _ _ _⟩ | exact ⟨rfl, _, Eq.trans (World.drewN_drewN _ _ _) (congrArg (World.drewN _) (Nat.add_assoc _ _ _))⟩))); try go_wp2_with (first | (go_at_call 81; (with_reducible refine (laws_eqIntS.calls k1 _ _ (rd_L14 l0 x5_1) _ _ (rd_L14 l1 x5_1) true _ ?side1 ?side2 ?side3 ?side4 A7.out).mono ?_); (case side1 => repeat (first | exact HR468_0.out | (with_reducible refine Kd.C_alloc ?_ _) | (with_reducible refine Kd.C_drewN ?_ _) | (with_reducible refine Kd.C_drew ?_))); (case side2 => exact HC468_0.out); (case side3 => repeat (first | exact HR469_0.out | (with_reducible refine Kd.C_alloc ?_ _) | (with_reducible refine Kd.C_drewN ?_ _) | (with_reducible refine Kd.C_drew ?_))); (case side4 => exact HC469_0.out); rintro e w' ⟨rfl, ⟨nd, rfl⟩⟩; (try first | exact ⟨rfl, _, World.drewN_drewN _ _ _⟩ | exact ⟨rfl, _, Eq.trans (World.drewN_drewN _ _ _) (congrArg (World.drewN _) (Nat.add_assoc _ _ _))⟩))))
                go_roundg k1
                case measure => have := HK1.out; omega
                case rel => exact ⟨(wrap64 (x5_1 + 1)), (by first | rfl | (simp; done) | (simp [*]; done)), H', ⟨by have := HK1.out; omega⟩, by repeat (first | exact Drawn0.refl _ | apply Drawn0.step)⟩
              · replace c8 := Bool.eq_false_iff.mpr c8
                subst c8
                have H1 : (some false) = some r := by rw [if_neg (show ¬ (false = true) by decide)] at H; exact H
                clear H
                have H := H1
                clear H1
                obtain rfl := Option.some.inj H
                have p468 : 0 ≤ (x5_1 : Int) := of_decide_eq_true (by first | (with_reducible assumption) | assumption)
                have q468 : x5_1 < (l0.length : Int) := of_decide_eq_true (by first | (with_reducible assumption) | assumption)
                obtain ⟨ad468, A468_0, c468_0, e468, hx468_0, hl468_0, hi468_0⟩ := at_L14 HR0.out x5_1 p468 q468
                cases e468
                have HR468_0 := Aside0.mk hi468_0
                have HC468_0 := Aside0.mk hl468_0
                clear hi468_0 hl468_0
                replace p468 := eq_true p468
                replace q468 := eq_true q468
                have p469 : 0 ≤ (x5_1 : Int) := of_decide_eq_true (by first | (with_reducible assumption) | assumption)
                have q469 : x5_1 < (l1.length : Int) := of_decide_eq_true (by first | (with_reducible assumption) | assumption)
                obtain ⟨ad469, A469_0, c469_0, e469, hx469_0, hl469_0, hi469_0⟩ := at_L14 HR1.out x5_1 p469 q469
                cases e469
                have HR469_0 := Aside0.mk hi469_0
                have HC469_0 := Aside0.mk hl469_0
                clear hi469_0 hl469_0
                replace p469 := eq_true p469
                replace q469 := eq_true q469
                go_wp2_with (first | (go_at_call 81; (with_reducible refine (laws_eqIntS.calls k1 _ _ (rd_L14 l0 x5_1) _ _ (rd_L14 l1 x5_1) false _ ?side1 ?side2 ?side3 ?side4 A7.out).mono ?_); (case side1 => repeat (first | exact HR468_0.out | (with_reducible refine Kd.C_alloc ?_ _) | (with_reducible refine Kd.C_drewN ?_ _) | (with_reducible refine Kd.C_drew ?_))); (case side2 => exact HC468_0.out); (case side3 => repeat (first | exact HR469_0.out | (with_reducible refine Kd.C_alloc ?_ _) | (with_reducible refine Kd.C_drewN ?_ _) | (with_reducible refine Kd.C_drew ?_))); (case side4 => exact HC469_0.out); rintro e w' ⟨rfl, ⟨nd, rfl⟩⟩; (try first | exact ⟨rfl, _, World.drewN_drewN _ _ _⟩ | exact ⟨rfl, _, Eq.trans (World.drewN_drewN _ _ _) (congrArg (World.drewN _) (Nat.add_assoc _ _ _))⟩)))
                repeat (go_quiet (first | (go_at_call 81; (with_reducible refine (laws_eqIntS.calls k1 _ _ (rd_L14 l0 x5_1) _ _ (rd_L14 l1 x5_1) false _ ?side1 ?side2 ?side3 ?side4 A7.out).mono ?_); (case side1 => repeat (first | exact HR468_0.out | (with_reducible refine Kd.C_alloc ?_ _) | (with_reducible refine Kd.C_drewN ?_ _) | (with_reducible refine Kd.C_drew ?_))); (case side2 => exact HC468_0.out); (case side3 => repeat (first | exact HR469_0.out | (with_reducible refine Kd.C_alloc ?_ _) | (with_reducible refine Kd.C_drewN ?_ _) | (with_reducible refine Kd.C_drew ?_))); (case side4 => exact HC469_0.out); rintro e w' ⟨rfl, ⟨nd, rfl⟩⟩; (try first | exact ⟨rfl, _, World.drewN_drewN _ _ _⟩ | exact ⟨rfl, _, Eq.trans (World.drewN_drewN _ _ _) (congrArg (World.drewN _) (Nat.add_assoc _ _ _))⟩))); try go_wp2_with (first | (go_at_call 81; (with_reducible refine (laws_eqIntS.calls k1 _ _ (rd_L14 l0 x5_1) _ _ (rd_L14 l1 x5_1) false _ ?side1 ?side2 ?side3 ?side4 A7.out).mono ?_); (case side1 => repeat (first | exact HR468_0.out | (with_reducible refine Kd.C_alloc ?_ _) | (with_reducible refine Kd.C_drewN ?_ _) | (with_reducible refine Kd.C_drew ?_))); (case side2 => exact HC468_0.out); (case side3 => repeat (first | exact HR469_0.out | (with_reducible refine Kd.C_alloc ?_ _) | (with_reducible refine Kd.C_drewN ?_ _) | (with_reducible refine Kd.C_drew ?_))); (case side4 => exact HC469_0.out); rintro e w' ⟨rfl, ⟨nd, rfl⟩⟩; (try first | exact ⟨rfl, _, World.drewN_drewN _ _ _⟩ | exact ⟨rfl, _, Eq.trans (World.drewN_drewN _ _ _) (congrArg (World.drewN _) (Nat.add_assoc _ _ _))⟩))))
                go_ret
                exact ⟨by first | rfl | (simp; done) | (simp [*]; done), by repeat (first | exact Drawn0.refl _ | apply Drawn0.step)⟩
            · rw [if_neg c6] at H
              exact absurd H (by simp)
          · rw [if_neg c5] at H
            exact absurd H (by simp)
        · rw [if_neg c4] at H
          have c4b0 : decide (x5_1 < (l0.length : Int)) = false := decide_eq_false c4
          clear c4
          obtain rfl := Option.some.inj H
          go_wp2
          repeat (go_quiet (fail); try go_wp2)
          go_ret
          exact ⟨by first | rfl | (simp; done) | (simp [*]; done), by repeat (first | exact Drawn0.refl _ | apply Drawn0.step)⟩
  · rw [if_neg c3] at H
    have c3b0 : ((l0.length : Int) == (l1.length : Int)) = false := beq_eq_false_iff_ne.mpr c3
    have c3b1 : ((l0.length : Int) != (l1.length : Int)) = true := bne_iff_ne.mpr c3
    have c3b2 : (l0.length == l1.length) = false := by first | simpa using c3 | (simp at c3 ⊢; omega)
    obtain rfl := Option.some.inj H
    go_enter Try.func80, Try.ntmps80
    go_wp2
    repeat (go_quiet (fail); try go_wp2)
    go_ret
    exact ⟨by first | rfl | (simp; done) | (simp [*]; done), by repeat (first | exact Drawn0.refl _ | apply Drawn0.step)⟩
end Go.Proofs.Ytljaoggbfoimfaa.P
