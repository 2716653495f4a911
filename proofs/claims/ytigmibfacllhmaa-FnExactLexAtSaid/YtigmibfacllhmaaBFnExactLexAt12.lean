/- FnExactLexAt, part 13 of 18: the functions that it reaches as plain Lean functions, that the program's functions compute them, and what they come to. Conditions: stated at each theorem. -/
import Derived.Test.YtigmibfacllhmaaProg
import Derived.Below
import Derived.Deep.Draws
import Derived.Deep.AppendLies
import Derived.Maps.AppendAt
import Derived.OwnWalk
import Derived.Laws.BytesArg
import Derived.Laws.MakeOwn
import Derived.Laws.OwnMore
import Derived.Deep.OwnRows
import Derived.Tactics
import Derived.Lib.ConvBytes
import Derived.Laws.Slices
import Derived.WalkKit
import Derived.KernelRfl
import Derived.RowKit3
import Derived.Deep.LoopGhost
import Derived.Deep.QuietTactic
import Derived.BigQuiet
import Derived.WideLaws
import Derived.Deep.DeepCutAuto
import Derived.Deep.CutBlock
import Derived.Deep.RegionHeld3
import Derived.Laws.Rows
import Derived.Lib.AppendStr
import Derived.ArgAppend
import Derived.Laws.IdiomCopy
import Derived.OrdersHeld
import Derived.Laws.BitsLemmas
import Derived.RowKit
import Derived.Laws.StructEq
import Derived.Laws.Tables
import Derived.StillTailTactics
import Derived.Test.YtigmibfacllhmaaBFnExactLexAt0
import Derived.Test.YtigmibfacllhmaaBFnExactLexAt2
import Derived.Test.YtigmibfacllhmaaBFnExactLexAt3
import Derived.Test.YtigmibfacllhmaaBFnExactLexAt4
import Derived.Test.YtigmibfacllhmaaBFnExactLexAt5
import Derived.Test.YtigmibfacllhmaaBFnExactLexAt6
import Derived.Test.YtigmibfacllhmaaBFnExactLexAt7
import Derived.Test.YtigmibfacllhmaaBFnExactLexAt8
import Derived.Test.YtigmibfacllhmaaBFnExactLexAt9
import Derived.Test.YtigmibfacllhmaaBFnExactLexAt10
import Derived.Test.YtigmibfacllhmaaBFnExactLexAt11
namespace Go.Proofs.Ytigmibfacllhmaa.P
open Go.RowKit Go.Proofs.YtigmibfacllhmaaW.PrintWords Go.Proofs.YtigmibfacllhmaaW.PrintLast Go.Proofs.YtigmibfacllhmaaW.PrintMore
attribute [local go_sem] max2_int min2_int max_two min_two max_three min_three max_four min_four   -- for this text's walks alone
set_option linter.unusedVariables false
set_option linter.unusedSimpArgs false
def errW : Option Int → Value
  | none => .nilIface
  | some c => .iface 0 (.int .i64 c)
theorem errW_none : errW none = .nilIface := rfl
theorem errW_some (c : Int) : errW (some c) = .iface 0 (.int .i64 c) := rfl
theorem info3 : (Try.prog.info? 3).map (fun i => (i.zero, i.size, i.bytes)) = some (some (.int .i64 0), 1, 8) := by kernel_rfl
theorem info4 : (Try.prog.info? 4).map (fun i => (i.zero, i.size, i.bytes)) = some (some (.bool false), 1, 1) := by kernel_rfl
theorem info24 : (Try.prog.info? 24).map (fun i => (i.zero, i.size, i.bytes)) = some (some (.slice none 0 0), 1, 24) := by kernel_rfl
theorem info80 : (Try.prog.info? 80).map (fun i => (i.zero, i.size, i.bytes)) = some (some (.slice none 0 0), 1, 24) := by kernel_rfl
theorem info117 : (Try.prog.info? 117).map (fun i => (i.zero, i.size, i.bytes)) = some (some (.agg #[(.int .i64 0), (.int .i64 0)]), 2, 16) := by kernel_rfl
structure S146 where
  f0 : Int
  f1 : Int
def z146 : S146 := ⟨(0 : Int), (0 : Int)⟩
def k146 : Kd S146 := Kd.iso (Kd.pair (Kd.int .i64) (Kd.int .i64)) (fun x : S146 => (x.f0, x.f1))
theorem k146_open {w : World} {x : S146} {cs : List Value} (h : k146.K w x cs) : cs = [.int .i64 x.f0, .int .i64 x.f1] := by
  obtain ⟨_, _, rfl, rfl, rfl⟩ := h
  exact rfl
def rd_T146 (xs : List S146) (i : Int) : S146 := xs.getD i.toNat z146
theorem at_T146 {w : World} {A : Option Addr} {n : Nat} {xs : List S146} (h : Kd.C k146 w A n xs) (i : Int) (h0 : 0 ≤ i) (h1 : i < n) : ∃ ad , A = some ad ∧ w.cell? (ad.add (i.toNat * 2)) = some (.int .i64 (rd_T146 xs i).f0) ∧ w.cell? ⟨(ad.add (i.toNat * 2)).block, (ad.add (i.toNat * 2)).off + 1, none⟩ = some (.int .i64 (rd_T146 xs i).f1) := by
  obtain ⟨ad, c, e, _, hK, hc0⟩ := Kd.C_get h z146 i h0 h1
  have hc : ∀ j u, c[j]? = some u → w.cell? (ad.add (i.toNat * 2 + j)) = some u := hc0
  obtain rfl := k146_open hK
  exact ⟨ad, e, hc 0 _ rfl, by rw [← add_field _ _ 1 (by omega)]; exact hc 1 _ rfl⟩
def rd_L2 (xs : List (List S146)) (i : Int) : (List S146) := xs.getD i.toNat ([] : List S146)
theorem at_L2 {w : World} {A : Option Addr} {n : Nat} {xs : List (List S146)} (h : Kd.C (Kd.slice 146 k146) w A n xs) (i : Int) (h0 : 0 ≤ i) (h1 : i < n) : ∃ ad A0 c0, A = some ad ∧ w.cell? (ad.add i.toNat) = some (.slice A0 (rd_L2 xs i).length c0) ∧ (rd_L2 xs i).length ≤ c0 ∧ k146.C w A0 (rd_L2 xs i).length (rd_L2 xs i) := by
  obtain ⟨ad, c, e, _, hK, hc0⟩ := Kd.C_get h ([] : List S146) i h0 h1
  have hc : ∀ j u, c[j]? = some u → w.cell? (ad.add (i.toNat * 1 + j)) = some u := hc0
  obtain ⟨A0, c0, rfl, l0, g0⟩ := hK
  exact ⟨ad, A0, c0, e, by have hq := hc 0 _ rfl; rwa [Nat.mul_one, Nat.add_zero] at hq, l0, g0⟩
def rd_L3 (xs : List (List Int)) (i : Int) : (List Int) := xs.getD i.toNat ([] : List Int)
theorem at_L3 {w : World} {A : Option Addr} {n : Nat} {xs : List (List Int)} (h : Kd.C (Kd.slice 3 (Kd.int .i64)) w A n xs) (i : Int) (h0 : 0 ≤ i) (h1 : i < n) : ∃ ad A0 c0, A = some ad ∧ w.cell? (ad.add i.toNat) = some (.slice A0 (rd_L3 xs i).length c0) ∧ (rd_L3 xs i).length ≤ c0 ∧ (Kd.int .i64).C w A0 (rd_L3 xs i).length (rd_L3 xs i) := by
  obtain ⟨ad, c, e, _, hK, hc0⟩ := Kd.C_get h ([] : List Int) i h0 h1
  have hc : ∀ j u, c[j]? = some u → w.cell? (ad.add (i.toNat * 1 + j)) = some u := hc0
  obtain ⟨A0, c0, rfl, l0, g0⟩ := hK
  exact ⟨ad, A0, c0, e, by have hq := hc 0 _ rfl; rwa [Nat.mul_one, Nat.add_zero] at hq, l0, g0⟩
structure S117 where
  f0 : Int
  f1 : Int
def z117 : S117 := ⟨(0 : Int), (0 : Int)⟩
def k117 : Kd S117 := Kd.iso (Kd.pair (Kd.int .i64) (Kd.int .i64)) (fun x : S117 => (x.f0, x.f1))
theorem k117_open {w : World} {x : S117} {cs : List Value} (h : k117.K w x cs) : cs = [.int .i64 x.f0, .int .i64 x.f1] := by
  obtain ⟨_, _, rfl, rfl, rfl⟩ := h
  exact rfl
theorem k117_openM {w : World} {base : Nat} {ok : Nat → Prop} {x : S117} {cs : List Value} (h : k117.M w base ok x cs) : cs = [.int .i64 x.f0, .int .i64 x.f1] := by
  obtain ⟨_, _, rfl, rfl, rfl⟩ := h
  exact rfl
theorem k117_mkM (w : World) (base : Nat) (ok : Nat → Prop) (x : S117)  : k117.M w base ok x [.int .i64 x.f0, .int .i64 x.f1] := ⟨[.int .i64 x.f0], [.int .i64 x.f1], rfl, rfl, rfl⟩
def rd_T117 (xs : List S117) (i : Int) : S117 := xs.getD i.toNat z117
theorem at_T117 {w : World} {A : Option Addr} {n : Nat} {xs : List S117} (h : Kd.C k117 w A n xs) (i : Int) (h0 : 0 ≤ i) (h1 : i < n) : ∃ ad , A = some ad ∧ w.cell? (ad.add (i.toNat * 2)) = some (.int .i64 (rd_T117 xs i).f0) ∧ w.cell? ⟨(ad.add (i.toNat * 2)).block, (ad.add (i.toNat * 2)).off + 1, none⟩ = some (.int .i64 (rd_T117 xs i).f1) := by
  obtain ⟨ad, c, e, _, hK, hc0⟩ := Kd.C_get h z117 i h0 h1
  have hc : ∀ j u, c[j]? = some u → w.cell? (ad.add (i.toNat * 2 + j)) = some u := hc0
  obtain rfl := k117_open hK
  exact ⟨ad, e, hc 0 _ rfl, by rw [← add_field _ _ 1 (by omega)]; exact hc 1 _ rfl⟩
def rd_L6 (xs : List (List S117)) (i : Int) : (List S117) := xs.getD i.toNat ([] : List S117)
theorem at_L6 {w : World} {A : Option Addr} {n : Nat} {xs : List (List S117)} (h : Kd.C (Kd.slice 117 k117) w A n xs) (i : Int) (h0 : 0 ≤ i) (h1 : i < n) : ∃ ad A0 c0, A = some ad ∧ w.cell? (ad.add i.toNat) = some (.slice A0 (rd_L6 xs i).length c0) ∧ (rd_L6 xs i).length ≤ c0 ∧ k117.C w A0 (rd_L6 xs i).length (rd_L6 xs i) := by
  obtain ⟨ad, c, e, _, hK, hc0⟩ := Kd.C_get h ([] : List S117) i h0 h1
  have hc : ∀ j u, c[j]? = some u → w.cell? (ad.add (i.toNat * 1 + j)) = some u := hc0
  obtain ⟨A0, c0, rfl, l0, g0⟩ := hK
  exact ⟨ad, A0, c0, e, by have hq := hc 0 _ rfl; rwa [Nat.mul_one, Nat.add_zero] at hq, l0, g0⟩
structure S93 where
  f0 : Int
  f1 : (List S146)
  f2 : (List S93)
structure S95 where
  f0 : ByteArray
  f1 : S93
structure S101 where
  f0 : Int
  f1 : (List S117)
  f2 : (List S101)
structure S103 where
  f0 : ByteArray
  f1 : S101
structure S108 where
  f0 : Int
  f1 : Int
  f2 : Int
end Go.Proofs.Ytigmibfacllhmaa.P

set_option linter.unusedVariables false
set_option linter.unusedSimpArgs false
namespace Go.Proofs.Ytigmibfacllhmaa.Arr
open Go.RowKit Go.Proofs.YtigmibfacllhmaaW.PrintWords Go.Proofs.YtigmibfacllhmaaW.PrintLast
def padB (n : Nat) (l : List Bool) : List Bool := (List.range n).map fun i => l.getD i false
def cellsB (n : Nat) (l : List Bool) : Array Value := ((padB n l).map Value.bool).toArray
def getB (l : List Bool) (i : Int) : Bool := l.getD i.toNat false
def setB (n : Nat) (l : List Bool) (i : Int) (b : Bool) : List Bool := (padB n l).set i.toNat b
theorem length_padB (n : Nat) (l : List Bool) : (padB n l).length = n := by simp [padB]
theorem length_setB (n : Nat) (l : List Bool) (i : Int) (b : Bool) : (setB n l i b).length = n := by simp [setB, length_padB]
theorem padB_self (l : List Bool) (n : Nat) (h : l.length = n) : padB n l = l := by
  apply List.ext_getElem
  · simp [padB, h]
  · intro i h1 h2
    simp only [padB, List.getElem_map, List.getElem_range]
    simp [List.getD_eq_getElem?_getD, List.getElem?_eq_getElem h2]
theorem padB_setB (n : Nat) (l : List Bool) (i : Int) (b : Bool) : padB n (setB n l i b) = setB n l i b := padB_self _ _ (length_setB ..)
theorem size_cellsB (n : Nat) (l : List Bool) : (cellsB n l).size = n := by simp [cellsB, length_padB]
theorem one_cellsB (n : Nat) (l : List Bool) : (cellsB n l).all (·.oneCell') = true := by
  simp [cellsB, Array.all_eq_true, Value.oneCell']
theorem cellsB_get (n : Nat) (l : List Bool) (i : Int) (h0 : 0 ≤ i) (h1 : i < (n : Int)) : (cellsB n l)[i.toNat]? = some (.bool (getB l i)) := by
  have hl : i.toNat < n := by omega
  simp [cellsB, getB, padB, hl]
theorem cellsB_put (n : Nat) (l : List Bool) (i : Int) (b : Bool) : (cellsB n l).setIfInBounds i.toNat (.bool b) = cellsB n (setB n l i b) := by
  simp only [cellsB, padB_setB]
  simp [setB, List.map_set]
theorem cell_arr {w : World} {g n : Nat} {t : TypeId} {l : List Bool} (h : w.heap[g]? = some (.cells (cellsB n l) t (0, 0))) (i : Int) (h0 : 0 ≤ i) (h1 : i < (n : Int)) : w.cell? ⟨g, i.toNat, none⟩ = some (.bool (getB l i)) := by
  rw [cell_of_row w g i.toNat _ t (0, 0) h]
  exact cellsB_get n l i h0 h1
theorem put_arr {w : World} {g n : Nat} {t : TypeId} {l : List Bool} (h : w.heap[g]? = some (.cells (cellsB n l) t (0, 0))) (i : Int) (b : Bool) : (w.setCell ⟨g, i.toNat, none⟩ (.bool b)).heap[g]? = some (.cells (cellsB n (setB n l i b)) t (0, 0)) :=
  blk_put h i.toNat (.bool b) (cellsB_put n l i b)
theorem below_row {B : Nat} {w0 w : World} {g : Nat} {t : TypeId} {old : Array Value} (h : Below B w0 w) (hg : w.heap[g]? = some (.cells old t (0, 0))) (hB : B ≤ g) (cs : Array Value) : Below B w0 (w.setRow g cs) := by
  refine h.trans ⟨rfl, rfl, rfl, by simp [World.setRow], fun i hi => ?_⟩
  simp only [World.setRow, Array.getElem?_modify]
  rw [if_neg (by omega)]
theorem row_here {w : World} {g : Nat} {t : TypeId} {old : Array Value} (h : w.heap[g]? = some (.cells old t (0, 0))) (cs : Array Value) : (w.setRow g cs).heap[g]? = some (.cells cs t (0, 0)) := setRow_heap w g _ _ t (0, 0) h
def padI (n : Nat) (l : List Int) : List Int := (List.range n).map fun i => l.getD i 0
def cellsI (n : Nat) (l : List Int) : List Value := (padI n l).map (Value.int .i64)
theorem length_cellsI (n : Nat) (l : List Int) : (cellsI n l).length = n := by simp [cellsI, padI]
theorem one_cellsI (n : Nat) (l : List Int) : ∀ u ∈ cellsI n l, u.oneCell' = true := by
  intro u hu
  obtain ⟨x, _, rfl⟩ := List.mem_map.1 hu
  rfl
def kArr (n : Nat) : Kd (List Int) where
  sz := n
  E := []
  K := fun _ x cs => cs = cellsI n x
  M := fun _ _ _ x cs => cs = cellsI n x
  K_len := fun h => h ▸ length_cellsI n _
  K_one := fun h => h ▸ one_cellsI n _
  K_below := fun _ h => h
  K_of_M := fun h => h
  M_mono := fun _ h => h
  M_bound := fun h => h
  M_move := fun _ h => h
  M_lower := fun _ h => h
def rdA (xs : List (List Int)) (i : Int) : List Int := xs.getD i.toNat []
theorem cellsI_get (n : Nat) (l : List Int) (i : Int) (h0 : 0 ≤ i) (h1 : i < (n : Int)) : (cellsI n l)[i.toNat]? = some (.int .i64 (rd l i)) := by
  have hl : i.toNat < n := by omega
  simp [cellsI, rd, padI, hl]
theorem at_arr {n : Nat} {w : World} {A : Option Addr} {m : Nat} {xs : List (List Int)} (h : Kd.C (kArr n) w A m xs) (i : Int) (h0 : 0 ≤ i) (h1 : i < m) (j : Int) (h2 : 0 ≤ j) (h3 : j < n) :
    ∃ ad, A = some ad ∧ w.cell? ((ad.add (i.toNat * n)).add j.toNat) = some (.int .i64 (rd (rdA xs i) j)) := by
  obtain ⟨ad, c, e, _, hK, hc0⟩ := Kd.C_get h ([] : List Int) i h0 h1
  refine ⟨ad, e, ?_⟩
  have hc : ∀ j u, c[j]? = some u → w.cell? (ad.add (i.toNat * n + j)) = some u := hc0
  have hK' : c = cellsI n (rdA xs i) := hK
  have := hc j.toNat _ (by rw [hK']; exact cellsI_get n _ j h2 h3)
  rw [← this]
  congr 1
  exact add_add ..
section
variable {P : Program} {ops : Array Oper} {rest : List Oper} {o : Oper} {a : Act} {w : World} {Q : Exit → Act → World → Prop}
theorem wp_index_arr (hgd : o.guard = none) (T e : TypeId) (x i : Operand) (ho : o.op = .index T x i) (n : Nat) (l : List Bool) (j : Int) (hx : a.eval x = .agg (cellsB n l)) (hi : a.eval i = .int .i64 j)
    (h0 : 0 ≤ j) (h1 : j < (n : Int)) (hu : P.underlying T = some (.array n e)) (he : P.underlying e = some .bool) (hs : (P.info? e).map (·.size) = some 1)
    (h : wpList P ops Q rest (a.put o.dst (.bool (getB l j))) w) : wpList P ops Q (o :: rest) a w := by
  obtain ⟨i0, hi0, hs1⟩ := Option.map_eq_some_iff.1 hs
  have hg := cellsB_get n l j h0 h1
  have hrun : (execOp a.eval o).run P w = .ok (.value (.bool (getB l j))) w := by
    have hagg : (isAgg e).run P w = .ok false w := by
      unfold isAgg
      rw [Sem.run_bind, run_underlying he w]
      rfl
    have h2 : (i0.size : Nat) = 1 := hs1
    simp [execOp, ho, Instr.index, hx, hi, asIntOf, run_underlying hu, h0, h1, Sem.run_bind, part, hagg, sizeOf, typeInfo, hi0, h2, hg]
  exact Kd.event_run hgd hrun h
end
end Go.Proofs.Ytigmibfacllhmaa.Arr

namespace Go.Proofs.Ytigmibfacllhmaa.P
open Go.RowKit Go.Proofs.YtigmibfacllhmaaW.PrintWords Go.Proofs.YtigmibfacllhmaaW.PrintLast Go.Proofs.YtigmibfacllhmaaW.PrintMore
attribute [local go_sem] max2_int min2_int max_two min_two max_three min_three max_four min_four   -- for this text's walks alone
set_option linter.unusedVariables false
set_option linter.unusedSimpArgs false
def impl_SetOk.l0 : Nat → List (S117) → List (S117) → Int → Int → Option (Bool)
  | 0, _, _, _, _ => none
  | k + 1, x0, x5, x6, x7 => if x7 < x6 then (if 0 ≤ x7 then (if x7 < (x5.length : Int) then (if ((rd_T117 x5 x7).f0) < 0 then (some false) else (if ((rd_T117 x5 x7).f1) < ((rd_T117 x5 x7).f0) then (some false) else (if ((rd_T117 x5 x7).f1) > 255 then (some false) else (if x7 > 0 then (if 0 ≤ (wrap64 (x7 - 1)) then (if (wrap64 (x7 - 1)) < (x0.length : Int) then (if ((rd_T117 x5 x7).f0) ≤ (wrap64 (((rd_T117 x0 (wrap64 (x7 - 1))).f1) + 1)) then (some false) else (impl_SetOk.l0 k x0 x5 x6 (wrap64 (x7 + 1)))) else (none)) else (none)) else (impl_SetOk.l0 k x0 x5 x6 (wrap64 (x7 + 1))))))) else (none)) else (none)) else (some true)
def impl_SetOk.f (k : Nat) (l0 : List (S117)) : Option (Bool) := impl_SetOk.l0 k l0 l0 (l0.length : Int) 0
theorem impl_SetOk.mono_l : ∀ k, (∀ y0 y1 y2 y3, LeO (impl_SetOk.l0 k y0 y1 y2 y3) (impl_SetOk.l0 (k + 1) y0 y1 y2 y3))
  | 0 => fun _ _ _ _ r h => by simp [impl_SetOk.l0] at h
  | k + 1 => by
    have ih0 := impl_SetOk.mono_l k
    · intro y0 y1 y2 y3
      unfold impl_SetOk.l0
      repeat' first
      | (with_reducible exact ih0 _ _ _ _)
      | (with_reducible exact LeO.refl _)
      | (with_reducible exact LeO.none _)
      | (with_reducible refine LeO.ite ?_ ?_)
      | (with_reducible refine LeO.bind ?_ (fun _ => ?_))
      | exact ih0 _ _ _ _
      | exact LeO.none _
      | refine LeO.ite ?_ ?_
      | refine LeO.bind ?_ (fun _ => ?_)
theorem impl_SetOk.mono : ∀ a0 k, LeO (impl_SetOk.f k a0) (impl_SetOk.f (k + 1) a0) := by
  intro a0 k
  have ih0 := impl_SetOk.mono_l k
  unfold impl_SetOk.f
  repeat' first
      | (with_reducible exact ih0 _ _ _ _)
      | (with_reducible exact LeO.refl _)
      | (with_reducible exact LeO.none _)
      | (with_reducible refine LeO.ite ?_ ?_)
      | (with_reducible refine LeO.bind ?_ (fun _ => ?_))
      | exact ih0 _ _ _ _
      | exact LeO.none _
      | refine LeO.ite ?_ ?_
      | refine LeO.bind ?_ (fun _ => ?_)
set_option maxHeartbeats 8000000 in
set_option maxRecDepth 100000 in
theorem impl_SetOk.calls (k : Nat) (A0 : Option Addr) (c0 : Nat) (l0 : List (S117)) (r : Bool) (w : World) (hr0 : Kd.C k117 w A0 l0.length l0) (hc0 : l0.length ≤ c0) (h : impl_SetOk.f k l0 = some r) :
    Calls Try.prog 105 #[.slice A0 l0.length c0] w fun e w' => e = .returned (.bool r) ∧ Below w.heap.size w w' := by
  have hu117 := Try.underlying117
  have HR0 := Aside0.mk hr0
  have HC0 := Aside0.mk hc0
  clear hr0 hc0
  have HB := Aside0.mk (Below.refl w.heap.size w)
  have H : (impl_SetOk.l0 k l0 l0 (l0.length : Int) 0) = some r := h
  clear h
  have H' := Aside0.mk H
  clear H
  go_enter Try.func105, Try.ntmps105
  go_wp2
  repeat (go_quiet (fail); try go_wp2)
  go_loopg [7] k (fun kq v7 w' => ∃ (x7_1 : Int), v7 = .int .i64 x7_1 ∧ Aside0 (impl_SetOk.l0 kq l0 l0 (l0.length : Int) x7_1 = some r) ∧ Aside0 (kq ≤ k) ∧ Aside0 (Below w.heap.size w w'))
  case atStart => exact ⟨(0), (by first | rfl | (simp; done) | (simp [*]; done)), H', ⟨Nat.le_refl _⟩, ⟨by repeat (first | (with_reducible first | exact HB.out | apply below_alloc | apply pw_below_drewN | apply below_drew1) | exact HB.out)⟩⟩
  case round =>
    clear H'
    try clear c1
    obtain ⟨x7_1, rfl, HA, HK1, HB⟩ := hrel
    cases gk with
    | zero => exact absurd HA.out (by simp [impl_SetOk.l0])
    | succ k1 =>
      have H := HA.out
      clear HA
      simp only [impl_SetOk.l0] at H
      by_cases c2 : x7_1 < (l0.length : Int)
      · rw [if_pos c2] at H
        have c2b0 : decide (x7_1 < (l0.length : Int)) = true := decide_eq_true c2
        clear c2
        by_cases c3 : 0 ≤ x7_1
        · rw [if_pos c3] at H
          have c3b0 : decide (0 ≤ x7_1) = true := decide_eq_true c3
          clear c3
          by_cases c4 : x7_1 < (l0.length : Int)
          · rw [if_pos c4] at H
            have c4b0 : decide (x7_1 < (l0.length : Int)) = true := decide_eq_true c4
            clear c4
            by_cases c5 : ((rd_T117 l0 x7_1).f0) < 0
            · rw [if_pos c5] at H
              have c5b0 : decide (((rd_T117 l0 x7_1).f0) < 0) = true := decide_eq_true c5
              clear c5
              obtain rfl := Option.some.inj H
              have p226 : 0 ≤ (x7_1 : Int) := of_decide_eq_true (by first | (with_reducible assumption) | assumption)
              have q226 : x7_1 < (l0.length : Int) := of_decide_eq_true (by first | (with_reducible assumption) | assumption)
              obtain ⟨ad226, e226, hx226_0, hx226_1⟩ := at_T117 HR0.out x7_1 p226 q226
              cases e226
              replace hx226_0 := (HB.out.cell (World.block_lt_of_cell? w _ hx226_0)).trans hx226_0
              replace hx226_1 := (HB.out.cell (World.block_lt_of_cell? w _ hx226_1)).trans hx226_1
              replace p226 := eq_true p226
              replace q226 := eq_true q226
              go_wp2_with (first | ((with_reducible refine gate_dst (N := 4) rfl ?_); refine box_event ?hg (N := 4) ?hd (cs := #[.int .i64 0, .int .i64 0]) (t := 117) ?hr ?_; (case hd => rfl); (case hg => rfl); (case hr => first | (go_simp; done) | (go_simp; rfl)); intro gb227 hg w6 hbox hb; have n0_ := Aside0.mk (below_step (by repeat (first | (with_reducible first | exact HB.out | apply below_alloc | apply pw_below_drewN | apply below_drew1) | exact HB.out)) hb); have n1_ := Aside0.mk (hbox); have n2_ := Aside0.mk ((by rw [hg]; exact (below_size (by repeat (first | (with_reducible first | exact HB.out | apply below_alloc | apply pw_below_drewN | apply below_drew1) | exact HB.out))) : w.heap.size ≤ gb227)); have n3_ := Aside0.mk ((by rw [hg]; exact (below_size (by repeat (first | (with_reducible first | exact HB.out | apply below_alloc | apply pw_below_drewN | apply below_drew1) | exact HB.out))) : w.heap.size ≤ gb227)); clear HB; have HB := n0_; have BK227 := n1_; have GW227 := n2_; have GE227 := n3_; clear n0_ n1_ n2_ n3_; clear hb hbox hg; have hcz7_0 : w6.cell? ⟨gb227, 0, none⟩ = some (.int .i64 0) := (blk_cell BK227.out 0).trans rfl; have hcz7_1 : w6.cell? ⟨gb227, 1, none⟩ = some (.int .i64 0) := (blk_cell BK227.out 1).trans rfl; have hfz7_0 := blk_frozen BK227.out 0; have hfz7_1 := blk_frozen BK227.out 1))
              repeat (go_quiet (first | ((with_reducible refine gate_dst (N := 4) rfl ?_); refine box_event ?hg (N := 4) ?hd (cs := #[.int .i64 0, .int .i64 0]) (t := 117) ?hr ?_; (case hd => rfl); (case hg => rfl); (case hr => first | (go_simp; done) | (go_simp; rfl)); intro gb227 hg w6 hbox hb; have n0_ := Aside0.mk (below_step (by repeat (first | (with_reducible first | exact HB.out | apply below_alloc | apply pw_below_drewN | apply below_drew1) | exact HB.out)) hb); have n1_ := Aside0.mk (hbox); have n2_ := Aside0.mk ((by rw [hg]; exact (below_size (by repeat (first | (with_reducible first | exact HB.out | apply below_alloc | apply pw_below_drewN | apply below_drew1) | exact HB.out))) : w.heap.size ≤ gb227)); have n3_ := Aside0.mk ((by rw [hg]; exact (below_size (by repeat (first | (with_reducible first | exact HB.out | apply below_alloc | apply pw_below_drewN | apply below_drew1) | exact HB.out))) : w.heap.size ≤ gb227)); clear HB; have HB := n0_; have BK227 := n1_; have GW227 := n2_; have GE227 := n3_; clear n0_ n1_ n2_ n3_; clear hb hbox hg; have hcz7_0 : w6.cell? ⟨gb227, 0, none⟩ = some (.int .i64 0) := (blk_cell BK227.out 0).trans rfl; have hcz7_1 : w6.cell? ⟨gb227, 1, none⟩ = some (.int .i64 0) := (blk_cell BK227.out 1).trans rfl; have hfz7_0 := blk_frozen BK227.out 0; have hfz7_1 := blk_frozen BK227.out 1)); try go_wp2_with (first | ((with_reducible refine gate_dst (N := 4) rfl ?_); refine box_event ?hg (N := 4) ?hd (cs := #[.int .i64 0, .int .i64 0]) (t := 117) ?hr ?_; (case hd => rfl); (case hg => rfl); (case hr => first | (go_simp; done) | (go_simp; rfl)); intro gb227 hg w6 hbox hb; have n0_ := Aside0.mk (below_step (by repeat (first | (with_reducible first | exact HB.out | apply below_alloc | apply pw_below_drewN | apply below_drew1) | exact HB.out)) hb); have n1_ := Aside0.mk (hbox); have n2_ := Aside0.mk ((by rw [hg]; exact (below_size (by repeat (first | (with_reducible first | exact HB.out | apply below_alloc | apply pw_below_drewN | apply below_drew1) | exact HB.out))) : w.heap.size ≤ gb227)); have n3_ := Aside0.mk ((by rw [hg]; exact (below_size (by repeat (first | (with_reducible first | exact HB.out | apply below_alloc | apply pw_below_drewN | apply below_drew1) | exact HB.out))) : w.heap.size ≤ gb227)); clear HB; have HB := n0_; have BK227 := n1_; have GW227 := n2_; have GE227 := n3_; clear n0_ n1_ n2_ n3_; clear hb hbox hg; have hcz7_0 : w6.cell? ⟨gb227, 0, none⟩ = some (.int .i64 0) := (blk_cell BK227.out 0).trans rfl; have hcz7_1 : w6.cell? ⟨gb227, 1, none⟩ = some (.int .i64 0) := (blk_cell BK227.out 1).trans rfl; have hfz7_0 := blk_frozen BK227.out 0; have hfz7_1 := blk_frozen BK227.out 1)))
              go_ret
              exact ⟨by first | rfl | (simp [errW_none, errW_some] <;> rfl) | (simp [*, errW_none, errW_some] <;> rfl), by repeat (first | (with_reducible first | exact HB.out | apply below_alloc | apply pw_below_drewN | apply below_drew1 | refine below_set ?_ GE227.out) | exact HB.out)⟩
            · rw [if_neg c5] at H
              have c5b0 : decide (((rd_T117 l0 x7_1).f0) < 0) = false := decide_eq_false c5
              clear c5
              by_cases c8 : ((rd_T117 l0 x7_1).f1) < ((rd_T117 l0 x7_1).f0)
              · rw [if_pos c8] at H
                have c8b0 : decide (((rd_T117 l0 x7_1).f1) < ((rd_T117 l0 x7_1).f0)) = true := decide_eq_true c8
                clear c8
                obtain rfl := Option.some.inj H
                have p226 : 0 ≤ (x7_1 : Int) := of_decide_eq_true (by first | (with_reducible assumption) | assumption)
                have q226 : x7_1 < (l0.length : Int) := of_decide_eq_true (by first | (with_reducible assumption) | assumption)
                obtain ⟨ad226, e226, hx226_0, hx226_1⟩ := at_T117 HR0.out x7_1 p226 q226
                cases e226
                replace hx226_0 := (HB.out.cell (World.block_lt_of_cell? w _ hx226_0)).trans hx226_0
                replace hx226_1 := (HB.out.cell (World.block_lt_of_cell? w _ hx226_1)).trans hx226_1
                replace p226 := eq_true p226
                replace q226 := eq_true q226
                go_wp2_with (first | ((with_reducible refine gate_dst (N := 4) rfl ?_); refine box_event ?hg (N := 4) ?hd (cs := #[.int .i64 0, .int .i64 0]) (t := 117) ?hr ?_; (case hd => rfl); (case hg => rfl); (case hr => first | (go_simp; done) | (go_simp; rfl)); intro gb227 hg w9 hbox hb; have n0_ := Aside0.mk (below_step (by repeat (first | (with_reducible first | exact HB.out | apply below_alloc | apply pw_below_drewN | apply below_drew1) | exact HB.out)) hb); have n1_ := Aside0.mk (hbox); have n2_ := Aside0.mk ((by rw [hg]; exact (below_size (by repeat (first | (with_reducible first | exact HB.out | apply below_alloc | apply pw_below_drewN | apply below_drew1) | exact HB.out))) : w.heap.size ≤ gb227)); have n3_ := Aside0.mk ((by rw [hg]; exact (below_size (by repeat (first | (with_reducible first | exact HB.out | apply below_alloc | apply pw_below_drewN | apply below_drew1) | exact HB.out))) : w.heap.size ≤ gb227)); clear HB; have HB := n0_; have BK227 := n1_; have GW227 := n2_; have GE227 := n3_; clear n0_ n1_ n2_ n3_; clear hb hbox hg; have hcz10_0 : w9.cell? ⟨gb227, 0, none⟩ = some (.int .i64 0) := (blk_cell BK227.out 0).trans rfl; have hcz10_1 : w9.cell? ⟨gb227, 1, none⟩ = some (.int .i64 0) := (blk_cell BK227.out 1).trans rfl; have hfz10_0 := blk_frozen BK227.out 0; have hfz10_1 := blk_frozen BK227.out 1))
                repeat (go_quiet (first | ((with_reducible refine gate_dst (N := 4) rfl ?_); refine box_event ?hg (N := 4) ?hd (cs := #[.int .i64 0, .int .i64 0]) (t := 117) ?hr ?_; (case hd => rfl); (case hg => rfl); (case hr => first | (go_simp; done) | (go_simp; rfl)); intro gb227 hg w9 hbox hb; have n0_ := Aside0.mk (below_step (by repeat (first | (with_reducible first | exact HB.out | apply below_alloc | apply pw_below_drewN | apply below_drew1) | exact HB.out)) hb); have n1_ := Aside0.mk (hbox); have n2_ := Aside0.mk ((by rw [hg]; exact (below_size (by repeat (first | (with_reducible first | exact HB.out | apply below_alloc | apply pw_below_drewN | apply below_drew1) | exact HB.out))) : w.heap.size ≤ gb227)); have n3_ := Aside0.mk ((by rw [hg]; exact (below_size (by repeat (first | (with_reducible first | exact HB.out | apply below_alloc | apply pw_below_drewN | apply below_drew1) | exact HB.out))) : w.heap.size ≤ gb227)); clear HB; have HB := n0_; have BK227 := n1_; have GW227 := n2_; have GE227 := n3_; clear n0_ n1_ n2_ n3_; clear hb hbox hg; have hcz10_0 : w9.cell? ⟨gb227, 0, none⟩ = some (.int .i64 0) := (blk_cell BK227.out 0).trans rfl; have hcz10_1 : w9.cell? ⟨gb227, 1, none⟩ = some (.int .i64 0) := (blk_cell BK227.out 1).trans rfl; have hfz10_0 := blk_frozen BK227.out 0; have hfz10_1 := blk_frozen BK227.out 1)); try go_wp2_with (first | ((with_reducible refine gate_dst (N := 4) rfl ?_); refine box_event ?hg (N := 4) ?hd (cs := #[.int .i64 0, .int .i64 0]) (t := 117) ?hr ?_; (case hd => rfl); (case hg => rfl); (case hr => first | (go_simp; done) | (go_simp; rfl)); intro gb227 hg w9 hbox hb; have n0_ := Aside0.mk (below_step (by repeat (first | (with_reducible first | exact HB.out | apply below_alloc | apply pw_below_drewN | apply below_drew1) | exact HB.out)) hb); have n1_ := Aside0.mk (hbox); have n2_ := Aside0.mk ((by rw [hg]; exact (below_size (by repeat (first | (with_reducible first | exact HB.out | apply below_alloc | apply pw_below_drewN | apply below_drew1) | exact HB.out))) : w.heap.size ≤ gb227)); have n3_ := Aside0.mk ((by rw [hg]; exact (below_size (by repeat (first | (with_reducible first | exact HB.out | apply below_alloc | apply pw_below_drewN | apply below_drew1) | exact HB.out))) : w.heap.size ≤ gb227)); clear HB; have HB := n0_; have BK227 := n1_; have GW227 := n2_; have GE227 := n3_; clear n0_ n1_ n2_ n3_; clear hb hbox hg; have hcz10_0 : w9.cell? ⟨gb227, 0, none⟩ = some (.int .i64 0) := (blk_cell BK227.out 0).trans rfl; have hcz10_1 : w9.cell? ⟨gb227, 1, none⟩ = some (.int .i64 0) := (blk_cell BK227.out 1).trans rfl; have hfz10_0 := blk_frozen BK227.out 0; have hfz10_1 := blk_frozen BK227.out 1)))
                go_ret
                exact ⟨by first | rfl | (simp [errW_none, errW_some] <;> rfl) | (simp [*, errW_none, errW_some] <;> rfl), by repeat (first | (with_reducible first | exact HB.out | apply below_alloc | apply pw_below_drewN | apply below_drew1 | refine below_set ?_ GE227.out) | exact HB.out)⟩
              · rw [if_neg c8] at H
                have c8b0 : decide (((rd_T117 l0 x7_1).f1) < ((rd_T117 l0 x7_1).f0)) = false := decide_eq_false c8
                clear c8
                by_cases c11 : ((rd_T117 l0 x7_1).f1) > 255
                · rw [if_pos c11] at H
                  have c11b0 : decide (255 < ((rd_T117 l0 x7_1).f1)) = true := decide_eq_true c11
                  clear c11
                  obtain rfl := Option.some.inj H
                  have p226 : 0 ≤ (x7_1 : Int) := of_decide_eq_true (by first | (with_reducible assumption) | assumption)
                  have q226 : x7_1 < (l0.length : Int) := of_decide_eq_true (by first | (with_reducible assumption) | assumption)
                  obtain ⟨ad226, e226, hx226_0, hx226_1⟩ := at_T117 HR0.out x7_1 p226 q226
                  cases e226
                  replace hx226_0 := (HB.out.cell (World.block_lt_of_cell? w _ hx226_0)).trans hx226_0
                  replace hx226_1 := (HB.out.cell (World.block_lt_of_cell? w _ hx226_1)).trans hx226_1
                  replace p226 := eq_true p226
                  replace q226 := eq_true q226
                  go_wp2_with (first | ((with_reducible refine gate_dst (N := 4) rfl ?_); refine box_event ?hg (N := 4) ?hd (cs := #[.int .i64 0, .int .i64 0]) (t := 117) ?hr ?_; (case hd => rfl); (case hg => rfl); (case hr => first | (go_simp; done) | (go_simp; rfl)); intro gb227 hg w12 hbox hb; have n0_ := Aside0.mk (below_step (by repeat (first | (with_reducible first | exact HB.out | apply below_alloc | apply pw_below_drewN | apply below_drew1) | exact HB.out)) hb); have n1_ := Aside0.mk (hbox); have n2_ := Aside0.mk ((by rw [hg]; exact (below_size (by repeat (first | (with_reducible first | exact HB.out | apply below_alloc | apply pw_below_drewN | apply below_drew1) | exact HB.out))) : w.heap.size ≤ gb227)); have n3_ := Aside0.mk ((by rw [hg]; exact (below_size (by repeat (first | (with_reducible first | exact HB.out | apply below_alloc | apply pw_below_drewN | apply below_drew1) | exact HB.out))) : w.heap.size ≤ gb227)); clear HB; have HB := n0_; have BK227 := n1_; have GW227 := n2_; have GE227 := n3_; clear n0_ n1_ n2_ n3_; clear hb hbox hg; have hcz13_0 : w12.cell? ⟨gb227, 0, none⟩ = some (.int .i64 0) := (blk_cell BK227.out 0).trans rfl; have hcz13_1 : w12.cell? ⟨gb227, 1, none⟩ = some (.int .i64 0) := (blk_cell BK227.out 1).trans rfl; have hfz13_0 := blk_frozen BK227.out 0; have hfz13_1 := blk_frozen BK227.out 1))
                  repeat (go_quiet (first | ((with_reducible refine gate_dst (N := 4) rfl ?_); refine box_event ?hg (N := 4) ?hd (cs := #[.int .i64 0, .int .i64 0]) (t := 117) ?hr ?_; (case hd => rfl); (case hg => rfl); (case hr => first | (go_simp; done) | (go_simp; rfl)); intro gb227 hg w12 hbox hb; have n0_ := Aside0.mk (below_step (by repeat (first | (with_reducible first | exact HB.out | apply below_alloc | apply pw_below_drewN | apply below_drew1) | exact HB.out)) hb); have n1_ := Aside0.mk (hbox); have n2_ := Aside0.mk ((by rw [hg]; exact (below_size (by repeat (first | (with_reducible first | exact HB.out | apply below_alloc | apply pw_below_drewN | apply below_drew1) | exact HB.out))) : w.heap.size ≤ gb227)); have n3_ := Aside0.mk ((by rw [hg]; exact (below_size (by repeat (first | (with_reducible first | exact HB.out | apply below_alloc | apply pw_below_drewN | apply below_drew1) | exact HB.out))) : w.heap.size ≤ gb227)); clear HB; have HB := n0_; have BK227 := n1_; have GW227 := n2_; have GE227 := n3_; clear n0_ n1_ n2_ n3_; clear hb hbox hg; have hcz13_0 : w12.cell? ⟨gb227, 0, none⟩ = some (.int .i64 0) := (blk_cell BK227.out 0).trans rfl; have hcz13_1 : w12.cell? ⟨gb227, 1, none⟩ = some (.int .i64 0) := (blk_cell BK227.out 1).trans rfl; have hfz13_0 := blk_frozen BK227.out 0; have hfz13_1 := blk_frozen BK227.out 1)); try go_wp2_with (first | ((with_reducible refine gate_dst (N := 4) rfl ?_); refine box_event ?hg (N := 4) ?hd (cs := #[.int .i64 0, .int .i64 0]) (t := 117) ?hr ?_; (case hd => rfl); (case hg => rfl); (case hr => first | (go_simp; done) | (go_simp; rfl)); intro gb227 hg w12 hbox hb; have n0_ := Aside0.mk (below_step (by repeat (first | (with_reducible first | exact HB.out | apply below_alloc | apply pw_below_drewN | apply below_drew1) | exact HB.out)) hb); have n1_ := Aside0.mk (hbox); have n2_ := Aside0.mk ((by rw [hg]; exact (below_size (by repeat (first | (with_reducible first | exact HB.out | apply below_alloc | apply pw_below_drewN | apply below_drew1) | exact HB.out))) : w.heap.size ≤ gb227)); have n3_ := Aside0.mk ((by rw [hg]; exact (below_size (by repeat (first | (with_reducible first | exact HB.out | apply below_alloc | apply pw_below_drewN | apply below_drew1) | exact HB.out))) : w.heap.size ≤ gb227)); clear HB; have HB := n0_; have BK227 := n1_; have GW227 := n2_; have GE227 := n3_; clear n0_ n1_ n2_ n3_; clear hb hbox hg; have hcz13_0 : w12.cell? ⟨gb227, 0, none⟩ = some (.int .i64 0) := (blk_cell BK227.out 0).trans rfl; have hcz13_1 : w12.cell? ⟨gb227, 1, none⟩ = some (.int .i64 0) := (blk_cell BK227.out 1).trans rfl; have hfz13_0 := blk_frozen BK227.out 0; have hfz13_1 := blk_frozen BK227.out 1)))
                  go_ret
                  exact ⟨by first | rfl | (simp [errW_none, errW_some] <;> rfl) | (simp [*, errW_none, errW_some] <;> rfl), by repeat (first | (with_reducible first | exact HB.out | apply below_alloc | apply pw_below_drewN | apply below_drew1 | refine below_set ?_ GE227.out) | exact HB.out)⟩
                · rw [if_neg c11] at H
                  have c11b0 : decide (255 < ((rd_T117 l0 x7_1).f1)) = false := decide_eq_false c11
                  clear c11
                  by_cases c14 : x7_1 > 0
                  · rw [if_pos c14] at H
                    have c14b0 : decide (0 < x7_1) = true := decide_eq_true c14
                    clear c14
                    obtain ⟨ji15, hji15⟩ : ∃ j_ : Int, (wrap64 (x7_1 - 1)) = j_ := ⟨_, rfl⟩
                    replace H : (if 0 ≤ (ji15) then (if (ji15) < (l0.length : Int) then (if ((rd_T117 l0 x7_1).f0) ≤ (wrap64 (((rd_T117 l0 (ji15)).f1) + 1)) then (some false) else (impl_SetOk.l0 k1 l0 l0 (l0.length : Int) (wrap64 (x7_1 + 1)))) else (none)) else (none)) = some r := by first | (rw [hji15] at H; exact H) | (simp only [hji15] at H ⊢; exact H)
                    have hji15w : (IntKind.i64.wrap (x7_1 - 1)) = ji15 := (i64_w _).trans hji15
                    by_cases c16 : 0 ≤ (ji15)
                    · rw [if_pos c16] at H
                      have c16b0 : decide (0 ≤ (ji15)) = true := decide_eq_true c16
                      clear c16
                      by_cases c17 : (ji15) < (l0.length : Int)
                      · rw [if_pos c17] at H
                        have c17b0 : decide ((ji15) < (l0.length : Int)) = true := decide_eq_true c17
                        clear c17
                        by_cases c18 : ((rd_T117 l0 x7_1).f0) ≤ (wrap64 (((rd_T117 l0 (ji15)).f1) + 1))
                        · rw [if_pos c18] at H
                          have c18b0 : decide (((rd_T117 l0 x7_1).f0) ≤ (wrap64 (((rd_T117 l0 (ji15)).f1) + 1))) = true := decide_eq_true c18
                          clear c18
                          obtain rfl := Option.some.inj H
                          have p226 : 0 ≤ (x7_1 : Int) := of_decide_eq_true (by first | (with_reducible assumption) | assumption)
                          have q226 : x7_1 < (l0.length : Int) := of_decide_eq_true (by first | (with_reducible assumption) | assumption)
                          obtain ⟨ad226, e226, hx226_0, hx226_1⟩ := at_T117 HR0.out x7_1 p226 q226
                          cases e226
                          replace hx226_0 := (HB.out.cell (World.block_lt_of_cell? w _ hx226_0)).trans hx226_0
                          replace hx226_1 := (HB.out.cell (World.block_lt_of_cell? w _ hx226_1)).trans hx226_1
                          replace p226 := eq_true p226
                          replace q226 := eq_true q226
                          go_wp2_with (first | ((with_reducible refine gate_dst (N := 4) rfl ?_); refine box_event ?hg (N := 4) ?hd (cs := #[.int .i64 0, .int .i64 0]) (t := 117) ?hr ?_; (case hd => rfl); (case hg => rfl); (case hr => first | (go_simp; done) | (go_simp; rfl)); intro gb227 hg w19 hbox hb; have n0_ := Aside0.mk (below_step (by repeat (first | (with_reducible first | exact HB.out | apply below_alloc | apply pw_below_drewN | apply below_drew1) | exact HB.out)) hb); have n1_ := Aside0.mk (hbox); have n2_ := Aside0.mk ((by rw [hg]; exact (below_size (by repeat (first | (with_reducible first | exact HB.out | apply below_alloc | apply pw_below_drewN | apply below_drew1) | exact HB.out))) : w.heap.size ≤ gb227)); have n3_ := Aside0.mk ((by rw [hg]; exact (below_size (by repeat (first | (with_reducible first | exact HB.out | apply below_alloc | apply pw_below_drewN | apply below_drew1) | exact HB.out))) : w.heap.size ≤ gb227)); clear HB; have HB := n0_; have BK227 := n1_; have GW227 := n2_; have GE227 := n3_; clear n0_ n1_ n2_ n3_; clear hb hbox hg; have hcz20_0 : w19.cell? ⟨gb227, 0, none⟩ = some (.int .i64 0) := (blk_cell BK227.out 0).trans rfl; have hcz20_1 : w19.cell? ⟨gb227, 1, none⟩ = some (.int .i64 0) := (blk_cell BK227.out 1).trans rfl; have hfz20_0 := blk_frozen BK227.out 0; have hfz20_1 := blk_frozen BK227.out 1; have p228 : 0 ≤ ((ji15) : Int) := of_decide_eq_true (by first | (with_reducible assumption) | assumption); have q228 : (ji15) < (l0.length : Int) := of_decide_eq_true (by first | (with_reducible assumption) | assumption); obtain ⟨ad228, e228, hx228_0, hx228_1⟩ := at_T117 HR0.out (ji15) p228 q228; obtain rfl : ad226 = ad228 := (by injection e228); have hn228_0 : ad226.block ≠ gb227 := Nat.ne_of_lt (Nat.lt_of_lt_of_le (by have := World.block_lt_of_cell? _ _ hx228_0; first | rwa [add_block] at this | exact this) GW227.out); have hn228_1 : ad226.block ≠ gb227 := Nat.ne_of_lt (Nat.lt_of_lt_of_le (by have := World.block_lt_of_cell? _ _ hx228_0; first | rwa [add_block] at this | exact this) GW227.out); replace hx228_0 := (HB.out.cell (World.block_lt_of_cell? w _ hx228_0)).trans hx228_0; replace hx228_1 := (HB.out.cell (World.block_lt_of_cell? w _ hx228_1)).trans hx228_1; replace hx228_0 := (cell_far (p := ⟨gb227, 0, none⟩) (by first | (rw [add_block]; exact hn228_0) | (show (Addr.add _ _).block ≠ _; rw [add_block]; exact hn228_0) | exact hn228_0) (.int .i64 ((rd_T117 l0 x7_1).f0))).trans hx228_0; replace hx228_1 := (cell_far (p := ⟨gb227, 0, none⟩) (by first | (rw [add_block]; exact hn228_0) | (show (Addr.add _ _).block ≠ _; rw [add_block]; exact hn228_0) | exact hn228_0) (.int .i64 ((rd_T117 l0 x7_1).f0))).trans hx228_1; replace hx228_0 := (cell_far (p := ⟨gb227, 1, none⟩) (by first | (rw [add_block]; exact hn228_1) | (show (Addr.add _ _).block ≠ _; rw [add_block]; exact hn228_1) | exact hn228_1) (.int .i64 ((rd_T117 l0 x7_1).f1))).trans hx228_0; replace hx228_1 := (cell_far (p := ⟨gb227, 1, none⟩) (by first | (rw [add_block]; exact hn228_1) | (show (Addr.add _ _).block ≠ _; rw [add_block]; exact hn228_1) | exact hn228_1) (.int .i64 ((rd_T117 l0 x7_1).f1))).trans hx228_1; (try have hy228_0 := fun (n_ : Nat) => (show ((((w19.drewN n_).setCell ⟨gb227, 0, none⟩ (.int .i64 ((rd_T117 l0 x7_1).f0))).setCell ⟨gb227, 1, none⟩ (.int .i64 ((rd_T117 l0 x7_1).f1)))).cell? _ = some _ from hx228_0)); (try have hy228_1 := fun (n_ : Nat) => (show ((((w19.drewN n_).setCell ⟨gb227, 0, none⟩ (.int .i64 ((rd_T117 l0 x7_1).f0))).setCell ⟨gb227, 1, none⟩ (.int .i64 ((rd_T117 l0 x7_1).f1)))).cell? _ = some _ from hx228_1)); clear hn228_0; clear hn228_1; replace p228 := eq_true p228; replace q228 := eq_true q228))
                          repeat (go_quiet (first | ((with_reducible refine gate_dst (N := 4) rfl ?_); refine box_event ?hg (N := 4) ?hd (cs := #[.int .i64 0, .int .i64 0]) (t := 117) ?hr ?_; (case hd => rfl); (case hg => rfl); (case hr => first | (go_simp; done) | (go_simp; rfl)); intro gb227 hg w19 hbox hb; have n0_ := Aside0.mk (below_step (by repeat (first | (with_reducible first | exact HB.out | apply below_alloc | apply pw_below_drewN | apply below_drew1) | exact HB.out)) hb); have n1_ := Aside0.mk (hbox); have n2_ := Aside0.mk ((by rw [hg]; exact (below_size (by repeat (first | (with_reducible first | exact HB.out | apply below_alloc | apply pw_below_drewN | apply below_drew1) | exact HB.out))) : w.heap.size ≤ gb227)); have n3_ := Aside0.mk ((by rw [hg]; exact (below_size (by repeat (first | (with_reducible first | exact HB.out | apply below_alloc | apply pw_below_drewN | apply below_drew1) | exact HB.out))) : w.heap.size ≤ gb227)); clear HB; have HB := n0_; have BK227 := n1_; have GW227 := n2_; have GE227 := n3_; clear n0_ n1_ n2_ n3_; clear hb hbox hg; have hcz20_0 : w19.cell? ⟨gb227, 0, none⟩ = some (.int .i64 0) := (blk_cell BK227.out 0).trans rfl; have hcz20_1 : w19.cell? ⟨gb227, 1, none⟩ = some (.int .i64 0) := (blk_cell BK227.out 1).trans rfl; have hfz20_0 := blk_frozen BK227.out 0; have hfz20_1 := blk_frozen BK227.out 1; have p228 : 0 ≤ ((ji15) : Int) := of_decide_eq_true (by first | (with_reducible assumption) | assumption); have q228 : (ji15) < (l0.length : Int) := of_decide_eq_true (by first | (with_reducible assumption) | assumption); obtain ⟨ad228, e228, hx228_0, hx228_1⟩ := at_T117 HR0.out (ji15) p228 q228; obtain rfl : ad226 = ad228 := (by injection e228); have hn228_0 : ad226.block ≠ gb227 := Nat.ne_of_lt (Nat.lt_of_lt_of_le (by have := World.block_lt_of_cell? _ _ hx228_0; first | rwa [add_block] at this | exact this) GW227.out); have hn228_1 : ad226.block ≠ gb227 := Nat.ne_of_lt (Nat.lt_of_lt_of_le (by have := World.block_lt_of_cell? _ _ hx228_0; first | rwa [add_block] at this | exact this) GW227.out); replace hx228_0 := (HB.out.cell (World.block_lt_of_cell? w _ hx228_0)).trans hx228_0; replace hx228_1 := (HB.out.cell (World.block_lt_of_cell? w _ hx228_1)).trans hx228_1; replace hx228_0 := (cell_far (p := ⟨gb227, 0, none⟩) (by first | (rw [add_block]; exact hn228_0) | (show (Addr.add _ _).block ≠ _; rw [add_block]; exact hn228_0) | exact hn228_0) (.int .i64 ((rd_T117 l0 x7_1).f0))).trans hx228_0; replace hx228_1 := (cell_far (p := ⟨gb227, 0, none⟩) (by first | (rw [add_block]; exact hn228_0) | (show (Addr.add _ _).block ≠ _; rw [add_block]; exact hn228_0) | exact hn228_0) (.int .i64 ((rd_T117 l0 x7_1).f0))).trans hx228_1; replace hx228_0 := (cell_far (p := ⟨gb227, 1, none⟩) (by first | (rw [add_block]; exact hn228_1) | (show (Addr.add _ _).block ≠ _; rw [add_block]; exact hn228_1) | exact hn228_1) (.int .i64 ((rd_T117 l0 x7_1).f1))).trans hx228_0; replace hx228_1 := (cell_far (p := ⟨gb227, 1, none⟩) (by first | (rw [add_block]; exact hn228_1) | (show (Addr.add _ _).block ≠ _; rw [add_block]; exact hn228_1) | exact hn228_1) (.int .i64 ((rd_T117 l0 x7_1).f1))).trans hx228_1; (try have hy228_0 := fun (n_ : Nat) => (show ((((w19.drewN n_).setCell ⟨gb227, 0, none⟩ (.int .i64 ((rd_T117 l0 x7_1).f0))).setCell ⟨gb227, 1, none⟩ (.int .i64 ((rd_T117 l0 x7_1).f1)))).cell? _ = some _ from hx228_0)); (try have hy228_1 := fun (n_ : Nat) => (show ((((w19.drewN n_).setCell ⟨gb227, 0, none⟩ (.int .i64 ((rd_T117 l0 x7_1).f0))).setCell ⟨gb227, 1, none⟩ (.int .i64 ((rd_T117 l0 x7_1).f1)))).cell? _ = some _ from hx228_1)); clear hn228_0; clear hn228_1; replace p228 := eq_true p228; replace q228 := eq_true q228)); try go_wp2_with (first | ((with_reducible refine gate_dst (N := 4) rfl ?_); refine box_event ?hg (N := 4) ?hd (cs := #[.int .i64 0, .int .i64 0]) (t := 117) ?hr ?_; (case hd => rfl); (case hg => rfl); (case hr => first | (go_simp; done) | (go_simp; rfl)); intro gb227 hg w19 hbox hb; have n0_ := Aside0.mk (below_step (by repeat (first | (with_reducible first | exact HB.out | apply below_alloc | apply pw_below_drewN | apply below_drew1) | exact HB.out)) hb); have n1_ := Aside0.mk (hbox); have n2_ := Aside0.mk ((by rw [hg]; exact (below_size (by repeat (first | (with_reducible first | exact HB.out | apply below_alloc | apply pw_below_drewN | apply below_drew1) | exact HB.out))) : w.heap.size ≤ gb227)); have n3_ := Aside0.mk ((by rw [hg]; exact (below_size (by repeat (first | (with_reducible first | exact HB.out | apply below_alloc | apply pw_below_drewN | apply below_drew1) | exact HB.out))) : w.heap.size ≤ gb227)); clear HB; have HB := n0_; have BK227 := n1_; have GW227 := n2_; have GE227 := n3_; clear n0_ n1_ n2_ n3_; clear hb hbox hg; have hcz20_0 : w19.cell? ⟨gb227, 0, none⟩ = some (.int .i64 0) := (blk_cell BK227.out 0).trans rfl; have hcz20_1 : w19.cell? ⟨gb227, 1, none⟩ = some (.int .i64 0) := (blk_cell BK227.out 1).trans rfl; have hfz20_0 := blk_frozen BK227.out 0; have hfz20_1 := blk_frozen BK227.out 1; have p228 : 0 ≤ ((ji15) : Int) := of_decide_eq_true (by first | (with_reducible assumption) | assumption); have q228 : (ji15) < (l0.length : Int) := of_decide_eq_true (by first | (with_reducible assumption) | assumption); obtain ⟨ad228, e228, hx228_0, hx228_1⟩ := at_T117 HR0.out (ji15) p228 q228; obtain rfl : ad226 = ad228 := (by injection e228); have hn228_0 : ad226.block ≠ gb227 := Nat.ne_of_lt (Nat.lt_of_lt_of_le (by have := World.block_lt_of_cell? _ _ hx228_0; first | rwa [add_block] at this | exact this) GW227.out); have hn228_1 : ad226.block ≠ gb227 := Nat.ne_of_lt (Nat.lt_of_lt_of_le (by have := World.block_lt_of_cell? _ _ hx228_0; first | rwa [add_block] at this | exact this) GW227.out); replace hx228_0 := (HB.out.cell (World.block_lt_of_cell? w _ hx228_0)).trans hx228_0; replace hx228_1 := (HB.out.cell (World.block_lt_of_cell? w _ hx228_1)).trans hx228_1; replace hx228_0 := (cell_far (p := ⟨gb227, 0, none⟩) (by first | (rw [add_block]; exact hn228_0) | (show (Addr.add _ _).block ≠ _; rw [add_block]; exact hn228_0) | exact hn228_0) (.int .i64 ((rd_T117 l0 x7_1).f0))).trans hx228_0; replace hx228_1 := (cell_far (p := ⟨gb227, 0, none⟩) (by first | (rw [add_block]; exact hn228_0) | (show (Addr.add _ _).block ≠ _; rw [add_block]; exact hn228_0) | exact hn228_0) (.int .i64 ((rd_T117 l0 x7_1).f0))).trans hx228_1; replace hx228_0 := (cell_far (p := ⟨gb227, 1, none⟩) (by first | (rw [add_block]; exact hn228_1) | (show (Addr.add _ _).block ≠ _; rw [add_block]; exact hn228_1) | exact hn228_1) (.int .i64 ((rd_T117 l0 x7_1).f1))).trans hx228_0; replace hx228_1 := (cell_far (p := ⟨gb227, 1, none⟩) (by first | (rw [add_block]; exact hn228_1) | (show (Addr.add _ _).block ≠ _; rw [add_block]; exact hn228_1) | exact hn228_1) (.int .i64 ((rd_T117 l0 x7_1).f1))).trans hx228_1; (try have hy228_0 := fun (n_ : Nat) => (show ((((w19.drewN n_).setCell ⟨gb227, 0, none⟩ (.int .i64 ((rd_T117 l0 x7_1).f0))).setCell ⟨gb227, 1, none⟩ (.int .i64 ((rd_T117 l0 x7_1).f1)))).cell? _ = some _ from hx228_0)); (try have hy228_1 := fun (n_ : Nat) => (show ((((w19.drewN n_).setCell ⟨gb227, 0, none⟩ (.int .i64 ((rd_T117 l0 x7_1).f0))).setCell ⟨gb227, 1, none⟩ (.int .i64 ((rd_T117 l0 x7_1).f1)))).cell? _ = some _ from hx228_1)); clear hn228_0; clear hn228_1; replace p228 := eq_true p228; replace q228 := eq_true q228)))
                          go_ret
                          exact ⟨by first | rfl | (simp [errW_none, errW_some] <;> rfl) | (simp only [← hji15]; first | rfl | (simp [errW_none, errW_some] <;> rfl)) | (simp [*, errW_none, errW_some] <;> rfl), by repeat (first | (with_reducible first | exact HB.out | apply below_alloc | apply pw_below_drewN | apply below_drew1 | refine below_set ?_ GE227.out) | exact HB.out)⟩
                        · rw [if_neg c18] at H
                          have c18b0 : decide (((rd_T117 l0 x7_1).f0) ≤ (wrap64 (((rd_T117 l0 (ji15)).f1) + 1))) = false := decide_eq_false c18
                          clear c18
                          have H' := Aside0.mk H
                          clear H
                          have p226 : 0 ≤ (x7_1 : Int) := of_decide_eq_true (by first | (with_reducible assumption) | assumption)
                          have q226 : x7_1 < (l0.length : Int) := of_decide_eq_true (by first | (with_reducible assumption) | assumption)
                          obtain ⟨ad226, e226, hx226_0, hx226_1⟩ := at_T117 HR0.out x7_1 p226 q226
                          cases e226
                          replace hx226_0 := (HB.out.cell (World.block_lt_of_cell? w _ hx226_0)).trans hx226_0
                          replace hx226_1 := (HB.out.cell (World.block_lt_of_cell? w _ hx226_1)).trans hx226_1
                          replace p226 := eq_true p226
                          replace q226 := eq_true q226
                          go_wp2_with (first | ((with_reducible refine gate_dst (N := 4) rfl ?_); refine box_event ?hg (N := 4) ?hd (cs := #[.int .i64 0, .int .i64 0]) (t := 117) ?hr ?_; (case hd => rfl); (case hg => rfl); (case hr => first | (go_simp; done) | (go_simp; rfl)); intro gb227 hg w21 hbox hb; have n0_ := Aside0.mk (below_step (by repeat (first | (with_reducible first | exact HB.out | apply below_alloc | apply pw_below_drewN | apply below_drew1) | exact HB.out)) hb); have n1_ := Aside0.mk (hbox); have n2_ := Aside0.mk ((by rw [hg]; exact (below_size (by repeat (first | (with_reducible first | exact HB.out | apply below_alloc | apply pw_below_drewN | apply below_drew1) | exact HB.out))) : w.heap.size ≤ gb227)); have n3_ := Aside0.mk ((by rw [hg]; exact (below_size (by repeat (first | (with_reducible first | exact HB.out | apply below_alloc | apply pw_below_drewN | apply below_drew1) | exact HB.out))) : w.heap.size ≤ gb227)); clear HB; have HB := n0_; have BK227 := n1_; have GW227 := n2_; have GE227 := n3_; clear n0_ n1_ n2_ n3_; clear hb hbox hg; have hcz22_0 : w21.cell? ⟨gb227, 0, none⟩ = some (.int .i64 0) := (blk_cell BK227.out 0).trans rfl; have hcz22_1 : w21.cell? ⟨gb227, 1, none⟩ = some (.int .i64 0) := (blk_cell BK227.out 1).trans rfl; have hfz22_0 := blk_frozen BK227.out 0; have hfz22_1 := blk_frozen BK227.out 1; have p228 : 0 ≤ ((ji15) : Int) := of_decide_eq_true (by first | (with_reducible assumption) | assumption); have q228 : (ji15) < (l0.length : Int) := of_decide_eq_true (by first | (with_reducible assumption) | assumption); obtain ⟨ad228, e228, hx228_0, hx228_1⟩ := at_T117 HR0.out (ji15) p228 q228; obtain rfl : ad226 = ad228 := (by injection e228); have hn228_0 : ad226.block ≠ gb227 := Nat.ne_of_lt (Nat.lt_of_lt_of_le (by have := World.block_lt_of_cell? _ _ hx228_0; first | rwa [add_block] at this | exact this) GW227.out); have hn228_1 : ad226.block ≠ gb227 := Nat.ne_of_lt (Nat.lt_of_lt_of_le (by have := World.block_lt_of_cell? _ _ hx228_0; first | rwa [add_block] at this | exact this) GW227.out); replace hx228_0 := (HB.out.cell (World.block_lt_of_cell? w _ hx228_0)).trans hx228_0; replace hx228_1 := (HB.out.cell (World.block_lt_of_cell? w _ hx228_1)).trans hx228_1; replace hx228_0 := (cell_far (p := ⟨gb227, 0, none⟩) (by first | (rw [add_block]; exact hn228_0) | (show (Addr.add _ _).block ≠ _; rw [add_block]; exact hn228_0) | exact hn228_0) (.int .i64 ((rd_T117 l0 x7_1).f0))).trans hx228_0; replace hx228_1 := (cell_far (p := ⟨gb227, 0, none⟩) (by first | (rw [add_block]; exact hn228_0) | (show (Addr.add _ _).block ≠ _; rw [add_block]; exact hn228_0) | exact hn228_0) (.int .i64 ((rd_T117 l0 x7_1).f0))).trans hx228_1; replace hx228_0 := (cell_far (p := ⟨gb227, 1, none⟩) (by first | (rw [add_block]; exact hn228_1) | (show (Addr.add _ _).block ≠ _; rw [add_block]; exact hn228_1) | exact hn228_1) (.int .i64 ((rd_T117 l0 x7_1).f1))).trans hx228_0; replace hx228_1 := (cell_far (p := ⟨gb227, 1, none⟩) (by first | (rw [add_block]; exact hn228_1) | (show (Addr.add _ _).block ≠ _; rw [add_block]; exact hn228_1) | exact hn228_1) (.int .i64 ((rd_T117 l0 x7_1).f1))).trans hx228_1; (try have hy228_0 := fun (n_ : Nat) => (show ((((w21.drewN n_).setCell ⟨gb227, 0, none⟩ (.int .i64 ((rd_T117 l0 x7_1).f0))).setCell ⟨gb227, 1, none⟩ (.int .i64 ((rd_T117 l0 x7_1).f1)))).cell? _ = some _ from hx228_0)); (try have hy228_1 := fun (n_ : Nat) => (show ((((w21.drewN n_).setCell ⟨gb227, 0, none⟩ (.int .i64 ((rd_T117 l0 x7_1).f0))).setCell ⟨gb227, 1, none⟩ (.int .i64 ((rd_T117 l0 x7_1).f1)))).cell? _ = some _ from hx228_1)); clear hn228_0; clear hn228_1; replace p228 := eq_true p228; replace q228 := eq_true q228))
                          repeat (go_quiet (first | ((with_reducible refine gate_dst (N := 4) rfl ?_); refine box_event ?hg (N := 4) ?hd (cs := #[.int .i64 0, .int .i64 0]) (t := 117) ?hr ?_; (case hd => rfl); (case hg => rfl); (case hr => first | (go_simp; done) | (go_simp; rfl)); intro gb227 hg w21 hbox hb; have n0_ := Aside0.mk (below_step (by repeat (first | (with_reducible first | exact HB.out | apply below_alloc | apply pw_below_drewN | apply below_drew1) | exact HB.out)) hb); have n1_ := Aside0.mk (hbox); have n2_ := Aside0.mk ((by rw [hg]; exact (below_size (by repeat (first | (with_reducible first | exact HB.out | apply below_alloc | apply pw_below_drewN | apply below_drew1) | exact HB.out))) : w.heap.size ≤ gb227)); have n3_ := Aside0.mk ((by rw [hg]; exact (below_size (by repeat (first | (with_reducible first | exact HB.out | apply below_alloc | apply pw_below_drewN | apply below_drew1) | exact HB.out))) : w.heap.size ≤ gb227)); clear HB; have HB := n0_; have BK227 := n1_; have GW227 := n2_; have GE227 := n3_; clear n0_ n1_ n2_ n3_; clear hb hbox hg; have hcz22_0 : w21.cell? ⟨gb227, 0, none⟩ = some (.int .i64 0) := (blk_cell BK227.out 0).trans rfl; have hcz22_1 : w21.cell? ⟨gb227, 1, none⟩ = some (.int .i64 0) := (blk_cell BK227.out 1).trans rfl; have hfz22_0 := blk_frozen BK227.out 0; have hfz22_1 := blk_frozen BK227.out 1; have p228 : 0 ≤ ((ji15) : Int) := of_decide_eq_true (by first | (with_reducible assumption) | assumption); have q228 : (ji15) < (l0.length : Int) := of_decide_eq_true (by first | (with_reducible assumption) | assumption); obtain ⟨ad228, e228, hx228_0, hx228_1⟩ := at_T117 HR0.out (ji15) p228 q228; obtain rfl : ad226 = ad228 := (by injection e228); have hn228_0 : ad226.block ≠ gb227 := Nat.ne_of_lt (Nat.lt_of_lt_of_le (by have := World.block_lt_of_cell? _ _ hx228_0; first | rwa [add_block] at this | exact this) GW227.out); have hn228_1 : ad226.block ≠ gb227 := Nat.ne_of_lt (Nat.lt_of_lt_of_le (by have := World.block_lt_of_cell? _ _ hx228_0; first | rwa [add_block] at this | exact this) GW227.out); replace hx228_0 := (HB.out.cell (World.block_lt_of_cell? w _ hx228_0)).trans hx228_0; replace hx228_1 := (HB.out.cell (World.block_lt_of_cell? w _ hx228_1)).trans hx228_1; replace hx228_0 := (cell_far (p := ⟨gb227, 0, none⟩) (by first | (rw [add_block]; exact hn228_0) | (show (Addr.add _ _).block ≠ _; rw [add_block]; exact hn228_0) | exact hn228_0) (.int .i64 ((rd_T117 l0 x7_1).f0))).trans hx228_0; replace hx228_1 := (cell_far (p := ⟨gb227, 0, none⟩) (by first | (rw [add_block]; exact hn228_0) | (show (Addr.add _ _).block ≠ _; rw [add_block]; exact hn228_0) | exact hn228_0) (.int .i64 ((rd_T117 l0 x7_1).f0))).trans hx228_1; replace hx228_0 := (cell_far (p := ⟨gb227, 1, none⟩) (by first | (rw [add_block]; exact hn228_1) | (show (Addr.add _ _).block ≠ _; rw [add_block]; exact hn228_1) | exact hn228_1) (.int .i64 ((rd_T117 l0 x7_1).f1))).trans hx228_0; replace hx228_1 := (cell_far (p := ⟨gb227, 1, none⟩) (by first | (rw [add_block]; exact hn228_1) | (show (Addr.add _ _).block ≠ _; rw [add_block]; exact hn228_1) | exact hn228_1) (.int .i64 ((rd_T117 l0 x7_1).f1))).trans hx228_1; (try have hy228_0 := fun (n_ : Nat) => (show ((((w21.drewN n_).setCell ⟨gb227, 0, none⟩ (.int .i64 ((rd_T117 l0 x7_1).f0))).setCell ⟨gb227, 1, none⟩ (.int .i64 ((rd_T117 l0 x7_1).f1)))).cell? _ = some _ from hx228_0)); (try have hy228_1 := fun (n_ : Nat) => (show ((((w21.drewN n_).setCell ⟨gb227, 0, none⟩ (.int .i64 ((rd_T117 l0 x7_1).f0))).setCell ⟨gb227, 1, none⟩ (.int .i64 ((rd_T117 l0 x7_1).f1)))).cell? _ = some _ from hx228_1)); clear hn228_0; clear hn228_1; replace p228 := eq_true p228; replace q228 := eq_true q228)); try go_wp2_with (first | ((with_reducible refine gate_dst (N := 4) rfl ?_); refine box_event ?hg (N := 4) ?hd (cs := #[.int .i64 0, .int .i64 0]) (t := 117) ?hr ?_; (case hd => rfl); (case hg => rfl); (case hr => first | (go_simp; done) | (go_simp; rfl)); intro gb227 hg w21 hbox hb; have n0_ := Aside0.mk (below_step (by repeat (first | (with_reducible first | exact HB.out | apply below_alloc | apply pw_below_drewN | apply below_drew1) | exact HB.out)) hb); have n1_ := Aside0.mk (hbox); have n2_ := Aside0.mk ((by rw [hg]; exact (below_size (by repeat (first | (with_reducible first | exact HB.out | apply below_alloc | apply pw_below_drewN | apply below_drew1) | exact HB.out))) : w.heap.size ≤ gb227)); have n3_ := Aside0.mk ((by rw [hg]; exact (below_size (by repeat (first | (with_reducible first | exact HB.out | apply below_alloc | apply pw_below_drewN | apply below_drew1) | exact HB.out))) : w.heap.size ≤ gb227)); clear HB; have HB := n0_; have BK227 := n1_; have GW227 := n2_; have GE227 := n3_; clear n0_ n1_ n2_ n3_; clear hb hbox hg; have hcz22_0 : w21.cell? ⟨gb227, 0, none⟩ = some (.int .i64 0) := (blk_cell BK227.out 0).trans rfl; have hcz22_1 : w21.cell? ⟨gb227, 1, none⟩ = some (.int .i64 0) := (blk_cell BK227.out 1).trans rfl; have hfz22_0 := blk_frozen BK227.out 0; have hfz22_1 := blk_frozen BK227.out 1; have p228 : 0 ≤ ((ji15) : Int) := of_decide_eq_true (by first | (with_reducible assumption) | assumption); have q228 : (ji15) < (l0.length : Int) := of_decide_eq_true (by first | (with_reducible assumption) | assumption); obtain ⟨ad228, e228, hx228_0, hx228_1⟩ := at_T117 HR0.out (ji15) p228 q228; obtain rfl : ad226 = ad228 := (by injection e228); have hn228_0 : ad226.block ≠ gb227 := Nat.ne_of_lt (Nat.lt_of_lt_of_le (by have := World.block_lt_of_cell? _ _ hx228_0; first | rwa [add_block] at this | exact this) GW227.out); have hn228_1 : ad226.block ≠ gb227 := Nat.ne_of_lt (Nat.lt_of_lt_of_le (by have := World.block_lt_of_cell? _ _ hx228_0; first | rwa [add_block] at this | exact this) GW227.out); replace hx228_0 := (HB.out.cell (World.block_lt_of_cell? w _ hx228_0)).trans hx228_0; replace hx228_1 := (HB.out.cell (World.block_lt_of_cell? w _ hx228_1)).trans hx228_1; replace hx228_0 := (cell_far (p := ⟨gb227, 0, none⟩) (by first | (rw [add_block]; exact hn228_0) | (show (Addr.add _ _).block ≠ _; rw [add_block]; exact hn228_0) | exact hn228_0) (.int .i64 ((rd_T117 l0 x7_1).f0))).trans hx228_0; replace hx228_1 := (cell_far (p := ⟨gb227, 0, none⟩) (by first | (rw [add_block]; exact hn228_0) | (show (Addr.add _ _).block ≠ _; rw [add_block]; exact hn228_0) | exact hn228_0) (.int .i64 ((rd_T117 l0 x7_1).f0))).trans hx228_1; replace hx228_0 := (cell_far (p := ⟨gb227, 1, none⟩) (by first | (rw [add_block]; exact hn228_1) | (show (Addr.add _ _).block ≠ _; rw [add_block]; exact hn228_1) | exact hn228_1) (.int .i64 ((rd_T117 l0 x7_1).f1))).trans hx228_0; replace hx228_1 := (cell_far (p := ⟨gb227, 1, none⟩) (by first | (rw [add_block]; exact hn228_1) | (show (Addr.add _ _).block ≠ _; rw [add_block]; exact hn228_1) | exact hn228_1) (.int .i64 ((rd_T117 l0 x7_1).f1))).trans hx228_1; (try have hy228_0 := fun (n_ : Nat) => (show ((((w21.drewN n_).setCell ⟨gb227, 0, none⟩ (.int .i64 ((rd_T117 l0 x7_1).f0))).setCell ⟨gb227, 1, none⟩ (.int .i64 ((rd_T117 l0 x7_1).f1)))).cell? _ = some _ from hx228_0)); (try have hy228_1 := fun (n_ : Nat) => (show ((((w21.drewN n_).setCell ⟨gb227, 0, none⟩ (.int .i64 ((rd_T117 l0 x7_1).f0))).setCell ⟨gb227, 1, none⟩ (.int .i64 ((rd_T117 l0 x7_1).f1)))).cell? _ = some _ from hx228_1)); clear hn228_0; clear hn228_1; replace p228 := eq_true p228; replace q228 := eq_true q228)))
                          go_roundg k1
                          case measure => have := HK1.out; omega
                          case rel => exact ⟨(wrap64 (x7_1 + 1)), (by first | rfl | (simp; done) | (simp [*]; done)), H', ⟨by have := HK1.out; omega⟩, ⟨by repeat (first | (with_reducible first | exact HB.out | apply below_alloc | apply pw_below_drewN | apply below_drew1 | refine below_set ?_ GE227.out) | exact HB.out)⟩⟩
                      · rw [if_neg c17] at H
                        exact absurd H (by simp)
                    · rw [if_neg c16] at H
                      exact absurd H (by simp)
                  · rw [if_neg c14] at H
                    have c14b0 : decide (0 < x7_1) = false := decide_eq_false c14
                    clear c14
                    have H' := Aside0.mk H
                    clear H
                    have p226 : 0 ≤ (x7_1 : Int) := of_decide_eq_true (by first | (with_reducible assumption) | assumption)
                    have q226 : x7_1 < (l0.length : Int) := of_decide_eq_true (by first | (with_reducible assumption) | assumption)
                    obtain ⟨ad226, e226, hx226_0, hx226_1⟩ := at_T117 HR0.out x7_1 p226 q226
                    cases e226
                    replace hx226_0 := (HB.out.cell (World.block_lt_of_cell? w _ hx226_0)).trans hx226_0
                    replace hx226_1 := (HB.out.cell (World.block_lt_of_cell? w _ hx226_1)).trans hx226_1
                    replace p226 := eq_true p226
                    replace q226 := eq_true q226
                    go_wp2_with (first | ((with_reducible refine gate_dst (N := 4) rfl ?_); refine box_event ?hg (N := 4) ?hd (cs := #[.int .i64 0, .int .i64 0]) (t := 117) ?hr ?_; (case hd => rfl); (case hg => rfl); (case hr => first | (go_simp; done) | (go_simp; rfl)); intro gb227 hg w23 hbox hb; have n0_ := Aside0.mk (below_step (by repeat (first | (with_reducible first | exact HB.out | apply below_alloc | apply pw_below_drewN | apply below_drew1) | exact HB.out)) hb); have n1_ := Aside0.mk (hbox); have n2_ := Aside0.mk ((by rw [hg]; exact (below_size (by repeat (first | (with_reducible first | exact HB.out | apply below_alloc | apply pw_below_drewN | apply below_drew1) | exact HB.out))) : w.heap.size ≤ gb227)); have n3_ := Aside0.mk ((by rw [hg]; exact (below_size (by repeat (first | (with_reducible first | exact HB.out | apply below_alloc | apply pw_below_drewN | apply below_drew1) | exact HB.out))) : w.heap.size ≤ gb227)); clear HB; have HB := n0_; have BK227 := n1_; have GW227 := n2_; have GE227 := n3_; clear n0_ n1_ n2_ n3_; clear hb hbox hg; have hcz24_0 : w23.cell? ⟨gb227, 0, none⟩ = some (.int .i64 0) := (blk_cell BK227.out 0).trans rfl; have hcz24_1 : w23.cell? ⟨gb227, 1, none⟩ = some (.int .i64 0) := (blk_cell BK227.out 1).trans rfl; have hfz24_0 := blk_frozen BK227.out 0; have hfz24_1 := blk_frozen BK227.out 1))
                    repeat (go_quiet (first | ((with_reducible refine gate_dst (N := 4) rfl ?_); refine box_event ?hg (N := 4) ?hd (cs := #[.int .i64 0, .int .i64 0]) (t := 117) ?hr ?_; (case hd => rfl); (case hg => rfl); (case hr => first | (go_simp; done) | (go_simp; rfl)); intro gb227 hg w23 hbox hb; have n0_ := Aside0.mk (below_step (by repeat (first | (with_reducible first | exact HB.out | apply below_alloc | apply pw_below_drewN | apply below_drew1) | exact HB.out)) hb); have n1_ := Aside0.mk (hbox); have n2_ := Aside0.mk ((by rw [hg]; exact (below_size (by repeat (first | (with_reducible first | exact HB.out | apply below_alloc | apply pw_below_drewN | apply below_drew1) | exact HB.out))) : w.heap.size ≤ gb227)); have n3_ := Aside0.mk ((by rw [hg]; exact (below_size (by repeat (first | (with_reducible first | exact HB.out | apply below_alloc | apply pw_below_drewN | apply below_drew1) | exact HB.out))) : w.heap.size ≤ gb227)); clear HB; have HB := n0_; have BK227 := n1_; have GW227 := n2_; have GE227 := n3_; clear n0_ n1_ n2_ n3_; clear hb hbox hg; have hcz24_0 : w23.cell? ⟨gb227, 0, none⟩ = some (.int .i64 0) := (blk_cell BK227.out 0).trans rfl; have hcz24_1 : w23.cell? ⟨gb227, 1, none⟩ = some (.int .i64 0) := (blk_cell BK227.out 1).trans rfl; have hfz24_0 := blk_frozen BK227.out 0; have hfz24_1 := blk_frozen BK227.out 1)); try go_wp2_with (first | ((with_reducible refine gate_dst (N := 4) rfl ?_); refine box_event ?hg (N := 4) ?hd (cs := #[.int .i64 0, .int .i64 0]) (t := 117) ?hr ?_; (case hd => rfl); (case hg => rfl); (case hr => first | (go_simp; done) | (go_simp; rfl)); intro gb227 hg w23 hbox hb; have n0_ := Aside0.mk (below_step (by repeat (first | (with_reducible first | exact HB.out | apply below_alloc | apply pw_below_drewN | apply below_drew1) | exact HB.out)) hb); have n1_ := Aside0.mk (hbox); have n2_ := Aside0.mk ((by rw [hg]; exact (below_size (by repeat (first | (with_reducible first | exact HB.out | apply below_alloc | apply pw_below_drewN | apply below_drew1) | exact HB.out))) : w.heap.size ≤ gb227)); have n3_ := Aside0.mk ((by rw [hg]; exact (below_size (by repeat (first | (with_reducible first | exact HB.out | apply below_alloc | apply pw_below_drewN | apply below_drew1) | exact HB.out))) : w.heap.size ≤ gb227)); clear HB; have HB := n0_; have BK227 := n1_; have GW227 := n2_; have GE227 := n3_; clear n0_ n1_ n2_ n3_; clear hb hbox hg; have hcz24_0 : w23.cell? ⟨gb227, 0, none⟩ = some (.int .i64 0) := (blk_cell BK227.out 0).trans rfl; have hcz24_1 : w23.cell? ⟨gb227, 1, none⟩ = some (.int .i64 0) := (blk_cell BK227.out 1).trans rfl; have hfz24_0 := blk_frozen BK227.out 0; have hfz24_1 := blk_frozen BK227.out 1)))
                    go_roundg k1
                    case measure => have := HK1.out; omega
                    case rel => exact ⟨(wrap64 (x7_1 + 1)), (by first | rfl | (simp; done) | (simp [*]; done)), H', ⟨by have := HK1.out; omega⟩, ⟨by repeat (first | (with_reducible first | exact HB.out | apply below_alloc | apply pw_below_drewN | apply below_drew1 | refine below_set ?_ GE227.out) | exact HB.out)⟩⟩
          · rw [if_neg c4] at H
            exact absurd H (by simp)
        · rw [if_neg c3] at H
          exact absurd H (by simp)
      · rw [if_neg c2] at H
        have c2b0 : decide (x7_1 < (l0.length : Int)) = false := decide_eq_false c2
        clear c2
        obtain rfl := Option.some.inj H
        go_wp2
        repeat (go_quiet (fail); try go_wp2)
        go_ret
        exact ⟨by first | rfl | (simp [errW_none, errW_some] <;> rfl) | (simp [*, errW_none, errW_some] <;> rfl), by repeat (first | (with_reducible first | exact HB.out | apply below_alloc | apply pw_below_drewN | apply below_drew1) | exact HB.out)⟩
end Go.Proofs.Ytigmibfacllhmaa.P

namespace Go.Proofs.Ytigmibfacllhmaa.P
open Go.RowKit Go.Proofs.YtigmibfacllhmaaW.PrintWords Go.Proofs.YtigmibfacllhmaaW.PrintLast Go.Proofs.YtigmibfacllhmaaW.PrintMore
attribute [local go_sem] max2_int min2_int max_two min_two max_three min_three max_four min_four   -- for this text's walks alone
set_option linter.unusedVariables false
set_option linter.unusedSimpArgs false
def impl_in.f (a0 : Int) (a1 : Int) (a2 : Int) : Option (Bool) := if a0 ≥ a1 then (some (decide (a0 ≤ a2))) else (some false)
set_option maxHeartbeats 8000000 in
set_option maxRecDepth 100000 in
theorem impl_in.calls (a0 : Int) (a1 : Int) (a2 : Int) (r : Bool) (w : World) (h : impl_in.f a0 a1 a2 = some r) :
    Calls Try.prog 64 #[.int .i64 a0, .int .i64 a1, .int .i64 a2] w fun e w' => e = .returned (.bool r) ∧ Drawn0 w w' := by
  have H : (if a0 ≥ a1 then (some (decide (a0 ≤ a2))) else (some false)) = some r := h
  clear h
  by_cases c4 : a0 ≥ a1
  · rw [if_pos c4] at H
    have c4b0 : decide (a1 ≤ a0) = true := decide_eq_true c4
    clear c4
    obtain rfl := Option.some.inj H
    go_enter Try.func64, Try.ntmps64
    go_wp2
    go_ret
    exact ⟨by first | rfl | (simp; done) | (simp [*]; done), by repeat (first | exact Drawn0.refl _ | apply Drawn0.step)⟩
  · rw [if_neg c4] at H
    have c4b0 : decide (a1 ≤ a0) = false := decide_eq_false c4
    clear c4
    obtain rfl := Option.some.inj H
    go_enter Try.func64, Try.ntmps64
    go_wp2
    go_ret
    exact ⟨by first | rfl | (simp; done) | (simp [*]; done), by repeat (first | exact Drawn0.refl _ | apply Drawn0.step)⟩
end Go.Proofs.Ytigmibfacllhmaa.P

namespace Go.Proofs.Ytigmibfacllhmaa.P
open Go.RowKit Go.Proofs.YtigmibfacllhmaaW.PrintWords Go.Proofs.YtigmibfacllhmaaW.PrintLast Go.Proofs.YtigmibfacllhmaaW.PrintMore
attribute [local go_sem] max2_int min2_int max_two min_two max_three min_three max_four min_four   -- for this text's walks alone
set_option linter.unusedVariables false
set_option linter.unusedSimpArgs false
def impl_SetHas.l0 : Nat → Int → List (S117) → Int → Int → Option (Bool)
  | 0, _, _, _, _ => none
  | k + 1, x1, x7, x8, x9 => if x9 < x8 then (if 0 ≤ x9 then (if x9 < (x7.length : Int) then ((impl_in.f x1 ((rd_T117 x7 x9).f0) ((rd_T117 x7 x9).f1)).bind fun t231 => (if t231 = true then (some true) else (impl_SetHas.l0 k x1 x7 x8 (wrap64 (x9 + 1))))) else (none)) else (none)) else (some false)
def impl_SetHas.f (k : Nat) (l0 : List (S117)) (a1 : Int) : Option (Bool) := impl_SetHas.l0 k a1 l0 (l0.length : Int) 0
theorem impl_SetHas.mono_l : ∀ k, (∀ y0 y1 y2 y3, LeO (impl_SetHas.l0 k y0 y1 y2 y3) (impl_SetHas.l0 (k + 1) y0 y1 y2 y3))
  | 0 => fun _ _ _ _ r h => by simp [impl_SetHas.l0] at h
  | k + 1 => by
    have ih0 := impl_SetHas.mono_l k
    · intro y0 y1 y2 y3
      unfold impl_SetHas.l0
      repeat' first
      | (with_reducible exact ih0 _ _ _ _)
      | (with_reducible exact LeO.refl _)
      | (with_reducible exact LeO.none _)
      | (with_reducible refine LeO.ite ?_ ?_)
      | (with_reducible refine LeO.bind ?_ (fun _ => ?_))
      | exact ih0 _ _ _ _
      | exact LeO.none _
      | refine LeO.ite ?_ ?_
      | refine LeO.bind ?_ (fun _ => ?_)
theorem impl_SetHas.mono : ∀ a0 a1 k, LeO (impl_SetHas.f k a0 a1) (impl_SetHas.f (k + 1) a0 a1) := by
  intro a0 a1 k
  have ih0 := impl_SetHas.mono_l k
  unfold impl_SetHas.f
  repeat' first
      | (with_reducible exact ih0 _ _ _ _)
      | (with_reducible exact LeO.refl _)
      | (with_reducible exact LeO.none _)
      | (with_reducible refine LeO.ite ?_ ?_)
      | (with_reducible refine LeO.bind ?_ (fun _ => ?_))
      | exact ih0 _ _ _ _
      | exact LeO.none _
      | refine LeO.ite ?_ ?_
      | refine LeO.bind ?_ (fun _ => ?_)
set_option maxHeartbeats 8000000 in
set_option maxRecDepth 100000 in
theorem impl_SetHas.calls (k : Nat) (A0 : Option Addr) (c0 : Nat) (l0 : List (S117)) (a1 : Int) (r : Bool) (w : World) (hr0 : Kd.C k117 w A0 l0.length l0) (hc0 : l0.length ≤ c0) (h : impl_SetHas.f k l0 a1 = some r) :
    Calls Try.prog 135 #[.slice A0 l0.length c0, .int .i64 a1] w fun e w' => e = .returned (.bool r) ∧ Below w.heap.size w w' := by
  have hu117 := Try.underlying117
  have HR0 := Aside0.mk hr0
  have HC0 := Aside0.mk hc0
  clear hr0 hc0
  have HB := Aside0.mk (Below.refl w.heap.size w)
  have H : (impl_SetHas.l0 k a1 l0 (l0.length : Int) 0) = some r := h
  clear h
  have H' := Aside0.mk H
  clear H
  go_enter Try.func135, Try.ntmps135
  go_wp2
  go_loopg [9] k (fun kq v9 w' => ∃ (x9_1 : Int), v9 = .int .i64 x9_1 ∧ Aside0 (impl_SetHas.l0 kq a1 l0 (l0.length : Int) x9_1 = some r) ∧ Aside0 (kq ≤ k) ∧ Aside0 (Below w.heap.size w w'))
  case atStart => exact ⟨(0), (by first | rfl | (simp; done) | (simp [*]; done)), H', ⟨Nat.le_refl _⟩, ⟨by repeat (first | (with_reducible first | exact HB.out | apply below_alloc | apply pw_below_drewN | apply below_drew1) | exact HB.out)⟩⟩
  case round =>
    clear H'
    try clear c1
    try clear p2
    obtain ⟨x9_1, rfl, HA, HK1, HB⟩ := hrel
    cases gk with
    | zero => exact absurd HA.out (by simp [impl_SetHas.l0])
    | succ k1 =>
      have H := HA.out
      clear HA
      simp only [impl_SetHas.l0] at H
      by_cases c3 : x9_1 < (l0.length : Int)
      · rw [if_pos c3] at H
        have c3b0 : decide (x9_1 < (l0.length : Int)) = true := decide_eq_true c3
        clear c3
        by_cases c4 : 0 ≤ x9_1
        · rw [if_pos c4] at H
          have c4b0 : decide (0 ≤ x9_1) = true := decide_eq_true c4
          clear c4
          by_cases c5 : x9_1 < (l0.length : Int)
          · rw [if_pos c5] at H
            have c5b0 : decide (x9_1 < (l0.length : Int)) = true := decide_eq_true c5
            clear c5
            replace H := Option.bind_eq_some_iff.mp H
            obtain ⟨t231, A60, H⟩ := H
            replace H : (if t231 = true then (some true) else (impl_SetHas.l0 k1 a1 l0 (l0.length : Int) (wrap64 (x9_1 + 1)))) = some r := H
            have A6 := Aside0.mk A60
            clear A60
            by_cases c7 : t231 = true
            · subst c7
              have H1 : (some true) = some r := by rw [if_pos rfl] at H; exact H
              clear H
              have H := H1
              clear H1
              obtain rfl := Option.some.inj H
              have p229 : 0 ≤ (x9_1 : Int) := of_decide_eq_true (by first | (with_reducible assumption) | assumption)
              have q229 : x9_1 < (l0.length : Int) := of_decide_eq_true (by first | (with_reducible assumption) | assumption)
              obtain ⟨ad229, e229, hx229_0, hx229_1⟩ := at_T117 HR0.out x9_1 p229 q229
              cases e229
              replace hx229_0 := (HB.out.cell (World.block_lt_of_cell? w _ hx229_0)).trans hx229_0
              replace hx229_1 := (HB.out.cell (World.block_lt_of_cell? w _ hx229_1)).trans hx229_1
              replace p229 := eq_true p229
              replace q229 := eq_true q229
              go_wp2_with (first | ((with_reducible refine gate_dst (N := 6) rfl ?_); refine box_event ?hg (N := 6) ?hd (cs := #[.int .i64 0, .int .i64 0]) (t := 117) ?hr ?_; (case hd => rfl); (case hg => rfl); (case hr => first | (go_simp; done) | (go_simp; rfl)); intro gb230 hg w8 hbox hb; have n0_ := Aside0.mk (below_step (by repeat (first | (with_reducible first | exact HB.out | apply below_alloc | apply pw_below_drewN | apply below_drew1) | exact HB.out)) hb); have n1_ := Aside0.mk (hbox); have n2_ := Aside0.mk ((by rw [hg]; exact (below_size (by repeat (first | (with_reducible first | exact HB.out | apply below_alloc | apply pw_below_drewN | apply below_drew1) | exact HB.out))) : w.heap.size ≤ gb230)); have n3_ := Aside0.mk ((by rw [hg]; exact (below_size (by repeat (first | (with_reducible first | exact HB.out | apply below_alloc | apply pw_below_drewN | apply below_drew1) | exact HB.out))) : w.heap.size ≤ gb230)); clear HB; have HB := n0_; have BK230 := n1_; have GW230 := n2_; have GE230 := n3_; clear n0_ n1_ n2_ n3_; clear hb hbox hg; have hcz9_0 : w8.cell? ⟨gb230, 0, none⟩ = some (.int .i64 0) := (blk_cell BK230.out 0).trans rfl; have hcz9_1 : w8.cell? ⟨gb230, 1, none⟩ = some (.int .i64 0) := (blk_cell BK230.out 1).trans rfl; have hfz9_0 := blk_frozen BK230.out 0; have hfz9_1 := blk_frozen BK230.out 1) | ((with_reducible refine gate_callee (f := 64) rfl ?_); refine goesL_ (some 18) rfl rfl Try.func64 (by kernel_rfl) rfl #[.int .i64 a1, .int .i64 ((rd_T117 l0 x9_1).f0), .int .i64 ((rd_T117 l0 x9_1).f1)] rfl (by (try simp only [List.map_toArray, List.map_cons, List.map_nil]); first | done | rfl | (simp only [List.length_drop, List.length_take]; rfl)) ?_; (with_reducible refine (impl_in.calls a1 ((rd_T117 l0 x9_1).f0) ((rd_T117 l0 x9_1).f1) true _ A6.out).mono ?_); rintro e w' ⟨rfl, ⟨nd, rfl⟩⟩; refine ⟨_, rfl, ?_⟩))
              go_ret
              exact ⟨by first | rfl | (simp [errW_none, errW_some] <;> rfl) | (simp [*, errW_none, errW_some] <;> rfl), by repeat (first | (with_reducible first | exact HB.out | apply below_alloc | apply pw_below_drewN | apply below_drew1 | refine below_set ?_ GE230.out) | exact HB.out)⟩
            · replace c7 := Bool.eq_false_iff.mpr c7
              subst c7
              have H1 : (impl_SetHas.l0 k1 a1 l0 (l0.length : Int) (wrap64 (x9_1 + 1))) = some r := by rw [if_neg (show ¬ (false = true) by decide)] at H; exact H
              clear H
              have H := H1
              clear H1
              have H' := Aside0.mk H
              clear H
              have p229 : 0 ≤ (x9_1 : Int) := of_decide_eq_true (by first | (with_reducible assumption) | assumption)
              have q229 : x9_1 < (l0.length : Int) := of_decide_eq_true (by first | (with_reducible assumption) | assumption)
              obtain ⟨ad229, e229, hx229_0, hx229_1⟩ := at_T117 HR0.out x9_1 p229 q229
              cases e229
              replace hx229_0 := (HB.out.cell (World.block_lt_of_cell? w _ hx229_0)).trans hx229_0
              replace hx229_1 := (HB.out.cell (World.block_lt_of_cell? w _ hx229_1)).trans hx229_1
              replace p229 := eq_true p229
              replace q229 := eq_true q229
              go_wp2_with (first | ((with_reducible refine gate_dst (N := 6) rfl ?_); refine box_event ?hg (N := 6) ?hd (cs := #[.int .i64 0, .int .i64 0]) (t := 117) ?hr ?_; (case hd => rfl); (case hg => rfl); (case hr => first | (go_simp; done) | (go_simp; rfl)); intro gb230 hg w10 hbox hb; have n0_ := Aside0.mk (below_step (by repeat (first | (with_reducible first | exact HB.out | apply below_alloc | apply pw_below_drewN | apply below_drew1) | exact HB.out)) hb); have n1_ := Aside0.mk (hbox); have n2_ := Aside0.mk ((by rw [hg]; exact (below_size (by repeat (first | (with_reducible first | exact HB.out | apply below_alloc | apply pw_below_drewN | apply below_drew1) | exact HB.out))) : w.heap.size ≤ gb230)); have n3_ := Aside0.mk ((by rw [hg]; exact (below_size (by repeat (first | (with_reducible first | exact HB.out | apply below_alloc | apply pw_below_drewN | apply below_drew1) | exact HB.out))) : w.heap.size ≤ gb230)); clear HB; have HB := n0_; have BK230 := n1_; have GW230 := n2_; have GE230 := n3_; clear n0_ n1_ n2_ n3_; clear hb hbox hg; have hcz11_0 : w10.cell? ⟨gb230, 0, none⟩ = some (.int .i64 0) := (blk_cell BK230.out 0).trans rfl; have hcz11_1 : w10.cell? ⟨gb230, 1, none⟩ = some (.int .i64 0) := (blk_cell BK230.out 1).trans rfl; have hfz11_0 := blk_frozen BK230.out 0; have hfz11_1 := blk_frozen BK230.out 1) | ((with_reducible refine gate_callee (f := 64) rfl ?_); refine goesL_ (some 18) rfl rfl Try.func64 (by kernel_rfl) rfl #[.int .i64 a1, .int .i64 ((rd_T117 l0 x9_1).f0), .int .i64 ((rd_T117 l0 x9_1).f1)] rfl (by (try simp only [List.map_toArray, List.map_cons, List.map_nil]); first | done | rfl | (simp only [List.length_drop, List.length_take]; rfl)) ?_; (with_reducible refine (impl_in.calls a1 ((rd_T117 l0 x9_1).f0) ((rd_T117 l0 x9_1).f1) false _ A6.out).mono ?_); rintro e w' ⟨rfl, ⟨nd, rfl⟩⟩; refine ⟨_, rfl, ?_⟩))
              go_roundg k1
              case measure => have := HK1.out; omega
              case rel => exact ⟨(wrap64 (x9_1 + 1)), (by first | rfl | (simp; done) | (simp [*]; done)), H', ⟨by have := HK1.out; omega⟩, ⟨by repeat (first | (with_reducible first | exact HB.out | apply below_alloc | apply pw_below_drewN | apply below_drew1 | refine below_set ?_ GE230.out) | exact HB.out)⟩⟩
          · rw [if_neg c5] at H
            exact absurd H (by simp)
        · rw [if_neg c4] at H
          exact absurd H (by simp)
      · rw [if_neg c3] at H
        have c3b0 : decide (x9_1 < (l0.length : Int)) = false := decide_eq_false c3
        clear c3
        obtain rfl := Option.some.inj H
        go_wp2
        go_ret
        exact ⟨by first | rfl | (simp [errW_none, errW_some] <;> rfl) | (simp [*, errW_none, errW_some] <;> rfl), by repeat (first | (with_reducible first | exact HB.out | apply below_alloc | apply pw_below_drewN | apply below_drew1) | exact HB.out)⟩
end Go.Proofs.Ytigmibfacllhmaa.P

set_option linter.unusedVariables false
set_option linter.unusedSimpArgs false
namespace Go.Proofs.Ytigmibfacllhmaa.P
open Go.RowKit Go.Proofs.YtigmibfacllhmaaW.PrintWords Go.Proofs.YtigmibfacllhmaaW.PrintLast Go.Proofs.YtigmibfacllhmaaW.PrintMore Go.Proofs.Ytigmibfacllhmaa.Arr
def impl_bitsOf.l0 : Nat → List S117 → List Bool → Int → Option (List Bool)
  | 0, _, _, _ => none
  | k + 1, s, o, i => if i < 256 then (if 0 ≤ i then ((impl_SetHas.f k s i).bind fun t => impl_bitsOf.l0 k s (setB 256 o i t) (wrap64 (i + 1))) else none) else some o
def impl_bitsOf.f (k : Nat) (l0 : List S117) : Option (List Bool) := impl_bitsOf.l0 k l0 (List.replicate 256 false) 0
theorem impl_bitsOf.mono_l : ∀ k, (∀ y0 y1 y2, LeO (impl_bitsOf.l0 k y0 y1 y2) (impl_bitsOf.l0 (k + 1) y0 y1 y2))
  | 0 => fun _ _ _ r h => by simp [impl_bitsOf.l0] at h
  | k + 1 => by
    have ih0 := impl_bitsOf.mono_l k
    intro y0 y1 y2
    unfold impl_bitsOf.l0
    repeat' first
      | (with_reducible exact ih0 _ _ _)
      | (with_reducible exact impl_SetHas.mono _ _ _)
      | (with_reducible exact LeO.refl _)
      | (with_reducible exact LeO.none _)
      | (with_reducible refine LeO.ite ?_ ?_)
      | (with_reducible refine LeO.bind ?_ (fun _ => ?_))
theorem impl_bitsOf.mono : ∀ a0 k, LeO (impl_bitsOf.f k a0) (impl_bitsOf.f (k + 1) a0) := fun a0 k => impl_bitsOf.mono_l k _ _ _
theorem zeroB : Try.zeroCells125 = cellsB 256 (List.replicate 256 false) := by kernel_rfl
def IsBits (w : World) (g : Nat) (l : List Bool) : Prop := w.heap[g]? = some (.cells (cellsB 256 l) 125 (0, 0))
set_option maxHeartbeats 8000000 in
set_option maxRecDepth 100000 in
theorem impl_bitsOf.calls (k : Nat) (A0 : Option Addr) (c0 : Nat) (l0 : List S117) (r : List Bool) (w : World) (hr0 : Kd.C k117 w A0 l0.length l0) (hc0 : l0.length ≤ c0) (h : impl_bitsOf.f k l0 = some r) :
    Calls Try.prog 106 #[.slice A0 l0.length c0] w fun e w' => e = .returned (.agg (cellsB 256 r)) ∧ Below w.heap.size w w' := by
  have HR0 := Aside0.mk hr0
  have HC0 := Aside0.mk hc0
  clear hr0 hc0
  have H' := Aside0.mk (show impl_bitsOf.l0 k l0 (List.replicate 256 false) 0 = some r from h)
  clear h
  have hsz : w.heap.size + 1 = (w.alloc (.cells Try.zeroCells125 125)).heap.size := by simp
  have HZ := Aside0.mk hsz
  clear hsz
  go_enter Try.func106, Try.ntmps106
  go_wp2
  go_loopg [5] k (fun kq v5 w' => ∃ (x5_1 : Int) (o : List Bool), v5 = .int .i64 x5_1 ∧ Aside0 (impl_bitsOf.l0 kq l0 o x5_1 = some r) ∧ Aside0 (kq ≤ k) ∧ Aside0 (IsBits w' w.heap.size (List.replicate 256 false)) ∧ Aside0 (IsBits w' (w.heap.size + 1) o) ∧ Aside0 (Below w.heap.size w w'))
  case atStart =>
    refine ⟨0, List.replicate 256 false, rfl, H', ⟨Nat.le_refl _⟩, ⟨?_⟩, ⟨?_⟩, ⟨((Below.refl _ _).alloc (Nat.le_refl _) _).alloc (by simp) _⟩⟩
    · refine blk_alloc ?_ _
      show _ = some (Obj.cells _ _ _)
      rw [← zeroB]
      exact blk_new _ _
    · rw [HZ.out]
      show _ = some (Obj.cells _ _ _)
      rw [← zeroB]
      exact blk_new _ _
  case round =>
    clear H'
    obtain ⟨x5_1, o, rfl, HA, HK1, HB0, HB1, HB⟩ := hrel
    cases gk with
    | zero => exact absurd HA.out (by simp [impl_bitsOf.l0])
    | succ k1 =>
      have H := HA.out
      clear HA
      simp only [impl_bitsOf.l0] at H
      by_cases c2 : x5_1 < 256
      · rw [if_pos c2] at H
        have c2b0 : decide (x5_1 < 256) = true := decide_eq_true c2
        by_cases c3 : 0 ≤ x5_1
        · rw [if_pos c3] at H
          have c3b0 : decide (0 ≤ x5_1) = true := decide_eq_true c3
          replace H := Option.bind_eq_some_iff.mp H
          obtain ⟨t1, A30, H⟩ := H
          have A3 := Aside0.mk A30
          have H' := Aside0.mk H
          clear A30 H
          have hc1 := cell_arr HB1.out x5_1 c3 c2
          have hf1 := blk_frozen HB1.out x5_1.toNat
          have p2 := eq_true c2
          have p3 := eq_true c3
          clear c2 c3
          go_wp2_with (first | ((with_reducible refine gate_callee (f := 135) rfl ?_); refine goesL_ (some 11) rfl rfl Try.func135 (by kernel_rfl) rfl #[.slice A0 l0.length c0, .int .i64 x5_1] rfl (by (try simp only [List.map_toArray, List.map_cons, List.map_nil]); first | done | rfl) ?_; (with_reducible refine (impl_SetHas.calls k1 _ _ l0 x5_1 t1 _ ?side1 ?side2 A3.out).mono ?_); (case side1 => exact Kd.C_below HR0.out HB.out); (case side2 => exact HC0.out); rintro e w1 ⟨rfl, hb1⟩; refine ⟨_, rfl, ?_⟩; have HB0' : Aside0 (IsBits w1 _ _) := ⟨blk_below HB0.out hb1⟩; have HB1' : Aside0 (IsBits w1 _ _) := ⟨blk_below HB1.out hb1⟩; have HBn := Aside0.mk (below_step HB.out hb1); have hc2 := cell_arr HB1'.out x5_1 (of_decide_eq_true c3b0) (of_decide_eq_true c2b0); have hf2 := blk_frozen HB1'.out x5_1.toNat; clear HB0 HB1 HB hb1 hc1 hf1))
          go_roundg k1
          case measure => have := HK1.out; omega
          case rel =>
            have h0 : 0 ≤ x5_1 := of_decide_eq_true c3b0
            have h1 : x5_1 < 256 := of_decide_eq_true c2b0
            refine ⟨wrap64 (x5_1 + 1), setB 256 o x5_1 t1, rfl, H', ⟨by have := HK1.out; omega⟩, ⟨blk_far HB0'.out (by simp) _⟩, ⟨put_arr HB1'.out x5_1 t1⟩, ⟨below_set HBn.out (Nat.le_succ _)⟩⟩
        · rw [if_neg c3] at H
          cases H
      · rw [if_neg c2] at H
        have c2b0 : decide (x5_1 < 256) = false := decide_eq_false c2
        clear c2
        obtain rfl := Option.some.inj H
        go_wp2_with (first | ((with_reducible refine gate_dst (N := 14) rfl ?_); refine wpList_load_row rfl 125 (.tmp 3) rfl (w.heap.size + 1) rfl 125 (cellsB 256 o) (0, 0) _ HB1.out Try.underlying125 rfl (by rw [size_cellsB]; kernel_rfl) ?_) | ((with_reducible refine gate_store (t := 125) (p := 2) rfl ?_); refine wpList_store_row rfl 125 (.tmp 2) (.tmp 14) rfl w.heap.size (cellsB 256 o) rfl rfl 125 _ HB0.out (by rw [size_cellsB]; kernel_rfl) (by rw [size_cellsB, size_cellsB]) (one_cellsB _ _) ?_; have HR : Aside0 (_ = some (Obj.cells (cellsB 256 o) _ _)) := ⟨row_here HB0.out (cellsB 256 o)⟩; have HB' := Aside0.mk (below_row HB.out HB0.out (Nat.le_refl _) (cellsB 256 o)); clear HB0 HB1 HB))
        exact bodyPost_ret (v := .agg (cellsB 256 o)) (results_cell_row rfl _ _ w.heap.size 125 (cellsB 256 o) (0, 0) _ rfl HR.out Try.underlying125 rfl (by rw [size_cellsB]; kernel_rfl)) rfl ⟨rfl, HB'.out⟩
end Go.Proofs.Ytigmibfacllhmaa.P

namespace Go.Proofs.Ytigmibfacllhmaa.P
open Go.RowKit Go.Proofs.YtigmibfacllhmaaW.PrintWords Go.Proofs.YtigmibfacllhmaaW.PrintLast Go.Proofs.YtigmibfacllhmaaW.PrintMore
attribute [local go_sem] max2_int min2_int max_two min_two max_three min_three max_four min_four   -- for this text's walks alone
set_option linter.unusedVariables false
set_option linter.unusedSimpArgs false
open Go.Proofs.Ytigmibfacllhmaa.Arr
mutual
def impl_DfaOk.l0 : Nat → Int → Int → List (List (S117)) → Int → Int → List (List (S117)) → List (List Int) → List Int → List Bool → Option (Bool)
  | 0, _, _, _, _, _, _, _, _, _ => none
  | k + 1, x4, x5, x15, x16, x17, x233000, x233001, x233002, x234000 => if x17 < x16 then (if 0 ≤ x17 then (if x17 < (x15.length : Int) then ((impl_SetOk.f k (rd_L6 x15 x17)).bind fun t235 => (if t235 = true then (if ((rd_L6 x15 x17).length : Int) = 0 then (impl_DfaOk.j1 k x5 (rd_L6 x15 x17) x15 x16 x17 true x233000 x233001 x233002 x234000) else (if 0 < ((rd_L6 x15 x17).length : Int) then (impl_DfaOk.j1 k x5 (rd_L6 x15 x17) x15 x16 x17 (decide (((rd_T117 (rd_L6 x15 x17) 0).f0) ≤ x4)) x233000 x233001 x233002 x234000) else (none))) else (impl_DfaOk.j1 k x5 (rd_L6 x15 x17) x15 x16 x17 true x233000 x233001 x233002 x234000))) else (none)) else (none)) else (if x5 = 256 then ((impl_in.f (x233001.length : Int) 1 40).bind fun t241 => (if t241 = true then (impl_DfaOk.j4 k ((x233002.length : Int) != (x233001.length : Int)) x233000 x233001 x233002) else (impl_DfaOk.j4 k true x233000 x233001 x233002))) else (impl_DfaOk.j4 k true x233000 x233001 x233002))
def impl_DfaOk.j1 : Nat → Int → List (S117) → List (List (S117)) → Int → Int → Bool → List (List (S117)) → List (List Int) → List Int → List Bool → Option (Bool)
  | 0, _, _, _, _, _, _, _, _, _, _ => none
  | k + 1, x5, x7, x15, x16, x17, x36, x233000, x233001, x233002, x234000 => if x36 = true then (some false) else (if 0 < (x7.length : Int) then ((impl_bitsOf.f k x7).bind fun t238 => (impl_DfaOk.l1 k ((rd_T117 x7 0).f0) x5 x15 x16 x17 t238 0 x233000 x233001 x233002 x234000)) else (none))
def impl_DfaOk.l1 : Nat → Int → Int → List (List (S117)) → Int → Int → List Bool → Int → List (List (S117)) → List (List Int) → List Int → List Bool → Option (Bool)
  | 0, _, _, _, _, _, _, _, _, _, _, _ => none
  | k + 1, x4, x5, x15, x16, x17, x42, x43, x233000, x233001, x233002, x234000 => if x43 < 256 then (if 0 ≤ x43 then (if getB x42 x43 = true then (impl_DfaOk.j3 k x4 x5 x43 (getB x42 x43) x15 x16 x17 x42 x43 (getB x234000 x43) x233000 x233001 x233002 x234000) else (impl_DfaOk.j3 k x4 x5 x43 (getB x42 x43) x15 x16 x17 x42 x43 false x233000 x233001 x233002 x234000)) else (none)) else (impl_DfaOk.l0 k x4 x5 x15 x16 (wrap64 (x17 + 1)) x233000 x233001 x233002 x234000)
def impl_DfaOk.j3 : Nat → Int → Int → Int → Bool → List (List (S117)) → Int → Int → List Bool → Int → Bool → List (List (S117)) → List (List Int) → List Int → List Bool → Option (Bool)
  | 0, _, _, _, _, _, _, _, _, _, _, _, _, _, _ => none
  | k + 1, x4, x5, x8, x9, x15, x16, x17, x42, x43, x52, x233000, x233001, x233002, x234000 => if x52 = true then (some false) else (if x9 = true then (if 0 ≤ x8 then (if x8 < 256 then (impl_DfaOk.l1 k x4 (wrap64 (x5 + 1)) x15 x16 x17 x42 (wrap64 (x43 + 1)) x233000 x233001 x233002 (setB 256 x234000 x8 true)) else (none)) else (none)) else (impl_DfaOk.l1 k x4 x5 x15 x16 x17 x42 (wrap64 (x43 + 1)) x233000 x233001 x233002 x234000))
def impl_DfaOk.j4 : Nat → Bool → List (List (S117)) → List (List Int) → List Int → Option (Bool)
  | 0, _, _, _, _ => none
  | k + 1, x77, x233000, x233001, x233002 => if x77 = true then (some false) else (impl_DfaOk.l2 k x233001 (x233001.length : Int) 0 x233000 x233001 x233002)
def impl_DfaOk.l2 : Nat → List (List Int) → Int → Int → List (List (S117)) → List (List Int) → List Int → Option (Bool)
  | 0, _, _, _, _, _, _ => none
  | k + 1, x79, x80, x81, x233000, x233001, x233002 => if x81 < x80 then (if 0 ≤ x81 then (if x81 < (x79.length : Int) then (if ((rd_L3 x79 x81).length : Int) = (x233000.length : Int) then (if x81 < (x233002.length : Int) then ((impl_in.f (rd x233002 x81) (-1) 4).bind fun t244 => (impl_DfaOk.j6 k (rd_L3 x79 x81) x79 x80 x81 (!t244) x233000 x233001 x233002)) else (none)) else (impl_DfaOk.j6 k (rd_L3 x79 x81) x79 x80 x81 true x233000 x233001 x233002)) else (none)) else (none)) else (some true)
def impl_DfaOk.j6 : Nat → List Int → List (List Int) → Int → Int → Bool → List (List (S117)) → List (List Int) → List Int → Option (Bool)
  | 0, _, _, _, _, _, _, _, _ => none
  | k + 1, x11, x79, x80, x81, x100, x233000, x233001, x233002 => if x100 = true then (some false) else (impl_DfaOk.l3 k x79 x80 x81 x11 (x11.length : Int) 0 x233000 x233001 x233002)
def impl_DfaOk.l3 : Nat → List (List Int) → Int → Int → List Int → Int → Int → List (List (S117)) → List (List Int) → List Int → Option (Bool)
  | 0, _, _, _, _, _, _, _, _, _ => none
  | k + 1, x79, x80, x81, x101, x102, x103, x233000, x233001, x233002 => if x103 < x102 then (if 0 ≤ x103 then (if x103 < (x101.length : Int) then ((impl_in.f (rd x101 x103) (-1) (wrap64 ((x233001.length : Int) - 1))).bind fun t246 => (if t246 = true then (impl_DfaOk.l3 k x79 x80 x81 x101 x102 (wrap64 (x103 + 1)) x233000 x233001 x233002) else (some false))) else (none)) else (none)) else (impl_DfaOk.l2 k x79 x80 (wrap64 (x81 + 1)) x233000 x233001 x233002)
end
def impl_DfaOk.f (k : Nat) (l0_0 : List (List (S117))) (l0_1 : List (List Int)) (l0_2 : List Int) : Option (Bool) := impl_DfaOk.l0 k (-1) 0 l0_0 (l0_0.length : Int) 0 l0_0 l0_1 l0_2 (List.replicate 256 false)
theorem impl_DfaOk.mono_l : ∀ k, (∀ y0 y1 y2 y3 y4 y5 y6 y7 y8, LeO (impl_DfaOk.l0 k y0 y1 y2 y3 y4 y5 y6 y7 y8) (impl_DfaOk.l0 (k + 1) y0 y1 y2 y3 y4 y5 y6 y7 y8)) ∧ (∀ y0 y1 y2 y3 y4 y5 y6 y7 y8 y9, LeO (impl_DfaOk.j1 k y0 y1 y2 y3 y4 y5 y6 y7 y8 y9) (impl_DfaOk.j1 (k + 1) y0 y1 y2 y3 y4 y5 y6 y7 y8 y9)) ∧ (∀ y0 y1 y2 y3 y4 y5 y6 y7 y8 y9 y10, LeO (impl_DfaOk.l1 k y0 y1 y2 y3 y4 y5 y6 y7 y8 y9 y10) (impl_DfaOk.l1 (k + 1) y0 y1 y2 y3 y4 y5 y6 y7 y8 y9 y10)) ∧ (∀ y0 y1 y2 y3 y4 y5 y6 y7 y8 y9 y10 y11 y12 y13, LeO (impl_DfaOk.j3 k y0 y1 y2 y3 y4 y5 y6 y7 y8 y9 y10 y11 y12 y13) (impl_DfaOk.j3 (k + 1) y0 y1 y2 y3 y4 y5 y6 y7 y8 y9 y10 y11 y12 y13)) ∧ (∀ y0 y1 y2 y3, LeO (impl_DfaOk.j4 k y0 y1 y2 y3) (impl_DfaOk.j4 (k + 1) y0 y1 y2 y3)) ∧ (∀ y0 y1 y2 y3 y4 y5, LeO (impl_DfaOk.l2 k y0 y1 y2 y3 y4 y5) (impl_DfaOk.l2 (k + 1) y0 y1 y2 y3 y4 y5)) ∧ (∀ y0 y1 y2 y3 y4 y5 y6 y7, LeO (impl_DfaOk.j6 k y0 y1 y2 y3 y4 y5 y6 y7) (impl_DfaOk.j6 (k + 1) y0 y1 y2 y3 y4 y5 y6 y7)) ∧ (∀ y0 y1 y2 y3 y4 y5 y6 y7 y8, LeO (impl_DfaOk.l3 k y0 y1 y2 y3 y4 y5 y6 y7 y8) (impl_DfaOk.l3 (k + 1) y0 y1 y2 y3 y4 y5 y6 y7 y8))
  | 0 => ⟨fun _ _ _ _ _ _ _ _ _ r h => by simp [impl_DfaOk.l0] at h, fun _ _ _ _ _ _ _ _ _ _ r h => by simp [impl_DfaOk.j1] at h, fun _ _ _ _ _ _ _ _ _ _ _ r h => by simp [impl_DfaOk.l1] at h, fun _ _ _ _ _ _ _ _ _ _ _ _ _ _ r h => by simp [impl_DfaOk.j3] at h, fun _ _ _ _ r h => by simp [impl_DfaOk.j4] at h, fun _ _ _ _ _ _ r h => by simp [impl_DfaOk.l2] at h, fun _ _ _ _ _ _ _ _ r h => by simp [impl_DfaOk.j6] at h, fun _ _ _ _ _ _ _ _ _ r h => by simp [impl_DfaOk.l3] at h⟩
  | k + 1 => by
    obtain ⟨ih0, ih1, ih2, ih3, ih4, ih5, ih6, ih7⟩ := impl_DfaOk.mono_l k
    refine ⟨?_, ?_, ?_, ?_, ?_, ?_, ?_, ?_⟩
    · intro y0 y1 y2 y3 y4 y5 y6 y7 y8
      unfold impl_DfaOk.l0
      repeat' first
      | (with_reducible exact ih0 _ _ _ _ _ _ _ _ _)
      | (with_reducible exact ih1 _ _ _ _ _ _ _ _ _ _)
      | (with_reducible exact ih2 _ _ _ _ _ _ _ _ _ _ _)
      | (with_reducible exact ih3 _ _ _ _ _ _ _ _ _ _ _ _ _ _)
      | (with_reducible exact ih4 _ _ _ _)
      | (with_reducible exact ih5 _ _ _ _ _ _)
      | (with_reducible exact ih6 _ _ _ _ _ _ _ _)
      | (with_reducible exact ih7 _ _ _ _ _ _ _ _ _)
      | (with_reducible exact impl_SetOk.mono _ _)
      | (with_reducible exact impl_bitsOf.mono _ _)
      | (with_reducible exact LeO.refl _)
      | (with_reducible exact LeO.none _)
      | (with_reducible refine LeO.ite ?_ ?_)
      | (with_reducible refine LeO.bind ?_ (fun _ => ?_))
      | exact ih0 _ _ _ _ _ _ _ _ _
      | exact ih1 _ _ _ _ _ _ _ _ _ _
      | exact ih2 _ _ _ _ _ _ _ _ _ _ _
      | exact ih3 _ _ _ _ _ _ _ _ _ _ _ _ _ _
      | exact ih4 _ _ _ _
      | exact ih5 _ _ _ _ _ _
      | exact ih6 _ _ _ _ _ _ _ _
      | exact ih7 _ _ _ _ _ _ _ _ _
      | exact impl_SetOk.mono _ _
      | exact impl_bitsOf.mono _ _
      | exact LeO.none _
      | refine LeO.ite ?_ ?_
      | refine LeO.bind ?_ (fun _ => ?_)
    · intro y0 y1 y2 y3 y4 y5 y6 y7 y8 y9
      unfold impl_DfaOk.j1
      repeat' first
      | (with_reducible exact ih0 _ _ _ _ _ _ _ _ _)
      | (with_reducible exact ih1 _ _ _ _ _ _ _ _ _ _)
      | (with_reducible exact ih2 _ _ _ _ _ _ _ _ _ _ _)
      | (with_reducible exact ih3 _ _ _ _ _ _ _ _ _ _ _ _ _ _)
      | (with_reducible exact ih4 _ _ _ _)
      | (with_reducible exact ih5 _ _ _ _ _ _)
      | (with_reducible exact ih6 _ _ _ _ _ _ _ _)
      | (with_reducible exact ih7 _ _ _ _ _ _ _ _ _)
      | (with_reducible exact impl_SetOk.mono _ _)
      | (with_reducible exact impl_bitsOf.mono _ _)
      | (with_reducible exact LeO.refl _)
      | (with_reducible exact LeO.none _)
      | (with_reducible refine LeO.ite ?_ ?_)
      | (with_reducible refine LeO.bind ?_ (fun _ => ?_))
      | exact ih0 _ _ _ _ _ _ _ _ _
      | exact ih1 _ _ _ _ _ _ _ _ _ _
      | exact ih2 _ _ _ _ _ _ _ _ _ _ _
      | exact ih3 _ _ _ _ _ _ _ _ _ _ _ _ _ _
      | exact ih4 _ _ _ _
      | exact ih5 _ _ _ _ _ _
      | exact ih6 _ _ _ _ _ _ _ _
      | exact ih7 _ _ _ _ _ _ _ _ _
      | exact impl_SetOk.mono _ _
      | exact impl_bitsOf.mono _ _
      | exact LeO.none _
      | refine LeO.ite ?_ ?_
      | refine LeO.bind ?_ (fun _ => ?_)
    · intro y0 y1 y2 y3 y4 y5 y6 y7 y8 y9 y10
      unfold impl_DfaOk.l1
      repeat' first
      | (with_reducible exact ih0 _ _ _ _ _ _ _ _ _)
      | (with_reducible exact ih1 _ _ _ _ _ _ _ _ _ _)
      | (with_reducible exact ih2 _ _ _ _ _ _ _ _ _ _ _)
      | (with_reducible exact ih3 _ _ _ _ _ _ _ _ _ _ _ _ _ _)
      | (with_reducible exact ih4 _ _ _ _)
      | (with_reducible exact ih5 _ _ _ _ _ _)
      | (with_reducible exact ih6 _ _ _ _ _ _ _ _)
      | (with_reducible exact ih7 _ _ _ _ _ _ _ _ _)
      | (with_reducible exact impl_SetOk.mono _ _)
      | (with_reducible exact impl_bitsOf.mono _ _)
      | (with_reducible exact LeO.refl _)
      | (with_reducible exact LeO.none _)
      | (with_reducible refine LeO.ite ?_ ?_)
      | (with_reducible refine LeO.bind ?_ (fun _ => ?_))
      | exact ih0 _ _ _ _ _ _ _ _ _
      | exact ih1 _ _ _ _ _ _ _ _ _ _
      | exact ih2 _ _ _ _ _ _ _ _ _ _ _
      | exact ih3 _ _ _ _ _ _ _ _ _ _ _ _ _ _
      | exact ih4 _ _ _ _
      | exact ih5 _ _ _ _ _ _
      | exact ih6 _ _ _ _ _ _ _ _
      | exact ih7 _ _ _ _ _ _ _ _ _
      | exact impl_SetOk.mono _ _
      | exact impl_bitsOf.mono _ _
      | exact LeO.none _
      | refine LeO.ite ?_ ?_
      | refine LeO.bind ?_ (fun _ => ?_)
    · intro y0 y1 y2 y3 y4 y5 y6 y7 y8 y9 y10 y11 y12 y13
      unfold impl_DfaOk.j3
      repeat' first
      | (with_reducible exact ih0 _ _ _ _ _ _ _ _ _)
      | (with_reducible exact ih1 _ _ _ _ _ _ _ _ _ _)
      | (with_reducible exact ih2 _ _ _ _ _ _ _ _ _ _ _)
      | (with_reducible exact ih3 _ _ _ _ _ _ _ _ _ _ _ _ _ _)
      | (with_reducible exact ih4 _ _ _ _)
      | (with_reducible exact ih5 _ _ _ _ _ _)
      | (with_reducible exact ih6 _ _ _ _ _ _ _ _)
      | (with_reducible exact ih7 _ _ _ _ _ _ _ _ _)
      | (with_reducible exact impl_SetOk.mono _ _)
      | (with_reducible exact impl_bitsOf.mono _ _)
      | (with_reducible exact LeO.refl _)
      | (with_reducible exact LeO.none _)
      | (with_reducible refine LeO.ite ?_ ?_)
      | (with_reducible refine LeO.bind ?_ (fun _ => ?_))
      | exact ih0 _ _ _ _ _ _ _ _ _
      | exact ih1 _ _ _ _ _ _ _ _ _ _
      | exact ih2 _ _ _ _ _ _ _ _ _ _ _
      | exact ih3 _ _ _ _ _ _ _ _ _ _ _ _ _ _
      | exact ih4 _ _ _ _
      | exact ih5 _ _ _ _ _ _
      | exact ih6 _ _ _ _ _ _ _ _
      | exact ih7 _ _ _ _ _ _ _ _ _
      | exact impl_SetOk.mono _ _
      | exact impl_bitsOf.mono _ _
      | exact LeO.none _
      | refine LeO.ite ?_ ?_
      | refine LeO.bind ?_ (fun _ => ?_)
    · intro y0 y1 y2 y3
      unfold impl_DfaOk.j4
      repeat' first
      | (with_reducible exact ih0 _ _ _ _ _ _ _ _ _)
      | (with_reducible exact ih1 _ _ _ _ _ _ _ _ _ _)
      | (with_reducible exact ih2 _ _ _ _ _ _ _ _ _ _ _)
      | (with_reducible exact ih3 _ _ _ _ _ _ _ _ _ _ _ _ _ _)
      | (with_reducible exact ih4 _ _ _ _)
      | (with_reducible exact ih5 _ _ _ _ _ _)
      | (with_reducible exact ih6 _ _ _ _ _ _ _ _)
      | (with_reducible exact ih7 _ _ _ _ _ _ _ _ _)
      | (with_reducible exact impl_SetOk.mono _ _)
      | (with_reducible exact impl_bitsOf.mono _ _)
      | (with_reducible exact LeO.refl _)
      | (with_reducible exact LeO.none _)
      | (with_reducible refine LeO.ite ?_ ?_)
      | (with_reducible refine LeO.bind ?_ (fun _ => ?_))
      | exact ih0 _ _ _ _ _ _ _ _ _
      | exact ih1 _ _ _ _ _ _ _ _ _ _
      | exact ih2 _ _ _ _ _ _ _ _ _ _ _
      | exact ih3 _ _ _ _ _ _ _ _ _ _ _ _ _ _
      | exact ih4 _ _ _ _
      | exact ih5 _ _ _ _ _ _
      | exact ih6 _ _ _ _ _ _ _ _
      | exact ih7 _ _ _ _ _ _ _ _ _
      | exact impl_SetOk.mono _ _
      | exact impl_bitsOf.mono _ _
      | exact LeO.none _
      | refine LeO.ite ?_ ?_
      | refine LeO.bind ?_ (fun _ => ?_)
    · intro y0 y1 y2 y3 y4 y5
      unfold impl_DfaOk.l2
      repeat' first
      | (with_reducible exact ih0 _ _ _ _ _ _ _ _ _)
      | (with_reducible exact ih1 _ _ _ _ _ _ _ _ _ _)
      | (with_reducible exact ih2 _ _ _ _ _ _ _ _ _ _ _)
      | (with_reducible exact ih3 _ _ _ _ _ _ _ _ _ _ _ _ _ _)
      | (with_reducible exact ih4 _ _ _ _)
      | (with_reducible exact ih5 _ _ _ _ _ _)
      | (with_reducible exact ih6 _ _ _ _ _ _ _ _)
      | (with_reducible exact ih7 _ _ _ _ _ _ _ _ _)
      | (with_reducible exact impl_SetOk.mono _ _)
      | (with_reducible exact impl_bitsOf.mono _ _)
      | (with_reducible exact LeO.refl _)
      | (with_reducible exact LeO.none _)
      | (with_reducible refine LeO.ite ?_ ?_)
      | (with_reducible refine LeO.bind ?_ (fun _ => ?_))
      | exact ih0 _ _ _ _ _ _ _ _ _
      | exact ih1 _ _ _ _ _ _ _ _ _ _
      | exact ih2 _ _ _ _ _ _ _ _ _ _ _
      | exact ih3 _ _ _ _ _ _ _ _ _ _ _ _ _ _
      | exact ih4 _ _ _ _
      | exact ih5 _ _ _ _ _ _
      | exact ih6 _ _ _ _ _ _ _ _
      | exact ih7 _ _ _ _ _ _ _ _ _
      | exact impl_SetOk.mono _ _
      | exact impl_bitsOf.mono _ _
      | exact LeO.none _
      | refine LeO.ite ?_ ?_
      | refine LeO.bind ?_ (fun _ => ?_)
    · intro y0 y1 y2 y3 y4 y5 y6 y7
      unfold impl_DfaOk.j6
      repeat' first
      | (with_reducible exact ih0 _ _ _ _ _ _ _ _ _)
      | (with_reducible exact ih1 _ _ _ _ _ _ _ _ _ _)
      | (with_reducible exact ih2 _ _ _ _ _ _ _ _ _ _ _)
      | (with_reducible exact ih3 _ _ _ _ _ _ _ _ _ _ _ _ _ _)
      | (with_reducible exact ih4 _ _ _ _)
      | (with_reducible exact ih5 _ _ _ _ _ _)
      | (with_reducible exact ih6 _ _ _ _ _ _ _ _)
      | (with_reducible exact ih7 _ _ _ _ _ _ _ _ _)
      | (with_reducible exact impl_SetOk.mono _ _)
      | (with_reducible exact impl_bitsOf.mono _ _)
      | (with_reducible exact LeO.refl _)
      | (with_reducible exact LeO.none _)
      | (with_reducible refine LeO.ite ?_ ?_)
      | (with_reducible refine LeO.bind ?_ (fun _ => ?_))
      | exact ih0 _ _ _ _ _ _ _ _ _
      | exact ih1 _ _ _ _ _ _ _ _ _ _
      | exact ih2 _ _ _ _ _ _ _ _ _ _ _
      | exact ih3 _ _ _ _ _ _ _ _ _ _ _ _ _ _
      | exact ih4 _ _ _ _
      | exact ih5 _ _ _ _ _ _
      | exact ih6 _ _ _ _ _ _ _ _
      | exact ih7 _ _ _ _ _ _ _ _ _
      | exact impl_SetOk.mono _ _
      | exact impl_bitsOf.mono _ _
      | exact LeO.none _
      | refine LeO.ite ?_ ?_
      | refine LeO.bind ?_ (fun _ => ?_)
    · intro y0 y1 y2 y3 y4 y5 y6 y7 y8
      unfold impl_DfaOk.l3
      repeat' first
      | (with_reducible exact ih0 _ _ _ _ _ _ _ _ _)
      | (with_reducible exact ih1 _ _ _ _ _ _ _ _ _ _)
      | (with_reducible exact ih2 _ _ _ _ _ _ _ _ _ _ _)
      | (with_reducible exact ih3 _ _ _ _ _ _ _ _ _ _ _ _ _ _)
      | (with_reducible exact ih4 _ _ _ _)
      | (with_reducible exact ih5 _ _ _ _ _ _)
      | (with_reducible exact ih6 _ _ _ _ _ _ _ _)
      | (with_reducible exact ih7 _ _ _ _ _ _ _ _ _)
      | (with_reducible exact impl_SetOk.mono _ _)
      | (with_reducible exact impl_bitsOf.mono _ _)
      | (with_reducible exact LeO.refl _)
      | (with_reducible exact LeO.none _)
      | (with_reducible refine LeO.ite ?_ ?_)
      | (with_reducible refine LeO.bind ?_ (fun _ => ?_))
      | exact ih0 _ _ _ _ _ _ _ _ _
      | exact ih1 _ _ _ _ _ _ _ _ _ _
      | exact ih2 _ _ _ _ _ _ _ _ _ _ _
      | exact ih3 _ _ _ _ _ _ _ _ _ _ _ _ _ _
      | exact ih4 _ _ _ _
      | exact ih5 _ _ _ _ _ _
      | exact ih6 _ _ _ _ _ _ _ _
      | exact ih7 _ _ _ _ _ _ _ _ _
      | exact impl_SetOk.mono _ _
      | exact impl_bitsOf.mono _ _
      | exact LeO.none _
      | refine LeO.ite ?_ ?_
      | refine LeO.bind ?_ (fun _ => ?_)
theorem impl_DfaOk.mono : ∀ a0 a1 a2 k, LeO (impl_DfaOk.f k a0 a1 a2) (impl_DfaOk.f (k + 1) a0 a1 a2) := by
  intro a0 a1 a2 k
  obtain ⟨ih0, ih1, ih2, ih3, ih4, ih5, ih6, ih7⟩ := impl_DfaOk.mono_l k
  unfold impl_DfaOk.f
  repeat' first
      | (with_reducible exact ih0 _ _ _ _ _ _ _ _ _)
      | (with_reducible exact ih1 _ _ _ _ _ _ _ _ _ _)
      | (with_reducible exact ih2 _ _ _ _ _ _ _ _ _ _ _)
      | (with_reducible exact ih3 _ _ _ _ _ _ _ _ _ _ _ _ _ _)
      | (with_reducible exact ih4 _ _ _ _)
      | (with_reducible exact ih5 _ _ _ _ _ _)
      | (with_reducible exact ih6 _ _ _ _ _ _ _ _)
      | (with_reducible exact ih7 _ _ _ _ _ _ _ _ _)
      | (with_reducible exact impl_SetOk.mono _ _)
      | (with_reducible exact impl_bitsOf.mono _ _)
      | (with_reducible exact LeO.refl _)
      | (with_reducible exact LeO.none _)
      | (with_reducible refine LeO.ite ?_ ?_)
      | (with_reducible refine LeO.bind ?_ (fun _ => ?_))
      | exact ih0 _ _ _ _ _ _ _ _ _
      | exact ih1 _ _ _ _ _ _ _ _ _ _
      | exact ih2 _ _ _ _ _ _ _ _ _ _ _
      | exact ih3 _ _ _ _ _ _ _ _ _ _ _ _ _ _
      | exact ih4 _ _ _ _
      | exact ih5 _ _ _ _ _ _
      | exact ih6 _ _ _ _ _ _ _ _
      | exact ih7 _ _ _ _ _ _ _ _ _
      | exact impl_SetOk.mono _ _
      | exact impl_bitsOf.mono _ _
      | exact LeO.none _
      | refine LeO.ite ?_ ?_
      | refine LeO.bind ?_ (fun _ => ?_)
set_option maxHeartbeats 8000000 in
set_option maxRecDepth 100000 in
theorem impl_DfaOk.calls (k : Nat) (A0_0 : Option Addr) (c0_0 : Nat) (l0_0 : List (List (S117))) (A0_1 : Option Addr) (c0_1 : Nat) (l0_1 : List (List Int)) (A0_2 : Option Addr) (c0_2 : Nat) (l0_2 : List Int) (r : Bool) (w : World) (hr0_0 : Kd.C (Kd.slice 117 k117) w A0_0 l0_0.length l0_0) (hc0_0 : l0_0.length ≤ c0_0) (hr0_1 : Kd.C (Kd.slice 3 (Kd.int .i64)) w A0_1 l0_1.length l0_1) (hc0_1 : l0_1.length ≤ c0_1) (hr0_2 : Kd.C (Kd.int .i64) w A0_2 l0_2.length l0_2) (hc0_2 : l0_2.length ≤ c0_2) (h : impl_DfaOk.f k l0_0 l0_1 l0_2 = some r) :
    Calls Try.prog 59 #[.agg #[.slice A0_0 l0_0.length c0_0, .slice A0_1 l0_1.length c0_1, .slice A0_2 l0_2.length c0_2]] w fun e w' => e = .returned (.bool r) ∧ Below w.heap.size w w' := by
  have hu31 := Try.underlying31
  have HR0_0 := Aside0.mk hr0_0
  have HC0_0 := Aside0.mk hc0_0
  clear hr0_0 hc0_0
  have HR0_1 := Aside0.mk hr0_1
  have HC0_1 := Aside0.mk hc0_1
  clear hr0_1 hc0_1
  have HR0_2 := Aside0.mk hr0_2
  have HC0_2 := Aside0.mk hc0_2
  clear hr0_2 hc0_2
  have HB := Aside0.mk (Below.refl w.heap.size w)
  have H : (impl_DfaOk.l0 k (-1) 0 l0_0 (l0_0.length : Int) 0 l0_0 l0_1 l0_2 (List.replicate 256 false)) = some r := h
  clear h
  have H' := Aside0.mk H
  clear H
  go_enter Try.func59, Try.ntmps59
  go_wp2_with (first | ((with_reducible refine gate_dst (N := 1) rfl ?_); (try (refine gate_guard (by rfl) ?_; dsimp only)); refine box_event ?hg (N := 1) ?hd (cs := #[.slice A0_0 l0_0.length c0_0, .slice A0_1 l0_1.length c0_1, .slice A0_2 l0_2.length c0_2]) (t := 31) ?hr ?_; (case hd => rfl); (case hg => rfl); (case hr => first | (go_simp; done) | (go_simp; rfl)); intro gb232 hg w2 hbox hb; have n0_ := Aside0.mk (below_step (by repeat (first | (with_reducible first | exact HB.out | apply below_alloc | apply pw_below_drewN | apply below_drew1) | exact HB.out)) hb); have n1_ := Aside0.mk (hbox); have n2_ := Aside0.mk ((by rw [hg]; exact (below_size (by repeat (first | (with_reducible first | exact HB.out | apply below_alloc | apply pw_below_drewN | apply below_drew1) | exact HB.out))) : w.heap.size ≤ gb232)); have n3_ := Aside0.mk ((by rw [hg]; exact (below_size (by repeat (first | (with_reducible first | exact HB.out | apply below_alloc | apply pw_below_drewN | apply below_drew1) | exact HB.out))) : w.heap.size ≤ gb232)); clear HB; have HB := n0_; have BK232 := n1_; have GW232 := n2_; have GE232 := n3_; clear n0_ n1_ n2_ n3_; clear hb hbox hg) | ((with_reducible refine gate_dst (N := 3) rfl ?_); (try (refine gate_guard (by rfl) ?_; dsimp only)); refine box_event ?hg (N := 3) ?hd (cs := cellsB 256 (List.replicate 256 false)) (t := 125) ?hr ?_; (case hd => rfl); (case hg => rfl); (case hr => first | (go_simp; done) | (go_simp; rfl) | (go_simp; rw [show Try.zeroCells125 = cellsB 256 (List.replicate 256 false) from by kernel_rfl]; done) | (go_simp; rw [show Try.zeroCells125 = cellsB 256 (List.replicate 256 false) from by kernel_rfl]; rfl)); intro gb233 hg w3 hbox hb; have n0_ := Aside0.mk (blk_below (g := gb232) (o := .cells #[.slice A0_0 l0_0.length c0_0, .slice A0_1 l0_1.length c0_1, .slice A0_2 l0_2.length c0_2] 31 (0, 0)) (by (with_reducible repeat (first | refine blk_drewN ?_ _ | refine blk_drew ?_ | refine blk_alloc ?_ _)); exact BK232.out) hb); have n1_ := Aside0.mk (below_step (by repeat (first | (with_reducible first | exact HB.out | apply below_alloc | apply pw_below_drewN | apply below_drew1 | refine below_set ?_ GE232.out) | exact HB.out)) hb); have n2_ := Aside0.mk (hbox); have n3_ := Aside0.mk ((by rw [hg]; exact (below_size (by repeat (first | (with_reducible first | exact HB.out | apply below_alloc | apply pw_below_drewN | apply below_drew1 | refine below_set ?_ GE232.out) | exact HB.out))) : w.heap.size ≤ gb233)); have n4_ := Aside0.mk ((by rw [hg]; exact (below_size (by repeat (first | (with_reducible first | exact HB.out | apply below_alloc | apply pw_below_drewN | apply below_drew1 | refine below_set ?_ GE232.out) | exact HB.out))) : w.heap.size ≤ gb233)); have n5_ := Aside0.mk ((by rw [hg]; exact Nat.ne_of_lt (blk_lt (g := gb232) (o := .cells #[.slice A0_0 l0_0.length c0_0, .slice A0_1 l0_1.length c0_1, .slice A0_2 l0_2.length c0_2] 31 (0, 0)) (by (with_reducible repeat (first | refine blk_drewN ?_ _ | refine blk_drew ?_ | refine blk_alloc ?_ _)); exact BK232.out)) : gb232 ≠ gb233)); have n6_ := Aside0.mk ((by rw [hg]; exact Nat.ne_of_gt (blk_lt (g := gb232) (o := .cells #[.slice A0_0 l0_0.length c0_0, .slice A0_1 l0_1.length c0_1, .slice A0_2 l0_2.length c0_2] 31 (0, 0)) (by (with_reducible repeat (first | refine blk_drewN ?_ _ | refine blk_drew ?_ | refine blk_alloc ?_ _)); exact BK232.out)) : gb233 ≠ gb232)); clear BK232; clear HB; have BK232 := n0_; have HB := n1_; have BK233 := n2_; have GW233 := n3_; have GE233 := n4_; have NB232_233 := n5_; have NB233_232 := n6_; clear n0_ n1_ n2_ n3_ n4_ n5_ n6_; clear hb hbox hg; have hnb4 := NB232_233.out; have hnc4 := NB233_232.out; have hcz5_0 : w3.cell? ⟨gb232, 0, none⟩ = some (.slice A0_0 l0_0.length c0_0) := (blk_cell BK232.out 0).trans rfl; have hcz5_1 : w3.cell? ⟨gb232, 1, none⟩ = some (.slice A0_1 l0_1.length c0_1) := (blk_cell BK232.out 1).trans rfl; have hcz5_2 : w3.cell? ⟨gb232, 2, none⟩ = some (.slice A0_2 l0_2.length c0_2) := (blk_cell BK232.out 2).trans rfl; have hfz5_0 := blk_frozen BK232.out 0; have hfz5_1 := blk_frozen BK232.out 1; have hfz5_2 := blk_frozen BK232.out 2))
  go_loopg [4, 5, 17] k (fun kq v4 v5 v17 w' => ∃ (x4_1 : Int) (x5_1 : Int) (x17_1 : Int) (x234000_1 : List Bool), v4 = .int .i64 x4_1 ∧ v5 = .int .i64 x5_1 ∧ v17 = .int .i64 x17_1 ∧ Aside0 (impl_DfaOk.l0 kq x4_1 x5_1 l0_0 (l0_0.length : Int) x17_1 l0_0 l0_1 l0_2 x234000_1 = some r) ∧ Aside0 (kq ≤ k) ∧ Aside0 (w'.heap[gb232]? = some (.cells #[(.slice A0_0 l0_0.length c0_0), (.slice A0_1 l0_1.length c0_1), (.slice A0_2 l0_2.length c0_2)] 31 (0, 0))) ∧ Aside0 (w'.heap[gb233]? = some (.cells (cellsB 256 x234000_1) 125 (0, 0))) ∧ Aside0 (Below w.heap.size w w'))
  case atStart => exact ⟨((-1)), (0), (0), ((List.replicate 256 false)), (by first | rfl | (simp; done) | (simp [*]; done)), (by first | rfl | (simp; done) | (simp [*]; done)), (by first | rfl | (simp; done) | (simp [*]; done)), H', ⟨Nat.le_refl _⟩, ⟨by (with_reducible repeat (first | refine blk_drewN ?_ _ | refine blk_drew ?_ | refine blk_alloc ?_ _)); exact BK232.out⟩, ⟨by (with_reducible repeat (first | refine blk_drewN ?_ _ | refine blk_drew ?_ | refine blk_alloc ?_ _)); exact BK233.out⟩, ⟨by repeat (first | (with_reducible first | exact HB.out | apply below_alloc | apply pw_below_drewN | apply below_drew1 | refine below_set ?_ GE232.out | refine below_set ?_ GE233.out) | exact HB.out)⟩⟩
  case round =>
    clear H'
    try clear p2
    try clear c4
    try clear c5
    try clear hcz5_0
    try clear hcz5_1
    try clear hcz5_2
    try clear hfz5_0
    try clear hfz5_1
    try clear hfz5_2
    obtain ⟨x4_1, x5_1, x17_1, x234000_1, rfl, rfl, rfl, HA, HK1, BK232, BK233, HB⟩ := hrel
    cases gk with
    | zero => exact absurd HA.out (by simp [impl_DfaOk.l0])
    | succ k1 =>
      have H := HA.out
      clear HA
      simp only [impl_DfaOk.l0] at H
      by_cases c6 : x17_1 < (l0_0.length : Int)
      · rw [if_pos c6] at H
        have c6b0 : decide (x17_1 < (l0_0.length : Int)) = true := decide_eq_true c6
        clear c6
        by_cases c7 : 0 ≤ x17_1
        · rw [if_pos c7] at H
          have c7b0 : decide (0 ≤ x17_1) = true := decide_eq_true c7
          clear c7
          by_cases c8 : x17_1 < (l0_0.length : Int)
          · rw [if_pos c8] at H
            have c8b0 : decide (x17_1 < (l0_0.length : Int)) = true := decide_eq_true c8
            clear c8
            have HC9 := Aside0.mk H
            clear H
            have p234 : 0 ≤ (x17_1 : Int) := of_decide_eq_true (by first | (with_reducible assumption) | assumption)
            have q234 : x17_1 < (l0_0.length : Int) := of_decide_eq_true (by first | (with_reducible assumption) | assumption)
            obtain ⟨ad234, A234_0, c234_0, e234, hx234_0, hl234_0, hi234_0⟩ := at_L6 HR0_0.out x17_1 p234 q234
            cases e234
            replace hx234_0 := (HB.out.cell (World.block_lt_of_cell? w _ hx234_0)).trans hx234_0
            have HR234_0 := Aside0.mk hi234_0
            have HC234_0 := Aside0.mk hl234_0
            clear hi234_0 hl234_0
            replace p234 := eq_true p234
            replace q234 := eq_true q234
            go_upto_region 7 with (fail)
            go_cut [36] (fun v36 wc => ∃ (kq : Nat) (x36_8 : Bool), v36 = .bool x36_8 ∧ Aside0 (impl_DfaOk.j1 kq x5_1 (rd_L6 l0_0 x17_1) l0_0 (l0_0.length : Int) x17_1 x36_8 l0_0 l0_1 l0_2 x234000_1 = some r) ∧ Aside0 (kq ≤ k1) ∧ Aside0 (wc.heap[gb232]? = some (.cells #[(.slice (some ad234) l0_0.length c0_0), (.slice A0_1 l0_1.length c0_1), (.slice A0_2 l0_2.length c0_2)] 31 (0, 0))) ∧ Aside0 (wc.heap[gb233]? = some (.cells (cellsB 256 x234000_1) 125 (0, 0))) ∧ Aside0 (Below w.heap.size w wc))
            case first =>
              have H := HC9.out
              clear HC9
              replace H := Option.bind_eq_some_iff.mp H
              obtain ⟨t235, A100, H⟩ := H
              replace H : (if t235 = true then (if ((rd_L6 l0_0 x17_1).length : Int) = 0 then (impl_DfaOk.j1 k1 x5_1 (rd_L6 l0_0 x17_1) l0_0 (l0_0.length : Int) x17_1 true l0_0 l0_1 l0_2 x234000_1) else (if 0 < ((rd_L6 l0_0 x17_1).length : Int) then (impl_DfaOk.j1 k1 x5_1 (rd_L6 l0_0 x17_1) l0_0 (l0_0.length : Int) x17_1 (decide (((rd_T117 (rd_L6 l0_0 x17_1) 0).f0) ≤ x4_1)) l0_0 l0_1 l0_2 x234000_1) else (none))) else (impl_DfaOk.j1 k1 x5_1 (rd_L6 l0_0 x17_1) l0_0 (l0_0.length : Int) x17_1 true l0_0 l0_1 l0_2 x234000_1)) = some r := H
              have A10 := Aside0.mk A100
              clear A100
              by_cases c11 : t235 = true
              · subst c11
                have H1 : (if ((rd_L6 l0_0 x17_1).length : Int) = 0 then (impl_DfaOk.j1 k1 x5_1 (rd_L6 l0_0 x17_1) l0_0 (l0_0.length : Int) x17_1 true l0_0 l0_1 l0_2 x234000_1) else (if 0 < ((rd_L6 l0_0 x17_1).length : Int) then (impl_DfaOk.j1 k1 x5_1 (rd_L6 l0_0 x17_1) l0_0 (l0_0.length : Int) x17_1 (decide (((rd_T117 (rd_L6 l0_0 x17_1) 0).f0) ≤ x4_1)) l0_0 l0_1 l0_2 x234000_1) else (none))) = some r := by rw [if_pos rfl] at H; exact H
                clear H
                have H := H1
                clear H1
                by_cases c12 : ((rd_L6 l0_0 x17_1).length : Int) = 0
                · rw [if_pos c12] at H
                  have c12b0 : (((rd_L6 l0_0 x17_1).length : Int) == 0) = true := beq_iff_eq.mpr c12
                  have c12b1 : (((rd_L6 l0_0 x17_1).length : Int) != 0) = false := bne_eq_false_iff_eq.mpr c12
                  clear c12
                  (first | rw [c12b0] | (simp only [i64_w, i32_w]; rw [c12b0]) | skip)
                  have H' := Aside0.mk H
                  clear H
                  go_wp2_with (first | ((with_reducible refine gate_callee (f := 105) rfl ?_); refine goesL_ (some 22) rfl rfl Try.func105 (by kernel_rfl) rfl #[.slice A234_0 (rd_L6 l0_0 x17_1).length c234_0] rfl (by (try simp only [List.map_toArray, List.map_cons, List.map_nil]); first | done | rfl | (simp only [List.length_drop, List.length_take]; rfl)) ?_; (with_reducible refine (impl_SetOk.calls k1 _ _ (rd_L6 l0_0 x17_1) true _ ?side1 ?side2 A10.out).mono ?_); (case side1 => repeat (first | exact (Kd.C_below HR234_0.out HB.out) | (with_reducible refine Kd.C_alloc ?_ _) | (with_reducible refine Kd.C_drewN ?_ _) | (with_reducible refine Kd.C_drew ?_))); (case side2 => exact HC234_0.out); rintro e w13 ⟨rfl, hb⟩; refine ⟨_, rfl, ?_⟩; have n0_ := Aside0.mk (blk_below (g := gb232) (o := .cells #[.slice (some ad234) l0_0.length c0_0, .slice A0_1 l0_1.length c0_1, .slice A0_2 l0_2.length c0_2] 31 (0, 0)) (by (with_reducible repeat (first | refine blk_drewN ?_ _ | refine blk_drew ?_ | refine blk_alloc ?_ _)); exact BK232.out) hb); have n1_ := Aside0.mk (blk_below (g := gb233) (o := .cells (cellsB 256 x234000_1) 125 (0, 0)) (by (with_reducible repeat (first | refine blk_drewN ?_ _ | refine blk_drew ?_ | refine blk_alloc ?_ _)); exact BK233.out) hb); have n2_ := Aside0.mk (below_step (by repeat (first | (with_reducible first | exact HB.out | apply below_alloc | apply pw_below_drewN | apply below_drew1 | refine below_set ?_ GE232.out | refine below_set ?_ GE233.out) | exact HB.out)) hb); clear BK232; clear BK233; clear HB; have BK232 := n0_; have BK233 := n1_; have HB := n2_; clear n0_ n1_ n2_; (try clear hb); (try clear hb2); (try clear hk); (try clear hi)))
                  go_meet
                  case rel => exact ⟨_, (true), (by first | rfl | (simp; done) | (simp [*]; done)), H', ⟨by have := HK1.out; first | omega | exact Nat.le_refl _⟩, ⟨by (with_reducible repeat (first | refine blk_drewN ?_ _ | refine blk_drew ?_ | refine blk_alloc ?_ _)); exact BK232.out⟩, ⟨by (with_reducible repeat (first | refine blk_drewN ?_ _ | refine blk_drew ?_ | refine blk_alloc ?_ _)); exact BK233.out⟩, ⟨by repeat (first | (with_reducible first | exact HB.out | apply below_alloc | apply pw_below_drewN | apply below_drew1 | refine below_set ?_ GE232.out | refine below_set ?_ GE233.out) | exact HB.out)⟩⟩
                · rw [if_neg c12] at H
                  have c12b0 : (((rd_L6 l0_0 x17_1).length : Int) == 0) = false := beq_eq_false_iff_ne.mpr c12
                  have c12b1 : (((rd_L6 l0_0 x17_1).length : Int) != 0) = true := bne_iff_ne.mpr c12
                  have c12b2 : ¬ ((rd_L6 l0_0 x17_1) = []) := fun h_ => c12 (by rw [h_]; rfl)
                  (first | rw [c12b0] | (simp only [i64_w, i32_w]; rw [c12b0]) | skip)
                  by_cases c14 : 0 < ((rd_L6 l0_0 x17_1).length : Int)
                  · rw [if_pos c14] at H
                    have c14b0 : decide (0 < ((rd_L6 l0_0 x17_1).length : Int)) = true := decide_eq_true c14
                    have c14b1 : decide (0 < (rd_L6 l0_0 x17_1).length) = true := decide_eq_true (by omega)
                    clear c14
                    have H' := Aside0.mk H
                    clear H
                    go_wp2_with (first | ((with_reducible refine gate_callee (f := 105) rfl ?_); refine goesL_ (some 22) rfl rfl Try.func105 (by kernel_rfl) rfl #[.slice A234_0 (rd_L6 l0_0 x17_1).length c234_0] rfl (by (try simp only [List.map_toArray, List.map_cons, List.map_nil]); first | done | rfl | (simp only [List.length_drop, List.length_take]; rfl)) ?_; (with_reducible refine (impl_SetOk.calls k1 _ _ (rd_L6 l0_0 x17_1) true _ ?side1 ?side2 A10.out).mono ?_); (case side1 => repeat (first | exact (Kd.C_below HR234_0.out HB.out) | (with_reducible refine Kd.C_alloc ?_ _) | (with_reducible refine Kd.C_drewN ?_ _) | (with_reducible refine Kd.C_drew ?_))); (case side2 => exact HC234_0.out); rintro e w15 ⟨rfl, hb⟩; refine ⟨_, rfl, ?_⟩; have n0_ := Aside0.mk (blk_below (g := gb232) (o := .cells #[.slice (some ad234) l0_0.length c0_0, .slice A0_1 l0_1.length c0_1, .slice A0_2 l0_2.length c0_2] 31 (0, 0)) (by (with_reducible repeat (first | refine blk_drewN ?_ _ | refine blk_drew ?_ | refine blk_alloc ?_ _)); exact BK232.out) hb); have n1_ := Aside0.mk (blk_below (g := gb233) (o := .cells (cellsB 256 x234000_1) 125 (0, 0)) (by (with_reducible repeat (first | refine blk_drewN ?_ _ | refine blk_drew ?_ | refine blk_alloc ?_ _)); exact BK233.out) hb); have n2_ := Aside0.mk (below_step (by repeat (first | (with_reducible first | exact HB.out | apply below_alloc | apply pw_below_drewN | apply below_drew1 | refine below_set ?_ GE232.out | refine below_set ?_ GE233.out) | exact HB.out)) hb); clear BK232; clear BK233; clear HB; have BK232 := n0_; have BK233 := n1_; have HB := n2_; clear n0_ n1_ n2_; (try clear hb); (try clear hb2); (try clear hk); (try clear hi); have p236 : 0 ≤ (0 : Int) := (by omega); have q236 : 0 < ((rd_L6 l0_0 x17_1).length : Int) := of_decide_eq_true (by first | (with_reducible assumption) | assumption); obtain ⟨ad236, e236, hx236_0, hx236_1⟩ := at_T117 HR234_0.out 0 p236 q236; cases e236; have qi236 : (0 < (rd_L6 l0_0 x17_1).length) = True := eq_true (by omega); (try rw [show ((0 : Int)).toNat = 0 from rfl] at hx236_0); (try rw [show 0 * 2 = 0 from rfl] at hx236_0); (try rw [Addr.add_zero'] at hx236_0); (try rw [show ((0 : Int)).toNat = 0 from rfl] at hx236_1); (try rw [show 0 * 2 = 0 from rfl] at hx236_1); (try rw [Addr.add_zero'] at hx236_1); replace hx236_0 := (HB.out.cell (World.block_lt_of_cell? w _ hx236_0)).trans hx236_0; replace hx236_1 := (HB.out.cell (World.block_lt_of_cell? w _ hx236_1)).trans hx236_1; replace p236 := eq_true p236; replace q236 := eq_true q236))
                    go_meet
                    case rel => exact ⟨_, (decide (((rd_T117 (rd_L6 l0_0 x17_1) 0).f0) ≤ x4_1)), (by first | rfl | (simp; done) | (simp [*]; done)), H', ⟨by have := HK1.out; first | omega | exact Nat.le_refl _⟩, ⟨by (with_reducible repeat (first | refine blk_drewN ?_ _ | refine blk_drew ?_ | refine blk_alloc ?_ _)); exact BK232.out⟩, ⟨by (with_reducible repeat (first | refine blk_drewN ?_ _ | refine blk_drew ?_ | refine blk_alloc ?_ _)); exact BK233.out⟩, ⟨by repeat (first | (with_reducible first | exact HB.out | apply below_alloc | apply pw_below_drewN | apply below_drew1 | refine below_set ?_ GE232.out | refine below_set ?_ GE233.out) | exact HB.out)⟩⟩
                  · rw [if_neg c14] at H
                    exact absurd H (by simp)
              · replace c11 := Bool.eq_false_iff.mpr c11
                subst c11
                have H1 : (impl_DfaOk.j1 k1 x5_1 (rd_L6 l0_0 x17_1) l0_0 (l0_0.length : Int) x17_1 true l0_0 l0_1 l0_2 x234000_1) = some r := by rw [if_neg (show ¬ (false = true) by decide)] at H; exact H
                clear H
                have H := H1
                clear H1
                have H' := Aside0.mk H
                clear H
                go_wp2_with (first | ((with_reducible refine gate_callee (f := 105) rfl ?_); refine goesL_ (some 22) rfl rfl Try.func105 (by kernel_rfl) rfl #[.slice A234_0 (rd_L6 l0_0 x17_1).length c234_0] rfl (by (try simp only [List.map_toArray, List.map_cons, List.map_nil]); first | done | rfl | (simp only [List.length_drop, List.length_take]; rfl)) ?_; (with_reducible refine (impl_SetOk.calls k1 _ _ (rd_L6 l0_0 x17_1) false _ ?side1 ?side2 A10.out).mono ?_); (case side1 => repeat (first | exact (Kd.C_below HR234_0.out HB.out) | (with_reducible refine Kd.C_alloc ?_ _) | (with_reducible refine Kd.C_drewN ?_ _) | (with_reducible refine Kd.C_drew ?_))); (case side2 => exact HC234_0.out); rintro e w16 ⟨rfl, hb⟩; refine ⟨_, rfl, ?_⟩; have n0_ := Aside0.mk (blk_below (g := gb232) (o := .cells #[.slice (some ad234) l0_0.length c0_0, .slice A0_1 l0_1.length c0_1, .slice A0_2 l0_2.length c0_2] 31 (0, 0)) (by (with_reducible repeat (first | refine blk_drewN ?_ _ | refine blk_drew ?_ | refine blk_alloc ?_ _)); exact BK232.out) hb); have n1_ := Aside0.mk (blk_below (g := gb233) (o := .cells (cellsB 256 x234000_1) 125 (0, 0)) (by (with_reducible repeat (first | refine blk_drewN ?_ _ | refine blk_drew ?_ | refine blk_alloc ?_ _)); exact BK233.out) hb); have n2_ := Aside0.mk (below_step (by repeat (first | (with_reducible first | exact HB.out | apply below_alloc | apply pw_below_drewN | apply below_drew1 | refine below_set ?_ GE232.out | refine below_set ?_ GE233.out) | exact HB.out)) hb); clear BK232; clear BK233; clear HB; have BK232 := n0_; have BK233 := n1_; have HB := n2_; clear n0_ n1_ n2_; (try clear hb); (try clear hb2); (try clear hk); (try clear hi)))
                go_meet
                case rel => exact ⟨_, (true), (by first | rfl | (simp; done) | (simp [*]; done)), H', ⟨by have := HK1.out; first | omega | exact Nat.le_refl _⟩, ⟨by (with_reducible repeat (first | refine blk_drewN ?_ _ | refine blk_drew ?_ | refine blk_alloc ?_ _)); exact BK232.out⟩, ⟨by (with_reducible repeat (first | refine blk_drewN ?_ _ | refine blk_drew ?_ | refine blk_alloc ?_ _)); exact BK233.out⟩, ⟨by repeat (first | (with_reducible first | exact HB.out | apply below_alloc | apply pw_below_drewN | apply below_drew1 | refine below_set ?_ GE232.out | refine below_set ?_ GE233.out) | exact HB.out)⟩⟩
            case rest =>
              clear HC9
              try clear c1
              try clear c2
              try clear p2
              try clear q2
              try clear hx2
              try clear qi2
              try clear c4
              try clear c5
              try clear c6
              try clear c6b0
              try clear c7
              try clear c7b0
              try clear c8
              try clear c8b0
              try clear c10
              try clear c11
              try clear c12
              try clear c12b0
              try clear c12b1
              try clear c12b2
              try clear c14
              try clear c14b0
              try clear c14b1
              try clear hcz5_0
              try clear hcz5_1
              try clear hcz5_2
              try clear hfz5_0
              try clear hfz5_1
              try clear hfz5_2
              try clear hx234_0
              try clear hx236_0
              try clear hx236_1
              try clear p2
              try clear p234
              try clear p236
              try clear q234
              try clear q236
              obtain ⟨kq, x36_8, rfl, HA, HJ8, BK232, BK233, HB⟩ := hcut
              cases kq with
              | zero => exact absurd HA.out (by simp [impl_DfaOk.j1])
              | succ kj8 =>
                have H := HA.out
                clear HA
                simp only [impl_DfaOk.j1] at H
                by_cases c17 : x36_8 = true
                · subst c17
                  have H1 : (some false) = some r := by rw [if_pos rfl] at H; exact H
                  clear H
                  have H := H1
                  clear H1
                  obtain rfl := Option.some.inj H
                  go_wp2
                  go_ret
                  exact ⟨by first | rfl | (simp [errW_none, errW_some] <;> rfl) | (simp [*, errW_none, errW_some] <;> rfl), by repeat (first | (with_reducible first | exact HB.out | apply below_alloc | apply pw_below_drewN | apply below_drew1 | refine below_set ?_ GE232.out | refine below_set ?_ GE233.out) | exact HB.out)⟩
                · replace c17 := Bool.eq_false_iff.mpr c17
                  subst c17
                  have H1 : (if 0 < ((rd_L6 l0_0 x17_1).length : Int) then ((impl_bitsOf.f kj8 (rd_L6 l0_0 x17_1)).bind fun t238 => (impl_DfaOk.l1 kj8 ((rd_T117 (rd_L6 l0_0 x17_1) 0).f0) x5_1 l0_0 (l0_0.length : Int) x17_1 t238 0 l0_0 l0_1 l0_2 x234000_1)) else (none)) = some r := by rw [if_neg (show ¬ (false = true) by decide)] at H; exact H
                  clear H
                  have H := H1
                  clear H1
                  by_cases c18 : 0 < ((rd_L6 l0_0 x17_1).length : Int)
                  · rw [if_pos c18] at H
                    have c18b0 : decide (0 < ((rd_L6 l0_0 x17_1).length : Int)) = true := decide_eq_true c18
                    have c18b1 : decide (0 < (rd_L6 l0_0 x17_1).length) = true := decide_eq_true (by omega)
                    clear c18
                    replace H := Option.bind_eq_some_iff.mp H
                    obtain ⟨t238, A190, H⟩ := H
                    replace H : (impl_DfaOk.l1 kj8 ((rd_T117 (rd_L6 l0_0 x17_1) 0).f0) x5_1 l0_0 (l0_0.length : Int) x17_1 t238 0 l0_0 l0_1 l0_2 x234000_1) = some r := H
                    have A19 := Aside0.mk A190
                    clear A190
                    have H' := Aside0.mk H
                    clear H
                    have p237 : 0 ≤ (0 : Int) := (by omega)
                    have q237 : 0 < ((rd_L6 l0_0 x17_1).length : Int) := of_decide_eq_true (by first | (with_reducible assumption) | assumption)
                    obtain ⟨ad237, e237, hx237_0, hx237_1⟩ := at_T117 HR234_0.out 0 p237 q237
                    cases e237
                    have qi237 : (0 < (rd_L6 l0_0 x17_1).length) = True := eq_true (by omega)
                    (try rw [show ((0 : Int)).toNat = 0 from rfl] at hx237_0)
                    (try rw [show 0 * 2 = 0 from rfl] at hx237_0)
                    (try rw [Addr.add_zero'] at hx237_0)
                    (try rw [show ((0 : Int)).toNat = 0 from rfl] at hx237_1)
                    (try rw [show 0 * 2 = 0 from rfl] at hx237_1)
                    (try rw [Addr.add_zero'] at hx237_1)
                    replace hx237_0 := (HB.out.cell (World.block_lt_of_cell? w _ hx237_0)).trans hx237_0
                    replace hx237_1 := (HB.out.cell (World.block_lt_of_cell? w _ hx237_1)).trans hx237_1
                    replace p237 := eq_true p237
                    replace q237 := eq_true q237
                    go_wp2_with (first | ((with_reducible refine gate_callee (f := 106) rfl ?_); refine goesL_ (some 42) rfl rfl Try.func106 (by kernel_rfl) rfl #[.slice (some ad237) (rd_L6 l0_0 x17_1).length c234_0] rfl (by (try simp only [List.map_toArray, List.map_cons, List.map_nil]); first | done | rfl | (simp only [List.length_drop, List.length_take]; rfl)) ?_; (with_reducible refine (impl_bitsOf.calls kj8 _ _ (rd_L6 l0_0 x17_1) t238 _ ?side1 ?side2 A19.out).mono ?_); (case side1 => repeat (first | exact (Kd.C_below HR234_0.out HB.out) | (with_reducible refine Kd.C_alloc ?_ _) | (with_reducible refine Kd.C_drewN ?_ _) | (with_reducible refine Kd.C_drew ?_))); (case side2 => exact HC234_0.out); rintro e w20 ⟨rfl, hb⟩; refine ⟨_, rfl, ?_⟩; have n0_ := Aside0.mk (blk_below (g := gb232) (o := .cells #[.slice (some ad234) l0_0.length c0_0, .slice A0_1 l0_1.length c0_1, .slice A0_2 l0_2.length c0_2] 31 (0, 0)) (by (with_reducible repeat (first | refine blk_drewN ?_ _ | refine blk_drew ?_ | refine blk_alloc ?_ _)); exact BK232.out) hb); have n1_ := Aside0.mk (blk_below (g := gb233) (o := .cells (cellsB 256 x234000_1) 125 (0, 0)) (by (with_reducible repeat (first | refine blk_drewN ?_ _ | refine blk_drew ?_ | refine blk_alloc ?_ _)); exact BK233.out) hb); have n2_ := Aside0.mk (below_step (by repeat (first | (with_reducible first | exact HB.out | apply below_alloc | apply pw_below_drewN | apply below_drew1 | refine below_set ?_ GE232.out | refine below_set ?_ GE233.out) | exact HB.out)) hb); clear BK232; clear BK233; clear HB; have BK232 := n0_; have BK233 := n1_; have HB := n2_; clear n0_ n1_ n2_; (try clear hb); (try clear hb2); (try clear hk); (try clear hi)))
                    go_loopg [5, 43] kj8 (fun kq v5 v43 w' => ∃ (x5_3 : Int) (x43_3 : Int) (x234000_3 : List Bool), v5 = .int .i64 x5_3 ∧ v43 = .int .i64 x43_3 ∧ Aside0 (impl_DfaOk.l1 kq ((rd_T117 (rd_L6 l0_0 x17_1) 0).f0) x5_3 l0_0 (l0_0.length : Int) x17_1 t238 x43_3 l0_0 l0_1 l0_2 x234000_3 = some r) ∧ Aside0 (kq ≤ kj8) ∧ Aside0 (w'.heap[gb232]? = some (.cells #[(.slice (some ad234) l0_0.length c0_0), (.slice A0_1 l0_1.length c0_1), (.slice A0_2 l0_2.length c0_2)] 31 (0, 0))) ∧ Aside0 (w'.heap[gb233]? = some (.cells (cellsB 256 x234000_3) 125 (0, 0))) ∧ Aside0 (Below w.heap.size w w'))
                    case atStart => exact ⟨(x5_1), (0), (x234000_1), (by first | rfl | (simp; done) | (simp [*]; done)), (by first | rfl | (simp; done) | (simp [*]; done)), H', ⟨Nat.le_refl _⟩, ⟨by (with_reducible repeat (first | refine blk_drewN ?_ _ | refine blk_drew ?_ | refine blk_alloc ?_ _)); exact BK232.out⟩, ⟨by (with_reducible repeat (first | refine blk_drewN ?_ _ | refine blk_drew ?_ | refine blk_alloc ?_ _)); exact BK233.out⟩, ⟨by repeat (first | (with_reducible first | exact HB.out | apply below_alloc | apply pw_below_drewN | apply below_drew1 | refine below_set ?_ GE232.out | refine below_set ?_ GE233.out) | exact HB.out)⟩⟩
                    case round =>
                      clear H'
                      try clear c1
                      try clear c2
                      try clear p2
                      try clear q2
                      try clear hx2
                      try clear qi2
                      try clear c4
                      try clear c5
                      try clear c6
                      try clear c6b0
                      try clear c7
                      try clear c7b0
                      try clear c8
                      try clear c8b0
                      try clear c10
                      try clear c11
                      try clear c12
                      try clear c12b0
                      try clear c12b1
                      try clear c12b2
                      try clear c14
                      try clear c14b0
                      try clear c14b1
                      try clear c17
                      try clear c18
                      try clear c18b0
                      try clear c18b1
                      try clear hcz5_0
                      try clear hcz5_1
                      try clear hcz5_2
                      try clear hfz5_0
                      try clear hfz5_1
                      try clear hfz5_2
                      try clear hx234_0
                      try clear hx236_0
                      try clear hx236_1
                      try clear hx237_0
                      try clear hx237_1
                      try clear p2
                      try clear p234
                      try clear p236
                      try clear p237
                      try clear q2
                      try clear q234
                      try clear q236
                      try clear q237
                      obtain ⟨x5_3, x43_3, x234000_3, rfl, rfl, HA, HK3, BK232, BK233, HB⟩ := hrel
                      cases gk with
                      | zero => exact absurd HA.out (by simp [impl_DfaOk.l1])
                      | succ k3 =>
                        have H := HA.out
                        clear HA
                        simp only [impl_DfaOk.l1] at H
                        by_cases c21 : x43_3 < 256
                        · rw [if_pos c21] at H
                          have c21b0 : decide (x43_3 < 256) = true := decide_eq_true c21
                          clear c21
                          by_cases c22 : 0 ≤ x43_3
                          · rw [if_pos c22] at H
                            have c22b0 : decide (0 ≤ x43_3) = true := decide_eq_true c22
                            clear c22
                            obtain ⟨bq23, hbq23⟩ : ∃ b_ : Bool, b_ = (getB t238 x43_3) := ⟨_, rfl⟩
                            replace H : (if bq23 = true then (impl_DfaOk.j3 k3 ((rd_T117 (rd_L6 l0_0 x17_1) 0).f0) x5_3 x43_3 bq23 l0_0 (l0_0.length : Int) x17_1 t238 x43_3 (getB x234000_3 x43_3) l0_0 l0_1 l0_2 x234000_3) else (impl_DfaOk.j3 k3 ((rd_T117 (rd_L6 l0_0 x17_1) 0).f0) x5_3 x43_3 bq23 l0_0 (l0_0.length : Int) x17_1 t238 x43_3 false l0_0 l0_1 l0_2 x234000_3)) = some r := by first | (rw [← hbq23] at H; exact H) | exact H
                            have Nbq23 := Aside0.mk hbq23
                            clear hbq23
                            have HC24 := Aside0.mk H
                            clear H
                            have p25 : Aside0 (0 ≤ (x43_3 : Int)) := ⟨of_decide_eq_true (by first | (with_reducible assumption) | assumption)⟩
                            have q25 : Aside0 ((x43_3 : Int) < 256) := ⟨of_decide_eq_true (by first | (with_reducible assumption) | assumption)⟩
                            go_upto_region 13 with (first | ((with_reducible refine gate_dst (N := 46) rfl ?_); refine wp_index_arr rfl 125 4 (.tmp 42) (.tmp 43) rfl 256 t238 x43_3 rfl rfl p25.out q25.out Try.underlying125 (by kernel_rfl) (by kernel_rfl) ?_; (try rw [← Nbq23.out])))
                            (try simp only [Act.put, List.setIfInBounds_toArray, List.set_cons_zero, List.set_cons_succ])
                            go_cut [52] (fun v52 wc => ∃ (kq : Nat) (x52_23 : Bool), v52 = .bool x52_23 ∧ Aside0 (impl_DfaOk.j3 kq ((rd_T117 (rd_L6 l0_0 x17_1) 0).f0) x5_3 x43_3 bq23 l0_0 (l0_0.length : Int) x17_1 t238 x43_3 x52_23 l0_0 l0_1 l0_2 x234000_3 = some r) ∧ Aside0 (kq ≤ k3) ∧ Aside0 (wc.heap[gb232]? = some (.cells #[(.slice (some ad234) l0_0.length c0_0), (.slice A0_1 l0_1.length c0_1), (.slice A0_2 l0_2.length c0_2)] 31 (0, 0))) ∧ Aside0 (wc.heap[gb233]? = some (.cells (cellsB 256 x234000_3) 125 (0, 0))) ∧ Aside0 (Below w.heap.size w wc))
                            case first =>
                              have H := HC24.out
                              clear HC24
                              by_cases c26 : bq23 = true
                              · subst c26
                                have H1 : (impl_DfaOk.j3 k3 ((rd_T117 (rd_L6 l0_0 x17_1) 0).f0) x5_3 x43_3 true l0_0 (l0_0.length : Int) x17_1 t238 x43_3 (getB x234000_3 x43_3) l0_0 l0_1 l0_2 x234000_3) = some r := by rw [if_pos rfl] at H; exact H
                                clear H
                                have H := H1
                                clear H1
                                obtain ⟨bq27, hbq27⟩ : ∃ b_ : Bool, b_ = (getB x234000_3 x43_3) := ⟨_, rfl⟩
                                replace H : (impl_DfaOk.j3 k3 ((rd_T117 (rd_L6 l0_0 x17_1) 0).f0) x5_3 x43_3 true l0_0 (l0_0.length : Int) x17_1 t238 x43_3 bq27 l0_0 l0_1 l0_2 x234000_3) = some r := by first | (rw [← hbq27] at H; exact H) | exact H
                                have Nbq27 := Aside0.mk hbq27
                                clear hbq27
                                have H' := Aside0.mk H
                                clear H
                                have hnb28 := NB233_232.out
                                have hnc28 := NB232_233.out
                                have pz239 : 0 ≤ (x43_3 : Int) := of_decide_eq_true (by first | (with_reducible assumption) | assumption)
                                have qz239 : (x43_3 : Int) < 256 := of_decide_eq_true (by first | (with_reducible assumption) | assumption)
                                have hxz239 : wr.cell? ⟨gb233, (x43_3 : Int).toNat, none⟩ = some (.bool (getB x234000_3 x43_3)) := cell_arr BK233.out x43_3 pz239 qz239
                                have hfz239 := blk_frozen BK233.out (x43_3 : Int).toNat
                                replace pz239 := eq_true pz239
                                replace qz239 := eq_true qz239
                                (try rw [← Nbq23.out] at hxz239)
                                (try rw [← Nbq27.out] at hxz239)
                                go_wp2
                                go_meet
                                case rel => exact ⟨_, (bq27), (by first | rfl | (simp; done) | (simp [*]; done)), H', ⟨by have := HK1.out; have := HJ8.out; have := HK3.out; first | omega | exact Nat.le_refl _⟩, ⟨by (with_reducible repeat (first | refine blk_drewN ?_ _ | refine blk_drew ?_ | refine blk_alloc ?_ _)); exact BK232.out⟩, ⟨by (with_reducible repeat (first | refine blk_drewN ?_ _ | refine blk_drew ?_ | refine blk_alloc ?_ _)); exact BK233.out⟩, ⟨by repeat (first | (with_reducible first | exact HB.out | apply below_alloc | apply pw_below_drewN | apply below_drew1 | refine below_set ?_ GE232.out | refine below_set ?_ GE233.out) | exact HB.out)⟩⟩
                              · replace c26 := Bool.eq_false_iff.mpr c26
                                subst c26
                                have H1 : (impl_DfaOk.j3 k3 ((rd_T117 (rd_L6 l0_0 x17_1) 0).f0) x5_3 x43_3 false l0_0 (l0_0.length : Int) x17_1 t238 x43_3 false l0_0 l0_1 l0_2 x234000_3) = some r := by rw [if_neg (show ¬ (false = true) by decide)] at H; exact H
                                clear H
                                have H := H1
                                clear H1
                                have H' := Aside0.mk H
                                clear H
                                go_wp2
                                go_meet
                                case rel => exact ⟨_, (false), (by first | rfl | (simp; done) | (simp [*]; done)), H', ⟨by have := HK1.out; have := HJ8.out; have := HK3.out; first | omega | exact Nat.le_refl _⟩, ⟨by (with_reducible repeat (first | refine blk_drewN ?_ _ | refine blk_drew ?_ | refine blk_alloc ?_ _)); exact BK232.out⟩, ⟨by (with_reducible repeat (first | refine blk_drewN ?_ _ | refine blk_drew ?_ | refine blk_alloc ?_ _)); exact BK233.out⟩, ⟨by repeat (first | (with_reducible first | exact HB.out | apply below_alloc | apply pw_below_drewN | apply below_drew1 | refine below_set ?_ GE232.out | refine below_set ?_ GE233.out) | exact HB.out)⟩⟩
                            case rest =>
                              clear HC24
                              try clear c1
                              try clear c2
                              try clear p2
                              try clear q2
                              try clear hx2
                              try clear qi2
                              try clear c4
                              try clear c5
                              try clear c6
                              try clear c6b0
                              try clear c7
                              try clear c7b0
                              try clear c8
                              try clear c8b0
                              try clear c10
                              try clear c11
                              try clear c12
                              try clear c12b0
                              try clear c12b1
                              try clear c12b2
                              try clear c14
                              try clear c14b0
                              try clear c14b1
                              try clear c17
                              try clear c18
                              try clear c18b0
                              try clear c18b1
                              try clear c21
                              try clear c21b0
                              try clear c22
                              try clear c22b0
                              try clear c23
                              try clear p23
                              try clear q23
                              try clear hx23
                              try clear qi23
                              try clear p25
                              try clear q25
                              try clear c26
                              try clear q27
                              try clear c28
                              try clear hcz5_0
                              try clear hcz5_1
                              try clear hcz5_2
                              try clear hfz5_0
                              try clear hfz5_1
                              try clear hfz5_2
                              try clear hx234_0
                              try clear hx236_0
                              try clear hx236_1
                              try clear hx237_0
                              try clear hx237_1
                              try clear p2
                              try clear p234
                              try clear p236
                              try clear p237
                              try clear p25
                              try clear q2
                              try clear q234
                              try clear q236
                              try clear q237
                              try clear q25
                              obtain ⟨kq, x52_23, rfl, HA, HJ23, BK232, BK233, HB⟩ := hcut
                              cases kq with
                              | zero => exact absurd HA.out (by simp [impl_DfaOk.j3])
                              | succ kj23 =>
                                have H := HA.out
                                clear HA
                                simp only [impl_DfaOk.j3] at H
                                by_cases c29 : x52_23 = true
                                · subst c29
                                  have H1 : (some false) = some r := by rw [if_pos rfl] at H; exact H
                                  clear H
                                  have H := H1
                                  clear H1
                                  obtain rfl := Option.some.inj H
                                  go_wp2
                                  go_ret
                                  exact ⟨by first | rfl | (simp [errW_none, errW_some] <;> rfl) | (simp [*, errW_none, errW_some] <;> rfl), by repeat (first | (with_reducible first | exact HB.out | apply below_alloc | apply pw_below_drewN | apply below_drew1 | refine below_set ?_ GE232.out | refine below_set ?_ GE233.out) | exact HB.out)⟩
                                · replace c29 := Bool.eq_false_iff.mpr c29
                                  subst c29
                                  have H1 : (if bq23 = true then (if 0 ≤ x43_3 then (if x43_3 < 256 then (impl_DfaOk.l1 kj23 ((rd_T117 (rd_L6 l0_0 x17_1) 0).f0) (wrap64 (x5_3 + 1)) l0_0 (l0_0.length : Int) x17_1 t238 (wrap64 (x43_3 + 1)) l0_0 l0_1 l0_2 (setB 256 x234000_3 x43_3 true)) else (none)) else (none)) else (impl_DfaOk.l1 kj23 ((rd_T117 (rd_L6 l0_0 x17_1) 0).f0) x5_3 l0_0 (l0_0.length : Int) x17_1 t238 (wrap64 (x43_3 + 1)) l0_0 l0_1 l0_2 x234000_3)) = some r := by rw [if_neg (show ¬ (false = true) by decide)] at H; exact H
                                  clear H
                                  have H := H1
                                  clear H1
                                  by_cases c30 : bq23 = true
                                  · subst c30
                                    have H1 : (if 0 ≤ x43_3 then (if x43_3 < 256 then (impl_DfaOk.l1 kj23 ((rd_T117 (rd_L6 l0_0 x17_1) 0).f0) (wrap64 (x5_3 + 1)) l0_0 (l0_0.length : Int) x17_1 t238 (wrap64 (x43_3 + 1)) l0_0 l0_1 l0_2 (setB 256 x234000_3 x43_3 true)) else (none)) else (none)) = some r := by rw [if_pos rfl] at H; exact H
                                    clear H
                                    have H := H1
                                    clear H1
                                    by_cases c31 : 0 ≤ x43_3
                                    · rw [if_pos c31] at H
                                      have c31b0 : decide (0 ≤ x43_3) = true := decide_eq_true c31
                                      clear c31
                                      by_cases c32 : x43_3 < 256
                                      · rw [if_pos c32] at H
                                        have c32b0 : decide (x43_3 < 256) = true := decide_eq_true c32
                                        clear c32
                                        obtain ⟨bq33, hbq33⟩ : ∃ b_ : Bool, b_ = (getB x234000_3 x43_3) := ⟨_, rfl⟩
                                        replace H : (impl_DfaOk.l1 kj23 ((rd_T117 (rd_L6 l0_0 x17_1) 0).f0) (wrap64 (x5_3 + 1)) l0_0 (l0_0.length : Int) x17_1 t238 (wrap64 (x43_3 + 1)) l0_0 l0_1 l0_2 (setB 256 x234000_3 x43_3 true)) = some r := by first | (rw [← hbq33] at H; exact H) | exact H
                                        have Nbq33 := Aside0.mk hbq33
                                        clear hbq33
                                        have H' := Aside0.mk H
                                        clear H
                                        have hnb34 := NB233_232.out
                                        have hnc34 := NB232_233.out
                                        have pz240 : 0 ≤ (x43_3 : Int) := of_decide_eq_true (by first | (with_reducible assumption) | assumption)
                                        have qz240 : (x43_3 : Int) < 256 := of_decide_eq_true (by first | (with_reducible assumption) | assumption)
                                        have hxz240 : wc.cell? ⟨gb233, (x43_3 : Int).toNat, none⟩ = some (.bool (getB x234000_3 x43_3)) := cell_arr BK233.out x43_3 pz240 qz240
                                        have hfz240 := blk_frozen BK233.out (x43_3 : Int).toNat
                                        replace pz240 := eq_true pz240
                                        replace qz240 := eq_true qz240
                                        (try rw [← Nbq23.out] at hxz240)
                                        (try rw [← Nbq33.out] at hxz240)
                                        go_wp2_with (first | ((with_reducible refine gate_store (t := 4) (p := 55) rfl ?_); refine store_event (t := 4) (p := 55) (v := ?vo_w35) (w1 := (wc.setCell ⟨gb233, (x43_3 : Int).toNat, none⟩ (.bool true))) ?hg ?ho ?hn ?hr ?_; (case ho => rfl); (case hg => rfl); (case hn => rfl); (case hr => first | (go_simp; done) | (go_simp; rfl)); intro w35 hw; have n0_ : Aside0 (w35.heap[gb232]? = some (.cells #[.slice (some ad234) l0_0.length c0_0, .slice A0_1 l0_1.length c0_1, .slice A0_2 l0_2.length c0_2] 31 (0, 0))) := ⟨(by rw [hw]; exact (by (with_reducible repeat (first | refine blk_drewN ?_ _ | refine blk_drew ?_ | refine blk_alloc ?_ _)); refine blk_far ?_ NB232_233.out _; (with_reducible repeat (first | refine blk_drewN ?_ _ | refine blk_drew ?_ | refine blk_alloc ?_ _)); exact BK232.out))⟩; have n1_ : Aside0 (w35.heap[gb233]? = some (.cells (cellsB 256 (setB 256 x234000_3 x43_3 true)) 125 (0, 0))) := ⟨(by rw [hw]; exact (by (with_reducible repeat (first | refine blk_drewN ?_ _ | refine blk_drew ?_ | refine blk_alloc ?_ _)); refine put_arr ?_ x43_3 true; (with_reducible repeat (first | refine blk_drewN ?_ _ | refine blk_drew ?_ | refine blk_alloc ?_ _)); exact BK233.out))⟩; have n2_ : Aside0 (Below w.heap.size w w35) := ⟨(by rw [hw]; exact (by repeat (first | (with_reducible first | exact HB.out | apply below_alloc | apply pw_below_drewN | apply below_drew1 | refine below_set ?_ GE232.out | refine below_set ?_ GE233.out) | exact HB.out)))⟩; clear hw; clear BK232; clear BK233; clear HB; have BK232 := n0_; have BK233 := n1_; have HB := n2_; clear n0_ n1_ n2_))
                                        go_roundg kj23
                                        case measure => have := HK1.out; have := HJ8.out; have := HK3.out; have := HJ23.out; omega
                                        case rel => exact ⟨(wrap64 (x5_3 + 1)), (wrap64 (x43_3 + 1)), (setB 256 x234000_3 x43_3 true), (by first | rfl | (simp; done) | (simp [*]; done)), (by first | rfl | (simp; done) | (simp [*]; done)), H', ⟨by have := HK1.out; have := HJ8.out; have := HK3.out; have := HJ23.out; omega⟩, ⟨by (with_reducible repeat (first | refine blk_drewN ?_ _ | refine blk_drew ?_ | refine blk_alloc ?_ _)); exact BK232.out⟩, ⟨by (with_reducible repeat (first | refine blk_drewN ?_ _ | refine blk_drew ?_ | refine blk_alloc ?_ _)); exact BK233.out⟩, ⟨by repeat (first | (with_reducible first | exact HB.out | apply below_alloc | apply pw_below_drewN | apply below_drew1 | refine below_set ?_ GE232.out | refine below_set ?_ GE233.out) | exact HB.out)⟩⟩
                                      · rw [if_neg c32] at H
                                        exact absurd H (by simp)
                                    · rw [if_neg c31] at H
                                      exact absurd H (by simp)
                                  · replace c30 := Bool.eq_false_iff.mpr c30
                                    subst c30
                                    have H1 : (impl_DfaOk.l1 kj23 ((rd_T117 (rd_L6 l0_0 x17_1) 0).f0) x5_3 l0_0 (l0_0.length : Int) x17_1 t238 (wrap64 (x43_3 + 1)) l0_0 l0_1 l0_2 x234000_3) = some r := by rw [if_neg (show ¬ (false = true) by decide)] at H; exact H
                                    clear H
                                    have H := H1
                                    clear H1
                                    have H' := Aside0.mk H
                                    clear H
                                    go_wp2
                                    go_roundg kj23
                                    case measure => have := HK1.out; have := HJ8.out; have := HK3.out; have := HJ23.out; omega
                                    case rel => exact ⟨(x5_3), (wrap64 (x43_3 + 1)), (x234000_3), (by first | rfl | (simp; done) | (simp [*]; done)), (by first | rfl | (simp; done) | (simp [*]; done)), H', ⟨by have := HK1.out; have := HJ8.out; have := HK3.out; have := HJ23.out; omega⟩, ⟨by (with_reducible repeat (first | refine blk_drewN ?_ _ | refine blk_drew ?_ | refine blk_alloc ?_ _)); exact BK232.out⟩, ⟨by (with_reducible repeat (first | refine blk_drewN ?_ _ | refine blk_drew ?_ | refine blk_alloc ?_ _)); exact BK233.out⟩, ⟨by repeat (first | (with_reducible first | exact HB.out | apply below_alloc | apply pw_below_drewN | apply below_drew1 | refine below_set ?_ GE232.out | refine below_set ?_ GE233.out) | exact HB.out)⟩⟩
                          · rw [if_neg c22] at H
                            exact absurd H (by simp)
                        · rw [if_neg c21] at H
                          have c21b0 : decide (x43_3 < 256) = false := decide_eq_false c21
                          clear c21
                          have H' := Aside0.mk H
                          clear H
                          go_wp2
                          go_roundg k3
                          case measure => have := HK1.out; have := HJ8.out; have := HK3.out; omega
                          case rel => exact ⟨(((rd_T117 (rd_L6 l0_0 x17_1) 0).f0)), (x5_3), (wrap64 (x17_1 + 1)), (x234000_3), (by first | rfl | (simp; done) | (simp [*]; done)), (by first | rfl | (simp; done) | (simp [*]; done)), (by first | rfl | (simp; done) | (simp [*]; done)), H', ⟨by have := HK1.out; have := HJ8.out; have := HK3.out; omega⟩, ⟨by (with_reducible repeat (first | refine blk_drewN ?_ _ | refine blk_drew ?_ | refine blk_alloc ?_ _)); exact BK232.out⟩, ⟨by (with_reducible repeat (first | refine blk_drewN ?_ _ | refine blk_drew ?_ | refine blk_alloc ?_ _)); exact BK233.out⟩, ⟨by repeat (first | (with_reducible first | exact HB.out | apply below_alloc | apply pw_below_drewN | apply below_drew1 | refine below_set ?_ GE232.out | refine below_set ?_ GE233.out) | exact HB.out)⟩⟩
                  · rw [if_neg c18] at H
                    exact absurd H (by simp)
          · rw [if_neg c8] at H
            exact absurd H (by simp)
        · rw [if_neg c7] at H
          exact absurd H (by simp)
      · rw [if_neg c6] at H
        have c6b0 : decide (x17_1 < (l0_0.length : Int)) = false := decide_eq_false c6
        clear c6
        have HC36 := Aside0.mk H
        clear H
        go_upto_region 20 with (fail)
        go_cut [77] (fun v77 wc => ∃ (kq : Nat) (x77_35 : Bool), v77 = .bool x77_35 ∧ Aside0 (impl_DfaOk.j4 kq x77_35 l0_0 l0_1 l0_2 = some r) ∧ Aside0 (kq ≤ k1) ∧ Aside0 (wc.heap[gb232]? = some (.cells #[(.slice A0_0 l0_0.length c0_0), (.slice A0_1 l0_1.length c0_1), (.slice A0_2 l0_2.length c0_2)] 31 (0, 0))) ∧ Aside0 (wc.heap[gb233]? = some (.cells (cellsB 256 x234000_1) 125 (0, 0))) ∧ Aside0 (Below w.heap.size w wc))
        case first =>
          have H := HC36.out
          clear HC36
          by_cases c37 : x5_1 = 256
          · rw [if_pos c37] at H
            have c37b0 : (x5_1 == 256) = true := beq_iff_eq.mpr c37
            have c37b1 : (x5_1 != 256) = false := bne_eq_false_iff_eq.mpr c37
            clear c37
            (first | rw [c37b0] | (simp only [i64_w, i32_w]; rw [c37b0]) | skip)
            replace H := Option.bind_eq_some_iff.mp H
            obtain ⟨t241, A380, H⟩ := H
            replace H : (if t241 = true then (impl_DfaOk.j4 k1 ((l0_2.length : Int) != (l0_1.length : Int)) l0_0 l0_1 l0_2) else (impl_DfaOk.j4 k1 true l0_0 l0_1 l0_2)) = some r := H
            have A38 := Aside0.mk A380
            clear A380
            by_cases c39 : t241 = true
            · subst c39
              have H1 : (impl_DfaOk.j4 k1 ((l0_2.length : Int) != (l0_1.length : Int)) l0_0 l0_1 l0_2) = some r := by rw [if_pos rfl] at H; exact H
              clear H
              have H := H1
              clear H1
              have H' := Aside0.mk H
              clear H
              have hnb40 := NB232_233.out
              have hnc40 := NB233_232.out
              have hcz41_0 : wr.cell? ⟨gb232, 0, none⟩ = some (.slice A0_0 l0_0.length c0_0) := (blk_cell BK232.out 0).trans rfl
              have hcz41_1 : wr.cell? ⟨gb232, 1, none⟩ = some (.slice A0_1 l0_1.length c0_1) := (blk_cell BK232.out 1).trans rfl
              have hcz41_2 : wr.cell? ⟨gb232, 2, none⟩ = some (.slice A0_2 l0_2.length c0_2) := (blk_cell BK232.out 2).trans rfl
              have hfz41_0 := blk_frozen BK232.out 0
              have hfz41_1 := blk_frozen BK232.out 1
              have hfz41_2 := blk_frozen BK232.out 2
              go_wp2_with (first | (go_at_call 64; (with_reducible refine (impl_in.calls (l0_1.length : Int) 1 40 true _ A38.out).mono ?_); rintro e w' ⟨rfl, ⟨nd, rfl⟩⟩))
              go_meet
              case rel => exact ⟨_, (((l0_2.length : Int) != (l0_1.length : Int))), (by first | rfl | (simp; done) | (simp [*]; done)), H', ⟨by have := HK1.out; first | omega | exact Nat.le_refl _⟩, ⟨by (with_reducible repeat (first | refine blk_drewN ?_ _ | refine blk_drew ?_ | refine blk_alloc ?_ _)); exact BK232.out⟩, ⟨by (with_reducible repeat (first | refine blk_drewN ?_ _ | refine blk_drew ?_ | refine blk_alloc ?_ _)); exact BK233.out⟩, ⟨by repeat (first | (with_reducible first | exact HB.out | apply below_alloc | apply pw_below_drewN | apply below_drew1 | refine below_set ?_ GE232.out | refine below_set ?_ GE233.out) | exact HB.out)⟩⟩
            · replace c39 := Bool.eq_false_iff.mpr c39
              subst c39
              have H1 : (impl_DfaOk.j4 k1 true l0_0 l0_1 l0_2) = some r := by rw [if_neg (show ¬ (false = true) by decide)] at H; exact H
              clear H
              have H := H1
              clear H1
              have H' := Aside0.mk H
              clear H
              have hnb42 := NB232_233.out
              have hnc42 := NB233_232.out
              have hcz43_0 : wr.cell? ⟨gb232, 0, none⟩ = some (.slice A0_0 l0_0.length c0_0) := (blk_cell BK232.out 0).trans rfl
              have hcz43_1 : wr.cell? ⟨gb232, 1, none⟩ = some (.slice A0_1 l0_1.length c0_1) := (blk_cell BK232.out 1).trans rfl
              have hcz43_2 : wr.cell? ⟨gb232, 2, none⟩ = some (.slice A0_2 l0_2.length c0_2) := (blk_cell BK232.out 2).trans rfl
              have hfz43_0 := blk_frozen BK232.out 0
              have hfz43_1 := blk_frozen BK232.out 1
              have hfz43_2 := blk_frozen BK232.out 2
              go_wp2_with (first | (go_at_call 64; (with_reducible refine (impl_in.calls (l0_1.length : Int) 1 40 false _ A38.out).mono ?_); rintro e w' ⟨rfl, ⟨nd, rfl⟩⟩))
              go_meet
              case rel => exact ⟨_, (true), (by first | rfl | (simp; done) | (simp [*]; done)), H', ⟨by have := HK1.out; first | omega | exact Nat.le_refl _⟩, ⟨by (with_reducible repeat (first | refine blk_drewN ?_ _ | refine blk_drew ?_ | refine blk_alloc ?_ _)); exact BK232.out⟩, ⟨by (with_reducible repeat (first | refine blk_drewN ?_ _ | refine blk_drew ?_ | refine blk_alloc ?_ _)); exact BK233.out⟩, ⟨by repeat (first | (with_reducible first | exact HB.out | apply below_alloc | apply pw_below_drewN | apply below_drew1 | refine below_set ?_ GE232.out | refine below_set ?_ GE233.out) | exact HB.out)⟩⟩
          · rw [if_neg c37] at H
            have c37b0 : (x5_1 == 256) = false := beq_eq_false_iff_ne.mpr c37
            have c37b1 : (x5_1 != 256) = true := bne_iff_ne.mpr c37
            (first | rw [c37b0] | (simp only [i64_w, i32_w]; rw [c37b0]) | skip)
            have H' := Aside0.mk H
            clear H
            go_wp2
            go_meet
            case rel => exact ⟨_, (true), (by first | rfl | (simp; done) | (simp [*]; done)), H', ⟨by have := HK1.out; first | omega | exact Nat.le_refl _⟩, ⟨by (with_reducible repeat (first | refine blk_drewN ?_ _ | refine blk_drew ?_ | refine blk_alloc ?_ _)); exact BK232.out⟩, ⟨by (with_reducible repeat (first | refine blk_drewN ?_ _ | refine blk_drew ?_ | refine blk_alloc ?_ _)); exact BK233.out⟩, ⟨by repeat (first | (with_reducible first | exact HB.out | apply below_alloc | apply pw_below_drewN | apply below_drew1 | refine below_set ?_ GE232.out | refine below_set ?_ GE233.out) | exact HB.out)⟩⟩
        case rest =>
          clear HC36
          try clear c1
          try clear c2
          try clear p2
          try clear q2
          try clear hx2
          try clear qi2
          try clear c3
          try clear q3
          try clear c4
          try clear c5
          try clear c6
          try clear c6b0
          try clear p6
          try clear c7
          try clear c7b0
          try clear c8
          try clear c8b0
          try clear c10
          try clear c11
          try clear c12
          try clear c12b0
          try clear c12b1
          try clear c12b2
          try clear c14
          try clear c14b0
          try clear c14b1
          try clear c17
          try clear c18
          try clear c18b0
          try clear c18b1
          try clear c21
          try clear c21b0
          try clear c22
          try clear c22b0
          try clear c23
          try clear p23
          try clear q23
          try clear hx23
          try clear qi23
          try clear p25
          try clear q25
          try clear c26
          try clear q27
          try clear c28
          try clear c29
          try clear c30
          try clear c31
          try clear c31b0
          try clear c32
          try clear c32b0
          try clear q33
          try clear c34
          try clear c37
          try clear c37b0
          try clear c37b1
          try clear c39
          try clear c40
          try clear c42
          try clear hcz41_0
          try clear hcz41_1
          try clear hcz41_2
          try clear hcz43_0
          try clear hcz43_1
          try clear hcz43_2
          try clear hcz5_0
          try clear hcz5_1
          try clear hcz5_2
          try clear hfz41_0
          try clear hfz41_1
          try clear hfz41_2
          try clear hfz43_0
          try clear hfz43_1
          try clear hfz43_2
          try clear hfz5_0
          try clear hfz5_1
          try clear hfz5_2
          try clear hx234_0
          try clear hx236_0
          try clear hx236_1
          try clear hx237_0
          try clear hx237_1
          try clear p2
          try clear p23
          try clear p234
          try clear p236
          try clear p237
          try clear p25
          try clear q2
          try clear q23
          try clear q234
          try clear q236
          try clear q237
          try clear q25
          try clear q27
          obtain ⟨kq, x77_35, rfl, HA, HJ35, BK232, BK233, HB⟩ := hcut
          cases kq with
          | zero => exact absurd HA.out (by simp [impl_DfaOk.j4])
          | succ kj35 =>
            have H := HA.out
            clear HA
            simp only [impl_DfaOk.j4] at H
            by_cases c44 : x77_35 = true
            · subst c44
              have H1 : (some false) = some r := by rw [if_pos rfl] at H; exact H
              clear H
              have H := H1
              clear H1
              obtain rfl := Option.some.inj H
              go_wp2
              go_ret
              exact ⟨by first | rfl | (simp [errW_none, errW_some] <;> rfl) | (simp [*, errW_none, errW_some] <;> rfl), by repeat (first | (with_reducible first | exact HB.out | apply below_alloc | apply pw_below_drewN | apply below_drew1 | refine below_set ?_ GE232.out | refine below_set ?_ GE233.out) | exact HB.out)⟩
            · replace c44 := Bool.eq_false_iff.mpr c44
              subst c44
              have H1 : (impl_DfaOk.l2 kj35 l0_1 (l0_1.length : Int) 0 l0_0 l0_1 l0_2) = some r := by rw [if_neg (show ¬ (false = true) by decide)] at H; exact H
              clear H
              have H := H1
              clear H1
              have H' := Aside0.mk H
              clear H
              have hnb45 := NB232_233.out
              have hnc45 := NB233_232.out
              have hcz46_0 : wc.cell? ⟨gb232, 0, none⟩ = some (.slice A0_0 l0_0.length c0_0) := (blk_cell BK232.out 0).trans rfl
              have hcz46_1 : wc.cell? ⟨gb232, 1, none⟩ = some (.slice A0_1 l0_1.length c0_1) := (blk_cell BK232.out 1).trans rfl
              have hcz46_2 : wc.cell? ⟨gb232, 2, none⟩ = some (.slice A0_2 l0_2.length c0_2) := (blk_cell BK232.out 2).trans rfl
              have hfz46_0 := blk_frozen BK232.out 0
              have hfz46_1 := blk_frozen BK232.out 1
              have hfz46_2 := blk_frozen BK232.out 2
              go_wp2
              go_loopg [81] kj35 (fun kq v81 w' => ∃ (x81_3 : Int), v81 = .int .i64 x81_3 ∧ Aside0 (impl_DfaOk.l2 kq l0_1 (l0_1.length : Int) x81_3 l0_0 l0_1 l0_2 = some r) ∧ Aside0 (kq ≤ kj35) ∧ Aside0 (w'.heap[gb232]? = some (.cells #[(.slice A0_0 l0_0.length c0_0), (.slice A0_1 l0_1.length c0_1), (.slice A0_2 l0_2.length c0_2)] 31 (0, 0))) ∧ Aside0 (w'.heap[gb233]? = some (.cells (cellsB 256 x234000_1) 125 (0, 0))) ∧ Aside0 (Below w.heap.size w w'))
              case atStart => exact ⟨(0), (by first | rfl | (simp; done) | (simp [*]; done)), H', ⟨Nat.le_refl _⟩, ⟨by (with_reducible repeat (first | refine blk_drewN ?_ _ | refine blk_drew ?_ | refine blk_alloc ?_ _)); exact BK232.out⟩, ⟨by (with_reducible repeat (first | refine blk_drewN ?_ _ | refine blk_drew ?_ | refine blk_alloc ?_ _)); exact BK233.out⟩, ⟨by repeat (first | (with_reducible first | exact HB.out | apply below_alloc | apply pw_below_drewN | apply below_drew1 | refine below_set ?_ GE232.out | refine below_set ?_ GE233.out) | exact HB.out)⟩⟩
              case round =>
                clear H'
                try clear c1
                try clear c2
                try clear p2
                try clear q2
                try clear hx2
                try clear qi2
                try clear c3
                try clear q3
                try clear c4
                try clear c5
                try clear c6
                try clear c6b0
                try clear p6
                try clear c7
                try clear c7b0
                try clear c8
                try clear c8b0
                try clear c10
                try clear c11
                try clear c12
                try clear c12b0
                try clear c12b1
                try clear c12b2
                try clear c14
                try clear c14b0
                try clear c14b1
                try clear c17
                try clear c18
                try clear c18b0
                try clear c18b1
                try clear c21
                try clear c21b0
                try clear c22
                try clear c22b0
                try clear c23
                try clear p23
                try clear q23
                try clear hx23
                try clear qi23
                try clear p25
                try clear q25
                try clear c26
                try clear q27
                try clear c28
                try clear c29
                try clear c30
                try clear c31
                try clear c31b0
                try clear c32
                try clear c32b0
                try clear q33
                try clear c34
                try clear c37
                try clear c37b0
                try clear c37b1
                try clear c39
                try clear c40
                try clear c42
                try clear c44
                try clear c45
                try clear hcz41_0
                try clear hcz41_1
                try clear hcz41_2
                try clear hcz43_0
                try clear hcz43_1
                try clear hcz43_2
                try clear hcz46_0
                try clear hcz46_1
                try clear hcz46_2
                try clear hcz5_0
                try clear hcz5_1
                try clear hcz5_2
                try clear hfz41_0
                try clear hfz41_1
                try clear hfz41_2
                try clear hfz43_0
                try clear hfz43_1
                try clear hfz43_2
                try clear hfz46_0
                try clear hfz46_1
                try clear hfz46_2
                try clear hfz5_0
                try clear hfz5_1
                try clear hfz5_2
                try clear hx234_0
                try clear hx236_0
                try clear hx236_1
                try clear hx237_0
                try clear hx237_1
                try clear p2
                try clear p23
                try clear p234
                try clear p236
                try clear p237
                try clear p25
                try clear p6
                try clear q2
                try clear q23
                try clear q234
                try clear q236
                try clear q237
                try clear q25
                try clear q27
                try clear q3
                try clear q33
                obtain ⟨x81_3, rfl, HA, HK3, BK232, BK233, HB⟩ := hrel
                cases gk with
                | zero => exact absurd HA.out (by simp [impl_DfaOk.l2])
                | succ k3 =>
                  have H := HA.out
                  clear HA
                  simp only [impl_DfaOk.l2] at H
                  by_cases c47 : x81_3 < (l0_1.length : Int)
                  · rw [if_pos c47] at H
                    have c47b0 : decide (x81_3 < (l0_1.length : Int)) = true := decide_eq_true c47
                    clear c47
                    by_cases c48 : 0 ≤ x81_3
                    · rw [if_pos c48] at H
                      have c48b0 : decide (0 ≤ x81_3) = true := decide_eq_true c48
                      clear c48
                      by_cases c49 : x81_3 < (l0_1.length : Int)
                      · rw [if_pos c49] at H
                        have c49b0 : decide (x81_3 < (l0_1.length : Int)) = true := decide_eq_true c49
                        clear c49
                        have HC50 := Aside0.mk H
                        clear H
                        have p242 : 0 ≤ (x81_3 : Int) := of_decide_eq_true (by first | (with_reducible assumption) | assumption)
                        have q242 : x81_3 < (l0_1.length : Int) := of_decide_eq_true (by first | (with_reducible assumption) | assumption)
                        obtain ⟨ad242, A242_0, c242_0, e242, hx242_0, hl242_0, hi242_0⟩ := at_L3 HR0_1.out x81_3 p242 q242
                        cases e242
                        replace hx242_0 := (HB.out.cell (World.block_lt_of_cell? w _ hx242_0)).trans hx242_0
                        have HR242_0 := Aside0.mk hi242_0
                        have HC242_0 := Aside0.mk hl242_0
                        clear hi242_0 hl242_0
                        replace p242 := eq_true p242
                        replace q242 := eq_true q242
                        go_upto_region 25 with (fail)
                        go_cut [100] (fun v100 wc => ∃ (kq : Nat) (x100_49 : Bool), v100 = .bool x100_49 ∧ Aside0 (impl_DfaOk.j6 kq (rd_L3 l0_1 x81_3) l0_1 (l0_1.length : Int) x81_3 x100_49 l0_0 l0_1 l0_2 = some r) ∧ Aside0 (kq ≤ k3) ∧ Aside0 (wc.heap[gb232]? = some (.cells #[(.slice A0_0 l0_0.length c0_0), (.slice (some ad242) l0_1.length c0_1), (.slice A0_2 l0_2.length c0_2)] 31 (0, 0))) ∧ Aside0 (wc.heap[gb233]? = some (.cells (cellsB 256 x234000_1) 125 (0, 0))) ∧ Aside0 (Below w.heap.size w wc))
                        case first =>
                          have H := HC50.out
                          clear HC50
                          by_cases c51 : ((rd_L3 l0_1 x81_3).length : Int) = (l0_0.length : Int)
                          · rw [if_pos c51] at H
                            have c51b0 : (((rd_L3 l0_1 x81_3).length : Int) == (l0_0.length : Int)) = true := beq_iff_eq.mpr c51
                            have c51b1 : (((rd_L3 l0_1 x81_3).length : Int) != (l0_0.length : Int)) = false := bne_eq_false_iff_eq.mpr c51
                            have c51b2 : ((rd_L3 l0_1 x81_3).length == l0_0.length) = true := by first | simpa using c51 | (simp at c51 ⊢; omega)
                            clear c51
                            (first | rw [c51b0] | (simp only [i64_w, i32_w]; rw [c51b0]) | skip)
                            by_cases c52 : x81_3 < (l0_2.length : Int)
                            · rw [if_pos c52] at H
                              have c52b0 : decide (x81_3 < (l0_2.length : Int)) = true := decide_eq_true c52
                              clear c52
                              replace H := Option.bind_eq_some_iff.mp H
                              obtain ⟨t244, A530, H⟩ := H
                              replace H : (impl_DfaOk.j6 k3 (rd_L3 l0_1 x81_3) l0_1 (l0_1.length : Int) x81_3 (!t244) l0_0 l0_1 l0_2) = some r := H
                              have A53 := Aside0.mk A530
                              clear A530
                              have H' := Aside0.mk H
                              clear H
                              have hnb54 := NB232_233.out
                              have hnc54 := NB233_232.out
                              have hcz55_0 : wr.cell? ⟨gb232, 0, none⟩ = some (.slice A0_0 l0_0.length c0_0) := (blk_cell BK232.out 0).trans rfl
                              have hcz55_1 : wr.cell? ⟨gb232, 1, none⟩ = some (.slice (some ad242) l0_1.length c0_1) := (blk_cell BK232.out 1).trans rfl
                              have hcz55_2 : wr.cell? ⟨gb232, 2, none⟩ = some (.slice A0_2 l0_2.length c0_2) := (blk_cell BK232.out 2).trans rfl
                              have hfz55_0 := blk_frozen BK232.out 0
                              have hfz55_1 := blk_frozen BK232.out 1
                              have hfz55_2 := blk_frozen BK232.out 2
                              have p243 : 0 ≤ (x81_3 : Int) := of_decide_eq_true (by first | (with_reducible assumption) | assumption)
                              have q243 : x81_3 < (l0_2.length : Int) := of_decide_eq_true (by first | (with_reducible assumption) | assumption)
                              obtain ⟨ad243, e243, hx243_0⟩ := Kd.at_int HR0_2.out x81_3 p243 q243
                              cases e243
                              replace hx243_0 := (HB.out.cell (World.block_lt_of_cell? w _ hx243_0)).trans hx243_0
                              replace p243 := eq_true p243
                              replace q243 := eq_true q243
                              go_wp2_with (first | (go_at_call 64; (with_reducible refine (impl_in.calls (rd l0_2 x81_3) (-1) 4 t244 _ A53.out).mono ?_); rintro e w' ⟨rfl, ⟨nd, rfl⟩⟩))
                              go_meet
                              case rel => exact ⟨_, (!t244), (by first | rfl | (simp; done) | (simp [*]; done)), H', ⟨by have := HK1.out; have := HJ35.out; have := HK3.out; first | omega | exact Nat.le_refl _⟩, ⟨by (with_reducible repeat (first | refine blk_drewN ?_ _ | refine blk_drew ?_ | refine blk_alloc ?_ _)); exact BK232.out⟩, ⟨by (with_reducible repeat (first | refine blk_drewN ?_ _ | refine blk_drew ?_ | refine blk_alloc ?_ _)); exact BK233.out⟩, ⟨by repeat (first | (with_reducible first | exact HB.out | apply below_alloc | apply pw_below_drewN | apply below_drew1 | refine below_set ?_ GE232.out | refine below_set ?_ GE233.out) | exact HB.out)⟩⟩
                            · rw [if_neg c52] at H
                              exact absurd H (by simp)
                          · rw [if_neg c51] at H
                            have c51b0 : (((rd_L3 l0_1 x81_3).length : Int) == (l0_0.length : Int)) = false := beq_eq_false_iff_ne.mpr c51
                            have c51b1 : (((rd_L3 l0_1 x81_3).length : Int) != (l0_0.length : Int)) = true := bne_iff_ne.mpr c51
                            have c51b2 : ((rd_L3 l0_1 x81_3).length == l0_0.length) = false := by first | simpa using c51 | (simp at c51 ⊢; omega)
                            (first | rw [c51b0] | (simp only [i64_w, i32_w]; rw [c51b0]) | skip)
                            have H' := Aside0.mk H
                            clear H
                            have hnb56 := NB232_233.out
                            have hnc56 := NB233_232.out
                            have hcz57_0 : wr.cell? ⟨gb232, 0, none⟩ = some (.slice A0_0 l0_0.length c0_0) := (blk_cell BK232.out 0).trans rfl
                            have hcz57_1 : wr.cell? ⟨gb232, 1, none⟩ = some (.slice (some ad242) l0_1.length c0_1) := (blk_cell BK232.out 1).trans rfl
                            have hcz57_2 : wr.cell? ⟨gb232, 2, none⟩ = some (.slice A0_2 l0_2.length c0_2) := (blk_cell BK232.out 2).trans rfl
                            have hfz57_0 := blk_frozen BK232.out 0
                            have hfz57_1 := blk_frozen BK232.out 1
                            have hfz57_2 := blk_frozen BK232.out 2
                            go_wp2
                            go_meet
                            case rel => exact ⟨_, (true), (by first | rfl | (simp; done) | (simp [*]; done)), H', ⟨by have := HK1.out; have := HJ35.out; have := HK3.out; first | omega | exact Nat.le_refl _⟩, ⟨by (with_reducible repeat (first | refine blk_drewN ?_ _ | refine blk_drew ?_ | refine blk_alloc ?_ _)); exact BK232.out⟩, ⟨by (with_reducible repeat (first | refine blk_drewN ?_ _ | refine blk_drew ?_ | refine blk_alloc ?_ _)); exact BK233.out⟩, ⟨by repeat (first | (with_reducible first | exact HB.out | apply below_alloc | apply pw_below_drewN | apply below_drew1 | refine below_set ?_ GE232.out | refine below_set ?_ GE233.out) | exact HB.out)⟩⟩
                        case rest =>
                          clear HC50
                          try clear c1
                          try clear c2
                          try clear p2
                          try clear q2
                          try clear hx2
                          try clear qi2
                          try clear c3
                          try clear q3
                          try clear c4
                          try clear c5
                          try clear c6
                          try clear c6b0
                          try clear p6
                          try clear c7
                          try clear c7b0
                          try clear c8
                          try clear c8b0
                          try clear c10
                          try clear c11
                          try clear c12
                          try clear c12b0
                          try clear c12b1
                          try clear c12b2
                          try clear c14
                          try clear c14b0
                          try clear c14b1
                          try clear c17
                          try clear c18
                          try clear c18b0
                          try clear c18b1
                          try clear c21
                          try clear c21b0
                          try clear c22
                          try clear c22b0
                          try clear c23
                          try clear p23
                          try clear q23
                          try clear hx23
                          try clear qi23
                          try clear c24
                          try clear p24
                          try clear q24
                          try clear hx24
                          try clear p25
                          try clear q25
                          try clear c26
                          try clear q27
                          try clear c28
                          try clear c29
                          try clear c30
                          try clear c31
                          try clear c31b0
                          try clear c32
                          try clear c32b0
                          try clear q33
                          try clear c34
                          try clear c37
                          try clear c37b0
                          try clear c37b1
                          try clear c39
                          try clear c40
                          try clear c42
                          try clear c44
                          try clear c45
                          try clear c47
                          try clear c47b0
                          try clear c48
                          try clear c48b0
                          try clear c49
                          try clear c49b0
                          try clear c51
                          try clear c51b0
                          try clear c51b1
                          try clear c51b2
                          try clear c52
                          try clear c52b0
                          try clear c54
                          try clear c56
                          try clear hcz41_0
                          try clear hcz41_1
                          try clear hcz41_2
                          try clear hcz43_0
                          try clear hcz43_1
                          try clear hcz43_2
                          try clear hcz46_0
                          try clear hcz46_1
                          try clear hcz46_2
                          try clear hcz55_0
                          try clear hcz55_1
                          try clear hcz55_2
                          try clear hcz57_0
                          try clear hcz57_1
                          try clear hcz57_2
                          try clear hcz5_0
                          try clear hcz5_1
                          try clear hcz5_2
                          try clear hfz41_0
                          try clear hfz41_1
                          try clear hfz41_2
                          try clear hfz43_0
                          try clear hfz43_1
                          try clear hfz43_2
                          try clear hfz46_0
                          try clear hfz46_1
                          try clear hfz46_2
                          try clear hfz55_0
                          try clear hfz55_1
                          try clear hfz55_2
                          try clear hfz57_0
                          try clear hfz57_1
                          try clear hfz57_2
                          try clear hfz5_0
                          try clear hfz5_1
                          try clear hfz5_2
                          try clear hx234_0
                          try clear hx236_0
                          try clear hx236_1
                          try clear hx237_0
                          try clear hx237_1
                          try clear hx242_0
                          try clear hx243_0
                          try clear p2
                          try clear p23
                          try clear p234
                          try clear p236
                          try clear p237
                          try clear p242
                          try clear p243
                          try clear p25
                          try clear p6
                          try clear q2
                          try clear q23
                          try clear q234
                          try clear q236
                          try clear q237
                          try clear q242
                          try clear q243
                          try clear q25
                          try clear q27
                          try clear q3
                          try clear q33
                          obtain ⟨kq, x100_49, rfl, HA, HJ49, BK232, BK233, HB⟩ := hcut
                          cases kq with
                          | zero => exact absurd HA.out (by simp [impl_DfaOk.j6])
                          | succ kj49 =>
                            have H := HA.out
                            clear HA
                            simp only [impl_DfaOk.j6] at H
                            by_cases c58 : x100_49 = true
                            · subst c58
                              have H1 : (some false) = some r := by rw [if_pos rfl] at H; exact H
                              clear H
                              have H := H1
                              clear H1
                              obtain rfl := Option.some.inj H
                              go_wp2
                              go_ret
                              exact ⟨by first | rfl | (simp [errW_none, errW_some] <;> rfl) | (simp [*, errW_none, errW_some] <;> rfl), by repeat (first | (with_reducible first | exact HB.out | apply below_alloc | apply pw_below_drewN | apply below_drew1 | refine below_set ?_ GE232.out | refine below_set ?_ GE233.out) | exact HB.out)⟩
                            · replace c58 := Bool.eq_false_iff.mpr c58
                              subst c58
                              have H1 : (impl_DfaOk.l3 kj49 l0_1 (l0_1.length : Int) x81_3 (rd_L3 l0_1 x81_3) ((rd_L3 l0_1 x81_3).length : Int) 0 l0_0 l0_1 l0_2) = some r := by rw [if_neg (show ¬ (false = true) by decide)] at H; exact H
                              clear H
                              have H := H1
                              clear H1
                              have H' := Aside0.mk H
                              clear H
                              go_wp2
                              go_loopg [103] kj49 (fun kq v103 w' => ∃ (x103_5 : Int), v103 = .int .i64 x103_5 ∧ Aside0 (impl_DfaOk.l3 kq l0_1 (l0_1.length : Int) x81_3 (rd_L3 l0_1 x81_3) ((rd_L3 l0_1 x81_3).length : Int) x103_5 l0_0 l0_1 l0_2 = some r) ∧ Aside0 (kq ≤ kj49) ∧ Aside0 (w'.heap[gb232]? = some (.cells #[(.slice A0_0 l0_0.length c0_0), (.slice (some ad242) l0_1.length c0_1), (.slice A0_2 l0_2.length c0_2)] 31 (0, 0))) ∧ Aside0 (w'.heap[gb233]? = some (.cells (cellsB 256 x234000_1) 125 (0, 0))) ∧ Aside0 (Below w.heap.size w w'))
                              case atStart => exact ⟨(0), (by first | rfl | (simp; done) | (simp [*]; done)), H', ⟨Nat.le_refl _⟩, ⟨by (with_reducible repeat (first | refine blk_drewN ?_ _ | refine blk_drew ?_ | refine blk_alloc ?_ _)); exact BK232.out⟩, ⟨by (with_reducible repeat (first | refine blk_drewN ?_ _ | refine blk_drew ?_ | refine blk_alloc ?_ _)); exact BK233.out⟩, ⟨by repeat (first | (with_reducible first | exact HB.out | apply below_alloc | apply pw_below_drewN | apply below_drew1 | refine below_set ?_ GE232.out | refine below_set ?_ GE233.out) | exact HB.out)⟩⟩
                              case round =>
                                clear H'
                                try clear c1
                                try clear c2
                                try clear p2
                                try clear q2
                                try clear hx2
                                try clear qi2
                                try clear c3
                                try clear q3
                                try clear c4
                                try clear c5
                                try clear c6
                                try clear c6b0
                                try clear p6
                                try clear c7
                                try clear c7b0
                                try clear c8
                                try clear c8b0
                                try clear c10
                                try clear c11
                                try clear c12
                                try clear c12b0
                                try clear c12b1
                                try clear c12b2
                                try clear c14
                                try clear c14b0
                                try clear c14b1
                                try clear c17
                                try clear c18
                                try clear c18b0
                                try clear c18b1
                                try clear c21
                                try clear c21b0
                                try clear c22
                                try clear c22b0
                                try clear c23
                                try clear p23
                                try clear q23
                                try clear hx23
                                try clear qi23
                                try clear c24
                                try clear p24
                                try clear q24
                                try clear hx24
                                try clear p25
                                try clear q25
                                try clear c26
                                try clear q27
                                try clear c28
                                try clear c29
                                try clear c30
                                try clear c31
                                try clear c31b0
                                try clear c32
                                try clear c32b0
                                try clear q33
                                try clear c34
                                try clear c37
                                try clear c37b0
                                try clear c37b1
                                try clear c39
                                try clear c40
                                try clear c42
                                try clear c44
                                try clear c45
                                try clear c47
                                try clear c47b0
                                try clear c48
                                try clear c48b0
                                try clear c49
                                try clear c49b0
                                try clear c51
                                try clear c51b0
                                try clear c51b1
                                try clear c51b2
                                try clear c52
                                try clear c52b0
                                try clear c54
                                try clear c56
                                try clear c58
                                try clear hcz41_0
                                try clear hcz41_1
                                try clear hcz41_2
                                try clear hcz43_0
                                try clear hcz43_1
                                try clear hcz43_2
                                try clear hcz46_0
                                try clear hcz46_1
                                try clear hcz46_2
                                try clear hcz55_0
                                try clear hcz55_1
                                try clear hcz55_2
                                try clear hcz57_0
                                try clear hcz57_1
                                try clear hcz57_2
                                try clear hcz5_0
                                try clear hcz5_1
                                try clear hcz5_2
                                try clear hfz41_0
                                try clear hfz41_1
                                try clear hfz41_2
                                try clear hfz43_0
                                try clear hfz43_1
                                try clear hfz43_2
                                try clear hfz46_0
                                try clear hfz46_1
                                try clear hfz46_2
                                try clear hfz55_0
                                try clear hfz55_1
                                try clear hfz55_2
                                try clear hfz57_0
                                try clear hfz57_1
                                try clear hfz57_2
                                try clear hfz5_0
                                try clear hfz5_1
                                try clear hfz5_2
                                try clear hx234_0
                                try clear hx236_0
                                try clear hx236_1
                                try clear hx237_0
                                try clear hx237_1
                                try clear hx242_0
                                try clear hx243_0
                                try clear p2
                                try clear p23
                                try clear p234
                                try clear p236
                                try clear p237
                                try clear p24
                                try clear p242
                                try clear p243
                                try clear p25
                                try clear p6
                                try clear q2
                                try clear q23
                                try clear q234
                                try clear q236
                                try clear q237
                                try clear q24
                                try clear q242
                                try clear q243
                                try clear q25
                                try clear q27
                                try clear q3
                                try clear q33
                                obtain ⟨x103_5, rfl, HA, HK5, BK232, BK233, HB⟩ := hrel
                                cases gk with
                                | zero => exact absurd HA.out (by simp [impl_DfaOk.l3])
                                | succ k5 =>
                                  have H := HA.out
                                  clear HA
                                  simp only [impl_DfaOk.l3] at H
                                  by_cases c59 : x103_5 < ((rd_L3 l0_1 x81_3).length : Int)
                                  · rw [if_pos c59] at H
                                    have c59b0 : decide (x103_5 < ((rd_L3 l0_1 x81_3).length : Int)) = true := decide_eq_true c59
                                    clear c59
                                    by_cases c60 : 0 ≤ x103_5
                                    · rw [if_pos c60] at H
                                      have c60b0 : decide (0 ≤ x103_5) = true := decide_eq_true c60
                                      clear c60
                                      by_cases c61 : x103_5 < ((rd_L3 l0_1 x81_3).length : Int)
                                      · rw [if_pos c61] at H
                                        have c61b0 : decide (x103_5 < ((rd_L3 l0_1 x81_3).length : Int)) = true := decide_eq_true c61
                                        clear c61
                                        replace H := Option.bind_eq_some_iff.mp H
                                        obtain ⟨t246, A620, H⟩ := H
                                        replace H : (if t246 = true then (impl_DfaOk.l3 k5 l0_1 (l0_1.length : Int) x81_3 (rd_L3 l0_1 x81_3) ((rd_L3 l0_1 x81_3).length : Int) (wrap64 (x103_5 + 1)) l0_0 l0_1 l0_2) else (some false)) = some r := H
                                        have A62 := Aside0.mk A620
                                        clear A620
                                        by_cases c63 : t246 = true
                                        · subst c63
                                          have H1 : (impl_DfaOk.l3 k5 l0_1 (l0_1.length : Int) x81_3 (rd_L3 l0_1 x81_3) ((rd_L3 l0_1 x81_3).length : Int) (wrap64 (x103_5 + 1)) l0_0 l0_1 l0_2) = some r := by rw [if_pos rfl] at H; exact H
                                          clear H
                                          have H := H1
                                          clear H1
                                          have H' := Aside0.mk H
                                          clear H
                                          have p245 : 0 ≤ (x103_5 : Int) := of_decide_eq_true (by first | (with_reducible assumption) | assumption)
                                          have q245 : x103_5 < ((rd_L3 l0_1 x81_3).length : Int) := of_decide_eq_true (by first | (with_reducible assumption) | assumption)
                                          obtain ⟨ad245, e245, hx245_0⟩ := Kd.at_int HR242_0.out x103_5 p245 q245
                                          cases e245
                                          replace hx245_0 := (HB.out.cell (World.block_lt_of_cell? w _ hx245_0)).trans hx245_0
                                          replace p245 := eq_true p245
                                          replace q245 := eq_true q245
                                          have hnb64 := NB232_233.out
                                          have hnc64 := NB233_232.out
                                          have hcz65_0 : wr.cell? ⟨gb232, 0, none⟩ = some (.slice A0_0 l0_0.length c0_0) := (blk_cell BK232.out 0).trans rfl
                                          have hcz65_1 : wr.cell? ⟨gb232, 1, none⟩ = some (.slice (some ad242) l0_1.length c0_1) := (blk_cell BK232.out 1).trans rfl
                                          have hcz65_2 : wr.cell? ⟨gb232, 2, none⟩ = some (.slice A0_2 l0_2.length c0_2) := (blk_cell BK232.out 2).trans rfl
                                          have hfz65_0 := blk_frozen BK232.out 0
                                          have hfz65_1 := blk_frozen BK232.out 1
                                          have hfz65_2 := blk_frozen BK232.out 2
                                          go_wp2_with (first | ((with_reducible refine gate_callee (f := 64) rfl ?_); refine goesL_ (some 112) rfl rfl Try.func64 (by kernel_rfl) rfl #[.int .i64 (rd (rd_L3 l0_1 x81_3) x103_5), .int .i64 (-1), .int .i64 (wrap64 ((l0_1.length : Int) - 1))] rfl (by (try simp only [List.map_toArray, List.map_cons, List.map_nil]); first | done | rfl | (simp only [List.length_drop, List.length_take]; rfl)) ?_; (with_reducible refine (impl_in.calls (rd (rd_L3 l0_1 x81_3) x103_5) (-1) (wrap64 ((l0_1.length : Int) - 1)) true _ A62.out).mono ?_); rintro e w' ⟨rfl, ⟨nd, rfl⟩⟩; refine ⟨_, rfl, ?_⟩))
                                          go_roundg k5
                                          case measure => have := HK1.out; have := HJ35.out; have := HK3.out; have := HJ49.out; have := HK5.out; omega
                                          case rel => exact ⟨(wrap64 (x103_5 + 1)), (by first | rfl | (simp; done) | (simp [*]; done)), H', ⟨by have := HK1.out; have := HJ35.out; have := HK3.out; have := HJ49.out; have := HK5.out; omega⟩, ⟨by (with_reducible repeat (first | refine blk_drewN ?_ _ | refine blk_drew ?_ | refine blk_alloc ?_ _)); exact BK232.out⟩, ⟨by (with_reducible repeat (first | refine blk_drewN ?_ _ | refine blk_drew ?_ | refine blk_alloc ?_ _)); exact BK233.out⟩, ⟨by repeat (first | (with_reducible first | exact HB.out | apply below_alloc | apply pw_below_drewN | apply below_drew1 | refine below_set ?_ GE232.out | refine below_set ?_ GE233.out) | exact HB.out)⟩⟩
                                        · replace c63 := Bool.eq_false_iff.mpr c63
                                          subst c63
                                          have H1 : (some false) = some r := by rw [if_neg (show ¬ (false = true) by decide)] at H; exact H
                                          clear H
                                          have H := H1
                                          clear H1
                                          obtain rfl := Option.some.inj H
                                          have p245 : 0 ≤ (x103_5 : Int) := of_decide_eq_true (by first | (with_reducible assumption) | assumption)
                                          have q245 : x103_5 < ((rd_L3 l0_1 x81_3).length : Int) := of_decide_eq_true (by first | (with_reducible assumption) | assumption)
                                          obtain ⟨ad245, e245, hx245_0⟩ := Kd.at_int HR242_0.out x103_5 p245 q245
                                          cases e245
                                          replace hx245_0 := (HB.out.cell (World.block_lt_of_cell? w _ hx245_0)).trans hx245_0
                                          replace p245 := eq_true p245
                                          replace q245 := eq_true q245
                                          have hnb66 := NB232_233.out
                                          have hnc66 := NB233_232.out
                                          have hcz67_0 : wr.cell? ⟨gb232, 0, none⟩ = some (.slice A0_0 l0_0.length c0_0) := (blk_cell BK232.out 0).trans rfl
                                          have hcz67_1 : wr.cell? ⟨gb232, 1, none⟩ = some (.slice (some ad242) l0_1.length c0_1) := (blk_cell BK232.out 1).trans rfl
                                          have hcz67_2 : wr.cell? ⟨gb232, 2, none⟩ = some (.slice A0_2 l0_2.length c0_2) := (blk_cell BK232.out 2).trans rfl
                                          have hfz67_0 := blk_frozen BK232.out 0
                                          have hfz67_1 := blk_frozen BK232.out 1
                                          have hfz67_2 := blk_frozen BK232.out 2
                                          go_wp2_with (first | ((with_reducible refine gate_callee (f := 64) rfl ?_); refine goesL_ (some 112) rfl rfl Try.func64 (by kernel_rfl) rfl #[.int .i64 (rd (rd_L3 l0_1 x81_3) x103_5), .int .i64 (-1), .int .i64 (wrap64 ((l0_1.length : Int) - 1))] rfl (by (try simp only [List.map_toArray, List.map_cons, List.map_nil]); first | done | rfl | (simp only [List.length_drop, List.length_take]; rfl)) ?_; (with_reducible refine (impl_in.calls (rd (rd_L3 l0_1 x81_3) x103_5) (-1) (wrap64 ((l0_1.length : Int) - 1)) false _ A62.out).mono ?_); rintro e w' ⟨rfl, ⟨nd, rfl⟩⟩; refine ⟨_, rfl, ?_⟩))
                                          go_ret
                                          exact ⟨by first | rfl | (simp [errW_none, errW_some] <;> rfl) | (simp [*, errW_none, errW_some] <;> rfl), by repeat (first | (with_reducible first | exact HB.out | apply below_alloc | apply pw_below_drewN | apply below_drew1 | refine below_set ?_ GE232.out | refine below_set ?_ GE233.out) | exact HB.out)⟩
                                      · rw [if_neg c61] at H
                                        exact absurd H (by simp)
                                    · rw [if_neg c60] at H
                                      exact absurd H (by simp)
                                  · rw [if_neg c59] at H
                                    have c59b0 : decide (x103_5 < ((rd_L3 l0_1 x81_3).length : Int)) = false := decide_eq_false c59
                                    clear c59
                                    have H' := Aside0.mk H
                                    clear H
                                    go_wp2
                                    go_roundg k5
                                    case measure => have := HK1.out; have := HJ35.out; have := HK3.out; have := HJ49.out; have := HK5.out; omega
                                    case rel => exact ⟨(wrap64 (x81_3 + 1)), (by first | rfl | (simp; done) | (simp [*]; done)), H', ⟨by have := HK1.out; have := HJ35.out; have := HK3.out; have := HJ49.out; have := HK5.out; omega⟩, ⟨by (with_reducible repeat (first | refine blk_drewN ?_ _ | refine blk_drew ?_ | refine blk_alloc ?_ _)); exact BK232.out⟩, ⟨by (with_reducible repeat (first | refine blk_drewN ?_ _ | refine blk_drew ?_ | refine blk_alloc ?_ _)); exact BK233.out⟩, ⟨by repeat (first | (with_reducible first | exact HB.out | apply below_alloc | apply pw_below_drewN | apply below_drew1 | refine below_set ?_ GE232.out | refine below_set ?_ GE233.out) | exact HB.out)⟩⟩
                      · rw [if_neg c49] at H
                        exact absurd H (by simp)
                    · rw [if_neg c48] at H
                      exact absurd H (by simp)
                  · rw [if_neg c47] at H
                    have c47b0 : decide (x81_3 < (l0_1.length : Int)) = false := decide_eq_false c47
                    clear c47
                    obtain rfl := Option.some.inj H
                    go_wp2
                    go_ret
                    exact ⟨by first | rfl | (simp [errW_none, errW_some] <;> rfl) | (simp [*, errW_none, errW_some] <;> rfl), by repeat (first | (with_reducible first | exact HB.out | apply below_alloc | apply pw_below_drewN | apply below_drew1 | refine below_set ?_ GE232.out | refine below_set ?_ GE233.out) | exact HB.out)⟩
end Go.Proofs.Ytigmibfacllhmaa.P

namespace Go.Proofs.Ytigmibfacllhmaa.P
open Go.RowKit Go.Proofs.YtigmibfacllhmaaW.PrintWords Go.Proofs.YtigmibfacllhmaaW.PrintLast Go.Proofs.YtigmibfacllhmaaW.PrintMore
attribute [local go_sem] max2_int min2_int max_two min_two max_three min_three max_four min_four   -- for this text's walks alone
set_option linter.unusedVariables false
set_option linter.unusedSimpArgs false
open Go.Proofs.Ytigmibfacllhmaa.Arr
def impl_lexAt.l0 : Nat → List ((List Int)) → ByteArray → Int → Int → Int → Int → List (List (S117)) → List (List Int) → List Int → Option (Int × Int)
  | 0, _, _, _, _, _, _, _, _, _ => none
  | k + 1, x1, x2, x10, x11, x12, x13, x352000, x352001, x352002 => if x13 < (x2.size : Int) then (if 0 ≤ x13 then (if 0 ≤ x12 then (if x12 < (x1.length : Int) then (if 0 ≤ (bt x2 x13) then (if (bt x2 x13) < 256 then (if (rd (rdA x1 x12) (bt x2 x13)) < 0 then (some (x10, x11)) else (if 0 ≤ (rd (rdA x1 x12) (bt x2 x13)) then (if (rd (rdA x1 x12) (bt x2 x13)) < (x352002.length : Int) then (if (rd x352002 (rd (rdA x1 x12) (bt x2 x13))) ≥ 0 then (impl_lexAt.l0 k x1 x2 (rd x352002 (rd (rdA x1 x12) (bt x2 x13))) (wrap64 (x13 + 1)) (rd (rdA x1 x12) (bt x2 x13)) (wrap64 (x13 + 1)) x352000 x352001 x352002) else (impl_lexAt.l0 k x1 x2 x10 x11 (rd (rdA x1 x12) (bt x2 x13)) (wrap64 (x13 + 1)) x352000 x352001 x352002)) else (none)) else (none))) else (none)) else (none)) else (none)) else (none)) else (none)) else (some (x10, x11))
def impl_lexAt.f (k : Nat) (l0_0 : List (List (S117))) (l0_1 : List (List Int)) (l0_2 : List Int) (l1 : List ((List Int))) (a2 : ByteArray) (a3 : Int) : Option (Int × Int) := impl_lexAt.l0 k l1 a2 (-1) a3 0 a3 l0_0 l0_1 l0_2
theorem impl_lexAt.mono_l : ∀ k, (∀ y0 y1 y2 y3 y4 y5 y6 y7 y8, LeO (impl_lexAt.l0 k y0 y1 y2 y3 y4 y5 y6 y7 y8) (impl_lexAt.l0 (k + 1) y0 y1 y2 y3 y4 y5 y6 y7 y8))
  | 0 => fun _ _ _ _ _ _ _ _ _ r h => by simp [impl_lexAt.l0] at h
  | k + 1 => by
    have ih0 := impl_lexAt.mono_l k
    · intro y0 y1 y2 y3 y4 y5 y6 y7 y8
      unfold impl_lexAt.l0
      repeat' first
      | (with_reducible exact ih0 _ _ _ _ _ _ _ _ _)
      | (with_reducible exact LeO.refl _)
      | (with_reducible exact LeO.none _)
      | (with_reducible refine LeO.ite ?_ ?_)
      | (with_reducible refine LeO.bind ?_ (fun _ => ?_))
      | exact ih0 _ _ _ _ _ _ _ _ _
      | exact LeO.none _
      | refine LeO.ite ?_ ?_
      | refine LeO.bind ?_ (fun _ => ?_)
theorem impl_lexAt.mono : ∀ a0 a1 a2 a3 a4 a5 k, LeO (impl_lexAt.f k a0 a1 a2 a3 a4 a5) (impl_lexAt.f (k + 1) a0 a1 a2 a3 a4 a5) := by
  intro a0 a1 a2 a3 a4 a5 k
  have ih0 := impl_lexAt.mono_l k
  unfold impl_lexAt.f
  repeat' first
      | (with_reducible exact ih0 _ _ _ _ _ _ _ _ _)
      | (with_reducible exact LeO.refl _)
      | (with_reducible exact LeO.none _)
      | (with_reducible refine LeO.ite ?_ ?_)
      | (with_reducible refine LeO.bind ?_ (fun _ => ?_))
      | exact ih0 _ _ _ _ _ _ _ _ _
      | exact LeO.none _
      | refine LeO.ite ?_ ?_
      | refine LeO.bind ?_ (fun _ => ?_)
set_option maxHeartbeats 8000000 in
set_option maxRecDepth 100000 in
theorem impl_lexAt.calls (k : Nat) (A0_0 : Option Addr) (c0_0 : Nat) (l0_0 : List (List (S117))) (A0_1 : Option Addr) (c0_1 : Nat) (l0_1 : List (List Int)) (A0_2 : Option Addr) (c0_2 : Nat) (l0_2 : List Int) (A1 : Option Addr) (c1 : Nat) (l1 : List ((List Int))) (a2 : ByteArray) (a3 : Int) (r1 : Int) (r2 : Int) (w : World) (hr0_0 : Kd.C (Kd.slice 117 k117) w A0_0 l0_0.length l0_0) (hc0_0 : l0_0.length ≤ c0_0) (hr0_1 : Kd.C (Kd.slice 3 (Kd.int .i64)) w A0_1 l0_1.length l0_1) (hc0_1 : l0_1.length ≤ c0_1) (hr0_2 : Kd.C (Kd.int .i64) w A0_2 l0_2.length l0_2) (hc0_2 : l0_2.length ≤ c0_2) (hr1 : Kd.C (kArr 256) w A1 l1.length l1) (hc1 : l1.length ≤ c1) (h : impl_lexAt.f k l0_0 l0_1 l0_2 l1 a2 a3 = some (r1, r2)) :
    Calls Try.prog 65 #[.agg #[.slice A0_0 l0_0.length c0_0, .slice A0_1 l0_1.length c0_1, .slice A0_2 l0_2.length c0_2], .slice A1 l1.length c1, .string a2, .int .i64 a3] w fun e w' => e = .returned (.tuple #[.int .i64 r1, .int .i64 r2]) ∧ Below w.heap.size w w' := by
  have hu31 := Try.underlying31
  have HR0_0 := Aside0.mk hr0_0
  have HC0_0 := Aside0.mk hc0_0
  clear hr0_0 hc0_0
  have HR0_1 := Aside0.mk hr0_1
  have HC0_1 := Aside0.mk hc0_1
  clear hr0_1 hc0_1
  have HR0_2 := Aside0.mk hr0_2
  have HC0_2 := Aside0.mk hc0_2
  clear hr0_2 hc0_2
  have HR1 := Aside0.mk hr1
  have HC1 := Aside0.mk hc1
  clear hr1 hc1
  have HB := Aside0.mk (Below.refl w.heap.size w)
  have H : (impl_lexAt.l0 k l1 a2 (-1) a3 0 a3 l0_0 l0_1 l0_2) = some (r1, r2) := h
  clear h
  have H' := Aside0.mk H
  clear H
  go_enter Try.func65, Try.ntmps65
  go_wp2_with (first | ((with_reducible refine gate_dst (N := 4) rfl ?_); refine box_event ?hg (N := 4) ?hd (cs := #[.slice A0_0 l0_0.length c0_0, .slice A0_1 l0_1.length c0_1, .slice A0_2 l0_2.length c0_2]) (t := 31) ?hr ?_; (case hd => rfl); (case hg => rfl); (case hr => first | (go_simp; done) | (go_simp; rfl)); intro gb351 hg w5 hbox hb; have n0_ := Aside0.mk (below_step (by repeat (first | (with_reducible first | exact HB.out | apply below_alloc | apply pw_below_drewN | apply below_drew1) | exact HB.out)) hb); have n1_ := Aside0.mk (hbox); have n2_ := Aside0.mk ((by rw [hg]; exact (below_size (by repeat (first | (with_reducible first | exact HB.out | apply below_alloc | apply pw_below_drewN | apply below_drew1) | exact HB.out))) : w.heap.size ≤ gb351)); have n3_ := Aside0.mk ((by rw [hg]; exact (below_size (by repeat (first | (with_reducible first | exact HB.out | apply below_alloc | apply pw_below_drewN | apply below_drew1) | exact HB.out))) : w.heap.size ≤ gb351)); clear HB; have HB := n0_; have BK351 := n1_; have GW351 := n2_; have GE351 := n3_; clear n0_ n1_ n2_ n3_; clear hb hbox hg))
  repeat (go_quiet (first | ((with_reducible refine gate_dst (N := 4) rfl ?_); refine box_event ?hg (N := 4) ?hd (cs := #[.slice A0_0 l0_0.length c0_0, .slice A0_1 l0_1.length c0_1, .slice A0_2 l0_2.length c0_2]) (t := 31) ?hr ?_; (case hd => rfl); (case hg => rfl); (case hr => first | (go_simp; done) | (go_simp; rfl)); intro gb351 hg w5 hbox hb; have n0_ := Aside0.mk (below_step (by repeat (first | (with_reducible first | exact HB.out | apply below_alloc | apply pw_below_drewN | apply below_drew1) | exact HB.out)) hb); have n1_ := Aside0.mk (hbox); have n2_ := Aside0.mk ((by rw [hg]; exact (below_size (by repeat (first | (with_reducible first | exact HB.out | apply below_alloc | apply pw_below_drewN | apply below_drew1) | exact HB.out))) : w.heap.size ≤ gb351)); have n3_ := Aside0.mk ((by rw [hg]; exact (below_size (by repeat (first | (with_reducible first | exact HB.out | apply below_alloc | apply pw_below_drewN | apply below_drew1) | exact HB.out))) : w.heap.size ≤ gb351)); clear HB; have HB := n0_; have BK351 := n1_; have GW351 := n2_; have GE351 := n3_; clear n0_ n1_ n2_ n3_; clear hb hbox hg)); try go_wp2_with (first | ((with_reducible refine gate_dst (N := 4) rfl ?_); refine box_event ?hg (N := 4) ?hd (cs := #[.slice A0_0 l0_0.length c0_0, .slice A0_1 l0_1.length c0_1, .slice A0_2 l0_2.length c0_2]) (t := 31) ?hr ?_; (case hd => rfl); (case hg => rfl); (case hr => first | (go_simp; done) | (go_simp; rfl)); intro gb351 hg w5 hbox hb; have n0_ := Aside0.mk (below_step (by repeat (first | (with_reducible first | exact HB.out | apply below_alloc | apply pw_below_drewN | apply below_drew1) | exact HB.out)) hb); have n1_ := Aside0.mk (hbox); have n2_ := Aside0.mk ((by rw [hg]; exact (below_size (by repeat (first | (with_reducible first | exact HB.out | apply below_alloc | apply pw_below_drewN | apply below_drew1) | exact HB.out))) : w.heap.size ≤ gb351)); have n3_ := Aside0.mk ((by rw [hg]; exact (below_size (by repeat (first | (with_reducible first | exact HB.out | apply below_alloc | apply pw_below_drewN | apply below_drew1) | exact HB.out))) : w.heap.size ≤ gb351)); clear HB; have HB := n0_; have BK351 := n1_; have GW351 := n2_; have GE351 := n3_; clear n0_ n1_ n2_ n3_; clear hb hbox hg)))
  go_loopg [10, 11, 12, 13] k (fun kq v10 v11 v12 v13 w' => ∃ (x10_1 : Int) (x11_1 : Int) (x12_1 : Int) (x13_1 : Int), v10 = .int .i64 x10_1 ∧ v11 = .int .i64 x11_1 ∧ v12 = .int .i64 x12_1 ∧ v13 = .int .i64 x13_1 ∧ Aside0 (impl_lexAt.l0 kq l1 a2 x10_1 x11_1 x12_1 x13_1 l0_0 l0_1 l0_2 = some (r1, r2)) ∧ Aside0 (kq ≤ k) ∧ Aside0 (w'.heap[gb351]? = some (.cells #[(.slice A0_0 l0_0.length c0_0), (.slice A0_1 l0_1.length c0_1), (.slice A0_2 l0_2.length c0_2)] 31 (0, 0))) ∧ Aside0 (Below w.heap.size w w'))
  case atStart => exact ⟨((-1)), (a3), (0), (a3), (by first | rfl | (simp; done) | (simp [*]; done)), (by first | rfl | (simp; done) | (simp [*]; done)), (by first | rfl | (simp; done) | (simp [*]; done)), (by first | rfl | (simp; done) | (simp [*]; done)), H', ⟨Nat.le_refl _⟩, ⟨by (with_reducible repeat (first | refine blk_drewN ?_ _ | refine blk_drew ?_ | refine blk_alloc ?_ _)); exact BK351.out⟩, ⟨by repeat (first | (with_reducible first | exact HB.out | apply below_alloc | apply pw_below_drewN | apply below_drew1 | refine below_set ?_ GE351.out) | exact HB.out)⟩⟩
  case round =>
    clear H'
    try clear c1
    try clear p2
    obtain ⟨x10_1, x11_1, x12_1, x13_1, rfl, rfl, rfl, rfl, HA, HK1, BK351, HB⟩ := hrel
    cases gk with
    | zero => exact absurd HA.out (by simp [impl_lexAt.l0])
    | succ k1 =>
      have H := HA.out
      clear HA
      simp only [impl_lexAt.l0] at H
      by_cases c6 : x13_1 < (a2.size : Int)
      · rw [if_pos c6] at H
        have c6b0 : decide (x13_1 < (a2.size : Int)) = true := decide_eq_true c6
        clear c6
        by_cases c7 : 0 ≤ x13_1
        · rw [if_pos c7] at H
          have c7b0 : decide (0 ≤ x13_1) = true := decide_eq_true c7
          clear c7
          by_cases c9 : 0 ≤ x12_1
          · rw [if_pos c9] at H
            have c9b0 : decide (0 ≤ x12_1) = true := decide_eq_true c9
            clear c9
            by_cases c10 : x12_1 < (l1.length : Int)
            · rw [if_pos c10] at H
              have c10b0 : decide (x12_1 < (l1.length : Int)) = true := decide_eq_true c10
              clear c10
              by_cases c11 : 0 ≤ (bt a2 x13_1)
              · rw [if_pos c11] at H
                have c11b0 : decide (0 ≤ (bt a2 x13_1)) = true := decide_eq_true c11
                clear c11
                by_cases c12 : (bt a2 x13_1) < 256
                · rw [if_pos c12] at H
                  have c12b0 : decide ((bt a2 x13_1) < 256) = true := decide_eq_true c12
                  clear c12
                  by_cases c13 : (rd (rdA l1 x12_1) (bt a2 x13_1)) < 0
                  · rw [if_pos c13] at H
                    have c13b0 : decide ((rd (rdA l1 x12_1) (bt a2 x13_1)) < 0) = true := decide_eq_true c13
                    clear c13
                    simp only [Option.some.injEq, Prod.mk.injEq] at H
                    obtain ⟨rfl, rfl⟩ := H
                    have p8 : 0 ≤ (x13_1 : Int) := of_decide_eq_true (by first | (with_reducible assumption) | assumption)
                    have q8 : x13_1 < (a2.size : Int) := of_decide_eq_true (by first | (with_reducible assumption) | assumption)
                    have hx8 := bt_at a2 x13_1
                    replace p8 := eq_true p8
                    replace q8 := eq_true q8
                    have pz352 : 0 ≤ (x12_1 : Int) := of_decide_eq_true (by first | (with_reducible assumption) | assumption)
                    have qz352 : (x12_1 : Int) < (l1.length : Int) := of_decide_eq_true (by first | (with_reducible assumption) | assumption)
                    have paz352 : 0 ≤ ((bt a2 x13_1) : Int) := of_decide_eq_true (by first | (with_reducible assumption) | assumption)
                    have qaz352 : ((bt a2 x13_1) : Int) < 256 := of_decide_eq_true (by first | (with_reducible assumption) | assumption)
                    obtain ⟨adz352, ez352, hxz352⟩ := at_arr (n := 256) HR1.out x12_1 pz352 qz352 (bt a2 x13_1) paz352 qaz352
                    cases ez352
                    (try replace hxz352 := (HB.out.cell (World.block_lt_of_cell? w _ hxz352)).trans hxz352)
                    replace pz352 := eq_true pz352
                    replace paz352 := eq_true paz352
                    replace qz352 := eq_true qz352
                    replace qaz352 := eq_true qaz352
                    go_wp2
                    repeat (go_quiet (fail); try go_wp2)
                    go_ret2
                    exact ⟨by first | rfl | (simp [errW_none, errW_some] <;> rfl) | (simp [*, errW_none, errW_some] <;> rfl), by repeat (first | (with_reducible first | exact HB.out | apply below_alloc | apply pw_below_drewN | apply below_drew1 | refine below_set ?_ GE351.out) | exact HB.out)⟩
                  · rw [if_neg c13] at H
                    have c13b0 : decide ((rd (rdA l1 x12_1) (bt a2 x13_1)) < 0) = false := decide_eq_false c13
                    clear c13
                    by_cases c14 : 0 ≤ (rd (rdA l1 x12_1) (bt a2 x13_1))
                    · rw [if_pos c14] at H
                      have c14b0 : decide (0 ≤ (rd (rdA l1 x12_1) (bt a2 x13_1))) = true := decide_eq_true c14
                      clear c14
                      by_cases c15 : (rd (rdA l1 x12_1) (bt a2 x13_1)) < (l0_2.length : Int)
                      · rw [if_pos c15] at H
                        have c15b0 : decide ((rd (rdA l1 x12_1) (bt a2 x13_1)) < (l0_2.length : Int)) = true := decide_eq_true c15
                        clear c15
                        by_cases c16 : (rd l0_2 (rd (rdA l1 x12_1) (bt a2 x13_1))) ≥ 0
                        · rw [if_pos c16] at H
                          have c16b0 : decide (0 ≤ (rd l0_2 (rd (rdA l1 x12_1) (bt a2 x13_1)))) = true := decide_eq_true c16
                          clear c16
                          have H' := Aside0.mk H
                          clear H
                          have p8 : 0 ≤ (x13_1 : Int) := of_decide_eq_true (by first | (with_reducible assumption) | assumption)
                          have q8 : x13_1 < (a2.size : Int) := of_decide_eq_true (by first | (with_reducible assumption) | assumption)
                          have hx8 := bt_at a2 x13_1
                          replace p8 := eq_true p8
                          replace q8 := eq_true q8
                          have pz352 : 0 ≤ (x12_1 : Int) := of_decide_eq_true (by first | (with_reducible assumption) | assumption)
                          have qz352 : (x12_1 : Int) < (l1.length : Int) := of_decide_eq_true (by first | (with_reducible assumption) | assumption)
                          have paz352 : 0 ≤ ((bt a2 x13_1) : Int) := of_decide_eq_true (by first | (with_reducible assumption) | assumption)
                          have qaz352 : ((bt a2 x13_1) : Int) < 256 := of_decide_eq_true (by first | (with_reducible assumption) | assumption)
                          obtain ⟨adz352, ez352, hxz352⟩ := at_arr (n := 256) HR1.out x12_1 pz352 qz352 (bt a2 x13_1) paz352 qaz352
                          cases ez352
                          (try replace hxz352 := (HB.out.cell (World.block_lt_of_cell? w _ hxz352)).trans hxz352)
                          replace pz352 := eq_true pz352
                          replace paz352 := eq_true paz352
                          replace qz352 := eq_true qz352
                          replace qaz352 := eq_true qaz352
                          have hcz17_0 : wr.cell? ⟨gb351, 0, none⟩ = some (.slice A0_0 l0_0.length c0_0) := (blk_cell BK351.out 0).trans rfl
                          have hcz17_1 : wr.cell? ⟨gb351, 1, none⟩ = some (.slice A0_1 l0_1.length c0_1) := (blk_cell BK351.out 1).trans rfl
                          have hcz17_2 : wr.cell? ⟨gb351, 2, none⟩ = some (.slice A0_2 l0_2.length c0_2) := (blk_cell BK351.out 2).trans rfl
                          have hfz17_0 := blk_frozen BK351.out 0
                          have hfz17_1 := blk_frozen BK351.out 1
                          have hfz17_2 := blk_frozen BK351.out 2
                          have p353 : 0 ≤ ((rd (rdA l1 x12_1) (bt a2 x13_1)) : Int) := of_decide_eq_true (by first | (with_reducible assumption) | assumption)
                          have q353 : (rd (rdA l1 x12_1) (bt a2 x13_1)) < (l0_2.length : Int) := of_decide_eq_true (by first | (with_reducible assumption) | assumption)
                          obtain ⟨ad353, e353, hx353_0⟩ := Kd.at_int HR0_2.out (rd (rdA l1 x12_1) (bt a2 x13_1)) p353 q353
                          cases e353
                          replace hx353_0 := (HB.out.cell (World.block_lt_of_cell? w _ hx353_0)).trans hx353_0
                          replace p353 := eq_true p353
                          replace q353 := eq_true q353
                          have p354 : 0 ≤ ((rd (rdA l1 x12_1) (bt a2 x13_1)) : Int) := of_decide_eq_true (by first | (with_reducible assumption) | assumption)
                          have q354 : (rd (rdA l1 x12_1) (bt a2 x13_1)) < (l0_2.length : Int) := of_decide_eq_true (by first | (with_reducible assumption) | assumption)
                          obtain ⟨ad354, e354, hx354_0⟩ := Kd.at_int HR0_2.out (rd (rdA l1 x12_1) (bt a2 x13_1)) p354 q354
                          obtain rfl : ad353 = ad354 := (by injection e354)
                          replace hx354_0 := (HB.out.cell (World.block_lt_of_cell? w _ hx354_0)).trans hx354_0
                          replace p354 := eq_true p354
                          replace q354 := eq_true q354
                          go_wp2
                          repeat (go_quiet (fail); try go_wp2)
                          go_roundg k1
                          case measure => have := HK1.out; omega
                          case rel => exact ⟨(rd l0_2 (rd (rdA l1 x12_1) (bt a2 x13_1))), (wrap64 (x13_1 + 1)), (rd (rdA l1 x12_1) (bt a2 x13_1)), (wrap64 (x13_1 + 1)), (by first | rfl | (simp; done) | (simp [*]; done)), (by first | rfl | (simp; done) | (simp [*]; done)), (by first | rfl | (simp; done) | (simp [*]; done)), (by first | rfl | (simp; done) | (simp [*]; done)), H', ⟨by have := HK1.out; omega⟩, ⟨by (with_reducible repeat (first | refine blk_drewN ?_ _ | refine blk_drew ?_ | refine blk_alloc ?_ _)); exact BK351.out⟩, ⟨by repeat (first | (with_reducible first | exact HB.out | apply below_alloc | apply pw_below_drewN | apply below_drew1 | refine below_set ?_ GE351.out) | exact HB.out)⟩⟩
                        · rw [if_neg c16] at H
                          have c16b0 : decide (0 ≤ (rd l0_2 (rd (rdA l1 x12_1) (bt a2 x13_1)))) = false := decide_eq_false c16
                          clear c16
                          have H' := Aside0.mk H
                          clear H
                          have p8 : 0 ≤ (x13_1 : Int) := of_decide_eq_true (by first | (with_reducible assumption) | assumption)
                          have q8 : x13_1 < (a2.size : Int) := of_decide_eq_true (by first | (with_reducible assumption) | assumption)
                          have hx8 := bt_at a2 x13_1
                          replace p8 := eq_true p8
                          replace q8 := eq_true q8
                          have pz352 : 0 ≤ (x12_1 : Int) := of_decide_eq_true (by first | (with_reducible assumption) | assumption)
                          have qz352 : (x12_1 : Int) < (l1.length : Int) := of_decide_eq_true (by first | (with_reducible assumption) | assumption)
                          have paz352 : 0 ≤ ((bt a2 x13_1) : Int) := of_decide_eq_true (by first | (with_reducible assumption) | assumption)
                          have qaz352 : ((bt a2 x13_1) : Int) < 256 := of_decide_eq_true (by first | (with_reducible assumption) | assumption)
                          obtain ⟨adz352, ez352, hxz352⟩ := at_arr (n := 256) HR1.out x12_1 pz352 qz352 (bt a2 x13_1) paz352 qaz352
                          cases ez352
                          (try replace hxz352 := (HB.out.cell (World.block_lt_of_cell? w _ hxz352)).trans hxz352)
                          replace pz352 := eq_true pz352
                          replace paz352 := eq_true paz352
                          replace qz352 := eq_true qz352
                          replace qaz352 := eq_true qaz352
                          have hcz18_0 : wr.cell? ⟨gb351, 0, none⟩ = some (.slice A0_0 l0_0.length c0_0) := (blk_cell BK351.out 0).trans rfl
                          have hcz18_1 : wr.cell? ⟨gb351, 1, none⟩ = some (.slice A0_1 l0_1.length c0_1) := (blk_cell BK351.out 1).trans rfl
                          have hcz18_2 : wr.cell? ⟨gb351, 2, none⟩ = some (.slice A0_2 l0_2.length c0_2) := (blk_cell BK351.out 2).trans rfl
                          have hfz18_0 := blk_frozen BK351.out 0
                          have hfz18_1 := blk_frozen BK351.out 1
                          have hfz18_2 := blk_frozen BK351.out 2
                          have p353 : 0 ≤ ((rd (rdA l1 x12_1) (bt a2 x13_1)) : Int) := of_decide_eq_true (by first | (with_reducible assumption) | assumption)
                          have q353 : (rd (rdA l1 x12_1) (bt a2 x13_1)) < (l0_2.length : Int) := of_decide_eq_true (by first | (with_reducible assumption) | assumption)
                          obtain ⟨ad353, e353, hx353_0⟩ := Kd.at_int HR0_2.out (rd (rdA l1 x12_1) (bt a2 x13_1)) p353 q353
                          cases e353
                          replace hx353_0 := (HB.out.cell (World.block_lt_of_cell? w _ hx353_0)).trans hx353_0
                          replace p353 := eq_true p353
                          replace q353 := eq_true q353
                          go_wp2
                          repeat (go_quiet (fail); try go_wp2)
                          go_roundg k1
                          case measure => have := HK1.out; omega
                          case rel => exact ⟨(x10_1), (x11_1), (rd (rdA l1 x12_1) (bt a2 x13_1)), (wrap64 (x13_1 + 1)), (by first | rfl | (simp; done) | (simp [*]; done)), (by first | rfl | (simp; done) | (simp [*]; done)), (by first | rfl | (simp; done) | (simp [*]; done)), (by first | rfl | (simp; done) | (simp [*]; done)), H', ⟨by have := HK1.out; omega⟩, ⟨by (with_reducible repeat (first | refine blk_drewN ?_ _ | refine blk_drew ?_ | refine blk_alloc ?_ _)); exact BK351.out⟩, ⟨by repeat (first | (with_reducible first | exact HB.out | apply below_alloc | apply pw_below_drewN | apply below_drew1 | refine below_set ?_ GE351.out) | exact HB.out)⟩⟩
                      · rw [if_neg c15] at H
                        exact absurd H (by simp)
                    · rw [if_neg c14] at H
                      exact absurd H (by simp)
                · rw [if_neg c12] at H
                  exact absurd H (by simp)
              · rw [if_neg c11] at H
                exact absurd H (by simp)
            · rw [if_neg c10] at H
              exact absurd H (by simp)
          · rw [if_neg c9] at H
            exact absurd H (by simp)
        · rw [if_neg c7] at H
          exact absurd H (by simp)
      · rw [if_neg c6] at H
        have c6b0 : decide (x13_1 < (a2.size : Int)) = false := decide_eq_false c6
        clear c6
        simp only [Option.some.injEq, Prod.mk.injEq] at H
        obtain ⟨rfl, rfl⟩ := H
        go_wp2
        repeat (go_quiet (fail); try go_wp2)
        go_ret2
        exact ⟨by first | rfl | (simp [errW_none, errW_some] <;> rfl) | (simp [*, errW_none, errW_some] <;> rfl), by repeat (first | (with_reducible first | exact HB.out | apply below_alloc | apply pw_below_drewN | apply below_drew1 | refine below_set ?_ GE351.out) | exact HB.out)⟩
end Go.Proofs.Ytigmibfacllhmaa.P

set_option linter.unusedVariables false
set_option linter.unusedSimpArgs false
namespace Go.Proofs.Ytigmibfacllhmaa.P
open Go.RowKit Go.Proofs.YtigmibfacllhmaaW.PrintWords Go.Proofs.YtigmibfacllhmaaW.PrintLast Go.Proofs.YtigmibfacllhmaaW.PrintMore Go.Proofs.Ytigmibfacllhmaa.Arr
def setA (out : List (List Int)) (s b v : Int) : List (List Int) := out.set s.toNat ((padI 256 (rdA out s)).set b.toNat v)
mutual
def impl_table.l0 : Nat → List (List Int) → Int → List (List S117) → List (List Int) → List Int → Option (List (List Int))
  | 0, _, _, _, _, _ => none
  | k + 1, out, i, x, r, a => if i < (x.length : Int) then (if 0 ≤ i then ((impl_bitsOf.f k (rd_L6 x i)).bind fun t => impl_table.l1 k out i t 0 x r a) else none) else some out
def impl_table.l1 : Nat → List (List Int) → Int → List Bool → Int → List (List S117) → List (List Int) → List Int → Option (List (List Int))
  | 0, _, _, _, _, _, _, _ => none
  | k + 1, out, i, t, b, x, r, a => if b < 256 then (if 0 ≤ b then impl_table.l2 k out i t b (getB t b) 0 x r a else none) else impl_table.l0 k out (wrap64 (i + 1)) x r a
def impl_table.l2 : Nat → List (List Int) → Int → List Bool → Int → Bool → Int → List (List S117) → List (List Int) → List Int → Option (List (List Int))
  | 0, _, _, _, _, _, _, _, _, _ => none
  | k + 1, out, i, t, b, is, s, x, r, a => if s < (r.length : Int) then (if is = true then (if 0 ≤ s then (if i < ((rd_L3 r s).length : Int) then impl_table.l2 k (setA out s b (rd (rd_L3 r s) i)) i t b is (wrap64 (s + 1)) x r a else none) else none) else impl_table.l2 k out i t b is (wrap64 (s + 1)) x r a) else impl_table.l1 k out i t (wrap64 (b + 1)) x r a
end
def impl_table.f (k : Nat) (l0_0 : List (List S117)) (l0_1 : List (List Int)) (l0_2 : List Int) : Option (List (List Int)) := if l0_1.length ≤ 137438953472 then impl_table.l0 k (List.replicate l0_1.length []) 0 l0_0 l0_1 l0_2 else none
theorem impl_table.mono_l : ∀ k, (∀ y0 y1 y2 y3 y4, LeO (impl_table.l0 k y0 y1 y2 y3 y4) (impl_table.l0 (k + 1) y0 y1 y2 y3 y4)) ∧ (∀ y0 y1 y2 y3 y4 y5 y6, LeO (impl_table.l1 k y0 y1 y2 y3 y4 y5 y6) (impl_table.l1 (k + 1) y0 y1 y2 y3 y4 y5 y6)) ∧ (∀ y0 y1 y2 y3 y4 y5 y6 y7 y8, LeO (impl_table.l2 k y0 y1 y2 y3 y4 y5 y6 y7 y8) (impl_table.l2 (k + 1) y0 y1 y2 y3 y4 y5 y6 y7 y8))
  | 0 => ⟨fun _ _ _ _ _ r h => by simp [impl_table.l0] at h, fun _ _ _ _ _ _ _ r h => by simp [impl_table.l1] at h, fun _ _ _ _ _ _ _ _ _ r h => by simp [impl_table.l2] at h⟩
  | k + 1 => by
    obtain ⟨ih0, ih1, ih2⟩ := impl_table.mono_l k
    refine ⟨?_, ?_, ?_⟩
    · intro y0 y1 y2 y3 y4
      unfold impl_table.l0
      repeat' first
      | (with_reducible exact ih0 _ _ _ _ _)
      | (with_reducible exact ih1 _ _ _ _ _ _ _)
      | (with_reducible exact ih2 _ _ _ _ _ _ _ _ _)
      | (with_reducible exact impl_bitsOf.mono _ _)
      | (with_reducible exact LeO.refl _)
      | (with_reducible exact LeO.none _)
      | (with_reducible refine LeO.ite ?_ ?_)
      | (with_reducible refine LeO.bind ?_ (fun _ => ?_))
    · intro y0 y1 y2 y3 y4 y5 y6
      unfold impl_table.l1
      repeat' first
      | (with_reducible exact ih0 _ _ _ _ _)
      | (with_reducible exact ih1 _ _ _ _ _ _ _)
      | (with_reducible exact ih2 _ _ _ _ _ _ _ _ _)
      | (with_reducible exact impl_bitsOf.mono _ _)
      | (with_reducible exact LeO.refl _)
      | (with_reducible exact LeO.none _)
      | (with_reducible refine LeO.ite ?_ ?_)
      | (with_reducible refine LeO.bind ?_ (fun _ => ?_))
    · intro y0 y1 y2 y3 y4 y5 y6 y7 y8
      unfold impl_table.l2
      repeat' first
      | (with_reducible exact ih0 _ _ _ _ _)
      | (with_reducible exact ih1 _ _ _ _ _ _ _)
      | (with_reducible exact ih2 _ _ _ _ _ _ _ _ _)
      | (with_reducible exact impl_bitsOf.mono _ _)
      | (with_reducible exact LeO.refl _)
      | (with_reducible exact LeO.none _)
      | (with_reducible refine LeO.ite ?_ ?_)
      | (with_reducible refine LeO.bind ?_ (fun _ => ?_))
theorem impl_table.mono : ∀ a0 a1 a2 k, LeO (impl_table.f k a0 a1 a2) (impl_table.f (k + 1) a0 a1 a2) := by
  intro a0 a1 a2 k
  obtain ⟨ih0, ih1, ih2⟩ := impl_table.mono_l k
  unfold impl_table.f
  repeat' first
      | (with_reducible exact ih0 _ _ _ _ _)
      | (with_reducible exact ih1 _ _ _ _ _ _ _)
      | (with_reducible exact ih2 _ _ _ _ _ _ _ _ _)
      | (with_reducible exact impl_bitsOf.mono _ _)
      | (with_reducible exact LeO.refl _)
      | (with_reducible exact LeO.none _)
      | (with_reducible refine LeO.ite ?_ ?_)
      | (with_reducible refine LeO.bind ?_ (fun _ => ?_))
theorem setI {n : Nat} {w : World} {base : Nat} {ok : Nat → Prop} {x : List Int} {c : List Value} (h : (kArr n).M w base ok x c) (j : Nat) (v : Int) (hj : j < n) : (kArr n).M w base ok ((padI n x).set j v) (c.take j ++ [.int .i64 v] ++ c.drop (j + 1)) := by
  have hc : c = cellsI n x := h
  subst hc
  show _ = cellsI n ((padI n x).set j v)
  have hp : padI n ((padI n x).set j v) = (padI n x).set j v := by
    apply List.ext_getElem
    · simp [padI]
    · intro i h1 h2
      have hi : i < n := by simpa [padI] using h1
      have gen : ∀ (y : List Int) (hy : i < (padI n y).length), (padI n y)[i]'hy = y.getD i 0 := by
        intro y hy
        simp [padI]
      have e := gen _ h1
      rw [e, List.getD_eq_getElem?_getD, List.getElem?_eq_getElem h2]
      rfl
  unfold cellsI
  rw [hp, List.map_set, List.set_eq_take_append_cons_drop, if_pos (by simp [padI]; exact hj)]
  simp
theorem infoA : (Try.prog.info? 73).map (fun i => (i.zero, i.size, i.bytes)) = some (some (.agg (cellsI 256 []).toArray), 256, 2048) := by kernel_rfl
set_option maxHeartbeats 8000000 in
set_option maxRecDepth 100000 in
theorem impl_table.calls (k : Nat) (A0_0 : Option Addr) (c0_0 : Nat) (l0_0 : List (List S117)) (A0_1 : Option Addr) (c0_1 : Nat) (l0_1 : List (List Int)) (A0_2 : Option Addr) (c0_2 : Nat) (l0_2 : List Int) (r : List (List Int)) (w : World) (hr0_0 : Kd.C (Kd.slice 117 k117) w A0_0 l0_0.length l0_0) (hc0_0 : l0_0.length ≤ c0_0) (hr0_1 : Kd.C (Kd.slice 3 (Kd.int .i64)) w A0_1 l0_1.length l0_1) (hc0_1 : l0_1.length ≤ c0_1) (hr0_2 : Kd.C (Kd.int .i64) w A0_2 l0_2.length l0_2) (hc0_2 : l0_2.length ≤ c0_2) (h : impl_table.f k l0_0 l0_1 l0_2 = some r) :
    Calls Try.prog 60 #[.agg #[.slice A0_0 l0_0.length c0_0, .slice A0_1 l0_1.length c0_1, .slice A0_2 l0_2.length c0_2]] w fun e w' => ∃ v0_ : Value, e = .returned (v0_) ∧ Kd.R (kArr 256) 73 w' w.heap.size (fun _ => True) v0_ r ∧ Below w.heap.size w w' := by
  have hu31 := Try.underlying31
  have HR0_0 := Aside0.mk hr0_0
  have HC0_0 := Aside0.mk hc0_0
  clear hr0_0 hc0_0
  have HR0_1 := Aside0.mk hr0_1
  have HC0_1 := Aside0.mk hc0_1
  clear hr0_1 hc0_1
  have HR0_2 := Aside0.mk hr0_2
  have HC0_2 := Aside0.mk hc0_2
  clear hr0_2 hc0_2
  have HB := Aside0.mk (Below.refl w.heap.size w)
  have H : (if l0_1.length ≤ 137438953472 then impl_table.l0 k (List.replicate l0_1.length []) 0 l0_0 l0_1 l0_2 else none) = some r := h
  clear h
  by_cases c1 : l0_1.length ≤ 137438953472
  · rw [if_pos c1] at H
    have C1 := Aside0.mk c1
    clear c1
    have H' := Aside0.mk H
    clear H
    go_enter Try.func60, Try.ntmps60
    go_wp2_with (first | ((with_reducible refine gate_dst (N := 1) rfl ?_); refine box_event ?hg (N := 1) ?hd (cs := #[.slice A0_0 l0_0.length c0_0, .slice A0_1 l0_1.length c0_1, .slice A0_2 l0_2.length c0_2]) (t := 31) ?hr ?_; (case hd => rfl); (case hg => rfl); (case hr => first | (go_simp; done) | (go_simp; rfl)); intro gb hg w4 hbox hb; have n0_ := Aside0.mk (below_step HB.out hb); have BK := Aside0.mk (hbox); have GE := Aside0.mk ((by rw [hg]; exact (below_size HB.out)) : w.heap.size ≤ gb); clear HB; have HB := n0_; clear n0_; clear hb hbox hg; have hcz5_1 : w4.cell? ⟨gb, 1, none⟩ = some (.slice A0_1 l0_1.length c0_1) := (blk_cell BK.out 1).trans rfl) | ((with_reducible refine gate_dst (N := 12) rfl ?_); refine Kd.R_make (kArr 256) _ 73 rfl (N := 12) rfl 71 _ _ rfl (l0_1.length : Int) rfl rfl Try.underlying71 (.agg (cellsI 256 []).toArray) 2048 infoA (by kernel_rfl) (by decide) (by omega) [] (ok := fun _ => True) (okp := fun _ => True) rfl (fun _ hk => hk) trivial (by omega) (by rw [Int.toNat_natCast]; have := C1.out; omega) (Below.refl _ _) (Nat.le_refl _) ?_; intro v w6 ho7 hb hg_ hnew_; clear hg_ hnew_; simp only [Int.toNat_natCast] at ho7; obtain ⟨Ao, co, eo⟩ := Kd.R_slice ho7; rw [List.length_replicate] at eo; subst eo; have n0_ := Aside0.mk (Kd.R_lower ho7 (below_size HB.out)); have n1_ := Aside0.mk (blk_below BK.out hb); have n2_ := Aside0.mk (below_step HB.out hb); clear BK; clear HB; have HO := n0_; have BK := n1_; have HB := n2_; clear n0_ n1_ n2_; clear hb ho7; have hcz6_0 : w6.cell? ⟨gb, 0, none⟩ = some (.slice A0_0 l0_0.length c0_0) := (blk_cell BK.out 0).trans rfl))
    clear hcz5_1 hcz6_0
    go_loopg [16] k (fun kq v16 w' => ∃ (x16 : Int) (out : List (List Int)), v16 = .int .i64 x16 ∧ Aside0 (impl_table.l0 kq out x16 l0_0 l0_1 l0_2 = some r) ∧ Aside0 (kq ≤ k) ∧ Aside0 (Kd.R (kArr 256) 73 w' w.heap.size (fun _ => True) (.slice Ao l0_1.length co) out) ∧ Aside0 (w'.heap[gb]? = some (.cells #[.slice A0_0 l0_0.length c0_0, .slice A0_1 l0_1.length c0_1, .slice A0_2 l0_2.length c0_2] 31 (0, 0))) ∧ Aside0 (Below w.heap.size w w'))
    case atStart => exact ⟨0, _, rfl, H', ⟨Nat.le_refl _⟩, HO, BK, HB⟩
    case round =>
      clear H' HO BK HB
      obtain ⟨x16, out, rfl, HA, HK1, HO, BK, HB⟩ := hrel
      cases gk with
      | zero => exact absurd HA.out (by simp [impl_table.l0])
      | succ k1 =>
        have H := HA.out
        clear HA
        simp only [impl_table.l0] at H
        by_cases c2 : x16 < (l0_0.length : Int)
        · rw [if_pos c2] at H
          have c2b0 : decide (x16 < (l0_0.length : Int)) = true := decide_eq_true c2
          have C2 := Aside0.mk c2
          clear c2
          by_cases c3 : 0 ≤ x16
          · rw [if_pos c3] at H
            have C3 := Aside0.mk c3
            clear c3
            replace H := Option.bind_eq_some_iff.mp H
            obtain ⟨t, A30, H⟩ := H
            have A3 := Aside0.mk A30
            have H' := Aside0.mk H
            clear A30 H
            obtain ⟨adp, Ap, cp, ep, hxp, hlp, hip⟩ := at_L6 HR0_0.out x16 C3.out C2.out
            replace hxp := (HB.out.cell (World.block_lt_of_cell? w _ hxp)).trans hxp
            have HRp := Aside0.mk hip
            have HCp := Aside0.mk hlp
            clear hip hlp
            have hcz_0 : wr.cell? ⟨gb, 0, none⟩ = some (.slice A0_0 l0_0.length c0_0) := (blk_cell BK.out 0).trans rfl
            subst ep
            have p2 := eq_true C2.out
            have p3 := eq_true C3.out
            go_wp2_with (first | ((with_reducible refine gate_callee (f := 106) rfl ?_); refine goesL_ (some 22) rfl rfl Try.func106 (by kernel_rfl) rfl #[.slice Ap (rd_L6 l0_0 x16).length cp] rfl (by (try simp only [List.map_toArray, List.map_cons, List.map_nil]); first | done | rfl) ?_; (with_reducible refine (impl_bitsOf.calls k1 _ _ (rd_L6 l0_0 x16) t _ ?side1 ?side2 A3.out).mono ?_); (case side1 => exact Kd.C_below HRp.out HB.out); (case side2 => exact HCp.out); rintro e w1 ⟨rfl, hb1⟩; refine ⟨_, rfl, ?_⟩; have n0_ := Aside0.mk (Kd.R_below HO.out hb1); have n1_ := Aside0.mk (blk_below BK.out hb1); have n2_ := Aside0.mk (below_step HB.out hb1); clear HO BK HB hxp hcz_0; have HO := n0_; have BK := n1_; have HB := n2_; clear n0_ n1_ n2_ hb1))
            clear p2 p3
            go_loopg [23] k1 (fun kq v23 w' => ∃ (x23 : Int) (out : List (List Int)), v23 = .int .i64 x23 ∧ Aside0 (impl_table.l1 kq out x16 t x23 l0_0 l0_1 l0_2 = some r) ∧ Aside0 (kq ≤ k1) ∧ Aside0 (Kd.R (kArr 256) 73 w' w.heap.size (fun _ => True) (.slice Ao l0_1.length co) out) ∧ Aside0 (w'.heap[gb]? = some (.cells #[.slice (some adp) l0_0.length c0_0, .slice A0_1 l0_1.length c0_1, .slice A0_2 l0_2.length c0_2] 31 (0, 0))) ∧ Aside0 (Below w.heap.size w w'))
            case atStart => exact ⟨0, _, rfl, H', ⟨Nat.le_refl _⟩, HO, BK, HB⟩
            case round =>
              clear H' HO BK HB
              obtain ⟨x23, out, rfl, HA, HK2, HO, BK, HB⟩ := hrel
              cases gk with
              | zero => exact absurd HA.out (by simp [impl_table.l1])
              | succ k2 =>
                have H := HA.out
                clear HA
                simp only [impl_table.l1] at H
                by_cases c4 : x23 < 256
                · rw [if_pos c4] at H
                  have c4b0 : decide (x23 < 256) = true := decide_eq_true c4
                  have C4 := Aside0.mk c4
                  clear c4
                  by_cases c5 : 0 ≤ x23
                  · rw [if_pos c5] at H
                    have C5 := Aside0.mk c5
                    clear c5
                    obtain ⟨is, his⟩ : ∃ b_ : Bool, b_ = getB t x23 := ⟨_, rfl⟩
                    rw [← his] at H
                    have HI := Aside0.mk his
                    clear his
                    have H' := Aside0.mk H
                    clear H
                    go_wp2_with (first | ((with_reducible refine gate_dst (N := 26) rfl ?_); refine wp_index_arr rfl 125 4 (.tmp 22) (.tmp 23) rfl 256 t x23 rfl rfl C5.out C4.out Try.underlying125 (by kernel_rfl) (by kernel_rfl) ?_; rw [← HI.out]))
                    go_loopg [29] k2 (fun kq v29 w' => ∃ (x29 : Int) (out : List (List Int)), v29 = .int .i64 x29 ∧ Aside0 (impl_table.l2 kq out x16 t x23 is x29 l0_0 l0_1 l0_2 = some r) ∧ Aside0 (kq ≤ k2) ∧ Aside0 (Kd.R (kArr 256) 73 w' w.heap.size (fun _ => True) (.slice Ao l0_1.length co) out) ∧ Aside0 (w'.heap[gb]? = some (.cells #[.slice (some adp) l0_0.length c0_0, .slice A0_1 l0_1.length c0_1, .slice A0_2 l0_2.length c0_2] 31 (0, 0))) ∧ Aside0 (Below w.heap.size w w'))
                    case atStart => exact ⟨0, _, rfl, H', ⟨Nat.le_refl _⟩, HO, BK, HB⟩
                    case round =>
                      clear H' HO BK HB
                      obtain ⟨x29, out, rfl, HA, HK3, HO, BK, HB⟩ := hrel
                      cases gk with
                      | zero => exact absurd HA.out (by simp [impl_table.l2])
                      | succ k3 =>
                        have H := HA.out
                        clear HA
                        simp only [impl_table.l2] at H
                        by_cases c6 : x29 < (l0_1.length : Int)
                        · rw [if_pos c6] at H
                          have c6b0 : decide (x29 < (l0_1.length : Int)) = true := decide_eq_true c6
                          have C6 := Aside0.mk c6
                          clear c6
                          cases is with
                          | true =>
                            rw [if_pos rfl] at H
                            by_cases c7 : 0 ≤ x29
                            · rw [if_pos c7] at H
                              have C7 := Aside0.mk c7
                              clear c7
                              by_cases c8 : x16 < ((rd_L3 l0_1 x29).length : Int)
                              · rw [if_pos c8] at H
                                have C8 := Aside0.mk c8
                                clear c8
                                have H' := Aside0.mk H
                                clear H
                                have HL := Aside0.mk (Kd.R_reads' HO.out).1
                                have hcz_1 : wr.cell? ⟨gb, 1, none⟩ = some (.slice A0_1 l0_1.length c0_1) := (blk_cell BK.out 1).trans rfl
                                obtain ⟨adr, Ar, cr, er, hxr, hlr, hir⟩ := at_L3 HR0_1.out x29 C7.out C6.out
                                replace hxr := (HB.out.cell (World.block_lt_of_cell? w _ hxr)).trans hxr
                                have HRr := Aside0.mk hir
                                clear hir hlr
                                subst er
                                obtain ⟨ade, ee, hxe⟩ := Kd.at_int HRr.out x16 C3.out C8.out
                                replace hxe := (HB.out.cell (World.block_lt_of_cell? w _ hxe)).trans hxe
                                subst ee
                                obtain ⟨go, co', eo, gb_, gl_, cl_, HG⟩ := Kd.R_form HO.out (by have := HL.out; have := C6.out; have := C7.out; omega)
                                injection eo with ea_ en_ ec_
                                subst ea_
                                subst ec_
                                clear en_
                                obtain ⟨ce, hcl, hM, hcc, hfr⟩ := Kd.R_elem HO.out [] x29 C7.out (by have := HL.out; have := C6.out; omega)
                                have p3 := eq_true C3.out
                                have p6 := eq_true C6.out
                                have p7 := eq_true C7.out
                                have p8 := eq_true C8.out
                                have p4 := eq_true C4.out
                                have p5 := eq_true C5.out
                                go_upto_region 12 with (fail)
                                go_still_tail 13, (by kernel_rfl)
                                have HOd : Aside0 (Kd.R (kArr 256) 73 wr.drew w.heap.size (fun _ => True) (.slice (some ⟨go, 0, none⟩) l0_1.length co) out) := ⟨Kd.R_drew HO.out⟩
                                have BKd := Aside0.mk (blk_drew BK.out)
                                have HBd := Aside0.mk (below_drew1 HB.out)
                                change wpList _ _ _ _ _ wr.drew
                                obtain ⟨ce2, hcl2, hM2, hcc2, hfr2⟩ := Kd.R_elem HOd.out [] x29 C7.out C6.out
                                have hce : ce2 = cellsI 256 (rdA out x29) := hM2
                                clear hce
                                refine Kd.R_store (kArr 256) (w0 := w) w.heap.size rfl rfl 3 (.tmp 45) (.tmp 43) rfl 73 x29 x23.toNat out ((padI 256 (rdA out x29)).set x23.toNat (rd (rd_L3 l0_1 x29) x16)) (.int .i64 (rd (rd_L3 l0_1 x29) x16)) [.int .i64 (rd (rd_L3 l0_1 x29) x16)] ce2 (fun _ => True) (fun k => True ∧ k ≠ go) rfl rfl rfl rfl (by kernel_rfl) (by intro q hq; rw [List.mem_singleton.1 hq]; rfl) HOd.out C7.out C6.out hcl2 hcc2 (by have := C4.out; have := C5.out; show x23.toNat + 1 ≤ 256; omega) (setI hM2 x23.toNat _ (by have := C4.out; have := C5.out; omega)) (fun _ hk => hk) HBd.out ?_
                                intro w8 ho8 hb8 hg8
                                have n0_ := Aside0.mk ho8
                                have n1_ := Aside0.mk (blk_grown BKd.out hg8 (Kd.R_ne HOd.out BKd.out (by decide)))
                                have n2_ := Aside0.mk hb8
                                clear HO BK HB HOd BKd HBd ho8 hb8 hg8
                                go_wp2
                                go_roundg k3
                                case measure => have := HK3.out; omega
                                case rel => exact ⟨_, _, rfl, H', ⟨by have := HK3.out; omega⟩, n0_, n1_, n2_⟩
                              · rw [if_neg c8] at H
                                cases H
                            · rw [if_neg c7] at H
                              cases H
                          | false =>
                            rw [if_neg (by simp)] at H
                            have H' := Aside0.mk H
                            clear H
                            go_wp2
                            go_roundg k3
                            case measure => have := HK3.out; omega
                            case rel => exact ⟨_, _, rfl, H', ⟨by have := HK3.out; omega⟩, HO, BK, HB⟩
                        · rw [if_neg c6] at H
                          have c6b0 : decide (x29 < (l0_1.length : Int)) = false := decide_eq_false c6
                          clear c6
                          have H' := Aside0.mk H
                          clear H
                          go_wp2
                          go_roundg k3
                          case measure => have := HK3.out; have := HK2.out; omega
                          case rel => exact ⟨_, _, rfl, H', ⟨by have := HK3.out; have := HK2.out; omega⟩, HO, BK, HB⟩
                  · rw [if_neg c5] at H
                    cases H
                · rw [if_neg c4] at H
                  have c4b0 : decide (x23 < 256) = false := decide_eq_false c4
                  clear c4
                  have H' := Aside0.mk H
                  clear H
                  go_wp2
                  go_roundg k2
                  case measure => have := HK2.out; have := HK1.out; omega
                  case rel => exact ⟨_, _, rfl, H', ⟨by have := HK2.out; have := HK1.out; omega⟩, HO, BK, HB⟩
          · rw [if_neg c3] at H
            cases H
        · rw [if_neg c2] at H
          have c2b0 : decide (x16 < (l0_0.length : Int)) = false := decide_eq_false c2
          clear c2
          obtain rfl := Option.some.inj H
          go_wp2
          go_ret
          exact ⟨_, rfl, HO.out, HB.out⟩
  · rw [if_neg c1] at H
    cases H
end Go.Proofs.Ytigmibfacllhmaa.P
