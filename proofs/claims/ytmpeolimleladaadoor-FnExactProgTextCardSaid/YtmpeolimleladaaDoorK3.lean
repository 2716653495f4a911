/- Part 3: what the walk of the code stands on. Conditions: none but those that each theorem states. -/
import Derived.Test.YtmpeolimleladaaDoorK2
open Go Go.Proofs.YtmpeolimleladaaDoor.T
namespace Go.Proofs.YtmpeolimleladaaDoor.R
set_option maxHeartbeats 4000000
set_option maxRecDepth 100000
set_option linter.unusedSimpArgs false
set_option linter.unusedVariables false
attribute [local simp] bsV bsRows chunk fillT partsT appV makeV rowsOf cellsOf placeOf
@[simp] theorem noRo_S (r : Int × Int) : noRoL (encSp r) = true := by simp [encSp]
theorem fresh_ne {H : Nat → Option TV} {i k j : Nat} (hk : ∀ j, k ≤ j → H j = none) (hi : (H i).isSome = true) (hj : k ≤ j) : ¬ i = j := fun e => by rw [e, hk j hj] at hi; cases hi
def encIn (x : Int) : List TV := [.val (.int .i64 x)]

def encP (s : List (Int × Int)) : List TV := [.ro (s.map encSp)]
def encR (r : List Int) : List TV := [.ro (r.map encIn)]
@[simp] theorem len_encI (r : Int) : (encIn r).length = 1 := by simp [encIn]
@[simp] theorem take_encI (r : Int) : (encIn r).take 1 = encIn r := by simp [encIn]
@[simp] theorem plain_encI (r : Int) : (encIn r).all TV.plain = true := by simp [encIn]
@[simp] theorem pc_encI (r : Int) : (encIn r).all TV.pc = true := by simp [encIn, TV.pc, TV.cell, Value.oneCell']
@[simp] theorem noH_encI (r : Int) : noHL (encIn r) = true := by simp [encIn]
@[simp] theorem argTL_encI {H : Nat → Option TV} {ρ : List Nat} (r : Int) : argTL H ρ (encIn r) = some (encIn r) := by simp [encIn]
@[simp] theorem views_encI {ρ : List Nat} (r : Int) : (encIn r).flatMap (views1 ρ) = [] := by simp [encIn]
@[simp] theorem opnL_encI {k : Nat} (r : Int) : opnL k (encIn r) = (encIn r, []) := by simp [encIn]
@[simp] theorem closeL_encI {H : Nat → Option TV} (r : Int) : closeL H (encIn r) = some (encIn r, H) := by simp [encIn]
@[simp] theorem roL_encI (r : Int) : roL (encIn r) = encIn r := by simp [encIn]
@[simp] theorem noHR_encI (l : List Int) : noHR (l.map encIn) = true := by induction l <;> simp [*]
@[simp] theorem roRows_encI (l : List Int) : roRows (l.map encIn) = l.map encIn := by induction l <;> simp [*]
@[simp] theorem noRo_encI (r : Int) : noRoL (encIn r) = true := by simp [encIn]
@[simp] theorem noRoR_encI (l : List Int) : noRoR (l.map encIn) = true := by induction l <;> simp [*]
theorem rl_encI (l : List Int) : ∀ r ∈ l.map encIn, r.length = 1 := by
  intro r hr
  obtain ⟨x, _, rfl⟩ := List.mem_map.1 hr
  simp
@[simp] theorem len_encB (r : Bool) : (encB r).length = 1 := by simp [encB]
@[simp] theorem take_encB (r : Bool) : (encB r).take 1 = encB r := by simp [encB]
@[simp] theorem plain_encB (r : Bool) : (encB r).all TV.plain = true := by simp [encB]
@[simp] theorem pc_encB (r : Bool) : (encB r).all TV.pc = true := by simp [encB, TV.pc, TV.cell, Value.oneCell']
@[simp] theorem noH_encB (r : Bool) : noHL (encB r) = true := by simp [encB]
@[simp] theorem argTL_encB {H : Nat → Option TV} {ρ : List Nat} (r : Bool) : argTL H ρ (encB r) = some (encB r) := by simp [encB]
@[simp] theorem views_encB {ρ : List Nat} (r : Bool) : (encB r).flatMap (views1 ρ) = [] := by simp [encB]
@[simp] theorem opnL_encB {k : Nat} (r : Bool) : opnL k (encB r) = (encB r, []) := by simp [encB]
@[simp] theorem closeL_encB {H : Nat → Option TV} (r : Bool) : closeL H (encB r) = some (encB r, H) := by simp [encB]
@[simp] theorem roL_encB (r : Bool) : roL (encB r) = encB r := by simp [encB]
@[simp] theorem noHR_encB (l : List Bool) : noHR (l.map encB) = true := by induction l <;> simp [*]
@[simp] theorem roRows_encB (l : List Bool) : roRows (l.map encB) = l.map encB := by induction l <;> simp [*]
@[simp] theorem noRo_encB (r : Bool) : noRoL (encB r) = true := by simp [encB]
@[simp] theorem noRoR_encB (l : List Bool) : noRoR (l.map encB) = true := by induction l <;> simp [*]
theorem rl_encB (l : List Bool) : ∀ r ∈ l.map encB, r.length = 1 := by
  intro r hr
  obtain ⟨x, _, rfl⟩ := List.mem_map.1 hr
  simp
@[simp] theorem len_encP (r : List (Int × Int)) : (encP r).length = 1 := by simp [encP]
@[simp] theorem take_encP (r : List (Int × Int)) : (encP r).take 1 = encP r := by simp [encP]
@[simp] theorem plain_encP (r : List (Int × Int)) : (encP r).all TV.plain = true := by simp [encP]
@[simp] theorem pc_encP (r : List (Int × Int)) : (encP r).all TV.pc = true := by simp [encP, TV.pc, TV.cell, Value.oneCell']
@[simp] theorem noH_encP (r : List (Int × Int)) : noHL (encP r) = true := by simp [encP]
@[simp] theorem argTL_encP {H : Nat → Option TV} {ρ : List Nat} (r : List (Int × Int)) : argTL H ρ (encP r) = some (encP r) := by simp [encP]
@[simp] theorem views_encP {ρ : List Nat} (r : List (Int × Int)) : (encP r).flatMap (views1 ρ) = [] := by simp [encP]
@[simp] theorem opnL_encP {k : Nat} (r : List (Int × Int)) : opnL k (encP r) = (encP r, []) := by simp [encP]
@[simp] theorem closeL_encP {H : Nat → Option TV} (r : List (Int × Int)) : closeL H (encP r) = some (encP r, H) := by simp [encP]
@[simp] theorem roL_encP (r : List (Int × Int)) : roL (encP r) = encP r := by simp [encP]
@[simp] theorem noHR_encP (l : List (List (Int × Int))) : noHR (l.map encP) = true := by induction l <;> simp [*]
@[simp] theorem roRows_encP (l : List (List (Int × Int))) : roRows (l.map encP) = l.map encP := by induction l <;> simp [*]
theorem rl_encP (l : List (List (Int × Int))) : ∀ r ∈ l.map encP, r.length = 1 := by
  intro r hr
  obtain ⟨x, _, rfl⟩ := List.mem_map.1 hr
  simp
@[simp] theorem len_encR (r : List Int) : (encR r).length = 1 := by simp [encR]
@[simp] theorem take_encR (r : List Int) : (encR r).take 1 = encR r := by simp [encR]
@[simp] theorem plain_encR (r : List Int) : (encR r).all TV.plain = true := by simp [encR]
@[simp] theorem pc_encR (r : List Int) : (encR r).all TV.pc = true := by simp [encR, TV.pc, TV.cell, Value.oneCell']
@[simp] theorem noH_encR (r : List Int) : noHL (encR r) = true := by simp [encR]
@[simp] theorem argTL_encR {H : Nat → Option TV} {ρ : List Nat} (r : List Int) : argTL H ρ (encR r) = some (encR r) := by simp [encR]
@[simp] theorem views_encR {ρ : List Nat} (r : List Int) : (encR r).flatMap (views1 ρ) = [] := by simp [encR]
@[simp] theorem opnL_encR {k : Nat} (r : List Int) : opnL k (encR r) = (encR r, []) := by simp [encR]
@[simp] theorem closeL_encR {H : Nat → Option TV} (r : List Int) : closeL H (encR r) = some (encR r, H) := by simp [encR]
@[simp] theorem roL_encR (r : List Int) : roL (encR r) = encR r := by simp [encR]
@[simp] theorem noHR_encR (l : List (List Int)) : noHR (l.map encR) = true := by induction l <;> simp [*]
@[simp] theorem roRows_encR (l : List (List Int)) : roRows (l.map encR) = l.map encR := by induction l <;> simp [*]
theorem rl_encR (l : List (List Int)) : ∀ r ∈ l.map encR, r.length = 1 := by
  intro r hr
  obtain ⟨x, _, rfl⟩ := List.mem_map.1 hr
  simp
def oP (s : List (Int × Int)) : List TV := [.own 112 (s.map encSp)]
def oR (r : List Int) : List TV := [.own 3 (r.map encIn)]
@[simp] theorem len_oP (r : List (Int × Int)) : (oP r).length = 1 := by simp [oP]
@[simp] theorem noH_oP (r : List (Int × Int)) : noHL (oP r) = true := by simp [oP]
@[simp] theorem noRo_oP (r : List (Int × Int)) : noRoL (oP r) = true := by simp [oP]
@[simp] theorem roL_oP (r : List (Int × Int)) : roL (oP r) = encP r := by simp [oP, encP]
@[simp] theorem noHR_oP (l : List (List (Int × Int))) : noHR (l.map oP) = true := by induction l <;> simp [*]
@[simp] theorem noRoR_oP (l : List (List (Int × Int))) : noRoR (l.map oP) = true := by induction l <;> simp [*]
@[simp] theorem roRows_oP (l : List (List (Int × Int))) : roRows (l.map oP) = l.map encP := by induction l <;> simp [*]
@[simp] theorem len_oR (r : List Int) : (oR r).length = 1 := by simp [oR]
@[simp] theorem noH_oR (r : List Int) : noHL (oR r) = true := by simp [oR]
@[simp] theorem noRo_oR (r : List Int) : noRoL (oR r) = true := by simp [oR]
@[simp] theorem roL_oR (r : List Int) : roL (oR r) = encR r := by simp [oR, encR]
@[simp] theorem noHR_oR (l : List (List Int)) : noHR (l.map oR) = true := by induction l <;> simp [*]
@[simp] theorem noRoR_oR (l : List (List Int)) : noRoR (l.map oR) = true := by induction l <;> simp [*]
@[simp] theorem roRows_oR (l : List (List Int)) : roRows (l.map oR) = l.map encR := by induction l <;> simp [*]
structure Dfa where
  parts : List (List (Int × Int))
  rows : List (List Int)
  acc : List Int
def encDfa (d : Dfa) : List TV := [.ro (d.parts.map encP), .ro (d.rows.map encR), .ro (d.acc.map encIn)]
@[simp] theorem len_encDfa (r : Dfa) : (encDfa r).length = 3 := by simp [encDfa]
@[simp] theorem take_encDfa (r : Dfa) : (encDfa r).take 3 = encDfa r := by simp [encDfa]
@[simp] theorem plain_encDfa (r : Dfa) : (encDfa r).all TV.plain = true := by simp [encDfa]
@[simp] theorem pc_encDfa (r : Dfa) : (encDfa r).all TV.pc = true := by simp [encDfa, TV.pc, TV.cell, Value.oneCell']
@[simp] theorem noH_encDfa (r : Dfa) : noHL (encDfa r) = true := by simp [encDfa]
@[simp] theorem argTL_encDfa {H : Nat → Option TV} {ρ : List Nat} (r : Dfa) : argTL H ρ (encDfa r) = some (encDfa r) := by simp [encDfa]
@[simp] theorem views_encDfa {ρ : List Nat} (r : Dfa) : (encDfa r).flatMap (views1 ρ) = [] := by simp [encDfa]
@[simp] theorem opnL_encDfa {k : Nat} (r : Dfa) : opnL k (encDfa r) = (encDfa r, []) := by simp [encDfa]
@[simp] theorem closeL_encDfa {H : Nat → Option TV} (r : Dfa) : closeL H (encDfa r) = some (encDfa r, H) := by simp [encDfa]
@[simp] theorem roL_encDfa (r : Dfa) : roL (encDfa r) = encDfa r := by simp [encDfa]
@[simp] theorem noHR_encDfa (l : List Dfa) : noHR (l.map encDfa) = true := by induction l <;> simp [*]
@[simp] theorem roRows_encDfa (l : List Dfa) : roRows (l.map encDfa) = l.map encDfa := by induction l <;> simp [*]
theorem rl_encDfa (l : List Dfa) : ∀ r ∈ l.map encDfa, r.length = 3 := by
  intro r hr
  obtain ⟨x, _, rfl⟩ := List.mem_map.1 hr
  simp
/-- The sizes one behind the other. -/
def szLoopN : List Nat → Int → Int
  | [], a => a
  | n :: ns, a => if szN n a < 0 then -1 else szLoopN ns (szN n a)
def szSSF (ns : List Nat) (left : Int) : Int := if IntKind.i64.wrap (left - ns.length) < 0 then -1 else szLoopN ns (IntKind.i64.wrap (left - ns.length))
theorem szLoopN_drop {ns : List Nat} {i : Nat} (h : i < ns.length) (a : Int) : szLoopN (ns.drop i) a = if szN ns[i] a < 0 then -1 else szLoopN (ns.drop (i + 1)) (szN ns[i] a) := by
  conv => lhs; rw [List.drop_eq_getElem_cons h]
  rw [szLoopN]
def szDfaF (d : Dfa) (left : Int) : Int :=
  let a := szSSF (d.parts.map List.length) left
  if a < 0 then -1 else
  let b := szSSF (d.rows.map List.length) a
  if b < 0 then -1 else
  let c := szN d.acc.length b
  if c < 0 then -1 else c
/-- A machine is small. -/
structure DSm (d : Dfa) : Prop where
  parts : d.parts.length ≤ 1048576
  rows : d.rows.length ≤ 1048576
  acc : d.acc.length ≤ 1048576
  part : ∀ x ∈ d.parts, x.length ≤ 1048576
  row : ∀ x ∈ d.rows, x.length ≤ 1048576
end Go.Proofs.YtmpeolimleladaaDoor.R

open Go Go.Proofs.YtmpeolimleladaaDoor.T
namespace Go.Proofs.YtmpeolimleladaaDoor.R
set_option maxHeartbeats 4000000
set_option maxRecDepth 100000
set_option linter.unusedSimpArgs false
set_option linter.unusedVariables false
attribute [local simp] bsV bsRows chunk fillT partsT appV makeV rowsOf cellsOf placeOf
def encU (c : UInt8) : List TV := [.val (.int .u8 c.toNat)]
@[simp] theorem len_encU (r : UInt8) : (encU r).length = 1 := by simp [encU]
@[simp] theorem take_encU (r : UInt8) : (encU r).take 1 = encU r := by simp [encU]
@[simp] theorem plain_encU (r : UInt8) : (encU r).all TV.plain = true := by simp [encU]
@[simp] theorem pc_encU (r : UInt8) : (encU r).all TV.pc = true := by simp [encU, TV.pc, TV.cell, Value.oneCell']
@[simp] theorem noH_encU (r : UInt8) : noHL (encU r) = true := by simp [encU]
@[simp] theorem argTL_encU {H : Nat → Option TV} {ρ : List Nat} (r : UInt8) : argTL H ρ (encU r) = some (encU r) := by simp [encU]
@[simp] theorem views_encU {ρ : List Nat} (r : UInt8) : (encU r).flatMap (views1 ρ) = [] := by simp [encU]
@[simp] theorem opnL_encU {k : Nat} (r : UInt8) : opnL k (encU r) = (encU r, []) := by simp [encU]
@[simp] theorem closeL_encU {H : Nat → Option TV} (r : UInt8) : closeL H (encU r) = some (encU r, H) := by simp [encU]
@[simp] theorem roL_encU (r : UInt8) : roL (encU r) = encU r := by simp [encU]
@[simp] theorem noHR_encU (l : List UInt8) : noHR (l.map encU) = true := by induction l <;> simp [*]
@[simp] theorem roRows_encU (l : List UInt8) : roRows (l.map encU) = l.map encU := by induction l <;> simp [*]
@[simp] theorem noRo_encU (r : UInt8) : noRoL (encU r) = true := by simp [encU]
@[simp] theorem noRoR_encU (l : List UInt8) : noRoR (l.map encU) = true := by induction l <;> simp [*]
theorem rl_encU (l : List UInt8) : ∀ r ∈ l.map encU, r.length = 1 := by
  intro r hr
  obtain ⟨x, _, rfl⟩ := List.mem_map.1 hr
  simp

theorem xor_low {x y : Int} (hx : 0 ≤ x ∧ x ≤ 9223372036854775807) (hy : 0 ≤ y ∧ y ≤ 9223372036854775807) : 0 ≤ IntKind.i64.wrap (((x % 2 ^ IntKind.i64.bits).toNat ^^^ (y % 2 ^ IntKind.i64.bits).toNat : Nat) : Int) := by
  have hb : IntKind.i64.bits = 64 := rfl
  rw [hb]
  have h1 : (x % 2 ^ 64).toNat < 2 ^ 63 := by omega
  have h2 : (y % 2 ^ 64).toNat < 2 ^ 63 := by omega
  have := Nat.xor_lt_two_pow h1 h2
  rw [wrapi (by omega)]
  omega
theorem tmod_ok {x n : Int} (hx : 0 ≤ x) (hn : 1 ≤ n) : 0 ≤ x.tmod n ∧ x.tmod n < n ∧ x.tmod n ≤ x := by
  refine ⟨Int.tmod_nonneg _ hx, Int.tmod_lt_of_pos _ (by omega), ?_⟩
  rw [Int.tmod_eq_emod_of_nonneg hx, Int.emod_def]
  have := Int.mul_nonneg (a := n) (b := x / n) (by omega) (Int.ediv_nonneg hx (by omega))
  omega
end Go.Proofs.YtmpeolimleladaaDoor.R


open Go Go.Proofs.YtmpeolimleladaaDoor.T
namespace Go.Proofs.YtmpeolimleladaaDoor.R
set_option maxHeartbeats 4000000
set_option maxRecDepth 100000
set_option linter.unusedSimpArgs false
set_option linter.unusedVariables false
attribute [local simp] bsV bsRows chunk fillT partsT appV makeV rowsOf cellsOf placeOf
def encT (c : List UInt8) : List TV := [.val (.string (bs c))]
@[simp] theorem len_encT (r : (List UInt8)) : (encT r).length = 1 := by simp [encT]
@[simp] theorem take_encT (r : (List UInt8)) : (encT r).take 1 = encT r := by simp [encT]
@[simp] theorem plain_encT (r : (List UInt8)) : (encT r).all TV.plain = true := by simp [encT]
@[simp] theorem pc_encT (r : (List UInt8)) : (encT r).all TV.pc = true := by simp [encT, TV.pc, TV.cell, Value.oneCell']
@[simp] theorem noH_encT (r : (List UInt8)) : noHL (encT r) = true := by simp [encT]
@[simp] theorem argTL_encT {H : Nat → Option TV} {ρ : List Nat} (r : (List UInt8)) : argTL H ρ (encT r) = some (encT r) := by simp [encT]
@[simp] theorem views_encT {ρ : List Nat} (r : (List UInt8)) : (encT r).flatMap (views1 ρ) = [] := by simp [encT]
@[simp] theorem opnL_encT {k : Nat} (r : (List UInt8)) : opnL k (encT r) = (encT r, []) := by simp [encT]
@[simp] theorem closeL_encT {H : Nat → Option TV} (r : (List UInt8)) : closeL H (encT r) = some (encT r, H) := by simp [encT]
@[simp] theorem roL_encT (r : (List UInt8)) : roL (encT r) = encT r := by simp [encT]
@[simp] theorem noHR_encT (l : List ((List UInt8))) : noHR (l.map encT) = true := by induction l <;> simp [*]
@[simp] theorem roRows_encT (l : List ((List UInt8))) : roRows (l.map encT) = l.map encT := by induction l <;> simp [*]
@[simp] theorem noRo_encT (r : (List UInt8)) : noRoL (encT r) = true := by simp [encT]
@[simp] theorem noRoR_encT (l : List ((List UInt8))) : noRoR (l.map encT) = true := by induction l <;> simp [*]
theorem rl_encT (l : List ((List UInt8))) : ∀ r ∈ l.map encT, r.length = 1 := by
  intro r hr
  obtain ⟨x, _, rfl⟩ := List.mem_map.1 hr
  simp

end Go.Proofs.YtmpeolimleladaaDoor.R

open Go Go.Proofs.YtmpeolimleladaaDoor.T
namespace Go.Proofs.YtmpeolimleladaaDoor.R
set_option maxHeartbeats 4000000
set_option maxRecDepth 100000
set_option linter.unusedSimpArgs false
set_option linter.unusedVariables false
attribute [local simp] bsV bsRows chunk fillT partsT appV makeV rowsOf cellsOf placeOf frzT frz1
def WB : List UInt8 := [97, 98, 99, 120, 48, 255, 0]
end Go.Proofs.YtmpeolimleladaaDoor.R


open Go Go.Proofs.YtmpeolimleladaaDoor.T
namespace Go.Proofs.YtmpeolimleladaaDoor.R
set_option maxHeartbeats 4000000
set_option maxRecDepth 100000
set_option linter.unusedSimpArgs false
set_option linter.unusedVariables false
attribute [local simp] bsV bsRows chunk fillT partsT appV makeV rowsOf cellsOf placeOf frzT frz1
@[simp] theorem noRoR_encS (l : List (Int × Int)) : noRoR (l.map encSp) = true := by induction l <;> simp [*, encSp]
def LN : List Int := [0, 48, 97, 97, 98, 99, 120, 254, 255]
def LW : List Int := [0, 0, 1, 2, 9, 25, 200]
end Go.Proofs.YtmpeolimleladaaDoor.R

open Go Go.Proofs.YtmpeolimleladaaDoor.T
namespace Go.Proofs.YtmpeolimleladaaDoor.R
set_option maxHeartbeats 4000000
set_option maxRecDepth 100000
set_option linter.unusedSimpArgs false
set_option linter.unusedVariables false
attribute [local simp] bsV bsRows chunk fillT partsT appV makeV rowsOf cellsOf placeOf frzT frz1
/-- A leaf. -/
def Leaf : Rex → Prop
  | .mk _ s l => s.length ≤ 256 ∧ l = []
theorem Leaf.sm : ∀ {x : Rex}, Leaf x → Sm x
  | .mk _ s l, ⟨h1, h2⟩ => by subst h2; simp only [Sm, SmL]; simp; omega
end Go.Proofs.YtmpeolimleladaaDoor.R

open Go Go.Proofs.YtmpeolimleladaaDoor.T
namespace Go.Proofs.YtmpeolimleladaaDoor.R
set_option maxHeartbeats 4000000
set_option maxRecDepth 100000
set_option linter.unusedSimpArgs false
set_option linter.unusedVariables false
attribute [local simp] bsV bsRows chunk fillT partsT appV makeV rowsOf cellsOf placeOf frzT frz1
def RC (d : Nat) : Nat := 13 * 2 ^ d
theorem RC_succ (d : Nat) : RC (d + 1) = 2 * RC d := by unfold RC; rw [Nat.pow_succ]; omega
theorem RC_pos (d : Nat) : 13 ≤ RC d := by unfold RC; have := Nat.one_le_two_pow (n := d); omega
def KD : List Int := [3, 3, 3, 4, 4, 5, 5, 6, 7]
def Nil : TV := .val (.slice none 0 0)
/-- Where the parts stand while a tree grows. -/
def KidsAt (H : Nat → Option TV) (a c : Nat) (kc : TV) (kids : List Rex) : Prop :=
  (kids = [] ∧ kc = .val (.slice none 0 0)) ∨ ∃ id, kc = .hd id ∧ H id = some (.own 81 (kids.map encRex)) ∧ id ≠ 0 ∧ id ≠ a ∧ id ≠ c
theorem SmL_of : ∀ {l : List Rex}, (∀ x ∈ l, Sm x) → SmL l
  | [], _ => trivial
  | r :: l, h => ⟨h r (by simp), SmL_of fun x hx => h x (by simp [hx])⟩
end Go.Proofs.YtmpeolimleladaaDoor.R

open Go Go.Proofs.YtmpeolimleladaaDoor.T
namespace Go.Proofs.YtmpeolimleladaaDoor.R
set_option maxHeartbeats 4000000
set_option maxRecDepth 100000
set_option linter.unusedSimpArgs false
set_option linter.unusedVariables false
attribute [local simp] bsV bsRows chunk fillT partsT appV makeV rowsOf cellsOf placeOf frzT frz1
end Go.Proofs.YtmpeolimleladaaDoor.R

open Go Go.Proofs.YtmpeolimleladaaDoor.T
namespace Go.Proofs.YtmpeolimleladaaDoor.R
set_option maxHeartbeats 4000000
set_option maxRecDepth 100000
set_option linter.unusedSimpArgs false
set_option linter.unusedVariables false
attribute [local simp] bsV bsRows chunk fillT partsT appV makeV rowsOf cellsOf placeOf frzT frz1
theorem upd_none_iff {X : Option TV} {i j : Nat} {t : TV} : ((if i = j then some t else X) = none) = (¬ i = j ∧ X = none) := by
  by_cases e : i = j
  · simp [e]
  · simp [e]
theorem upd_none_iff' {X : Option TV} {i j : Nat} {t : TV} : ((if i = j then some t else X) = none) = (¬ j = i ∧ X = none) := by
  rw [upd_none_iff, eq_iff_iff]
  exact ⟨fun h => ⟨fun e => h.1 e.symm, h.2⟩, fun h => ⟨fun e => h.1 e.symm, h.2⟩⟩
/-- How it stands behind the first lines of l2Copy. -/
def CopyM (k : Int) (s : List (Int × Int)) (l : List Rex) (a : Nat) (st : St) : Prop := ∃ c id, st.σ 3 = .pd c 0 0 0 ∧ st.σ 10 = .hd id ∧ st.σ 1 = .rptr [.val (.int .i64 k), .ro (s.map encSp), .ro (encRexL l)] 0 ∧ st.σ 2 = .pd a 0 0 0 ∧
  st.H a = some (.box 81 [.val (.int .i64 0), .val (.slice none 0 0), .val (.slice none 0 0)]) ∧ st.H c = some (.box 81 [.val (.int .i64 k), .hd id, .val (.slice none 0 0)]) ∧ st.H id = some (.own 112 (s.map encSp)) ∧ ¬ a = c ∧ ¬ a = id ∧ ¬ c = id
end Go.Proofs.YtmpeolimleladaaDoor.R

open Go Go.Proofs.YtmpeolimleladaaDoor.T
namespace Go.Proofs.YtmpeolimleladaaDoor.R
set_option maxHeartbeats 4000000
set_option maxRecDepth 100000
set_option linter.unusedSimpArgs false
set_option linter.unusedVariables false
end Go.Proofs.YtmpeolimleladaaDoor.R

open Go Go.Proofs.YtmpeolimleladaaDoor.T
namespace Go.Proofs.YtmpeolimleladaaDoor.R
set_option maxHeartbeats 4000000
set_option maxRecDepth 100000
set_option linter.unusedSimpArgs false
set_option linter.unusedVariables false
attribute [local simp] bsV bsRows chunk fillT partsT appV makeV rowsOf cellsOf placeOf frzT frz1
def KB : List Int := [0, 8, 3, 5]
def LRo : TV → List Rex → (Nat → Option TV) → Prop := fun L yl _ => L = .ro (encRexL yl)
def LAny (a c : Nat) : TV → List Rex → (Nat → Option TV) → Prop := fun L yl H => L = .ro (encRexL yl) ∨ ∃ j rows, L = .hd j ∧ H j = some (.own 81 rows) ∧ roRows rows = encRexL yl ∧ ¬ j = 0 ∧ ¬ j = a ∧ ¬ j = c
end Go.Proofs.YtmpeolimleladaaDoor.R

open Go Go.Proofs.YtmpeolimleladaaDoor.T
namespace Go.Proofs.YtmpeolimleladaaDoor.R
set_option maxHeartbeats 4000000
set_option maxRecDepth 100000
set_option linter.unusedSimpArgs false
set_option linter.unusedVariables false
attribute [local simp] bsV bsRows chunk fillT partsT appV makeV rowsOf cellsOf placeOf frzT frz1
end Go.Proofs.YtmpeolimleladaaDoor.R

open Go Go.Proofs.YtmpeolimleladaaDoor.T
namespace Go.Proofs.YtmpeolimleladaaDoor.R
set_option maxHeartbeats 4000000
set_option maxRecDepth 100000
set_option linter.unusedSimpArgs false
set_option linter.unusedVariables false
attribute [local simp] bsV bsRows chunk fillT partsT appV makeV rowsOf cellsOf placeOf
/-- Whether it is so. -/
noncomputable def bP (p : Prop) : Bool := @decide p (Classical.propDecidable p)
theorem bP_pos {p : Prop} (h : p) : bP p = true := by unfold bP; simp [h]
theorem bP_neg {p : Prop} (h : ¬ p) : bP p = false := by unfold bP; simp [h]
@[simp] theorem bP_iff {p : Prop} : bP p = true ↔ p := by unfold bP; simp
theorem take_next {α : Type} {a b : List α} {i : Nat} (hi : i < a.length) (hj : i < b.length) (h : a.take i = b.take i) (he : a[i] = b[i]) : a.take (i + 1) = b.take (i + 1) := by
  rw [List.take_succ_eq_append_getElem hi, List.take_succ_eq_append_getElem hj, h, he]
theorem ne_at {α : Type} {a b : List α} {i : Nat} (hi : i < a.length) (hj : i < b.length) (he : ¬ a[i] = b[i]) : ¬ a = b := fun e => by subst e; exact he rfl
theorem take_all {α : Type} {a b : List α} {i : Nat} (hl : a.length = b.length) (hi : b.length ≤ i) (h : a.take i = b.take i) : a = b := by
  rwa [List.take_of_length_le (by omega), List.take_of_length_le hi] at h
theorem aggS (x y : Int × Int) : aggEq Tryd.prog 112 (encSp x) (encSp y) = some (decide (x.1 = y.1) && decide (x.2 = y.2)) := by
  simp [aggEq, eqFs, encSp]
  rfl
theorem aggT (x y : Tok) : aggEq Tryd.prog 64 (encTok x) (encTok y) = some (decide (x.1 = y.1) && (decide (x.2.1 = y.2.1) && decide (x.2.2 = y.2.2))) := by
  simp [aggEq, eqFs, encTok]
  rfl
end Go.Proofs.YtmpeolimleladaaDoor.R

open Go Go.Proofs.YtmpeolimleladaaDoor.T
namespace Go.Proofs.YtmpeolimleladaaDoor.R
set_option maxHeartbeats 4000000
set_option maxRecDepth 100000
set_option linter.unusedSimpArgs false
set_option linter.unusedVariables false
attribute [local simp] bsV bsRows chunk fillT partsT appV makeV rowsOf cellsOf placeOf
/-- Numbers from k on. -/
def mkInts (k : Int) (n : Nat) : List Int := (List.range n).map fun (i : Nat) => k + (i : Int)
@[simp] theorem mkInts_len (k : Int) (n : Nat) : (mkInts k n).length = n := by simp [mkInts]
theorem mkInts_at {k : Int} {n i : Nat} (h : i < n) : (mkInts k n)[i]? = some (k + i) := by simp [mkInts, h]
def mkBools (k : Int) (n : Nat) : List Bool := (List.range n).map fun (i : Nat) => decide ((k + (i : Int)) % 3 = 0)
@[simp] theorem mkBools_len (k : Int) (n : Nat) : (mkBools k n).length = n := by simp [mkBools]
theorem mkBools_at {k : Int} {n i : Nat} (h : i < n) : (mkBools k n)[i]? = some (decide ((k + (i : Int)) % 3 = 0)) := by simp [mkBools, h]
def sumL {α : Type _} : List (List α) → Nat
  | [] => 0
  | x :: l => x.length + sumL l
theorem sumL_drop {α : Type _} {l : List (List α)} {i : Nat} (h : i < l.length) : sumL (l.drop i) = l[i].length + sumL (l.drop (i + 1)) := by
  conv => lhs; rw [List.drop_eq_getElem_cons h]
  rw [sumL]
theorem sumL_get {α : Type _} {l : List (List α)} {i : Nat} (h : i < l.length) : l[i].length ≤ sumL l := by
  induction l generalizing i with
  | nil => simp at h
  | cons r l ih =>
    cases i with
    | zero => simp [sumL]
    | succ i => simp only [List.getElem_cons_succ, sumL]; have := ih (i := i) (by simpa using h); omega
def costD (d : Dfa) : Nat := 2 * sumL d.parts + sumL d.rows + d.acc.length
theorem ite_neg1' {c : Prop} [Decidable c] {x : Int} (h : ¬ (if c then -1 else x) < 0) : ¬ c ∧ ¬ x < 0 := by
  split at h
  · exact absurd h (by omega)
  · exact ⟨by assumption, h⟩
theorem szN_ok' {n : Nat} {left : Int} (hn : n ≤ 1152921504606846976) (h0 : 0 ≤ left) (h1 : left ≤ 1048576) (h : ¬ szN n left < 0) : (n : Int) ≤ left ∧ szN n left = left - n := by
  have hw : IntKind.i64.wrap (left - n) = left - n := wrapi (by omega)
  unfold szN at h ⊢
  rw [hw] at h ⊢
  split at h
  · exact absurd h (by omega)
  · rename_i h2
    rw [if_neg h2]
    omega
theorem szLoopN_ok : ∀ (ns : List Nat) (left : Int), (∀ n ∈ ns, n ≤ 1152921504606846976) → 0 ≤ left → left ≤ 1048576 → ¬ szLoopN ns left < 0 → (∀ n ∈ ns, n ≤ 1048576) ∧ szLoopN ns left = left - ns.sum
  | [], left, hs, h0, h1, h => by simp [szLoopN]
  | n :: ns, left, hs, h0, h1, h => by
    rw [szLoopN] at h ⊢
    obtain ⟨c1, h⟩ := ite_neg1' h
    rw [if_neg c1]
    obtain ⟨a1, a2⟩ := szN_ok' (hs n (by simp)) h0 h1 c1
    obtain ⟨b1, b2⟩ := szLoopN_ok ns _ (fun q hq => hs q (by simp [hq])) (by omega) (by omega) h
    refine ⟨fun q hq => ?_, by rw [b2, a2]; simp only [List.sum_cons]; omega⟩
    rcases List.mem_cons.1 hq with rfl | hq
    · omega
    · exact b1 q hq
theorem szSSF_ok {ns : List Nat} {left : Int} (hl : ns.length ≤ 1152921504606846976) (hs : ∀ n ∈ ns, n ≤ 1152921504606846976) (h0 : 0 ≤ left) (h1 : left ≤ 1048576) (h : ¬ szSSF ns left < 0) : ns.length ≤ 1048576 ∧ (∀ n ∈ ns, n ≤ 1048576) ∧ szSSF ns left = left - ns.length - ns.sum ∧ 0 ≤ szSSF ns left := by
  have h' := h
  unfold szSSF at h ⊢
  obtain ⟨c1, h⟩ := ite_neg1' h
  rw [if_neg c1]
  have hw : IntKind.i64.wrap (left - ns.length) = left - ns.length := wrapi (by omega)
  rw [hw] at c1 h ⊢
  obtain ⟨b1, b2⟩ := szLoopN_ok ns _ hs (by omega) (by omega) h
  exact ⟨by omega, b1, b2, by omega⟩
theorem sumL_eq {α : Type _} : ∀ l : List (List α), sumL l = (l.map List.length).sum
  | [] => rfl
  | x :: l => by simp [sumL, sumL_eq l]
/-- What a machine that can be read as data is bounded by. -/
structure BDfa (d : Dfa) : Prop where
  parts : d.parts.length ≤ 1152921504606846976
  rows : d.rows.length ≤ 1152921504606846976
  acc : d.acc.length ≤ 1152921504606846976
  part : ∀ x ∈ d.parts, x.length ≤ 1152921504606846976
  row : ∀ x ∈ d.rows, x.length ≤ 1152921504606846976
theorem DSm_of {d : Dfa} (hB : BDfa d) (h : ¬ szDfaF d 1048576 < 0) : DSm d ∧ costD d ≤ 4194304 := by
  unfold szDfaF at h
  simp only at h
  obtain ⟨c1, h⟩ := ite_neg1' h
  obtain ⟨c2, h⟩ := ite_neg1' h
  obtain ⟨c3, h⟩ := ite_neg1' h
  obtain ⟨a1, a2, a3, a4⟩ := szSSF_ok (by simpa using hB.parts) (by simpa using hB.part) (by omega) (by omega) c1
  obtain ⟨b1, b2, b3, b4⟩ := szSSF_ok (by simpa using hB.rows) (by simpa using hB.row) (by omega) (by omega) c2
  obtain ⟨d1, d2⟩ := szN_ok' hB.acc (by omega) (by omega) c3
  simp only [List.length_map] at a1 a3 b1 b3
  refine ⟨⟨a1, b1, by omega, by simpa using a2, by simpa using b2⟩, ?_⟩
  unfold costD
  rw [sumL_eq, sumL_eq]
  omega
end Go.Proofs.YtmpeolimleladaaDoor.R

open Go Go.Proofs.YtmpeolimleladaaDoor.T
namespace Go.Proofs.YtmpeolimleladaaDoor.R
set_option maxHeartbeats 4000000
set_option maxRecDepth 100000
set_option linter.unusedSimpArgs false
set_option linter.unusedVariables false
attribute [local simp] bsV bsRows chunk fillT partsT appV makeV rowsOf cellsOf placeOf

/-- A table of 256 bits. -/
def bitsT (f : Nat → Bool) : List TV := (List.range 256).map fun b => .val (.bool (f b))
@[simp] theorem bitsT_len (f : Nat → Bool) : (bitsT f).length = 256 := by simp [bitsT]
@[simp] theorem bitsT_plain (f : Nat → Bool) : (bitsT f).all TV.plain = true := by simp [bitsT]
@[simp] theorem bitsT_pc (f : Nat → Bool) : (bitsT f).all TV.pc = true := by simp [bitsT]
@[simp] theorem bitsT_noH (f : Nat → Bool) : noHL (bitsT f) = true := by
  unfold bitsT
  induction List.range 256 with
  | nil => rfl
  | cons a l ih => simp [ih]
@[simp] theorem bitsT_take (f : Nat → Bool) : (bitsT f).take 256 = bitsT f := by rw [List.take_of_length_le (by simp)]
theorem bitsT_at {f : Nat → Bool} {i : Nat} (h : i < 256) : (bitsT f)[i]? = some (.val (.bool (f i))) := by simp [bitsT, h]
theorem bitsT_at' {f : Nat → Bool} {i : Nat} (h : i < (bitsT f).length) : (bitsT f)[i] = .val (.bool (f i)) := by simp [bitsT]
theorem bitsT_cut {f : Nat → Bool} {i : Nat} (h : i < 256) : List.take 1 (List.drop i (bitsT f)) = [.val (.bool (f i))] := by
  rw [List.drop_eq_getElem_cons (by simpa using h)]
  simp [bitsT_at']
theorem bitsT_congr {f g : Nat → Bool} (h : ∀ b, b < 256 → f b = g b) : bitsT f = bitsT g := by
  unfold bitsT
  apply List.map_congr_left
  intro b hb
  rw [h b (List.mem_range.1 hb)]
theorem bitsT_put {f : Nat → Bool} {i : Nat} {x : Bool} (h : i < 256) : List.take i (bitsT f) ++ TV.val (.bool x) :: List.drop (i + 1) (bitsT f) = bitsT fun b => if b = i then x else f b := by
  apply List.ext_getElem?
  intro j
  by_cases h1 : j < i
  · rw [List.getElem?_append_left (by simp; omega), List.getElem?_take_of_lt h1, bitsT_at (by omega), bitsT_at (by omega), if_neg (by omega)]
  · rw [List.getElem?_append_right (by simp; omega)]
    have hl : (List.take i (bitsT f)).length = i := by simp; omega
    rw [hl]
    by_cases h2 : j = i
    · subst h2; rw [Nat.sub_self]; rw [bitsT_at h, if_pos rfl]; rfl
    · obtain ⟨d, hd⟩ : ∃ d, j - i = d + 1 := ⟨j - i - 1, by omega⟩
      rw [hd, List.getElem?_cons_succ, List.getElem?_drop, show i + 1 + d = j by omega]
      by_cases h3 : j < 256
      · rw [bitsT_at h3, bitsT_at h3, if_neg h2]
      · rw [List.getElem?_eq_none (by simp; omega), List.getElem?_eq_none (by simp; omega)]
theorem bitsT_false : List.replicate 256 (TV.val (.bool false)) = bitsT fun _ => false := by
  apply List.ext_getElem?
  intro j
  by_cases h : j < 256
  · rw [bitsT_at h, List.getElem?_replicate, if_pos h]
  · rw [List.getElem?_eq_none (by simp; omega), List.getElem?_eq_none (by simp; omega)]
@[simp] theorem bitsT_drop (f : Nat → Bool) : (bitsT f).drop 256 = [] := by rw [List.drop_eq_nil_of_le (by simp)]
@[simp] theorem bitsT_closeL {H : Nat → Option TV} (f : Nat → Bool) : closeL H (bitsT f) = some (bitsT f, H) := by
  unfold bitsT
  induction List.range 256 with
  | nil => simp
  | cons a l ih => simp [ih]
@[simp] theorem bitsT_opnL {k : Nat} (f : Nat → Bool) : opnL k (bitsT f) = (bitsT f, []) := by
  unfold bitsT
  induction List.range 256 with
  | nil => simp
  | cons a l ih => simp [ih]
@[simp] theorem bitsT_noRo (f : Nat → Bool) : noRoL (bitsT f) = true := by
  unfold bitsT
  induction List.range 256 with
  | nil => rfl
  | cons a l ih => simp [ih]
/-- The least byte of a set, or -1. -/
def firstG (f : Nat → Bool) (i : Nat) : Int := match (List.range' i (256 - i)).find? f with
  | some b => b
  | none => -1
def firstS (p : List (Int × Int)) : Int := firstG (fun b => hasS p b) 0
theorem firstG_next {f : Nat → Bool} {i : Nat} (h : i < 256) : firstG f i = if f i = true then (i : Int) else firstG f (i + 1) := by
  unfold firstG
  rw [show 256 - i = (256 - (i + 1)) + 1 by omega, List.range'_succ, List.find?_cons]
  cases f i <;> simp
theorem firstG_end {f : Nat → Bool} : firstG f 256 = -1 := by
  unfold firstG; rfl
def sizeS (p : List (Int × Int)) : Nat := (List.range 256).countP fun (b : Nat) => hasS p b
def sizeB (p : List (Int × Int)) (b : Nat) : Nat := (List.range b).countP fun (b : Nat) => hasS p b
theorem sizeB_succ {p : List (Int × Int)} {b : Nat} : sizeB p (b + 1) = sizeB p b + (if hasS p b = true then 1 else 0) := by
  unfold sizeB; rw [List.range_succ, List.countP_append]; simp [List.countP_cons]
theorem sizeB_le {p : List (Int × Int)} {b : Nat} : sizeB p b ≤ b := by
  unfold sizeB; have := List.countP_le_length (p := fun b : Nat => hasS p b) (l := List.range b); simpa using this
def addB (l : List (Int × Int)) (b : Int) : List (Int × Int) := match l.getLast? with
  | some s => if s.2 = b - 1 then l.set (l.length - 1) (s.1, b) else l ++ [(b, b)]
  | none => [(b, b)]
/-- The spans of bytes below b. -/
def spansTo (f : Nat → Bool) : Nat → List (Int × Int)
  | 0 => []
  | b + 1 => if f b = true then addB (spansTo f b) b else spansTo f b
def spansF (f : Nat → Bool) : List (Int × Int) := spansTo f 256
theorem addB_len {l : List (Int × Int)} {b : Int} : (addB l b).length ≤ l.length + 1 ∧ addB l b ≠ [] := by
  unfold addB
  cases h : l.getLast? with
  | none =>
    simp only
    exact ⟨by simp, by simp⟩
  | some s =>
    simp only
    split
    · refine ⟨by simp, fun e => ?_⟩
      have := congrArg List.length e
      simp at this
      subst this; simp at h
    · exact ⟨by simp, by simp⟩
theorem spansTo_len {f : Nat → Bool} : ∀ b, (spansTo f b).length ≤ b
  | 0 => by simp [spansTo]
  | b + 1 => by
    unfold spansTo
    have := spansTo_len (f := f) b
    split
    · have := (addB_len (l := spansTo f b) (b := b)).1; omega
    · omega
theorem spansTo_nil {f : Nat → Bool} : ∀ b, spansTo f b = [] ↔ ∀ i, i < b → f i = false
  | 0 => by simp [spansTo]
  | b + 1 => by
    unfold spansTo
    have ih := spansTo_nil (f := f) b
    by_cases c : f b = true
    · rw [if_pos c]
      constructor
      · intro h; exact ((addB_len (l := spansTo f b) (b := b)).2 h).elim
      · intro h; have := h b (by omega); rw [c] at this; cases this
    · rw [if_neg c, ih]
      constructor
      · intro h i hi
        by_cases e : i = b
        · subst e; simpa using c
        · exact h i (by omega)
      · intro h i hi; exact h i (by omega)
@[simp] theorem noHR_mapB (l : List Nat) (g : Nat → Bool) : noHR (l.map fun b => [TV.val (.bool (g b))]) = true := by induction l <;> simp [*]
@[simp] theorem noRoR_mapB (l : List Nat) (g : Nat → Bool) : noRoR (l.map fun b => [TV.val (.bool (g b))]) = true := by induction l <;> simp [*]
@[simp] theorem roRows_mapB (l : List Nat) (g : Nat → Bool) : roRows (l.map fun b => [TV.val (.bool (g b))]) = l.map fun b => [TV.val (.bool (g b))] := by induction l <;> simp [*]
/-- Both sets have it. -/
def meetF (p q : List (Int × Int)) (b : Nat) : Bool := hasS p b && hasS q b
end Go.Proofs.YtmpeolimleladaaDoor.R

open Go Go.Proofs.YtmpeolimleladaaDoor.T
namespace Go.Proofs.YtmpeolimleladaaDoor.R
set_option linter.unusedSimpArgs false
set_option linter.unusedVariables false
/-- Patterns of right form. -/
inductive Rx where
  | set (s : List (Int × Int))
  | emp
  | cat (a b : Rx)
  | or (a b : Rx)
  | star (a : Rx)
  | and (a b : Rx)
  | not (a : Rx)
  deriving DecidableEq, Inhabited
def Rx.kind : Rx → Int
  | .set _ => 1
  | .emp => 2
  | .cat _ _ => 3
  | .or _ _ => 4
  | .star _ => 5
  | .and _ _ => 6
  | .not _ => 7
def Rx.span : Rx → List (Int × Int)
  | .set s => s
  | _ => []
def Rx.kids : Rx → List Rx
  | .set _ | .emp => []
  | .cat a b | .or a b | .and a b => [a, b]
  | .star a | .not a => [a]
def Rx.rex : Rx → Rex
  | .set s => .mk 1 s []
  | .emp => .mk 2 [] []
  | .cat a b => .mk 3 [] [a.rex, b.rex]
  | .or a b => .mk 4 [] [a.rex, b.rex]
  | .star a => .mk 5 [] [a.rex]
  | .and a b => .mk 6 [] [a.rex, b.rex]
  | .not a => .mk 7 [] [a.rex]
def Rx.ok : Rx → Prop
  | .set s => setOk s = true
  | .emp => True
  | .cat a b | .or a b | .and a b => a.ok ∧ b.ok
  | .star a | .not a => a.ok
def Rx.sz : Rx → Nat
  | .set _ | .emp => 1
  | .cat a b | .or a b | .and a b => a.sz + b.sz + 1
  | .star a | .not a => a.sz + 1
theorem Rx.sz_pos (x : Rx) : 1 ≤ x.sz := by cases x <;> simp [Rx.sz]
theorem Rx.rex_eq (x : Rx) : x.rex = .mk x.kind x.span (x.kids.map Rx.rex) := by cases x <;> rfl
theorem Rx.rex_inj : ∀ (x y : Rx), x.rex = y.rex → x = y := by
  intro x
  induction x with
  | set s => intro y h; cases y <;> simp [Rx.rex] at h; rw [h]
  | emp => intro y h; cases y <;> simp [Rx.rex] at h; rfl
  | cat a b iha ihb => intro y h; cases y <;> simp [Rx.rex] at h; rw [iha _ h.1, ihb _ h.2]
  | or a b iha ihb => intro y h; cases y <;> simp [Rx.rex] at h; rw [iha _ h.1, ihb _ h.2]
  | and a b iha ihb => intro y h; cases y <;> simp [Rx.rex] at h; rw [iha _ h.1, ihb _ h.2]
  | star a iha => intro y h; cases y <;> simp [Rx.rex] at h; rw [iha _ h]
  | not a iha => intro y h; cases y <;> simp [Rx.rex] at h; rw [iha _ h]
theorem manyN_rex : ∀ x : Rx, manyN x.rex = x.sz := by
  intro x
  induction x with
  | set s => simp [Rx.rex, manyN, manyL, Rx.sz]
  | emp => simp [Rx.rex, manyN, manyL, Rx.sz]
  | cat a b iha ihb => simp [Rx.rex, manyN, manyL, Rx.sz, iha, ihb]; omega
  | or a b iha ihb => simp [Rx.rex, manyN, manyL, Rx.sz, iha, ihb]; omega
  | and a b iha ihb => simp [Rx.rex, manyN, manyL, Rx.sz, iha, ihb]; omega
  | star a iha => simp [Rx.rex, manyN, manyL, Rx.sz, iha]; omega
  | not a iha => simp [Rx.rex, manyN, manyL, Rx.sz, iha]; omega
theorem setOkP_len : ∀ (l : List (Int × Int)) (q : Int), setOkP (some q) l = true → q ≤ 255 → (l.length : Int) ≤ 255 - q
  | [], q, _, hq => by simp; omega
  | x :: l, q, h, hq => by
    simp only [setOkP, okX, Bool.and_eq_true, decide_eq_true_eq] at h
    obtain ⟨⟨h1, h2, h3, h4⟩, h5⟩ := h
    have := h4 q rfl
    have := setOkP_len l x.2 h5 h2
    simp; omega
theorem setOk_len {l : List (Int × Int)} (h : setOk l = true) : l.length ≤ 256 := by
  cases l with
  | nil => simp
  | cons x l =>
    simp only [setOk, setOkP, okX, Bool.and_eq_true, decide_eq_true_eq] at h
    have := setOkP_len l x.2 h.2 h.1.2.1
    simp; omega
theorem Rx.sm : ∀ x : Rx, x.ok → Sm x.rex := by
  intro x
  induction x with
  | set s => intro h; have := setOk_len h; simp only [Rx.rex, Sm, SmL]; exact ⟨by omega, by simp, trivial⟩
  | emp => intro h; simp [Rx.rex, Sm, SmL]
  | cat a b iha ihb => intro h; simp only [Rx.rex, Sm, SmL]; exact ⟨by simp, by simp, iha h.1, ihb h.2, trivial⟩
  | or a b iha ihb => intro h; simp only [Rx.rex, Sm, SmL]; exact ⟨by simp, by simp, iha h.1, ihb h.2, trivial⟩
  | and a b iha ihb => intro h; simp only [Rx.rex, Sm, SmL]; exact ⟨by simp, by simp, iha h.1, ihb h.2, trivial⟩
  | star a iha => intro h; simp only [Rx.rex, Sm, SmL]; exact ⟨by simp, by simp, iha h, trivial⟩
  | not a iha => intro h; simp only [Rx.rex, Sm, SmL]; exact ⟨by simp, by simp, iha h, trivial⟩
/-- What has the right form is one of these. -/
theorem formF_rx : ∀ (d : Nat) (r : Rex), formF d r = true → ∃ x : Rx, x.rex = r ∧ x.ok
  | 0, r, h => by simp [formF] at h
  | d + 1, .mk k s l, h => by
    simp only [formF, headOk, Bool.and_eq_true, decide_eq_true_eq, Bool.or_eq_true, List.all_eq_true] at h
    obtain ⟨⟨⟨h1, h2⟩, h3⟩, h4⟩ := h
    have hs : ¬ k = 1 → s = [] := fun e => List.eq_nil_of_length_eq_zero (by rcases h2 with h2 | h2; exact absurd h2 e; exact h2)
    unfold kidsN at h1
    split at h1
    · rename_i hk
      obtain rfl : l = [] := List.eq_nil_of_length_eq_zero (by omega)
      rcases hk with rfl | rfl
      · exact ⟨.set s, rfl, h3⟩
      · exact ⟨.emp, by simp [Rx.rex, hs (by omega)], trivial⟩
    · split at h1
      · rename_i hk0 hk
        match l, h1, h4 with
        | [a], _, h4 =>
          obtain ⟨x, hx, hx2⟩ := formF_rx d a (h4 a (by simp))
          rw [hs (by omega)]
          rcases hk with rfl | rfl
          · exact ⟨.star x, by simp [Rx.rex, hx], hx2⟩
          · exact ⟨.not x, by simp [Rx.rex, hx], hx2⟩
        | [], h1, _ => simp at h1
        | a :: b :: l, h1, _ => simp at h1; omega
      · split at h1
        · rename_i hk0 hk1 hk
          match l, h1, h4 with
          | [a, b], _, h4 =>
            obtain ⟨x, hx, hx2⟩ := formF_rx d a (h4 a (by simp))
            obtain ⟨y, hy, hy2⟩ := formF_rx d b (h4 b (by simp))
            rw [hs (by omega)]
            rcases hk with rfl | rfl | rfl
            · exact ⟨.cat x y, by simp [Rx.rex, hx, hy], hx2, hy2⟩
            · exact ⟨.or x y, by simp [Rx.rex, hx, hy], hx2, hy2⟩
            · exact ⟨.and x y, by simp [Rx.rex, hx, hy], hx2, hy2⟩
          | [], h1, _ => simp at h1
          | [a], h1, _ => simp at h1
          | a :: b :: c :: l, h1, _ => simp at h1; omega
        · omega
/-- As it lies in memory. -/
def encX (x : Rx) : List TV := encRex x.rex
theorem encX_eq (x : Rx) : encX x = [.val (.int .i64 x.kind), .ro (x.span.map encSp), .ro (x.kids.map encX)] := by
  unfold encX
  rw [Rx.rex_eq]
  simp [encRex, encRexL_eq, Function.comp_def]
def isNo : Rx → Bool
  | .set [] => true
  | _ => false
def isAll : Rx → Bool
  | .not a => isNo a
  | _ => false
def starX : Rx → Rx
  | .star a => .star a
  | x => if x = .emp ∨ isNo x = true then .emp else .star x
def notX : Rx → Rx
  | .not a => a
  | x => .not x
def catX : Rx → Rx → Rx
  | .cat x y, b => if isNo b then .set [] else if b = .emp then .cat x y else catX x (catX y b)
  | .emp, b => if isNo b then .set [] else b
  | a, b => if isNo a || isNo b then .set [] else if b = .emp then a else .cat a b
def listX (k : Int) : Rx → List Rx
  | .or a b => if k = 4 then listX k a ++ listX k b else [.or a b]
  | .and a b => if k = 6 then listX k a ++ listX k b else [.and a b]
  | x => [x]
def mk2 (k : Int) (a b : Rx) : Rx := if k = 4 then .or a b else .and a b
def chainX (k : Int) : List Rx → Rx
  | [] => .emp
  | [x] => x
  | x :: y :: l => mk2 k x (chainX k (y :: l))
theorem chainX_ok {k : Int} : ∀ {l : List Rx}, (∀ x ∈ l, x.ok) → (chainX k l).ok
  | [], _ => trivial
  | [x], h => h x (by simp)
  | x :: y :: l, h => by
    have h1 := h x (by simp)
    have h2 := chainX_ok (k := k) (l := y :: l) fun z hz => h z (by simp [hz])
    unfold chainX mk2
    split <;> exact ⟨h1, h2⟩
def wt : List Rx → Nat
  | [] => 0
  | x :: l => x.sz + 1 + wt l
theorem wt_app : ∀ a b : List Rx, wt (a ++ b) = wt a + wt b
  | [], b => by simp [wt]
  | x :: a, b => by simp [wt, wt_app a b]; omega
theorem wt_len : ∀ l : List Rx, 2 * l.length ≤ wt l
  | [] => by simp [wt]
  | x :: l => by have := wt_len l; have := x.sz_pos; simp [wt]; omega
theorem wt_mem : ∀ {l : List Rx} {x : Rx}, x ∈ l → x.sz + 1 ≤ wt l
  | y :: l, x, h => by
    rcases List.mem_cons.1 h with rfl | h
    · simp [wt]
    · have := wt_mem h; simp [wt]; omega
theorem chainX_sz {k : Int} : ∀ (l : List Rx), (chainX k l).sz ≤ max 1 (wt l - 1)
  | [] => by simp only [chainX, Rx.sz]; omega
  | [x] => by simp [chainX, wt]; omega
  | x :: y :: l => by
    have := chainX_sz (k := k) (y :: l)
    have hy := y.sz_pos
    unfold chainX mk2
    split <;> simp only [Rx.sz, wt] at * <;> omega
theorem listX_ok {k : Int} : ∀ {x : Rx}, x.ok → ∀ y ∈ listX k x, y.ok := by
  intro x
  induction x with
  | or a b iha ihb =>
    intro h y hy
    unfold listX at hy
    split at hy
    · rcases List.mem_append.1 hy with hy | hy
      · exact iha h.1 y hy
      · exact ihb h.2 y hy
    · simp at hy; subst hy; exact h
  | and a b iha ihb =>
    intro h y hy
    unfold listX at hy
    split at hy
    · rcases List.mem_append.1 hy with hy | hy
      · exact iha h.1 y hy
      · exact ihb h.2 y hy
    · simp at hy; subst hy; exact h
  | _ => intro h y hy; simp [listX] at hy; subst hy; exact h
theorem listX_wt {k : Int} : ∀ x : Rx, wt (listX k x) ≤ x.sz + 1 := by
  intro x
  induction x with
  | or a b iha ihb =>
    unfold listX
    split
    · rw [wt_app]; simp only [Rx.sz]; omega
    · simp [wt]
  | and a b iha ihb =>
    unfold listX
    split
    · rw [wt_app]; simp only [Rx.sz]; omega
    · simp [wt]
  | _ => simp [listX, wt]
theorem listX_ne {k : Int} : ∀ x : Rx, listX k x ≠ [] := by
  intro x
  induction x with
  | or a b iha ihb => unfold listX; split <;> simp [iha]
  | and a b iha ihb => unfold listX; split <;> simp [iha]
  | _ => simp [listX]
theorem catX_ok : ∀ {a b : Rx}, a.ok → b.ok → (catX a b).ok := by
  intro a
  induction a with
  | cat x y ihx ihy =>
    intro b ha hb
    unfold catX
    split
    · rfl
    · split
      · exact ha
      · exact ihx ha.1 (ihy ha.2 hb)
  | emp => intro b ha hb; unfold catX; split; rfl; exact hb
  | _ => intro b ha hb; unfold catX; split; rfl; split; exact ha; exact ⟨ha, hb⟩
theorem catX_sz : ∀ (a b : Rx), (catX a b).sz ≤ a.sz + b.sz + 1 := by
  intro a
  induction a with
  | cat x y ihx ihy =>
    intro b
    unfold catX
    have := b.sz_pos
    split
    · simp [Rx.sz]
    · split
      · simp [Rx.sz]; omega
      · have := ihx (catX y b); have := ihy b; simp only [Rx.sz]; omega
  | emp => intro b; unfold catX; split <;> simp [Rx.sz]; omega
  | _ => intro b; unfold catX; split; simp [Rx.sz]; split <;> simp only [Rx.sz] <;> omega
theorem starX_ok {x : Rx} (h : x.ok) : (starX x).ok := by
  cases x <;> simp only [starX] <;> first | exact h | (split; exact trivial; exact h)
theorem starX_sz (x : Rx) : (starX x).sz ≤ x.sz + 1 := by
  cases x <;> simp only [starX] <;> first | (simp [Rx.sz]; done) | (split <;> simp [Rx.sz])
theorem notX_ok {x : Rx} (h : x.ok) : (notX x).ok := by cases x <;> exact h
theorem notX_sz (x : Rx) : (notX x).sz ≤ x.sz + 1 := by cases x <;> simp [notX, Rx.sz]; omega
end Go.Proofs.YtmpeolimleladaaDoor.R

open Go Go.Proofs.YtmpeolimleladaaDoor.T
namespace Go.Proofs.YtmpeolimleladaaDoor.R
set_option maxHeartbeats 4000000
set_option maxRecDepth 100000
set_option linter.unusedSimpArgs false
set_option linter.unusedVariables false
attribute [local simp] bsV bsRows chunk fillT partsT appV makeV rowsOf cellsOf placeOf
@[simp] theorem len_X (r : Rx) : (encX r).length = 3 := len_rex _
@[simp] theorem take_X (r : Rx) : (encX r).take 3 = encX r := take_rex _
@[simp] theorem plain_X (r : Rx) : (encX r).all TV.plain = true := plain_rex _
@[simp] theorem pc_X (r : Rx) : (encX r).all TV.pc = true := pc_rex _
@[simp] theorem noH_X (r : Rx) : noHL (encX r) = true := noH_rex _
@[simp] theorem argTL_X {H : Nat → Option TV} {ρ : List Nat} (r : Rx) : argTL H ρ (encX r) = some (encX r) := argTL_rex _
@[simp] theorem views_X {ρ : List Nat} (r : Rx) : (encX r).flatMap (views1 ρ) = [] := views_rex _
@[simp] theorem opnL_X {k : Nat} (r : Rx) : opnL k (encX r) = (encX r, []) := opnL_rex _
@[simp] theorem closeL_X {H : Nat → Option TV} (r : Rx) : closeL H (encX r) = some (encX r, H) := closeL_rex _
@[simp] theorem noHR_X (l : List Rx) : noHR (l.map encX) = true := by induction l <;> simp [*]
theorem roL_X (r : Rx) : roL (encX r) = encX r := by
  have := roL_rex r.rex
  exact this
@[simp] theorem roRows_X (l : List Rx) : roRows (l.map encX) = l.map encX := by induction l <;> simp [roL_X, *]
theorem frzX {f : FuncId} {args : List TV} {r0 : TV} {x : Rx} (h : TC Tryd.prog f args [] r0 []) (e : toRo r0 = .agg (encX x)) : TC Tryd.prog f args [] (.agg (encX x)) [] := by
  have := h.frz
  rwa [e] at this
theorem kind_no (x : Rx) : isNo x = decide (x.kind = 1 ∧ x.span = []) := by
  cases x with
  | set s => cases s <;> simp [isNo, Rx.kind, Rx.span]
  | _ => simp [isNo, Rx.kind]
theorem kind_emp (x : Rx) : x = .emp ↔ x.kind = 2 := by cases x <;> simp [Rx.kind]
theorem no_kind {x : Rx} (h : x.kind = 3) : ∃ a b, x = .cat a b := by cases x <;> simp [Rx.kind] at h; exact ⟨_, _, rfl⟩
theorem catX_no {a b : Rx} (h : (isNo a || isNo b) = true) : catX a b = .set [] := by
  cases a <;> unfold catX
  case cat x y => rw [if_pos (by simpa [isNo] using h)]
  case emp => rw [if_pos (by simpa [isNo] using h)]
  all_goals rw [if_pos h]
theorem catX_l {b : Rx} (h : isNo b = false) : catX .emp b = b := by unfold catX; rw [if_neg (by simp [h])]
theorem catX_r {a : Rx} (h : isNo a = false) : catX a .emp = a := by
  cases a <;> unfold catX
  case cat x y => simp [isNo]
  case emp => simp [isNo]
  all_goals simp [h, isNo] <;> simp [isNo] at h ⊢ <;> simp [h]
theorem catX_c {x y b : Rx} (h : isNo b = false) (h2 : ¬ b = .emp) : catX (.cat x y) b = catX x (catX y b) := by
  conv => lhs; unfold catX
  rw [if_neg (by simp [h]), if_neg h2]
theorem catX_o {a b : Rx} (h1 : isNo a = false) (h : isNo b = false) (h2 : ¬ b = .emp) (h3 : ¬ a.kind = 2) (h4 : ¬ a.kind = 3) : catX a b = .cat a b := by
  cases a <;> unfold catX <;> simp [Rx.kind] at h3 h4 <;> simp [h, h1, h2]
theorem X_set (s : List (Int × Int)) : encX (.set s) = [.val (.int .i64 1), .ro (s.map encSp), .ro []] := by rw [encX_eq]; rfl
theorem X_emp : encX .emp = [.val (.int .i64 2), .ro [], .ro []] := by rw [encX_eq]; rfl
theorem X_cat (a b : Rx) : encX (.cat a b) = [.val (.int .i64 3), .ro [], .ro [encX a, encX b]] := by rw [encX_eq]; rfl
theorem X_or (a b : Rx) : encX (.or a b) = [.val (.int .i64 4), .ro [], .ro [encX a, encX b]] := by rw [encX_eq]; rfl
theorem X_star (a : Rx) : encX (.star a) = [.val (.int .i64 5), .ro [], .ro [encX a]] := by rw [encX_eq]; rfl
theorem X_and (a b : Rx) : encX (.and a b) = [.val (.int .i64 6), .ro [], .ro [encX a, encX b]] := by rw [encX_eq]; rfl
theorem X_not (a : Rx) : encX (.not a) = [.val (.int .i64 7), .ro [], .ro [encX a]] := by rw [encX_eq]; rfl
end Go.Proofs.YtmpeolimleladaaDoor.R

open Go Go.Proofs.YtmpeolimleladaaDoor.T
namespace Go.Proofs.YtmpeolimleladaaDoor.R
set_option maxHeartbeats 4000000
set_option maxRecDepth 100000
set_option linter.unusedSimpArgs false
set_option linter.unusedVariables false
attribute [local simp] bsV bsRows chunk fillT partsT appV makeV rowsOf cellsOf placeOf
theorem X_mk2 {k : Int} (hk : k = 4 ∨ k = 6) (a b : Rx) : encX (mk2 k a b) = [.val (.int .i64 k), .ro [], .ro [encX a, encX b]] := by
  rcases hk with rfl | rfl
  · exact X_or a b
  · exact X_and a b
theorem chainX_step {k : Int} {l : List Rx} {i : Nat} (h : i + 1 < l.length) : chainX k (l.drop i) = mk2 k l[i] (chainX k (l.drop (i + 1))) := by
  rw [List.drop_eq_getElem_cons (by omega)]
  rw [List.drop_eq_getElem_cons h]
  rfl
theorem frz_X (i1 : Nat) (t1 : TV) (r : Rx) : List.map (frz1 i1 t1) (encX r) = encX r := by rw [encX_eq]; simp [frz1]
theorem nrm_X (r : Rx) : List.map nrm1 (encX r) = encX r := by rw [encX_eq]; simp [nrm1]
/-- How the chain stands: L says how what is chained is held. -/
def ChainAt (l : List Rx) (k : Int) (a c : Nat) (L0 : Rx → St → Prop) (m : Nat) (st : St) : Prop := m + 1 ≤ l.length ∧ L0 (chainX k (l.drop m)) st ∧ st.σ 0 = .ro (l.map encX) ∧ st.σ 1 = .val (.int .i64 k) ∧ st.σ 4 = .pd a 0 0 0 ∧
  st.H a = some (.box 81 [.val (.int .i64 0), .val (.slice none 0 0), .val (.slice none 0 0)]) ∧ st.σ 5 = .pd c 0 0 0 ∧ st.σ 6 = .val (.int .i64 ((m : Int) - 1))
def CRo (c : Nat) : Rx → St → Prop := fun z st => st.H c = some (.box 81 (encX z))
def CAny (k : Int) (a c : Nat) : Rx → St → Prop := fun z st => st.H c = some (.box 81 (encX z)) ∨ ∃ j p q, z = mk2 k p q ∧ st.H c = some (.box 81 [.val (.int .i64 k), .val (.slice none 0 0), .hd j]) ∧ st.H j = some (.own 81 [encX p, encX q]) ∧ ¬ j = a ∧ ¬ j = c
theorem chain_turn {l : List Rx} {k : Int} {a c n : Nat} (hk : k = 4 ∨ k = 6) (hac : ¬ a = c) : ∀ m s, ChainAt l k a c (CAny k a c) m s → Turn Tryd.prog n s (ChainAt l k a c (CRo c) m) := by
  rintro m ⟨σ, H⟩ ⟨hm, hL, h0, h1, h4, hA, h5, h6⟩
  simp only at h0 h1 h4 hA h5 h6
  rcases hL with hC | ⟨j, p, q, hz, hC, hJ, n1, n2⟩
  · exact Turn.same ⟨hm, hC, h0, h1, h4, hA, h5, h6⟩
  · simp only at hC hJ
    have n1' : ¬ a = j := fun e => n1 e.symm
    have n2' : ¬ c = j := fun e => n2 e.symm
    have hca : ¬ c = a := fun e => hac e.symm
    refine Turn.then (Turn.freezeA j hJ (Turn.nrm c (t := .box 81 [.val (.int .i64 k), .val (.slice none 0 0), .ro [encX p, encX q]]) (by simp [del, hC, n2', frzO, frz1, roL_X]) ?_))
    refine ⟨hm, ?_, ?_⟩
    · simp only [CRo]
      rw [hz, X_mk2 hk]
      simp [nrmO, nrm1]
    · simp [h0, h1, h4, h5, h6, hA, del, n1', n2', hac, hca, frzO, frz1, frzT]
end Go.Proofs.YtmpeolimleladaaDoor.R

open Go Go.Proofs.YtmpeolimleladaaDoor.T
namespace Go.Proofs.YtmpeolimleladaaDoor.R
set_option maxHeartbeats 4000000
set_option maxRecDepth 100000
set_option linter.unusedSimpArgs false
set_option linter.unusedVariables false
attribute [local simp] bsV bsRows chunk fillT partsT appV makeV rowsOf cellsOf placeOf
def dig (n : Nat) : UInt8 := UInt8.ofNat (48 + n)
/-- A number in decimals. -/
def decF (n : Nat) : List UInt8 := if h : n < 10 then [dig n] else decF (n / 10) ++ [dig (n % 10)]
termination_by n
theorem decF_small {n : Nat} (h : n < 10) : decF n = [dig n] := by rw [decF, dif_pos h]
theorem decF_big {n : Nat} (h : ¬ n < 10) : decF n = decF (n / 10) ++ [dig (n % 10)] := by rw [decF, dif_neg h]
theorem decF_len : ∀ (k n : Nat), n < 10 ^ (k + 1) → (decF n).length ≤ k + 1
  | 0, n, h => by rw [decF_small (by omega)]; simp
  | k + 1, n, h => by
    by_cases c : n < 10
    · rw [decF_small c]; simp
    · rw [decF_big c]
      have := decF_len k (n / 10) (by rw [Nat.pow_succ] at h; omega)
      simp; omega
theorem dig_add (d : Nat) (h : d < 10) : IntKind.u8.wrap (IntKind.i64.wrap (48 + (d : Int))) = ((48 + d : Nat) : Int) := by
  rw [wrapi (by omega)]
  have e1 : IntKind.u8.signed = false := rfl
  have e2 : IntKind.u8.bits = 8 := rfl
  unfold IntKind.wrap
  simp [e1, e2]
  omega
theorem tc_l15Dec (n : Nat) (hn : n ≤ 4611686018427387904) : TC Tryd.prog 32 [.val (.int .i64 n)] [] (.val (.string (bs (decF n)))) [] := by
  refine TC.enter Tryd.func32 rfl (by simp [Tryd.ntmps32]) rfl (tw_sound (ρ := []) ?_)
  rw [Tryd.ntmps32]
  have c1 : ¬ (n : Int) < -9223372036854775807 := by omega
  have c2 : ¬ (n : Int) < 0 := by omega
  simp [c1, c2]
  refine TWcH.loop [] (fun m st => ∃ out : List UInt8, m ≤ n ∧ decF n = decF m ++ out ∧ st.σ 0 = .val (.int .i64 m) ∧ st.σ 3 = .val (.string (bs out))) n ⟨[], by omega, by simp, by simp⟩ ?_
  rintro m ⟨σ, H⟩ ⟨out, hmn, he, h0, h3⟩
  simp only at h0 h3
  have hdl := decF_len 18 n (by omega)
  have hol : out.length ≤ 19 := by rw [he] at hdl; simp at hdl; omega
  have t1 : (m : Int).tmod 10 = ((m % 10 : Nat) : Int) := by rw [Int.tmod_eq_emod_of_nonneg (by omega)]; omega
  have t2 : (m : Int).tdiv 10 = ((m / 10 : Nat) : Int) := by rw [Int.tdiv_eq_ediv_of_nonneg (by omega)]; omega
  have t3 : IntKind.i64.wrap ((m / 10 : Nat) : Int) = ((m / 10 : Nat) : Int) := wrapi (by omega)
  have k1 : ¬ (9223372036854775807 : Int) < 1 + out.length := by omega
  by_cases c : 9 < m
  · have c' : (9 : Int) < m := by omega
    simp [h0, h3, c, c']
    refine gall_intro fun i g => ?_
    simp only [t1, t2, t3, dig_add (m % 10) (by omega)]
    simp [h0, h3, c, c', k1]
    exact ⟨m / 10, by omega, by omega, dig (m % 10) :: out, by rw [he, decF_big (by omega)]; simp, by rw [wrapi (by omega)]; omega, by unfold dig; rw [show (48 + (m : Int) % 10).toNat = 48 + m % 10 by omega]⟩
  · have c' : ¬ (9 : Int) < m := by omega
    simp [h0, h3, c, c']
    refine gall_intro fun i g => ?_
    simp only [dig_add m (by omega)]
    simp [h0, h3, c, c', k1]
    rw [he, decF_small (by omega)]
    unfold dig
    rw [show (48 + (m : Int)).toNat = 48 + m by omega]
    rfl
theorem tc_l2Words : TC Tryd.prog 82 [] [] (.own 9 ([[], [115, 101, 116], [101, 109, 112, 116, 121], [99, 97, 116], [111, 114], [115, 116, 97, 114], [97, 110, 100], [110, 111, 116]].map encT)) [] := by
  refine TC.enter Tryd.func82 rfl (by simp [Tryd.ntmps82]) rfl (tw_sound (ρ := []) ?_)
  rw [Tryd.ntmps82]
  simp
  refine gall_intro fun i g => ?_
  simp [encT]
/-- A set as it is written. -/
def spanT (x : Int × Int) : List UInt8 := if x.2 = x.1 then decF x.1.toNat else decF x.1.toNat ++ [45] ++ decF x.2.toNat
def joinT : List (Int × Int) → List UInt8
  | [] => []
  | [x] => spanT x
  | x :: y :: l => spanT x ++ [44] ++ joinT (y :: l)
def setT (s : List (Int × Int)) : List UInt8 := if s = [] then [110, 111] else joinT s
theorem joinT_snoc : ∀ (l : List (Int × Int)) (x : Int × Int), joinT (l ++ [x]) = if l = [] then spanT x else joinT l ++ [44] ++ spanT x
  | [], x => by simp [joinT]
  | [y], x => by simp [joinT]
  | y :: z :: l, x => by
    have := joinT_snoc (z :: l) x
    simp only [List.cons_append, joinT] at this ⊢
    rw [this]
    simp
def spanG (x : Int × Int) : Prop := 0 ≤ x.1 ∧ x.1 ≤ 255 ∧ 0 ≤ x.2 ∧ x.2 ≤ 255
theorem spanT_len {x : Int × Int} (h : spanG x) : 1 ≤ (spanT x).length ∧ (spanT x).length ≤ 7 := by
  obtain ⟨a1, a2, a3, a4⟩ := h
  have h1 := decF_len 2 x.1.toNat (by omega)
  have h2 := decF_len 2 x.2.toNat (by omega)
  have h3 : 1 ≤ (decF x.1.toNat).length := by rw [decF]; split <;> simp
  unfold spanT
  split
  · omega
  · simp only [List.length_append, List.length_cons, List.length_nil]; omega
theorem joinT_len : ∀ {l : List (Int × Int)}, (∀ x ∈ l, spanG x) → (joinT l).length ≤ 8 * l.length
  | [], _ => by simp [joinT]
  | [x], h => by have := spanT_len (h x (by simp)); simp [joinT]; omega
  | x :: y :: l, h => by
    have h1 := spanT_len (h x (by simp))
    have h2 := joinT_len (l := y :: l) fun z hz => h z (by simp [hz])
    simp only [joinT, List.length_append, List.length_cons, List.length_nil] at h2 ⊢
    omega
theorem joinT_ne {x : Int × Int} {l : List (Int × Int)} (h : spanG x) : joinT (x :: l) ≠ [] := by
  have := (spanT_len h).1
  cases l with
  | nil =>
    intro e
    simp only [joinT] at e
    rw [e] at this
    simp at this
  | cons y l =>
    intro e
    have h2 := congrArg List.length e
    simp only [joinT, List.length_append, List.length_nil, List.length_cons] at h2
    omega
theorem setOkP_G : ∀ (l : List (Int × Int)) (p : Option Int), setOkP p l = true → ∀ x ∈ l, spanG x
  | y :: l, p, h, x, hx => by
    simp only [setOkP, okX, Bool.and_eq_true, decide_eq_true_eq] at h
    rcases List.mem_cons.1 hx with rfl | hx
    · exact ⟨by omega, by omega, by omega, by omega⟩
    · exact setOkP_G l _ h.2 x hx
theorem setOk_G {l : List (Int × Int)} (h : setOk l = true) : ∀ x ∈ l, spanG x := setOkP_G l none h
theorem tc_SetText (s : List (Int × Int)) (hs : setOk s = true) : TC Tryd.prog 83 [.ro (s.map encSp)] [] (.val (.string (bs (setT s)))) [] := by
  have hlen := setOk_len hs
  have hG := setOk_G hs
  refine TC.enter Tryd.func83 rfl (by simp [Tryd.ntmps83]) rfl (tw_sound (ρ := []) ?_)
  rw [Tryd.ntmps83]
  simp
  refine TWcH.loop [] (fun m st => ∃ i : Nat, i + m = s.length ∧ st.σ 0 = .ro (s.map encSp) ∧ st.σ 3 = .val (.string (bs (joinT (s.take i)))) ∧ st.σ 4 = .val (.int .i64 i)) s.length ⟨0, by simp [joinT]⟩ ?_
  rintro m ⟨σ, H⟩ ⟨i, him, h0, h3, h4⟩
  simp only at h0 h3 h4
  by_cases hi : i < s.length
  case neg =>
    rw [List.take_of_length_le (by omega)] at h3
    cases s with
    | nil =>
      have hi2 : ¬ (i : Int) < 0 := by omega
      simp [h0, h3, h4, hi2, joinT, setT]
    | cons x l =>
      have hi2 : ¬ (i : Int) < l.length + 1 := by simp only [List.length_cons] at hi; omega
      have hne : joinT (x :: l) ≠ [] := joinT_ne (hG x (by simp))
      simp [h0, h3, h4, hi, hi2, setT, hne]
  have hw : IntKind.i64.wrap ((i : Int) + 1) = i + 1 := wrapi (by omega)
  have hjl := joinT_len (l := s.take i) fun x hx => hG x (List.mem_of_mem_take hx)
  have htl : (s.take i).length = i := by simp; omega
  rw [htl] at hjl
  obtain ⟨⟨u, v⟩, hx⟩ : ∃ x, ∀ h, s[i]'h = x := ⟨s[i], fun _ => rfl⟩
  have hgx : spanG (u, v) := by rw [← hx hi]; exact hG _ (List.getElem_mem hi)
  have hstep : joinT (s.take (i + 1)) = if i = 0 then spanT (u, v) else joinT (s.take i) ++ [44] ++ spanT (u, v) := by
    rw [List.take_succ_eq_append_getElem hi, hx, joinT_snoc]
    by_cases e : i = 0
    · subst e; simp
    · rw [if_neg e, if_neg (by intro e2; rw [e2] at htl; simp only [List.length_nil] at htl; omega)]
  have hsl := spanT_len hgx
  obtain ⟨g1, g2, g3, g4⟩ := hgx
  simp only at g1 g2 g3 g4
  have du := tc_l15Dec u.toNat (by omega)
  have dv := tc_l15Dec v.toNat (by omega)
  rw [show ((u.toNat : Nat) : Int) = u by omega] at du
  rw [show ((v.toNat : Nat) : Int) = v by omega] at dv
  have lu := decF_len 2 u.toNat (by omega)
  have lv := decF_len 2 v.toNat (by omega)
  have hJ0 : i = 0 → joinT (s.take i) = [] := fun e => by subst e; rfl
  generalize joinT (s.take i) = J at h3 hjl hstep hJ0
  have k1 : ¬ (9223372036854775807 : Int) < J.length + 1 := by omega
  have k2 : ¬ (9223372036854775807 : Int) < J.length + (decF u.toNat).length := by omega
  have k3 : ¬ (9223372036854775807 : Int) < J.length + 1 + (decF u.toNat).length := by omega
  have k4 : ¬ (9223372036854775807 : Int) < J.length + (decF u.toNat).length + 1 := by omega
  have k5 : ¬ (9223372036854775807 : Int) < J.length + 1 + (decF u.toNat).length + 1 := by omega
  have k6 : ¬ (9223372036854775807 : Int) < J.length + (decF u.toNat).length + 1 + (decF v.toNat).length := by omega
  have k7 : ¬ (9223372036854775807 : Int) < J.length + 1 + (decF u.toNat).length + 1 + (decF v.toNat).length := by omega
  have k11 : ¬ (9223372036854775807 : Int) < J.length + ((decF u.toNat).length + 1) + 1 := by omega
  have k12 : ¬ (9223372036854775807 : Int) < J.length + ((decF u.toNat).length + 1 + 1) + (decF v.toNat).length := by omega
  by_cases e : i = 0
  · subst e
    have hJ : J = [] := hJ0 rfl
    subst hJ
    rw [if_pos rfl] at hstep
    have hi0 : 0 < s.length := hi
    have hi : 0 < s.length := hi
    have hw : IntKind.i64.wrap (0 + 1) = 1 := wrapi (by omega)
    have k8 : ¬ (9223372036854775807 : Int) < (decF u.toNat).length := by omega
    have k9 : ¬ (9223372036854775807 : Int) < (decF u.toNat).length + 1 := by omega
    have k10 : ¬ (9223372036854775807 : Int) < (decF u.toNat).length + 1 + (decF v.toNat).length := by omega
    simp [h0, h3, h4, hi0, getI hi, hx, encSp]
    refine TWoH.callV du callable_32 (by simp) (by simp) (by simp) (by simp) ?_
    simp [h0, h3, h4, hi0, getI hi, hx, encSp, k8]
    refine TWcH.regionD (ρ := []) [0, 1, 2, 3, 4, 5, 6, 7, 8, 9, 10] 11 mixed (by kernel_rfl) ?_
    simp [h0, h3, h4, hi0, getI hi, hx, encSp]
    by_cases c : v = u
    · simp [h0, h3, h4, hi0, c, hw]
      exact ⟨m - 1, by omega, 1, by omega, by rw [hstep]; simp [spanT, c], wrapi (by omega)⟩
    · simp [h0, h3, h4, hi0, c, getI hi, hx, encSp, k9]
      refine TWoH.callV dv callable_32 (by simp) (by simp) (by simp) (by simp) ?_
      simp [h0, h3, h4, hi0, c, hw, k10]
      exact ⟨m - 1, by omega, 1, by omega, by rw [hstep]; simp [spanT, c], wrapi (by omega)⟩
  · have e' : (0 : Int) < i := by omega
    have e2 : 0 < i := by omega
    rw [if_neg e] at hstep
    simp [h0, h3, h4, hi, e', e2, k1, getI hi, hx, encSp]
    refine TWoH.callV du callable_32 (by simp) (by simp) (by simp) (by simp) ?_
    simp [h0, h3, h4, hi, e', e2, k1, getI hi, hx, encSp, k2, k3]
    refine TWcH.regionD (ρ := []) [0, 1, 2, 3, 4, 5, 6, 7, 8, 9, 10] 11 mixed (by kernel_rfl) ?_
    simp [h0, h3, h4, hi, e', e2, k1, getI hi, hx, encSp]
    by_cases c : v = u
    · simp [h0, h3, h4, hi, e', e2, k1, c, hw]
      exact ⟨m - 1, by omega, i + 1, by omega, by rw [hstep]; simp [spanT, c], by omega⟩
    · simp [h0, h3, h4, hi, e', e2, k1, c, getI hi, hx, encSp, k11]
      refine TWoH.callV dv callable_32 (by simp) (by simp) (by simp) (by simp) ?_
      simp [h0, h3, h4, hi, e', e2, k1, c, hw, k12]
      exact ⟨m - 1, by omega, i + 1, by omega, by rw [hstep]; simp [spanT, c], by omega⟩
end Go.Proofs.YtmpeolimleladaaDoor.R

open Go Go.Proofs.YtmpeolimleladaaDoor.T
namespace Go.Proofs.YtmpeolimleladaaDoor.R
set_option linter.unusedSimpArgs false
set_option linter.unusedVariables false
theorem szN_ok {n : Nat} {left : Int} (hn : n ≤ 1152921504606846976) (h0 : 0 ≤ left) (h1 : left ≤ 1048576) (h : ¬ szN n left < 0) : (n : Int) ≤ left ∧ szN n left = left - n := by
  have hw : IntKind.i64.wrap (left - n) = left - n := wrapi (by omega)
  unfold szN at h ⊢
  rw [hw] at h ⊢
  split at h
  · exact absurd h (by omega)
  · rename_i h2
    rw [if_neg h2]
    omega
def BSpan (x : Int × Int) : Prop := (Lit.int .i64 x.1).wf = true ∧ (Lit.int .i64 x.2).wf = true
theorem rdSpan (n : Nat) : RdT Tryd.prog n 145 encSp BSpan :=
  ((RdT.struct (sz := 2) Tryd.underlying145 rfl (by kernel_rfl) (FsT.cons (sz := 1) (sz' := 1) (RdT.int n Tryd.underlying3) rfl (by kernel_rfl) (FsT.one (RdT.int n Tryd.underlying3) rfl (by kernel_rfl)))).le (Nat.le_succ n)).iso id fun x hx => ⟨rfl, hx⟩
theorem rdRex : ∀ n, RdT Tryd.prog n 74 encRex Small
  | 0 => RdT.zero
  | n + 1 => by
    have ih := rdRex n
    refine (RdT.struct (sz := 1 + (1 + 1)) Tryd.underlying74 rfl (by kernel_rfl) (FsT.cons (sz := 1) (sz' := 1 + 1) (RdT.int n Tryd.underlying3) rfl (by kernel_rfl)
      (FsT.cons (sz := 1) (sz' := 1) ((RdT.slice (b := 16) (rdSpan n) Tryd.underlying71 (by kernel_rfl)).le (Nat.le_succ n)) rfl (by kernel_rfl)
        (FsT.one ((RdT.slice (b := 56) ih Tryd.underlying72 (by kernel_rfl)).le (Nat.le_succ n)) rfl (by kernel_rfl))))).iso (fun x => Rex.mk x.1 x.2.1 x.2.2) fun x hx => ⟨by simp [encRex, encRexL_eq], ?_⟩
    obtain ⟨_, ⟨h1, _⟩, h2, h3⟩ := hx
    have hr : reachBytes = 140737488351232 := rfl
    have key : ∀ l : List Rex, (∀ r ∈ l, Small r) → SmallL l := by
      intro l
      induction l with
      | nil => intro _; exact trivial
      | cons r l ih => intro h; exact ⟨h r (by simp), ih fun q hq => h q (by simp [hq])⟩
    exact ⟨by omega, by omega, key _ h3⟩
def BRule (r : Rule) : Prop := r.name.length ≤ 1152921504606846976 ∧ Small r.rex
theorem rdRule (n : Nat) : RdT Tryd.prog n 76 encRule BRule := by
  refine ((RdT.struct (sz := 1 + 3) Tryd.underlying76 rfl (by kernel_rfl) (FsT.cons (sz := 1) (sz' := 3) (RdT.string n Tryd.underlying9) rfl (by kernel_rfl) (FsT.one (rdRex n) rfl (by kernel_rfl)))).le (Nat.le_succ n)).iso (fun x => Rule.mk x.1 x.2) fun x hx => ⟨by simp [encRule], ?_⟩
  have hr : reachBytes = 140737488351232 := rfl
  exact ⟨by have := hx.1; simp only; omega, hx.2⟩
def BRules (l : List Rule) : Prop := l.length ≤ 1152921504606846976 ∧ ∀ r ∈ l, BRule r
theorem rdRules (n : Nat) : RdT Tryd.prog n 36 (fun l : List Rule => [.ro (l.map encRule)]) BRules := by
  refine ((RdT.slice (b := 72) (rdRule n) Tryd.underlying36 (by kernel_rfl)).le (Nat.le_succ n)).imp fun x hx => ⟨?_, hx.2⟩
  have hr : reachBytes = 140737488351232 := rfl
  have := hx.1
  omega
end Go.Proofs.YtmpeolimleladaaDoor.R

open Go Go.Proofs.YtmpeolimleladaaDoor.T
namespace Go.Proofs.YtmpeolimleladaaDoor.R
set_option maxRecDepth 100000
set_option maxHeartbeats 4000000
set_option linter.unusedVariables false
def laysI_ren : Go.Shelf.Ren := ⟨fun | 171 => 34 | 243 => 56 | 246 => 76 | 283 => 101 | 284 => 102 | 285 => 103 | 286 => 104 | 129 => 121 | 317 => 120 | 318 => 122 | 319 => 123 | 320 => 124 | 337 => 129 | 338 => 130 | n => n, fun | 3 => 3 | 9 => 9 | 2 => 2 | 4 => 4 | 171 => 136 | 0 => 0 | 53 => 137 | 37 => 53 | 5 => 5 | 173 => 140 | 212 => 154 | 51 => 155 | 20 => 20 | 213 => 156 | 46 => 150 | 232 => 166 | 233 => 167 | n => n, fun | 17 => 1 | 18 => 4 | 19 => 5 | n => n⟩
theorem laysI : Go.Proofs.LaysM.n171 Tryd.prog laysI_ren :=
  { mixed := by kernel_rfl, f129 := Tryd.func121.trans (congrArg some (by kernel_rfl)), f171 := Tryd.func34.trans (congrArg some (by kernel_rfl)), f243 := Tryd.func56.trans (congrArg some (by kernel_rfl)), f246 := Tryd.func76.trans (congrArg some (by kernel_rfl)), f283 := Tryd.func101.trans (congrArg some (by kernel_rfl)), f284 := Tryd.func102.trans (congrArg some (by kernel_rfl)), f285 := Tryd.func103.trans (congrArg some (by kernel_rfl)), f286 := Tryd.func104.trans (congrArg some (by kernel_rfl)), f317 := Tryd.func120.trans (congrArg some (by kernel_rfl)), f318 := Tryd.func122.trans (congrArg some (by kernel_rfl)), f319 := Tryd.func123.trans (congrArg some (by kernel_rfl)), f320 := Tryd.func124.trans (congrArg some (by kernel_rfl)), f337 := Tryd.func129.trans (congrArg some (by kernel_rfl)), f338 := Tryd.func130.trans (congrArg some (by kernel_rfl)), t0 := Tryd.underlying0, a0 := Tryd.isAgg0, z0 := Tryd.sizeOf0, v0 := Tryd.zeroValue0, t2 := Tryd.underlying2, a2 := Tryd.isAgg2, z2 := Tryd.sizeOf2, v2 := Tryd.zeroValue2, t3 := Tryd.underlying3, a3 := Tryd.isAgg3, z3 := Tryd.sizeOf3, v3 := Tryd.zeroValue3, t4 := Tryd.underlying4, a4 := Tryd.isAgg4, z4 := Tryd.sizeOf4, v4 := Tryd.zeroValue4, t5 := Tryd.underlying5, a5 := Tryd.isAgg5, z5 := Tryd.sizeOf5, v5 := Tryd.zeroValue5, t9 := Tryd.underlying9, a9 := Tryd.isAgg9, z9 := Tryd.sizeOf9, v9 := Tryd.zeroValue9, t20 := Tryd.underlying20, a20 := Tryd.isAgg20, z20 := Tryd.sizeOf20, v20 := Tryd.zeroValue20, t37 := Tryd.underlying53, a37 := Tryd.isAgg53, z37 := Tryd.sizeOf53, v37 := Tryd.zeroValue53, t46 := Tryd.underlying150, a46 := Tryd.isAgg150, z46 := Tryd.sizeOf150, v46 := Tryd.zeroValue150, t51 := Tryd.underlying155, a51 := Tryd.isAgg155, z51 := Tryd.sizeOf155, v51 := Tryd.zeroValue155, t53 := Tryd.underlying137, a53 := Tryd.isAgg137, z53 := Tryd.sizeOf137, v53 := Tryd.zeroValue137, t171 := Tryd.underlying136, a171 := Tryd.isAgg136, z171 := Tryd.sizeOf136, v171 := Tryd.zeroValue136, t173 := Tryd.underlying140, a173 := Tryd.isAgg140, z173 := Tryd.sizeOf140, v173 := Tryd.zeroValue140, t212 := Tryd.underlying154, a212 := Tryd.isAgg154, z212 := Tryd.sizeOf154, v212 := Tryd.zeroValue154, t213 := Tryd.underlying156, a213 := Tryd.isAgg156, z213 := Tryd.sizeOf156, t232 := Tryd.underlying166, a232 := Tryd.isAgg166, z232 := Tryd.sizeOf166, v232 := Tryd.zeroValue166, t233 := Tryd.underlying167, a233 := Tryd.isAgg167, z233 := Tryd.sizeOf167, v233 := Tryd.zeroValue167, g17 := by kernel_rfl, g18 := by kernel_rfl, g19 := by kernel_rfl, i0 := by kernel_rfl, i2 := by kernel_rfl, i3 := by kernel_rfl, i4 := by kernel_rfl, i5 := by kernel_rfl, i9 := by kernel_rfl, i20 := by kernel_rfl, i37 := by kernel_rfl, i46 := by kernel_rfl, i51 := by kernel_rfl, i53 := by kernel_rfl, i171 := by kernel_rfl, i173 := by kernel_rfl, i212 := by kernel_rfl, i232 := by kernel_rfl, i233 := by kernel_rfl, m17 := by kernel_rfl, m18 := by kernel_rfl, m19 := by kernel_rfl }
def laysJ_ren : Go.Shelf.Ren := ⟨fun | 156 => 35 | 165 => 57 | 166 => 28 | 169 => 30 | 240 => 55 | 241 => 77 | 276 => 75 | 277 => 105 | n => n, fun | 31 => 67 | 9 => 9 | 3 => 3 | 4 => 4 | 0 => 0 | 20 => 20 | 72 => 55 | 76 => 58 | 70 => 52 | 37 => 53 | 75 => 57 | 127 => 98 | 164 => 113 | 5 => 5 | 80 => 60 | n => n, fun | n => n⟩
theorem laysJ : Go.Proofs.Lays.n156 Tryd.prog laysJ_ren :=
  { mixed := by kernel_rfl, f156 := Tryd.func35.trans (congrArg some (by kernel_rfl)), f165 := Tryd.func57.trans (congrArg some (by kernel_rfl)), f166 := Tryd.func28.trans (congrArg some (by kernel_rfl)), f169 := Tryd.func30.trans (congrArg some (by kernel_rfl)), f240 := Tryd.func55.trans (congrArg some (by kernel_rfl)), f241 := Tryd.func77.trans (congrArg some (by kernel_rfl)), f276 := Tryd.func75.trans (congrArg some (by kernel_rfl)), f277 := Tryd.func105.trans (congrArg some (by kernel_rfl)), t0 := Tryd.underlying0, a0 := Tryd.isAgg0, z0 := Tryd.sizeOf0, v0 := Tryd.zeroValue0, t3 := Tryd.underlying3, a3 := Tryd.isAgg3, z3 := Tryd.sizeOf3, v3 := Tryd.zeroValue3, t4 := Tryd.underlying4, a4 := Tryd.isAgg4, z4 := Tryd.sizeOf4, v4 := Tryd.zeroValue4, t9 := Tryd.underlying9, a9 := Tryd.isAgg9, z9 := Tryd.sizeOf9, v9 := Tryd.zeroValue9, t20 := Tryd.underlying20, a20 := Tryd.isAgg20, z20 := Tryd.sizeOf20, v20 := Tryd.zeroValue20, t31 := Tryd.underlying67, a31 := Tryd.isAgg67, z31 := Tryd.sizeOf67, v31 := Tryd.zeroValue67, t37 := Tryd.underlying53, a37 := Tryd.isAgg53, z37 := Tryd.sizeOf53, v37 := Tryd.zeroValue53, t70 := Tryd.underlying52, a70 := Tryd.isAgg52, z70 := Tryd.sizeOf52, v70 := Tryd.zeroValue52, t72 := Tryd.underlying55, a72 := Tryd.isAgg55, z72 := Tryd.sizeOf55, v72 := Tryd.zeroValue55, t75 := Tryd.underlying57, a75 := Tryd.isAgg57, z75 := Tryd.sizeOf57, v75 := Tryd.zeroValue57, t76 := Tryd.underlying58, a76 := Tryd.isAgg58, z76 := Tryd.sizeOf58, v76 := Tryd.zeroValue58, t127 := Tryd.underlying98, a127 := Tryd.isAgg98, z127 := Tryd.sizeOf98, v127 := Tryd.zeroValue98, t164 := Tryd.underlying113, a164 := Tryd.isAgg113, z164 := Tryd.sizeOf113, v164 := Tryd.zeroValue113 }
theorem extraJ : Builder.Extra Tryd.prog laysJ_ren :=
  { sizeBuilder := by kernel_rfl, liesBuilder := by kernel_rfl, t5 := Tryd.underlying5, a5 := Tryd.isAgg5, z5 := Tryd.sizeOf5, v5 := Tryd.zeroValue5, infoByte := by kernel_rfl, cellsByte := by kernel_rfl, sizeByte := by kernel_rfl, neB5 := by decide }
end Go.Proofs.YtmpeolimleladaaDoor.R

open Go Go.Proofs.YtmpeolimleladaaDoor.T
namespace Go.Proofs.YtmpeolimleladaaDoor.R
set_option maxHeartbeats 4000000
set_option maxRecDepth 100000
set_option linter.unusedSimpArgs false
set_option linter.unusedVariables false
attribute [local simp] bsV bsRows chunk fillT partsT appV makeV rowsOf cellsOf placeOf
theorem tc_l15DecN (n : Nat) (hn : n ≤ 9223372036854775807) : TC Tryd.prog 32 [.val (.int .i64 n)] [] (.val (.string (bs (decF n)))) [] := by
  refine TC.enter Tryd.func32 rfl (by simp [Tryd.ntmps32]) rfl (tw_sound (ρ := []) ?_)
  rw [Tryd.ntmps32]
  have c1 : ¬ (n : Int) < -9223372036854775807 := by omega
  have c2 : ¬ (n : Int) < 0 := by omega
  simp [c1, c2]
  refine TWcH.loop [] (fun m st => ∃ out : List UInt8, m ≤ n ∧ decF n = decF m ++ out ∧ st.σ 0 = .val (.int .i64 m) ∧ st.σ 3 = .val (.string (bs out))) n ⟨[], by omega, by simp, by simp⟩ ?_
  rintro m ⟨σ, H⟩ ⟨out, hmn, he, h0, h3⟩
  simp only at h0 h3
  have hdl := decF_len 18 n (by omega)
  have hol : out.length ≤ 19 := by rw [he] at hdl; simp at hdl; omega
  have t1 : (m : Int).tmod 10 = ((m % 10 : Nat) : Int) := by rw [Int.tmod_eq_emod_of_nonneg (by omega)]; omega
  have t2 : (m : Int).tdiv 10 = ((m / 10 : Nat) : Int) := by rw [Int.tdiv_eq_ediv_of_nonneg (by omega)]; omega
  have t3 : IntKind.i64.wrap ((m / 10 : Nat) : Int) = ((m / 10 : Nat) : Int) := wrapi (by omega)
  have k1 : ¬ (9223372036854775807 : Int) < 1 + out.length := by omega
  by_cases c : 9 < m
  · have c' : (9 : Int) < m := by omega
    simp [h0, h3, c, c']
    refine gall_intro fun i g => ?_
    simp only [t1, t2, t3, dig_add (m % 10) (by omega)]
    simp [h0, h3, c, c', k1]
    exact ⟨m / 10, by omega, by omega, dig (m % 10) :: out, by rw [he, decF_big (by omega)]; simp, by rw [wrapi (by omega)]; omega, by unfold dig; rw [show (48 + (m : Int) % 10).toNat = 48 + m % 10 by omega]⟩
  · have c' : ¬ (9 : Int) < m := by omega
    simp [h0, h3, c, c']
    refine gall_intro fun i g => ?_
    simp only [dig_add m (by omega)]
    simp [h0, h3, c, c', k1]
    rw [he, decF_small (by omega)]
    unfold dig
    rw [show (48 + (m : Int)).toNat = 48 + m by omega]
    rfl
theorem decF_lib : ∀ n : Nat, decF n = Lib.decDigits n := by
  intro n
  induction n using Nat.strongRecOn with
  | ind n ih =>
    by_cases h : n < 10
    · rw [decF_small h, Lib.decDigits, dif_pos h]; rfl
    · rw [decF_big h, Lib.decDigits, dif_neg h, ih (n / 10) (by omega)]; rfl
theorem itoa_nat (n : Nat) : Lib.itoa n = decF n := by
  rw [decF_lib, Lib.itoa, if_neg (by omega)]; rfl
theorem itoa_neg {n : Int} (h : n < 0) : Lib.itoa n = 45 :: decF (-n).toNat := by
  rw [decF_lib, Lib.itoa, if_pos h, show n.natAbs = (-n).toNat by omega]
theorem itoa_len {n : Int} (h0 : -9223372036854775808 ≤ n) (h1 : n ≤ 9223372036854775807) : (Lib.itoa n).length ≤ 20 := by
  by_cases h : n < 0
  · rw [itoa_neg h]
    have := decF_len 18 (-n).toNat (by omega)
    simp; omega
  · obtain ⟨m, rfl⟩ : ∃ m : Nat, n = m := ⟨n.toNat, by omega⟩
    rw [itoa_nat]
    have := decF_len 18 m (by omega)
    omega
theorem decF_min : decF 9223372036854775808 = [57, 50, 50, 51, 51, 55, 50, 48, 51, 54, 56, 53, 52, 55, 55, 53, 56, 48, 56] := by
  have b : ∀ n : Nat, ¬ n < 10 → decF n = decF (n / 10) ++ [dig (n % 10)] := fun n h => decF_big h
  rw [b _ (by decide)]; simp only [Nat.reduceDiv, Nat.reduceMod]
  iterate 17 (rw [b _ (by decide)]; simp only [Nat.reduceDiv, Nat.reduceMod])
  rw [decF_small (by decide)]
  rfl
theorem tc_l15DecI (n : Int) (h0 : -9223372036854775808 ≤ n) (h1 : n ≤ 9223372036854775807) : TC Tryd.prog 32 [.val (.int .i64 n)] [] (.val (.string (bs (Lib.itoa n)))) [] := by
  by_cases c : n < 0
  · refine TC.enter Tryd.func32 rfl (by simp [Tryd.ntmps32]) rfl (tw_sound (ρ := []) ?_)
    rw [Tryd.ntmps32]
    rw [itoa_neg c]
    by_cases c2 : n < -9223372036854775807
    · obtain rfl : n = -9223372036854775808 := by omega
      have e : (-(-9223372036854775808 : Int)).toNat = 9223372036854775808 := by decide
      rw [e, decF_min]
      simp
    · have e : IntKind.i64.wrap (-n) = (((-n).toNat : Nat) : Int) := by rw [wrapi (by omega)]; omega
      have hl := decF_len 18 (-n).toNat (by omega)
      have k1 : ¬ (9223372036854775807 : Int) < 1 + (decF (-n).toNat).length := by omega
      simp [c, c2]
      rw [e]
      refine TWoH.callV (tc_l15DecN (-n).toNat (by omega)) callable_32 (by simp) (by simp) (by simp) (by simp) ?_
      simp [c, c2, k1]
  · obtain ⟨m, rfl⟩ : ∃ m : Nat, n = m := ⟨n.toNat, by omega⟩
    rw [itoa_nat]
    exact tc_l15DecN m (by omega)
theorem tc_strItoa (n : Int) (h0 : -9223372036854775808 ≤ n) (h1 : n ≤ 9223372036854775807) : TC Tryd.prog 34 [.val (.int .i64 n)] [] (.val (.string (bs (Lib.itoa n)))) [] := tc_Itoa_of laysI n h0 h1
theorem tc_strJoin (xs : List (List UInt8)) (sep : List UInt8) (hN : xs.length ≤ 140737488355328) (hlen : (Lib.join xs sep).length ≤ 140737488355328) : TC Tryd.prog 35 [.ro (xs.map encT), .val (.string (bs sep))] [] (.val (.string (bs (Lib.join xs sep)))) [] := tc_Join_of laysJ extraJ xs sep hN hlen
theorem join_snoc (sep : List UInt8) : ∀ (xs : List (List UInt8)) (x : List UInt8), Lib.join (xs ++ [x]) sep = if xs = [] then x else Lib.join xs sep ++ sep ++ x
  | [], x => by simp [Lib.join]
  | [y], x => by simp [Lib.join, List.intercalate, List.intersperse]
  | y :: z :: xs, x => by
    have ih := join_snoc sep (z :: xs) x
    rw [if_neg (by simp)] at ih ⊢
    have e : ∀ (a b : List UInt8) (l : List (List UInt8)), Lib.join (a :: b :: l) sep = a ++ sep ++ Lib.join (b :: l) sep := fun a b l => by simp [Lib.join, List.intercalate, List.intersperse]
    rw [List.cons_append, List.cons_append, e, e, ← List.cons_append, ih]
    simp
theorem join_len (sep : List UInt8) (N : Nat) : ∀ (xs : List (List UInt8)), (∀ x ∈ xs, x.length ≤ N) → (Lib.join xs sep).length ≤ (N + sep.length) * xs.length
  | [], _ => by simp [Lib.join]
  | [y], h => by have := h y (by simp); simp [Lib.join]; omega
  | y :: z :: xs, h => by
    have ih := join_len sep N (z :: xs) fun x hx => h x (by simp [hx])
    have h1 := h y (by simp)
    have e : Lib.join (y :: z :: xs) sep = y ++ sep ++ Lib.join (z :: xs) sep := by simp [Lib.join, List.intercalate, List.intersperse]
    rw [e, List.length_append, List.length_append, List.length_cons, Nat.mul_succ]
    omega
/-- A token as it is written. -/
def tokT (x : Tok) : List UInt8 := Lib.itoa x.1 ++ [58] ++ Lib.itoa x.2.1 ++ [45] ++ Lib.itoa x.2.2
def lexT (l : List Tok) : List UInt8 := Lib.join (l.map tokT) [32]
def i64 (n : Int) : Prop := -9223372036854775808 ≤ n ∧ n ≤ 9223372036854775807
def tokB (x : Tok) : Prop := i64 x.1 ∧ i64 x.2.1 ∧ i64 x.2.2
theorem tokT_len {x : Tok} (h : tokB x) : (tokT x).length ≤ 62 := by
  have h1 := itoa_len h.1.1 h.1.2
  have h2 := itoa_len h.2.1.1 h.2.1.2
  have h3 := itoa_len h.2.2.1 h.2.2.2
  simp [tokT]; omega
theorem lexT_len {l : List Tok} (h : ∀ x ∈ l, tokB x) : (lexT l).length ≤ 63 * l.length := by
  have := join_len [32] 62 (l.map tokT) fun x hx => by
    obtain ⟨y, hy, rfl⟩ := List.mem_map.1 hx
    exact tokT_len (h y hy)
  simpa [lexT] using this
theorem lexT_take {l : List Tok} {i : Nat} (hi : i < l.length) : lexT (l.take (i + 1)) = if i = 0 then tokT l[i] else lexT (l.take i) ++ [32] ++ tokT l[i] := by
  unfold lexT
  rw [List.take_succ_eq_append_getElem hi, List.map_append, List.map_cons, List.map_nil, join_snoc]
  by_cases c : i = 0
  · subst c; simp
  · rw [if_neg c, if_neg (by simp; exact ⟨c, fun e => by subst e; simp at hi⟩)]
theorem tc_sLexText (l : List Tok) (hl : l.length ≤ 1048576) (hb : ∀ x ∈ l, tokB x) : TC Tryd.prog 13 [.ro (l.map encTok)] [] (.val (.string (bs (lexT l)))) [] := by
  refine TC.enter Tryd.func13 rfl (by simp [Tryd.ntmps13]) rfl (tw_sound (ρ := []) ?_)
  rw [Tryd.ntmps13]
  simp
  refine TWcH.loop [] (fun m st => ∃ i : Nat, i + m = l.length ∧ st.σ 0 = .ro (l.map encTok) ∧ st.σ 3 = .val (.string (bs (lexT (l.take i)))) ∧ st.σ 4 = .val (.int .i64 i)) l.length ⟨0, by simp [lexT, Lib.join]⟩ ?_
  rintro m ⟨σ, H⟩ ⟨i, him, h0, h3, h4⟩
  simp only at h0 h3 h4
  by_cases hi : i < l.length
  · have hw : IntKind.i64.wrap ((i : Int) + 1) = i + 1 := wrapi (by omega)
    have hx := hb _ (List.getElem_mem hi)
    have htk := lexT_take hi
    have hlen := lexT_len (l := l.take i) fun x hx => hb x (List.mem_of_mem_take hx)
    have hmin : (l.take i).length ≤ 1048576 := by rw [List.length_take]; omega
    have d1 := tc_l15DecI l[i].1 hx.1.1 hx.1.2
    have d2 := tc_l15DecI l[i].2.1 hx.2.1.1 hx.2.1.2
    have d3 := tc_l15DecI l[i].2.2 hx.2.2.1 hx.2.2.2
    have e1 := itoa_len hx.1.1 hx.1.2
    have e2 := itoa_len hx.2.1.1 hx.2.1.2
    have e3 := itoa_len hx.2.2.1 hx.2.2.2
    obtain ⟨x, hxe⟩ : ∃ x, l[i] = x := ⟨_, rfl⟩
    have hpi : ∀ h, l[i]'h = x := fun _ => hxe
    rw [hxe] at d1 d2 d3 e1 e2 e3 htk
    generalize hA : lexT (l.take i) = A at *
    unfold tokT at htk
    generalize Lib.itoa x.1 = a1 at *
    generalize Lib.itoa x.2.1 = a2 at *
    generalize Lib.itoa x.2.2 = a3 at *
    have hAl : A.length ≤ 66060288 := by omega
    have K : ∀ z : Int, z ≤ 70000000 → (9223372036854775807 < z) = False := fun z hz => by simp; omega
    by_cases c : i = 0
    · subst c
      have hA0 : A = [] := by rw [← hA]; simp [lexT, Lib.join]
      subst hA0
      rw [if_pos rfl] at htk
      have hi0 : 0 < l.length := hi
      simp [h0, h3, h4, hi0]
      refine TWcH.regionD (ρ := []) [0, 1, 2, 3, 4, 5, 9, 10, 11, 12, 13, 17, 18, 19, 20, 21, 6, 7, 8, 14, 15, 16, 22, 23, 24] 25 mixed (by kernel_rfl) ?_
      simp [h0, h3, h4, hi0, hpi, encTok]
      refine TWqH.callV d1 callable_32 (by simp) (by simp) (by simp) (by simp) ?_
      simp [h0, h3, h4, hi0, hpi, encTok, hw]
      repeat (simp (disch := omega) only [K]; simp [h0, h3, h4, hi0, hpi, encTok, hw])
      refine TWqH.callV d2 callable_32 (by simp) (by simp) (by simp) (by simp) ?_
      simp [h0, h3, h4, hi0, hpi, encTok, hw]
      repeat (simp (disch := omega) only [K]; simp [h0, h3, h4, hi0, hpi, encTok, hw])
      refine TWqH.callV d3 callable_32 (by simp) (by simp) (by simp) (by simp) ?_
      simp [h0, h3, h4, hi0, hpi, encTok, hw]
      repeat (simp (disch := omega) only [K]; simp [h0, h3, h4, hi0, hpi, encTok, hw])
      exact ⟨m - 1, by omega, 1, by omega, by rw [htk]; simp, wrapi (by omega)⟩
    · have c' : (0 : Int) < i := by omega
      have c2 : 0 < i := by omega
      rw [if_neg c] at htk
      simp [h0, h3, h4, hi, c', c2, hw]
      repeat (simp (disch := omega) only [K]; simp [h0, h3, h4, hi, c', c2, hw])
      refine TWcH.regionD (ρ := []) [0, 1, 2, 3, 4, 5, 9, 10, 11, 12, 13, 17, 18, 19, 20, 21, 6, 7, 8, 14, 15, 16, 22, 23, 24] 25 mixed (by kernel_rfl) ?_
      simp [h0, h3, h4, hi, c', c2, hpi, encTok]
      refine TWqH.callV d1 callable_32 (by simp) (by simp) (by simp) (by simp) ?_
      simp [h0, h3, h4, hi, c', c2, hpi, encTok, hw]
      repeat (simp (disch := omega) only [K]; simp [h0, h3, h4, hi, c', c2, hpi, encTok, hw])
      refine TWqH.callV d2 callable_32 (by simp) (by simp) (by simp) (by simp) ?_
      simp [h0, h3, h4, hi, c', c2, hpi, encTok, hw]
      repeat (simp (disch := omega) only [K]; simp [h0, h3, h4, hi, c', c2, hpi, encTok, hw])
      refine TWqH.callV d3 callable_32 (by simp) (by simp) (by simp) (by simp) ?_
      simp [h0, h3, h4, hi, c', c2, hpi, encTok, hw]
      repeat (simp (disch := omega) only [K]; simp [h0, h3, h4, hi, c', c2, hpi, encTok, hw])
      exact ⟨m - 1, by omega, i + 1, by omega, by rw [htk]; simp, by omega⟩
  · obtain rfl : i = l.length := by omega
    simp [h0, h3, h4]
theorem tc_iLexText (l : List Tok) (hl : l.length ≤ 1048576) (hb : ∀ x ∈ l, tokB x) : TC Tryd.prog 15 [.ro (l.map encTok)] [] (.val (.string (bs (lexT l)))) [] := by
  refine TC.enter Tryd.func15 rfl (by simp [Tryd.ntmps15]) rfl (tw_sound (ρ := []) ?_)
  rw [Tryd.ntmps15]
  simp
  refine TWcH.turn (Turn.nil 3 9 (by simp) fun id hid => ?_)
  refine TWcH.loop [26] (fun m st => ∃ (i id : Nat) (R : List (List UInt8)), i + m = l.length ∧ R = (l.take i).map tokT ∧ st.σ 3 = .hd id ∧ st.H id = some (.own 9 (R.map encT)) ∧ st.σ 6 = .ro (l.map encTok) ∧ st.σ 7 = .val (.int .i64 l.length) ∧ st.σ 8 = .val (.int .i64 i)) l.length ⟨0, id, [], by simp⟩ ?_
  clear hid id
  rintro m ⟨σ, H⟩ ⟨i, id, R, him, hR, h3, hH, h6, h7, h8⟩
  simp only at h3 hH h6 h7 h8
  by_cases hi : i < l.length
  · have hw : IntKind.i64.wrap ((i : Int) + 1) = i + 1 := wrapi (by omega)
    have hx := hb _ (List.getElem_mem hi)
    have htk : R ++ [tokT l[i]] = (l.take (i + 1)).map tokT := by
      rw [hR, List.take_succ_eq_append_getElem hi, List.map_append]; rfl
    have hRl : R.length = i := by rw [hR]; simp; omega
    have d1 := tc_strItoa l[i].1 hx.1.1 hx.1.2
    have d2 := tc_strItoa l[i].2.1 hx.2.1.1 hx.2.1.2
    have d3 := tc_strItoa l[i].2.2 hx.2.2.1 hx.2.2.2
    have e1 := itoa_len hx.1.1 hx.1.2
    have e2 := itoa_len hx.2.1.1 hx.2.1.2
    have e3 := itoa_len hx.2.2.1 hx.2.2.2
    obtain ⟨x, hxe⟩ : ∃ x, l[i] = x := ⟨_, rfl⟩
    have hpi : ∀ h, l[i]'h = x := fun _ => hxe
    rw [hxe] at d1 d2 d3 e1 e2 e3 htk
    have hT : tokT x = Lib.itoa x.1 ++ [58] ++ Lib.itoa x.2.1 ++ [45] ++ Lib.itoa x.2.2 := rfl
    generalize Lib.itoa x.1 = a1 at *
    generalize Lib.itoa x.2.1 = a2 at *
    generalize Lib.itoa x.2.2 = a3 at *
    have K : ∀ z : Int, z ≤ 70000000 → (9223372036854775807 < z) = False := fun z hz => by simp; omega
    have k1 : (i + 1) * 16 ≤ 140737488355328 := by omega
    have k2 : i ≤ 9223372036854775806 := by omega
    simp [h3, hH, h6, h7, h8, hi, hpi]
    refine gall_fresh [id] (by simp [hH]) fun c fc => ?_
    simp [frF] at fc
    simp [h3, hH, h6, h7, h8, hi, hpi, fc, encTok]
    refine TWcH.regionD (ρ := [26]) [0, 1, 2, 5, 6, 10, 11, 3, 4, 7, 8, 9, 12, 13, 14, 15, 16] 17 mixed (by kernel_rfl) ?_
    simp [h3, hH, h6, h7, h8, hi, hpi, fc, encTok]
    refine TWqH.callV d1 callable_34 (by simp) (by simp) (by simp) (by simp) ?_
    simp [h3, hH, h6, h7, h8, hi, hpi, fc, encTok]
    repeat (simp (disch := omega) only [K]; simp [h3, hH, h6, h7, h8, hi, hpi, fc, encTok])
    refine TWqH.callV d2 callable_34 (by simp) (by simp) (by simp) (by simp) ?_
    simp [h3, hH, h6, h7, h8, hi, hpi, fc, encTok]
    repeat (simp (disch := omega) only [K]; simp [h3, hH, h6, h7, h8, hi, hpi, fc, encTok])
    refine TWqH.callV d3 callable_34 (by simp) (by simp) (by simp) (by simp) ?_
    simp [h3, hH, h6, h7, h8, hi, hpi, fc, encTok]
    repeat (simp (disch := omega) only [K]; simp [h3, hH, h6, h7, h8, hi, hpi, fc, encTok, hRl, k1, k2])
    refine gall_fresh [id, c] (by simp [fc, hH]) fun c2 fc2 => ?_
    simp [frF] at fc2
    simp [h3, hH, h6, h7, h8, hi, hpi, fc, fc2, encTok, hw]
    refine ⟨m - 1, by omega, i + 1, by omega, ?_, by omega⟩
    rw [← List.map_take, ← List.map_map, ← htk, hT]; simp [encT]
  · obtain rfl : i = l.length := by omega
    rw [List.take_length] at hR
    have hRl : R.length = l.length := by rw [hR]; simp
    have hj := lexT_len hb
    simp [h3, hH, h6, h7, h8]
    refine TWoH.callV (tc_strJoin R [32] (by omega) (by unfold lexT at hj; rw [hR]; omega)) callable_35 (by simp [h3, hH]) (by simp) (by simp) (by simp) ?_
    simp [lexT, hR]
end Go.Proofs.YtmpeolimleladaaDoor.R

open Go Go.Proofs.YtmpeolimleladaaDoor.T
namespace Go.Proofs.YtmpeolimleladaaDoor.R
set_option maxHeartbeats 8000000
set_option maxRecDepth 100000
set_option linter.unusedSimpArgs false
set_option linter.unusedVariables false
open Go.RowKit (Below wrap64)
def intOf : Value → Int
  | .int _ x => x
  | _ => 0
structure Asd (p : Prop) : Prop where
  out : p
abbrev Inn := Int × Int × Int × Int
def insV (x : Inn) : List Value := [.int .i64 x.1, .int .i64 x.2.1, .int .i64 x.2.2.1, .int .i64 x.2.2.2]
def encIns (x : Inn) : List TV := [.val (.int .i64 x.1), .val (.int .i64 x.2.1), .val (.int .i64 x.2.2.1), .val (.int .i64 x.2.2.2)]
def insT (x : Inn) : List UInt8 :=
  if x.1 = 1 then [109, 97, 114, 107, 32] ++ Lib.itoa x.2.1 else if x.1 = 2 then [103, 101, 116] else
  if x.1 = 3 then [105, 102, 32] ++ Lib.itoa x.2.1 ++ [32] ++ Lib.itoa x.2.2.1 ++ [32] ++ Lib.itoa x.2.2.2 else if x.1 = 4 then [115, 116, 111, 112] else [110, 111, 110, 101]
def progT (l : List Inn) : List UInt8 := l.flatMap fun x => insT x ++ [10]
theorem isBuilder_keep {T e : TypeId} {B b : Nat} {bs : List Value} {w w' : World} (h : Lib.IsBuilder T e B b bs w) (hb : Below w.heap.size w w') : Lib.IsBuilder T e B b bs w' := by
  have key : ∀ p, Lib.BuilderAt T e B b p bs w → Lib.BuilderAt T e B b p bs w' := by
    rintro p ⟨h1, v, h2, h3, h4⟩
    have lt : ∀ {g o}, w.heap[g]? = some o → w'.heap[g]? = some o := fun {g o} hg => by
      rw [hb.block g (by
        rcases Nat.lt_or_ge g w.heap.size with c | c
        · exact c
        · rw [Array.getElem?_eq_none c] at hg; cases hg)]
      exact hg
    refine ⟨h1, v, lt h2, ⟨h3.1, ?_⟩, h4⟩
    rcases h3.2 with h5 | ⟨g, cap, cur, q1, q2, q3, q4⟩
    · exact .inl h5
    · exact .inr ⟨g, cap, cur, q1, q2, lt q3, q4⟩
  exact h.elim (fun h => .inl (key _ h)) (fun h => .inr (key _ h))
theorem progText_calls (l : List Inn) (A : Option Addr) (bk o c : Nat) (w : World) (hA : A = some ⟨bk, o, none⟩ ∧ bk < w.heap.size ∨ l = []) (hc : l.length ≤ c) (hlen : (progT l).length ≤ 140737488355328)
    (hcell : ∀ i x, l[i]? = some x → ∀ j u, (insV x)[j]? = some u → w.cell? ⟨bk, o + (i * 4 + j), none⟩ = some u)
    (hins : ∀ x ∈ l, ∀ w1, Below w.heap.size w w1 → Calls Tryd.prog 29 #[.agg (insV x).toArray] w1 fun e w' => e = .returned (.string (bs (insT x))) ∧ Below w1.heap.size w1 w') :
    Calls Tryd.prog 10 #[.slice A l.length c] w fun e w' => e = .returned (.string (bs (progT l))) ∧ Below w.heap.size w w' := by
  have mixed : Tryd.prog.follows .mixedOrders = true := mixed
  have HC := Asd.mk hcell
  have HI := Asd.mk hins
  have HL := Asd.mk hlen
  clear hcell hins hlen
  go_enter Tryd.func10, Tryd.ntmps10
  go_wp2
  go_loopw [8] (fun i wr => ∃ k : Nat, k ≤ l.length ∧ i = .int .i64 k ∧ Asd (Lib.IsBuilder (laysJ_ren.t 72) (laysJ_ren.t 5) w.heap.size w.heap.size (Lib.byteCells (progT (l.take k))) wr) ∧ Asd (Below w.heap.size w wr)) (fun i _ => l.length - (intOf i).toNat)
  case atStart => exact ⟨0, Nat.zero_le _, rfl, ⟨Lib.fresh_isBuilder _ _ w⟩, ⟨(Below.refl _ _).alloc (Nat.le_refl _) _⟩⟩
  case round =>
    obtain ⟨k, hk, rfl, HB, HW⟩ := hrel
    by_cases hkr : k < l.length
    · obtain ⟨rfl, hbk⟩ : A = some ⟨bk, o, none⟩ ∧ bk < w.heap.size := hA.elim id fun e => by rw [e] at hkr; cases hkr
      obtain ⟨x, hx⟩ : ∃ y, l[k]? = some y := ⟨l[k], List.getElem?_eq_getElem hkr⟩
      have hcc : ∀ j u, (insV x)[j]? = some u → wr.cell? ⟨bk, o + (k * 4 + j), none⟩ = some u := fun j u hu => by
        rw [HW.out.cell (p := ⟨bk, o + (k * 4 + j), none⟩) hbk]
        exact HC.out k x hx j u hu
      have hc0 : wr.cell? ⟨bk, o + k * 4, none⟩ = some (.int .i64 x.1) := hcc 0 _ rfl
      have hc1 : wr.cell? ⟨bk, o + k * 4 + 1, none⟩ = some (.int .i64 x.2.1) := hcc 1 _ rfl
      have hc2 : wr.cell? ⟨bk, o + k * 4 + 2, none⟩ = some (.int .i64 x.2.2.1) := hcc 2 _ rfl
      have hc3 : wr.cell? ⟨bk, o + k * 4 + 3, none⟩ = some (.int .i64 x.2.2.2) := hcc 3 _ rfl
      clear hcc
      have hBw : w.heap.size ≤ wr.heap.size := HW.out.size
      have hxm : x ∈ l := List.mem_of_getElem? hx
      have hnext : Lib.byteCells (progT (l.take k)) ++ Lib.strCells (bs (insT x ++ [10])) = Lib.byteCells (progT (l.take (k + 1))) := by
        rw [Lib.strCells_eq, ← Lib.byteCells_append]
        refine congrArg _ ?_
        obtain ⟨hk2, rfl⟩ := List.getElem?_eq_some_iff.1 hx
        unfold progT
        rw [List.take_succ_eq_append_getElem hk2, List.flatMap_append]
        simp
        rfl
      have hl1 : (progT (l.take (k + 1))).length ≤ 140737488355328 := by
        have h1 := HL.out
        rw [show l = l.take (k + 1) ++ l.drop (k + 1) from (List.take_append_drop _ _).symm] at h1
        unfold progT at h1 ⊢
        rw [List.flatMap_append, List.length_append] at h1
        omega
      have hl2 : (Lib.byteCells (progT (l.take k))).length + (insT x ++ [10]).length ≤ 140737488355328 := by
        have := congrArg List.length hnext
        rw [List.length_append, Lib.byteCells_length (progT (l.take (k + 1))), Lib.strCells_length] at this
        have e : (bs (insT x ++ [10])).size = (insT x ++ [10]).length := rfl
        omega
      have Hn := Asd.mk hnext
      have Hl2 := Asd.mk hl2
      have Hxm := Asd.mk hxm
      clear hnext hl1 hl2 hxm
      go_wp2_with fail
      refine (HI.out x Hxm.out _ (HW.out.alloc hBw _)).mono ?_
      rintro e w2 ⟨rfl, hb2⟩
      have hb3 : Below wr.heap.size wr w2 := ((Below.refl _ _).alloc (Nat.le_refl _) _).trans ⟨hb2.os, hb2.tape, hb2.output, hb2.size, fun j hj => hb2.block j (by simp; omega)⟩
      have HB2 := Asd.mk (isBuilder_keep HB.out hb3)
      have HW2 : Asd (Below w.heap.size w w2) := ⟨HW.out.trans ⟨hb3.os, hb3.tape, hb3.output, hb3.size, fun j hj => hb3.block j (by omega)⟩⟩
      have hBw2 : w.heap.size ≤ w2.heap.size := HW2.out.size
      clear hb2 hb3
      have hx1 : (insT x).length + 1 ≤ 9223372036854775807 := by
        have := Hl2.out
        rw [List.length_append] at this
        simp only [List.length_cons, List.length_nil] at this
        omega
      go_wp2_with fail
      refine (Any.Builder_WriteString (ρ := laysJ_ren) { laysJ with } extraJ w.heap.size w.heap.size _ (bs (insT x ++ [10])) w2 HB2.out Hl2.out hBw2).mono ?_
      rintro e w3 ⟨rfl, h3, hb3⟩
      rw [Hn.out] at h3
      have H3 := Asd.mk (Or.inr h3 : Lib.IsBuilder (laysJ_ren.t 72) (laysJ_ren.t 5) w.heap.size w.heap.size _ w3)
      have Hb3 := Asd.mk (HW2.out.trans hb3)
      clear h3 hb3
      go_wp2
      have hlN : l.length ≤ 140737488355328 := by
        have h1 := HL.out
        have h2 : ∀ q : List Inn, q.length ≤ (progT q).length := fun q => by
          induction q with
          | nil => simp
          | cons y q ih => unfold progT at ih ⊢; rw [List.flatMap_cons, List.length_append, List.length_append, List.length_cons]; simp only [List.length_cons, List.length_nil]; omega
        have := h2 l
        omega
      have hw : wrap64 ((k : Int) + 1) = ((k + 1 : Nat) : Int) := by rw [IntWalk.wrap64_in _ ⟨by omega, by omega⟩]; rfl
      rw [hw]
      exact ⟨⟨_, _, _, _, _, _, _, _, _, _, ⟨k + 1, by omega, rfl, H3, Hb3⟩, rfl⟩, by simp [intOf]; omega⟩
    · have hke : k = l.length := by omega
      subst hke
      have hB' := HB.out
      rw [List.take_length] at hB'
      have hBw : w.heap.size ≤ wr.heap.size := HW.out.size
      go_wp2_with fail
      refine (Any.Builder_String_any (ρ := laysJ_ren) { laysJ with } extraJ w.heap.size w.heap.size _ wr hB' hBw).mono ?_
      rintro e w5 ⟨rfl, hb5⟩
      have Hb5 := Asd.mk (HW.out.trans hb5)
      clear hb5 hB'
      go_wp2
      go_ret
      exact ⟨rfl, Hb5.out⟩
theorem insT_len {x : Inn} (h : i64 x.2.1 ∧ i64 x.2.2.1 ∧ i64 x.2.2.2) : (insT x).length ≤ 65 := by
  have h1 := itoa_len h.1.1 h.1.2
  have h2 := itoa_len h.2.1.1 h.2.1.2
  have h3 := itoa_len h.2.2.1 h.2.2.2
  unfold insT
  (repeat' split) <;> simp <;> omega
theorem progT_len : ∀ {l : List Inn}, (∀ x ∈ l, i64 x.2.1 ∧ i64 x.2.2.1 ∧ i64 x.2.2.2) → (progT l).length ≤ 66 * l.length
  | [], _ => by simp [progT]
  | x :: l, h => by
    have ih := progT_len (l := l) fun y hy => h y (by simp [hy])
    have h1 := insT_len (h x (by simp))
    unfold progT at ih ⊢
    rw [List.flatMap_cons, List.length_append, List.length_append, List.length_cons]
    simp only [List.length_cons, List.length_nil]
    omega
theorem tc_insText (x : Inn) (hb : i64 x.2.1 ∧ i64 x.2.2.1 ∧ i64 x.2.2.2) : TC Tryd.prog 29 [.agg (encIns x)] [] (.val (.string (bs (insT x)))) [] := by
  obtain ⟨op, a, b, t⟩ := x
  have d1 := tc_strItoa a hb.1.1 hb.1.2
  have d2 := tc_strItoa b hb.2.1.1 hb.2.1.2
  have d3 := tc_strItoa t hb.2.2.1 hb.2.2.2
  have e1 := itoa_len hb.1.1 hb.1.2
  have e2 := itoa_len hb.2.1.1 hb.2.1.2
  have e3 := itoa_len hb.2.2.1 hb.2.2.2
  unfold insT
  simp only at e1 e2 e3 ⊢
  generalize Lib.itoa a = A at *
  generalize Lib.itoa b = B at *
  generalize Lib.itoa t = T at *
  have K : ∀ z : Int, z ≤ 70000000 → (9223372036854775807 < z) = False := fun z hz => by simp; omega
  refine TC.enter Tryd.func29 rfl (by simp [Tryd.ntmps29]) rfl (tw_sound (ρ := [1]) ?_)
  rw [Tryd.ntmps29]
  by_cases c1 : op = 1
  · subst c1
    simp [encIns]
    refine TWoH.callV d1 callable_34 (by simp) (by simp) (by simp) (by simp) ?_
    simp
    repeat (simp (disch := omega) only [K]; simp)
  by_cases c2 : op = 2
  · subst c2
    simp [encIns]
  by_cases c3 : op = 3
  · subst c3
    simp [encIns]
    refine TWcH.regionD (ρ := [1]) [0, 1, 5, 6, 10, 11, 2, 3, 4, 7, 8, 9, 12, 13, 14] 15 mixed (by kernel_rfl) ?_
    simp
    refine TWqH.callV d1 callable_34 (by simp) (by simp) (by simp) (by simp) ?_
    simp
    repeat (simp (disch := omega) only [K]; simp)
    refine TWqH.callV d2 callable_34 (by simp) (by simp) (by simp) (by simp) ?_
    simp
    repeat (simp (disch := omega) only [K]; simp)
    refine TWqH.callV d3 callable_34 (by simp) (by simp) (by simp) (by simp) ?_
    simp
    repeat (simp (disch := omega) only [K]; simp)
  by_cases c4 : op = 4
  · subst c4
    simp [encIns]
  simp [encIns, c1, c2, c3, c4]
theorem tc_l10Line (x : Inn) (hb : i64 x.2.1 ∧ i64 x.2.2.1 ∧ i64 x.2.2.2) : TC Tryd.prog 26 [.agg (encIns x)] [] (.val (.string (bs (insT x)))) [] := by
  obtain ⟨op, a, b, t⟩ := x
  have d1 := tc_l15DecI a hb.1.1 hb.1.2
  have d2 := tc_l15DecI b hb.2.1.1 hb.2.1.2
  have d3 := tc_l15DecI t hb.2.2.1 hb.2.2.2
  have e1 := itoa_len hb.1.1 hb.1.2
  have e2 := itoa_len hb.2.1.1 hb.2.1.2
  have e3 := itoa_len hb.2.2.1 hb.2.2.2
  unfold insT
  simp only at e1 e2 e3 ⊢
  generalize Lib.itoa a = A at *
  generalize Lib.itoa b = B at *
  generalize Lib.itoa t = T at *
  have K : ∀ z : Int, z ≤ 70000000 → (9223372036854775807 < z) = False := fun z hz => by simp; omega
  refine TC.enter Tryd.func26 rfl (by simp [Tryd.ntmps26]) rfl (tw_sound (ρ := [1]) ?_)
  rw [Tryd.ntmps26]
  by_cases c1 : op = 1
  · subst c1
    simp [encIns]
    refine TWoH.callV d1 callable_32 (by simp) (by simp) (by simp) (by simp) ?_
    simp
    repeat (simp (disch := omega) only [K]; simp)
  by_cases c2 : op = 2
  · subst c2
    simp [encIns]
  by_cases c3 : op = 3
  · subst c3
    simp [encIns]
    refine TWcH.regionD (ρ := [1]) [0, 1, 5, 6, 10, 11, 2, 3, 4, 7, 8, 9, 12, 13, 14] 15 mixed (by kernel_rfl) ?_
    simp
    refine TWqH.callV d1 callable_32 (by simp) (by simp) (by simp) (by simp) ?_
    simp
    repeat (simp (disch := omega) only [K]; simp)
    refine TWqH.callV d2 callable_32 (by simp) (by simp) (by simp) (by simp) ?_
    simp
    repeat (simp (disch := omega) only [K]; simp)
    refine TWqH.callV d3 callable_32 (by simp) (by simp) (by simp) (by simp) ?_
    simp
    repeat (simp (disch := omega) only [K]; simp)
  by_cases c4 : op = 4
  · subst c4
    simp [encIns]
  simp [encIns, c1, c2, c3, c4]
theorem repRows_ins {P : Program} {e : Env} : ∀ {xs : List Inn} {vs : List Value} {F : Foot}, RepRows P e (xs.map encIns) vs F → vs = xs.flatMap insV
  | [], vs, F, h => by simp only [List.map_nil, RepRows] at h; exact h.1
  | x :: xs, vs, F, h => by
    simp only [List.map_cons, RepRows] at h
    obtain ⟨v1, v2, F1, F2, rfl, h1, h2, _⟩ := h
    rw [repRows_ins h2, List.flatMap_cons]
    congr 1
    simp only [encIns, RepL, Rep] at h1
    obtain ⟨_, _, _, _, rfl, ⟨_, rfl⟩, ⟨_, _, _, _, rfl, ⟨_, rfl⟩, ⟨_, _, _, _, rfl, ⟨_, rfl⟩, ⟨_, _, _, _, rfl, ⟨_, rfl⟩, ⟨rfl, _⟩, _⟩, _⟩, _⟩, _⟩ := h1
    rfl
theorem flat_insV : ∀ (l : List Inn) (i : Nat) (x : Inn), l[i]? = some x → ∀ (j : Nat) (u : Value), (insV x)[j]? = some u → (l.flatMap insV)[i * 4 + j]? = some u
  | [], i, x, h, _, _, _ => by simp at h
  | y :: l, 0, x, h, j, u, hu => by
    simp at h; subst h
    rw [List.flatMap_cons, List.getElem?_append_left (by
      have := (List.getElem?_eq_some_iff.1 hu).1
      simpa using this)]
    simpa using hu
  | y :: l, i + 1, x, h, j, u, hu => by
    have ih := flat_insV l i x (by simpa using h) j u hu
    rw [List.flatMap_cons, List.getElem?_append_right (by simp [insV]; omega)]
    rw [show (i + 1) * 4 + j - (insV y).length = i * 4 + j by simp [insV]; omega]
    exact ih
theorem tc_iProgText (l : List Inn) (hl : l.length ≤ 1048576) (hb : ∀ x ∈ l, i64 x.2.1 ∧ i64 x.2.2.1 ∧ i64 x.2.2.2) : TC Tryd.prog 10 [.ro (l.map encIns)] [] (.val (.string (bs (progT l)))) [] := by
  refine TC.pureV fun w Z η vs ha hZ hL => ?_
  simp only [RepL, Rep] at ha
  obtain ⟨v, vs', F1, F2, rfl, ⟨_, A, c, us, z, rfl, hc, _, hr, _, hA⟩, ⟨rfl, _⟩, _⟩ := ha
  have hu := repRows_ins hr
  have hlen := progT_len hb
  have hins : ∀ x ∈ l, ∀ w1, Below w.heap.size w w1 → Calls Tryd.prog 29 #[.agg (insV x).toArray] w1 fun e w' => e = .returned (.string (bs (insT x))) ∧ Below w1.heap.size w1 w' := by
    intro x hx w1 hw1
    refine (tc_insText x (hb x hx) w1 Z η noF [.agg (insV x).toArray] ?_ (by simp [RepL, ηs, emp_noF]) (fun b hz => Nat.lt_of_lt_of_le (hZ b hz) hw1.size) (fun b m h => h.elim) (hL.mono (fun _ h => h) hw1.size fun b hb _ => hw1.block b hb)).mono ?_
    · have hv : ∀ u : Value, Rep Tryd.prog ⟨w1, Z, 0, η⟩ (.val u) u noF := fun u => by simp only [Rep]; exact ⟨emp_noF, trivial⟩
      have hnil : RepL Tryd.prog ⟨w1, Z, 0, η⟩ [] [] noF := by simp only [RepL]; exact ⟨trivial, emp_noF⟩
      have hcons : ∀ (u : Value) (ts : List TV) (us : List Value), RepL Tryd.prog ⟨w1, Z, 0, η⟩ ts us noF → RepL Tryd.prog ⟨w1, Z, 0, η⟩ (.val u :: ts) (u :: us) noF := fun u ts us h => by
        simp only [RepL]
        exact ⟨u, us, noF, noF, rfl, hv u, h, .of_emp emp_noF emp_noF emp_noF⟩
      refine repL_one.2 ?_
      simp only [Rep]
      exact ⟨insV x, rfl, hcons _ _ _ (hcons _ _ _ (hcons _ _ _ (hcons _ _ _ hnil))), by simp [Ones, insV, Value.oneCell']⟩
    · rintro e w' ⟨v, Z', F', rfl, hrp, hg, _⟩
      simp only [RepL, Rep, List.length_nil, ηs, List.range_zero, List.map_nil] at hrp
      obtain ⟨v2, _, _, _, e2, ⟨_, rfl⟩, _⟩ := hrp
      simp only [List.cons.injEq] at e2
      refine ⟨by rw [e2.1], ⟨hg.os, hg.tape, hg.output, hg.size, fun j hj => hg.block j hj fun ⟨m, hm⟩ => hm⟩⟩
  rw [List.length_map]
  rw [List.length_map] at hc
  rcases hA with hA | ⟨b, o, rfl, hz, hcell⟩
  · have hl0 : l = [] := by
      rw [hu] at hA
      cases l with
      | nil => rfl
      | cons y l => simp [insV] at hA
    exact progText_calls l A 0 0 c w (.inr hl0) hc (by omega) (fun i x hx => by rw [hl0] at hx; cases hx) hins
  · exact progText_calls l (some ⟨b, o, none⟩) b o c w (.inl ⟨rfl, hZ b hz⟩) hc (by omega) (fun i x hx j u hu2 => hcell _ _ (by rw [hu]; exact flat_insV l i x hx j u hu2)) hins
end Go.Proofs.YtmpeolimleladaaDoor.R
