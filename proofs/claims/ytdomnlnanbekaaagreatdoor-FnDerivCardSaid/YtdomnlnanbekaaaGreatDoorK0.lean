/- Part 0: what the walk of the code stands on. Conditions: none but those that each theorem states. -/
import Derived.Test.YtdomnlnanbekaaaGreatDoorProg
import Derived.Below
import Derived.Carry
import Derived.ChangeArms
import Derived.ChangeOld
import Derived.ChangeSlices
import Derived.DataReads
import Derived.Deep.Slices
import Derived.DeepKeys3
import Derived.HandedShaped
import Derived.KernelRfl
import Derived.LaidHandle
import Derived.LaidLaws
import Derived.LaidMore
import Derived.Laws.AppendOwn
import Derived.Laws.BytesString
import Derived.Laws.CopyRow
import Derived.Laws.MakeOwn
import Derived.Laws.OwnMore
import Derived.Laws.Rows
import Derived.Laws.Strings
import Derived.Laws.StructEq
import Derived.Lib.AppendIntMem
import Derived.Lib.ItoaNum
import Derived.Lib.Join
import Derived.Lib.LaidTab
import Derived.MakeChecks
import Derived.MapKept
import Derived.Maps.AppendAt
import Derived.OpenShut
import Derived.OrdersHeld
import Derived.ProofKit
import Derived.SevenTiedAt
import Derived.Shelf.Slices.In.SortNone2
import Derived.Shelf.Sort.Plain
import Derived.Shelf.Strconv.Itoa3
import Derived.Shelf.Strings.OnBuilder
import Derived.Shelf.Vars
import Derived.ShutString
import Derived.SizedLaws
import Derived.StillTail
import Derived.Stop.Joined
import Derived.Stop.LaidErr
import Derived.WalkKit
namespace Go.Proofs.YtdomnlnanbekaaaGreatDoor.T
set_option linter.unusedVariables false
set_option linter.unusedSimpArgs false

inductive TV where
  | any
  | val (v : Value)
  | ro (rows : List (List TV))
  | own (E : Nat) (rows : List (List TV))
  | rptr (row : List TV) (off : Nat)
  | box (t : Nat) (cs : List TV)
  | agg (cs : List TV)
  | tup (ts : List TV)
  | hd (id : Nat)
  | pd (id z r c : Nat)
  | sl (id z r n : Nat)
  | clo (f : Nat) (cs : List TV)
  | mp (t : Nat) (kvs : List (List TV))
  deriving Inhabited

abbrev Foot := Nat → Nat → Prop
def noF : Foot := fun _ _ => False
def Emp (F : Foot) : Prop := ∀ b m, ¬ F b m
structure Spl (F F1 F2 : Foot) : Prop where
  iff : ∀ b m, F b m ↔ F1 b m ∨ F2 b m
  dis : ∀ b m m', F1 b m → F2 b m' → False
def Sgl (b m : Nat) : Foot := fun b' m' => b' = b ∧ m' = m
def OwnF (v : Value) (n : Nat) : Foot := fun b m => v.ownBlock = some b ∧ m = n
def Ones (vs : List Value) : Prop := ∀ u ∈ vs, u.oneCell' = true
structure Env where
  w : World
  Z : Nat → Prop
  N : Nat
  η : Nat → Value
def szOf (P : Program) (t : Nat) : Nat := ((P.info? t).map (·.size)).getD 0
/-- A piece of a row: n rows of z cells from row r on. -/
def SlOf (u : Value) (z r n : Nat) (v : Value) : Prop := ∃ A m cap, u = .slice A m cap ∧ (A = none ∨ ∃ g, A = some ⟨g, 0, none⟩) ∧ v = .slice (if cap = r then A else A.map (·.add (r * z))) n (cap - r) ∧ r + n ≤ m ∧ m ≤ cap
/-- Keys and values of a map's entries, one behind the other. -/
def entV : List MapEntry → List Value
  | [] => []
  | x :: l => x.key :: x.val :: entV l
def hblk : Value → Option Nat
  | .slice (some ⟨b, 0, none⟩) _ _ => some b
  | .pointer (some ⟨b, 0, none⟩) => some b
  | _ => none

mutual
def Rep (P : Program) (e : Env) : TV → Value → Foot → Prop
  | .any, _, F => Emp F
  | .val u, v, F => Emp F ∧ v = u
  | .ro rows, v, F => Emp F ∧ ∃ A c vs z, v = .slice A rows.length c ∧ rows.length ≤ c ∧ (∀ r ∈ rows, r.length = z) ∧ RepRows P e rows vs F ∧ Ones vs ∧
      (vs = [] ∨ ∃ b o, A = some ⟨b, o, none⟩ ∧ e.Z b ∧ ∀ j u, vs[j]? = some u → e.w.cell? ⟨b, o + j, none⟩ = some u)
  | .own E rows, v, F => ∃ vs F', e.w.ownsRow 0 E (szOf P E) v rows.length vs ∧ (∀ r ∈ rows, r.length = szOf P E) ∧ RepRows P e rows vs F' ∧ Ones vs ∧ Spl F (OwnF v (rows.length * szOf P E)) F'
  | .rptr row off, v, F => Emp F ∧ ∃ b o vs, v = .pointer (some ⟨b, o + off, none⟩) ∧ e.Z b ∧ RepL P e row vs F ∧ Ones vs ∧ ∀ j u, vs[j]? = some u → e.w.cell? ⟨b, o + j, none⟩ = some u
  | .box t cs, v, F => ∃ b vs F', v = .pointer (some ⟨b, 0, none⟩) ∧ e.w.heap[b]? = some (.cells vs.toArray t (0, 0)) ∧ RepL P e cs vs F' ∧ Ones vs ∧ Spl F (Sgl b vs.length) F'
  | .agg cs, v, F => ∃ vs, v = .agg vs.toArray ∧ RepL P e cs vs F ∧ Ones vs
  | .tup cs, v, F => ∃ vs, v = .tuple vs.toArray ∧ RepL P e cs vs F
  | .hd id, v, F => Emp F ∧ id < e.N ∧ v = e.η id ∧ v.oneCell' = true
  | .pd id z r c, v, F => Emp F ∧ id < e.N ∧ ∃ b, hblk (e.η id) = some b ∧ v = .pointer (some ⟨b, r * z + c, none⟩)
  | .sl id z r n, v, F => Emp F ∧ id < e.N ∧ SlOf (e.η id) z r n v
  | .clo f cs, v, F => Emp F ∧ ∃ vs, v = .func (.func f) #[] vs.toArray ∧ RepL P e cs vs noF
  | .mp _ kvs, v, F => ∃ (b : Nat) (es : Array MapEntry) (clock : Nat), v = .map (some b) ∧ e.w.heap[b]? = some (.map es clock) ∧ RepRows P e kvs (entV es.toList) noF ∧ ∀ b' m, F b' m ↔ Sgl b 0 b' m
def RepL (P : Program) (e : Env) : List TV → List Value → Foot → Prop
  | [], vs, F => vs = [] ∧ Emp F
  | t :: ts, vs, F => ∃ v vs' F1 F2, vs = v :: vs' ∧ Rep P e t v F1 ∧ RepL P e ts vs' F2 ∧ Spl F F1 F2
def RepRows (P : Program) (e : Env) : List (List TV) → List Value → Foot → Prop
  | [], vs, F => vs = [] ∧ Emp F
  | r :: rs, vs, F => ∃ v1 v2 F1 F2, vs = v1 ++ v2 ∧ RepL P e r v1 F1 ∧ RepRows P e rs v2 F2 ∧ Spl F F1 F2
end

/-- What has to stay as it is for a value to be read as before. -/
structure Keep (e e' : Env) (F : Foot) : Prop where
  Z : ∀ b, e.Z b → e'.Z b
  N : e.N ≤ e'.N
  η : ∀ i, i < e.N → e'.η i = e.η i
  z : ∀ b, e.Z b → e'.w.heap[b]? = e.w.heap[b]?
  f : ∀ b m, F b m → e'.w.heap[b]? = e.w.heap[b]?

theorem Keep.sub {e e' : Env} {F F' : Foot} (h : Keep e e' F) (hs : ∀ b m, F' b m → F b m) : Keep e e' F' := ⟨h.Z, h.N, h.η, h.z, fun b m hb => h.f b m (hs b m hb)⟩
theorem Keep.left {e e' : Env} {F F1 F2 : Foot} (h : Keep e e' F) (s : Spl F F1 F2) : Keep e e' F1 := h.sub fun b m hb => (s.iff b m).2 (.inl hb)
theorem Keep.right {e e' : Env} {F F1 F2 : Foot} (h : Keep e e' F) (s : Spl F F1 F2) : Keep e e' F2 := h.sub fun b m hb => (s.iff b m).2 (.inr hb)
theorem cell_same {w w' : World} {b o : Nat} (h : w'.heap[b]? = w.heap[b]?) : w'.cell? ⟨b, o, none⟩ = w.cell? ⟨b, o, none⟩ := World.cell?_of_block (a := ⟨b, o, none⟩) h
theorem owns_same {w w' : World} {base E size n : Nat} {v : Value} {xs : List Value} (h : w.ownsRow base E size v n xs) (hb : ∀ b, v.ownBlock = some b → w'.heap[b]? = w.heap[b]?) : w'.ownsRow base E size v n xs := by
  refine ⟨h.1, ?_⟩
  rcases h.2 with hn | ⟨g, cap, cur, rfl, hb', hg, rest⟩
  · exact .inl hn
  · exact .inr ⟨g, cap, cur, rfl, hb', by rw [hb g rfl]; exact hg, rest⟩

mutual
theorem Rep.keep {P : Program} {e e' : Env} : ∀ (t : TV) {v : Value} {F : Foot}, Rep P e t v F → Keep e e' F → Rep P e' t v F
  | .any, v, F, h, k => by simp only [Rep] at h ⊢; exact h
  | .val u, v, F, h, k => by simp only [Rep] at h ⊢; exact h
  | .ro rows, v, F, h, k => by
    simp only [Rep] at h ⊢
    obtain ⟨hE, A, c, vs, z, hv, hc, hz, hr, h1, hcell⟩ := h
    refine ⟨hE, A, c, vs, z, hv, hc, hz, RepRows.keep rows hr k, h1, hcell.imp id ?_⟩
    rintro ⟨b, o, hA, hZ, hcs⟩
    exact ⟨b, o, hA, k.Z b hZ, fun j u hu => by rw [cell_same (k.z b hZ)]; exact hcs j u hu⟩
  | .own E rows, v, F, h, k => by
    simp only [Rep] at h ⊢
    obtain ⟨vs, F', ho, hz, hr, h1, hs⟩ := h
    exact ⟨vs, F', owns_same ho fun b hb => k.f b _ ((hs.iff b _).2 (.inl ⟨hb, rfl⟩)), hz, RepRows.keep rows hr (k.right hs), h1, hs⟩
  | .rptr row off, v, F, h, k => by
    simp only [Rep] at h ⊢
    obtain ⟨hE, b, o, vs, hv, hZ, hr, h1, hcs⟩ := h
    exact ⟨hE, b, o, vs, hv, k.Z b hZ, RepL.keep row hr k, h1, fun j u hu => by rw [cell_same (k.z b hZ)]; exact hcs j u hu⟩
  | .box t cs, v, F, h, k => by
    simp only [Rep] at h ⊢
    obtain ⟨b, vs, F', hv, hb, hr, h1, hs⟩ := h
    exact ⟨b, vs, F', hv, by rw [k.f b _ ((hs.iff b _).2 (.inl ⟨rfl, rfl⟩))]; exact hb, RepL.keep cs hr (k.right hs), h1, hs⟩
  | .agg cs, v, F, h, k => by
    simp only [Rep] at h ⊢
    obtain ⟨vs, hv, hr, h1⟩ := h
    exact ⟨vs, hv, RepL.keep cs hr k, h1⟩
  | .tup cs, v, F, h, k => by
    simp only [Rep] at h ⊢
    obtain ⟨vs, hv, hr⟩ := h
    exact ⟨vs, hv, RepL.keep cs hr k⟩
  | .hd id, v, F, h, k => by
    simp only [Rep] at h ⊢
    exact ⟨h.1, Nat.lt_of_lt_of_le h.2.1 k.N, by rw [k.η id h.2.1]; exact h.2.2⟩
  | .pd id z r c, v, F, h, k => by
    simp only [Rep] at h ⊢
    exact ⟨h.1, Nat.lt_of_lt_of_le h.2.1 k.N, by rw [k.η id h.2.1]; exact h.2.2⟩
  | .sl id z r c, v, F, h, k => by
    simp only [Rep] at h ⊢
    exact ⟨h.1, Nat.lt_of_lt_of_le h.2.1 k.N, by rw [k.η id h.2.1]; exact h.2.2⟩
  | .clo f cs, v, F, h, k => by
    simp only [Rep] at h ⊢
    obtain ⟨hE, vs, hv, hr⟩ := h
    exact ⟨hE, vs, hv, RepL.keep cs hr (k.sub fun b m x => x.elim)⟩
  | .mp t kvs, v, F, h, k => by
    simp only [Rep] at h ⊢
    obtain ⟨b, es, clock, hv, hb, he, hF⟩ := h
    exact ⟨b, es, clock, hv, by rw [k.f b 0 ((hF b 0).2 ⟨rfl, rfl⟩)]; exact hb, RepRows.keep kvs he (k.sub fun b m x => x.elim), hF⟩
theorem RepL.keep {P : Program} {e e' : Env} : ∀ (ts : List TV) {vs : List Value} {F : Foot}, RepL P e ts vs F → Keep e e' F → RepL P e' ts vs F
  | [], vs, F, h, k => by simp only [RepL] at h ⊢; exact h
  | t :: ts, vs, F, h, k => by
    simp only [RepL] at h ⊢
    obtain ⟨v, vs', F1, F2, hv, h1, h2, hs⟩ := h
    exact ⟨v, vs', F1, F2, hv, Rep.keep t h1 (k.left hs), RepL.keep ts h2 (k.right hs), hs⟩
theorem RepRows.keep {P : Program} {e e' : Env} : ∀ (ts : List (List TV)) {vs : List Value} {F : Foot}, RepRows P e ts vs F → Keep e e' F → RepRows P e' ts vs F
  | [], vs, F, h, k => by simp only [RepRows] at h ⊢; exact h
  | t :: ts, vs, F, h, k => by
    simp only [RepRows] at h ⊢
    obtain ⟨v1, v2, F1, F2, hv, h1, h2, hs⟩ := h
    exact ⟨v1, v2, F1, F2, hv, RepL.keep t h1 (k.left hs), RepRows.keep ts h2 (k.right hs), hs⟩
end
end Go.Proofs.YtdomnlnanbekaaaGreatDoor.T

namespace Go.Proofs.YtdomnlnanbekaaaGreatDoor.T
set_option linter.unusedVariables false

def Uni (F1 F2 : Foot) : Foot := fun b m => F1 b m ∨ F2 b m
def Dis (F1 F2 : Foot) : Prop := ∀ b m m', F1 b m → F2 b m' → False
def Sub (F1 F2 : Foot) : Prop := ∀ b m, F1 b m → F2 b m
theorem emp_noF : Emp noF := fun _ _ h => h
theorem Dis.symm {F1 F2 : Foot} (h : Dis F1 F2) : Dis F2 F1 := fun b m m' h1 h2 => h b m' m h2 h1
theorem Dis.sub {F1 F2 G1 G2 : Foot} (h : Dis F1 F2) (h1 : Sub G1 F1) (h2 : Sub G2 F2) : Dis G1 G2 := fun b m m' a c => h b m m' (h1 b m a) (h2 b m' c)
theorem Dis.emp {F1 F2 : Foot} (h : Emp F2) : Dis F1 F2 := fun b m m' _ c => h b m' c
theorem Dis.emp' {F1 F2 : Foot} (h : Emp F1) : Dis F1 F2 := fun b m m' c _ => h b m c
theorem spl_uni {F1 F2 : Foot} (h : Dis F1 F2) : Spl (Uni F1 F2) F1 F2 := ⟨fun _ _ => Iff.rfl, h⟩
theorem Spl.symm {F F1 F2 : Foot} (h : Spl F F1 F2) : Spl F F2 F1 := ⟨fun b m => (h.iff b m).trans Or.comm, fun b m m' a c => h.dis b m' m c a⟩
theorem Spl.l {F F1 F2 : Foot} (h : Spl F F1 F2) : Sub F1 F := fun b m hb => (h.iff b m).2 (.inl hb)
theorem Spl.r {F F1 F2 : Foot} (h : Spl F F1 F2) : Sub F2 F := fun b m hb => (h.iff b m).2 (.inr hb)
theorem Spl.emp_r {F F1 F2 : Foot} (h : Spl F F1 F2) (he : Emp F) : Emp F2 := fun b m hb => he b m (h.r b m hb)
theorem Spl.emp_l {F F1 F2 : Foot} (h : Spl F F1 F2) (he : Emp F) : Emp F1 := fun b m hb => he b m (h.l b m hb)
theorem Spl.of_emp {F F1 F2 : Foot} (h : Emp F) (h1 : Emp F1) (h2 : Emp F2) : Spl F F1 F2 := ⟨fun b m => ⟨fun a => (h b m a).elim, fun a => a.elim (fun a => (h1 b m a).elim) (fun a => (h2 b m a).elim)⟩, fun b m m' a _ => h1 b m a⟩
theorem Emp.sub {F G : Foot} (h : Emp F) (s : Sub G F) : Emp G := fun b m hb => h b m (s b m hb)
/-- F = A + (B + C) regrouped. -/
theorem Spl.assoc {F A G B C : Foot} (h : Spl F A G) (k : Spl G B C) : Spl F (Uni A B) C ∧ Dis A B := by
  refine ⟨⟨fun b m => ?_, ?_⟩, ?_⟩
  · rw [h.iff, k.iff]; unfold Uni; exact or_assoc.symm
  · rintro b m m' (a | a) c
    · exact h.dis b m m' a (k.r b m' c)
    · exact k.dis b m m' a c
  · intro b m m' a c
    exact h.dis b m m' a (k.l b m' c)
theorem Spl.assoc' {F A G B C : Foot} (h : Spl F A G) (k : Spl G B C) : Spl F B (Uni A C) := by
  refine ⟨fun b m => ?_, ?_⟩
  · rw [h.iff, k.iff]; unfold Uni; exact ⟨fun x => x.elim (fun a => .inr (.inl a)) (fun x => x.elim .inl (fun c => .inr (.inr c))), fun x => x.elim (fun b => .inr (.inl b)) (fun x => x.elim .inl (fun c => .inr (.inr c)))⟩
  · rintro b m m' a (c | c)
    · exact h.dis b m' m c (k.l b m a)
    · exact k.dis b m m' a c

mutual
theorem Rep.foot {P : Program} {e : Env} : ∀ (t : TV) {v : Value} {F G : Foot}, Rep P e t v F → (∀ b m, G b m ↔ F b m) → Rep P e t v G
  | .any, v, F, G, h, s => by simp only [Rep] at h ⊢; exact h.sub fun b m => (s b m).1
  | .val u, v, F, G, h, s => by simp only [Rep] at h ⊢; exact ⟨h.1.sub fun b m => (s b m).1, h.2⟩
  | .ro rows, v, F, G, h, s => by
    simp only [Rep] at h ⊢
    obtain ⟨hE, A, c, vs, z, hv, hc, hz, hr, rest⟩ := h
    exact ⟨hE.sub fun b m => (s b m).1, A, c, vs, z, hv, hc, hz, RepRows.foot rows hr s, rest⟩
  | .own E rows, v, F, G, h, s => by
    simp only [Rep] at h ⊢
    obtain ⟨vs, F', ho, hz, hr, h1, hs⟩ := h
    exact ⟨vs, F', ho, hz, hr, h1, ⟨fun b m => (s b m).trans (hs.iff b m), hs.dis⟩⟩
  | .rptr row off, v, F, G, h, s => by
    simp only [Rep] at h ⊢
    obtain ⟨hE, b, o, vs, hv, hZ, hr, rest⟩ := h
    exact ⟨hE.sub fun b m => (s b m).1, b, o, vs, hv, hZ, RepL.foot row hr s, rest⟩
  | .box t cs, v, F, G, h, s => by
    simp only [Rep] at h ⊢
    obtain ⟨b, vs, F', hv, hb, hr, h1, hs⟩ := h
    exact ⟨b, vs, F', hv, hb, hr, h1, ⟨fun b m => (s b m).trans (hs.iff b m), hs.dis⟩⟩
  | .agg cs, v, F, G, h, s => by
    simp only [Rep] at h ⊢
    obtain ⟨vs, hv, hr, h1⟩ := h
    exact ⟨vs, hv, RepL.foot cs hr s, h1⟩
  | .tup cs, v, F, G, h, s => by
    simp only [Rep] at h ⊢
    obtain ⟨vs, hv, hr⟩ := h
    exact ⟨vs, hv, RepL.foot cs hr s⟩
  | .hd id, v, F, G, h, s => by simp only [Rep] at h ⊢; exact ⟨h.1.sub fun b m => (s b m).1, h.2⟩
  | .pd id z r c, v, F, G, h, s => by simp only [Rep] at h ⊢; exact ⟨h.1.sub fun b m => (s b m).1, h.2⟩
  | .sl id z r c, v, F, G, h, s => by simp only [Rep] at h ⊢; exact ⟨h.1.sub fun b m => (s b m).1, h.2⟩
  | .clo f cs, v, F, G, h, s => by simp only [Rep] at h ⊢; exact ⟨h.1.sub fun b m => (s b m).1, h.2⟩
  | .mp t kvs, v, F, G, h, s => by
    simp only [Rep] at h ⊢
    obtain ⟨b, es, clock, hv, hb, he, hF⟩ := h
    exact ⟨b, es, clock, hv, hb, he, fun b' m => (s b' m).trans (hF b' m)⟩
theorem RepL.foot {P : Program} {e : Env} : ∀ (ts : List TV) {vs : List Value} {F G : Foot}, RepL P e ts vs F → (∀ b m, G b m ↔ F b m) → RepL P e ts vs G
  | [], vs, F, G, h, s => by simp only [RepL] at h ⊢; exact ⟨h.1, h.2.sub fun b m => (s b m).1⟩
  | t :: ts, vs, F, G, h, s => by
    simp only [RepL] at h ⊢
    obtain ⟨v, vs', F1, F2, hv, h1, h2, hs⟩ := h
    exact ⟨v, vs', F1, F2, hv, h1, h2, ⟨fun b m => (s b m).trans (hs.iff b m), hs.dis⟩⟩
theorem RepRows.foot {P : Program} {e : Env} : ∀ (ts : List (List TV)) {vs : List Value} {F G : Foot}, RepRows P e ts vs F → (∀ b m, G b m ↔ F b m) → RepRows P e ts vs G
  | [], vs, F, G, h, s => by simp only [RepRows] at h ⊢; exact ⟨h.1, h.2.sub fun b m => (s b m).1⟩
  | t :: ts, vs, F, G, h, s => by
    simp only [RepRows] at h ⊢
    obtain ⟨v, vs', F1, F2, hv, h1, h2, hs⟩ := h
    exact ⟨v, vs', F1, F2, hv, h1, h2, ⟨fun b m => (s b m).trans (hs.iff b m), hs.dis⟩⟩
end

section
variable {P : Program} {e : Env}
theorem RepL.len : ∀ {ts : List TV} {vs : List Value} {F : Foot}, RepL P e ts vs F → vs.length = ts.length
  | [], vs, F, h => by simp only [RepL] at h; simp [h.1]
  | t :: ts, vs, F, h => by
    simp only [RepL] at h
    obtain ⟨v, vs', F1, F2, rfl, h1, h2, hs⟩ := h
    simp [RepL.len h2]
theorem RepRows.len {z : Nat} : ∀ {rs : List (List TV)} {vs : List Value} {F : Foot}, RepRows P e rs vs F → (∀ r ∈ rs, r.length = z) → vs.length = rs.length * z
  | [], vs, F, h, _ => by simp only [RepRows] at h; simp [h.1]
  | r :: rs, vs, F, h, hz => by
    simp only [RepRows] at h
    obtain ⟨v1, v2, F1, F2, rfl, h1, h2, hs⟩ := h
    rw [List.length_append, RepL.len h1, RepRows.len h2 fun r hr => hz r (by simp [hr]), hz r (by simp), List.length_cons, Nat.succ_mul, Nat.add_comm]

/-- One cell of a row, and what may stand in its place. -/
theorem RepL.focus : ∀ {ts : List TV} {vs : List Value} {F : Foot} {i : Nat} {t : TV}, RepL P e ts vs F → ts[i]? = some t →
    ∃ v F1 F2, vs[i]? = some v ∧ Rep P e t v F1 ∧ Spl F F1 F2 ∧ ∀ t' v' F1', Rep P e t' v' F1' → Dis F1' F2 → ∃ F', RepL P e (ts.set i t') (vs.set i v') F' ∧ Spl F' F1' F2
  | [], vs, F, i, t, h, hi => by simp at hi
  | t0 :: ts, vs, F, 0, t, h, hi => by
    simp only [RepL] at h
    obtain ⟨v, vs', F1, F2, rfl, h1, h2, hs⟩ := h
    obtain rfl : t0 = t := by simpa using hi
    refine ⟨v, F1, F2, by simp, h1, hs, fun t' v' F1' hr hd => ⟨Uni F1' F2, ?_, spl_uni hd⟩⟩
    simp only [List.set_cons_zero, RepL]
    exact ⟨v', vs', F1', F2, rfl, hr, h2, spl_uni hd⟩
  | t0 :: ts, vs, F, i + 1, t, h, hi => by
    simp only [RepL] at h
    obtain ⟨v, vs', F1, F2, rfl, h1, h2, hs⟩ := h
    obtain ⟨u, G1, G2, hu, hr, hg, hput⟩ := RepL.focus h2 (by simpa using hi)
    refine ⟨u, G1, Uni F1 G2, by simpa using hu, hr, hs.assoc' hg, fun t' v' F1' hr' hd => ?_⟩
    obtain ⟨F', hl, hs'⟩ := hput t' v' F1' hr' (hd.sub (fun _ _ h => h) fun b m h => .inr h)
    have hdis : Dis F1 F' := by
      intro b m m' ha hb
      rcases (hs'.iff b m').1 hb with hb | hb
      · exact hd b m' m hb (.inl ha)
      · exact hs.dis b m m' ha (hg.r b m' hb)
    refine ⟨Uni F1 F', ?_, ?_⟩
    · simp only [List.set_cons_succ, RepL]
      exact ⟨v, vs'.set i v', F1, F', rfl, h1, hl, spl_uni hdis⟩
    · exact (spl_uni hdis).assoc' hs'
theorem RepRows.focus {z : Nat} : ∀ {rs : List (List TV)} {vs : List Value} {F : Foot} {i : Nat} {r : List TV}, RepRows P e rs vs F → (∀ r ∈ rs, r.length = z) → rs[i]? = some r →
    ∃ v1 v v2 F1 F2, vs = v1 ++ v ++ v2 ∧ v1.length = i * z ∧ RepL P e r v F1 ∧ Spl F F1 F2 ∧ ∀ r' v' F1', RepL P e r' v' F1' → Dis F1' F2 → ∃ F', RepRows P e (rs.set i r') (v1 ++ v' ++ v2) F' ∧ Spl F' F1' F2
  | [], vs, F, i, t, h, hz, hi => by simp at hi
  | t0 :: ts, vs, F, 0, t, h, hz, hi => by
    simp only [RepRows] at h
    obtain ⟨v, vs', F1, F2, rfl, h1, h2, hs⟩ := h
    obtain rfl : t0 = t := by simpa using hi
    refine ⟨[], v, vs', F1, F2, by simp, by simp, h1, hs, fun t' v' F1' hr hd => ⟨Uni F1' F2, ?_, spl_uni hd⟩⟩
    simp only [List.set_cons_zero, RepRows]
    exact ⟨v', vs', F1', F2, by simp, hr, h2, spl_uni hd⟩
  | t0 :: ts, vs, F, i + 1, t, h, hz, hi => by
    simp only [RepRows] at h
    obtain ⟨v, vs', F1, F2, rfl, h1, h2, hs⟩ := h
    obtain ⟨u1, u, u2, G1, G2, hu, hlen, hr, hg, hput⟩ := RepRows.focus h2 (fun r hr => hz r (by simp [hr])) (by simpa using hi)
    refine ⟨v ++ u1, u, u2, G1, Uni F1 G2, by rw [hu]; simp, by rw [List.length_append, RepL.len h1, hz t0 (by simp), hlen, Nat.succ_mul, Nat.add_comm], hr, hs.assoc' hg, fun t' v' F1' hr' hd => ?_⟩
    obtain ⟨F', hl, hs'⟩ := hput t' v' F1' hr' (hd.sub (fun _ _ h => h) fun b m h => .inr h)
    have hdis : Dis F1 F' := by
      intro b m m' ha hb
      rcases (hs'.iff b m').1 hb with hb | hb
      · exact hd b m' m hb (.inl ha)
      · exact hs.dis b m m' ha (hg.r b m' hb)
    refine ⟨Uni F1 F', ?_, ?_⟩
    · simp only [List.set_cons_succ, RepRows]
      exact ⟨v, u1 ++ v' ++ u2, F1, F', by simp, h1, hl, spl_uni hdis⟩
    · exact (spl_uni hdis).assoc' hs'
theorem RepRows.append : ∀ {rs rs' : List (List TV)} {vs vs' : List Value} {F F' : Foot}, RepRows P e rs vs F → RepRows P e rs' vs' F' → Dis F F' → RepRows P e (rs ++ rs') (vs ++ vs') (Uni F F')
  | [], rs', vs, vs', F, F', h, h', hd => by
    simp only [RepRows] at h
    obtain ⟨rfl, hE⟩ := h
    simp only [List.nil_append]
    exact RepRows.foot rs' h' fun b m => ⟨fun x => x.elim (fun y => (hE b m y).elim) id, .inr⟩
  | r :: rs, rs', vs, vs', F, F', h, h', hd => by
    simp only [RepRows] at h
    obtain ⟨v1, v2, F1, F2, rfl, h1, h2, hs⟩ := h
    have := RepRows.append h2 h' (hd.sub hs.r fun _ _ h => h)
    simp only [List.cons_append, RepRows]
    refine ⟨v1, v2 ++ vs', F1, Uni F2 F', by simp, h1, this, ⟨fun b m => ?_, ?_⟩⟩
    · unfold Uni; rw [hs.iff]; exact or_assoc
    · rintro b m m' a (c | c)
      · exact hs.dis b m m' a c
      · exact hd b m m' (hs.l b m a) c
theorem RepL.append : ∀ {rs rs' : List TV} {vs vs' : List Value} {F F' : Foot}, RepL P e rs vs F → RepL P e rs' vs' F' → Dis F F' → RepL P e (rs ++ rs') (vs ++ vs') (Uni F F')
  | [], rs', vs, vs', F, F', h, h', hd => by
    simp only [RepL] at h
    obtain ⟨rfl, hE⟩ := h
    simp only [List.nil_append]
    exact RepL.foot rs' h' fun b m => ⟨fun x => x.elim (fun y => (hE b m y).elim) id, .inr⟩
  | r :: rs, rs', vs, vs', F, F', h, h', hd => by
    simp only [RepL] at h
    obtain ⟨v1, v2, F1, F2, rfl, h1, h2, hs⟩ := h
    have := RepL.append h2 h' (hd.sub hs.r fun _ _ h => h)
    simp only [List.cons_append, RepL]
    refine ⟨v1, v2 ++ vs', F1, Uni F2 F', by simp, h1, this, ⟨fun b m => ?_, ?_⟩⟩
    · unfold Uni; rw [hs.iff]; exact or_assoc
    · rintro b m m' a (c | c)
      · exact hs.dis b m m' a c
      · exact hd b m m' (hs.l b m a) c
/-- A cut of cells. -/
theorem RepL.split : ∀ (n : Nat) {ts : List TV} {vs : List Value} {F : Foot}, RepL P e ts vs F → ∃ F1 F2, RepL P e (ts.take n) (vs.take n) F1 ∧ RepL P e (ts.drop n) (vs.drop n) F2 ∧ Spl F F1 F2
  | 0, ts, vs, F, h => ⟨noF, F, by simp [RepL, emp_noF], by simpa using h, ⟨fun b m => ⟨.inr, fun x => x.elim (fun y => y.elim) id⟩, fun b m m' a _ => a⟩⟩
  | n + 1, [], vs, F, h => by
    simp only [RepL] at h
    obtain ⟨rfl, hE⟩ := h
    exact ⟨F, F, by simp [RepL, hE], by simp [RepL, hE], .of_emp hE hE hE⟩
  | n + 1, t :: ts, vs, F, h => by
    simp only [RepL] at h
    obtain ⟨v, vs', F1, F2, rfl, h1, h2, hs⟩ := h
    obtain ⟨G1, G2, hg1, hg2, hg⟩ := RepL.split n h2
    obtain ⟨ha, hd⟩ := hs.assoc hg
    refine ⟨Uni F1 G1, G2, ?_, by simpa using hg2, ha⟩
    simp only [List.take_succ_cons, RepL]
    exact ⟨v, vs'.take n, F1, G1, rfl, h1, hg1, spl_uni hd⟩
theorem RepRows.split {z : Nat} : ∀ (n : Nat) {ts : List (List TV)} {vs : List Value} {F : Foot}, RepRows P e ts vs F → (∀ r ∈ ts, r.length = z) → ∃ F1 F2, RepRows P e (ts.take n) (vs.take (n * z)) F1 ∧ RepRows P e (ts.drop n) (vs.drop (n * z)) F2 ∧ Spl F F1 F2
  | 0, ts, vs, F, h, hz => ⟨noF, F, by simp [RepRows, emp_noF], by simpa using h, ⟨fun b m => ⟨.inr, fun x => x.elim (fun y => y.elim) id⟩, fun b m m' a _ => a⟩⟩
  | n + 1, [], vs, F, h, hz => by
    simp only [RepRows] at h
    obtain ⟨rfl, hE⟩ := h
    exact ⟨F, F, by simp [RepRows, hE], by simp [RepRows, hE], .of_emp hE hE hE⟩
  | n + 1, t :: ts, vs, F, h, hz => by
    simp only [RepRows] at h
    obtain ⟨v, vs', F1, F2, rfl, h1, h2, hs⟩ := h
    obtain ⟨G1, G2, hg1, hg2, hg⟩ := RepRows.split n h2 fun r hr => hz r (by simp [hr])
    obtain ⟨ha, hd⟩ := hs.assoc hg
    have hl : v.length = z := by rw [RepL.len h1, hz t (by simp)]
    have e1 : (n + 1) * z = v.length + n * z := by rw [hl, Nat.succ_mul, Nat.add_comm]
    refine ⟨Uni F1 G1, G2, ?_, ?_, ha⟩
    · rw [e1, List.take_length_add_append]
      simp only [List.take_succ_cons, RepRows]
      exact ⟨v, vs'.take (n * z), F1, G1, rfl, h1, hg1, spl_uni hd⟩
    · rw [e1, List.drop_length_add_append]
      simpa using hg2
end
end Go.Proofs.YtdomnlnanbekaaaGreatDoor.T

namespace Go.Proofs.YtdomnlnanbekaaaGreatDoor.T
set_option linter.unusedVariables false
open Go.RowKit

mutual
def toRo : TV → TV
  | .own E rows => .ro (roRows rows)
  | .box t cs => .rptr (roL cs) 0
  | .agg cs => .agg (roL cs)
  | .tup cs => .tup (roL cs)
  | .val (.slice none 0 0) => .ro []
  | .mp _ _ => .any
  | t => t
def roL : List TV → List TV
  | [] => []
  | t :: ts => toRo t :: roL ts
def roRows : List (List TV) → List (List TV)
  | [] => []
  | t :: ts => roL t :: roRows ts
end
theorem roL_eq : ∀ l, roL l = l.map toRo
  | [] => rfl
  | t :: ts => by simp [roL, roL_eq ts]
theorem roRows_eq : ∀ l, roRows l = l.map roL
  | [] => rfl
  | t :: ts => by simp [roRows, roRows_eq ts]
theorem length_roL (l : List TV) : (roL l).length = l.length := by simp [roL_eq]
theorem length_roRows (l : List (List TV)) : (roRows l).length = l.length := by simp [roRows_eq]

theorem ownsRow_cells {w : World} {base E size n : Nat} {v : Value} {xs : List Value} (h : w.ownsRow base E size v n xs) :
    (v = .slice none 0 0 ∧ n = 0 ∧ xs = []) ∨ ∃ g cap, v = .slice (some ⟨g, 0, none⟩) n cap ∧ n ≤ cap ∧ ∀ j u, xs[j]? = some u → w.cell? ⟨g, 0 + j, none⟩ = some u := by
  have hc := @World.ownsRow.cells _ _ _ _ _ _ _ h
  rcases h.2 with ⟨rfl, rfl⟩ | ⟨g, cap, cur, rfl, hb, hg, h1, h2, h3, h4⟩
  · exact .inl ⟨rfl, rfl, List.eq_nil_of_length_eq_zero (by simpa using h.1)⟩
  · refine .inr ⟨g, cap, rfl, h1, fun j u hu => ?_⟩
    have := hc (g := g) rfl j u hu
    have e : (⟨g, 0, none⟩ : Addr).add j = ⟨g, 0 + j, none⟩ := by unfold Addr.add; split <;> simp_all
    rwa [e] at this

section
variable {P : Program} {e e' : Env}
/-- What was owned is from now on only read. -/
structure Frz (e e' : Env) (F : Foot) : Prop where
  w : e'.w = e.w
  N : e.N ≤ e'.N
  η : ∀ i, i < e.N → e'.η i = e.η i
  Z : ∀ b, e.Z b → e'.Z b
  f : ∀ b m, F b m → e'.Z b
theorem Frz.sub {F F' : Foot} (h : Frz e e' F) (s : Sub F' F) : Frz e e' F' := ⟨h.w, h.N, h.η, h.Z, fun b m x => h.f b m (s b m x)⟩
theorem Frz.keep {F : Foot} (h : Frz e e' F) {G : Foot} : Keep e e' G := ⟨h.Z, h.N, h.η, fun b _ => by rw [h.w], fun b _ _ => by rw [h.w]⟩
theorem nil_case {t : TV} {v : Value} {F : Foot} : Rep P e (.val (.slice none 0 0)) v F → Rep P e' (.ro []) v noF := by
  intro h
  simp only [Rep] at h ⊢
  obtain ⟨_, rfl⟩ := h
  exact ⟨emp_noF, none, 0, [], 0, rfl, Nat.le_refl _, by simp, by simp [RepRows, emp_noF], by simp [Ones], .inl rfl⟩
mutual
theorem Rep.frz : ∀ (t : TV) {v : Value} {F : Foot}, Rep P e t v F → Frz e e' F → Rep P e' (toRo t) v noF
  | .any, v, F, h, k => by simp only [Rep, toRo] at h ⊢; exact emp_noF
  | .val u, v, F, h, k => by
    have h0 := Rep.keep _ h k.keep
    simp only [Rep] at h0
    unfold toRo
    split
    · rename_i h1; cases h1
    · rename_i h1; cases h1
    · rename_i h1; cases h1
    · rename_i h1; cases h1
    · rename_i h1
      injection h1 with h1
      subst h1
      exact nil_case (t := .any) h
    · rename_i h1; cases h1
    · simp only [Rep]; exact ⟨emp_noF, h0.2⟩
  | .ro rows, v, F, h, k => by
    have hE : Emp F := by simp only [Rep] at h; exact h.1
    exact Rep.foot _ (Rep.keep _ h k.keep) fun b m => ⟨fun x => x.elim, fun x => (hE b m x).elim⟩
  | .own E rows, v, F, h, k => by
    simp only [Rep] at h
    obtain ⟨vs, F', ho, hz, hr, h1, hs⟩ := h
    simp only [toRo, Rep]
    have hrr := RepRows.frz rows hr (k.sub hs.r)
    have hzz : ∀ r ∈ roRows rows, r.length = szOf P E := by
      intro r hr
      rw [roRows_eq] at hr
      obtain ⟨r0, hr0, rfl⟩ := List.mem_map.1 hr
      rw [length_roL]; exact hz r0 hr0
    rcases ownsRow_cells ho with ⟨rfl, hn, rfl⟩ | ⟨g, cap, rfl, hc, hcs⟩
    · refine ⟨emp_noF, none, 0, [], szOf P E, by rw [length_roRows, hn], by rw [length_roRows, hn]; exact Nat.le_refl _, hzz, hrr, h1, .inl rfl⟩
    · refine ⟨emp_noF, some ⟨g, 0, none⟩, cap, vs, szOf P E, by rw [length_roRows], by rw [length_roRows]; exact hc, hzz, hrr, h1, .inr ⟨g, 0, rfl, k.f g _ (hs.l g _ ⟨rfl, rfl⟩), fun j u hu => by rw [k.w]; exact hcs j u hu⟩⟩
  | .rptr row off, v, F, h, k => by
    have hE : Emp F := by simp only [Rep] at h; exact h.1
    exact Rep.foot _ (Rep.keep _ h k.keep) fun b m => ⟨fun x => x.elim, fun x => (hE b m x).elim⟩
  | .box t cs, v, F, h, k => by
    simp only [Rep] at h
    obtain ⟨b, vs, F', hv, hb, hr, h1, hs⟩ := h
    simp only [toRo, Rep]
    refine ⟨emp_noF, b, 0, vs, by simpa using hv, k.f b _ (hs.l b _ ⟨rfl, rfl⟩), RepL.frz cs hr (k.sub hs.r), h1, fun j u hu => ?_⟩
    rw [k.w, cell_of_row e.w b (0 + j) vs.toArray t (0, 0) hb]
    simpa using hu
  | .agg cs, v, F, h, k => by
    simp only [Rep] at h
    obtain ⟨vs, hv, hr, h1⟩ := h
    simp only [toRo, Rep]
    exact ⟨vs, hv, RepL.frz cs hr k, h1⟩
  | .tup cs, v, F, h, k => by
    simp only [Rep] at h
    obtain ⟨vs, hv, hr⟩ := h
    simp only [toRo, Rep]
    exact ⟨vs, hv, RepL.frz cs hr k⟩
  | .hd id, v, F, h, k => by
    have h0 := Rep.keep _ h k.keep
    simp only [toRo, Rep] at h0 ⊢; exact ⟨emp_noF, h0.2⟩
  | .pd id z r c, v, F, h, k => by
    have h0 := Rep.keep _ h k.keep
    simp only [toRo, Rep] at h0 ⊢; exact ⟨emp_noF, h0.2⟩
  | .sl id z r c, v, F, h, k => by
    have h0 := Rep.keep _ h k.keep
    simp only [toRo, Rep] at h0 ⊢; exact ⟨emp_noF, h0.2⟩
  | .clo f cs, v, F, h, k => by
    have h0 := Rep.keep _ h k.keep
    simp only [toRo, Rep] at h0 ⊢; exact ⟨emp_noF, h0.2⟩
  | .mp t kvs, v, F, h, k => by simp only [toRo, Rep]; exact emp_noF
theorem RepL.frz : ∀ (ts : List TV) {vs : List Value} {F : Foot}, RepL P e ts vs F → Frz e e' F → RepL P e' (roL ts) vs noF
  | [], vs, F, h, k => by simp only [RepL, roL] at h ⊢; exact ⟨h.1, emp_noF⟩
  | t :: ts, vs, F, h, k => by
    simp only [RepL] at h
    obtain ⟨v, vs', F1, F2, hv, h1, h2, hs⟩ := h
    simp only [roL, RepL]
    exact ⟨v, vs', noF, noF, hv, Rep.frz t h1 (k.sub hs.l), RepL.frz ts h2 (k.sub hs.r), .of_emp emp_noF emp_noF emp_noF⟩
theorem RepRows.frz : ∀ (ts : List (List TV)) {vs : List Value} {F : Foot}, RepRows P e ts vs F → Frz e e' F → RepRows P e' (roRows ts) vs noF
  | [], vs, F, h, k => by simp only [RepRows, roRows] at h ⊢; exact ⟨h.1, emp_noF⟩
  | t :: ts, vs, F, h, k => by
    simp only [RepRows] at h
    obtain ⟨v1, v2, F1, F2, hv, h1, h2, hs⟩ := h
    simp only [roRows, RepRows]
    exact ⟨v1, v2, noF, noF, hv, RepL.frz t h1 (k.sub hs.l), RepRows.frz ts h2 (k.sub hs.r), .of_emp emp_noF emp_noF emp_noF⟩
end
end

structure St where
  σ : Nat → TV
  H : Nat → Option TV
structure Ctx where
  w : World
  Z : Nat → Prop
  F : Foot
  m : Nat
  η : Nat → Value
def set (σ : Nat → TV) (i : Nat) (v : TV) : Nat → TV := fun j => if j = i then v else σ j
def upd (H : Nat → Option TV) (i : Nat) (v : TV) : Nat → Option TV := fun j => if j = i then some v else H j
def del (H : Nat → Option TV) (i : Nat) : Nat → Option TV := fun j => if j = i then none else H j

/-- What the library's variables hold that a program may read. -/
def Laid (P : Program) (Z : Nat → Prop) (w : World) : Prop :=
  (∀ g, P.globalNamed "internal/strconv.uint64pow10" = some g → Z g ∧ g < w.heap.size ∧ Lib.TabIs P w "internal/strconv.uint64pow10" .u64 Lib.pow10Tab) ∧
  (∀ g, P.globalNamed "internal/bytealg.MaxLen" = some g → Z g ∧ g < w.heap.size ∧ ∃ m, w.cell? ⟨g, 0, none⟩ = some (.int .i64 m))
theorem Laid.mono {P : Program} {Z Z' : Nat → Prop} {w w' : World} (h : Laid P Z w) (hZ : ∀ b, Z b → Z' b) (hs : w.heap.size ≤ w'.heap.size) (hb : ∀ b, b < w.heap.size → Z b → w'.heap[b]? = w.heap[b]?) : Laid P Z' w' := by
  refine ⟨fun g hg => ?_, fun g hg => ?_⟩
  · obtain ⟨h1, h2, h3⟩ := h.1 g hg
    refine ⟨hZ g h1, Nat.lt_of_lt_of_le h2 hs, ?_⟩
    unfold Lib.TabIs World.var? at h3 ⊢
    rw [hg] at h3 ⊢
    simp only [Option.bind_some] at h3 ⊢
    rw [hb g h2 h1]; exact h3
  · obtain ⟨h1, h2, m, h3⟩ := h.2 g hg
    exact ⟨hZ g h1, Nat.lt_of_lt_of_le h2 hs, m, by rw [World.cell?_of_block (a := ⟨g, 0, none⟩) (hb g h2 h1)]; exact h3⟩
structure RelX (P : Program) (C : Ctx) (s : St) (a : Act) (e : Env) (FH : Nat → Foot) : Prop where
  dfr : a.defers = []
  slots : ∀ j, j < a.tmps.size → Rep P e (s.σ j) (a.tmps.getD j undef) noF
  objs : ∀ i t, s.H i = some t → Rep P e t (e.η i) (FH i)
  kind : ∀ i t, s.H i = some t → (∃ E rows, t = .own E rows) ∨ (∃ ty cs, t = .box ty cs) ∨ (∃ ty kvs, t = .mp ty kvs)
  none_ : ∀ i, s.H i = none → Emp (FH i)
  top : ∀ i, e.N ≤ i → s.H i = none
  one : ∀ i i' b m m', FH i b m → FH i' b m' → i = i'
  notZ : ∀ i b m, FH i b m → ¬ e.Z b
  ltF : ∀ i b m, FH i b m → b < e.w.heap.size
  ltZ : ∀ b, e.Z b → b < e.w.heap.size
  os : e.w.os = C.w.os
  tape : e.w.tape = C.w.tape
  output : e.w.output = C.w.output
  size : C.w.heap.size ≤ e.w.heap.size
  Z0 : ∀ b, C.Z b → e.Z b
  Zfrom : ∀ b, e.Z b → C.Z b ∨ (∃ m, C.F b m) ∨ C.w.heap.size ≤ b
  Ffrom : ∀ i b m, FH i b m → (∃ m', C.F b m') ∨ C.w.heap.size ≤ b
  same : ∀ b, b < C.w.heap.size → (∀ m, ¬ C.F b m) → e.w.heap[b]? = C.w.heap[b]?
  mN : C.m ≤ e.N
  eta : ∀ j, j < C.m → e.η j = C.η j
  laid : Laid P C.Z C.w ∧ ∀ b m, C.F b m → ¬ C.Z b
def Rel (P : Program) (C : Ctx) (n : Nat) (s : St) (a : Act) (w : World) : Prop := a.tmps.size = n ∧ ∃ e FH, e.w = w ∧ RelX P C s a e FH

/-- The world has grown; of the owned blocks only those of `i` may be other ones. -/
structure Grow (w w' : World) (X : Nat → Prop) : Prop where
  os : w'.os = w.os
  tape : w'.tape = w.tape
  output : w'.output = w.output
  size : w.heap.size ≤ w'.heap.size
  block : ∀ b, b < w.heap.size → ¬ X b → w'.heap[b]? = w.heap[b]?

section
variable {P : Program} {C : Ctx} {s : St} {a : Act} {e : Env} {FH : Nat → Foot}
theorem RelX.keepWorld (h : RelX P C s a e FH) {w' : World} {i N' : Nat} {η' : Nat → Value} (g : Grow e.w w' (fun b => ∃ m, FH i b m)) (hN : e.N ≤ N') (hη : ∀ j, j < e.N → η' j = e.η j)
    {F : Foot} (hF : ∀ b m, F b m → (∃ k m', k ≠ i ∧ FH k b m')) : Keep e ⟨w', e.Z, N', η'⟩ F :=
  ⟨fun b x => x, hN, hη, fun b hb => g.block b (h.ltZ b hb) fun ⟨m, hm⟩ => h.notZ i b m hm hb, fun b m hb => by
    obtain ⟨k, m', hk, hm'⟩ := hF b m hb
    exact g.block b (h.ltF k b m' hm') fun ⟨m2, hm2⟩ => hk (h.one k i b m' m2 hm' hm2)⟩

/-- One object is other than before (`i' = i`), or has become another one (`i' = e.N`, a new name). -/
theorem RelX.upd (h : RelX P C s a e FH) {w' : World} {i i' N' : Nat} {η' : Nat → Value} {t' : TV} {F' : Foot} (g : Grow e.w w' (fun b => ∃ m, FH i b m)) (hN : e.N ≤ N') (hη : ∀ j, j < e.N → η' j = e.η j)
    (hi : i' = i ∨ e.N ≤ i') (hi' : i' < N') (hr : Rep P ⟨w', e.Z, N', η'⟩ t' (η' i') F') (hk : (∃ E rows, t' = .own E rows) ∨ (∃ ty cs, t' = .box ty cs) ∨ (∃ ty kvs, t' = .mp ty kvs))
    (hF : ∀ b m, F' b m → (∃ m', FH i b m') ∨ e.w.heap.size ≤ b) (hlt : ∀ b m, F' b m → b < w'.heap.size) :
    RelX P C ⟨s.σ, Go.Proofs.YtdomnlnanbekaaaGreatDoor.T.upd (del s.H i) i' t'⟩ a ⟨w', e.Z, N', η'⟩ (fun j => if j = i' then F' else if j = i then noF else FH j) := by
  have hkeep : ∀ {F : Foot}, (∀ b m, F b m → (∃ k m', k ≠ i ∧ FH k b m')) → Keep e ⟨w', e.Z, N', η'⟩ F := fun hF => h.keepWorld g hN hη hF
  have hnZ : ∀ b m, F' b m → ¬ e.Z b := by
    intro b m hb hz
    rcases hF b m hb with ⟨m', hm'⟩ | hge
    · exact h.notZ i b m' hm' hz
    · have := h.ltZ b hz; omega
  refine ⟨h.dfr, fun j hj => Rep.keep _ (h.slots j hj) (hkeep fun b m x => x.elim), ?_, ?_, ?_, ?_, ?_, ?_, ?_, ?_, g.os.trans h.os, g.tape.trans h.tape, g.output.trans h.output, Nat.le_trans h.size g.size, h.Z0, h.Zfrom, ?_, ?_, Nat.le_trans h.mN hN, fun j hj => (hη j (Nat.lt_of_lt_of_le hj h.mN)).trans (h.eta j hj), h.laid⟩
  · intro j t hj
    by_cases e1 : j = i'
    · subst e1
      have : t' = t := by simpa [Go.Proofs.YtdomnlnanbekaaaGreatDoor.T.upd] using hj
      subst this
      simpa using hr
    · by_cases e2 : j = i
      · subst e2; simp [Go.Proofs.YtdomnlnanbekaaaGreatDoor.T.upd, del, e1] at hj
      · have hj' : s.H j = some t := by simpa [Go.Proofs.YtdomnlnanbekaaaGreatDoor.T.upd, del, e1, e2] using hj
        simp only [e1, e2, if_false]
        have := Rep.keep _ (h.objs j t hj') (hkeep fun b m x => ⟨j, m, e2, x⟩)
        have hjN : j < e.N := Nat.lt_of_not_le fun hle => by rw [h.top j hle] at hj'; cases hj'
        rw [hη j hjN]
        exact this
  · intro j t hj
    by_cases e1 : j = i'
    · subst e1
      have : t' = t := by simpa [Go.Proofs.YtdomnlnanbekaaaGreatDoor.T.upd] using hj
      subst this; exact hk
    · by_cases e2 : j = i
      · subst e2; simp [Go.Proofs.YtdomnlnanbekaaaGreatDoor.T.upd, del, e1] at hj
      · exact h.kind j t (by simpa [Go.Proofs.YtdomnlnanbekaaaGreatDoor.T.upd, del, e1, e2] using hj)
  · intro j hj
    by_cases e1 : j = i'
    · subst e1; simp [Go.Proofs.YtdomnlnanbekaaaGreatDoor.T.upd] at hj
    · by_cases e2 : j = i
      · subst e2; simp [e1]; exact emp_noF
      · simp only [e1, e2, if_false]
        exact h.none_ j (by simpa [Go.Proofs.YtdomnlnanbekaaaGreatDoor.T.upd, del, e1, e2] using hj)
  · intro j hj
    have hj' : N' ≤ j := hj
    have e1 : j ≠ i' := by omega
    by_cases e2 : j = i
    · subst e2; simp [Go.Proofs.YtdomnlnanbekaaaGreatDoor.T.upd, del, e1]
    · simp [Go.Proofs.YtdomnlnanbekaaaGreatDoor.T.upd, del, e1, e2]; exact h.top j (Nat.le_trans hN hj')
  · intro j j' b m m' hj hj'
    by_cases e1 : j = i' <;> by_cases e1' : j' = i'
    · rw [e1, e1']
    · subst e1
      simp only [if_true] at hj
      by_cases e2 : j' = i
      · subst e2; simp [e1'] at hj'; exact hj'.elim
      · simp [e1', e2] at hj'
        rcases hF b m hj with ⟨m2, hm2⟩ | hge
        · exact (e2 (h.one j' i b m' m2 hj' hm2)).elim
        · have := h.ltF j' b m' hj'; omega
    · subst e1'
      simp only [if_true] at hj'
      by_cases e2 : j = i
      · subst e2; simp [e1] at hj; exact hj.elim
      · simp [e1, e2] at hj
        rcases hF b m' hj' with ⟨m2, hm2⟩ | hge
        · exact (e2 (h.one j i b m m2 hj hm2)).elim
        · have := h.ltF j b m hj; omega
    · by_cases e2 : j = i
      · subst e2; simp [e1] at hj; exact hj.elim
      · by_cases e2' : j' = i
        · subst e2'; simp [e1'] at hj'; exact hj'.elim
        · simp [e1, e2] at hj; simp [e1', e2'] at hj'; exact h.one j j' b m m' hj hj'
  · intro j b m hj
    by_cases e1 : j = i'
    · subst e1; simp at hj; exact hnZ b m hj
    · by_cases e2 : j = i
      · subst e2; simp [e1] at hj; exact hj.elim
      · simp [e1, e2] at hj; exact h.notZ j b m hj
  · intro j b m hj
    by_cases e1 : j = i'
    · subst e1; simp at hj; exact hlt b m hj
    · by_cases e2 : j = i
      · subst e2; simp [e1] at hj; exact hj.elim
      · simp [e1, e2] at hj; exact Nat.lt_of_lt_of_le (h.ltF j b m hj) g.size
  · exact fun b hb => Nat.lt_of_lt_of_le (h.ltZ b hb) g.size
  · intro j b m hj
    by_cases e1 : j = i'
    · subst e1; simp at hj
      rcases hF b m hj with ⟨m', hm'⟩ | hge
      · exact h.Ffrom i b m' hm'
      · exact .inr (Nat.le_trans h.size hge)
    · by_cases e2 : j = i
      · subst e2; simp [e1] at hj; exact hj.elim
      · simp [e1, e2] at hj; exact h.Ffrom j b m hj
  · intro b hb hnF
    refine (g.block b (Nat.lt_of_lt_of_le hb h.size) ?_).trans (h.same b hb hnF)
    rintro ⟨m, hm⟩
    rcases h.Ffrom i b m hm with ⟨m', hm'⟩ | hge
    · exact hnF m' hm'
    · omega

theorem RelX.set (h : RelX P C s a e FH) (d : Nat) {t : TV} {v : Value} (hr : Rep P e t v noF) : RelX P C ⟨Go.Proofs.YtdomnlnanbekaaaGreatDoor.T.set s.σ d t, s.H⟩ (a.put (some d) v) e FH := by
  refine { h with dfr := h.dfr, slots := fun j hj => ?_ }
  have hj' : j < a.tmps.size := by simpa [Act.put] using hj
  by_cases e1 : j = d
  · subst e1
    simp [Go.Proofs.YtdomnlnanbekaaaGreatDoor.T.set, Act.put, Array.getD_eq_getD_getElem?, hj']
    exact hr
  · have := h.slots j hj'
    simp only [Go.Proofs.YtdomnlnanbekaaaGreatDoor.T.set, e1, if_false, Act.put]
    rwa [show (a.tmps.setIfInBounds d v).getD j undef = a.tmps.getD j undef from by simp [Array.getD_eq_getD_getElem?, Ne.symm e1]]
end
end Go.Proofs.YtdomnlnanbekaaaGreatDoor.T

namespace Go.Proofs.YtdomnlnanbekaaaGreatDoor.T
set_option linter.unusedVariables false
open Go.RowKit

def cv (v : Value) : TV := match v with
  | .agg cs => if cs.toList.all Value.oneCell' then .agg (cs.toList.map .val) else .val v
  | v => .val v
def opV (n : Nat) (s : St) : Operand → TV
  | .tmp x => if x < n then s.σ x else .any
  | .const v => cv v
  | .global g => .val (.pointer (some ⟨g, 0, none⟩))
  | .func f => .val (.func (.func f) #[] #[])
def TV.plain : TV → Bool
  | .val _ | .ro _ | .rptr _ _ | .hd _ | .pd _ _ _ _ | .sl _ _ _ _ | .clo _ _ => true
  | _ => false
def cut (l : List TV) (off k : Nat) : Option (List TV) := if off + k ≤ l.length then some ((l.drop off).take k) else none
def cellsAt (P : Program) (s : St) (p : TV) (k : Nat) : Option (List TV) := match p with
  | .rptr row off => cut row off k
  | .pd id z r c => match s.H id with
    | some (.own E rows) => if szOf P E = z then match rows[r]? with
      | some row => cut row c k
      | none => none else none
    | some (.box t cs) => if r = 0 then cut cs c k else none
    | _ => none
  | _ => none

/-- What may be read: blocks that nobody owns, and of an owned one the cells that count. -/
def Vis (e : Env) (FH : Nat → Foot) (b o : Nat) : Prop := (∀ i m, ¬ FH i b m) ∨ ∃ i m, FH i b m ∧ o < m
/-- A world in which all that may be read reads as in e. -/
def Same (e : Env) (FH : Nat → Foot) (w : World) : Prop := ∀ b o u, Vis e FH b o → e.w.cell? ⟨b, o, none⟩ = some u → w.cell? ⟨b, o, none⟩ = some u
theorem Same.refl (e : Env) (FH : Nat → Foot) : Same e FH e.w := fun _ _ _ _ h => h
section
variable {P : Program} {C : Ctx} {n : Nat} {s : St} {a : Act} {e : Env} {FH : Nat → Foot} {w : World}
theorem repL_val (e : Env) : ∀ vs : List Value, RepL P e (vs.map .val) vs noF
  | [] => by simp [RepL, emp_noF]
  | v :: vs => by
    simp only [List.map_cons, RepL]
    exact ⟨v, vs, noF, noF, rfl, by simp [Rep, emp_noF], repL_val e vs, .of_emp emp_noF emp_noF emp_noF⟩
theorem cv_rep (v : Value) : Rep P e (cv v) v noF := by
  unfold cv
  split
  · rename_i cs
    split
    · rename_i h
      simp only [Rep]
      exact ⟨cs.toList, by simp, repL_val e _, fun u hu => List.all_eq_true.1 h u hu⟩
    · simp [Rep, emp_noF]
  · simp [Rep, emp_noF]
theorem opV_rep (h : RelX P C s a e FH) (hn : a.tmps.size = n) (x : Operand) : Rep P e (opV n s x) (a.eval x) noF := by
  cases x with
  | tmp x =>
    by_cases hx : x < n
    · simp only [opV, hx, if_true]; exact h.slots x (hn ▸ hx)
    · simp [opV, hx, Rep, emp_noF]
  | const v => exact cv_rep v
  | global g => simp [opV, Rep, emp_noF, Act.eval]
  | func f => simp [opV, Rep, emp_noF, Act.eval]
theorem Rep.plain {t : TV} {v : Value} {F : Foot} (h : Rep P e t v F) (hp : t.plain = true) : Emp F := by
  cases t <;> simp only [TV.plain] at hp <;> simp only [Rep] at h <;> first | exact h.1 | (cases hp)
theorem RepL.plain : ∀ {ts : List TV} {vs : List Value} {F : Foot}, RepL P e ts vs F → ts.all TV.plain = true → RepL P e ts vs noF
  | [], vs, F, h, hp => by simp only [RepL] at h ⊢; exact ⟨h.1, emp_noF⟩
  | t :: ts, vs, F, h, hp => by
    simp only [RepL] at h ⊢
    obtain ⟨v, vs', F1, F2, hv, h1, h2, hs⟩ := h
    simp only [List.all_cons, Bool.and_eq_true] at hp
    have hE := h1.plain hp.1
    exact ⟨v, vs', noF, noF, hv, Rep.foot t h1 fun b m => ⟨fun x => x.elim, fun x => (hE b m x).elim⟩, RepL.plain h2 hp.2, .of_emp emp_noF emp_noF emp_noF⟩
theorem cut_len {l ts : List TV} {off k : Nat} (h : cut l off k = some ts) : ts.length = k ∧ off + k ≤ l.length ∧ ts = (l.drop off).take k := by
  unfold cut at h
  split at h
  · injection h with h; subst h
    refine ⟨?_, by assumption, rfl⟩
    rw [List.length_take, List.length_drop]; omega
  · cases h
theorem cut_rep {l ts : List TV} {off k : Nat} {vs : List Value} {F : Foot} (h : cut l off k = some ts) (hr : RepL P e l vs F) (h1 : Ones vs) :
    ∃ F', RepL P e ts ((vs.drop off).take k) F' ∧ Ones ((vs.drop off).take k) ∧ Sub F' F := by
  obtain ⟨_, _, rfl⟩ := cut_len h
  obtain ⟨F1, F2, _, h2, hs⟩ := RepL.split off hr
  obtain ⟨F3, F4, h3, _, hs'⟩ := RepL.split k h2
  exact ⟨F3, h3, fun u hu => h1 u (List.mem_of_mem_drop (List.mem_of_mem_take hu)), fun b m x => hs.r b m (hs'.l b m x)⟩
theorem add_mk (b o j : Nat) : (⟨b, o, none⟩ : Addr).add j = ⟨b, o + j, none⟩ := by
  unfold Addr.add; split <;> simp_all
theorem own_at {E id b : Nat} {rows : List (List TV)} {F : Foot} (h : Rep P e (.own E rows) (e.η id) F) (hb : hblk (e.η id) = some b) :
    ∃ cap vs F', e.η id = .slice (some ⟨b, 0, none⟩) rows.length cap ∧ RepRows P e rows vs F' ∧ (∀ r ∈ rows, r.length = szOf P E) ∧ Ones vs ∧ (∀ j u, vs[j]? = some u → e.w.cell? ⟨b, j, none⟩ = some u) ∧ Sub F' F ∧ F b (rows.length * szOf P E) := by
  simp only [Rep] at h
  obtain ⟨vs, F', ho, hz, hr, h1, hs⟩ := h
  rcases ownsRow_cells ho with ⟨hv, hn, rfl⟩ | ⟨g, cap, hv, hc, hcs⟩
  · rw [hv] at hb; simp [hblk] at hb
  · rw [hv] at hb
    have : g = b := by simpa [hblk] using hb
    subst this
    exact ⟨cap, vs, F', hv, hr, hz, h1, fun j u hu => by simpa using hcs j u hu, hs.r, hs.l g _ ⟨by rw [hv]; rfl, rfl⟩⟩
theorem cellsAt_rep (h : RelX P C s a e FH) {p : TV} {v : Value} {k : Nat} {ts : List TV} {G : Foot} (hp : Rep P e p v G) (hc : cellsAt P s p k = some ts) :
    ∃ b o vs F, v = .pointer (some ⟨b, o, none⟩) ∧ RepL P e ts vs F ∧ Ones vs ∧ ts.length = k ∧ ∀ w, Same e FH w → ∀ j u, vs[j]? = some u → w.cell? ⟨b, o + j, none⟩ = some u := by
  cases p with
  | rptr row off =>
    simp only [cellsAt] at hc
    simp only [Rep] at hp
    obtain ⟨_, b, o, vs, rfl, hZ, hr, h1, hcs⟩ := hp
    obtain ⟨F', h2, h3, _⟩ := cut_rep hc hr h1
    refine ⟨b, o + off, _, F', rfl, h2, h3, (cut_len hc).1, fun w hw j u hu => ?_⟩
    rw [List.getElem?_take] at hu
    split at hu
    · rw [List.getElem?_drop] at hu
      rw [Nat.add_assoc]; exact hw _ _ _ (.inl fun i m hi => h.notZ i b m hi hZ) (hcs _ u hu)
    · cases hu
  | pd id z r c =>
    simp only [cellsAt] at hc
    simp only [Rep] at hp
    obtain ⟨_, hid, b, hb, rfl⟩ := hp
    split at hc
    · rename_i E rows hH
      split at hc
      · rename_i hz
        split at hc
        · rename_i row hrow
          obtain ⟨cap, vs, F', hv, hr, hzz, h1, hcs, _, hF⟩ := own_at (h.objs id _ hH) hb
          have hvl := hr.len hzz
          obtain ⟨v1, vr, v2, G1, G2, rfl, hl, hrr, _, _⟩ := RepRows.focus hr hzz hrow
          obtain ⟨F'', h2, h3, _⟩ := cut_rep hc hrr (fun u hu => h1 u (by simp [hu]))
          refine ⟨b, r * z + c, _, F'', rfl, h2, h3, (cut_len hc).1, fun w hw j u hu => ?_⟩
          rw [List.getElem?_take] at hu
          split at hu
          · rw [List.getElem?_drop] at hu
            have hlt := (List.getElem?_eq_some_iff.1 hu).1
            have := hcs (v1.length + (c + j)) u (by
              rw [List.append_assoc, List.getElem?_append_right (by omega), Nat.add_sub_cancel_left, List.getElem?_append_left hlt]; exact hu)
            rw [hl, hz] at this
            rw [← Nat.add_assoc] at this
            refine hw _ _ _ (.inr ⟨id, _, hF, ?_⟩) this
            rw [← hvl, hz] at *
            simp only [List.length_append] at *
            omega
          · cases hu
        · cases hc
      · cases hc
    · rename_i t cs hH
      split at hc
      · rename_i hr0
        subst hr0
        have hO := h.objs id _ hH
        simp only [Rep] at hO
        obtain ⟨g, vs, F', hv, hg, hr, h1, hs⟩ := hO
        have : g = b := by rw [hv] at hb; simpa [hblk] using hb
        subst this
        obtain ⟨F'', h2, h3, _⟩ := cut_rep hc hr h1
        refine ⟨g, 0 * z + c, _, F'', rfl, h2, h3, (cut_len hc).1, fun w hw j u hu => ?_⟩
        rw [List.getElem?_take] at hu
        split at hu
        · rw [List.getElem?_drop] at hu
          have hlt := (List.getElem?_eq_some_iff.1 hu).1
          refine hw _ _ _ (.inr ⟨id, vs.length, hs.l g _ ⟨rfl, rfl⟩, by omega⟩) ?_
          rw [cell_of_row e.w g _ vs.toArray t (0, 0) hg]
          simpa using hu
        · cases hu
      · cases hc
    · cases hc
  | _ => simp [cellsAt] at hc
end
end Go.Proofs.YtdomnlnanbekaaaGreatDoor.T

namespace Go.Proofs.YtdomnlnanbekaaaGreatDoor.T
set_option linter.unusedVariables false
set_option linter.unusedSimpArgs false
open Go.RowKit

def aggD : TypeDesc → Bool
  | .struct _ | .array _ _ => true
  | _ => false
def ldTV (P : Program) (s : St) (t : TypeId) (p : TV) : Option TV :=
  match P.underlying t with
  | some (.struct _) | some (.array _ _) => match cellsAt P s p (szOf P t) with
    | some ts => if ts.all TV.plain then some (.agg ts) else none
    | none => none
  | some _ => match cellsAt P s p 1 with
    | some [t] => if t.plain then some t else none
    | _ => none
  | none => none
def ixTV (P : Program) (s : St) (t : TypeId) (x i : TV) : Option TV :=
  match i with
  | .val (.int _ i) => if 0 ≤ i then match P.underlying t, x with
    | some (.slice E), .ro rows => match rows[i.toNat]? with
      | some row => if row.length = szOf P E ∧ 0 < szOf P E then some (.rptr row 0) else none
      | none => none
    | some (.slice E), .hd id => match s.H id with
      | some (.own E' rows) => if szOf P E' = szOf P E ∧ 0 < szOf P E ∧ i < rows.length then some (.pd id (szOf P E) i.toNat 0) else none
      | _ => none
    | some (.array len E), .rptr row off => if i < len ∧ 0 < szOf P E then some (.rptr row (off + i.toNat * szOf P E)) else none
    | some (.array len E), .pd id z r c => if i < len ∧ 0 < szOf P E then some (.pd id z r (c + i.toNat * szOf P E)) else none
    | _, _ => none
    else none
  | _ => none
def fdTV (P : Program) (t : TypeId) (x : TV) (f : Nat) : Option TV :=
  match P.underlying t with
  | some (.struct fs) => match fs[f]? with
    | some fd => if 0 < szOf P fd.type then match x with
      | .rptr row off => some (.rptr row (off + fd.offset))
      | .pd id z r c => some (.pd id z r (c + fd.offset))
      | _ => none
      else none
    | none => none
  | _ => none
def partTV (P : Program) (t : TypeId) (cs : List TV) (off : Nat) : Option TV :=
  match P.underlying t with
  | some (.struct _) | some (.array _ _) => match cut cs off (szOf P t) with
    | some ts => some (.agg ts)
    | none => none
  | some _ => cs[off]?
  | none => none

section
variable {P : Program} {C : Ctx} {n : Nat} {s : St} {a : Act} {e : Env} {FH : Nat → Foot} {w : World}
theorem info_of_sz {t : TypeId} (h : 0 < szOf P t) : ∃ i, P.info? t = some i ∧ i.size = szOf P t := by
  unfold szOf at h ⊢
  cases hi : P.info? t with
  | none => rw [hi] at h; simp at h
  | some i => exact ⟨i, rfl, by simp⟩
theorem info_of_und {t : TypeId} {d : TypeDesc} (h : P.underlying t = some d) : ∃ i, P.info? t = some i ∧ i.size = szOf P t := by
  unfold szOf
  cases hi : P.info? t with
  | none => unfold Program.underlying at h; rw [hi] at h; simp at h
  | some i => exact ⟨i, rfl, by simp⟩
theorem run_sizeOf {t : TypeId} {i : TypeInfo} (h : P.info? t = some i) : (sizeOf t).run P w = .ok i.size w := by simp [sizeOf, typeInfo, h]
theorem run_isAgg {t : TypeId} {d : TypeDesc} (h : P.underlying t = some d) : (isAgg t).run P w = .ok (aggD d) w := by
  unfold isAgg
  simp only [Sem.run_bind, run_underlying h, Result.andThen_ok]
  cases d <;> rfl
theorem RepL.get {ts : List TV} {vs : List Value} {F : Foot} {i : Nat} {t : TV} (h : RepL P e ts vs F) (hi : ts[i]? = some t) : ∃ v F1, vs[i]? = some v ∧ Rep P e t v F1 ∧ Sub F1 F := by
  obtain ⟨v, F1, F2, hv, hr, hs, _⟩ := h.focus hi
  exact ⟨v, F1, hv, hr, hs.l⟩
theorem Rep.toN {t : TV} {v : Value} {F : Foot} (h : Rep P e t v F) (hE : Emp F) : Rep P e t v noF := Rep.foot t h fun b m => ⟨fun x => x.elim, fun x => (hE b m x).elim⟩
theorem RepL.toN {t : List TV} {v : List Value} {F : Foot} (h : RepL P e t v F) (hE : Emp F) : RepL P e t v noF := RepL.foot t h fun b m => ⟨fun x => x.elim, fun x => (hE b m x).elim⟩

theorem ld_sound (h : RelX P C s a e FH) {t : TypeId} {p r : TV} {v : Value} (hp : Rep P e p v noF) (hr : ldTV P s t p = some r) :
    ∃ u, (∀ w, Same e FH w → (Instr.loadAt t v).run P w = .ok u w) ∧ Rep P e r u noF := by
  unfold ldTV at hr
  have agg : ∀ d, P.underlying t = some d → (aggD d) = true → (match cellsAt P s p (szOf P t) with | some ts => if ts.all TV.plain then some (.agg ts) else none | none => none) = some r →
      ∃ u, (∀ w, Same e FH w → (Instr.loadAt t v).run P w = .ok u w) ∧ Rep P e r u noF := by
    intro d hd hm hr
    split at hr
    · rename_i ts hts
      split at hr
      · rename_i hpl
        injection hr with hr; subst hr
        obtain ⟨b, o, vs, F, rfl, hl, h1, hlen, hcs⟩ := cellsAt_rep h hp hts
        obtain ⟨i, hi, hsz⟩ := info_of_und hd
        refine ⟨.agg vs.toArray, ?_, ?_⟩
        · intro w hw
          have hload := run_loadCells_list (P := P) (w := w) ⟨b, o, none⟩ vs (fun j u hu => by rw [add_mk]; exact hcs w hw j u hu)
          have hvl : vs.length = i.size := by rw [hl.len, hlen, hsz]
          rw [hvl] at hload
          simp only [Instr.loadAt, Instr.sureAddr, loadVar, Sem.run_bind, Sem.run_pure, Result.andThen_ok, run_isAgg hd, hm, if_true, run_sizeOf hi]
          rw [hload]; rfl
        · simp only [Rep]; exact ⟨vs, rfl, hl.plain hpl, h1⟩
      · cases hr
    · cases hr
  split at hr
  · rename_i fs hd; exact agg _ hd rfl hr
  · rename_i l el hd; exact agg _ hd rfl hr
  · rename_i d hn1 hn2 hd
    split at hr
    · rename_i t1 hts
      split at hr
      · rename_i hpl
        injection hr with hr; subst hr
        obtain ⟨b, o, vs, F, rfl, hl, h1, hlen, hcs⟩ := cellsAt_rep h hp hts
        obtain ⟨u, F1, hu, hru, _⟩ := hl.get (i := 0) (t := t1) rfl
        have hm : (aggD d) = false := by
          cases d with
          | struct fs => exact (hn1 fs rfl).elim
          | array l el => exact (hn2 l el rfl).elim
          | _ => rfl
        refine ⟨u, fun w hw => ?_, hru.toN (hru.plain hpl)⟩
        have hc := hcs w hw 0 u hu
        simp only [Instr.loadAt, Instr.sureAddr, loadVar, Sem.run_bind, Sem.run_pure, Result.andThen_ok, run_isAgg hd, hm, Bool.false_eq_true, if_false, run_load]
        simp only [Nat.add_zero] at hc
        simp [hc]
      · cases hr
    · cases hr
  · cases hr

theorem ix_sound (h : RelX P C s a e FH) {t : TypeId} {x i r : TV} {v vi : Value} (hx : Rep P e x v noF) (hi : Rep P e i vi noF) (hr : ixTV P s t x i = some r) :
    (∃ u, (∀ w, (Instr.indexAt t v vi).run P w = .ok u w) ∧ Rep P e r u noF) := by
  unfold ixTV at hr
  split at hr
  · rename_i k i
    have hvi : vi = .int k i := by simp only [Rep] at hi; exact hi.2
    subst hvi
    split at hr
    · rename_i h0
      split at hr
      · rename_i E rows hd
        split at hr
        · rename_i row hrow
          split at hr
          · rename_i hz
            injection hr with hr; subst hr
            obtain ⟨ti, hti, hsz⟩ := info_of_sz hz.2
            simp only [Rep] at hx
            obtain ⟨_, A, c, vs, z, rfl, hc, hzz, hrr, h1, hcell⟩ := hx
            have hlt := (List.getElem?_eq_some_iff.1 hrow).1
            have hzr : row.length = z := hzz row (List.mem_of_getElem? hrow)
            have hne : vs ≠ [] := by
              intro hE; subst hE
              have := RepRows.len hrr hzz
              rw [← hzr, hz.1] at this
              have hp := Nat.mul_pos (show 0 < rows.length by omega) hz.2
              simp only [List.length_nil] at this; omega
            rcases hcell with hE | ⟨b, o, rfl, hZ, hcs⟩
            · exact (hne hE).elim
            · refine ⟨.pointer (some ⟨b, o + i.toNat * ti.size, none⟩), ?_, ?_⟩
              · intro w
                have : i < (rows.length : Int) := by omega
                simp [Instr.indexAt, asIntOf, run_underlying hd, h0, this, run_sizeOf hti, add_mk]
              · obtain ⟨v1, vr, v2, G1, G2, rfl, hl, hr1, hs1, _⟩ := RepRows.focus hrr hzz hrow
                simp only [Rep]
                refine ⟨emp_noF, b, o + i.toNat * ti.size, vr, by simp, hZ, hr1.toN ?_, fun u hu => h1 u (by simp [hu]), fun j u hu => ?_⟩
                · exact emp_noF.sub hs1.l
                · have hlt := (List.getElem?_eq_some_iff.1 hu).1
                  have := hcs (v1.length + j) u (by
                    rw [List.append_assoc, List.getElem?_append_right (by omega), Nat.add_sub_cancel_left, List.getElem?_append_left hlt]; exact hu)
                  rw [hl, ← hzr, hz.1, ← hsz, ← Nat.add_assoc] at this
                  exact this
          · cases hr
        · cases hr
      · rename_i E id hd
        split at hr
        · rename_i E' rows hH
          split at hr
          · rename_i hz
            injection hr with hr; subst hr
            obtain ⟨ti, hti, hsz⟩ := info_of_sz hz.2.1
            simp only [Rep] at hx
            obtain ⟨_, hid, rfl, _⟩ := hx
            have hO := h.objs id _ hH
            have hO' := hO
            simp only [Rep] at hO
            obtain ⟨vs, F', ho, hz', hrr, h1, hs⟩ := hO
            rcases ownsRow_cells ho with ⟨hv, hn, rfl⟩ | ⟨g, cap, hv, hc, hcs⟩
            · have := hz.2.2; simp [hn] at this; omega
            · refine ⟨.pointer (some ⟨g, i.toNat * ti.size, none⟩), ?_, ?_⟩
              · intro w
                rw [hv]
                have := hz.2.2
                simp [Instr.indexAt, asIntOf, run_underlying hd, h0, this, run_sizeOf hti, add_mk]
              · simp only [Rep]
                exact ⟨emp_noF, hid, g, by rw [hv]; rfl, by rw [hsz]; simp⟩
          · cases hr
        · cases hr
      · rename_i len E row off hd
        split at hr
        · rename_i hz
          injection hr with hr; subst hr
          obtain ⟨ti, hti, hsz⟩ := info_of_sz hz.2
          simp only [Rep] at hx
          obtain ⟨_, b, o, vs, rfl, hZ, hr1, h1, hcs⟩ := hx
          refine ⟨.pointer (some ⟨b, o + off + i.toNat * ti.size, none⟩), ?_, ?_⟩
          · intro w; simp [Instr.indexAt, asIntOf, run_underlying hd, Instr.sureAddr, h0, hz.1, run_sizeOf hti, add_mk]
          · simp only [Rep]
            exact ⟨emp_noF, b, o, vs, by rw [hsz, Nat.add_assoc], hZ, hr1, h1, hcs⟩
        · cases hr
      · rename_i len E id z r' c hd
        split at hr
        · rename_i hz
          injection hr with hr; subst hr
          obtain ⟨ti, hti, hsz⟩ := info_of_sz hz.2
          simp only [Rep] at hx
          obtain ⟨_, hid, b, hb, rfl⟩ := hx
          refine ⟨.pointer (some ⟨b, r' * z + c + i.toNat * ti.size, none⟩), ?_, ?_⟩
          · intro w; simp [Instr.indexAt, asIntOf, run_underlying hd, Instr.sureAddr, h0, hz.1, run_sizeOf hti, add_mk]
          · simp only [Rep]
            exact ⟨emp_noF, hid, b, hb, by rw [hsz, Nat.add_assoc]⟩
        · cases hr
      · cases hr
    · cases hr
  · cases hr

theorem fd_sound {t : TypeId} {f : Nat} {x r : TV} {v : Value} (hx : Rep P e x v noF) (hr : fdTV P t x f = some r) :
    ∃ u, (∀ w, (Instr.fieldAt t v f).run P w = .ok u w) ∧ Rep P e r u noF := by
  unfold fdTV at hr
  split at hr
  · rename_i fs hd
    split at hr
    · rename_i fd hf
      split at hr
      · rename_i hz
        obtain ⟨ti, hti, hsz⟩ := info_of_sz hz
        have hnz : ti.size ≠ 0 := by omega
        split at hr
        · injection hr with hr; subst hr
          rename_i row off
          simp only [Rep] at hx
          obtain ⟨_, b, o, vs, rfl, hZ, hr1, h1, hcs⟩ := hx
          refine ⟨.pointer (some ⟨b, o + off + fd.offset, none⟩), ?_, ?_⟩
          · intro w; simp [Instr.fieldAt, run_underlying hd, hf, Instr.sureAddr, fieldPlace, run_sizeOf hti, hnz, add_mk]
          · simp only [Rep]
            exact ⟨emp_noF, b, o, vs, by rw [Nat.add_assoc], hZ, hr1, h1, hcs⟩
        · injection hr with hr; subst hr
          rename_i id z r' c
          simp only [Rep] at hx
          obtain ⟨_, hid, b, hb, rfl⟩ := hx
          refine ⟨.pointer (some ⟨b, r' * z + c + fd.offset, none⟩), ?_, ?_⟩
          · intro w; simp [Instr.fieldAt, run_underlying hd, hf, Instr.sureAddr, fieldPlace, run_sizeOf hti, hnz, add_mk]
          · simp only [Rep]
            exact ⟨emp_noF, hid, b, hb, by rw [Nat.add_assoc]⟩
        · cases hr
      · cases hr
    · cases hr
  · cases hr
theorem part_sound {t : TypeId} {cs : List TV} {vs : List Value} {off : Nat} {r : TV} {F : Foot} (hx : RepL P e cs vs F) (h1 : Ones vs) (hE : Emp F) (hr : partTV P t cs off = some r) :
    ∃ u, (∀ w, (part t vs.toArray off).run P w = .ok u w) ∧ Rep P e r u noF := by
  unfold partTV at hr
  have agg : ∀ d, P.underlying t = some d → (aggD d) = true → (match cut cs off (szOf P t) with | some ts => some (.agg ts) | none => none) = some r →
      ∃ u, (∀ w, (part t vs.toArray off).run P w = .ok u w) ∧ Rep P e r u noF := by
    intro d hd hm hr
    split at hr
    · rename_i ts hts
      injection hr with hr; subst hr
      obtain ⟨i, hi, hsz⟩ := info_of_und hd
      obtain ⟨F', h2, h3, hs⟩ := cut_rep hts hx h1
      refine ⟨.agg ((vs.drop off).take i.size).toArray, ?_, ?_⟩
      · intro w
        simp only [part, Sem.run_bind, run_isAgg hd, hm, Result.andThen_ok, if_true, run_sizeOf hi, Sem.run_pure]
        congr 2
        apply Array.ext'
        simp [Array.toList_extract, List.extract]
      · simp only [Rep]; rw [hsz]; exact ⟨_, rfl, h2.toN (hE.sub hs), h3⟩
    · cases hr
  split at hr
  · rename_i fs hd; exact agg _ hd rfl hr
  · rename_i l el hd; exact agg _ hd rfl hr
  · rename_i d hn1 hn2 hd
    obtain ⟨u, F1, hu, hru, hs⟩ := hx.get hr
    have hm : (aggD d) = false := by
      cases d with
      | struct fs => exact (hn1 fs rfl).elim
      | array l el => exact (hn2 l el rfl).elim
      | _ => rfl
    refine ⟨u, fun w => ?_, hru.toN (hE.sub hs)⟩
    simp [part, run_isAgg hd, hm, hu]
  · cases hr
end
end Go.Proofs.YtdomnlnanbekaaaGreatDoor.T

namespace Go.Proofs.YtdomnlnanbekaaaGreatDoor.T
set_option linter.unusedVariables false
set_option linter.unusedSimpArgs false
open Go.RowKit

/-- Operators on two values of one cell, as far as they are needed. -/
def isBoolT (P : Program) (t : TypeId) : Bool := match P.underlying t with
  | some .bool => true
  | _ => false
def binV (P : Program) (t : TypeId) (op : BinOp) (x y : Value) : Option Value :=
  match x, y with
  | .int k a, .int k' b => if k = k' then match op with
    | .add => some (.int k (k.wrap (a + b)))
    | .sub => some (.int k (k.wrap (a - b)))
    | .mul => some (.int k (k.wrap (a * b)))
    | .quo => if b = 0 then none else some (.int k (k.wrap (a.tdiv b)))
    | .rem => if b = 0 then none else some (.int k (a.tmod b))
    | .xor => some (.int k (k.wrap (BitVec.ofInt k.bits a ^^^ BitVec.ofInt k.bits b).toNat))
    | .eql => some (.bool (a == b))
    | .neq => some (.bool (a != b))
    | .lss => some (.bool (a < b))
    | .leq => some (.bool (a ≤ b))
    | .gtr => some (.bool (a > b))
    | .geq => some (.bool (a ≥ b))
    | _ => none
    else none
  | .string a, .string b => match op with
    | .add => if ((a.size + b.size : Nat) : Int) > 9223372036854775807 then none else some (.string (a ++ b))
    | .eql => some (.bool (a.toList == b.toList))
    | .neq => some (.bool !(a.toList == b.toList))
    | .lss => some (.bool (Op.bytesLess a.toList b.toList))
    | _ => none
  | .bool a, .bool b => if isBoolT P t then match op with
    | .eql => some (.bool (a == b))
    | .neq => some (.bool !(a == b))
    | _ => none
    else none
  | _, _ => none
def unV (op : UnOp) (x : Value) : Option Value :=
  match op, x with
  | .not, .bool b => some (.bool !b)
  | .neg, .int k n => some (.int k (k.wrap (0 - n)))
  | _, _ => none
/-- Two structs of numbers, texts and bools: equal in all fields? -/
def eqFs (P : Program) (xs ys : List TV) : List Field → Option Bool
  | [] => some true
  | f :: fs => if f.name = "_" then none else match P.underlying f.type, xs[f.offset]?, ys[f.offset]?, eqFs P xs ys fs with
    | some (.int _), some (.val (.int k a)), some (.val (.int k' b)), some r => if k = k' then some ((a == b) && r) else none
    | some .string, some (.val (.string a)), some (.val (.string b)), some r => some ((a.toList == b.toList) && r)
    | some .bool, some (.val (.bool a)), some (.val (.bool b)), some r => some ((a == b) && r)
    | _, _, _, _ => none
def aggEq (P : Program) (t : TypeId) (xs ys : List TV) : Option Bool :=
  match P.underlying t with
  | some (.struct fs) => if P.stoodInHeld t = false ∧ P.eqGuardType P.depth t = false then eqFs P xs ys fs.toList else none
  | _ => none
def binTV (P : Program) (op : BinOp) (t : TypeId) (x y : TV) : Option TV :=
  match x, y with
  | .val x, .val y => (binV P t op x y).map .val
  | .agg xs, .agg ys => match op with
    | .eql => (aggEq P t xs ys).map fun b => .val (.bool b)
    | .neq => (aggEq P t xs ys).map fun b => .val (.bool !b)
    | _ => none
  | _, _ => none
def lenTV (P : Program) (s : St) (t : TypeId) (x : TV) : Option TV :=
  match P.underlying t, x with
  | some .string, .val (.string b) => some (.val (.int .i64 b.size))
  | some (.slice _), .ro rows => some (.val (.int .i64 rows.length))
  | some (.slice _), .val (.slice _ n _) => some (.val (.int .i64 n))
  | some (.slice _), .hd id => match s.H id with
    | some (.own _ rows) => some (.val (.int .i64 rows.length))
    | _ => none
  | some (.array n _), _ => some (.val (.int .i64 n))
  | _, _ => none
def indexTV (P : Program) (t : TypeId) (x i : TV) : Option TV :=
  match i with
  | .val (.int _ i) => match P.underlying t, x with
    | some .string, .val (.string b) => if 0 ≤ i then match b[i.toNat]? with
      | some c => some (.val (.int .u8 c.toNat))
      | none => none else none
    | some (.array len E), .agg cs => if 0 ≤ i ∧ i < len ∧ 0 < szOf P E then partTV P E cs (i.toNat * szOf P E) else none
    | _, _ => none
  | _ => none
def bytesRow : List (List TV) → Option (List Int)
  | [] => some []
  | [.val (.int .u8 n)] :: rs => (bytesRow rs).map (n :: ·)
  | _ => none
def strOf (ns : List Int) : ByteArray := ns.foldl (fun r n => r.push (UInt8.ofNat n.toNat)) ByteArray.empty
def convTV (P : Program) (s : St) (src dst : TypeId) (x : TV) : Option TV :=
  match P.underlying src, P.underlying dst, x with
  | some _, some (.int k), .val (.int _ n) => some (.val (.int k (k.wrap n)))
  | some .string, some .string, .val (.string b) => some (.val (.string b))
  | some (.slice E), some .string, .ro rows => match P.underlying E, bytesRow rows with
    | some (.int .u8), some ns => some (.val (.string (strOf ns)))
    | _, _ => none
  | some (.slice E), some .string, .hd id => match P.underlying E, s.H id with
    | some (.int .u8), some (.own _ rows) => match bytesRow rows with
      | some ns => some (.val (.string (strOf ns)))
      | none => none
    | _, _ => none
  | _, _, _ => none
def optI : Option TV → Option (Option Int)
  | none => some none
  | some (.val (.int _ i)) => some (some i)
  | _ => none
def sliceTV (P : Program) (s : St) (t : TypeId) (x : TV) (lo hi : Option TV) : Option TV :=
  match optI lo, optI hi with
  | some lo, some hi => match P.underlying t, x with
    | some .string, .val (.string b) =>
      let l := lo.getD 0; let h := hi.getD b.size
      if 0 ≤ l ∧ l ≤ h ∧ h ≤ b.size then some (.val (.string (b.extract l.toNat h.toNat))) else none
    | some (.slice E), .ro rows =>
      let l := lo.getD 0; let h := hi.getD rows.length
      if 0 ≤ l ∧ l ≤ h ∧ h ≤ rows.length ∧ (∀ r ∈ rows, r.length = szOf P E) ∧ 0 < szOf P E then some (.ro ((rows.take h.toNat).drop l.toNat)) else none
    | some (.slice E), .hd id => match s.H id with
      | some (.own E' rows) =>
        let l := lo.getD 0; let h := hi.getD rows.length
        if szOf P E' = szOf P E ∧ 0 < szOf P E ∧ 0 ≤ l ∧ l ≤ h ∧ h ≤ rows.length then some (.sl id (szOf P E) l.toNat (h.toNat - l.toNat)) else none
      | _ => none
    | _, _ => none
  | _, _ => none

section
variable {P : Program} {C : Ctx} {n : Nat} {s : St} {a : Act} {e : Env} {FH : Nat → Foot} {w : World}
theorem bin_sound {op : BinOp} {t : TypeId} {x y r : Value} (h : binV P t op x y = some r) : (binOp op t x y).run P w = .ok r w := by
  unfold binV at h
  split at h
  · rename_i k a k' b
    split at h
    · rename_i hk
      subst hk
      cases op <;> simp only at h <;> first
        | (cases h; simp [binOp, Op.intArith, Op.intCmp, Op.intBits]; done)
        | (split at h
           · cases h
           · rename_i hb
             cases h; simp [binOp, Op.intDiv, hb])
        | cases h
    · cases h
  · rename_i a b
    cases op with
    | add =>
      simp only at h
      by_cases hb : ((a.size + b.size : Nat) : Int) > 9223372036854775807
      · rw [if_pos hb] at h; cases h
      · rw [if_neg hb] at h; cases h
        simp only [binOp, Op.stringOp]
        rw [if_neg (show ¬ ((a.size + b.size : Nat) : Int) > IntKind.i64.max from hb)]; rfl
    | _ => simp only at h; first | (cases h; simp [binOp, Op.stringOp]; done) | cases h
  · rename_i a b
    split at h
    · rename_i hb
      have hu : P.underlying t = some .bool := by
        unfold isBoolT at hb
        split at hb
        · assumption
        · cases hb
      have he : (Op.equal t (.bool a) (.bool b)).run P w = .ok (a == b) w := run_equalIn_bool' w 9999 t a b hu
      cases op with
      | eql => cases h; simp only [binOp, Sem.run_bind, he, Result.andThen_ok, Sem.run_pure]
      | neq => cases h; simp only [binOp, Sem.run_bind, he, Result.andThen_ok, Sem.run_pure]
      | _ => cases h
    · cases h
  · cases h
end
end Go.Proofs.YtdomnlnanbekaaaGreatDoor.T

namespace Go.Proofs.YtdomnlnanbekaaaGreatDoor.T
set_option linter.unusedVariables false
set_option linter.unusedSimpArgs false
open Go.RowKit

section
variable {P : Program} {C : Ctx} {n : Nat} {s : St} {a : Act} {e : Env} {FH : Nat → Foot} {w : World}
theorem RepL.val_at {cs : List TV} {vs : List Value} {F : Foot} {i : Nat} {u : Value} (h : RepL P e cs vs F) (hi : cs[i]? = some (.val u)) : vs[i]? = some u := by
  obtain ⟨v, F1, hv, hr, _⟩ := h.get hi
  simp only [Rep] at hr
  rw [hv, hr.2]
theorem part_val {d : TypeDesc} {t : TypeId} {vs : List Value} {off : Nat} {u : Value} (hd : P.underlying t = some d) (hm : aggD d = false) (hu : vs[off]? = some u) : (part t vs.toArray off).run P w = .ok u w := by
  simp [part, run_isAgg hd, hm, hu]
theorem eqFs_sound {xs ys : List TV} {vx vy : List Value} {F G : Foot} (hx : RepL P e xs vx F) (hy : RepL P e ys vy G) : ∀ (fs : List Field) (r : Bool) (d : Nat), eqFs P xs ys fs = some r → (Op.eqFields (d + 1) vx.toArray vy.toArray fs).run P w = .ok r w
  | [], r, d, h => by simp only [eqFs] at h; cases h; rfl
  | f :: fs, r, d, h => by
    unfold eqFs at h
    split at h
    · cases h
    · rename_i hne
      have step : ∀ (t0 : TypeDesc) (u v : Value) (b r1 : Bool), P.underlying f.type = some t0 → aggD t0 = false → vx[f.offset]? = some u → vy[f.offset]? = some v → (Op.equalIn (d + 1) f.type u v).run P w = .ok b w → eqFs P xs ys fs = some r1 →
          (Op.eqFields (d + 1) vx.toArray vy.toArray (f :: fs)).run P w = .ok (b && r1) w := by
        intro t0 u v b r1 ht hm hu hv he hr
        have ih := eqFs_sound hx hy fs r1 d hr
        simp only [Op.eqFields, ne_eq, hne, not_false_eq_true, if_true, Sem.run_bind, part_val ht hm hu, part_val ht hm hv, Result.andThen_ok, he, Sem.run_ite]
        cases b
        · simp
        · simpa using ih
      split at h
      · rename_i k k0 a1 k' b1 r1 ht hxa hya hr1
        split at h
        · rename_i hk
          subst hk
          cases h
          exact step _ _ _ _ _ ht rfl (hx.val_at hxa) (hy.val_at hya) (run_equalIn_int w d _ _ _ _ _ ht) hr1
        · cases h
      · rename_i a1 b1 r1 ht hxa hya hr1
        cases h
        exact step _ _ _ _ _ ht rfl (hx.val_at hxa) (hy.val_at hya) (run_equalIn_string w d _ _ _ ht) hr1
      · rename_i a1 b1 r1 ht hxa hya hr1
        cases h
        exact step _ _ _ _ _ ht rfl (hx.val_at hxa) (hy.val_at hya) (run_equalIn_bool' w d _ _ _ ht) hr1
      · cases h
theorem aggEq_sound {t : TypeId} {xs ys : List TV} {vx vy : List Value} {F G : Foot} {r : Bool} (hx : RepL P e xs vx F) (hy : RepL P e ys vy G) (h : aggEq P t xs ys = some r) :
    (Op.equal t (.agg vx.toArray) (.agg vy.toArray)).run P w = .ok r w ∧ P.eqGuardType P.depth t = false := by
  unfold aggEq at h
  split at h
  · rename_i fs hd
    split at h
    · rename_i hp
      refine ⟨?_, hp.2⟩
      have hf : P.fieldsOf t = fs := by simp [Program.fieldsOf, hd]
      have := run_equalIn_struct (P := P) w 9999 t vx.toArray vy.toArray (by rw [hf]; exact hd) hp.1
      rw [hf, eqFs_sound hx hy fs.toList r 9998 h] at this
      exact this
    · cases h
  · cases h
theorem binTV_sound {op : BinOp} {t : TypeId} {x y r : TV} {vx vy : Value} {ox oy : Operand} {k : TypeId} (hx : Rep P e x vx noF) (hy : Rep P e y vy noF) (h : binTV P op t x y = some r) :
    ∃ u, (∀ w, (do eqGuard op t ox oy vx vy; binOp op t vx vy : Sem Value).run P w = .ok u w) ∧ Rep P e r u noF := by
  unfold binTV at h
  split at h
  · rename_i x y
    simp only [Rep] at hx hy
    obtain ⟨_, rfl⟩ := hx
    obtain ⟨_, rfl⟩ := hy
    obtain ⟨r0, hr0, rfl⟩ := Option.map_eq_some_iff.1 h
    refine ⟨r0, fun w => ?_, by simp [Rep, emp_noF]⟩
    have hg : (eqGuard op t ox oy vx vy).run P w = .ok () w := by
      unfold binV at hr0
      split at hr0 <;> first | (cases op <;> rfl) | cases hr0
    simp only [Sem.run_bind, hg, Result.andThen_ok, bin_sound hr0]
  · rename_i xs ys
    simp only [Rep] at hx hy
    obtain ⟨vx, rfl, hx, _⟩ := hx
    obtain ⟨vy, rfl, hy, _⟩ := hy
    split at h
    · obtain ⟨b, hb, rfl⟩ := Option.map_eq_some_iff.1 h
      refine ⟨.bool b, fun w => ?_, by simp [Rep, emp_noF]⟩
      obtain ⟨h1, h2⟩ := aggEq_sound (w := w) hx hy hb
      simp [eqGuard, h2, binOp, h1]
    · obtain ⟨b, hb, rfl⟩ := Option.map_eq_some_iff.1 h
      refine ⟨.bool !b, fun w => ?_, by simp [Rep, emp_noF]⟩
      obtain ⟨h1, h2⟩ := aggEq_sound (w := w) hx hy hb
      simp [eqGuard, h2, binOp, h1]
    · cases h
  · cases h
theorem lenTV_sound (h : RelX P C s a e FH) {t ty : TypeId} {x r : TV} {v : Value} (hx : Rep P e x v noF) (hr : lenTV P s t x = some r) :
    ∃ u, (∀ w, (Builtin.len_ #[t] ty #[v]).run P w = .ok u w) ∧ Rep P e r u noF := by
  unfold lenTV at hr
  split at hr
  · rename_i b hd
    cases hr
    simp only [Rep] at hx
    obtain ⟨_, rfl⟩ := hx
    exact ⟨.int .i64 b.size, fun w => by simp [Builtin.len_, run_underlying hd, goInt], by simp [Rep, emp_noF]⟩
  · rename_i rows hd
    cases hr
    simp only [Rep] at hx
    obtain ⟨_, A, c, vs, z, rfl, _⟩ := hx
    exact ⟨_, fun w => by simp [Builtin.len_, run_underlying hd, goInt]; rfl, by simp [Rep, emp_noF]⟩
  · rename_i n1 hd
    cases hr
    simp only [Rep] at hx
    obtain ⟨_, rfl⟩ := hx
    exact ⟨_, fun w => by simp [Builtin.len_, run_underlying hd, goInt]; rfl, by simp [Rep, emp_noF]⟩
  · rename_i id hd
    split at hr
    · rename_i E rows hH
      cases hr
      simp only [Rep] at hx
      obtain ⟨_, hid, rfl, _⟩ := hx
      have hO := h.objs id _ hH
      simp only [Rep] at hO
      obtain ⟨vs, F', ho, hz', hrr, h1, hs⟩ := hO
      rcases ownsRow_cells ho with ⟨hv, hn, rfl⟩ | ⟨g, cap, hv, hc, hcs⟩
      · exact ⟨_, fun w => by rw [hv]; simp [Builtin.len_, run_underlying hd, goInt]; rfl, by simp [Rep, emp_noF, hn]⟩
      · exact ⟨_, fun w => by rw [hv]; simp [Builtin.len_, run_underlying hd, goInt]; rfl, by simp [Rep, emp_noF]⟩
    · cases hr
  · rename_i n1 E hd
    cases hr
    exact ⟨_, fun w => by simp [Builtin.len_, run_underlying hd, goInt]; rfl, by simp [Rep, emp_noF]⟩
  · cases hr
theorem indexTV_sound {t : TypeId} {x i r : TV} {v vi : Value} (hx : Rep P e x v noF) (hi : Rep P e i vi noF) (hr : indexTV P t x i = some r) :
    ∃ u, (∀ w, (Instr.index t v vi).run P w = .ok u w) ∧ Rep P e r u noF := by
  unfold indexTV at hr
  split at hr
  · rename_i k i
    have hvi : vi = .int k i := by simp only [Rep] at hi; exact hi.2
    subst hvi
    split at hr
    · rename_i b hd
      split at hr
      · rename_i h0
        split at hr
        · rename_i c hc
          cases hr
          simp only [Rep] at hx
          obtain ⟨_, rfl⟩ := hx
          exact ⟨_, fun w => by simp [Instr.index, asIntOf, run_underlying hd, h0, hc]; rfl, by simp [Rep, emp_noF]⟩
        · cases hr
      · cases hr
    · rename_i len E cs hd
      split at hr
      · rename_i hz
        obtain ⟨ti, hti, hsz⟩ := info_of_sz hz.2.2
        simp only [Rep] at hx
        obtain ⟨vs, rfl, hl, h1⟩ := hx
        rw [← hsz] at hr
        obtain ⟨u, hu, hru⟩ := part_sound hl h1 emp_noF hr
        exact ⟨u, fun w => by simp [Instr.index, asIntOf, run_underlying hd, hz.1, hz.2.1, run_sizeOf hti, hu], hru⟩
      · cases hr
    · cases hr
  · cases hr
theorem bytesRow_sound : ∀ {rows : List (List TV)} {ns : List Int} {vs : List Value} {F : Foot}, bytesRow rows = some ns → RepRows P e rows vs F → vs = ns.map (Value.int .u8)
  | [], ns, vs, F, h, hr => by simp only [bytesRow] at h; cases h; simp only [RepRows] at hr; exact hr.1
  | r :: rs, ns, vs, F, h, hr => by
    unfold bytesRow at h
    split at h
    · rename_i heq; cases heq
    · rename_i n rs' heq
      injection heq with h1 h2
      subst h1 h2
      obtain ⟨ns', hns, rfl⟩ := Option.map_eq_some_iff.1 h
      simp only [RepRows, RepL, Rep] at hr
      obtain ⟨v1, v2, F1, F2, rfl, ⟨v, vs', G1, G2, rfl, ⟨_, rfl⟩, ⟨rfl, _⟩, _⟩, hr2, _⟩ := hr
      rw [bytesRow_sound hns hr2]
      rfl
    · cases h
theorem bytesRow_one : ∀ {rows : List (List TV)} {ns : List Int}, bytesRow rows = some ns → (∀ r ∈ rows, r.length = 1) ∧ ns.length = rows.length
  | [], ns, h => by simp only [bytesRow] at h; cases h; simp
  | r :: rs, ns, h => by
    unfold bytesRow at h
    split at h
    · rename_i heq; cases heq
    · rename_i n rs' heq
      injection heq with h1 h2
      subst h1 h2
      obtain ⟨ns', hns, rfl⟩ := Option.map_eq_some_iff.1 h
      have := bytesRow_one hns
      exact ⟨fun r hr => by rcases List.mem_cons.1 hr with rfl | hr; rfl; exact this.1 r hr, by simp [this.2]⟩
    · cases h
theorem conv_bytes {src dst E : TypeId} {A : Option Addr} {c : Nat} {ns : List Int} {vs : List Value} (hs : P.underlying src = some (.slice E)) (he : P.underlying E = some (.int .u8)) (hd : P.underlying dst = some .string)
    (hv : vs = ns.map (Value.int .u8)) (hc : vs = [] ∨ ∃ b o, A = some ⟨b, o, none⟩ ∧ ∀ j u, vs[j]? = some u → w.cell? ⟨b, o + j, none⟩ = some u) :
    (convert src dst (.slice A ns.length c)).run P w = .ok (.string (strOf ns)) w := by
  rw [run_convert_bytes_string w src dst E A ns.length c hs he hd]
  cases A with
  | none =>
    rcases hc with hE | ⟨b, o, h, _⟩
    · have : ns = [] := by rw [hE] at hv; simpa using hv.symm
      subst this
      rfl
    · cases h
  | some ad =>
    have hl : (loadCells ad ns.length).run P w = .ok (ns.map (Value.int .u8)).toArray w := by
      have hcell : ∀ j u, vs[j]? = some u → w.cell? (ad.add j) = some u := by
        intro j u hu
        rcases hc with hE | ⟨b, o, h, hcs⟩
        · rw [hE] at hu; simp at hu
        · cases h; rw [add_mk]; exact hcs j u hu
      have := run_loadCells_list (P := P) (w := w) ad vs hcell
      rw [hv] at this
      simpa using this
    exact run_bytesToString w ad ns.length c ns hl
theorem convTV_sound (h : RelX P C s a e FH) {src dst : TypeId} {x r : TV} {v : Value} (hx : Rep P e x v noF) (hr : convTV P s src dst x = some r) :
    ∃ u, (∀ w, Same e FH w → (convert src dst v).run P w = .ok u w) ∧ Rep P e r u noF := by
  unfold convTV at hr
  split at hr
  · rename_i d k k' m hs hd
    cases hr
    simp only [Rep] at hx
    obtain ⟨_, rfl⟩ := hx
    exact ⟨_, fun w _ => by simp [convert, run_underlying hs, run_underlying hd, Conv.intToInt]; rfl, by simp [Rep, emp_noF]⟩
  · rename_i b hs hd
    cases hr
    simp only [Rep] at hx
    obtain ⟨_, rfl⟩ := hx
    exact ⟨_, fun w _ => by simp [convert, run_underlying hs, run_underlying hd]; rfl, by simp [Rep, emp_noF]⟩
  · rename_i E rows hs hd
    split at hr
    · rename_i ns he hns
      cases hr
      simp only [Rep] at hx
      obtain ⟨_, A, c, vs, z, rfl, hc, hzz, hrr, h1, hcell⟩ := hx
      refine ⟨.string (strOf ns), fun w hw => ?_, by simp [Rep, emp_noF]⟩
      rw [← (bytesRow_one hns).2]
      exact conv_bytes hs he hd (bytesRow_sound hns hrr) (hcell.imp id fun ⟨b, o, h1, hZ, h2⟩ => ⟨b, o, h1, fun j u hu => hw _ _ _ (.inl fun i m hi => h.notZ i b m hi hZ) (h2 j u hu)⟩)
    · cases hr
  · rename_i E id hs hd
    split at hr
    · rename_i E' rows he hH
      split at hr
      · rename_i ns hns
        cases hr
        simp only [Rep] at hx
        obtain ⟨_, hid, rfl, _⟩ := hx
        have hO := h.objs id _ hH
        simp only [Rep] at hO
        obtain ⟨vs, F', ho, hz', hrr, h1, hs'⟩ := hO
        refine ⟨.string (strOf ns), fun w hw => ?_, by simp [Rep, emp_noF]⟩
        rcases ownsRow_cells ho with ⟨hv, hn, rfl⟩ | ⟨g, cap, hv, hc, hcs⟩
        · rw [hv]
          have : ns = [] := List.eq_nil_of_length_eq_zero (by rw [(bytesRow_one hns).2, hn])
          subst this
          exact conv_bytes (vs := []) (ns := []) hs he hd rfl (.inl rfl)
        · rw [hv, ← (bytesRow_one hns).2]
          have hvl := hrr.len hz'
          exact conv_bytes hs he hd (bytesRow_sound hns hrr) (.inr ⟨g, 0, rfl, fun j u hu => hw _ _ _ (.inr ⟨id, _, hs'.l g _ ⟨by rw [hv]; rfl, rfl⟩, by have := (List.getElem?_eq_some_iff.1 hu).1; omega⟩) (hcs j u hu)⟩)
      · cases hr
    · cases hr
  · cases hr
end
end Go.Proofs.YtdomnlnanbekaaaGreatDoor.T

namespace Go.Proofs.YtdomnlnanbekaaaGreatDoor.T
set_option linter.unusedVariables false
set_option linter.unusedSimpArgs false
open Go.RowKit

def TV.cell : TV → Bool
  | .val u => u.oneCell'
  | .ro _ | .rptr _ _ | .hd _ | .pd _ _ _ _ | .sl _ _ _ _ | .own _ _ | .box _ _ => true
  | _ => false
def TV.pc (t : TV) : Bool := t.plain && t.cell
def cellsOf : TV → Option (List TV)
  | .agg cs => if cs.all TV.pc then some cs else none
  | t => if t.pc then some [t] else none
def fillT (place : Nat → Option (Nat × Nat)) : List TV → List (Nat × Option (List TV)) → Option (List TV)
  | acc, [] => some acc
  | acc, (i, some xs) :: rest => match place i with
    | some (off, sz) => if xs.length = sz ∧ off + sz ≤ acc.length then fillT place (acc.take off ++ xs ++ acc.drop (off + sz)) rest else none
    | none => none
  | _, (_, none) :: _ => none
def placeOf (P : Program) (fs : Array Field) (i : Nat) : Option (Nat × Nat) := match fs[i]? with
  | some f => some (f.offset, szOf P f.type)
  | none => none
def zeroT (P : Program) (t : TypeId) : Option (List TV) := match P.info? t with
  | some i => match i.zero with
    | some z => some (z.cells.toList.map .val)
    | none => none
  | none => none
def partsT (n : Nat) (s : St) (parts : List (Nat × Operand)) : List (Nat × Option (List TV)) := parts.map fun p => (p.1, cellsOf (opV n s p.2))
def buildTV (P : Program) (n : Nat) (s : St) (t : TypeId) (parts : List (Nat × Operand)) : Option TV :=
  match P.underlying t, zeroT P t with
  | some (.struct fs), some z => match fillT (placeOf P fs) z (partsT n s parts) with
    | some cs => if cs.all TV.pc ∧ fs.toList.all (fun f => 0 < szOf P f.type) then some (.agg cs) else none
    | none => none
  | some (.array _ E), some z => match fillT (fun i => some (i * szOf P E, szOf P E)) z (partsT n s parts) with
    | some cs => if cs.all TV.pc ∧ 0 < szOf P E then some (.agg cs) else none
    | none => none
  | _, _ => none

section
variable {P : Program} {C : Ctx} {n : Nat} {s : St} {a : Act} {e : Env} {FH : Nat → Foot} {w : World}
theorem Rep.cell {t : TV} {v : Value} {F : Foot} (h : Rep P e t v F) (hc : t.cell = true) : v.oneCell' = true := by
  cases t with
  | val u => simp only [Rep] at h; rw [h.2]; exact hc
  | ro rows => simp only [Rep] at h; obtain ⟨_, A, c, vs, z, rfl, _⟩ := h; rfl
  | own E rows =>
    simp only [Rep] at h
    obtain ⟨vs, F', ho, _⟩ := h
    rcases ownsRow_cells ho with ⟨rfl, _⟩ | ⟨g, cap, rfl, _⟩ <;> rfl
  | rptr row off => simp only [Rep] at h; obtain ⟨_, b, o, vs, rfl, _⟩ := h; rfl
  | box t cs => simp only [Rep] at h; obtain ⟨b, vs, F', rfl, _⟩ := h; rfl
  | hd i => simp only [Rep] at h; exact h.2.2.2
  | pd i z r c => simp only [Rep] at h; obtain ⟨_, _, b, _, rfl⟩ := h; rfl
  | sl i z r n => simp only [Rep] at h; obtain ⟨_, _, A, m, cap, _, _, rfl, _⟩ := h; rfl
  | _ => cases hc
theorem RepL.ones : ∀ {ts : List TV} {vs : List Value} {F : Foot}, RepL P e ts vs F → ts.all TV.pc = true → Ones vs
  | [], vs, F, h, hp => by simp only [RepL] at h; rw [h.1]; intro u hu; cases hu
  | t :: ts, vs, F, h, hp => by
    simp only [RepL] at h
    obtain ⟨v, vs', F1, F2, rfl, h1, h2, hs⟩ := h
    simp only [List.all_cons, Bool.and_eq_true] at hp
    intro u hu
    rcases List.mem_cons.1 hu with rfl | hu
    · have := hp.1; simp only [TV.pc, Bool.and_eq_true] at this; exact h1.cell this.2
    · exact RepL.ones h2 hp.2 u hu
theorem pc_plain {ts : List TV} (h : ts.all TV.pc = true) : ts.all TV.plain = true := by
  rw [List.all_eq_true] at h ⊢
  intro t ht
  have := h t ht; simp only [TV.pc, Bool.and_eq_true] at this; exact this.1
theorem cells_one {v : Value} (h : v.oneCell' = true) : v.cells.toList = [v] := by cases v <;> first | rfl | cases h
theorem cellsOf_rep {t : TV} {v : Value} {F : Foot} {xs : List TV} (h : Rep P e t v F) (hc : cellsOf t = some xs) : RepL P e xs v.cells.toList noF ∧ Ones v.cells.toList := by
  have one : t.pc = true → xs = [t] → RepL P e xs v.cells.toList noF ∧ Ones v.cells.toList := by
    intro hp hx
    subst hx
    have hp' := hp
    simp only [TV.pc, Bool.and_eq_true] at hp'
    have h1 := h.cell hp'.2
    rw [cells_one h1]
    refine ⟨?_, fun u hu => by rw [List.mem_singleton.1 hu]; exact h1⟩
    simp only [RepL]
    exact ⟨v, [], noF, noF, rfl, h.toN (h.plain hp'.1), ⟨rfl, emp_noF⟩, .of_emp emp_noF emp_noF emp_noF⟩
  unfold cellsOf at hc
  split at hc
  · rename_i cs
    split at hc
    · rename_i hp
      cases hc
      simp only [Rep] at h
      obtain ⟨vs, rfl, hl, h1⟩ := h
      exact ⟨by simpa [Value.cells] using hl.plain (pc_plain hp), by simpa [Value.cells] using h1⟩
    · cases hc
  · split at hc
    · rename_i hp
      cases hc
      exact one hp rfl
    · cases hc
theorem foldl_set (off : Nat) : ∀ (xs : List Value) (k : Nat) (cs : Array Value), off + k + xs.length ≤ cs.size →
    ((xs.zipIdx k).foldl (fun cs (c, j) => cs.setIfInBounds (off + j) c) cs).toList = cs.toList.take (off + k) ++ xs ++ cs.toList.drop (off + k + xs.length)
  | [], k, cs, h => by simp
  | x :: xs, k, cs, h => by
    simp only [List.length_cons] at h
    simp only [List.zipIdx_cons, List.foldl_cons]
    rw [foldl_set off xs (k + 1) _ (by simp; omega)]
    have := list_seg_step cs.toList (off + k) x xs (by simp; omega)
    simp only [Array.toList_setIfInBounds, List.length_cons]
    rw [show off + (k + 1) = off + k + 1 from by omega, show off + k + (xs.length + 1) = off + k + 1 + xs.length from by omega]
    apply List.ext_getElem?
    intro j
    simp only [List.getElem?_append, List.length_append, List.length_take, List.length_set, Array.length_toList, List.length_cons]
    rw [show min (off + k + 1) cs.size = off + k + 1 from by omega, show min (off + k) cs.size = off + k from by omega]
    by_cases h1 : j < off + k
    · rw [if_pos (by omega), if_pos (by omega), if_pos (by omega), if_pos h1, List.getElem?_take, List.getElem?_take, if_pos (by omega), if_pos h1, List.getElem?_set_ne (by omega)]
    · by_cases h2 : j = off + k
      · subst h2
        rw [if_pos (by omega), if_pos (by omega), if_pos (by omega), if_neg (by omega), List.getElem?_take, if_pos (by omega), List.getElem?_set_self (by simp; omega)]
        simp
      · by_cases h3 : j < off + k + 1 + xs.length
        · rw [if_pos (by omega), if_neg (by omega), if_pos (by omega), if_neg h1]
          rw [show j - (off + k) = (j - (off + k + 1)) + 1 from by omega, List.getElem?_cons_succ]
        · rw [if_neg (by omega), if_neg (by omega), List.getElem?_drop, List.getElem?_drop, List.getElem?_set_ne (by omega)]
          congr 1; omega
theorem RepL.put {acc : List TV} {cs : List Value} {xs : List TV} {vs : List Value} (off : Nat) (h : RepL P e acc cs noF) (hx : RepL P e xs vs noF) (hfit : off + xs.length ≤ acc.length) :
    RepL P e (acc.take off ++ xs ++ acc.drop (off + xs.length)) (cs.take off ++ vs ++ cs.drop (off + vs.length)) noF := by
  rw [hx.len]
  obtain ⟨F1, F2, h1, _, hs⟩ := RepL.split off h
  obtain ⟨F3, F4, _, h4, hs'⟩ := RepL.split (off + xs.length) h
  have e1 := h1.toN (emp_noF.sub hs.l)
  have e4 := h4.toN (emp_noF.sub hs'.r)
  exact ((e1.append hx (Dis.emp emp_noF)).append e4 (Dis.emp emp_noF)).toN (fun b m x => x.elim (fun y => y.elim id id) id)
theorem fill_sound {place : Nat → Option (Nat × Nat)} : ∀ (ps : List (Nat × Operand)) (acc : List TV) (cs : Array Value) (r : List TV), (∀ x, Rep P e (opV n s x) (a.eval x) noF) → RepL P e acc cs.toList noF → fillT place acc (partsT n s ps) = some r →
    ∃ cs', Instr.fill place cs (ps.map fun p => (p.1, a.eval p.2)) = some cs' ∧ RepL P e r cs'.toList noF
  | [], acc, cs, r, hop, hr, h => by simp only [partsT, List.map_nil, fillT] at h; cases h; exact ⟨cs, rfl, hr⟩
  | (i, x) :: ps, acc, cs, r, hop, hr, h => by
    simp only [partsT, List.map_cons] at h
    cases hc : cellsOf (opV n s x) with
    | none => rw [hc] at h; simp [fillT] at h
    | some xs =>
      rw [hc] at h
      simp only [fillT] at h
      obtain ⟨h1, h2⟩ := cellsOf_rep (hop x) hc
      split at h
      · rename_i off sz hp
        split at h
        · rename_i hz
          have hvl : (a.eval x).cells.size = sz := by rw [← Array.length_toList, h1.len, hz.1]
          have hcl : cs.size = acc.length := by rw [← Array.length_toList, hr.len]
          have hput := RepL.put off hr h1 (by have := hz.1; have := hz.2; omega)
          have hfold := foldl_set off (a.eval x).cells.toList 0 cs (by simp only [Array.length_toList]; omega)
          simp only [Nat.add_zero] at hfold
          rw [← hfold, hz.1] at hput
          obtain ⟨cs', hf, hr'⟩ := fill_sound ps _ _ r hop hput h
          refine ⟨cs', ?_, hr'⟩
          simp only [List.map_cons, Instr.fill, hp]
          rw [if_neg (by simp [hvl]; omega)]
          rw [← hf]
          congr 1
          rw [← Array.foldl_toList, Array.toList_zipIdx]
        · cases h
      · cases h
end
end Go.Proofs.YtdomnlnanbekaaaGreatDoor.T

namespace Go.Proofs.YtdomnlnanbekaaaGreatDoor.T
set_option linter.unusedVariables false
set_option linter.unusedSimpArgs false
open Go.RowKit

/-- The value of an operation that touches nothing but its own temporary. -/
def pureV (P : Program) (n : Nat) (s : St) (o : Oper) : Option TV :=
  match o.op with
  | .move x => some (opV n s x)
  | .assign x => some (opV n s x)
  | .pick c x y => match opV n s c with
    | .val (.bool b) => some (if b then opV n s x else opV n s y)
    | _ => none
  | .binOp op t x y _ => binTV P op t (opV n s x) (opV n s y)
  | .unOp op _ x => match opV n s x with
    | .val v => (unV op v).map .val
    | _ => none
  | .load t x => ldTV P s t (opV n s x)
  | .indexAddr t x i => ixTV P s t (opV n s x) (opV n s i)
  | .fieldAddr t x f => fdTV P t (opV n s x) f
  | .field t x f => match P.underlying t, opV n s x with
    | some (.struct fs), .agg cs => match fs[f]? with
      | some fd => partTV P fd.type cs fd.offset
      | none => none
    | _, _ => none
  | .index t x i => indexTV P t (opV n s x) (opV n s i)
  | .extract x i => match opV n s x with
    | .tup ts => ts[i]?
    | _ => none
  | .convert a b x => convTV P s a b (opV n s x)
  | .slice t x lo hi none => sliceTV P s t (opV n s x) (lo.map (opV n s)) (hi.map (opV n s))
  | .build t parts => buildTV P n s t parts.toList
  | .nilCheck x => match opV n s x with
    | .rptr r o => some (.rptr r o)
    | .pd id z r c => some (.pd id z r c)
    | _ => none
  | .call c => match c.callee, c.args.toList, c.argTypes.toList with
    | .builtin .len, [x], [t] => lenTV P s t (opV n s x)
    | _, _, _ => none
  | _ => none

/-- The operations that read memory. -/
def heapB : Op → Bool
  | .load _ _ | .convert _ _ _ => true
  | _ => false
section
variable {P : Program} {C : Ctx} {n : Nat} {s : St} {a : Act} {e : Env} {FH : Nat → Foot} {w : World}
theorem run_sb {k : IntKind} {i : Int} {y : Nat} {code : BoundsCode} (h0 : 0 ≤ i) (h1 : i ≤ y) : (Instr.sliceBound (.int k i) y code).run P w = .ok i.toNat w := by
  simp [Instr.sliceBound, asIntOf, h0, h1]
theorem optI_rep {o : Option Operand} {r : Option Int} (hop : ∀ x, Rep P e (opV n s x) (a.eval x) noF) (h : optI (o.map (opV n s)) = some r) :
    (r = none ∧ o.map a.eval = none) ∨ ∃ i k, r = some i ∧ o.map a.eval = some (.int k i) := by
  cases o with
  | none => simp only [Option.map_none, optI] at h; cases h; exact .inl ⟨rfl, rfl⟩
  | some x =>
    simp only [Option.map_some] at h
    have hx := hop x
    unfold optI at h
    split at h
    · rename_i h0; cases h0
    · rename_i k i heq
      cases h
      injection heq with heq
      rw [heq] at hx
      simp only [Rep] at hx
      exact .inr ⟨i, k, rfl, by rw [Option.map_some, hx.2]⟩
    · cases h
theorem run_bounds {isS : Bool} {len cap : Nat} {lo hi : Option Value} {l h : Option Int} (hl : (l = none ∧ lo = none) ∨ ∃ i k, l = some i ∧ lo = some (.int k i)) (hh : (h = none ∧ hi = none) ∨ ∃ i k, h = some i ∧ hi = some (.int k i))
    (h0 : 0 ≤ l.getD 0) (h1 : l.getD 0 ≤ h.getD len) (h2 : h.getD len ≤ len) (hc : len ≤ cap) :
    (Instr.sliceBounds isS len cap lo hi none).run P w = .ok ((l.getD 0).toNat, (h.getD len).toNat, cap) w := by
  rcases hl with ⟨rfl, rfl⟩ | ⟨i, k, rfl, rfl⟩ <;> rcases hh with ⟨rfl, rfl⟩ | ⟨j, k', rfl, rfl⟩
  · simp [Instr.sliceBounds]
  · simp only [Option.getD_some, Option.getD_none] at *
    simp [Instr.sliceBounds, run_sb (P := P) (w := w) (k := k') (i := j) (y := cap) (code := if isS = true then .sliceAcap else .sliceAlen) (by omega) (by omega)]
  · simp only [Option.getD_some, Option.getD_none] at *
    simp [Instr.sliceBounds, run_sb (P := P) (w := w) (k := k) (i := i) (y := len) (code := .sliceB) (by omega) (by omega)]
  · simp only [Option.getD_some, Option.getD_none] at *
    simp [Instr.sliceBounds, run_sb (P := P) (w := w) (k := k') (i := j) (y := cap) (code := if isS = true then .sliceAcap else .sliceAlen) (by omega) (by omega), run_sb (P := P) (w := w) (k := k) (i := i) (y := j.toNat) (code := .sliceB) (by omega) (by omega)]
theorem sliceTV_sound (h : RelX P C s a e FH) {t : TypeId} {x r : TV} {v : Value} {lo hi : Option Operand} (hop : ∀ x, Rep P e (opV n s x) (a.eval x) noF) (hx : Rep P e x v noF) (hr : sliceTV P s t x (lo.map (opV n s)) (hi.map (opV n s)) = some r) :
    ∃ u, (∀ w, (Instr.sliceAt t v (lo.map a.eval) (hi.map a.eval) none).run P w = .ok u w) ∧ Rep P e r u noF := by
  unfold sliceTV at hr
  split at hr
  · rename_i l hi' hl hh
    have hl' := optI_rep hop hl
    have hh' := optI_rep hop hh
    split at hr
    · rename_i b hd
      simp only at hr
      split at hr
      · rename_i hc
        cases hr
        simp only [Rep] at hx
        obtain ⟨_, rfl⟩ := hx
        refine ⟨.string (b.extract (l.getD 0).toNat (hi'.getD b.size).toNat), fun w => ?_, by simp [Rep, emp_noF]⟩
        simp [Instr.sliceAt, Instr.slice, run_underlying hd, run_bounds (P := P) (w := w) (isS := false) hl' hh' hc.1 hc.2.1 hc.2.2 (Nat.le_refl b.size)]
      · cases hr
    · rename_i E rows hd
      simp only at hr
      split at hr
      · rename_i hc
        cases hr
        obtain ⟨ti, hti, hsz⟩ := info_of_sz hc.2.2.2.2
        simp only [Rep] at hx
        obtain ⟨_, A, c, vs, z, rfl, hcap, hzz, hrr, h1, hcell⟩ := hx
        have hz' : ∀ r ∈ rows, r.length = ti.size := fun r hr => by rw [hsz]; exact hc.2.2.2.1 r hr
        generalize hL : (l.getD 0).toNat = L at *
        generalize hH : (hi'.getD rows.length).toNat = Hh at *
        have hLH : L ≤ Hh ∧ Hh ≤ rows.length := by
          have := hc.1; have := hc.2.1; have := hc.2.2.1; omega
        refine ⟨.slice (if c = L then A else A.map (·.add (L * ti.size))) (Hh - L) (c - L), ?_, ?_⟩
        · intro w
          simp [Instr.sliceAt, Instr.slice, run_underlying hd, run_bounds (P := P) (w := w) (isS := true) hl' hh' hc.1 hc.2.1 hc.2.2.1 hcap, run_sizeOf hti, hL, hH]
        · simp only [Rep]
          obtain ⟨F1, F2, g1, _, s1⟩ := RepRows.split Hh hrr hz'
          obtain ⟨F3, F4, _, g4, s2⟩ := RepRows.split L g1 (fun r hr => hz' r (List.mem_of_mem_take hr))
          refine ⟨emp_noF, if c = L then A else A.map (·.add (L * ti.size)), c - L, (vs.take (Hh * ti.size)).drop (L * ti.size), ti.size, by simp [List.length_drop, List.length_take]; omega, by simp [List.length_drop, List.length_take]; omega,
            fun r hr => hz' r (List.mem_of_mem_take (List.mem_of_mem_drop hr)), RepRows.foot _ g4 (fun b m => ⟨fun x => x.elim, fun x => (emp_noF.sub s1.l).sub s2.r b m x⟩), fun u hu => h1 u (List.mem_of_mem_take (List.mem_of_mem_drop hu)), ?_⟩
          rcases hcell with rfl | ⟨b, o, rfl, hZ, hcs⟩
          · left; simp
          · by_cases hLc : c = L
            · left
              have : Hh = L := by omega
              rw [this]; simp
            · right
              rw [if_neg hLc]
              refine ⟨b, o + L * ti.size, by simp [add_mk], hZ, fun j u hu => ?_⟩
              rw [List.getElem?_drop, List.getElem?_take] at hu
              split at hu
              · rw [Nat.add_assoc]; exact hcs _ u hu
              · cases hu
      · cases hr
    · rename_i E id hd
      split at hr
      · rename_i E' rows hH
        simp only at hr
        split at hr
        · rename_i hc
          cases hr
          obtain ⟨hc0, hc1, hc2, hc3, hc4⟩ := hc
          obtain ⟨ti, hti, hsz⟩ := info_of_sz hc1
          simp only [Rep] at hx
          obtain ⟨_, hid, rfl, _⟩ := hx
          have hO := h.objs id _ hH
          simp only [Rep] at hO
          obtain ⟨vs, F', ho, hz', hrr, h1, hs⟩ := hO
          obtain ⟨A, cap, hv, hA, hcap⟩ : ∃ A cap, e.η id = .slice A rows.length cap ∧ (A = none ∨ ∃ g, A = some ⟨g, 0, none⟩) ∧ rows.length ≤ cap := by
            rcases ownsRow_cells ho with ⟨hv, hn, _⟩ | ⟨g, cap, hv, hc, _⟩
            · exact ⟨none, 0, by rw [hv, hn], .inl rfl, by omega⟩
            · exact ⟨_, cap, hv, .inr ⟨g, rfl⟩, hc⟩
          refine ⟨.slice (if cap = (l.getD 0).toNat then A else A.map (·.add ((l.getD 0).toNat * ti.size))) ((hi'.getD rows.length).toNat - (l.getD 0).toNat) (cap - (l.getD 0).toNat), ?_, ?_⟩
          · intro w
            rw [hv]
            simp [Instr.sliceAt, Instr.slice, run_underlying hd, run_bounds (P := P) (w := w) (isS := true) hl' hh' hc2 hc3 hc4 hcap, run_sizeOf hti]
          · simp only [Rep]
            refine ⟨emp_noF, hid, A, rows.length, cap, hv, hA, ?_, by omega, hcap⟩
            rw [hsz]
        · cases hr
      · cases hr
    · cases hr
  · cases hr
theorem mapM_list (l : List Field) (hall : ∀ f ∈ l, ∃ i, P.info? f.type = some i) :
    (l.mapM fun f => (do pure (f.offset, ← sizeOf f.type) : Sem (Nat × Nat))).run P w = .ok (l.map fun f => (f.offset, szOf P f.type)) w := by
  induction l with
  | nil => rfl
  | cons f l ih =>
    obtain ⟨i, hi⟩ := hall f (by simp)
    have := ih (fun g hg => hall g (by simp [hg]))
    simp only [List.mapM_cons, Sem.run_bind, run_sizeOf hi, this, Result.andThen_ok, Sem.run_pure, List.map_cons]
    simp [szOf, hi]
theorem mapM_places (fs : Array Field) (hall : ∀ f ∈ fs.toList, ∃ i, P.info? f.type = some i) :
    (fs.mapM fun f => (do pure (f.offset, ← sizeOf f.type) : Sem (Nat × Nat))).run P w = .ok (fs.map fun f => (f.offset, szOf P f.type)) w := by
  obtain ⟨l⟩ := fs
  rw [List.mapM_toArray, Sem.run_map, mapM_list l hall]
  simp
theorem build_sound {t : TypeId} {parts : Array (Nat × Operand)} {r : TV} (hop : ∀ x, Rep P e (opV n s x) (a.eval x) noF) (hr : buildTV P n s t parts.toList = some r) :
    ∃ u, (∀ w, (Instr.build t (parts.map fun (i, x) => (i, a.eval x))).run P w = .ok u w) ∧ Rep P e r u noF := by
  unfold buildTV at hr
  have hzero : ∀ z, zeroT P t = some z → ∃ v : Value, (∀ w, (zeroValue t).run P w = .ok v w) ∧ RepL P e z v.cells.toList noF := by
    intro z hz
    unfold zeroT at hz
    split at hz
    · rename_i i hi
      split at hz
      · rename_i v hv
        cases hz
        exact ⟨v, by simp [zeroValue, typeInfo, hi, hv], repL_val e _⟩
      · cases hz
    · cases hz
  split at hr
  · rename_i fs z hd hz
    obtain ⟨v, hv, hvr⟩ := hzero z hz
    split at hr
    · rename_i cs hf
      split at hr
      · rename_i hc
        cases hr
        obtain ⟨cs', hfill, hl⟩ := fill_sound parts.toList z v.cells cs hop hvr hf
        refine ⟨.agg cs', ?_, ?_⟩
        · have hall : ∀ f ∈ fs.toList, ∃ i, P.info? f.type = some i := fun f hf => by
            have := List.all_eq_true.1 hc.2 f hf
            simp only [decide_eq_true_eq] at this
            obtain ⟨i, hi, _⟩ := info_of_sz this
            exact ⟨i, hi⟩
          have hpl : (fun i => (fs.map fun f => (f.offset, szOf P f.type))[i]?) = placeOf P fs := by
            funext i
            unfold placeOf
            rw [Array.getElem?_map]
            cases fs[i]? <;> rfl
          intro w
          simp only [Instr.build, Sem.run_bind, hv, Result.andThen_ok, run_underlying hd, mapM_places fs hall, hpl, Array.toList_map, hfill, Sem.run_pure]
        · simp only [Rep]; exact ⟨cs'.toList, by simp, hl, hl.ones hc.1⟩
      · cases hr
    · cases hr
  · rename_i len E z hd hz
    obtain ⟨v, hv, hvr⟩ := hzero z hz
    split at hr
    · rename_i cs hf
      split at hr
      · rename_i hc
        cases hr
        obtain ⟨ti, hti, hsz⟩ := info_of_sz hc.2
        obtain ⟨cs', hfill, hl⟩ := fill_sound parts.toList z v.cells cs hop hvr hf
        refine ⟨.agg cs', ?_, ?_⟩
        · intro w
          rw [← hsz] at hfill
          simp only [Instr.build, Sem.run_bind, hv, Result.andThen_ok, run_underlying hd, run_sizeOf hti, Array.toList_map, hfill, Sem.run_pure]
        · simp only [Rep]; exact ⟨cs'.toList, by simp, hl, hl.ones hc.1⟩
      · cases hr
    · cases hr
  · cases hr
theorem pure_sound2 (h : RelX P C s a e FH) (hn : a.tmps.size = n) {o : Oper} {r : TV} (hr : pureV P n s o = some r) :
    ∃ v, (heapB o.op = false → ∀ w, (execOp a.eval o).run P w = .ok (.value v) w) ∧ (∀ w, Same e FH w → (execOp a.eval o).run P w = .ok (.value v) w) ∧ Rep P e r v noF := by
  have hop : ∀ x, Rep P e (opV n s x) (a.eval x) noF := opV_rep h hn
  have finS : ∀ {m : Sem Value} {p : Op}, heapB p = true → (∃ u, (∀ w, Same e FH w → m.run P w = .ok u w) ∧ Rep P e r u noF) → ∃ v, (heapB p = false → ∀ w, (do pure (.value (← m)) : Sem Next).run P w = .ok (.value v) w) ∧ (∀ w, Same e FH w → (do pure (.value (← m)) : Sem Next).run P w = .ok (.value v) w) ∧ Rep P e r v noF := by
    rintro m p hp ⟨u, hu, hru⟩
    exact ⟨u, fun x => (by rw [hp] at x; cases x), fun w hw => by simp only [Sem.run_bind, hu w hw, Result.andThen_ok, Sem.run_pure], hru⟩
  have fin : ∀ {m : Sem Value} {p : Op}, (∃ u, (∀ w, m.run P w = .ok u w) ∧ Rep P e r u noF) → ∃ v, (heapB p = false → ∀ w, (do pure (.value (← m)) : Sem Next).run P w = .ok (.value v) w) ∧ (∀ w, Same e FH w → (do pure (.value (← m)) : Sem Next).run P w = .ok (.value v) w) ∧ Rep P e r v noF := by
    rintro m p ⟨u, hu, hru⟩
    exact ⟨u, fun _ w => (by simp only [Sem.run_bind, hu w, Result.andThen_ok, Sem.run_pure]), fun w _ => (by simp only [Sem.run_bind, hu w, Result.andThen_ok, Sem.run_pure]), hru⟩
  unfold pureV at hr
  unfold execOp
  split at hr
  · rename_i x ho; cases hr; rw [ho]; exact ⟨_, fun _ _ => rfl, fun _ _ => rfl, hop x⟩
  · rename_i x ho; cases hr; rw [ho]; exact ⟨_, fun _ _ => rfl, fun _ _ => rfl, hop x⟩
  · rename_i c x y ho
    rw [ho]
    split at hr
    · rename_i b hc
      cases hr
      have hb := hop c
      rw [hc] at hb
      simp only [Rep] at hb
      cases b
      · exact ⟨a.eval y, fun _ w => (by simp [hb.2, asBool]), fun w _ => (by simp [hb.2, asBool]), hop y⟩
      · exact ⟨a.eval x, fun _ w => (by simp [hb.2, asBool]), fun w _ => (by simp [hb.2, asBool]), hop x⟩
    · cases hr
  · rename_i op t x y k ho
    rw [ho]
    exact fin (binTV_sound (k := k) (hop x) (hop y) hr)
  · rename_i op t x ho
    rw [ho]
    split at hr
    · rename_i v hv
      obtain ⟨u, hu, rfl⟩ := Option.map_eq_some_iff.1 hr
      have hx := hop x
      rw [hv] at hx
      simp only [Rep] at hx
      refine fin ⟨u, fun w => ?_, by simp [Rep, emp_noF]⟩
      rw [hx.2]
      unfold unV at hu
      split at hu <;> first | (cases hu; rfl) | cases hu
    · cases hr
  · rename_i t x ho; rw [ho]; exact finS rfl (ld_sound h (hop x) hr)
  · rename_i t x i ho; rw [ho]; exact fin (ix_sound h (hop x) (hop i) hr)
  · rename_i t x f ho; rw [ho]; exact fin (fd_sound (hop x) hr)
  · rename_i t x f ho
    rw [ho]
    split at hr
    · rename_i fs cs hd hx
      split at hr
      · rename_i fd hf
        have hx' := hop x
        rw [hx] at hx'
        simp only [Rep] at hx'
        obtain ⟨vs, hv, hl, h1⟩ := hx'
        obtain ⟨u, hu, hru⟩ := part_sound (e := e) hl h1 emp_noF hr
        exact fin ⟨u, fun w => by simp [Instr.field, hv, run_underlying hd, hf, asAgg, hu], hru⟩
      · cases hr
    · cases hr
  · rename_i t x i ho; rw [ho]; exact fin (indexTV_sound (hop x) (hop i) hr)
  · rename_i x i ho
    rw [ho]
    split at hr
    · rename_i ts hx
      have hx' := hop x
      rw [hx] at hx'
      simp only [Rep] at hx'
      obtain ⟨vs, hv, hl⟩ := hx'
      obtain ⟨u, F1, hu, hru, hs⟩ := hl.get hr
      exact fin ⟨u, fun w => by simp [Instr.extract, hv, hu], hru.toN (emp_noF.sub hs)⟩
    · cases hr
  · rename_i src dst x ho; rw [ho]; exact finS rfl (convTV_sound h (hop x) hr)
  · rename_i t x lo hi ho; rw [ho]; exact fin (sliceTV_sound h hop (hop x) hr)
  · rename_i t parts ho; rw [ho]; exact fin (build_sound hop hr)
  · rename_i x ho
    rw [ho]
    have hx := hop x
    split at hr
    · rename_i r0 o0 hv
      cases hr
      rw [hv] at hx
      have hx' := hx
      simp only [Rep] at hx'
      obtain ⟨_, b, o1, vs, hp, _⟩ := hx'
      exact ⟨a.eval x, fun _ w => (by simp [hp]), fun w _ => (by simp [hp]), hx⟩
    · rename_i id z r0 c hv
      cases hr
      rw [hv] at hx
      have hx' := hx
      simp only [Rep] at hx'
      obtain ⟨_, _, b, _, hp⟩ := hx'
      exact ⟨a.eval x, fun _ w => (by simp [hp]), fun w _ => (by simp [hp]), hx⟩
    · cases hr
  · rename_i c ho
    rw [ho]
    split at hr
    · rename_i x t hc hx ht
      obtain ⟨u, hu, hru⟩ := lenTV_sound (ty := o.type) h (hop x) hr
      suffices e0 : ∀ w, (do let d ← resolve a.eval c o.type; invoke d.target d.args : Sem Next).run P w = .ok (.value u) w from
        ⟨u, fun _ w => e0 w, fun w _ => e0 w, hru⟩
      intro w
      have e1 : c.args = #[x] := Array.ext' (by rw [hx])
      have e2 : c.argTypes = #[t] := Array.ext' (by rw [ht])
      simp [resolve, hc, e1, e2, invoke, builtin, hu]
    · cases hr
  · cases hr
theorem pure_sound (h : RelX P C s a e FH) (hn : a.tmps.size = n) {o : Oper} {r : TV} (hr : pureV P n s o = some r) :
    ∃ v, (∀ w, Same e FH w → (execOp a.eval o).run P w = .ok (.value v) w) ∧ Rep P e r v noF := let ⟨v, _, h1, h2⟩ := pure_sound2 h hn hr; ⟨v, h1, h2⟩
end
end Go.Proofs.YtdomnlnanbekaaaGreatDoor.T

namespace Go.Proofs.YtdomnlnanbekaaaGreatDoor.T
set_option linter.unusedVariables false
set_option linter.unusedSimpArgs false
open Go.RowKit

abbrev Post := Exit → St → Prop
def Lift (P : Program) (C : Ctx) (n : Nat) (Q : Post) : Exit → Act → World → Prop := fun x a w => ∃ s, Q x s ∧ Rel P C n s a w
def TWc (P : Program) (n : Nat) (c : Code) (Q : Post) (s : St) : Prop := ∀ C a w, Rel P C n s a w → c.wp P (Lift P C n Q) a w
def TWl (P : Program) (n : Nat) (ops : Array Oper) (l : List Oper) (K : St → Prop) (s : St) : Prop :=
  ∀ C a w (Q : Exit → Act → World → Prop), Rel P C n s a w → (∀ a w s, K s → Rel P C n s a w → Q .normal a w) → wpList P ops Q l a w
/-- One operation. -/
def TWo (P : Program) (n : Nat) (o : Oper) (K : St → Prop) (s : St) : Prop :=
  ∀ C a w (J : Act → World → Prop) (Q : Exit → Act → World → Prop), Rel P C n s a w → (∀ a w s, K s → Rel P C n s a w → J a w) → o.wp P a w J Q
def St.put (s : St) (d : Option Tmp) (t : TV) : St := match d with
  | some d => ⟨set s.σ d t, s.H⟩
  | none => s
def Qthen (K : St → Prop) (Q : Post) : Post
  | .normal, s => K s
  | x, s => Q x s
def Qblk (id : Nat) (Q : Post) : Post
  | .exit j, s => if j = id then Q .normal s else Q (.exit j) s
  | x, s => Q x s

section
variable {P : Program} {n : Nat} {Q Q' : Post} {s : St} {C : Ctx} {a : Act} {w : World}
theorem Rel.of {e : Env} {FH : Nat → Foot} (hn : a.tmps.size = n) (h : RelX P C s a e FH) : Rel P C n s a e.w := ⟨hn, e, FH, rfl, h⟩
theorem Rel.put {e : Env} {FH : Nat → Foot} (hn : a.tmps.size = n) (h : RelX P C s a e FH) (d : Option Tmp) {t : TV} {v : Value} (hr : Rep P e t v noF) : Rel P C n (s.put d t) (a.put d v) e.w := by
  cases d with
  | none => exact .of hn h
  | some d => exact .of (by simpa [Act.put] using hn) (h.set d hr)
theorem TWc.mono {c : Code} (h : TWc P n c Q s) (hq : ∀ x s, Q x s → Q' x s) : TWc P n c Q' s := fun C a w hr => wp_mono (h C a w hr) fun x a w ⟨s, hs, hr⟩ => ⟨s, hq x s hs, hr⟩
theorem TWc.skip (h : Q .normal s) : TWc P n .skip Q s := fun C a w hr => wp_skip ⟨s, h, hr⟩
theorem TWc.label {l : Nat} (h : Q .normal s) : TWc P n (.label l) Q s := fun C a w hr => wp_label ⟨s, h, hr⟩
theorem TWc.exit {id : Nat} (h : Q (.exit id) s) : TWc P n (.exit id) Q s := fun C a w hr => wp_exit ⟨s, h, hr⟩
theorem TWc.ret (h : Q .ret s) : TWc P n .ret Q s := fun C a w hr => wp_ret ⟨s, h, hr⟩
theorem TWc.seq {x y : Code} (h : TWc P n x (Qthen (TWc P n y Q) Q) s) : TWc P n (.seq x y) Q s := fun C a w hr => by
  refine wp_seq (wp_mono (h C a w hr) ?_)
  rintro x a w ⟨s, hs, hr⟩
  cases x with
  | normal => exact hs C a w hr
  | _ => exact ⟨s, hs, hr⟩
theorem TWc.block {id : Nat} {c : Code} (h : TWc P n c (Qblk id Q) s) : TWc P n (.block id c) Q s := fun C a w hr => by
  refine wp_block (wp_mono (h C a w hr) ?_)
  rintro x a w ⟨s, hs, hr⟩
  cases x with
  | exit j =>
    simp only [Qblk, Exit.inBlock] at *
    split
    · rename_i hj; rw [if_pos hj] at hs; exact ⟨s, hs, hr⟩
    · rename_i hj; rw [if_neg hj] at hs; exact ⟨s, hs, hr⟩
  | _ => exact ⟨s, hs, hr⟩
theorem opV_bool {c : Operand} {b : Bool} (hr : Rel P C n s a w) (h : opV n s c = .val (.bool b)) : a.eval c = .bool b := by
  obtain ⟨hn, e, FH, rfl, hx⟩ := hr
  have := opV_rep hx hn c
  rw [h] at this
  simp only [Rep] at this
  exact this.2
theorem TWc.cond {c : Operand} {x y : Code} {b : Bool} (hc : opV n s c = .val (.bool b)) (h : TWc P n (if b then x else y) Q s) : TWc P n (.cond c x y) Q s := fun C a w hr =>
  wp_cond (opV_bool hr hc) (h C a w hr)
/-- A loop: an invariant with a number that every round lowers. -/
theorem TWc.loop {c : Code} (I : Nat → St → Prop) {m : Nat} (h0 : I m s) (round : ∀ m s, I m s → TWc P n c (Qthen (fun s' => ∃ m', m' < m ∧ I m' s') Q) s) : TWc P n (.loop c) Q s := fun C a w hr => by
  intro b k cs
  have key : ∀ m s a w, I m s → Rel P C n s a w →
      ∃ e a' w', Lift P C n Q e a' w' ∧ Arrives P (lone (b.at a (.code c :: .inLoop c :: k)) cs w) b k cs e a' w' := by
    intro m
    induction m using Nat.strongRecOn with
    | _ m ih =>
      intro s a w hI hr
      obtain ⟨e, a₁, w₁, ⟨s1, hq, hr1⟩, harr⟩ := round m s hI C a w hr b (.inLoop c :: k) cs
      cases e with
      | normal =>
        obtain ⟨m', hlt, hI₁⟩ := hq
        obtain ⟨e₂, a₂, w₂, hq₂, harr₂⟩ := ih m' hlt s1 a₁ w₁ hI₁ hr1
        exact ⟨e₂, a₂, w₂, hq₂, .of_steps (Steps.trans harr (.one step_inLoop)) harr₂⟩
      | exit id => exact ⟨_, a₁, w₁, ⟨s1, hq, hr1⟩, .pass (x := .inLoop c) rfl (fun _ _ => .inl (by simp)) harr⟩
      | goto l => exact ⟨_, a₁, w₁, ⟨s1, hq, hr1⟩, .pass (x := .inLoop c) rfl (fun _ _ => .inl (by simp)) harr⟩
      | ret => exact ⟨_, a₁, w₁, ⟨s1, hq, hr1⟩, .pass (x := .inLoop c) rfl (fun _ _ => .inl (by simp)) harr⟩
      | panic ch => exact ⟨_, a₁, w₁, ⟨s1, hq, hr1⟩, .pass (x := .inLoop c) rfl (fun _ _ => .inl (by simp)) harr⟩
      | outgrown => exact ⟨_, a₁, w₁, ⟨s1, hq, hr1⟩, .pass (x := .inLoop c) rfl (fun _ _ => .inl (by simp)) harr⟩
  obtain ⟨e, a', w', hq, harr⟩ := key m s a w h0 hr
  exact ⟨e, a', w', hq, .of_steps (.one step_loop) harr⟩
/-- Another reading of the same memory. -/
def Shift (P : Program) (n : Nat) (s s' : St) : Prop := ∀ C a w, Rel P C n s a w → Rel P C n s' a w
theorem TWc.shift {c : Code} {s' : St} (hs : Shift P n s s') (h : TWc P n c Q s') : TWc P n c Q s := fun C a w hr => h C a w (hs C a w hr)

variable {ops : Array Oper} {l : List Oper} {o : Oper} {K : St → Prop}
theorem TWc.region {id : Nat} (h : TWl P n l.toArray l (fun s => Q .normal s) s) : TWc P n (.region id l.toArray false) Q s := fun C a w hr =>
  wp_region_lit (h C a w _ hr fun a w s hk hr => ⟨s, hk, hr⟩)
theorem TWl.nil (h : K s) : TWl P n ops [] K s := fun C a w Q hr hk => wpList_nil (hk a w s h hr)
/-- Whether a guarded operation is wanted. -/
def gd (n : Nat) (s : St) (ops : Array Oper) (o : Oper) : Option Bool := match o.guard with
  | none => some true
  | some (j, b) => match ops[j]? with
    | some oj => match oj.dst with
      | some d => if d < n then match s.σ d with
        | .val (.bool x) => some (x == b)
        | .tup [] => some false
        | _ => none
        else none
      | none => none
    | none => none
theorem gd_sound {b : Bool} (hr : Rel P C n s a w) (h : gd n s ops o = some b) : Region.wanted o (yielded ops a.tmps) = b := by
  unfold gd at h
  unfold Region.wanted
  split at h
  · rename_i hg; cases h; rw [hg]
  · rename_i j b0 hg
    rw [hg]
    split at h
    · rename_i oj hoj
      split at h
      · rename_i d hd
        split at h
        · rename_i hlt
          split at h
          · rename_i x hx
            cases h
            obtain ⟨hn, e, FH, rfl, hX⟩ := hr
            have hlt' : d < a.tmps.size := hn ▸ hlt
            have := hX.slots d hlt'
            rw [hx] at this
            simp only [Rep] at this
            have h1 : a.tmps[d]? = some (.bool x) := by
              rw [Array.getD_eq_getD_getElem?] at this
              have h2 := Array.getElem?_eq_getElem hlt'
              rw [h2] at this ⊢
              simp at this
              rw [this.2]
            simp [yielded, hoj, hd, h1]
          · rename_i hx
            cases h
            obtain ⟨hn, e, FH, rfl, hX⟩ := hr
            have hlt' : d < a.tmps.size := hn ▸ hlt
            have := hX.slots d hlt'
            rw [hx] at this
            simp only [Rep, RepL] at this
            obtain ⟨vs, hv, rfl, _⟩ := this
            have h1 : a.tmps[d]? = some (.tuple #[]) := by
              rw [Array.getD_eq_getD_getElem?] at hv
              have h2 := Array.getElem?_eq_getElem hlt'
              rw [h2] at hv ⊢
              simp at hv
              rw [hv]
            simp [yielded, hoj, hd, h1]
          · cases h
        · cases h
      · cases h
    · cases h
theorem TWl.cons (hg : gd n s ops o = some true) (h : TWo P n o (TWl P n ops l K) s) : TWl P n ops (o :: l) K s := fun C a w Q hr hk => by
  unfold wpList
  rw [if_pos (gd_sound hr hg)]
  exact .inl (h C a w _ _ hr fun a w s hs hr => hs C a w Q hr hk)
theorem TWl.passed (hg : gd n s ops o = some false) (h : TWl P n ops l K (s.put o.dst (.tup []))) : TWl P n ops (o :: l) K s := fun C a w Q hr hk => by
  unfold wpList
  rw [if_neg (by rw [gd_sound hr hg]; simp)]
  obtain ⟨hn, e, FH, rfl, hX⟩ := hr
  exact h C _ _ Q (.put hn hX o.dst (by simp only [Rep, RepL]; exact ⟨[], rfl, rfl, emp_noF⟩)) hk
theorem TWo.pure {r : TV} (hp : pureV P n s o = some r) (h : K (s.put o.dst r)) : TWo P n o K s := fun C a w J Q hr hk => by
  obtain ⟨hn, e, FH, rfl, hX⟩ := hr
  obtain ⟨v, hv, hrep⟩ := pure_sound hX hn hp
  unfold Oper.wp
  rw [hv _ (Same.refl e FH)]
  exact hk _ _ _ h (.put hn hX o.dst hrep)
/-- An operation that yields a value in a world that has grown. -/
theorem TWo.grow (h : ∀ C a e FH, a.tmps.size = n → RelX P C s a e FH → ∃ v w' s', (execOp a.eval o).run P e.w = .ok (.value v) w' ∧ K s' ∧ Rel P C n s' (a.put o.dst v) w') : TWo P n o K s := fun C a w J Q hr hk => by
  obtain ⟨hn, e, FH, rfl, hX⟩ := hr
  obtain ⟨v, w', s', hv, hK, hr'⟩ := h C a e FH hn hX
  unfold Oper.wp
  rw [hv]
  exact hk _ _ _ hK hr'
theorem TWo.growSkip (h : ∀ C a e FH, a.tmps.size = n → RelX P C s a e FH → ∃ w' s', (execOp a.eval o).run P e.w = .ok .skip w' ∧ K s' ∧ Rel P C n s' (a.put o.dst undef) w') : TWo P n o K s := fun C a w J Q hr hk => by
  obtain ⟨hn, e, FH, rfl, hX⟩ := hr
  obtain ⟨w', s', hv, hK, hr'⟩ := h C a e FH hn hX
  unfold Oper.wp
  rw [hv]
  exact hk _ _ _ hK hr'
/-- What may be read is as before, and nobody owns more of what was there. -/
structure VisS (e : Env) (FH : Nat → Foot) (e' : Env) (FH' : Nat → Foot) : Prop where
  lt : ∀ i b m, FH i b m → b < e.w.heap.size
  size : e.w.heap.size ≤ e'.w.heap.size
  cells : ∀ b o u, b < e.w.heap.size → Vis e FH b o → e.w.cell? ⟨b, o, none⟩ = some u → e'.w.cell? ⟨b, o, none⟩ = some u
  own1 : ∀ i b m, FH' i b m → e.w.heap.size ≤ b ∨ ∃ i0 m0, FH i0 b m0
  own2 : ∀ i0 b m0, FH i0 b m0 → (∃ i m, FH' i b m ∧ m0 ≤ m) ∨ ∀ i m, ¬ FH' i b m
theorem VisS.refl {e : Env} {FH : Nat → Foot} (h : RelX P C s a e FH) : VisS e FH e FH := ⟨h.ltF, Nat.le_refl _, fun _ _ _ _ _ h => h, fun i b m h => .inr ⟨i, m, h⟩, fun i b m h => .inl ⟨i, m, h, Nat.le_refl _⟩⟩
theorem VisS.trans {e e1 e2 : Env} {F F1 F2 : Nat → Foot} (h : VisS e F e1 F1) (k : VisS e1 F1 e2 F2) : VisS e F e2 F2 := by
  refine ⟨h.lt, Nat.le_trans h.size k.size, ?_, ?_, ?_⟩
  · intro b o u hb hv hc
    refine k.cells b o u (Nat.lt_of_lt_of_le hb h.size) ?_ (h.cells b o u hb hv hc)
    rcases hv with hv | ⟨i, m, hi, ho⟩
    · refine .inl fun i m hi => ?_
      rcases h.own1 i b m hi with h1 | ⟨i0, m0, h0⟩
      · omega
      · exact hv i0 m0 h0
    · rcases h.own2 i b m hi with ⟨j, m', hj, hm⟩ | hn
      · exact .inr ⟨j, m', hj, by omega⟩
      · exact .inl hn
  · intro i b m hi
    rcases k.own1 i b m hi with h1 | ⟨i0, m0, h0⟩
    · exact .inl (Nat.le_trans h.size h1)
    · exact h.own1 i0 b m0 h0
  · intro i0 b m0 hi
    rcases h.own2 i0 b m0 hi with ⟨j, m', hj, hm⟩ | hn
    · rcases k.own2 j b m' hj with ⟨j2, m2, hj2, hm2⟩ | hn
      · exact .inl ⟨j2, m2, hj2, by omega⟩
      · exact .inr hn
    · by_cases hlt : b < e1.w.heap.size
      · refine .inr fun i m hi2 => ?_
        rcases k.own1 i b m hi2 with h1 | ⟨i1, m1, h1⟩
        · omega
        · exact hn i1 m1 h1
      · refine .inr fun i m hi2 => ?_
        rcases k.own1 i b m hi2 with h1 | ⟨i1, m1, h1⟩
        · have := h.lt i0 b m0 hi; have := h.size; omega
        · exact hn i1 m1 h1
theorem VisS.same {e e1 : Env} {F F1 : Nat → Foot} (h : VisS e F e1 F1) : Same e F e1.w := fun b o u hv hc => by
  refine h.cells b o u ?_ hv hc
  have := World.block_lt_of_cell? e.w ⟨b, o, none⟩ hc
  exact this
/-- As Rel, and what may be read is as in e. -/
def RelV (P : Program) (C : Ctx) (n : Nat) (s : St) (a : Act) (w : World) (e : Env) (FH : Nat → Foot) : Prop := a.tmps.size = n ∧ ∃ e' FH', e'.w = w ∧ RelX P C s a e' FH' ∧ VisS e FH e' FH'
theorem RelV.rel {e : Env} {FH : Nat → Foot} (h : RelV P C n s a w e FH) : Rel P C n s a w := ⟨h.1, let ⟨e', FH', h1, h2, _⟩ := h.2; ⟨e', FH', h1, h2⟩⟩
theorem RelV.put {e e0 : Env} {FH FH0 : Nat → Foot} (hn : a.tmps.size = n) (h : RelX P C s a e FH) (hv : VisS e0 FH0 e FH) (d : Option Tmp) {t : TV} {v : Value} (hr : Rep P e t v noF) : RelV P C n (s.put d t) (a.put d v) e.w e0 FH0 := by
  cases d with
  | none => exact ⟨hn, e, FH, rfl, h, hv⟩
  | some d => exact ⟨by simpa [Act.put] using hn, e, FH, rfl, h.set d hr, hv⟩
/-- An operation that leaves alone what may be read. -/
def TWq (P : Program) (n : Nat) (o : Oper) (K : St → Prop) (s : St) : Prop :=
  ∀ C a e FH, a.tmps.size = n → RelX P C s a e FH → ∀ (J : Act → World → Prop) (Q : Exit → Act → World → Prop), (∀ a' w' s', K s' → RelV P C n s' a' w' e FH → J a' w') → o.wp P a e.w J Q
theorem TWq.toO {o : Oper} {K : St → Prop} (h : TWq P n o K s) : TWo P n o K s := fun C a w J Q hr hk => by
  obtain ⟨hn, e, FH, rfl, hX⟩ := hr
  exact h C a e FH hn hX J Q fun a' w' s' hs hr => hk a' w' s' hs hr.rel
theorem TWq.mono {o : Oper} {K K' : St → Prop} (h : TWq P n o K s) (hk : ∀ s, K s → K' s) : TWq P n o K' s := fun C a e FH hn hX J Q hj => h C a e FH hn hX J Q fun a' w' s' hs hr => hj a' w' s' (hk s' hs) hr
theorem TWq.pure {o : Oper} {K : St → Prop} {r : TV} (hp : pureV P n s o = some r) (h : K (s.put o.dst r)) : TWq P n o K s := fun C a e FH hn hX J Q hj => by
  obtain ⟨v, hv, hrep⟩ := pure_sound hX hn hp
  unfold Oper.wp
  rw [hv _ (Same.refl e FH)]
  exact hj _ _ _ h (.put hn hX (.refl hX) o.dst hrep)
theorem TWq.grow {o : Oper} {K : St → Prop} (h : ∀ C a e FH, a.tmps.size = n → RelX P C s a e FH → ∃ v w' s', (execOp a.eval o).run P e.w = .ok (.value v) w' ∧ K s' ∧ RelV P C n s' (a.put o.dst v) w' e FH) : TWq P n o K s := fun C a e FH hn hX J Q hj => by
  obtain ⟨v, w', s', hv, hK, hr'⟩ := h C a e FH hn hX
  unfold Oper.wp
  rw [hv]
  exact hj _ _ _ hK hr'
end
end Go.Proofs.YtdomnlnanbekaaaGreatDoor.T

namespace Go.Proofs.YtdomnlnanbekaaaGreatDoor.T
set_option linter.unusedVariables false
set_option linter.unusedSimpArgs false
open Go.RowKit

theorem al_old (w : World) (o : Obj) (i : Nat) (h : i < w.heap.size) : (w.alloc o).heap[i]? = w.heap[i]? := by
  simp only [World.alloc, Array.getElem?_push]
  rw [if_neg (by omega)]
theorem al_new (w : World) (o : Obj) : (w.alloc o).heap[w.heap.size]? = some o := by
  show (w.heap.push o)[w.heap.size]? = _
  simp
def ext (η : Nat → Value) (i : Nat) (v : Value) : Nat → Value := fun j => if j = i then v else η j
theorem upd_del (H : Nat → Option TV) (i : Nat) (t : TV) : upd (del H i) i t = upd H i t := by
  funext j; by_cases h : j = i <;> simp [upd, del, h]
section
variable {P : Program} {C : Ctx} {n : Nat} {s : St} {a : Act} {e : Env} {FH : Nat → Foot} {w : World}
theorem Grow.refl (w : World) (X : Nat → Prop) : Grow w w X := ⟨rfl, rfl, rfl, Nat.le_refl _, fun _ _ _ => rfl⟩
theorem Grow.alloc (w : World) (o : Obj) (X : Nat → Prop) : Grow w (w.alloc o) X := ⟨rfl, rfl, rfl, by simp, fun k hk _ => al_old w o k hk⟩
theorem Grow.of_grown {w w' : World} {v : Value} (h : w.grownBy w' v.ownBlock) : Grow w w' (fun b => v.ownBlock = some b) := ⟨h.os, h.tape, h.output, h.size, fun b hb hx => h.block b hb (fun e => hx e.symm)⟩
theorem Grow.mono {w w' : World} {X Y : Nat → Prop} (h : Grow w w' X) (hs : ∀ b, X b → Y b) : Grow w w' Y := ⟨h.os, h.tape, h.output, h.size, fun b hb hy => h.block b hb fun hx => hy (hs b hx)⟩
theorem RelX.top_none (h : RelX P C s a e FH) : s.H e.N = none := h.top e.N (Nat.le_refl _)
theorem ext_old {η : Nat → Value} {N : Nat} {v : Value} : ∀ j, j < N → ext η N v j = η j := fun j hj => by simp [ext]; omega
theorem ext_new {η : Nat → Value} {N : Nat} {v : Value} : ext η N v N = v := by simp [ext]
/-- A new object under a new name. -/
theorem RelX.fresh (h : RelX P C s a e FH) {w' : World} (g : Grow e.w w' (fun _ => False)) {t : TV} {v : Value} {F' : Foot} (hr : Rep P ⟨w', e.Z, e.N + 1, ext e.η e.N v⟩ t v F') (hk : (∃ E rows, t = .own E rows) ∨ (∃ ty cs, t = .box ty cs) ∨ (∃ ty kvs, t = .mp ty kvs))
    (hF : ∀ b m, F' b m → e.w.heap.size ≤ b) (hlt : ∀ b m, F' b m → b < w'.heap.size) :
    ∃ FH', RelX P C ⟨s.σ, Go.Proofs.YtdomnlnanbekaaaGreatDoor.T.upd s.H e.N t⟩ a ⟨w', e.Z, e.N + 1, ext e.η e.N v⟩ FH' ∧ VisS e FH ⟨w', e.Z, e.N + 1, ext e.η e.N v⟩ FH' := by
  have hE : ∀ b m, ¬ FH e.N b m := h.none_ e.N h.top_none
  have := h.upd (i := e.N) (i' := e.N) (N' := e.N + 1) (η' := ext e.η e.N v) (w' := w') (t' := t) (F' := F') (g.mono fun b x => x.elim) (Nat.le_succ _) ext_old (.inl rfl) (Nat.lt_succ_self _) (by rw [ext_new]; exact hr) hk (fun b m hb => .inr (hF b m hb)) hlt
  rw [upd_del] at this
  refine ⟨_, this, h.ltF, g.size, fun b o u hb _ hc => ?_, fun i b m hi => ?_, fun i b m hi => .inl ⟨i, m, ?_, Nat.le_refl _⟩⟩
  · rw [cell_same (g.block b hb (fun x => x))]; exact hc
  · by_cases e1 : i = e.N
    · simp only [e1, if_true] at hi; exact .inl (hF b m hi)
    · simp only [e1, if_false] at hi; exact .inr ⟨i, m, hi⟩
  · have e1 : i ≠ e.N := fun x => hE b m (x ▸ hi)
    simp only [e1, if_false]; exact hi
theorem hd_rep {v : Value} (h1 : v.oneCell' = true) {w' : World} {Z : Nat → Prop} {N : Nat} {η : Nat → Value} : Rep P ⟨w', Z, N + 1, ext η N v⟩ (.hd N) v noF := by
  simp only [Rep]; exact ⟨emp_noF, Nat.lt_succ_self _, ext_new.symm, h1⟩
theorem pd_rep {g : Nat} {w' : World} {Z : Nat → Prop} {N : Nat} {η : Nat → Value} : Rep P ⟨w', Z, N + 1, ext η N (.pointer (some ⟨g, 0, none⟩))⟩ (.pd N 0 0 0) (.pointer (some ⟨g, 0, none⟩)) noF := by
  simp only [Rep]; exact ⟨emp_noF, Nat.lt_succ_self _, g, by rw [ext_new]; rfl, rfl⟩
theorem keep_new {w' : World} (h : RelX P C s a e FH) (g : Grow e.w w' (fun _ => False)) {N' : Nat} {η' : Nat → Value} (hN : e.N ≤ N') (hη : ∀ j, j < e.N → η' j = e.η j) : Keep e ⟨w', e.Z, N', η'⟩ noF :=
  ⟨fun b x => x, hN, hη, fun b hb => g.block b (h.ltZ b hb) id, fun b m x => x.elim⟩

/-- The world has grown, and some of what is new is only read from now on. -/
theorem RelX.growZ (h : RelX P C s a e FH) {w' : World} (g : Grow e.w w' (fun _ => False)) (Y : Nat → Prop) (hY : ∀ b, Y b → b < w'.heap.size ∧ e.w.heap.size ≤ b) :
    RelX P C s a ⟨w', fun b => e.Z b ∨ Y b, e.N, e.η⟩ FH := by
  have hk : ∀ {F : Foot}, (∀ b m, F b m → b < e.w.heap.size) → Keep e ⟨w', fun b => e.Z b ∨ Y b, e.N, e.η⟩ F := fun hF =>
    ⟨fun b x => .inl x, Nat.le_refl _, fun _ _ => rfl, fun b hb => g.block b (h.ltZ b hb) id, fun b m hb => g.block b (hF b m hb) id⟩
  refine ⟨h.dfr, fun j hj => Rep.keep _ (h.slots j hj) (hk fun b m x => x.elim), fun i t hi => Rep.keep _ (h.objs i t hi) (hk fun b m x => h.ltF i b m x), h.kind, h.none_, h.top, h.one, ?_, fun i b m hb => Nat.lt_of_lt_of_le (h.ltF i b m hb) g.size, ?_,
    g.os.trans h.os, g.tape.trans h.tape, g.output.trans h.output, Nat.le_trans h.size g.size, fun b hb => .inl (h.Z0 b hb), ?_, h.Ffrom, fun b hb hn => (g.block b (Nat.lt_of_lt_of_le hb h.size) id).trans (h.same b hb hn), h.mN, h.eta, h.laid⟩
  · rintro i b m hb (hz | hy)
    · exact h.notZ i b m hb hz
    · have := h.ltF i b m hb; have := (hY b hy).2; omega
  · rintro b (hz | hy)
    · exact Nat.lt_of_lt_of_le (h.ltZ b hz) g.size
    · exact (hY b hy).1
  · rintro b (hz | hy)
    · exact h.Zfrom b hz
    · exact .inr (.inr (Nat.le_trans h.size (hY b hy).2))
theorem growZ_vis (h : RelX P C s a e FH) {w' : World} (g : Grow e.w w' (fun _ => False)) {Z' : Nat → Prop} : VisS e FH ⟨w', Z', e.N, e.η⟩ FH :=
  ⟨h.ltF, g.size, fun b o u hb _ hc => by rw [cell_same (g.block b hb (fun x => x))]; exact hc, fun i b m hi => .inr ⟨i, m, hi⟩, fun i b m hi => .inl ⟨i, m, hi, Nat.le_refl _⟩⟩
/-- A variable in memory, from these cells. -/
theorem new_box (h : RelX P C s a e FH) (hn : a.tmps.size = n) {ty : TypeId} {cs : List TV} {vs : List Value} (hl : RepL P e cs vs noF) (h1 : Ones vs) (d : Option Tmp) :
    ∃ s', s' = St.put ⟨s.σ, Go.Proofs.YtdomnlnanbekaaaGreatDoor.T.upd s.H e.N (.box ty cs)⟩ d (.pd e.N 0 0 0) ∧ RelV P C n s' (a.put d (.pointer (some ⟨e.w.heap.size, 0, none⟩))) (e.w.alloc (.cells vs.toArray ty)) e FH := by
  refine ⟨_, rfl, ?_⟩
  have g := Grow.alloc e.w (.cells vs.toArray ty) (fun _ => False)
  have hl' := RepL.keep cs hl (keep_new h g (Nat.le_succ e.N) (ext_old (v := .pointer (some ⟨e.w.heap.size, 0, none⟩))))
  obtain ⟨FH', hX, hV⟩ := h.fresh g (t := .box ty cs) (v := .pointer (some ⟨e.w.heap.size, 0, none⟩)) (F' := Sgl e.w.heap.size vs.length) (by
    simp only [Rep]
    exact ⟨e.w.heap.size, vs, noF, rfl, al_new _ _, hl', h1, ⟨fun b m => ⟨.inl, fun x => x.elim id (fun y => y.elim)⟩, fun b m m' _ y => y⟩⟩) (.inr (.inl ⟨ty, cs, rfl⟩)) (fun b m hb => by rw [hb.1]; exact Nat.le_refl _) (fun b m hb => by rw [hb.1]; simp)
  exact RelV.put hn hX hV d pd_rep
/-- .. that is only read from now on. -/
theorem new_rbox (h : RelX P C s a e FH) (hn : a.tmps.size = n) {ty : TypeId} {cs : List TV} {vs : List Value} (hl : RepL P e cs vs noF) (h1 : Ones vs) (d : Option Tmp) :
    RelV P C n (s.put d (.rptr cs 0)) (a.put d (.pointer (some ⟨e.w.heap.size, 0, none⟩))) (e.w.alloc (.cells vs.toArray ty)) e FH := by
  have g := Grow.alloc e.w (.cells vs.toArray ty) (fun _ => False)
  have hX := RelX.growZ h g (fun b => b = e.w.heap.size) (fun b hb => ⟨by rw [hb]; simp, by rw [hb]; exact Nat.le_refl _⟩)
  refine RelV.put hn hX (growZ_vis h g) d ?_
  simp only [Rep]
  refine ⟨emp_noF, e.w.heap.size, 0, vs, rfl, .inr rfl, RepL.keep cs hl ⟨fun b x => .inl x, Nat.le_refl _, fun _ _ => rfl, fun b hb => g.block b (h.ltZ b hb) id, fun b m x => x.elim⟩, h1, fun j u hu => ?_⟩
  rw [cell_of_row _ _ _ vs.toArray ty (0, 0) (al_new _ _)]
  simpa using hu
end
end Go.Proofs.YtdomnlnanbekaaaGreatDoor.T

namespace Go.Proofs.YtdomnlnanbekaaaGreatDoor.T
set_option linter.unusedVariables false
set_option linter.unusedSimpArgs false
open Go.RowKit

def chunk (z : Nat) : Nat → List TV → List (List TV)
  | 0, _ => []
  | k + 1, l => l.take z :: chunk z k (l.drop z)
def bsRows (P : Program) (n : Nat) (s : St) (E len : Nat) (parts : List (Nat × Operand)) : Option (List (List TV)) :=
  match fillT (fun i => some (i * szOf P E, szOf P E)) (List.replicate (len * szOf P E) .any) (partsT n s parts) with
  | some cs => if cs.all TV.pc ∧ 0 < szOf P E ∧ len * szOf P E ≤ 16777216 ∧ (zeroT P E).isSome then some (chunk (szOf P E) len cs) else none
  | none => none

section
variable {P : Program} {C : Ctx} {n : Nat} {s : St} {a : Act} {e : Env} {FH : Nat → Foot} {w : World} {K : St → Prop} {o : Oper}
theorem zero_sound {t : TypeId} {z : List TV} (h : zeroT P t = some z) : ∃ v : Value, (zeroValue t).run P w = .ok v w ∧ RepL P e z v.cells.toList noF ∧ ∃ i, P.info? t = some i ∧ i.zero = some v := by
  unfold zeroT at h
  split at h
  · rename_i i hi
    split at h
    · rename_i v hv
      cases h
      exact ⟨v, by simp [zeroValue, typeInfo, hi, hv], repL_val e _, i, hi, hv⟩
    · cases h
  · cases h
theorem run_eff {m : Sem Value} {v : Value} {w' : World} (h : m.run P w = .ok v w') : (do pure (.value (← m)) : Sem Next).run P w = .ok (.value v) w' := by
  simp only [Sem.run_bind, h, Result.andThen_ok, Sem.run_pure]

theorem TWq.alloc {E : TypeId} {z : List TV} (ho : o.op = .alloc E) (hz : zeroT P E = some z) (hp : z.all TV.pc = true)
    (h : ∀ id, s.H id = none → K (St.put ⟨s.σ, upd s.H id (.box E z)⟩ o.dst (.pd id 0 0 0))) : TWq P n o K s := TWq.grow fun C a e FH hn hX => by
  obtain ⟨v, hv, hl, _⟩ := zero_sound (w := e.w) (e := e) hz
  obtain ⟨s', hs', hr⟩ := new_box hX hn (ty := E) hl (hl.ones hp) o.dst
  refine ⟨_, _, s', ?_, by rw [hs']; exact h _ hX.top_none, hr⟩
  unfold execOp
  rw [ho]
  refine run_eff ?_
  simp [Instr.alloc, hv, newVar, newRow]
theorem run_box {E : TypeId} {v : Value} : (Instr.box E v).run P w = .ok (.pointer (some ⟨w.heap.size, 0, none⟩)) (w.alloc (.cells v.cells E)) := by
  simp [Instr.box, newVar, newRow]
theorem TWq.box {E : TypeId} {x : Operand} {xs : List TV} (ho : o.op = .box E x) (hx : cellsOf (opV n s x) = some xs)
    (h : ∀ id, s.H id = none → K (St.put ⟨s.σ, upd s.H id (.box E xs)⟩ o.dst (.pd id 0 0 0))) : TWq P n o K s := TWq.grow fun C a e FH hn hX => by
  obtain ⟨hl, h1⟩ := cellsOf_rep (opV_rep hX hn x) hx
  obtain ⟨s', hs', hr⟩ := new_box hX hn (ty := E) hl h1 o.dst
  rw [Array.toArray_toList] at hr
  refine ⟨_, _, s', ?_, by rw [hs']; exact h _ hX.top_none, hr⟩
  unfold execOp
  rw [ho]
  exact run_eff run_box
theorem TWq.rbox {E : TypeId} {x : Operand} {xs : List TV} (ho : o.op = .box E x) (hx : cellsOf (opV n s x) = some xs)
    (h : K (s.put o.dst (.rptr xs 0))) : TWq P n o K s := TWq.grow fun C a e FH hn hX => by
  obtain ⟨hl, h1⟩ := cellsOf_rep (opV_rep hX hn x) hx
  have hr := new_rbox hX hn (ty := E) hl h1 o.dst
  rw [Array.toArray_toList] at hr
  refine ⟨_, _, _, ?_, h, hr⟩
  unfold execOp
  rw [ho]
  exact run_eff run_box
theorem chunk_rep {z : Nat} : ∀ (k : Nat) {cs : List TV} {vs : List Value}, RepL P e cs vs noF → cs.length = k * z → RepRows P e (chunk z k cs) vs noF ∧ (∀ r ∈ chunk z k cs, r.length = z) ∧ (chunk z k cs).length = k
  | 0, cs, vs, h, hl => by
    have : cs = [] := List.eq_nil_of_length_eq_zero (by simpa using hl)
    subst this
    simp only [RepL] at h
    simp [chunk, RepRows, h.1, emp_noF]
  | k + 1, cs, vs, h, hl => by
    rw [Nat.succ_mul] at hl
    obtain ⟨F1, F2, h1, h2, hs⟩ := RepL.split z h
    obtain ⟨h3, h4, h5⟩ := chunk_rep (z := z) k (h2.toN (emp_noF.sub hs.r)) (by rw [List.length_drop]; omega)
    simp only [chunk]
    refine ⟨?_, ?_, by simp [h5]⟩
    · simp only [RepRows]
      exact ⟨_, _, noF, noF, (List.take_append_drop z vs).symm, h1.toN (emp_noF.sub hs.l), h3, .of_emp emp_noF emp_noF emp_noF⟩
    · intro r hr
      rcases List.mem_cons.1 hr with rfl | hr
      · rw [List.length_take]; omega
      · exact h4 r hr
theorem bs_sound (hX : RelX P C s a e FH) (hn : a.tmps.size = n) {t E : TypeId} {len : Nat} {parts : Array (Nat × Operand)} {rows : List (List TV)} (ht : P.underlying t = some (.slice E)) (hr : bsRows P n s E len parts.toList = some rows) :
    ∃ vs : List Value, (Instr.buildSlice t len (parts.map fun (i, x) => (i, a.eval x))).run P e.w = .ok (.slice (some ⟨e.w.heap.size, 0, none⟩) len len) (e.w.alloc (.cells vs.toArray E)) ∧
      RepRows P e rows vs noF ∧ Ones vs ∧ (∀ r ∈ rows, r.length = szOf P E) ∧ rows.length = len ∧ len ≤ 16777216 := by
  unfold bsRows at hr
  split at hr
  · rename_i cs hf
    split at hr
    · rename_i hc
      cases hr
      obtain ⟨hpc, hz0, hlen, hzs⟩ := hc
      obtain ⟨ti, hti, hsz⟩ := info_of_sz hz0
      obtain ⟨zt, hzt⟩ := Option.isSome_iff_exists.1 hzs
      obtain ⟨zv, hzv, _⟩ := zero_sound (w := e.w) (e := e) hzt
      have hany : ∀ (vs : List Value), RepL P e (List.replicate vs.length .any) vs noF := by
        intro vs
        induction vs with
        | nil => simp [RepL, emp_noF]
        | cons v vs ih =>
          simp only [List.length_cons, List.replicate_succ, RepL]
          exact ⟨v, vs, noF, noF, rfl, by simp [Rep, emp_noF], ih, .of_emp emp_noF emp_noF emp_noF⟩
      generalize hcells : (if len * ti.size = 0 then (#[] : Array Value) else zv.cells) = zc
      have hinit := hany ((Array.range (len * ti.size)).map (zc[· % zc.size]!)).toList
      rw [show ((Array.range (len * ti.size)).map (zc[· % zc.size]!)).toList.length = len * szOf P E from by simp [hsz]] at hinit
      obtain ⟨cs', hfill, hl⟩ := fill_sound (P := P) (n := n) (s := s) (a := a) (e := e) parts.toList _ ((Array.range (len * ti.size)).map (zc[· % zc.size]!)) cs (opV_rep hX hn) hinit hf
      have hcl : ∀ (ps : List (Nat × Option (List TV))) (acc r : List TV), fillT (fun i => some (i * szOf P E, szOf P E)) acc ps = some r → r.length = acc.length := by
        intro ps
        induction ps with
        | nil => intro acc r h; simp only [fillT] at h; cases h; rfl
        | cons p ps ih =>
          intro acc r h
          obtain ⟨i, x⟩ := p
          cases x with
          | none => simp [fillT] at h
          | some xs =>
            simp only [fillT] at h
            split at h
            · rename_i hfit
              rw [ih _ _ h]
              simp only [List.length_append, List.length_take, List.length_drop]; omega
            · cases h
      have hlen' := hcl _ _ _ hf
      rw [List.length_replicate] at hlen'
      obtain ⟨c1, c2, c3⟩ := chunk_rep len hl hlen'
      refine ⟨cs'.toList, ?_, c1, hl.ones hpc, c2, c3, ?_⟩
      · simp only [← hsz] at hfill hlen
        have hbig : ¬ len * ti.size > 2 ^ 24 := by omega
        by_cases h0 : len * ti.size = 0
        · rw [if_pos h0] at hcells
          subst hcells
          simp [Instr.buildSlice, run_underlying ht, run_sizeOf hti, hbig, h0, newRow] at hfill ⊢
          simp [hfill]
        · rw [if_neg h0] at hcells
          subst hcells
          simp only [Instr.buildSlice, Sem.run_bind, run_underlying ht, Result.andThen_ok, run_sizeOf hti, hbig, if_false, h0, hzv, Array.toList_map, hfill, newRow, run_newObj, Sem.run_pure]
          rw [Array.toArray_toList]; rfl
      · have := Nat.le_mul_of_pos_right len hz0; omega
    · cases hr
  · cases hr
theorem ownsRow_fresh {w : World} {E size m : Nat} {vs : List Value} (hl : vs.length = m * size) (hm : m ≤ maxLen) : (w.alloc (.cells vs.toArray E)).ownsRow 0 E size (.slice (some ⟨w.heap.size, 0, none⟩) m m) m vs :=
  ⟨hl, .inr ⟨w.heap.size, m, vs.toArray, rfl, Nat.zero_le _, al_new _ _, Nat.le_refl _, hm, by simp [hl], by simp [← hl]⟩⟩
/-- A row of the call's own, new. -/
theorem new_row (h : RelX P C s a e FH) (hn : a.tmps.size = n) {E : TypeId} {rows : List (List TV)} {vs : List Value} (hr : RepRows P e rows vs noF) (h1 : Ones vs) (hz : ∀ r ∈ rows, r.length = szOf P E) (hm : rows.length ≤ maxLen) (d : Option Tmp) :
    ∃ s', s' = St.put ⟨s.σ, Go.Proofs.YtdomnlnanbekaaaGreatDoor.T.upd s.H e.N (.own E rows)⟩ d (.hd e.N) ∧ RelV P C n s' (a.put d (.slice (some ⟨e.w.heap.size, 0, none⟩) rows.length rows.length)) (e.w.alloc (.cells vs.toArray E)) e FH := by
  refine ⟨_, rfl, ?_⟩
  have g := Grow.alloc e.w (.cells vs.toArray E) (fun _ => False)
  have hr' := RepRows.keep rows hr (keep_new h g (Nat.le_succ e.N) (ext_old (v := .slice (some ⟨e.w.heap.size, 0, none⟩) rows.length rows.length)))
  obtain ⟨FH', hX, hV⟩ := h.fresh g (t := .own E rows) (v := .slice (some ⟨e.w.heap.size, 0, none⟩) rows.length rows.length) (F' := Sgl e.w.heap.size (rows.length * szOf P E)) (by
    simp only [Rep]
    exact ⟨vs, noF, ownsRow_fresh (hr.len hz) hm, hz, hr', h1, ⟨fun b m => ⟨fun hb => .inl ⟨by rw [hb.1]; rfl, hb.2⟩, fun x => x.elim (fun y => ⟨by have := y.1; simp [Value.ownBlock] at this; exact this.symm, y.2⟩) (fun y => y.elim)⟩, fun b m m' _ y => y⟩⟩) (.inl ⟨E, rows, rfl⟩) (fun b m hb => by rw [hb.1]; exact Nat.le_refl _) (fun b m hb => by rw [hb.1]; simp)
  exact RelV.put hn hX hV d (hd_rep rfl)
/-- .. that is only read from now on. -/
theorem new_rrow (h : RelX P C s a e FH) (hn : a.tmps.size = n) {E : TypeId} {rows : List (List TV)} {vs : List Value} (hr : RepRows P e rows vs noF) (h1 : Ones vs) {z : Nat} (hz : ∀ r ∈ rows, r.length = z) (d : Option Tmp) :
    RelV P C n (s.put d (.ro rows)) (a.put d (.slice (some ⟨e.w.heap.size, 0, none⟩) rows.length rows.length)) (e.w.alloc (.cells vs.toArray E)) e FH := by
  have g := Grow.alloc e.w (.cells vs.toArray E) (fun _ => False)
  have hX := RelX.growZ h g (fun b => b = e.w.heap.size) (fun b hb => ⟨by rw [hb]; simp, by rw [hb]; exact Nat.le_refl _⟩)
  refine RelV.put hn hX (growZ_vis h g) d ?_
  simp only [Rep]
  refine ⟨emp_noF, some ⟨e.w.heap.size, 0, none⟩, rows.length, vs, z, rfl, Nat.le_refl _, hz, RepRows.keep rows hr ⟨fun b x => .inl x, Nat.le_refl _, fun _ _ => rfl, fun b hb => g.block b (h.ltZ b hb) id, fun b m x => x.elim⟩, h1, .inr ⟨e.w.heap.size, 0, rfl, .inr rfl, fun j u hu => ?_⟩⟩
  rw [cell_of_row _ _ _ vs.toArray E (0, 0) (al_new _ _)]
  simpa using hu
theorem TWq.bslice {t E : TypeId} {len : Nat} {parts : Array (Nat × Operand)} {rows : List (List TV)} (ho : o.op = .buildSlice t len parts) (ht : P.underlying t = some (.slice E)) (hr : bsRows P n s E len parts.toList = some rows)
    (h : ∀ id, s.H id = none → K (St.put ⟨s.σ, upd s.H id (.own E rows)⟩ o.dst (.hd id))) : TWq P n o K s := TWq.grow fun C a e FH hn hX => by
  obtain ⟨vs, hrun, hrr, h1, hz, hl, hm⟩ := bs_sound hX hn ht hr
  obtain ⟨s', hs', hrel⟩ := new_row hX hn hrr h1 hz (by simp only [maxLen]; omega) o.dst
  rw [hl] at hrel
  refine ⟨_, _, s', ?_, by rw [hs']; exact h _ hX.top_none, hrel⟩
  unfold execOp
  rw [ho]
  exact run_eff hrun
theorem TWq.rbslice {t E : TypeId} {len : Nat} {parts : Array (Nat × Operand)} {rows : List (List TV)} (ho : o.op = .buildSlice t len parts) (ht : P.underlying t = some (.slice E)) (hr : bsRows P n s E len parts.toList = some rows)
    (h : K (s.put o.dst (.ro rows))) : TWq P n o K s := TWq.grow fun C a e FH hn hX => by
  obtain ⟨vs, hrun, hrr, h1, hz, hl, hm⟩ := bs_sound hX hn ht hr
  have hrel := new_rrow hX hn (E := E) hrr h1 hz o.dst
  rw [hl] at hrel
  refine ⟨_, _, _, ?_, h, hrel⟩
  unfold execOp
  rw [ho]
  exact run_eff hrun
def bytesT (P : Program) (t : TypeId) : Nat := match P.info? t with
  | some i => i.bytes
  | none => 0
theorem made_rows {z : List TV} {zc : Array Value} (hl : RepL P e z zc.toList noF) (hz : 0 < zc.size) : ∀ k : Nat, RepRows P e (List.replicate k z) (madeCells zc (k * zc.size)).toList noF
  | 0 => by simp [RepRows, madeCells, emp_noF]
  | k + 1 => by
    have ih := made_rows hl hz k
    have e1 : (madeCells zc ((k + 1) * zc.size)).toList = (madeCells zc (k * zc.size)).toList ++ zc.toList := by
      apply List.ext_getElem?
      intro j
      simp only [madeCells, Array.toList_map, Array.toList_range, List.getElem?_map, List.getElem?_append, List.length_map, List.length_range]
      by_cases h1 : j < k * zc.size
      · rw [if_pos h1, List.getElem?_range (by rw [Nat.succ_mul]; omega), List.getElem?_range h1]
      · rw [if_neg h1]
        by_cases h2 : j < (k + 1) * zc.size
        · rw [List.getElem?_range h2]
          rw [Nat.succ_mul] at h2
          have h3 : j - k * zc.size < zc.size := by omega
          have h4 : j % zc.size = j - k * zc.size := by
            have : j = (j - k * zc.size) + zc.size * k := by rw [Nat.mul_comm zc.size k]; omega
            rw [this, Nat.add_mul_mod_self_left, Nat.mod_eq_of_lt h3]
            rw [Nat.mul_comm zc.size k]; omega
          simp [h4, h3]
        · rw [List.getElem?_eq_none (by simp; omega), List.getElem?_eq_none (by simp; rw [Nat.succ_mul] at h2; omega)]
          rfl
    rw [e1, List.replicate_succ']
    have h3 : RepRows P e [z] zc.toList noF := by
      simp only [RepRows]
      exact ⟨zc.toList, [], noF, noF, by simp, hl, ⟨rfl, emp_noF⟩, .of_emp emp_noF emp_noF emp_noF⟩
    exact RepRows.foot _ (ih.append h3 (Dis.emp emp_noF)) fun b m => ⟨fun x => x.elim, fun x => x.elim id id⟩
theorem made_ones {zc : Array Value} (h1 : Ones zc.toList) (hz : 0 < zc.size) (k : Nat) : Ones (madeCells zc k).toList := by
  intro u hu
  simp only [madeCells, Array.toList_map, Array.toList_range, List.mem_map, List.mem_range] at hu
  obtain ⟨j, _, rfl⟩ := hu
  have hj := Nat.mod_lt j hz
  refine h1 _ ?_
  rw [getElem!_pos zc (j % zc.size) hj]
  exact Array.getElem_mem_toList hj
theorem TWq.makeSlice {t E : TypeId} {l c : Operand} {k k' : IntKind} {m : Nat} {z : List TV} (ho : o.op = .makeSlice t l c) (ht : P.underlying t = some (.slice E)) (hz : zeroT P E = some z) (hp : z.all TV.pc = true) (hzl : z.length = szOf P E) (hz0 : 0 < szOf P E)
    (hl : opV n s l = .val (.int k m)) (hc : opV n s c = .val (.int k' m)) (hb : bytesT P E * m ≤ 281474976710656) (hm : m ≤ 9223372036854775807)
    (h : ∀ id, s.H id = none → K (St.put ⟨s.σ, upd s.H id (.own E (List.replicate m z))⟩ o.dst (.hd id))) : TWq P n o K s := TWq.grow fun C a e FH hn hX => by
  obtain ⟨zv, _, hzr, ti, hti, hzv⟩ := zero_sound (w := e.w) (e := e) hz
  have hl' := opV_rep hX hn l
  have hc' := opV_rep hX hn c
  rw [hl] at hl'
  rw [hc] at hc'
  simp only [Rep] at hl' hc'
  have hsz : ti.size = szOf P E := by simp [szOf, hti]
  have hcs : zv.cells.size = szOf P E := by rw [← Array.length_toList, hzr.len, hzl]
  have hby : bytesT P E = ti.bytes := by simp [bytesT, hti]
  have hb' : ((bytesT P E : Nat) : Int) * (m : Int) ≤ 281474976710656 := by
    have h : ((bytesT P E * m : Nat) : Int) ≤ 281474976710656 := by omega
    rwa [Int.natCast_mul] at h
  have hrun := run_make (P := P) e.w t E ti zv ht hti hzv k k' m m (by omega) (Int.le_refl _) (by rw [← hby]; exact hb') (by omega)
  simp only [Int.toNat_natCast] at hrun
  have hrows := made_rows hzr (by omega) m
  rw [hcs, ← hsz] at hrows
  have h1 := made_ones (hzr.ones hp) (by omega) (m * ti.size)
  obtain ⟨s', hs', hrel⟩ := new_row hX hn hrows h1 (E := E) (fun r hr => by rw [List.eq_of_mem_replicate hr]; exact hzl) (by rw [List.length_replicate]; simp only [maxLen]; omega) o.dst
  rw [List.length_replicate, Array.toArray_toList] at hrel
  refine ⟨_, _, s', ?_, by rw [hs']; exact h _ hX.top_none, hrel⟩
  unfold execOp
  rw [ho]
  refine run_eff ?_
  rw [hl'.2, hc'.2]
  exact hrun
end
end Go.Proofs.YtdomnlnanbekaaaGreatDoor.T

namespace Go.Proofs.YtdomnlnanbekaaaGreatDoor.T
set_option linter.unusedVariables false
set_option linter.unusedSimpArgs false
open Go.RowKit

def rowsOf (s : St) (y : TV) : Option (List (List TV)) := match y with
  | .ro rows => some rows
  | .val (.slice none 0 0) => some []
  | .hd id => match s.H id with
    | some (.own _ rows) => if rows.all (fun r => r.all TV.plain) then some rows else none
    | _ => none
  | .sl id z r n => match s.H id with
    | some (.own _ rows) => if rows.all (fun r => r.all TV.plain) ∧ (∀ q ∈ rows, q.length = z) then some ((rows.drop r).take n) else none
    | _ => none
  | _ => none
section
variable {P : Program} {C : Ctx} {n : Nat} {s : St} {a : Act} {e : Env} {FH : Nat → Foot} {w : World} {K : St → Prop} {o : Oper}
theorem RepRows.plain : ∀ {rs : List (List TV)} {vs : List Value} {F : Foot}, RepRows P e rs vs F → rs.all (fun r => r.all TV.plain) = true → RepRows P e rs vs noF
  | [], vs, F, h, hp => by simp only [RepRows] at h ⊢; exact ⟨h.1, emp_noF⟩
  | t :: ts, vs, F, h, hp => by
    simp only [RepRows] at h ⊢
    obtain ⟨v, vs', F1, F2, hv, h1, h2, hs⟩ := h
    simp only [List.all_cons, Bool.and_eq_true] at hp
    exact ⟨v, vs', noF, noF, hv, h1.plain hp.1, RepRows.plain h2 hp.2, .of_emp emp_noF emp_noF emp_noF⟩
theorem src_rep (h : RelX P C s a e FH) {y : TV} {v : Value} {rows : List (List TV)} (hy : Rep P e y v noF) (hr : rowsOf s y = some rows) :
    ∃ A c vs, v = .slice A rows.length c ∧ RepRows P e rows vs noF ∧ Ones vs ∧ (vs = [] ∨ ∃ b o, A = some ⟨b, o, none⟩ ∧ ∀ j u, vs[j]? = some u → e.w.cell? ⟨b, o + j, none⟩ = some u) := by
  unfold rowsOf at hr
  split at hr
  · cases hr
    simp only [Rep] at hy
    obtain ⟨_, A, c, vs, z, rfl, hc, hz, hrr, h1, hcell⟩ := hy
    exact ⟨A, c, vs, rfl, hrr, h1, hcell.imp id fun ⟨b, o, h1, _, h2⟩ => ⟨b, o, h1, h2⟩⟩
  · cases hr
    simp only [Rep] at hy
    obtain ⟨_, rfl⟩ := hy
    exact ⟨none, 0, [], rfl, ⟨rfl, emp_noF⟩, by simp [Ones], .inl rfl⟩
  · rename_i id
    split at hr
    · rename_i E rows' hH
      split at hr
      · rename_i hp
        cases hr
        simp only [Rep] at hy
        obtain ⟨_, _, rfl, _⟩ := hy
        have hO := h.objs id _ hH
        simp only [Rep] at hO
        obtain ⟨vs, F', ho, hz, hrr, h1, hs⟩ := hO
        rcases ownsRow_cells ho with ⟨hv, hn, rfl⟩ | ⟨g, cap, hv, hc, hcs⟩
        · exact ⟨none, 0, [], by rw [hv, hn], hrr.plain hp, h1, .inl rfl⟩
        · exact ⟨some ⟨g, 0, none⟩, cap, vs, hv, hrr.plain hp, h1, .inr ⟨g, 0, rfl, hcs⟩⟩
      · cases hr
    · cases hr
  · rename_i id z r n
    split at hr
    · rename_i E rows' hH
      split at hr
      · rename_i hp
        cases hr
        obtain ⟨hp, hz1⟩ := hp
        simp only [Rep] at hy
        obtain ⟨_, _, A, m, cap, hη, hA, rfl, hrm, hmc⟩ := hy
        have hO := h.objs id _ hH
        simp only [Rep] at hO
        obtain ⟨vs, F', ho, hz, hrr, h1, hs⟩ := hO
        have hm : m = rows'.length := by
          rcases ownsRow_cells ho with ⟨hv, hn, rfl⟩ | ⟨g, cap', hv, hc, hcs⟩
          · rw [hη] at hv; injection hv with _ e _; omega
          · rw [hη] at hv; injection hv
        subst hm
        obtain ⟨G1, G2, _, g2, _⟩ := RepRows.split r (hrr.plain hp) hz1
        obtain ⟨G3, G4, g3, _, _⟩ := RepRows.split n g2 (fun q hq => hz1 q (List.mem_of_mem_drop hq))
        have g4 := RepRows.plain g3 (by
          simp only [List.all_eq_true] at hp ⊢
          exact fun q hq => hp q (List.mem_of_mem_drop (List.mem_of_mem_take hq)))
        have hln : ((rows'.drop r).take n).length = n := by simp only [List.length_take, List.length_drop]; omega
        refine ⟨if cap = r then A else A.map (·.add (r * z)), cap - r, (vs.drop (r * z)).take (n * z), by rw [hln], g4, fun u hu => h1 u (List.mem_of_mem_drop (List.mem_of_mem_take hu)), ?_⟩
        rcases ownsRow_cells ho with ⟨hv, hn, rfl⟩ | ⟨g, cap', hv, hc, hcs⟩
        · left; simp
        · by_cases hn : n = 0
          · left; subst hn; simp
          · right
            rw [hη] at hv
            injection hv with e1 e2 e3
            rw [if_neg (by omega), e1]
            refine ⟨g, r * z, by simp [add_mk], fun j u hu => ?_⟩
            rw [List.getElem?_take] at hu
            split at hu
            · rw [List.getElem?_drop] at hu
              have := hcs _ u hu
              rwa [Nat.zero_add] at this
            · cases hu
      · cases hr
    · cases hr
  · cases hr
theorem own_one {v : Value} {base E size m : Nat} {xs : List Value} (h : w.ownsRow base E size v m xs) : v.oneCell' = true := by
  rcases ownsRow_cells h with ⟨rfl, _⟩ | ⟨g, cap, rfl, _⟩ <;> rfl
theorem own_lt' {v : Value} {E size m : Nat} {xs : List Value} (h : w.ownsRow 0 E size v m xs) {b : Nat} (hb : v.ownBlock = some b) : b < w.heap.size := (h.lt b hb).2
/-- append: what the operation does with a row that the call owns. -/
theorem app_run {t E ty : TypeId} {v vy : Value} {rows rows' : List (List TV)} {vs : List Value} {z : List TV} (ht : P.underlying t = some (.slice E)) (hz : zeroT P E = some z) (hzl : z.length = szOf P E) (hz0 : 0 < szOf P E)
    (ho : w.ownsRow 0 E (szOf P E) v rows.length vs) {A : Option Addr} {c : Nat} {vs' : List Value} (hvy : vy = .slice A rows'.length c) (hl : vs'.length = rows'.length * szOf P E) (h1 : Ones vs')
    (hcs : vs' = [] ∨ ∃ b o, A = some ⟨b, o, none⟩ ∧ ∀ j u, vs'[j]? = some u → w.cell? ⟨b, o + j, none⟩ = some u) (hm : (rows.length + rows'.length) * bytesT P E ≤ 140737488355328) (hm' : rows.length + rows'.length ≤ 9223372036854775807) :
    ∃ v' w', (Builtin.append_ #[t, t] ty #[v, vy]).run P w = .ok v' w' ∧ w'.ownsRow 0 E (szOf P E) v' (rows.length + rows'.length) (vs ++ vs') ∧ w.grownBy w' v.ownBlock ∧ (v'.ownBlock = v.ownBlock ∨ (v'.ownBlock = some w.heap.size ∧ Grow w w' (fun _ => False))) := by
  obtain ⟨zv, _, hzr, ti, hti, hzv⟩ := zero_sound (w := w) (e := ⟨w, fun _ => False, 0, fun _ => undef⟩) hz
  have hsz : ti.size = szOf P E := by simp [szOf, hti]
  have hby : ti.bytes = bytesT P E := by simp [bytesT, hti]
  have hcz : zv.cells.size = szOf P E := by rw [← Array.length_toList, hzr.len, hzl]
  have nil_case : rows'.length = 0 → ∀ A, ∃ v' w', (Builtin.append_ #[t, t] ty #[v, .slice A 0 c]).run P w = .ok v' w' ∧ w'.ownsRow 0 E (szOf P E) v' (rows.length + rows'.length) (vs ++ vs') ∧ w.grownBy w' v.ownBlock ∧ (v'.ownBlock = v.ownBlock ∨ (v'.ownBlock = some w.heap.size ∧ Grow w w' (fun _ => False))) := by
    intro h0 A
    have : vs' = [] := List.eq_nil_of_length_eq_zero (by rw [hl, h0, Nat.zero_mul])
    subst this
    refine ⟨v, w, ?_, by rw [h0, Nat.add_zero, List.append_nil]; exact ho, ⟨rfl, rfl, rfl, Nat.le_refl _, fun _ _ _ => rfl⟩, .inl rfl⟩
    rcases ho.2 with ⟨rfl, _⟩ | ⟨g, cap, cur, rfl, _, _, hnc, _⟩ <;> cases A
    · simp [Builtin.append_, run_underlying ht, sizeOf, typeInfo, hti, Builtin.lenOf, Builtin.firstCells]
    · simp [Builtin.append_, run_underlying ht, sizeOf, typeInfo, hti, Builtin.lenOf, Builtin.firstCells, loadCells, loadCellsFrom]
    · simp [Builtin.append_, run_underlying ht, sizeOf, typeInfo, hti, Builtin.lenOf, Builtin.firstCells, hnc, storeCells]
    · simp [Builtin.append_, run_underlying ht, sizeOf, typeInfo, hti, Builtin.lenOf, Builtin.firstCells, hnc, storeCells, loadCells, loadCellsFrom]
  subst hvy
  by_cases h0 : rows'.length = 0
  · rw [h0]
    have := nil_case h0 A
    rw [h0] at this; exact this
  · rcases hcs with rfl | ⟨b, o1, rfl, hcs⟩
    · exfalso
      have := Nat.mul_pos (Nat.pos_of_ne_zero h0) hz0
      simp at hl; omega
    · obtain ⟨v', w', hr, h2, h3, _, h5⟩ := run_append_own_at (P := P) w 0 t ty E ti zv (szOf P E) (bytesT P E) ht hti hzv hsz hby hcz hz0 v rows.length vs ho ⟨b, o1, none⟩ rows'.length c vs' hl (fun j u hu => by rw [add_mk]; exact hcs j u hu) h1 (by simp only [maxLen]; omega) hm (Nat.zero_le _)
      refine ⟨v', w', hr, h2, h3, ?_⟩
      have hcs' : ∀ j u, vs'[j]? = some u → w.cell? ((⟨b, o1, none⟩ : Addr).add j) = some u := fun j u hu => by rw [add_mk]; exact hcs j u hu
      have gr : ∀ X : Obj, Grow w (w.drew.alloc X) (fun _ => False) := fun X => ⟨rfl, rfl, rfl, by simp, fun k hk _ => al_old w.drew X k hk⟩
      have hm48 : (rows.length + rows'.length) * ti.bytes ≤ 281474976710656 := by rw [hby]; omega
      rcases ho.2 with ⟨rfl, hn⟩ | ⟨g, cap, cur, rfl, _, hg, hnc, hcm, hcsz, _⟩
      · have hl' : vs'.length = rows'.length * ti.size := by rw [hsz]; exact hl
        have hr2 := run_append_nil (P := P) w t ty E ti zv ht hti hzv ⟨b, o1, none⟩ rows'.length c vs' hl' hcs' (by omega) (by omega) (by rw [hn, Nat.zero_add] at hm48; exact hm48)
        rw [hr] at hr2
        injection hr2 with e1 e2
        subst e1 e2
        exact .inr ⟨rfl, gr _⟩
      · by_cases hroom : rows.length + rows'.length ≤ cap
        · have hl' : vs'.length = rows'.length * ti.size := by rw [hsz]; exact hl
          have hr2 := run_append_room (P := P) w t ty E ti ht hti g rows.length cap cur hg ⟨b, o1, none⟩ rows'.length c vs' hl' hcs' h1 hroom (by
            rw [hcsz, hl', hsz, ← Nat.add_mul]; exact Nat.mul_le_mul_right _ hroom)
          rw [hr] at hr2
          injection hr2 with e1 e2
          subst e1
          exact .inl rfl
        · have hl' : vs'.length = rows'.length * ti.size := by rw [hsz]; exact hl
          have hr2 := run_append_grow (P := P) w t ty E ti zv ht hti hzv ⟨g, 0, none⟩ rows.length cap vs (by rw [hsz]; exact ho.1) (ho.cells (g := g) rfl) ⟨b, o1, none⟩ rows'.length c vs' hl' hcs' (by omega) (by omega) (growslice_fits (by omega) (by rw [hby]; exact hm))
          rw [hr] at hr2
          injection hr2 with e1 e2
          subst e1 e2
          exact .inr ⟨rfl, gr _⟩
/-- append to a row that the call owns. -/
theorem TWq.append {t E : TypeId} {x y : Operand} {id : Nat} {rows rows' : List (List TV)} {z : List TV} (ho : o.op = .call { callee := .builtin .append, args := #[x, y], argTypes := #[t, t] }) (ht : P.underlying t = some (.slice E))
    (hz : zeroT P E = some z) (hzl : z.length = szOf P E) (hz0 : 0 < szOf P E) (hx : opV n s x = .hd id) (hH : s.H id = some (.own E rows)) (hy : rowsOf s (opV n s y) = some rows') (hrl : ∀ r ∈ rows', r.length = szOf P E)
    (hm : (rows.length + rows'.length) * bytesT P E ≤ 140737488355328) (hm' : rows.length + rows'.length ≤ 9223372036854775807)
    (h : ∀ id', s.H id' = none → K (St.put ⟨s.σ, upd (del s.H id) id' (.own E (rows ++ rows'))⟩ o.dst (.hd id'))) : TWq P n o K s := TWq.grow fun C a e FH hn hX => by
  have hxr := opV_rep hX hn x
  rw [hx] at hxr
  simp only [Rep] at hxr
  obtain ⟨_, hid, hxv, _⟩ := hxr
  have hO := hX.objs id _ hH
  simp only [Rep] at hO
  obtain ⟨vs, F1, hown, hzz, hrr, h1, hs⟩ := hO
  obtain ⟨A, c, vs', hyv, hrr', h1', hcs⟩ := src_rep hX (opV_rep hX hn y) hy
  obtain ⟨v', w', hrun, hown', hg, hat⟩ := app_run (P := P) (ty := o.type) ht hz hzl hz0 hown hyv (hrr'.len hrl) h1' hcs hm hm'
  have g := Grow.of_grown hg
  have g' : Grow e.w w' (fun b => ∃ m, FH id b m) := g.mono fun b hb => ⟨_, hs.l b _ ⟨hb, rfl⟩⟩
  have hkeep : ∀ {F : Foot}, Sub F F1 → Keep e ⟨w', e.Z, e.N + 1, ext e.η e.N v'⟩ F := fun {F} hF =>
    ⟨fun b x => x, Nat.le_succ _, ext_old, fun b hb => g'.block b (hX.ltZ b hb) fun ⟨m, hm⟩ => hX.notZ id b m hm hb, fun b m hb => by
      have hlt := hX.ltF id b m (hs.r b m (hF b m hb))
      refine g.block b hlt fun he => ?_
      exact hs.dis b _ m ⟨he, rfl⟩ (hF b m hb)⟩
  have hrep : Rep P ⟨w', e.Z, e.N + 1, ext e.η e.N v'⟩ (.own E (rows ++ rows')) v' (Uni (OwnF v' ((rows ++ rows').length * szOf P E)) F1) := by
    simp only [Rep]
    have ha := (RepRows.keep rows hrr (hkeep (fun _ _ h => h))).append (RepRows.keep rows' hrr' (hkeep (F := noF) (fun b m x => x.elim))) (Dis.emp emp_noF)
    refine ⟨vs ++ vs', F1, by rw [List.length_append]; exact hown', ?_, RepRows.foot _ ha (fun b m => ⟨.inl, fun x => x.elim (fun y => y) (fun y => y.elim)⟩), ?_, spl_uni ?_⟩
    · intro r hr
      rcases List.mem_append.1 hr with hr | hr
      · exact hzz r hr
      · exact hrl r hr
    · intro u hu
      rcases List.mem_append.1 hu with hu | hu
      · exact h1 u hu
      · exact h1' u hu
    · rintro b m m' ⟨hb, _⟩ hb'
      rcases hat with hat | ⟨hat, _⟩
      · rw [hat] at hb; exact hs.dis b _ m' ⟨hb, rfl⟩ hb'
      · rw [hat] at hb
        have := hX.ltF id b m' (hs.r b m' hb')
        injection hb with hb; omega
  have hne : e.N ≠ id := by omega
  have hX' := hX.upd (i := id) (i' := e.N) (N' := e.N + 1) (η' := ext e.η e.N v') (t' := .own E (rows ++ rows')) g' (Nat.le_succ _) ext_old (.inr (Nat.le_refl _)) (Nat.lt_succ_self _) (by rw [ext_new]; exact hrep) (.inl ⟨_, _, rfl⟩)
    (by
      rintro b m (⟨hb, _⟩ | hb)
      · rcases hat with hat | ⟨hat, _⟩
        · rw [hat] at hb; exact .inl ⟨_, hs.l b _ ⟨hb, rfl⟩⟩
        · rw [hat] at hb; injection hb with hb; exact .inr (by omega)
      · exact .inl ⟨m, hs.r b m hb⟩)
    (by
      rintro b m (⟨hb, _⟩ | hb)
      · exact own_lt' hown' hb
      · exact Nat.lt_of_lt_of_le (hX.ltF id b m (hs.r b m hb)) g.size)
  have hvis : VisS e FH ⟨w', e.Z, e.N + 1, ext e.η e.N v'⟩ (fun j => if j = e.N then Uni (OwnF v' ((rows ++ rows').length * szOf P E)) F1 else if j = id then Go.Proofs.YtdomnlnanbekaaaGreatDoor.T.noF else FH j) := by
    refine ⟨hX.ltF, g.size, fun b o u hb hv hc => ?_, fun i b m hi => ?_, fun i b m hi => ?_⟩
    · by_cases hbo : (e.η id).ownBlock = some b
      · rcases hat with hat | ⟨_, hgr⟩
        · have hF : FH id b (rows.length * szOf P E) := hs.l b _ ⟨hbo, rfl⟩
          have hlt : o < vs.length := by
            rw [hrr.len hzz]
            rcases hv with hv | ⟨i, m, hi, ho'⟩
            · exact (hv _ _ hF).elim
            · have := hX.one i id b _ _ hi hF
              subst this
              rcases (hs.iff b m).1 hi with hi | hi
              · rw [hi.2] at ho'; exact ho'
              · exact (hs.dis b _ m ⟨hbo, rfl⟩ hi).elim
          rcases ownsRow_cells hown with ⟨hv0, _⟩ | ⟨gg, cap, hv0, _, hcells⟩
          · rw [hv0] at hbo; simp [Value.ownBlock] at hbo
          · have e1 : gg = b := by rw [hv0] at hbo; simpa [Value.ownBlock] using hbo
            subst e1
            have h2 := hcells o _ (List.getElem?_eq_getElem hlt)
            rw [Nat.zero_add, hc] at h2
            rcases ownsRow_cells hown' with ⟨hv1, _⟩ | ⟨gg', cap', hv1, _, hcells'⟩
            · rw [hv1, hv0] at hat; simp [Value.ownBlock] at hat
            · have e2 : gg' = gg := by rw [hv1, hv0] at hat; simpa [Value.ownBlock] using hat
              subst e2
              have h3 := hcells' o (vs[o]) (by rw [List.getElem?_append_left hlt]; exact List.getElem?_eq_getElem hlt)
              rw [Nat.zero_add] at h3
              rw [h2]; exact h3
        · rw [cell_same (hgr.block b hb (fun x => x))]; exact hc
      · rw [cell_same (g.block b hb hbo)]; exact hc
    · by_cases e1 : i = e.N
      · simp only [e1, if_true] at hi
        rcases hi with ⟨hb, _⟩ | hb
        · rcases hat with hat | ⟨hat, _⟩
          · rw [hat] at hb; exact .inr ⟨id, _, hs.l b _ ⟨hb, rfl⟩⟩
          · rw [hat] at hb; injection hb with hb; exact .inl (by omega)
        · exact .inr ⟨id, m, hs.r b m hb⟩
      · by_cases e2 : i = id
        · simp only [e2, Ne.symm hne, if_true, if_false] at hi; exact hi.elim
        · simp only [e1, e2, if_false] at hi; exact .inr ⟨i, m, hi⟩
    · by_cases e2 : i = id
      · subst e2
        rcases (hs.iff b m).1 hi with hi | hi
        · rcases hat with hat | ⟨hat, _⟩
          · refine .inl ⟨e.N, (rows ++ rows').length * szOf P E, ?_, ?_⟩
            · simp only [if_true]; exact .inl ⟨by rw [hat]; exact hi.1, rfl⟩
            · rw [hi.2, List.length_append]; exact Nat.mul_le_mul_right _ (Nat.le_add_right _ _)
          · refine .inr fun j m' hj => ?_
            have hFi : FH i b (rows.length * szOf P E) := hs.l b _ ⟨hi.1, rfl⟩
            by_cases e1 : j = e.N
            · simp only [e1, if_true] at hj
              rcases hj with ⟨hb, _⟩ | hb
              · rw [hat] at hb; injection hb with hb
                have := hX.ltF i b _ hFi; omega
              · exact hs.dis b _ m' ⟨hi.1, rfl⟩ hb
            · by_cases e3 : j = i
              · simp only [e3, Ne.symm hne, if_true, if_false] at hj; exact hj
              · simp only [e1, e3, if_false] at hj; exact e3 (hX.one j i b _ _ hj hFi)
        · exact .inl ⟨e.N, m, by simp only [if_true]; exact .inr hi, Nat.le_refl _⟩
      · have hiN : i ≠ e.N := fun x => hX.none_ e.N hX.top_none b m (x ▸ hi)
        exact .inl ⟨i, m, by simp only [hiN, e2, if_false]; exact hi, Nat.le_refl _⟩
  refine ⟨v', w', _, ?_, h _ hX.top_none, RelV.put hn hX' hvis o.dst (hd_rep (own_one hown'))⟩
  unfold execOp
  rw [ho]
  simp [resolve, invoke, builtin, hxv, hrun]
/-- append to nil. -/
theorem TWq.appendNil {t E : TypeId} {x y : Operand} {rows' : List (List TV)} {z : List TV} (ho : o.op = .call { callee := .builtin .append, args := #[x, y], argTypes := #[t, t] }) (ht : P.underlying t = some (.slice E))
    (hz : zeroT P E = some z) (hzl : z.length = szOf P E) (hz0 : 0 < szOf P E) (hx : opV n s x = .val (.slice none 0 0)) (hy : rowsOf s (opV n s y) = some rows') (hrl : ∀ r ∈ rows', r.length = szOf P E)
    (hm : rows'.length * bytesT P E ≤ 140737488355328) (hm' : rows'.length ≤ 9223372036854775807)
    (h : ∀ id', s.H id' = none → K (St.put ⟨s.σ, upd s.H id' (.own E rows')⟩ o.dst (.hd id'))) : TWq P n o K s := TWq.grow fun C a e FH hn hX => by
  have hxr := opV_rep hX hn x
  rw [hx] at hxr
  simp only [Rep] at hxr
  obtain ⟨_, hxv⟩ := hxr
  obtain ⟨A, c, vs', hyv, hrr', h1', hcs⟩ := src_rep hX (opV_rep hX hn y) hy
  obtain ⟨v', w', hrun, hown', hg, hat⟩ := app_run (P := P) (ty := o.type) (w := e.w) (rows := []) (vs := []) ht hz hzl hz0 (World.ownsRow_nil _ _ _ _) hyv (hrr'.len hrl) h1' hcs (by simpa using hm) (by simpa using hm')
  have g : Grow e.w w' (fun _ => False) := (Grow.of_grown hg).mono fun b hb => by simp [Value.ownBlock] at hb
  have hrep : Rep P ⟨w', e.Z, e.N + 1, ext e.η e.N v'⟩ (.own E rows') v' (OwnF v' (rows'.length * szOf P E)) := by
    simp only [Rep]
    refine ⟨vs', noF, by simpa using hown', hrl, RepRows.keep rows' hrr' (keep_new hX g (Nat.le_succ _) ext_old), h1', ⟨fun b m => ⟨.inl, fun x => x.elim id (fun y => y.elim)⟩, fun b m m' _ y => y⟩⟩
  obtain ⟨FH', hX', hvis⟩ := hX.fresh g hrep (.inl ⟨_, _, rfl⟩) (by
      rintro b m ⟨hb, _⟩
      rcases hat with hat | ⟨hat, _⟩
      · rw [hat] at hb; simp [Value.ownBlock] at hb
      · rw [hat] at hb; injection hb with hb; omega) (by rintro b m ⟨hb, _⟩; exact own_lt' hown' hb)
  refine ⟨v', w', _, ?_, h _ hX.top_none, RelV.put hn hX' hvis o.dst (hd_rep (own_one hown'))⟩
  unfold execOp
  rw [ho]
  simp [resolve, invoke, builtin, hxv, hrun]

theorem run_store' {t : TypeId} {v : Value} {b o1 : Nat} {E : TypeId} {cur : Array Value} (hg : w.heap[b]? = some (.cells cur E (0, 0))) (hi : ∃ i, P.info? t = some i ∧ i.size = v.cells.size) (h1 : Ones v.cells.toList) (hfit : o1 + v.cells.size ≤ cur.size) :
    (Instr.storeAt t (.pointer (some ⟨b, o1, none⟩)) v).run P w = .ok () (w.setRow b (cur.toList.take o1 ++ v.cells.toList ++ cur.toList.drop (o1 + v.cells.size)).toArray) := by
  obtain ⟨i, hi, hsz⟩ := hi
  have hst := run_storeCells_at P b o1 E v.cells.toList 0 cur w hg (by simpa using hfit) h1
  simp only [Nat.add_zero, Array.length_toList] at hst
  simp [Instr.storeAt, Instr.sureAddr, storeVar, run_sizeOf hi, hsz, hst]
theorem setRow_here {b : Nat} {E : TypeId} {cur cs : Array Value} (hg : w.heap[b]? = some (.cells cur E (0, 0))) : (w.setRow b cs).heap[b]? = some (.cells cs E (0, 0)) := setRow_heap w b _ _ E (0, 0) hg
theorem grow_setRow (b : Nat) (cs : Array Value) : Grow w (w.setRow b cs) (fun b' => b' = b) := ⟨rfl, rfl, rfl, by simp, fun k _ hk => setRow_other w b k _ (fun h => hk h)⟩
theorem RepL.seg {acc : List TV} {cs : List Value} {F : Foot} {xs : List TV} {vs : List Value} (off : Nat) (h : RepL P e acc cs F) (hx : RepL P e xs vs noF) (hfit : off + xs.length ≤ acc.length) :
    ∃ F', RepL P e (acc.take off ++ xs ++ acc.drop (off + xs.length)) (cs.take off ++ vs ++ cs.drop (off + vs.length)) F' ∧ Sub F' F := by
  rw [hx.len]
  obtain ⟨F1, F2, h1, h2, hs⟩ := RepL.split off h
  obtain ⟨F3, F4, _, h4, hs'⟩ := RepL.split xs.length h2
  rw [List.drop_drop, List.drop_drop] at h4
  have hd : Dis F1 F4 := Dis.sub (fun b m m' => hs.dis b m m') (fun _ _ h => h) hs'.r
  refine ⟨_, (h1.append hx (Dis.emp emp_noF)).append h4 (fun b m m' x y => x.elim (fun z => hd b m m' z y) (fun z => z)), ?_⟩
  rintro b m ((x | x) | x)
  · exact hs.l b m x
  · exact x.elim
  · exact hs.r b m (hs'.r b m x)
/-- What a store makes of an object. -/
def stoTV (P : Program) (H : Nat → Option TV) (p : TV) (k : Nat) (xs : List TV) : Option (Nat × TV) := match p with
  | .pd id z r c => match H id with
    | some (.own E rows) => match rows[r]? with
      | some row => if szOf P E = z ∧ c + xs.length ≤ row.length ∧ xs.length = k then some (id, .own E (rows.set r (row.take c ++ xs ++ row.drop (c + xs.length)))) else none
      | none => none
    | some (.box t cs) => if r = 0 ∧ c + xs.length ≤ cs.length ∧ xs.length = k then some (id, .box t (cs.take c ++ xs ++ cs.drop (c + xs.length))) else none
    | _ => none
  | _ => none
theorem TWo.store {t : TypeId} {p x : Operand} {xs : List TV} {id : Nat} {t' : TV} (ho : o.op = .store t p x) (hd : o.dst = none) (hx : cellsOf (opV n s x) = some xs) (hk : 0 < szOf P t)
    (hs : stoTV P s.H (opV n s p) (szOf P t) xs = some (id, t')) (h : K ⟨s.σ, upd s.H id t'⟩) : TWo P n o K s := TWo.growSkip fun C a e FH hn hX => by
  obtain ⟨hxl, hx1⟩ := cellsOf_rep (opV_rep hX hn x) hx
  have hp := opV_rep hX hn p
  obtain ⟨ti, hti, hsz⟩ := info_of_sz hk
  have hxs : (a.eval x).cells.size = xs.length := by rw [← Array.length_toList, hxl.len]
  unfold stoTV at hs
  split at hs
  · rename_i id0 z r c heq
    rw [heq] at hp
    simp only [Rep] at hp
    obtain ⟨_, hid, b, hb, hpv⟩ := hp
    have fin : ∀ {cur : Array Value} {E : TypeId} {o1 : Nat} {t' : TV} {F' : Foot}, e.w.heap[b]? = some (.cells cur E (0, 0)) → a.eval p = .pointer (some ⟨b, o1, none⟩) → o1 + xs.length ≤ cur.size → xs.length = szOf P t →
        Rep P ⟨e.w.setRow b (cur.toList.take o1 ++ (a.eval x).cells.toList ++ cur.toList.drop (o1 + xs.length)).toArray, e.Z, e.N, e.η⟩ t' (e.η id0) F' → ((∃ E rows, t' = .own E rows) ∨ (∃ ty cs, t' = .box ty cs) ∨ (∃ ty kvs, t' = .mp ty kvs)) → (∀ b m, F' b m → ∃ m', FH id0 b m') → (∃ m, FH id0 b m) →
        K ⟨s.σ, upd s.H id0 t'⟩ → ∃ w' s', (execOp a.eval o).run P e.w = .ok .skip w' ∧ K s' ∧ Rel P C n s' (a.put o.dst undef) w' := by
      intro cur E o1 t' F' hg hpv hfit hlen hrep hkind hF hbF hK
      have hrun := run_store' (P := P) (w := e.w) (t := t) (v := a.eval x) (o1 := o1) hg ⟨ti, hti, by rw [hsz, hxs, hlen]⟩ hx1 (by rw [hxs]; exact hfit)
      rw [hxs] at hrun
      have g := (grow_setRow (w := e.w) b (cur.toList.take o1 ++ (a.eval x).cells.toList ++ cur.toList.drop (o1 + xs.length)).toArray).mono (Y := fun b' => ∃ m, FH id0 b' m) (fun b' hb' => by rw [hb']; exact hbF)
      have hX' := hX.upd (i := id0) (i' := id0) (N' := e.N) (η' := e.η) g (Nat.le_refl _) (fun _ _ => rfl) (.inl rfl) hid hrep hkind (fun b m hb => .inl (hF b m hb)) (fun b m hb => by
        obtain ⟨m', hm'⟩ := hF b m hb
        exact Nat.lt_of_lt_of_le (hX.ltF id0 b m' hm') g.size)
      rw [upd_del] at hX'
      refine ⟨_, _, ?_, hK, by rw [hd]; exact .of hn hX'⟩
      unfold execOp
      rw [ho]
      rw [← hpv] at hrun
      simp only [Sem.run_bind, hrun, Result.andThen_ok, Sem.run_pure]
    split at hs
    · rename_i E rows hH
      have hO := hX.objs id0 _ hH
      simp only [Rep] at hO
      obtain ⟨vs, F1, hown, hzz, hrr, h1, hsp⟩ := hO
      split at hs
      · rename_i row hrow
        split at hs
        · rename_i hc
          cases hs
          obtain ⟨hz, hfit, hlen⟩ := hc
          rcases hown.2 with ⟨hv, _⟩ | ⟨g, cap, cur, hv, hb0, hg, hnc, hcm, hcs, htake⟩
          · rw [hv] at hb; simp [hblk] at hb
          · have hgb : g = b := by rw [hv] at hb; simpa [hblk] using hb
            subst hgb
            obtain ⟨v1, vr, v2, G1, G2, hvs, hl, hrow1, hsp1, hput⟩ := RepRows.focus hrr hzz hrow
            have hrl : row.length = z := by rw [hzz row (List.mem_of_getElem? hrow), hz]
            have hrlt := (List.getElem?_eq_some_iff.1 hrow).1
            have hvr : vr.length = z := by rw [hrow1.len, hrl]
            rw [hz] at hl hcs
            have hfit2 : r * z + z ≤ rows.length * z := by rw [← Nat.succ_mul]; exact Nat.mul_le_mul_right _ hrlt
            have hfit3 : rows.length * z ≤ cap * z := Nat.mul_le_mul_right _ hnc
            -- cells
            have hcur : cur.toList = v1 ++ vr ++ v2 ++ cur.toList.drop (rows.length * z) := by
              rw [← hvs, ← htake, hz, List.take_append_drop]
            let cur' := cur.toList.take (r * z + c) ++ (a.eval x).cells.toList ++ cur.toList.drop (r * z + c + xs.length)
            have hxl' : (a.eval x).cells.toList.length = xs.length := hxl.len
            have hcur' : cur' = v1 ++ (vr.take c ++ (a.eval x).cells.toList ++ vr.drop (c + xs.length)) ++ v2 ++ cur.toList.drop (rows.length * z) := by
              show cur.toList.take (r * z + c) ++ (a.eval x).cells.toList ++ cur.toList.drop (r * z + c + xs.length) = _
              generalize hD : cur.toList.drop (rows.length * z) = D at *
              rw [hcur, ← hl]
              simp only [List.append_assoc]
              rw [List.take_length_add_append, show v1.length + c + xs.length = v1.length + (c + xs.length) from by omega, List.drop_length_add_append]
              rw [List.take_append_of_le_length (by omega), List.drop_append_of_le_length (by omega)]
              simp only [List.append_assoc]
            have hK' := Keep.mk (e := e) (e' := ⟨e.w.setRow g cur'.toArray, e.Z, e.N, e.η⟩) (F := F1) (fun b x => x) (Nat.le_refl _) (fun _ _ => rfl)
              (fun b1 hz1 => (grow_setRow (w := e.w) g cur'.toArray).block b1 (hX.ltZ b1 hz1) (fun he => by subst he; exact hX.notZ id b1 _ (hsp.l b1 _ ⟨by rw [hv]; rfl, rfl⟩) hz1))
              (fun b1 m1 hz1 => (grow_setRow (w := e.w) g cur'.toArray).block b1 (hX.ltF id b1 m1 (hsp.r b1 m1 hz1)) (fun he => by subst he; exact hsp.dis b1 _ m1 ⟨by rw [hv]; rfl, rfl⟩ hz1))
            obtain ⟨F2, hseg, hsub⟩ := RepL.seg c hrow1 hxl hfit
            rw [hxl'] at hseg
            obtain ⟨F3, hrows', hsp3⟩ := hput _ _ F2 hseg (Dis.sub (fun b m m' => hsp1.dis b m m') hsub (fun _ _ h => h))
            have hF3 : Sub F3 F1 := fun b m hb => ((hsp3.iff b m).1 hb).elim (fun y => hsp1.l b m (hsub b m y)) (hsp1.r b m)
            have hsize : cur'.length = cur.size := by
              show (cur.toList.take (r * z + c) ++ (a.eval x).cells.toList ++ cur.toList.drop (r * z + c + xs.length)).length = _
              simp only [List.length_append, List.length_take, List.length_drop, Array.length_toList, hxl']
              omega
            refine fin (F' := Uni (OwnF (e.η id) ((rows.set r (row.take c ++ xs ++ row.drop (c + xs.length))).length * szOf P E)) F3) hg (by rw [hpv]) (by omega) hlen ?_ (.inl ⟨_, _, rfl⟩) ?_ ⟨_, hsp.l g _ ⟨by rw [hv]; rfl, rfl⟩⟩ h
            · simp only [Rep]
              refine ⟨_, F3, ⟨?_, .inr ⟨g, cap, cur'.toArray, ?_, Nat.zero_le _, setRow_here hg, ?_, hcm, ?_, ?_⟩⟩, ?_, RepRows.keep _ hrows' (hK'.sub hF3), ?_, spl_uni (fun b m m' hb hb' => hsp.dis b _ m' ⟨hb.1, rfl⟩ (hF3 b m' hb'))⟩
              · rw [hrows'.len (z := z)]
                · rw [hz]
                · intro q hq
                  rcases List.mem_or_eq_of_mem_set hq with hq | rfl
                  · rw [hzz q hq, hz]
                  · simp only [List.length_append, List.length_take, List.length_drop]; omega
              · rw [hv, List.length_set]
              · rw [List.length_set]; exact hnc
              · rw [List.size_toArray, hsize, hcs, hz]
              · rw [List.length_set, List.toList_toArray, hcur', hz]
                rw [List.take_append_of_le_length (by
                  simp only [List.length_append, List.length_take, List.length_drop, hxl']
                  have := hrr.len hzz; rw [hvs, hz] at this
                  simp only [List.length_append] at this; omega)]
                apply List.take_of_length_le
                simp only [List.length_append, List.length_take, List.length_drop, hxl']
                have := hrr.len hzz; rw [hvs, hz] at this
                simp only [List.length_append] at this; omega
              · intro q hq
                rcases List.mem_or_eq_of_mem_set hq with hq | rfl
                · exact hzz q hq
                · simp only [List.length_append, List.length_take, List.length_drop]; omega
              · intro u hu
                simp only [List.mem_append] at hu
                rcases hu with (hu | (hu | hu) | hu) | hu
                · exact h1 u (by rw [hvs]; simp [hu])
                · exact h1 u (by rw [hvs]; simp [List.mem_of_mem_take hu])
                · exact hx1 u hu
                · exact h1 u (by rw [hvs]; simp [List.mem_of_mem_drop hu])
                · exact h1 u (by rw [hvs]; simp [hu])
            · rintro b m (⟨hb, hm⟩ | hb)
              · exact ⟨_, hsp.l b _ ⟨hb, rfl⟩⟩
              · exact ⟨m, hsp.r b m (hF3 b m hb)⟩
        · cases hs
      · cases hs
    · rename_i ty cs hH
      have hO := hX.objs id0 _ hH
      simp only [Rep] at hO
      obtain ⟨g, vs, F1, hv, hg, hrr, h1, hsp⟩ := hO
      split at hs
      · rename_i hc
        cases hs
        obtain ⟨rfl, hfit, hlen⟩ := hc
        have hgb : g = b := by rw [hv] at hb; simpa [hblk] using hb
        subst hgb
        have hxl' : (a.eval x).cells.toList.length = xs.length := hxl.len
        obtain ⟨F2, hseg, hsub⟩ := RepL.seg c hrr hxl hfit
        rw [hxl'] at hseg
        have hvl := hrr.len
        let cur' := vs.take c ++ (a.eval x).cells.toList ++ vs.drop (c + xs.length)
        have hK' := Keep.mk (e := e) (e' := ⟨e.w.setRow g cur'.toArray, e.Z, e.N, e.η⟩) (F := F1) (fun b x => x) (Nat.le_refl _) (fun _ _ => rfl)
          (fun b1 hz1 => (grow_setRow (w := e.w) g cur'.toArray).block b1 (hX.ltZ b1 hz1) (fun he => by subst he; exact hX.notZ id b1 _ (hsp.l b1 _ ⟨rfl, rfl⟩) hz1))
          (fun b1 m1 hz1 => (grow_setRow (w := e.w) g cur'.toArray).block b1 (hX.ltF id b1 m1 (hsp.r b1 m1 hz1)) (fun he => by subst he; exact hsp.dis b1 _ m1 ⟨rfl, rfl⟩ hz1))
        refine fin (F' := Uni (Sgl g vs.length) F2) (cur := vs.toArray) (o1 := c) hg (by rw [hpv]; simp) (by simp; omega) hlen ?_ (.inr (.inl ⟨_, _, rfl⟩)) ?_ ⟨_, hsp.l g _ ⟨rfl, rfl⟩⟩ h
        · simp only [Rep]
          have hcl : cur'.length = vs.length := by
            show (vs.take c ++ (a.eval x).cells.toList ++ vs.drop (c + xs.length)).length = _
            simp only [List.length_append, List.length_take, List.length_drop, hxl']; omega
          refine ⟨g, cur', F2, hv, setRow_here (cs := cur'.toArray) hg, RepL.keep _ hseg (hK'.sub hsub), ?_, by rw [hcl]; exact spl_uni (fun b m m' hb hb' => hsp.dis b m m' hb (hsub b m' hb'))⟩
          intro u hu
          have hu' : u ∈ vs.take c ++ (a.eval x).cells.toList ++ vs.drop (c + xs.length) := hu
          simp only [List.mem_append] at hu'
          rcases hu' with (hu | hu) | hu
          · exact h1 u (List.mem_of_mem_take hu)
          · exact hx1 u hu
          · exact h1 u (List.mem_of_mem_drop hu)
        · rintro b m (hb | hb)
          · exact ⟨m, hsp.l b m hb⟩
          · exact ⟨m, hsp.r b m (hsub b m hb)⟩
      · cases hs
    · cases hs
  · cases hs
end
end Go.Proofs.YtdomnlnanbekaaaGreatDoor.T

namespace Go.Proofs.YtdomnlnanbekaaaGreatDoor.T
set_option linter.unusedVariables false
set_option linter.unusedSimpArgs false
open Go.RowKit

def frz1 (id : Nat) (r : TV) : TV → TV
  | .hd i => if i = id then r else .hd i
  | .pd i 0 0 0 => if i = id then (match r with | .rptr c o => .rptr c o | _ => .pd i 0 0 0) else .pd i 0 0 0
  | t => t
def frzT (id : Nat) (r : TV) : TV → TV
  | .agg cs => .agg (cs.map (frz1 id r))
  | .tup cs => .tup (cs.map (frz1 id r))
  | t => frz1 id r t
section
variable {P : Program} {C : Ctx} {n : Nat} {s : St} {a : Act} {e : Env} {FH : Nat → Foot} {w : World} {K : St → Prop} {o : Oper}
/-- What is kept through a change of what is known alone. -/
theorem RelX.know (h : RelX P C s a e FH) {H' : Nat → Option TV} {σ' : Nat → TV} {Z' : Nat → Prop} {N' : Nat} {η' : Nat → Value} {FH' : Nat → Foot} (hZ : ∀ b, e.Z b → Z' b) (hZ' : ∀ b, Z' b → e.Z b ∨ ∃ i m, FH i b m) (hN : e.N ≤ N') (hη : ∀ j, j < e.N → η' j = e.η j)
    (hslots : ∀ j, j < a.tmps.size → Rep P ⟨e.w, Z', N', η'⟩ (σ' j) (a.tmps.getD j undef) noF)
    (hobjs : ∀ i t, H' i = some t → Rep P ⟨e.w, Z', N', η'⟩ t (η' i) (FH' i)) (hkind : ∀ i t, H' i = some t → (∃ E rows, t = .own E rows) ∨ (∃ ty cs, t = .box ty cs) ∨ (∃ ty kvs, t = .mp ty kvs))
    (hnone : ∀ i, H' i = none → Emp (FH' i)) (htop : ∀ i, N' ≤ i → H' i = none) (hone : ∀ i i' b m m', FH' i b m → FH' i' b m' → i = i') (hnZ : ∀ i b m, FH' i b m → ¬ Z' b) (hF : ∀ i b m, FH' i b m → ∃ j m', FH j b m') :
    RelX P C ⟨σ', H'⟩ a ⟨e.w, Z', N', η'⟩ FH' :=
  ⟨h.dfr, hslots, hobjs, hkind, hnone, htop, hone, hnZ, fun i b m hb => by obtain ⟨j, m', hj⟩ := hF i b m hb; exact h.ltF j b m' hj, fun b hb => (hZ' b hb).elim (h.ltZ b) (fun ⟨i, m, hi⟩ => h.ltF i b m hi),
    h.os, h.tape, h.output, h.size, fun b hb => hZ b (h.Z0 b hb), fun b hb => (hZ' b hb).elim (h.Zfrom b) (fun ⟨i, m, hi⟩ => (h.Ffrom i b m hi).elim (fun x => .inr (.inl x)) (fun x => .inr (.inr x))), fun i b m hb => by obtain ⟨j, m', hj⟩ := hF i b m hb; exact h.Ffrom j b m' hj, h.same, Nat.le_trans h.mN hN, fun j hj => (hη j (Nat.lt_of_lt_of_le hj h.mN)).trans (h.eta j hj), h.laid⟩
theorem RelX.hdlt (h : RelX P C s a e FH) {i : Nat} {t : TV} (hi : s.H i = some t) : i < e.N := Nat.lt_of_not_le fun hle => by rw [h.top i hle] at hi; cases hi
theorem keep_same {Z' : Nat → Prop} {N' : Nat} {η' : Nat → Value} (hZ : ∀ b, e.Z b → Z' b) (hN : e.N ≤ N') (hη : ∀ j, j < e.N → η' j = e.η j) {F : Foot} : Keep e ⟨e.w, Z', N', η'⟩ F := ⟨hZ, hN, hη, fun _ _ => rfl, fun _ _ _ => rfl⟩
theorem frz1_rep {e' : Env} {id : Nat} {t : TV} (hk : Keep e e' noF) (ht : Rep P e' (toRo t) (e.η id) noF) (hkind : (∃ E rows, t = .own E rows) ∨ (∃ ty cs, t = .box ty cs) ∨ (∃ ty kvs, t = .mp ty kvs)) {x : TV} {v : Value} {F : Foot} (h : Rep P e x v F) (hF : Emp F) : Rep P e' (frz1 id (toRo t) x) v F := by
  have h0 := Rep.keep x h (hk.sub fun b m x => (hF b m x).elim)
  unfold frz1
  split
  · rename_i i
    split
    · rename_i hi
      subst hi
      simp only [Rep] at h
      obtain ⟨_, _, rfl, _⟩ := h
      exact Rep.foot _ ht fun b m => ⟨fun x => (hF b m x).elim, fun x => x.elim⟩
    · exact h0
  · rename_i i
    split
    · rename_i hi
      subst hi
      split
      · rename_i c o heq
        rw [heq] at ht
        have hv : v = e.η i := by
          simp only [Rep] at h
          obtain ⟨_, _, b, hb, rfl⟩ := h
          simp only [Rep] at ht
          obtain ⟨_, b', o', vs', hv', _⟩ := ht
          rw [hv'] at hb ⊢
          cases ho : o' + o with
          | zero => rw [ho] at hb; simp [hblk] at hb; simp [hb]
          | succ k => rw [ho] at hb; simp [hblk] at hb
        rw [hv]
        exact Rep.foot _ ht fun b m => ⟨fun x => (hF b m x).elim, fun x => x.elim⟩
      · exact h0
    · exact h0
  · exact h0
theorem frzL_rep {e' : Env} {id : Nat} {t : TV} (hk : Keep e e' noF) (ht : Rep P e' (toRo t) (e.η id) noF) (hkind : (∃ E rows, t = .own E rows) ∨ (∃ ty cs, t = .box ty cs) ∨ (∃ ty kvs, t = .mp ty kvs)) : ∀ {xs : List TV} {vs : List Value} {F : Foot}, RepL P e xs vs F → Emp F → RepL P e' (xs.map (frz1 id (toRo t))) vs F
  | [], vs, F, h, hF => by simp only [RepL, List.map_nil] at h ⊢; exact h
  | x :: xs, vs, F, h, hF => by
    simp only [RepL, List.map_cons] at h ⊢
    obtain ⟨v, vs', F1, F2, hv, h1, h2, hs⟩ := h
    exact ⟨v, vs', F1, F2, hv, frz1_rep hk ht hkind h1 (hF.sub hs.l), frzL_rep hk ht hkind h2 (hF.sub hs.r), hs⟩
theorem frzT_rep {e' : Env} {id : Nat} {t : TV} (hk : Keep e e' noF) (ht : Rep P e' (toRo t) (e.η id) noF) (hkind : (∃ E rows, t = .own E rows) ∨ (∃ ty cs, t = .box ty cs) ∨ (∃ ty kvs, t = .mp ty kvs)) {x : TV} {v : Value} {F : Foot} (h : Rep P e x v F) (hF : Emp F) : Rep P e' (frzT id (toRo t) x) v F := by
  unfold frzT
  split
  · simp only [Rep] at h ⊢
    obtain ⟨vs, hv, hl, h1⟩ := h
    exact ⟨vs, hv, frzL_rep hk ht hkind hl hF, h1⟩
  · simp only [Rep] at h ⊢
    obtain ⟨vs, hv, hl⟩ := h
    exact ⟨vs, hv, frzL_rep hk ht hkind hl hF⟩
  · exact frz1_rep hk ht hkind h hF
/-- From now on only read. -/
theorem RelX.freeze (h : RelX P C s a e FH) {id : Nat} {t : TV} (hH : s.H id = some t) :
    RelX P C ⟨fun j => frzT id (toRo t) (s.σ j), del s.H id⟩ a ⟨e.w, fun b => e.Z b ∨ ∃ m, FH id b m, e.N, e.η⟩ (fun j => if j = id then noF else FH j) := by
  have hZ : ∀ b, e.Z b → (e.Z b ∨ ∃ m, FH id b m) := fun b hb => .inl hb
  have hfr : Rep P ⟨e.w, fun b => e.Z b ∨ ∃ m, FH id b m, e.N, e.η⟩ (toRo t) (e.η id) noF := Rep.frz t (h.objs id t hH) ⟨rfl, Nat.le_refl _, fun _ _ => rfl, hZ, fun b m hb => .inr ⟨m, hb⟩⟩
  refine h.know hZ (fun b hb => hb.imp (fun x => x) fun ⟨m, hm⟩ => ⟨id, m, hm⟩) (Nat.le_refl _) (fun _ _ => rfl) (fun j hj => frzT_rep (keep_same hZ (Nat.le_refl _) (fun _ _ => rfl)) hfr (h.kind id t hH) (h.slots j hj) emp_noF) ?_ ?_ ?_ ?_ ?_ ?_ ?_
  · intro i t' hi
    by_cases e1 : i = id
    · subst e1; simp [del] at hi
    · simp only [e1, if_false]
      exact Rep.keep _ (h.objs i t' (by simpa [del, e1] using hi)) (keep_same hZ (Nat.le_refl _) (fun _ _ => rfl))
  · intro i t' hi
    by_cases e1 : i = id
    · subst e1; simp [del] at hi
    · exact h.kind i t' (by simpa [del, e1] using hi)
  · intro i hi
    by_cases e1 : i = id
    · subst e1; simp; exact emp_noF
    · simp only [e1, if_false]; exact h.none_ i (by simpa [del, e1] using hi)
  · intro i hi
    by_cases e1 : i = id
    · subst e1; simp [del]
    · simp [del, e1]; exact h.top i hi
  · intro i i' b m m' hi hi'
    by_cases e1 : i = id
    · simp [e1] at hi; exact hi.elim
    · by_cases e2 : i' = id
      · simp [e2] at hi'; exact hi'.elim
      · simp [e1] at hi; simp [e2] at hi'; exact h.one i i' b m m' hi hi'
  · rintro i b m hi (hz | ⟨m', hm'⟩)
    · by_cases e1 : i = id
      · simp [e1] at hi; exact hi.elim
      · simp [e1] at hi; exact h.notZ i b m hi hz
    · by_cases e1 : i = id
      · simp [e1] at hi; exact hi.elim
      · simp [e1] at hi; exact e1 (h.one i id b m m' hi hm')
  · intro i b m hi
    by_cases e1 : i = id
    · simp [e1] at hi; exact hi.elim
    · simp [e1] at hi; exact ⟨i, m, hi⟩
theorem RelX.drop (h : RelX P C s a e FH) (id : Nat) : RelX P C ⟨s.σ, del s.H id⟩ a e (fun j => if j = id then noF else FH j) := by
  refine h.know (fun b x => x) (fun b x => .inl x) (Nat.le_refl _) (fun _ _ => rfl) h.slots ?_ ?_ ?_ ?_ ?_ ?_ ?_
  · intro i t' hi
    by_cases e1 : i = id
    · subst e1; simp [del] at hi
    · simp only [e1, if_false]; exact h.objs i t' (by simpa [del, e1] using hi)
  · intro i t' hi
    by_cases e1 : i = id
    · subst e1; simp [del] at hi
    · exact h.kind i t' (by simpa [del, e1] using hi)
  · intro i hi
    by_cases e1 : i = id
    · subst e1; simp; exact emp_noF
    · simp only [e1, if_false]; exact h.none_ i (by simpa [del, e1] using hi)
  · intro i hi
    by_cases e1 : i = id
    · subst e1; simp [del]
    · simp [del, e1]; exact h.top i hi
  · intro i i' b m m' hi hi'
    by_cases e1 : i = id
    · simp [e1] at hi; exact hi.elim
    · by_cases e2 : i' = id
      · simp [e2] at hi'; exact hi'.elim
      · simp [e1] at hi; simp [e2] at hi'; exact h.one i i' b m m' hi hi'
  · intro i b m hi
    by_cases e1 : i = id
    · simp [e1] at hi; exact hi.elim
    · simp [e1] at hi; exact h.notZ i b m hi
  · intro i b m hi
    by_cases e1 : i = id
    · simp [e1] at hi; exact hi.elim
    · simp [e1] at hi; exact ⟨i, m, hi⟩
/-- An object is parted into two. -/
theorem RelX.part (h : RelX P C s a e FH) {id : Nat} {t1 t2 : TV} {v2 : Value} {F1 F2 : Foot} (hid : id < e.N) (h1 : Rep P ⟨e.w, e.Z, e.N + 1, ext e.η e.N v2⟩ t1 (e.η id) F1) (h2 : Rep P ⟨e.w, e.Z, e.N + 1, ext e.η e.N v2⟩ t2 v2 F2)
    (k1 : (∃ E rows, t1 = .own E rows) ∨ (∃ ty cs, t1 = .box ty cs) ∨ (∃ ty kvs, t1 = .mp ty kvs)) (k2 : (∃ E rows, t2 = .own E rows) ∨ (∃ ty cs, t2 = .box ty cs) ∨ (∃ ty kvs, t2 = .mp ty kvs)) (hd : Dis F1 F2) (s1 : ∀ b m, F1 b m → ∃ m', FH id b m') (s2 : ∀ b m, F2 b m → ∃ m', FH id b m') :
    ∃ FH', RelX P C ⟨s.σ, Go.Proofs.YtdomnlnanbekaaaGreatDoor.T.upd (Go.Proofs.YtdomnlnanbekaaaGreatDoor.T.upd s.H id t1) e.N t2⟩ a ⟨e.w, e.Z, e.N + 1, ext e.η e.N v2⟩ FH' := by
  have hne : id ≠ e.N := by omega
  have hks : ∀ {F : Foot}, Keep e ⟨e.w, e.Z, e.N + 1, ext e.η e.N v2⟩ F := keep_same (fun b x => x) (Nat.le_succ _) ext_old
  refine ⟨fun j => if j = e.N then F2 else if j = id then F1 else FH j, h.know (fun b x => x) (fun b x => .inl x) (Nat.le_succ _) ext_old (fun j hj => Rep.keep _ (h.slots j hj) hks) ?_ ?_ ?_ ?_ ?_ ?_ ?_⟩
  · intro i t hi
    by_cases e1 : i = e.N
    · subst e1
      have : t2 = t := by simpa [Go.Proofs.YtdomnlnanbekaaaGreatDoor.T.upd] using hi
      subst this; simp only [if_true, ext_new]; exact h2
    · by_cases e2 : i = id
      · subst e2
        have : t1 = t := by simpa [Go.Proofs.YtdomnlnanbekaaaGreatDoor.T.upd, e1] using hi
        subst this; simp only [e1, if_false, if_true]; rw [ext_old i hid]; exact h1
      · have hi' : s.H i = some t := by simpa [Go.Proofs.YtdomnlnanbekaaaGreatDoor.T.upd, e1, e2] using hi
        simp only [e1, e2, if_false]; rw [ext_old i (h.hdlt hi')]; exact Rep.keep _ (h.objs i t hi') hks
  · intro i t hi
    by_cases e1 : i = e.N
    · subst e1
      have : t2 = t := by simpa [Go.Proofs.YtdomnlnanbekaaaGreatDoor.T.upd] using hi
      subst this; exact k2
    · by_cases e2 : i = id
      · subst e2
        have : t1 = t := by simpa [Go.Proofs.YtdomnlnanbekaaaGreatDoor.T.upd, e1] using hi
        subst this; exact k1
      · exact h.kind i t (by simpa [Go.Proofs.YtdomnlnanbekaaaGreatDoor.T.upd, e1, e2] using hi)
  · intro i hi
    by_cases e1 : i = e.N
    · subst e1; simp [Go.Proofs.YtdomnlnanbekaaaGreatDoor.T.upd] at hi
    · by_cases e2 : i = id
      · subst e2; simp [Go.Proofs.YtdomnlnanbekaaaGreatDoor.T.upd, e1] at hi
      · simp only [e1, e2, if_false]; exact h.none_ i (by simpa [Go.Proofs.YtdomnlnanbekaaaGreatDoor.T.upd, e1, e2] using hi)
  · intro i hi
    have : e.N + 1 ≤ i := hi
    have e1 : i ≠ e.N := by omega
    have e2 : i ≠ id := by omega
    simp [Go.Proofs.YtdomnlnanbekaaaGreatDoor.T.upd, e1, e2]; exact h.top i (by omega)
  · intro i i' b m m' hi hi'
    have low : ∀ {j m}, (if j = e.N then F2 else if j = id then F1 else FH j) b m → ∃ m', (FH (if j = e.N then id else j)) b m' := by
      intro j m hj
      by_cases e1 : j = e.N
      · simp only [e1, if_true] at hj ⊢; exact s2 b m hj
      · by_cases e2 : j = id
        · simp only [e1, e2, if_false, if_true] at hj ⊢; simp [hne] at hj ⊢; exact s1 b m hj
        · simp only [e1, e2, if_false] at hj ⊢; exact ⟨m, hj⟩
    obtain ⟨q, hq⟩ := low hi
    obtain ⟨q', hq'⟩ := low hi'
    have := h.one _ _ b q q' hq hq'
    by_cases e1 : i = e.N <;> by_cases e2 : i' = e.N
    · rw [e1, e2]
    · simp only [e1, e2, if_true, if_false] at this hi hi'
      exact (hd b m' m (by simpa [← this] using hi') hi).elim
    · simp only [e1, e2, if_true, if_false] at this hi hi'
      exact (hd b m m' (by simpa [this] using hi) hi').elim
    · simpa [e1, e2] using this
  · intro i b m hi
    by_cases e1 : i = e.N
    · simp only [e1, if_true] at hi; obtain ⟨m', hm'⟩ := s2 b m hi; exact h.notZ id b m' hm'
    · by_cases e2 : i = id
      · simp only [e2, hne, if_true, if_false] at hi; obtain ⟨m', hm'⟩ := s1 b m hi; exact h.notZ id b m' hm'
      · simp only [e1, e2, if_false] at hi; exact h.notZ i b m hi
  · intro i b m hi
    by_cases e1 : i = e.N
    · simp only [e1, if_true] at hi; obtain ⟨m', hm'⟩ := s2 b m hi; exact ⟨id, m', hm'⟩
    · by_cases e2 : i = id
      · simp only [e2, hne, if_true, if_false] at hi; obtain ⟨m', hm'⟩ := s1 b m hi; exact ⟨id, m', hm'⟩
      · simp only [e1, e2, if_false] at hi; exact ⟨i, m, hi⟩
/-- Two objects become one. -/
theorem RelX.join (h : RelX P C s a e FH) {id id2 : Nat} {t : TV} {F : Foot} (hne : id ≠ id2) (hid : id < e.N) (h1 : Rep P e t (e.η id) F) (k : (∃ E rows, t = .own E rows) ∨ (∃ ty cs, t = .box ty cs) ∨ (∃ ty kvs, t = .mp ty kvs))
    (hF : ∀ b m, F b m → (∃ m', FH id b m') ∨ ∃ m', FH id2 b m') :
    ∃ FH', RelX P C ⟨s.σ, Go.Proofs.YtdomnlnanbekaaaGreatDoor.T.upd (del s.H id2) id t⟩ a e FH' := by
  refine ⟨fun j => if j = id then F else if j = id2 then noF else FH j, h.know (fun b x => x) (fun b x => .inl x) (Nat.le_refl _) (fun _ _ => rfl) h.slots ?_ ?_ ?_ ?_ ?_ ?_ ?_⟩
  · intro i t' hi
    by_cases e1 : i = id
    · subst e1
      have : t = t' := by simpa [Go.Proofs.YtdomnlnanbekaaaGreatDoor.T.upd] using hi
      subst this; simpa using h1
    · by_cases e2 : i = id2
      · subst e2; simp [Go.Proofs.YtdomnlnanbekaaaGreatDoor.T.upd, del, e1] at hi
      · simp only [e1, e2, if_false]; exact h.objs i t' (by simpa [Go.Proofs.YtdomnlnanbekaaaGreatDoor.T.upd, del, e1, e2] using hi)
  · intro i t' hi
    by_cases e1 : i = id
    · subst e1
      have : t = t' := by simpa [Go.Proofs.YtdomnlnanbekaaaGreatDoor.T.upd] using hi
      subst this; exact k
    · by_cases e2 : i = id2
      · subst e2; simp [Go.Proofs.YtdomnlnanbekaaaGreatDoor.T.upd, del, e1] at hi
      · exact h.kind i t' (by simpa [Go.Proofs.YtdomnlnanbekaaaGreatDoor.T.upd, del, e1, e2] using hi)
  · intro i hi
    by_cases e1 : i = id
    · subst e1; simp [Go.Proofs.YtdomnlnanbekaaaGreatDoor.T.upd] at hi
    · by_cases e2 : i = id2
      · subst e2; simp [e1]; exact emp_noF
      · simp only [e1, e2, if_false]; exact h.none_ i (by simpa [Go.Proofs.YtdomnlnanbekaaaGreatDoor.T.upd, del, e1, e2] using hi)
  · intro i hi
    have e1 : i ≠ id := by omega
    by_cases e2 : i = id2
    · subst e2; simp [Go.Proofs.YtdomnlnanbekaaaGreatDoor.T.upd, del, e1]
    · simp [Go.Proofs.YtdomnlnanbekaaaGreatDoor.T.upd, del, e1, e2]; exact h.top i hi
  · intro i i' b m m' hi hi'
    by_cases e1 : i = id <;> by_cases e2 : i' = id
    · rw [e1, e2]
    · simp only [e1, e2, if_true, if_false] at hi hi'
      by_cases e3 : i' = id2
      · simp [e3] at hi'; exact hi'.elim
      · simp [e3] at hi'
        rcases hF b m hi with ⟨q, hq⟩ | ⟨q, hq⟩
        · exact (e2 (h.one i' id b m' q hi' hq)).elim
        · exact (e3 (h.one i' id2 b m' q hi' hq)).elim
    · simp only [e1, e2, if_true, if_false] at hi hi'
      by_cases e3 : i = id2
      · simp [e3] at hi; exact hi.elim
      · simp [e3] at hi
        rcases hF b m' hi' with ⟨q, hq⟩ | ⟨q, hq⟩
        · exact (e1 (h.one i id b m q hi hq)).elim
        · exact (e3 (h.one i id2 b m q hi hq)).elim
    · by_cases e3 : i = id2
      · simp [e1, e3, Ne.symm hne] at hi; exact hi.elim
      · by_cases e4 : i' = id2
        · simp [e2, e4, Ne.symm hne] at hi'; exact hi'.elim
        · simp [e1, e3] at hi; simp [e2, e4] at hi'; exact h.one i i' b m m' hi hi'
  · intro i b m hi
    by_cases e1 : i = id
    · simp only [e1, if_true] at hi
      rcases hF b m hi with ⟨q, hq⟩ | ⟨q, hq⟩
      · exact h.notZ id b q hq
      · exact h.notZ id2 b q hq
    · by_cases e2 : i = id2
      · simp [e1, e2, Ne.symm hne] at hi; exact hi.elim
      · simp [e1, e2] at hi; exact h.notZ i b m hi
  · intro i b m hi
    by_cases e1 : i = id
    · simp only [e1, if_true] at hi
      rcases hF b m hi with ⟨q, hq⟩ | ⟨q, hq⟩
      · exact ⟨id, q, hq⟩
      · exact ⟨id2, q, hq⟩
    · by_cases e2 : i = id2
      · simp [e1, e2, Ne.symm hne] at hi; exact hi.elim
      · simp [e1, e2] at hi; exact ⟨i, m, hi⟩
end
end Go.Proofs.YtdomnlnanbekaaaGreatDoor.T

namespace Go.Proofs.YtdomnlnanbekaaaGreatDoor.T
set_option linter.unusedVariables false
set_option linter.unusedSimpArgs false
open Go.RowKit

mutual
/-- No names of objects inside. -/
def noH : TV → Bool
  | .any | .val _ => true
  | .ro rows => noHR rows
  | .own _ rows => noHR rows
  | .rptr row _ => noHL row
  | .box _ cs => noHL cs
  | .agg cs => noHL cs
  | .tup cs => noHL cs
  | .hd _ | .pd _ _ _ _ | .sl _ _ _ _ => false
  | .clo _ cs => noHL cs
  | .mp _ rows => noHR rows
def noHL : List TV → Bool
  | [] => true
  | t :: ts => noH t && noHL ts
def noHR : List (List TV) → Bool
  | [] => true
  | t :: ts => noHL t && noHR ts
end
mutual
/-- Nothing that is only read inside. -/
def noRo : TV → Bool
  | .any | .val _ => true
  | .ro _ => false
  | .own _ rows => noRoR rows
  | .rptr _ _ => false
  | .box _ cs => noRoL cs
  | .agg cs => noRoL cs
  | .tup cs => noRoL cs
  | .hd _ | .pd _ _ _ _ | .sl _ _ _ _ => true
  | .clo _ cs => noRoL cs
  | .mp _ rows => noRoR rows
def noRoL : List TV → Bool
  | [] => true
  | t :: ts => noRo t && noRoL ts
def noRoR : List (List TV) → Bool
  | [] => true
  | t :: ts => noRoL t && noRoR ts
end
section
variable {P : Program} {e e' : Env}
/-- Keep, where what holds no names hangs on no names, and what holds nothing only read hangs on no Z. -/
structure Keep2 (e e' : Env) (F : Foot) (nh nr : Bool) : Prop where
  Z : nr = false → ∀ b, e.Z b → e'.Z b
  N : nh = false → e.N ≤ e'.N ∧ ∀ i, i < e.N → e'.η i = e.η i
  z : nr = false → ∀ b, e.Z b → e'.w.heap[b]? = e.w.heap[b]?
  f : ∀ b m, F b m → e'.w.heap[b]? = e.w.heap[b]?
theorem Keep2.sub {F F' : Foot} {a b : Bool} (h : Keep2 e e' F a b) (hs : ∀ b m, F' b m → F b m) : Keep2 e e' F' a b := ⟨h.Z, h.N, h.z, fun b m hb => h.f b m (hs b m hb)⟩
mutual
theorem Rep.keep2 : ∀ (t : TV) {v : Value} {F : Foot} {nh nr : Bool}, Rep P e t v F → (nh = true → noH t = true) → (nr = true → noRo t = true) → Keep2 e e' F nh nr → Rep P e' t v F
  | .any, v, F, nh, nr, h, a, b, k => by simp only [Rep] at h ⊢; exact h
  | .val u, v, F, nh, nr, h, a, b, k => by simp only [Rep] at h ⊢; exact h
  | .ro rows, v, F, nh, nr, h, ha, hb, k => by
    have hr : nr = false := by cases nr; rfl; simp [noRo] at hb
    simp only [Rep] at h ⊢
    obtain ⟨hE, A, c, vs, z, hv, hc, hz, hrr, h1, hcell⟩ := h
    refine ⟨hE, A, c, vs, z, hv, hc, hz, RepRows.keep2 rows hrr (by simpa [noH] using ha) (by simp [hr]) k, h1, hcell.imp id ?_⟩
    rintro ⟨b, o, hA, hZ, hcs⟩
    exact ⟨b, o, hA, k.Z hr b hZ, fun j u hu => by rw [cell_same (k.z hr b hZ)]; exact hcs j u hu⟩
  | .own E rows, v, F, nh, nr, h, ha, hb, k => by
    simp only [Rep] at h ⊢
    obtain ⟨vs, F', ho, hz, hr, h1, hs⟩ := h
    exact ⟨vs, F', owns_same ho fun b hb => k.f b _ ((hs.iff b _).2 (.inl ⟨hb, rfl⟩)), hz, RepRows.keep2 rows hr (by simpa [noH] using ha) (by simpa [noRo] using hb) (k.sub hs.r), h1, hs⟩
  | .rptr row off, v, F, nh, nr, h, ha, hb, k => by
    have hr : nr = false := by cases nr; rfl; simp [noRo] at hb
    simp only [Rep] at h ⊢
    obtain ⟨hE, b, o, vs, hv, hZ, hrr, h1, hcs⟩ := h
    exact ⟨hE, b, o, vs, hv, k.Z hr b hZ, RepL.keep2 row hrr (by simpa [noH] using ha) (by simp [hr]) k, h1, fun j u hu => by rw [cell_same (k.z hr b hZ)]; exact hcs j u hu⟩
  | .box t cs, v, F, nh, nr, h, ha, hb, k => by
    simp only [Rep] at h ⊢
    obtain ⟨b, vs, F', hv, hbk, hr, h1, hs⟩ := h
    exact ⟨b, vs, F', hv, by rw [k.f b _ ((hs.iff b _).2 (.inl ⟨rfl, rfl⟩))]; exact hbk, RepL.keep2 cs hr (by simpa [noH] using ha) (by simpa [noRo] using hb) (k.sub hs.r), h1, hs⟩
  | .agg cs, v, F, nh, nr, h, ha, hb, k => by
    simp only [Rep] at h ⊢
    obtain ⟨vs, hv, hr, h1⟩ := h
    exact ⟨vs, hv, RepL.keep2 cs hr (by simpa [noH] using ha) (by simpa [noRo] using hb) k, h1⟩
  | .tup cs, v, F, nh, nr, h, ha, hb, k => by
    simp only [Rep] at h ⊢
    obtain ⟨vs, hv, hr⟩ := h
    exact ⟨vs, hv, RepL.keep2 cs hr (by simpa [noH] using ha) (by simpa [noRo] using hb) k⟩
  | .hd id, v, F, nh, nr, h, ha, hb, k => by
    have hh : nh = false := by cases nh; rfl; simp [noH] at ha
    simp only [Rep] at h ⊢
    obtain ⟨k1, k2⟩ := k.N hh
    exact ⟨h.1, Nat.lt_of_lt_of_le h.2.1 k1, by rw [k2 id h.2.1]; exact h.2.2⟩
  | .pd id z r c, v, F, nh, nr, h, ha, hb, k => by
    have hh : nh = false := by cases nh; rfl; simp [noH] at ha
    simp only [Rep] at h ⊢
    obtain ⟨k1, k2⟩ := k.N hh
    exact ⟨h.1, Nat.lt_of_lt_of_le h.2.1 k1, by rw [k2 id h.2.1]; exact h.2.2⟩
  | .sl id z r c, v, F, nh, nr, h, ha, hb, k => by
    have hh : nh = false := by cases nh; rfl; simp [noH] at ha
    simp only [Rep] at h ⊢
    obtain ⟨k1, k2⟩ := k.N hh
    exact ⟨h.1, Nat.lt_of_lt_of_le h.2.1 k1, by rw [k2 id h.2.1]; exact h.2.2⟩
  | .clo f cs, v, F, nh, nr, h, ha, hb, k => by
    simp only [Rep] at h ⊢
    obtain ⟨hE, vs, hv, hr⟩ := h
    exact ⟨hE, vs, hv, RepL.keep2 cs hr (by simpa [noH] using ha) (by simpa [noRo] using hb) (k.sub fun b m x => x.elim)⟩
  | .mp t kvs, v, F, nh, nr, h, ha, hb, k => by
    simp only [Rep] at h ⊢
    obtain ⟨b, es, clock, hv, hbk, he, hF⟩ := h
    exact ⟨b, es, clock, hv, by rw [k.f b 0 ((hF b 0).2 ⟨rfl, rfl⟩)]; exact hbk, RepRows.keep2 kvs he (by simpa [noH] using ha) (by simpa [noRo] using hb) (k.sub fun b m x => x.elim), hF⟩
theorem RepL.keep2 : ∀ (ts : List TV) {vs : List Value} {F : Foot} {nh nr : Bool}, RepL P e ts vs F → (nh = true → noHL ts = true) → (nr = true → noRoL ts = true) → Keep2 e e' F nh nr → RepL P e' ts vs F
  | [], vs, F, nh, nr, h, ha, hb, k => by simp only [RepL] at h ⊢; exact h
  | t :: ts, vs, F, nh, nr, h, ha, hb, k => by
    simp only [RepL] at h ⊢
    obtain ⟨v, vs', F1, F2, hv, h1, h2, hs⟩ := h
    simp only [noHL, noRoL, Bool.and_eq_true] at ha hb
    exact ⟨v, vs', F1, F2, hv, Rep.keep2 t h1 (fun x => (ha x).1) (fun x => (hb x).1) (k.sub hs.l), RepL.keep2 ts h2 (fun x => (ha x).2) (fun x => (hb x).2) (k.sub hs.r), hs⟩
theorem RepRows.keep2 : ∀ (ts : List (List TV)) {vs : List Value} {F : Foot} {nh nr : Bool}, RepRows P e ts vs F → (nh = true → noHR ts = true) → (nr = true → noRoR ts = true) → Keep2 e e' F nh nr → RepRows P e' ts vs F
  | [], vs, F, nh, nr, h, ha, hb, k => by simp only [RepRows] at h ⊢; exact h
  | t :: ts, vs, F, nh, nr, h, ha, hb, k => by
    simp only [RepRows] at h ⊢
    obtain ⟨v1, v2, F1, F2, hv, h1, h2, hs⟩ := h
    simp only [noHR, noRoR, Bool.and_eq_true] at ha hb
    exact ⟨v1, v2, F1, F2, hv, RepL.keep2 t h1 (fun x => (ha x).1) (fun x => (hb x).1) (k.sub hs.l), RepRows.keep2 ts h2 (fun x => (ha x).2) (fun x => (hb x).2) (k.sub hs.r), hs⟩
end
/-- The footprints of a list, one by one. -/
theorem RepL.fam : ∀ {ts : List TV} {vs : List Value} {F : Foot}, RepL P e ts vs F → ∃ FH : Nat → Foot, (∀ i t v, ts[i]? = some t → vs[i]? = some v → Rep P e t v (FH i)) ∧ (∀ i, ts.length ≤ i → Emp (FH i)) ∧ (∀ i i' b m m', FH i b m → FH i' b m' → i = i') ∧ (∀ i b m, FH i b m → F b m)
  | [], vs, F, h => ⟨fun _ => noF, fun i t v hi => by simp at hi, fun _ _ => emp_noF, fun i i' b m m' x => x.elim, fun i b m x => x.elim⟩
  | t :: ts, vs, F, h => by
    simp only [RepL] at h
    obtain ⟨v, vs', F1, F2, rfl, h1, h2, hs⟩ := h
    obtain ⟨FH, g1, g2, g3, g4⟩ := RepL.fam h2
    refine ⟨fun i => match i with | 0 => F1 | i + 1 => FH i, ?_, ?_, ?_, ?_⟩
    · intro i t' v' hi hv
      cases i with
      | zero => simp at hi hv; subst hi hv; exact h1
      | succ i => exact g1 i t' v' (by simpa using hi) (by simpa using hv)
    · intro i hi
      cases i with
      | zero => simp at hi
      | succ i => exact g2 i (by simpa using hi)
    · intro i i' b m m' hi hi'
      cases i <;> cases i'
      · rfl
      · exact (hs.dis b m m' hi (g4 _ b m' hi')).elim
      · exact (hs.dis b m' m hi' (g4 _ b m hi)).elim
      · rw [g3 _ _ b m m' hi hi']
    · intro i b m hi
      cases i with
      | zero => exact hs.l b m hi
      | succ i => exact hs.r b m (g4 i b m hi)
end

def ηs (m : Nat) (η : Nat → Value) : List Value := (List.range m).map η
/-- THE CONTRACT OF A FUNCTION: called with these arguments, over these objects of the caller's (named 0, 1, ..), it hands back this, and leaves the objects so. -/
def TC (P : Program) (f : FuncId) (args objs : List TV) (res : TV) (objs' : List TV) : Prop :=
  ∀ (w : World) (Z : Nat → Prop) (η : Nat → Value) (F : Foot) (vs : List Value), RepL P ⟨w, Z, objs.length, η⟩ args vs noF → RepL P ⟨w, Z, objs.length, η⟩ objs (ηs objs.length η) F →
    (∀ b, Z b → b < w.heap.size) → (∀ b m, F b m → ¬ Z b ∧ b < w.heap.size) → Laid P Z w →
    Calls P f vs.toArray w fun x w' => ∃ v Z' F', x = .returned v ∧ RepL P ⟨w', Z', objs.length, η⟩ (res :: objs') (v :: ηs objs.length η) F' ∧ Grow w w' (fun b => ∃ m, F b m) ∧
      (∀ b, Z b → Z' b) ∧ (∀ b, Z' b → b < w'.heap.size) ∧ (∀ b, Z' b → Z b ∨ (∃ m, F b m) ∨ w.heap.size ≤ b) ∧ (∀ b m, F' b m → ((∃ m', F b m') ∨ w.heap.size ≤ b) ∧ ¬ Z' b ∧ b < w'.heap.size)

/-- The same, where what is handed back is only known to be so. -/
def TCR (P : Program) (f : FuncId) (args objs : List TV) (R : TV → List TV → Prop) : Prop :=
  ∀ (w : World) (Z : Nat → Prop) (η : Nat → Value) (F : Foot) (vs : List Value), RepL P ⟨w, Z, objs.length, η⟩ args vs noF → RepL P ⟨w, Z, objs.length, η⟩ objs (ηs objs.length η) F →
    (∀ b, Z b → b < w.heap.size) → (∀ b m, F b m → ¬ Z b ∧ b < w.heap.size) → Laid P Z w →
    Calls P f vs.toArray w fun x w' => ∃ res objs', R res objs' ∧ ∃ v Z' F', x = .returned v ∧ RepL P ⟨w', Z', objs.length, η⟩ (res :: objs') (v :: ηs objs.length η) F' ∧ Grow w w' (fun b => ∃ m, F b m) ∧
      (∀ b, Z b → Z' b) ∧ (∀ b, Z' b → b < w'.heap.size) ∧ (∀ b, Z' b → Z b ∨ (∃ m, F b m) ∨ w.heap.size ≤ b) ∧ (∀ b m, F' b m → ((∃ m', F b m') ∨ w.heap.size ≤ b) ∧ ¬ Z' b ∧ b < w'.heap.size)
theorem TC.toR {P : Program} {f : FuncId} {args objs objs' : List TV} {res : TV} {R : TV → List TV → Prop} (h : TC P f args objs res objs') (hR : R res objs') : TCR P f args objs R := fun w Z η F vs h1 h2 h3 h4 h5 =>
  (h w Z η F vs h1 h2 h3 h4 h5).mono fun x w' hx => ⟨res, objs', hR, hx⟩
theorem TCR.toTC {P : Program} {f : FuncId} {args objs objs' : List TV} {res : TV} (h : TCR P f args objs (fun r o => r = res ∧ o = objs')) : TC P f args objs res objs' := fun w Z η F vs h1 h2 h3 h4 h5 =>
  (h w Z η F vs h1 h2 h3 h4 h5).mono fun x w' ⟨_, _, ⟨e1, e2⟩, hx⟩ => by subst e1 e2; exact hx
theorem TCR.mono {P : Program} {f : FuncId} {args objs : List TV} {R R' : TV → List TV → Prop} (h : TCR P f args objs R) (hR : ∀ r o, R r o → R' r o) : TCR P f args objs R' := fun w Z η F vs h1 h2 h3 h4 h5 =>
  (h w Z η F vs h1 h2 h3 h4 h5).mono fun x w' ⟨r, o, hr, hx⟩ => ⟨r, o, hR r o hr, hx⟩

def isObj : TV → Bool
  | .own _ _ | .box _ _ | .mp _ _ => true
  | _ => false
/-- What is handed back: names give way to what they name. -/
def closeL : (Nat → Option TV) → List TV → Option (List TV × (Nat → Option TV))
  | H, [] => some ([], H)
  | H, .hd i :: ts => match H i with
    | some t => match closeL (del H i) ts with
      | some (r, H') => some (t :: r, H')
      | none => none
    | none => none
  | H, .pd i 0 0 0 :: ts => match H i with
    | some (.box ty cs) => match closeL (del H i) ts with
      | some (r, H') => some (.box ty cs :: r, H')
      | none => none
    | _ => none
  | H, t :: ts => match closeL H ts with
    | some (r, H') => some (t :: r, H')
    | none => none
def closeT (H : Nat → Option TV) (t : TV) : Option (TV × (Nat → Option TV)) := match t with
  | .agg cs => match closeL H cs with
    | some (r, H') => some (.agg r, H')
    | none => none
  | t => match closeL H [t] with
    | some ([r], H') => some (r, H')
    | _ => none
def closeR (P : Program) (n : Nat) (s : St) : (Nat → Option TV) → List ResultVar → Option (List TV × (Nat → Option TV))
  | H, [] => some ([], H)
  | H, .tmp t :: rs => if t < n then match closeT H (s.σ t) with
    | some (r, H1) => match closeR P n s H1 rs with
      | some (rr, H2) => some (r :: rr, H2)
      | none => none
    | none => none else none
  | H, .cell p ty :: rs => if p < n then match s.σ p with
    | .pd i 0 0 0 => match H i with
      | some (.box _ cs) => match P.underlying ty with
        | some (.struct _) | some (.array _ _) => if szOf P ty = cs.length then match closeL (del H i) cs with
          | some (r, H1) => match closeR P n s H1 rs with
            | some (rr, H2) => some (.agg r :: rr, H2)
            | none => none
          | none => none else none
        | some _ => match cs with
          | [c] => match closeL (del H i) [c] with
            | some ([r], H1) => match closeR P n s H1 rs with
              | some (rr, H2) => some (r :: rr, H2)
              | none => none
            | _ => none
          | _ => none
        | none => none
      | _ => none
    | _ => none else none
def resTV : List TV → TV
  | [t] => t
  | ts => .tup ts
section
variable {P : Program} {C : Ctx} {n : Nat} {s : St} {a : Act} {e : Env} {FH : Nat → Foot} {w : World}
/-- What closing hands over. -/
structure Took (H H' : Nat → Option TV) (FH : Nat → Foot) (F0 F : Foot) : Prop where
  sub : ∀ i, H' i = none ∨ H' i = H i
  foot : ∀ b m, F b m → F0 b m ∨ ∃ i, H i ≠ none ∧ H' i = none ∧ FH i b m
theorem Took.mono0 {H H' : Nat → Option TV} {FH : Nat → Foot} {F0 F1 F : Foot} (h : Took H H' FH F0 F) (s : Sub F0 F1) : Took H H' FH F1 F := ⟨h.sub, fun b m hb => (h.foot b m hb).imp (s b m) (fun x => x)⟩
theorem closeL_rep (hobj : ∀ i t, s.H i = some t → Rep P e t (e.η i) (FH i)) (hone : ∀ i i' b m m', FH i b m → FH i' b m' → i = i') : ∀ {xs : List TV} {H H' : Nat → Option TV} {ys : List TV} {vs : List Value} {F0 : Foot},
    RepL P e xs vs F0 → closeL H xs = some (ys, H') → (∀ i, H i = none ∨ H i = s.H i) → (∀ i t b m m', H i = some t → FH i b m → F0 b m' → False) → ∃ F, RepL P e ys vs F ∧ Took H H' FH F0 F
  | [], H, H', ys, vs, F0, hx, hc, hH, hd => by
    simp only [closeL] at hc; cases hc
    exact ⟨F0, hx, ⟨fun i => .inr rfl, fun b m hb => .inl hb⟩⟩
  | t :: ts, H, H', ys, vs, F0, hx, hc, hH, hd => by
    simp only [RepL] at hx
    obtain ⟨v, vs', F1, F2, rfl, h1, h2, hs⟩ := hx
    have plain : ∀ {r H1}, closeL H ts = some (r, H1) → ys = t :: r → H' = H1 → ∃ F, RepL P e ys (v :: vs') F ∧ Took H H' FH F0 F := by
      rintro r H1 hr rfl rfl
      obtain ⟨F, hl, ht⟩ := closeL_rep hobj hone h2 hr hH (fun i t b m m' hi hf h0 => hd i t b m m' hi hf (hs.r b m' h0))
      have hdis : Dis F1 F := by
        intro b m m' hb hb'
        rcases ht.foot b m' hb' with h0 | ⟨i, hi, _, hf⟩
        · exact hs.dis b m m' hb h0
        · obtain ⟨t', ht'⟩ := Option.ne_none_iff_exists'.1 hi
          exact hd i t' b m' m ht' hf (hs.l b m hb)
      refine ⟨Uni F1 F, ?_, ⟨ht.sub, ?_⟩⟩
      · simp only [RepL]; exact ⟨v, vs', F1, F, rfl, h1, hl, spl_uni hdis⟩
      · rintro b m (hb | hb)
        · exact .inl (hs.l b m hb)
        · exact (ht.foot b m hb).imp (hs.r b m) (fun x => x)
    have taken : ∀ {i t0 r H1}, H i = some t0 → v = e.η i → closeL (del H i) ts = some (r, H1) → ys = t0 :: r → H' = H1 → ∃ F, RepL P e ys (v :: vs') F ∧ Took H H' FH F0 F := by
      rintro i t0 r H1 hi hv hr rfl rfl
      have hi' : s.H i = some t0 := by rcases hH i with h | h; rw [h] at hi; cases hi; rw [← h, hi]
      obtain ⟨F, hl, ht⟩ := closeL_rep hobj hone h2 hr (fun j => by
        by_cases e1 : j = i
        · subst e1; exact .inl (by simp [del])
        · simpa [del, e1] using hH j) (fun j t b m m' hj hf h0 => by
        by_cases e1 : j = i
        · subst e1; simp [del] at hj
        · exact hd j t b m m' (by simpa [del, e1] using hj) hf (hs.r b m' h0))
      have hdis : Dis (FH i) F := by
        intro b m m' hb hb'
        rcases ht.foot b m' hb' with h0 | ⟨j, hj, _, hf⟩
        · exact hd i t0 b m m' hi hb (hs.r b m' h0)
        · have := hone i j b m m' hb hf
          subst this; simp [del] at hj
      refine ⟨Uni (FH i) F, ?_, ⟨?_, ?_⟩⟩
      · simp only [RepL]; exact ⟨v, vs', FH i, F, rfl, by rw [hv]; exact hobj i t0 hi', hl, spl_uni hdis⟩
      · intro j
        rcases ht.sub j with h | h
        · exact .inl h
        · by_cases e1 : j = i
          · subst e1; rw [h]; exact .inl (by simp [del])
          · exact .inr (by rw [h]; simp [del, e1])
      · rintro b m (hb | hb)
        · refine .inr ⟨i, by rw [hi]; simp, ?_, hb⟩
          rcases ht.sub i with h | h
          · exact h
          · rw [h]; simp [del]
        · rcases ht.foot b m hb with h0 | ⟨j, hj, hj', hf⟩
          · exact .inl (hs.r b m h0)
          · refine .inr ⟨j, ?_, hj', hf⟩
            intro hn
            apply hj
            by_cases e1 : j = i
            · subst e1; simp [del]
            · simp [del, e1, hn]
    unfold closeL at hc
    split at hc
    · rename_i heq; cases heq
    · rename_i i ts' heq
      injection heq with e1 e2
      subst e1 e2
      split at hc
      · rename_i t0 hi
        split at hc
        · rename_i r H1 hr
          cases hc
          simp only [Rep] at h1
          exact taken hi h1.2.2.1 hr rfl rfl
        · cases hc
      · cases hc
    · rename_i i ts' heq
      injection heq with e1 e2
      subst e1 e2
      split at hc
      · rename_i ty cs hi
        split at hc
        · rename_i r H1 hr
          cases hc
          refine taken hi ?_ hr rfl rfl
          have hi' : s.H i = some (.box ty cs) := by rcases hH i with h | h; rw [h] at hi; cases hi; rw [← h, hi]
          have hO := hobj i _ hi'
          simp only [Rep] at h1
          obtain ⟨_, _, b, hb, rfl⟩ := h1
          simp only [Rep] at hO
          obtain ⟨g, vs1, F', hv, _⟩ := hO
          rw [hv] at hb ⊢
          have : g = b := by simpa [hblk] using hb
          subst this; simp
        · cases hc
      · cases hc
    · rename_i t' ts' hn1 hn2 heq
      injection heq with e1 e2
      subst e1 e2
      split at hc
      · rename_i r H1 hr
        cases hc
        exact plain hr rfl rfl
      · cases hc
end
end Go.Proofs.YtdomnlnanbekaaaGreatDoor.T

namespace Go.Proofs.YtdomnlnanbekaaaGreatDoor.T
set_option linter.unusedVariables false
set_option linter.unusedSimpArgs false
open Go.RowKit

section
variable {P : Program} {C : Ctx} {n : Nat} {s : St} {a : Act} {e : Env} {FH : Nat → Foot} {w : World}
theorem repL_one {t : TV} {v : Value} {F : Foot} : RepL P e [t] [v] F ↔ Rep P e t v F := by
  constructor
  · intro h
    simp only [RepL] at h
    obtain ⟨v', vs', F1, F2, hv, h1, ⟨rfl, hE⟩, hs⟩ := h
    injection hv with hv _
    subst hv
    exact Rep.foot t h1 fun b m => ⟨fun x => ((hs.iff b m).1 x).elim id (fun y => (hE b m y).elim), hs.l b m⟩
  · intro h
    simp only [RepL]
    exact ⟨v, [], F, noF, rfl, h, ⟨rfl, emp_noF⟩, ⟨fun b m => ⟨.inl, fun x => x.elim id (fun y => y.elim)⟩, fun b m m' _ y => y⟩⟩
/-- The side conditions of closing, for a table that is part of the state's. -/
structure Tab (s : St) (FH : Nat → Foot) (H : Nat → Option TV) (F0 : Foot) : Prop where
  sub : ∀ i, H i = none ∨ H i = s.H i
  dis : ∀ i t b m m', H i = some t → FH i b m → F0 b m' → False
theorem closeT_rep (h : RelX P C s a e FH) {H H' : Nat → Option TV} {t r : TV} {v : Value} {F0 : Foot} (ht : Rep P e t v F0) (hc : closeT H t = some (r, H')) (hT : Tab s FH H F0) : ∃ F, Rep P e r v F ∧ Took H H' FH F0 F := by
  unfold closeT at hc
  split at hc
  · split at hc
    · rename_i cs r' H1 hr
      cases hc
      simp only [Rep] at ht
      obtain ⟨vs, rfl, hl, h1⟩ := ht
      obtain ⟨F, hl', htk⟩ := closeL_rep h.objs h.one hl hr hT.sub hT.dis
      exact ⟨F, by simp only [Rep]; exact ⟨vs, rfl, hl', h1⟩, htk⟩
    · cases hc
  · split at hc
    · rename_i r' H1 hr
      cases hc
      obtain ⟨F, hl', htk⟩ := closeL_rep h.objs h.one (repL_one.2 ht) hr hT.sub hT.dis
      exact ⟨F, repL_one.1 hl', htk⟩
    · cases hc
theorem Took.tab {H H' : Nat → Option TV} {F0 F : Foot} (hk : Took H H' FH F0 F) (h : ∀ i, H i = none ∨ H i = s.H i) : ∀ i, H' i = none ∨ H' i = s.H i := fun i => by
  rcases hk.sub i with h1 | h1
  · exact .inl h1
  · rw [h1]; exact h i
def oneRes (tmps : Array Value) : ResultVar → Sem Value
  | .tmp t => pure (tmps.getD t undef)
  | .cell a t => do loadVar t (← asAddr (tmps.getD a undef))
theorem closeR_rep (h : RelX P C s a e FH) (hn : a.tmps.size = n) : ∀ {rs : List ResultVar} {H H' : Nat → Option TV} {rr : List TV}, closeR P n s H rs = some (rr, H') → (∀ i, H i = none ∨ H i = s.H i) →
    ∃ vals F, (rs.mapM (oneRes a.tmps)).run P e.w = .ok vals e.w ∧ vals.length = rs.length ∧ RepL P e rr vals F ∧ Took H H' FH noF F
  | [], H, H', rr, hc, hH => by
    simp only [closeR] at hc; cases hc
    exact ⟨[], noF, rfl, rfl, by simp [RepL, emp_noF], ⟨fun i => .inr rfl, fun b m x => x.elim⟩⟩
  | r :: rs, H, H', rr, hc, hH => by
    have go : ∀ {t' : TV} {v : Value} {F1 : Foot} {H1 : Nat → Option TV} {rr' : List TV}, (oneRes a.tmps r).run P e.w = .ok v e.w → Rep P e t' v F1 → Took H H1 FH noF F1 → closeR P n s H1 rs = some (rr', H') → rr = t' :: rr' →
        ∃ vals F, ((r :: rs).mapM (oneRes a.tmps)).run P e.w = .ok vals e.w ∧ vals.length = (r :: rs).length ∧ RepL P e rr vals F ∧ Took H H' FH noF F := by
      rintro t' v F1 H1 rr' hv ht hk1 hr rfl
      obtain ⟨vals, F, hvs, hlen, hl, hk2⟩ := closeR_rep h hn hr (hk1.tab hH)
      have hdis : Dis F1 F := by
        intro b m m' hb hb'
        rcases hk1.foot b m hb with h0 | ⟨i, hi, hi', hf⟩
        · exact h0
        · rcases hk2.foot b m' hb' with h0 | ⟨j, hj, hj', hf'⟩
          · exact h0
          · have := h.one i j b m m' hf hf'
            subst this; exact hj hi'
      refine ⟨v :: vals, Uni F1 F, ?_, by simp [hlen], ?_, ⟨?_, ?_⟩⟩
      · simp only [List.mapM_cons, Sem.run_bind, hv, Result.andThen_ok, hvs, Sem.run_pure]
      · simp only [RepL]; exact ⟨v, vals, F1, F, rfl, ht, hl, spl_uni hdis⟩
      · intro i
        rcases hk2.sub i with h1 | h1
        · exact .inl h1
        · rw [h1]; exact hk1.sub i
      · rintro b m (hb | hb)
        · rcases hk1.foot b m hb with h0 | ⟨i, hi, hi', hf⟩
          · exact .inl h0
          · refine .inr ⟨i, hi, ?_, hf⟩
            rcases hk2.sub i with h1 | h1
            · exact h1
            · rw [h1]; exact hi'
        · rcases hk2.foot b m hb with h0 | ⟨j, hj, hj', hf'⟩
          · exact .inl h0
          · refine .inr ⟨j, ?_, hj', hf'⟩
            rcases hk1.sub j with h1 | h1
            · exact (hj h1).elim
            · rw [← h1]; exact hj
    cases r with
    | tmp t =>
      simp only [closeR] at hc
      split at hc
      · rename_i hlt
        split at hc
        · rename_i r' H1 hr
          split at hc
          · rename_i rr' H2 hr2
            cases hc
            obtain ⟨F1, ht, hk⟩ := closeT_rep h (h.slots t (hn ▸ hlt)) hr ⟨hH, fun i t b m m' _ _ x => x⟩
            exact go rfl ht hk hr2 rfl
          · cases hc
        · cases hc
      · cases hc
    | cell p ty =>
      simp only [closeR] at hc
      split at hc
      · rename_i hlt
        split at hc
        · rename_i i hp
          split at hc
          · rename_i ty' cs hi
            have hi' : s.H i = some (.box ty' cs) := by rcases hH i with h1 | h1; rw [h1] at hi; cases hi; rw [← h1, hi]
            have hO := h.objs i _ hi'
            simp only [Rep] at hO
            obtain ⟨g, vs, F1, hv, hg, hl, h1, hs⟩ := hO
            have hslot := h.slots p (hn ▸ hlt)
            rw [hp] at hslot
            simp only [Rep] at hslot
            obtain ⟨_, _, b, hb, hpv⟩ := hslot
            have hgb : g = b := by rw [hv] at hb; simpa [hblk] using hb
            subst hgb
            simp only [Nat.mul_zero, Nat.add_zero] at hpv
            have hpa : (asAddr (a.tmps.getD p undef)).run P e.w = .ok ⟨g, 0, none⟩ e.w := by rw [hpv]; rfl
            have hcell : ∀ j u, vs[j]? = some u → e.w.cell? ((⟨g, 0, none⟩ : Addr).add j) = some u := fun j u hu => by
              rw [add_mk, cell_of_row e.w g (0 + j) vs.toArray ty' (0, 0) hg]; simpa using hu
            have hT : Tab s FH (del H i) F1 := ⟨fun j => by
              by_cases e1 : j = i
              · subst e1; exact .inl (by simp [del])
              · simpa [del, e1] using hH j, fun j t b m m' hj hf hf' => by
              have := h.one j i b m m' hf (hs.r b m' hf')
              subst this; simp [del] at hj⟩
            have took : ∀ {H1 : Nat → Option TV} {F : Foot}, Took (del H i) H1 FH F1 F → Took H H1 FH noF F := by
              intro H1 F hk
              refine ⟨fun j => ?_, fun b m hb => ?_⟩
              · rcases hk.sub j with h1 | h1
                · exact .inl h1
                · by_cases e1 : j = i
                  · subst e1; rw [h1]; exact .inl (by simp [del])
                  · exact .inr (by rw [h1]; simp [del, e1])
              · rcases hk.foot b m hb with h0 | ⟨j, hj, hj', hf⟩
                · refine .inr ⟨i, by rw [hi]; simp, ?_, hs.r b m h0⟩
                  rcases hk.sub i with h1 | h1
                  · exact h1
                  · rw [h1]; simp [del]
                · refine .inr ⟨j, ?_, hj', hf⟩
                  intro hn'
                  apply hj
                  by_cases e1 : j = i
                  · subst e1; simp [del]
                  · simp [del, e1, hn']
            have agg : ∀ d, P.underlying ty = some d → aggD d = true → (if szOf P ty = cs.length then match closeL (del H i) cs with
                | some (r, H1) => match closeR P n s H1 rs with
                  | some (rr, H2) => some (TV.agg r :: rr, H2)
                  | none => none
                | none => none else none) = some (rr, H') → ∃ vals F, ((ResultVar.cell p ty :: rs).mapM (oneRes a.tmps)).run P e.w = .ok vals e.w ∧ vals.length = (ResultVar.cell p ty :: rs).length ∧ RepL P e rr vals F ∧ Took H H' FH noF F := by
              intro d hd hm hc
              split at hc
              · rename_i hsz
                split at hc
                · rename_i r' H1 hr
                  split at hc
                  · rename_i rr' H2 hr2
                    cases hc
                    obtain ⟨F, hl', hk⟩ := closeL_rep h.objs h.one hl hr hT.sub hT.dis
                    obtain ⟨ti, hti, hsz'⟩ := info_of_und hd
                    refine go (t' := .agg r') (v := .agg vs.toArray) ?_ (by simp only [Rep]; exact ⟨vs, rfl, hl', h1⟩) (took hk) hr2 rfl
                    have hload := run_loadCells_list (P := P) (w := e.w) ⟨g, 0, none⟩ vs hcell
                    rw [hl.len, ← hsz, ← hsz'] at hload
                    simp only [oneRes, hpa, loadVar, Sem.run_bind, Sem.run_pure, Result.andThen_ok, run_isAgg hd, hm, if_true, run_sizeOf hti]
                    rw [hload]; rfl
                  · cases hc
                · cases hc
              · cases hc
            split at hc
            · rename_i fs hd; exact agg _ hd rfl hc
            · rename_i l el hd; exact agg _ hd rfl hc
            · rename_i d hn1 hn2 hd
              split at hc
              · rename_i c
                split at hc
                · rename_i r' H1 hr
                  split at hc
                  · rename_i rr' H2 hr2
                    cases hc
                    obtain ⟨F, hl', hk⟩ := closeL_rep h.objs h.one hl hr hT.sub hT.dis
                    have hvl := hl.len
                    obtain ⟨u, rfl⟩ : ∃ u, vs = [u] := List.length_eq_one_iff.1 (by simpa using hvl)
                    refine go (t' := r') (v := u) ?_ (repL_one.1 hl') (took hk) hr2 rfl
                    have hm : aggD d = false := by
                      cases d with
                      | struct fs => exact (hn1 fs rfl).elim
                      | array l el => exact (hn2 l el rfl).elim
                      | _ => rfl
                    have hc0 := hcell 0 u rfl
                    simp only [add_mk, Nat.add_zero] at hc0
                    simp only [oneRes, hpa, loadVar, Sem.run_bind, Sem.run_pure, Result.andThen_ok, run_isAgg hd, hm, Bool.false_eq_true, if_false, run_load]
                    simp [hc0]
                  · cases hc
                · cases hc
              · cases hc
            · cases hc
          · cases hc
        · cases hc
      · cases hc
theorem results_run {fn : Func} {tmps : Array Value} {vals : List Value} (h : (fn.results.toList.mapM (oneRes tmps)).run P w = .ok vals w) : (results fn tmps).run P w = .ok (if h : vals.length = 1 then vals[0] else .tuple vals.toArray) w := by
  have e2 : (fn.results.mapM (oneRes tmps)).run P w = .ok vals.toArray w := by
    generalize fn.results = r at h ⊢
    obtain ⟨l⟩ := r
    rw [List.mapM_toArray, Sem.run_map, h]; rfl
  have e1 : results fn tmps = (do let vs ← fn.results.mapM (oneRes tmps); pure (if h : vs.size = 1 then vs[0] else .tuple vs)) := by
    unfold results
    rfl
  rw [e1, Sem.run_bind, e2]
  simp only [Result.andThen_ok, Sem.run_pure, List.size_toArray]
  congr 1
theorem range_getD {objs : List TV} {i : Nat} {t : TV} (h : objs[i]? = some t) (η : Nat → Value) : (ηs objs.length η)[i]? = some (η i) := by
  have := (List.getElem?_eq_some_iff.1 h).1
  simp [ηs, this]
theorem repL_mk {η : Nat → Value} {g : Nat → Foot} : ∀ (l : List Nat) (f : Nat → TV), (∀ i ∈ l, Rep P e (f i) (η i) (g i)) → l.Nodup → (∀ i j b m m', g i b m → g j b m' → i = j) → RepL P e (l.map f) (l.map η) (fun b m => ∃ i ∈ l, g i b m)
  | [], f, h, hn, hd => by simp only [List.map_nil, RepL]; exact ⟨trivial, fun b m ⟨i, hi, _⟩ => by cases hi⟩
  | i :: l, f, h, hn, hd => by
    have ih := repL_mk l f (fun j hj => h j (by simp [hj])) (List.nodup_cons.1 hn).2 hd
    simp only [List.map_cons, RepL]
    refine ⟨η i, l.map η, g i, _, rfl, h i (by simp), ih, ⟨fun b m => ?_, ?_⟩⟩
    · simp
    · rintro b m m' hb ⟨j, hj, hb'⟩
      have := hd i j b m m' hb hb'
      subst this
      exact (List.nodup_cons.1 hn).1 hj
theorem TCR.enter {f : FuncId} {fn : Func} {c : Code} {args objs : List TV} {R : TV → List TV → Prop} (hf : P.funcs[f]? = some fn) (hb : fn.body = some c) (hlen : args.length ≤ fn.ntmps) (hk : objs.all isObj = true)
    (h : TWc P fn.ntmps c (fun x s => (x = .normal ∨ x = .ret) ∧ ∃ rr H', closeR P fn.ntmps s s.H fn.results.toList = some (rr, H') ∧ noHL rr = true ∧ noHL ((List.range objs.length).map (fun i => (H' i).getD .any)) = true ∧ R (resTV rr) ((List.range objs.length).map (fun i => (H' i).getD .any)))
      ⟨fun j => args.getD j .any, fun i => objs[i]?⟩) : TCR P f args objs R := by
  intro w Z η F vs hargs hobjs hZ hF hlaid
  obtain ⟨FH, g1, g2, g3, g4⟩ := hobjs.fam
  have hvl := hargs.len
  have hrel : RelX P ⟨w, Z, F, objs.length, η⟩ ⟨fun j => args.getD j .any, fun i => objs[i]?⟩ { tmps := vs.toArray ++ Array.replicate (fn.ntmps - vs.toArray.size) undef, defers := [] } ⟨w, Z, objs.length, η⟩ FH := by
    refine ⟨rfl, ?_, ?_, ?_, ?_, ?_, g3, fun i b m hi => (hF b m (g4 i b m hi)).1, fun i b m hi => (hF b m (g4 i b m hi)).2, hZ, rfl, rfl, rfl, Nat.le_refl _, fun b x => x, fun b x => .inl x, fun i b m hi => .inl ⟨m, g4 i b m hi⟩, fun b _ _ => rfl, Nat.le_refl _, fun _ _ => rfl, hlaid, fun b m hb => (hF b m hb).1⟩
    · intro j hj
      by_cases hj' : j < args.length
      · have ha : args[j]? = some args[j] := List.getElem?_eq_getElem hj'
        obtain ⟨v, F1, hv, hr, hs⟩ := hargs.get ha
        have e1 : args.getD j .any = args[j] := by rw [List.getD_eq_getElem?_getD, ha]; rfl
        have e2 : (vs.toArray ++ Array.replicate (fn.ntmps - vs.toArray.size) undef).getD j undef = v := by
          rw [Array.getD_eq_getD_getElem?, Array.getElem?_append_left (by simp; omega)]
          simp [hv]
        simp only [e1, e2]
        exact hr.toN (emp_noF.sub hs)
      · have e1 : args.getD j .any = .any := by rw [List.getD_eq_getElem?_getD, List.getElem?_eq_none (by omega)]; rfl
        simp only [e1, Rep]; exact emp_noF
    · intro i t hi
      exact g1 i t (η i) hi (range_getD hi η)
    · intro i t hi
      have := List.all_eq_true.1 hk t (List.mem_of_getElem? hi)
      cases t <;> first | exact .inl ⟨_, _, rfl⟩ | exact .inr (.inl ⟨_, _, rfl⟩) | exact .inr (.inr ⟨_, _, rfl⟩) | cases this
    · intro i hi
      exact g2 i (by simpa using hi)
    · intro i hi
      exact List.getElem?_eq_none hi
  refine calls_of_wp hf hb (wp_mono (h _ _ _ ⟨by simp; omega, _, FH, rfl, hrel⟩) ?_)
  rintro x a' w' ⟨s', ⟨hx, rr, H', hclose, hnoh, hnoh', hRR⟩, hn', e', FH', rfl, hX⟩
  obtain ⟨res, hres⟩ : ∃ res, resTV rr = res := ⟨_, rfl⟩
  obtain ⟨objs', hobj'⟩ : ∃ o, (List.range objs.length).map (fun i => (H' i).getD .any) = o := ⟨_, rfl⟩
  rw [hres, hobj'] at hRR
  rw [hobj'] at hnoh'
  obtain ⟨vals, F1, hrun, hvlen, hl, htook⟩ := closeR_rep hX hn' hclose (fun i => .inr rfl)
  have hresults := results_run (fn := fn) hrun
  have hlive : ∀ i, H' i = none ∨ H' i = s'.H i := htook.sub
  have key : ∃ v Z' F', (if h : vals.length = 1 then vals[0] else .tuple vals.toArray) = v ∧ RepL P ⟨e'.w, Z', objs.length, η⟩ (res :: objs') (v :: ηs objs.length η) F' ∧ Grow w e'.w (fun b => ∃ m, F b m) ∧
      (∀ b, Z b → Z' b) ∧ (∀ b, Z' b → b < e'.w.heap.size) ∧ (∀ b, Z' b → Z b ∨ (∃ m, F b m) ∨ w.heap.size ≤ b) ∧ (∀ b m, F' b m → ((∃ m', F b m') ∨ w.heap.size ≤ b) ∧ ¬ Z' b ∧ b < e'.w.heap.size) := by
    have hrr : Rep P e' (resTV rr) (if h : vals.length = 1 then vals[0] else .tuple vals.toArray) F1 := by
      have hl' := hl.len
      by_cases h1 : vals.length = 1
      · obtain ⟨u, rfl⟩ := List.length_eq_one_iff.1 h1
        obtain ⟨t, rfl⟩ : ∃ t, rr = [t] := List.length_eq_one_iff.1 (by simpa using hl'.symm)
        simpa [resTV] using repL_one.1 hl
      · rw [dif_neg h1]
        have : resTV rr = .tup rr := by
          match rr, hl' with
          | [], _ => rfl
          | [t], hl' => simp at hl'; omega
          | _ :: _ :: _, _ => rfl
        rw [this]; simp only [Rep]; exact ⟨vals, rfl, hl⟩
    let g : Nat → Foot := fun i => if H' i = none then noF else FH' i
    have hg : ∀ i b m, g i b m → H' i ≠ none ∧ FH' i b m := by
      intro i b m hb
      show H' i ≠ none ∧ _
      by_cases hi : H' i = none
      · simp [g, hi] at hb; exact hb.elim
      · simp [g, hi] at hb; exact ⟨hi, hb⟩
    have hobjsR : RepL P e' objs' (ηs objs.length η) (fun b m => ∃ i ∈ List.range objs.length, g i b m) := by
      have := repL_mk (P := P) (e := e') (η := e'.η) (g := g) (List.range objs.length) (fun i => (H' i).getD .any) (by
        intro i hi
        cases hc : H' i with
        | none => simp [g, hc, Rep, emp_noF]
        | some t =>
          have hs : s'.H i = some t := by rcases hlive i with h1 | h1; rw [h1] at hc; cases hc; rw [← h1, hc]
          simp [g, hc]; exact hX.objs i t hs) List.nodup_range (fun i j b m m' hi hj => hX.one i j b m m' (hg i b m hi).2 (hg j b m' hj).2)
      rw [hobj'] at this
      have e1 : (List.range objs.length).map e'.η = ηs objs.length η := by
        unfold ηs
        apply List.map_congr_left
        intro i hi
        exact hX.eta i (by simpa using hi)
      rwa [e1] at this
    have hdis : Dis F1 (fun b m => ∃ i ∈ List.range objs.length, g i b m) := by
      rintro b m m' hb ⟨i, _, hi⟩
      obtain ⟨h1, h2⟩ := hg i b m' hi
      rcases htook.foot b m hb with h0 | ⟨j, hj, hj', hf⟩
      · exact h0
      · have := hX.one i j b m' m h2 hf
        subst this; exact h1 hj'
    have hall : RepL P e' (resTV rr :: objs') ((if h : vals.length = 1 then vals[0] else .tuple vals.toArray) :: ηs objs.length η) (Uni F1 (fun b m => ∃ i ∈ List.range objs.length, g i b m)) := by
      simp only [RepL]
      exact ⟨_, _, _, _, rfl, hrr, hobjsR, spl_uni hdis⟩
    rw [hres] at hall
    have hnh : noHL (res :: objs') = true := by
      rw [← hres]
      simp only [noHL, hnoh', Bool.and_true]
      match rr, hnoh with
      | [], _ => rfl
      | [t], hnoh => simpa [resTV, noHL] using hnoh
      | t :: u :: ts, hnoh => simpa [resTV, noH] using hnoh
    refine ⟨_, e'.Z, _, rfl, RepL.keep2 (nh := true) (nr := false) _ hall (fun _ => hnh) (fun x => (by cases x)) ⟨fun _ b x => x, (fun x => by cases x), fun _ _ _ => rfl, fun _ _ _ => rfl⟩,
      ⟨hX.os, hX.tape, hX.output, hX.size, fun b hb hnF => hX.same b hb fun m hm => hnF ⟨m, hm⟩⟩, hX.Z0, hX.ltZ, hX.Zfrom, ?_⟩
    rintro b m (hb | ⟨i, _, hi⟩)
    · rcases htook.foot b m hb with h0 | ⟨j, hj, hj', hf⟩
      · exact h0.elim
      · exact ⟨hX.Ffrom j b m hf, hX.notZ j b m hf, hX.ltF j b m hf⟩
    · obtain ⟨_, h2⟩ := hg i b m hi
      exact ⟨hX.Ffrom i b m h2, hX.notZ i b m h2, hX.ltF i b m h2⟩
  obtain ⟨v, Z', F', hv, hR⟩ := key
  rw [hv] at hresults
  rcases hx with rfl | rfl
  · exact ⟨hX.dfr, v, hresults, res, objs', hRR, v, Z', F', rfl, hR⟩
  · exact ⟨hX.dfr, v, hresults, res, objs', hRR, v, Z', F', rfl, hR⟩
theorem TC.enter {f : FuncId} {fn : Func} {c : Code} {args objs : List TV} {res : TV} {objs' : List TV} (hf : P.funcs[f]? = some fn) (hb : fn.body = some c) (hlen : args.length ≤ fn.ntmps) (hk : objs.all isObj = true)
    (h : TWc P fn.ntmps c (fun x s => (x = .normal ∨ x = .ret) ∧ ∃ rr H', closeR P fn.ntmps s s.H fn.results.toList = some (rr, H') ∧ resTV rr = res ∧ noHL rr = true ∧ (List.range objs.length).map (fun i => (H' i).getD .any) = objs' ∧ noHL objs' = true)
      ⟨fun j => args.getD j .any, fun i => objs[i]?⟩) : TC P f args objs res objs' :=
  (TCR.enter hf hb hlen hk (h.mono fun x s ⟨hx, rr, H', h1, h2, h3, h4, h5⟩ => ⟨hx, rr, H', h1, h3, by rw [h4]; exact h5, h2, h4⟩)).toTC
end
end Go.Proofs.YtdomnlnanbekaaaGreatDoor.T

namespace Go.Proofs.YtdomnlnanbekaaaGreatDoor.T
set_option linter.unusedVariables false
set_option linter.unusedSimpArgs false
open Go.RowKit

mutual
/-- A result's own parts get names k, k + 1, .. -/
def opn : Nat → TV → TV × List TV
  | k, .own E rows => (.hd k, [.own E rows])
  | k, .box t cs => (.pd k 0 0 0, [.box t cs])
  | k, .agg cs => (.agg (opnL k cs).1, (opnL k cs).2)
  | k, .tup cs => (.tup (opnL k cs).1, (opnL k cs).2)
  | k, .mp t kvs => (.hd k, [.mp t kvs])
  | _, t => (t, [])
def opnL : Nat → List TV → List TV × List TV
  | _, [] => ([], [])
  | k, t :: ts => ((opn k t).1 :: (opnL (k + (opn k t).2.length) ts).1, (opn k t).2 ++ (opnL (k + (opn k t).2.length) ts).2)
end
def updL (H : Nat → Option TV) : Nat → List TV → (Nat → Option TV)
  | _, [] => H
  | k, t :: ts => updL (upd H k t) (k + 1) ts
def setObjs (H : Nat → Option TV) : List Nat → List TV → (Nat → Option TV)
  | i :: ρ, .any :: os => setObjs (del H i) ρ os
  | i :: ρ, t :: os => setObjs (upd H i t) ρ os
  | _, _ => H
def argT1 (H : Nat → Option TV) (ρ : List Nat) : TV → Option TV
  | .hd i => match ρ.findIdx? (· == i) with
    | some k => some (.hd k)
    | none => match H i with
      | some t => if noH (toRo t) then some (toRo t) else none
      | none => none
  | .pd i z r c => match ρ.findIdx? (· == i) with
    | some k => some (.pd k z r c)
    | none => none
  | .sl i z r n => match H i with
    | some (.own _ rows) => if (∀ q ∈ rows, q.length = z) ∧ noHR (roRows ((rows.drop r).take n)) = true ∧ (ρ.findIdx? (· == i)).isSome = false then some (.ro (roRows ((rows.drop r).take n))) else none
    | _ => none
  | .val (.slice none 0 0) => some (.ro [])
  | t => if noH t then some t else none
def argTL (H : Nat → Option TV) (ρ : List Nat) : List TV → Option (List TV)
  | [] => some []
  | t :: ts => match argT1 H ρ t, argTL H ρ ts with
    | some r, some rs => some (r :: rs)
    | _, _ => none
def argT (H : Nat → Option TV) (ρ : List Nat) (t : TV) : Option TV := match t with
  | .agg cs => match argTL H ρ cs with
    | some r => some (.agg r)
    | none => none
  | t => argT1 H ρ t
def argsT (H : Nat → Option TV) (ρ : List Nat) : List TV → Option (List TV)
  | [] => some []
  | t :: ts => match argT H ρ t, argsT H ρ ts with
    | some r, some rs => some (r :: rs)
    | _, _ => none
def views1 (ρ : List Nat) : TV → List Nat
  | .hd i => if (ρ.findIdx? (· == i)).isSome then [] else [i]
  | .sl i _ _ _ => if (ρ.findIdx? (· == i)).isSome then [] else [i]
  | _ => []
def viewsT (ρ : List Nat) : TV → List Nat
  | .agg cs => cs.flatMap (views1 ρ)
  | t => views1 ρ t
def isObjA : TV → Bool
  | .own _ _ | .box _ _ | .mp _ _ | .any => true
  | _ => false

section
variable {P : Program} {C : Ctx} {n : Nat} {s : St} {a : Act} {e : Env} {FH : Nat → Foot} {w : World}
mutual
theorem opn_rep {e0 : Env} : ∀ (t : TV) {v : Value} {F : Foot} (k : Nat), Rep P e0 t v F → noH t = true → ∃ hv : List Value, hv.length = (opn k t).2.length ∧ ∀ e1 : Env, e1.w = e0.w → (∀ b, e0.Z b → e1.Z b) → (∀ i u, hv[i]? = some u → e1.η (k + i) = u) → k + hv.length ≤ e1.N → Rep P e1 (opn k t).1 v noF ∧ RepL P e1 (opn k t).2 hv F
  | .own E rows, v, F, k, h, hn => by
    refine ⟨[v], rfl, fun e1 hw hZ hη hN => ?_⟩
    have hk : e1.η k = v := hη 0 v rfl
    have hr : Rep P e1 (.own E rows) v F := Rep.keep2 (nh := true) (nr := false) _ h (fun _ => hn) (fun x => (by cases x)) ⟨fun _ b x => hZ b x, (fun x => by cases x), fun _ b _ => (by rw [hw]), fun b m _ => by rw [hw]⟩
    have h1 : v.oneCell' = true := hr.cell rfl
    simp only [List.length_singleton] at hN
    exact ⟨by simp only [opn, Rep]; exact ⟨emp_noF, by omega, hk.symm, h1⟩, by simp only [opn]; exact repL_one.2 hr⟩
  | .box t cs, v, F, k, h, hn => by
    refine ⟨[v], rfl, fun e1 hw hZ hη hN => ?_⟩
    have hk : e1.η k = v := hη 0 v rfl
    have hr : Rep P e1 (.box t cs) v F := Rep.keep2 (nh := true) (nr := false) _ h (fun _ => hn) (fun x => (by cases x)) ⟨fun _ b x => hZ b x, (fun x => by cases x), fun _ b _ => (by rw [hw]), fun b m _ => by rw [hw]⟩
    simp only [List.length_singleton] at hN
    refine ⟨?_, by simp only [opn]; exact repL_one.2 hr⟩
    simp only [Rep] at hr
    obtain ⟨g, vs, F', rfl, _⟩ := hr
    simp only [opn, Rep]
    exact ⟨emp_noF, by omega, g, by rw [hk]; rfl, by simp⟩
  | .agg cs, v, F, k, h, hn => by
    simp only [Rep] at h
    obtain ⟨vs, rfl, hl, h1⟩ := h
    obtain ⟨hv, hlen, hall⟩ := opnL_rep cs k hl (by simpa [noH] using hn)
    refine ⟨hv, by simpa [opn] using hlen, fun e1 hw hZ hη hN => ?_⟩
    obtain ⟨h2, h3⟩ := hall e1 hw hZ hη hN
    exact ⟨by simp only [opn, Rep]; exact ⟨vs, rfl, h2, h1⟩, by simpa [opn] using h3⟩
  | .tup cs, v, F, k, h, hn => by
    simp only [Rep] at h
    obtain ⟨vs, rfl, hl⟩ := h
    obtain ⟨hv, hlen, hall⟩ := opnL_rep cs k hl (by simpa [noH] using hn)
    refine ⟨hv, by simpa [opn] using hlen, fun e1 hw hZ hη hN => ?_⟩
    obtain ⟨h2, h3⟩ := hall e1 hw hZ hη hN
    exact ⟨by simp only [opn, Rep]; exact ⟨vs, rfl, h2⟩, by simpa [opn] using h3⟩
  | .any, v, F, k, h, hn => ⟨[], rfl, fun e1 hw hZ hη hN => by simp only [opn, Rep, RepL] at *; exact ⟨emp_noF, trivial, h⟩⟩
  | .val u, v, F, k, h, hn => ⟨[], rfl, fun e1 hw hZ hη hN => by simp only [opn, Rep, RepL] at *; exact ⟨⟨emp_noF, h.2⟩, trivial, h.1⟩⟩
  | .ro rows, v, F, k, h, hn => ⟨[], rfl, fun e1 hw hZ hη hN => by
    have hE : Emp F := by simp only [Rep] at h; exact h.1
    have hr : Rep P e1 (.ro rows) v F := Rep.keep2 (nh := true) (nr := false) _ h (fun _ => hn) (fun x => (by cases x)) ⟨fun _ b x => hZ b x, (fun x => by cases x), fun _ b _ => (by rw [hw]), fun b m _ => by rw [hw]⟩
    exact ⟨hr.toN hE, ⟨rfl, hE⟩⟩⟩
  | .rptr row off, v, F, k, h, hn => ⟨[], rfl, fun e1 hw hZ hη hN => by
    have hE : Emp F := by simp only [Rep] at h; exact h.1
    have hr : Rep P e1 (.rptr row off) v F := Rep.keep2 (nh := true) (nr := false) _ h (fun _ => hn) (fun x => (by cases x)) ⟨fun _ b x => hZ b x, (fun x => by cases x), fun _ b _ => (by rw [hw]), fun b m _ => by rw [hw]⟩
    exact ⟨hr.toN hE, ⟨rfl, hE⟩⟩⟩
  | .hd i, v, F, k, h, hn => by simp [noH] at hn
  | .pd i z r c, v, F, k, h, hn => by simp [noH] at hn
  | .sl i z r c, v, F, k, h, hn => by simp [noH] at hn
  | .clo f cs, v, F, k, h, hn => ⟨[], rfl, fun e1 hw hZ hη hN => by
    have hE : Emp F := by simp only [Rep] at h; exact h.1
    have hr : Rep P e1 (.clo f cs) v F := Rep.keep2 (nh := true) (nr := false) _ h (fun _ => hn) (fun x => (by cases x)) ⟨fun _ b x => hZ b x, (fun x => by cases x), fun _ b _ => (by rw [hw]), fun b m _ => by rw [hw]⟩
    exact ⟨hr.toN hE, ⟨rfl, hE⟩⟩⟩
  | .mp t kvs, v, F, k, h, hn => by
    refine ⟨[v], rfl, fun e1 hw hZ hη hN => ?_⟩
    have e0 := hη 0 v rfl
    have hr : Rep P e1 (.mp t kvs) v F := Rep.keep2 (nh := true) (nr := false) _ h (fun _ => hn) (fun x => (by cases x)) ⟨fun _ b x => hZ b x, (fun x => by cases x), fun _ b _ => (by rw [hw]), fun b m _ => by rw [hw]⟩
    have hone : v.oneCell' = true := by
      simp only [Rep] at h
      obtain ⟨b, es, clock, rfl, _⟩ := h
      rfl
    refine ⟨?_, ?_⟩
    · simp only [opn, Rep]
      simp only [List.length_singleton] at hN
      exact ⟨emp_noF, by omega, by simpa using e0.symm, hone⟩
    · simp only [opn, RepL]
      exact ⟨v, [], F, noF, rfl, hr, ⟨rfl, emp_noF⟩, ⟨fun b m => ⟨.inl, fun x => x.elim (fun y => y) (fun y => y.elim)⟩, fun b m m' _ x => x.elim⟩⟩
theorem opnL_rep {e0 : Env} : ∀ (ts : List TV) {vs : List Value} {F : Foot} (k : Nat), RepL P e0 ts vs F → noHL ts = true → ∃ hv : List Value, hv.length = (opnL k ts).2.length ∧ ∀ e1 : Env, e1.w = e0.w → (∀ b, e0.Z b → e1.Z b) → (∀ i u, hv[i]? = some u → e1.η (k + i) = u) → k + hv.length ≤ e1.N → RepL P e1 (opnL k ts).1 vs noF ∧ RepL P e1 (opnL k ts).2 hv F
  | [], vs, F, k, h, hn => ⟨[], rfl, fun e1 hw hZ hη hN => by simp only [opnL, RepL] at *; exact ⟨⟨h.1, emp_noF⟩, trivial, h.2⟩⟩
  | t :: ts, vs, F, k, h, hn => by
    simp only [RepL] at h
    obtain ⟨v, vs', F1, F2, rfl, h1, h2, hs⟩ := h
    simp only [noHL, Bool.and_eq_true] at hn
    obtain ⟨hv1, hl1, ha1⟩ := opn_rep t k h1 hn.1
    obtain ⟨hv2, hl2, ha2⟩ := opnL_rep ts (k + (opn k t).2.length) h2 hn.2
    refine ⟨hv1 ++ hv2, by simp [opnL, hl1, hl2], fun e1 hw hZ hη hN => ?_⟩
    rw [List.length_append] at hN
    obtain ⟨g1, g2⟩ := ha1 e1 hw hZ (fun i u hi => hη i u (by rw [List.getElem?_append_left (List.getElem?_eq_some_iff.1 hi).1]; exact hi)) (by omega)
    obtain ⟨g3, g4⟩ := ha2 e1 hw hZ (fun i u hi => by
      have := hη (hv1.length + i) u (by rw [List.getElem?_append_right (by omega), Nat.add_sub_cancel_left]; exact hi)
      rw [← hl1, Nat.add_assoc]; exact this) (by omega)
    refine ⟨?_, ?_⟩
    · simp only [opnL, RepL]
      exact ⟨v, vs', noF, noF, rfl, g1, g3, .of_emp emp_noF emp_noF emp_noF⟩
    · simp only [opnL]
      exact RepL.foot _ (g2.append g4 hs.dis) fun b m => hs.iff b m
end
mutual
theorem opn_kind : ∀ (t : TV) (k : Nat), ∀ x ∈ (opn k t).2, isObj x = true
  | .own E rows, k => by simp [opn, isObj]
  | .box t cs, k => by simp [opn, isObj]
  | .agg cs, k => by simp only [opn]; exact opnL_kind cs k
  | .tup cs, k => by simp only [opn]; exact opnL_kind cs k
  | .any, k => by simp [opn]
  | .val _, k => by simp [opn]
  | .ro _, k => by simp [opn]
  | .rptr _ _, k => by simp [opn]
  | .hd _, k => by simp [opn]
  | .pd _ _ _ _, k => by simp [opn]
  | .sl _ _ _ _, k => by simp [opn]
  | .clo _ _, k => by simp [opn]
  | .mp _ _, k => by simp [opn, isObj]
theorem opnL_kind : ∀ (ts : List TV) (k : Nat), ∀ x ∈ (opnL k ts).2, isObj x = true
  | [], k => by simp [opnL]
  | t :: ts, k => by
    intro x hx
    simp only [opnL, List.mem_append] at hx
    rcases hx with hx | hx
    · exact opn_kind t k x hx
    · exact opnL_kind ts _ x hx
end
end
end Go.Proofs.YtdomnlnanbekaaaGreatDoor.T
