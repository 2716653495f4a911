/- FnExactLexAt, part 2 of 18: the functions that it reaches as plain Lean functions, that the program's functions compute them, and what they come to. Conditions: stated at each theorem. -/
import Derived.SizedLaws
import Derived.ChangeArms
import Derived.DataReads
import Derived.ChangeSlices
import Derived.Carry
import Derived.Deep.Slices
import Derived.Test.YtigmibfacllhmaaBFnExactLexAt0
set_option linter.unusedVariables false
set_option linter.unusedSimpArgs false
namespace Go.Proofs.Ytigmibfacllhmaa.Rd
open Go.ChangeShapes Go.WideShapes Go.Proofs.YtigmibfacllhmaaW.PrintWords
theorem list_of {α : Type} {Q : Nat → α → Prop} : ∀ n : Nat, (∀ i, i < n → ∃ x, Q i x) → ∃ l : List α, l.length = n ∧ ∀ i p, l[i]? = some p → Q i p
  | 0, _ => ⟨[], rfl, fun i p h => by simp at h⟩
  | n + 1, h => by
    obtain ⟨l, hl, hq⟩ := list_of n (fun i hi => h i (by omega))
    obtain ⟨x, hx⟩ := h n (by omega)
    refine ⟨l ++ [x], by simp [hl], fun i p hp => ?_⟩
    rcases Nat.lt_or_ge i l.length with hi | hi
    · rw [List.getElem?_append_left hi] at hp
      exact hq i p hp
    · rw [List.getElem?_append_right hi] at hp
      have : i - l.length = 0 := by
        rcases Nat.eq_zero_or_pos (i - l.length) with h0 | h0
        · exact h0
        · rw [List.getElem?_eq_none (by simp; omega)] at hp
          cases hp
      rw [this] at hp
      have hx' : x = p := by simpa using hp
      have : i = n := by omega
      subst this
      subst hx'
      exact hx
def Rd {α : Type} (P : Program) (n : Nat) (t : TypeId) (d : Kd α) (B : α → Prop) : Prop :=
  ∀ (H : Type) (enc : TypeId × Value → H) (w : World) (spare : Nat → Bool) (held : Bool) (m : Nat) (cs : List Value) (y : DataW H × List MemPlace), m ≤ n →
    DataW.trod enc P w 0 spare held m t cs = some y → (∀ q ∈ y.1.weights P t, q ≤ reachBytes) → ∃ x, d.K w x cs ∧ B x
theorem Rd.le {α : Type} {P : Program} {n n' : Nat} {t : TypeId} {d : Kd α} {B : α → Prop} (h : Rd P n t d B) (hn : n' ≤ n) : Rd P n' t d B :=
  fun H enc w spare held m cs y hm => h H enc w spare held m cs y (Nat.le_trans hm hn)
theorem Rd.imp {α : Type} {P : Program} {n : Nat} {t : TypeId} {d : Kd α} {B B' : α → Prop} (h : Rd P n t d B) (hb : ∀ x, B x → B' x) : Rd P n t d B' := by
  intro H enc w spare held m cs y hm hy hw
  obtain ⟨x, hx, hB⟩ := h H enc w spare held m cs y hm hy hw
  exact ⟨x, hx, hb x hB⟩
theorem Rd.int {P : Program} {t : TypeId} {k : IntKind} (n : Nat) (hu : P.underlying t = some (.int k)) : Rd P n t (Kd.int k) (fun x => (Lit.int k x).wf = true) := by
  intro H enc w spare held m cs y _ hy _
  obtain ⟨x, rfl, _, hw⟩ := DataW.trod_int hu hy
  exact ⟨x, rfl, hw⟩
theorem Rd.bool {P : Program} {t : TypeId} (n : Nat) (hu : P.underlying t = some .bool) : Rd P n t Kd.bool (fun _ => True) := by
  intro H enc w spare held m cs y _ hy _
  cases m with
  | zero => simp [DataW.trod] at hy
  | succ m =>
    unfold DataW.trod at hy
    rw [hu] at hy
    split at hy <;> simp_all
    rename_i b
    cases b
    · exact Or.inl rfl
    · exact Or.inr rfl
theorem Rd.string {P : Program} {t : TypeId} (n : Nat) (hu : P.underlying t = some .string) : Rd P n t Kd.string (fun s => s.size ≤ reachBytes) := by
  intro H enc w spare held m cs y _ hy hw
  obtain ⟨x, rfl, rfl, _⟩ := DataW.trod_string hu hy
  refine ⟨x, rfl, ?_⟩
  have := hw x.data.toList.length (by simp [DataW.weights])
  simpa using this
theorem mem_all {H : Type} {P : Program} {e : TypeId} {q : Nat} : ∀ {l : List (DataW H)} {d : DataW H}, d ∈ l → q ∈ d.weights P e → q ∈ DataW.weightsAll P e l
  | [], _, h, _ => by cases h
  | x :: l, d, h, hq => by
    unfold DataW.weightsAll
    rcases List.mem_cons.1 h with rfl | h
    · exact List.mem_append_left _ hq
    · exact List.mem_append_right _ (mem_all h hq)
theorem Rd.slice {α : Type} {P : Program} {n : Nat} {t e : TypeId} {d : Kd α} {B : α → Prop} {b : Nat} (h : Rd P n e d B) (hu : P.underlying t = some (.slice e)) (hs : P.cellsOf e = d.sz) (hb : P.bytesOf e = b) :
    Rd P (n + 1) t (Kd.slice e d) (fun l => l.length * b ≤ reachBytes ∧ ∀ x ∈ l, B x) := by
  intro H enc w spare held m cs y hm hy hw
  rcases DataW.trod_slice hu hy with ⟨rfl, rfl⟩ | ⟨a, len, cap, elems, rest, n', rfl, rfl, rfl, _, hl, hc, hlen, hel, _, _⟩
  · exact ⟨[], ⟨none, 0, rfl, Nat.le_refl _, rfl, by simp, fun h => by simp at h⟩, by simp, fun x hx => by cases hx⟩
  · simp only [DataW.weights, hu] at hw
    have hw0 := hw _ (List.mem_cons_self)
    have hgo : ∀ i, i < len → ∃ x, (∃ c, d.K w x c ∧ ∀ j u, c[j]? = some u → w.cell? (a.add (i * d.sz + j)) = some u) ∧ B x := by
      intro i hi
      have h1 := hel i hi
      have hi' : i < elems.length := by omega
      rw [List.getElem?_eq_getElem hi'] at h1
      obtain ⟨c, hc1, hc2⟩ := Option.bind_eq_some_iff.1 h1
      obtain ⟨x, hx, hB⟩ := h H enc w spare held n' c _ (by omega) hc2 (fun q hq => hw q (List.mem_cons_of_mem _ (List.mem_append_left _ (mem_all (List.mem_map_of_mem (List.getElem_mem hi')) hq))))
      obtain ⟨_, hcl, hat⟩ := World.cells?_some hc1
      refine ⟨x, ⟨c, hx, fun j u hj => ?_⟩, hB⟩
      have hj' : j < P.cellsOf e := by
        have := (List.getElem?_eq_some_iff.1 hj).1
        omega
      have := hat j hj'
      rw [hj, hs, Go.Deep.add_add] at this
      exact this
    obtain ⟨l, hll, hq⟩ := list_of len hgo
    have hm' : len ≤ 9223372036854775807 := by simp only [maxLen] at hc; omega
    refine ⟨l, ⟨some a, cap, by rw [hll], by omega, rfl, by omega, fun _ => ⟨a, rfl, fun j p hp => ?_⟩⟩, ?_, fun x hx => ?_⟩
    · obtain ⟨⟨c, hk, hcell⟩, _⟩ := hq j p hp
      exact ⟨c, d.K_len hk, hk, hcell⟩
    · have : (elems.map (·.1)).length = len := by simp [hlen]
      rw [hb] at hw0
      refine Nat.le_trans (Nat.mul_le_mul_right _ ?_) hw0
      omega
    · obtain ⟨i, hi⟩ := List.getElem?_of_mem hx
      exact (hq i x hi).2
theorem Rd.iso {α β : Type} {P : Program} {n : Nat} {t : TypeId} {d : Kd α} {B : α → Prop} (h : Rd P n t d B) (f : β → α) (g : α → β) (hg : ∀ x, f (g x) = x) : Rd P n t (Kd.iso d f) (fun y => B (f y)) := by
  intro H enc w spare held m cs y hm hy hw
  obtain ⟨x, hx, hB⟩ := h H enc w spare held m cs y hm hy hw
  refine ⟨g x, ?_, ?_⟩
  · show d.K w (f (g x)) cs
    rw [hg]; exact hx
  · show B (f (g x))
    rw [hg]; exact hB
def Fs {α : Type} (P : Program) (n : Nat) (fs : List Field) (off : Nat) (d : Kd α) (B : α → Prop) : Prop :=
  ∀ (H : Type) (enc : TypeId × Value → H) (w : World) (spare : Nat → Bool) (held : Bool) (m : Nat) (cs : List Value) (xs : List (DataW H × List MemPlace)), m ≤ n → cs.length = off + d.sz → xs.length = fs.length →
    (∀ (i : Nat) (f : Field), fs[i]? = some f → DataW.trod enc P w 0 spare held m f.type ((cs.drop f.offset).take (P.cellsOf f.type)) = xs[i]?) →
    (∀ q ∈ DataW.weightsEach P (fs.map (·.type)) (xs.map (·.1)), q ≤ reachBytes) → ∃ x, d.K w x (cs.drop off) ∧ B x
theorem Fs.one {α : Type} {P : Program} {n : Nat} {f : Field} {off : Nat} {d : Kd α} {B : α → Prop} (h : Rd P n f.type d B) (ho : f.offset = off) (hs : P.cellsOf f.type = d.sz) : Fs P n [f] off d B := by
  intro H enc w spare held m cs xs hm hl hxl hx hw
  match xs, hxl with
  | [y], _ =>
    have h1 := hx 0 f rfl
    rw [ho, hs, List.take_of_length_le (by rw [List.length_drop]; omega)] at h1
    exact h H enc w spare held m _ y hm h1 (fun q hq => hw q (by simp only [List.map_cons, DataW.weightsEach]; exact List.mem_append_left _ hq))
theorem Fs.cons {α β : Type} {P : Program} {n : Nat} {f : Field} {fs : List Field} {off : Nat} {d : Kd α} {d' : Kd β} {B : α → Prop} {B' : β → Prop} (h : Rd P n f.type d B) (ho : f.offset = off) (hs : P.cellsOf f.type = d.sz) (h' : Fs P n fs (off + d.sz) d' B') :
    Fs P n (f :: fs) off (Kd.pair d d') (fun x => B x.1 ∧ B' x.2) := by
  intro H enc w spare held m cs xs hm hl hxl hx hw
  match xs, hxl with
  | y :: ys, hxl =>
    have hl' : cs.length = off + (d.sz + d'.sz) := hl
    have h1 := hx 0 f rfl
    rw [ho, hs] at h1
    obtain ⟨x, hk, hB⟩ := h H enc w spare held m _ y hm h1 (fun q hq => hw q (by simp only [List.map_cons, DataW.weightsEach]; exact List.mem_append_left _ hq))
    obtain ⟨x', hk', hB'⟩ := h' H enc w spare held m cs ys hm (by omega) (by simpa using hxl) (fun i f' hf => by simpa using hx (i + 1) f' (by simpa using hf)) (fun q hq => hw q (by simp only [List.map_cons, DataW.weightsEach]; exact List.mem_append_right _ hq))
    refine ⟨(x, x'), ⟨_, _, ?_, hk, hk'⟩, hB, hB'⟩
    have := (List.take_append_drop d.sz (cs.drop off)).symm
    rwa [List.drop_drop] at this
theorem Rd.struct {α : Type} {P : Program} {n : Nat} {t : TypeId} {fs : Array Field} {fl : List Field} {d : Kd α} {B : α → Prop} (hu : P.underlying t = some (.struct fs)) (hl : fs.toList = fl) (hs : P.cellsOf t = d.sz) (h : Fs P n fl 0 d B) : Rd P (n + 1) t d B := by
  subst hl
  intro H enc w spare held m cs y hm hy hw
  obtain ⟨xs, n', rfl, rfl, hcl, hxl, hf⟩ := DataW.trod_struct hu hy
  simp only [DataW.weights, hu] at hw
  obtain ⟨x, hx, hB⟩ := h H enc w spare held n' cs xs (by omega) (by omega) (by simpa using hxl) (fun i f hi => hf i f (by simpa using hi)) hw
  exact ⟨x, hx, hB⟩
theorem Rd.arg {α : Type} {P : Program} {t : TypeId} {d : Kd α} {B : α → Prop} (h : ∀ n, Rd P n t d B) {H : Type} {enc : TypeId × Value → H} {w : World} {spare : Nat → Bool} {held : Bool} {v : Value} {y : DataW H} {ps : List MemPlace}
    (hd : DataW.Trod enc P w 0 spare held t v y ps) (hw : ∀ q ∈ y.weights P t, q ≤ reachBytes) : ∃ x, d.K w x v.cells.toList ∧ B x := by
  obtain ⟨fuel, hf⟩ := hd
  exact h fuel H enc w spare held fuel _ (y, ps) (Nat.le_refl _) hf hw
end Go.Proofs.Ytigmibfacllhmaa.Rd
