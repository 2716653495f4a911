/- Part 11: what the walk of the code stands on. Conditions: none but those that each theorem states. -/
import Derived.Test.YtibeeohnjabhkaaGreatK10
open Go Go.Proofs.YtibeeohnjabhkaaGreat.T
namespace Go.Proofs.YtibeeohnjabhkaaGreat.R
set_option maxHeartbeats 4000000
set_option maxRecDepth 100000
set_option linter.unusedSimpArgs false
set_option linter.unusedVariables false
theorem nodup_sub : ∀ (a b : List Nat), a.Nodup → (∀ x ∈ a, x ∈ b) → a.length ≤ b.length
  | [], b, _, _ => by simp
  | x :: a, b, hn, h => by
    obtain ⟨h1, h2⟩ := List.nodup_cons.1 hn
    have hx := h x (by simp)
    have ih := nodup_sub a (b.erase x) h2 fun y hy => (List.mem_erase_of_ne (by intro e; subst e; exact h1 hy)).2 (h y (by simp [hy]))
    rw [List.length_erase_of_mem hx] at ih
    have := List.length_pos_of_mem hx
    simp; omega
theorem kn_live {d : Dfa} (ho : DOk d) {ks : List Int} (hk : IsKinds d ks) {s : Nat} (hs : s < d.rows.length) : (Live d s ↔ 0 ≤ kn ks s) ∧ kn ks s < d.rows.length := by
  obtain ⟨R, L, h1, h2, rfl⟩ := hk
  have top := numb_top ho h1 h2 d.rows.length (Nat.le_refl _) s hs
  refine ⟨⟨top.1, fun h => ?_⟩, ?_⟩
  · apply Classical.byContradiction
    intro c
    have := top.2.1 c
    omega
  · have h3 := top.2.2
    have : ∀ n, (numb R L n).2 ≤ n := by
      intro n
      induction n with
      | zero => exact Nat.le_refl 0
      | succ n ih =>
        rw [numb_succ]
        split
        · split <;> simp <;> omega
        · simp; omega
    have := this d.rows.length
    omega
theorem kn_dead {d : Dfa} (ho : DOk d) {ks : List Int} (hk : IsKinds d ks) {s : Nat} (hs : s < d.rows.length) (h : kn ks s < 0) {t : Int} (ht : t ∈ rw_ d s) (h0 : 0 ≤ t) : kn ks t.toNat < 0 := by
  have hent := ho.ent s hs t ht
  apply Classical.byContradiction
  intro c
  have := ((kn_live ho hk (s := t.toNat) (by omega)).1).2 (by omega)
  have := ((kn_live ho hk hs).1).1 (.step s hs t ht h0 this)
  omega
theorem kn_congr {d : Dfa} (ho : DOk d) {ks : List Int} (hk : IsKinds d ks) {s f : Nat} (hs : s < d.rows.length) (hf : f < d.rows.length) (h : kn ks s = kn ks f) {t : Int} (ht : t ∈ rw_ d s) (h0 : 0 ≤ t) (h1 : 0 ≤ kn ks t.toNat) : ∃ u ∈ rw_ d f, 0 ≤ u ∧ kn ks u.toNat = kn ks t.toNat := by
  have hent := ho.ent s hs t ht
  obtain ⟨j, hj, e⟩ := List.getElem_of_mem ht
  have hjp : j < d.parts.length := by rw [← ho.row s hs]; exact hj
  have hjf : j < (rw_ d f).length := by rw [ho.row f hf]; exact hjp
  have hna := (kinds_iff ho hk hs hf).1 h
  have hna2 : ¬ Apart d (dl d s j) (dl d f j) := fun x => hna (.step s f j (by omega) (by omega) hjp x)
  have e1 : dl d s j = t.toNat := by
    unfold dl
    rw [if_neg (by omega), getI hj, e]
    simp; omega
  have hl := ((kn_live ho hk (s := t.toNat) (by omega)).1).2 h1
  have hu := ho.ent f hf _ (List.getElem_mem hjf)
  by_cases c : (rw_ d f)[j] < 0
  · have e2 : dl d f j = d.rows.length := by
      unfold dl
      rw [if_neg (by omega), getI hjf]
      simp [c]
    rw [e1, e2] at hna2
    exact (hna2 (sink_apart ho hl)).elim
  · have e2 : dl d f j = ((rw_ d f)[j]).toNat := by
      unfold dl
      rw [if_neg (by omega), getI hjf]
      simp; omega
    rw [e1, e2] at hna2
    exact ⟨_, List.getElem_mem hjf, by omega, ((kinds_iff ho hk (s := t.toNat) (t := ((rw_ d f)[j]).toNat) (by omega) (by omega)).2 hna2).symm⟩
/-- Each state of the list but the first is come to from one ahead. -/
def Chain (d : Dfa) (fs : List Nat) : Prop := fs[0]? = some 0 ∧ ∀ j, 0 < j → ∀ x : Nat, fs[j]? = some x → ∃ i, i < j ∧ ∃ s : Nat, fs[i]? = some s ∧ (x : Int) ∈ rw_ d s
theorem rowK1 {ks : List Int} : ∀ (r : List Int) (fs : List Nat) (a : List Int), (r.foldl (fun a t => ((stepB ks a.1 t).1, a.2 ++ [(stepB ks a.1 t).2])) (fs, a)).1 = r.foldl (fun f t => (stepB ks f t).1) fs
  | [], _, _ => rfl
  | t :: r, fs, a => by rw [List.foldl_cons, List.foldl_cons]; exact rowK1 r _ _
theorem stepC {d : Dfa} {ks : List Int} {fs : List Nat} {i s : Nat} {t : Int} (hc : Chain d fs) (hi : fs[i]? = some s) (ht : t ∈ rw_ d s) : Chain d (stepB ks fs t).1 ∧ (∃ z, (stepB ks fs t).1 = fs ++ z) ∧ (0 ≤ kd ks t → ∃ f ∈ (stepB ks fs t).1, kn ks f = kd ks t) := by
  unfold stepB
  by_cases c : kd ks t < 0
  · rw [if_pos c]; exact ⟨hc, ⟨[], by simp⟩, fun h => by omega⟩
  · rw [if_neg c]
    have ht0 : ¬ t < 0 := fun x => c (by unfold kd; rw [if_pos x]; decide)
    cases e : findK ks fs (kd ks t) with
    | some j =>
      obtain ⟨hj, e2⟩ := findK_some e
      exact ⟨hc, ⟨[], by simp⟩, fun _ => ⟨_, List.getElem_mem hj, e2⟩⟩
    | none =>
      refine ⟨⟨?_, fun j hj x hx => ?_⟩, ⟨_, rfl⟩, fun _ => ⟨t.toNat, by simp, by unfold kd; rw [if_neg ht0]⟩⟩
      · have h0 := (List.getElem?_eq_some_iff.1 hc.1).1
        simp only
        rw [List.getElem?_append_left h0]; exact hc.1
      · simp only at hx ⊢
        by_cases c2 : j < fs.length
        · rw [List.getElem?_append_left c2] at hx
          obtain ⟨i', h1, s', h2, h3⟩ := hc.2 j hj x hx
          exact ⟨i', h1, s', by rw [List.getElem?_append_left (by omega)]; exact h2, h3⟩
        · have hil := (List.getElem?_eq_some_iff.1 hi).1
          rw [List.getElem?_append_right (by omega)] at hx
          have : j - fs.length = 0 := by
            have := (List.getElem?_eq_some_iff.1 hx).1
            simp at this; omega
          rw [this] at hx
          simp at hx
          subst hx
          exact ⟨i, by omega, s, by rw [List.getElem?_append_left hil]; exact hi, by rw [show ((t.toNat : Nat) : Int) = t by omega]; exact ht⟩
theorem rowC {d : Dfa} {ks : List Int} {i s : Nat} : ∀ (r : List Int) (fs : List Nat), (∀ t ∈ r, t ∈ rw_ d s) → Chain d fs → fs[i]? = some s → Chain d (r.foldl (fun f t => (stepB ks f t).1) fs) ∧ (∃ z, r.foldl (fun f t => (stepB ks f t).1) fs = fs ++ z) ∧ ∀ t ∈ r, 0 ≤ kd ks t → ∃ f ∈ r.foldl (fun f t => (stepB ks f t).1) fs, kn ks f = kd ks t
  | [], fs, _, hc, hi => ⟨hc, ⟨[], by simp⟩, fun t ht => by cases ht⟩
  | t :: r, fs, hr, hc, hi => by
    obtain ⟨h1, ⟨z, h2⟩, h3⟩ := stepC (ks := ks) hc hi (hr t (by simp))
    have hil := (List.getElem?_eq_some_iff.1 hi).1
    obtain ⟨g1, ⟨z2, g2⟩, g3⟩ := rowC r (stepB ks fs t).1 (fun u hu => hr u (by simp [hu])) h1 (by rw [h2, List.getElem?_append_left hil]; exact hi)
    rw [List.foldl_cons]
    refine ⟨g1, ⟨z ++ z2, by rw [g2, h2, List.append_assoc]⟩, fun u hu hk => ?_⟩
    rcases List.mem_cons.1 hu with rfl | hu
    · obtain ⟨f, hf, e⟩ := h3 hk
      exact ⟨f, by rw [g2]; exact List.mem_append_left _ hf, e⟩
    · exact g3 u hu hk
theorem bfsC {d : Dfa} {ks : List Int} : ∀ i, Chain d (bfsTo d ks i).1 ∧ ∀ j, j < i → ∀ s, (bfsTo d ks i).1[j]? = some s → ∀ t ∈ rw_ d s, 0 ≤ kd ks t → ∃ f ∈ (bfsTo d ks i).1, kn ks f = kd ks t
  | 0 => ⟨⟨by simp [bfsTo], fun j hj x hx => by
      have := (List.getElem?_eq_some_iff.1 hx).1
      simp [bfsTo] at this; omega⟩, fun j hj => by omega⟩
  | i + 1 => by
    obtain ⟨h1, h2⟩ := bfsC i (ks := ks) (d := d)
    by_cases c : i < (bfsTo d ks i).1.length
    · have hx := List.getElem?_eq_getElem c
      obtain ⟨r1, ⟨z, r2⟩, r3⟩ := rowC (ks := ks) (rw_ d (bfsTo d ks i).1[i]) (bfsTo d ks i).1 (fun t ht => ht) h1 hx
      have e : (bfsTo d ks (i + 1)).1 = (rw_ d (bfsTo d ks i).1[i]).foldl (fun f t => (stepB ks f t).1) (bfsTo d ks i).1 := by
        rw [bfsTo_succ hx]; exact rowK1 _ _ _
      rw [e]
      refine ⟨r1, fun j hj s hs t ht hk => ?_⟩
      rw [r2, List.getElem?_append_left (by omega)] at hs
      by_cases e2 : j = i
      · subst e2
        rw [hx] at hs
        obtain rfl := Option.some.inj hs
        exact r3 t ht hk
      · obtain ⟨f, hf, e3⟩ := h2 j (by omega) s hs t ht hk
        exact ⟨f, by rw [r2]; exact List.mem_append_left _ hf, e3⟩
    · rw [bfsTo_stop (i := i) (by omega) (i + 1) (by omega)]
      refine ⟨h1, fun j hj s hs => ?_⟩
      have := (List.getElem?_eq_some_iff.1 hs).1
      exact h2 j (by omega) s hs
/-- What is met after r whole rounds, in the next one up to state s and there up to part k. -/
structure Mt (d : Dfa) (G : Nat → Prop) (fs : List Nat) (r s k : Nat) (B : List Bool) : Prop where
  len : B.length = d.rows.length
  snd : ∀ x, B[x]? = some true → G x
  fst : ∀ j, j ≤ r → ∀ x, fs[j]? = some x → B[x]? = some true
  row : ∀ i, i ≤ r → ∀ x, fs[i]? = some x → x < s → ∀ t ∈ rw_ d x, 0 ≤ t → B[t.toNat]? = some true
  cur : ∀ i, i ≤ r → fs[i]? = some s → ∀ t ∈ (rw_ d s).take k, 0 ≤ t → B[t.toNat]? = some true
theorem Mt.start {d : Dfa} (ho : DOk d) {G : Nat → Prop} {fs : List Nat} (h0 : fs[0]? = some 0) (hG : G 0) : Mt d G fs 0 0 0 ((List.replicate d.rows.length false).set 0 true) := by
  have hn := ho.one
  have e : ((List.replicate d.rows.length false).set 0 true)[0]? = some true := List.getElem?_set_self (by simp; omega)
  refine ⟨by simp, fun x hx => ?_, fun j hj x hx => ?_, fun i hi x _ hx => by omega, fun i hi _ t ht => by simp at ht⟩
  · by_cases c : x = 0
    · subst c; exact hG
    · rw [List.getElem?_set_ne (by omega)] at hx
      rw [List.getElem?_replicate] at hx
      split at hx <;> simp at hx
  · obtain rfl : j = 0 := by omega
    rw [h0] at hx
    obtain rfl := Option.some.inj hx
    exact e
theorem set_keep {B : List Bool} {x t : Nat} (h : B[x]? = some true) : (B.set t true)[x]? = some true := by
  by_cases c : t = x
  · subst c; exact List.getElem?_set_self (List.getElem?_eq_some_iff.1 h).1
  · rw [List.getElem?_set_ne c]; exact h
theorem Mt.set {d : Dfa} (ho : DOk d) {G : Nat → Prop} {fs : List Nat} {r s k : Nat} {B : List Bool} (h : Mt d G fs r s k B) (hG : ∀ x, x < d.rows.length → G x → ∀ t ∈ rw_ d x, 0 ≤ t → G t.toNat) (hs : s < d.rows.length) (hB : B[s]? = some true) {t : Int} (hk : k < (rw_ d s).length) (ht : (rw_ d s)[k] = t) (h0 : 0 ≤ t) : Mt d G fs r s (k + 1) (B.set t.toNat true) := by
  have hm : t ∈ rw_ d s := by rw [← ht]; exact List.getElem_mem hk
  have hent := ho.ent s hs t hm
  have hl := h.len
  have e : (B.set t.toNat true)[t.toNat]? = some true := List.getElem?_set_self (by omega)
  refine ⟨by simp [hl], fun x hx => ?_, fun j hj x hx => set_keep (h.fst j hj x hx), fun i hi x hx hlt u hu hu0 => set_keep (h.row i hi x hx hlt u hu hu0), fun i hi he u hu hu0 => ?_⟩
  · by_cases c : t.toNat = x
    · subst c; exact hG s hs (h.snd s hB) t hm h0
    · rw [List.getElem?_set_ne c] at hx; exact h.snd x hx
  · rw [List.take_succ_eq_append_getElem hk, ht] at hu
    rcases List.mem_append.1 hu with hu | hu
    · exact set_keep (h.cur i hi he u hu hu0)
    · simp at hu; subst hu; exact e
theorem Mt.skip {d : Dfa} {G : Nat → Prop} {fs : List Nat} {r s k : Nat} {B : List Bool} (h : Mt d G fs r s k B) {t : Int} (hk : k < (rw_ d s).length) (ht : (rw_ d s)[k] = t) (h0 : ¬ 0 ≤ t) : Mt d G fs r s (k + 1) B := by
  refine ⟨h.len, h.snd, h.fst, h.row, fun i hi he u hu hu0 => ?_⟩
  rw [List.take_succ_eq_append_getElem hk, ht] at hu
  rcases List.mem_append.1 hu with hu | hu
  · exact h.cur i hi he u hu hu0
  · simp at hu; omega
theorem Mt.next {d : Dfa} {G : Nat → Prop} {fs : List Nat} {r s k : Nat} {B : List Bool} (h : Mt d G fs r s k B) (hk : (rw_ d s).length ≤ k ∨ B[s]? = some false) : Mt d G fs r (s + 1) 0 B := by
  refine ⟨h.len, h.snd, h.fst, fun i hi x hx hlt u hu hu0 => ?_, fun i hi _ t ht => by simp at ht⟩
  by_cases c : x = s
  · subst c
    rcases hk with hk | hk
    · exact h.cur i hi hx u (by rw [List.take_of_length_le hk]; exact hu) hu0
    · have := h.fst i hi x hx
      rw [hk] at this; cases this
  · exact h.row i hi x hx (by omega) u hu hu0
theorem Mt.round {d : Dfa} {G : Nat → Prop} {fs : List Nat} {r s k : Nat} {B : List Bool} (h : Mt d G fs r s k B) (hc : Chain d fs) (hf : ∀ x ∈ fs, x < d.rows.length) (hs : d.rows.length ≤ s) : Mt d G fs (r + 1) 0 0 B := by
  refine ⟨h.len, h.snd, fun j hj x hx => ?_, fun i hi x _ hx => by omega, fun i hi _ t ht => by simp at ht⟩
  by_cases c : j = 0
  · subst c; exact h.fst 0 (by omega) x hx
  · obtain ⟨i, hi, s', h1, h2⟩ := hc.2 j (by omega) x hx
    have := h.row i (by omega) s' h1 (by have := hf s' (List.mem_of_getElem? h1); omega) _ h2 (by omega)
    simpa using this
def mt (B : List Bool) (s : Nat) : Bool := (B[s]?).getD false
theorem mt_iff {B : List Bool} {s : Nat} : mt B s = true ↔ B[s]? = some true := by
  unfold mt
  cases B[s]? with
  | none => simp
  | some b => simp
def someK (B : List Bool) (ks : List Int) (n : Nat) (k : Nat) : Bool := (List.range n).any fun s => mt B s && decide (kn ks s = k)
def cntK (B : List Bool) (ks : List Int) (n k : Nat) : Nat := (List.range k).countP (someK B ks n)
theorem cntK_succ {B : List Bool} {ks : List Int} {n k : Nat} : cntK B ks n (k + 1) = cntK B ks n k + if someK B ks n k = true then 1 else 0 := by
  unfold cntK
  rw [List.range_succ, List.countP_append]; simp
theorem cntK_le {B : List Bool} {ks : List Int} {n k : Nat} : cntK B ks n k ≤ k := by
  unfold cntK
  exact Nat.le_trans List.countP_le_length (by simp)
theorem someK_iff {B : List Bool} {ks : List Int} {n k : Nat} : someK B ks n k = true ↔ ∃ s, s < n ∧ B[s]? = some true ∧ kn ks s = k := by
  unfold someK
  simp [List.any_eq_true, mt_iff]
theorem many_law {d : Dfa} (hs : DSm d) (ho : DOk d) {ks : List Int} (hk : IsKinds d ks) : ∃ (G : Nat → Prop) (fs : List Nat), G 0 ∧ Chain d fs ∧ (∀ x ∈ fs, x < d.rows.length) ∧ (∀ x, x < d.rows.length → G x → ∀ t ∈ rw_ d x, 0 ≤ t → G t.toNat) ∧
    ∀ B, Mt d G fs d.rows.length 0 0 B → (leastF d ks).rows.length = cntK B ks d.rows.length d.rows.length ∨ (cntK B ks d.rows.length d.rows.length = 0 ∧ (leastF d ks).rows.length = 1) := by
  by_cases c : kn ks 0 < 0
  · refine ⟨fun x => kn ks x < 0, [0], c, ⟨rfl, fun j hj x hx => ?_⟩, fun x hx => ?_, fun x hx h t ht h0 => kn_dead ho hk hx h ht h0, fun B hB => .inr ⟨?_, ?_⟩⟩
    · have := (List.getElem?_eq_some_iff.1 hx).1
      simp at this; omega
    · simp at hx; subst hx; exact ho.one
    · unfold cntK
      rw [List.countP_eq_zero]
      intro k _ h
      obtain ⟨s, _, h1, h2⟩ := someK_iff.1 h
      have := hB.snd s h1
      omega
    · unfold leastF; rw [if_pos c]; rfl
  · obtain ⟨N, hN, hE⟩ : ∃ N, 40 ≤ N ∧ (bfsEnd d ks).1 = (bfsTo d ks N).1 := ⟨40, Nat.le_refl _, rfl⟩
    obtain ⟨b1, -, -⟩ := bfs_inv ho (ks := ks) (by omega) N
    obtain ⟨c1, c2⟩ := bfsC N (ks := ks) (d := d)
    have hmost := ho.most
    have hlen := b1.len
    have hL : (leastF d ks).rows.length = (bfsTo d ks N).1.length := by
      have h4 := (leastB_sm hs ho (ks := ks) (by omega)).2.2.2
      unfold leastF
      rw [if_neg c]
      have h5 : (mergeM (leastB d ks)).rows.length = (leastB d ks).rows.length := by unfold mergeM; simp
      rw [h5, ← h4]
      have h6 : (leastB d ks).acc = (bfsEnd d ks).1.map (ac_ d) := by unfold leastB; simp only
      rw [h6, List.length_map, hE]
    rw [hL]
    clear hE hL
    generalize (bfsTo d ks N).1 = fs at *
    refine ⟨fun x => kn ks x < 0 ∨ ∃ f ∈ fs, kn ks f = kn ks x, fs, .inr ⟨0, List.mem_of_getElem? c1.1, rfl⟩, c1, fun x hx => (b1.rng x hx).1, fun x hx h t ht h0 => ?_, fun B hB => .inl ?_⟩
    · have hent := ho.ent x hx t ht
      rcases h with h | ⟨f, hf, e⟩
      · exact .inl (kn_dead ho hk hx h ht h0)
      · by_cases c3 : kn ks t.toNat < 0
        · exact .inl c3
        · obtain ⟨u, hu, hu0, e2⟩ := kn_congr ho hk hx (b1.rng f hf).1 e.symm ht h0 (by omega)
          obtain ⟨j, hj, ej⟩ := List.getElem_of_mem hf
          have hku : kd ks u = kn ks u.toNat := by unfold kd; rw [if_neg (by omega)]
          obtain ⟨f', hf', e3⟩ := c2 j (by omega) f (by rw [List.getElem?_eq_getElem hj, ej]) u hu (by rw [hku]; omega)
          exact .inr ⟨f', hf', by rw [e3, hku, e2]⟩
    · unfold cntK
      rw [List.countP_eq_length_filter]
      apply Nat.le_antisymm
      · have : fs.length = (fs.map fun f => (kn ks f).toNat).length := by simp
        rw [this]
        refine nodup_sub _ _ ?_ ?_
        · unfold List.Nodup
          rw [List.pairwise_map]
          refine b1.nod.imp_of_mem fun {a b} ha hb hab e => hab ?_
          have := (b1.rng a ha).2
          have := (b1.rng b hb).2
          omega
        · intro y hy
          obtain ⟨f, hf, rfl⟩ := List.mem_map.1 hy
          obtain ⟨r1, r2⟩ := b1.rng f hf
          have r3 := (kn_live ho hk r1).2
          obtain ⟨j, hj, ej⟩ := List.getElem_of_mem hf
          refine List.mem_filter.2 ⟨List.mem_range.2 (by omega), someK_iff.2 ⟨f, r1, hB.fst j (by omega) f (by rw [List.getElem?_eq_getElem hj, ej]), by omega⟩⟩
      · have : fs.length = (fs.map fun f => (kn ks f).toNat).length := by simp
        rw [this]
        refine nodup_sub _ _ (List.nodup_range.filter _) ?_
        intro y hy
        obtain ⟨h1, h2⟩ := List.mem_filter.1 hy
        obtain ⟨s, hsn, h3, h4⟩ := someK_iff.1 h2
        rcases hB.snd s h3 with h5 | ⟨f, hf, e⟩
        · omega
        · exact List.mem_map.2 ⟨f, hf, by omega⟩
end Go.Proofs.YtibeeohnjabhkaaGreat.R

open Go Go.Proofs.YtibeeohnjabhkaaGreat.T
namespace Go.Proofs.YtibeeohnjabhkaaGreat.R
set_option maxHeartbeats 8000000
set_option maxRecDepth 100000
set_option linter.unusedSimpArgs false
set_option linter.unusedVariables false
attribute [local simp] bsV bsRows chunk fillT partsT appV makeV rowsOf cellsOf placeOf frzT frz1
def sK (B : List Bool) (ks : List Int) (k s : Nat) : Bool := (List.range s).any fun s => mt B s && decide (kn ks s = k)
theorem sK_zero {B : List Bool} {ks : List Int} {k : Nat} : sK B ks k 0 = false := rfl
theorem sK_succ {B : List Bool} {ks : List Int} {k s : Nat} : sK B ks k (s + 1) = (sK B ks k s || (mt B s && decide (kn ks s = k))) := by
  unfold sK
  rw [List.range_succ, List.any_append]; simp
theorem leastR_ex {d : Dfa} {ks : List Int} (hk : kindsR d ks) : ∃ m, leastR d m ∧ (dfaOk d = true → m = leastF d ks) := by
  unfold kindsR at hk
  unfold leastR
  by_cases ok : dfaOk d = true
  · rw [if_pos ok] at hk; simp only [if_pos ok]; exact ⟨_, ⟨ks, hk, rfl⟩, fun _ => rfl⟩
  · simp only [if_neg ok]; exact ⟨_, rfl, fun h => absurd h ok⟩
theorem leastR_sm {d m : Dfa} (hs : DSm d) (h : leastR d m) : DSm m := by
  unfold leastR at h
  by_cases ok : dfaOk d = true
  · rw [if_pos ok] at h
    obtain ⟨ks, hk, rfl⟩ := h
    unfold leastF
    by_cases c : kn ks 0 < 0
    · rw [if_pos c]
      exact ⟨by simp, by simp, by simp, fun x hx => by simp at hx; subst hx; simp, fun x hx => by simp at hx; subst hx; simp⟩
    · rw [if_neg c]
      obtain ⟨s1, s2, _, _⟩ := leastB_sm hs (dok_of ok) (ks := ks) (by omega)
      exact mergeM_sm s1 s2
  · rw [if_neg ok] at h
    subst h
    exact ⟨by simp, by simp, by simp, fun x hx => by simp at hx, fun x hx => by simp at hx⟩
end Go.Proofs.YtibeeohnjabhkaaGreat.R

open Go Go.Proofs.YtibeeohnjabhkaaGreat.T
namespace Go.Proofs.YtibeeohnjabhkaaGreat.R
set_option maxHeartbeats 4000000
set_option maxRecDepth 100000
set_option linter.unusedSimpArgs false
set_option linter.unusedVariables false
/-- The entry e of a new row stands for where one comes to of kind v. -/
def Ent (ks : List Int) (fs : List Nat) (e v : Int) : Prop := (v < 0 ∧ e = -1) ∨ ∃ j f : Nat, e = j ∧ fs[j]? = some f ∧ kn ks f = v ∧ 0 ≤ v
theorem Ent.app {ks : List Int} {fs z : List Nat} {e v : Int} (h : Ent ks fs e v) : Ent ks (fs ++ z) e v := by
  rcases h with h | ⟨j, f, h1, h2, h3, h4⟩
  · exact .inl h
  · exact .inr ⟨j, f, h1, by rw [List.getElem?_append_left (List.getElem?_eq_some_iff.1 h2).1]; exact h2, h3, h4⟩
theorem stepB_ent {ks : List Int} {fs : List Nat} {t : Int} : Ent ks (stepB ks fs t).1 (stepB ks fs t).2 (kd ks t) := by
  unfold stepB
  by_cases c : kd ks t < 0
  · rw [if_pos c]; exact .inl ⟨c, rfl⟩
  · rw [if_neg c]
    cases e : findK ks fs (kd ks t) with
    | some j =>
      obtain ⟨hj, h⟩ := findK_some e
      exact .inr ⟨j, fs[j], rfl, List.getElem?_eq_getElem hj, h, by omega⟩
    | none =>
      have ht0 : ¬ t < 0 := fun x => c (by unfold kd; rw [if_pos x]; decide)
      exact .inr ⟨fs.length, t.toNat, rfl, by simp, by unfold kd; rw [if_neg ht0], by omega⟩
def cn1 (L : Nat) (t : Int) : Nat := if t = L then L + 1 else L
def cnN (L : Nat) (r : List Int) : Nat := r.foldl cn1 L
/-- The entries of a row name what was met, or the next. -/
def Cano : Nat → List Int → Prop
  | _, [] => True
  | L, t :: r => (-1 ≤ t ∧ t ≤ L) ∧ Cano (cn1 L t) r
theorem cnN_app {L : Nat} {a b : List Int} : cnN L (a ++ b) = cnN (cnN L a) b := by unfold cnN; rw [List.foldl_append]
theorem cn1_le {L : Nat} {t : Int} : L ≤ cn1 L t := by unfold cn1; split <;> omega
theorem cnN_le : ∀ {a : List Int} {L : Nat}, L ≤ cnN L a
  | [], L => Nat.le_refl _
  | t :: a, L => Nat.le_trans cn1_le (cnN_le (a := a) (L := cn1 L t))
theorem cano_app : ∀ {a b : List Int} {L : Nat}, Cano L (a ++ b) ↔ Cano L a ∧ Cano (cnN L a) b
  | [], b, L => by simp [Cano, cnN]
  | t :: a, b, L => by
    rw [List.cons_append]
    simp only [Cano]
    rw [cano_app (a := a)]
    exact ⟨fun ⟨h1, h2, h3⟩ => ⟨⟨h1, h2⟩, h3⟩, fun ⟨⟨h1, h2⟩, h3⟩ => ⟨h1, h2, h3⟩⟩
theorem cano_lt : ∀ {a : List Int} {L : Nat}, Cano L a → ∀ t ∈ a, -1 ≤ t ∧ t < cnN L a
  | [], _, _, t, ht => by cases ht
  | x :: a, L, h, t, ht => by
    rcases List.mem_cons.1 ht with rfl | ht
    · have h1 := h.1
      have h2 : cn1 L t ≤ cnN L (t :: a) := cnN_le (a := a) (L := cn1 L t)
      have h3 : t < cn1 L t := by unfold cn1; split <;> omega
      omega
    · exact cano_lt h.2 t ht
theorem stepB_can {ks : List Int} {fs : List Nat} {t : Int} : (-1 ≤ (stepB ks fs t).2 ∧ (stepB ks fs t).2 ≤ fs.length) ∧ (stepB ks fs t).1.length = cn1 fs.length (stepB ks fs t).2 := by
  unfold stepB
  by_cases c : kd ks t < 0
  · rw [if_pos c]
    refine ⟨⟨by simp, by simp only; omega⟩, ?_⟩
    unfold cn1; rw [if_neg (by simp only; omega)]
  · rw [if_neg c]
    cases e : findK ks fs (kd ks t) with
    | some j =>
      obtain ⟨hj, h⟩ := findK_some e
      refine ⟨⟨by simp only; omega, by simp only; omega⟩, ?_⟩
      unfold cn1; rw [if_neg (by simp only; omega)]
    | none =>
      refine ⟨⟨by simp only; omega, by simp only; omega⟩, ?_⟩
      unfold cn1; simp
theorem rowK_can {ks r : List Int} {fs : List Nat} : ∀ k, k ≤ r.length → Cano fs.length (rowK ks (r.take k) fs).2 ∧ (rowK ks (r.take k) fs).1.length = cnN fs.length (rowK ks (r.take k) fs).2 ∧ (rowK ks (r.take k) fs).2.length = k ∧ (∃ z, (rowK ks (r.take k) fs).1 = fs ++ z) ∧ ∀ i (hi : i < r.length), i < k → ∃ e, (rowK ks (r.take k) fs).2[i]? = some e ∧ Ent ks (rowK ks (r.take k) fs).1 e (kd ks r[i])
  | 0, _ => ⟨trivial, rfl, rfl, ⟨[], by simp [rowK]⟩, fun i _ h => by omega⟩
  | k + 1, hk => by
    obtain ⟨h1, h2, h3, ⟨z, h4⟩, h5⟩ := rowK_can (ks := ks) (fs := fs) (r := r) k (by omega)
    rw [rowK_succ (by omega)]
    obtain ⟨s1, s2⟩ := stepB_can (ks := ks) (fs := (rowK ks (r.take k) fs).1) (t := r[k])
    have s3 := stepB_ent (ks := ks) (fs := (rowK ks (r.take k) fs).1) (t := r[k])
    have s4 : ∃ y, (stepB ks (rowK ks (r.take k) fs).1 r[k]).1 = (rowK ks (r.take k) fs).1 ++ y := by
      unfold stepB
      split
      · exact ⟨[], by simp⟩
      · split
        · exact ⟨[], by simp⟩
        · exact ⟨_, rfl⟩
    obtain ⟨y, s4⟩ := s4
    refine ⟨cano_app.2 ⟨h1, ?_⟩, ?_, by simp [h3], ⟨z ++ y, by simp only; rw [s4, h4, List.append_assoc]⟩, fun i hi hik => ?_⟩
    · rw [← h2]; exact ⟨s1, trivial⟩
    · simp only
      rw [cnN_app, ← h2, s2]; rfl
    · simp only
      by_cases c : i = k
      · subst c
        exact ⟨_, by rw [List.getElem?_append_right (by omega), h3]; simp, s3⟩
      · obtain ⟨e, e1, e2⟩ := h5 i hi (by omega)
        exact ⟨e, by rw [List.getElem?_append_left (by omega)]; exact e1, by rw [s4]; exact e2.app⟩
def fsAt (d : Dfa) (ks : List Int) (i : Nat) : List Nat := (bfsTo d ks i).1
theorem bfs_row {d : Dfa} {ks : List Int} {i s : Nat} (h : (bfsTo d ks i).1[i]? = some s) (hl : (bfsTo d ks i).2.length = i) : ∃ r, (bfsTo d ks (i + 1)).2 = (bfsTo d ks i).2 ++ [r] ∧ Cano (bfsTo d ks i).1.length r ∧ (bfsTo d ks (i + 1)).1.length = cnN (bfsTo d ks i).1.length r ∧ (∃ z, (bfsTo d ks (i + 1)).1 = (bfsTo d ks i).1 ++ z) ∧ r.length = (rw_ d s).length ∧ ∀ k (hk : k < (rw_ d s).length), ∃ e, r[k]? = some e ∧ Ent ks (bfsTo d ks (i + 1)).1 e (kd ks (rw_ d s)[k]) := by
  rw [bfsTo_succ h]
  obtain ⟨h1, h2, h3, h4, h5⟩ := rowK_can (ks := ks) (fs := (bfsTo d ks i).1) (r := rw_ d s) (rw_ d s).length (Nat.le_refl _)
  rw [List.take_length] at h1 h2 h3 h4 h5
  exact ⟨_, rfl, h1, h2, h4, h3, fun k hk => h5 k hk hk⟩
/-- What the search has found after i rows. -/
theorem bfs_all {d : Dfa} {ks : List Int} : ∀ i, i ≤ (bfsTo d ks i).1.length → (bfsTo d ks i).2.length = i ∧ ∀ j s, j < i → (bfsTo d ks i).1[j]? = some s → ∃ r, (bfsTo d ks i).2[j]? = some r ∧ r.length = (rw_ d s).length ∧ Cano (bfsTo d ks j).1.length r ∧ (bfsTo d ks (j + 1)).1.length = cnN (bfsTo d ks j).1.length r ∧ ∀ k (hk : k < (rw_ d s).length), ∃ e, r[k]? = some e ∧ Ent ks (bfsTo d ks i).1 e (kd ks (rw_ d s)[k])
  | 0, _ => ⟨rfl, fun j s hj => by omega⟩
  | i + 1, hi => by
    by_cases c : i < (bfsTo d ks i).1.length
    · obtain ⟨h1, h2⟩ := bfs_all (d := d) (ks := ks) i (by omega)
      have hx := List.getElem?_eq_getElem c
      obtain ⟨r, r1, r2, r3, ⟨z, r4⟩, r5, r6⟩ := bfs_row hx h1
      refine ⟨by rw [r1]; simp [h1], fun j s hj hs => ?_⟩
      by_cases c2 : j = i
      · subst c2
        rw [r4, List.getElem?_append_left c] at hs
        rw [hx] at hs
        obtain rfl := Option.some.inj hs
        exact ⟨r, by rw [r1, List.getElem?_append_right (by omega), h1]; simp, r5, r2, r3, r6⟩
      · rw [r4, List.getElem?_append_left (by omega)] at hs
        obtain ⟨r', q1, q2, q3, q4, q5⟩ := h2 j s (by omega) hs
        refine ⟨r', by rw [r1, List.getElem?_append_left (by omega)]; exact q1, q2, q3, q4, fun k hk => ?_⟩
        obtain ⟨e, e1, e2⟩ := q5 k hk
        exact ⟨e, e1, by rw [r4]; exact e2.app⟩
    · rw [bfsTo_stop (i := i) (by omega) (i + 1) (by omega)] at hi
      omega
theorem colE_refl {rows : List (List Int)} {a : Nat} : colE rows a a = true := colE_iff.2 fun _ _ => rfl
theorem colE_symm {rows : List (List Int)} {a b : Nat} (h : colE rows a b = true) : colE rows b a = true := colE_iff.2 fun r hr => (colE_iff.1 h r hr).symm
theorem colE_trans {rows : List (List Int)} {a b c : Nat} (h : colE rows a b = true) (h2 : colE rows b c = true) : colE rows a c = true := colE_iff.2 fun r hr => (colE_iff.1 h r hr).trans (colE_iff.1 h2 r hr)
theorem joinS_ok {p q : List (Int × Int)} : setOk (joinS p q) = true := by
  unfold joinS
  split
  · exact spansF_ok _
  · rfl
theorem joinS_has {p q : List (Int × Int)} (hp : setOk p = true) (hq : setOk q = true) {b : Nat} (hb : b < 256) : hasS (joinS p q) b = (hasS p b || hasS q b) := by
  unfold joinS
  rw [if_pos ⟨hp, hq⟩, spansF_has _ hb]; rfl
structure MI (rows : List (List Int)) (ps : List (List (Int × Int))) (k : Nat) (st : List Nat × List (List (Int × Int))) : Prop where
  len : st.2.length = st.1.length
  inc : st.1.Pairwise (· < ·)
  rng : ∀ c ∈ st.1, c < k
  cls : ∀ k', k' < k → ∃ j c : Nat, st.1[j]? = some c ∧ colE rows c k' = true ∧ c ≤ k'
  ok : ∀ p ∈ st.2, setOk p = true
  has : ∀ j c : Nat, st.1[j]? = some c → ∀ b : Nat, b < 256 → (hasS (pt st.2 j) b = true ↔ ∃ k' : Nat, k' < k ∧ colE rows c k' = true ∧ hasS (pt ps k') b = true)
theorem merge_MI {rows : List (List Int)} {ps : List (List (Int × Int))} (hs : ∀ p ∈ ps, setOk p = true) : ∀ k, k ≤ ps.length → MI rows ps k (mergeTo rows ps k)
  | 0, _ => ⟨rfl, by simp [mergeTo], fun c hc => by simp [mergeTo] at hc, fun k' h => by omega, fun p hp => by simp [mergeTo] at hp, fun j c h => by simp [mergeTo] at h⟩
  | k + 1, hk => by
    have h := merge_MI hs k (by omega) (rows := rows)
    have hd := merge_dist (rows := rows) (ps := ps) k
    have hpk : setOk (pt ps k) = true := by rw [pt_eq (by omega)]; exact hs _ (List.getElem_mem (by omega))
    show MI rows ps (k + 1) (stepM rows ps (mergeTo rows ps k) k)
    unfold stepM
    generalize mergeTo rows ps k = st at *
    cases e : st.1.findIdx? (fun c => colE rows c k) with
    | some i =>
      obtain ⟨hi, h1, _⟩ := List.findIdx?_eq_some_iff_getElem.1 e
      have hi2 : i < st.2.length := by rw [h.len]; exact hi
      have hci : st.1[i]? = some st.1[i] := List.getElem?_eq_getElem hi
      have hpi : setOk ((st.2[i]?).getD []) = true := by rw [List.getElem?_eq_getElem hi2]; exact h.ok _ (List.getElem_mem hi2)
      refine ⟨by simp [h.len], h.inc, fun c hc => by have := h.rng c hc; omega, fun k' hk' => ?_, fun p hp => ?_, fun j c hc b hb => ?_⟩
      · by_cases c : k' = k
        · subst c
          exact ⟨i, st.1[i], hci, h1, by have := h.rng _ (List.getElem_mem hi); omega⟩
        · exact h.cls k' (by omega)
      · rcases List.mem_or_eq_of_mem_set hp with hp | hp
        · exact h.ok p hp
        · rw [hp]; exact joinS_ok
      · simp only at hc ⊢
        have hh := h.has j c hc b hb
        by_cases c2 : j = i
        · subst c2
          rw [hci] at hc
          obtain rfl := Option.some.inj hc
          have e1 : pt (st.2.set j (joinS ((st.2[j]?).getD []) (pt ps k))) j = joinS (pt st.2 j) (pt ps k) := by
            unfold pt; rw [List.getElem?_set_self hi2]; rfl
          have hpj : setOk (pt st.2 j) = true := hpi
          rw [e1, joinS_has hpj hpk hb, Bool.or_eq_true, hh]
          constructor
          · rintro (⟨k', q1, q2, q3⟩ | q)
            · exact ⟨k', by omega, q2, q3⟩
            · exact ⟨k, by omega, h1, q⟩
          · rintro ⟨k', q1, q2, q3⟩
            by_cases c3 : k' = k
            · subst c3; exact .inr q3
            · exact .inl ⟨k', by omega, q2, q3⟩
        · have e1 : pt (st.2.set i (joinS ((st.2[i]?).getD []) (pt ps k))) j = pt st.2 j := by
            unfold pt; rw [List.getElem?_set_ne (fun x => c2 x.symm)]
          rw [e1, hh]
          have hjl := (List.getElem?_eq_some_iff.1 hc).1
          have hjc := (List.getElem?_eq_some_iff.1 hc).2
          constructor
          · rintro ⟨k', q1, q2, q3⟩; exact ⟨k', by omega, q2, q3⟩
          · rintro ⟨k', q1, q2, q3⟩
            by_cases c3 : k' = k
            · subst c3
              exfalso
              have hne := colE_trans q2 (colE_symm h1)
              have hne2 := colE_symm hne
              rcases Nat.lt_or_gt_of_ne c2 with g | g
              · have := (List.pairwise_iff_getElem.1 hd) j i hjl hi g
                rw [hjc, hne] at this; cases this
              · have := (List.pairwise_iff_getElem.1 hd) i j hi hjl g
                rw [hjc, hne2] at this; cases this
            · exact ⟨k', by omega, q2, q3⟩
    | none =>
      rw [List.findIdx?_eq_none_iff] at e
      have e' : ∀ c ∈ st.1, colE rows c k = false := fun c hc => by simpa using e c hc
      refine ⟨by simp [h.len], ?_, fun c hc => ?_, fun k' hk' => ?_, fun p hp => ?_, fun j c hc b hb => ?_⟩
      · simp only
        rw [List.pairwise_append]
        exact ⟨h.inc, by simp, fun a ha b hb => by simp only [List.mem_singleton] at hb; subst hb; exact h.rng a ha⟩
      · rcases List.mem_append.1 hc with hc | hc
        · have := h.rng c hc; omega
        · simp only [List.mem_singleton] at hc; omega
      · simp only
        by_cases c : k' = k
        · subst c
          exact ⟨st.1.length, k', by simp, colE_refl, Nat.le_refl _⟩
        · obtain ⟨j, c, q1, q2, q3⟩ := h.cls k' (by omega)
          exact ⟨j, c, by rw [List.getElem?_append_left (List.getElem?_eq_some_iff.1 q1).1]; exact q1, q2, q3⟩
      · rcases List.mem_append.1 hp with hp | hp
        · exact h.ok p hp
        · simp only [List.mem_singleton] at hp; rw [hp]; exact hpk
      · simp only at hc ⊢
        by_cases c2 : j < st.1.length
        · rw [List.getElem?_append_left c2] at hc
          have e1 : pt (st.2 ++ [pt ps k]) j = pt st.2 j := by
            unfold pt; rw [List.getElem?_append_left (by rw [h.len]; exact c2)]
          rw [e1, h.has j c hc b hb]
          constructor
          · rintro ⟨k', q1, q2, q3⟩; exact ⟨k', by omega, q2, q3⟩
          · rintro ⟨k', q1, q2, q3⟩
            by_cases c3 : k' = k
            · subst c3
              rw [e' c (List.mem_of_getElem? hc)] at q2; cases q2
            · exact ⟨k', by omega, q2, q3⟩
        · have hjl := (List.getElem?_eq_some_iff.1 hc).1
          simp at hjl
          obtain rfl : j = st.1.length := by omega
          simp at hc
          subst hc
          have e1 : pt (st.2 ++ [pt ps k]) st.1.length = pt ps k := by
            unfold pt; rw [List.getElem?_append_right (by rw [h.len]; exact Nat.le_refl _), h.len]; simp
          rw [e1]
          constructor
          · intro q; exact ⟨k, by omega, colE_refl, q⟩
          · rintro ⟨k', q1, q2, q3⟩
            by_cases c3 : k' = k
            · subst c3; exact q3
            · obtain ⟨j, c, p1, p2, p3⟩ := h.cls k' (by omega)
              have := colE_trans p2 (colE_symm q2)
              rw [e' c (List.mem_of_getElem? p1)] at this; cases this
end Go.Proofs.YtibeeohnjabhkaaGreat.R

open Go Go.Proofs.YtibeeohnjabhkaaGreat.T
namespace Go.Proofs.YtibeeohnjabhkaaGreat.R
set_option maxHeartbeats 4000000
set_option maxRecDepth 100000
set_option linter.unusedSimpArgs false
set_option linter.unusedVariables false
theorem firstG_eq {f : Nat → Bool} : ∀ (m i b : Nat), i + m = b → b < 256 → f b = true → (∀ x, i ≤ x → x < b → f x = false) → firstG f i = b
  | 0, i, b, hm, hb, h, hn => by
    obtain rfl : i = b := by omega
    rw [firstG_next hb, if_pos h]
  | m + 1, i, b, hm, hb, h, hn => by
    rw [firstG_next (by omega), if_neg (by rw [hn i (Nat.le_refl _) (by omega)]; simp)]
    exact firstG_eq m (i + 1) b (by omega) hb h fun x hx => hn x (by omega)
theorem firstG_min {f : Nat → Bool} : ∀ (m i b : Nat), i + m = 256 → firstG f i = b → ∀ x, i ≤ x → x < b → f x = false
  | 0, i, b, hm, h, x, hx, hb => by
    obtain rfl : i = 256 := by omega
    rw [firstG_end] at h; omega
  | m + 1, i, b, hm, h, x, hx, hb => by
    rw [firstG_next (by omega)] at h
    by_cases c : f i = true
    · rw [if_pos c] at h; omega
    · rw [if_neg c] at h
      by_cases e : x = i
      · subst e; simpa using c
      · exact firstG_min m (i + 1) b (by omega) h x (by omega) hb
theorem firstS_min {p : List (Int × Int)} {b x : Nat} (h : firstS p = b) (hx : x < b) : hasS p x = false := firstG_min 256 0 b rfl h x (by omega) hx
theorem firstS_eq {p : List (Int × Int)} {b : Nat} (hb : b < 256) (h : hasS p b = true) (hn : ∀ x : Nat, x < b → hasS p x = false) : firstS p = b := firstG_eq b 0 b (by omega) hb h fun x _ hx => hn x hx
theorem bfs_end {d : Dfa} (ho : DOk d) {ks : List Int} (h0 : 0 ≤ kn ks 0) : ∃ N, 1 ≤ N ∧ N ≤ 40 ∧ N ≤ d.rows.length ∧ bfsEnd d ks = bfsTo d ks N ∧ (bfsTo d ks N).1.length = N ∧ (∀ i, i < N → i < (bfsTo d ks i).1.length) ∧ BInv d ks (bfsTo d ks N).1 := by
  have hmost := ho.most
  have h40 : (bfsTo d ks 40).1.length ≤ 40 := by have := (bfs_inv ho h0 40).1.len; omega
  obtain ⟨N, h1, h2, h3⟩ := least (p := fun i => (bfsTo d ks i).1.length ≤ i) h40
  have hB := (bfs_inv ho h0 N).1
  have hone := hB.one
  have hlen := hB.len
  have hN : N ≤ (bfsTo d ks N).1.length := by
    rcases N with _ | N
    · omega
    · have h4 := h3 N (by omega)
      have h5 : N < (bfsTo d ks N).1.length := by omega
      have hl := (bfs_all (d := d) (ks := ks) N (by omega)).1
      obtain ⟨r, _, _, _, ⟨z, h6⟩, _⟩ := bfs_row (List.getElem?_eq_getElem h5) hl
      rw [h6, List.length_append]; omega
  exact ⟨N, by omega, h2, by omega, bfsTo_stop h1 40 h2, by omega, fun i hi => by have := h3 i hi; omega, hB⟩
theorem kn_low {d : Dfa} (ho : DOk d) {ks : List Int} (hk : IsKinds d ks) {s : Nat} (hs : s < d.rows.length) : -1 ≤ kn ks s := by
  obtain ⟨bl, hb⟩ := isLive_ex d
  obtain ⟨tp, _, _, h⟩ := kinds_top ho hb hk
  exact (h s hs).2.1
theorem kd_nat {ks : List Int} {t : Int} (h : ¬ t < 0) : kd ks t = kn ks t.toNat := by unfold kd; rw [if_neg h]
theorem kd_neg {ks : List Int} {t : Int} (h : t < 0) : kd ks t = -1 := by unfold kd; rw [if_pos h]
theorem kd_ix {d : Dfa} (ho : DOk d) {ks : List Int} (hk : IsKinds d ks) {t u : Int} (ht : -1 ≤ t ∧ t < d.rows.length) (hu : -1 ≤ u ∧ u < d.rows.length) (h : ¬ Apart d (ix d t) (ix d u)) : kd ks t = kd ks u := by
  have key : ∀ s : Int, (-1 ≤ s ∧ s < d.rows.length) → ¬ s < 0 → ¬ Apart d (ix d s) d.rows.length → kd ks s = -1 := by
    intro s hs h0 ha
    rw [ix_nat (by omega)] at ha
    have h1 : ¬ Live d s.toNat := fun x => ha ((live_iff ho).1 x)
    have h2 := (kn_live ho hk (s := s.toNat) (by omega)).1
    have h3 := kn_low ho hk (s := s.toNat) (by omega)
    have h4 : ¬ 0 ≤ kn ks s.toNat := fun x => h1 (h2.2 x)
    rw [kd_nat h0]; omega
  by_cases c1 : t < 0
  · by_cases c2 : u < 0
    · rw [kd_neg c1, kd_neg c2]
    · have e : ix d t = d.rows.length := by unfold ix; rw [if_pos c1]
      rw [e] at h
      rw [kd_neg c1, key u hu c2 fun x => h (apart_symm x)]
  · by_cases c2 : u < 0
    · have e : ix d u = d.rows.length := by unfold ix; rw [if_pos c2]
      rw [e] at h
      rw [kd_neg c2, key t ht c1 h]
    · rw [ix_nat (by omega), ix_nat (by omega)] at h
      rw [kd_nat c1, kd_nat c2]
      exact (kinds_iff ho hk (by omega) (by omega)).2 h
theorem kd_congr {d : Dfa} (ho : DOk d) {ks : List Int} (hk : IsKinds d ks) {s f : Nat} (hs : s < d.rows.length) (hf : f < d.rows.length) (h : kn ks s = kn ks f) {k : Nat} (hkp : k < d.parts.length) : kd ks (nx d s k) = kd ks (nx d f k) := by
  have h1 := nx_ok ho (s := (s : Int)) (by omega) hkp
  have h2 := nx_ok ho (s := (f : Int)) (by omega) hkp
  refine kd_ix ho hk h1 h2 fun a => ((kinds_iff ho hk hs hf).1 h) ?_
  rw [← dl_ix (by omega), ← dl_ix (by omega), ix_nat (by omega), ix_nat (by omega)] at a
  simp only [Int.toNat_natCast] at a
  exact .step _ _ k (by omega) (by omega) hkp a
/-- The smallest machine of one that comes to a rule at all, and what is known of it. -/
structure LF (d : Dfa) (ks : List Int) (m : Dfa) (fs : List Nat) (CS : List Nat) : Prop where
  inv : BInv d ks fs
  zero : fs[0]? = some 0
  rows : m.rows.length = fs.length
  most : fs.length ≤ 40
  acc : m.acc = fs.map (ac_ d)
  parts : m.parts.length = CS.length
  pos : 1 ≤ CS.length
  inc : CS.Pairwise (· < ·)
  rng : ∀ c ∈ CS, c < d.parts.length
  row : ∀ x, x < fs.length → (rw_ m x).length = CS.length
  ok : ∀ i, i < CS.length → setOk (pt m.parts i) = true
  has : ∀ i c, CS[i]? = some c → ∃ C : Nat → Bool, C c = true ∧ (∀ k, k < c → C k = false) ∧ ∀ b : Nat, b < 256 → (hasS (pt m.parts i) b = true ↔ ∃ k, k < d.parts.length ∧ C k = true ∧ hasS (pt d.parts k) b = true)
  cls : ∀ k, k < d.parts.length → ∃ i, i < CS.length ∧ (∀ b : Nat, b < 256 → hasS (pt d.parts k) b = true → hasS (pt m.parts i) b = true) ∧ ∀ x f : Nat, fs[x]? = some f → ∃ e, (rw_ m x)[i]? = some e ∧ Ent ks fs e (kd ks (nx d f k))
  one : ∀ i j c, CS[i]? = some c → j < CS.length → ∀ b : Nat, b < 256 → hasS (pt m.parts i) b = true → hasS (pt m.parts j) b = true → i = j
  all : ∀ b : Nat, b < 256 → ∃ i, i < CS.length ∧ hasS (pt m.parts i) b = true
  ent : ∀ x, x < fs.length → ∀ t ∈ rw_ m x, -1 ≤ t ∧ t < fs.length
  can : ∃ L : Nat → Nat, L 0 = 1 ∧ L fs.length = fs.length ∧ (∀ x, x < fs.length → x < L x) ∧ ∀ x, x < fs.length → Cano (L x) (rw_ m x) ∧ L (x + 1) = cnN (L x) (rw_ m x)
  dist : ∀ i j, i < j → j < CS.length → colE m.rows i j = false
theorem getD_of {α : Type _} {l : List α} {i : Nat} {x d : α} (h : l[i]? = some x) : (l[i]?).getD d = x := by rw [h]; rfl
theorem part_ok {d : Dfa} (ho : DOk d) {k : Nat} (hk : k < d.parts.length) : setOk (pt d.parts k) = true ∧ ∀ j, j < k → ∀ b : Nat, b < 256 → hasS (pt d.parts k) b = true → hasS (pt d.parts j) b = false := by
  have h := partsFrom_of ho.parts
  refine ⟨?_, fun j hj b hb h1 => anyHas_false (parts_disj h hk hb h1) j hj⟩
  unfold partsFrom at h
  rw [List.all_eq_true] at h
  have := h k (by rw [List.mem_range'_1]; omega)
  simp only [partAt, headAt, Bool.and_eq_true] at this
  exact this.1.1.1
theorem can_sub {rows ps} {r : List Int} (hr : r ∈ rows) {L : Nat} (hc : Cano L r) : ∀ k, k ≤ r.length → Cano L ((mergeTo rows ps k).1.map fun c => (r[c]?).getD 0) ∧ cnN L ((mergeTo rows ps k).1.map fun c => (r[c]?).getD 0) = cnN L (r.take k)
  | 0, _ => ⟨by simp [mergeTo, Cano], by simp [mergeTo]⟩
  | k + 1, hk => by
    obtain ⟨h1, h2⟩ := can_sub hr hc k (by omega) (ps := ps)
    have hkl : k < r.length := by omega
    have hrk : (r[k]?).getD 0 = r[k] := by simp [List.getElem?_eq_getElem hkl]
    have hct : Cano L (r.take k ++ [r[k]]) := by
      have : r = r.take k ++ (r[k] :: r.drop (k + 1)) := by simp
      rw [this, cano_app] at hc
      exact cano_app.2 ⟨hc.1, hc.2.1, trivial⟩
    rw [List.take_succ_eq_append_getElem hkl, cnN_app]
    have hrng : ∀ c ∈ (mergeTo rows ps k).1, c < k := by
      clear h1 h2 hct hrk
      induction k with
      | zero => intro c hc; simp [mergeTo] at hc
      | succ k ih =>
        intro c hc
        change c ∈ (stepM rows ps (mergeTo rows ps k) k).1 at hc
        unfold stepM at hc
        split at hc
        · have := ih (by omega) (by omega) c hc; omega
        · rcases List.mem_append.1 hc with hc | hc
          · have := ih (by omega) (by omega) c hc; omega
          · simp only [List.mem_singleton] at hc; omega
    have he : (mergeTo rows ps (k + 1)) = stepM rows ps (mergeTo rows ps k) k := rfl
    rw [he]
    unfold stepM
    cases e : (mergeTo rows ps k).1.findIdx? (fun c => colE rows c k) with
    | some i =>
      obtain ⟨hi, h3, _⟩ := List.findIdx?_eq_some_iff_getElem.1 e
      simp only
      refine ⟨h1, ?_⟩
      rw [h2]
      have h4 := colE_iff.1 h3 r hr
      have h5 := hrng _ (List.getElem_mem hi)
      have h6 : r[k] = r[(mergeTo rows ps k).1[i]]'(by omega) := by
        rw [hrk, List.getElem?_eq_getElem (by omega)] at h4
        exact h4.symm
      have h7 : r[(mergeTo rows ps k).1[i]]'(by omega) ∈ r.take k := List.mem_take_iff_getElem.2 ⟨(mergeTo rows ps k).1[i], by omega, rfl⟩
      have h8 := cano_lt (cano_app.1 hct).1 _ h7
      rw [← h6] at h8
      show cnN L (r.take k) = cn1 (cnN L (r.take k)) r[k]
      unfold cn1; rw [if_neg (by omega)]
    | none =>
      simp only [List.map_append, List.map_cons, List.map_nil]
      rw [cano_app, cnN_app, h2, hrk]
      exact ⟨⟨h1, (cano_app.1 hct).2⟩, rfl⟩
theorem leastF_LF {d : Dfa} (ho : DOk d) {ks : List Int} (hk : IsKinds d ks) (h0 : 0 ≤ kn ks 0) : ∃ fs CS, LF d ks (leastF d ks) fs CS := by
  obtain ⟨N, n1, n2, n3, n4, n5, n6, n7⟩ := bfs_end ho h0
  have hp1 : 1 ≤ d.parts.length := by
    obtain ⟨k, hk, _⟩ := parts_at ho.parts (b := 0) (by omega)
    omega
  have hall := bfs_all (d := d) (ks := ks) N (by omega)
  have hm : leastF d ks = mergeM ⟨d.parts, (bfsTo d ks N).2, (bfsTo d ks N).1.map (ac_ d)⟩ := by
    unfold leastF leastB
    rw [if_neg (by omega), n4]
  rw [hm]
  generalize hL : (fun i => (bfsTo d ks i).1.length) = L
  have hLi : ∀ i, (bfsTo d ks i).1.length = L i := fun i => by rw [← hL]
  simp only [hLi] at hall n5 n6
  obtain ⟨hlen, hall⟩ := hall
  have hn5 : (bfsTo d ks N).1.length = N := by rw [hLi]; exact n5
  have hz : (bfsTo d ks N).1[0]? = some 0 := (bfsC N (ks := ks) (d := d)).1.1
  generalize (bfsTo d ks N).1 = fs at *
  generalize (bfsTo d ks N).2 = RB at *
  have hMI := merge_MI (rows := RB) (fun p hp => by
    obtain ⟨i, hi, rfl⟩ := List.getElem_of_mem hp
    have := (part_ok ho hi).1
    rw [pt_eq hi] at this; exact this) d.parts.length (Nat.le_refl _)
  have hdist := merge_dist (rows := RB) (ps := d.parts) d.parts.length
  have hne := merge_ne (rows := RB) (ps := d.parts) d.parts.length hp1
  have hsub : ∀ r ∈ RB, ∀ L', Cano L' r → r.length = d.parts.length → Cano L' ((mergeTo RB d.parts d.parts.length).1.map fun c => (r[c]?).getD 0) ∧ cnN L' ((mergeTo RB d.parts d.parts.length).1.map fun c => (r[c]?).getD 0) = cnN L' r := fun r hr L' hc hl => by
    have := can_sub (ps := d.parts) hr hc d.parts.length (by omega)
    rw [List.take_of_length_le (by omega)] at this
    exact this
  unfold mergeM
  simp only
  generalize mergeTo RB d.parts d.parts.length = ST at *
  obtain ⟨CS, QS⟩ := ST
  simp only at *
  have hrow : ∀ x f : Nat, fs[x]? = some f → ∃ r, RB[x]? = some r ∧ r.length = d.parts.length ∧ Cano (L x) r ∧ L (x + 1) = cnN (L x) r ∧ rw_ ⟨QS, RB.map fun r => CS.map fun c => (r[c]?).getD 0, fs.map (ac_ d)⟩ x = CS.map (fun c => (r[c]?).getD 0) ∧ ∀ k, k < d.parts.length → ∃ e, r[k]? = some e ∧ Ent ks fs e (kd ks (nx d f k)) := by
    intro x f hx
    have hxl := (List.getElem?_eq_some_iff.1 hx).1
    obtain ⟨r, r1, r2, r3, r4, r5⟩ := hall x f (by omega) hx
    have hf := n7.rng f (List.mem_of_getElem? hx)
    have hrl := ho.row f hf.1
    refine ⟨r, r1, by omega, r3, r4, ?_, fun k hkp => ?_⟩
    · unfold rw_
      simp only
      rw [List.getElem?_map, r1]; rfl
    · obtain ⟨e, e1, e2⟩ := r5 k (by omega)
      refine ⟨e, e1, ?_⟩
      have : nx d f k = (rw_ d f)[k]'(by omega) := by
        unfold nx
        rw [if_neg (by omega)]
        simp [List.getElem?_eq_getElem (show k < (rw_ d f).length by omega)]
      rw [this]; exact e2
  have hgx : ∀ x, x < fs.length → ∃ f, fs[x]? = some f := fun x hx => ⟨_, List.getElem?_eq_getElem hx⟩
  have hhas := hMI.has
  have hL0 : L 0 = 1 := by rw [← hL]; rfl
  refine ⟨fs, CS, n7, hz, by simp [hlen, hn5], by omega, rfl, hMI.len, List.length_pos_iff.2 hne, hMI.inc, hMI.rng, fun x hx => ?_, fun i hi => ?_, fun i c hc => ?_, fun k hkp => ?_, fun i j c hc hj b hb h1 h2 => ?_, fun b hb => ?_, fun x hx t ht => ?_, ⟨L, hL0, by rw [hn5]; exact n5, fun x hx => n6 x (by omega), fun x hx => ?_⟩, fun i j hij hj => ?_⟩
  · obtain ⟨f, hf⟩ := hgx x hx
    obtain ⟨r, _, _, _, _, r5, _⟩ := hrow x f hf
    rw [r5]; simp
  · have : i < QS.length := by rw [hMI.len]; exact hi
    rw [pt_eq this]; exact hMI.ok _ (List.getElem_mem this)
  · refine ⟨fun k => colE RB c k, colE_refl, fun k hkc => ?_, fun b hb => hhas i c hc b hb⟩
    cases e : colE RB c k with
    | false => exact e
    | true =>
      exfalso
      have hcl := hMI.rng c (List.mem_of_getElem? hc)
      obtain ⟨j, c', j1, j2, j3⟩ := hMI.cls k (by omega)
      have h3 := colE_trans j2 (colE_symm e)
      have hjl := (List.getElem?_eq_some_iff.1 j1).1
      have hil := (List.getElem?_eq_some_iff.1 hc).1
      have ej := (List.getElem?_eq_some_iff.1 j1).2
      have ei := (List.getElem?_eq_some_iff.1 hc).2
      rcases Nat.lt_trichotomy j i with g | g | g
      · have := (List.pairwise_iff_getElem.1 hdist) j i hjl hil g
        rw [ej, ei, h3] at this; cases this
      · subst g
        rw [ei] at ej; omega
      · have := (List.pairwise_iff_getElem.1 hdist) i j hil hjl g
        rw [ej, ei, colE_symm h3] at this; cases this
  · obtain ⟨i, c, i1, i2, i3⟩ := hMI.cls k hkp
    have hil := (List.getElem?_eq_some_iff.1 i1).1
    refine ⟨i, hil, fun b hb h => (hhas i c i1 b hb).2 ⟨k, hkp, i2, h⟩, fun x f hx => ?_⟩
    obtain ⟨r, r1, r2, r3, r4, r5, r6⟩ := hrow x f hx
    obtain ⟨e, e1, e2⟩ := r6 k hkp
    refine ⟨e, ?_, e2⟩
    rw [r5, List.getElem?_map, i1]
    have h4 := colE_iff.1 i2 r (List.mem_of_getElem? r1)
    rw [e1] at h4
    simp only [Option.map_some, h4]; rfl
  · obtain ⟨k, k1, k2, k3⟩ := (hhas i c hc b hb).1 h1
    obtain ⟨c', hc'⟩ : ∃ c', CS[j]? = some c' := ⟨_, List.getElem?_eq_getElem hj⟩
    obtain ⟨k', p1, p2, p3⟩ := (hhas j c' hc' b hb).1 h2
    have hkk : k = k' := by
      rcases Nat.lt_trichotomy k k' with g | g | g
      · have := (part_ok ho p1).2 k g b hb p3
        rw [k3] at this; cases this
      · exact g
      · have := (part_ok ho k1).2 k' g b hb k3
        rw [p3] at this; cases this
    subst hkk
    have h3 := colE_trans k2 (colE_symm p2)
    have hil := (List.getElem?_eq_some_iff.1 hc).1
    have ej := (List.getElem?_eq_some_iff.1 hc').2
    have ei := (List.getElem?_eq_some_iff.1 hc).2
    rcases Nat.lt_trichotomy j i with g | g | g
    · have := (List.pairwise_iff_getElem.1 hdist) j i hj hil g
      rw [ej, ei, colE_symm h3] at this; cases this
    · exact g.symm
    · have := (List.pairwise_iff_getElem.1 hdist) i j hil hj g
      rw [ej, ei, h3] at this; cases this
  · obtain ⟨k, hkp, hh⟩ := parts_at ho.parts hb
    obtain ⟨i, c, i1, i2, i3⟩ := hMI.cls k hkp
    exact ⟨i, (List.getElem?_eq_some_iff.1 i1).1, (hhas i c i1 b hb).2 ⟨k, hkp, i2, hh⟩⟩
  · obtain ⟨f, hf⟩ := hgx x hx
    obtain ⟨r, r1, r2, r3, r4, r5, r6⟩ := hrow x f hf
    rw [r5] at ht
    obtain ⟨c, hc, rfl⟩ := List.mem_map.1 ht
    obtain ⟨e, e1, e2⟩ := r6 c (hMI.rng c hc)
    rw [e1]
    simp only [Option.getD_some]
    rcases e2 with ⟨_, rfl⟩ | ⟨j, f', rfl, h2, _⟩
    · omega
    · have := (List.getElem?_eq_some_iff.1 h2).1; omega
  · obtain ⟨f, hf⟩ := hgx x hx
    obtain ⟨r, r1, r2, r3, r4, r5, r6⟩ := hrow x f hf
    obtain ⟨s1, s2⟩ := hsub r (List.mem_of_getElem? r1) (L x) r3 r2
    rw [r5, r4]
    exact ⟨s1, s2.symm⟩
  · have h1 := (List.pairwise_iff_getElem.1 hdist) i j (by omega) hj hij
    cases e : colE (RB.map fun r => CS.map fun c => (r[c]?).getD 0) i j with
    | false => rfl
    | true =>
      rw [← h1]
      rw [colE_iff] at e
      symm
      rw [colE_iff]
      intro r hr
      have := e _ (List.mem_map_of_mem hr)
      rw [List.getElem?_map, List.getElem?_map, List.getElem?_eq_getElem (show i < CS.length by omega), List.getElem?_eq_getElem hj] at this
      simpa using this
end Go.Proofs.YtibeeohnjabhkaaGreat.R

open Go Go.Proofs.YtibeeohnjabhkaaGreat.T
namespace Go.Proofs.YtibeeohnjabhkaaGreat.R
set_option maxHeartbeats 4000000
set_option maxRecDepth 100000
set_option linter.unusedSimpArgs false
set_option linter.unusedVariables false
section
variable {d m : Dfa} {ks : List Int} {fs CS : List Nat}
theorem LF.first (ho : DOk d) (h : LF d ks m fs CS) {i c : Nat} (hc : CS[i]? = some c) : firstS (pt m.parts i) = firstS (pt d.parts c) := by
  have hcl := h.rng c (List.mem_of_getElem? hc)
  obtain ⟨b, hb, f1, f2⟩ := first_part ho hcl
  obtain ⟨C, C1, C2, C3⟩ := h.has i c hc
  rw [f1]
  refine firstS_eq hb ((C3 b hb).2 ⟨c, hcl, C1, f2⟩) fun x hx => ?_
  cases e : hasS (pt m.parts i) x with
  | false => rfl
  | true =>
    exfalso
    obtain ⟨k, k1, k2, k3⟩ := (C3 x (by omega)).1 e
    rcases Nat.lt_trichotomy k c with g | g | g
    · rw [C2 k g] at k2; cases k2
    · subst g
      rw [firstS_min f1 hx] at k3; cases k3
    · obtain ⟨b', hb', f1', f2'⟩ := first_part ho k1
      have hf := partsFrom_of ho.parts
      have hinc : ∀ n, c + n < d.parts.length → firstS (pt d.parts c) ≤ firstS (pt d.parts (c + n)) := by
        intro n
        induction n with
        | zero => intro _; exact Int.le_refl _
        | succ n ih =>
          intro hn
          have := ih (by omega)
          unfold partsFrom at hf
          rw [List.all_eq_true] at hf
          have h2 := hf (c + n + 1) (by rw [List.mem_range'_1]; omega)
          simp only [partAt, headAt, Bool.and_eq_true, Bool.or_eq_true, decide_eq_true_eq] at h2
          have h3 := h2.1.2
          rw [show c + n + 1 - 1 = c + n by omega] at h3
          rw [show c + (n + 1) = c + n + 1 by omega]
          omega
      have h5 := hinc (k - c) (by omega)
      rw [show c + (k - c) = k by omega, f1, f1'] at h5
      have := firstS_min f1' (show x < b' by omega)
      rw [this] at k3; cases k3
theorem LF.parts_ok (ho : DOk d) (h : LF d ks m fs CS) : partsOk m.parts = true := by
  have hall : partsFrom m.parts 0 = true := by
    unfold partsFrom
    rw [List.all_eq_true]
    intro i hi
    rw [List.mem_range'_1, h.parts] at hi
    have hiC : i < CS.length := by omega
    have hci : CS[i]? = some CS[i] := List.getElem?_eq_getElem hiC
    have hcl := h.rng _ (List.getElem_mem hiC)
    obtain ⟨b, hb, f1, f2⟩ := first_part ho hcl
    obtain ⟨C, C1, C2, C3⟩ := h.has i _ hci
    simp only [partAt, headAt, Bool.and_eq_true, Bool.or_eq_true, decide_eq_true_eq]
    refine ⟨⟨⟨h.ok i hiC, ?_⟩, ?_⟩, ?_⟩
    · have := (C3 b hb).2 ⟨_, hcl, C1, f2⟩
      cases e : pt m.parts i with
      | nil => rw [e] at this; simp [hasS] at this
      | cons a l => rfl
    · rcases i with _ | i
      · exact .inl rfl
      · right
        rw [show i + 1 - 1 = i by omega, h.first ho hci, h.first ho (List.getElem?_eq_getElem (show i < CS.length by omega))]
        have hlt := (List.pairwise_iff_getElem.1 h.inc) i (i + 1) (by omega) hiC (by omega)
        have hf := partsFrom_of ho.parts
        have hinc : ∀ n c, c + n + 1 < d.parts.length → firstS (pt d.parts c) < firstS (pt d.parts (c + n + 1)) := by
          intro n
          induction n with
          | zero =>
            intro c hn
            unfold partsFrom at hf
            rw [List.all_eq_true] at hf
            have h2 := hf (c + 1) (by rw [List.mem_range'_1]; omega)
            simp only [partAt, headAt, Bool.and_eq_true, Bool.or_eq_true, decide_eq_true_eq] at h2
            have h3 := h2.1.2
            rw [show c + 1 - 1 = c by omega] at h3
            rw [show c + 0 + 1 = c + 1 by omega]
            omega
          | succ n ih =>
            intro c hn
            have h1 := ih c (by omega)
            unfold partsFrom at hf
            rw [List.all_eq_true] at hf
            have h2 := hf (c + (n + 1) + 1) (by rw [List.mem_range'_1]; omega)
            simp only [partAt, headAt, Bool.and_eq_true, Bool.or_eq_true, decide_eq_true_eq] at h2
            have h3 := h2.1.2
            rw [show c + (n + 1) + 1 - 1 = c + n + 1 by omega] at h3
            omega
        have h6 := hinc (CS[i + 1] - CS[i] - 1) CS[i] (by omega)
        rw [show CS[i] + (CS[i + 1] - CS[i] - 1) + 1 = CS[i + 1] by omega] at h6
        exact h6
    · unfold disjFrom
      rw [List.all_eq_true]
      intro b hb
      rw [List.mem_range'_1] at hb
      unfold disjB
      cases e : hasS (pt m.parts i) b with
      | false => rfl
      | true =>
        have : anyHas m.parts i b = false := by
          unfold anyHas
          rw [List.any_eq_false]
          intro j hj hh
          rw [List.mem_range] at hj
          have := h.one i j _ hci (by omega) b (by omega) e hh
          omega
        rw [this]; rfl
  unfold partsOk
  rw [hall, Bool.true_and, decide_eq_true_eq, ← size_any hall _ (Nat.le_refl _)]
  rw [List.countP_eq_length.2 ?_]
  · simp
  · intro b hb
    rw [List.mem_range] at hb
    obtain ⟨i, hi, hh⟩ := h.all b hb
    unfold anyHas
    rw [List.any_eq_true]
    exact ⟨i, List.mem_range.2 (by rw [h.parts]; exact hi), hh⟩
theorem LF.dfa (ho : DOk d) (h : LF d ks m fs CS) : dfaOk m = true := by
  have h1 := h.inv.one
  have h2 := h.most
  have h3 := h.rows
  have h4 : m.acc.length = fs.length := by rw [h.acc]; simp
  simp only [dfaOk, Bool.and_eq_true, decide_eq_true_eq]
  refine ⟨⟨⟨⟨h.parts_ok ho, by omega⟩, by omega⟩, by omega⟩, ?_⟩
  unfold rowsFrom
  rw [List.all_eq_true]
  intro x hx
  rw [List.mem_range'_1] at hx
  have hxl : x < fs.length := by omega
  have hr := h.inv.rng _ (List.getElem_mem hxl)
  have ha : ac_ m x = ac_ d fs[x] := by
    unfold ac_
    rw [h.acc, List.getElem?_map, List.getElem?_eq_getElem hxl]; rfl
  simp only [rowAt, Bool.and_eq_true, decide_eq_true_eq, List.all_eq_true, entOk]
  refine ⟨⟨⟨by rw [h.row x hxl, h.parts], by rw [ha]; exact ho.low _ hr.1⟩, by rw [ha]; exact ho.high _ hr.1⟩, fun t ht => ?_⟩
  have := h.ent x hxl t ht
  omega
theorem Ent.rng {e v : Int} (h : Ent ks fs e v) : -1 ≤ e ∧ e < fs.length := by
  rcases h with ⟨_, rfl⟩ | ⟨j, f, rfl, h2, _⟩
  · omega
  · have := (List.getElem?_eq_some_iff.1 h2).1; omega
theorem LF.accS (ho : DOk d) (hk : IsKinds d ks) (h : LF d ks m fs CS) {x a : Int} (ha : -1 ≤ a ∧ a < d.rows.length) (he : Ent ks fs x (kd ks a)) : acI m x = acI d a := by
  rcases he with ⟨h1, rfl⟩ | ⟨j, f, rfl, h2, h3, h4⟩
  · rw [acI_neg (by omega)]
    by_cases c : a < 0
    · rw [acI_neg c]
    · rw [kd_nat c] at h1
      have h5 := (kn_live ho hk (s := a.toNat) (by omega)).1
      have h6 := ho.low a.toNat (by omega)
      rw [acI_nat c]
      have : ¬ 0 ≤ ac_ d a.toNat := fun g => by have := h5.1 (.acc _ (by omega) g); omega
      omega
  · have c : ¬ a < 0 := fun g => by rw [kd_neg g] at h4; omega
    have hfl := (List.getElem?_eq_some_iff.1 h2).1
    have hf := (h.inv.rng f (List.mem_of_getElem? h2)).1
    rw [kd_nat c] at h3
    have hna := (kinds_iff ho hk hf (by omega)).1 h3
    rw [acI_nat (by omega), acI_nat c]
    have e1 : ac_ m j = ac_ d f := by
      unfold ac_
      rw [h.acc, List.getElem?_map, h2]; rfl
    rw [Int.toNat_natCast, e1]
    apply Classical.byContradiction
    intro g
    refine hna (.acc _ _ (by omega) (by omega) ?_)
    unfold acX
    rw [if_neg (by omega), if_neg (by omega)]; exact g
/-- One step by a part keeps the two of one kind. -/
theorem LF.step (ho : DOk d) (hk : IsKinds d ks) (h : LF d ks m fs CS) {k i : Nat} (hkp : k < d.parts.length) (hi : ∀ x f : Nat, fs[x]? = some f → ∃ e, (rw_ m x)[i]? = some e ∧ Ent ks fs e (kd ks (nx d f k))) {x a : Int} (ha : -1 ≤ a ∧ a < d.rows.length) (he : Ent ks fs x (kd ks a)) : Ent ks fs (nx m x i) (kd ks (nx d a k)) := by
  rcases he with ⟨h1, rfl⟩ | ⟨j, f, rfl, h2, h3, h4⟩
  · refine .inl ⟨?_, by unfold nx; rw [if_pos (by omega)]⟩
    by_cases c : a < 0
    · rw [kd_neg (by unfold nx; rw [if_pos c]; omega)]; omega
    · rw [kd_nat c] at h1
      by_cases c2 : nx d a k < 0
      · rw [kd_neg c2]; omega
      · rw [kd_nat c2]
        refine kn_dead ho hk (s := a.toNat) (by omega) h1 ?_ (by omega)
        have hr := ho.row a.toNat (by omega)
        unfold nx
        rw [if_neg c, List.getElem?_eq_getElem (by omega)]
        exact List.getElem_mem _
  · have c : ¬ a < 0 := fun g => by rw [kd_neg g] at h4; omega
    have hf := (h.inv.rng f (List.mem_of_getElem? h2)).1
    rw [kd_nat c] at h3
    obtain ⟨e, e1, e2⟩ := hi j f h2
    have e3 : nx m j i = e := by
      unfold nx
      rw [if_neg (by omega), Int.toNat_natCast, e1]; rfl
    rw [e3]
    have e4 := kd_congr ho hk hf (by omega) h3 hkp
    rw [show ((a.toNat : Nat) : Int) = a by omega] at e4
    rw [← e4]; exact e2
theorem LF.run (ho : DOk d) (hk : IsKinds d ks) (h : LF d ks m fs CS) : ∀ (w : List UInt8) (x a : Int), (-1 ≤ a ∧ a < d.rows.length) → Ent ks fs x (kd ks a) → acI m (runGo m w x) = acI d (runGo d w a)
  | [], x, a, ha, he => h.accS ho hk ha he
  | c :: w, x, a, ha, he => by
    have hom := dok_of (h.dfa ho)
    have hx := he.rng
    obtain ⟨k, hkp, hh⟩ := parts_at ho.parts c.toNat_lt
    obtain ⟨i, i1, i2, i3⟩ := h.cls k hkp
    have hip : i < m.parts.length := by rw [h.parts]; exact i1
    have e1 : runGo m (c :: w) x = runGo m w (nx m x i) := by
      rw [nx_next hom hx.1 hip c.toNat_lt (i2 _ c.toNat_lt hh), runGo]
      by_cases g : x < 0
      · rw [if_pos g, if_pos g, runGo_neg g]
      · rw [if_neg g, if_neg g]
    have e2 : runGo d (c :: w) a = runGo d w (nx d a k) := by
      rw [nx_next ho ha.1 hkp c.toNat_lt hh, runGo]
      by_cases g : a < 0
      · rw [if_pos g, if_pos g, runGo_neg g]
      · rw [if_neg g, if_neg g]
    rw [e1, e2]
    exact LF.run ho hk h w _ _ (nx_ok ho ha.2 hkp) (h.step ho hk hkp i3 ha he)
theorem LF.live (ho : DOk d) (hk : IsKinds d ks) (h : LF d ks m fs CS) {a : Nat} (ha : Live d a) : ∀ x : Int, Ent ks fs x (kd ks a) → ∃ j : Nat, x = j ∧ Live m j := by
  have hom := dok_of (h.dfa ho)
  have key : ∀ (a : Nat) (x : Int), Live d a → Ent ks fs x (kd ks a) → ∃ j : Nat, x = j ∧ j < m.rows.length := by
    intro a x hl he
    have h1 := (kn_live ho hk (live_lt hl)).1.1 hl
    rcases he with ⟨h2, _⟩ | ⟨j, f, rfl, h2, _⟩
    · rw [kd_nat (by omega)] at h2; simp at h2; omega
    · exact ⟨j, rfl, by rw [h.rows]; exact (List.getElem?_eq_some_iff.1 h2).1⟩
  induction ha with
  | acc s hs h0 =>
    intro x he
    obtain ⟨j, rfl, hj⟩ := key s x (.acc s hs h0) he
    refine ⟨j, rfl, .acc j hj ?_⟩
    have := h.accS ho hk (a := (s : Int)) (by omega) he
    rw [acI_nat (by omega), acI_nat (by omega)] at this
    simp at this
    omega
  | step s hs t ht h0 hl ih =>
    intro x he
    obtain ⟨j, rfl, hj⟩ := key s x (.step s hs t ht h0 hl) he
    obtain ⟨k, hkr, e⟩ := List.getElem_of_mem ht
    have hkp : k < d.parts.length := by rw [← ho.row s hs]; exact hkr
    obtain ⟨i, i1, i2, i3⟩ := h.cls k hkp
    have h1 := h.step ho hk hkp i3 (a := (s : Int)) (by omega) he
    have h2 : nx d (s : Int) k = t := by
      unfold nx
      rw [if_neg (by omega), Int.toNat_natCast, List.getElem?_eq_getElem hkr, e]; rfl
    rw [h2] at h1
    obtain ⟨j', e1, e2⟩ := ih (nx m j i) (by rw [show ((t.toNat : Nat) : Int) = t by omega]; exact h1)
    have hir : i < (rw_ m j).length := by rw [h.row j (by rw [← h.rows]; exact hj)]; exact i1
    have e3 : (rw_ m j)[i] = (j' : Int) := by
      rw [← e1]
      unfold nx
      rw [if_neg (by omega), Int.toNat_natCast, List.getElem?_eq_getElem hir]; rfl
    exact ⟨j, rfl, .step j hj (j' : Int) (by rw [← e3]; exact List.getElem_mem hir) (by omega) e2⟩
theorem LF.apart (ho : DOk d) (hk : IsKinds d ks) (h : LF d ks m fs CS) {a b : Nat} (ha : Apart d a b) : ∀ s t : Int, (-1 ≤ s ∧ s < d.rows.length) → (-1 ≤ t ∧ t < d.rows.length) → ix d s = a → ix d t = b → ∀ x y, Ent ks fs x (kd ks s) → Ent ks fs y (kd ks t) → Apart m (ix m x) (ix m y) := by
  induction ha with
  | acc a b ha hb hne =>
    rintro s t hs ht rfl rfl x y hx hy
    have h1 := hx.rng
    have h2 := hy.rng
    rw [← h.rows] at h1 h2
    refine .acc _ _ (ix_le h1.2) (ix_le h2.2) ?_
    rw [acX_ix h1.2, acX_ix h2.2, h.accS ho hk hs hx, h.accS ho hk ht hy, ← acX_ix hs.2, ← acX_ix ht.2]
    exact hne
  | step a b k ha hb hkp hap ih =>
    rintro s t hs ht rfl rfl x y hx hy
    have h1 := hx.rng
    have h2 := hy.rng
    rw [← h.rows] at h1 h2
    obtain ⟨i, i1, i2, i3⟩ := h.cls k hkp
    refine .step _ _ i (ix_le h1.2) (ix_le h2.2) (by rw [h.parts]; exact i1) ?_
    rw [dl_ix h1.2, dl_ix h2.2]
    exact ih _ _ (nx_ok ho hs.2 hkp) (nx_ok ho ht.2 hkp) (dl_ix hs.2).symm (dl_ix ht.2).symm _ _ (h.step ho hk hkp i3 hs hx) (h.step ho hk hkp i3 ht hy)
theorem LF.fs_ent (h : LF d ks m fs CS) {j f : Nat} (hj : fs[j]? = some f) : Ent ks fs (j : Int) (kd ks (f : Int)) := by
  have := (h.inv.rng f (List.mem_of_getElem? hj)).2
  exact .inr ⟨j, f, rfl, hj, by rw [kd_nat (by omega)]; simp, by rw [kd_nat (by omega)]; simpa using this⟩
theorem LF.all_live (ho : DOk d) (hk : IsKinds d ks) (h : LF d ks m fs CS) {j : Nat} (hj : j < fs.length) : Live m j := by
  have hr := h.inv.rng _ (List.getElem_mem hj)
  obtain ⟨j', e, hl⟩ := h.live ho hk ((kn_live ho hk hr.1).1.2 hr.2) _ (h.fs_ent (List.getElem?_eq_getElem hj))
  have : j = j' := by omega
  rw [this]; exact hl
theorem LF.all_apart (ho : DOk d) (hk : IsKinds d ks) (h : LF d ks m fs CS) {i j : Nat} (hij : i < j) (hj : j < fs.length) : Apart m i j := by
  have hi : i < fs.length := by omega
  have hri := h.inv.rng _ (List.getElem_mem hi)
  have hrj := h.inv.rng _ (List.getElem_mem hj)
  have hne := (List.pairwise_iff_getElem.1 h.inv.nod) i j hi hj hij
  have hap : Apart d fs[i] fs[j] := by
    apply Classical.byContradiction
    intro c
    exact hne ((kinds_iff ho hk hri.1 hrj.1).2 c)
  have := h.apart ho hk hap (fs[i] : Nat) (fs[j] : Nat) (by omega) (by omega) (by rw [ix_nat (by omega)]; simp) (by rw [ix_nat (by omega)]; simp) _ _ (h.fs_ent (List.getElem?_eq_getElem hi)) (h.fs_ent (List.getElem?_eq_getElem hj))
  rw [ix_nat (by omega), ix_nat (by omega)] at this
  simpa using this
end
def idk (n : Nat) : List Int := (List.range n).map fun (i : Nat) => (i : Int)
theorem kn_idk {n s : Nat} (h : s < n) : kn (idk n) s = s := by unfold kn idk; simp [h]
theorem numb_id {R : Nat → Nat → Bool} {L : Nat → Bool} : ∀ n, (∀ s, s < n → L s = true) → (∀ s t, s < n → t < s → R s t = false) → numb R L n = (idk n, n)
  | 0, _, _ => rfl
  | n + 1, h1, h2 => by
    have ih := numb_id n (fun s hs => h1 s (by omega)) fun s t hs ht => h2 s t (by omega) ht
    have hf : (List.range n).find? (R n) = none := by
      rw [List.find?_eq_none]
      intro t ht
      rw [List.mem_range] at ht
      rw [h2 n t (by omega) ht]; simp
    rw [numb_succ, if_pos (h1 n (by omega)), hf, ih]
    simp only
    unfold idk
    rw [List.range_succ, List.map_append]; rfl
theorem LF.isK {d m : Dfa} {ks : List Int} {fs CS : List Nat} (ho : DOk d) (hk : IsKinds d ks) (h : LF d ks m fs CS) : IsKinds m (idk fs.length) := by
  refine ⟨fun s t => decide (s = t), fun _ => true, fun s t hs ht _ => ?_, fun s hs => ?_, ?_⟩
  · rw [h.rows] at hs
    have := apart_symm (h.all_apart ho hk ht hs)
    simp only [decide_eq_true_eq]
    exact ⟨fun e => by omega, fun e => absurd this e⟩
  · rw [h.rows] at hs
    exact ⟨fun _ => h.all_live ho hk hs, fun _ => rfl⟩
  · rw [h.rows, numb_id]
    · exact fun _ _ => rfl
    · intro s t hs ht; simp; omega
theorem findK_idk {n L : Nat} (hL : L ≤ n) {t : Nat} (ht : t < n) : findK (idk n) (List.range L) (t : Int) = if t < L then some t else none := by
  unfold findK
  by_cases c : t < L
  · rw [if_pos c, List.findIdx?_eq_some_iff_getElem]
    refine ⟨by simpa using c, by simp [kn_idk ht], fun j hj => ?_⟩
    simp only [List.getElem_range, decide_eq_true_eq]
    rw [kn_idk (by omega)]; omega
  · rw [if_neg c, List.findIdx?_eq_none_iff]
    intro x hx
    rw [List.mem_range] at hx
    rw [decide_eq_false_iff_not, kn_idk (by omega)]; omega
theorem stepB_idk {n L : Nat} {t : Int} (hL : L ≤ n) (ht : -1 ≤ t ∧ t ≤ L) (hn : t < n) : stepB (idk n) (List.range L) t = (List.range (cn1 L t), t) := by
  unfold stepB
  by_cases c : t < 0
  · have e : cn1 L t = L := by unfold cn1; rw [if_neg (by omega)]
    rw [if_pos (by rw [kd_neg c]; omega), e, show t = -1 by omega]
  · obtain ⟨u, rfl⟩ : ∃ u : Nat, t = u := ⟨t.toNat, by omega⟩
    have hk : kd (idk n) (u : Int) = u := by rw [kd_nat c, Int.toNat_natCast, kn_idk (by omega)]
    rw [hk, if_neg c, findK_idk hL (by omega)]
    by_cases c2 : u < L
    · have e : cn1 L u = L := by unfold cn1; rw [if_neg (by omega)]
      rw [if_pos c2, e]
    · obtain rfl : u = L := by omega
      have e : cn1 u u = u + 1 := by unfold cn1; rw [if_pos rfl]
      rw [if_neg c2, e]
      simp [List.range_succ]
theorem rowK_idk {n : Nat} : ∀ (r : List Int) (L : Nat) (a : List Int), Cano L r → cnN L r ≤ n → r.foldl (fun a t => ((stepB (idk n) a.1 t).1, a.2 ++ [(stepB (idk n) a.1 t).2])) (List.range L, a) = (List.range (cnN L r), a ++ r)
  | [], L, a, _, _ => by simp [cnN]
  | t :: r, L, a, h, hn => by
    have hle : cn1 L t ≤ cnN (cn1 L t) r := cnN_le
    have hcn : cnN L (t :: r) = cnN (cn1 L t) r := rfl
    rw [hcn] at hn
    have hlt : t < cn1 L t := by
      have := h.1
      unfold cn1; split <;> omega
    have hL : L ≤ cn1 L t := cn1_le
    rw [List.foldl_cons]
    simp only
    rw [stepB_idk (by omega) h.1 (by omega), rowK_idk r _ _ h.2 hn, hcn, List.append_assoc]; rfl
theorem LF.again {d m : Dfa} {ks : List Int} {fs CS : List Nat} (h : LF d ks m fs CS) : leastF m (idk fs.length) = m := by
  have hone := h.inv.one
  have hmost := h.most
  obtain ⟨L, l1, l2, l3, l4⟩ := h.can
  have hmono : ∀ k x, x + k = fs.length → L x ≤ fs.length := by
    intro k
    induction k with
    | zero => intro x hx; rw [show x = fs.length by omega, l2]; exact Nat.le_refl _
    | succ k ih =>
      intro x hx
      have h1 := ih (x + 1) (by omega)
      rw [(l4 x (by omega)).2] at h1
      exact Nat.le_trans cnN_le h1
  have hb : ∀ i, i ≤ fs.length → bfsTo m (idk fs.length) i = (List.range (L i), m.rows.take i) := by
    intro i
    induction i with
    | zero => intro _; rw [l1]; rfl
    | succ i ih =>
      intro hi
      have hx := l3 i (by omega)
      obtain ⟨c1, c2⟩ := l4 i (by omega)
      have hs : (bfsTo m (idk fs.length) i).1[i]? = some i := by
        rw [ih (by omega)]; simp [hx]
      have hle := hmono (fs.length - (i + 1)) (i + 1) (by omega)
      rw [bfsTo_succ hs, ih (by omega)]
      unfold rowK
      simp only
      rw [rowK_idk _ _ _ c1 (by omega), c2]
      have hir : i < m.rows.length := by rw [h.rows]; omega
      rw [List.take_succ_eq_append_getElem hir, rw_eq hir]; rfl
  have he : bfsEnd m (idk fs.length) = (List.range fs.length, m.rows) := by
    have h1 := hb fs.length (Nat.le_refl _)
    rw [l2, List.take_of_length_le (by rw [h.rows]; omega)] at h1
    rw [bfsEnd_of (i := fs.length) (by rw [h1]; simp) hmost, h1]
  have hB : leastB m (idk fs.length) = m := by
    unfold leastB
    rw [he]
    refine dfa_ext rfl rfl ?_
    simp only
    apply List.ext_getElem
    · rw [h.acc]; simp
    · intro i h1 h2
      simp only [List.getElem_map, List.getElem_range]
      exact ac_eq h2
  unfold leastF
  rw [if_neg (by rw [kn_idk (by omega)]; omega), hB]
  have hmt : ∀ k, k ≤ CS.length → mergeTo m.rows m.parts k = (List.range k, m.parts.take k) := by
    intro k
    induction k with
    | zero => intro _; rfl
    | succ k ih =>
      intro hk
      show stepM m.rows m.parts (mergeTo m.rows m.parts k) k = _
      rw [ih (by omega)]
      unfold stepM
      have hf : (List.range k).findIdx? (fun c => colE m.rows c k) = none := by
        rw [List.findIdx?_eq_none_iff]
        intro c hc
        rw [List.mem_range] at hc
        exact h.dist c k hc (by omega)
      simp only [hf]
      have hkp : k < m.parts.length := by rw [h.parts]; omega
      rw [List.range_succ, List.take_succ_eq_append_getElem hkp, pt_eq hkp]
  unfold mergeM
  rw [h.parts, hmt _ (Nat.le_refl _)]
  refine dfa_ext (by simp [← h.parts]) ?_ rfl
  simp only
  apply List.ext_getElem
  · simp
  · intro i h1 h2
    simp only [List.getElem_map]
    have hl := h.row i (by rw [← h.rows]; exact h2)
    rw [rw_eq h2] at hl
    apply List.ext_getElem
    · simp [hl]
    · intro j g1 g2
      simp [List.getElem?_eq_getElem g2]
/-- What the smallest machine is. -/
theorem least_law {d : Dfa} (hd : dfaOk d = true) {ks : List Int} (hk : IsKinds d ks) : dfaOk (leastF d ks) = true ∧ (leastF d ks).rows.length ≤ d.rows.length ∧ (leastF d ks).parts.length ≤ d.parts.length ∧ (∀ t, ruleF (leastF d ks) t = ruleF d t) ∧ leastR (leastF d ks) (leastF d ks) ∧
    (∀ i, i < (leastF d ks).rows.length → 1 < (leastF d ks).rows.length → Live (leastF d ks) i) ∧ ∀ i j : Nat, j < i → i < (leastF d ks).rows.length → (twoF (leastF d ks) i j).1 = false := by
  have ho := dok_of hd
  have hone := ho.one
  have hp1 : 1 ≤ d.parts.length := by
    obtain ⟨k, hk, _⟩ := parts_at ho.parts (b := 0) (by omega)
    omega
  by_cases c : kn ks 0 < 0
  · have e : leastF d ks = ⟨[[(0, 255)]], [[-1]], [-1]⟩ := by unfold leastF; rw [if_pos c]
    rw [e]
    have ok : dfaOk ⟨[[(0, 255)]], [[-1]], [-1]⟩ = true := by kernel_rfl
    refine ⟨ok, hone, hp1, fun t => ?_, ?_, fun i hi hi2 => by simp at hi2, fun i j hij hi => by simp at hi; omega⟩
    · have hs : ∀ t : List UInt8, ∀ s : Int, (-1 ≤ s ∧ s < d.rows.length) → kd ks s < 0 → acI d (runGo d t s) = -1 := by
        intro t
        induction t with
        | nil =>
          intro s hs hk0
          unfold runGo
          by_cases g : s < 0
          · exact acI_neg g
          · rw [kd_nat g] at hk0
            have h5 := (kn_live ho hk (s := s.toNat) (by omega)).1
            have h6 := ho.low s.toNat (by omega)
            rw [acI_nat g]
            have : ¬ 0 ≤ ac_ d s.toNat := fun g => by have := h5.1 (.acc _ (by omega) g); omega
            omega
        | cons b t ih =>
          intro s hs hk0
          by_cases g : s < 0
          · rw [runGo_neg g, acI_neg g]
          · rw [kd_nat g] at hk0
            unfold runGo
            rw [if_neg g]
            have hnx := next_ok ho (s := s.toNat) (b := b.toNat) (by omega)
            refine ih _ hnx ?_
            by_cases g2 : nextF d s.toNat b.toNat < 0
            · rw [kd_neg g2]; omega
            · rw [kd_nat g2]
              obtain ⟨k, hkp, hh⟩ := parts_at ho.parts b.toNat_lt
              refine kn_dead ho hk (s := s.toNat) (by omega) hk0 ?_ (by omega)
              have hr := ho.row s.toNat (by omega)
              rw [next_of_has (partsFrom_of ho.parts) hkp b.toNat_lt hh, List.getElem?_eq_getElem (by omega)]
              exact List.getElem_mem _
      have h1 : ruleF d t = -1 := by
        rw [ruleF_acI hd]
        exact hs t 0 (by omega) (by rw [kd_nat (by omega)]; exact c)
      have h2 : ruleF ⟨[[(0, 255)]], [[-1]], [-1]⟩ t = -1 := by
        have hm := dok_of ok
        rw [ruleF_acI ok]
        cases t with
        | nil => rfl
        | cons b t =>
          unfold runGo
          rw [if_neg (by omega)]
          have hnx : nextF ⟨[[(0, 255)]], [[-1]], [-1]⟩ (0 : Int).toNat b.toNat = -1 := by
            obtain ⟨k, hkp, hh⟩ := parts_at hm.parts b.toNat_lt
            have hk0 : k = 0 := by simp at hkp; exact hkp
            subst hk0
            rw [next_of_has (partsFrom_of hm.parts) hkp b.toNat_lt hh]; rfl
          rw [hnx, runGo_neg (by omega), acI_neg (by omega)]
      rw [h1, h2]
    · unfold leastR
      rw [if_pos ok]
      refine ⟨[-1], ⟨fun _ _ => false, fun _ => false, fun s t hs ht => ?_, fun s hs => ?_, rfl⟩, rfl⟩
      · simp at hs; omega
      · have hn : ¬ Live ⟨[[(0, 255)]], [[-1]], [-1]⟩ s := by
          intro hl
          cases hl with
          | acc s hs h0 =>
            simp at hs; subst hs
            have : ac_ ⟨[[(0, 255)]], [[-1]], [-1]⟩ 0 = -1 := rfl
            omega
          | step s hs t ht h0 h =>
            simp at hs; subst hs
            have : t = -1 := by
              have e : rw_ ⟨[[(0, 255)]], [[-1]], [-1]⟩ 0 = [-1] := rfl
              rw [e] at ht; simpa using ht
            omega
        exact ⟨fun h => (by cases h), fun h => absurd h hn⟩
  · obtain ⟨fs, CS, h⟩ := leastF_LF ho hk (by omega)
    have h0 : fs[0]? = some 0 := h.zero
    refine ⟨h.dfa ho, by rw [h.rows]; exact h.inv.len, ?_, fun t => ?_, ?_, fun i hi _ => h.all_live ho hk (by rw [← h.rows]; exact hi), fun i j hij hi => ?_⟩
    · rw [h.parts]
      exact nodup_le _ _ (h.inc.imp fun {a b} hab => by omega) h.rng
    · rw [ruleF_acI (h.dfa ho), ruleF_acI hd]
      exact h.run ho hk t 0 0 (by omega) (h.fs_ent h0)
    · unfold leastR
      rw [if_pos (h.dfa ho)]
      exact ⟨_, h.isK ho hk, h.again.symm⟩
    · have hr := h.rows
      obtain ⟨t1, _⟩ := twoF_iff (h.dfa ho) (s := (i : Int)) (t := (j : Int)) (by omega) (by omega)
      cases e : (twoF (leastF d ks) i j).1 with
      | false => rfl
      | true =>
        have := t1.1 e
        simp only [Int.toNat_natCast] at this
        exact absurd (apart_symm (h.all_apart ho hk hij (by omega))) this
end Go.Proofs.YtibeeohnjabhkaaGreat.R

open Go Go.Proofs.YtibeeohnjabhkaaGreat.T
namespace Go.Proofs.YtibeeohnjabhkaaGreat.R
set_option maxHeartbeats 16000000
set_option maxRecDepth 100000
set_option linter.unusedSimpArgs false
set_option linter.unusedVariables false
attribute [local simp] bsV bsRows chunk fillT partsT appV makeV rowsOf cellsOf placeOf frzT frz1
theorem tcr_DrawLeastOf (b : List UInt8) (hb : b.length ≤ 1048576) : TCR Tryz.prog 4 [.ro (b.map encU)] [] (fun r o => ∃ d : Dfa, DB d ∧ r = .agg (encDfa d) ∧ o = []) := by
  refine TCR.enter Tryz.func4 rfl (by simp [Tryz.ntmps4]) rfl (tw_sound (ρ := []) ?_)
  rw [Tryz.ntmps4]
  simp
  refine gall_intro fun q2 g2 => ?_
  simp
  refine TWoH.call (tc_l15Open b hb) callable_15 (by simp) (by simp [rdr, ← List.map_take]) (by simp) fun q hq => ?_
  have l2 : q2 < q := over hq (t := .box 27 [.val (.slice none 0 0), .val (.slice none 0 0), .val (.slice none 0 0)]) (by simp)
  have fq : ¬ q = q2 ∧ ¬ q2 = q := by omega
  clear hq l2
  simp [rdr, fq]
  refine TWoH.lendR [q] (tcr_l7BentR (b.take 2000) 0 (by simp; omega) (by omega)) callable_14 (by simp [List.findIdx?_cons, fq]) (by simp [rdr, fq]) (by simp) (by simp) ?_
  rintro r o ⟨d, p1, hd, rfl, hp1, rfl⟩
  refine ⟨by simp [rdr], by simp, .inl (by simp [List.findIdx?_cons, fq]), fun q3 hq3 => ?_⟩
  clear hq3
  simp [fq, encDfa]
  exact ⟨d, hd, rfl, rfl, rfl⟩
theorem leastR_ex2 (d : Dfa) : ∃ ks m, leastR d m ∧ (dfaOk d = true → IsKinds d ks ∧ m = leastF d ks) ∧ (dfaOk d = false → m = ⟨[], [], []⟩) := by
  obtain ⟨ks, hk⟩ := isKinds_ex d
  unfold leastR
  by_cases ok : dfaOk d = true
  · rw [ok]; exact ⟨ks, leastF d ks, ⟨ks, hk, rfl⟩, fun _ => ⟨hk, rfl⟩, fun h => by cases h⟩
  · simp only [if_neg ok]; exact ⟨ks, _, rfl, fun h => absurd h ok, fun _ => rfl⟩
theorem tc_FnLeast (b b2 : List UInt8) : TC Tryz.prog 3 [.ro (b.map encU), .ro (b2.map encU)] [] (.val (.bool true)) [] := by
  refine TC.enter Tryz.func3 rfl (by simp [Tryz.ntmps3]) rfl (tw_sound (ρ := []) ?_)
  rw [Tryz.ntmps3]
  by_cases hb0 : (1048576 : Int) < b.length
  · simp [hb0]
  have hb : b.length ≤ 1048576 := by omega
  by_cases hb1 : (1048576 : Int) < b2.length
  · simp [hb0, hb1]
  have hb2 : b2.length ≤ 1048576 := by omega
  simp [hb0, hb1]
  refine TWoH.callR (tcr_DrawLeastOf b hb) callable_4 (by simp) ?_
  rintro r o ⟨d, hd, rfl, rfl⟩
  refine ⟨rfl, by simp, .inl (by simp), fun q hq => ?_⟩
  clear hq
  have hs := hd.sm
  obtain ⟨ks, m, hm, hme, hmn⟩ := leastR_ex2 d
  have hsm := leastR_sm hs hm
  have t1 := tc_iLeastOf d hs m hm
  have t2 := tc_sLeastOf d hs m hm
  have t3 := tc_iDfaSame m m hsm hsm
  have t4 := tc_sDfaOk d hs
  simp [encDfa]
  refine gall_intro fun c hc => ?_
  clear hc
  simp [encDfa]
  refine TWoH.callV t1 callable_5 (by simp [encDfa]) (by simp) (by simp) (by simp) ?_
  simp [encDfa]
  refine gall_fresh [c] (by simp) fun c4 f4 => ?_
  simp [frF] at f4
  simp [encDfa, f4]
  refine TWcH.regionD (ρ := []) [0, 1, 2, 3, 4] 5 mixed (by kernel_rfl) ?_
  simp [encDfa, f4]
  refine TWqH.call t2 callable_7 (by simp [encDfa]) (by simp) (by simp) fun q1 hq1 => ?_
  clear hq1
  simp [encDfa, f4]
  refine TWqH.call t3 callable_6 (by simp [encDfa]) (by simp) (by simp) fun q1 hq1 => ?_
  clear hq1
  simp [encDfa, f4, bP]
  refine TWoH.callV t4 callable_8 (by simp [encDfa]) (by simp) (by simp) (by simp) ?_
  by_cases ok : dfaOk d = true
  case neg =>
    simp only [Bool.not_eq_true] at ok
    have hmm := hmn ok
    subst hmm
    simp [ok, f4, encDfa]
  have ho := dok_of ok
  have hmost := ho.most
  obtain ⟨hks, hmF⟩ := hme ok
  have hlaw := least_law ok hks
  rw [← hmF] at hlaw
  obtain ⟨w1, w2, w3, w4, w5, w6, w7⟩ := hlaw
  have hom := dok_of w1
  have hmm := hom.most
  obtain ⟨bl, hbl⟩ := isLive_ex m
  have hblR : liveR m bl := by unfold liveR; rw [if_pos w1]; exact hbl
  have hbn := hbl.len
  have t5 := tc_iDfaOk m hsm
  have t6 := tc_iLeastOf m hsm m w5
  have t7 := tc_iLeastLiveR m hsm bl hblR
  have t8 := fun (s t : Int) => tc_iLeastTwo m hsm s t
  simp [ok, f4, encDfa]
  refine TWoH.callR (tcr_DrawDfaRun b2 hb2) callable_9 (by simp) ?_
  rintro r o ⟨d2, w, hd2, rfl, hw, rfl⟩
  refine ⟨rfl, by simp, .inl (by simp), fun q hq => ?_⟩
  clear hq
  have t9 := tc_iDfaRule m hsm w (by omega)
  have t10 := tc_iDfaRule d hs w (by omega)
  rw [w4 w] at t9
  have hpl := hs.parts
  have n1 : ¬ (d.rows.length : Int) < m.rows.length := by omega
  have n2 : ¬ (d.parts.length : Int) < m.parts.length := by omega
  simp [encDfa, f4]
  refine gall_fresh [c, c4] (by simp [f4]) fun c7 f7 => ?_
  simp [frF] at f7
  simp [encDfa, f4, f7]
  refine TWcH.midB (ρ := []) (fun st => st.σ 6 = .pd c4 0 0 0 ∧ st.H c4 = some (.box 27 (encDfa m)) ∧ st.σ 79 = .val (.bool false))
    (.pick 0 (.pick 1 (.first 2 (.first 3 (.first 4 (.first 7 (.pick 5 (.first 6 (.pick 8 (.first 9 (.first 10 (.first 11 (.first 12 (.first 13 (.first 16 (.pick 14 (.first 15 (.pick 17 (.first 18 (.first 19 (.first 20 (.first 21 (.first 23 (.first 26 (.pick 22 (.pick 24 (.pick 25 (.pick 27 (.first 28 (.first 29 (.first 30 (.pick 31 (.pick 32 (.pick 33 (.pick 34 (.first 35 (.first 36 .fin)) .fin) .fin) (.pick 33 (.pick 32 (.pick 34 (.first 35 (.first 36 .fin)) .fin) .fin) .fin)) (.pick 33 (.pick 31 (.pick 32 (.pick 34 (.first 35 (.first 36 .fin)) .fin) .fin) .fin) .fin))))) .fin) .fin) (.pick 25 (.pick 24 (.pick 27 (.first 28 (.first 29 (.first 30 (.pick 31 (.pick 32 (.pick 33 (.pick 34 (.first 35 (.first 36 .fin)) .fin) .fin) (.pick 33 (.pick 32 (.pick 34 (.first 35 (.first 36 .fin)) .fin) .fin) .fin)) (.pick 33 (.pick 31 (.pick 32 (.pick 34 (.first 35 (.first 36 .fin)) .fin) .fin) .fin) .fin))))) .fin) .fin) .fin)) (.pick 25 (.pick 22 (.pick 24 (.pick 27 (.first 28 (.first 29 (.first 30 (.pick 31 (.pick 32 (.pick 33 (.pick 34 (.first 35 (.first 36 .fin)) .fin) .fin) (.pick 33 (.pick 32 (.pick 34 (.first 35 (.first 36 .fin)) .fin) .fin) .fin)) (.pick 33 (.pick 31 (.pick 32 (.pick 34 (.first 35 (.first 36 .fin)) .fin) .fin) .fin) .fin))))) .fin) .fin) .fin) .fin)))))))) .fin)) (.pick 17 (.first 18 (.pick 14 (.first 15 (.first 19 (.first 20 (.first 21 (.first 23 (.first 26 (.pick 22 (.pick 24 (.pick 25 (.pick 27 (.first 28 (.first 29 (.first 30 (.pick 31 (.pick 32 (.pick 33 (.pick 34 (.first 35 (.first 36 .fin)) .fin) .fin) (.pick 33 (.pick 32 (.pick 34 (.first 35 (.first 36 .fin)) .fin) .fin) .fin)) (.pick 33 (.pick 31 (.pick 32 (.pick 34 (.first 35 (.first 36 .fin)) .fin) .fin) .fin) .fin))))) .fin) .fin) (.pick 25 (.pick 24 (.pick 27 (.first 28 (.first 29 (.first 30 (.pick 31 (.pick 32 (.pick 33 (.pick 34 (.first 35 (.first 36 .fin)) .fin) .fin) (.pick 33 (.pick 32 (.pick 34 (.first 35 (.first 36 .fin)) .fin) .fin) .fin)) (.pick 33 (.pick 31 (.pick 32 (.pick 34 (.first 35 (.first 36 .fin)) .fin) .fin) .fin) .fin))))) .fin) .fin) .fin)) (.pick 25 (.pick 22 (.pick 24 (.pick 27 (.first 28 (.first 29 (.first 30 (.pick 31 (.pick 32 (.pick 33 (.pick 34 (.first 35 (.first 36 .fin)) .fin) .fin) (.pick 33 (.pick 32 (.pick 34 (.first 35 (.first 36 .fin)) .fin) .fin) .fin)) (.pick 33 (.pick 31 (.pick 32 (.pick 34 (.first 35 (.first 36 .fin)) .fin) .fin) .fin) .fin))))) .fin) .fin) .fin) .fin)))))))) .fin)) .fin)))))))) .fin)) (.pick 8 (.first 9 (.pick 5 (.first 6 (.first 10 (.first 11 (.first 12 (.first 13 (.first 16 (.pick 14 (.first 15 (.pick 17 (.first 18 (.first 19 (.first 20 (.first 21 (.first 23 (.first 26 (.pick 22 (.pick 24 (.pick 25 (.pick 27 (.first 28 (.first 29 (.first 30 (.pick 31 (.pick 32 (.pick 33 (.pick 34 (.first 35 (.first 36 .fin)) .fin) .fin) (.pick 33 (.pick 32 (.pick 34 (.first 35 (.first 36 .fin)) .fin) .fin) .fin)) (.pick 33 (.pick 31 (.pick 32 (.pick 34 (.first 35 (.first 36 .fin)) .fin) .fin) .fin) .fin))))) .fin) .fin) (.pick 25 (.pick 24 (.pick 27 (.first 28 (.first 29 (.first 30 (.pick 31 (.pick 32 (.pick 33 (.pick 34 (.first 35 (.first 36 .fin)) .fin) .fin) (.pick 33 (.pick 32 (.pick 34 (.first 35 (.first 36 .fin)) .fin) .fin) .fin)) (.pick 33 (.pick 31 (.pick 32 (.pick 34 (.first 35 (.first 36 .fin)) .fin) .fin) .fin) .fin))))) .fin) .fin) .fin)) (.pick 25 (.pick 22 (.pick 24 (.pick 27 (.first 28 (.first 29 (.first 30 (.pick 31 (.pick 32 (.pick 33 (.pick 34 (.first 35 (.first 36 .fin)) .fin) .fin) (.pick 33 (.pick 32 (.pick 34 (.first 35 (.first 36 .fin)) .fin) .fin) .fin)) (.pick 33 (.pick 31 (.pick 32 (.pick 34 (.first 35 (.first 36 .fin)) .fin) .fin) .fin) .fin))))) .fin) .fin) .fin) .fin)))))))) .fin)) (.pick 17 (.first 18 (.pick 14 (.first 15 (.first 19 (.first 20 (.first 21 (.first 23 (.first 26 (.pick 22 (.pick 24 (.pick 25 (.pick 27 (.first 28 (.first 29 (.first 30 (.pick 31 (.pick 32 (.pick 33 (.pick 34 (.first 35 (.first 36 .fin)) .fin) .fin) (.pick 33 (.pick 32 (.pick 34 (.first 35 (.first 36 .fin)) .fin) .fin) .fin)) (.pick 33 (.pick 31 (.pick 32 (.pick 34 (.first 35 (.first 36 .fin)) .fin) .fin) .fin) .fin))))) .fin) .fin) (.pick 25 (.pick 24 (.pick 27 (.first 28 (.first 29 (.first 30 (.pick 31 (.pick 32 (.pick 33 (.pick 34 (.first 35 (.first 36 .fin)) .fin) .fin) (.pick 33 (.pick 32 (.pick 34 (.first 35 (.first 36 .fin)) .fin) .fin) .fin)) (.pick 33 (.pick 31 (.pick 32 (.pick 34 (.first 35 (.first 36 .fin)) .fin) .fin) .fin) .fin))))) .fin) .fin) .fin)) (.pick 25 (.pick 22 (.pick 24 (.pick 27 (.first 28 (.first 29 (.first 30 (.pick 31 (.pick 32 (.pick 33 (.pick 34 (.first 35 (.first 36 .fin)) .fin) .fin) (.pick 33 (.pick 32 (.pick 34 (.first 35 (.first 36 .fin)) .fin) .fin) .fin)) (.pick 33 (.pick 31 (.pick 32 (.pick 34 (.first 35 (.first 36 .fin)) .fin) .fin) .fin) .fin))))) .fin) .fin) .fin) .fin)))))))) .fin)) .fin)))))))) .fin)) .fin)))))) .fin) .fin) mixed (by kernel_rfl) ?_ ?_
  case refine_2 =>
    rintro ⟨σ, H⟩ ⟨h6, hC, h79⟩
    simp only at h6 hC h79
    simp [h6, hC, h79, encDfa]
    refine TWoH.callV t7 callable_12 (by simp [encDfa]) (by simp) (by simp) (by simp) ?_
    simp [h6, hC, h79, encDfa]
    refine TWcH.loop [] (fun m1 st => ∃ i : Nat, i + m1 = m.rows.length ∧ st.σ 10 = .val (.int .i64 i) ∧ st.σ 9 = .ro (bl.map encB) ∧ st.σ 6 = .pd c4 0 0 0 ∧ st.H c4 = some (.box 27 (encDfa m))) m.rows.length ⟨0, by simp [h6, hC, encDfa]⟩ ?_
    clear h6 hC h79
    rintro m1 ⟨σ, H⟩ ⟨i, him, h10, h9, h6, hC⟩
    simp only [encDfa] at h10 h9 h6 hC
    by_cases hi : i < m.rows.length
    case neg => simp [h10, h9, h6, hC, hi, encDfa]
    have hib : i < bl.length := by omega
    have hlv : ∀ h, bl[i]'h = lv bl i := fun h => (lv_eq h).symm
    have hw10 : IntKind.i64.wrap ((i : Int) + 1) = i + 1 := wrapi (by omega)
    have hno : lv bl i = false → ¬ (1 : Int) < m.rows.length := by
      intro e g
      have := (hbl.iff i hi).2 (w6 i hi (by omega))
      rw [e] at this; cases this
    simp [h10, h9, h6, hC, hi, encDfa, hib, hlv, encB]
    generalize hL : lv bl i = Lv at hno
    cases Lv with
    | true =>
      simp [h10, h9, h6, hC, hi, encDfa]
      refine TWcH.loop [] (fun m2 st => ∃ k : Nat, k + m2 = i ∧ st.σ 11 = .val (.int .i64 k) ∧ st.σ 10 = .val (.int .i64 i) ∧ st.σ 9 = .ro (bl.map encB) ∧ st.σ 6 = .pd c4 0 0 0 ∧ st.H c4 = some (.box 27 (encDfa m))) i ⟨0, by simp [h10, h9, h6, hC, encDfa]⟩ ?_
      clear h10 h9 h6 hC
      rintro m2 ⟨σ, H⟩ ⟨k, hkm, h11, h10, h9, h6, hC⟩
      simp only [encDfa] at h11 h10 h9 h6 hC
      by_cases hk : k < i
      · have hw11 : IntKind.i64.wrap ((k : Int) + 1) = k + 1 := wrapi (by omega)
        have hf := w7 i k hk hi
        simp [h11, h10, h9, h6, hC, hi, hk, encDfa]
        refine TWoH.callV (t8 i k) callable_13 (by simp [h11, h10, h9, h6, hC, encDfa]) (by simp) (by simp) (by simp) ?_
        simp [h11, h10, h9, h6, hC, hf, hw11, encDfa]
        exact ⟨m2 - 1, by omega, k + 1, by omega, by omega⟩
      · simp [h11, h10, h9, h6, hC, hi, hk, hw10, encDfa]
        exact ⟨m1 - 1, by omega, i + 1, by omega, by omega⟩
    | false =>
      have hn := hno rfl
      simp [h10, h9, h6, hC, hi, encDfa, hn]
      refine TWcH.loop [] (fun m2 st => ∃ k : Nat, k + m2 = i ∧ st.σ 11 = .val (.int .i64 k) ∧ st.σ 10 = .val (.int .i64 i) ∧ st.σ 9 = .ro (bl.map encB) ∧ st.σ 6 = .pd c4 0 0 0 ∧ st.H c4 = some (.box 27 (encDfa m))) i ⟨0, by simp [h10, h9, h6, hC, encDfa]⟩ ?_
      clear h10 h9 h6 hC
      rintro m2 ⟨σ, H⟩ ⟨k, hkm, h11, h10, h9, h6, hC⟩
      simp only [encDfa] at h11 h10 h9 h6 hC
      by_cases hk : k < i
      · have hw11 : IntKind.i64.wrap ((k : Int) + 1) = k + 1 := wrapi (by omega)
        have hf := w7 i k hk hi
        simp [h11, h10, h9, h6, hC, hi, hk, encDfa]
        refine TWoH.callV (t8 i k) callable_13 (by simp [h11, h10, h9, h6, hC, encDfa]) (by simp) (by simp) (by simp) ?_
        simp [h11, h10, h9, h6, hC, hf, hw11, encDfa]
        exact ⟨m2 - 1, by omega, k + 1, by omega, by omega⟩
      · simp [h11, h10, h9, h6, hC, hi, hk, hw10, encDfa]
        exact ⟨m1 - 1, by omega, i + 1, by omega, by omega⟩
  simp [encDfa, f4, f7]
  repeat' (first
    | (refine TWoH.callV t5 callable_10 (by simp [encDfa]) (by simp) (by simp) (by simp) ?_
       simp [encDfa, f4, f7, w1, n1, n2])
    | (refine TWoH.callV t9 callable_11 ?h (by simp) (by simp) (by simp) ?_
       (case h => simp [encDfa, f4, f7]; done)
       simp [encDfa, f4, f7])
    | (refine TWoH.callV t10 callable_11 ?h (by simp) (by simp) (by simp) ?_
       (case h => simp [encDfa, f4, f7]; done)
       simp [encDfa, f4, f7])
    | (refine TWoH.callV t6 callable_5 (by simp [encDfa]) (by simp) (by simp) (by simp) ?_
       simp [encDfa, f4, f7])
    | (refine TWoH.callV t3 callable_6 (by simp [encDfa]) (by simp) (by simp) (by simp) ?_
       simp [encDfa, f4, f7, bP])
    | refine And.intro ?_ ?_)
end Go.Proofs.YtibeeohnjabhkaaGreat.R
