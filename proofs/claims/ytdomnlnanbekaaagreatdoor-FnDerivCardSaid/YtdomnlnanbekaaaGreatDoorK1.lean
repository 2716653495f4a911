/- Part 1: what the walk of the code stands on. Conditions: none but those that each theorem states. -/
import Derived.Test.YtdomnlnanbekaaaGreatDoorK0
namespace Go.Proofs.YtdomnlnanbekaaaGreatDoor.T
set_option linter.unusedVariables false
set_option linter.unusedSimpArgs false
open Go.RowKit

section
variable {P : Program} {C : Ctx} {n : Nat} {s : St} {a : Act} {e : Env} {FH : Nat → Foot} {w : World} {K : St → Prop} {o : Oper}
/-- Some objects are put aside. -/
theorem RelX.dropL (h : RelX P C s a e FH) : ∀ ρ : List Nat, ∃ H' : Nat → Option TV, (∀ i, H' i = if i ∈ ρ then none else s.H i) ∧ RelX P C ⟨s.σ, H'⟩ a e (fun j => if j ∈ ρ then noF else FH j)
  | [] => ⟨s.H, by simp, by simpa using h⟩
  | i :: ρ => by
    obtain ⟨H', h1, h2⟩ := RelX.dropL h ρ
    have h3 := h2.drop i
    refine ⟨del H' i, fun j => ?_, ?_⟩
    · by_cases e1 : j = i
      · subst e1; simp [del]
      · simp [del, e1, h1]
    · have e2 : (fun j => if j ∈ i :: ρ then noF else FH j) = (fun j => if j = i then noF else if j ∈ ρ then noF else FH j) := by
        funext j
        by_cases e1 : j = i
        · subst e1; simp
        · simp [e1]
      rw [e2]; exact h3
/-- The world has grown, beside what is known. -/
theorem RelX.world (h : RelX P C s a e FH) {w' : World} {X : Nat → Prop} {Z' : Nat → Prop} (g : Grow e.w w' X) (hX : ∀ b, X b → ¬ e.Z b ∧ (∀ i m, ¬ FH i b m) ∧ ((∃ m', C.F b m') ∨ C.w.heap.size ≤ b))
    (hZ : ∀ b, e.Z b → Z' b) (hZ' : ∀ b, Z' b → e.Z b ∨ X b ∨ e.w.heap.size ≤ b) (hlt : ∀ b, Z' b → b < w'.heap.size) : RelX P C s a ⟨w', Z', e.N, e.η⟩ FH := by
  have hk : ∀ {F : Foot}, (∀ b m, F b m → b < e.w.heap.size ∧ ¬ X b) → Keep e ⟨w', Z', e.N, e.η⟩ F := fun hF =>
    ⟨hZ, Nat.le_refl _, fun _ _ => rfl, fun b hb => g.block b (h.ltZ b hb) fun hx => (hX b hx).1 hb, fun b m hb => g.block b (hF b m hb).1 (hF b m hb).2⟩
  refine ⟨h.dfr, fun j hj => Rep.keep _ (h.slots j hj) (hk fun b m x => x.elim), fun i t hi => Rep.keep _ (h.objs i t hi) (hk fun b m hb => ⟨h.ltF i b m hb, fun hx => (hX b hx).2.1 i m hb⟩), h.kind, h.none_, h.top, h.one, ?_, fun i b m hb => Nat.lt_of_lt_of_le (h.ltF i b m hb) g.size, hlt,
    g.os.trans h.os, g.tape.trans h.tape, g.output.trans h.output, Nat.le_trans h.size g.size, fun b hb => hZ b (h.Z0 b hb), ?_, h.Ffrom, ?_, h.mN, h.eta, h.laid⟩
  · intro i b m hb hz
    rcases hZ' b hz with h1 | h1 | h1
    · exact h.notZ i b m hb h1
    · exact (hX b h1).2.1 i m hb
    · have := h.ltF i b m hb; omega
  · intro b hz
    rcases hZ' b hz with h1 | h1 | h1
    · exact h.Zfrom b h1
    · exact .inr (hX b h1).2.2
    · exact .inr (.inr (Nat.le_trans h.size h1))
  · intro b hb hn
    refine (g.block b (Nat.lt_of_lt_of_le hb h.size) fun hx => ?_).trans (h.same b hb hn)
    rcases (hX b hx).2.2 with ⟨m, hm⟩ | h1
    · exact hn m hm
    · omega
/-- An object comes to what is known (under an old name that is free). -/
theorem RelX.add (h : RelX P C s a e FH) {i : Nat} {t : TV} {F : Foot} (hi : i < e.N) (hn : s.H i = none) (hr : Rep P e t (e.η i) F) (hk : (∃ E rows, t = .own E rows) ∨ (∃ ty cs, t = .box ty cs) ∨ (∃ ty kvs, t = .mp ty kvs))
    (hF : ∀ b m, F b m → ¬ e.Z b ∧ b < e.w.heap.size ∧ (∀ j m', ¬ FH j b m') ∧ ((∃ m', C.F b m') ∨ C.w.heap.size ≤ b)) :
    RelX P C ⟨s.σ, Go.Proofs.YtdomnlnanbekaaaGreatDoor.T.upd s.H i t⟩ a e (fun j => if j = i then F else FH j) := by
  refine ⟨h.dfr, h.slots, ?_, ?_, ?_, ?_, ?_, ?_, ?_, h.ltZ, h.os, h.tape, h.output, h.size, h.Z0, h.Zfrom, ?_, h.same, h.mN, h.eta, h.laid⟩
  · intro j t' hj
    by_cases e1 : j = i
    · subst e1
      have : t = t' := by simpa [Go.Proofs.YtdomnlnanbekaaaGreatDoor.T.upd] using hj
      subst this; simpa using hr
    · simp only [e1, if_false]; exact h.objs j t' (by simpa [Go.Proofs.YtdomnlnanbekaaaGreatDoor.T.upd, e1] using hj)
  · intro j t' hj
    by_cases e1 : j = i
    · subst e1
      have : t = t' := by simpa [Go.Proofs.YtdomnlnanbekaaaGreatDoor.T.upd] using hj
      subst this; exact hk
    · exact h.kind j t' (by simpa [Go.Proofs.YtdomnlnanbekaaaGreatDoor.T.upd, e1] using hj)
  · intro j hj
    by_cases e1 : j = i
    · subst e1; simp [Go.Proofs.YtdomnlnanbekaaaGreatDoor.T.upd] at hj
    · simp only [e1, if_false]; exact h.none_ j (by simpa [Go.Proofs.YtdomnlnanbekaaaGreatDoor.T.upd, e1] using hj)
  · intro j hj
    have e1 : j ≠ i := by omega
    simp [Go.Proofs.YtdomnlnanbekaaaGreatDoor.T.upd, e1]; exact h.top j hj
  · intro j j' b m m' hj hj'
    by_cases e1 : j = i <;> by_cases e2 : j' = i
    · rw [e1, e2]
    · simp only [e1, e2, if_true, if_false] at hj hj'; exact ((hF b m hj).2.2.1 j' m' hj').elim
    · simp only [e1, e2, if_true, if_false] at hj hj'; exact ((hF b m' hj').2.2.1 j m hj).elim
    · simp only [e1, e2, if_false] at hj hj'; exact h.one j j' b m m' hj hj'
  · intro j b m hj
    by_cases e1 : j = i
    · simp only [e1, if_true] at hj; exact (hF b m hj).1
    · simp only [e1, if_false] at hj; exact h.notZ j b m hj
  · intro j b m hj
    by_cases e1 : j = i
    · simp only [e1, if_true] at hj; exact (hF b m hj).2.1
    · simp only [e1, if_false] at hj; exact h.ltF j b m hj
  · intro j b m hj
    by_cases e1 : j = i
    · simp only [e1, if_true] at hj; exact (hF b m hj).2.2.2
    · simp only [e1, if_false] at hj; exact h.Ffrom j b m hj
/-- A new name. -/
theorem RelX.name (h : RelX P C s a e FH) (v : Value) : RelX P C s a ⟨e.w, e.Z, e.N + 1, ext e.η e.N v⟩ FH :=
  h.know (fun b x => x) (fun b x => .inl x) (Nat.le_succ _) ext_old (fun j hj => Rep.keep _ (h.slots j hj) (keep_same (fun b x => x) (Nat.le_succ _) ext_old))
    (fun i t hi => by
      have hlt := h.hdlt hi
      have e1 : ext e.η e.N v i = e.η i := ext_old i hlt
      rw [e1]; exact Rep.keep _ (h.objs i t hi) (keep_same (fun b x => x) (Nat.le_succ _) ext_old)) h.kind h.none_ (fun i hi => h.top i (by have : e.N + 1 ≤ i := hi; omega)) h.one h.notZ (fun i b m hb => ⟨i, m, hb⟩)
/-- Many new names. -/
theorem RelX.names : ∀ (vs : List Value) {e : Env}, RelX P C s a e FH → ∃ η', RelX P C s a ⟨e.w, e.Z, e.N + vs.length, η'⟩ FH ∧ (∀ j, j < e.N → η' j = e.η j) ∧ ∀ i u, vs[i]? = some u → η' (e.N + i) = u
  | [], e, h => ⟨e.η, h, fun _ _ => rfl, fun i u hi => by simp at hi⟩
  | v :: vs, e, h => by
    obtain ⟨η', h1, h2, h3⟩ := RelX.names vs (h.name v)
    refine ⟨η', ?_, fun j hj => ?_, fun i u hi => ?_⟩
    · have : e.N + 1 + vs.length = e.N + (v :: vs).length := by simp; omega
      rw [← this]; exact h1
    · rw [h2 j (by show j < e.N + 1; omega)]; exact ext_old j hj
    · cases i with
      | zero =>
        simp at hi; subst hi
        rw [Nat.add_zero, h2 e.N (by show e.N < e.N + 1; omega)]; exact ext_new
      | succ i =>
        have := h3 i u (by simpa using hi)
        have e2 : e.N + 1 + i = e.N + (i + 1) := by omega
        rw [← e2]; exact this
/-- Objects come to what is known, name by name. -/
theorem RelX.addL : ∀ (ts : List TV) (is : List Nat) {s : St} {F : Foot} {FH : Nat → Foot}, RelX P C s a e FH → RepL P e ts (is.map e.η) F → is.Nodup → (∀ i ∈ is, i < e.N ∧ s.H i = none) → (ts.all isObjA = true) →
    (∀ b m, F b m → ¬ e.Z b ∧ b < e.w.heap.size ∧ (∀ j m', ¬ FH j b m') ∧ ((∃ m', C.F b m') ∨ C.w.heap.size ≤ b)) →
    ∃ FH', RelX P C ⟨s.σ, setObjs s.H is ts⟩ a e FH' ∧ (∀ j b m, FH' j b m → FH j b m ∨ F b m) ∧ (∀ j b m, j ∉ is → FH j b m → FH' j b m)
  | ts, [], s, F, FH, h, hr, hnd, hi, hk, hF => by
    have := hr.len
    have : ts = [] := List.eq_nil_of_length_eq_zero (by simpa using this.symm)
    subst this
    exact ⟨FH, by simpa [setObjs] using h, fun j b m hb => .inl hb, fun j b m _ hb => hb⟩
  | [], i :: is, s, F, FH, h, hr, hnd, hi, hk, hF => by
    have := hr.len; simp at this
  | t :: ts, i :: is, s, F, FH, h, hr, hnd, hi, hk, hF => by
    simp only [List.map_cons, RepL] at hr
    obtain ⟨v, vs', F1, F2, hv, h1, h2, hs⟩ := hr
    injection hv with hv1 hv2
    subst hv1 hv2
    simp only [List.all_cons, Bool.and_eq_true] at hk
    obtain ⟨hni, hnd'⟩ := List.nodup_cons.1 hnd
    obtain ⟨hlt, hnone⟩ := hi i (by simp)
    have obj : ((∃ E rows, t = .own E rows) ∨ (∃ ty cs, t = .box ty cs) ∨ (∃ ty kvs, t = .mp ty kvs)) → setObjs s.H (i :: is) (t :: ts) = setObjs (Go.Proofs.YtdomnlnanbekaaaGreatDoor.T.upd s.H i t) is ts → ∃ FH', RelX P C ⟨s.σ, setObjs s.H (i :: is) (t :: ts)⟩ a e FH' ∧ (∀ j b m, FH' j b m → FH j b m ∨ F b m) ∧ (∀ j b m, j ∉ i :: is → FH j b m → FH' j b m) := by
      intro hkind heq
      have hadd := h.add hlt hnone h1 hkind (fun b m hb => hF b m (hs.l b m hb))
      obtain ⟨FH', g1, g2, g3⟩ := RelX.addL ts is hadd h2 hnd' (fun j hj => ⟨(hi j (by simp [hj])).1, by
        have : j ≠ i := fun x => hni (x ▸ hj)
        simp [Go.Proofs.YtdomnlnanbekaaaGreatDoor.T.upd, this]; exact (hi j (by simp [hj])).2⟩) hk.2 (fun b m hb => by
        obtain ⟨q1, q2, q3, q4⟩ := hF b m (hs.r b m hb)
        refine ⟨q1, q2, fun j m' hj => ?_, q4⟩
        by_cases e1 : j = i
        · simp only [e1, if_true] at hj; exact hs.dis b m' m hj hb
        · simp only [e1, if_false] at hj; exact q3 j m' hj)
      refine ⟨FH', by rw [heq]; exact g1, fun j b m hb => ?_, fun j b m hj hb => g3 j b m (fun hm => hj (by simp [hm])) (by
        have : j ≠ i := fun x => hj (by simp [x])
        simp only [this, if_false]; exact hb)⟩
      rcases g2 j b m hb with h3 | h3
      · by_cases e1 : j = i
        · simp only [e1, if_true] at h3; exact .inr (hs.l b m h3)
        · simp only [e1, if_false] at h3; exact .inl h3
      · exact .inr (hs.r b m h3)
    cases t with
    | own E rows => exact obj (.inl ⟨_, _, rfl⟩) rfl
    | box ty cs => exact obj (.inr (.inl ⟨_, _, rfl⟩)) rfl
    | mp ty kvs => exact obj (.inr (.inr ⟨_, _, rfl⟩)) rfl
    | any =>
      have hdel : del s.H i = s.H := by funext j; by_cases e1 : j = i <;> simp [del, e1, hnone]
      obtain ⟨FH', g1, g2, g3⟩ := RelX.addL ts is h h2 hnd' (fun j hj => hi j (by simp [hj])) hk.2 (fun b m hb => hF b m (hs.r b m hb))
      exact ⟨FH', by simp only [setObjs, hdel]; exact g1, fun j b m hb => (g2 j b m hb).imp (fun x => x) (hs.r b m), fun j b m hj hb => g3 j b m (fun hm => hj (by simp [hm])) hb⟩
    | _ => cases hk.1
theorem setObjs_range (H : Nat → Option TV) : ∀ (ts : List TV) (k : Nat), (∀ t ∈ ts, isObj t = true) → setObjs H (List.range' k ts.length) ts = updL H k ts := by
  intro ts
  induction ts generalizing H with
  | nil => intro k h; simp [setObjs, updL]
  | cons t ts ih =>
    intro k h
    have ht := h t (by simp)
    simp only [List.length_cons, List.range'_succ, updL]
    cases t <;> first | (simp only [setObjs]; exact ih _ _ (fun x hx => h x (by simp [hx]))) | cases ht
end
end Go.Proofs.YtdomnlnanbekaaaGreatDoor.T

namespace Go.Proofs.YtdomnlnanbekaaaGreatDoor.T
set_option linter.unusedVariables false
set_option linter.unusedSimpArgs false
open Go.RowKit

def callable (P : Program) (f : FuncId) : Bool := match P.funcs[f]? with
  | some fn => !(fn.name == "runtime.NumGoroutine") && fn.body.isSome
  | none => false
section
variable {P : Program} {C : Ctx} {n : Nat} {s : St} {a : Act} {e : Env} {FH : Nat → Foot} {w : World} {K : St → Prop} {o : Oper}
theorem run_callFunc {f : FuncId} {args : Array Value} (h : callable P f = true) : (callFunc f args).run P w = .ok (.enter f args) w := by
  unfold callable at h
  split at h
  · rename_i fn hf
    simp only [Bool.and_eq_true, Bool.not_eq_true'] at h
    have hb : fn.body.isNone = false := by cases hh : fn.body <;> simp [hh] at h ⊢
    simp only [callFunc, Sem.run_bind, run_program, Result.andThen_ok, hf, h.1, Bool.false_eq_true, if_false, hb, Sem.run_pure]
  · cases h
theorem findIdx_get {ρ : List Nat} {i k : Nat} (h : ρ.findIdx? (· == i) = some k) : ρ[k]? = some i ∧ k < ρ.length := by
  rw [List.findIdx?_eq_some_iff_getElem] at h
  obtain ⟨hk, h1, _⟩ := h
  exact ⟨by rw [List.getElem?_eq_getElem hk]; congr 1; exact eq_of_beq h1, hk⟩
/-- The arguments, as the callee has them. -/
structure ArgEnv (P : Program) (e e1 : Env) (ρ V : List Nat) (H : Nat → Option TV) : Prop where
  w : e1.w = e.w
  N : e1.N = ρ.length
  η : ∀ k i, ρ[k]? = some i → e1.η k = e.η i
  Z : ∀ b, e.Z b → e1.Z b
  view : ∀ i t, i ∈ V → H i = some t → Rep P ⟨e.w, e1.Z, e.N, e.η⟩ (toRo t) (e.η i) noF
theorem ro_piece {R : List (List TV)} {u v : Value} {F : Foot} {z r n : Nat} (h : Rep P e (.ro R) u F) (hz : ∀ q ∈ R, q.length = z) (hv : SlOf u z r n v) : Rep P e (.ro ((R.drop r).take n)) v noF := by
  simp only [Rep] at h ⊢
  obtain ⟨hE, A, c, vs, z0, rfl, hc, _, hrr, h1, hcell⟩ := h
  obtain ⟨A', m, cap, hη, hA, rfl, hrm, hmc⟩ := hv
  injection hη with e1 e2 e3
  subst e1 e2 e3
  obtain ⟨G1, G2, _, g2, sg⟩ := RepRows.split r hrr hz
  obtain ⟨G3, G4, g3, _, sg2⟩ := RepRows.split n g2 (fun q hq => hz q (List.mem_of_mem_drop hq))
  have hln : ((R.drop r).take n).length = n := by simp only [List.length_take, List.length_drop]; omega
  have hvl := hrr.len hz
  refine ⟨emp_noF, if c = r then A else A.map (·.add (r * z)), c - r, (vs.drop (r * z)).take (n * z), z, by rw [hln], by omega, fun q hq => hz q (List.mem_of_mem_drop (List.mem_of_mem_take hq)), RepRows.foot _ g3 (fun b m => ⟨fun x => x.elim, fun x => (hE b m (sg.r b m (sg2.l b m x))).elim⟩), fun u hu => h1 u (List.mem_of_mem_drop (List.mem_of_mem_take hu)), ?_⟩
  by_cases hn : n = 0
  · left; subst hn; simp
  · rcases hcell with rfl | ⟨b, o, rfl, hZ, hcs⟩
    · left; simp
    · right
      rw [if_neg (by omega)]
      refine ⟨b, o + r * z, by simp [add_mk], hZ, fun j u hu => ?_⟩
      rw [List.getElem?_take] at hu
      split at hu
      · rw [List.getElem?_drop] at hu
        rw [Nat.add_assoc]; exact hcs _ u hu
      · cases hu
theorem argT1_rep {e1 : Env} {ρ V : List Nat} {H : Nat → Option TV} (hE : ArgEnv P e e1 ρ V H) {t t' : TV} {v : Value} {F : Foot} (hr : Rep P e t v F) (hF : Emp F) (ht : argT1 H ρ t = some t') (hV : ∀ i ∈ views1 ρ t, i ∈ V) : Rep P e1 t' v noF := by
  have low : ∀ {x : TV} {Z : Nat → Prop}, Rep P ⟨e.w, Z, e.N, e.η⟩ x v noF → (∀ b, Z b → e1.Z b) → noH x = true → Rep P e1 x v noF := by
    intro x Z hx hZ hn
    exact Rep.keep2 (nh := true) (nr := false) x hx (fun _ => hn) (fun y => (by cases y)) ⟨fun _ b y => hZ b y, (fun y => by cases y), fun _ b _ => (by rw [hE.w]), fun b m y => y.elim⟩
  unfold argT1 at ht
  split at ht
  · rename_i i
    simp only [Rep] at hr
    obtain ⟨_, hlt, rfl, h1⟩ := hr
    split at ht
    · rename_i k hk
      cases ht
      obtain ⟨h2, h3⟩ := findIdx_get hk
      simp only [Rep]
      exact ⟨emp_noF, by rw [hE.N]; exact h3, (hE.η k i h2).symm, h1⟩
    · rename_i hk
      split at ht
      · rename_i t0 hi
        split at ht
        · rename_i hn
          cases ht
          exact low (hE.view i t0 (hV i (by simp [views1, hk])) hi) (fun b y => y) hn
        · cases ht
      · cases ht
  · rename_i i z r c
    split at ht
    · rename_i k hk
      cases ht
      obtain ⟨h2, h3⟩ := findIdx_get hk
      simp only [Rep] at hr ⊢
      obtain ⟨_, hlt, b, hb, rfl⟩ := hr
      exact ⟨emp_noF, by rw [hE.N]; exact h3, b, by rw [hE.η k i h2]; exact hb, rfl⟩
    · cases ht
  · rename_i i z r n
    simp only [Rep] at hr
    obtain ⟨_, hlt, hv⟩ := hr
    split at ht
    · rename_i E rows hi
      split at ht
      · rename_i hc
        cases ht
        obtain ⟨hz, hn, hk⟩ := hc
        have h0 := hE.view i _ (hV i (by simp [views1, hk])) hi
        simp only [toRo] at h0
        have h2 := ro_piece h0 (by rw [roRows_eq]; intro q hq; obtain ⟨q0, hq0, rfl⟩ := List.mem_map.1 hq; rw [length_roL]; exact hz q0 hq0) hv
        have e0 : ((roRows rows).drop r).take n = roRows ((rows.drop r).take n) := by rw [roRows_eq, roRows_eq]; simp
        rw [e0] at h2
        exact low h2 (fun b y => y) (by simpa [noH] using hn)
      · cases ht
    · cases ht
  · cases ht
    exact nil_case (t := .any) hr
  · split at ht
    · rename_i hn
      cases ht
      exact low (Z := e.Z) (hr.toN hF) hE.Z hn
    · cases ht
theorem argTL_rep {e1 : Env} {ρ V : List Nat} {H : Nat → Option TV} (hE : ArgEnv P e e1 ρ V H) : ∀ {ts ts' : List TV} {vs : List Value} {F : Foot}, RepL P e ts vs F → Emp F → argTL H ρ ts = some ts' → (∀ i ∈ ts.flatMap (views1 ρ), i ∈ V) → RepL P e1 ts' vs noF
  | [], ts', vs, F, hr, hF, ht, hV => by
    simp only [argTL] at ht; cases ht
    simp only [RepL] at hr ⊢; exact ⟨hr.1, emp_noF⟩
  | t :: ts, ts', vs, F, hr, hF, ht, hV => by
    simp only [RepL] at hr
    obtain ⟨v, vs', F1, F2, rfl, h1, h2, hs⟩ := hr
    unfold argTL at ht
    split at ht
    · rename_i r rs hr1 hr2
      cases ht
      simp only [RepL]
      refine ⟨v, vs', noF, noF, rfl, argT1_rep hE h1 (hF.sub hs.l) hr1 (fun i hi => hV i (by simp [hi])), argTL_rep hE h2 (hF.sub hs.r) hr2 (fun i hi => hV i ?_), .of_emp emp_noF emp_noF emp_noF⟩
      simp only [List.flatMap_cons, List.mem_append]; exact .inr hi
    · cases ht
theorem argT_rep {e1 : Env} {ρ V : List Nat} {H : Nat → Option TV} (hE : ArgEnv P e e1 ρ V H) {t t' : TV} {v : Value} {F : Foot} (hr : Rep P e t v F) (hF : Emp F) (ht : argT H ρ t = some t') (hV : ∀ i ∈ viewsT ρ t, i ∈ V) : Rep P e1 t' v noF := by
  unfold argT at ht
  split at ht
  · rename_i cs
    split at ht
    · rename_i r hr1
      cases ht
      simp only [Rep] at hr ⊢
      obtain ⟨vs, rfl, hl, h1⟩ := hr
      exact ⟨vs, rfl, argTL_rep hE hl hF hr1 hV, h1⟩
    · cases ht
  · rename_i hne
    refine argT1_rep hE hr hF ht (fun i hi => hV i ?_)
    cases t <;> first | exact hi | exact (hne _ rfl).elim
theorem argsT_rep {e1 : Env} {ρ V : List Nat} {H : Nat → Option TV} (hE : ArgEnv P e e1 ρ V H) : ∀ {xs : List Operand} {ts' : List TV}, (∀ x, Rep P e (opV n s x) (a.eval x) noF) → argsT H ρ (xs.map (opV n s)) = some ts' → (∀ i ∈ (xs.map (opV n s)).flatMap (viewsT ρ), i ∈ V) → RepL P e1 ts' (xs.map a.eval) noF
  | [], ts', hop, ht, hV => by
    simp only [List.map_nil, argsT] at ht; cases ht
    simp only [List.map_nil, RepL]; exact ⟨trivial, emp_noF⟩
  | x :: xs, ts', hop, ht, hV => by
    simp only [List.map_cons] at ht hV ⊢
    unfold argsT at ht
    split at ht
    · rename_i r rs hr1 hr2
      cases ht
      simp only [RepL]
      refine ⟨a.eval x, xs.map a.eval, noF, noF, rfl, argT_rep hE (hop x) emp_noF hr1 (fun i hi => hV i (by simp [hi])), argsT_rep hE hop hr2 (fun i hi => hV i ?_), .of_emp emp_noF emp_noF emp_noF⟩
      simp only [List.flatMap_cons, List.mem_append]; exact .inr hi
    · cases ht
theorem map_some_get : ∀ {ρ : List Nat} {H : Nat → Option TV} {objs : List TV}, ρ.map H = objs.map some → ρ.length = objs.length ∧ ∀ i ∈ ρ, ∃ t, H i = some t
  | [], H, objs, h => by
    have : objs = [] := by simpa using h.symm
    subst this; simp
  | i :: ρ, H, [], h => by simp at h
  | i :: ρ, H, t :: objs, h => by
    simp only [List.map_cons, List.cons.injEq] at h
    obtain ⟨h1, h2⟩ := map_some_get h.2
    refine ⟨by simp [h1], fun j hj => ?_⟩
    rcases List.mem_cons.1 hj with rfl | hj
    · exact ⟨t, h.1⟩
    · exact h2 j hj
/-- Values, each as it reads. -/
def RepAll (P : Program) (e : Env) (ts : List TV) (vs : List Value) : Prop := vs.length = ts.length ∧ ∀ (i : Nat) (t : TV) (v : Value), ts[i]? = some t → vs[i]? = some v → Rep P e t v noF
theorem RepAll.cons {t : TV} {v : Value} {ts : List TV} {vs : List Value} (h1 : Rep P e t v noF) (h2 : RepAll P e ts vs) : RepAll P e (t :: ts) (v :: vs) := by
  refine ⟨by simp [h2.1], fun i t' v' ht hv => ?_⟩
  cases i with
  | zero => simp at ht hv; subst ht hv; exact h1
  | succ i => exact h2.2 i t' v' (by simpa using ht) (by simpa using hv)
theorem RepAll.nil : RepAll P e [] [] := ⟨rfl, fun i t v h => by simp at h⟩
theorem RepAll.tail {t : TV} {ts : List TV} {vs : List Value} (h : RepAll P e (t :: ts) vs) : ∃ v vs', vs = v :: vs' ∧ Rep P e t v noF ∧ RepAll P e ts vs' := by
  cases vs with
  | nil => simp [RepAll] at h
  | cons v vs' => exact ⟨v, vs', rfl, h.2 0 t v (by simp) (by simp), by have := h.1; simpa using this, fun i t' v' ht hv => h.2 (i + 1) t' v' (by simpa using ht) (by simpa using hv)⟩
theorem RepAll.append : ∀ {ts ts' : List TV} {vs vs' : List Value}, RepAll P e ts vs → RepAll P e ts' vs' → RepAll P e (ts ++ ts') (vs ++ vs')
  | [], ts', vs, vs', h, h' => by
    have : vs = [] := List.eq_nil_of_length_eq_zero (by simpa using h.1)
    subst this; simpa using h'
  | t :: ts, ts', vs, vs', h, h' => by
    obtain ⟨v, vs1, rfl, h1, h2⟩ := h.tail
    exact RepAll.cons h1 (RepAll.append h2 h')
theorem RepAll.ops {xs : List Operand} (hop : ∀ x, Rep P e (opV n s x) (a.eval x) noF) : RepAll P e (xs.map (opV n s)) (xs.map a.eval) := by
  induction xs with
  | nil => exact .nil
  | cons x xs ih => exact .cons (hop x) ih
theorem RepAll.ofL : ∀ {ts : List TV} {vs : List Value} {F : Foot}, RepL P e ts vs F → Emp F → RepAll P e ts vs
  | [], vs, F, h, hE => by simp only [RepL] at h; rw [h.1]; exact .nil
  | t :: ts, vs, F, h, hE => by
    simp only [RepL] at h
    obtain ⟨v, vs', F1, F2, rfl, h1, h2, hs⟩ := h
    exact .cons (h1.toN (hE.sub hs.l)) (RepAll.ofL h2 (hE.sub hs.r))
theorem argsT_repG {e1 : Env} {ρ V : List Nat} {H : Nat → Option TV} (hE : ArgEnv P e e1 ρ V H) : ∀ {ts ts' : List TV} {vs : List Value}, RepAll P e ts vs → argsT H ρ ts = some ts' → (∀ i ∈ ts.flatMap (viewsT ρ), i ∈ V) → RepL P e1 ts' vs noF
  | [], ts', vs, h, ht, hV => by
    have : vs = [] := List.eq_nil_of_length_eq_zero (by simpa using h.1)
    subst this
    simp only [argsT] at ht; cases ht; simp only [RepL]; exact ⟨trivial, emp_noF⟩
  | t :: ts, ts', vs, h, ht, hV => by
    obtain ⟨v, vs1, rfl, h1, h2⟩ := h.tail
    simp only [argsT] at ht
    split at ht
    · rename_i r rs h3 h4
      cases ht
      simp only [RepL]
      exact ⟨v, vs1, noF, noF, rfl, argT_rep hE h1 emp_noF h3 (fun i hi => hV i (by simp [hi])), argsT_repG hE h2 h4 (fun i hi => hV i (by simp only [List.flatMap_cons, List.mem_append]; exact .inr hi)), .of_emp emp_noF emp_noF emp_noF⟩
    · cases ht
theorem call_coreG {f : FuncId} {ts : List TV} {ρ : List Nat} {args objs : List TV} {R : TV → List TV → Prop}
    (hargs : argsT s.H ρ ts = some args) (hobj : ρ.map s.H = objs.map some) (hρ : ρ.Nodup) (hnh : noHL objs = true)
    (hTC : TCR P f args objs R) (hRR : ∀ res objs', R res objs' → objs'.all isObjA = true ∧ noHL (res :: objs') = true ∧ (ts.flatMap (viewsT ρ) = [] ∨ noRoL (res :: objs') = true) ∧
      ∀ k, (∀ j, k ≤ j → s.H j = none) → K (St.put ⟨s.σ, updL (setObjs s.H ρ objs') k (opn k res).2⟩ o.dst (opn k res).1)) {C : Ctx} {a : Act} {e : Env} {FH : Nat → Foot} (hn : a.tmps.size = n) (hX : RelX P C s a e FH) {vals : List Value} (hvals : RepAll P e ts vals) (hrun : (execOp a.eval o).run P e.w = .ok (.enter f vals.toArray) e.w)
    {J : Act → World → Prop} {Q : Exit → Act → World → Prop} (hkk : ∀ a' w' s', K s' → Rel P C n s' a' w' → (ρ = [] → RelV P C n s' a' w' e FH) → J a' w') : o.wp P a e.w J Q := by
  obtain ⟨hρl, hρs⟩ := map_some_get hobj
  generalize hVV : ts.flatMap (viewsT ρ) = V at *
  unfold Oper.wp
  rw [hrun]
  rw [Oper.upon_enter]
  -- the callee's side
  let Zc : Nat → Prop := fun b => e.Z b ∨ ∃ i ∈ V, i ∉ ρ ∧ ∃ m, FH i b m
  let F : Foot := fun b m => ∃ i ∈ ρ, FH i b m
  let ηρ : Nat → Value := fun k => e.η (ρ.getD k 0)
  have hE : ArgEnv P e ⟨e.w, Zc, objs.length, ηρ⟩ (ρ := ρ) (V := V.filter (fun i => !ρ.contains i)) s.H := by
    refine ⟨rfl, hρl.symm, fun k i hk => ?_, fun b hb => .inl hb, fun i t hi ht => ?_⟩
    · show e.η (ρ.getD k 0) = _
      rw [List.getD_eq_getElem?_getD, hk]; rfl
    · simp only [List.mem_filter, Bool.not_eq_true', List.contains_eq_mem, decide_eq_false_iff_not] at hi
      exact Rep.frz t (hX.objs i t ht) ⟨rfl, Nat.le_refl _, fun _ _ => rfl, fun b hb => .inl hb, fun b m hb => .inr ⟨i, hi.1, hi.2, m, hb⟩⟩
  have hVf : ∀ i ∈ ts.flatMap (viewsT ρ), i ∈ V.filter (fun i => !ρ.contains i) := by
    intro i hi
    rw [hVV] at hi
    simp only [List.mem_filter, Bool.not_eq_true', List.contains_eq_mem, decide_eq_false_iff_not]
    refine ⟨hi, fun hmem => ?_⟩
    have hv1 : ∀ {t : TV}, i ∈ views1 ρ t → False := by
      intro t ht
      unfold views1 at ht
      split at ht
      · rename_i j
        split at ht
        · cases ht
        · rename_i hnone
          have : i = j := by simpa using ht
          subst this
          rw [Option.not_isSome_iff_eq_none, List.findIdx?_eq_none_iff] at hnone
          have := hnone i hmem
          simp at this
      · rename_i j _ _ _
        split at ht
        · cases ht
        · rename_i hnone
          have : i = j := by simpa using ht
          subst this
          rw [Option.not_isSome_iff_eq_none, List.findIdx?_eq_none_iff] at hnone
          have := hnone i hmem
          simp at this
      · cases ht
    rw [← hVV] at hi
    obtain ⟨t, _, ht⟩ := List.mem_flatMap.1 hi
    unfold viewsT at ht
    split at ht
    · obtain ⟨t', _, ht'⟩ := List.mem_flatMap.1 ht
      exact hv1 ht'
    · exact hv1 ht
  have hargsR := argsT_repG hE hvals hargs hVf
  have hobjsR : RepL P ⟨e.w, Zc, objs.length, ηρ⟩ objs (ηs objs.length ηρ) F := by
    have h1 : ∀ (l : List Nat) (os : List TV), l.map s.H = os.map some → l.Nodup → RepL P e os (l.map e.η) (fun b m => ∃ i ∈ l, FH i b m) := by
      intro l
      induction l with
      | nil =>
        intro os hos _
        have : os = [] := by simpa using hos.symm
        subst this
        simp only [List.map_nil, RepL]; exact ⟨trivial, fun b m ⟨i, hi, _⟩ => by cases hi⟩
      | cons i l ih =>
        intro os hos hnd
        cases os with
        | nil => simp at hos
        | cons t os =>
          simp only [List.map_cons, List.cons.injEq] at hos
          obtain ⟨hni, hnd'⟩ := List.nodup_cons.1 hnd
          simp only [List.map_cons, RepL]
          refine ⟨e.η i, l.map e.η, FH i, _, rfl, hX.objs i t hos.1, ih os hos.2 hnd', ⟨fun b m => by simp, ?_⟩⟩
          rintro b m m' hb ⟨j, hj, hb'⟩
          have := hX.one i j b m m' hb hb'
          subst this; exact hni hj
    have h2 := h1 ρ objs hobj hρ
    have h3 : ρ.map e.η = ηs objs.length ηρ := by
      apply List.ext_getElem?
      intro j
      simp only [ηs, List.getElem?_map]
      by_cases hj : j < ρ.length
      · rw [List.getElem?_range (by omega), List.getElem?_eq_getElem hj]
        simp [ηρ, List.getD_eq_getElem?_getD, List.getElem?_eq_getElem hj]
      · rw [List.getElem?_eq_none (by omega), List.getElem?_eq_none (by simp; omega)]; rfl
    rw [← h3]
    exact RepL.keep2 (nh := true) (nr := false) _ h2 (fun _ => hnh) (fun x => (by cases x)) ⟨fun _ b hb => .inl hb, (fun x => by cases x), fun _ _ _ => rfl, fun _ _ _ => rfl⟩
  have hcall := hTC e.w Zc ηρ F vals hargsR hobjsR (fun b hb => by
    rcases hb with hb | ⟨i, _, _, m, hm⟩
    · exact hX.ltZ b hb
    · exact hX.ltF i b m hm) (fun b m ⟨i, hi, hm⟩ => ⟨fun hz => by
    rcases hz with hz | ⟨j, _, hj, m', hm'⟩
    · exact hX.notZ i b m hm hz
    · have := hX.one i j b m m' hm hm'
      subst this; exact hj hi, hX.ltF i b m hm⟩) (hX.laid.1.mono (fun b hb => .inl (hX.Z0 b hb)) hX.size fun b hb hz => hX.same b hb fun m hm => hX.laid.2 b m hm hz)
  refine hcall.mono ?_
  rintro x w' ⟨res, objs', hR0, v, Z', F', rfl, hres, hg, hZ1, hZ2, hZ3, hF'⟩
  obtain ⟨hk, hnr, hv, h⟩ := hRR res objs' hR0
  -- what is known behind the call
  obtain ⟨H1, hH1, hX1⟩ := hX.dropL ρ
  have hXb : ∀ b, (∃ m, F b m) → ¬ e.Z b ∧ (∀ i m, ¬ (if i ∈ ρ then noF else FH i) b m) ∧ ((∃ m', C.F b m') ∨ C.w.heap.size ≤ b) := by
    rintro b ⟨m, i, hi, hm⟩
    refine ⟨hX.notZ i b m hm, fun j m' hj => ?_, hX.Ffrom i b m hm⟩
    by_cases e1 : j ∈ ρ
    · simp [e1] at hj; exact hj
    · simp [e1] at hj
      have := hX.one i j b m m' hm hj
      subst this; exact e1 hi
  -- the new Z
  have hZn : ∃ Zn : Nat → Prop, (∀ b, e.Z b → Zn b) ∧ (∀ b, Zn b → e.Z b ∨ (∃ m, F b m) ∨ e.w.heap.size ≤ b) ∧ (∀ b, Zn b → Z' b) ∧ RepL P ⟨w', Zn, objs.length, ηρ⟩ (res :: objs') (v :: ηs objs.length ηρ) F' := by
    rcases hv with hv | hv
    · refine ⟨Z', fun b hb => hZ1 b (.inl hb), fun b hb => ?_, fun b hb => hb, hres⟩
      rcases hZ3 b hb with h1 | h1 | h1
      · rcases h1 with h1 | ⟨i, hi, _⟩
        · exact .inl h1
        · rw [hv] at hi; cases hi
      · exact .inr (.inl h1)
      · exact .inr (.inr h1)
    · refine ⟨e.Z, fun b hb => hb, fun b hb => .inl hb, fun b hb => hZ1 b (.inl hb), ?_⟩
      exact RepL.keep2 (nh := false) (nr := true) _ hres (fun x => (by cases x)) (fun _ => hv) ⟨(fun x => by cases x), fun _ => ⟨Nat.le_refl _, fun _ _ => rfl⟩, (fun x => by cases x), fun _ _ _ => rfl⟩
  obtain ⟨Zn, z1, z2, z3, hres2⟩ := hZn
  have hX2 := hX1.world (Z' := Zn) hg hXb z1 z2 (fun b hb => hZ2 b (z3 b hb))
  simp only [RepL] at hres2
  obtain ⟨v0, vs0, Fr, Fo, hveq, hresR, hobjR, hsp⟩ := hres2
  injection hveq with hv1 hv2
  subst hv1 hv2
  simp only [noHL, Bool.and_eq_true] at hnr
  -- names for the result's parts
  obtain ⟨hvs, hvl, hopn⟩ := opn_rep res e.N hresR hnr.1
  obtain ⟨η2, hX3, hη1, hη2⟩ := hX2.names hvs
  have hside : ∀ b m, F' b m → ¬ Zn b ∧ b < w'.heap.size ∧ (∀ j m', ¬ (if j ∈ ρ then noF else FH j) b m') ∧ ((∃ m', C.F b m') ∨ C.w.heap.size ≤ b) := by
    intro b m hb
    obtain ⟨h1, h2, h3⟩ := hF' b m hb
    refine ⟨fun hz => h2 (z3 b hz), h3, ?_, ?_⟩
    · intro j m' hj
      rcases h1 with ⟨m2, hm2⟩ | hge
      · exact (hXb b ⟨m2, hm2⟩).2.1 j m' hj
      · by_cases e1 : j ∈ ρ
        · simp [e1] at hj; exact hj
        · simp [e1] at hj
          have := hX.ltF j b m' hj; omega
    · rcases h1 with ⟨m2, hm2⟩ | hge
      · exact (hXb b ⟨m2, hm2⟩).2.2
      · exact .inr (Nat.le_trans hX.size hge)
  -- the lent objects come back
  have hobj2 : RepL P ⟨w', Zn, e.N + hvs.length, η2⟩ objs' (ρ.map η2) Fo := by
    have h3 : ηs objs.length ηρ = ρ.map η2 := by
      apply List.ext_getElem?
      intro j
      simp only [ηs, List.getElem?_map]
      by_cases hj : j < ρ.length
      · rw [List.getElem?_range (by omega), List.getElem?_eq_getElem hj]
        obtain ⟨t, ht⟩ := hρs ρ[j] (List.getElem_mem hj)
        simp [ηρ, List.getD_eq_getElem?_getD, List.getElem?_eq_getElem hj, hη1 _ (hX.hdlt ht)]
      · rw [List.getElem?_eq_none (by simp; omega), List.getElem?_eq_none (by omega)]; rfl
    rw [← h3]
    exact RepL.keep2 (nh := true) (nr := false) _ hobjR (fun _ => hnr.2) (fun x => (by cases x)) ⟨fun _ b hb => hb, (fun x => by cases x), fun _ _ _ => rfl, fun _ _ _ => rfl⟩
  obtain ⟨FH4, hX4, hF4, hF4'⟩ := hX3.addL objs' ρ hobj2 hρ (fun i hi => by
    obtain ⟨t, ht⟩ := hρs i hi
    exact ⟨Nat.lt_of_lt_of_le (hX.hdlt ht) (Nat.le_add_right _ _), by show H1 i = none; rw [hH1]; simp [hi]⟩) hk (fun b m hb => hside b m (hsp.r b m hb))
  -- and the result's parts
  obtain ⟨hslot, hparts⟩ := hopn ⟨w', Zn, e.N + hvs.length, η2⟩ rfl (fun b hb => hb) hη2 (Nat.le_refl _)
  have hparts' : RepL P ⟨w', Zn, e.N + hvs.length, η2⟩ (opn e.N res).2 ((List.range' e.N (opn e.N res).2.length).map η2) Fr := by
    have : (List.range' e.N (opn e.N res).2.length).map η2 = hvs := by
      apply List.ext_getElem?
      intro j
      rw [List.getElem?_map]
      by_cases hj : j < hvs.length
      · rw [List.getElem?_range' (by omega)]
        simp only [Option.map_some, Nat.one_mul]
        rw [List.getElem?_eq_getElem hj, hη2 j _ (List.getElem?_eq_getElem hj)]
      · rw [List.getElem?_eq_none (by simp; omega), List.getElem?_eq_none (by omega)]; rfl
    rw [this]; exact hparts
  have hset : ∀ (H : Nat → Option TV) (is : List Nat) (ts : List TV) (j : Nat), j ∉ is → setObjs H is ts j = H j := by
    intro H is
    induction is generalizing H with
    | nil => intro ts j _; simp [setObjs]
    | cons i is ih =>
      intro ts j hj
      simp only [List.mem_cons, not_or] at hj
      cases ts with
      | nil => simp [setObjs]
      | cons t ts =>
        cases t <;> (simp only [setObjs]; rw [ih _ _ _ hj.2]; simp [del, upd, hj.1])
  obtain ⟨FH5, hX5, hF5, hF5'⟩ := hX4.addL (opn e.N res).2 (List.range' e.N (opn e.N res).2.length) hparts' List.nodup_range' (fun i hi => by
    rw [List.mem_range'_1] at hi
    refine ⟨by show i < e.N + hvs.length; omega, ?_⟩
    show setObjs H1 ρ objs' i = none
    rw [hset H1 ρ objs' i (fun hm => by obtain ⟨t, ht⟩ := hρs i hm; have := hX.hdlt ht; omega), hH1]
    split
    · rfl
    · exact hX.top i (by omega)) (by
    rw [List.all_eq_true]; intro t ht
    have := opn_kind res e.N t ht
    cases t <;> first | rfl | cases this) (fun b m hb => by
    obtain ⟨q1, q2, q3, q4⟩ := hside b m (hsp.l b m hb)
    refine ⟨q1, q2, fun j m' hj => ?_, q4⟩
    rcases hF4 j b m' hj with h1 | h1
    · exact q3 j m' h1
    · exact hsp.dis b m m' hb h1)
  rw [setObjs_range _ _ _ (opn_kind res e.N)] at hX5
  have hH : setObjs H1 ρ objs' = setObjs s.H ρ objs' := by
    have : ∀ (is : List Nat) (ts : List TV) (A B : Nat → Option TV), is.length = ts.length → (∀ j, j ∉ is → A j = B j) → setObjs A is ts = setObjs B is ts := by
      intro is
      induction is with
      | nil => intro ts A B hl hAB; simp only [setObjs]; funext j; exact hAB j (by simp)
      | cons i is ih =>
        intro ts A B hl hAB
        cases ts with
        | nil => simp at hl
        | cons t ts =>
          cases t <;> (simp only [setObjs]; refine ih _ _ _ (by simpa using hl) fun j hj => ?_; by_cases e1 : j = i <;> simp [del, upd, e1]; exact hAB j (by simp [e1, hj]))
    refine this ρ objs' H1 s.H ?_ (fun j hj => by rw [hH1]; simp [hj])
    have := hobjR.len
    simp [ηs] at this; omega
  simp only [hH] at hX5
  refine hkk _ _ _ (h e.N hX.top) (Rel.put hn hX5 o.dst hslot) fun hρ0 => RelV.put hn hX5 ?_ o.dst hslot
  subst hρ0
  have hF0 : ∀ b m, ¬ F b m := fun b m ⟨i, hi, _⟩ => by cases hi
  refine ⟨hX.ltF, hg.size, fun b o' u hb _ hc => by rw [cell_same (hg.block b hb fun ⟨m, hm⟩ => hF0 b m hm)]; exact hc, fun i b m hi => ?_, fun i b m hi => .inl ⟨i, m, hF5' i b m (fun hm => ?_) (hF4' i b m (by simp) (by simpa using hi)), Nat.le_refl _⟩⟩
  · have big : ∀ b m, F' b m → e.w.heap.size ≤ b := fun b m hb => (hF' b m hb).1.elim (fun ⟨m', hm'⟩ => (hF0 b m' hm').elim) (fun x => x)
    rcases hF5 i b m hi with h1 | h1
    · rcases hF4 i b m h1 with h2 | h2
      · exact .inr ⟨i, m, by simpa using h2⟩
      · exact .inl (big b m (hsp.r b m h2))
    · exact .inl (big b m (hsp.l b m h1))
  · rw [List.mem_range'_1] at hm
    exact hX.none_ i (hX.top i hm.1) b m hi
theorem call_coreR {f : FuncId} {xs : Array Operand} {tys : Array TypeId} {ρ : List Nat} {args objs : List TV} {R : TV → List TV → Prop}
    (ho : o.op = .call { callee := .value (.func f), args := xs, argTypes := tys }) (hf : callable P f = true) (hargs : argsT s.H ρ (xs.toList.map (opV n s)) = some args) (hobj : ρ.map s.H = objs.map some) (hρ : ρ.Nodup) (hnh : noHL objs = true)
    (hTC : TCR P f args objs R) (hRR : ∀ res objs', R res objs' → objs'.all isObjA = true ∧ noHL (res :: objs') = true ∧ ((xs.toList.map (opV n s)).flatMap (viewsT ρ) = [] ∨ noRoL (res :: objs') = true) ∧
      ∀ k, (∀ j, k ≤ j → s.H j = none) → K (St.put ⟨s.σ, updL (setObjs s.H ρ objs') k (opn k res).2⟩ o.dst (opn k res).1)) {C : Ctx} {a : Act} {e : Env} {FH : Nat → Foot} (hn : a.tmps.size = n) (hX : RelX P C s a e FH)
    {J : Act → World → Prop} {Q : Exit → Act → World → Prop} (hkk : ∀ a' w' s', K s' → Rel P C n s' a' w' → (ρ = [] → RelV P C n s' a' w' e FH) → J a' w') : o.wp P a e.w J Q := by
  refine call_coreG (ts := xs.toList.map (opV n s)) hargs hobj hρ hnh hTC hRR hn hX (vals := xs.toList.map a.eval) (RepAll.ops (opV_rep hX hn)) ?_ hkk
  unfold execOp
  rw [ho]
  simp only [resolve, Act.eval, Deferred.ofValue, Sem.run_bind, Sem.run_pure, Result.andThen_ok, invoke, run_callFunc hf, Array.append_empty, Array.empty_append]
  rw [← Array.toList_map, Array.toArray_toList]
theorem call_core {f : FuncId} {xs : Array Operand} {tys : Array TypeId} {ρ : List Nat} {args objs objs' : List TV} {res : TV}
    (ho : o.op = .call { callee := .value (.func f), args := xs, argTypes := tys }) (hf : callable P f = true) (hargs : argsT s.H ρ (xs.toList.map (opV n s)) = some args) (hobj : ρ.map s.H = objs.map some) (hρ : ρ.Nodup) (hnh : noHL objs = true)
    (hTC : TC P f args objs res objs') (hk : objs'.all isObjA = true) (hnr : noHL (res :: objs') = true) (hv : (xs.toList.map (opV n s)).flatMap (viewsT ρ) = [] ∨ noRoL (res :: objs') = true)
    (h : ∀ k, (∀ j, k ≤ j → s.H j = none) → K (St.put ⟨s.σ, updL (setObjs s.H ρ objs') k (opn k res).2⟩ o.dst (opn k res).1)) {C : Ctx} {a : Act} {e : Env} {FH : Nat → Foot} (hn : a.tmps.size = n) (hX : RelX P C s a e FH)
    {J : Act → World → Prop} {Q : Exit → Act → World → Prop} (hkk : ∀ a' w' s', K s' → Rel P C n s' a' w' → (ρ = [] → RelV P C n s' a' w' e FH) → J a' w') : o.wp P a e.w J Q :=
  call_coreR ho hf hargs hobj hρ hnh (hTC.toR (R := fun r o => r = res ∧ o = objs') ⟨rfl, rfl⟩) (fun r o hro => by obtain ⟨rfl, rfl⟩ := hro; exact ⟨hk, hnr, hv, h⟩) hn hX hkk
theorem TWo.call {f : FuncId} {xs : Array Operand} {tys : Array TypeId} {ρ : List Nat} {args objs objs' : List TV} {res : TV}
    (ho : o.op = .call { callee := .value (.func f), args := xs, argTypes := tys }) (hf : callable P f = true) (hargs : argsT s.H ρ (xs.toList.map (opV n s)) = some args) (hobj : ρ.map s.H = objs.map some) (hρ : ρ.Nodup) (hnh : noHL objs = true)
    (hTC : TC P f args objs res objs') (hk : objs'.all isObjA = true) (hnr : noHL (res :: objs') = true) (hv : (xs.toList.map (opV n s)).flatMap (viewsT ρ) = [] ∨ noRoL (res :: objs') = true)
    (h : ∀ k, (∀ j, k ≤ j → s.H j = none) → K (St.put ⟨s.σ, updL (setObjs s.H ρ objs') k (opn k res).2⟩ o.dst (opn k res).1)) : TWo P n o K s := fun C a w J Q hr hkk => by
  obtain ⟨hn, e, FH, rfl, hX⟩ := hr
  exact call_core ho hf hargs hobj hρ hnh hTC hk hnr hv h hn hX fun a' w' s' h1 h2 _ => hkk a' w' s' h1 h2
/-- A call that lends nothing. -/
theorem TWq.call {f : FuncId} {xs : Array Operand} {tys : Array TypeId} {args : List TV} {res : TV}
    (ho : o.op = .call { callee := .value (.func f), args := xs, argTypes := tys }) (hf : callable P f = true) (hargs : argsT s.H [] (xs.toList.map (opV n s)) = some args)
    (hTC : TC P f args [] res []) (hnr : noH res = true) (hv : (xs.toList.map (opV n s)).flatMap (viewsT []) = [] ∨ noRo res = true)
    (h : ∀ k, (∀ j, k ≤ j → s.H j = none) → K (St.put ⟨s.σ, updL s.H k (opn k res).2⟩ o.dst (opn k res).1)) : TWq P n o K s := fun C a e FH hn hX J Q hj =>
  call_core (ρ := []) ho hf hargs rfl List.nodup_nil rfl hTC rfl (by simp [noHL, hnr]) (hv.imp (fun x => x) (fun x => by simp [noRoL, x])) (by simpa [setObjs] using h) hn hX fun a' w' s' h1 _ h2 => hj a' w' s' h1 (h2 rfl)
end
end Go.Proofs.YtdomnlnanbekaaaGreatDoor.T

namespace Go.Proofs.YtdomnlnanbekaaaGreatDoor.T
set_option linter.unusedVariables false
set_option linter.unusedSimpArgs false
open Go.RowKit


theorem ok {α : Sort _} {a b : α} (h : a = b) : a = b := h
/-- A tag whose type names something: what it names the rewriting leaves alone. -/
inductive Hd {α : Sort _} (a : α) : Type
  | mk
/-- One way or the other; the rewriting looks at the condition alone. -/
def gif (c A B : Prop) (_ : Hd A) (_ : Hd B) : Prop := (c ∧ A) ∨ (¬ c ∧ B)
section
variable {c A B C : Prop} {hA : Hd A} {hB : Hd B}
theorem gif_pos (h : c) : gif c A B hA hB = A := by simp [gif, h]
theorem gif_neg (h : ¬ c) : gif c A B hA hB = B := by simp [gif, h]
@[simp] theorem gif_true : gif True A B hA hB = A := gif_pos trivial
@[simp] theorem gif_false : gif False A B hA hB = B := gif_neg id
theorem gif_intro (h : c → A) (h' : ¬ c → B) : gif c A B hA hB := (Classical.em c).elim (fun x => .inl ⟨x, h x⟩) fun x => .inr ⟨x, h' x⟩
end
/-- What an operation answers, told without looking further. -/
def gpv (x : Option TV) (A : TV → Prop) (B : Prop) (_ : Hd A) (_ : Hd B) : Prop := match x with
  | some r => A r
  | none => B
section
variable {r : TV} {A : TV → Prop} {B : Prop} {hA : Hd A} {hB : Hd B}
@[simp] theorem gpv_some : gpv (some r) A B hA hB = A r := ok rfl
@[simp] theorem gpv_none : gpv none A B hA hB = B := ok rfl
@[simp] theorem gpv_ite {c : Prop} [Decidable c] {x y : Option TV} : gpv (if c then x else y) A B hA hB = gif c (gpv x A B hA hB) (gpv y A B hA hB) .mk .mk := by
  by_cases h : c <;> simp [h, gif]
end
/-- Whether an operation is wanted, told without looking further. -/
def ggd (x : Option Bool) (A B C : Prop) (_ : Hd A) (_ : Hd B) (_ : Hd C) : Prop := match x with
  | some b => gif (b = true) A B .mk .mk
  | none => C
def gcd_ (x : TV) (A B C : Prop) (_ : Hd A) (_ : Hd B) (_ : Hd C) : Prop := match x with
  | .val (.bool b) => gif (b = true) A B .mk .mk
  | _ => C
section
variable {A B C : Prop} {hA : Hd A} {hB : Hd B} {hC : Hd C} {b : Bool}
@[simp] theorem ggd_some : ggd (some b) A B C hA hB hC = gif (b = true) A B .mk .mk := ok rfl
@[simp high] theorem ggd_not : ggd (some (!b)) A B C hA hB hC = gif (b = true) B A .mk .mk := by cases b <;> simp [ggd, gif]
@[simp high] theorem gcd_not : gcd_ (.val (.bool (!b))) A B C hA hB hC = gif (b = true) B A .mk .mk := by cases b <;> simp [gcd_, gif]
@[simp] theorem ggd_none : ggd none A B C hA hB hC = C := ok rfl
@[simp] theorem gcd_bool : gcd_ (.val (.bool b)) A B C hA hB hC = gif (b = true) A B .mk .mk := ok rfl
end
def TWoH (P : Program) (n : Nat) (o : Oper) (K : St → Prop) (_ : Hd K) (s : St) : Prop := TWo P n o K s
def TWqH (P : Program) (n : Nat) (o : Oper) (K : St → Prop) (_ : Hd K) (s : St) : Prop := TWq P n o K s
def TWlH (P : Program) (n : Nat) (ops : Array Oper) (l : List Oper) (K : St → Prop) (_ : Hd K) (s : St) : Prop := TWl P n ops l K s
def TWcH (P : Program) (n : Nat) (c : Code) (Q : Post) (_ : Hd Q) (s : St) : Prop := TWc P n c Q s
def gx {α : Type _} (x : Option α) (A : α → Prop) (_ : Hd A) : Prop := match x with
  | some a => A a
  | none => False
section
variable {α : Type _} {a : α} {A : α → Prop} {h : Hd A}
@[simp] theorem gx_some : gx (some a) A h = A a := rfl
@[simp] theorem gx_ite {c : Prop} [Decidable c] {x y : Option α} : gx (if c then x else y) A h = gif c (gx x A h) (gx y A h) .mk .mk := by
  by_cases h : c <;> simp [h, gif]
theorem gx_get {x : Option α} (hx : gx x A h) : ∃ a, x = some a ∧ A a := by
  cases x with
  | none => exact hx.elim
  | some a => exact ⟨a, rfl, hx⟩
end
/-- For each name that is free. -/
def gall (H : Nat → Option TV) (A : Nat → Prop) (_ : Hd A) : Prop := ∀ id, H id = none → A id
theorem gall_intro {H : Nat → Option TV} {A : Nat → Prop} {h : Hd A} (hx : ∀ id, H id = none → A id) : gall H A h := hx
/-- make, where it is covered: what kind, how many, and what each is at first. -/
def makeV (P : Program) (t : TypeId) (l c : TV) : Option (Nat × Nat × List TV) := match P.underlying t, l, c with
  | some (.slice E), .val (.int _ m), .val (.int _ m') => match zeroT P E with
    | some z => if 0 ≤ m ∧ m = m' ∧ z.all TV.pc = true ∧ z.length = szOf P E ∧ 0 < szOf P E ∧ (bytesT P E : Int) * m ≤ 281474976710656 ∧ m ≤ 9223372036854775807 then some (E, m.toNat, z) else none
    | none => none
  | _, _, _ => none
/-- append, where it is covered: what it is added to, and what is added. -/
def appV (P : Program) (s : St) (t : TypeId) (x y : TV) : Option (Option Nat × Nat × List (List TV) × List (List TV)) := match P.underlying t, rowsOf s y with
  | some (.slice E), some rows' => match zeroT P E with
    | some z => match x with
      | .hd id => match s.H id with
        | some (.own E' rows) => if E' = E ∧ z.length = szOf P E ∧ 0 < szOf P E ∧ (∀ r ∈ rows', r.length = szOf P E) ∧ (rows.length + rows'.length) * bytesT P E ≤ 140737488355328 ∧ rows.length + rows'.length ≤ 9223372036854775807 then some (some id, E, rows, rows') else none
        | _ => none
      | .val (.slice none 0 0) => if z.length = szOf P E ∧ 0 < szOf P E ∧ (∀ r ∈ rows', r.length = szOf P E) ∧ rows'.length * bytesT P E ≤ 140737488355328 ∧ rows'.length ≤ 9223372036854775807 then some (none, E, [], rows') else none
      | _ => none
    | none => none
  | _, _ => none
/-- A piece of an own row: appending to it is told by a rule of its own. -/
@[simp] def isSl : TV → Bool
  | .sl _ _ _ _ => true
  | _ => false
def bsV (P : Program) (n : Nat) (s : St) (t : TypeId) (len : Nat) (parts : List (Nat × Operand)) : Option (Nat × List (List TV)) := match P.underlying t with
  | some (.slice E) => match bsRows P n s E len parts with
    | some rows => some (E, rows)
    | none => none
  | _ => none
def inR (d : Option Tmp) (ρ : List Nat) : Prop := match d with
  | some d => d ∈ ρ
  | none => False
def delo (H : Nat → Option TV) : Option Nat → (Nat → Option TV)
  | some id => del H id
  | none => H
/-- What an operation of the same kind as that of the kit's rules does; all others are B. -/
def tlQ (P : Program) (n : Nat) (ρ : List Nat) (o : Oper) (K : St → Prop) (s : St) (B : Prop) (hB : Hd B) : Prop := match o.op with
  | .box E x => gx (cellsOf (opV n s x)) (fun xs => gif (inR o.dst ρ) (K (s.put o.dst (.rptr xs 0))) (gall s.H (fun id => K (St.put ⟨s.σ, upd s.H id (.box E xs)⟩ o.dst (.pd id 0 0 0))) .mk) .mk .mk) .mk
  | .alloc E => gx (zeroT P E) (fun z => gif (z.all TV.pc = true) (gall s.H (fun id => K (St.put ⟨s.σ, upd s.H id (.box E z)⟩ o.dst (.pd id 0 0 0))) .mk) False .mk .mk) .mk
  | .buildSlice t len parts => gx (bsV P n s t len parts.toList) (fun r => gif (inR o.dst ρ) (K (s.put o.dst (.ro r.2))) (gall s.H (fun id => K (St.put ⟨s.σ, upd s.H id (.own r.1 r.2)⟩ o.dst (.hd id))) .mk) .mk .mk) .mk
  | .makeSlice t l c => gx (makeV P t (opV n s l) (opV n s c)) (fun r => gall s.H (fun id => K (St.put ⟨s.σ, upd s.H id (.own r.1 (List.replicate r.2.1 r.2.2))⟩ o.dst (.hd id))) .mk) .mk
  | .call c => match c.callee, c.args.toList, c.argTypes.toList with
    | .builtin .append, [x, y], [t, t'] => gif (isSl (opV n s x) = true) B (gif (t = t') (gx (appV P s t (opV n s x) (opV n s y)) (fun r => gall s.H (fun id => K (St.put ⟨s.σ, upd (delo s.H r.1) id (.own r.2.1 (r.2.2.1 ++ r.2.2.2))⟩ o.dst (.hd id))) .mk) .mk) False .mk .mk) hB .mk
    | _, _, _ => B
  | _ => B
/-- An operation that is not pure. -/
def tlE (P : Program) (n : Nat) (ρ : List Nat) (last : Bool) (o : Oper) (K : St → Prop) (s : St) : Prop :=
  tlQ P n ρ o K s (match o.op, o.dst with
    | .store t p x, none => gif (last = true ∧ 0 < szOf P t) (gx (cellsOf (opV n s x)) (fun xs => gx (stoTV P s.H (opV n s p) (szOf P t) xs) (fun r => K ⟨s.σ, upd s.H r.1 r.2⟩) .mk) .mk) False .mk .mk
    | _, _ => gif (last = true) (TWoH P n o K .mk s) (TWqH P n o K .mk s) .mk .mk) .mk
section
variable {P : Program} {n : Nat} {ρ : List Nat} {o : Oper} {K : St → Prop} {s : St} {B : Prop} {hB : Hd B}
theorem gif_get {c A B : Prop} {hA : Hd A} {hB : Hd B} (h : gif c A B hA hB) : (c ∧ A) ∨ (¬ c ∧ B) := h
theorem gif_no {c A : Prop} {hA : Hd A} {hB : Hd False} (h : gif c A False hA hB) : c ∧ A := h.elim id (fun x => x.2.elim)
theorem tlQ_sound (h : tlQ P n ρ o K s B hB) : TWq P n o K s ∨ B := by
  unfold tlQ at h
  split at h
  · rename_i E x ho
    obtain ⟨xs, hx, h⟩ := gx_get h
    rcases gif_get h with ⟨_, h⟩ | ⟨_, h⟩
    · exact .inl (TWq.rbox ho hx h)
    · exact .inl (TWq.box ho hx h)
  · rename_i E ho
    obtain ⟨z, hz, h⟩ := gx_get h
    obtain ⟨hp, h⟩ := gif_no h
    exact .inl (TWq.alloc ho hz hp h)
  · rename_i t len parts ho
    obtain ⟨r, hr, h⟩ := gx_get h
    unfold bsV at hr
    split at hr
    · rename_i E ht
      split at hr
      · rename_i rows hx
        cases hr
        rcases gif_get h with ⟨_, h⟩ | ⟨_, h⟩
        · exact .inl (TWq.rbslice ho ht hx h)
        · exact .inl (TWq.bslice ho ht hx h)
      · cases hr
    · cases hr
  · rename_i t l c ho
    obtain ⟨r, hr, h⟩ := gx_get h
    unfold makeV at hr
    split at hr
    · rename_i E k m k' m' ht hl hc
      split at hr
      · rename_i z hz
        split at hr
        · rename_i hcond
          obtain ⟨h0, rfl, h2, h3, h4, h5, h6⟩ := hcond
          cases hr
          have e0 : ((m.toNat : Nat) : Int) = m := by omega
          have h5' : bytesT P E * m.toNat ≤ 281474976710656 := by
            have : ((bytesT P E * m.toNat : Nat) : Int) ≤ 281474976710656 := by rw [Int.natCast_mul, e0]; exact h5
            omega
          exact .inl (TWq.makeSlice ho ht hz h2 h3 h4 (by rw [hl, e0]) (by rw [hc, e0]) h5' (by omega) h)
        · cases hr
      · cases hr
    · cases hr
  · rename_i c ho0
    split at h
    · rename_i x y t t' hc1 hc2 hc3
      have ho : o.op = .call { callee := .builtin .append, args := #[x, y], argTypes := #[t, t'] } := by
        rw [ho0]
        obtain ⟨c1, ⟨c2⟩, ⟨c3⟩⟩ := c
        simp only at hc1 hc2 hc3
        subst hc1 hc2 hc3
        rfl
      have hh0 := gif_get h
      clear h
      rcases hh0 with ⟨_, h⟩ | ⟨_, h⟩
      · exact .inr h
      have hh := gif_no h
      clear h
      obtain ⟨rfl, h⟩ := hh
      obtain ⟨r, hr, h⟩ := gx_get h
      unfold appV at hr
      split at hr
      · rename_i E rows' ht hy
        split at hr
        · rename_i z hz
          split at hr
          · rename_i id hx
            split at hr
            · rename_i E' rows hH
              split at hr
              · rename_i hc
                obtain ⟨rfl, h1, h2, h3, h4, h5⟩ := hc
                cases hr
                exact .inl (TWq.append ho ht hz h1 h2 hx hH hy h3 h4 h5 h)
              · cases hr
            · cases hr
          · rename_i hx
            split at hr
            · rename_i hc
              obtain ⟨h1, h2, h3, h4, h5⟩ := hc
              cases hr
              exact .inl (TWq.appendNil ho ht hz h1 h2 hx hy h3 h4 h5 (by have h' : ∀ id, s.H id = none → _ := h; simpa [delo] using h'))
            · cases hr
          · cases hr
        · cases hr
      · cases hr
    · exact .inr h
  · exact .inr h
theorem tlE_q (h : tlE P n ρ false o K s) : TWq P n o K s := by
  rcases tlQ_sound h with h | h
  · exact h
  · split at h
    · exact absurd (gif_no h).1.1 (by simp)
    · rw [gif_neg (by simp)] at h; exact h
theorem tlE_o (h : tlE P n ρ true o K s) : TWo P n o K s := by
  rcases tlQ_sound h with h | h
  · exact h.toO
  · split at h
    · rename_i t p x ho hd
      obtain ⟨⟨_, hk⟩, h⟩ := gif_no h
      obtain ⟨xs, hx, h⟩ := gx_get h
      obtain ⟨r, hr, h⟩ := gx_get h
      exact TWo.store ho hd hx hk hr h
    · rw [gif_pos rfl] at h; exact h
end
section
variable {P : Program} {n : Nat} {ρ : List Nat} {K : St → Prop} {s : St} {last : Bool} {d : Option Tmp} {ty : TypeId} {pos : String} {af : Array Edge} {g : Option (Nat × Bool)} {x y p c l : Operand} {E t t' : TypeId} {len : Nat} {parts : Array (Nat × Operand)} {f : FuncId} {xs : Array Operand} {tys : Array TypeId} {dd : Tmp}
@[simp ↓] theorem tlE_box : tlE P n ρ last ⟨some dd, .box E x, ty, pos, af, g⟩ K s = gx (cellsOf (opV n s x)) (fun xs => gif (dd ∈ ρ) (K (s.put (some dd) (.rptr xs 0))) (gall s.H (fun id => K (St.put ⟨s.σ, upd s.H id (.box E xs)⟩ (some dd) (.pd id 0 0 0))) .mk) .mk .mk) .mk := ok rfl
@[simp ↓] theorem tlE_alloc : tlE P n ρ last ⟨d, .alloc E, ty, pos, af, g⟩ K s = gx (zeroT P E) (fun z => gif (z.all TV.pc = true) (gall s.H (fun id => K (St.put ⟨s.σ, upd s.H id (.box E z)⟩ d (.pd id 0 0 0))) .mk) False .mk .mk) .mk := ok rfl
@[simp ↓] theorem tlE_bslice : tlE P n ρ last ⟨some dd, .buildSlice t len parts, ty, pos, af, g⟩ K s = gx (bsV P n s t len parts.toList) (fun r => gif (dd ∈ ρ) (K (s.put (some dd) (.ro r.2))) (gall s.H (fun id => K (St.put ⟨s.σ, upd s.H id (.own r.1 r.2)⟩ (some dd) (.hd id))) .mk) .mk .mk) .mk := ok rfl
@[simp ↓] theorem tlE_make : tlE P n ρ last ⟨d, .makeSlice t l c, ty, pos, af, g⟩ K s = gx (makeV P t (opV n s l) (opV n s c)) (fun r => gall s.H (fun id => K (St.put ⟨s.σ, upd s.H id (.own r.1 (List.replicate r.2.1 r.2.2))⟩ d (.hd id))) .mk) .mk := ok rfl
@[simp ↓] theorem tlE_append : tlE P n ρ last ⟨d, .call ⟨.builtin .append, #[x, y], #[t, t']⟩, ty, pos, af, g⟩ K s = gif (isSl (opV n s x) = true) (gif (last = true) (TWoH P n ⟨d, .call ⟨.builtin .append, #[x, y], #[t, t']⟩, ty, pos, af, g⟩ K .mk s) (TWqH P n ⟨d, .call ⟨.builtin .append, #[x, y], #[t, t']⟩, ty, pos, af, g⟩ K .mk s) .mk .mk) (gif (t = t') (gx (appV P s t (opV n s x) (opV n s y)) (fun r => gall s.H (fun id => K (St.put ⟨s.σ, upd (delo s.H r.1) id (.own r.2.1 (r.2.2.1 ++ r.2.2.2))⟩ d (.hd id))) .mk) .mk) False .mk .mk) .mk .mk := ok rfl
@[simp ↓] theorem tlE_store : tlE P n ρ last ⟨none, .store t p x, ty, pos, af, g⟩ K s = gif (last = true ∧ 0 < szOf P t) (gx (cellsOf (opV n s x)) (fun xs => gx (stoTV P s.H (opV n s p) (szOf P t) xs) (fun r => K ⟨s.σ, upd s.H r.1 r.2⟩) .mk) .mk) False .mk .mk := ok rfl
@[simp ↓] theorem tlE_call : tlE P n ρ last ⟨d, .call ⟨.value (.func f), xs, tys⟩, ty, pos, af, g⟩ K s = gif (last = true) (TWoH P n ⟨d, .call ⟨.value (.func f), xs, tys⟩, ty, pos, af, g⟩ K .mk s) (TWqH P n ⟨d, .call ⟨.value (.func f), xs, tys⟩, ty, pos, af, g⟩ K .mk s) .mk .mk := ok rfl
end
/-- The list of a region's operations, as far as they are pure. -/
def tl (P : Program) (n : Nat) (ρ : List Nat) (ops : Array Oper) : List Oper → (St → Prop) → St → Prop
  | [], K, s => K s
  | o :: l, K, s => ggd (gd n s ops o) (gpv (pureV P n s o) (fun r => tl P n ρ ops l K (s.put o.dst r)) (tlE P n ρ true o (tl P n ρ ops l K) s) .mk .mk) (tl P n ρ ops l K (s.put o.dst (.tup []))) (TWlH P n ops (o :: l) K .mk s) .mk .mk .mk
/-- Code, as far as it goes without loops. -/
def tw (P : Program) (n : Nat) (ρ : List Nat) : Code → Post → St → Prop
  | .skip, Q, s => Q .normal s
  | .exit id, Q, s => Q (.exit id) s
  | .ret, Q, s => Q .ret s
  | .seq a b, Q, s => tw P n ρ a (Qthen (tw P n ρ b Q) Q) s
  | .block id c, Q, s => tw P n ρ c (Qblk id Q) s
  | .cond c x y, Q, s => gcd_ (opV n s c) (tw P n ρ x Q s) (tw P n ρ y Q s) (TWcH P n (.cond c x y) Q .mk s) .mk .mk .mk
  | .region id ops draw, Q, s => if draw = true then TWcH P n (.region id ops draw) Q .mk s else tl P n ρ ops ops.toList (Q .normal) s
  | c, Q, s => TWcH P n c Q .mk s
section
variable {P : Program} {n : Nat} {ρ : List Nat} {Q : Post} {s s' : St} {ops : Array Oper} {l l1 l2 : List Oper} {K : St → Prop}
theorem TWo.mono {o : Oper} {K' : St → Prop} (h : TWo P n o K s) (hk : ∀ s, K s → K' s) : TWo P n o K' s := fun C a w J Q hr hj => h C a w J Q hr fun a w s hs hr => hj a w s (hk s hs) hr
theorem tl_sound : ∀ {l : List Oper} {s : St}, tl P n ρ ops l K s → TWl P n ops l K s
  | [], s, h => TWl.nil h
  | o :: l, s, h => by
    unfold tl at h
    cases hg : gd n s ops o with
    | none => rw [hg] at h; exact h
    | some b =>
      rw [hg] at h
      cases b with
      | true =>
        simp only [ggd_some, gif_true] at h
        cases hr : pureV P n s o with
        | some r => rw [hr] at h; exact TWl.cons hg (TWo.pure hr (tl_sound h))
        | none => rw [hr] at h; exact TWl.cons hg (TWo.mono (tlE_o h) fun s hs => tl_sound hs)
      | false =>
        simp only [ggd_some, Bool.false_eq_true, gif_false] at h
        exact TWl.passed hg (tl_sound h)
theorem TWc.regionA {id : Nat} {ops : Array Oper} (h : TWl P n ops ops.toList (fun s => Q .normal s) s) : TWc P n (.region id ops false) Q s := fun C a w hr =>
  wp_region_list (h C a w _ hr fun a w s hk hr => ⟨s, hk, hr⟩)
theorem Qthen_mono {K K' : St → Prop} (hk : ∀ s, K s → K' s) : ∀ x s, Qthen K Q x s → Qthen K' Q x s := fun x s h => by cases x <;> first | exact hk s h | exact h
theorem tw_sound : ∀ {c : Code} {Q : Post} {s : St}, tw P n ρ c Q s → TWc P n c Q s
  | .skip, Q, s, h => TWc.skip h
  | .exit id, Q, s, h => TWc.exit h
  | .ret, Q, s, h => TWc.ret h
  | .seq a b, Q, s, h => TWc.seq ((tw_sound (c := a) h).mono (Qthen_mono fun s hs => tw_sound (c := b) hs))
  | .block id c, Q, s, h => TWc.block (tw_sound (c := c) h)
  | .cond c x y, Q, s, h => by
    unfold tw gcd_ at h
    split at h
    · rename_i b hb
      refine TWc.cond hb ?_
      cases b
      · simp only [Bool.false_eq_true, gif_false] at h; exact tw_sound (c := y) h
      · simp only [gif_true] at h; exact tw_sound (c := x) h
    · exact h
  | .region id ops draw, Q, s, h => by
    unfold tw at h
    cases draw
    · exact TWc.regionA (tl_sound h)
    · exact h
  | .loop c, Q, s, h => h
  | .rangeFunc .., Q, s, h => h
  | .scope .., Q, s, h => h
  | .label .., Q, s, h => h
  | .goto .., Q, s, h => h
  | .refuse .., Q, s, h => h
@[simp ↓] theorem tw_skip : tw P n ρ .skip Q s = Q .normal s := ok rfl
@[simp ↓] theorem tw_exit {id : Nat} : tw P n ρ (.exit id) Q s = Q (.exit id) s := ok rfl
@[simp ↓] theorem tw_ret : tw P n ρ .ret Q s = Q .ret s := ok rfl
@[simp ↓] theorem tw_seq {a b : Code} : tw P n ρ (.seq a b) Q s = tw P n ρ a (Qthen (tw P n ρ b Q) Q) s := ok rfl
@[simp ↓] theorem tw_block {id : Nat} {c : Code} : tw P n ρ (.block id c) Q s = tw P n ρ c (Qblk id Q) s := ok rfl
@[simp ↓] theorem tw_region {id : Nat} {l : List Oper} : tw P n ρ (.region id l.toArray false) Q s = tl P n ρ l.toArray l (Q .normal) s := ok rfl
@[simp ↓] theorem tw_regionD {id : Nat} {ops : Array Oper} : tw P n ρ (.region id ops true) Q s = TWcH P n (.region id ops true) Q .mk s := ok rfl
@[simp ↓] theorem tw_loop {c : Code} : tw P n ρ (.loop c) Q s = TWcH P n (.loop c) Q .mk s := ok rfl
@[simp ↓] theorem tw_cond {c : Operand} {x y : Code} : tw P n ρ (.cond c x y) Q s = gcd_ (opV n s c) (tw P n ρ x Q s) (tw P n ρ y Q s) (TWcH P n (.cond c x y) Q .mk s) .mk .mk .mk := ok rfl
@[simp ↓] theorem tl_nil : tl P n ρ ops [] K s = K s := ok rfl
@[simp ↓] theorem tl_cons {d : Option Tmp} {op : Op} {ty : TypeId} {pos : String} {af : Array Edge} : tl P n ρ ops (⟨d, op, ty, pos, af, none⟩ :: l) K s = gpv (pureV P n s ⟨d, op, ty, pos, af, none⟩) (fun r => tl P n ρ ops l K (s.put d r)) (tlE P n ρ true ⟨d, op, ty, pos, af, none⟩ (tl P n ρ ops l K) s) .mk .mk := by
  show ggd (some true) _ _ _ _ _ _ = _
  simp
@[simp ↓] theorem tl_consG {d : Option Tmp} {op : Op} {ty : TypeId} {pos : String} {af : Array Edge} {j : Nat} {b : Bool} : tl P n ρ ops (⟨d, op, ty, pos, af, some (j, b)⟩ :: l) K s = ggd (gd n s ops ⟨d, op, ty, pos, af, some (j, b)⟩) (gpv (pureV P n s ⟨d, op, ty, pos, af, some (j, b)⟩) (fun r => tl P n ρ ops l K (s.put d r)) (tlE P n ρ true ⟨d, op, ty, pos, af, some (j, b)⟩ (tl P n ρ ops l K) s) .mk .mk) (tl P n ρ ops l K (s.put d (.tup []))) (TWlH P n ops (⟨d, op, ty, pos, af, some (j, b)⟩ :: l) K .mk s) .mk .mk .mk := ok rfl
@[simp] theorem gd_some {d : Option Tmp} {op : Op} {ty : TypeId} {pos : String} {af : Array Edge} {j : Nat} {b : Bool} {l : List Oper} : gd n s l.toArray ⟨d, op, ty, pos, af, some (j, b)⟩ = (match l[j]? with
    | some oj => (match oj.dst with
      | some d => if d < n then (match s.σ d with
        | .val (.bool x) => some (x == b)
        | .tup [] => some false
        | _ => none) else none
      | none => none)
    | none => none) := by simp only [gd, List.getElem?_toArray]; rfl
section eqs
variable {d : Option Tmp} {ty : TypeId} {pos : String} {af : Array Edge} {g : Option (Nat × Bool)} {x y c i : Operand} {t u : TypeId} {f : Nat} {op : BinOp} {uo : UnOp}
@[simp] theorem pv_move : pureV P n s ⟨d, .move x, ty, pos, af, g⟩ = some (opV n s x) := ok rfl
@[simp] theorem pv_assign : pureV P n s ⟨d, .assign x, ty, pos, af, g⟩ = some (opV n s x) := ok rfl
@[simp] theorem pv_pick : pureV P n s ⟨d, .pick c x y, ty, pos, af, g⟩ = (match opV n s c with | .val (.bool b) => some (if b then opV n s x else opV n s y) | _ => none) := ok rfl
@[simp] theorem pv_bin : pureV P n s ⟨d, .binOp op t x y u, ty, pos, af, g⟩ = binTV P op t (opV n s x) (opV n s y) := ok rfl
@[simp] theorem pv_un : pureV P n s ⟨d, .unOp uo t x, ty, pos, af, g⟩ = (match opV n s x with | .val v => (unV uo v).map .val | _ => none) := ok rfl
@[simp] theorem pv_load : pureV P n s ⟨d, .load t x, ty, pos, af, g⟩ = ldTV P s t (opV n s x) := ok rfl
@[simp] theorem pv_ix : pureV P n s ⟨d, .indexAddr t x i, ty, pos, af, g⟩ = ixTV P s t (opV n s x) (opV n s i) := ok rfl
@[simp] theorem pv_fa : pureV P n s ⟨d, .fieldAddr t x f, ty, pos, af, g⟩ = fdTV P t (opV n s x) f := ok rfl
@[simp] theorem pv_index : pureV P n s ⟨d, .index t x i, ty, pos, af, g⟩ = indexTV P t (opV n s x) (opV n s i) := ok rfl
@[simp] theorem pv_extract : pureV P n s ⟨d, .extract x f, ty, pos, af, g⟩ = (match opV n s x with | .tup ts => ts[f]? | _ => none) := ok rfl
@[simp] theorem pv_conv : pureV P n s ⟨d, .convert t u x, ty, pos, af, g⟩ = convTV P s t u (opV n s x) := ok rfl
@[simp] theorem pv_slice {lo hi : Option Operand} : pureV P n s ⟨d, .slice t x lo hi none, ty, pos, af, g⟩ = sliceTV P s t (opV n s x) (lo.map (opV n s)) (hi.map (opV n s)) := ok rfl
@[simp] theorem pv_build {parts : Array (Nat × Operand)} : pureV P n s ⟨d, .build t parts, ty, pos, af, g⟩ = buildTV P n s t parts.toList := ok rfl
@[simp] theorem pv_len : pureV P n s ⟨d, .call ⟨.builtin .len, #[x], #[t]⟩, ty, pos, af, g⟩ = lenTV P s t (opV n s x) := ok rfl
@[simp] theorem pv_field : pureV P n s ⟨d, .field t x f, ty, pos, af, g⟩ = (match P.underlying t, opV n s x with
    | some (.struct fs), .agg cs => match fs[f]? with
      | some fd => partTV P fd.type cs fd.offset
      | none => none
    | _, _ => none) := ok rfl
@[simp] theorem pv_nilCheck : pureV P n s ⟨d, .nilCheck x, ty, pos, af, g⟩ = (match opV n s x with
    | .rptr r o => some (.rptr r o)
    | .pd id z r c => some (.pd id z r c)
    | _ => none) := ok rfl
@[simp] theorem pv_box : pureV P n s ⟨d, .box t x, ty, pos, af, g⟩ = none := ok rfl
@[simp] theorem pv_alloc : pureV P n s ⟨d, .alloc t, ty, pos, af, g⟩ = none := ok rfl
@[simp] theorem pv_bslice {parts : Array (Nat × Operand)} : pureV P n s ⟨d, .buildSlice t f parts, ty, pos, af, g⟩ = none := ok rfl
@[simp] theorem pv_make : pureV P n s ⟨d, .makeSlice t x y, ty, pos, af, g⟩ = none := ok rfl
@[simp] theorem pv_store : pureV P n s ⟨d, .store t x y, ty, pos, af, g⟩ = none := ok rfl
@[simp] theorem pv_append : pureV P n s ⟨d, .call ⟨.builtin .append, #[x, y], #[t, u]⟩, ty, pos, af, g⟩ = none := ok rfl
@[simp] theorem pv_call {ff : FuncId} {xs : Array Operand} {tys : Array TypeId} : pureV P n s ⟨d, .call ⟨.value (.func ff), xs, tys⟩, ty, pos, af, g⟩ = none := ok rfl
@[simp] theorem opV_tmp {k : Nat} : opV n s (.tmp k) = if k < n then s.σ k else .any := ok rfl
@[simp] theorem opV_const {v : Value} : opV n s (.const v) = cv v := ok rfl
@[simp] theorem cv_int {k : IntKind} {m : Int} : cv (.int k m) = .val (.int k m) := ok rfl
@[simp] theorem cv_bool {b : Bool} : cv (.bool b) = .val (.bool b) := ok rfl
@[simp] theorem cv_string {b : ByteArray} : cv (.string b) = .val (.string b) := ok rfl
@[simp] theorem cv_slice {A : Option Addr} {l c : Nat} : cv (.slice A l c) = .val (.slice A l c) := ok rfl
end eqs
@[simp] theorem set_at (σ : Nat → TV) (i : Nat) (v : TV) (j : Nat) : set σ i v j = if j = i then v else σ j := ok rfl
@[simp] theorem put_some (d : Nat) (t : TV) : s.put (some d) t = ⟨set s.σ d t, s.H⟩ := ok rfl
@[simp] theorem put_none (t : TV) : s.put none t = s := ok rfl
@[simp ↓] theorem Qthen_normal {K : St → Prop} : Qthen K Q .normal s = K s := ok rfl
@[simp ↓] theorem Qthen_exit {K : St → Prop} {i : Nat} : Qthen K Q (.exit i) s = Q (.exit i) s := ok rfl
@[simp ↓] theorem Qthen_ret {K : St → Prop} : Qthen K Q .ret s = Q .ret s := ok rfl
@[simp ↓] theorem Qblk_normal {i : Nat} : Qblk i Q .normal s = Q .normal s := ok rfl
@[simp ↓] theorem Qblk_ret {i : Nat} : Qblk i Q .ret s = Q .ret s := ok rfl
@[simp ↓] theorem Qblk_exit {i j : Nat} : Qblk i Q (.exit j) s = if j = i then Q .normal s else Q (.exit j) s := ok rfl
end
end Go.Proofs.YtdomnlnanbekaaaGreatDoor.T

namespace Go.Proofs.YtdomnlnanbekaaaGreatDoor.T
set_option linter.unusedVariables false
set_option linter.unusedSimpArgs false
open Go.RowKit

section
variable {P : Program} {ops : Array Oper} {Q : Exit → Act → World → Prop} {md : Region.Mode} {S : World → Prop} {nl : Nat}
/-- Whatever order is picked from here on; S holds behind every operation but number nl. -/
def anyE (P : Program) (md : Region.Mode) (ops : Array Oper) (Q : Exit → Act → World → Prop) (S : World → Prop) (nl : Nat) : Nat → Array Bool → Act → World → Prop
  | 0, listed, a, w => Region.ready md ops listed = [] ∧ Q .normal a w
  | fuel + 1, listed, a, w =>
    (Region.ready md ops listed = [] → Q .normal a w) ∧
    ∀ i ∈ Region.ready md ops listed, wpOp P ops Q i (fun a' w' => (i ≠ nl → S w') ∧ anyE P md ops Q S nl fuel (listed.setIfInBounds i true) a' w') a w
theorem any_of_E : ∀ (fuel : Nat) (listed : Array Bool) (a : Act) (w : World), anyE P md ops Q S nl fuel listed a w → wpAny P md ops Q fuel listed a w
  | 0, _, _, _, h => h
  | fuel + 1, _, _, _, h => ⟨h.1, fun i hi => wpOp_mono (fun a' w' h' => any_of_E fuel _ a' w' h'.2) (h.2 i hi)⟩
theorem ready_lt {listed : Array Bool} {j : Nat} (h : j ∈ Region.ready md ops listed) : j < ops.size := by
  obtain ⟨_, o, ho, _⟩ := mem_ready.1 h
  exact (Array.getElem?_eq_some_iff.1 ho).1
theorem anyE_first {i : Nat} {oi : Oper} {v : Value} (hi : ops[i]? = some oi) (hsel : ∀ (j : Nat) (o : Oper) cs b, ops[j]? = some o → o.op ≠ .select cs b)
    (hQ : ∀ c a w, Q (.panic c) (a.put oi.dst v) w → Q (.panic c) a w) (hnl : ops.size ≤ nl + 1) (hin : i < nl)
    (hex : ∀ listed, HeadInv md ops nl listed → listed.getD i true = false → nl ∉ Region.ready md ops listed) :
    ∀ (fuel : Nat) (listed : Array Bool) (a : Act) (w : World), HeadInv md ops nl listed →
      (∀ j oj, ops[j]? = some oj → j ≠ i → listed.getD j true = false → (∀ e ∈ oj.after, Region.binds md e = true → e.on ≠ i) → oi.apart ops oj = true) →
      i ∈ Region.ready md ops listed → YieldsIf P ops S oi v a → S w →
      anyE P md ops Q S nl fuel (listed.setIfInBounds i true) (a.put oi.dst v) w → anyE P md ops Q S nl (fuel + 1) listed a w := by
  intro fuel
  induction fuel with
  | zero =>
    intro listed a w inv _ hr hy hS H
    refine ⟨fun h => (by rw [h] at hr; cases hr), fun j hj => ?_⟩
    by_cases hji : j = i
    · subst hji; exact hy.wpOp hi hS ⟨fun _ => hS, H⟩
    · have := ready_mono hj hji
      rw [H.1] at this
      cases this
  | succ fuel ih =>
    intro listed a w inv hfree hr hy hS H
    refine ⟨fun h => (by rw [h] at hr; cases hr), fun j hj => ?_⟩
    by_cases hji : j = i
    · subst hji; exact hy.wpOp hi hS ⟨fun _ => hS, H⟩
    · have hun := (mem_ready.1 hr).1
      have hjn : j ≠ nl := fun e => hex listed inv hun (e ▸ hj)
      have hjlt : j < nl := by have := ready_lt hj; omega
      have h1 := H.2 j (ready_mono hj hji)
      obtain ⟨hjun, oj, hoj, hall⟩ := mem_ready.1 hj
      have hnot : ∀ e ∈ oj.after, Region.binds md e = true → e.on ≠ i := fun e he hb heq => by
        have h1 := hall e he hb
        have h0 := (mem_ready.1 hr).1
        rw [heq] at h1
        rcases Nat.lt_or_ge i listed.size with h' | h'
        · simp [h'] at h0 h1; rw [h0] at h1; cases h1
        · simp [Array.getElem?_eq_none h'] at h1
      have h2 := wpOp_putIf hoj (hfree j oj hoj hji hjun hnot) (fun cs b => hsel i oi cs b hi) (fun cs b => hsel j oj cs b hoj) hQ hy h1
      have hfree' : ∀ k ok, ops[k]? = some ok → k ≠ i → (listed.setIfInBounds j true).getD k true = false →
          (∀ e ∈ ok.after, Region.binds md e = true → e.on ≠ i) → oi.apart ops ok = true := fun k ok hk hki hun hno => by
        refine hfree k ok hk hki ?_ hno
        by_cases hjk : j = k
        · subst hjk; exact hjun
        · rw [getD_set_ne true hjk] at hun; exact hun
      refine wpOp_mono (fun a' w' h3 => ⟨fun _ => h3.2.1 hjn, ih (listed.setIfInBounds j true) a' w' (inv.set hj hjlt) hfree' (ready_mono hr (Ne.symm hji)) h3.1 (h3.2.1 hjn) ?_⟩) h2
      rw [Array.setIfInBounds_comm _ _ hji]
      exact h3.2.2
theorem anyE_take {i : Nat} {oi : Oper} {v : Value} {fuel : Nat} {listed : Array Bool} {a : Act} {w : World} (hi : ops[i]? = some oi) (hs : Region.noSelect ops = true) (hf : Region.free md ops listed i = true) (hr : (Region.ready md ops listed).contains i = true)
    (hQ : ∀ c a w, Q (.panic c) (a.put oi.dst v) w → Q (.panic c) a w) (hnl : ops.size ≤ nl + 1) (hin : i < nl) (hex : ∀ listed, HeadInv md ops nl listed → listed.getD i true = false → nl ∉ Region.ready md ops listed) (inv : HeadInv md ops nl listed)
    (hy : YieldsIf P ops S oi v a) (hS : S w) (h : anyE P md ops Q S nl fuel (listed.setIfInBounds i true) (a.put oi.dst v) w) : anyE P md ops Q S nl (fuel + 1) listed a w :=
  anyE_first hi (Region.noSelect_spec hs) hQ hnl hin hex fuel listed a w inv (Region.free_spec hi hf) (by simpa using hr) hy hS h
theorem anyE_only {i : Nat} {fuel : Nat} {listed : Array Bool} {a : Act} {w : World} (hr : Region.ready md ops listed = [i])
    (h : wpOp P ops Q i (fun a' w' => (i ≠ nl → S w') ∧ anyE P md ops Q S nl fuel (listed.setIfInBounds i true) a' w') a w) : anyE P md ops Q S nl (fuel + 1) listed a w :=
  ⟨fun h0 => absurd (hr ▸ h0) (by simp), fun j hj => by rw [hr, List.mem_singleton] at hj; subst hj; exact h⟩
end
/-- What kinds of operations may be pure. -/
def pureB : Op → Bool
  | .move _ | .assign _ | .pick _ _ _ | .binOp .. | .unOp .. | .load _ _ | .indexAddr .. | .fieldAddr .. | .field .. | .index .. | .extract .. | .convert .. | .build .. | .nilCheck _ => true
  | .slice _ _ _ _ m => m.isNone
  | .call c => match c.callee with
    | .builtin .len => true
    | _ => false
  | _ => false
/-- A schedule that serves: an operation is free to be taken first, or the only one that may come up. -/
def schedB (md : Region.Mode) (ops : Array Oper) (nl : Nat) : Bool → Array Bool → List Nat → Bool
  | _, listed, [] => (Region.ready md ops listed).isEmpty
  | ph1, listed, i :: π => match ops[i]? with
    | some o => ((pureB o.op && (ph1 || !heapB o.op) && Region.free md ops listed i && (Region.ready md ops listed).contains i && decide (i < nl)) || Region.ready md ops listed == [i]) && decide (i ≤ nl)
        && schedB md ops nl (ph1 && pureB o.op) (listed.setIfInBounds i true) π
    | none => false
section
variable {f : Nat} {xs : Array Operand} {tys : Array TypeId} {t : TypeId} {x y : Operand} {parts : Array (Nat × Operand)}
@[simp] theorem pB_call : pureB (.call ⟨.value (.func f), xs, tys⟩) = false := ok rfl
@[simp] theorem pB_append : pureB (.call ⟨.builtin .append, xs, tys⟩) = false := ok rfl
@[simp] theorem pB_copy : pureB (.call ⟨.builtin .copy, xs, tys⟩) = false := ok rfl
@[simp] theorem pB_box : pureB (.box t x) = false := ok rfl
@[simp] theorem pB_alloc : pureB (.alloc t) = false := ok rfl
@[simp] theorem pB_bslice : pureB (.buildSlice t f parts) = false := ok rfl
@[simp] theorem pB_make : pureB (.makeSlice t x y) = false := ok rfl
@[simp] theorem pB_store : pureB (.store t x y) = false := ok rfl
end
def gop (x : Option Oper) (A : Oper → Prop) (_ : Hd A) : Prop := match x with
  | some o => A o
  | none => False
@[simp] theorem gop_some {o : Oper} {A : Oper → Prop} {h : Hd A} : gop (some o) A h = A o := ok rfl
/-- One operation of a schedule. -/
def tlO (P : Program) (n : Nat) (ρ : List Nat) (ops : Array Oper) (last : Bool) (K : St → Prop) (s : St) (o : Oper) : Prop :=
  ggd (gd n s ops o) (gpv (pureV P n s o) (fun r => K (s.put o.dst r)) (gif (pureB o.op = true) False (tlE P n ρ last o K s) .mk .mk) .mk .mk) (K (s.put o.dst (.tup []))) False .mk .mk .mk
/-- The walk along a schedule. -/
def tlD (P : Program) (n : Nat) (ρ : List Nat) (ops : Array Oper) (nl : Nat) : List Nat → (St → Prop) → St → Prop
  | [], K, s => K s
  | i :: π, K, s => gop ops[i]? (tlO P n ρ ops (i == nl) (tlD P n ρ ops nl π K) s) .mk
section
variable {P : Program} {n nl i : Nat} {ρ : List Nat} {K : St → Prop} {s : St} {ops : Array Oper}
@[simp ↓] theorem tlD_nil : tlD P n ρ ops nl [] K s = K s := ok rfl
@[simp ↓] theorem tlD_cons {ops : List Oper} {π : List Nat} : tlD P n ρ ops.toArray nl (i :: π) K s = gop ops[i]? (tlO P n ρ ops.toArray (i == nl) (tlD P n ρ ops.toArray nl π K) s) .mk := by simp only [tlD, List.getElem?_toArray]
variable {last : Bool} {d : Option Tmp} {op : Op} {ty : TypeId} {pos : String} {af : Array Edge}
@[simp ↓] theorem tlO_none : tlO P n ρ ops last K s ⟨d, op, ty, pos, af, none⟩ = (gpv (pureV P n s ⟨d, op, ty, pos, af, none⟩) (fun r => K (s.put d r)) (gif (pureB op = true) False (tlE P n ρ last ⟨d, op, ty, pos, af, none⟩ K s) .mk .mk) .mk .mk) := by
  show ggd (some true) _ _ _ _ _ _ = _
  simp
@[simp ↓] theorem tlO_some {j : Nat} {b : Bool} : tlO P n ρ ops last K s ⟨d, op, ty, pos, af, some (j, b)⟩ = ggd (gd n s ops ⟨d, op, ty, pos, af, some (j, b)⟩) (gpv (pureV P n s ⟨d, op, ty, pos, af, some (j, b)⟩) (fun r => K (s.put d r)) (gif (pureB op = true) False (tlE P n ρ last ⟨d, op, ty, pos, af, some (j, b)⟩ K s) .mk .mk) .mk .mk) (K (s.put d (.tup []))) False .mk .mk .mk := ok rfl
end
section
variable {P : Program} {n : Nat} {ρ : List Nat} {ops : Array Oper} {nl : Nat} {K : St → Prop} {C : Ctx} {s : St} {a : Act} {e0 e : Env} {FH0 FH : Nat → Foot} {Q : Post}
/-- The post of a region: it comes to its end. -/
def QN (P : Program) (C : Ctx) (n : Nat) (K : St → Prop) : Exit → Act → World → Prop
  | .normal, a, w => ∃ s, K s ∧ Rel P C n s a w
  | _, _, _ => False
theorem Same.of_vis (h : VisS e0 FH0 e FH) : Same e0 FH0 e.w := h.same
theorem tlD_sound (hs : Region.noSelect ops = true) (hnl : ops.size ≤ nl + 1) (hex : ∀ i, i < nl → ∀ listed, HeadInv .any ops nl listed → listed.getD i true = false → nl ∉ Region.ready .any ops listed) :
    ∀ (π : List Nat) (ph1 : Bool) (listed : Array Bool) (s : St) (a : Act) (e : Env) (FH : Nat → Foot), schedB .any ops nl ph1 listed π = true → HeadInv .any ops nl listed ∨ (π = []) → (ph1 = true → e = e0 ∧ FH = FH0) → VisS e0 FH0 e FH →
      a.tmps.size = n → RelX P C s a e FH → tlD P n ρ ops nl π K s → anyE P .any ops (QN P C n K) (Same e0 FH0) nl π.length listed a e.w := by
  intro π
  induction π with
  | nil =>
    intro ph1 listed s a e FH hsch _ _ _ hn hX h
    simp only [schedB, List.isEmpty_iff] at hsch
    exact ⟨hsch, s, h, hn, e, FH, rfl, hX⟩
  | cons i π ih =>
    intro ph1 listed s a e FH hsch hinv hph hv hn hX h
    have inv : HeadInv .any ops nl listed := hinv.resolve_right (by simp)
    unfold schedB at hsch
    unfold tlD at h
    cases ho : ops[i]? with
    | none => rw [ho] at h; exact h.elim
    | some o =>
      rw [ho] at h hsch
      simp only [gop_some, tlO] at h
      simp only [Bool.and_eq_true, Bool.or_eq_true, decide_eq_true_eq, beq_iff_eq] at hsch
      obtain ⟨⟨hor, hile⟩, hsch'⟩ := hsch
      have hil : i < ops.size := (Array.getElem?_eq_some_iff.1 ho).1
      have hready : i ∈ Region.ready .any ops listed := by
        rcases hor with ⟨⟨⟨_, _⟩, hr⟩, _⟩ | hr
        · simpa using hr
        · rw [hr]; simp
      have hlast : i = nl → π = [] := by
        intro hi'
        cases π with
        | nil => rfl
        | cons j π =>
          exfalso
          unfold schedB at hsch'
          cases hoj : ops[j]? with
          | none => rw [hoj] at hsch'; cases hsch'
          | some oj =>
            rw [hoj] at hsch'
            simp only [Bool.and_eq_true, Bool.or_eq_true, decide_eq_true_eq, beq_iff_eq] at hsch'
            have hrj : j ∈ Region.ready .any ops (listed.setIfInBounds i true) := by
              rcases hsch'.1.1 with ⟨⟨⟨_, _⟩, hr⟩, _⟩ | hr
              · simpa using hr
              · rw [hr]; simp
            have hjl := ready_lt hrj
            subst hi'
            have hji : j ≠ i := by
              rintro rfl
              have := (mem_ready.1 hrj).1
              simp [inv.size, hil] at this
            have hun := (mem_ready.1 hrj).1
            rw [getD_set_ne true (Ne.symm hji)] at hun
            exact hex j (by omega) listed inv hun hready
      have inv' : HeadInv .any ops nl (listed.setIfInBounds i true) ∨ π = [] := by
        by_cases hi : i < nl
        · exact .inl (inv.set hready hi)
        · exact .inr (hlast (by omega))
      have hS : Same e0 FH0 e.w := hv.same
      have hput : ∀ {t : TV} {v : Value}, Rep P e t v noF → (a.put o.dst v).tmps.size = n ∧ RelX P C (s.put o.dst t) (a.put o.dst v) e FH := by
        intro t v hr
        cases hd : o.dst with
        | none => exact ⟨hn, hX⟩
        | some d => exact ⟨by simpa [Act.put] using hn, hX.set d hr⟩
      have go : ∀ {t : TV} {v : Value}, Rep P e t v noF → tlD P n ρ ops nl π K (s.put o.dst t) → anyE P .any ops (QN P C n K) (Same e0 FH0) nl π.length (listed.setIfInBounds i true) (a.put o.dst v) e.w := by
        intro t v hr ht
        obtain ⟨h1, h2⟩ := hput hr
        exact ih _ _ _ _ e FH hsch' inv' (fun hp => hph (by simp only [Bool.and_eq_true] at hp; exact hp.1)) hv h1 h2 ht
      have fin : ∀ {t : TV} {v : Value}, Rep P e t v noF → tlD P n ρ ops nl π K (s.put o.dst t) → ((pureB o.op = true ∧ (ph1 || !heapB o.op) = true) → YieldsIf P ops (Same e0 FH0) o v a) →
          (∀ K' : Act → World → Prop, K' (a.put o.dst v) e.w → wpOp P ops (QN P C n K) i K' a e.w) → anyE P .any ops (QN P C n K) (Same e0 FH0) nl (π.length + 1) listed a e.w := by
        intro t v hr ht hy hw
        rcases hor with ⟨⟨⟨hp, hfree⟩, hrd⟩, hlt⟩ | hrd
        · exact anyE_take ho hs hfree hrd (fun c a w x => x) hnl hlt (hex i hlt) inv (hy ⟨hp.1, by simpa using hp.2⟩) hS (go hr ht)
        · exact anyE_only hrd (hw _ ⟨fun _ => hS, go hr ht⟩)
      cases hg : gd n s ops o with
      | none => rw [hg] at h; exact h.elim
      | some b =>
        have hwant := gd_sound (Rel.of hn hX) hg
        rw [hg] at h
        cases b with
        | false =>
          simp only [ggd_some, Bool.false_eq_true, gif_false] at h
          refine fin (t := .tup []) (v := undef) (by simp only [Rep, RepL]; exact ⟨[], rfl, rfl, emp_noF⟩) h (fun _ => .inr ⟨hwant, rfl⟩) fun K' hK => ?_
          unfold wpOp
          simp only [ho, hwant, Bool.false_eq_true, if_false]
          exact hK
        | true =>
          simp only [ggd_some, gif_true] at h
          cases hp : pureV P n s o with
          | some r =>
            rw [hp] at h
            obtain ⟨v, hany, hsame, hrep⟩ := pure_sound2 hX hn hp
            refine fin hrep h (fun ⟨_, hh⟩ => .inl ⟨hwant, fun w hw => ?_⟩) fun K' hK => ?_
            · simp only [Bool.or_eq_true, Bool.not_eq_true'] at hh
              rcases hh with hh | hh
              · obtain ⟨rfl, rfl⟩ := hph hh
                exact hsame w hw
              · exact hany hh w
            · unfold wpOp
              simp only [ho, hwant, if_true]
              left
              unfold Oper.wp
              rw [hsame _ (Same.refl e FH)]
              exact hK
          | none =>
            rw [hp] at h
            by_cases hpb : pureB o.op = true
            · rw [gpv_none, gif_pos hpb] at h; exact h.elim
            · rw [gpv_none, gif_neg hpb] at h
              have hrd : Region.ready .any ops listed = [i] := by
                rcases hor with ⟨⟨⟨hp', _⟩, _⟩, _⟩ | hrd
                · exact (hpb hp'.1).elim
                · exact hrd
              refine anyE_only hrd ?_
              unfold wpOp
              simp only [ho, hwant, if_true]
              left
              by_cases hi : i = nl
              · rw [show (i == nl) = true by simp [hi]] at h
                replace h := tlE_o h
                have hπ := hlast hi
                subst hπ
                simp only [schedB, List.isEmpty_iff] at hsch'
                refine h C a e.w _ _ (Rel.of hn hX) fun a' w' s' hs' hr' => ⟨fun x => (x hi).elim, hsch', s', hs', hr'⟩
              · rw [show (i == nl) = false by simp [hi]] at h
                replace h := tlE_q h
                refine h C a e FH hn hX _ _ fun a' w' s' hs' hr' => ?_
                obtain ⟨hn', e', FH', rfl, hX', hv'⟩ := hr'
                have hv2 := hv.trans hv'
                exact ⟨fun _ => hv2.same, ih _ _ _ _ e' FH' hsch' inv' (fun hp' => by simp only [Bool.and_eq_true] at hp'; exact (hpb hp'.2).elim) hv2 hn' hX' hs'⟩
/-- Is number nl, where it is one of the region, come to only behind all others? -/
def exB (ops : Array Oper) (nl : Nat) : Bool := ops.size == nl || (ops.size == nl + 1 && Region.sinkB .any ops nl)
theorem exB_spec (h : exB ops nl = true) : ops.size ≤ nl + 1 ∧ ∀ i, i < nl → ∀ listed, HeadInv .any ops nl listed → listed.getD i true = false → nl ∉ Region.ready .any ops listed := by
  simp only [exB, Bool.or_eq_true, Bool.and_eq_true, beq_iff_eq] at h
  rcases h with h | ⟨h, hs⟩
  · exact ⟨by omega, fun i _ listed _ _ hr => by have := ready_lt hr; omega⟩
  · refine ⟨by omega, fun i hi listed inv hun hr => ?_⟩
    have hc : Region.chainB .any ops nl = true := by
      unfold Region.chainB
      rw [List.all_eq_true]
      intro t ht
      have := List.mem_range.1 ht
      simp only [Bool.or_eq_true, decide_eq_true_eq]
      left; omega
    exact tail_waits hs hc (by omega) inv _ i rfl hi hun nl (Nat.le_refl _) hr
/-- A region that draws its order, along a schedule. -/
theorem TWc.regionD {id : Nat} {l : List Oper} (π : List Nat) (nl : Nat) (hm : P.follows .mixedOrders = true)
    (hB : (Region.noSelect l.toArray && exB l.toArray nl && schedB .any l.toArray nl true (Array.replicate l.toArray.size false) π && π.length == l.toArray.size) = true) (h : tlD P n ρ l.toArray nl π (Q .normal) s) : TWc P n (.region id l.toArray true) Q s := fun C a w hr => by
  simp only [Bool.and_eq_true, beq_iff_eq] at hB
  obtain ⟨⟨⟨hs, hex⟩, hsch⟩, hlen⟩ := hB
  obtain ⟨hn, e, FH, rfl, hX⟩ := hr
  have hX' : RelX P C s a ⟨{ e.w with drawn := e.w.drawn + 1 }, e.Z, e.N, e.η⟩ FH := by
    have g : Grow e.w { e.w with drawn := e.w.drawn + 1 } (fun _ => False) := ⟨rfl, rfl, rfl, Nat.le_refl _, fun _ _ _ => rfl⟩
    exact hX.world (Z' := e.Z) (X := fun _ => False) g (fun b x => x.elim) (fun b x => x) (fun b x => .inl x) hX.ltZ
  obtain ⟨hnl, hex'⟩ := exB_spec hex
  have inv : HeadInv .any l.toArray nl (Array.replicate l.toArray.size false) := by
    refine ⟨by simp, fun j oj _ hl => ?_, fun t ht ht' => ?_⟩
    · rw [getD_replicate_false] at hl; cases hl
    · simp at ht'; simp [ht']
  have := tlD_sound (P := P) (n := n) (K := Q .normal) (C := C) (e0 := ⟨{ e.w with drawn := e.w.drawn + 1 }, e.Z, e.N, e.η⟩) (FH0 := FH) hs hnl hex' π true _ s a _ FH hsch (.inl inv) (fun _ => ⟨rfl, rfl⟩) (.refl hX') hn hX' h
  rw [hlen] at this
  refine wp_mono (wp_region_any hm (any_of_E _ _ _ _ this)) ?_
  rintro x a w hx
  cases x with
  | normal => exact hx
  | _ => exact hx.elim
end
end Go.Proofs.YtdomnlnanbekaaaGreatDoor.T

namespace Go.Proofs.YtdomnlnanbekaaaGreatDoor.T
set_option linter.unusedVariables false
set_option linter.unusedSimpArgs false
open Go.RowKit
variable {P : Program}
/-- What is handed back may be taken as what is only read from then on. -/
theorem TC.frz {f : FuncId} {args objs objs' : List TV} {res : TV} (h : TC P f args objs res objs') : TC P f args objs (toRo res) objs' := by
  intro w Z η F vs h1 h2 h3 h4 h5
  refine (h w Z η F vs h1 h2 h3 h4 h5).mono ?_
  rintro x w' ⟨v, Z', F', rfl, hr, hg, hZ, hlt, hfrom, hF⟩
  simp only [RepL] at hr
  obtain ⟨v0, vs0, F1, F2, hv, hr1, hr2, hs⟩ := hr
  obtain ⟨rfl, rfl⟩ := List.cons.inj hv
  have hsub : ∀ b, Z' b → (Z' b ∨ ∃ m, F1 b m) := fun b x => .inl x
  refine ⟨v, fun b => Z' b ∨ ∃ m, F1 b m, F2, rfl, ?_, hg, fun b x => .inl (hZ b x), ?_, ?_, ?_⟩
  · simp only [RepL]
    exact ⟨v, _, noF, F2, rfl, Rep.frz res hr1 ⟨rfl, Nat.le_refl _, fun _ _ => rfl, hsub, fun b m x => .inr ⟨m, x⟩⟩, RepL.keep _ hr2 (keep_same hsub (Nat.le_refl _) (fun _ _ => rfl)), ⟨fun b m => ⟨fun x => .inr x, fun x => x.elim (fun y => y.elim) id⟩, fun b m m' x _ => x.elim⟩⟩
  · rintro b (x | ⟨m, x⟩)
    · exact hlt b x
    · exact (hF b m ((hs.iff b m).2 (.inl x))).2.2
  · rintro b (x | ⟨m, x⟩)
    · exact hfrom b x
    · rcases (hF b m ((hs.iff b m).2 (.inl x))).1 with y | y
      · exact .inr (.inl y)
      · exact .inr (.inr y)
  · intro b m x
    obtain ⟨a1, a2, a3⟩ := hF b m ((hs.iff b m).2 (.inr x))
    refine ⟨a1, ?_, a3⟩
    rintro (y | ⟨m', y⟩)
    · exact a2 y
    · exact hs.dis b m' m y x
section
variable {n : Nat} {K : St → Prop} {s : St} {d : Option Tmp} {ty : TypeId} {pos : String} {af : Array Edge} {g : Option (Nat × Bool)} {f : FuncId} {xs : Array Operand} {tys : Array TypeId} {args objs objs' : List TV} {res : TV}
/-- A call that lends nothing. -/
theorem TWqH.call (hTC : TC P f args [] res []) (hf : callable P f = true) (hargs : argsT s.H [] (xs.toList.map (opV n s)) = some args) (hnr : noH res = true) (hv : (xs.toList.map (opV n s)).flatMap (viewsT []) = [] ∨ noRo res = true)
    (h : ∀ k, (∀ j, k ≤ j → s.H j = none) → K (St.put ⟨s.σ, updL s.H k (opn k res).2⟩ d (opn k res).1)) : TWqH P n ⟨d, .call ⟨.value (.func f), xs, tys⟩, ty, pos, af, g⟩ K .mk s := TWq.call rfl hf hargs hTC hnr hv h
theorem TWoH.call (hTC : TC P f args [] res []) (hf : callable P f = true) (hargs : argsT s.H [] (xs.toList.map (opV n s)) = some args) (hnr : noH res = true) (hv : (xs.toList.map (opV n s)).flatMap (viewsT []) = [] ∨ noRo res = true)
    (h : ∀ k, (∀ j, k ≤ j → s.H j = none) → K (St.put ⟨s.σ, updL s.H k (opn k res).2⟩ d (opn k res).1)) : TWoH P n ⟨d, .call ⟨.value (.func f), xs, tys⟩, ty, pos, af, g⟩ K .mk s := (TWq.call rfl hf hargs hTC hnr hv h).toO
theorem TWqH.callV (hTC : TC P f args [] res []) (hf : callable P f = true) (hargs : argsT s.H [] (xs.toList.map (opV n s)) = some args) (hop : ∀ k, opn k res = (res, [])) (hnr : noH res = true) (hv : (xs.toList.map (opV n s)).flatMap (viewsT []) = [] ∨ noRo res = true)
    (h : K (St.put s d res)) : TWqH P n ⟨d, .call ⟨.value (.func f), xs, tys⟩, ty, pos, af, g⟩ K .mk s := TWqH.call hTC hf hargs hnr hv fun k _ => by rw [hop]; exact h
theorem TWoH.callV (hTC : TC P f args [] res []) (hf : callable P f = true) (hargs : argsT s.H [] (xs.toList.map (opV n s)) = some args) (hop : ∀ k, opn k res = (res, [])) (hnr : noH res = true) (hv : (xs.toList.map (opV n s)).flatMap (viewsT []) = [] ∨ noRo res = true)
    (h : K (St.put s d res)) : TWoH P n ⟨d, .call ⟨.value (.func f), xs, tys⟩, ty, pos, af, g⟩ K .mk s := TWoH.call hTC hf hargs hnr hv fun k _ => by rw [hop]; exact h
/-- A call that lends objects. -/
theorem TWoH.lend (ρ : List Nat) (hTC : TC P f args objs res objs') (hf : callable P f = true) (hargs : argsT s.H ρ (xs.toList.map (opV n s)) = some args) (hobj : ρ.map s.H = objs.map some) (hρ : ρ.Nodup) (hnh : noHL objs = true)
    (hk : objs'.all isObjA = true) (hnr : noHL (res :: objs') = true) (hv : (xs.toList.map (opV n s)).flatMap (viewsT ρ) = [] ∨ noRoL (res :: objs') = true)
    (h : ∀ k, (∀ j, k ≤ j → s.H j = none) → K (St.put ⟨s.σ, updL (setObjs s.H ρ objs') k (opn k res).2⟩ d (opn k res).1)) : TWoH P n ⟨d, .call ⟨.value (.func f), xs, tys⟩, ty, pos, af, g⟩ K .mk s := TWo.call rfl hf hargs hobj hρ hnh hTC hk hnr hv h
end
theorem TWcH.regionD {n : Nat} {ρ : List Nat} {Q : Post} {s : St} {id : Nat} {l : List Oper} (π : List Nat) (nl : Nat) (hm : P.follows .mixedOrders = true)
    (hB : (Region.noSelect l.toArray && exB l.toArray nl && schedB .any l.toArray nl true (Array.replicate l.toArray.size false) π && π.length == l.toArray.size) = true) (h : tlD P n ρ l.toArray nl π (Q .normal) s) : TWcH P n (.region id l.toArray true) Q .mk s := TWc.regionD π nl hm hB h
theorem TWcH.loop {n : Nat} (ρ : List Nat) {Q : Post} {s : St} {c : Code} (I : Nat → St → Prop) (m : Nat) (h0 : I m s) (round : ∀ m s, I m s → tw P n ρ c (Qthen (fun s' => ∃ m', m' < m ∧ I m' s') Q) s) : TWcH P n (.loop c) Q .mk s := TWc.loop I (m := m) h0 fun m s h => tw_sound (round m s h)
theorem TWcH.to {n : Nat} {Q : Post} {s : St} {c : Code} (h : TWc P n c Q s) : TWcH P n c Q .mk s := h
end Go.Proofs.YtdomnlnanbekaaaGreatDoor.T

namespace Go.Proofs.YtdomnlnanbekaaaGreatDoor.T
section
variable {P : Program} {t : TypeId} {k : IntKind} {a b : Int} {x y : ByteArray} {p q : Bool}
@[simp] theorem bt_add : binTV P .add t (.val (.int k a)) (.val (.int k b)) = some (.val (.int k (k.wrap (a + b)))) := by simp [binTV, binV]
@[simp] theorem bt_sub : binTV P .sub t (.val (.int k a)) (.val (.int k b)) = some (.val (.int k (k.wrap (a - b)))) := by simp [binTV, binV]
@[simp] theorem bt_mul : binTV P .mul t (.val (.int k a)) (.val (.int k b)) = some (.val (.int k (k.wrap (a * b)))) := by simp [binTV, binV]
@[simp] theorem bt_quo : binTV P .quo t (.val (.int k a)) (.val (.int k b)) = if b = 0 then none else some (.val (.int k (k.wrap (a.tdiv b)))) := by simp only [binTV, binV, if_true]; split <;> rfl
@[simp] theorem bt_rem : binTV P .rem t (.val (.int k a)) (.val (.int k b)) = if b = 0 then none else some (.val (.int k (a.tmod b))) := by simp only [binTV, binV, if_true]; split <;> rfl
@[simp] theorem bt_xor : binTV P .xor t (.val (.int k a)) (.val (.int k b)) = some (.val (.int k (k.wrap (BitVec.ofInt k.bits a ^^^ BitVec.ofInt k.bits b).toNat))) := by simp [binTV, binV]
@[simp] theorem bt_eql : binTV P .eql t (.val (.int k a)) (.val (.int k b)) = some (.val (.bool (decide (a = b)))) := by simp [binTV, binV]; rfl
@[simp] theorem bt_neq : binTV P .neq t (.val (.int k a)) (.val (.int k b)) = some (.val (.bool (decide (a ≠ b)))) := by simp [binTV, binV, bne]; rfl
@[simp] theorem bt_lss : binTV P .lss t (.val (.int k a)) (.val (.int k b)) = some (.val (.bool (decide (a < b)))) := by simp [binTV, binV]
@[simp] theorem bt_leq : binTV P .leq t (.val (.int k a)) (.val (.int k b)) = some (.val (.bool (decide (a ≤ b)))) := by simp [binTV, binV]
@[simp] theorem bt_gtr : binTV P .gtr t (.val (.int k a)) (.val (.int k b)) = some (.val (.bool (decide (b < a)))) := by simp [binTV, binV]
@[simp] theorem bt_geq : binTV P .geq t (.val (.int k a)) (.val (.int k b)) = some (.val (.bool (decide (b ≤ a)))) := by simp [binTV, binV]
@[simp] theorem bt_sadd : binTV P .add t (.val (.string x)) (.val (.string y)) = if ((x.size + y.size : Nat) : Int) > 9223372036854775807 then none else some (.val (.string (x ++ y))) := by simp only [binTV, binV]; split <;> rfl
@[simp] theorem bt_seql : binTV P .eql t (.val (.string x)) (.val (.string y)) = some (.val (.bool (decide (x.toList = y.toList)))) := by
  have : (x.toList == y.toList) = decide (x.toList = y.toList) := by rw [Bool.eq_iff_iff]; simp
  simp only [binTV, binV, this]; rfl
@[simp] theorem bt_sneq : binTV P .neq t (.val (.string x)) (.val (.string y)) = some (.val (.bool (!decide (x.toList = y.toList)))) := by
  have : (x.toList == y.toList) = decide (x.toList = y.toList) := by rw [Bool.eq_iff_iff]; simp
  simp only [binTV, binV, this]; rfl
@[simp] theorem bt_slss : binTV P .lss t (.val (.string x)) (.val (.string y)) = some (.val (.bool (Op.bytesLess x.toList y.toList))) := by simp [binTV, binV]
@[simp] theorem bt_beql : binTV P .eql t (.val (.bool p)) (.val (.bool q)) = if isBoolT P t then some (.val (.bool (p == q))) else none := by simp only [binTV, binV]; split <;> rfl
@[simp] theorem bt_bneq : binTV P .neq t (.val (.bool p)) (.val (.bool q)) = if isBoolT P t then some (.val (.bool (!(p == q)))) else none := by simp only [binTV, binV]; split <;> rfl
@[simp] theorem bt_aeql {xs ys : List TV} : binTV P .eql t (.agg xs) (.agg ys) = (aggEq P t xs ys).map fun b => .val (.bool b) := ok rfl
@[simp] theorem bt_aneq {xs ys : List TV} : binTV P .neq t (.agg xs) (.agg ys) = (aggEq P t xs ys).map fun b => .val (.bool !b) := ok rfl
@[simp] theorem un_not : unV .not (.bool p) = some (.bool !p) := ok rfl
@[simp] theorem un_neg : unV .neg (.int k a) = some (.int k (k.wrap (0 - a))) := ok rfl
end
@[simp] theorem upd_at (H : Nat → Option TV) (i : Nat) (t : TV) (j : Nat) : upd H i t j = if j = i then some t else H j := ok rfl
@[simp] theorem del_at (H : Nat → Option TV) (i j : Nat) : del H i j = if j = i then none else H j := ok rfl
theorem wrapi {a : Int} (h : -9223372036854775808 ≤ a ∧ a ≤ 9223372036854775807) : IntKind.i64.wrap a = a := by rw [IntKind.wrap_i64]; omega
theorem getI {α : Type _} {l : List α} {i : Nat} (h : i < l.length) : l[i]? = some l[i] := List.getElem?_eq_getElem h
theorem getMap {α β : Type _} {f : α → β} {l : List α} {i : Nat} (h : i < l.length) : (l.map f)[i]? = some (f l[i]) := by rw [List.getElem?_map, getI h]; rfl
attribute [simp] TV.pc TV.cell Value.oneCell' cellsOf isBoolT lenTV ixTV fdTV ldTV cellsAt cut TV.plain indexTV sliceTV optI convTV buildTV closeR closeT closeL resTV noH noHL noHR noRo noRoL noRoR opn opnL updL setObjs argT1 argTL argT argsT views1 viewsT stoTV isObj isObjA toRo roL roRows
end Go.Proofs.YtdomnlnanbekaaaGreatDoor.T

namespace Go.Proofs.YtdomnlnanbekaaaGreatDoor.T
set_option linter.unusedVariables false
set_option linter.unusedSimpArgs false
open Go.RowKit
/-- A schedule that branches: an operation that may be taken first, or all that may come up. -/
inductive Sch where
  | fin
  | first (i : Nat) (k : Sch)
  | pick (i : Nat) (k : Sch) (more : Sch)
def Sch.alts : Sch → List Nat
  | .pick i _ more => i :: more.alts
  | _ => []
def Sch.depth : Sch → Nat
  | .fin => 0
  | .first _ k => k.depth + 1
  | .pick _ k more => max (k.depth + 1) more.depth
mutual
def schB (ops : Array Oper) : Array Bool → Sch → Bool
  | listed, .fin => (Region.ready .any ops listed).isEmpty
  | listed, .first i k => (match ops[i]? with
    | some o => pureB o.op && !heapB o.op
    | none => false) && Region.free .any ops listed i && (Region.ready .any ops listed).contains i && schB ops (listed.setIfInBounds i true) k
  | listed, .pick i k more => (Region.ready .any ops listed == i :: more.alts) && schB ops (listed.setIfInBounds i true) k && altB ops listed more
def altB (ops : Array Oper) : Array Bool → Sch → Bool
  | listed, .pick i k more => schB ops (listed.setIfInBounds i true) k && altB ops listed more
  | _, .fin => true
  | _, .first _ _ => false
end
mutual
def tlB (P : Program) (n : Nat) (ρ : List Nat) (ops : Array Oper) : Sch → (St → Prop) → St → Prop
  | .fin, K, s => K s
  | .first i k, K, s => gop ops[i]? (tlO P n ρ ops true (tlB P n ρ ops k K) s) .mk
  | .pick i k more, K, s => gop ops[i]? (tlO P n ρ ops true (tlB P n ρ ops k K) s) .mk ∧ tlA P n ρ ops more K s
def tlA (P : Program) (n : Nat) (ρ : List Nat) (ops : Array Oper) : Sch → (St → Prop) → St → Prop
  | .pick i k more, K, s => gop ops[i]? (tlO P n ρ ops true (tlB P n ρ ops k K) s) .mk ∧ tlA P n ρ ops more K s
  | _, _, _ => True
end
section
variable {P : Program} {n : Nat} {ρ : List Nat} {ops : Array Oper} {K : St → Prop} {C : Ctx} {s : St} {a : Act} {e : Env} {FH : Nat → Foot} {Q : Post} {i : Nat} {k more : Sch}
theorem gop_get {x : Option Oper} {A : Oper → Prop} {h : Hd A} (hx : gop x A h) : ∃ o, x = some o ∧ A o := by
  cases x with
  | none => exact hx.elim
  | some o => exact ⟨o, rfl, hx⟩
/-- One operation, whichever it is. -/
theorem tlO_wp {o : Oper} {Qe : Exit → Act → World → Prop} {J : Act → World → Prop} {K' : St → Prop} (ho : ops[i]? = some o) (h : tlO P n ρ ops true K' s o) (hn : a.tmps.size = n) (hX : RelX P C s a e FH) (hJ : ∀ a' w' s', K' s' → Rel P C n s' a' w' → J a' w') :
    wpOp P ops Qe i J a e.w := by
  have hput : ∀ {t : TV} {v : Value}, Rep P e t v noF → Rel P C n (s.put o.dst t) (a.put o.dst v) e.w := by
    intro t v hr
    cases hd : o.dst with
    | none => exact Rel.of hn hX
    | some d => exact Rel.of (by simpa [Act.put] using hn) (hX.set d hr)
  unfold tlO at h
  cases hg : gd n s ops o with
  | none => rw [hg] at h; exact h.elim
  | some b =>
    have hwant := gd_sound (Rel.of hn hX) hg
    rw [hg] at h
    unfold wpOp
    cases b with
    | false =>
      simp only [ggd_some, Bool.false_eq_true, gif_false] at h
      simp only [ho, hwant, Bool.false_eq_true, if_false]
      exact hJ _ _ _ h (hput (by simp only [Rep, RepL]; exact ⟨[], rfl, rfl, emp_noF⟩))
    | true =>
      simp only [ggd_some, gif_true] at h
      simp only [ho, hwant, if_true]
      left
      cases hp : pureV P n s o with
      | some r =>
        rw [hp] at h
        obtain ⟨v, hany, hsame, hrep⟩ := pure_sound2 hX hn hp
        unfold Oper.wp
        rw [hsame _ (Same.refl e FH)]
        exact hJ _ _ _ h (hput hrep)
      | none =>
        rw [hp] at h
        by_cases hpb : pureB o.op = true
        · rw [gpv_none, gif_pos hpb] at h; exact h.elim
        · rw [gpv_none, gif_neg hpb] at h
          exact tlE_o h C a e.w _ _ (Rel.of hn hX) hJ
theorem anyE_of_alts {listed : Array Bool} {fuel : Nat} {S : World → Prop} (hr : ∀ i ∈ Region.ready .any ops listed, wpOp P ops (QN P C n K) i (fun a' w' => (i ≠ ops.size → S w') ∧ anyE P .any ops (QN P C n K) S ops.size fuel (listed.setIfInBounds i true) a' w') a e.w) (hne : Region.ready .any ops listed ≠ []) :
    anyE P .any ops (QN P C n K) S ops.size (fuel + 1) listed a e.w := ⟨fun h => absurd h hne, hr⟩
mutual
theorem tlB_sound (hs : Region.noSelect ops = true) : ∀ (S : Sch) (fuel : Nat) (listed : Array Bool) (s : St) (a : Act) (w : World), schB ops listed S = true → S.depth ≤ fuel → HeadInv .any ops ops.size listed → Rel P C n s a w → tlB P n ρ ops S K s →
    anyE P .any ops (QN P C n K) (fun _ => True) ops.size fuel listed a w
  | .fin, fuel, listed, s, a, w, hB, hd, inv, hr, h => by
    simp only [schB, List.isEmpty_iff] at hB
    simp only [tlB] at h
    cases fuel with
    | zero => exact ⟨hB, s, h, hr⟩
    | succ fuel => exact ⟨fun _ => ⟨s, h, hr⟩, fun i hi => by rw [hB] at hi; cases hi⟩
  | .first i k, 0, listed, s, a, w, hB, hd, inv, hr, h => by simp only [Sch.depth] at hd; omega
  | .first i k, fuel + 1, listed, s, a, w, hB, hd, inv, hr, h => by
    simp only [Sch.depth] at hd
    simp only [tlB] at h
    obtain ⟨o, ho, h⟩ := gop_get h
    simp only [schB, ho, Bool.and_eq_true, Bool.not_eq_true'] at hB
    obtain ⟨⟨⟨⟨hp, hh⟩, hf⟩, hc⟩, hk⟩ := hB
    have hready : i ∈ Region.ready .any ops listed := by simpa using hc
    have hil : i < ops.size := ready_lt hready
    obtain ⟨hn, e, FH, rfl, hX⟩ := hr
    have hput : ∀ {t : TV} {v : Value}, Rep P e t v noF → Rel P C n (s.put o.dst t) (a.put o.dst v) e.w := by
      intro t v hr
      cases hd : o.dst with
      | none => exact Rel.of hn hX
      | some d => exact Rel.of (by simpa [Act.put] using hn) (hX.set d hr)
    have fin : ∀ {t : TV} {v : Value}, Rep P e t v noF → tlB P n ρ ops k K (s.put o.dst t) → YieldsIf P ops (fun _ => True) o v a → anyE P .any ops (QN P C n K) (fun _ => True) ops.size (fuel + 1) listed a e.w := by
      intro t v hr ht hy
      exact anyE_take ho hs hf hc (fun c a w x => x) (by omega) hil (fun l _ _ hm => by have := ready_lt hm; omega) inv hy trivial (tlB_sound hs k fuel _ _ _ _ hk (by omega) (inv.set hready hil) (hput hr) ht)
    unfold tlO at h
    cases hg : gd n s ops o with
    | none => rw [hg] at h; exact h.elim
    | some b =>
      have hwant := gd_sound (Rel.of hn hX) hg
      rw [hg] at h
      cases b with
      | false =>
        simp only [ggd_some, Bool.false_eq_true, gif_false] at h
        exact fin (t := .tup []) (v := undef) (by simp only [Rep, RepL]; exact ⟨[], rfl, rfl, emp_noF⟩) h (.inr ⟨hwant, rfl⟩)
      | true =>
        simp only [ggd_some, gif_true] at h
        cases hpv : pureV P n s o with
        | some r =>
          rw [hpv] at h
          obtain ⟨v, hany, hsame, hrep⟩ := pure_sound2 hX hn hpv
          exact fin hrep h (.inl ⟨hwant, fun w _ => hany hh w⟩)
        | none =>
          rw [hpv, gpv_none, gif_pos hp] at h
          exact h.elim
  | .pick i k more, 0, listed, s, a, w, hB, hd, inv, hr, h => by simp only [Sch.depth] at hd; omega
  | .pick i k more, fuel + 1, listed, s, a, w, hB, hd, inv, hr, h => by
    simp only [Sch.depth] at hd
    simp only [tlB] at h
    simp only [schB, Bool.and_eq_true, beq_iff_eq] at hB
    obtain ⟨⟨hrd, hk⟩, hm⟩ := hB
    obtain ⟨hn, e, FH, rfl, hX⟩ := hr
    refine anyE_of_alts (fun j hj => ?_) (by rw [hrd]; simp)
    have hj0 := hj
    rw [hrd] at hj
    rcases List.mem_cons.1 hj with rfl | hj
    · obtain ⟨o, ho, h1⟩ := gop_get h.1
      exact tlO_wp ho h1 hn hX fun a' w' s' hs' hr' => ⟨fun _ => trivial, tlB_sound hs k fuel _ _ _ _ hk (by omega) (inv.set hj0 (ready_lt hj0)) hr' hs'⟩
    · exact tlA_sound hs more fuel listed s a e FH hm (by omega) inv hn hX h.2 j hj hj0
theorem tlA_sound (hs : Region.noSelect ops = true) : ∀ (S : Sch) (fuel : Nat) (listed : Array Bool) (s : St) (a : Act) (e : Env) (FH : Nat → Foot), altB ops listed S = true → S.depth ≤ fuel + 1 → HeadInv .any ops ops.size listed → a.tmps.size = n → RelX P C s a e FH → tlA P n ρ ops S K s →
    ∀ j ∈ S.alts, j ∈ Region.ready .any ops listed → wpOp P ops (QN P C n K) j (fun a' w' => (j ≠ ops.size → True) ∧ anyE P .any ops (QN P C n K) (fun _ => True) ops.size fuel (listed.setIfInBounds j true) a' w') a e.w
  | .fin, fuel, listed, s, a, e, FH, hB, hd, inv, hn, hX, h => by intro j hj; cases hj
  | .first _ _, fuel, listed, s, a, e, FH, hB, hd, inv, hn, hX, h => by intro j hj; cases hj
  | .pick i k more, fuel, listed, s, a, e, FH, hB, hd, inv, hn, hX, h => by
    intro j hj hj0
    simp only [Sch.depth] at hd
    simp only [tlA] at h
    simp only [altB, Bool.and_eq_true] at hB
    rcases List.mem_cons.1 hj with rfl | hj
    · obtain ⟨o, ho, h1⟩ := gop_get h.1
      exact tlO_wp ho h1 hn hX fun a' w' s' hs' hr' => ⟨fun _ => trivial, tlB_sound hs k fuel _ _ _ _ hB.1 (by omega) (inv.set hj0 (ready_lt hj0)) hr' hs'⟩
    · exact tlA_sound hs more fuel listed s a e FH hB.2 (by omega) inv hn hX h.2 j hj hj0
end
theorem TWcH.regionB {id : Nat} {l : List Oper} (S : Sch) (hm : P.follows .mixedOrders = true)
    (hB : (Region.noSelect l.toArray && schB l.toArray (Array.replicate l.toArray.size false) S && decide (S.depth ≤ l.toArray.size)) = true) (h : tlB P n ρ l.toArray S (Q .normal) s) : TWcH P n (.region id l.toArray true) Q .mk s := fun C a w hr => by
  simp only [Bool.and_eq_true, decide_eq_true_eq] at hB
  obtain ⟨⟨hs, hsch⟩, hlen⟩ := hB
  obtain ⟨hn, e, FH, rfl, hX⟩ := hr
  have hX' : RelX P C s a ⟨{ e.w with drawn := e.w.drawn + 1 }, e.Z, e.N, e.η⟩ FH := by
    have g : Grow e.w { e.w with drawn := e.w.drawn + 1 } (fun _ => False) := ⟨rfl, rfl, rfl, Nat.le_refl _, fun _ _ _ => rfl⟩
    exact hX.world (Z' := e.Z) (X := fun _ => False) g (fun b x => x.elim) (fun b x => x) (fun b x => .inl x) hX.ltZ
  have inv : HeadInv .any l.toArray l.toArray.size (Array.replicate l.toArray.size false) := by
    refine ⟨by simp, fun j oj _ hl => ?_, fun t ht ht' => ?_⟩
    · rw [getD_replicate_false] at hl; cases hl
    · simp at ht'; simp [ht']
  have := tlB_sound (P := P) (n := n) (K := Q .normal) (C := C) hs S l.toArray.size _ s a { e.w with drawn := e.w.drawn + 1 } hsch hlen inv (Rel.of hn hX') h
  refine wp_mono (wp_region_any hm (any_of_E _ _ _ _ this)) ?_
  rintro x a w hx
  cases x with
  | normal => exact hx
  | _ => exact hx.elim
end
section
variable {P : Program} {n : Nat} {ρ : List Nat} {ops : List Oper} {K : St → Prop} {s : St} {i : Nat} {k more : Sch}
@[simp ↓] theorem tlB_fin : tlB P n ρ ops.toArray .fin K s = K s := ok rfl
@[simp ↓] theorem tlB_first : tlB P n ρ ops.toArray (.first i k) K s = gop ops[i]? (tlO P n ρ ops.toArray true (tlB P n ρ ops.toArray k K) s) .mk := by simp only [tlB, List.getElem?_toArray]
@[simp ↓] theorem tlB_pick : tlB P n ρ ops.toArray (.pick i k more) K s = (gop ops[i]? (tlO P n ρ ops.toArray true (tlB P n ρ ops.toArray k K) s) .mk ∧ tlA P n ρ ops.toArray more K s) := by simp only [tlB, List.getElem?_toArray]
@[simp ↓] theorem tlA_pick : tlA P n ρ ops.toArray (.pick i k more) K s = (gop ops[i]? (tlO P n ρ ops.toArray true (tlB P n ρ ops.toArray k K) s) .mk ∧ tlA P n ρ ops.toArray more K s) := by simp only [tlA, List.getElem?_toArray]
@[simp ↓] theorem tlA_fin : tlA P n ρ ops.toArray .fin K s = True := ok rfl
end
theorem TWcH.midB {P : Program} {n : Nat} {ρ : List Nat} {Q : Post} {s : St} {id : Nat} {l : List Oper} (M : St → Prop) (S : Sch) (hm : P.follows .mixedOrders = true)
    (hB : (Region.noSelect l.toArray && schB l.toArray (Array.replicate l.toArray.size false) S && decide (S.depth ≤ l.toArray.size)) = true) (h : tlB P n ρ l.toArray S M s) (hM : ∀ s, M s → Q .normal s) : TWcH P n (.region id l.toArray true) Q .mk s :=
  TWc.mono (TWcH.regionB (ρ := ρ) (Q := fun x s => x = .normal ∧ M s) S hm hB (by
    have e : (fun s => (Exit.normal = Exit.normal ∧ M s)) = M := funext fun s => by simp
    show tlB P n ρ l.toArray S (fun s => (Exit.normal = Exit.normal ∧ M s)) s
    rw [e]; exact h)) (by rintro x s ⟨rfl, hx⟩; exact hM s hx)
end Go.Proofs.YtdomnlnanbekaaaGreatDoor.T

namespace Go.Proofs.YtdomnlnanbekaaaGreatDoor.T
set_option linter.unusedVariables false
section
variable {P : Program} {n : Nat} {s : St} {K : St → Prop} {f : FuncId} {xs : Array Operand} {tys : Array TypeId} {args objs : List TV} {R : TV → List TV → Prop} {d : Option Tmp} {ty : TypeId} {pos : String} {af : Array Edge} {g : Option (Nat × Bool)}
theorem TWoH.lendR (ρ : List Nat) (hTC : TCR P f args objs R) (hf : callable P f = true) (hargs : argsT s.H ρ (xs.toList.map (opV n s)) = some args) (hobj : ρ.map s.H = objs.map some) (hρ : ρ.Nodup) (hnh : noHL objs = true)
    (hR : ∀ res objs', R res objs' → objs'.all isObjA = true ∧ noHL (res :: objs') = true ∧ ((xs.toList.map (opV n s)).flatMap (viewsT ρ) = [] ∨ noRoL (res :: objs') = true) ∧
      ∀ k, (∀ j, k ≤ j → s.H j = none) → K (St.put ⟨s.σ, updL (setObjs s.H ρ objs') k (opn k res).2⟩ d (opn k res).1)) : TWoH P n ⟨d, .call ⟨.value (.func f), xs, tys⟩, ty, pos, af, g⟩ K .mk s := fun C a w J Q hr hkk => by
  obtain ⟨hn, e, FH, rfl, hX⟩ := hr
  exact call_coreR rfl hf hargs hobj hρ hnh hTC hR hn hX fun a' w' s' h1 h2 _ => hkk a' w' s' h1 h2
theorem TWqH.callR (hTC : TCR P f args [] R) (hf : callable P f = true) (hargs : argsT s.H [] (xs.toList.map (opV n s)) = some args)
    (hR : ∀ res objs', R res objs' → objs' = [] ∧ noH res = true ∧ ((xs.toList.map (opV n s)).flatMap (viewsT []) = [] ∨ noRo res = true) ∧
      ∀ k, (∀ j, k ≤ j → s.H j = none) → K (St.put ⟨s.σ, updL s.H k (opn k res).2⟩ d (opn k res).1)) : TWqH P n ⟨d, .call ⟨.value (.func f), xs, tys⟩, ty, pos, af, g⟩ K .mk s := fun C a e FH hn hX J Q hj =>
  call_coreR (ρ := []) rfl hf hargs rfl List.nodup_nil rfl hTC (fun r o hr => by
    obtain ⟨rfl, h1, h2, h3⟩ := hR r o hr
    exact ⟨rfl, by simp [noHL, h1], h2.imp (fun x => x) (fun x => by simp [noRoL, x]), by simpa [setObjs] using h3⟩) hn hX fun a' w' s' h1 _ h2 => hj a' w' s' h1 (h2 rfl)
theorem TWoH.callR (hTC : TCR P f args [] R) (hf : callable P f = true) (hargs : argsT s.H [] (xs.toList.map (opV n s)) = some args)
    (hR : ∀ res objs', R res objs' → objs' = [] ∧ noH res = true ∧ ((xs.toList.map (opV n s)).flatMap (viewsT []) = [] ∨ noRo res = true) ∧
      ∀ k, (∀ j, k ≤ j → s.H j = none) → K (St.put ⟨s.σ, updL s.H k (opn k res).2⟩ d (opn k res).1)) : TWoH P n ⟨d, .call ⟨.value (.func f), xs, tys⟩, ty, pos, af, g⟩ K .mk s := (TWqH.callR hTC hf hargs hR).toO
end

section
variable {P : Program} {n : Nat} {Q : Post} {s : St} {C : Ctx} {a : Act} {w : World} {e : Env} {FH : Nat → Foot}
theorem RepL.at_ {ts : List TV} {vs : List Value} {F : Foot} {i : Nat} {t : TV} (h : RepL P e ts vs F) (hi : ts[i]? = some t) : ∃ v F1, vs[i]? = some v ∧ Rep P e t v F1 ∧ Sub F1 F := RepL.get h hi
theorem set_same {α : Type _} {l : List α} {i : Nat} {x : α} (h : l[i]? = some x) : l.set i x = l := by
  apply List.ext_getElem?
  intro j
  rw [List.getElem?_set]
  split
  · rename_i e; subst e
    split
    · exact h.symm
    · rename_i h2; rw [List.getElem?_eq_none (by omega)]
  · rfl
/-- A cell of an own row may read otherwise, so long as its value is the same. -/
theorem own_swap {E : Nat} {rows : List (List TV)} {v : Value} {F : Foot} {r c : Nat} {row : List TV} {t2 : TV} (h : Rep P e (.own E rows) v F) (hrow : rows[r]? = some row) (hc : row[c]? = some t2) :
    ∃ u F1 F2, Rep P e t2 u F1 ∧ Spl F F1 F2 ∧ u.oneCell' = true ∧ (∃ g cap, v = .slice (some ⟨g, 0, none⟩) rows.length cap ∧ e.w.cell? ⟨g, 0 + (r * szOf P E + c), none⟩ = some u) ∧ ∀ t' F1', Rep P e t' u F1' → Dis F1' F2 → ∃ F', Rep P e (.own E (rows.set r (row.set c t'))) v F' ∧ Spl F' F1' F2 := by
  simp only [Rep] at h
  obtain ⟨vs, G, ho, hz, hr, h1, hs⟩ := h
  obtain ⟨v1, v2, v3, G1, G2, rfl, hl1, hrow', hsp, hput⟩ := RepRows.focus hr hz hrow
  obtain ⟨u, F1, F2, hu, hrep, hsp2, hput2⟩ := RepL.focus hrow' hc
  have hs1 : Spl F F1 (Uni (OwnF v (rows.length * szOf P E)) (Uni F2 G2)) := by
    refine ⟨fun b m => ?_, ?_⟩
    · rw [hs.iff, hsp.iff, hsp2.iff]; unfold Uni
      constructor
      · rintro (x | (x | x) | x)
        · exact .inr (.inl x)
        · exact .inl x
        · exact .inr (.inr (.inl x))
        · exact .inr (.inr (.inr x))
      · rintro (x | x | x | x)
        · exact .inr (.inl (.inl x))
        · exact .inl x
        · exact .inr (.inl (.inr x))
        · exact .inr (.inr x)
    · rintro b m m' hx (x | x | x)
      · exact hs.dis b m' m x (hsp.l b m (hsp2.l b m hx))
      · exact hsp2.dis b m m' hx x
      · exact hsp.dis b m m' (hsp2.l b m hx) x
  have hone : u.oneCell' = true := h1 u (by
    have : u ∈ v2 := List.mem_of_getElem? hu
    simp [this])
  have hcell : ∃ g cap, v = .slice (some ⟨g, 0, none⟩) rows.length cap ∧ e.w.cell? ⟨g, 0 + (r * szOf P E + c), none⟩ = some u := by
    rcases ownsRow_cells ho with ⟨rfl, hn, _⟩ | ⟨g, cap, hv, _, hcs⟩
    · rw [List.eq_nil_of_length_eq_zero hn] at hrow; simp at hrow
    · refine ⟨g, cap, hv, hcs _ _ ?_⟩
      rw [List.append_assoc, List.getElem?_append_right (by omega), hl1, Nat.add_sub_cancel_left, List.getElem?_append_left]
      · exact hu
      · exact (List.getElem?_eq_some_iff.1 hu).1
  refine ⟨u, F1, _, hrep, hs1, hone, hcell, fun t' F1' hr' hd => ?_⟩
  obtain ⟨F3, hr3, hs3⟩ := hput2 t' u F1' hr' (hd.sub (fun _ _ h => h) fun b m h => .inr (.inl h))
  rw [set_same hu] at hr3
  obtain ⟨F4, hr4, hs4⟩ := hput _ _ F3 hr3 (by
    intro b m m' hb hb'
    rcases (hs3.iff b m).1 hb with hb | hb
    · exact hd b m m' hb (.inr (.inr hb'))
    · exact hsp.dis b m m' (hsp2.r b m hb) hb')
  have hdis : Dis (OwnF v (rows.length * szOf P E)) F4 := by
    intro b m m' hb hb'
    rcases (hs4.iff b m').1 hb' with hb' | hb'
    · rcases (hs3.iff b m').1 hb' with hb' | hb'
      · exact hd b m' m hb' (.inl hb)
      · exact hs.dis b m m' hb (hsp.l b m' (hsp2.r b m' hb'))
    · exact hs.dis b m m' hb (hsp.r b m' hb')
  refine ⟨Uni (OwnF v (rows.length * szOf P E)) F4, ?_, ?_⟩
  · simp only [Rep]
    refine ⟨_, F4, by simpa using ho, ?_, hr4, h1, by simpa using spl_uni hdis⟩
    intro q hq
    rcases List.mem_or_eq_of_mem_set hq with hq | rfl
    · exact hz q hq
    · rw [List.length_set]; exact hz row (List.mem_of_getElem? hrow)
  · refine ⟨fun b m => ?_, ?_⟩
    · show (_ ∨ _) ↔ _
      rw [hs4.iff, hs3.iff]; unfold Uni
      constructor
      · rintro (x | (x | x) | x)
        · exact .inr (.inl x)
        · exact .inl x
        · exact .inr (.inr (.inl x))
        · exact .inr (.inr (.inr x))
      · rintro (x | x | x | x)
        · exact .inr (.inl (.inl x))
        · exact .inl x
        · exact .inr (.inl (.inr x))
        · exact .inr (.inr x)
    · exact hd
theorem RelX.unfold (h : RelX P C s a e FH) {id E E2 r c : Nat} {rows rows2 : List (List TV)} {row : List TV} (hH : s.H id = some (.own E rows)) (hrow : rows[r]? = some row) (hc : row[c]? = some (.own E2 rows2)) :
    s.H e.N = none ∧ ∃ e' FH', e'.w = e.w ∧ RelX P C ⟨s.σ, Go.Proofs.YtdomnlnanbekaaaGreatDoor.T.upd (Go.Proofs.YtdomnlnanbekaaaGreatDoor.T.upd s.H id (.own E (rows.set r (row.set c (.hd e.N))))) e.N (.own E2 rows2)⟩ a e' FH' := by
  have hid := h.hdlt hH
  have h0 := h.objs id _ hH
  obtain ⟨u, _, _, _, _, hone, ⟨g, cap, hv, hcell⟩, _⟩ := own_swap h0 hrow hc
  have hks : ∀ {F : Foot}, Keep e ⟨e.w, e.Z, e.N + 1, ext e.η e.N u⟩ F := keep_same (fun b x => x) (Nat.le_succ _) ext_old
  obtain ⟨u', F1, F2, hu, hsp, hone', ⟨g', cap', hv', hcell'⟩, hput⟩ := own_swap (Rep.keep _ h0 (hks (F := FH id))) hrow hc
  obtain rfl : u' = u := by
    rw [hv] at hv'; injection hv' with e1; injection e1 with e1; injection e1 with e1; subst e1
    exact Option.some.inj (hcell'.symm.trans hcell)
  obtain ⟨F', hr', hs'⟩ := hput (.hd e.N) noF (hd_rep hone) (Dis.emp' emp_noF)
  refine ⟨h.top_none, ⟨e.w, e.Z, e.N + 1, ext e.η e.N u'⟩, ?_⟩
  obtain ⟨FH', hX⟩ := h.part hid hr' hu (.inl ⟨_, _, rfl⟩) (.inl ⟨_, _, rfl⟩) (by
    intro b m m' hb hb'
    rcases (hs'.iff b m).1 hb with hb | hb
    · exact hb
    · exact hsp.dis b m' m hb' hb) (by
    intro b m hb
    rcases (hs'.iff b m).1 hb with hb | hb
    · exact hb.elim
    · exact ⟨m, hsp.r b m hb⟩) (fun b m hb => ⟨m, hsp.l b m hb⟩)
  exact ⟨FH', rfl, hX⟩
theorem RelX.fold (h : RelX P C s a e FH) {id id2 E r c : Nat} {rows : List (List TV)} {row : List TV} {t2 : TV} (hne : id ≠ id2) (hH : s.H id = some (.own E rows)) (hrow : rows[r]? = some row) (hc : row[c]? = some (.hd id2)) (h2 : s.H id2 = some t2) :
    ∃ FH', RelX P C ⟨s.σ, Go.Proofs.YtdomnlnanbekaaaGreatDoor.T.upd (del s.H id2) id (.own E (rows.set r (row.set c t2)))⟩ a e FH' := by
  have hid := h.hdlt hH
  have h0 := h.objs id _ hH
  obtain ⟨u, F1, F2, hu, hsp, hone, _, hput⟩ := own_swap h0 hrow hc
  simp only [Rep] at hu
  obtain ⟨hE, hlt, rfl, _⟩ := hu
  obtain ⟨F', hr', hs'⟩ := hput t2 (FH id2) (h.objs id2 _ h2) (by
    intro b m m' hb hb'
    exact hne (h.one id id2 b m' m (hsp.r b m' hb') hb))
  refine h.join hne hid hr' (.inl ⟨_, _, rfl⟩) fun b m hb => ?_
  rcases (hs'.iff b m).1 hb with hb | hb
  · exact .inr ⟨m, hb⟩
  · exact .inl ⟨m, hsp.r b m hb⟩
/-- Code may be looked at from a state that names a cell's own row. -/
theorem TWc.unfold {c : Code} {id E E2 r k : Nat} {rows rows2 : List (List TV)} {row : List TV} (hH : s.H id = some (.own E rows)) (hrow : rows[r]? = some row) (hc : row[k]? = some (.own E2 rows2))
    (h : ∀ id2, s.H id2 = none → TWc P n c Q ⟨s.σ, Go.Proofs.YtdomnlnanbekaaaGreatDoor.T.upd (Go.Proofs.YtdomnlnanbekaaaGreatDoor.T.upd s.H id (.own E (rows.set r (row.set k (.hd id2))))) id2 (.own E2 rows2)⟩) : TWc P n c Q s := fun C a w hr => by
  obtain ⟨hn, e, FH, rfl, hX⟩ := hr
  obtain ⟨h1, e', FH', hw, hX'⟩ := hX.unfold hH hrow hc
  exact h e.N h1 C a e.w ⟨hn, e', FH', hw, hX'⟩
theorem Shift.refl : Shift P n s s := fun _ _ _ h => h
theorem Shift.trans {s1 s2 : St} (h : Shift P n s s1) (k : Shift P n s1 s2) : Shift P n s s2 := fun C a w x => k C a w (h C a w x)
theorem Shift.fold {id id2 E r c : Nat} {rows : List (List TV)} {row : List TV} {t2 : TV} (hne : id ≠ id2) (hH : s.H id = some (.own E rows)) (hrow : rows[r]? = some row) (hc : row[c]? = some (.hd id2)) (h2 : s.H id2 = some t2) :
    Shift P n s ⟨s.σ, Go.Proofs.YtdomnlnanbekaaaGreatDoor.T.upd (del s.H id2) id (.own E (rows.set r (row.set c t2)))⟩ := fun C a w hr => by
  obtain ⟨hn, e, FH, rfl, hX⟩ := hr
  obtain ⟨FH', hX'⟩ := hX.fold hne hH hrow hc h2
  exact ⟨hn, e, FH', rfl, hX'⟩
theorem Shift.drop (id : Nat) : Shift P n s ⟨s.σ, del s.H id⟩ := fun C a w hr => by
  obtain ⟨hn, e, FH, rfl, hX⟩ := hr
  exact ⟨hn, e, _, rfl, hX.drop id⟩
/-- At the end of code what is known may be put otherwise. -/
theorem TWc.post {c : Code} (h : TWc P n c (fun x s => ∃ s', Shift P n s s' ∧ Q x s') s) : TWc P n c Q s := fun C a w hr =>
  wp_mono (h C a w hr) fun x a' w' ⟨s1, ⟨s2, hs, hq⟩, hr1⟩ => ⟨s2, hq, hs C a' w' hr1⟩
/-- A loop, where a round ends but for a change of what is known. -/
theorem TWcH.loopS (ρ : List Nat) {c : Code} (I : Nat → St → Prop) (m : Nat) (h0 : I m s) (round : ∀ m s, I m s → TWc P n c (Qthen (fun s' => ∃ m' s'', m' < m ∧ Shift P n s' s'' ∧ I m' s'') Q) s) : TWcH P n (.loop c) Q .mk s :=
  TWc.loop (fun m s => ∃ s'', Shift P n s s'' ∧ I m s'') (m := m) ⟨s, .refl, h0⟩ fun m s ⟨s', hs, hI⟩ => TWc.shift hs ((round m s' hI).mono fun x s hx => by
    cases x
    · obtain ⟨m', s'', h1, h2, h3⟩ := hx
      exact ⟨m', h1, s'', h2, h3⟩
    all_goals exact hx)
end
end Go.Proofs.YtdomnlnanbekaaaGreatDoor.T

namespace Go.Proofs.YtdomnlnanbekaaaGreatDoor.T
set_option linter.unusedVariables false
section
variable {P : Program}
theorem run_firstCells' (w : World) (z k c : Nat) (A : Option Addr) (vs : List Value) (m : Nat) (hm : m ≤ k) (hl : vs.length = m * z) (hc : vs = [] ∨ ∃ b o, A = some ⟨b, o, none⟩ ∧ ∀ j u, vs[j]? = some u → w.cell? ⟨b, o + j, none⟩ = some u) :
    (Builtin.firstCells z m (.slice A k c)).run P w = .ok vs.toArray w := by
  cases A with
  | none =>
    have : vs = [] := by rcases hc with h | ⟨b, o, h, _⟩; exact h; cases h
    subst this
    simp [Builtin.firstCells]
  | some a =>
    have : ∀ j u, vs[j]? = some u → w.cell? (a.add j) = some u := by
      rcases hc with rfl | ⟨b, o, h, hcs⟩
      · intro j u hu; simp at hu
      · cases h; intro j u hu; rw [add_mk]; exact hcs j u hu
    have hl' := run_loadCells_list (P := P) w a vs this
    rw [hl] at hl'
    simp [Builtin.firstCells, hl']
theorem copy_run {w : World} {t E ty : TypeId} {v vy : Value} {k c : Nat} {A : Option Addr} {vs vs' : List Value} (ht : P.underlying t = some (.slice E)) (hz0 : 0 < szOf P E) (ho : w.ownsRow 0 E (szOf P E) v k vs)
    (hvy : vy = .slice A k c) (hl : vs'.length = k * szOf P E) (h1 : Ones vs') (hcs : vs' = [] ∨ ∃ b o, A = some ⟨b, o, none⟩ ∧ ∀ j u, vs'[j]? = some u → w.cell? ⟨b, o + j, none⟩ = some u) :
    ∃ w', (Builtin.copy_ #[t, t] ty #[v, vy]).run P w = .ok (goInt k) w' ∧ w'.ownsRow 0 E (szOf P E) v k vs' ∧ Grow w w' (fun b => v.ownBlock = some b) := by
  obtain ⟨ti, hti, hsz⟩ := info_of_sz hz0
  subst hvy
  have hfc := run_firstCells' (P := P) w (szOf P E) k c A vs' k (Nat.le_refl _) hl hcs
  rcases ho.2 with ⟨rfl, rfl⟩ | ⟨g, cap, cur, rfl, hb0, hg, hnc, hcm, hcsz, htake⟩
  · have : vs' = [] := List.eq_nil_of_length_eq_zero (by simpa using hl)
    subst this
    refine ⟨w, ?_, ⟨by simp, .inl ⟨rfl, rfl⟩⟩, Grow.refl _ _⟩
    simp [Builtin.copy_, run_underlying ht, Builtin.lenOf, sizeOf, typeInfo, hti, hsz, hfc]
  · have hfit : vs'.length ≤ cur.size := by rw [hl, hcsz]; exact Nat.mul_le_mul_right _ hnc
    have hst := run_storeCells_at P g 0 E vs' 0 cur w hg (by simpa using hfit) h1
    refine ⟨w.setRow g (cur.toList.take (0 + 0) ++ vs' ++ cur.toList.drop (0 + 0 + vs'.length)).toArray, ?_, ?_, ?_⟩
    · simp [Builtin.copy_, run_underlying ht, Builtin.lenOf, sizeOf, typeInfo, hti, hsz, hfc]
      have hst' := hst
      simp only [Nat.zero_add, List.take_zero, List.nil_append] at hst'
      simp [hst']
    · refine ⟨hl, .inr ⟨g, cap, _, rfl, hb0, setRow_here hg, hnc, hcm, ?_, ?_⟩⟩
      · have := Array.length_toList (xs := cur)
        simp; omega
      · simp [hl]
    · exact (grow_setRow g _).mono fun b hb => by subst hb; rfl
end
section
variable {P : Program} {n : Nat} {K : St → Prop} {s : St}
theorem TWo.copy {o : Oper} {t E : TypeId} {x y : Operand} {id : Nat} {rows rows' : List (List TV)} (ho : o.op = .call { callee := .builtin .copy, args := #[x, y], argTypes := #[t, t] }) (ht : P.underlying t = some (.slice E)) (hz0 : 0 < szOf P E)
    (hx : opV n s x = .hd id) (hH : s.H id = some (.own E rows)) (hy : rowsOf s (opV n s y) = some rows') (hrl : ∀ r ∈ rows', r.length = szOf P E) (hll : rows'.length = rows.length)
    (h : K (St.put ⟨s.σ, upd s.H id (.own E rows')⟩ o.dst (.val (.int .i64 rows.length)))) : TWo P n o K s := TWo.grow fun C a e FH hn hX => by
  have hxr := opV_rep hX hn x
  rw [hx] at hxr
  simp only [Rep] at hxr
  obtain ⟨_, hid, hxv, _⟩ := hxr
  have hO := hX.objs id _ hH
  simp only [Rep] at hO
  obtain ⟨vs, F1, hown, hzz, hrr, h1, hs⟩ := hO
  obtain ⟨A, c, vs', hyv, hrr', h1', hcs⟩ := src_rep hX (opV_rep hX hn y) hy
  rw [hll] at hyv
  obtain ⟨w', hrun, hown', g⟩ := copy_run (P := P) (ty := o.type) ht hz0 hown hyv (by rw [hrr'.len hrl, hll]) h1' hcs
  have g' : Grow e.w w' (fun b => ∃ m, FH id b m) := g.mono fun b hb => ⟨_, hs.l b _ ⟨hb, rfl⟩⟩
  have hkeep : Keep e ⟨w', e.Z, e.N, e.η⟩ noF := ⟨fun b x => x, Nat.le_refl _, fun _ _ => rfl, fun b hb => g'.block b (hX.ltZ b hb) fun ⟨m, hm⟩ => hX.notZ id b m hm hb, fun b m hb => hb.elim⟩
  have hrep : Rep P ⟨w', e.Z, e.N, e.η⟩ (.own E rows') (e.η id) (OwnF (e.η id) (rows'.length * szOf P E)) := by
    simp only [Rep]
    exact ⟨vs', noF, by rw [hll]; exact hown', hrl, RepRows.keep rows' hrr' hkeep, h1', ⟨fun b m => ⟨.inl, fun x => x.elim (fun y => y) (fun y => y.elim)⟩, fun b m m' _ x => x.elim⟩⟩
  have hX' := hX.upd (i := id) (i' := id) (N' := e.N) (η' := e.η) g' (Nat.le_refl _) (fun _ _ => rfl) (.inl rfl) hid hrep (.inl ⟨_, _, rfl⟩) (fun b m hb => .inl ⟨_, hs.l b _ ⟨hb.1, rfl⟩⟩) (fun b m hb => Nat.lt_of_lt_of_le (hX.ltF id b _ (hs.l b _ ⟨hb.1, rfl⟩)) g'.size)
  rw [upd_del] at hX'
  refine ⟨_, w', _, ?_, h, .put hn hX' o.dst (by simp only [Rep]; exact ⟨emp_noF, rfl⟩)⟩
  unfold execOp
  rw [ho]
  simp [resolve, invoke, builtin, hxv, hrun, goInt]
theorem TWoH.copy {t ty E : TypeId} {pos : String} {af : Array Edge} {g : Option (Nat × Bool)} {d : Option Tmp} {x y : Operand} (id : Nat) (rows rows' : List (List TV)) (ht : P.underlying t = some (.slice E)) (hz0 : 0 < szOf P E)
    (hx : opV n s x = .hd id) (hH : s.H id = some (.own E rows)) (hy : rowsOf s (opV n s y) = some rows') (hrl : ∀ r ∈ rows', r.length = szOf P E) (hll : rows'.length = rows.length)
    (h : K (St.put ⟨s.σ, upd s.H id (.own E rows')⟩ d (.val (.int .i64 rows.length)))) : TWoH P n ⟨d, .call ⟨.builtin .copy, #[x, y], #[t, t]⟩, ty, pos, af, g⟩ K .mk s := TWo.copy rfl ht hz0 hx hH hy hrl hll h
@[simp] theorem pv_copy {xs : Array Operand} {tys : Array TypeId} {ty : TypeId} {pos : String} {af : Array Edge} {g : Option (Nat × Bool)} {d : Option Tmp} : pureV P n s ⟨d, .call ⟨.builtin .copy, xs, tys⟩, ty, pos, af, g⟩ = none := ok (by simp [pureV])
@[simp ↓] theorem tlE_copy {ρ : List Nat} {last : Bool} {x y : Operand} {tys : Array TypeId} {ty : TypeId} {pos : String} {af : Array Edge} {g : Option (Nat × Bool)} {d : Option Tmp} : tlE P n ρ last ⟨d, .call ⟨.builtin .copy, #[x, y], tys⟩, ty, pos, af, g⟩ K s = gif (last = true) (TWoH P n ⟨d, .call ⟨.builtin .copy, #[x, y], tys⟩, ty, pos, af, g⟩ K .mk s) (TWqH P n ⟨d, .call ⟨.builtin .copy, #[x, y], tys⟩, ty, pos, af, g⟩ K .mk s) .mk .mk := ok rfl
end
end Go.Proofs.YtdomnlnanbekaaaGreatDoor.T

namespace Go.Proofs.YtdomnlnanbekaaaGreatDoor.T
set_option linter.unusedVariables false
section
variable {P : Program} {n : Nat} {Q : Post} {s : St}
/-- What is known may be put so that A. -/
def Turn (P : Program) (n : Nat) (s : St) (A : St → Prop) : Prop := ∀ C a w, Rel P C n s a w → ∃ s', A s' ∧ Rel P C n s' a w
theorem Turn.same {A : St → Prop} (h : A s) : Turn P n s A := fun C a w hr => ⟨s, h, hr⟩
theorem Turn.shift {A : St → Prop} {s' : St} (hs : Shift P n s s') (h : A s') : Turn P n s A := fun C a w hr => ⟨s', h, hs C a w hr⟩
theorem Turn.then {A : St → Prop} (h : Turn P n s (fun s' => Turn P n s' A)) : Turn P n s A := fun C a w hr => by
  obtain ⟨s1, h1, r1⟩ := h C a w hr
  exact h1 C a w r1
theorem Turn.nil {A : St → Prop} (d E : Nat) (hd : s.σ d = .val (.slice none 0 0)) (h : ∀ id, s.H id = none → A ⟨set s.σ d (.hd id), upd s.H id (.own E [])⟩) : Turn P n s A := fun C a w hr => by
  obtain ⟨hn, e, FH, rfl, hX⟩ := hr
  have hv : ∀ {w' Z N η}, Rep P ⟨w', Z, N, η⟩ (.own E []) (.slice none 0 0) noF := by
    intro w' Z N η
    simp only [Rep]
    refine ⟨[], noF, ⟨by simp, .inl ⟨rfl, rfl⟩⟩, by simp, by simp [RepRows, emp_noF], by simp [Ones], ⟨fun b m => ⟨fun x => x.elim, fun x => x.elim (fun y => by have := y.1; cases this) (fun y => y)⟩, fun b m m' x _ => by have := x.1; cases this⟩⟩
  obtain ⟨FH', hX'⟩ := hX.fresh (w' := e.w) (t := .own E []) (v := .slice none 0 0) (F' := noF) (Grow.refl _ _) hv (.inl ⟨_, _, rfl⟩) (fun b m x => x.elim) (fun b m x => x.elim)
  refine ⟨_, h e.N hX.top_none, hn, ⟨e.w, e.Z, e.N + 1, ext e.η e.N (.slice none 0 0)⟩, FH', rfl, ?_⟩
  have hX2 := hX'.1
  refine { hX2 with slots := fun j hj => ?_ }
  by_cases e1 : j = d
  · subst e1
    have h0 := hX.slots j hj
    rw [hd] at h0
    simp only [Rep] at h0
    simp only [Go.Proofs.YtdomnlnanbekaaaGreatDoor.T.set, if_true, h0.2]
    exact hd_rep rfl
  · simp only [Go.Proofs.YtdomnlnanbekaaaGreatDoor.T.set, e1, if_false]
    exact hX2.slots j hj
theorem TWc.turn {c : Code} (h : Turn P n s (TWc P n c Q)) : TWc P n c Q s := fun C a w hr => by
  obtain ⟨s', h1, h2⟩ := h C a w hr
  exact h1 C a w h2
theorem TWcH.turn {c : Code} (h : Turn P n s (TWcH P n c Q .mk)) : TWcH P n c Q .mk s := TWc.turn h
theorem TWc.postT {c : Code} (h : TWc P n c (fun x s => Turn P n s (Q x)) s) : TWc P n c Q s := fun C a w hr =>
  wp_mono (h C a w hr) fun x a' w' ⟨s1, ht, hr1⟩ => by
    obtain ⟨s2, h2, r2⟩ := ht C a' w' hr1
    exact ⟨s2, h2, r2⟩
end
end Go.Proofs.YtdomnlnanbekaaaGreatDoor.T

namespace Go.Proofs.YtdomnlnanbekaaaGreatDoor.T
set_option linter.unusedVariables false
section
variable {P : Program} {n : Nat} {Q : Post} {s : St}
theorem Shift.fold1 {id k1 E r c1 : Nat} {rows : List (List TV)} {row : List TV} {t1 : TV} (h1 : id ≠ k1) (hH : s.H id = some (.own E rows)) (hrow : rows[r]? = some row) (hc1 : row[c1]? = some (.hd k1)) (g1 : s.H k1 = some t1) :
    ∃ H', H' id = some (.own E (rows.set r (row.set c1 t1))) ∧ (∀ j, j ≠ id → j ≠ k1 → H' j = s.H j) ∧ Shift P n s ⟨s.σ, H'⟩ :=
  ⟨_, by simp [Go.Proofs.YtdomnlnanbekaaaGreatDoor.T.upd], fun j a b => by simp [Go.Proofs.YtdomnlnanbekaaaGreatDoor.T.upd, del, a, b], Shift.fold h1 hH hrow hc1 g1⟩
theorem Shift.fold2 {id k1 k2 E r c1 c2 : Nat} {rows : List (List TV)} {row : List TV} {t1 t2 : TV} (h1 : id ≠ k1) (h2 : id ≠ k2) (h12 : k1 ≠ k2) (hc : c1 ≠ c2) (hH : s.H id = some (.own E rows)) (hrow : rows[r]? = some row)
    (hc1 : row[c1]? = some (.hd k1)) (hc2 : row[c2]? = some (.hd k2)) (g1 : s.H k1 = some t1) (g2 : s.H k2 = some t2) :
    ∃ H', H' id = some (.own E (rows.set r ((row.set c1 t1).set c2 t2))) ∧ (∀ j, j ≠ id → j ≠ k1 → j ≠ k2 → H' j = s.H j) ∧ Shift P n s ⟨s.σ, H'⟩ := by
  have hr : r < rows.length := (List.getElem?_eq_some_iff.1 hrow).1
  have a1 := Shift.fold (P := P) (n := n) h1 hH hrow hc1 g1
  have a2 := Shift.fold (P := P) (n := n) (s := ⟨s.σ, Go.Proofs.YtdomnlnanbekaaaGreatDoor.T.upd (del s.H k1) id (.own E (rows.set r (row.set c1 t1)))⟩) (id := id) (id2 := k2) (r := r) (c := c2) (rows := rows.set r (row.set c1 t1)) (row := row.set c1 t1) (t2 := t2) (E := E) h2 (by simp [Go.Proofs.YtdomnlnanbekaaaGreatDoor.T.upd]) (by simp [hr]) (by rw [List.getElem?_set_ne hc]; exact hc2) (by simp [Go.Proofs.YtdomnlnanbekaaaGreatDoor.T.upd, del, Ne.symm h2, Ne.symm h12, g2])
  refine ⟨_, ?_, ?_, a1.trans a2⟩
  · simp [Go.Proofs.YtdomnlnanbekaaaGreatDoor.T.upd]
  · intro j b1 b2 b3
    simp [Go.Proofs.YtdomnlnanbekaaaGreatDoor.T.upd, del, b1, b2, b3]
theorem Shift.fold2x (id k1 k2 E r c1 c2 : Nat) (rows : List (List TV)) (row : List TV) (t1 t2 : TV) (h1 : id ≠ k1) (h2 : id ≠ k2) (h12 : k1 ≠ k2) (hc : c1 ≠ c2) (hH : s.H id = some (.own E rows)) (hrow : rows[r]? = some row)
    (hc1 : row[c1]? = some (.hd k1)) (hc2 : row[c2]? = some (.hd k2)) (g1 : s.H k1 = some t1) (g2 : s.H k2 = some t2) :
    Shift P n s ⟨s.σ, Go.Proofs.YtdomnlnanbekaaaGreatDoor.T.upd (del (del s.H k1) k2) id (.own E (rows.set r ((row.set c1 t1).set c2 t2)))⟩ := by
  obtain ⟨H', e1, e2, e3⟩ := Shift.fold2 (P := P) (n := n) h1 h2 h12 hc hH hrow hc1 hc2 g1 g2
  refine e3.trans ?_
  have a := Shift.drop (P := P) (n := n) (s := ⟨s.σ, H'⟩) k1
  have b := Shift.drop (P := P) (n := n) (s := ⟨s.σ, del H' k1⟩) k2
  have : del (del H' k1) k2 = Go.Proofs.YtdomnlnanbekaaaGreatDoor.T.upd (del (del s.H k1) k2) id (.own E (rows.set r ((row.set c1 t1).set c2 t2))) := by
    funext j
    by_cases x1 : j = id
    · subst x1; simp [del, Go.Proofs.YtdomnlnanbekaaaGreatDoor.T.upd, h1, h2, e1]
    · by_cases x2 : j = k1
      · subst x2; simp [del, Go.Proofs.YtdomnlnanbekaaaGreatDoor.T.upd, x1]
      · by_cases x3 : j = k2
        · subst x3; simp [del, Go.Proofs.YtdomnlnanbekaaaGreatDoor.T.upd, x1]
        · simp [del, Go.Proofs.YtdomnlnanbekaaaGreatDoor.T.upd, x1, x2, x3, e2 j x1 x2 x3]
  rw [← this]
  exact a.trans b
theorem Shift.fold1x (id k1 E r c1 : Nat) (rows : List (List TV)) (row : List TV) (t1 : TV) (h1 : id ≠ k1) (hH : s.H id = some (.own E rows)) (hrow : rows[r]? = some row) (hc1 : row[c1]? = some (.hd k1)) (g1 : s.H k1 = some t1) :
    Shift P n s ⟨s.σ, Go.Proofs.YtdomnlnanbekaaaGreatDoor.T.upd (del s.H k1) id (.own E (rows.set r (row.set c1 t1)))⟩ := Shift.fold h1 hH hrow hc1 g1
theorem TWc.unfold1 {c : Code} {id E E1 r c1 : Nat} {rows rows1 : List (List TV)} {row : List TV} (hH : s.H id = some (.own E rows)) (hrow : rows[r]? = some row) (hc1 : row[c1]? = some (.own E1 rows1))
    (h : ∀ k1 H', s.H k1 = none → id ≠ k1 → H' id = some (.own E (rows.set r (row.set c1 (.hd k1)))) → H' k1 = some (.own E1 rows1) → (∀ j, j ≠ id → j ≠ k1 → H' j = s.H j) → TWc P n c Q ⟨s.σ, H'⟩) : TWc P n c Q s := by
  refine TWc.unfold hH hrow hc1 fun k1 hk1 => ?_
  have n1 : id ≠ k1 := fun e => by rw [← e, hH] at hk1; cases hk1
  exact h k1 _ hk1 n1 (by simp [Go.Proofs.YtdomnlnanbekaaaGreatDoor.T.upd, n1]) (by simp [Go.Proofs.YtdomnlnanbekaaaGreatDoor.T.upd]) (fun j a b => by simp [Go.Proofs.YtdomnlnanbekaaaGreatDoor.T.upd, a, b])
theorem TWc.unfold2 {c : Code} {id E E1 E2 r c1 c2 : Nat} {rows rows1 rows2 : List (List TV)} {row : List TV} (hc : c1 ≠ c2) (hH : s.H id = some (.own E rows)) (hrow : rows[r]? = some row) (hc1 : row[c1]? = some (.own E1 rows1)) (hc2 : row[c2]? = some (.own E2 rows2))
    (h : ∀ k1 k2 H', s.H k1 = none → s.H k2 = none → id ≠ k1 → id ≠ k2 → k1 ≠ k2 → H' id = some (.own E (rows.set r ((row.set c1 (.hd k1)).set c2 (.hd k2)))) → H' k1 = some (.own E1 rows1) → H' k2 = some (.own E2 rows2) → (∀ j, j ≠ id → j ≠ k1 → j ≠ k2 → H' j = s.H j) → TWc P n c Q ⟨s.σ, H'⟩) : TWc P n c Q s := by
  have hr : r < rows.length := (List.getElem?_eq_some_iff.1 hrow).1
  refine TWc.unfold1 hH hrow hc1 fun k1 H1 g1 n1 e1 e2 e3 => ?_
  refine TWc.unfold1 (s := ⟨s.σ, H1⟩) (id := id) (r := r) (c1 := c2) (row := row.set c1 (.hd k1)) e1 (by simp [hr]) (by rw [List.getElem?_set_ne hc]; exact hc2) fun k2 H2 g2 n2 d1 d2 d3 => ?_
  have n12 : k1 ≠ k2 := fun e => by simp only at g2; rw [← e, e2] at g2; cases g2
  refine h k1 k2 H2 g1 ?_ n1 n2 n12 (by simpa using d1) (by rw [d3 k1 (Ne.symm n1) n12]; exact e2) d2 fun j a b d => by rw [d3 j a d]; exact e3 j a b
  rw [← e3 k2 (Ne.symm n2) (Ne.symm n12)]; exact g2
end
end Go.Proofs.YtdomnlnanbekaaaGreatDoor.T

namespace Go.Proofs.YtdomnlnanbekaaaGreatDoor.T
/-- A text out of its bytes. -/
def bs (l : List UInt8) : ByteArray := ⟨l.toArray⟩
theorem bs_eq (b : ByteArray) : b = bs b.data.toList := by cases b; simp [bs]
@[simp] theorem bs_size (l : List UInt8) : (bs l).size = l.length := by simp [bs, ByteArray.size]
@[simp] theorem bs_get (l : List UInt8) (i : Nat) : (bs l)[i]? = l[i]? := by
  by_cases h : i < l.length
  · rw [getElem?_pos (bs l) i (by simpa using h), getI h]
    simp [bs, ByteArray.getElem_eq_getElem_data]
  · rw [getElem?_neg (bs l) i (by simpa using h), List.getElem?_eq_none (by omega)]
@[simp] theorem bs_get' (l : List UInt8) (i : Nat) (h : i < (bs l).size) : (bs l)[i] = l[i]'(by simpa using h) := by
  simp [bs, ByteArray.getElem_eq_getElem_data]
@[simp] theorem bs_toList (l : List UInt8) : (bs l).toList = l := by
  rw [ByteArray.toList_eq]; simp [bs]
@[simp] theorem bs_append (a b : List UInt8) : bs a ++ bs b = bs (a ++ b) := by
  apply ByteArray.ext; simp [bs, ByteArray.data_append]
@[simp] theorem bs_extract (l : List UInt8) (i j : Nat) : (bs l).extract i j = bs ((l.take j).drop i) := by
  apply ByteArray.ext
  simp [bs, ByteArray.data_extract, List.drop_take]
theorem bs_inj {a b : List UInt8} (h : bs a = bs b) : a = b := by
  have := congrArg ByteArray.data h
  simpa [bs] using this
@[simp] theorem wrap_u8 (c : UInt8) : IntKind.i64.wrap (c.toNat : Int) = c.toNat := wrapi (by have := c.toNat_lt; omega)
@[simp] theorem bs_nil : (⟨#[]⟩ : ByteArray) = bs [] := rfl
end Go.Proofs.YtdomnlnanbekaaaGreatDoor.T

namespace Go.Proofs.YtdomnlnanbekaaaGreatDoor.T
set_option linter.unusedVariables false
theorem bs_lit' (l : List UInt8) : (⟨l.toArray⟩ : ByteArray) = bs l := rfl
@[simp] theorem bs_lit (l : List UInt8) : (⟨l.toArray⟩ : ByteArray) = bs l := ok (bs_lit' l)
theorem strOf_acc : ∀ (ns : List Int) (l : List UInt8), ns.foldl (fun r n => r.push (UInt8.ofNat n.toNat)) (bs l) = bs (l ++ ns.map fun n => UInt8.ofNat n.toNat)
  | [], l => by simp
  | n :: ns, l => by
    rw [List.foldl_cons]
    have : (bs l).push (UInt8.ofNat n.toNat) = bs (l ++ [UInt8.ofNat n.toNat]) := by
      unfold bs ByteArray.push; simp
    rw [this, strOf_acc ns]
    simp
@[simp] theorem strOf_bs (ns : List Int) : strOf ns = bs (ns.map fun n => UInt8.ofNat n.toNat) := by
  have := strOf_acc ns []
  rw [List.nil_append] at this
  exact this
@[simp] theorem bytesRow_nil : bytesRow [] = some [] := ok rfl
@[simp] theorem bytesRow_cons (n : Int) (rs : List (List TV)) : bytesRow ([.val (.int .u8 n)] :: rs) = (bytesRow rs).map (n :: ·) := ok rfl
end Go.Proofs.YtdomnlnanbekaaaGreatDoor.T

namespace Go.Proofs.YtdomnlnanbekaaaGreatDoor.T
set_option linter.unusedVariables false
section
variable {P : Program} {n : Nat} {K : St → Prop} {s : St} {ty : TypeId} {pos : String} {af : Array Edge} {g : Option (Nat × Bool)} {d : Option Tmp}
@[simp] theorem pv_makeFunc {f : Fn} {x y : Array Operand} : pureV P n s ⟨d, .makeFunc f x y, ty, pos, af, g⟩ = none := ok (by simp [pureV])
@[simp] theorem pv_makeMap {t : TypeId} {r : Option Operand} : pureV P n s ⟨d, .makeMap t r, ty, pos, af, g⟩ = none := ok (by simp [pureV])
@[simp] theorem pv_lookup {t : TypeId} {x y : Operand} {b : Bool} : pureV P n s ⟨d, .lookup t x y b, ty, pos, af, g⟩ = none := ok (by simp [pureV])
@[simp] theorem pv_insert {t : TypeId} {x y z : Operand} : pureV P n s ⟨d, .insert t x y z, ty, pos, af, g⟩ = none := ok (by simp [pureV])
@[simp] theorem pv_mapUpdate {t : TypeId} {x y z : Operand} : pureV P n s ⟨d, .mapUpdate t x y z, ty, pos, af, g⟩ = none := ok (by simp [pureV])
@[simp] theorem pv_callT {c : Tmp} {xs : Array Operand} {tys : Array TypeId} : pureV P n s ⟨d, .call ⟨.value (.tmp c), xs, tys⟩, ty, pos, af, g⟩ = none := ok (by simp [pureV])
@[simp] theorem pureB_callT {c : Tmp} {xs : Array Operand} {tys : Array TypeId} : pureB (.call ⟨.value (.tmp c), xs, tys⟩) = false := ok rfl
section
variable {ρ : List Nat} {last : Bool}
@[simp ↓] theorem tlE_makeFunc {f : Fn} {x y : Array Operand} : tlE P n ρ last ⟨d, .makeFunc f x y, ty, pos, af, g⟩ K s = gif (last = true) (TWoH P n ⟨d, .makeFunc f x y, ty, pos, af, g⟩ K .mk s) (TWqH P n ⟨d, .makeFunc f x y, ty, pos, af, g⟩ K .mk s) .mk .mk := ok rfl
@[simp ↓] theorem tlE_makeMap {t : TypeId} {r : Option Operand} : tlE P n ρ last ⟨d, .makeMap t r, ty, pos, af, g⟩ K s = gif (last = true) (TWoH P n ⟨d, .makeMap t r, ty, pos, af, g⟩ K .mk s) (TWqH P n ⟨d, .makeMap t r, ty, pos, af, g⟩ K .mk s) .mk .mk := ok rfl
@[simp ↓] theorem tlE_lookup {t : TypeId} {x y : Operand} {b : Bool} : tlE P n ρ last ⟨d, .lookup t x y b, ty, pos, af, g⟩ K s = gif (last = true) (TWoH P n ⟨d, .lookup t x y b, ty, pos, af, g⟩ K .mk s) (TWqH P n ⟨d, .lookup t x y b, ty, pos, af, g⟩ K .mk s) .mk .mk := ok rfl
@[simp ↓] theorem tlE_insert {t : TypeId} {x y z : Operand} : tlE P n ρ last ⟨d, .insert t x y z, ty, pos, af, g⟩ K s = gif (last = true) (TWoH P n ⟨d, .insert t x y z, ty, pos, af, g⟩ K .mk s) (TWqH P n ⟨d, .insert t x y z, ty, pos, af, g⟩ K .mk s) .mk .mk := ok rfl
@[simp ↓] theorem tlE_mapUpdate {t : TypeId} {x y z : Operand} : tlE P n ρ last ⟨d, .mapUpdate t x y z, ty, pos, af, g⟩ K s = gif (last = true) (TWoH P n ⟨d, .mapUpdate t x y z, ty, pos, af, g⟩ K .mk s) (TWqH P n ⟨d, .mapUpdate t x y z, ty, pos, af, g⟩ K .mk s) .mk .mk := ok rfl
@[simp ↓] theorem tlE_callT {c : Tmp} {xs : Array Operand} {tys : Array TypeId} : tlE P n ρ last ⟨d, .call ⟨.value (.tmp c), xs, tys⟩, ty, pos, af, g⟩ K s = gif (last = true) (TWoH P n ⟨d, .call ⟨.value (.tmp c), xs, tys⟩, ty, pos, af, g⟩ K .mk s) (TWqH P n ⟨d, .call ⟨.value (.tmp c), xs, tys⟩, ty, pos, af, g⟩ K .mk s) .mk .mk := ok rfl
end
/-- What a closure holds. -/
theorem RepAll.toL {e : Env} : ∀ {ts : List TV} {vs : List Value}, RepAll P e ts vs → RepL P e ts vs noF
  | [], vs, h => by
    have : vs = [] := List.eq_nil_of_length_eq_zero (by simpa using h.1)
    subst this; simp only [RepL]; exact ⟨trivial, emp_noF⟩
  | t :: ts, vs, h => by
    obtain ⟨v, vs1, rfl, h1, h2⟩ := h.tail
    simp only [RepL]
    exact ⟨v, vs1, noF, noF, rfl, h1, h2.toL, .of_emp emp_noF emp_noF emp_noF⟩
theorem TWoH.makeFunc {f : Nat} {xs : Array Operand} (h : K (St.put s d (.clo f (xs.toList.map (opV n s))))) : TWoH P n ⟨d, .makeFunc (.func f) #[] xs, ty, pos, af, g⟩ K .mk s := TWo.grow fun C a e FH hn hX => by
  refine ⟨.func (.func f) #[] (xs.map a.eval), e.w, _, ?_, h, .put hn hX d ?_⟩
  · unfold execOp
    simp [Instr.makeFunc]
  · simp only [Rep]
    refine ⟨emp_noF, xs.toList.map a.eval, by rw [← Array.toList_map], ?_⟩
    exact (RepAll.ops (opV_rep hX hn)).toL
/-- A call of a closure: what it holds comes behind the arguments. -/
theorem TWqH.callClo {c : Tmp} {f : Nat} {xs : Array Operand} {tys : Array TypeId} {caps args : List TV} {res : TV} (hc : opV n s (.tmp c) = .clo f caps) (hTC : TC P f args [] res []) (hf : callable P f = true) (hargs : argsT s.H [] (xs.toList.map (opV n s) ++ caps) = some args)
    (hop : ∀ k, opn k res = (res, [])) (hnr : noH res = true) (hv : (xs.toList.map (opV n s) ++ caps).flatMap (viewsT []) = [] ∨ noRo res = true) (h : K (St.put s d res)) : TWqH P n ⟨d, .call ⟨.value (.tmp c), xs, tys⟩, ty, pos, af, g⟩ K .mk s := fun C a e FH hn hX J Q hj => by
  have hcr := opV_rep hX hn (.tmp c)
  rw [hc] at hcr
  simp only [Rep] at hcr
  obtain ⟨_, vs, hcv, hl⟩ := hcr
  refine call_coreG (ρ := []) (R := fun r o => r = res ∧ o = []) (ts := xs.toList.map (opV n s) ++ caps) hargs rfl List.nodup_nil rfl (hTC.toR ⟨rfl, rfl⟩) ?_ hn hX (vals := xs.toList.map a.eval ++ vs) ((RepAll.ops (opV_rep hX hn)).append (RepAll.ofL hl emp_noF)) ?_ fun a' w' s' h1 _ h2 => hj a' w' s' h1 (h2 rfl)
  · rintro r o ⟨rfl, rfl⟩
    refine ⟨rfl, by simp [noHL, hnr], hv.imp (fun x => x) (fun x => by simp [noRoL, x]), fun k hk => ?_⟩
    rw [hop k]
    simpa [setObjs, updL] using h
  · unfold execOp
    simp only [resolve, Act.eval] at hcv ⊢
    simp only [hcv, Deferred.ofValue, Sem.run_bind, Sem.run_pure, Result.andThen_ok, invoke, Array.empty_append]
    rw [run_callFunc hf]
    congr 2
    apply Array.toList_inj.1
    simp
theorem TWoH.callClo {c : Tmp} {f : Nat} {xs : Array Operand} {tys : Array TypeId} {caps args : List TV} {res : TV} (hc : opV n s (.tmp c) = .clo f caps) (hTC : TC P f args [] res []) (hf : callable P f = true) (hargs : argsT s.H [] (xs.toList.map (opV n s) ++ caps) = some args)
    (hop : ∀ k, opn k res = (res, [])) (hnr : noH res = true) (hv : (xs.toList.map (opV n s) ++ caps).flatMap (viewsT []) = [] ∨ noRo res = true) (h : K (St.put s d res)) : TWoH P n ⟨d, .call ⟨.value (.tmp c), xs, tys⟩, ty, pos, af, g⟩ K .mk s := (TWqH.callClo hc hTC hf hargs hop hnr hv h).toO
/-- An own box is only read from here on. -/
theorem Turn.freeze {A : St → Prop} (id : Nat) {t : TV} (hH : s.H id = some t) (h : A ⟨fun j => frzT id (toRo t) (s.σ j), del s.H id⟩) : Turn P n s A := fun C a w hr => by
  obtain ⟨hn, e, FH, rfl, hX⟩ := hr
  exact ⟨_, h, hn, ⟨e.w, fun b => e.Z b ∨ ∃ m, FH id b m, e.N, e.η⟩, _, rfl, hX.freeze hH⟩
end
end Go.Proofs.YtdomnlnanbekaaaGreatDoor.T

namespace Go.Proofs.YtdomnlnanbekaaaGreatDoor.T
set_option linter.unusedVariables false
section
variable {P : Program} {n : Nat} {s : St}
/-- All rows that have names of their own are put back. -/
theorem Shift.foldAll {id E N : Nat} {κ : Nat → Nat} {tt : Nat → TV} (hH : s.H id = some (.own E ((List.range N).map fun i => [.hd (κ i)]))) (hκ : ∀ i, i < N → κ i ≠ id ∧ s.H (κ i) = some (tt i)) (hinj : ∀ i j, i < N → j < N → κ i = κ j → i = j) :
    ∃ H', H' id = some (.own E ((List.range N).map fun i => [tt i])) ∧ (∀ j, j ≠ id → (∀ i, i < N → j ≠ κ i) → H' j = s.H j) ∧ Shift P n s ⟨s.σ, H'⟩ := by
  have key : ∀ m, m ≤ N → ∃ H', H' id = some (.own E ((List.range N).map fun i => if i < m then [tt i] else [.hd (κ i)])) ∧ (∀ j, j ≠ id → (∀ i, i < m → j ≠ κ i) → H' j = s.H j) ∧ Shift P n s ⟨s.σ, H'⟩ := by
    intro m
    induction m with
    | zero => intro _; exact ⟨s.H, by simpa using hH, fun j _ _ => rfl, .refl⟩
    | succ m ih =>
      intro hm
      obtain ⟨H1, h1, h2, h3⟩ := ih (by omega)
      obtain ⟨k1, k2⟩ := hκ m (by omega)
      have hk : H1 (κ m) = some (tt m) := by
        rw [h2 (κ m) k1 (fun i hi e => by have := hinj m i (by omega) (by omega) e; omega)]; exact k2
      have a := Shift.fold (P := P) (n := n) (s := ⟨s.σ, H1⟩) (id := id) (id2 := κ m) (r := m) (c := 0) (row := [.hd (κ m)]) (t2 := tt m) (Ne.symm k1) h1 (by simp [show m < N by omega]) rfl hk
      refine ⟨_, ?_, ?_, h3.trans a⟩
      · simp only [Go.Proofs.YtdomnlnanbekaaaGreatDoor.T.upd, if_true]
        congr 2
        apply List.ext_getElem?
        intro j
        rw [List.getElem?_set]
        by_cases e : m = j
        · subst e; simp [show m < N by omega]
        · rw [if_neg e]
          by_cases hj : j < N
          · simp only [List.getElem?_map, List.getElem?_range hj, Option.map_some]
            have : (j < m) = (j < m + 1) := by rw [eq_iff_iff]; omega
            simp only [this]
          · rw [List.getElem?_eq_none (by simp; omega), List.getElem?_eq_none (by simp; omega)]
      · intro j hj hji
        have e1 : j ≠ κ m := hji m (by omega)
        simp only [Go.Proofs.YtdomnlnanbekaaaGreatDoor.T.upd, del, hj, e1, if_false]
        exact h2 j hj fun i hi => hji i (by omega)
  obtain ⟨H', h1, h2, h3⟩ := key N (Nat.le_refl _)
  refine ⟨H', ?_, h2, h3⟩
  rw [h1]
  congr 2
  apply List.map_congr_left
  intro i hi
  rw [if_pos (List.mem_range.1 hi)]
end
end Go.Proofs.YtdomnlnanbekaaaGreatDoor.T

namespace Go.Proofs.YtdomnlnanbekaaaGreatDoor.T
open Go.MapKept
set_option linter.unusedVariables false
set_option linter.unusedSimpArgs false
/-- How a type of keys answers. -/
structure KLaw (P : Program) (kt : TypeId) (K : Value → Prop) : Prop where
  check : ∀ k, K k → ∀ (e : Bool) (w : World), (Instr.checkKey e 10000 kt k).run P w = .ok () w
  find : ∀ k, K k → ∀ (l : List MapEntry) (w : World), (∀ x ∈ l, K x.key) → ((Instr.findKey kt k l).run P w = .ok none w ∧ ∀ x ∈ l, x.key ≠ k) ∨ ∃ j e, (Instr.findKey kt k l).run P w = .ok (some (j, e.val)) w ∧ l[j]? = some e ∧ e.key = k
theorem KLaw.plain {P : Program} {kt : TypeId} {d : TypeDesc} (hd : P.underlying kt = some d) : KLaw P kt (IsKey d) where
  check k hk e w := run_checkKey hd hk e 9999
  find k hk l w hl := by
    rcases findNow_spec hk l 0 hl with ⟨h1, h2⟩ | ⟨j, e, h1, h2, h3⟩
    · exact .inl ⟨run_findKey hd h1, h2⟩
    · exact .inr ⟨j, e, by rw [run_findKey hd h1]; simp, h2, h3⟩
/-- Two whole numbers. -/
def IsTwo (k : Value) : Prop := ∃ a b : Int, k = .agg #[.int .i64 a, .int .i64 b]
theorem findAsking_spec {P : Program} {kt : TypeId} {K : Value → Prop} (heq : ∀ x y, K x → K y → ∀ w : World, ∃ r : Bool, (Op.equal kt x y).run P w = .ok r w ∧ (r = true ↔ x = y)) {k : Value} (hk : K k) (w : World) : ∀ (l : List MapEntry) (i : Nat), (∀ x ∈ l, K x.key) →
    ((Instr.findAsking kt k l i).run P w = .ok none w ∧ ∀ x ∈ l, x.key ≠ k) ∨ ∃ j e, (Instr.findAsking kt k l i).run P w = .ok (some (i + j, e.val)) w ∧ l[j]? = some e ∧ e.key = k
  | [], i, _ => .inl ⟨by simp [Instr.findAsking], by simp⟩
  | e :: es, i, h => by
    obtain ⟨r, hr, hiff⟩ := heq k e.key hk (h e (.head _)) w
    cases r with
    | true => exact .inr ⟨0, e, by simp [Instr.findAsking, hr, Result.andThen], rfl, (hiff.1 rfl).symm⟩
    | false =>
      have hne : e.key ≠ k := fun q => by have := hiff.2 q.symm; cases this
      rcases findAsking_spec heq hk w es (i + 1) (fun x hx => h x (.tail _ hx)) with ⟨h1, h2⟩ | ⟨j, e', h1, h2, h3⟩
      · exact .inl ⟨by simp [Instr.findAsking, hr, h1, Result.andThen], fun x hx => by
          cases hx with
          | head => exact hne
          | tail _ hx => exact h2 x hx⟩
      · exact .inr ⟨j + 1, e', by simp [Instr.findAsking, hr, h1, Result.andThen]; omega, by simpa using h2, h3⟩
theorem KLaw.two {P : Program} {kt et : TypeId} (hd : P.underlying kt = some (.array 2 et)) (he : P.underlying et = some (.int .i64)) (hz : szOf P et = 1) (ha : ∀ w, (isAgg et).run P w = .ok false w) : KLaw P kt IsTwo := by
  obtain ⟨ti, hti, hsz⟩ := info_of_sz (P := P) (t := et) (by omega)
  rw [hz] at hsz
  have hs : ∀ w : World, (sizeOf et).run P w = .ok 1 w := fun w => by simp [sizeOf, typeInfo, hti, hsz]
  have hp0 : ∀ (a b : Value) (w : World), (part et #[a, b] 0).run P w = .ok a w := fun a b w => by simp [part, ha w, Result.andThen]
  have hp1 : ∀ (a b : Value) (w : World), (part et #[a, b] 1).run P w = .ok b w := fun a b w => by simp [part, ha w, Result.andThen]
  have heq : ∀ x y, IsTwo x → IsTwo y → ∀ w : World, ∃ r : Bool, (Op.equal kt x y).run P w = .ok r w ∧ (r = true ↔ x = y) := by
    rintro _ _ ⟨a, b, rfl⟩ ⟨c, d, rfl⟩ w
    have e1 : ∀ p q : Int, (Op.equalIn 9999 et (.int .i64 p) (.int .i64 q)).run P w = .ok (p == q) w := fun p q => run_equalIn_int w 9998 et .i64 .i64 p q he
    refine ⟨a == c && b == d, ?_, by simp⟩
    rw [Op.equal, show Op.maxDepth = 9999 + 1 from rfl, Op.equalIn]
    simp [run_underlying hd, Result.andThen, hs w, Std.Legacy.Range.forIn_eq_forIn_range', Std.Legacy.Range.size, List.range', hp0, hp1, e1]
    by_cases c1 : a = c <;> by_cases c2 : b = d <;> simp [c1, c2, Result.andThen, hp0, hp1, e1]
  refine ⟨?_, fun k hk l w hl => ?_⟩
  · rintro _ ⟨a, b, rfl⟩ e w
    have c1 : ∀ p : Int, (Instr.checkKey e 9999 et (.int .i64 p)).run P w = .ok () w := fun p => run_checkKey he (by simp [IsKey]) e 9998
    rw [show (10000 : Nat) = 9999 + 1 from rfl, Instr.checkKey]
    simp [run_underlying hd, Result.andThen, hs w, Std.Legacy.Range.forIn_eq_forIn_range', Std.Legacy.Range.size, List.range', hp0, hp1, c1]
  · cases l with
    | nil => exact .inl ⟨by simp [Instr.findKey, run_underlying hd, Result.andThen, Instr.findNow], by simp⟩
    | cons e es =>
      have hn : Instr.findNow (.array 2 et) k (e :: es) 0 = none := by
        obtain ⟨a, b, rfl⟩ := hk
        simp [Instr.findNow, Instr.sameNow]
      have hf : (Instr.findKey kt k (e :: es)).run P w = (Instr.findAsking kt k (e :: es) 0).run P w := by simp [Instr.findKey, run_underlying hd, Result.andThen, hn]
      rw [hf]
      rcases findAsking_spec heq hk w (e :: es) 0 hl with h | ⟨j, e', h1, h2⟩
      · exact .inl h
      · exact .inr ⟨j, e', by rw [h1]; simp, h2⟩
/-- A key as a value. -/
def keyV : TV → Option Value
  | .val v => some v
  | .agg [.val a, .val b] => some (.agg #[a, b])
  | _ => none
@[simp] theorem keyV_val {v : Value} : keyV (.val v) = some v := rfl
@[simp] theorem keyV_two {a b : Value} : keyV (.agg [.val a, .val b]) = some (.agg #[a, b]) := rfl
theorem keyV_rep {P : Program} {e : Env} {t : TV} {v k : Value} {F : Foot} (h : Rep P e t v F) (hk : keyV t = some k) : v = k := by
  unfold keyV at hk
  split at hk
  · cases hk; simp only [Rep] at h; exact h.2
  · cases hk
    simp only [Rep, RepL] at h
    obtain ⟨vs, rfl, h, _⟩ := h
    obtain ⟨v1, vs1, F1, F2, rfl, h1, ⟨v2, vs2, F3, F4, rfl, h2, ⟨rfl, _⟩, _⟩, _⟩ := h
    obtain ⟨_, rfl⟩ := h1
    obtain ⟨_, rfl⟩ := h2
    rfl
  · cases hk
section
variable {P : Program} {n : Nat} {K : St → Prop} {s : St} {ty : TypeId} {pos : String} {af : Array Edge} {g : Option (Nat × Bool)} {d : Option Tmp}
theorem TWoH.makeMap {t : TypeId} (h : ∀ id, s.H id = none → K (St.put ⟨s.σ, upd s.H id (.mp t [])⟩ d (.hd id))) : TWoH P n ⟨d, .makeMap t none, ty, pos, af, g⟩ K .mk s := TWo.grow fun C a e FH hn hX => by
  have g := Grow.alloc e.w (.map #[] 0) (fun _ => False)
  have hr : Rep P ⟨e.w.alloc (.map #[] 0), e.Z, e.N + 1, ext e.η e.N (.map (some e.w.heap.size))⟩ (.mp t []) (ext e.η e.N (.map (some e.w.heap.size)) e.N) (Sgl e.w.heap.size 0) := by
    simp only [Rep, ext_new]
    exact ⟨_, #[], 0, rfl, (heap_alloc e.w _).1, by simp [entV, RepRows, emp_noF], fun _ _ => Iff.rfl⟩
  rw [ext_new] at hr
  obtain ⟨FH', hX', _⟩ := hX.fresh g hr (.inr (.inr ⟨_, _, rfl⟩)) (fun b m hb => Nat.le_of_eq hb.1.symm) (fun b m hb => by rw [hb.1]; exact (Array.getElem?_eq_some_iff.1 (heap_alloc e.w (.map #[] 0)).1).1)
  refine ⟨_, _, _, ?_, h _ hX.top_none, .put hn hX' d (hd_rep rfl)⟩
  unfold execOp
  simp [Instr.makeMap, Result.andThen]
variable {t kt et : TypeId} {x y z : Operand} {id : Nat} {k v zv : Value} {K0 : Value → Prop}
/-- Keys with what is known of their values, as a map's rows. -/
def mpr (kvs : List (Value × TV)) : List (List TV) := kvs.map fun q => [.val q.1, q.2]
def mpv (kvs : List (Value × Value)) : List (List TV) := mpr (kvs.map fun q => (q.1, .val q.2))
@[simp] theorem mpr_nil : mpr [] = [] := rfl
@[simp] theorem mpv_nil : mpv [] = [] := rfl
theorem ent_of {e : Env} : ∀ {kvs : List (Value × TV)} {l : List MapEntry} {F : Foot}, RepRows P e (mpr kvs) (entV l) F → Emp F → l.map (·.key) = kvs.map (·.1) ∧ ∀ (j : Nat) (u : MapEntry) (q : Value × TV), l[j]? = some u → kvs[j]? = some q → Rep P e q.2 u.val noF
  | [], [], F, h, hF => ⟨rfl, fun j u q hu => by simp at hu⟩
  | [], u :: l, F, h, hF => by simp [mpr, RepRows, entV] at h
  | q :: kvs, [], F, h, hF => by
    simp only [mpr, List.map_cons, RepRows, RepL, entV] at h
    obtain ⟨v1, v2, F1, F2, h1, ⟨u, us, _, _, h2, _⟩, _⟩ := h
    rw [h2] at h1; simp at h1
  | q :: kvs, u :: l, F, h, hF => by
    simp only [mpr, List.map_cons, RepRows, RepL, entV, Rep] at h
    obtain ⟨v1, v2, F1, F2, h1, ⟨a, as1, F3, F4, h2, ⟨_, h3⟩, ⟨b, bs, F5, F6, h4, h5, ⟨h6, _⟩, h7⟩, h8⟩, h9, h10⟩ := h
    subst h2 h4 h6 h3
    simp only [List.cons_append, List.nil_append, List.cons.injEq] at h1
    obtain ⟨e1, e2, e3⟩ := h1
    subst e2 e3
    have hF2 : Emp F2 := fun b m hb => hF b m ((h10.iff b m).2 (.inr hb))
    have hF5 : Emp F5 := fun b m hb => hF b m ((h10.iff b m).2 (.inl ((h8.iff b m).2 (.inr ((h7.iff b m).2 (.inl hb))))))
    obtain ⟨i1, i2⟩ := ent_of (kvs := kvs) (l := l) h9 hF2
    refine ⟨by simp [i1, e1], fun j u' q' hu hq => ?_⟩
    cases j with
    | zero => cases hu; cases hq; exact h5.toN hF5
    | succ j => exact i2 j u' q' (by simpa using hu) (by simpa using hq)
theorem of_ent {e : Env} : ∀ {kvs : List (Value × TV)} {l : List MapEntry}, l.map (·.key) = kvs.map (·.1) → (∀ (j : Nat) (u : MapEntry) (q : Value × TV), l[j]? = some u → kvs[j]? = some q → Rep P e q.2 u.val noF) → RepRows P e (mpr kvs) (entV l) noF
  | [], [], _, _ => by simp [mpr, RepRows, entV, emp_noF]
  | [], u :: l, h, _ => by simp at h
  | q :: kvs, [], h, _ => by simp at h
  | q :: kvs, u :: l, h, hr => by
    simp only [List.map_cons, List.cons.injEq] at h
    have ih := of_ent (kvs := kvs) (l := l) h.2 fun j u' q' hu hq => hr (j + 1) u' q' (by simpa using hu) (by simpa using hq)
    have h0 := hr 0 u q rfl rfl
    simp only [mpr, List.map_cons, RepRows, RepL, entV, Rep] at ih ⊢
    exact ⟨[u.key, u.val], entV l, noF, noF, rfl, ⟨u.key, [u.val], noF, noF, rfl, ⟨emp_noF, h.1⟩, ⟨u.val, [], noF, noF, rfl, h0, ⟨rfl, emp_noF⟩, .of_emp emp_noF emp_noF emp_noF⟩, .of_emp emp_noF emp_noF emp_noF⟩, ih, .of_emp emp_noF emp_noF emp_noF⟩
theorem mem_keys {kvs : List (Value × TV)} {l : List MapEntry} (h : l.map (·.key) = kvs.map (·.1)) {u : MapEntry} (hu : u ∈ l) : ∃ q ∈ kvs, q.1 = u.key := by
  have : u.key ∈ kvs.map (·.1) := by rw [← h]; exact List.mem_map.2 ⟨u, hu, rfl⟩
  obtain ⟨q, hq, e⟩ := List.mem_map.1 this
  exact ⟨q, hq, e⟩
theorem TWoH.lookupHitT {tv : TV} (id : Nat) (kvs : List (Value × TV)) (k : Value) (L : KLaw P kt K0) (ht : P.underlying t = some (.map kt et)) (hx : opV n s x = .hd id) (hH : s.H id = some (.mp t (mpr kvs))) (hy : keyV (opV n s y) = some k) (hk : K0 k) (hks : ∀ q ∈ kvs, K0 q.1)
    (hin : ∃ q ∈ kvs, q.1 = k) (hv : ∀ q ∈ kvs, q.1 = k → q.2 = tv) {c : Bool} (h : K (St.put s d (if c = true then .tup [tv, .val (.bool true)] else tv))) : TWoH P n ⟨d, .lookup t x y c, ty, pos, af, g⟩ K .mk s := TWo.grow fun C a e FH hn hX => by
  have hxr := opV_rep hX hn x
  rw [hx] at hxr
  simp only [Rep] at hxr
  obtain ⟨_, hid, hxv, _⟩ := hxr
  have hO := hX.objs id _ hH
  simp only [Rep] at hO
  obtain ⟨b, es, clock, hev, hb, hes, _⟩ := hO
  obtain ⟨hkeys, hvals⟩ := ent_of hes emp_noF
  have hkv := keyV_rep (opV_rep hX hn y) hy
  have hks' : ∀ q ∈ es.toList, K0 q.key := fun q hq => by obtain ⟨p, hp, e1⟩ := mem_keys hkeys hq; rw [← e1]; exact hks p hp
  rcases L.find k hk es.toList e.w hks' with ⟨_, h2⟩ | ⟨j, q, h1, h2, h3⟩
  · obtain ⟨q, hq, hqk⟩ := hin
    have : q.1 ∈ es.toList.map (·.key) := by rw [hkeys]; exact List.mem_map.2 ⟨q, hq, rfl⟩
    obtain ⟨q', hq', e1⟩ := List.mem_map.1 this
    exact absurd (e1.trans hqk) (h2 q' hq')
  have hjl : j < kvs.length := by
    have h5 := (List.getElem?_eq_some_iff.1 h2).1
    have h4 := congrArg List.length hkeys
    simp only [List.length_map] at h4
    omega
  have hkj : kvs[j].1 = k := by
    have h4 := congrArg (fun l => l[j]?) hkeys
    simp only [List.getElem?_map, h2, List.getElem?_eq_getElem hjl, Option.map_some, Option.some.injEq] at h4
    rw [← h4]; exact h3
  have hrv := hvals j q kvs[j] h2 (List.getElem?_eq_getElem hjl)
  rw [hv _ (List.getElem_mem hjl) hkj] at hrv
  refine ⟨if c = true then .tuple #[q.val, .bool true] else q.val, e.w, _, ?_, h, .put hn hX d ?_⟩
  · unfold execOp
    simp [Instr.lookup, run_underlying ht, Result.andThen, hxv, hev, MapKept.run_getObj_map hb, hkv, L.check k hk, h1]
  · cases c
    · exact hrv
    · have : Rep P e (.tup [tv, .val (.bool true)]) (.tuple #[q.val, .bool true]) noF := by
        simp only [Rep]
        refine ⟨[q.val, .bool true], rfl, ?_⟩
        simp only [RepL, Rep]
        exact ⟨q.val, _, noF, noF, rfl, hrv, ⟨.bool true, [], noF, noF, rfl, ⟨emp_noF, rfl⟩, ⟨rfl, emp_noF⟩, .of_emp emp_noF emp_noF emp_noF⟩, .of_emp emp_noF emp_noF emp_noF⟩
      exact this
theorem TWoH.lookupMissT (id : Nat) (kvs : List (Value × TV)) (k zv : Value) (L : KLaw P kt K0) (ht : P.underlying t = some (.map kt et)) (hz : (P.info? et).bind (·.zero) = some zv) (hx : opV n s x = .hd id) (hH : s.H id = some (.mp t (mpr kvs))) (hy : keyV (opV n s y) = some k) (hk : K0 k) (hks : ∀ q ∈ kvs, K0 q.1)
    (hin : ∀ q ∈ kvs, q.1 ≠ k) {c : Bool} (h : K (St.put s d (if c = true then .tup [.val zv, .val (.bool false)] else .val zv))) : TWoH P n ⟨d, .lookup t x y c, ty, pos, af, g⟩ K .mk s := TWo.grow fun C a e FH hn hX => by
  have hxr := opV_rep hX hn x
  rw [hx] at hxr
  simp only [Rep] at hxr
  obtain ⟨_, hid, hxv, _⟩ := hxr
  have hO := hX.objs id _ hH
  simp only [Rep] at hO
  obtain ⟨b, es, clock, hev, hb, hes, _⟩ := hO
  obtain ⟨hkeys, hvals⟩ := ent_of hes emp_noF
  have hkv := keyV_rep (opV_rep hX hn y) hy
  have hks' : ∀ q ∈ es.toList, K0 q.key := fun q hq => by obtain ⟨p, hp, e1⟩ := mem_keys hkeys hq; rw [← e1]; exact hks p hp
  obtain ⟨ti, hti, hzv⟩ := Option.bind_eq_some_iff.1 hz
  rcases L.find k hk es.toList e.w hks' with ⟨h1, h2⟩ | ⟨j, q, h1, h2, h3⟩
  case inr =>
    obtain ⟨p, hp, e1⟩ := mem_keys hkeys (List.mem_of_getElem? h2)
    exact absurd (e1.trans h3) (hin p hp)
  refine ⟨if c = true then .tuple #[zv, .bool false] else zv, e.w, _, ?_, h, .put hn hX d ?_⟩
  · unfold execOp
    simp [Instr.lookup, run_underlying ht, Result.andThen, hxv, hev, MapKept.run_getObj_map hb, hkv, L.check k hk, h1, zeroValue, typeInfo, hti, hzv]
  · cases c
    · exact (by simp only [Rep]; exact ⟨emp_noF, trivial⟩ : Rep P e (.val zv) zv noF)
    · have : Rep P e (.tup [.val zv, .val (.bool false)]) (.tuple #[zv, .bool false]) noF := by
        simp only [Rep]
        refine ⟨[zv, .bool false], rfl, ?_⟩
        simp only [RepL, Rep]
        exact ⟨zv, _, noF, noF, rfl, ⟨emp_noF, rfl⟩, ⟨.bool false, [], noF, noF, rfl, ⟨emp_noF, rfl⟩, ⟨rfl, emp_noF⟩, .of_emp emp_noF emp_noF emp_noF⟩, .of_emp emp_noF emp_noF emp_noF⟩
      exact this
theorem TWo.putNewT {o : Oper} {tv : TV} {kvs : List (Value × TV)} (ho : o.op = .insert t x y z ∨ o.op = .mapUpdate t x y z) (hd : o.dst = none) (L : KLaw P kt K0) (ht : P.underlying t = some (.map kt et)) (hx : opV n s x = .hd id) (hH : s.H id = some (.mp t (mpr kvs))) (hy : keyV (opV n s y) = some k) (hk : K0 k) (hks : ∀ q ∈ kvs, K0 q.1)
    (hin : ∀ q ∈ kvs, q.1 ≠ k) (hzz : opV n s z = tv) (h : K ⟨s.σ, upd s.H id (.mp t (mpr (kvs ++ [(k, tv)])))⟩) : TWo P n o K s := TWo.growSkip fun C a e FH hn hX => by
  have hxr := opV_rep hX hn x
  rw [hx] at hxr
  simp only [Rep] at hxr
  obtain ⟨_, hid, hxv, _⟩ := hxr
  have hO := hX.objs id _ hH
  simp only [Rep] at hO
  obtain ⟨b, es, clock, hev, hb, hes, hF⟩ := hO
  obtain ⟨hkeys, hvals⟩ := ent_of hes emp_noF
  have hkv := keyV_rep (opV_rep hX hn y) hy
  have hzr := opV_rep hX hn z
  rw [hzz] at hzr
  have hks' : ∀ q ∈ es.toList, K0 q.key := fun q hq => by obtain ⟨p, hp, e1⟩ := mem_keys hkeys hq; rw [← e1]; exact hks p hp
  rcases L.find k hk es.toList e.w hks' with ⟨h1, h2⟩ | ⟨j, q, h1, h2, h3⟩
  case inr =>
    obtain ⟨p, hp, e1⟩ := mem_keys hkeys (List.mem_of_getElem? h2)
    exact absurd (e1.trans h3) (hin p hp)
  have hbF : ∃ m, FH id b m := ⟨0, (hF b 0).2 ⟨rfl, rfl⟩⟩
  generalize hv : a.eval z = v at hzr
  obtain ⟨hs1, hs2⟩ := heap_set (w := e.w) (o' := .map (es.push ⟨k, v, clock⟩) (clock + 1)) hb
  have gr : Grow e.w { e.w with heap := e.w.heap.setIfInBounds b (.map (es.push ⟨k, v, clock⟩) (clock + 1)) } (fun b' => ∃ m, FH id b' m) :=
    ⟨rfl, rfl, rfl, by simp, fun b' _ hn' => hs2 b' fun e' => hn' (by rw [e']; exact hbF)⟩
  have kp : Keep e ⟨{ e.w with heap := e.w.heap.setIfInBounds b (.map (es.push ⟨k, v, clock⟩) (clock + 1)) }, e.Z, e.N, e.η⟩ noF :=
    ⟨fun b x => x, Nat.le_refl _, fun _ _ => rfl, fun b' hz => gr.block b' (hX.ltZ b' hz) fun ⟨m, hm⟩ => hX.notZ id b' m hm hz, fun b m x => x.elim⟩
  have hrep : Rep P ⟨{ e.w with heap := e.w.heap.setIfInBounds b (.map (es.push ⟨k, v, clock⟩) (clock + 1)) }, e.Z, e.N, e.η⟩ (.mp t (mpr (kvs ++ [(k, tv)]))) (e.η id) (Sgl b 0) := by
    simp only [Rep]
    have hll : es.toList.length = kvs.length := by have := congrArg List.length hkeys; simpa using this
    refine ⟨b, es.push ⟨k, v, clock⟩, clock + 1, hev, hs1, of_ent (by simp [hkeys]) (fun j u q hu hq => ?_), fun _ _ => Iff.rfl⟩
    rw [Array.toList_push] at hu
    by_cases c : j < kvs.length
    · rw [List.getElem?_append_left (by omega)] at hu
      rw [List.getElem?_append_left c] at hq
      exact Rep.keep _ (hvals j u q hu hq) kp
    · have hj := (List.getElem?_eq_some_iff.1 hq).1
      simp at hj
      obtain rfl : j = kvs.length := by omega
      rw [List.getElem?_append_right (by omega), hll] at hu
      simp at hu hq
      subst hu hq
      exact Rep.keep _ hzr kp
  have hX' := hX.upd (i := id) (i' := id) (N' := e.N) (η' := e.η) gr (Nat.le_refl _) (fun _ _ => rfl) (.inl rfl) hid hrep (.inr (.inr ⟨_, _, rfl⟩)) (fun b' m hb' => .inl ⟨0, by rw [hb'.1]; exact (hF b 0).2 ⟨rfl, rfl⟩⟩) (fun b' m hb' => by
    rw [hb'.1]
    exact Nat.lt_of_lt_of_le (hX.ltF id b 0 ((hF b 0).2 ⟨rfl, rfl⟩)) gr.size)
  rw [upd_del] at hX'
  refine ⟨_, _, ?_, h, by rw [hd]; exact .of hn hX'⟩
  unfold execOp
  rcases ho with ho | ho <;> rw [ho] <;> simp [Instr.mapUpdate, run_underlying ht, Result.andThen, hxv, hev, MapKept.run_getObj_map hb, hkv, L.check k hk, h1, hv, MapKept.run_setObj_map _ hb]
/-- What is put is what is there already. -/
theorem TWo.putOldT {o : Oper} {tv : TV} {kvs : List (Value × TV)} {kd : TypeDesc} (ho : o.op = .insert t x y z ∨ o.op = .mapUpdate t x y z) (hd : o.dst = none) (hkd : P.underlying kt = some kd) (ht : P.underlying t = some (.map kt et)) (hx : opV n s x = .hd id) (hH : s.H id = some (.mp t (mpr kvs))) (hy : keyV (opV n s y) = some k) (hk : IsKey kd k) (hks : ∀ q ∈ kvs, IsKey kd q.1)
    (hin : ∃ q ∈ kvs, q.1 = k) (hzz : opV n s z = tv) (hold : ∀ q ∈ kvs, q.1 = k → q.2 = tv) (h : K ⟨s.σ, upd s.H id (.mp t (mpr kvs))⟩) : TWo P n o K s := TWo.growSkip fun C a e FH hn hX => by
  have L : KLaw P kt (IsKey kd) := KLaw.plain hkd
  have hxr := opV_rep hX hn x
  rw [hx] at hxr
  simp only [Rep] at hxr
  obtain ⟨_, hid, hxv, _⟩ := hxr
  have hO := hX.objs id _ hH
  simp only [Rep] at hO
  obtain ⟨b, es, clock, hev, hb, hes, hF⟩ := hO
  obtain ⟨hkeys, hvals⟩ := ent_of hes emp_noF
  have hkv := keyV_rep (opV_rep hX hn y) hy
  have hzr := opV_rep hX hn z
  rw [hzz] at hzr
  have hks' : ∀ q ∈ es.toList, IsKey kd q.key := fun q hq => by obtain ⟨p, hp, e1⟩ := mem_keys hkeys hq; rw [← e1]; exact hks p hp
  rcases L.find k hk es.toList e.w hks' with ⟨h1, h2⟩ | ⟨j, q, h1, h2, h3⟩
  case inl =>
    obtain ⟨q, hq, hqk⟩ := hin
    have : q.1 ∈ es.toList.map (·.key) := by rw [hkeys]; exact List.mem_map.2 ⟨q, hq, rfl⟩
    obtain ⟨q', hq', e1⟩ := List.mem_map.1 this
    exact absurd (e1.trans hqk) (h2 q' hq')
  have hbF : ∃ m, FH id b m := ⟨0, (hF b 0).2 ⟨rfl, rfl⟩⟩
  have hj : es[j]? = some q := by simpa using h2
  generalize hv : a.eval z = v at hzr
  obtain ⟨hs1, hs2⟩ := heap_set (w := e.w) (o' := .map (es.modify j fun e' => { e' with key := k, val := v }) clock) hb
  have gr : Grow e.w { e.w with heap := e.w.heap.setIfInBounds b (.map (es.modify j fun e' => { e' with key := k, val := v }) clock) } (fun b' => ∃ m, FH id b' m) :=
    ⟨rfl, rfl, rfl, by simp, fun b' _ hn' => hs2 b' fun e' => hn' (by rw [e']; exact hbF)⟩
  have kp : Keep e ⟨{ e.w with heap := e.w.heap.setIfInBounds b (.map (es.modify j fun e' => { e' with key := k, val := v }) clock) }, e.Z, e.N, e.η⟩ noF :=
    ⟨fun b x => x, Nat.le_refl _, fun _ _ => rfl, fun b' hz => gr.block b' (hX.ltZ b' hz) fun ⟨m, hm⟩ => hX.notZ id b' m hm hz, fun b m x => x.elim⟩
  have hmod : ∀ i, (es.modify j fun e' => { e' with key := k, val := v }).toList[i]? = if i = j then some { q with key := k, val := v } else es.toList[i]? := by
    intro i
    rw [Array.toList_modify, List.getElem?_modify]
    by_cases c : i = j
    · subst c; rw [h2]; simp
    · have c' : ¬ j = i := fun x => c x.symm
      rw [if_neg c]; simp [c']
  have hrep : Rep P ⟨{ e.w with heap := e.w.heap.setIfInBounds b (.map (es.modify j fun e' => { e' with key := k, val := v }) clock) }, e.Z, e.N, e.η⟩ (.mp t (mpr kvs)) (e.η id) (Sgl b 0) := by
    simp only [Rep]
    refine ⟨b, _, clock, hev, hs1, of_ent ?_ (fun i u p hu hp => ?_), fun _ _ => Iff.rfl⟩
    · rw [← hkeys]
      apply List.ext_getElem?
      intro i
      rw [List.getElem?_map, List.getElem?_map, hmod i]
      by_cases c : i = j
      · subst c; rw [if_pos rfl, h2]; simp [h3]
      · rw [if_neg c]
    · rw [hmod i] at hu
      by_cases c : i = j
      · subst c
        rw [if_pos rfl] at hu
        cases hu
        have hpk : p.1 = k := by
          have h4 := congrArg (fun l => l[i]?) hkeys
          simp only [List.getElem?_map, h2, hp, Option.map_some, Option.some.injEq] at h4
          rw [← h4]; exact h3
        rw [hold p (List.mem_of_getElem? hp) hpk]
        exact Rep.keep _ hzr kp
      · rw [if_neg c] at hu
        exact Rep.keep _ (hvals i u p hu hp) kp
  have hX' := hX.upd (i := id) (i' := id) (N' := e.N) (η' := e.η) gr (Nat.le_refl _) (fun _ _ => rfl) (.inl rfl) hid hrep (.inr (.inr ⟨_, _, rfl⟩)) (fun b' m hb' => .inl ⟨0, by rw [hb'.1]; exact (hF b 0).2 ⟨rfl, rfl⟩⟩) (fun b' m hb' => by
    rw [hb'.1]
    exact Nat.lt_of_lt_of_le (hX.ltF id b 0 ((hF b 0).2 ⟨rfl, rfl⟩)) gr.size)
  rw [upd_del] at hX'
  refine ⟨_, _, ?_, h, by rw [hd]; exact .of hn hX'⟩
  unfold execOp
  rcases ho with ho | ho <;> rw [ho] <;> simp [Instr.mapUpdate, run_underlying ht, Result.andThen, hxv, hev, MapKept.run_getObj_map hb, hkv, L.check k hk, h1, hv, hj, h3, run_keyThatStays hk, MapKept.run_setObj_map _ hb]
theorem mem_mpv {kvs : List (Value × Value)} {q : Value × TV} (h : q ∈ kvs.map fun q => (q.1, TV.val q.2)) : ∃ p ∈ kvs, q.1 = p.1 ∧ q.2 = .val p.2 := by
  obtain ⟨p, hp, rfl⟩ := List.mem_map.1 h
  exact ⟨p, hp, rfl, rfl⟩
theorem TWoH.lookupHit (id : Nat) (kvs : List (Value × Value)) (k v : Value) (L : KLaw P kt K0) (ht : P.underlying t = some (.map kt et)) (hx : opV n s x = .hd id) (hH : s.H id = some (.mp t (mpv kvs))) (hy : keyV (opV n s y) = some k) (hk : K0 k) (hks : ∀ q ∈ kvs, K0 q.1)
    (hin : ∃ q ∈ kvs, q.1 = k) (hv : ∀ q ∈ kvs, q.1 = k → q.2 = v) {c : Bool} (h : K (St.put s d (if c = true then .tup [.val v, .val (.bool true)] else .val v))) : TWoH P n ⟨d, .lookup t x y c, ty, pos, af, g⟩ K .mk s :=
  TWoH.lookupHitT id _ k L ht hx hH hy hk (fun q hq => by obtain ⟨p, hp, e1, _⟩ := mem_mpv hq; rw [e1]; exact hks p hp)
    (by obtain ⟨q, hq, e1⟩ := hin; exact ⟨_, List.mem_map.2 ⟨q, hq, rfl⟩, e1⟩) (fun q hq e0 => by obtain ⟨p, hp, e1, e2⟩ := mem_mpv hq; rw [e2, hv p hp (by rw [← e1]; exact e0)]) h
theorem TWoH.lookupMiss (id : Nat) (kvs : List (Value × Value)) (k zv : Value) (L : KLaw P kt K0) (ht : P.underlying t = some (.map kt et)) (hz : (P.info? et).bind (·.zero) = some zv) (hx : opV n s x = .hd id) (hH : s.H id = some (.mp t (mpv kvs))) (hy : keyV (opV n s y) = some k) (hk : K0 k) (hks : ∀ q ∈ kvs, K0 q.1)
    (hin : ∀ q ∈ kvs, q.1 ≠ k) {c : Bool} (h : K (St.put s d (if c = true then .tup [.val zv, .val (.bool false)] else .val zv))) : TWoH P n ⟨d, .lookup t x y c, ty, pos, af, g⟩ K .mk s :=
  TWoH.lookupMissT id _ k zv L ht hz hx hH hy hk (fun q hq => by obtain ⟨p, hp, e1, _⟩ := mem_mpv hq; rw [e1]; exact hks p hp) (fun q hq => by obtain ⟨p, hp, e1, _⟩ := mem_mpv hq; rw [e1]; exact hin p hp) h
theorem TWo.putNew {o : Oper} {kvs : List (Value × Value)} (ho : o.op = .insert t x y z ∨ o.op = .mapUpdate t x y z) (hd : o.dst = none) (L : KLaw P kt K0) (ht : P.underlying t = some (.map kt et)) (hx : opV n s x = .hd id) (hH : s.H id = some (.mp t (mpv kvs))) (hy : keyV (opV n s y) = some k) (hk : K0 k) (hks : ∀ q ∈ kvs, K0 q.1)
    (hin : ∀ q ∈ kvs, q.1 ≠ k) (hzz : opV n s z = .val v) (h : K ⟨s.σ, upd s.H id (.mp t (mpv (kvs ++ [(k, v)])))⟩) : TWo P n o K s :=
  TWo.putNewT ho hd L ht hx hH hy hk (fun q hq => by obtain ⟨p, hp, e1, _⟩ := mem_mpv hq; rw [e1]; exact hks p hp) (fun q hq => by obtain ⟨p, hp, e1, _⟩ := mem_mpv hq; rw [e1]; exact hin p hp) hzz (by simpa [mpv] using h)
theorem TWoH.insert (id : Nat) (kvs : List (Value × Value)) (k v : Value) (L : KLaw P kt K0) (ht : P.underlying t = some (.map kt et)) (hx : opV n s x = .hd id) (hH : s.H id = some (.mp t (mpv kvs))) (hy : keyV (opV n s y) = some k) (hk : K0 k) (hks : ∀ q ∈ kvs, K0 q.1)
    (hin : ∀ q ∈ kvs, q.1 ≠ k) (hzz : opV n s z = .val v) (h : K ⟨s.σ, upd s.H id (.mp t (mpv (kvs ++ [(k, v)])))⟩) : TWoH P n ⟨none, .insert t x y z, ty, pos, af, g⟩ K .mk s := TWo.putNew (.inl rfl) rfl L ht hx hH hy hk hks hin hzz h
theorem TWoH.mapUpdate (id : Nat) (kvs : List (Value × Value)) (k v : Value) (L : KLaw P kt K0) (ht : P.underlying t = some (.map kt et)) (hx : opV n s x = .hd id) (hH : s.H id = some (.mp t (mpv kvs))) (hy : keyV (opV n s y) = some k) (hk : K0 k) (hks : ∀ q ∈ kvs, K0 q.1)
    (hin : ∀ q ∈ kvs, q.1 ≠ k) (hzz : opV n s z = .val v) (h : K ⟨s.σ, upd s.H id (.mp t (mpv (kvs ++ [(k, v)])))⟩) : TWoH P n ⟨none, .mapUpdate t x y z, ty, pos, af, g⟩ K .mk s := TWo.putNew (.inr rfl) rfl L ht hx hH hy hk hks hin hzz h
theorem TWoH.mapUpdateNewT (id : Nat) (kvs : List (Value × TV)) (k : Value) (tv : TV) (L : KLaw P kt K0) (ht : P.underlying t = some (.map kt et)) (hx : opV n s x = .hd id) (hH : s.H id = some (.mp t (mpr kvs))) (hy : keyV (opV n s y) = some k) (hk : K0 k) (hks : ∀ q ∈ kvs, K0 q.1)
    (hin : ∀ q ∈ kvs, q.1 ≠ k) (hzz : opV n s z = tv) (h : K ⟨s.σ, upd s.H id (.mp t (mpr (kvs ++ [(k, tv)])))⟩) : TWoH P n ⟨none, .mapUpdate t x y z, ty, pos, af, g⟩ K .mk s := TWo.putNewT (.inr rfl) rfl L ht hx hH hy hk hks hin hzz h
theorem TWoH.mapUpdateOldT {kd : TypeDesc} (id : Nat) (kvs : List (Value × TV)) (k : Value) (tv : TV) (hkd : P.underlying kt = some kd) (ht : P.underlying t = some (.map kt et)) (hx : opV n s x = .hd id) (hH : s.H id = some (.mp t (mpr kvs))) (hy : keyV (opV n s y) = some k) (hk : IsKey kd k) (hks : ∀ q ∈ kvs, IsKey kd q.1)
    (hin : ∃ q ∈ kvs, q.1 = k) (hzz : opV n s z = tv) (hold : ∀ q ∈ kvs, q.1 = k → q.2 = tv) (h : K ⟨s.σ, upd s.H id (.mp t (mpr kvs))⟩) : TWoH P n ⟨none, .mapUpdate t x y z, ty, pos, af, g⟩ K .mk s := TWo.putOldT (.inr rfl) rfl hkd ht hx hH hy hk hks hin hzz hold h
end
end Go.Proofs.YtdomnlnanbekaaaGreatDoor.T

namespace Go.Proofs.YtdomnlnanbekaaaGreatDoor.T
set_option linter.unusedVariables false
section
variable {P : Program}
/-- What is handed back may be taken as what is only read from then on. -/
theorem TCR.frz {f : FuncId} {args objs : List TV} {R : TV → List TV → Prop} (h : TCR P f args objs R) : TCR P f args objs (fun r o => ∃ r0, R r0 o ∧ r = toRo r0) := by
  intro w Z η F vs h1 h2 h3 h4 h5
  refine (h w Z η F vs h1 h2 h3 h4 h5).mono ?_
  rintro x w' ⟨res, objs', hR0, v, Z', F', rfl, hr, hg, hZ, hlt, hfrom, hF⟩
  simp only [RepL] at hr
  obtain ⟨v0, vs0, F1, F2, hv, hr1, hr2, hs⟩ := hr
  obtain ⟨rfl, rfl⟩ := List.cons.inj hv
  have hsub : ∀ b, Z' b → (Z' b ∨ ∃ m, F1 b m) := fun b x => .inl x
  refine ⟨toRo res, objs', ⟨res, hR0, rfl⟩, v, fun b => Z' b ∨ ∃ m, F1 b m, F2, rfl, ?_, hg, fun b x => .inl (hZ b x), ?_, ?_, ?_⟩
  · simp only [RepL]
    exact ⟨v, _, noF, F2, rfl, Rep.frz res hr1 ⟨rfl, Nat.le_refl _, fun _ _ => rfl, hsub, fun b m x => .inr ⟨m, x⟩⟩, RepL.keep _ hr2 (keep_same hsub (Nat.le_refl _) (fun _ _ => rfl)), ⟨fun b m => ⟨fun x => .inr x, fun x => x.elim (fun y => y.elim) id⟩, fun b m m' x _ => x.elim⟩⟩
  · rintro b (x | ⟨m, x⟩)
    · exact hlt b x
    · exact (hF b m ((hs.iff b m).2 (.inl x))).2.2
  · rintro b (x | ⟨m, x⟩)
    · exact hfrom b x
    · rcases (hF b m ((hs.iff b m).2 (.inl x))).1 with y | y
      · exact .inr (.inl y)
      · exact .inr (.inr y)
  · intro b m x
    obtain ⟨a1, a2, a3⟩ := hF b m ((hs.iff b m).2 (.inr x))
    refine ⟨a1, ?_, a3⟩
    rintro (y | ⟨m', y⟩)
    · exact a2 y
    · exact hs.dis b m' m y x
end
section
variable {P : Program} {n : Nat} {s : St} {K : St → Prop} {o : Oper}
theorem TWoH.turn (h : Turn P n s (TWoH P n o K .mk)) : TWoH P n o K .mk s := fun C a w J Q hr hk => by
  obtain ⟨s', h', hr'⟩ := h C a w hr
  exact h' C a w J Q hr' hk
end
end Go.Proofs.YtdomnlnanbekaaaGreatDoor.T

namespace Go.Proofs.YtdomnlnanbekaaaGreatDoor.T
set_option linter.unusedVariables false
/-- An object whose cells name what is only read from now on. -/
def frzO (id : Nat) (r : TV) : TV → TV
  | .box ty cs => .box ty (cs.map (frz1 id r))
  | .own E rows => .own E (rows.map fun row => row.map (frz1 id r))
  | t => t
section
variable {P : Program} {C : Ctx} {n : Nat} {s : St} {a : Act} {e : Env} {FH : Nat → Foot} {w : World} {K : St → Prop} {o : Oper}
theorem frz1_any {Z' : Nat → Prop} (hZ : ∀ b, e.Z b → Z' b) {id : Nat} {t : TV} (ht : Rep P ⟨e.w, Z', e.N, e.η⟩ (toRo t) (e.η id) noF) (hkind : (∃ E rows, t = .own E rows) ∨ (∃ ty cs, t = .box ty cs) ∨ (∃ ty kvs, t = .mp ty kvs)) {x : TV} {v : Value} {F : Foot} (h : Rep P e x v F) :
    Rep P ⟨e.w, Z', e.N, e.η⟩ (frz1 id (toRo t) x) v F := by
  by_cases hF : Emp F
  · exact frz1_rep (keep_same hZ (Nat.le_refl _) (fun _ _ => rfl)) ht hkind h hF
  · have : frz1 id (toRo t) x = x := by
      cases x with
      | hd i => exact absurd (by simp only [Rep] at h; exact h.1) hF
      | pd i z r c => exact absurd (by simp only [Rep] at h; exact h.1) hF
      | _ => rfl
    rw [this]; exact Rep.keep _ h (keep_same hZ (Nat.le_refl _) (fun _ _ => rfl))
theorem frzL_any {Z' : Nat → Prop} (hZ : ∀ b, e.Z b → Z' b) {id : Nat} {t : TV} (ht : Rep P ⟨e.w, Z', e.N, e.η⟩ (toRo t) (e.η id) noF) (hkind : (∃ E rows, t = .own E rows) ∨ (∃ ty cs, t = .box ty cs) ∨ (∃ ty kvs, t = .mp ty kvs)) : ∀ {xs : List TV} {vs : List Value} {F : Foot}, RepL P e xs vs F →
    RepL P ⟨e.w, Z', e.N, e.η⟩ (xs.map (frz1 id (toRo t))) vs F
  | [], vs, F, h => by simpa [RepL] using h
  | x :: xs, vs, F, h => by
    simp only [RepL] at h
    obtain ⟨v, vs', F1, F2, hv, h1, h2, hs⟩ := h
    simp only [List.map_cons, RepL]
    exact ⟨v, vs', F1, F2, hv, frz1_any hZ ht hkind h1, frzL_any hZ ht hkind h2, hs⟩
theorem frzR_any {Z' : Nat → Prop} (hZ : ∀ b, e.Z b → Z' b) {id : Nat} {t : TV} (ht : Rep P ⟨e.w, Z', e.N, e.η⟩ (toRo t) (e.η id) noF) (hkind : (∃ E rows, t = .own E rows) ∨ (∃ ty cs, t = .box ty cs) ∨ (∃ ty kvs, t = .mp ty kvs)) : ∀ {xs : List (List TV)} {vs : List Value} {F : Foot}, RepRows P e xs vs F →
    RepRows P ⟨e.w, Z', e.N, e.η⟩ (xs.map fun row => row.map (frz1 id (toRo t))) vs F
  | [], vs, F, h => by simpa [RepRows] using h
  | x :: xs, vs, F, h => by
    simp only [RepRows] at h
    obtain ⟨v, vs', F1, F2, hv, h1, h2, hs⟩ := h
    simp only [List.map_cons, RepRows]
    exact ⟨v, vs', F1, F2, hv, frzL_any hZ ht hkind h1, frzR_any hZ ht hkind h2, hs⟩
theorem frzO_rep {Z' : Nat → Prop} (hZ : ∀ b, e.Z b → Z' b) {id : Nat} {t : TV} (ht : Rep P ⟨e.w, Z', e.N, e.η⟩ (toRo t) (e.η id) noF) (hkind : (∃ E rows, t = .own E rows) ∨ (∃ ty cs, t = .box ty cs) ∨ (∃ ty kvs, t = .mp ty kvs)) {x : TV} {v : Value} {F : Foot} (h : Rep P e x v F) :
    Rep P ⟨e.w, Z', e.N, e.η⟩ (frzO id (toRo t) x) v F := by
  cases x with
  | box ty cs =>
    simp only [Rep] at h
    obtain ⟨b, vs, F', hv, hb, hr, h1, hs⟩ := h
    simp only [frzO, Rep]
    exact ⟨b, vs, F', hv, hb, frzL_any hZ ht hkind hr, h1, hs⟩
  | own E rows =>
    simp only [Rep] at h
    obtain ⟨vs, F', ho, hz, hr, h1, hs⟩ := h
    simp only [frzO, Rep]
    refine ⟨vs, F', by simpa using ho, ?_, frzR_any hZ ht hkind hr, h1, by simpa using hs⟩
    intro r hr'
    obtain ⟨r0, h0, rfl⟩ := List.mem_map.1 hr'
    simpa using hz r0 h0
  | _ => exact Rep.keep _ h (keep_same hZ (Nat.le_refl _) (fun _ _ => rfl))
theorem RelX.freezeA (h : RelX P C s a e FH) {id : Nat} {t : TV} (hH : s.H id = some t) :
    RelX P C ⟨fun j => frzT id (toRo t) (s.σ j), del (fun i => (s.H i).map (frzO id (toRo t))) id⟩ a ⟨e.w, fun b => e.Z b ∨ ∃ m, FH id b m, e.N, e.η⟩ (fun j => if j = id then noF else FH j) := by
  have hZ : ∀ b, e.Z b → (e.Z b ∨ ∃ m, FH id b m) := fun b hb => .inl hb
  have hfr : Rep P ⟨e.w, fun b => e.Z b ∨ ∃ m, FH id b m, e.N, e.η⟩ (toRo t) (e.η id) noF := Rep.frz t (h.objs id t hH) ⟨rfl, Nat.le_refl _, fun _ _ => rfl, hZ, fun b m hb => .inr ⟨m, hb⟩⟩
  refine h.know hZ (fun b hb => hb.imp (fun x => x) fun ⟨m, hm⟩ => ⟨id, m, hm⟩) (Nat.le_refl _) (fun _ _ => rfl) (fun j hj => frzT_rep (keep_same hZ (Nat.le_refl _) (fun _ _ => rfl)) hfr (h.kind id t hH) (h.slots j hj) emp_noF) ?_ ?_ ?_ ?_ ?_ ?_ ?_
  · intro i t' hi
    by_cases e1 : i = id
    · subst e1; simp [del] at hi
    · simp only [e1, if_false]
      obtain ⟨t0, h0, rfl⟩ : ∃ t0, s.H i = some t0 ∧ frzO id (toRo t) t0 = t' := by simpa [del, e1, Option.map_eq_some_iff] using hi
      exact frzO_rep hZ hfr (h.kind id t hH) (h.objs i t0 h0)
  · intro i t' hi
    by_cases e1 : i = id
    · subst e1; simp [del] at hi
    · obtain ⟨t0, h0, rfl⟩ : ∃ t0, s.H i = some t0 ∧ frzO id (toRo t) t0 = t' := by simpa [del, e1, Option.map_eq_some_iff] using hi
      rcases h.kind i t0 h0 with ⟨E, rows, rfl⟩ | ⟨ty, cs, rfl⟩ | ⟨ty, kvs, rfl⟩
      · exact .inl ⟨_, _, rfl⟩
      · exact .inr (.inl ⟨_, _, rfl⟩)
      · exact .inr (.inr ⟨_, _, rfl⟩)
  · intro i hi
    by_cases e1 : i = id
    · subst e1; simp; exact emp_noF
    · simp only [e1, if_false]; exact h.none_ i (by simpa [del, e1] using hi)
  · intro i hi
    by_cases e1 : i = id
    · subst e1; simp [del]
    · simp [del, e1]; exact h.top i hi
  · intro i i' b m m' hi hi'
    by_cases e1 : i = id
    · simp [e1] at hi; exact hi.elim
    · by_cases e2 : i' = id
      · simp [e2] at hi'; exact hi'.elim
      · simp [e1] at hi; simp [e2] at hi'; exact h.one i i' b m m' hi hi'
  · rintro i b m hi (hz | ⟨m', hm'⟩)
    · by_cases e1 : i = id
      · simp [e1] at hi; exact hi.elim
      · simp [e1] at hi; exact h.notZ i b m hi hz
    · by_cases e1 : i = id
      · simp [e1] at hi; exact hi.elim
      · simp [e1] at hi; exact e1 (h.one i id b m m' hi hm')
  · intro i b m hi
    by_cases e1 : i = id
    · simp [e1] at hi; exact hi.elim
    · simp [e1] at hi; exact ⟨i, m, hi⟩

theorem Turn.freezeA {A : St → Prop} (id : Nat) {t : TV} (hH : s.H id = some t) (h : A ⟨fun j => frzT id (toRo t) (s.σ j), del (fun i => (s.H i).map (frzO id (toRo t))) id⟩) : Turn P n s A := fun C a w hr => by
  obtain ⟨hn, e, FH, rfl, hX⟩ := hr
  exact ⟨_, h, hn, ⟨e.w, fun b => e.Z b ∨ ∃ m, FH id b m, e.N, e.η⟩, _, rfl, hX.freezeA hH⟩
theorem TWcH.loopT (ρ : List Nat) {Q : Post} {c : Code} (I J : Nat → St → Prop) (m : Nat) (h0 : I m s) (hIJ : ∀ m s, I m s → Turn P n s (J m)) (round : ∀ m s, J m s → tw P n ρ c (Qthen (fun s' => ∃ m', m' < m ∧ I m' s') Q) s) : TWcH P n (.loop c) Q .mk s :=
  TWc.loop I (m := m) h0 fun m s h => TWc.turn fun C a w hr => by
    obtain ⟨s', h', hr'⟩ := hIJ m s h C a w hr
    exact ⟨s', tw_sound (round m s' h'), hr'⟩
end
end Go.Proofs.YtdomnlnanbekaaaGreatDoor.T

namespace Go.Proofs.YtdomnlnanbekaaaGreatDoor.T
set_option linter.unusedVariables false
/-- A nil row may be taken as one that is only read. -/
def nrm1 : TV → TV
  | .val (.slice none 0 0) => .ro []
  | t => t
def nrmO : TV → TV
  | .box ty cs => .box ty (cs.map nrm1)
  | .own E rows => .own E (rows.map fun row => row.map nrm1)
  | t => t
section
variable {P : Program} {C : Ctx} {n : Nat} {s : St} {a : Act} {e : Env} {FH : Nat → Foot} {w : World} {K : St → Prop} {o : Oper}
theorem nrm1_rep {x : TV} {v : Value} {F : Foot} (h : Rep P e x v F) : Rep P e (nrm1 x) v F := by
  unfold nrm1
  split
  · simp only [Rep] at h ⊢
    obtain ⟨hE, rfl⟩ := h
    exact ⟨hE, none, 0, [], 0, rfl, Nat.le_refl _, by simp, by simp [RepRows, hE], by simp [Ones], .inl rfl⟩
  · exact h
theorem nrmL_rep : ∀ {xs : List TV} {vs : List Value} {F : Foot}, RepL P e xs vs F → RepL P e (xs.map nrm1) vs F
  | [], vs, F, h => by simpa [RepL] using h
  | x :: xs, vs, F, h => by
    simp only [RepL] at h
    obtain ⟨v, vs', F1, F2, hv, h1, h2, hs⟩ := h
    simp only [List.map_cons, RepL]
    exact ⟨v, vs', F1, F2, hv, nrm1_rep h1, nrmL_rep h2, hs⟩
theorem nrmR_rep : ∀ {xs : List (List TV)} {vs : List Value} {F : Foot}, RepRows P e xs vs F → RepRows P e (xs.map fun row => row.map nrm1) vs F
  | [], vs, F, h => by simpa [RepRows] using h
  | x :: xs, vs, F, h => by
    simp only [RepRows] at h
    obtain ⟨v, vs', F1, F2, hv, h1, h2, hs⟩ := h
    simp only [List.map_cons, RepRows]
    exact ⟨v, vs', F1, F2, hv, nrmL_rep h1, nrmR_rep h2, hs⟩
theorem nrmO_rep {x : TV} {v : Value} {F : Foot} (h : Rep P e x v F) : Rep P e (nrmO x) v F := by
  cases x with
  | box ty cs =>
    simp only [Rep] at h
    obtain ⟨b, vs, F', hv, hb, hr, h1, hs⟩ := h
    simp only [nrmO, Rep]
    exact ⟨b, vs, F', hv, hb, nrmL_rep hr, h1, hs⟩
  | own E rows =>
    simp only [Rep] at h
    obtain ⟨vs, F', ho, hz, hr, h1, hs⟩ := h
    simp only [nrmO, Rep]
    refine ⟨vs, F', by simpa using ho, ?_, nrmR_rep hr, h1, by simpa using hs⟩
    intro r hr'
    obtain ⟨r0, h0, rfl⟩ := List.mem_map.1 hr'
    simpa using hz r0 h0
  | _ => exact h
theorem RelX.nrm (h : RelX P C s a e FH) {id : Nat} {t : TV} (hH : s.H id = some t) : RelX P C ⟨s.σ, Go.Proofs.YtdomnlnanbekaaaGreatDoor.T.upd s.H id (nrmO t)⟩ a e FH := by
  refine h.know (e := e) (fun _ x => x) (fun _ x => .inl x) (Nat.le_refl _) (fun _ _ => rfl) h.slots ?_ ?_ ?_ ?_ h.one (fun i b m hi hz => h.notZ i b m hi hz) (fun i b m hi => ⟨i, m, hi⟩)
  · intro i t' hi
    by_cases e1 : i = id
    · subst e1
      simp [Go.Proofs.YtdomnlnanbekaaaGreatDoor.T.upd] at hi
      subst hi
      exact nrmO_rep (h.objs i t hH)
    · exact h.objs i t' (by simpa [Go.Proofs.YtdomnlnanbekaaaGreatDoor.T.upd, e1] using hi)
  · intro i t' hi
    by_cases e1 : i = id
    · subst e1
      simp [Go.Proofs.YtdomnlnanbekaaaGreatDoor.T.upd] at hi
      subst hi
      rcases h.kind i t hH with ⟨E, rows, rfl⟩ | ⟨ty, cs, rfl⟩ | ⟨ty, kvs, rfl⟩
      · exact .inl ⟨_, _, rfl⟩
      · exact .inr (.inl ⟨_, _, rfl⟩)
      · exact .inr (.inr ⟨_, _, rfl⟩)
    · exact h.kind i t' (by simpa [Go.Proofs.YtdomnlnanbekaaaGreatDoor.T.upd, e1] using hi)
  · intro i hi
    by_cases e1 : i = id
    · subst e1; simp [Go.Proofs.YtdomnlnanbekaaaGreatDoor.T.upd] at hi
    · exact h.none_ i (by simpa [Go.Proofs.YtdomnlnanbekaaaGreatDoor.T.upd, e1] using hi)
  · intro i hi
    by_cases e1 : i = id
    · subst e1; have := h.top i hi; rw [hH] at this; cases this
    · simpa [Go.Proofs.YtdomnlnanbekaaaGreatDoor.T.upd, e1] using h.top i hi
theorem Turn.nrm {A : St → Prop} (id : Nat) {t : TV} (hH : s.H id = some t) (h : A ⟨s.σ, upd s.H id (nrmO t)⟩) : Turn P n s A := fun C a w hr => by
  obtain ⟨hn, e, FH, rfl, hX⟩ := hr
  exact ⟨_, h, hn, e, FH, rfl, hX.nrm hH⟩
theorem TWoH.via {A : St → Prop} (h : Turn P n s A) (k : ∀ s', A s' → TWoH P n o K .mk s') : TWoH P n o K .mk s := fun C a w J Q hr hk => by
  obtain ⟨s', hA, hr'⟩ := h C a w hr
  exact k s' hA C a w J Q hr' hk
end
end Go.Proofs.YtdomnlnanbekaaaGreatDoor.T

namespace Go.Proofs.YtdomnlnanbekaaaGreatDoor.T
set_option linter.unusedVariables false
/-- A name that is none of these. -/
def frF (id : Nat) : List Nat → Prop
  | [] => True
  | j :: l => (¬ id = j ∧ ¬ j = id) ∧ frF id l
theorem frF_of {H : Nat → Option TV} {id : Nat} (h : H id = none) : ∀ L : List Nat, L.all (fun j => (H j).isSome) = true → frF id L
  | [], _ => trivial
  | j :: l, hL => by
    simp only [List.all_cons, Bool.and_eq_true] at hL
    have h1 : ¬ id = j := fun e => by rw [← e, h] at hL; exact absurd hL.1 (by simp)
    exact ⟨⟨h1, fun e => h1 e.symm⟩, frF_of h l hL.2⟩
theorem gall_fresh {H : Nat → Option TV} {A : Nat → Prop} {h : Hd A} (L : List Nat) (hL : L.all (fun j => (H j).isSome) = true) (hx : ∀ id, frF id L → A id) : gall H A h := fun id hid => hx id (frF_of hid L hL)
theorem frF_ge {H : Nat → Option TV} {q : Nat} (h : ∀ j, q ≤ j → H j = none) (L : List Nat) (hL : L.all (fun j => (H j).isSome) = true) : frF q L := frF_of (h q (Nat.le_refl _)) L hL
end Go.Proofs.YtdomnlnanbekaaaGreatDoor.T

namespace Go.Proofs.YtdomnlnanbekaaaGreatDoor.T
set_option linter.unusedVariables false
set_option linter.unusedSimpArgs false
open Go.RowKit
section
variable {P : Program} {C : Ctx} {n : Nat} {s : St} {a : Act} {e : Env} {FH : Nat → Foot} {w : World} {K : St → Prop} {o : Oper}
/-- An own row, cut behind its first rows, under a name of its own. -/
theorem RelX.prefix (h : RelX P C s a e FH) {id E k : Nat} {rows : List (List TV)} {v : Value} (hH : s.H id = some (.own E rows)) (hv : SlOf (e.η id) (szOf P E) 0 k v) :
    s.H e.N = none ∧ v.oneCell' = true ∧ k ≤ rows.length ∧ ∃ FH', RelX P C ⟨s.σ, Go.Proofs.YtdomnlnanbekaaaGreatDoor.T.upd (del s.H id) e.N (.own E (rows.take k))⟩ a ⟨e.w, e.Z, e.N + 1, ext e.η e.N v⟩ FH' := by
  have hid := h.hdlt hH
  have h0 := h.objs id _ hH
  simp only [Rep] at h0
  obtain ⟨vs, F1, ho, hz, hrr, h1, hs⟩ := h0
  obtain ⟨A, m, cap, hη, hA, rfl, hkm, hmc⟩ := hv
  have hm : m = rows.length := by
    rcases ownsRow_cells ho with ⟨hv, hn, rfl⟩ | ⟨g, cap', hv, hc, hcs⟩
    · rw [hη] at hv; injection hv with _ e _; omega
    · rw [hη] at hv; injection hv
  subst hm
  have hAv : (if cap = 0 then A else A.map (·.add (0 * szOf P E))) = A := by
    rcases hA with rfl | ⟨g, rfl⟩
    · simp
    · split <;> simp [add_mk]
  rw [hAv, Nat.sub_zero]
  refine ⟨h.top_none, by rfl, by omega, ?_⟩
  obtain ⟨G1, G2, g1, _, sg⟩ := RepRows.split k hrr hz
  have hl : (rows.take k).length = k := by simp only [List.length_take]; omega
  have hvl := hrr.len hz
  have how : e.w.ownsRow 0 E (szOf P E) (.slice A k cap) (rows.take k).length (vs.take (k * szOf P E)) := by
    rw [hl]
    have hle : k * szOf P E ≤ rows.length * szOf P E := Nat.mul_le_mul_right _ (by omega)
    refine ⟨by rw [List.length_take, hvl]; omega, ?_⟩
    rcases ho.2 with ⟨hv, hn⟩ | ⟨g, cap', cur, hv, hb, hg, h2, h3, h4, h5⟩
    · rw [hη] at hv; injection hv with e1 e2 e3
      exact .inl ⟨by rw [e1, e3]; congr 1; omega, by omega⟩
    · rw [hη] at hv; injection hv with e1 e2 e3
      subst e1 e3
      exact .inr ⟨g, cap, cur, rfl, hb, hg, by omega, h3, h4, by rw [← h5, List.take_take]; congr 1; omega⟩
  have hks : ∀ {F : Foot}, Keep e ⟨e.w, e.Z, e.N + 1, ext e.η e.N (.slice A k cap)⟩ F := keep_same (fun b x => x) (Nat.le_succ _) ext_old
  have hOb : ∀ b m, OwnF (.slice A k cap) ((rows.take k).length * szOf P E) b m → OwnF (e.η id) (rows.length * szOf P E) b (rows.length * szOf P E) := by
    rintro b m ⟨hb, _⟩
    refine ⟨?_, rfl⟩
    rw [hη]; cases A <;> exact hb
  have := h.upd (i := id) (i' := e.N) (N' := e.N + 1) (η' := ext e.η e.N (.slice A k cap)) (w' := e.w) (t' := .own E (rows.take k)) (F' := Uni (OwnF (.slice A k cap) ((rows.take k).length * szOf P E)) G1) (Grow.refl _ _) (Nat.le_succ _) ext_old (.inr (Nat.le_refl _)) (Nat.lt_succ_self _) (by
    rw [ext_new]
    simp only [Rep]
    refine ⟨_, G1, how, fun r hr => hz r (List.mem_of_mem_take hr), RepRows.keep _ g1 hks, fun u hu => h1 u (List.mem_of_mem_take hu), spl_uni ?_⟩
    intro b m m' hb hb'
    exact hs.dis b _ m' (hOb b m hb) (sg.l b m' hb')) (.inl ⟨_, _, rfl⟩) (by
    rintro b m (hb | hb)
    · exact .inl ⟨_, hs.l b _ (hOb b m hb)⟩
    · exact .inl ⟨m, hs.r b m (sg.l b m hb)⟩) (by
    rintro b m (hb | hb)
    · exact h.ltF id b _ (hs.l b _ (hOb b m hb))
    · exact h.ltF id b m (hs.r b m (sg.l b m hb)))
  exact ⟨_, this⟩
/-- append to the first rows of an own row: what it was is gone. -/
theorem TWoH.appendSl {t E : TypeId} {d : Option Tmp} {ty : TypeId} {pos : String} {af : Array Edge} {g : Option (Nat × Bool)} {x : Tmp} {y : Operand} {id k : Nat} {rows rows' : List (List TV)} {z : List TV} (ht : P.underlying t = some (.slice E))
    (hz : zeroT P E = some z) (hzl : z.length = szOf P E) (hz0 : 0 < szOf P E) (hxn : x < n) (hx : s.σ x = .sl id (szOf P E) 0 k) (hH : s.H id = some (.own E rows))
    (hy : ∀ id1, s.H id1 = none → rowsOf ⟨set s.σ x (.hd id1), upd (del s.H id) id1 (.own E (rows.take k))⟩ (opV n ⟨set s.σ x (.hd id1), upd (del s.H id) id1 (.own E (rows.take k))⟩ y) = some rows') (hrl : ∀ r ∈ rows', r.length = szOf P E)
    (hm : (k + rows'.length) * bytesT P E ≤ 140737488355328) (hm' : k + rows'.length ≤ 9223372036854775807)
    (h : ∀ id1 id', s.H id1 = none → del s.H id id' = none → id' ≠ id1 → K (St.put ⟨set s.σ x (.hd id1), upd (del (upd (del s.H id) id1 (.own E (rows.take k))) id1) id' (.own E (rows.take k ++ rows'))⟩ d (.hd id'))) :
    TWoH P n ⟨d, .call ⟨.builtin .append, #[.tmp x, y], #[t, t]⟩, ty, pos, af, g⟩ K .mk s := fun C a w J Q hr hk => by
  obtain ⟨hn, e, FH, rfl, hX⟩ := hr
  have hxs := hX.slots x (by rw [hn]; exact hxn)
  rw [hx] at hxs
  simp only [Rep] at hxs
  obtain ⟨_, hid, hv⟩ := hxs
  obtain ⟨hN, hone, hk1, FH', hX'⟩ := hX.prefix hH hv
  have hX2 : RelX P C ⟨set s.σ x (.hd e.N), upd (del s.H id) e.N (.own E (rows.take k))⟩ a ⟨e.w, e.Z, e.N + 1, ext e.η e.N (a.tmps.getD x undef)⟩ FH' := by
    refine { hX' with slots := fun j hj => ?_ }
    by_cases e1 : j = x
    · subst e1
      simp only [Go.Proofs.YtdomnlnanbekaaaGreatDoor.T.set, if_true]
      exact hd_rep hone
    · simp only [Go.Proofs.YtdomnlnanbekaaaGreatDoor.T.set, e1, if_false]
      exact hX'.slots j hj
  have hl : (rows.take k).length = k := by simp only [List.length_take]; omega
  have := TWq.append (P := P) (n := n) (s := ⟨set s.σ x (.hd e.N), upd (del s.H id) e.N (.own E (rows.take k))⟩) (o := ⟨d, .call ⟨.builtin .append, #[.tmp x, y], #[t, t]⟩, ty, pos, af, g⟩) (K := K) (x := .tmp x) (y := y) (id := e.N) (rows := rows.take k) (rows' := rows') rfl ht hz hzl hz0 (by simp [opV, hxn, Go.Proofs.YtdomnlnanbekaaaGreatDoor.T.set]) (by simp [Go.Proofs.YtdomnlnanbekaaaGreatDoor.T.upd]) (hy e.N hN) hrl (by rw [hl]; exact hm) (by rw [hl]; exact hm') (fun id' hid' => by
    have hne : id' ≠ e.N := fun e1 => by subst e1; simp [Go.Proofs.YtdomnlnanbekaaaGreatDoor.T.upd] at hid'
    exact h e.N id' hN (by simpa [Go.Proofs.YtdomnlnanbekaaaGreatDoor.T.upd, hne] using hid') hne)
  exact this C a _ FH' hn hX2 J Q fun a' w' s' hs hr => hk a' w' s' hs hr.rel
end
end Go.Proofs.YtdomnlnanbekaaaGreatDoor.T

namespace Go.Proofs.YtdomnlnanbekaaaGreatDoor.T
set_option linter.unusedVariables false
section
variable {P : Program} {n : Nat} {s : St} {C : Ctx} {a : Act} {e : Env} {FH : Nat → Foot}
theorem RepL.nilC {k : Nat} (hk : k < e.N) (he : e.η k = .slice none 0 0) : ∀ (c : Nat) {cs : List TV} {vs : List Value} {F : Foot}, RepL P e cs vs F → cs[c]? = some (.val (.slice none 0 0)) → RepL P e (cs.set c (.hd k)) vs F
  | _, [], _, _, h, hc => by simp at hc
  | 0, x :: cs, vs, F, h, hc => by
    simp at hc
    subst hc
    simp only [RepL, List.set_cons_zero] at h ⊢
    obtain ⟨v, vs', F1, F2, hv, h1, h2, hs⟩ := h
    simp only [Rep] at h1
    exact ⟨v, vs', F1, F2, hv, by simp only [Rep]; exact ⟨h1.1, hk, by rw [h1.2, he], by rw [h1.2]; rfl⟩, h2, hs⟩
  | c + 1, x :: cs, vs, F, h, hc => by
    simp at hc
    simp only [RepL, List.set_cons_succ] at h ⊢
    obtain ⟨v, vs', F1, F2, hv, h1, h2, hs⟩ := h
    exact ⟨v, vs', F1, F2, hv, h1, RepL.nilC hk he c h2 hc, hs⟩
/-- A box's cell that holds nothing names an empty own row. -/
theorem Turn.nilC {A : St → Prop} (id c E ty : Nat) {cs : List TV} (hH : s.H id = some (.box ty cs)) (hc : cs[c]? = some (.val (.slice none 0 0))) (h : ∀ k, s.H k = none → ¬ k = id → A ⟨s.σ, upd (upd s.H k (.own E [])) id (.box ty (cs.set c (.hd k)))⟩) : Turn P n s A := fun C a w hr => by
  obtain ⟨hn, e, FH, rfl, hX⟩ := hr
  have hv : ∀ {w' Z N η}, Rep P ⟨w', Z, N, η⟩ (.own E []) (.slice none 0 0) noF := by
    intro w' Z N η
    simp only [Rep]
    refine ⟨[], noF, ⟨by simp, .inl ⟨rfl, rfl⟩⟩, by simp, by simp [RepRows, emp_noF], by simp [Ones], ⟨fun b m => ⟨fun x => x.elim, fun x => x.elim (fun y => by have := y.1; cases this) (fun y => y)⟩, fun b m m' x _ => by have := x.1; cases this⟩⟩
  have hid := hX.hdlt hH
  obtain ⟨FH', hX'⟩ := hX.fresh (w' := e.w) (t := .own E []) (v := .slice none 0 0) (F' := noF) (Grow.refl _ _) hv (.inl ⟨_, _, rfl⟩) (fun b m x => x.elim) (fun b m x => x.elim)
  have hX2 := hX'.1
  have hne : ¬ e.N = id := by omega
  refine ⟨_, h e.N hX.top_none hne, hn, ⟨e.w, e.Z, e.N + 1, ext e.η e.N (.slice none 0 0)⟩, FH', rfl, ?_⟩
  refine hX2.know (e := ⟨e.w, e.Z, e.N + 1, ext e.η e.N (.slice none 0 0)⟩) (fun _ x => x) (fun _ x => .inl x) (Nat.le_refl _) (fun _ _ => rfl) hX2.slots ?_ ?_ ?_ ?_ hX2.one (fun i b m hi hz => hX2.notZ i b m hi hz) (fun i b m hi => ⟨i, m, hi⟩)
  · intro i t' hi
    by_cases e1 : i = id
    · subst e1
      simp [Go.Proofs.YtdomnlnanbekaaaGreatDoor.T.upd] at hi
      subst hi
      have h0 := hX2.objs i (.box ty cs) (by simp [Go.Proofs.YtdomnlnanbekaaaGreatDoor.T.upd, Ne.symm hne, hH])
      simp only [Rep] at h0 ⊢
      obtain ⟨b, vs, F', hv, hb, hr, h1, hs⟩ := h0
      exact ⟨b, vs, F', hv, hb, RepL.nilC (Nat.lt_succ_self _) ext_new c hr hc, h1, hs⟩
    · simp [Go.Proofs.YtdomnlnanbekaaaGreatDoor.T.upd, e1] at hi
      exact hX2.objs i t' (by simpa [Go.Proofs.YtdomnlnanbekaaaGreatDoor.T.upd] using hi)
  · intro i t' hi
    by_cases e1 : i = id
    · subst e1
      simp [Go.Proofs.YtdomnlnanbekaaaGreatDoor.T.upd] at hi
      subst hi
      exact .inr (.inl ⟨_, _, rfl⟩)
    · simp [Go.Proofs.YtdomnlnanbekaaaGreatDoor.T.upd, e1] at hi
      exact hX2.kind i t' (by simpa [Go.Proofs.YtdomnlnanbekaaaGreatDoor.T.upd] using hi)
  · intro i hi
    by_cases e1 : i = id
    · subst e1
      simp [Go.Proofs.YtdomnlnanbekaaaGreatDoor.T.upd] at hi
    · simp [Go.Proofs.YtdomnlnanbekaaaGreatDoor.T.upd, e1] at hi
      exact hX2.none_ i (by simpa [Go.Proofs.YtdomnlnanbekaaaGreatDoor.T.upd] using hi)
  · intro i hi
    have h1 := hX2.top i hi
    by_cases e1 : i = id
    · subst e1
      have : e.N + 1 ≤ i := hi
      omega
    · simp [Go.Proofs.YtdomnlnanbekaaaGreatDoor.T.upd, e1]
      simpa [Go.Proofs.YtdomnlnanbekaaaGreatDoor.T.upd] using h1
end
end Go.Proofs.YtdomnlnanbekaaaGreatDoor.T

namespace Go.Proofs.YtdomnlnanbekaaaGreatDoor.T
set_option linter.unusedVariables false
/-- A piece of no rows may be taken as one that is only read. -/
def zr1 : TV → TV
  | .sl _ _ _ 0 => .ro []
  | t => t
def zrO : TV → TV
  | .box ty cs => .box ty (cs.map zr1)
  | .own E rows => .own E (rows.map fun row => row.map zr1)
  | t => t
section
variable {P : Program} {C : Ctx} {n : Nat} {s : St} {a : Act} {e : Env} {FH : Nat → Foot} {w : World} {K : St → Prop} {o : Oper}
theorem zr1_rep {x : TV} {v : Value} {F : Foot} (h : Rep P e x v F) : Rep P e (zr1 x) v F := by
  unfold zr1
  split
  · simp only [Rep] at h ⊢
    obtain ⟨hE, _, A, m, cap, _, _, hv, _⟩ := h
    exact ⟨hE, _, _, [], 0, hv, Nat.zero_le _, by simp, by simp [RepRows, hE], by simp [Ones], .inl rfl⟩
  · exact h
theorem zrL_rep : ∀ {xs : List TV} {vs : List Value} {F : Foot}, RepL P e xs vs F → RepL P e (xs.map zr1) vs F
  | [], vs, F, h => by simpa [RepL] using h
  | x :: xs, vs, F, h => by
    simp only [RepL] at h
    obtain ⟨v, vs', F1, F2, hv, h1, h2, hs⟩ := h
    simp only [List.map_cons, RepL]
    exact ⟨v, vs', F1, F2, hv, zr1_rep h1, zrL_rep h2, hs⟩
theorem zrR_rep : ∀ {xs : List (List TV)} {vs : List Value} {F : Foot}, RepRows P e xs vs F → RepRows P e (xs.map fun row => row.map zr1) vs F
  | [], vs, F, h => by simpa [RepRows] using h
  | x :: xs, vs, F, h => by
    simp only [RepRows] at h
    obtain ⟨v, vs', F1, F2, hv, h1, h2, hs⟩ := h
    simp only [List.map_cons, RepRows]
    exact ⟨v, vs', F1, F2, hv, zrL_rep h1, zrR_rep h2, hs⟩
theorem zrO_rep {x : TV} {v : Value} {F : Foot} (h : Rep P e x v F) : Rep P e (zrO x) v F := by
  cases x with
  | box ty cs =>
    simp only [Rep] at h
    obtain ⟨b, vs, F', hv, hb, hr, h1, hs⟩ := h
    simp only [zrO, Rep]
    exact ⟨b, vs, F', hv, hb, zrL_rep hr, h1, hs⟩
  | own E rows =>
    simp only [Rep] at h
    obtain ⟨vs, F', ho, hz, hr, h1, hs⟩ := h
    simp only [zrO, Rep]
    refine ⟨vs, F', by simpa using ho, ?_, zrR_rep hr, h1, by simpa using hs⟩
    intro r hr'
    obtain ⟨r0, h0, rfl⟩ := List.mem_map.1 hr'
    simpa using hz r0 h0
  | _ => exact h
theorem RelX.zr (h : RelX P C s a e FH) {id : Nat} {t : TV} (hH : s.H id = some t) : RelX P C ⟨s.σ, Go.Proofs.YtdomnlnanbekaaaGreatDoor.T.upd s.H id (zrO t)⟩ a e FH := by
  refine h.know (e := e) (fun _ x => x) (fun _ x => .inl x) (Nat.le_refl _) (fun _ _ => rfl) h.slots ?_ ?_ ?_ ?_ h.one (fun i b m hi hz => h.notZ i b m hi hz) (fun i b m hi => ⟨i, m, hi⟩)
  · intro i t' hi
    by_cases e1 : i = id
    · subst e1
      simp [Go.Proofs.YtdomnlnanbekaaaGreatDoor.T.upd] at hi
      subst hi
      exact zrO_rep (h.objs i t hH)
    · exact h.objs i t' (by simpa [Go.Proofs.YtdomnlnanbekaaaGreatDoor.T.upd, e1] using hi)
  · intro i t' hi
    by_cases e1 : i = id
    · subst e1
      simp [Go.Proofs.YtdomnlnanbekaaaGreatDoor.T.upd] at hi
      subst hi
      rcases h.kind i t hH with ⟨E, rows, rfl⟩ | ⟨ty, cs, rfl⟩ | ⟨ty, kvs, rfl⟩
      · exact .inl ⟨_, _, rfl⟩
      · exact .inr (.inl ⟨_, _, rfl⟩)
      · exact .inr (.inr ⟨_, _, rfl⟩)
    · exact h.kind i t' (by simpa [Go.Proofs.YtdomnlnanbekaaaGreatDoor.T.upd, e1] using hi)
  · intro i hi
    by_cases e1 : i = id
    · subst e1; simp [Go.Proofs.YtdomnlnanbekaaaGreatDoor.T.upd] at hi
    · exact h.none_ i (by simpa [Go.Proofs.YtdomnlnanbekaaaGreatDoor.T.upd, e1] using hi)
  · intro i hi
    by_cases e1 : i = id
    · subst e1; have := h.top i hi; rw [hH] at this; cases this
    · simpa [Go.Proofs.YtdomnlnanbekaaaGreatDoor.T.upd, e1] using h.top i hi
theorem Turn.zr {A : St → Prop} (id : Nat) {t : TV} (hH : s.H id = some t) (h : A ⟨s.σ, upd s.H id (zrO t)⟩) : Turn P n s A := fun C a w hr => by
  obtain ⟨hn, e, FH, rfl, hX⟩ := hr
  exact ⟨_, h, hn, e, FH, rfl, hX.zr hH⟩
end
end Go.Proofs.YtdomnlnanbekaaaGreatDoor.T

namespace Go.Proofs.YtdomnlnanbekaaaGreatDoor.T
open Go.ChangeShapes Go.WideShapes Go.RowKit
set_option linter.unusedVariables false
set_option linter.unusedSimpArgs false
/-- A world as it is handed in: all of it may be read. -/
def eW (w : World) : Env := ⟨w, fun b => b < w.heap.size, 0, fun _ => undef⟩
theorem list_of {α : Type} {Q : Nat → α → Prop} : ∀ n : Nat, (∀ i, i < n → ∃ x, Q i x) → ∃ l : List α, l.length = n ∧ ∀ i p, l[i]? = some p → Q i p
  | 0, _ => ⟨[], rfl, fun i p h => by simp at h⟩
  | n + 1, h => by
    obtain ⟨l, hl, hq⟩ := list_of n (fun i hi => h i (by omega))
    obtain ⟨x, hx⟩ := h n (by omega)
    refine ⟨l ++ [x], by simp [hl], fun i p hp => ?_⟩
    rcases Nat.lt_or_ge i l.length with hi | hi
    · rw [List.getElem?_append_left hi] at hp
      exact hq i p hp
    · rw [List.getElem?_append_right hi] at hp
      have : i - l.length = 0 := by
        rcases Nat.eq_zero_or_pos (i - l.length) with h0 | h0
        · exact h0
        · rw [List.getElem?_eq_none (by simp; omega)] at hp
          cases hp
      rw [this] at hp
      have hx' : x = p := by simpa using hp
      have : i = n := by omega
      subst this
      subst hx'
      exact hx
/-- A value that is read with at most n steps is what enc writes of some x that meets B. -/
def RdT {α : Type} (P : Program) (n : Nat) (t : TypeId) (enc : α → List TV) (B : α → Prop) : Prop :=
  ∀ (H : Type) (en : TypeId × Value → H) (w : World) (spare : Nat → Bool) (held : Bool) (m : Nat) (cs : List Value) (y : DataW H × List MemPlace), m ≤ n →
    DataW.trod en P w 0 spare held m t cs = some y → (∀ q ∈ y.1.weights P t, q ≤ reachBytes) → ∃ x, RepL P (eW w) (enc x) cs noF ∧ Ones cs ∧ B x
section
variable {α β : Type} {P : Program} {n : Nat} {t : TypeId} {enc : α → List TV} {B : α → Prop}
theorem RdT.le {n' : Nat} (h : RdT P n t enc B) (hn : n' ≤ n) : RdT P n' t enc B :=
  fun H en w spare held m cs y hm => h H en w spare held m cs y (Nat.le_trans hm hn)
theorem RdT.imp {B' : α → Prop} (h : RdT P n t enc B) (hb : ∀ x, B x → B' x) : RdT P n t enc B' := by
  intro H en w spare held m cs y hm hy hw
  obtain ⟨x, hx, h1, hB⟩ := h H en w spare held m cs y hm hy hw
  exact ⟨x, hx, h1, hb x hB⟩
theorem RdT.iso {enc' : β → List TV} {B' : β → Prop} (h : RdT P n t enc B) (f : α → β) (hf : ∀ x, B x → enc' (f x) = enc x ∧ B' (f x)) : RdT P n t enc' B' := by
  intro H en w spare held m cs y hm hy hw
  obtain ⟨x, hx, h1, hB⟩ := h H en w spare held m cs y hm hy hw
  exact ⟨f x, by rw [(hf x hB).1]; exact hx, h1, (hf x hB).2⟩
theorem RdT.int {k : IntKind} (n : Nat) (hu : P.underlying t = some (.int k)) : RdT P n t (fun x : Int => [.val (.int k x)]) (fun x => (Lit.int k x).wf = true) := by
  intro H en w spare held m cs y _ hy _
  obtain ⟨x, rfl, _, hw⟩ := DataW.trod_int hu hy
  exact ⟨x, repL_one.2 (by simp [Rep, emp_noF]), (by simp [Ones, Value.oneCell']), hw⟩
theorem RdT.string (n : Nat) (hu : P.underlying t = some .string) : RdT P n t (fun x : List UInt8 => [.val (.string (bs x))]) (fun s => s.length ≤ reachBytes) := by
  intro H en w spare held m cs y _ hy hw
  obtain ⟨x, rfl, rfl, _⟩ := DataW.trod_string hu hy
  refine ⟨x.data.toList, repL_one.2 ?_, (by simp [Ones, Value.oneCell']), ?_⟩
  · rw [← bs_eq]; simp [Rep, emp_noF]
  · have := hw x.data.toList.length (by simp [DataW.weights])
    exact this
theorem mem_all {H : Type} {P : Program} {e : TypeId} {q : Nat} : ∀ {l : List (DataW H)} {d : DataW H}, d ∈ l → q ∈ d.weights P e → q ∈ DataW.weightsAll P e l
  | [], _, h, _ => by cases h
  | x :: l, d, h, hq => by
    unfold DataW.weightsAll
    rcases List.mem_cons.1 h with rfl | h
    · exact List.mem_append_left _ hq
    · exact List.mem_append_right _ (mem_all h hq)
theorem rows_of {e : Env} {sz : Nat} : ∀ (l : List (α × List Value)), (∀ p ∈ l, RepL P e (enc p.1) p.2 noF ∧ p.2.length = sz) → RepRows P e ((l.map (·.1)).map enc) (l.flatMap (·.2)) noF
  | [], _ => by simp [RepRows, emp_noF]
  | p :: l, h => by
    simp only [List.map_cons, List.flatMap_cons, RepRows]
    exact ⟨p.2, _, noF, noF, rfl, (h p (by simp)).1, rows_of l (fun q hq => h q (by simp [hq])), .of_emp emp_noF emp_noF emp_noF⟩
theorem flat_at {sz : Nat} : ∀ (l : List (α × List Value)), (∀ p ∈ l, p.2.length = sz) → ∀ (j : Nat) (u : Value), (l.flatMap (·.2))[j]? = some u → ∃ (i r : Nat) (p : α × List Value), j = i * sz + r ∧ l[i]? = some p ∧ p.2[r]? = some u
  | [], _, j, u, h => by simp at h
  | p :: l, hl, j, u, h => by
    have hp := hl p (by simp)
    rw [List.flatMap_cons] at h
    by_cases hj : j < p.2.length
    · rw [List.getElem?_append_left hj] at h
      exact ⟨0, j, p, by omega, rfl, h⟩
    · rw [List.getElem?_append_right (by omega)] at h
      obtain ⟨i, r, q, h1, h2, h3⟩ := flat_at l (fun q hq => hl q (by simp [hq])) _ u h
      refine ⟨i + 1, r, q, ?_, h2, h3⟩
      rw [Nat.add_mul]; omega
theorem RdT.slice {e : TypeId} {b : Nat} (h : RdT P n e enc B) (hu : P.underlying t = some (.slice e)) (hb : P.bytesOf e = b) :
    RdT P (n + 1) t (fun l : List α => [.ro (l.map enc)]) (fun l => l.length * b ≤ reachBytes ∧ ∀ x ∈ l, B x) := by
  intro H en w spare held m cs y hm hy hw
  rcases DataW.trod_slice hu hy with ⟨rfl, rfl⟩ | ⟨a, len, cap, elems, rest, n', rfl, rfl, rfl, _, hl, hc, hlen, hel, _, _⟩
  · refine ⟨[], repL_one.2 ?_, (by simp [Ones, Value.oneCell']), by simp, fun x hx => by cases hx⟩
    simp only [Rep, List.map_nil, List.length_nil]
    exact ⟨emp_noF, none, 0, [], 0, rfl, Nat.le_refl _, by simp, by simp [RepRows, emp_noF], by simp [Ones], .inl rfl⟩
  · simp only [DataW.weights, hu] at hw
    have hw0 := hw _ (List.mem_cons_self)
    have hgo : ∀ i, i < len → ∃ x : α × List Value, (RepL P (eW w) (enc x.1) x.2 noF ∧ Ones x.2 ∧ x.2.length = P.cellsOf e ∧ ∀ j u, x.2[j]? = some u → w.cell? (a.add (i * P.cellsOf e + j)) = some u) ∧ B x.1 := by
      intro i hi
      have h1 := hel i hi
      have hi' : i < elems.length := by omega
      rw [List.getElem?_eq_getElem hi'] at h1
      obtain ⟨c, hc1, hc2⟩ := Option.bind_eq_some_iff.1 h1
      obtain ⟨x, hx, ho, hB⟩ := h H en w spare held n' c _ (by omega) hc2 (fun q hq => hw q (List.mem_cons_of_mem _ (List.mem_append_left _ (mem_all (List.mem_map_of_mem (List.getElem_mem hi')) hq))))
      obtain ⟨_, hcl, hat⟩ := World.cells?_some hc1
      refine ⟨(x, c), ⟨hx, ho, hcl, fun j u hj => ?_⟩, hB⟩
      have hj' : j < P.cellsOf e := by
        have := (List.getElem?_eq_some_iff.1 hj).1
        simp only at this
        omega
      have := hat j hj'
      rw [Go.Deep.add_add] at this
      rw [this]; exact hj
    obtain ⟨l, hll, hq⟩ := list_of len hgo
    have hmem : ∀ p ∈ l, (RepL P (eW w) (enc p.1) p.2 noF ∧ Ones p.2 ∧ p.2.length = P.cellsOf e) ∧ B p.1 := fun p hp => by
      obtain ⟨i, hi⟩ := List.getElem?_of_mem hp
      exact ⟨⟨(hq i p hi).1.1, (hq i p hi).1.2.1, (hq i p hi).1.2.2.1⟩, (hq i p hi).2⟩
    refine ⟨l.map (·.1), repL_one.2 ?_, (by simp [Ones, Value.oneCell']), ?_, fun x hx => ?_⟩
    · simp only [Rep, List.length_map]
      refine ⟨emp_noF, some a, cap, l.flatMap (·.2), P.cellsOf e, by rw [hll], by omega, fun r hr => ?_, rows_of l fun p hp => ⟨(hmem p hp).1.1, (hmem p hp).1.2.2⟩, fun u hu => ?_, ?_⟩
      · obtain ⟨x, hx, rfl⟩ := List.mem_map.1 hr
        obtain ⟨p, hp, rfl⟩ := List.mem_map.1 hx
        rw [← (hmem p hp).1.1.len]; exact (hmem p hp).1.2.2
      · obtain ⟨p, hp, hup⟩ := List.mem_flatMap.1 hu
        exact (hmem p hp).1.2.1 u hup
      · by_cases hne : l.flatMap (·.2) = []
        · exact .inl hne
        · right
          have hcell : ∀ j u, (l.flatMap (·.2))[j]? = some u → w.cell? (a.add j) = some u := fun j u hj => by
            obtain ⟨i, r, p, rfl, hi, hr⟩ := flat_at (sz := P.cellsOf e) l (fun p hp => (hmem p hp).1.2.2) j u hj
            exact (hq i p hi).1.2.2.2 r u hr
          obtain ⟨u0, hu0⟩ : ∃ u, (l.flatMap (·.2))[0]? = some u := by
            cases hf : l.flatMap (·.2) with
            | nil => exact absurd hf hne
            | cons u us => exact ⟨u, rfl⟩
          have h0 := hcell 0 u0 hu0
          obtain ⟨ab, ao, asp⟩ := a
          have hsp : asp = none ∧ ab < w.heap.size := by
            unfold World.cell? at h0
            split at h0
            · rename_i c _ _ hb
              cases asp with
              | none => exact ⟨rfl, (Array.getElem?_eq_some_iff.1 hb).1⟩
              | some x => simp [Addr.add] at h0
            · cases h0
          obtain ⟨rfl, hlt⟩ := hsp
          exact ⟨ab, ao, rfl, hlt, fun j u hj => by
            have e : (⟨ab, ao, none⟩ : Addr).add j = ⟨ab, ao + j, none⟩ := by unfold Addr.add; split <;> simp_all
            have := hcell j u hj
            rwa [e] at this⟩
    · have : (elems.map (·.1)).length = len := by simp [hlen]
      rw [hb] at hw0
      rw [List.length_map]
      refine Nat.le_trans (Nat.mul_le_mul_right _ ?_) hw0
      omega
    · obtain ⟨p, hp, rfl⟩ := List.mem_map.1 hx
      exact (hmem p hp).2
/-- A struct's fields from the cell off on. -/
def FsT (P : Program) (n : Nat) (fs : List Field) (off sz : Nat) (enc : α → List TV) (B : α → Prop) : Prop :=
  ∀ (H : Type) (en : TypeId × Value → H) (w : World) (spare : Nat → Bool) (held : Bool) (m : Nat) (cs : List Value) (xs : List (DataW H × List MemPlace)), m ≤ n → cs.length = off + sz → xs.length = fs.length →
    (∀ (i : Nat) (f : Field), fs[i]? = some f → DataW.trod en P w 0 spare held m f.type ((cs.drop f.offset).take (P.cellsOf f.type)) = xs[i]?) →
    (∀ q ∈ DataW.weightsEach P (fs.map (·.type)) (xs.map (·.1)), q ≤ reachBytes) → ∃ x, RepL P (eW w) (enc x) (cs.drop off) noF ∧ Ones (cs.drop off) ∧ B x
theorem FsT.one {f : Field} {off sz : Nat} (h : RdT P n f.type enc B) (ho : f.offset = off) (hs : P.cellsOf f.type = sz) : FsT P n [f] off sz enc B := by
  intro H en w spare held m cs xs hm hl hxl hx hw
  match xs, hxl with
  | [y], _ =>
    have h1 := hx 0 f rfl
    rw [ho, hs, List.take_of_length_le (by rw [List.length_drop]; omega)] at h1
    exact h H en w spare held m _ y hm h1 (fun q hq => hw q (by simp only [List.map_cons, DataW.weightsEach]; exact List.mem_append_left _ hq))
theorem FsT.cons {enc' : β → List TV} {B' : β → Prop} {f : Field} {fs : List Field} {off sz sz' : Nat} (h : RdT P n f.type enc B) (ho : f.offset = off) (hs : P.cellsOf f.type = sz) (h' : FsT P n fs (off + sz) sz' enc' B') :
    FsT P n (f :: fs) off (sz + sz') (fun x : α × β => enc x.1 ++ enc' x.2) (fun x => B x.1 ∧ B' x.2) := by
  intro H en w spare held m cs xs hm hl hxl hx hw
  match xs, hxl with
  | y :: ys, hxl =>
    have h1 := hx 0 f rfl
    rw [ho, hs] at h1
    obtain ⟨x, hk, h1o, hB⟩ := h H en w spare held m _ y hm h1 (fun q hq => hw q (by simp only [List.map_cons, DataW.weightsEach]; exact List.mem_append_left _ hq))
    obtain ⟨x', hk', h1o', hB'⟩ := h' H en w spare held m cs ys hm (by omega) (by simpa using hxl) (fun i f' hf => by simpa using hx (i + 1) f' (by simpa using hf)) (fun q hq => hw q (by simp only [List.map_cons, DataW.weightsEach]; exact List.mem_append_right _ hq))
    have e := (List.take_append_drop sz (cs.drop off)).symm
    rw [List.drop_drop] at e
    refine ⟨(x, x'), ?_, ?_, hB, hB'⟩
    · rw [e]
      have := RepL.append hk hk' (fun b m m' x _ => x.elim)
      have en' : Uni noF noF = noF := by funext b m; simp [Uni, noF]
      rwa [en'] at this
    · rw [e]
      intro u hu
      rcases List.mem_append.1 hu with hu | hu
      · exact h1o u hu
      · exact h1o' u hu
theorem RdT.struct {fs : Array Field} {fl : List Field} {sz : Nat} (hu : P.underlying t = some (.struct fs)) (hl : fs.toList = fl) (hs : P.cellsOf t = sz) (h : FsT P n fl 0 sz enc B) : RdT P (n + 1) t enc B := by
  subst hl
  intro H en w spare held m cs y hm hy hw
  obtain ⟨xs, n', rfl, rfl, hcl, hxl, hf⟩ := DataW.trod_struct hu hy
  simp only [DataW.weights, hu] at hw
  obtain ⟨x, hx, h1, hB⟩ := h H en w spare held n' cs xs (by omega) (by omega) (by simpa using hxl) (fun i f hi => hf i f (by simpa using hi)) hw
  exact ⟨x, hx, h1, hB⟩
theorem RdT.zero : RdT P 0 t enc B := by
  intro H en w spare held m cs y hm hy _
  obtain rfl : m = 0 := by omega
  simp [DataW.trod] at hy
theorem RdT.arg (h : ∀ n, RdT P n t enc B) {H : Type} {en : TypeId × Value → H} {w : World} {spare : Nat → Bool} {held : Bool} {v : Value} {y : DataW H} {ps : List MemPlace}
    (hd : DataW.Trod en P w 0 spare held t v y ps) (hw : ∀ q ∈ y.weights P t, q ≤ reachBytes) : ∃ x, RepL P (eW w) (enc x) v.cells.toList noF ∧ B x := by
  obtain ⟨fuel, hf⟩ := hd
  obtain ⟨x, h1, _, h2⟩ := h fuel H en w spare held fuel _ (y, ps) (Nat.le_refl _) hf hw
  exact ⟨x, h1, h2⟩
/-- A law that answers true, called from outside. -/
theorem Laid.of_none {Z : Nat → Prop} {w : World} (h1 : P.globalNamed "internal/strconv.uint64pow10" = none) (h2 : P.globalNamed "internal/bytealg.MaxLen" = none) : Laid P Z w :=
  ⟨fun g hg => (by rw [h1] at hg; cases hg), fun g hg => (by rw [h2] at hg; cases hg)⟩
theorem TC.law {f : FuncId} {args : List TV} {w : World} {vs : List Value} (h : TC P f args [] (.val (.bool true)) []) (ha : RepL P (eW w) args vs noF) (hl : Laid P (fun b => b < w.heap.size) w) : Calls P f vs.toArray w fun x w' => x = .returned (.bool true) ∧ Below w.heap.size w w' := by
  refine (h w (fun b => b < w.heap.size) (fun _ => undef) noF vs ha (by simp [RepL, ηs, emp_noF]) (fun b x => x) (fun b m x => x.elim) hl).mono ?_
  rintro x w' ⟨v, Z', F', rfl, hr, hg, _⟩
  simp only [RepL] at hr
  obtain ⟨v0, vs0, F1, F2, hv, hr1, _⟩ := hr
  simp only [Rep] at hr1
  obtain ⟨rfl, _⟩ := List.cons.inj hv
  exact ⟨by rw [hr1.2], hg.os, hg.tape, hg.output, hg.size, fun k hk => hg.block k hk (fun ⟨m, hm⟩ => hm)⟩
end
end Go.Proofs.YtdomnlnanbekaaaGreatDoor.T

namespace Go.Proofs.YtdomnlnanbekaaaGreatDoor.T
open Go.Shelf Go.Proofs
open Go.RowKit (Below)
set_option linter.unusedVariables false
set_option linter.unusedSimpArgs false
set_option maxHeartbeats 4000000
section
variable {P : Program} {f : FuncId}
/-- A function of values that is called and leaves the world of its caller as it was. -/
theorem TC.pureV {args : List TV} {v : Value} (h : ∀ (w : World) (Z : Nat → Prop) (η : Nat → Value) (vs : List Value), RepL P ⟨w, Z, 0, η⟩ args vs noF → (∀ b, Z b → b < w.heap.size) → Laid P Z w → Calls P f vs.toArray w fun x w' => x = .returned v ∧ Below w.heap.size w w') : TC P f args [] (.val v) [] := by
  intro w Z η F vs h1 h2 h3 h4 h5
  simp only [List.length_nil, ηs, List.range_zero, List.map_nil, RepL, true_and] at h2
  refine (h w Z η vs h1 h3 h5).mono ?_
  rintro x w' ⟨rfl, hb⟩
  refine ⟨v, Z, noF, rfl, ?_, ⟨hb.os, hb.tape, hb.output, hb.size, fun b hlt _ => hb.block b hlt⟩, fun b x => x, fun b x => Nat.lt_of_lt_of_le (h3 b x) hb.size, fun b x => .inl x, fun b m x => x.elim⟩
  simp only [RepL, List.length_nil, ηs, List.range_zero, List.map_nil]
  exact ⟨v, [], noF, noF, rfl, by simp [Rep, emp_noF], ⟨rfl, emp_noF⟩, .of_emp emp_noF emp_noF emp_noF⟩
theorem below_grown_T (w : World) (k : Nat) (os : Array Obj) : Below w.heap.size w (Go.Sort.grow (w.drewN k) os) := Lib.below_grow _ _ (Nat.le_refl _) _ _
theorem repL_vals1 {e : Env} {u : Value} {vs : List Value} (h : RepL P e [.val u] vs noF) : vs = [u] := by
  simp only [RepL, Rep] at h
  obtain ⟨v, vs', F1, F2, rfl, ⟨_, rfl⟩, ⟨rfl, _⟩, _⟩ := h
  rfl
theorem tc_Itoa_of {ρ : Ren} (L : LaysM.n171 P ρ) (n : Int) (h0 : -9223372036854775808 ≤ n) (h1 : n ≤ 9223372036854775807) : TC P (ρ.f 171) [.val (.int .i64 n)] [] (.val (.string (bs (Lib.itoa n)))) [] := by
  refine TC.pureV fun w Z η vs ha hZ hl => ?_
  rw [repL_vals1 ha]
  have htab := (hl.1 _ L.m17).2.2
  refine (Any.strconv_Itoa L n h0 h1 w htab).mono ?_
  rintro e w' ⟨rfl, k, os, rfl⟩
  exact ⟨rfl, below_grown_T w k os⟩
theorem repRows_strs {e : Env} : ∀ {xs : List (List UInt8)} {vs : List Value} {F : Foot}, RepRows P e (xs.map fun x => [.val (.string (bs x))]) vs F → vs = xs.map fun x => Value.string (bs x)
  | [], vs, F, h => by simp only [List.map_nil, RepRows] at h; exact h.1
  | x :: xs, vs, F, h => by
    simp only [List.map_cons, RepRows] at h
    obtain ⟨v1, v2, F1, F2, rfl, h1, h2, _⟩ := h
    simp only [RepL, Rep] at h1
    obtain ⟨v, vs', _, _, rfl, ⟨_, rfl⟩, ⟨rfl, _⟩, _⟩ := h1
    rw [repRows_strs h2]; rfl
theorem repL_strs {e : Env} {xs : List (List UInt8)} {sep : List UInt8} {vs : List Value} (h : RepL P e [.ro (xs.map fun x => [.val (.string (bs x))]), .val (.string (bs sep))] vs noF) : ∃ A c, vs = [.slice A xs.length c, .string (bs sep)] ∧ xs.length ≤ c ∧ (xs = [] ∨ ∃ b o, A = some ⟨b, o, none⟩ ∧ e.Z b ∧ ∀ j x, xs[j]? = some x → e.w.cell? ⟨b, o + j, none⟩ = some (.string (bs x))) := by
  simp only [RepL, Rep] at h
  obtain ⟨v, vs', F1, F2, rfl, ⟨_, A, c, us, z, rfl, hc, _, hr, _, hA⟩, ⟨v2, vs2, _, _, rfl, ⟨_, rfl⟩, ⟨rfl, _⟩, _⟩, _⟩ := h
  have hu := repRows_strs hr
  refine ⟨A, c, by simp, by simpa using hc, ?_⟩
  rcases hA with hA | ⟨b, o, h1, h2, h3⟩
  · rw [hu] at hA
    exact .inl (by simpa using hA)
  · refine .inr ⟨b, o, h1, h2, fun j x hx => h3 j _ ?_⟩
    rw [hu, List.getElem?_map, hx]; rfl
theorem tc_Join_of {ρ : Ren} (L : Lays.n156 P ρ) (X : Builder.Extra P ρ) (xs : List (List UInt8)) (sep : List UInt8) (hN : xs.length ≤ 140737488355328) (hlen : (Lib.join xs sep).length ≤ 140737488355328) : TC P (ρ.f 156) [.ro (xs.map fun x => [.val (.string (bs x))]), .val (.string (bs sep))] [] (.val (.string (bs (Lib.join xs sep)))) [] := by
  refine TC.pureV fun w Z η vs ha hZ hl => ?_
  obtain ⟨A, c, rfl, hc, hA⟩ := repL_strs ha
  rcases hA with rfl | ⟨b, o, rfl, hz, hcell⟩
  · refine (Any.strings_Join_none L X A c (bs sep) w).mono ?_
    rintro e w' ⟨rfl, rfl⟩
    exact ⟨rfl, Below.refl _ _⟩
  · have e1 : (xs.map bs).map (·.data.toList) = xs := by
      rw [List.map_map]
      have : ((fun x : ByteArray => x.data.toList) ∘ bs) = id := by funext x; rfl
      rw [this, List.map_id]
    have e2 : (bs sep).data.toList = sep := rfl
    have := Any.strings_Join L X b o c (xs.map bs) (bs sep) w (fun j x hx => by
      rw [List.getElem?_map] at hx
      cases hj : xs[j]? with
      | none => rw [hj] at hx; cases hx
      | some y => rw [hj] at hx; cases hx; exact hcell j y hj) (hZ b hz) (by simpa using hN) (by simpa using hc) (by rw [e1, e2]; exact hlen)
    rw [e1, e2] at this
    rw [List.length_map] at this
    refine this.mono ?_
    rintro e w' ⟨rfl, hb⟩
    exact ⟨rfl, hb⟩
end
end Go.Proofs.YtdomnlnanbekaaaGreatDoor.T

namespace Go.Proofs.YtdomnlnanbekaaaGreatDoor.T
open Go
set_option linter.unusedVariables false
set_option linter.unusedSimpArgs false
section
variable {H : Type} {enc : TypeId × Value → H}
/-- A law's contract gives its row, where variables are laid and the world's shape is handed on. -/
theorem handed_and_shaped {a : Assume} {C : Checked} {os : Os} {f : FuncId} {fn : Func} {s : ChangeSpec} {conds : List PathCond} {apart fresh handsOn again : Bool} {X : World → Array Value → Prop}
    (hX : ∀ (w w' : World) (args : Array Value), w.heap = w'.heap → X w args → X w' args)
    (own : ownKnob C.prog.godebug = none) (started : os.Started) (noInit : C.prog.inits.idxOf? f = none) (hfn : C.prog.funcs[f]? = some fn)
    (witness : ∃ (w : World) (tape : Tape) (i : Input), w.os = os ∧ (w.forCall tape i).Shaped C.prog ∧ i.vars = [] ∧ Input.okWide C.prog (w.forCall tape i) .any w.heap.size f i ∧
      ((s.pre enc C.prog fn conds apart (w.forCall tape i).memory i.args ∧ X (w.forCall tape i).memory i.args) ∧ sizedMet enc C.prog fn (OpenSpec.ofChange s) apart (w.forCall tape i).memory i.args) ∧ a.holds C.prog (lone (Frame.enter C.prog f i.args .normal) [] (w.forCall tape i)))
    (contract : ∀ (W : World) (base : Nat) (args : Array Value) (ds gs : List (DataW H)) (before : List MemPlace),
      (∀ (j : Nat) t v, fn.params[j]? = some t → args[j]? = some v → Value.okWide C.prog W .any base t v) →
      DataW.Whole enc C.prog fn.params.toList s.vars apart W args.toList ds gs before →
      conds.all (PathCond.test C.prog ⟨fn.params.toList, ds, s.plain.varTypes C.prog, gs⟩) = true →
      (DataW.weightsEach C.prog (fn.params.toList ++ s.plain.varTypes C.prog) (ds ++ gs)).all (· ≤ reachBytes) = true → X W args → W.ShapedOpen C.prog →
      a.holds C.prog (lone (Frame.enter C.prog f args .normal) [] W) →
      Calls C.prog f args W fun e W' => ∃ v, e = .returned v ∧ s.post enc C.prog fn apart fresh handsOn again W args v W') :
    ReturnsInHanded a C os f .any (fun w args => (s.pre enc C.prog fn conds apart w args ∧ X w args) ∧ sizedMet enc C.prog fn (OpenSpec.ofChange s) apart w args) (s.post enc C.prog fn apart fresh handsOn again) := by
  refine returnsInHanded_of_calls own started noInit witness ?_
  intro w tape i _ hsh _ hok hpre hholds
  obtain ⟨_, _, _, fn', hfn', _, _, _, _, hval⟩ := hok
  have e : fn' = fn := Option.some.inj (hfn'.symm.trans hfn)
  subst e
  obtain ⟨⟨⟨ds, gs, before, hw, hc⟩, hx⟩, hz⟩ := hpre
  have hw' := DataW.Whole.of_heap (w' := w.forCall tape i) (by rfl) hw
  refine (contract (w.forCall tape i) w.heap.size i.args ds gs before hval hw' hc (hz.weights hw) (hX _ _ _ (by rfl) hx) hsh hholds).mono fun e W' ⟨v, he, hp⟩ => ?_
  subst he
  exact ChangeSpec.post_blind hp
end
theorem Laid.of_tab {P : Program} {w : World} (h1 : ∀ g, P.globalNamed "internal/strconv.uint64pow10" = some g → Lib.TabIs P w "internal/strconv.uint64pow10" .u64 Lib.pow10Tab) (h2 : ∀ g, P.globalNamed "internal/bytealg.MaxLen" = some g → ∃ m, w.cell? ⟨g, 0, none⟩ = some (.int .i64 m)) : Laid P (fun b => b < w.heap.size) w := by
  refine ⟨fun g hg => ?_, fun g hg => ?_⟩
  · have ht := h1 g hg
    have hlt : g < w.heap.size := by
      have h := ht
      unfold Lib.TabIs World.var? at h
      rw [hg] at h
      rcases Nat.lt_or_ge g w.heap.size with c | c
      · exact c
      · simp [Array.getElem?_eq_none c] at h
    exact ⟨hlt, hlt, ht⟩
  · obtain ⟨m, hm⟩ := h2 g hg
    have hlt : g < w.heap.size := by
      rcases Nat.lt_or_ge g w.heap.size with c | c
      · exact c
      · unfold World.cell? at hm
        simp [Array.getElem?_eq_none c] at hm
    exact ⟨hlt, hlt, m, hm⟩
end Go.Proofs.YtdomnlnanbekaaaGreatDoor.T

namespace Go.Proofs.YtdomnlnanbekaaaGreatDoor.T
open Go Go.Shelf Go.Proofs
set_option linter.unusedVariables false
set_option linter.unusedSimpArgs false
set_option maxHeartbeats 4000000
section
variable {P : Program} {f : FuncId}
def sortT (xs : List (List UInt8)) : List (List UInt8) := xs.mergeSort fun x y => decide (x ≤ y)
@[simp] theorem sortT_len (xs : List (List UInt8)) : (sortT xs).length = xs.length := by unfold sortT; exact List.length_mergeSort _
theorem rows_of_strs {e : Env} : ∀ xs : List (List UInt8), RepRows P e (xs.map fun x => [.val (.string (bs x))]) (xs.map fun x => Value.string (bs x)) noF
  | [] => by simp [RepRows, emp_noF]
  | x :: xs => by
    simp only [List.map_cons, RepRows, RepL, Rep]
    exact ⟨[.string (bs x)], _, noF, noF, rfl, ⟨_, [], noF, noF, rfl, ⟨emp_noF, rfl⟩, ⟨rfl, emp_noF⟩, .of_emp emp_noF emp_noF emp_noF⟩, rows_of_strs xs, .of_emp emp_noF emp_noF emp_noF⟩
theorem tc_sortStrings_of {ρ : Ren} (L : Lays.n192 P ρ) (E : Nat) (hE : szOf P E = 1) (xs : List (List UInt8)) (hl : xs.length ≤ 1152921504606846976) : TC P (ρ.f 192) [.hd 0] [.own E (xs.map fun x => [.val (.string (bs x))])] (.tup []) [.own E ((sortT xs).map fun x => [.val (.string (bs x))])] := by
  intro w Z η F vs h1 h2 h3 h4 h5
  simp only [RepL, Rep, List.length_singleton, ηs, List.range_one, List.map_cons, List.map_nil] at h1 h2
  obtain ⟨v, vs1, F1, F2, rfl, ⟨_, _, rfl, hone⟩, ⟨rfl, _⟩, _⟩ := h1
  obtain ⟨v2, vs2, G1, G2, e1, ⟨us, F', hown, hlen, hrows, hones, hspl⟩, ⟨e2, hG2⟩, hspl2⟩ := h2
  injection e1 with e1 e3
  subst e1 e3
  have hu := repRows_strs hrows
  subst hu
  simp only [hE, List.length_map, Nat.mul_one] at hown hspl
  obtain ⟨ho1, ho2⟩ := hown
  have key : ∀ (w' : World) (us' : List Value), us' = (sortT xs).map (fun x => Value.string (bs x)) → w'.ownsRow 0 E 1 (η 0) (sortT xs).length us' → RepL P ⟨w', Z, 1, η⟩ [.tup [], .own E ((sortT xs).map fun x => [.val (.string (bs x))])] [.tuple #[], η 0] (OwnF (η 0) (xs.length * 1)) := by
    intro w' us' hu hw'
    simp only [RepL, Rep]
    refine ⟨.tuple #[], [η 0], noF, _, rfl, ⟨[], rfl, rfl, emp_noF⟩, ⟨η 0, [], OwnF (η 0) (xs.length * 1), noF, rfl, ⟨us', noF, by simpa [hE] using hw', fun r hr => ?_, by rw [hu]; exact rows_of_strs _, ?_, ?_⟩, ⟨rfl, emp_noF⟩, ⟨fun b m => ⟨.inl, fun x => x.elim (fun y => y) (fun y => y.elim)⟩, fun b m m' _ x => x.elim⟩⟩, ⟨fun b m => ⟨.inr, fun x => x.elim (fun y => y.elim) (fun y => y)⟩, fun b m m' x _ => x.elim⟩⟩
    · obtain ⟨x, _, rfl⟩ := List.mem_map.1 hr
      simp [hE]
    · rw [hu]
      intro u hu'
      obtain ⟨x, _, rfl⟩ := List.mem_map.1 hu'
      rfl
    · rw [hE]
      simp only [List.length_map, sortT_len]
      exact ⟨fun b m => ⟨.inl, fun x => x.elim (fun y => y) (fun y => y.elim)⟩, fun b m m' _ x => x.elim⟩
  rcases ho2 with ⟨hv, hn⟩ | ⟨g, cap, cur, hv, _, hg, hnc, hcm, hcs, htake⟩
  · have hx : xs = [] := List.eq_nil_of_length_eq_zero hn
    subst hx
    rw [hv]
    refine (Any.sort_Strings_none L none 0 w).mono ?_
    rintro x w' ⟨rfl, rfl⟩
    have hk := key w' [] (by simp [sortT]) ⟨by simp [sortT], .inl ⟨hv, by simp [sortT]⟩⟩
    refine ⟨.tuple #[], Z, _, rfl, hk, ⟨rfl, rfl, rfl, Nat.le_refl _, fun _ _ _ => rfl⟩, fun b x => x, h3, fun b x => .inl x, fun b m hb => ?_⟩
    have := hb.1
    rw [hv] at this
    simp [Value.ownBlock] at this
  · have hF : F g (xs.length * 1) := by
      have : OwnF (η 0) (xs.length * 1) g (xs.length * 1) := ⟨by rw [hv]; rfl, rfl⟩
      exact (hspl2.iff g _).2 (.inl ((hspl.iff g _).2 (.inl (by simpa using this))))
    have hgw := (h4 g _ hF).2
    have hH : Go.Sort.Holds Go.Proofs.encStr w g 0 xs.toArray := by
      intro j hj
      have hj' : j < xs.length := by simpa using hj
      have hcur : cur[j]? = some (Value.string (bs xs[j])) := by
        have h6 := congrArg (fun l => l[j]?) htake
        simp only [Nat.mul_one, List.getElem?_take, hj', if_true, List.getElem?_map, List.getElem?_eq_getElem hj', Option.map_some] at h6
        rw [← h6, Array.getElem?_toList]
      refine ⟨?_, ?_⟩
      · simp only [World.cell?, hg, Nat.zero_add, hcur]
        rw [getElem!_pos xs.toArray j hj]
        rfl
      · simp only [World.frozen?, hg]
        simp
    rw [hv]
    have hc := Any.sort_Strings L g 0 cap xs w hH hgw (by omega)
    refine hc.mono ?_
    rintro x w' ⟨rfl, n, os, rfl⟩
    have hheap : (Go.Sort.grow (Go.Sort.putRow Go.Proofs.encStr (Go.Sort.ahead w n) g 0 (sortT xs).toArray) os).heap[g]? = some (.cells (Go.Sort.putCells Go.Proofs.encStr 0 (sortT xs).toArray cur) E (0, 0)) := by
      simp only [Go.Sort.grow, Go.Sort.putRow, Go.Sort.mapBlock, Go.Sort.ahead]
      rw [Array.getElem?_append_left (by simpa using hgw), Array.getElem?_modify, if_pos rfl, hg]
      rfl
    have hother : ∀ b, b < w.heap.size → b ≠ g → (Go.Sort.grow (Go.Sort.putRow Go.Proofs.encStr (Go.Sort.ahead w n) g 0 (sortT xs).toArray) os).heap[b]? = w.heap[b]? := by
      intro b hb hne
      simp only [Go.Sort.grow, Go.Sort.putRow, Go.Sort.mapBlock, Go.Sort.ahead]
      rw [Array.getElem?_append_left (by simpa using hb), Array.getElem?_modify, if_neg (fun x => hne x.symm)]
    have htk : (Go.Sort.putCells Go.Proofs.encStr 0 (sortT xs).toArray cur).toList.take (xs.length * 1) = (sortT xs).map fun x => Value.string (bs x) := by
      apply List.ext_getElem?
      intro i
      rw [List.getElem?_take, List.getElem?_map]
      by_cases c : i < xs.length
      · have hic : i < cur.size := by rw [hcs]; omega
        have his : i < (sortT xs).length := by simpa using c
        have his' : i < (sortT xs).toArray.size := by simpa using c
        simp only [Nat.mul_one, c, if_true, Go.Sort.putCells, Array.getElem?_toList, Array.getElem?_mapIdx, Array.getElem?_eq_getElem hic, Option.map_some, List.getElem?_eq_getElem his]
        rw [if_pos ⟨Nat.zero_le _, by omega⟩, Nat.sub_zero, getElem!_pos (sortT xs).toArray i his']
        rfl
      · rw [if_neg (by omega), List.getElem?_eq_none (by simp; omega)]; rfl
    have hk := key (Go.Sort.grow (Go.Sort.putRow Go.Proofs.encStr (Go.Sort.ahead w n) g 0 (sortT xs).toArray) os) _ rfl
      ⟨by simp, .inr ⟨g, cap, Go.Sort.putCells Go.Proofs.encStr 0 (sortT xs).toArray cur, by rw [hv]; simp, Nat.zero_le _, hheap, by simpa using hnc, hcm, by simp [Go.Sort.putCells, hcs], by simpa using htk⟩⟩
    refine ⟨.tuple #[], Z, _, rfl, hk, ⟨rfl, rfl, rfl, by simp [Go.Sort.grow, Go.Sort.ahead], fun b hb hn => hother b hb fun e => hn ⟨xs.length * 1, by rw [e]; exact hF⟩⟩, fun b x => x, fun b x => Nat.lt_of_lt_of_le (h3 b x) (by simp [Go.Sort.grow, Go.Sort.ahead]), fun b x => .inl x, ?_⟩
    rintro b m ⟨hb, rfl⟩
    rw [hv] at hb
    simp [Value.ownBlock] at hb
    subst hb
    exact ⟨.inl ⟨_, hF⟩, (h4 _ _ hF).1, Nat.lt_of_lt_of_le hgw (by simp [Go.Sort.grow, Go.Sort.ahead])⟩
end
end Go.Proofs.YtdomnlnanbekaaaGreatDoor.T

namespace Go.Proofs.YtdomnlnanbekaaaGreatDoor.T
set_option linter.unusedVariables false
set_option linter.unusedSimpArgs false
section
variable {P : Program} {n : Nat} {s : St}
theorem RepAll.swap {e : Env} {pre post : List TV} {t t' : TV} {vs : List Value} (h : RepAll P e (pre ++ t :: post) vs) (ht : ∀ v, Rep P e t v noF → Rep P e t' v noF) : RepAll P e (pre ++ t' :: post) vs := by
  refine ⟨by rw [h.1]; simp, fun i u v hu hv => ?_⟩
  rcases Nat.lt_trichotomy i pre.length with c | c | c
  · exact h.2 i u v (by rw [List.getElem?_append_left c] at hu ⊢; exact hu) hv
  · subst c
    have : t' = u := by simpa using hu
    subst this
    exact ht v (h.2 pre.length t v (by simp) hv)
  · refine h.2 i u v ?_ hv
    rw [List.getElem?_append_right (by omega)] at hu ⊢
    obtain ⟨k, hk⟩ : ∃ k, i - pre.length = k + 1 := ⟨i - pre.length - 1, by omega⟩
    rw [hk] at hu ⊢
    simpa using hu
/-- A call that is handed a nil slice which it owns from there on. -/
theorem TWoH.lendN {f : Nat} {d : Option Tmp} {xs : Array Operand} {tys : Array TypeId} {ty : TypeId} {pos : String} {af : Array Edge} {g : Option (Nat × Bool)} {K : St → Prop} {args : List TV} {res : TV} (E : Nat) (pre post : List TV) (hxs : xs.toList.map (opV n s) = pre ++ .val (.slice none 0 0) :: post)
    (hTC : TC P f args [.own E []] res [.any]) (hf : callable P f = true) (hargs : ∀ id, s.H id = none → argsT (upd s.H id (.own E [])) [id] (pre ++ .hd id :: post) = some args) (hnr : noHL [res, .any] = true)
    (hv : ∀ id, s.H id = none → (pre ++ .hd id :: post).flatMap (viewsT [id]) = [] ∨ noRoL [res, .any] = true)
    (h : ∀ k, (∀ j, k ≤ j → s.H j = none) → K (St.put ⟨s.σ, updL s.H k (opn k res).2⟩ d (opn k res).1)) : TWoH P n ⟨d, .call ⟨.value (.func f), xs, tys⟩, ty, pos, af, g⟩ K .mk s := fun C a w J Q hr hkk => by
  obtain ⟨hn, e, FH, rfl, hX⟩ := hr
  have hvv : ∀ {w' Z N η}, Rep P ⟨w', Z, N, η⟩ (.own E []) (.slice none 0 0) noF := by
    intro w' Z N η
    simp only [Rep]
    refine ⟨[], noF, ⟨by simp, .inl ⟨rfl, rfl⟩⟩, by simp, by simp [RepRows, emp_noF], by simp [Ones], ⟨fun b m => ⟨fun x => x.elim, fun x => x.elim (fun y => by have := y.1; cases this) (fun y => y)⟩, fun b m m' x _ => by have := x.1; cases this⟩⟩
  obtain ⟨FH', hX'⟩ := hX.fresh (w' := e.w) (t := .own E []) (v := .slice none 0 0) (F' := noF) (Grow.refl _ _) hvv (.inl ⟨_, _, rfl⟩) (fun b m x => x.elim) (fun b m x => x.elim)
  have hX2 := hX'.1
  have hnone : s.H e.N = none := hX.top_none
  have hdel : del (upd s.H e.N (.own E [])) e.N = s.H := by
    funext j
    by_cases c : j = e.N
    · subst c; simp [del, hnone]
    · simp [del, Go.Proofs.YtdomnlnanbekaaaGreatDoor.T.upd, c]
  have hops : RepAll P ⟨e.w, e.Z, e.N + 1, ext e.η e.N (.slice none 0 0)⟩ (xs.toList.map (opV n s)) (xs.toList.map a.eval) := by
    have h0 := RepAll.ops (xs := xs.toList) (opV_rep hX2 hn)
    have e0 : opV n ⟨s.σ, upd s.H e.N (.own E [])⟩ = opV n s := by funext x; cases x <;> rfl
    rwa [e0] at h0
  rw [hxs] at hops
  have hops2 := hops.swap (t' := .hd e.N) fun v hv => by
    simp only [Rep] at hv
    rw [hv.2]
    exact hd_rep rfl
  refine call_coreG (s := ⟨s.σ, upd s.H e.N (.own E [])⟩) (o := ⟨d, .call ⟨.value (.func f), xs, tys⟩, ty, pos, af, g⟩) (ρ := [e.N]) (objs := [.own E []]) (K := K) (R := fun r o => r = res ∧ o = [.any]) (hargs e.N hnone) (by simp [Go.Proofs.YtdomnlnanbekaaaGreatDoor.T.upd]) (by simp) (by simp [noHL, noH, noHR]) (hTC.toR ⟨rfl, rfl⟩) ?_ hn hX2 hops2 ?_ fun a' w' s' h1 h2 _ => hkk a' w' s' h1 h2
  · rintro r o ⟨rfl, rfl⟩
    refine ⟨rfl, hnr, hv e.N hnone, fun k hk => ?_⟩
    have := h k fun j hj => by
      have := hk j hj
      simp only [Go.Proofs.YtdomnlnanbekaaaGreatDoor.T.upd] at this
      split at this
      · cases this
      · exact this
    simp only [setObjs, hdel]
    exact this
  · unfold execOp
    simp only [resolve, Act.eval, Deferred.ofValue, Sem.run_bind, Sem.run_pure, Result.andThen_ok, invoke, run_callFunc hf, Array.append_empty, Array.empty_append]
    rw [← Array.toList_map, Array.toArray_toList]
end
end Go.Proofs.YtdomnlnanbekaaaGreatDoor.T

namespace Go.Proofs.YtdomnlnanbekaaaGreatDoor.T
open Go.MapKept
set_option linter.unusedVariables false
set_option linter.unusedSimpArgs false
section
variable {P : Program} {n : Nat} {K : St → Prop} {s : St} {ty : TypeId} {pos : String} {af : Array Edge} {g : Option (Nat × Bool)} {d : Option Tmp}
variable {t kt et : TypeId} {x y z : Operand} {id : Nat} {k v zv : Value} {K0 : Value → Prop}
/-- What is not in a map, told as a tree. -/
theorem TWoH.lookupMissZ (tz : TV) (id : Nat) (kvs : List (Value × TV)) (k zv : Value) (L : KLaw P kt K0) (ht : P.underlying t = some (.map kt et)) (hz : (P.info? et).bind (·.zero) = some zv) (hzr : ∀ e : Env, Rep P e tz zv noF) (hx : opV n s x = .hd id) (hH : s.H id = some (.mp t (mpr kvs))) (hy : keyV (opV n s y) = some k) (hk : K0 k) (hks : ∀ q ∈ kvs, K0 q.1)
    (hin : ∀ q ∈ kvs, q.1 ≠ k) {c : Bool} (h : K (St.put s d (if c = true then .tup [tz, .val (.bool false)] else tz))) : TWoH P n ⟨d, .lookup t x y c, ty, pos, af, g⟩ K .mk s := TWo.grow fun C a e FH hn hX => by
  have hxr := opV_rep hX hn x
  rw [hx] at hxr
  simp only [Rep] at hxr
  obtain ⟨_, hid, hxv, _⟩ := hxr
  have hO := hX.objs id _ hH
  simp only [Rep] at hO
  obtain ⟨b, es, clock, hev, hb, hes, _⟩ := hO
  obtain ⟨hkeys, hvals⟩ := ent_of hes emp_noF
  have hkv := keyV_rep (opV_rep hX hn y) hy
  have hks' : ∀ q ∈ es.toList, K0 q.key := fun q hq => by obtain ⟨p, hp, e1⟩ := mem_keys hkeys hq; rw [← e1]; exact hks p hp
  obtain ⟨ti, hti, hzv⟩ := Option.bind_eq_some_iff.1 hz
  rcases L.find k hk es.toList e.w hks' with ⟨h1, h2⟩ | ⟨j, q, h1, h2, h3⟩
  case inr =>
    obtain ⟨p, hp, e1⟩ := mem_keys hkeys (List.mem_of_getElem? h2)
    exact absurd (e1.trans h3) (hin p hp)
  refine ⟨if c = true then .tuple #[zv, .bool false] else zv, e.w, _, ?_, h, .put hn hX d ?_⟩
  · unfold execOp
    simp [Instr.lookup, run_underlying ht, Result.andThen, hxv, hev, MapKept.run_getObj_map hb, hkv, L.check k hk, h1, zeroValue, typeInfo, hti, hzv]
  · cases c
    · exact hzr e
    · have : Rep P e (.tup [tz, .val (.bool false)]) (.tuple #[zv, .bool false]) noF := by
        simp only [Rep]
        refine ⟨[zv, .bool false], rfl, ?_⟩
        simp only [RepL, Rep]
        exact ⟨zv, _, noF, noF, rfl, hzr e, ⟨.bool false, [], noF, noF, rfl, ⟨emp_noF, rfl⟩, ⟨rfl, emp_noF⟩, .of_emp emp_noF emp_noF emp_noF⟩, .of_emp emp_noF emp_noF emp_noF⟩
      exact this
end
end Go.Proofs.YtdomnlnanbekaaaGreatDoor.T
