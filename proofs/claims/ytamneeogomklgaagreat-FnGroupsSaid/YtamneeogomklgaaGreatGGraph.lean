/- Who reaches whom: plain lemmas. -/
import Derived.Test.YtamneeogomklgaaGreatHXS
set_option linter.unusedSimpArgs false
set_option linter.unusedVariables false
set_option linter.unusedSectionVars false
namespace W
namespace Q
variable {α : Type}
inductive Rch (E : α → α → Prop) : α → α → Prop
  | edge {a b : α} (h : E a b) : Rch E a b
  | step {a b c : α} (h : E a b) (h' : Rch E b c) : Rch E a c
theorem Rch.trans {E : α → α → Prop} {a b c : α} (h : Rch E a b) (h' : Rch E b c) : Rch E a c := by
  induction h with
  | edge e => exact .step e h'
  | step e _ ih => exact .step e (ih h')
theorem Rch.snoc {E : α → α → Prop} {a b c : α} (h : Rch E a b) (h' : E b c) : Rch E a c := h.trans (.edge h')
theorem Rch.last {E : α → α → Prop} {a c : α} (h : Rch E a c) : E a c ∨ ∃ b, Rch E a b ∧ E b c := by
  induction h with
  | edge e => exact .inl e
  | step e _ ih =>
    rcases ih with h | ⟨b, h1, h2⟩
    · exact .inr ⟨_, .edge e, h⟩
    · exact .inr ⟨b, .step e h1, h2⟩
inductive Wy (E : Nat → Nat → Prop) (t : Nat) : Nat → Nat → Prop
  | edge {i k : Nat} (h : E i k) : Wy E t i k
  | step {i j k : Nat} (h : E i j) (hj : j < t) (h' : Wy E t j k) : Wy E t i k
theorem Wy.mono {E : Nat → Nat → Prop} {t t' : Nat} (ht : t ≤ t') {i k : Nat} (h : Wy E t i k) : Wy E t' i k := by
  induction h with
  | edge e => exact .edge e
  | step e hj _ ih => exact .step e (by omega) ih
theorem Wy.app {E : Nat → Nat → Prop} {t : Nat} {i j k : Nat} (h : Wy E t i j) (hj : j < t) (h' : Wy E t j k) : Wy E t i k := by
  induction h with
  | edge e => exact .step e hj h'
  | step e q _ ih => exact .step e q (ih hj h')
theorem Wy.split {E : Nat → Nat → Prop} {t i k : Nat} (h : Wy E (t + 1) i k) : Wy E t i k ∨ (Wy E t i t ∧ Wy E t t k) := by
  induction h with
  | edge e => exact .inl (.edge e)
  | @step i j k e hj _ ih =>
    by_cases q : j < t
    · rcases ih with h | ⟨h1, h2⟩
      · exact .inl (.step e q h)
      · exact .inr ⟨.step e q h1, h2⟩
    · have : j = t := by omega
      subst this
      rcases ih with h | ⟨h1, h2⟩
      · exact .inr ⟨.edge e, h⟩
      · exact .inr ⟨.edge e, h2⟩
theorem Wy.succ {E : Nat → Nat → Prop} {t i k : Nat} : Wy E (t + 1) i k ↔ Wy E t i k ∨ (Wy E t i t ∧ Wy E t t k) :=
  ⟨Wy.split, fun h => h.elim (fun h => h.mono (Nat.le_succ _)) fun h => (h.1.mono (Nat.le_succ _)).app (Nat.lt_succ_self _) (h.2.mono (Nat.le_succ _))⟩
theorem Wy.zero {E : Nat → Nat → Prop} {i k : Nat} : Wy E 0 i k ↔ E i k := ⟨fun h => by
  cases h with
  | edge e => exact e
  | step _ hj _ => exact absurd hj (Nat.not_lt_zero _), .edge⟩
theorem Wy.rch {E : Nat → Nat → Prop} {n : Nat} (hE : ∀ i k, E i k → k < n) {i k : Nat} : Wy E n i k ↔ Rch E i k := by
  constructor
  · intro h
    induction h with
    | edge e => exact .edge e
    | step e _ _ ih => exact .step e ih
  · intro h
    induction h with
    | edge e => exact .edge e
    | step e _ ih => exact .step e (hE _ _ e) ih
/-! ### a square of truths, closed -/
def At (M : List (List Bool)) (i k : Nat) : Prop := ∃ r, M[i]? = some r ∧ r[k]? = some true
def rowOr (r s : List Bool) : List Bool := List.zipWith (fun a b => a || b) r s
def closeBy (M : List (List Bool)) (m : Nat) : List (List Bool) := M.map fun r => bif r[m]?.getD false then rowOr r (M[m]?.getD []) else r
def closeTo (M : List (List Bool)) : Nat → List (List Bool)
  | 0 => M
  | m + 1 => closeBy (closeTo M m) m
def Sq (n : Nat) (M : List (List Bool)) : Prop := M.length = n ∧ ∀ r ∈ M, r.length = n
theorem rowOr_len {r s : List Bool} (h : r.length = s.length) : (rowOr r s).length = r.length := by simp [rowOr, h]
theorem Sq.get {n : Nat} {M : List (List Bool)} (h : Sq n M) {m : Nat} (hm : m < n) : ∃ r, M[m]? = some r ∧ r.length = n := by
  have hl : m < M.length := by rw [h.1]; exact hm
  exact ⟨M[m], List.getElem?_eq_getElem hl, h.2 _ (List.getElem_mem hl)⟩
theorem closeBy_sq {n : Nat} {M : List (List Bool)} (h : Sq n M) {m : Nat} (hm : m < n) : Sq n (closeBy M m) := by
  obtain ⟨q, hq, hql⟩ := h.get hm
  refine ⟨by simp [closeBy, h.1], fun r hr => ?_⟩
  simp only [closeBy, List.mem_map] at hr
  obtain ⟨s, hs, rfl⟩ := hr
  have := h.2 s hs
  rw [hq]
  cases s[m]?.getD false with
  | false => exact this
  | true => rw [cond_true, Option.getD_some, rowOr_len (by omega)]; exact this
theorem closeBy_at {n : Nat} {M : List (List Bool)} (h : Sq n M) {m : Nat} (hm : m < n) {i k : Nat} : At (closeBy M m) i k ↔ At M i k ∨ (At M i m ∧ At M m k) := by
  obtain ⟨q, hq, hql⟩ := h.get hm
  constructor
  · rintro ⟨r, h1, h2⟩
    simp only [closeBy, List.getElem?_map, Option.map_eq_some_iff] at h1
    obtain ⟨s, hs, rfl⟩ := h1
    rw [hq] at h2
    cases hb : s[m]?.getD false with
    | false => rw [hb] at h2; exact .inl ⟨s, hs, h2⟩
    | true =>
      rw [hb, cond_true, Option.getD_some, rowOr, List.getElem?_zipWith] at h2
      have hsm : s[m]? = some true := by
        cases e : s[m]? with
        | none => rw [e] at hb; cases hb
        | some b => rw [e] at hb; cases hb; rfl
      split at h2
      · rename_i a b ha hb'
        cases a with
        | true => exact .inl ⟨s, hs, ha⟩
        | false =>
          cases b with
          | true => exact .inr ⟨⟨s, hs, hsm⟩, ⟨q, hq, hb'⟩⟩
          | false => simp at h2
      · cases h2
  · intro hc
    have key : ∀ s, M[i]? = some s → (s[k]? = some true ∨ (s[m]? = some true ∧ q[k]? = some true)) → At (closeBy M m) i k := by
      intro s hs hor
      refine ⟨bif s[m]?.getD false then rowOr s ((some q).getD []) else s, by simp only [closeBy, List.getElem?_map, hs, Option.map_some, hq], ?_⟩
      have hsl : s.length = n := h.2 s (List.mem_of_getElem? hs)
      cases hb : s[m]?.getD false with
      | false =>
        rcases hor with h1 | ⟨h1, _⟩
        · exact h1
        · rw [h1] at hb; cases hb
      | true =>
        rw [cond_true, Option.getD_some, rowOr, List.getElem?_zipWith]
        rcases hor with h1 | ⟨_, h1⟩
        · have hk : k < q.length := by rw [hql, ← hsl]; exact (List.getElem?_eq_some_iff.1 h1).1
          rw [h1, List.getElem?_eq_getElem hk]
          simp
        · have hk : k < s.length := by rw [hsl, ← hql]; exact (List.getElem?_eq_some_iff.1 h1).1
          rw [h1, List.getElem?_eq_getElem hk]
          simp
    rcases hc with ⟨s, hs, h1⟩ | ⟨⟨s, hs, h1⟩, ⟨q', hq', h2⟩⟩
    · exact key s hs (.inl h1)
    · rw [hq] at hq'
      cases hq'
      exact key s hs (.inr ⟨h1, h2⟩)
theorem closeTo_sq {n : Nat} {M : List (List Bool)} (h : Sq n M) : ∀ m, m ≤ n → Sq n (closeTo M m)
  | 0, _ => h
  | m + 1, hm => closeBy_sq (closeTo_sq h m (by omega)) (by omega)
theorem closeTo_at {n : Nat} {M : List (List Bool)} (h : Sq n M) : ∀ m, m ≤ n → ∀ i k, At (closeTo M m) i k ↔ Wy (At M) m i k
  | 0, _, i, k => Wy.zero.symm
  | m + 1, hm, i, k => by
    have ih := closeTo_at h m (by omega)
    rw [closeTo, closeBy_at (closeTo_sq h m (by omega)) (by omega), Wy.succ, ih, ih, ih]
theorem At.lt {n : Nat} {M : List (List Bool)} (h : Sq n M) {i k : Nat} (ha : At M i k) : i < n ∧ k < n := by
  obtain ⟨r, h1, h2⟩ := ha
  have a := (List.getElem?_eq_some_iff.1 h1).1
  have b := (List.getElem?_eq_some_iff.1 h2).1
  rw [h.2 r (List.mem_of_getElem? h1)] at b
  rw [h.1] at a
  exact ⟨a, b⟩
theorem close_rch {n : Nat} {M : List (List Bool)} (h : Sq n M) {i k : Nat} : At (closeTo M n) i k ↔ Rch (At M) i k := by
  rw [closeTo_at h n (Nat.le_refl _), Wy.rch fun i k ha => (ha.lt h).2]
end Q
end W
