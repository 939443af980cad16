/- A square that is closed in place. No program in sight. -/
import Derived.Test.YtamneeogomklgaaGreatGGraph
set_option linter.unusedSimpArgs false
set_option linter.unusedVariables false
set_option linter.unusedSectionVars false
namespace W
namespace Q
set_option linter.unusedVariables false
def gB (M : List (List Bool)) (i k : Nat) : Bool := ((M[i]?.getD [])[k]?).getD false
theorem gB_of {M : List (List Bool)} {i k : Nat} {r : List Bool} (h : M[i]? = some r) : gB M i k = (r[k]?).getD false := by unfold gB; rw [h]; rfl
theorem at_gB {M : List (List Bool)} {i k : Nat} : At M i k ↔ gB M i k = true := by
  unfold At gB
  constructor
  · rintro ⟨r, h1, h2⟩
    rw [h1, Option.getD_some, h2]
    rfl
  · intro h
    cases hr : M[i]? with
    | none => rw [hr] at h; simp at h
    | some r =>
      rw [hr, Option.getD_some] at h
      refine ⟨r, rfl, ?_⟩
      cases hk : r[k]? with
      | none => rw [hk] at h; cases h
      | some b => rw [hk] at h; cases b; cases h; rfl
def cB (M : List (List Bool)) (m i k : Nat) : Bool := gB M i k || (gB M i m && gB M m k)
theorem Sq.cell {n : Nat} {M : List (List Bool)} (h : Sq n M) {i k : Nat} (hi : i < n) (hk : k < n) : ∃ r, M[i]? = some r ∧ r.length = n ∧ r[k]? = some (gB M i k) := by
  obtain ⟨r, h1, h2⟩ := h.get hi
  refine ⟨r, h1, h2, ?_⟩
  rw [gB_of h1, List.getElem?_eq_getElem (by omega)]
  rfl
theorem sq_ext {n : Nat} {A B : List (List Bool)} (ha : Sq n A) (hb : Sq n B) (h : ∀ i k, i < n → k < n → gB A i k = gB B i k) : A = B := by
  apply List.ext_getElem?
  intro i
  rcases Nat.lt_or_ge i n with hi | hi
  · obtain ⟨r, h1, h2⟩ := ha.get hi
    obtain ⟨s, g1, g2⟩ := hb.get hi
    rw [h1, g1]
    congr 1
    apply List.ext_getElem?
    intro k
    rcases Nat.lt_or_ge k n with hk | hk
    · have := h i k hi hk
      rw [gB_of h1, gB_of g1, List.getElem?_eq_getElem (by omega), List.getElem?_eq_getElem (by omega)] at this
      rw [List.getElem?_eq_getElem (by omega), List.getElem?_eq_getElem (by omega)]
      exact congrArg some this
    · rw [List.getElem?_eq_none (by omega), List.getElem?_eq_none (by omega)]
  · rw [List.getElem?_eq_none (by rw [ha.1]; omega), List.getElem?_eq_none (by rw [hb.1]; omega)]
structure InP (n : Nat) (M : List (List Bool)) (m i k : Nat) (N : List (List Bool)) : Prop where
  sq : Sq n N
  at' : ∀ i' k', i' < n → k' < n → gB N i' k' = if i' < i ∨ (i' = i ∧ k' < k) then cB M m i' k' else gB M i' k'
theorem InP.start {n m : Nat} {M : List (List Bool)} (h : Sq n M) : InP n M m 0 0 M := ⟨h, fun i' k' _ _ => by rw [if_neg (by omega)]⟩
theorem InP.next {n m i : Nat} {M N : List (List Bool)} (h : InP n M m i n N) : InP n M m (i + 1) 0 N := ⟨h.sq, fun i' k' hi hk => by
  rw [h.at' i' k' hi hk]
  by_cases a : i' < i + 1
  · rw [if_pos (by omega), if_pos (by omega)]
  · rw [if_neg (by omega), if_neg (by omega)]⟩
theorem InP.step {n m i k : Nat} {M N : List (List Bool)} (h : InP n M m i k N) (hi : i < n) (hk : k < n) (hm : m < n) :
    ∃ r rm a b c, N[i]? = some r ∧ N[m]? = some rm ∧ r[k]? = some a ∧ r[m]? = some b ∧ rm[k]? = some c ∧ InP n M m i (k + 1) (N.set i (r.set k (a || (b && c)))) := by
  obtain ⟨r, r1, r2, r3⟩ := h.sq.cell hi hk
  obtain ⟨r', q1, q2, q3⟩ := h.sq.cell hi hm
  rw [r1] at q1
  cases q1
  obtain ⟨rm, m1, m2, m3⟩ := h.sq.cell hm hk
  have ha : gB N i k = gB M i k := by rw [h.at' i k hi hk, if_neg (by omega)]
  have hb : gB N i m = gB M i m := by
    rw [h.at' i m hi hm]
    split
    · unfold cB; cases gB M i m <;> simp
    · rfl
  have hc : gB N m k = gB M m k := by
    rw [h.at' m k hm hk]
    split
    · unfold cB; cases gB M m m <;> cases gB M m k <;> rfl
    · rfl
  refine ⟨r, rm, _, _, _, r1, m1, r3, q3, m3, ⟨by rw [List.length_set]; exact h.sq.1, fun s hs => ?_⟩, fun i' k' hi' hk' => ?_⟩
  · rcases List.mem_or_eq_of_mem_set hs with hs | rfl
    · exact h.sq.2 s hs
    · rw [List.length_set]; exact r2
  · have hlt := (List.getElem?_eq_some_iff.1 r1).1
    by_cases e : i' = i
    · subst e
      have hs : (N.set i' (r.set k (gB N i' k || (gB N i' m && gB N m k))))[i']? = some (r.set k (gB N i' k || (gB N i' m && gB N m k))) := List.getElem?_set_self hlt
      rw [gB_of hs]
      by_cases e2 : k' = k
      · subst e2
        rw [List.getElem?_set_self (by omega), if_pos (by omega), Option.getD_some, ha, hb, hc]
        rfl
      · rw [List.getElem?_set_ne (fun q => e2 q.symm), ← gB_of r1, h.at' i' k' hi' hk']
        by_cases c : k' < k
        · rw [if_pos (by omega), if_pos (by omega)]
        · rw [if_neg (by omega), if_neg (by omega)]
    · have : gB (N.set i (r.set k (gB N i k || (gB N i m && gB N m k)))) i' k' = gB N i' k' := by
        unfold gB
        rw [List.getElem?_set_ne (fun q => e q.symm)]
      rw [this, h.at' i' k' hi' hk']
      by_cases c : i' < i
      · rw [if_pos (by omega), if_pos (by omega)]
      · rw [if_neg (by omega), if_neg (by omega)]
theorem InP.done {n m : Nat} {M N : List (List Bool)} (hM : Sq n M) (hm : m < n) (h : InP n M m n 0 N) : N = closeBy M m := by
  refine sq_ext h.sq (closeBy_sq hM hm) fun i k hi hk => ?_
  rw [h.at' i k hi hk, if_pos (by omega)]
  have := closeBy_at hM hm (i := i) (k := k)
  rw [at_gB, at_gB, at_gB, at_gB] at this
  rw [Bool.eq_iff_iff]
  unfold cB
  rw [Bool.or_eq_true, Bool.and_eq_true]
  exact this.symm
end Q
end W
