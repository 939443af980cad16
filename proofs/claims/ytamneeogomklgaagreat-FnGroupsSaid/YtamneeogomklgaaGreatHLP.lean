/- HL: plain lemmas on what printed functions are made of. Nothing of a seat is named here. -/
import Derived.Test.YtamneeogomklgaaGreatHLK
set_option linter.unusedSimpArgs false
set_option linter.unusedVariables false
set_option linter.unusedSectionVars false
namespace HL
open Go
set_option linter.unusedVariables false
theorem ix_of {α : Type} {l : List α} {i : Nat} {x : α} (h : l[i]? = some x) : ix l (i : Int) = some x := by
  unfold ix; rw [if_pos (by omega)]; simpa using h
theorem wrap_ok {a : Int} (h : -9223372036854775808 ≤ a ∧ a < 9223372036854775808) : IntKind.i64.wrap a = a := by
  rw [IntKind.wrap_i64]; omega
theorem wrap_succ {i n : Nat} (h : i < n) (hn : n ≤ lim) : IntKind.i64.wrap ((i : Int) + 1) = ((i + 1 : Nat) : Int) := by
  rw [wrap_ok (by unfold lim at hn; omega)]; omega
theorem gd_t {p : Prop} [Decidable p] (h : p) : gd p = some () := by unfold gd; rw [if_pos h]
end HL
namespace HL
open Go
set_option linter.unusedVariables false
open Classical in
theorem eqLoop {α : Type} {l l' : List α} (hl : l.length ≤ lim) (hlen : l.length = l'.length) {L : Int → Option (Sum Bool Unit)}
    (hL : ∀ (i : Nat) (x y : α), l[i]? = some x → l'[i]? = some y → ix l i = some x → ix l' i = some y → (i : Int) < (l.length : Nat) → IntKind.i64.wrap ((i : Int) + 1) = ((i + 1 : Nat) : Int) → L i = if x = y then L ((i + 1 : Nat) : Int) else some (.inl false))
    (hend : L (l.length : Nat) = some (.inr ())) : L 0 = some (if l = l' then .inr () else .inl false) := by
  have key : ∀ (n i : Nat), i + n = l.length → L i = some (if l.drop i = l'.drop i then .inr () else .inl false) := by
    intro n
    induction n with
    | zero =>
      intro i h
      have : i = l.length := by omega
      subst this
      rw [hend, List.drop_length, hlen, List.drop_length]
      simp
    | succ n ih =>
      intro i h
      have hi : i < l.length := by omega
      have hi' : i < l'.length := by omega
      have hx : l[i]? = some l[i] := List.getElem?_eq_getElem hi
      have hy : l'[i]? = some l'[i] := List.getElem?_eq_getElem hi'
      have e1 := List.drop_eq_getElem_cons hi
      have e2 := List.drop_eq_getElem_cons hi'
      rw [hL i _ _ hx hy (ix_of hx) (ix_of hy) (by omega) (wrap_succ hi hl), e1, e2]
      by_cases e : l[i] = l'[i]
      · rw [if_pos e, ih (i + 1) (by omega), e]
        simp only [List.cons.injEq, true_and]
      · rw [if_neg e, if_neg (fun h => e (List.cons.inj h).1)]
  simpa using key l.length 0 (by omega)
theorem setLoop {α : Type} {l out : List α} (hl : l.length ≤ lim) (hlen : out.length = l.length) {L : Int → List α → Option (List α)}
    (hL : ∀ (i : Nat) (x : α) (o : List α), l[i]? = some x → ix l i = some x → o.length = l.length → (i : Int) < (l.length : Nat) → IntKind.i64.wrap ((i : Int) + 1) = ((i + 1 : Nat) : Int) → L i o = L ((i + 1 : Nat) : Int) (o.set i x))
    (hend : ∀ o, L (l.length : Nat) o = some o) : L 0 out = some l := by
  have key : ∀ (n i : Nat) (o : List α), i + n = l.length → o.length = l.length → o.take i = l.take i → L i o = some l := by
    intro n
    induction n with
    | zero =>
      intro i o h ho ht
      have : i = l.length := by omega
      subst this
      rw [hend]
      rw [List.take_of_length_le (by omega), List.take_length] at ht
      rw [ht]
    | succ n ih =>
      intro i o h ho ht
      have hi : i < l.length := by omega
      have hx : l[i]? = some l[i] := List.getElem?_eq_getElem hi
      rw [hL i _ o hx (ix_of hx) ho (by omega) (wrap_succ hi hl)]
      refine ih (i + 1) _ (by omega) (by simpa using ho) ?_
      rw [List.take_add_one, List.take_add_one, hx]
      rw [List.take_set_of_le (by omega), ht]
      simp [show i < o.length by omega]
  simpa using key l.length 0 out (by omega) hlen (by simp)
def rest (c : Nat) (left : Int) : Int := if (c : Int) ≤ left then left - c else -1
def sumC {α : Type} (c : α → Nat) : List α → Nat
  | [] => 0
  | x :: l => c x + sumC c l
theorem sumC_mem {α : Type} {c : α → Nat} {l : List α} {x : α} (h : x ∈ l) : c x ≤ sumC c l := by
  induction l with
  | nil => cases h
  | cons y l ih =>
    rcases List.mem_cons.1 h with rfl | h
    · simp [sumC]
    · have := ih h; simp only [sumC]; omega
end HL
