/- HL: plain lemmas on what printed functions are made of. Nothing of a seat is named here. -/
import Derived.Test.YtoojgahbfpdhgaaHLK
set_option linter.unusedSimpArgs false
set_option linter.unusedVariables false
set_option linter.unusedSectionVars false
namespace HL
open Go
set_option linter.unusedVariables false

theorem ix_of {α : Type} {l : List α} {i : Nat} {x : α} (h : l[i]? = some x) : ix l (i : Int) = some x := by
  unfold ix; rw [if_pos (by omega)]; simpa using h
theorem ix_out {α : Type} {l : List α} {i : Nat} (h : l.length ≤ i) : ix l (i : Int) = none := by
  unfold ix; rw [if_pos (by omega)]; simpa using h
theorem ix_lit0 {α : Type} {x : α} {l : List α} : ix (x :: l) 0 = some x := rfl
theorem wrap_ok {a : Int} (h : -9223372036854775808 ≤ a ∧ a < 9223372036854775808) : IntKind.i64.wrap a = a := by
  rw [IntKind.wrap_i64]; omega
theorem wrap_succ {i n : Nat} (h : i < n) (hn : n ≤ lim) : IntKind.i64.wrap ((i : Int) + 1) = ((i + 1 : Nat) : Int) := by
  rw [wrap_ok (by unfold lim at hn; omega)]; omega

def foldS {α β γ : Type} (step : β → α → Sum γ β) (fin : β → γ) : List α → β → γ
  | [], b => fin b
  | x :: l, b => match step b x with
    | .inl r => r
    | .inr b' => foldS step fin l b'

/-- A loop that counts along a list. -/
theorem idxLoop {α β γ : Type} {l : List α} (hl : l.length ≤ lim) {L : β → Int → Option γ} (step : β → α → Sum γ β) (fin : β → γ)
    (hL : ∀ (b : β) (i : Nat) (x : α), l[i]? = some x → i < l.length → IntKind.i64.wrap ((i : Int) + 1) = ((i + 1 : Nat) : Int) → L b i = match step b x with
      | .inl r => some r
      | .inr b' => L b' ((i + 1 : Nat) : Int))
    (hend : ∀ b, L b (l.length : Nat) = some (fin b)) (b : β) : L b 0 = some (foldS step fin l b) := by
  have key : ∀ (n i : Nat) (b : β), i + n = l.length → L b i = some (foldS step fin (l.drop i) b) := by
    intro n
    induction n with
    | zero =>
      intro i b h
      have : i = l.length := by omega
      subst this
      rw [hend, List.drop_length]
      rfl
    | succ n ih =>
      intro i b h
      have hi : i < l.length := by omega
      have hx : l[i]? = some l[i] := List.getElem?_eq_getElem hi
      rw [hL b i _ hx hi (wrap_succ hi hl), List.drop_eq_getElem_cons hi]
      simp only [foldS]
      cases step b l[i] with
      | inl r => rfl
      | inr b' => exact ih (i + 1) b' (by omega)
  simpa using key l.length 0 b (by omega)

theorem bind_some' {α β : Type} (x : α) (f : α → Option β) : (some x >>= f) = f x := rfl
theorem gd_t {p : Prop} [Decidable p] (h : p) : gd p = some () := by unfold gd; rw [if_pos h]
end HL
namespace HL
open Go
set_option linter.unusedVariables false
open Classical in
/-- Two lists, element by element. -/
theorem eqLoop {α : Type} {l l' : List α} (hl : l.length ≤ lim) (hlen : l.length = l'.length) {L : Int → Option (Sum Bool Unit)}
    (hL : ∀ (i : Nat) (x y : α), l[i]? = some x → l'[i]? = some y → ix l i = some x → ix l' i = some y → (i : Int) < (l.length : Nat) → IntKind.i64.wrap ((i : Int) + 1) = ((i + 1 : Nat) : Int) → L i = if x = y then L ((i + 1 : Nat) : Int) else some (.inl false))
    (hend : L (l.length : Nat) = some (.inr ())) : L 0 = some (if l = l' then .inr () else .inl false) := by
  have key : ∀ (n i : Nat), i + n = l.length → L i = some (if l.drop i = l'.drop i then .inr () else .inl false) := by
    intro n
    induction n with
    | zero =>
      intro i h
      have : i = l.length := by omega
      subst this
      rw [hend, List.drop_length, hlen, List.drop_length]
      simp
    | succ n ih =>
      intro i h
      have hi : i < l.length := by omega
      have hi' : i < l'.length := by omega
      have hx : l[i]? = some l[i] := List.getElem?_eq_getElem hi
      have hy : l'[i]? = some l'[i] := List.getElem?_eq_getElem hi'
      have e1 := List.drop_eq_getElem_cons hi
      have e2 := List.drop_eq_getElem_cons hi'
      rw [hL i _ _ hx hy (ix_of hx) (ix_of hy) (by omega) (wrap_succ hi hl), e1, e2]
      by_cases e : l[i] = l'[i]
      · rw [if_pos e, ih (i + 1) (by omega), e]
        simp only [List.cons.injEq, true_and]
      · rw [if_neg e, if_neg (fun h => e (List.cons.inj h).1)]
  simpa using key l.length 0 (by omega)

/-- A list that is filled from its beginning on. -/
theorem setLoop {α : Type} {l out : List α} (hl : l.length ≤ lim) (hlen : out.length = l.length) {L : Int → List α → Option (List α)}
    (hL : ∀ (i : Nat) (x : α) (o : List α), l[i]? = some x → ix l i = some x → o.length = l.length → (i : Int) < (l.length : Nat) → IntKind.i64.wrap ((i : Int) + 1) = ((i + 1 : Nat) : Int) → L i o = L ((i + 1 : Nat) : Int) (o.set i x))
    (hend : ∀ o, L (l.length : Nat) o = some o) : L 0 out = some l := by
  have key : ∀ (n i : Nat) (o : List α), i + n = l.length → o.length = l.length → o.take i = l.take i → L i o = some l := by
    intro n
    induction n with
    | zero =>
      intro i o h ho ht
      have : i = l.length := by omega
      subst this
      rw [hend]
      rw [List.take_of_length_le (by omega), List.take_length] at ht
      rw [ht]
    | succ n ih =>
      intro i o h ho ht
      have hi : i < l.length := by omega
      have hx : l[i]? = some l[i] := List.getElem?_eq_getElem hi
      rw [hL i _ o hx (ix_of hx) ho (by omega) (wrap_succ hi hl)]
      refine ih (i + 1) _ (by omega) (by simpa using ho) ?_
      rw [List.take_add_one, List.take_add_one, hx]
      rw [List.take_set_of_le (by omega), ht]
      simp [show i < o.length by omega]
  simpa using key l.length 0 out (by omega) hlen (by simp)

/-- what is left of so much -/
def rest (c : Nat) (left : Int) : Int := if (c : Int) ≤ left then left - c else -1
theorem rest_pos {c : Nat} {left : Int} (h : (c : Int) ≤ left) : rest c left = left - c := if_pos h
theorem rest_neg {c : Nat} {left : Int} (h : ¬ (c : Int) ≤ left) : rest c left = -1 := if_neg h
theorem rest_rest {c d : Nat} {left : Int} (h : ¬ rest c left < 0) : rest d (rest c left) = rest (c + d) left := by
  unfold rest at *; split at h <;> rename_i h1
  · rw [if_pos h1]; split <;> split <;> omega
  · omega
theorem rest_lt {c : Nat} {left : Int} (h0 : 0 ≤ left) : rest c left < 0 ↔ left < c := by
  unfold rest; split <;> omega
theorem rest_le {c : Nat} {left : Int} (h : 0 ≤ left) : rest c left ≤ left := by unfold rest; split <;> omega

def sumC {α : Type} (c : α → Nat) : List α → Nat
  | [] => 0
  | x :: l => c x + sumC c l
theorem sumC_mem {α : Type} {c : α → Nat} {l : List α} {x : α} (h : x ∈ l) : c x ≤ sumC c l := by
  induction l with
  | nil => cases h
  | cons y l ih =>
    rcases List.mem_cons.1 h with rfl | h
    · simp [sumC]
    · have := ih h; simp only [sumC]; omega

/-- A loop that takes from what is left. -/
theorem szLoop {α : Type} (c : α → Nat) {l : List α} (hl : l.length ≤ lim) {L : Int → Int → Option (Sum Int Int)}
    (hL : ∀ (b : Int) (i : Nat) (x : α), l[i]? = some x → ix l i = some x → 0 ≤ b → b ≤ 1048576 → (i : Int) < (l.length : Nat) → IntKind.i64.wrap ((i : Int) + 1) = ((i + 1 : Nat) : Int) → L b i = if rest (c x) b < 0 then some (.inl (-1)) else L (rest (c x) b) ((i + 1 : Nat) : Int))
    (hend : ∀ b, L b (l.length : Nat) = some (.inr b)) {b : Int} (h0 : 0 ≤ b) (h1 : b ≤ 1048576) : L b 0 = some (if rest (sumC c l) b < 0 then .inl (-1) else .inr (rest (sumC c l) b)) := by
  have key : ∀ (n i : Nat) (b : Int), i + n = l.length → 0 ≤ b → b ≤ 1048576 → L b i = some (if rest (sumC c (l.drop i)) b < 0 then .inl (-1) else .inr (rest (sumC c (l.drop i)) b)) := by
    intro n
    induction n with
    | zero =>
      intro i b h h0 _
      have : i = l.length := by omega
      subst this
      rw [hend, List.drop_length]
      have : rest (sumC c []) b = b := by simp [sumC, rest, h0]
      rw [this, if_neg (by omega)]
    | succ n ih =>
      intro i b h h0 h1
      have hi : i < l.length := by omega
      have hx : l[i]? = some l[i] := List.getElem?_eq_getElem hi
      rw [hL b i _ hx (ix_of hx) h0 h1 (by omega) (wrap_succ hi hl), List.drop_eq_getElem_cons hi]
      have e2 : sumC c (l[i] :: l.drop (i + 1)) = c l[i] + sumC c (l.drop (i + 1)) := rfl
      rw [e2]
      by_cases hr : rest (c l[i]) b < 0
      · rw [if_pos hr]
        have : rest (c l[i] + sumC c (l.drop (i + 1))) b < 0 := by
          rw [rest_lt h0] at hr ⊢
          omega
        rw [if_pos this]
      · rw [if_neg hr, ih (i + 1) _ (by omega) (by omega) (by have := rest_le (c := c l[i]) h0; omega), rest_rest hr]
  simpa using key l.length 0 b (by omega) h0 h1
theorem decLen : ∀ (k u : Nat), u < 10 ^ (k + 1) → (Go.Lib.decDigits u).length ≤ k + 1 := by
  intro k
  induction k with
  | zero => intro u h; rw [Go.Lib.decDigits, dif_pos (by simpa using h)]; simp
  | succ k ih =>
    intro u h
    rw [Go.Lib.decDigits]
    split
    · simp
    · have := ih (u / 10) (by rw [Nat.pow_succ] at h; omega)
      simp only [List.length_append, List.length_singleton]
      omega
theorem itoa_len {n : Int} (h : -9223372036854775808 ≤ n ∧ n ≤ 9223372036854775807) : (Go.Lib.itoa n).length ≤ 21 := by
  unfold Go.Lib.itoa
  split
  · have := decLen 19 n.natAbs (by omega)
    simp only [List.length_cons]
    omega
  · have := decLen 19 n.toNat (by omega)
    omega
end HL
