import Derived.Test.YtnhdobhfebiggaaLMir
import Derived.Test.YtnhdobhfebiggaaHLP
namespace W
open Go HL
set_option linter.unusedVariables false
set_option maxRecDepth 100000
set_option maxHeartbeats 4000000
namespace Q
/-- byte i of a text -/
def byt (s : ByteArray) (i : Nat) : Nat := ((s.data[i]?).map UInt8.toNat).getD 0
theorem bx_byt {s : ByteArray} {i : Nat} (h : i < s.size) : bx s (i : Int) = some ((byt s i : Nat) : Int) := by
  have h' : i < s.data.size := h
  unfold bx byt
  rw [if_pos (by omega)]
  have e : ((i : Int)).toNat = i := by omega
  rw [e, Array.getElem?_eq_getElem h']
  rfl
theorem bx_byt0 {s : ByteArray} (h : 0 < s.size) : bx s 0 = some ((byt s 0 : Nat) : Int) := bx_byt h
theorem byt_lt (s : ByteArray) (i : Nat) : byt s i < 256 := by
  unfold byt
  cases s.data[i]? with
  | none => simp
  | some c => simpa using c.toNat_lt
theorem ext_size (s : ByteArray) (p q : Nat) : (s.extract p q).size = min q s.size - p := by
  simp [ByteArray.size_extract]
theorem byt_ext {s : ByteArray} {p q i : Nat} (h : p + i < q) (hq : q ≤ s.size) : byt (s.extract p q) i = byt s (p + i) := by
  unfold byt
  rw [ByteArray.data_extract, Array.getElem?_extract]
  have hq' : q ≤ s.data.size := hq
  rw [if_pos (by omega)]
theorem ext_ext {s : ByteArray} {p q a b : Nat} (hq : q ≤ s.size) (h : p + b ≤ q) : (s.extract p q).extract a b = s.extract (p + a) (p + b) := by
  apply ByteArray.ext
  rw [ByteArray.data_extract, ByteArray.data_extract, ByteArray.data_extract, Array.extract_extract]
  congr 1
  omega

theorem run_ex {n : Nat} (hn : n ≤ lim) (q : Nat → Prop) [DecidablePred q] {L : Int → Option Int}
    (hL : ∀ i : Nat, i < n → IntKind.i64.wrap ((i : Int) + 1) = ((i + 1 : Nat) : Int) → L i = if q i then L ((i + 1 : Nat) : Int) else some (i : Int)) (hend : L (n : Nat) = some (n : Int)) :
    ∀ i : Nat, i ≤ n → ∃ j : Nat, L i = some (j : Int) ∧ i ≤ j ∧ j ≤ n ∧ (∀ m, i ≤ m → m < j → q m) ∧ (j < n → ¬ q j) := by
  have key : ∀ (k i : Nat), i + k = n → ∃ j : Nat, L i = some (j : Int) ∧ i ≤ j ∧ j ≤ n ∧ (∀ m, i ≤ m → m < j → q m) ∧ (j < n → ¬ q j) := by
    intro k
    induction k with
    | zero =>
      intro i h
      have : i = n := by omega
      subst this
      exact ⟨i, hend, Nat.le_refl _, Nat.le_refl _, fun m h1 h2 => by omega, fun h => by omega⟩
    | succ k ih =>
      intro i h
      rw [hL i (by omega) (wrap_succ (n := n) (by omega) hn)]
      by_cases hq : q i
      · rw [if_pos hq]
        obtain ⟨j, h1, h2, h3, h4, h5⟩ := ih (i + 1) (by omega)
        refine ⟨j, h1, by omega, h3, fun m h6 h7 => ?_, h5⟩
        by_cases e : m = i
        · subst e; exact hq
        · exact h4 m (by omega) h7
      · rw [if_neg hq]
        exact ⟨i, rfl, Nat.le_refl _, by omega, fun m h1 h2 => by omega, fun _ => hq⟩
  intro i hi
  exact key (n - i) i (by omega)
theorem run_un {n i j j' : Nat} {q : Nat → Prop} (h1 : i ≤ j) (h2 : j ≤ n) (h3 : ∀ m, i ≤ m → m < j → q m) (h4 : j < n → ¬ q j) (h1' : i ≤ j') (h2' : j' ≤ n) (h3' : ∀ m, i ≤ m → m < j' → q m) (h4' : j' < n → ¬ q j') : j = j' := by
  rcases Nat.lt_trichotomy j j' with h | h | h
  · exact absurd (h3' j h1 h) (h4 (by omega))
  · exact h
  · exact absurd (h3 j' h1' h) (h4' (by omega))
theorem anyLoop' {α γ : Type} {l : List α} (hl : l.length ≤ lim) (q : α → Prop) [DecidablePred q] (f : Nat → γ) {L : Int → Option (Sum γ Unit)}
    (hL : ∀ (i : Nat) (x : α), x ∈ l → ix l i = some x → (i : Int) < (l.length : Nat) → IntKind.i64.wrap ((i : Int) + 1) = ((i + 1 : Nat) : Int) → L i = if q x then some (.inl (f i)) else L ((i + 1 : Nat) : Int))
    (hend : L (l.length : Nat) = some (.inr ())) : (∃ j : Nat, L 0 = some (.inl (f j)) ∧ ∃ x ∈ l, q x) ∨ (L 0 = some (.inr ()) ∧ ∀ x ∈ l, ¬ q x) := by
  have key : ∀ (n i : Nat), i + n = l.length → (∃ j : Nat, L i = some (.inl (f j)) ∧ ∃ x ∈ l.drop i, q x) ∨ (L i = some (.inr ()) ∧ ∀ x ∈ l.drop i, ¬ q x) := by
    intro n
    induction n with
    | zero =>
      intro i h
      have : i = l.length := by omega
      subst this
      right
      rw [hend, List.drop_length]
      simp
    | succ n ih =>
      intro i h
      have hi : i < l.length := by omega
      have hx : l[i]? = some l[i] := List.getElem?_eq_getElem hi
      rw [hL i _ (List.getElem_mem _) (ix_of hx) (by omega) (wrap_succ hi hl), List.drop_eq_getElem_cons hi]
      by_cases e : q l[i]
      · rw [if_pos e]
        exact .inl ⟨i, rfl, _, List.mem_cons_self .., e⟩
      · rw [if_neg e]
        rcases ih (i + 1) (by omega) with ⟨j, h1, x, h2, h3⟩ | ⟨h1, h2⟩
        · exact .inl ⟨j, h1, x, List.mem_cons_of_mem _ h2, h3⟩
        · right
          refine ⟨h1, fun x hx => ?_⟩
          rcases List.mem_cons.1 hx with rfl | h
          · exact e
          · exact h2 x h
  simpa using key l.length 0 (by omega)

/-! kinds of bytes -/
def isL (c : Nat) : Prop := (97 ≤ c ∧ c ≤ 122) ∨ (65 ≤ c ∧ c ≤ 90)
def isD (c : Nat) : Prop := 48 ≤ c ∧ c ≤ 57
instance (c : Nat) : Decidable (isL c) := inferInstanceAs (Decidable (_ ∨ _))
instance (c : Nat) : Decidable (isD c) := inferInstanceAs (Decidable (_ ∧ _))
theorem isLetter (c : Nat) : M.impl_isLetter (c : Int) = some (decide (isL c)) := by
  rw [M.impl_isLetter]; try dsimp only
  by_cases a : isL c
  · rw [decide_eq_true a]
    unfold isL at a
    repeat' split
    all_goals first | rfl | (exfalso; omega) | (simp; omega)
  · rw [decide_eq_false a]
    unfold isL at a
    repeat' split
    all_goals first | rfl | (exfalso; omega) | (simp; omega)
theorem isDigit (c : Nat) : M.impl_isDigit (c : Int) = some (decide (isD c)) := by
  rw [M.impl_isDigit]; try dsimp only
  by_cases a : isD c
  · rw [decide_eq_true a]
    unfold isD at a
    repeat' split
    all_goals first | rfl | (exfalso; omega) | (simp; omega)
  · rw [decide_eq_false a]
    unfold isD at a
    repeat' split
    all_goals first | rfl | (exfalso; omega) | (simp; omega)
theorem l1In (a b c : Int) : M.spec_l1In (a, b, c) = some (decide (b ≤ a ∧ a ≤ c)) := by
  rw [M.spec_l1In]; try dsimp only
  by_cases h : b ≤ a
  · rw [if_pos h]; simp [h]
  · rw [if_neg h]; simp [h]
theorem implIn (a b c : Int) : M.impl_in (a, b, c) = some (decide (b ≤ a ∧ a ≤ c)) := by
  rw [M.impl_in]; try dsimp only
  by_cases h : b ≤ a
  · rw [if_pos h]; simp [h]
  · rw [if_neg h]; simp [h]
theorem l1Digit {c : Nat} (h : c < 256) : M.spec_l1Digit (c : Int) = some (decide (isD c)) := by
  rw [M.spec_l1Digit, wrap_ok (by omega), l1In, bind_some']
  congr 1
  apply decide_eq_decide.2
  unfold isD
  omega
theorem l1Small {c : Nat} (h : c < 256) : M.spec_l1Small (c : Int) = some (decide (97 ≤ c ∧ c ≤ 122)) := by
  rw [M.spec_l1Small, wrap_ok (by omega), l1In, bind_some']
  congr 1
  apply decide_eq_decide.2
  omega
theorem l1Large {c : Nat} (h : c < 256) : M.spec_l1Large (c : Int) = some (decide (65 ≤ c ∧ c ≤ 90)) := by
  rw [M.spec_l1Large, wrap_ok (by omega), l1In, bind_some']
  congr 1
  apply decide_eq_decide.2
  omega
theorem l1Letter {c : Nat} (h : c < 256) : M.spec_l1Letter (c : Int) = some (decide (isL c ∨ isD c)) := by
  rw [M.spec_l1Letter, l1Small h, bind_some']
  by_cases a : 97 ≤ c ∧ c ≤ 122
  · rw [if_pos (decide_eq_true a), decide_eq_true (show isL c ∨ isD c from .inl (.inl a))]
  rw [if_neg (by simpa using a), l1Large h, bind_some']
  by_cases b : 65 ≤ c ∧ c ≤ 90
  · rw [if_pos (decide_eq_true b), decide_eq_true (show isL c ∨ isD c from .inl (.inr b))]
  rw [if_neg (by simpa using b), l1Digit h, bind_some']
  congr 1
  apply decide_eq_decide.2
  unfold isL isD
  omega
theorem nextTok1 (c : Nat) : M.impl_nextTok_1 (c : Int) = some (decide (isL c ∨ isD c)) := by
  rw [M.impl_nextTok_1, isLetter, bind_some']
  by_cases a : isL c
  · rw [if_pos (decide_eq_true a), decide_eq_true (show isL c ∨ isD c from .inl a)]
  · rw [if_neg (by simpa using a), isDigit, bind_some']
    congr 1
    apply decide_eq_decide.2
    exact ⟨fun h => .inr h, fun h => h.resolve_left a⟩

/-! words -/
open Classical in
theorem containsS (l : List ByteArray) (w : ByteArray) (hl : l.length ≤ lim) : M.slices_Contains_string (l, w) = some (decide (w ∈ l)) := by
  rw [M.slices_Contains_string, M.slices_Index_string]; try dsimp only
  rcases anyLoop' (l := l) hl (fun x => w = x) (fun j => (j : Int)) (L := fun i => M.slices_Index_string_L0 (l, w, i)) (fun i x hx hix hi hw => by
    show M.slices_Index_string_L0 (l, w, i) = _
    rw [M.slices_Index_string_L0]; try dsimp only
    rw [if_pos hi, hix, bind_some', hw]) (by
    show M.slices_Index_string_L0 (l, w, _) = _
    rw [M.slices_Index_string_L0]; try dsimp only
    rw [if_neg (by omega)]) with ⟨j, h1, x, h2, h3⟩ | ⟨h1, h2⟩
  · have h1' : M.slices_Index_string_L0 (l, w, 0) = some (.inl (j : Int)) := h1
    rw [h1', bind_some']; dsimp only
    rw [bind_some', decide_eq_true (show w ∈ l by rw [h3]; exact h2), decide_eq_true (show (0 : Int) ≤ (j : Int) by omega)]
  · have h1' : M.slices_Index_string_L0 (l, w, 0) = some (.inr ()) := h1
    rw [h1', bind_some']; dsimp only
    rw [bind_some', decide_eq_false (show ¬ w ∈ l from fun h => h2 w h rfl), decide_eq_false (show ¬ (0 : Int) ≤ -1 by omega)]
theorem containsB (l : List Int) (w : Int) (hl : l.length ≤ lim) : M.slices_Contains_byte (l, w) = some (decide (w ∈ l)) := by
  rw [M.slices_Contains_byte, M.slices_Index_byte]; try dsimp only
  rcases anyLoop' (l := l) hl (fun x => w = x) (fun j => (j : Int)) (L := fun i => M.slices_Index_byte_L0 (l, w, i)) (fun i x hx hix hi hw => by
    show M.slices_Index_byte_L0 (l, w, i) = _
    rw [M.slices_Index_byte_L0]; try dsimp only
    rw [if_pos hi, hix, bind_some', hw]) (by
    show M.slices_Index_byte_L0 (l, w, _) = _
    rw [M.slices_Index_byte_L0]; try dsimp only
    rw [if_neg (by omega)]) with ⟨j, h1, x, h2, h3⟩ | ⟨h1, h2⟩
  · have h1' : M.slices_Index_byte_L0 (l, w, 0) = some (.inl (j : Int)) := h1
    rw [h1', bind_some']; dsimp only
    rw [bind_some', decide_eq_true (show w ∈ l by rw [h3]; exact h2), decide_eq_true (show (0 : Int) ≤ (j : Int) by omega)]
  · have h1' : M.slices_Index_byte_L0 (l, w, 0) = some (.inr ()) := h1
    rw [h1', bind_some']; dsimp only
    rw [bind_some', decide_eq_false (show ¬ w ∈ l from fun h => h2 w h rfl), decide_eq_false (show ¬ (0 : Int) ≤ -1 by omega)]
open Classical in
theorem l1Has (l : List ByteArray) (w : ByteArray) (hl : l.length ≤ lim) : M.spec_l1Has (l, w) = some (decide (w ∈ l)) := by
  rw [M.spec_l1Has]; try dsimp only
  rcases anyLoop' (l := l) hl (fun x => x = w) (fun _ => true) (L := fun i => M.spec_l1Has_L0 (l, w, i)) (fun i x hx hix hi hw => by
    show M.spec_l1Has_L0 (l, w, i) = _
    rw [M.spec_l1Has_L0]; try dsimp only
    rw [if_pos hi, hix, bind_some', hw]) (by
    show M.spec_l1Has_L0 (l, w, _) = _
    rw [M.spec_l1Has_L0]; try dsimp only
    rw [if_neg (by omega)]) with ⟨j, h1, x, h2, h3⟩ | ⟨h1, h2⟩
  · have h1' : M.spec_l1Has_L0 (l, w, 0) = some (.inl true) := h1
    rw [h1', bind_some', decide_eq_true (show w ∈ l by rw [← h3]; exact h2)]
  · have h1' : M.spec_l1Has_L0 (l, w, 0) = some (.inr ()) := h1
    rw [h1', bind_some', decide_eq_false (show ¬ w ∈ l from fun h => h2 w h rfl)]
end Q
end W
