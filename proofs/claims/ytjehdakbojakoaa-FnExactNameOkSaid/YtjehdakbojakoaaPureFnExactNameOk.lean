/- NameOk: for every text the program's NameOk answers what the reference's answers. There are no conditions. -/
import Derived.Test.YtjehdakbojakoaaPFnExactNameOkx2
namespace Go.Proofs.Ytjehdakbojakoaa.Pure
open Go.RowKit Go.Proofs.Ytjehdakbojakoaa.PFnExactNameOk Go.Proofs.YtjehdakbojakoaaW.PrintWords Go.Proofs.YtjehdakbojakoaaW.PrintLast

/-- A letter, or a digit. -/
def letterB (c : Int) : Bool := decide (97 ≤ c ∧ c ≤ 122) || decide (65 ≤ c ∧ c ≤ 90)
def digitB (c : Int) : Bool := decide (48 ≤ c ∧ c ≤ 57)
def allB (s : ByteArray) : Nat → Int → Bool
  | 0, _ => true
  | d + 1, i => (letterB (bt s i) || digitB (bt s i)) && allB s d (i + 1)

theorem wrap_small {c : Int} (h0 : 0 ≤ c) (h1 : c ≤ 255) : wrap64 c = c := by unfold wrap64; omega
theorem wrap_head {i : Int} {n : Nat} (h0 : 0 ≤ i) (h : i < (n : Int)) (hn : n ≤ 140737488351232) : wrap64 (i + 1) = i + 1 := by unfold wrap64; omega

theorem in_eq (a b c : Int) : spec_l1In.f a b c = some (decide (b ≤ a ∧ a ≤ c)) := by
  unfold spec_l1In.f
  by_cases h : a ≥ b
  · rw [if_pos h]; congr 1; simp; omega
  · rw [if_neg h]; congr 1; simp; omega
theorem iin_eq (a b c : Int) : impl_in.f a b c = some (decide (b ≤ a ∧ a ≤ c)) := by
  unfold impl_in.f
  by_cases h : a ≥ b
  · rw [if_pos h]; congr 1; simp; omega
  · rw [if_neg h]; congr 1; simp; omega
theorem small_eq {c : Int} (h0 : 0 ≤ c) (h1 : c ≤ 255) : spec_l1Small.f c = some (decide (97 ≤ c ∧ c ≤ 122)) := by
  unfold spec_l1Small.f; rw [wrap_small h0 h1, in_eq]; rfl
theorem large_eq {c : Int} (h0 : 0 ≤ c) (h1 : c ≤ 255) : spec_l1Large.f c = some (decide (65 ≤ c ∧ c ≤ 90)) := by
  unfold spec_l1Large.f; rw [wrap_small h0 h1, in_eq]; rfl
theorem letter_eq {c : Int} (h0 : 0 ≤ c) (h1 : c ≤ 255) : spec_l1Letter.f c = some (letterB c || digitB c) := by
  unfold spec_l1Letter.f spec_l1Digit.f letterB digitB
  rw [small_eq h0 h1, large_eq h0 h1, wrap_small h0 h1, in_eq]
  simp only [Option.bind_some]
  by_cases a : 97 ≤ c ∧ c ≤ 122 <;> by_cases b : 65 ≤ c ∧ c ≤ 90 <;> simp [a, b]
theorem isLetter_eq (c : Int) : impl_isLetter.f c = some (letterB c) := by
  unfold impl_isLetter.f letterB
  by_cases a : c ≥ 97 <;> by_cases b : c ≤ 122 <;> by_cases d : c ≥ 65 <;> by_cases e : c ≤ 90 <;> simp [a, b, d, e] <;> omega
theorem isDigit_eq (c : Int) : impl_isDigit.f c = some (digitB c) := by
  unfold impl_isDigit.f digitB
  by_cases a : c ≥ 48 <;> by_cases b : c ≤ 57 <;> simp [a, b] <;> omega

theorem letters_eq (s : ByteArray) (hn : s.size ≤ 140737488351232) (d : Nat) : ∀ (k : Nat) (i : Int), 0 ≤ i → (s.size : Int) - i = d → d < k →
    spec_l1Letters.l0 k s i = some (allB s d i && decide (1 ≤ (s.size : Int) ∧ (s.size : Int) ≤ 8)) := by
  induction d with
  | zero =>
    intro k i h0 hd hk
    obtain ⟨k, rfl⟩ : ∃ m, k = m + 1 := ⟨k - 1, by omega⟩
    simp only [spec_l1Letters.l0]; rw [if_neg (by omega), in_eq]; simp [allB]
  | succ d ih =>
    intro k i h0 hd hk
    obtain ⟨k, rfl⟩ : ∃ m, k = m + 1 := ⟨k - 1, by omega⟩
    obtain ⟨r0, r1⟩ := bt_range s i
    simp only [spec_l1Letters.l0]; rw [if_pos (by omega), if_pos h0, letter_eq r0 r1, wrap_head h0 (by omega) hn, ih k (i + 1) (by omega) (by omega) (by omega)]
    simp only [Option.bind_some, allB]
    cases letterB (bt s i) || digitB (bt s i) <;> simp

theorem wordLike_eq (s : ByteArray) (hn : s.size ≤ 140737488351232) (d : Nat) : ∀ (k : Nat) (i : Int), 0 < i → (s.size : Int) - i = d → d < k →
    impl_wordLike.l0 k s (s.size : Int) i = some (allB s d i && decide (1 ≤ (s.size : Int) ∧ (s.size : Int) ≤ 8)) := by
  induction d with
  | zero =>
    intro k i h0 hd hk
    obtain ⟨k, rfl⟩ : ∃ m, k = m + 1 := ⟨k - 1, by omega⟩
    simp only [impl_wordLike.l0]; rw [if_neg (by omega), iin_eq]; simp [allB]
  | succ d ih =>
    intro k i h0 hd hk
    obtain ⟨k, rfl⟩ : ∃ m, k = m + 1 := ⟨k - 1, by omega⟩
    simp only [impl_wordLike.l0]; rw [if_pos (by omega), if_pos (by omega), if_pos (by omega), isLetter_eq, isDigit_eq, wrap_head (by omega) (by omega) hn, ih k (i + 1) (by omega) (by omega) (by omega), if_neg (by omega)]
    simp only [Option.bind_some, allB]
    cases letterB (bt s i) <;> cases digitB (bt s i) <;> simp

/-- A word is letters and digits, of which the first one is a letter. -/
theorem word_eq (s : ByteArray) (hn : s.size ≤ 140737488351232) {k : Nat} (hk : s.size + 1 < k) :
    impl_wordLike.f k s = some ((allB s s.size 0 && decide (1 ≤ (s.size : Int) ∧ (s.size : Int) ≤ 8)) && letterB (bt s 0)) := by
  unfold impl_wordLike.f
  obtain ⟨k, rfl⟩ : ∃ m, k = m + 1 := ⟨k - 1, by omega⟩
  simp only [impl_wordLike.l0]
  by_cases h : s.size = 0
  · rw [if_neg (by omega), iin_eq]; simp [h]
  · obtain ⟨d, hd⟩ : ∃ d, s.size = d + 1 := ⟨s.size - 1, by omega⟩
    rw [if_pos (by omega), if_pos (by omega), if_pos (by omega), isLetter_eq, wrap_head (n := s.size) (by omega) (by omega) hn]
    simp only [if_true]
    rw [wordLike_eq s hn d k (0 + 1) (by omega) (by omega) (by omega)]
    simp only [Option.bind_some]
    rw [show allB s s.size 0 = ((letterB (bt s 0) || digitB (bt s 0)) && allB s d (0 + 1)) by rw [hd]; rfl]
    cases letterB (bt s 0) <;> simp
theorem lets_eq (s : ByteArray) (hn : s.size ≤ 140737488351232) {k : Nat} (hk : s.size + 1 < k) :
    spec_l1Letters.f k s = some (allB s s.size 0 && decide (1 ≤ (s.size : Int) ∧ (s.size : Int) ≤ 8)) := by
  unfold spec_l1Letters.f
  exact letters_eq s hn s.size k 0 (by omega) (by omega) (by omega)

def hasB (l : List ByteArray) (s : ByteArray) : Nat → Int → Bool
  | 0, _ => false
  | d + 1, i => decide ((rdOf ByteArray.empty l i).toList = s.toList) || hasB l s d (i + 1)
theorem has_eq (l : List ByteArray) (s : ByteArray) (hn : l.length ≤ 1000) (d : Nat) : ∀ (k : Nat) (i : Int), 0 ≤ i → (l.length : Int) - i = d → d < k → spec_l1Has.l0 k l s i = some (hasB l s d i) := by
  induction d with
  | zero =>
    intro k i h0 hd hk
    obtain ⟨k, rfl⟩ : ∃ m, k = m + 1 := ⟨k - 1, by omega⟩
    simp only [spec_l1Has.l0]; rw [if_neg (by omega)]; rfl
  | succ d ih =>
    intro k i h0 hd hk
    obtain ⟨k, rfl⟩ : ∃ m, k = m + 1 := ⟨k - 1, by omega⟩
    simp only [spec_l1Has.l0]; rw [if_pos (by omega), if_pos h0, wrap_head (n := l.length) h0 (by omega) (by omega), ih k (i + 1) (by omega) (by omega) (by omega)]
    by_cases e : (rdOf ByteArray.empty l i).toList = s.toList <;> simp [hasB, e]
theorem index_eq (l : List ByteArray) (s : ByteArray) (hn : l.length ≤ 1000) (d : Nat) : ∀ (k : Nat) (i : Int), 0 ≤ i → (l.length : Int) - i = d → d < k →
    ∃ r, slices_Index_string_string.l0 k l s (l.length : Int) i = some r ∧ decide (r ≥ 0) = hasB l s d i := by
  induction d with
  | zero =>
    intro k i h0 hd hk
    obtain ⟨k, rfl⟩ : ∃ m, k = m + 1 := ⟨k - 1, by omega⟩
    exact ⟨-1, by simp only [slices_Index_string_string.l0]; rw [if_neg (by omega)], rfl⟩
  | succ d ih =>
    intro k i h0 hd hk
    obtain ⟨k, rfl⟩ : ∃ m, k = m + 1 := ⟨k - 1, by omega⟩
    obtain ⟨r, h1, h2⟩ := ih k (i + 1) (by omega) (by omega) (by omega)
    simp only [slices_Index_string_string.l0]; rw [if_pos (by omega), if_pos h0, if_pos (by omega), wrap_head (n := l.length) h0 (by omega) (by omega), h1]
    by_cases e : s.toList = (rdOf ByteArray.empty l i).toList
    · exact ⟨i, by rw [if_pos e], by simp [hasB, e, h0]⟩
    · have e' : ¬ (rdOf ByteArray.empty l i).toList = s.toList := fun h => e h.symm
      exact ⟨r, by rw [if_neg e], by simp [hasB, e', h2]⟩

theorem FnExactNameOk : laws_FnExactNameOk.Pure := by
  intro s hn
  refine ⟨s.size + 20, ?_⟩
  unfold laws_FnExactNameOk.f
  by_cases h : (s.size : Int) > 1048576
  · rw [if_pos h]
  · rw [if_neg h]
    unfold spec_NameOk.f impl_NameOk.f spec_l1IsWord.f impl_words.f slices_Contains_string_string.f spec_l1Has.f slices_Index_string_string.f
    rw [word_eq s hn (by omega), lets_eq s hn (by omega)]
    obtain ⟨r0, r1⟩ := bt_range s 0
    rw [small_eq r0 r1]
    simp only [Option.bind_some]
    generalize hW : ([(⟨#[108, 101, 116]⟩ : ByteArray), (⟨#[105, 110]⟩ : ByteArray), (⟨#[119, 104, 101, 114, 101]⟩ : ByteArray), (⟨#[99, 97, 115, 101]⟩ : ByteArray), (⟨#[111, 102]⟩ : ByteArray), (⟨#[105, 102]⟩ : ByteArray), (⟨#[116, 104, 101, 110]⟩ : ByteArray), (⟨#[101, 108, 115, 101]⟩ : ByteArray), (⟨#[100, 97, 116, 97]⟩ : ByteArray)] : List ByteArray) = W
    have hW9 : W.length = 9 := by rw [← hW]; rfl
    obtain ⟨r, q1, q2⟩ := index_eq W s (by omega) 9 (s.size + 20) 0 (by omega) (by omega) (by omega)
    rw [has_eq W s (by omega) 9 (s.size + 20) 0 (by omega) (by omega) (by omega), q1]
    simp only [Option.bind_some]
    rw [← q2]
    by_cases hs : 1 ≤ (s.size : Int) ∧ (s.size : Int) ≤ 8
    · have hp : 0 < s.size := by omega
      cases ha : allB s s.size 0
      · simp
      · cases hl : letterB (bt s 0)
        · simp only [letterB, Bool.or_eq_false_iff, decide_eq_false_iff_not] at hl
          have h2 : ¬ (97 ≤ bt s 0 ∧ bt s 0 ≤ 122) := by omega
          simp [hs, hp, h2]
        · simp only [letterB, Bool.or_eq_true, decide_eq_true_eq] at hl
          by_cases q : bt s 0 ≥ 97
          · have h2 : bt s 0 ≤ 122 := by omega
            simp [hs, hp, q, h2]
          · simp [hs, hp, q]
    · simp [hs]

end Go.Proofs.Ytjehdakbojakoaa.Pure
