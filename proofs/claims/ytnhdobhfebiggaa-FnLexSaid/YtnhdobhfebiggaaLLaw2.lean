import Derived.Test.YtnhdobhfebiggaaLLaw1
namespace W
open Go HL
set_option linter.unusedVariables false
set_option maxRecDepth 100000
set_option maxHeartbeats 4000000
namespace Q
abbrev rest_ (s : ByteArray) (p : Nat) : ByteArray := s.extract p s.size
theorem rest_size (s : ByteArray) (p : Nat) : (rest_ s p).size = s.size - p := by rw [ext_size]; omega
theorem rest_byt {s : ByteArray} {p i : Nat} (h : p + i < s.size) : byt (rest_ s p) i = byt s (p + i) := byt_ext h (Nat.le_refl _)

theorem passLoop {γ : Type} {n : Nat} (hn : n ≤ lim) {L : Int → Option γ} {x : Option γ} (hL : ∀ i : Nat, i < n → IntKind.i64.wrap ((i : Int) + 1) = ((i + 1 : Nat) : Int) → L i = L ((i + 1 : Nat) : Int)) (hend : L (n : Nat) = x) : L 0 = x := by
  have key : ∀ k, k ≤ n → L ((n - k : Nat) : Int) = x := by
    intro k
    induction k with
    | zero => intro _; exact hend
    | succ k ih =>
      intro h
      rw [hL (n - (k + 1)) (by omega) (wrap_succ (n := n) (by omega) hn), show n - (k + 1) + 1 = n - k by omega]
      exact ih (by omega)
  have := key n (Nat.le_refl _)
  rwa [Nat.sub_self] at this

/-- a run of bytes, on both sides -/
structure Run (s : ByteArray) (p : Nat) (q : Nat → Prop) (j : Nat) : Prop where
  le : p ≤ j
  hi : j ≤ s.size
  all : ∀ m, p ≤ m → m < j → q (byt s m)
  stop : j < s.size → ¬ q (byt s j)
theorem run_both {s : ByteArray} {p : Nat} (hp : p ≤ s.size) (hn : s.size ≤ lim) (q : Nat → Prop) [DecidablePred q] {L L' : Int → Option Int}
    (hL : ∀ i : Nat, i < (rest_ s p).size → IntKind.i64.wrap ((i : Int) + 1) = ((i + 1 : Nat) : Int) → L i = if q (byt (rest_ s p) i) then L ((i + 1 : Nat) : Int) else some (i : Int)) (hend : L ((rest_ s p).size : Nat) = some (((rest_ s p).size : Nat) : Int))
    (hL' : ∀ i : Nat, i < s.size → IntKind.i64.wrap ((i : Int) + 1) = ((i + 1 : Nat) : Int) → L' i = if q (byt s i) then L' ((i + 1 : Nat) : Int) else some (i : Int)) (hend' : L' (s.size : Nat) = some ((s.size : Nat) : Int)) :
    ∃ j : Nat, Run s p q j ∧ L 0 = some ((j - p : Nat) : Int) ∧ L' p = some (j : Int) := by
  have hz := rest_size s p
  obtain ⟨j, h1, h2, h3, h4, h5⟩ := run_ex hn (fun i => q (byt s i)) (L := L') hL' hend' p hp
  obtain ⟨j', g1, g2, g3, g4, g5⟩ := run_ex (n := (rest_ s p).size) (by omega) (fun i => q (byt (rest_ s p) i)) (L := L) hL hend 0 (by omega)
  refine ⟨j, ⟨h2, h3, h4, h5⟩, ?_, h1⟩
  have e : j = p + j' := by
    refine run_un (n := s.size) (i := p) (q := fun i => q (byt s i)) h2 h3 h4 h5 (by omega) (by omega) (fun m m1 m2 => ?_) (fun h => ?_)
    · have := g4 (m - p) (by omega) (by omega)
      rw [rest_byt (by omega), show p + (m - p) = m by omega] at this
      exact this
    · have := g5 (by omega)
      rw [rest_byt (by omega)] at this
      exact this
  rw [show j - p = j' by omega]
  exact g1
theorem runA {s : ByteArray} {p : Nat} (hp : p ≤ s.size) (hn : s.size ≤ lim) : ∃ j : Nat, Run s p (fun c => isL c ∨ isD c) j ∧ M.impl_runLen_at_nextTok_1 (rest_ s p) = some ((j - p : Nat) : Int) ∧ M.spec_l1Next_L1 (s, (p : Int), (p : Int)) = some (j : Int) ∧ M.spec_l1Next_L2 (s, (p : Int), (p : Int)) = some (j : Int) := by
  have hz := rest_size s p
  have hI : ∀ i : Nat, i < (rest_ s p).size → IntKind.i64.wrap ((i : Int) + 1) = ((i + 1 : Nat) : Int) → M.impl_runLen_at_nextTok_1_L0 (rest_ s p, (i : Int)) = if (isL (byt (rest_ s p) i) ∨ isD (byt (rest_ s p) i)) then M.impl_runLen_at_nextTok_1_L0 (rest_ s p, ((i + 1 : Nat) : Int)) else some (i : Int) := fun i hi hw => by
    rw [M.impl_runLen_at_nextTok_1_L0]; try dsimp only
    rw [if_pos (by omega), bx_byt hi, bind_some', nextTok1, bind_some', hw]
    by_cases a : isL (byt (rest_ s p) i) ∨ isD (byt (rest_ s p) i)
    · rw [if_pos (decide_eq_true a), if_pos a]
    · rw [if_neg (by simpa using a), if_neg a]
  have hI' : M.impl_runLen_at_nextTok_1_L0 (rest_ s p, (((rest_ s p).size : Nat) : Int)) = some (((rest_ s p).size : Nat) : Int) := by
    rw [M.impl_runLen_at_nextTok_1_L0]; try dsimp only
    rw [if_neg (by omega)]
  obtain ⟨j, h1, h2, h3⟩ := run_both hp hn (fun c => isL c ∨ isD c) (L := fun i => M.impl_runLen_at_nextTok_1_L0 (rest_ s p, i)) (L' := fun i => M.spec_l1Next_L1 (s, (p : Int), i)) hI hI' (fun i hi hw => by
    show M.spec_l1Next_L1 (s, (p : Int), (i : Int)) = _
    rw [M.spec_l1Next_L1]; try dsimp only
    rw [if_pos (by omega), bx_byt hi, bind_some', l1Letter (byt_lt _ _), bind_some', hw]
    by_cases a : isL (byt s i) ∨ isD (byt s i)
    · rw [if_pos (decide_eq_true a), if_pos a]
    · rw [if_neg (by simpa using a), if_neg a]) (by
    show M.spec_l1Next_L1 (s, (p : Int), _) = _
    rw [M.spec_l1Next_L1]; try dsimp only
    rw [if_neg (by omega)])
  obtain ⟨j', g1, g2, g3⟩ := run_both hp hn (fun c => isL c ∨ isD c) (L := fun i => M.impl_runLen_at_nextTok_1_L0 (rest_ s p, i)) (L' := fun i => M.spec_l1Next_L2 (s, (p : Int), i)) hI hI' (fun i hi hw => by
    show M.spec_l1Next_L2 (s, (p : Int), (i : Int)) = _
    rw [M.spec_l1Next_L2]; try dsimp only
    rw [if_pos (by omega), bx_byt hi, bind_some', l1Letter (byt_lt _ _), bind_some', hw]
    by_cases a : isL (byt s i) ∨ isD (byt s i)
    · rw [if_pos (decide_eq_true a), if_pos a]
    · rw [if_neg (by simpa using a), if_neg a]) (by
    show M.spec_l1Next_L2 (s, (p : Int), _) = _
    rw [M.spec_l1Next_L2]; try dsimp only
    rw [if_neg (by omega)])
  have e : j = j' := run_un (q := fun i => isL (byt s i) ∨ isD (byt s i)) h1.le h1.hi h1.all h1.stop g1.le g1.hi g1.all g1.stop
  subst e
  refine ⟨j, h1, ?_, h3, g3⟩
  rw [M.impl_runLen_at_nextTok_1]
  have h2' : M.impl_runLen_at_nextTok_1_L0 (rest_ s p, 0) = some ((j - p : Nat) : Int) := h2
  rw [h2', bind_some']
theorem runD {s : ByteArray} {p : Nat} (hp : p ≤ s.size) (hn : s.size ≤ lim) : ∃ j : Nat, Run s p isD j ∧ M.impl_runLen_at_isDigit (rest_ s p) = some ((j - p : Nat) : Int) ∧ M.spec_l1Next_L0 (s, (p : Int), (p : Int)) = some (j : Int) := by
  have hz := rest_size s p
  obtain ⟨j, h1, h2, h3⟩ := run_both hp hn isD (L := fun i => M.impl_runLen_at_isDigit_L0 (rest_ s p, i)) (L' := fun i => M.spec_l1Next_L0 (s, (p : Int), i)) (fun i hi hw => by
    show M.impl_runLen_at_isDigit_L0 (rest_ s p, (i : Int)) = _
    rw [M.impl_runLen_at_isDigit_L0]; try dsimp only
    rw [if_pos (by omega), bx_byt hi, bind_some', isDigit, bind_some', hw]
    by_cases a : isD (byt (rest_ s p) i)
    · rw [if_pos (decide_eq_true a), if_pos a]
    · rw [if_neg (by simpa using a), if_neg a]) (by
    show M.impl_runLen_at_isDigit_L0 (rest_ s p, _) = _
    rw [M.impl_runLen_at_isDigit_L0]; try dsimp only
    rw [if_neg (by omega)]) (fun i hi hw => by
    show M.spec_l1Next_L0 (s, (p : Int), (i : Int)) = _
    rw [M.spec_l1Next_L0]; try dsimp only
    rw [if_pos (by omega), bx_byt hi, bind_some', l1Digit (byt_lt _ _), bind_some', hw]
    by_cases a : isD (byt s i)
    · rw [if_pos (decide_eq_true a), if_pos a]
    · rw [if_neg (by simpa using a), if_neg a]) (by
    show M.spec_l1Next_L0 (s, (p : Int), _) = _
    rw [M.spec_l1Next_L0]; try dsimp only
    rw [if_neg (by omega)])
  refine ⟨j, h1, ?_, h3⟩
  rw [M.impl_runLen_at_isDigit]
  have h2' : M.impl_runLen_at_isDigit_L0 (rest_ s p, 0) = some ((j - p : Nat) : Int) := h2
  rw [h2', bind_some']
theorem runC {s : ByteArray} {p : Nat} (hp : p ≤ s.size) (hn : s.size ≤ lim) : ∃ j : Nat, Run s p (fun c => ¬ c = 10) j ∧ M.impl_runLen_at_passed_1 (rest_ s p) = some ((j - p : Nat) : Int) ∧ M.spec_l1Skip_L1 (s, (p : Int)) = some (j : Int) := by
  have hz := rest_size s p
  obtain ⟨j, h1, h2, h3⟩ := run_both hp hn (fun c => ¬ c = 10) (L := fun i => M.impl_runLen_at_passed_1_L0 (rest_ s p, i)) (L' := fun i => M.spec_l1Skip_L1 (s, i)) (fun i hi hw => by
    show M.impl_runLen_at_passed_1_L0 (rest_ s p, (i : Int)) = _
    rw [M.impl_runLen_at_passed_1_L0]; try dsimp only
    rw [if_pos (by omega), bx_byt hi, bind_some', M.impl_passed_1, bind_some', hw]
    by_cases a : byt (rest_ s p) i = 10
    · rw [if_neg (by simp; omega), if_neg (by omega)]
    · rw [if_pos (by simp; omega), if_pos a]) (by
    show M.impl_runLen_at_passed_1_L0 (rest_ s p, _) = _
    rw [M.impl_runLen_at_passed_1_L0]; try dsimp only
    rw [if_neg (by omega)]) (fun i hi hw => by
    show M.spec_l1Skip_L1 (s, (i : Int)) = _
    rw [M.spec_l1Skip_L1]; try dsimp only
    rw [if_pos (by omega), bx_byt hi, bind_some', hw]
    by_cases a : byt s i = 10
    · rw [if_pos (by omega), if_neg (by omega)]
    · rw [if_neg (by omega), if_pos a]) (by
    show M.spec_l1Skip_L1 (s, _) = _
    rw [M.spec_l1Skip_L1]; try dsimp only
    rw [if_neg (by omega)])
  refine ⟨j, h1, ?_, h3⟩
  rw [M.impl_runLen_at_passed_1]
  have h2' : M.impl_runLen_at_passed_1_L0 (rest_ s p, 0) = some ((j - p : Nat) : Int) := h2
  rw [h2', bind_some']

/-! a word -/
def wordsL : List ByteArray := [(⟨⟨[108, 101, 116]⟩⟩ : ByteArray), (⟨⟨[105, 110]⟩⟩ : ByteArray), (⟨⟨[119, 104, 101, 114, 101]⟩⟩ : ByteArray), (⟨⟨[99, 97, 115, 101]⟩⟩ : ByteArray), (⟨⟨[111, 102]⟩⟩ : ByteArray), (⟨⟨[105, 102]⟩⟩ : ByteArray), (⟨⟨[116, 104, 101, 110]⟩⟩ : ByteArray), (⟨⟨[101, 108, 115, 101]⟩⟩ : ByteArray), (⟨⟨[100, 97, 116, 97]⟩⟩ : ByteArray)]
open Classical in
theorem isWord (w : ByteArray) : M.spec_l1IsWord w = some (decide (w ∈ wordsL)) := by
  rw [M.spec_l1IsWord]
  have := l1Has wordsL w (by simp [wordsL, lim])
  unfold wordsL at this ⊢
  rw [this, bind_some']
open Classical in
theorem words_ (w : ByteArray) : (M.impl_words () >>= fun r => M.slices_Contains_string (r, w)) = some (decide (w ∈ wordsL)) := by
  rw [M.impl_words, bind_some']
  exact containsS wordsL w (by simp [wordsL, lim])
theorem wordLike {w : ByteArray} (hw : w.size ≤ lim) (h0 : 0 < w.size) (ha : ∀ m, m < w.size → isL (byt w m) ∨ isD (byt w m)) (hf : isL (byt w 0)) : M.impl_wordLike w = some (decide (w.size ≤ 8)) := by
  rw [M.impl_wordLike]
  have h := passLoop (n := w.size) hw (L := fun i => M.impl_wordLike_L0 (w, i)) (x := some (.inr ())) (fun i hi hwr => by
    show M.impl_wordLike_L0 (w, (i : Int)) = M.impl_wordLike_L0 (w, ((i + 1 : Nat) : Int))
    rw [M.impl_wordLike_L0]; try dsimp only
    rw [if_pos (by omega), bx_byt hi, bind_some', isLetter, bind_some', hwr]
    by_cases a : isL (byt w i)
    · rw [if_pos (decide_eq_true a)]
    · have hi0 : i ≠ 0 := fun e => a (by rw [e]; exact hf)
      rw [if_neg (by simpa using a), if_neg (by omega), isDigit, bind_some', if_pos (decide_eq_true ((ha i hi).resolve_left a))]) (by
    show M.impl_wordLike_L0 (w, _) = _
    rw [M.impl_wordLike_L0]; try dsimp only
    rw [if_neg (by omega)])
  have h' : M.impl_wordLike_L0 (w, 0) = some (.inr ()) := h
  rw [h', bind_some']; dsimp only
  rw [implIn, bind_some']
  congr 1
  apply decide_eq_decide.2
  omega
theorem letters {w : ByteArray} (hw : w.size ≤ lim) (h0 : 0 < w.size) (ha : ∀ m, m < w.size → isL (byt w m) ∨ isD (byt w m)) : M.spec_l1Letters w = some (decide (w.size ≤ 8)) := by
  rw [M.spec_l1Letters]
  have h := passLoop (n := w.size) hw (L := fun i => M.spec_l1Letters_L0 (w, i)) (x := some (.inr ())) (fun i hi hwr => by
    show M.spec_l1Letters_L0 (w, (i : Int)) = M.spec_l1Letters_L0 (w, ((i + 1 : Nat) : Int))
    rw [M.spec_l1Letters_L0]; try dsimp only
    rw [if_pos (by omega), bx_byt hi, bind_some', l1Letter (byt_lt _ _), bind_some', hwr, if_pos (decide_eq_true (ha i hi))]) (by
    show M.spec_l1Letters_L0 (w, _) = _
    rw [M.spec_l1Letters_L0]; try dsimp only
    rw [if_neg (by omega)])
  have h' : M.spec_l1Letters_L0 (w, 0) = some (.inr ()) := h
  rw [h', bind_some']; dsimp only
  rw [l1In, bind_some']
  congr 1
  apply decide_eq_decide.2
  omega
open Classical in
theorem names {w : ByteArray} (hw : w.size ≤ lim) (h0 : 0 < w.size) (ha : ∀ m, m < w.size → isL (byt w m) ∨ isD (byt w m)) (hf : isL (byt w 0)) :
    (∃ b, M.impl_NameOk w = some b ∧ M.spec_NameOk w = some b) ∧ ∃ b, M.impl_GreatOk w = some b ∧ M.spec_GreatOk w = some b := by
  have hbl := byt_lt w 0
  have h8 : (97 ≤ ((byt w 0 : Nat) : Int)) ↔ (97 ≤ byt w 0 ∧ byt w 0 ≤ 122) := by unfold isL at hf; omega
  have h9 : (((byt w 0 : Nat) : Int) ≤ 90) ↔ (65 ≤ byt w 0 ∧ byt w 0 ≤ 90) := by unfold isL at hf; omega
  constructor
  · rw [M.impl_NameOk, M.spec_NameOk, wordLike hw h0 ha hf, letters hw h0 ha, bind_some', bind_some']
    by_cases a : w.size ≤ 8
    rotate_left
    · rw [if_neg (by simpa using a), if_neg (by simpa using a)]; exact ⟨_, rfl, rfl⟩
    rw [if_pos (decide_eq_true a), if_pos (decide_eq_true a), bx_byt0 h0, bind_some', bind_some', l1Small hbl, bind_some']
    by_cases b : 97 ≤ ((byt w 0 : Nat) : Int)
    · rw [if_pos b, if_pos (decide_eq_true (h8.1 b)), isWord, bind_some']
      have := words_ w
      rw [M.impl_words, bind_some'] at this ⊢
      rw [this, bind_some']
      exact ⟨_, rfl, rfl⟩
    · have nb : ¬ (decide (97 ≤ byt w 0 ∧ byt w 0 ≤ 122) = true) := fun h => b (h8.2 (of_decide_eq_true h))
      rw [if_neg b, if_neg nb]
      exact ⟨_, rfl, rfl⟩
  · rw [M.impl_GreatOk, M.spec_GreatOk, wordLike hw h0 ha hf, letters hw h0 ha, bind_some', bind_some']
    by_cases a : w.size ≤ 8
    rotate_left
    · rw [if_neg (by simpa using a), if_neg (by simpa using a)]; exact ⟨_, rfl, rfl⟩
    rw [if_pos (decide_eq_true a), if_pos (decide_eq_true a), bx_byt0 h0, bind_some', bind_some', l1Large hbl, bind_some']
    refine ⟨_, rfl, ?_⟩
    congr 1
    exact decide_eq_decide.2 h9.symm
end Q
end W
