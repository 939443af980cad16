import Derived.Test.YtnhdobhfebiggaaLLaw5
namespace W
set_option linter.unusedSimpArgs false
set_option linter.unusedVariables false
open Go HL
set_option linter.unusedVariables false
set_option maxRecDepth 100000
set_option maxHeartbeats 4000000
namespace Q

/-! what begins at a place, by what stands there -/
theorem first_bx {s : ByteArray} {p : Nat} (hp : p < s.size) : bx (rest_ s p) 0 = some ((byt s p : Nat) : Int) := by
  have hz := rest_size s p
  rw [bx_byt0 (by omega), rest_byt (by omega)]
  rfl
theorem ext_first {s : ByteArray} {p j : Nat} (h1 : p ≤ j) (h2 : j ≤ s.size) : (rest_ s p).extract (0 : Int).toNat (((j - p : Nat) : Int)).toNat = s.extract p j := by
  have := ext_ext (s := s) (p := p) (q := s.size) (a := 0) (b := j - p) (Nat.le_refl _) (by omega)
  rw [show p + (j - p) = j by omega] at this
  exact this
theorem Run.uniq {s : ByteArray} {p j j' : Nat} {q : Nat → Prop} (h : Run s p q j) (h' : Run s p q j') : j = j' := by
  rcases Nat.lt_trichotomy j j' with a | a | a
  · exact absurd (h'.all j h.le a) (h.stop (Nat.lt_of_lt_of_le a h'.hi))
  · exact a
  · exact absurd (h.all j' h'.le a) (h'.stop (Nat.lt_of_lt_of_le a h.hi))
theorem nt_L {s : ByteArray} {p j : Nat} (hp : p < s.size) (hn : s.size ≤ 1048576) (aL : isL (byt s p)) (hj : Run s p (fun c => isL c ∨ isD c) j) : M.impl_nextTok (rest_ s p) = chain (s.extract p j) := by
  have hlim : lim = 140737488355328 := rfl
  have hz := rest_size s p
  obtain ⟨j', hj', r1, _, _⟩ := runA (s := s) (p := p) (by omega) (by omega)
  obtain rfl := hj.uniq hj'
  have hle := hj.le
  have hhi := hj.hi
  rw [M.impl_nextTok, first_bx hp, bind_some', isLetter, bind_some', if_pos (decide_eq_true aL), r1, bind_some', gd_t (by omega), bind_some', gd_t (by omega), bind_some', gd_t (by omega), bind_some', ext_first hle hhi]
  rfl
theorem nt_D {s : ByteArray} {p j : Nat} (hp : p < s.size) (hn : s.size ≤ 1048576) (aL : ¬ isL (byt s p)) (aD : isD (byt s p)) (hj : Run s p isD j) : M.impl_nextTok (rest_ s p) = (M.impl_numberLike (s.extract p j) >>= fun b => some (Tok.mk 3 (s.extract p j) 0 0, b)) := by
  have hlim : lim = 140737488355328 := rfl
  have hz := rest_size s p
  obtain ⟨j', hj', r1, _⟩ := runD (s := s) (p := p) (by omega) (by omega)
  obtain rfl := hj.uniq hj'
  have hle := hj.le
  have hhi := hj.hi
  rw [M.impl_nextTok, first_bx hp, bind_some', isLetter, bind_some', if_neg (by simpa using aL), isDigit, bind_some', if_pos (decide_eq_true aD), r1, bind_some', gd_t (by omega), bind_some', gd_t (by omega), bind_some', gd_t (by omega), bind_some', ext_first hle hhi]
abbrev two (s : ByteArray) (p : Nat) (c : ByteArray) : Prop := p + 2 ≤ s.size ∧ s.extract p (p + 2) = c
theorem nt_M {s : ByteArray} {p : Nat} (hp : p < s.size) (hn : s.size ≤ 1048576) (aL : ¬ isL (byt s p)) (aD : ¬ isD (byt s p)) : M.impl_nextTok (rest_ s p) =
    if two s p (⟨⟨[45, 62]⟩⟩ : ByteArray) then some (Tok.mk 5 (s.extract p (p + 2)) 0 0, true) else if two s p (⟨⟨[61, 61]⟩⟩ : ByteArray) then some (Tok.mk 5 (s.extract p (p + 2)) 0 0, true) else
    some (Tok.mk 5 (s.extract p (p + 1)) 0 0, decide (((byt s p : Nat) : Int) ∈ [(40 : Int), 41, 123, 125, 59, 61, 92, 124, 43, 45, 42, 60, 95])) := by
  have hlim : lim = 140737488355328 := rfl
  have hz := rest_size s p
  have e2 : p + 2 ≤ s.size → (rest_ s p).extract (0 : Int).toNat (2 : Int).toNat = s.extract p (p + 2) := fun h => by
    have := ext_first (s := s) (p := p) (j := p + 2) (by omega) h
    rw [show p + 2 - p = 2 by omega] at this
    exact this
  have e1 : (rest_ s p).extract (0 : Int).toNat (1 : Int).toNat = s.extract p (p + 1) := by
    have := ext_first (s := s) (p := p) (j := p + 1) (by omega) (by omega)
    rw [show p + 1 - p = 1 by omega] at this
    exact this
  rw [M.impl_nextTok, first_bx hp, bind_some', isLetter, bind_some', if_neg (by simpa using aL), isDigit, bind_some', if_neg (by simpa using aD), hasPrefix2 hp _ rfl, bind_some', hasPrefix2 hp _ rfl, bind_some']
  by_cases b1 : two s p (⟨⟨[45, 62]⟩⟩ : ByteArray)
  · rw [if_pos b1, if_pos (decide_eq_true b1), gd_t (by omega), bind_some', gd_t (by omega), bind_some', gd_t (by have := b1.1; omega), bind_some', e2 b1.1]
  rw [if_neg b1, if_neg (show ¬ (decide (p + 2 ≤ s.size ∧ s.extract p (p + 2) = (⟨⟨[45, 62]⟩⟩ : ByteArray)) = true) from fun h => b1 (of_decide_eq_true h))]
  by_cases b2 : two s p (⟨⟨[61, 61]⟩⟩ : ByteArray)
  · rw [if_pos b2, if_pos (decide_eq_true b2), gd_t (by omega), bind_some', gd_t (by omega), bind_some', gd_t (by have := b2.1; omega), bind_some', e2 b2.1]
  rw [if_neg b2, if_neg (show ¬ (decide (p + 2 ≤ s.size ∧ s.extract p (p + 2) = (⟨⟨[61, 61]⟩⟩ : ByteArray)) = true) from fun h => b2 (of_decide_eq_true h))]
  rw [gd_t (by omega), bind_some', gd_t (by omega), bind_some', gd_t (by omega), bind_some', containsB _ _ (by simp [lim]), bind_some', e1]
theorem passed0 {s : ByteArray} {p : Nat} (hp : p < s.size) (h1 : byt s p ≠ 32) (h2 : byt s p ≠ 10) (h3 : ¬ two s p (⟨⟨[45, 45]⟩⟩ : ByteArray)) : M.impl_passed (rest_ s p) = some 0 := by
  rw [M.impl_passed, first_bx hp, bind_some', if_neg (by omega), if_neg (by omega), hasPrefix2 hp _ rfl, bind_some', if_neg (show ¬ (decide (p + 2 ≤ s.size ∧ s.extract p (p + 2) = (⟨⟨[45, 45]⟩⟩ : ByteArray)) = true) from fun h => h3 (of_decide_eq_true h))]
theorem not_two {s : ByteArray} {p : Nat} (h : M.impl_passed (rest_ s p) = some 0) (hp : p < s.size) (hn : s.size ≤ 1048576) : ¬ two s p (⟨⟨[45, 45]⟩⟩ : ByteArray) := by
  have hlim : lim = 140737488355328 := rfl
  intro h2
  obtain ⟨q1, q2⟩ := two_byt h2.1 h2.2
  have q1' : byt s p = 45 := q1
  obtain ⟨j, hj, r1, _⟩ := runC (s := s) (p := p) (by omega) (by omega)
  rw [M.impl_passed, first_bx hp, bind_some', if_neg (by omega), if_neg (by omega), hasPrefix2 hp _ rfl, bind_some', if_pos (decide_eq_true h2), r1, bind_some'] at h
  have h3 : ((j - p : Nat) : Int) = 0 := Option.some.inj h
  have hle := hj.le
  have : j = p := by omega
  subst this
  exact hj.stop hp (by omega)
theorem chain_S {w : ByteArray} {t : Tok} {b : Bool} (h : chain w = some (t, b)) : t.S = w ∧ t.K ≠ 6 := by
  unfold chain at h
  simp only [bind, Option.bind_eq_some_iff] at h
  obtain ⟨r11, _, r12, _, h⟩ := h
  split at h
  · cases h; exact ⟨rfl, fun h => by cases h⟩
  · simp only [Option.bind_eq_some_iff] at h
    obtain ⟨r14, _, h⟩ := h
    split at h
    · cases h; exact ⟨rfl, fun h => by cases h⟩
    · simp only [Option.bind_eq_some_iff] at h
      obtain ⟨r16, _, h⟩ := h
      cases h; exact ⟨rfl, fun h => by cases h⟩

/-- A sign's text is read again wherever a blank or the end stands behind it. -/
def Good (k : Int) (S : ByteArray) : Prop := 0 < S.size ∧ k ≠ 6 ∧ ∀ (t : ByteArray) (q : Nat), t.size ≤ 1048576 → q + S.size ≤ t.size → t.extract q (q + S.size) = S → (q + S.size < t.size → byt t (q + S.size) = 32) →
  M.impl_nextTok (rest_ t q) = some (Tok.mk k S 0 0, true) ∧ M.impl_passed (rest_ t q) = some 0
theorem byt_of {t S : ByteArray} {q : Nat} (h : t.extract q (q + S.size) = S) (hq : q + S.size ≤ t.size) {m : Nat} (hm : m < S.size) : byt t (q + m) = byt S m := by
  rw [← h, byt_ext (by omega) hq]
theorem ext_size' {s : ByteArray} {p j : Nat} (h1 : p ≤ j) (h2 : j ≤ s.size) : (s.extract p j).size = j - p := by rw [ext_size]; omega
theorem good_of {s : ByteArray} {p len : Nat} {k : Int} (hp : p < s.size) (hn : s.size ≤ 1048576) (l0 : 0 < len) (l1 : p + len ≤ s.size) (h : M.impl_nextTok (rest_ s p) = some (Tok.mk k (s.extract p (p + len)) 0 0, true)) (hpass : M.impl_passed (rest_ s p) = some 0) : Good k (s.extract p (p + len)) := by
  have hlim : lim = 140737488355328 := rfl
  have hSz : (s.extract p (p + len)).size = len := by rw [ext_size' (by omega) l1]; omega
  have hSb : ∀ m, m < len → byt (s.extract p (p + len)) m = byt s (p + m) := fun m hm => byt_ext (by omega) l1
  have lens : ∀ j, p ≤ j → j ≤ s.size → s.extract p j = s.extract p (p + len) → j = p + len := fun j h1 h2 e => by
    have := congrArg ByteArray.size e
    rw [ext_size' h1 h2, hSz] at this
    omega
  have h45 := not_two hpass hp hn
  by_cases aL : isL (byt s p)
  · obtain ⟨j, hj, _, _, _⟩ := runA (s := s) (p := p) (by omega) (by omega)
    rw [nt_L hp hn aL hj] at h
    have hc := chain_S h
    obtain rfl := lens j hj.le hj.hi hc.1.symm
    refine ⟨by omega, hc.2, fun t q ht hq he hb => ?_⟩
    rw [hSz] at hq hb
    have hbt : ∀ m, m < len → byt t (q + m) = byt s (p + m) := fun m hm => by rw [byt_of he (by omega) (by omega), hSb m hm]
    have b0 := hbt 0 l0
    have aL' : isL (byt t q) := by have : byt t q = byt s p := b0; rw [this]; exact aL
    have hr : Run t q (fun c => isL c ∨ isD c) (q + len) := ⟨by omega, hq, fun m m1 m2 => by
      have := hbt (m - q) (by omega)
      rw [show q + (m - q) = m by omega] at this
      rw [this]
      exact hj.all _ (by omega) (by omega), fun hx => by rw [hb hx]; unfold isL isD; omega⟩
    rw [hSz] at he
    refine ⟨by rw [nt_L (by omega) ht aL' hr, he, h], passed0 (by omega) (by unfold isL at aL'; omega) (by unfold isL at aL'; omega) fun h2 => ?_⟩
    obtain ⟨q1, _⟩ := two_byt h2.1 h2.2
    have q1' : byt t q = 45 := q1
    unfold isL at aL'; omega
  by_cases aD : isD (byt s p)
  · obtain ⟨j, hj, _, _⟩ := runD (s := s) (p := p) (by omega) (by omega)
    have h' := h
    rw [nt_D hp hn aL aD hj] at h'
    simp only [bind, Option.bind_eq_some_iff] at h'
    obtain ⟨b, hb0, h'⟩ := h'
    have h3 := (Prod.mk.inj (Option.some.inj h')).1
    have h4 := (Prod.mk.inj (Option.some.inj h')).2
    subst h4
    have hk : (3 : Int) = k := congrArg Tok.K h3
    obtain rfl := lens j hj.le hj.hi (congrArg Tok.S h3)
    subst hk
    refine ⟨by omega, by decide, fun t q ht hq he hb => ?_⟩
    rw [hSz] at hq hb
    have hbt : ∀ m, m < len → byt t (q + m) = byt s (p + m) := fun m hm => by rw [byt_of he (by omega) (by omega), hSb m hm]
    have b0 : byt t q = byt s p := hbt 0 l0
    have hr : Run t q isD (q + len) := ⟨by omega, hq, fun m m1 m2 => by
      have := hbt (m - q) (by omega)
      rw [show q + (m - q) = m by omega] at this
      rw [this]
      exact hj.all _ (by omega) (by omega), fun hx => by rw [hb hx]; unfold isD; omega⟩
    rw [hSz] at he
    refine ⟨by rw [nt_D (by omega) ht (by rw [b0]; exact aL) (by rw [b0]; exact aD) hr, he, hb0]; rfl, passed0 (by omega) (by unfold isD at aD; omega) (by unfold isD at aD; omega) fun h2 => ?_⟩
    obtain ⟨q1, _⟩ := two_byt h2.1 h2.2
    have q1' : byt t q = 45 := q1
    unfold isD at aD; omega
  · rw [nt_M hp hn aL aD] at h
    by_cases b1 : two s p (⟨⟨[45, 62]⟩⟩ : ByteArray)
    · rw [if_pos b1] at h
      have h3 := (Prod.mk.inj (Option.some.inj h)).1
      have hk : (5 : Int) = k := congrArg Tok.K h3
      have hlen := lens (p + 2) (by omega) b1.1 (congrArg Tok.S h3)
      have : len = 2 := by omega
      subst this
      subst hk
      refine ⟨by omega, by decide, fun t q ht hq he hb => ?_⟩
      rw [hSz] at hq hb
      have hbt : ∀ m, m < 2 → byt t (q + m) = byt s (p + m) := fun m hm => by rw [byt_of he (by omega) (by omega), hSb m hm]
      have b0 : byt t q = byt s p := hbt 0 (by omega)
      obtain ⟨q1, q2⟩ := two_byt b1.1 b1.2
      have q1' : byt s p = 45 := q1
      rw [hSz] at he
      have c1 : two t q (⟨⟨[45, 62]⟩⟩ : ByteArray) := ⟨hq, by rw [he]; exact b1.2⟩
      refine ⟨by rw [nt_M (by omega) ht (by rw [b0]; exact aL) (by rw [b0]; exact aD), if_pos c1, he], passed0 (by omega) (by omega) (by omega) fun h2 => ?_⟩
      have := c1.2.symm.trans h2.2
      exact absurd this (by decide)
    rw [if_neg b1] at h
    by_cases b2 : two s p (⟨⟨[61, 61]⟩⟩ : ByteArray)
    · rw [if_pos b2] at h
      have h3 := (Prod.mk.inj (Option.some.inj h)).1
      have hk : (5 : Int) = k := congrArg Tok.K h3
      have hlen := lens (p + 2) (by omega) b2.1 (congrArg Tok.S h3)
      have : len = 2 := by omega
      subst this
      subst hk
      refine ⟨by omega, by decide, fun t q ht hq he hb => ?_⟩
      rw [hSz] at hq hb
      have hbt : ∀ m, m < 2 → byt t (q + m) = byt s (p + m) := fun m hm => by rw [byt_of he (by omega) (by omega), hSb m hm]
      have b0 : byt t q = byt s p := hbt 0 (by omega)
      obtain ⟨q1, q2⟩ := two_byt b2.1 b2.2
      have q1' : byt s p = 61 := q1
      rw [hSz] at he
      have c2 : two t q (⟨⟨[61, 61]⟩⟩ : ByteArray) := ⟨hq, by rw [he]; exact b2.2⟩
      have c1 : ¬ two t q (⟨⟨[45, 62]⟩⟩ : ByteArray) := fun h1 => absurd (c2.2.symm.trans h1.2) (by decide)
      refine ⟨by rw [nt_M (by omega) ht (by rw [b0]; exact aL) (by rw [b0]; exact aD), if_neg c1, if_pos c2, he], passed0 (by omega) (by omega) (by omega) fun h2 => ?_⟩
      exact absurd (c2.2.symm.trans h2.2) (by decide)
    rw [if_neg b2] at h
    have h3 := (Prod.mk.inj (Option.some.inj h)).1
    have h4 := (Prod.mk.inj (Option.some.inj h)).2
    have hk : (5 : Int) = k := congrArg Tok.K h3
    have hlen := lens (p + 1) (by omega) (by omega) (congrArg Tok.S h3)
    have : len = 1 := by omega
    subst this
    subst hk
    refine ⟨by omega, by decide, fun t q ht hq he hb => ?_⟩
    rw [hSz] at hq hb
    have b0 : byt t q = byt s p := by
      have : byt t (q + 0) = byt s (p + 0) := by rw [byt_of he (by omega) (by omega), hSb 0 (by omega)]
      exact this
    rw [hSz] at he
    have nb : ∀ c : UInt8, c.toNat ≠ 32 → ∀ d : UInt8, ¬ two t q (⟨⟨[d, c]⟩⟩ : ByteArray) := fun c hc d h2 => by
      obtain ⟨_, q2⟩ := two_byt h2.1 h2.2
      have := hb (by have := h2.1; omega)
      omega
    have hmem := of_decide_eq_true h4
    have hb32 : byt s p ≠ 32 := fun e => by rw [e] at hmem; exact absurd hmem (by decide)
    have hb10 : byt s p ≠ 10 := fun e => by rw [e] at hmem; exact absurd hmem (by decide)
    refine ⟨by rw [nt_M (by omega) ht (by rw [b0]; exact aL) (by rw [b0]; exact aD), if_neg (nb _ (by decide) _), if_neg (nb _ (by decide) _), he, b0, h4], passed0 (by omega) (by omega) (by omega) (nb _ (by decide) _)⟩
end Q
end W
