import Derived.Test.YtnhdobhfebiggaaLLaw2
namespace W
set_option linter.unusedSimpArgs false
set_option linter.unusedVariables false
open Go HL
set_option linter.unusedVariables false
set_option maxRecDepth 100000
set_option maxHeartbeats 4000000
namespace Q
theorem hasPrefix2 {s : ByteArray} {p : Nat} (hp : p < s.size) (c : ByteArray) (hc : c.size = 2) : M.strings_HasPrefix (rest_ s p, c) = some (decide (p + 2 ≤ s.size ∧ s.extract p (p + 2) = c)) := by
  have hz := rest_size s p
  rw [M.strings_HasPrefix, M.internal_stringslite_HasPrefix]; dsimp only
  rw [hc, hz]
  by_cases a : p + 2 ≤ s.size
  · rw [if_pos (by omega), gd_t (by omega), bind_some', gd_t (by omega), bind_some', bind_some']
    refine congrArg some (decide_eq_decide.2 ?_)
    have e : (rest_ s p).extract (0 : Int).toNat 2 = s.extract p (p + 2) := ext_ext (a := 0) (b := 2) (Nat.le_refl _) a
    rw [e]
    exact ⟨fun h => ⟨a, h⟩, fun h => h.2⟩
  · rw [if_neg (by omega), bind_some']
    exact congrArg some (decide_eq_false (fun h => a h.1)).symm
theorem two_byt {s : ByteArray} {p : Nat} {x y : UInt8} (h2 : p + 2 ≤ s.size) (h : s.extract p (p + 2) = ⟨⟨[x, y]⟩⟩) : byt s p = x.toNat ∧ byt s (p + 1) = y.toNat := by
  have e0 : byt (s.extract p (p + 2)) 0 = byt s (p + 0) := byt_ext (by omega) h2
  have e1 : byt (s.extract p (p + 2)) 1 = byt s (p + 1) := byt_ext (by omega) h2
  rw [h] at e0 e1
  exact ⟨e0.symm, e1.symm⟩
theorem one_ext {s : ByteArray} {p : Nat} (hp : p < s.size) : ∃ c : UInt8, s.extract p (p + 1) = ⟨⟨[c]⟩⟩ ∧ byt s p = c.toNat := by
  have hp' : p < s.data.size := hp
  refine ⟨s.data[p], ?_, ?_⟩
  · apply ByteArray.ext
    rw [ByteArray.data_extract]
    apply Array.ext
    · simp; omega
    · intro i h1 h2
      have : i = 0 := by simp at h2; omega
      subst this
      simp
  · unfold byt
    rw [Array.getElem?_eq_getElem hp']
    rfl
theorem one_eq (c k : UInt8) : ((⟨⟨[c]⟩⟩ : ByteArray) = ⟨⟨[k]⟩⟩) ↔ ((c.toNat : Nat) : Int) = ((k.toNat : Nat) : Int) := by
  constructor
  · intro h
    have : c = k := by simpa using h
    rw [this]
  · intro h
    have : c = k := UInt8.toNat_inj.1 (by omega)
    rw [this]
def marksL : List ByteArray := [(⟨⟨[40]⟩⟩ : ByteArray), (⟨⟨[41]⟩⟩ : ByteArray), (⟨⟨[123]⟩⟩ : ByteArray), (⟨⟨[125]⟩⟩ : ByteArray), (⟨⟨[59]⟩⟩ : ByteArray), (⟨⟨[61]⟩⟩ : ByteArray), (⟨⟨[92]⟩⟩ : ByteArray), (⟨⟨[124]⟩⟩ : ByteArray), (⟨⟨[43]⟩⟩ : ByteArray), (⟨⟨[45]⟩⟩ : ByteArray), (⟨⟨[42]⟩⟩ : ByteArray), (⟨⟨[60]⟩⟩ : ByteArray), (⟨⟨[95]⟩⟩ : ByteArray)]
theorem marks_iff (c : UInt8) : (⟨⟨[c]⟩⟩ : ByteArray) ∈ marksL ↔ ((c.toNat : Nat) : Int) ∈ [(40 : Int), 41, 123, 125, 59, 61, 92, 124, 43, 45, 42, 60, 95] := by
  unfold marksL
  simp only [List.mem_cons, List.not_mem_nil, or_false, one_eq]
  exact Iff.rfl
open Classical in
theorem marks_ (w : ByteArray) : M.spec_l1Has (marksL, w) = some (decide (w ∈ marksL)) := l1Has marksL w (by simp [marksL, lim])

theorem numbers {w : ByteArray} (hw : w.size ≤ lim) (h0 : 0 < w.size) (ha : ∀ m, m < w.size → isD (byt w m)) : ∃ b, M.impl_numberLike w = some b ∧ M.spec_l1NumOk w = some b := by
  rw [M.impl_numberLike, M.spec_l1NumOk]
  have h := passLoop (n := w.size) hw (L := fun i => M.spec_l1NumOk_L0 (w, i)) (x := some (.inr ())) (fun i hi hwr => by
    show M.spec_l1NumOk_L0 (w, (i : Int)) = M.spec_l1NumOk_L0 (w, ((i + 1 : Nat) : Int))
    rw [M.spec_l1NumOk_L0]; try dsimp only
    rw [if_pos (by omega), bx_byt hi, bind_some', l1Digit (byt_lt _ _), bind_some', hwr, if_pos (decide_eq_true (ha i hi))]) (by
    show M.spec_l1NumOk_L0 (w, _) = _
    rw [M.spec_l1NumOk_L0]; try dsimp only
    rw [if_neg (by omega)])
  have h' : M.spec_l1NumOk_L0 (w, 0) = some (.inr ()) := h
  rw [h', bind_some']; dsimp only
  rw [implIn, l1In, bind_some', bind_some']
  by_cases a : (1 : Int) ≤ ((w.size : Nat) : Int) ∧ ((w.size : Nat) : Int) ≤ 6
  rotate_left
  · rw [if_neg (by simpa using a), if_neg (by simpa using a)]; exact ⟨_, rfl, rfl⟩
  rw [if_pos (decide_eq_true a), if_pos (decide_eq_true a), bx_byt0 h0, bind_some']
  by_cases b : ((byt w 0 : Nat) : Int) = 48
  · rw [if_pos b]
    by_cases c : ((w.size : Nat) : Int) = 1
    · rw [if_pos c]; exact ⟨_, rfl, by rw [decide_eq_true c]⟩
    · rw [if_neg c, bind_some']; exact ⟨_, rfl, by rw [decide_eq_false c, decide_eq_true b]; rfl⟩
  · rw [if_neg b]
    by_cases c : ((w.size : Nat) : Int) = 1
    · rw [if_pos c]; exact ⟨_, rfl, rfl⟩
    · rw [if_neg c, bind_some']; exact ⟨_, rfl, by rw [decide_eq_false b]; rfl⟩

/-- what begins at a place, on both sides -/
def Tk (s : ByteArray) (p : Nat) : Prop :=
  (∃ t len, M.impl_nextTok (rest_ s p) = some (t, false) ∧ M.spec_l1Next (s, (p : Int)) = some (len, 0)) ∨
  ∃ (len : Nat) (k : Int), k ≠ 0 ∧ 0 < len ∧ p + len ≤ s.size ∧ (∀ m, p ≤ m → m < p + len → byt s m ≠ 10) ∧
    M.impl_nextTok (rest_ s p) = some (Tok.mk k (s.extract p (p + len)) 0 0, true) ∧ M.spec_l1Next (s, (p : Int)) = some ((len : Int), k)
def chain (w : ByteArray) : Option (Tok × Bool) := (M.impl_words () >>= fun r11 =>
    (M.slices_Contains_string (r11, w) >>= fun r12 =>
    (if r12 = true then some ((Tok.mk 4 w 0 0), true) else
    (M.impl_NameOk w >>= fun r14 =>
    (if r14 = true then some ((Tok.mk 1 w 0 0), true) else
    (M.impl_GreatOk w >>= fun r16 =>
    some ((Tok.mk 2 w 0 0), r16)))))))
open Classical in
theorem word_tk {s : ByteArray} {p : Nat} (hp : p < s.size) (hn : s.size ≤ lim) (hf : isL (byt s p)) {j : Nat} (hj : Run s p (fun c => isL c ∨ isD c) j) :
    (∃ t, chain (s.extract p j) = some (t, false) ∧ M.spec_l1Kind (s.extract p j) = some 0) ∨ ∃ k, k ≠ 0 ∧ chain (s.extract p j) = some (Tok.mk k (s.extract p j) 0 0, true) ∧ M.spec_l1Kind (s.extract p j) = some k := by
  have hpj : p < j := by
    rcases Nat.lt_or_ge p j with h | h
    · exact h
    · have : j = p := Nat.le_antisymm h hj.le
      subst this
      exact absurd (.inl hf) (hj.stop hp)
  have hz : (s.extract p j).size = j - p := by rw [ext_size]; have := hj.hi; omega
  have hb : ∀ m, m < j - p → byt (s.extract p j) m = byt s (p + m) := fun m hm => byt_ext (by omega) hj.hi
  have hall : ∀ m, m < (s.extract p j).size → isL (byt (s.extract p j) m) ∨ isD (byt (s.extract p j) m) := fun m hm => by
    rw [hb m (by omega)]
    exact hj.all (p + m) (by omega) (by omega)
  have hf' : isL (byt (s.extract p j) 0) := by rw [hb 0 (by omega)]; exact hf
  have hhi := hj.hi
  obtain ⟨⟨b1, n1, n2⟩, b2, g1, g2⟩ := names (w := s.extract p j) (by omega) (by omega) hall hf'
  have hw := words_ (s.extract p j)
  unfold chain
  rw [M.impl_words, bind_some'] at hw ⊢
  rw [hw, bind_some', M.spec_l1Kind, isWord, bind_some']
  by_cases a : s.extract p j ∈ wordsL
  · right
    rw [if_pos (decide_eq_true a), if_pos (decide_eq_true a)]
    exact ⟨4, by decide, rfl, rfl⟩
  rw [if_neg (by simpa using a), if_neg (by simpa using a), n1, n2, bind_some', bind_some']
  cases b1 with
  | true => right; rw [if_pos rfl, if_pos rfl]; exact ⟨1, by decide, rfl, rfl⟩
  | false =>
    rw [if_neg (by simp), if_neg (by simp), g1, g2, bind_some', bind_some']
    cases b2 with
    | true => right; rw [if_pos rfl]; exact ⟨2, by decide, rfl, rfl⟩
    | false => left; rw [if_neg (by simp)]; exact ⟨_, rfl, rfl⟩
theorem notNl {c : Nat} (h : isL c ∨ isD c) : c ≠ 10 := by unfold isL isD at h; omega
open Classical in
theorem tk {s : ByteArray} {p : Nat} (hp : p < s.size) (hn : s.size ≤ 1048576) : Tk s p := by
  have hlim : lim = 140737488355328 := rfl
  have hz := rest_size s p
  have hbl := byt_lt s p
  have hb0 : bx (rest_ s p) 0 = some ((byt s p : Nat) : Int) := by
    rw [bx_byt0 (by omega), rest_byt (by omega)]
    rfl
  have ext0 : ∀ j, p ≤ j → j ≤ s.size → (rest_ s p).extract (0 : Int).toNat (((j - p : Nat) : Int)).toNat = s.extract p j := fun j h1 h2 => by
    have := ext_ext (s := s) (p := p) (q := s.size) (a := 0) (b := j - p) (Nat.le_refl _) (by omega)
    rw [show p + (j - p) = j by omega] at this
    exact this
  by_cases aL : isL (byt s p)
  · have nD : ¬ isD (byt s p) := by unfold isL at aL; unfold isD; omega
    obtain ⟨j, hj, r1, r2, r3⟩ := runA (s := s) (p := p) (by omega) (by omega)
    have hpj : p < j := by
      rcases Nat.lt_or_ge p j with h | h
      · exact h
      · have : j = p := Nat.le_antisymm h hj.le
        subst this
        exact absurd (.inl aL) (hj.stop hp)
    have hhi := hj.hi
    have e2 : s.extract (p : Int).toNat ((j : Nat) : Int).toNat = s.extract p j := rfl
    have hI : M.impl_nextTok (rest_ s p) = chain (s.extract p j) := by
      rw [M.impl_nextTok, hb0, bind_some', isLetter, bind_some', if_pos (decide_eq_true aL), r1, bind_some', gd_t (by omega), bind_some', gd_t (by omega), bind_some', gd_t (by omega), bind_some', ext0 j (by omega) hhi]
      rfl
    have hS : M.spec_l1Next (s, (p : Int)) = (M.spec_l1Kind (s.extract p j) >>= fun r38 => some (((j - p : Nat) : Int), r38)) := by
      rw [M.spec_l1Next]; dsimp only
      rw [bx_byt hp, bind_some', l1Digit hbl, bind_some', if_neg (by simpa using nD), l1Small hbl, bind_some']
      by_cases b : 97 ≤ byt s p ∧ byt s p ≤ 122
      · rw [if_pos (decide_eq_true b), r2, bind_some', gd_t (by omega), bind_some', gd_t (by omega), bind_some', gd_t (by omega), bind_some', e2, wrap_ok (by omega), show (j : Int) - (p : Int) = ((j - p : Nat) : Int) by omega]
      · have b2 : 65 ≤ byt s p ∧ byt s p ≤ 90 := by unfold isL at aL; omega
        rw [if_neg (by simpa using b), l1Large hbl, bind_some', if_pos (decide_eq_true b2), r3, bind_some', gd_t (by omega), bind_some', gd_t (by omega), bind_some', gd_t (by omega), bind_some', e2, wrap_ok (by omega), show (j : Int) - (p : Int) = ((j - p : Nat) : Int) by omega]
    rcases word_tk hp (by omega) aL hj with ⟨t, w1, w2⟩ | ⟨k, w0, w1, w2⟩
    · exact .inl ⟨t, _, hI.trans w1, by rw [hS, w2, bind_some']⟩
    · refine .inr ⟨j - p, k, w0, by omega, by omega, fun m m1 m2 => notNl (hj.all m m1 (by omega)), ?_, by rw [hS, w2, bind_some']⟩
      rw [show p + (j - p) = j by omega]
      exact hI.trans w1
  by_cases aD : isD (byt s p)
  · obtain ⟨j, hj, r1, r2⟩ := runD (s := s) (p := p) (by omega) (by omega)
    have hpj : p < j := by
      rcases Nat.lt_or_ge p j with h | h
      · exact h
      · have : j = p := Nat.le_antisymm h hj.le
        subst this
        exact absurd aD (hj.stop hp)
    have hhi := hj.hi
    have e2 : s.extract (p : Int).toNat ((j : Nat) : Int).toNat = s.extract p j := rfl
    have hsz : (s.extract p j).size = j - p := by rw [ext_size]; omega
    obtain ⟨b, n1, n2⟩ := numbers (w := s.extract p j) (by omega) (by omega) (fun m hm => by
      rw [byt_ext (by omega) hhi]
      exact hj.all (p + m) (by omega) (by omega))
    have hI : M.impl_nextTok (rest_ s p) = some (Tok.mk 3 (s.extract p j) 0 0, b) := by
      rw [M.impl_nextTok, hb0, bind_some', isLetter, bind_some', if_neg (by simpa using aL), isDigit, bind_some', if_pos (decide_eq_true aD), r1, bind_some', gd_t (by omega), bind_some', gd_t (by omega), bind_some', gd_t (by omega), bind_some', ext0 j (by omega) hhi, n1, bind_some']
    have hS : M.spec_l1Next (s, (p : Int)) = if b = true then some (((j - p : Nat) : Int), 3) else some (0, 0) := by
      rw [M.spec_l1Next]; dsimp only
      rw [bx_byt hp, bind_some', l1Digit hbl, bind_some', if_pos (decide_eq_true aD), r2, bind_some', gd_t (by omega), bind_some', gd_t (by omega), bind_some', gd_t (by omega), bind_some', e2, n2, bind_some', wrap_ok (by omega), show (j : Int) - (p : Int) = ((j - p : Nat) : Int) by omega]
    cases b with
    | false => exact .inl ⟨_, _, hI, by rw [hS, if_neg (by simp)]⟩
    | true =>
      refine .inr ⟨j - p, 3, by decide, by omega, by omega, fun m m1 m2 => notNl (.inr (hj.all m m1 (by omega))), ?_, by rw [hS, if_pos rfl]⟩
      rw [show p + (j - p) = j by omega]
      exact hI
  have nS : ¬ (97 ≤ byt s p ∧ byt s p ≤ 122) := fun h => aL (.inl h)
  have nG : ¬ (65 ≤ byt s p ∧ byt s p ≤ 90) := fun h => aL (.inr h)
  have hI0 : ∀ r, ((M.strings_HasPrefix (rest_ s p, (⟨⟨[45, 62]⟩⟩ : ByteArray)) >>= fun r27 =>
    (if r27 = true then some ((Tok.mk 5 (s.extract p (p + 2)) 0 0), true) else
    (M.strings_HasPrefix (rest_ s p, (⟨⟨[61, 61]⟩⟩ : ByteArray)) >>= fun r35 =>
    (if r35 = true then some ((Tok.mk 5 (s.extract p (p + 2)) 0 0), true) else
    some ((Tok.mk 5 (s.extract p (p + 1)) 0 0), decide (((byt s p : Nat) : Int) ∈ [(40 : Int), 41, 123, 125, 59, 61, 92, 124, 43, 45, 42, 60, 95])))))) = r) → M.impl_nextTok (rest_ s p) = r := by
    intro r hr
    rw [M.impl_nextTok, hb0, bind_some', isLetter, bind_some', if_neg (by simpa using aL), isDigit, bind_some', if_neg (by simpa using aD)]
    rw [hasPrefix2 hp _ rfl, bind_some', hasPrefix2 hp _ rfl, bind_some'] at hr ⊢
    by_cases b1 : p + 2 ≤ s.size ∧ s.extract p (p + 2) = (⟨⟨[45, 62]⟩⟩ : ByteArray)
    · rw [if_pos (decide_eq_true b1)] at hr ⊢
      have := ext0 (p + 2) (by omega) b1.1
      rw [show p + 2 - p = 2 by omega] at this
      have this' : (rest_ s p).extract (0 : Int).toNat (2 : Int).toNat = s.extract p (p + 2) := this
      rw [gd_t (by omega), bind_some', gd_t (by omega), bind_some', gd_t (by omega), bind_some', this']
      exact hr
    rw [if_neg (by simpa using b1)] at hr ⊢
    by_cases b2 : p + 2 ≤ s.size ∧ s.extract p (p + 2) = (⟨⟨[61, 61]⟩⟩ : ByteArray)
    · rw [if_pos (decide_eq_true b2)] at hr ⊢
      have := ext0 (p + 2) (by omega) b2.1
      rw [show p + 2 - p = 2 by omega] at this
      have this' : (rest_ s p).extract (0 : Int).toNat (2 : Int).toNat = s.extract p (p + 2) := this
      rw [gd_t (by omega), bind_some', gd_t (by omega), bind_some', gd_t (by omega), bind_some', this']
      exact hr
    rw [if_neg (by simpa using b2)] at hr ⊢
    have := ext0 (p + 1) (by omega) (by omega)
    rw [show p + 1 - p = 1 by omega] at this
    have this' : (rest_ s p).extract (0 : Int).toNat (1 : Int).toNat = s.extract p (p + 1) := this
    rw [gd_t (by omega), bind_some', gd_t (by omega), bind_some', gd_t (by omega), bind_some', this', containsB _ _ (by simp [lim]), bind_some']
    exact hr
  have w2 : IntKind.i64.wrap ((p : Int) + 2) = (p : Int) + 2 := wrap_ok (by omega)
  have w1 : IntKind.i64.wrap ((p : Int) + 1) = (p : Int) + 1 := wrap_ok (by omega)
  have t2 : ((p : Int) + 2).toNat = p + 2 := by omega
  have t1 : ((p : Int) + 1).toNat = p + 1 := by omega
  have t0 : (p : Int).toNat = p := by omega
  have hm := marks_ (s.extract p (p + 1))
  unfold marksL at hm
  have hS : M.spec_l1Next (s, (p : Int)) = if p + 2 ≤ s.size ∧ s.extract p (p + 2) = (⟨⟨[45, 62]⟩⟩ : ByteArray) then some (2, 5) else if p + 2 ≤ s.size ∧ s.extract p (p + 2) = (⟨⟨[61, 61]⟩⟩ : ByteArray) then some (2, 5) else if s.extract p (p + 1) ∈ marksL then some (1, 5) else some (0, 0) := by
    have fin : (if (decide (s.extract p (p + 1) ∈ marksL)) = true then some ((1 : Int), (5 : Int)) else some (0, 0)) = if s.extract p (p + 1) ∈ marksL then some (1, 5) else some (0, 0) := by
      by_cases c : s.extract p (p + 1) ∈ marksL
      · rw [if_pos (decide_eq_true c), if_pos c]
      · rw [if_neg (by simpa using c), if_neg c]
    rw [M.spec_l1Next]; dsimp only
    rw [bx_byt hp, bind_some', l1Digit hbl, bind_some', if_neg (by simpa using aD), l1Small hbl, bind_some', if_neg (by simpa using nS), l1Large hbl, bind_some', if_neg (by simpa using nG), w2, w1, t2, t1, t0]
    by_cases a : p + 2 ≤ s.size
    · rw [if_pos (by omega), gd_t (by omega), bind_some', gd_t (by omega), bind_some']
      by_cases b1 : s.extract p (p + 2) = (⟨⟨[45, 62]⟩⟩ : ByteArray)
      · rw [if_pos b1, if_pos ⟨a, b1⟩]
      rw [if_neg b1, if_neg (show ¬ (p + 2 ≤ s.size ∧ s.extract p (p + 2) = (⟨⟨[45, 62]⟩⟩ : ByteArray)) from fun h => b1 h.2)]
      by_cases b2 : s.extract p (p + 2) = (⟨⟨[61, 61]⟩⟩ : ByteArray)
      · rw [if_pos b2, if_pos ⟨a, b2⟩]
      rw [if_neg b2, if_neg (show ¬ (p + 2 ≤ s.size ∧ s.extract p (p + 2) = (⟨⟨[61, 61]⟩⟩ : ByteArray)) from fun h => b2 h.2), gd_t (by omega), bind_some', gd_t (by omega), bind_some', hm, bind_some']
      exact fin
    · rw [if_neg (by omega), gd_t (by omega), bind_some', gd_t (by omega), bind_some', gd_t (by omega), bind_some', hm, bind_some', if_neg (show ¬ (p + 2 ≤ s.size ∧ s.extract p (p + 2) = (⟨⟨[45, 62]⟩⟩ : ByteArray)) from fun h => a h.1), if_neg (show ¬ (p + 2 ≤ s.size ∧ s.extract p (p + 2) = (⟨⟨[61, 61]⟩⟩ : ByteArray)) from fun h => a h.1)]
      exact fin
  by_cases b1 : p + 2 ≤ s.size ∧ s.extract p (p + 2) = (⟨⟨[45, 62]⟩⟩ : ByteArray)
  · obtain ⟨q1, q2⟩ := two_byt b1.1 b1.2
    refine .inr ⟨2, 5, by decide, by omega, b1.1, fun m m1 m2 => ?_, hI0 _ (by rw [hasPrefix2 hp _ rfl, bind_some', if_pos (decide_eq_true b1)]), by rw [hS, if_pos b1]; rfl⟩
    have q1' : byt s p = 45 := q1
    have q2' : byt s (p + 1) = 62 := q2
    have : m = p ∨ m = p + 1 := by omega
    rcases this with rfl | rfl <;> omega
  by_cases b2 : p + 2 ≤ s.size ∧ s.extract p (p + 2) = (⟨⟨[61, 61]⟩⟩ : ByteArray)
  · obtain ⟨q1, q2⟩ := two_byt b2.1 b2.2
    refine .inr ⟨2, 5, by decide, by omega, b2.1, fun m m1 m2 => ?_, hI0 _ (by rw [hasPrefix2 hp _ rfl, bind_some', if_neg (by simpa using b1), hasPrefix2 hp _ rfl, bind_some', if_pos (decide_eq_true b2)]), by rw [hS, if_neg b1, if_pos b2]; rfl⟩
    have q1' : byt s p = 61 := q1
    have q2' : byt s (p + 1) = 61 := q2
    have : m = p ∨ m = p + 1 := by omega
    rcases this with rfl | rfl <;> omega
  obtain ⟨c, c1, c2⟩ := one_ext hp
  have hmem : ((byt s p : Nat) : Int) ∈ [(40 : Int), 41, 123, 125, 59, 61, 92, 124, 43, 45, 42, 60, 95] ↔ s.extract p (p + 1) ∈ marksL := by rw [c1, c2]; exact (marks_iff c).symm
  have hI := hI0 _ (by rw [hasPrefix2 hp _ rfl, bind_some', if_neg (by simpa using b1), hasPrefix2 hp _ rfl, bind_some', if_neg (by simpa using b2)])
  by_cases b3 : ((byt s p : Nat) : Int) ∈ [(40 : Int), 41, 123, 125, 59, 61, 92, 124, 43, 45, 42, 60, 95]
  · refine .inr ⟨1, 5, by decide, by omega, by omega, fun m m1 m2 => ?_, by rw [hI, decide_eq_true b3], by rw [hS, if_neg b1, if_neg b2, if_pos (hmem.1 b3)]; rfl⟩
    have : m = p := by omega
    subst this
    intro e
    rw [e] at b3
    simp at b3
  · exact .inl ⟨_, 0, by rw [hI, decide_eq_false b3], by rw [hS, if_neg b1, if_neg b2, if_neg (fun h => b3 (hmem.2 h))]⟩
end Q
end W
