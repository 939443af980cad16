import Derived.Test.YtnhdobhfebiggaaLLaw3
namespace W
open Go HL
set_option linter.unusedVariables false
set_option maxRecDepth 100000
set_option maxHeartbeats 4000000
namespace Q
theorem skip_end (s : ByteArray) : M.spec_l1Skip (s, ((s.size : Nat) : Int)) = some ((s.size : Nat) : Int) := by
  rw [M.spec_l1Skip]; dsimp only
  rw [M.spec_l1Skip_L0]; dsimp only
  rw [if_neg (by omega), bind_some']
theorem skip_of {s : ByteArray} {p q : Int} (h : M.spec_l1Skip_L0 (s, p) = M.spec_l1Skip_L0 (s, q)) : M.spec_l1Skip (s, p) = M.spec_l1Skip (s, q) := by
  rw [M.spec_l1Skip, M.spec_l1Skip]; dsimp only
  rw [h]
/-- what is passed over -/
theorem passed {s : ByteArray} {p : Nat} (hp : p < s.size) (hn : s.size ≤ 1048576) :
    (M.impl_passed (rest_ s p) = some 0 ∧ M.spec_l1Skip (s, (p : Int)) = some (p : Int)) ∨
    ∃ r : Nat, 0 < r ∧ p + r ≤ s.size ∧ M.impl_passed (rest_ s p) = some (r : Int) ∧ M.spec_l1Skip (s, (p : Int)) = M.spec_l1Skip (s, ((p + r : Nat) : Int)) ∧ ((byt s p = 10 ∧ r = 1) ∨ ∀ m, p ≤ m → m < p + r → byt s m ≠ 10) := by
  have hlim : lim = 140737488355328 := rfl
  have hz := rest_size s p
  have hb0 : bx (rest_ s p) 0 = some ((byt s p : Nat) : Int) := by
    rw [bx_byt0 (by omega), rest_byt (by omega)]
    rfl
  have w2 : IntKind.i64.wrap ((p : Int) + 2) = (p : Int) + 2 := wrap_ok (by omega)
  have w1 : IntKind.i64.wrap ((p : Int) + 1) = ((p + 1 : Nat) : Int) := by rw [wrap_ok (by omega)]; omega
  have t2 : ((p : Int) + 2).toNat = p + 2 := by omega
  have t0 : (p : Int).toNat = p := by omega
  by_cases d : p + 2 ≤ s.size ∧ s.extract p (p + 2) = (⟨⟨[45, 45]⟩⟩ : ByteArray)
  · obtain ⟨q1, q2⟩ := two_byt d.1 d.2
    have q1' : byt s p = 45 := q1
    obtain ⟨j, hj, r1, r2⟩ := runC (s := s) (p := p) (by omega) (by omega)
    have hpj : p < j := by
      rcases Nat.lt_or_ge p j with h | h
      · exact h
      · have : j = p := Nat.le_antisymm h hj.le
        subst this
        exact absurd (by omega) (hj.stop hp)
    refine .inr ⟨j - p, by omega, by have := hj.hi; omega, ?_, ?_, .inr fun m m1 m2 => hj.all m m1 (by omega)⟩
    · rw [M.impl_passed, hb0, bind_some', if_neg (by omega), if_neg (by omega), hasPrefix2 hp _ rfl, bind_some', if_pos (decide_eq_true d), r1, bind_some']
    · refine skip_of ?_
      rw [show p + (j - p) = j by omega, M.spec_l1Skip_L0]; dsimp only
      rw [if_pos (by omega), w2, t2, t0, if_pos (by omega), gd_t (by omega), bind_some', gd_t (by omega), bind_some', if_pos d.2, r2, bind_some']
  have blank : M.spec_l1Skip_L0 (s, (p : Int)) = (if ((byt s p : Nat) : Int) = 32 then M.spec_l1Skip_L0 (s, ((p + 1 : Nat) : Int)) else if ((byt s p : Nat) : Int) = 10 then M.spec_l1Skip_L0 (s, ((p + 1 : Nat) : Int)) else some (.inl (p : Int))) := by
    rw [M.spec_l1Skip_L0]; dsimp only
    rw [if_pos (by omega), w2, t2, t0, w1]
    by_cases a : p + 2 ≤ s.size
    · rw [if_pos (by omega), gd_t (by omega), bind_some', gd_t (by omega), bind_some', if_neg (fun h => d ⟨a, h⟩), bx_byt hp, bind_some']
    · rw [if_neg (by omega), bx_byt hp, bind_some']
  by_cases b1 : ((byt s p : Nat) : Int) = 32
  · refine .inr ⟨1, by omega, by omega, ?_, skip_of (by rw [blank, if_pos b1]), .inr fun m m1 m2 => ?_⟩
    · rw [M.impl_passed, hb0, bind_some', if_pos b1]; rfl
    · have : m = p := by omega
      subst this
      omega
  by_cases b2 : ((byt s p : Nat) : Int) = 10
  · refine .inr ⟨1, by omega, by omega, ?_, skip_of (by rw [blank, if_neg b1, if_pos b2]), .inl ⟨by omega, rfl⟩⟩
    rw [M.impl_passed, hb0, bind_some', if_neg b1, if_pos b2]; rfl
  left
  constructor
  · rw [M.impl_passed, hb0, bind_some', if_neg b1, if_neg b2, hasPrefix2 hp _ rfl, bind_some', if_neg (by simpa using d)]
  · rw [M.spec_l1Skip]; dsimp only
    rw [blank, if_neg b1, if_neg b2, bind_some']

/-! lines -/
def nlc (s : ByteArray) : Nat → Nat
  | 0 => 0
  | j + 1 => nlc s j + if byt s j = 10 then 1 else 0
def bgn (s : ByteArray) : Nat → Nat
  | 0 => 0
  | j + 1 => if byt s j = 10 then j + 1 else bgn s j
theorem nlc_le (s : ByteArray) : ∀ j, nlc s j ≤ j
  | 0 => Nat.le_refl _
  | j + 1 => by have := nlc_le s j; rw [nlc]; split <;> omega
theorem bgn_le (s : ByteArray) : ∀ j, bgn s j ≤ j
  | 0 => Nat.le_refl _
  | j + 1 => by have := bgn_le s j; rw [bgn]; split <;> omega
theorem same_line {s : ByteArray} {a : Nat} : ∀ k, (∀ m, a ≤ m → m < a + k → byt s m ≠ 10) → nlc s (a + k) = nlc s a ∧ bgn s (a + k) = bgn s a
  | 0, _ => ⟨rfl, rfl⟩
  | k + 1, h => by
    obtain ⟨h1, h2⟩ := same_line k (fun m m1 m2 => h m m1 (by omega))
    have hk := h (a + k) (by omega) (by omega)
    rw [show a + (k + 1) = (a + k) + 1 by omega, nlc, bgn, if_neg hk, if_neg hk]
    exact ⟨h1, h2⟩

/-- what impl's loop does next -/
noncomputable abbrev IL (s : ByteArray) (out : List Tok) (p : Nat) := M.impl_Lex_L0 (s, out, ((1 + nlc s p : Nat) : Int), ((bgn s p : Nat) : Int), (p : Int))
noncomputable abbrev SL (s : ByteArray) (out : List Tok) (last p : Nat) := (M.spec_l1Skip (s, (p : Int)) >>= fun r => M.spec_Lex_L0 (s, out, ((1 + nlc s last : Nat) : Int), ((bgn s last : Nat) : Int), (last : Int), r))
def tkAt (s : ByteArray) (p len : Nat) (k : Int) : Tok := Tok.mk k (s.extract p (p + len)) ((1 + nlc s p : Nat) : Int) (IntKind.i64.wrap ((IntKind.i64.wrap ((p : Int) - ((bgn s p : Nat) : Int))) + 1))
theorem lines_loop {s : ByteArray} {out : List Tok} {p : Nat} {r : Int × Int} (hn : s.size ≤ 1048576) (hp : p ≤ s.size) : ∀ k last, last + k = p → M.spec_Lex_L1 (s, out, (p : Int), r, ((1 + nlc s last : Nat) : Int), ((bgn s last : Nat) : Int), (last : Int)) = some (((1 + nlc s p : Nat) : Int), ((bgn s p : Nat) : Int)) := by
  intro k
  induction k with
  | zero =>
    intro last h
    have : last = p := by omega
    subst this
    rw [M.spec_Lex_L1]; dsimp only
    rw [if_neg (by omega)]
  | succ k ih =>
    intro last h
    have hb := bgn_le s last
    have hl := nlc_le s last
    have w1 : IntKind.i64.wrap ((last : Int) + 1) = ((last + 1 : Nat) : Int) := by rw [wrap_ok (by omega)]; omega
    rw [M.spec_Lex_L1]; dsimp only
    rw [if_pos (by omega), bx_byt (by omega), bind_some', w1]
    have := ih (last + 1) (by omega)
    rw [nlc, bgn] at this
    by_cases e : byt s last = 10
    · rw [if_pos e, if_pos e] at this
      rw [if_pos (by omega), wrap_ok (by omega), show ((1 + nlc s last : Nat) : Int) + 1 = ((1 + (nlc s last + 1) : Nat) : Int) by omega]
      exact this
    · rw [if_neg e, if_neg e] at this
      rw [if_neg (by omega)]
      exact this
theorem step_both {s : ByteArray} {p last : Nat} (hp : p < s.size) (hn : s.size ≤ 1500) (hla : last ≤ p) (out : List Tok) (ho : out.length ≤ p) :
    (∃ r : Nat, 0 < r ∧ p + r ≤ s.size ∧ IL s out p = IL s out (p + r) ∧ SL s out last p = SL s out last (p + r)) ∨
    (IL s out p = some (.inl ([], false)) ∧ SL s out last p = some (.inl ([], false))) ∨
    ∃ (len : Nat) (k : Int), 0 < len ∧ p + len ≤ s.size ∧ IL s out p = IL s (out ++ [tkAt s p len k]) (p + len) ∧
      SL s out last p = if 400 ≤ out.length then some (.inl ([], false)) else SL s (out ++ [tkAt s p len k]) p (p + len) := by
  have hgr : grow = 549755813888 := rfl
  have hb := bgn_le s p
  have hl := nlc_le s p
  rcases passed hp (by omega) with ⟨e1, e2⟩ | ⟨r, r0, r1, e1, e2, e3⟩
  · -- a token
    right
    have hI : IL s out p = (M.impl_nextTok (rest_ s p) >>= fun r28 => (if r28.2 = true then (gd (out.length + 1 ≤ grow) >>= fun u31 =>
        M.impl_Lex_L0 (s, (out ++ [(Tok.mk r28.1.K r28.1.S ((1 + nlc s p : Nat) : Int) (IntKind.i64.wrap ((IntKind.i64.wrap ((p : Int) - ((bgn s p : Nat) : Int))) + 1)))]), ((1 + nlc s p : Nat) : Int), ((bgn s p : Nat) : Int), (IntKind.i64.wrap ((p : Int) + ((r28.1.S.size : Nat) : Int))))) else
        some (.inl ([], false)))) := by
      show M.impl_Lex_L0 (s, out, ((1 + nlc s p : Nat) : Int), ((bgn s p : Nat) : Int), (p : Int)) = _
      rw [M.impl_Lex_L0]; dsimp only
      have ee : s.extract (p : Int).toNat s.size = rest_ s p := rfl
      rw [if_pos (by omega), gd_t (by omega), bind_some', gd_t (by omega), bind_some', gd_t (by omega), bind_some', ee, e1, bind_some', if_neg (by omega)]
    have hS : SL s out last p = M.spec_Lex_L0 (s, out, ((1 + nlc s last : Nat) : Int), ((bgn s last : Nat) : Int), (last : Int), (p : Int)) := by
      show (M.spec_l1Skip (s, (p : Int)) >>= _) = _
      rw [e2, bind_some']
    rw [hI, hS, M.spec_Lex_L0]; dsimp only
    rw [if_pos (by omega), if_pos (by omega)]
    rcases tk hp (by omega) with ⟨t, len, k1, k2⟩ | ⟨len, k, k0, l0, l1, l2, k1, k2⟩
    · left
      rw [k1, k2, bind_some', bind_some', if_neg (by simp), if_pos rfl]
      exact ⟨rfl, rfl⟩
    · right
      obtain ⟨s1, s2⟩ := same_line len l2
      have hsz : (s.extract p (p + len)).size = len := by rw [ext_size]; omega
      have w1 : IntKind.i64.wrap ((p : Int) + (len : Int)) = ((p + len : Nat) : Int) := by rw [wrap_ok (by omega)]; omega
      refine ⟨len, k, l0, l1, ?_, ?_⟩
      · rw [k1, bind_some']; dsimp only
        rw [if_pos rfl, gd_t (by omega), bind_some', hsz, w1]
        show _ = M.impl_Lex_L0 (s, out ++ [tkAt s p len k], ((1 + nlc s (p + len) : Nat) : Int), ((bgn s (p + len) : Nat) : Int), ((p + len : Nat) : Int))
        rw [s1, s2]
        rfl
      · rw [k2, bind_some']; dsimp only
        rw [if_neg k0]
        by_cases h4 : 400 ≤ out.length
        · rw [if_pos (by omega), if_pos h4]
        rw [if_neg (by omega), if_neg h4, lines_loop (by omega) (by omega) (p - last) last (by omega), bind_some', gd_t (by omega), bind_some', w1, gd_t (by omega), bind_some', gd_t (by omega), bind_some', gd_t (by omega), bind_some']
        rfl
  · left
    refine ⟨r, r0, r1, ?_, ?_⟩
    · show M.impl_Lex_L0 (s, out, ((1 + nlc s p : Nat) : Int), ((bgn s p : Nat) : Int), (p : Int)) = M.impl_Lex_L0 (s, out, ((1 + nlc s (p + r) : Nat) : Int), ((bgn s (p + r) : Nat) : Int), ((p + r : Nat) : Int))
      rw [M.impl_Lex_L0]; dsimp only
      have ee : s.extract (p : Int).toNat s.size = rest_ s p := rfl
      have w1 : IntKind.i64.wrap ((p : Int) + (r : Int)) = ((p + r : Nat) : Int) := by rw [wrap_ok (by omega)]; omega
      rw [if_pos (by omega), gd_t (by omega), bind_some', gd_t (by omega), bind_some', gd_t (by omega), bind_some', ee, e1, bind_some', if_pos (by omega), bx_byt hp, bind_some', w1]
      rcases e3 with ⟨e4, rfl⟩ | e4
      · rw [if_pos (by omega), nlc, bgn, if_pos e4, if_pos e4, wrap_ok (by omega), wrap_ok (by omega), show ((1 + nlc s p : Nat) : Int) + 1 = ((1 + (nlc s p + 1) : Nat) : Int) by omega, show (p : Int) + 1 = ((p + 1 : Nat) : Int) by omega]
      · have := e4 p (by omega) (by omega)
        obtain ⟨s1, s2⟩ := same_line r e4
        rw [if_neg (by omega), s1, s2]
    · show (M.spec_l1Skip (s, (p : Int)) >>= _) = (M.spec_l1Skip (s, ((p + r : Nat) : Int)) >>= _)
      rw [e2]
end Q
end W
