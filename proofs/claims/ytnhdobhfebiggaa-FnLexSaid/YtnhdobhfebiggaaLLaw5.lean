import Derived.Test.YtnhdobhfebiggaaLLaw4
namespace W
open Go HL
set_option linter.unusedVariables false
set_option maxRecDepth 100000
set_option maxHeartbeats 4000000
namespace Q
theorem both {s : ByteArray} (hn : s.size ≤ 1500) : ∀ (k p last : Nat) (out : List Tok), p + k = s.size → last ≤ p → out.length ≤ p →
    (IL s out p = some (.inl ([], false)) ∧ SL s out last p = some (.inl ([], false))) ∨
    ∃ out', IL s out p = some (.inr (out', ((1 + nlc s s.size : Nat) : Int), ((bgn s s.size : Nat) : Int), ((s.size : Nat) : Int))) ∧ out.length ≤ out'.length ∧ out'.length ≤ s.size ∧
      (SL s out last p = some (.inr out') ∨ (SL s out last p = some (.inl ([], false)) ∧ 400 ≤ out'.length)) := by
  intro k
  induction k using Nat.strongRecOn with
  | ind k ih =>
    intro p last out hk hla ho
    rcases Nat.eq_zero_or_pos k with k0 | k0
    · have : p = s.size := by omega
      subst this
      refine .inr ⟨out, ?_, Nat.le_refl _, ho, .inl ?_⟩
      · show M.impl_Lex_L0 _ = _
        rw [M.impl_Lex_L0]; dsimp only
        rw [if_neg (by omega)]
      · show (M.spec_l1Skip _ >>= _) = _
        rw [skip_end, bind_some', M.spec_Lex_L0]; dsimp only
        rw [if_neg (by omega)]
    · rcases step_both (s := s) (p := p) (last := last) (by omega) hn hla out ho with ⟨r, r0, r1, e1, e2⟩ | ⟨e1, e2⟩ | ⟨len, t, l0, l1, e1, e2⟩
      · rw [e1, e2]
        exact ih (k - r) (by omega) (p + r) last out (by omega) (by omega) (by omega)
      · exact .inl ⟨e1, e2⟩
      · have := ih (k - len) (by omega) (p + len) p (out ++ [tkAt s p len t]) (by omega) (by omega) (by rw [List.length_append, List.length_singleton]; omega)
        rw [e1, e2]
        rw [List.length_append, List.length_singleton] at this
        by_cases h4 : 400 ≤ out.length
        · rw [if_pos h4]
          rcases this with ⟨a1, a2⟩ | ⟨out', a1, a2, a3, a4⟩
          · exact .inl ⟨a1, rfl⟩
          · exact .inr ⟨out', a1, by omega, a3, .inr ⟨rfl, by omega⟩⟩
        · rw [if_neg h4]
          rcases this with ⟨a1, a2⟩ | ⟨out', a1, a2, a3, a4⟩
          · exact .inl ⟨a1, a2⟩
          · exact .inr ⟨out', a1, by omega, a3, a4⟩
theorem place {s : ByteArray} (hn : s.size ≤ 1500) : ∀ (k i : Nat), i + k = s.size → M.spec_l1Place_L0 (s, ((s.size : Nat) : Int), ((1 + nlc s i : Nat) : Int), ((i - bgn s i + 1 : Nat) : Int), (i : Int)) = some (((1 + nlc s s.size : Nat) : Int), ((s.size - bgn s s.size + 1 : Nat) : Int)) := by
  intro k
  induction k with
  | zero =>
    intro i h
    have : i = s.size := by omega
    subst this
    rw [M.spec_l1Place_L0]; dsimp only
    rw [if_neg (by omega)]
  | succ k ih =>
    intro i h
    have hb := bgn_le s i
    have hl := nlc_le s i
    have w1 : IntKind.i64.wrap ((i : Int) + 1) = ((i + 1 : Nat) : Int) := by rw [wrap_ok (by omega)]; omega
    have := ih (i + 1) (by omega)
    rw [M.spec_l1Place_L0]; dsimp only
    rw [if_pos (by omega), bx_byt (by omega), bind_some', w1]
    rw [nlc, bgn] at this
    by_cases e : byt s i = 10
    · rw [if_pos e, if_pos e, show ((i + 1 - (i + 1) + 1 : Nat) : Int) = 1 by omega] at this
      rw [if_pos (by omega), wrap_ok (by omega), show ((1 + nlc s i : Nat) : Int) + 1 = ((1 + (nlc s i + 1) : Nat) : Int) by omega]
      exact this
    · rw [if_neg e, if_neg e] at this
      rw [if_neg (by omega), wrap_ok (by omega), show ((i - bgn s i + 1 : Nat) : Int) + 1 = ((i + 1 - bgn s i + 1 : Nat) : Int) by omega]
      exact this
theorem skip_some {s : ByteArray} (hn : s.size ≤ 1048576) : ∀ (k p : Nat), p + k = s.size → ∃ v : Int, M.spec_l1Skip (s, (p : Int)) = some v := by
  intro k
  induction k using Nat.strongRecOn with
  | ind k ih =>
    intro p hk
    rcases Nat.eq_zero_or_pos k with k0 | k0
    · have : p = s.size := by omega
      subst this
      exact ⟨_, skip_end s⟩
    · rcases passed (s := s) (p := p) (by omega) hn with ⟨e1, e2⟩ | ⟨r, r0, r1, e1, e2, e3⟩
      · exact ⟨_, e2⟩
      · rw [e2]
        exact ih (k - r) (by omega) (p + r) (by omega)
theorem lexSame (s : ByteArray) (hn : s.size ≤ 1048576) : ∃ r, M.impl_Lex s = some r ∧ M.spec_Lex s = some r ∧ r.1.length ≤ 400 := by
  have hgr : grow = 549755813888 := rfl
  by_cases h : 1500 < s.size
  · refine ⟨([], false), ?_, ?_, by simp⟩
    · rw [M.impl_Lex, if_pos (by omega)]
    · obtain ⟨v, hv⟩ := skip_some hn s.size 0 (by omega)
      rw [M.spec_Lex]
      rw [show M.spec_l1Skip (s, 0) = some v from hv, bind_some', M.spec_Lex_L0]; dsimp only
      by_cases hv2 : v < ((s.size : Nat) : Int)
      · rw [if_pos hv2, if_neg (by omega), bind_some']; dsimp only
        rw [if_pos (by omega)]
      · rw [if_neg hv2, bind_some']; dsimp only
        rw [if_pos (by omega)]
  · have hb := bgn_le s s.size
    have hl := nlc_le s s.size
    have hI : M.impl_Lex s = (IL s [] 0 >>= fun s32 =>
      (match s32 with
      | .inl r33 => some r33
      | .inr v34 => (gd (v34.1.length + 1 ≤ grow) >>= fun u36 =>
      (if 400 < (((v34.1.length + 1) : Nat) : Int) then some ([], false) else
      some ((v34.1 ++ [(Tok.mk 6 (⟨⟨[]⟩⟩ : ByteArray) v34.2.1 (IntKind.i64.wrap ((IntKind.i64.wrap (v34.2.2.2 - v34.2.2.1)) + 1)))]), true))))) := by
      rw [M.impl_Lex, if_neg (by omega)]
      rfl
    have hS : M.spec_Lex s = (SL s [] 0 0 >>= fun s44 =>
      (match s44 with
      | .inl r45 => some r45
      | .inr v46 => (if 1500 < ((s.size : Nat) : Int) then some ([], false) else
      (if 400 ≤ ((v46.length : Nat) : Int) then some ([], false) else
      (M.spec_l1Place (s, ((s.size : Nat) : Int)) >>= fun r49 =>
      (gd (v46.length + 1 ≤ grow) >>= fun u51 =>
      some ((v46 ++ [(Tok.mk 6 (⟨⟨[]⟩⟩ : ByteArray) r49.1 r49.2)]), true))))))) := by
      obtain ⟨v, hv⟩ := skip_some hn s.size 0 (by omega)
      rw [M.spec_Lex]
      show _ = ((M.spec_l1Skip (s, (0 : Int)) >>= _) >>= _)
      rw [show M.spec_l1Skip (s, (0 : Int)) = some v from hv, bind_some', bind_some']
      rfl
    rw [hI, hS]
    rcases both (s := s) (by omega) s.size 0 0 [] (by omega) (Nat.le_refl _) (Nat.le_refl _) with ⟨e1, e2⟩ | ⟨out', e1, e2, e3, e4⟩
    · rw [e1, e2, bind_some', bind_some']
      exact ⟨_, rfl, rfl, by simp⟩
    · rw [e1, bind_some']; dsimp only
      rw [gd_t (by omega), bind_some']
      rcases e4 with e4 | ⟨e4, e5⟩
      · rw [e4, bind_some']; dsimp only
        rw [if_neg (show ¬ (1500 < ((s.size : Nat) : Int)) by omega)]
        by_cases h4 : 400 ≤ out'.length
        · rw [if_pos (by omega), if_pos (by omega)]
          exact ⟨_, rfl, rfl, by simp⟩
        · have hp := place (s := s) (by omega) s.size 0 (by omega)
          rw [if_neg (by omega), if_neg (by omega), M.spec_l1Place]; dsimp only
          rw [show M.spec_l1Place_L0 (s, ((s.size : Nat) : Int), 1, 1, 0) = _ from hp, bind_some', bind_some', gd_t (by omega), bind_some']
          refine ⟨_, rfl, ?_, by dsimp only; rw [List.length_append, List.length_singleton]; omega⟩
          rw [wrap_ok (a := ((s.size : Nat) : Int) - ((bgn s s.size : Nat) : Int)) (by omega), wrap_ok (by omega), show ((s.size - bgn s s.size + 1 : Nat) : Int) = ((s.size : Nat) : Int) - ((bgn s s.size : Nat) : Int) + 1 by omega]
      · rw [e4, bind_some', if_pos (by omega)]
        exact ⟨_, rfl, rfl, by simp⟩

end Q
end W
