import Derived.Test.YtnhdobhfebiggaaXLaw4
namespace W
open Go HL
set_option linter.unusedVariables false
set_option maxRecDepth 100000
set_option maxHeartbeats 4000000
namespace Q
theorem both {s : ByteArray} (hn : s.size ≤ 1500) : ∀ (k p last : Nat) (out : List Tok), p + k = s.size → last ≤ p → out.length ≤ p →
    (IL s out p = some (.inl ([], false)) ∧ SL s out last p = some (.inl ([], false))) ∨
    ∃ out', IL s out p = some (.inr (out', ((1 + nlc s s.size : Nat) : Int), ((bgn s s.size : Nat) : Int), ((s.size : Nat) : Int))) ∧ out.length ≤ out'.length ∧ out'.length ≤ s.size ∧
      (SL s out last p = some (.inr out') ∨ (SL s out last p = some (.inl ([], false)) ∧ 400 ≤ out'.length)) := by
  intro k
  induction k using Nat.strongRecOn with
  | ind k ih =>
    intro p last out hk hla ho
    rcases Nat.eq_zero_or_pos k with k0 | k0
    · have : p = s.size := by omega
      subst this
      refine .inr ⟨out, ?_, Nat.le_refl _, ho, .inl ?_⟩
      · show M.impl_Lex_L0 _ = _
        rw [M.impl_Lex_L0]; dsimp only
        rw [if_neg (by omega)]
      · show (M.spec_l1Skip _ >>= _) = _
        rw [skip_end, bind_some', M.spec_Lex_L0]; dsimp only
        rw [if_neg (by omega)]
    · rcases step_both (s := s) (p := p) (last := last) (by omega) hn hla out ho with ⟨r, r0, r1, e1, e2⟩ | ⟨e1, e2⟩ | ⟨len, t, l0, l1, e1, e2⟩
      · rw [e1, e2]
        exact ih (k - r) (by omega) (p + r) last out (by omega) (by omega) (by omega)
      · exact .inl ⟨e1, e2⟩
      · have := ih (k - len) (by omega) (p + len) p (out ++ [tkAt s p len t]) (by omega) (by omega) (by rw [List.length_append, List.length_singleton]; omega)
        rw [e1, e2]
        rw [List.length_append, List.length_singleton] at this
        by_cases h4 : 400 ≤ out.length
        · rw [if_pos h4]
          rcases this with ⟨a1, a2⟩ | ⟨out', a1, a2, a3, a4⟩
          · exact .inl ⟨a1, rfl⟩
          · exact .inr ⟨out', a1, by omega, a3, .inr ⟨rfl, by omega⟩⟩
        · rw [if_neg h4]
          rcases this with ⟨a1, a2⟩ | ⟨out', a1, a2, a3, a4⟩
          · exact .inl ⟨a1, a2⟩
          · exact .inr ⟨out', a1, by omega, a3, a4⟩
theorem place {s : ByteArray} (hn : s.size ≤ 1500) : ∀ (k i : Nat), i + k = s.size → M.spec_l1Place_L0 (s, ((s.size : Nat) : Int), ((1 + nlc s i : Nat) : Int), ((i - bgn s i + 1 : Nat) : Int), (i : Int)) = some (((1 + nlc s s.size : Nat) : Int), ((s.size - bgn s s.size + 1 : Nat) : Int)) := by
  intro k
  induction k with
  | zero =>
    intro i h
    have : i = s.size := by omega
    subst this
    rw [M.spec_l1Place_L0]; dsimp only
    rw [if_neg (by omega)]
  | succ k ih =>
    intro i h
    have hb := bgn_le s i
    have hl := nlc_le s i
    have w1 : IntKind.i64.wrap ((i : Int) + 1) = ((i + 1 : Nat) : Int) := by rw [wrap_ok (by omega)]; omega
    have := ih (i + 1) (by omega)
    rw [M.spec_l1Place_L0]; dsimp only
    rw [if_pos (by omega), bx_byt (by omega), bind_some', w1]
    rw [nlc, bgn] at this
    by_cases e : byt s i = 10
    · rw [if_pos e, if_pos e, show ((i + 1 - (i + 1) + 1 : Nat) : Int) = 1 by omega] at this
      rw [if_pos (by omega), wrap_ok (by omega), show ((1 + nlc s i : Nat) : Int) + 1 = ((1 + (nlc s i + 1) : Nat) : Int) by omega]
      exact this
    · rw [if_neg e, if_neg e] at this
      rw [if_neg (by omega), wrap_ok (by omega), show ((i - bgn s i + 1 : Nat) : Int) + 1 = ((i + 1 - bgn s i + 1 : Nat) : Int) by omega]
      exact this
theorem skip_some {s : ByteArray} (hn : s.size ≤ 1048576) : ∀ (k p : Nat), p + k = s.size → ∃ v : Int, M.spec_l1Skip (s, (p : Int)) = some v := by
  intro k
  induction k using Nat.strongRecOn with
  | ind k ih =>
    intro p hk
    rcases Nat.eq_zero_or_pos k with k0 | k0
    · have : p = s.size := by omega
      subst this
      exact ⟨_, skip_end s⟩
    · rcases passed (s := s) (p := p) (by omega) hn with ⟨e1, e2⟩ | ⟨r, r0, r1, e1, e2, e3⟩
      · exact ⟨_, e2⟩
      · rw [e2]
        exact ih (k - r) (by omega) (p + r) (by omega)
theorem lexSame (s : ByteArray) (hn : s.size ≤ 1048576) : ∃ r, M.impl_Lex s = some r ∧ M.spec_Lex s = some r ∧ r.1.length ≤ 400 := by
  have hgr : grow = 549755813888 := rfl
  by_cases h : 1500 < s.size
  · refine ⟨([], false), ?_, ?_, by simp⟩
    · rw [M.impl_Lex, if_pos (by omega)]
    · obtain ⟨v, hv⟩ := skip_some hn s.size 0 (by omega)
      rw [M.spec_Lex]
      rw [show M.spec_l1Skip (s, 0) = some v from hv, bind_some', M.spec_Lex_L0]; dsimp only
      by_cases hv2 : v < ((s.size : Nat) : Int)
      · rw [if_pos hv2, if_neg (by omega), bind_some']; dsimp only
        rw [if_pos (by omega)]
      · rw [if_neg hv2, bind_some']; dsimp only
        rw [if_pos (by omega)]
  · have hb := bgn_le s s.size
    have hl := nlc_le s s.size
    have hI : M.impl_Lex s = (IL s [] 0 >>= fun s32 =>
      (match s32 with
      | .inl r33 => some r33
      | .inr v34 => (gd (v34.1.length + 1 ≤ grow) >>= fun u36 =>
      (if 400 < (((v34.1.length + 1) : Nat) : Int) then some ([], false) else
      some ((v34.1 ++ [(Tok.mk 6 (⟨⟨[]⟩⟩ : ByteArray) v34.2.1 (IntKind.i64.wrap ((IntKind.i64.wrap (v34.2.2.2 - v34.2.2.1)) + 1)))]), true))))) := by
      rw [M.impl_Lex, if_neg (by omega)]
      rfl
    have hS : M.spec_Lex s = (SL s [] 0 0 >>= fun s44 =>
      (match s44 with
      | .inl r45 => some r45
      | .inr v46 => (if 1500 < ((s.size : Nat) : Int) then some ([], false) else
      (if 400 ≤ ((v46.length : Nat) : Int) then some ([], false) else
      (M.spec_l1Place (s, ((s.size : Nat) : Int)) >>= fun r49 =>
      (gd (v46.length + 1 ≤ grow) >>= fun u51 =>
      some ((v46 ++ [(Tok.mk 6 (⟨⟨[]⟩⟩ : ByteArray) r49.1 r49.2)]), true))))))) := by
      obtain ⟨v, hv⟩ := skip_some hn s.size 0 (by omega)
      rw [M.spec_Lex]
      show _ = ((M.spec_l1Skip (s, (0 : Int)) >>= _) >>= _)
      rw [show M.spec_l1Skip (s, (0 : Int)) = some v from hv, bind_some', bind_some']
      rfl
    rw [hI, hS]
    rcases both (s := s) (by omega) s.size 0 0 [] (by omega) (Nat.le_refl _) (Nat.le_refl _) with ⟨e1, e2⟩ | ⟨out', e1, e2, e3, e4⟩
    · rw [e1, e2, bind_some', bind_some']
      exact ⟨_, rfl, rfl, by simp⟩
    · rw [e1, bind_some']; dsimp only
      rw [gd_t (by omega), bind_some']
      rcases e4 with e4 | ⟨e4, e5⟩
      · rw [e4, bind_some']; dsimp only
        rw [if_neg (show ¬ (1500 < ((s.size : Nat) : Int)) by omega)]
        by_cases h4 : 400 ≤ out'.length
        · rw [if_pos (by omega), if_pos (by omega)]
          exact ⟨_, rfl, rfl, by simp⟩
        · have hp := place (s := s) (by omega) s.size 0 (by omega)
          rw [if_neg (by omega), if_neg (by omega), M.spec_l1Place]; dsimp only
          rw [show M.spec_l1Place_L0 (s, ((s.size : Nat) : Int), 1, 1, 0) = _ from hp, bind_some', bind_some', gd_t (by omega), bind_some']
          refine ⟨_, rfl, ?_, by dsimp only; rw [List.length_append, List.length_singleton]; omega⟩
          rw [wrap_ok (a := ((s.size : Nat) : Int) - ((bgn s s.size : Nat) : Int)) (by omega), wrap_ok (by omega), show ((s.size - bgn s s.size + 1 : Nat) : Int) = ((s.size : Nat) : Int) - ((bgn s s.size : Nat) : Int) + 1 by omega]
      · rw [e4, bind_some', if_pos (by omega)]
        exact ⟨_, rfl, rfl, by simp⟩

/-! marks -/
theorem markLoop : ∀ (k n : Nat) (acc : ByteArray), n < 10 ^ k → n < 9223372036854775808 → k + acc.size ≤ 100 → ∃ t, M.laws_markText_L0 ((n : Int), acc) = some t ∧ t.size ≤ acc.size + k := by
  intro k
  induction k with
  | zero =>
    intro n acc h _ _
    have : n = 0 := by simpa using h
    subst this
    rw [M.laws_markText_L0]; dsimp only
    rw [if_neg (by omega)]
    exact ⟨_, rfl, by omega⟩
  | succ k ih =>
    intro n acc h hn ha
    have hlim : lim = 140737488355328 := rfl
    rw [M.laws_markText_L0]; dsimp only
    by_cases h0 : 0 < (n : Int)
    · have hd : Int.tdiv (n : Int) 10 = ((n / 10 : Nat) : Int) := by
        rw [Int.tdiv_eq_ediv_of_nonneg (by omega)]; rfl
      have hp : 10 ^ (k + 1) = 10 ^ k * 10 := by rw [Nat.pow_succ]
      have h10 : n / 10 < 10 ^ k := by omega
      have hb : ∀ x, (bsOf [x]).size = 1 := fun x => bsOf_size [x]
      rw [if_pos h0, hb, gd_t (by omega), bind_some', hd, wrap_ok (by omega)]
      obtain ⟨t, e1, e2⟩ := ih (n / 10) (bsOf [IntKind.u8.wrap (IntKind.i64.wrap (48 + Int.tmod (n : Int) 10))] ++ acc) h10 (by omega) (by rw [ByteArray.size_append, hb]; omega)
      rw [ByteArray.size_append, hb] at e2
      exact ⟨t, e1, by omega⟩
    · rw [if_neg h0]
      exact ⟨_, rfl, by omega⟩
theorem markText_some (n : Nat) (h0 : 0 < n) (hn : n < 1000000000) : ∃ t, M.laws_markText (n : Int) = some t := by
  have hlim : lim = 140737488355328 := rfl
  obtain ⟨t, e1, e2⟩ := markLoop 9 n (⟨⟨[]⟩⟩ : ByteArray) (by simpa using hn) (by omega) (by decide)
  rw [M.laws_markText, if_neg (by omega), e1, bind_some']
  have z : (⟨⟨[]⟩⟩ : ByteArray).size = 0 := rfl
  have z1 : (⟨⟨[109]⟩⟩ : ByteArray).size = 1 := rfl
  rw [gd_t (by omega), bind_some']
  exact ⟨_, rfl⟩
noncomputable def mt (n : Nat) : ByteArray := (M.laws_markText (n : Int)).getD (⟨⟨[]⟩⟩ : ByteArray)
theorem mt_eq {n : Nat} {z : Int} (hz : z = (n : Int)) (h0 : 0 < n) (hn : n < 1000000000) : M.laws_markText z = some (mt n) := by
  subst hz
  obtain ⟨t, e⟩ := markText_some n h0 hn
  unfold mt
  rw [e]; rfl
noncomputable def mkT (i : Nat) : Tok := Tok.mk ((1 + 4 * i : Nat) : Int) (mt (2 + 4 * i)) ((3 + 4 * i : Nat) : Int) ((4 + 4 * i : Nat) : Int)
noncomputable def marks : Nat → Nat → List Tok
  | _, 0 => []
  | k, n + 1 => mkT k :: marks (k + 1) n
theorem marks_length : ∀ n k, (marks k n).length = n
  | 0, _ => rfl
  | n + 1, k => by rw [marks, List.length_cons, marks_length n]
theorem ix_mid {α : Type} {pre l : List α} {x : α} {i : Int} (hi : i = ((pre.length : Nat) : Int)) : ix (pre ++ x :: l) i = some x := by
  subst hi
  exact ix_of (by simp)
theorem set_mid {α : Type} {pre l : List α} {x y : α} {i : Nat} (hi : i = pre.length) : (pre ++ x :: l).set i y = pre ++ y :: l := by
  subst hi
  rw [List.set_append_right _ _ (Nat.le_refl _)]
  simp
theorem mark_all : ∀ (l pre : List Tok), pre.length + l.length ≤ 400 → M.laws_markTokS_p_L0 (((1 + 4 * pre.length : Nat) : Int), ((pre.length : Nat) : Int), pre ++ l) = some (((1 + 4 * (pre.length + l.length) : Nat) : Int), pre ++ marks pre.length l.length) := by
  intro l
  induction l with
  | nil =>
    intro pre h
    rw [M.laws_markTokS_p_L0]; dsimp only
    rw [if_neg (by rw [List.append_nil]; omega)]
    rfl
  | cons x l ih =>
    intro pre h
    rw [List.length_cons] at h
    have w1 : IntKind.i64.wrap (((1 + 4 * pre.length : Nat) : Int) + 1) = ((2 + 4 * pre.length : Nat) : Int) := by rw [wrap_ok (by omega)]; omega
    have w2 : IntKind.i64.wrap (((2 + 4 * pre.length : Nat) : Int) + 1) = ((3 + 4 * pre.length : Nat) : Int) := by rw [wrap_ok (by omega)]; omega
    have w3 : IntKind.i64.wrap (((3 + 4 * pre.length : Nat) : Int) + 1) = ((4 + 4 * pre.length : Nat) : Int) := by rw [wrap_ok (by omega)]; omega
    have w4 : IntKind.i64.wrap (((4 + 4 * pre.length : Nat) : Int) + 1) = ((1 + 4 * (pre.length + 1) : Nat) : Int) := by rw [wrap_ok (by omega)]; omega
    have wi : IntKind.i64.wrap (((pre.length : Nat) : Int) + 1) = ((pre.length + 1 : Nat) : Int) := by rw [wrap_ok (by omega)]; omega
    have t0 : ((pre.length : Nat) : Int).toNat = pre.length := by omega
    rw [M.laws_markTokS_p_L0]; dsimp only
    rw [if_pos (by rw [List.length_append, List.length_cons]; omega), ix_mid rfl, bind_some', w1, w2, w3, w4, wi, mt_eq (n := 2 + 4 * pre.length) rfl (by omega) (by omega), bind_some', t0]
    rw [set_mid rfl, ix_mid rfl, bind_some']; dsimp only
    rw [set_mid rfl, ix_mid rfl, bind_some']; dsimp only
    rw [set_mid rfl, ix_mid rfl, bind_some']; dsimp only
    rw [set_mid rfl]
    have := ih (pre ++ [mkT pre.length]) (by rw [List.length_append, List.length_singleton]; omega)
    rw [List.length_append, List.length_singleton, List.append_assoc, List.append_assoc] at this
    rw [List.length_cons, marks, show pre.length + (l.length + 1) = pre.length + 1 + l.length by omega]
    exact this
theorem held_all : ∀ (n : Nat) (pre : List Tok), pre.length + n ≤ 400 → M.laws_heldTokS_p_L0 (pre ++ marks pre.length n, ((1 + 4 * pre.length : Nat) : Int), ((pre.length : Nat) : Int)) = some (.inr ((1 + 4 * (pre.length + n) : Nat) : Int)) := by
  intro n
  induction n with
  | zero =>
    intro pre h
    rw [M.laws_heldTokS_p_L0]; dsimp only
    rw [if_neg (by rw [marks, List.append_nil]; omega)]
    rfl
  | succ n ih =>
    intro pre h
    have w1 : IntKind.i64.wrap (((1 + 4 * pre.length : Nat) : Int) + 1) = ((2 + 4 * pre.length : Nat) : Int) := by rw [wrap_ok (by omega)]; omega
    have w2 : IntKind.i64.wrap (((2 + 4 * pre.length : Nat) : Int) + 1) = ((3 + 4 * pre.length : Nat) : Int) := by rw [wrap_ok (by omega)]; omega
    have w3 : IntKind.i64.wrap (((3 + 4 * pre.length : Nat) : Int) + 1) = ((4 + 4 * pre.length : Nat) : Int) := by rw [wrap_ok (by omega)]; omega
    have w4 : IntKind.i64.wrap (((4 + 4 * pre.length : Nat) : Int) + 1) = ((1 + 4 * (pre.length + 1) : Nat) : Int) := by rw [wrap_ok (by omega)]; omega
    have wi : IntKind.i64.wrap (((pre.length : Nat) : Int) + 1) = ((pre.length + 1 : Nat) : Int) := by rw [wrap_ok (by omega)]; omega
    rw [M.laws_heldTokS_p_L0]; dsimp only
    rw [marks]
    rw [if_pos (by rw [List.length_append, List.length_cons]; omega), ix_mid rfl, bind_some', w1, w2, w3, w4, wi, mt_eq (n := 2 + 4 * pre.length) rfl (by omega) (by omega)]
    rw [if_pos (show (mkT pre.length).K = ((1 + 4 * pre.length : Nat) : Int) from rfl), bind_some', if_pos (show (mkT pre.length).S = mt (2 + 4 * pre.length) from rfl), if_pos (show (mkT pre.length).Line = ((3 + 4 * pre.length : Nat) : Int) from rfl), if_pos (show (mkT pre.length).Col = ((4 + 4 * pre.length : Nat) : Int) from rfl)]
    have := ih (pre ++ [mkT pre.length]) (by rw [List.length_append, List.length_singleton]; omega)
    rw [List.length_append, List.length_singleton, List.append_assoc] at this
    rw [show pre.length + (n + 1) = pre.length + 1 + n by omega]
    exact this
theorem eqTok (a : Tok) : M.laws_eqTok (a, a) = some true := by
  rw [M.laws_eqTok, if_pos rfl, if_pos rfl, if_pos rfl, if_pos rfl]
theorem eqToks (l : List Tok) (hl : l.length ≤ 400) : M.laws_eqTokS_p (l, l) = some (true, l) := by
  have hlim : lim = 140737488355328 := rfl
  rw [M.laws_eqTokS_p]; dsimp only
  rw [if_pos rfl]
  have h : M.laws_eqTokS_p_L0 (l, l, 0) = _ := idxLoop (β := Unit) (l := l) (by omega) (L := fun _ i => M.laws_eqTokS_p_L0 (l, l, i)) (fun _ _ => .inr ()) (fun _ => .inr ()) (fun b i x hx hi hw => by
    show M.laws_eqTokS_p_L0 (l, l, i) = _
    rw [M.laws_eqTokS_p_L0]; dsimp only
    rw [if_pos (by omega), ix_of hx, bind_some', bind_some', eqTok, bind_some', if_pos rfl, hw]) (fun _ => by
    show M.laws_eqTokS_p_L0 (l, l, _) = _
    rw [M.laws_eqTokS_p_L0]; dsimp only
    rw [if_neg (by omega)]) ()
  have hf : ∀ (l : List Tok), foldS (fun (_ : Unit) (_ : Tok) => (.inr () : Sum (Sum (Bool × List Tok) Unit) Unit)) (fun _ => .inr ()) l () = .inr () := by
    intro l
    induction l with
    | nil => rfl
    | cons x l ih => exact ih
  rw [h, hf, bind_some']
theorem lawLex (s : ByteArray) (hs : s.size ≤ lim) : M.laws_FnExactLex s = some true := by
  rw [M.laws_FnExactLex]
  by_cases hn : 1048576 < s.size
  · rw [if_pos (by omega)]
  obtain ⟨r, e1, e2, e3⟩ := lexSame s (by omega)
  have hm : M.laws_markTokS_p (r.1, 1) = some (((1 + 4 * r.1.length : Nat) : Int), marks 0 r.1.length) := by
    have := mark_all r.1 [] (by rw [List.length_nil]; omega)
    rw [List.length_nil, Nat.zero_add] at this
    rw [M.laws_markTokS_p]; dsimp only
    rw [show M.laws_markTokS_p_L0 (1, 0, r.1) = _ from this, bind_some']
    rfl
  have hh : M.laws_heldTokS_p (marks 0 r.1.length, 1) = some (((1 + 4 * r.1.length : Nat) : Int), marks 0 r.1.length) := by
    have := held_all r.1.length [] (by rw [List.length_nil]; omega)
    rw [List.length_nil, Nat.zero_add] at this
    rw [M.laws_heldTokS_p]; dsimp only
    rw [show M.laws_heldTokS_p_L0 (marks 0 r.1.length, 1, 0) = _ from this, bind_some']
  rw [if_neg (by omega), e2, bind_some', e1, bind_some', eqToks _ e3, bind_some', gd_t rfl, bind_some', if_pos rfl, if_pos (by simp), hm, bind_some', gd_t (marks_length _ _), bind_some', hh, bind_some', gd_t (marks_length _ _), bind_some', if_neg (by omega), if_pos rfl, bind_some', eqToks _ e3, bind_some', gd_t rfl, bind_some', if_pos rfl, if_pos (by simp), hh, bind_some', gd_t (marks_length _ _), bind_some', if_neg (by omega), if_pos rfl]
end Q
end W
