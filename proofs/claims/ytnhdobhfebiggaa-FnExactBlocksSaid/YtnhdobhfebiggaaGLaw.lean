import Derived.Test.YtnhdobhfebiggaaGFam
namespace W
set_option linter.unusedSimpArgs false
set_option linter.unusedVariables false
open Go HL
set_option linter.unusedVariables false
set_option maxRecDepth 100000
set_option maxHeartbeats 4000000
namespace Q
open Classical in
noncomputable def brace (t : Tok) : Bool := decide (t.K = 5 ∧ t.S = (⟨⟨[123]⟩⟩ : ByteArray) ∧ t.Line = 0)
theorem isBrace (t : Tok) : M.impl_Blocks_1 t = some (!brace t) := by
  rw [M.impl_Blocks_1, M.impl_isMark]; try dsimp only
  unfold brace
  by_cases h1 : t.K = 5
  · by_cases h2 : t.S = (⟨⟨[123]⟩⟩ : ByteArray)
    · rw [if_pos h1, bind_some', if_pos (decide_eq_true h2)]
      simp [h1, h2]
    · rw [if_pos h1, bind_some', if_neg (by simpa using h2)]
      simp [h2]
  · rw [if_neg h1, bind_some', if_neg (by simp)]
    simp [h1]
theorem specIs (t : Tok) : (M.spec_l2Is (t, 5, (⟨⟨[123]⟩⟩ : ByteArray))) = some (decide (t.K = 5 ∧ t.S = (⟨⟨[123]⟩⟩ : ByteArray))) := by
  rw [M.spec_l2Is]; try dsimp only
  by_cases h1 : t.K = 5
  · rw [if_pos h1]; simp [h1]
  · rw [if_neg h1]; simp [h1]
theorem specLoop {l : List Tok} (hl : l.length ≤ 1048576) : ∀ (n i c : Nat), i + n = l.length → c ≤ i → M.spec_Blocks_L0 (l, (c : Int), (i : Int)) = some ((c + (l.drop i).countP brace : Nat) : Int) := by
  intro n
  induction n with
  | zero =>
    intro i c h hc
    rw [M.spec_Blocks_L0]; dsimp only
    rw [if_neg (by omega), List.drop_of_length_le (by omega)]
    rfl
  | succ n ih =>
    intro i c h hc
    have hi : i < l.length := by omega
    have w1 : IntKind.i64.wrap ((i : Int) + 1) = ((i + 1 : Nat) : Int) := by rw [wrap_ok (by omega)]; omega
    have w2 : IntKind.i64.wrap ((c : Int) + 1) = ((c + 1 : Nat) : Int) := by rw [wrap_ok (by omega)]; omega
    rw [M.spec_Blocks_L0]; dsimp only
    rw [if_pos (by omega), ix_of (List.getElem?_eq_getElem hi), bind_some', specIs, bind_some', w1, w2, List.drop_eq_getElem_cons hi, List.countP_cons, ih (i + 1) c (by omega) (by omega), ih (i + 1) (c + 1) (by omega) (by omega)]
    unfold brace
    by_cases h1 : l[i].K = 5 ∧ l[i].S = (⟨⟨[123]⟩⟩ : ByteArray)
    · rw [if_pos (decide_eq_true h1)]
      by_cases h2 : l[i].Line = 0
      · rw [if_pos h2, if_pos (decide_eq_true ⟨h1.1, h1.2, h2⟩)]
        congr 2; omega
      · rw [if_neg h2, if_neg (by simp; intro _ _; exact h2)]
        rfl
    · rw [if_neg (by simpa using h1), if_neg (by simp only [decide_eq_true_eq]; exact fun h => h1 ⟨h.1, h.2.1⟩)]
      rfl
theorem idxLoop2 {l : List Tok} (hl : l.length ≤ 1048576) : ∀ (n i : Nat), i + n = l.length → (∀ (m : Nat) t, m < i → l[m]? = some t → brace t = true) →
    (M.slices_IndexFunc_impl_Tok_at_Blocks_1_L0 (l, (i : Int)) = some (.inr ()) ∧ ∀ t ∈ l, brace t = true) ∨
    ∃ (j : Nat) (t : Tok), M.slices_IndexFunc_impl_Tok_at_Blocks_1_L0 (l, (i : Int)) = some (.inl ((j : Int), l)) ∧ l[j]? = some t ∧ brace t = false ∧ (∀ (m : Nat) t, m < j → l[m]? = some t → brace t = true) := by
  intro n
  induction n with
  | zero =>
    intro i h hb
    left
    constructor
    · rw [M.slices_IndexFunc_impl_Tok_at_Blocks_1_L0]; dsimp only
      rw [if_neg (by omega)]
    · intro t ht
      obtain ⟨m, hm⟩ := List.getElem?_of_mem ht
      exact hb m t (by have := (List.getElem?_eq_some_iff.1 hm).1; omega) hm
  | succ n ih =>
    intro i h hb
    have hi : i < l.length := by omega
    have w1 : IntKind.i64.wrap ((i : Int) + 1) = ((i + 1 : Nat) : Int) := by rw [wrap_ok (by omega)]; omega
    have hx := List.getElem?_eq_getElem hi
    have e : M.slices_IndexFunc_impl_Tok_at_Blocks_1_L0 (l, (i : Int)) = if (!brace l[i]) = true then some (.inl ((i : Int), l)) else M.slices_IndexFunc_impl_Tok_at_Blocks_1_L0 (l, ((i + 1 : Nat) : Int)) := by
      rw [M.slices_IndexFunc_impl_Tok_at_Blocks_1_L0]; dsimp only
      rw [if_pos (by omega), ix_of hx, bind_some', isBrace, bind_some', w1]
    rw [e]
    cases hq : brace l[i] with
    | false =>
      rw [if_pos (by simp)]
      exact .inr ⟨i, l[i], rfl, hx, hq, hb⟩
    | true =>
      rw [if_neg (by simp)]
      refine ih (i + 1) (by omega) fun m t hm ht => ?_
      by_cases e : m = i
      · subst e
        rw [hx] at ht
        cases ht
        exact hq
      · exact hb m t (by omega) ht
theorem delLoop : ∀ (n j i : Nat) (l : List Tok), j + n = l.length → l.length ≤ 1048576 → i < j → ∃ l', M.slices_DeleteFunc_impl_Tok_at_Blocks_1_L0 ((i : Int), (j : Int), l) = some (((i + (l.drop j).countP brace : Nat) : Int), l') ∧ l'.length = l.length := by
  intro n
  induction n with
  | zero =>
    intro j i l h hl hij
    rw [M.slices_DeleteFunc_impl_Tok_at_Blocks_1_L0]; dsimp only
    rw [if_neg (by omega), List.drop_of_length_le (by omega)]
    exact ⟨l, rfl, rfl⟩
  | succ n ih =>
    intro j i l h hl hij
    have hj : j < l.length := by omega
    have w1 : IntKind.i64.wrap ((j : Int) + 1) = ((j + 1 : Nat) : Int) := by rw [wrap_ok (by omega)]; omega
    have w2 : IntKind.i64.wrap ((i : Int) + 1) = ((i + 1 : Nat) : Int) := by rw [wrap_ok (by omega)]; omega
    have t0 : (i : Int).toNat = i := by omega
    have hx := List.getElem?_eq_getElem hj
    rw [M.slices_DeleteFunc_impl_Tok_at_Blocks_1_L0]; dsimp only
    rw [if_pos (by omega), ix_of hx, bind_some', isBrace, bind_some', w1, w2, t0, List.drop_eq_getElem_cons hj, List.countP_cons]
    cases hq : brace l[j] with
    | false =>
      rw [if_pos (by simp)]
      obtain ⟨l', h1, h2⟩ := ih (j + 1) i l (by omega) hl (by omega)
      exact ⟨l', by rw [h1]; simp, h2⟩
    | true =>
      rw [if_neg (by simp), gd_t (by omega), bind_some', gd_t (by omega), bind_some']
      obtain ⟨l', h1, h2⟩ := ih (j + 1) (i + 1) (l.set i l[j]) (by simp; omega) (by simpa using hl) (by omega)
      refine ⟨l', ?_, by simpa using h2⟩
      rw [h1, List.drop_set_of_lt (by omega)]
      simp only [if_true]
      congr 3
      omega
theorem countP_all {l : List Tok} (h : ∀ t ∈ l, brace t = true) : l.countP brace = l.length := List.countP_eq_length.2 h
theorem implBlocks (l : List Tok) (hl : l.length ≤ 1048576) : M.impl_Blocks l = some ((l.countP brace : Nat) : Int) := by
  have hgr : grow = 549755813888 := rfl
  have hc : M.slices_Clone_impl_Tok l = some l := by
    rw [M.slices_Clone_impl_Tok]
    by_cases h : l = []
    · rw [if_pos h, h]
    · rw [if_neg h, gd_t (by omega), bind_some']
  rw [M.impl_Blocks, hc, bind_some', M.slices_DeleteFunc_impl_Tok_at_Blocks_1, M.slices_IndexFunc_impl_Tok_at_Blocks_1]
  rcases idxLoop2 hl l.length 0 (by omega) (fun m t hm => by omega) with ⟨h1, h2⟩ | ⟨j, t, h1, h2, h3, h4⟩
  · rw [show M.slices_IndexFunc_impl_Tok_at_Blocks_1_L0 (l, 0) = _ from h1, bind_some']; dsimp only
    rw [bind_some', gd_t rfl, bind_some', if_pos rfl, bind_some', countP_all h2]
  · have hj := (List.getElem?_eq_some_iff.1 h2).1
    have hjt := (List.getElem?_eq_some_iff.1 h2).2
    have w1 : IntKind.i64.wrap ((j : Int) + 1) = ((j + 1 : Nat) : Int) := by rw [wrap_ok (by omega)]; omega
    obtain ⟨l', e1, e2⟩ := delLoop (l.length - (j + 1)) (j + 1) j l (by omega) hl (by omega)
    have hle : (l.drop (j + 1)).countP brace ≤ l.length - (j + 1) := by
      have := List.countP_le_length (p := brace) (l := l.drop (j + 1))
      rwa [List.length_drop] at this
    have hcnt : l.countP brace = j + (l.drop (j + 1)).countP brace := by
      have hs : l = l.take j ++ l.drop j := (List.take_append_drop j l).symm
      have hall : ∀ t ∈ l.take j, brace t = true := by
        intro t ht
        obtain ⟨m, hm⟩ := List.getElem?_of_mem ht
        have hmj := (List.getElem?_eq_some_iff.1 hm).1
        rw [List.length_take] at hmj
        rw [List.getElem?_take_of_lt (by omega)] at hm
        exact h4 m t (by omega) hm
      have h5 := countP_all hall
      rw [List.length_take] at h5
      conv => lhs; rw [hs]
      rw [List.countP_append, h5, List.drop_eq_getElem_cons hj, List.countP_cons, hjt, h3]
      simp
      omega
    rw [show M.slices_IndexFunc_impl_Tok_at_Blocks_1_L0 (l, 0) = _ from h1, bind_some']; dsimp only
    rw [bind_some', gd_t rfl, bind_some', if_neg (by omega), w1, e1, bind_some', gd_t (by omega), bind_some', gd_t (by dsimp only; omega), bind_some', bind_some']
    congr 1
    rw [hcnt]
    dsimp only
    rw [List.length_take, List.length_append, List.length_take, List.length_replicate]
    omega
theorem lawBlocks (l : List Tok) (hl : l.length ≤ lim) (hs : ∀ x ∈ l, x.small) : M.laws_FnExactBlocks l = some true := by
  have hlim : lim = 140737488355328 := rfl
  rw [M.laws_FnExactBlocks, szTokS_of l hl (fun x hx left h0 h1 => szTok x (hs x hx) left h0 h1) 1048576 (by omega) (by omega), bind_some']
  by_cases h1 : ((l.length + sumC Tok.cost l : Nat) : Int) ≤ 1048576
  rotate_left
  · rw [rest_neg h1, if_pos (by omega)]
  rw [rest_pos h1, if_neg (by omega)]
  have hc : ∀ x ∈ l, x.cost ≤ 1048576 := fun x hx => by have := sumC_mem (c := Tok.cost) hx; omega
  have ht : M.laws_toTokS l = some l := toTokS_of l (by omega) (fun x hx => toTok x (hc x hx))
  have hsp := specLoop (l := l) (by omega) l.length 0 0 (by omega) (Nat.le_refl _)
  rw [ht, bind_some', M.spec_Blocks]
  rw [show M.spec_Blocks_L0 (l, 0, 0) = _ from hsp, bind_some', bind_some', bind_some', implBlocks l (by omega), bind_some', if_pos (by simp), bind_some', eqTokS_of l l hl (fun x hx y => eqTok x (hs x hx) y), bind_some', if_pos (by simp)]
end Q
end W
