import Derived.Test.YtnhdobhfebiggaaLLaw6
namespace W
open Go HL
set_option linter.unusedVariables false
set_option maxRecDepth 100000
set_option maxHeartbeats 4000000
namespace Q
/-! what the program reads, in order -/
def Seq (s : ByteArray) : Nat → List Tok → Prop
  | _, [] => True
  | p, t :: r => ∃ p' len k, p ≤ p' ∧ 0 < len ∧ p' + len ≤ s.size ∧ t = tkAt s p' len k ∧ Good k t.S ∧ Seq s (p' + len) r
theorem Seq.weak {s : ByteArray} {p q : Nat} (h : p ≤ q) : ∀ {l : List Tok}, Seq s q l → Seq s p l
  | [], _ => trivial
  | t :: r, ⟨p', len, k, h1, h2⟩ => ⟨p', len, k, Nat.le_trans h h1, h2⟩
theorem stepI {s : ByteArray} {p : Nat} (hp : p < s.size) (hn : s.size ≤ 1500) (out : List Tok) (ho : out.length ≤ p) :
    (∃ r : Nat, 0 < r ∧ p + r ≤ s.size ∧ IL s out p = IL s out (p + r)) ∨ IL s out p = some (.inl ([], false)) ∨
    ∃ (len : Nat) (k : Int), 0 < len ∧ p + len ≤ s.size ∧ IL s out p = IL s (out ++ [tkAt s p len k]) (p + len) ∧ Good k (s.extract p (p + len)) := by
  rcases passed hp (by omega) with ⟨e1, e2⟩ | ⟨r, r0, r1, e1, e2, e3⟩
  · right
    have hst := step_both hp hn (Nat.le_refl p) out ho
    rcases tk hp (by omega) with ⟨t, len, k1, k2⟩ | ⟨len, k, k0, l0, l1, l2, k1, k2⟩
    · left
      have hI : IL s out p = (M.impl_nextTok (rest_ s p) >>= fun r28 => (if r28.2 = true then (gd (out.length + 1 ≤ grow) >>= fun u31 =>
          M.impl_Lex_L0 (s, (out ++ [(Tok.mk r28.1.K r28.1.S ((1 + nlc s p : Nat) : Int) (IntKind.i64.wrap ((IntKind.i64.wrap ((p : Int) - ((bgn s p : Nat) : Int))) + 1)))]), ((1 + nlc s p : Nat) : Int), ((bgn s p : Nat) : Int), (IntKind.i64.wrap ((p : Int) + ((r28.1.S.size : Nat) : Int))))) else
          some (.inl ([], false)))) := by
        show M.impl_Lex_L0 (s, out, ((1 + nlc s p : Nat) : Int), ((bgn s p : Nat) : Int), (p : Int)) = _
        rw [M.impl_Lex_L0]; dsimp only
        have ee : s.extract (p : Int).toNat s.size = rest_ s p := rfl
        rw [if_pos (by omega), gd_t (by omega), bind_some', gd_t (by omega), bind_some', gd_t (by omega), bind_some', ee, e1, bind_some', if_neg (by omega)]
      rw [hI, k1, bind_some', if_neg (by simp)]
    · right
      refine ⟨len, k, l0, l1, ?_, good_of hp (by omega) l0 l1 k1 e1⟩
      have hgr : grow = 549755813888 := rfl
      have hb := bgn_le s p
      have hl := nlc_le s p
      obtain ⟨s1, s2⟩ := same_line len l2
      have hsz : (s.extract p (p + len)).size = len := by rw [ext_size]; omega
      have w1 : IntKind.i64.wrap ((p : Int) + (len : Int)) = ((p + len : Nat) : Int) := by rw [wrap_ok (by omega)]; omega
      show M.impl_Lex_L0 (s, out, ((1 + nlc s p : Nat) : Int), ((bgn s p : Nat) : Int), (p : Int)) = M.impl_Lex_L0 (s, out ++ [tkAt s p len k], ((1 + nlc s (p + len) : Nat) : Int), ((bgn s (p + len) : Nat) : Int), ((p + len : Nat) : Int))
      rw [s1, s2, M.impl_Lex_L0]; dsimp only
      have ee : s.extract (p : Int).toNat s.size = rest_ s p := rfl
      rw [if_pos (by omega), gd_t (by omega), bind_some', gd_t (by omega), bind_some', gd_t (by omega), bind_some', ee, e1, bind_some', if_neg (by omega), k1, bind_some']; dsimp only
      rw [if_pos rfl, gd_t (by omega), bind_some', hsz, w1]
      rfl
  · left
    refine ⟨r, r0, r1, ?_⟩
    rcases step_both hp hn (Nat.le_refl p) out ho with ⟨r', q0, q1, q2, _⟩ | h
    · have hl := nlc_le s p
      have hb := bgn_le s p
      show M.impl_Lex_L0 (s, out, ((1 + nlc s p : Nat) : Int), ((bgn s p : Nat) : Int), (p : Int)) = M.impl_Lex_L0 (s, out, ((1 + nlc s (p + r) : Nat) : Int), ((bgn s (p + r) : Nat) : Int), ((p + r : Nat) : Int))
      rw [M.impl_Lex_L0]; dsimp only
      have ee : s.extract (p : Int).toNat s.size = rest_ s p := rfl
      have w1 : IntKind.i64.wrap ((p : Int) + (r : Int)) = ((p + r : Nat) : Int) := by rw [wrap_ok (by omega)]; omega
      rw [if_pos (by omega), gd_t (by omega), bind_some', gd_t (by omega), bind_some', gd_t (by omega), bind_some', ee, e1, bind_some', if_pos (by omega), bx_byt hp, bind_some', w1]
      rcases e3 with ⟨e4, rfl⟩ | e4
      · rw [if_pos (by omega), nlc, bgn, if_pos e4, if_pos e4, wrap_ok (by omega), wrap_ok (by omega), show ((1 + nlc s p : Nat) : Int) + 1 = ((1 + (nlc s p + 1) : Nat) : Int) by omega, show (p : Int) + 1 = ((p + 1 : Nat) : Int) by omega]
      · have := e4 p (by omega) (by omega)
        obtain ⟨s1, s2⟩ := same_line r e4
        rw [if_neg (by omega), s1, s2]
    · have hl := nlc_le s p
      have hb := bgn_le s p
      show M.impl_Lex_L0 (s, out, ((1 + nlc s p : Nat) : Int), ((bgn s p : Nat) : Int), (p : Int)) = M.impl_Lex_L0 (s, out, ((1 + nlc s (p + r) : Nat) : Int), ((bgn s (p + r) : Nat) : Int), ((p + r : Nat) : Int))
      rw [M.impl_Lex_L0]; dsimp only
      have ee : s.extract (p : Int).toNat s.size = rest_ s p := rfl
      have w1 : IntKind.i64.wrap ((p : Int) + (r : Int)) = ((p + r : Nat) : Int) := by rw [wrap_ok (by omega)]; omega
      rw [if_pos (by omega), gd_t (by omega), bind_some', gd_t (by omega), bind_some', gd_t (by omega), bind_some', ee, e1, bind_some', if_pos (by omega), bx_byt hp, bind_some', w1]
      rcases e3 with ⟨e4, rfl⟩ | e4
      · rw [if_pos (by omega), nlc, bgn, if_pos e4, if_pos e4, wrap_ok (by omega), wrap_ok (by omega), show ((1 + nlc s p : Nat) : Int) + 1 = ((1 + (nlc s p + 1) : Nat) : Int) by omega, show (p : Int) + 1 = ((p + 1 : Nat) : Int) by omega]
      · have := e4 p (by omega) (by omega)
        obtain ⟨s1, s2⟩ := same_line r e4
        rw [if_neg (by omega), s1, s2]
def endAt (s : ByteArray) : Tok := Tok.mk 6 (⟨⟨[]⟩⟩ : ByteArray) ((1 + nlc s s.size : Nat) : Int) (IntKind.i64.wrap ((IntKind.i64.wrap (((s.size : Nat) : Int) - ((bgn s s.size : Nat) : Int))) + 1))
theorem shapeL {s : ByteArray} (hn : s.size ≤ 1500) : ∀ (k p : Nat) (out : List Tok), p + k = s.size → out.length ≤ p →
    IL s out p = some (.inl ([], false)) ∨ ∃ new, IL s out p = some (.inr (out ++ new, ((1 + nlc s s.size : Nat) : Int), ((bgn s s.size : Nat) : Int), ((s.size : Nat) : Int))) ∧ Seq s p new := by
  intro k
  induction k using Nat.strongRecOn with
  | ind k ih =>
    intro p out hk ho
    rcases Nat.eq_zero_or_pos k with k0 | k0
    · have : p = s.size := by omega
      subst this
      refine .inr ⟨[], ?_, trivial⟩
      show M.impl_Lex_L0 _ = _
      rw [M.impl_Lex_L0]; dsimp only
      rw [if_neg (by omega), List.append_nil]
    · rcases stepI (s := s) (p := p) (by omega) hn out ho with ⟨r, r0, r1, e1⟩ | e1 | ⟨len, t, l0, l1, e1, g⟩
      · rw [e1]
        rcases ih (k - r) (by omega) (p + r) out (by omega) (by omega) with h | ⟨new, h1, h2⟩
        · exact .inl h
        · exact .inr ⟨new, h1, h2.weak (by omega)⟩
      · exact .inl e1
      · rw [e1]
        rcases ih (k - len) (by omega) (p + len) (out ++ [tkAt s p len t]) (by omega) (by rw [List.length_append, List.length_singleton]; omega) with h | ⟨new, h1, h2⟩
        · exact .inl h
        · refine .inr ⟨tkAt s p len t :: new, ?_, p, len, t, Nat.le_refl _, l0, l1, rfl, g, h2⟩
          rw [h1, List.append_assoc]
          rfl
theorem shape (s : ByteArray) : M.impl_Lex s = some ([], false) ∨ (s.size ≤ 1500 ∧ ∃ l, M.impl_Lex s = some (l ++ [endAt s], true) ∧ Seq s 0 l ∧ l.length + 1 ≤ 400) := by
  have hgr : grow = 549755813888 := rfl
  by_cases h : 1500 < s.size
  · left
    rw [M.impl_Lex, if_pos (by omega)]
  have hI : M.impl_Lex s = (IL s [] 0 >>= fun s32 =>
      (match s32 with
      | .inl r33 => some r33
      | .inr v34 => (gd (v34.1.length + 1 ≤ grow) >>= fun u36 =>
      (if 400 < (((v34.1.length + 1) : Nat) : Int) then some ([], false) else
      some ((v34.1 ++ [(Tok.mk 6 (⟨⟨[]⟩⟩ : ByteArray) v34.2.1 (IntKind.i64.wrap ((IntKind.i64.wrap (v34.2.2.2 - v34.2.2.1)) + 1)))]), true))))) := by
    rw [M.impl_Lex, if_neg (by omega)]
    rfl
  rcases shapeL (s := s) (by omega) s.size 0 [] (by omega) (Nat.le_refl _) with e | ⟨new, e, hs⟩
  · left
    rw [hI, e, bind_some']
  · rw [List.nil_append] at e
    have hlen : new.length ≤ s.size := by
      have key : ∀ (l : List Tok) (p : Nat), Seq s p l → p ≤ s.size → l.length + p ≤ s.size := by
        intro l
        induction l with
        | nil => intro p _ h; simpa using h
        | cons t r ih =>
          rintro p ⟨p', len, k, h1, h2, h3, _, _, h4⟩ _
          have := ih _ h4 h3
          rw [List.length_cons]
          omega
      have := key new 0 hs (by omega)
      omega
    rw [hI, e, bind_some']; dsimp only
    rw [gd_t (by omega), bind_some']
    by_cases h4 : 400 < new.length + 1
    · left
      rw [if_pos (by omega)]
    · right
      rw [if_neg (by omega)]
      exact ⟨by omega, new, rfl, hs, by omega⟩

/-! what is read again -/
theorem app_ext3 {a b c : ByteArray} : (a ++ (b ++ c)).extract a.size (a.size + b.size) = b := by
  apply ByteArray.ext
  have e1 : a.data.size = a.size := rfl
  have e2 : b.data.size = b.size := rfl
  rw [ByteArray.data_extract, ByteArray.data_append, ByteArray.data_append, Array.extract_append, Array.extract_append, e1, e2, Nat.sub_self, Nat.add_sub_cancel_left, Nat.sub_self, Nat.zero_sub, show c.data.extract 0 0 = #[] from Array.extract_empty_of_stop_le_start (Nat.le_refl _), show a.data.extract a.size (a.size + b.size) = #[] from Array.extract_empty_of_size_le_start (Nat.le_refl _), ← e2, Array.extract_size, Array.empty_append, Array.append_empty]
theorem app_ext30 {b c : ByteArray} : (b ++ c).extract 0 b.size = b := by
  apply ByteArray.ext
  have e2 : b.data.size = b.size := rfl
  rw [ByteArray.data_extract, ByteArray.data_append, Array.extract_append, e2, Nat.sub_self, Nat.zero_sub, show c.data.extract 0 0 = #[] from Array.extract_empty_of_stop_le_start (Nat.le_refl _), ← e2, Array.extract_size, Array.append_empty]
theorem byt_app {a b : ByteArray} (i : Nat) : byt (a ++ b) (a.size + i) = byt b i := by
  unfold byt
  have e1 : a.data.size = a.size := rfl
  rw [ByteArray.data_append, Array.getElem?_append_right (by omega), e1, Nat.add_sub_cancel_left]
theorem bapp_assoc (a b c : ByteArray) : (a ++ b) ++ c = a ++ (b ++ c) := by
  apply ByteArray.ext; rw [ByteArray.data_append, ByteArray.data_append, ByteArray.data_append, ByteArray.data_append, Array.append_assoc]
abbrev sp : ByteArray := (⟨⟨[32]⟩⟩ : ByteArray)
theorem joinT_first {l : List ByteArray} {a : ByteArray} (h : a.size < (a ++ M.joinT sp l).size) : byt (a ++ M.joinT sp l) a.size = 32 := by
  cases l with
  | nil => rw [M.joinT, ByteArray.size_append] at h; exact absurd h (Nat.lt_irrefl a.size)
  | cons y r =>
    have := byt_app (a := a) (b := M.joinT sp (y :: r)) 0
    rw [Nat.add_zero] at this
    rw [this, M.joinT]
    unfold byt
    rw [ByteArray.data_append, Array.getElem?_append_left (by decide)]
    rfl
/-- one sign -/
theorem oneTok {k : Int} {S : ByteArray} (hg : Good k S) {t : ByteArray} {q : Nat} (ht : t.size ≤ 1500) (hq : q + S.size ≤ t.size) (he : t.extract q (q + S.size) = S) (hb : q + S.size < t.size → byt t (q + S.size) = 32) (out : List Tok) (ho : out.length ≤ 1500) :
    ∃ c, M.impl_Lex_L0 (t, out, 1, 0, (q : Int)) = M.impl_Lex_L0 (t, out ++ [Tok.mk k S 1 c], 1, 0, ((q + S.size : Nat) : Int)) := by
  have hgr : grow = 549755813888 := rfl
  obtain ⟨g0, g1, g2⟩ := hg
  obtain ⟨e1, e2⟩ := g2 t q (by omega) hq he hb
  have ee : t.extract (q : Int).toNat t.size = rest_ t q := rfl
  have w1 : IntKind.i64.wrap ((q : Int) + ((S.size : Nat) : Int)) = ((q + S.size : Nat) : Int) := by rw [wrap_ok (by omega)]; omega
  refine ⟨IntKind.i64.wrap ((IntKind.i64.wrap ((q : Int) - 0)) + 1), ?_⟩
  rw [M.impl_Lex_L0]; dsimp only
  rw [if_pos (by omega), gd_t (by omega), bind_some', gd_t (by omega), bind_some', gd_t (by omega), bind_some', ee, e2, bind_some', if_neg (by omega), e1, bind_some']; dsimp only
  rw [if_pos rfl, gd_t (by omega), bind_some', w1]
theorem blank {t : ByteArray} {q : Nat} (ht : t.size ≤ 1500) (hq : q < t.size) (hb : byt t q = 32) (out : List Tok) : M.impl_Lex_L0 (t, out, 1, 0, (q : Int)) = M.impl_Lex_L0 (t, out, 1, 0, ((q + 1 : Nat) : Int)) := by
  have ee : t.extract (q : Int).toNat t.size = rest_ t q := rfl
  have e1 : M.impl_passed (rest_ t q) = some 1 := by rw [M.impl_passed, first_bx hq, bind_some', if_pos (by omega)]
  have w1 : IntKind.i64.wrap ((q : Int) + 1) = ((q + 1 : Nat) : Int) := by rw [wrap_ok (by omega)]; omega
  rw [M.impl_Lex_L0]; dsimp only
  rw [if_pos (by omega), gd_t (by omega), bind_some', gd_t (by omega), bind_some', gd_t (by omega), bind_some', ee, e1, bind_some', if_pos (by omega), bx_byt hq, bind_some', if_neg (by omega), w1]
def Same (l new : List Tok) : Prop := new.length = l.length ∧ ∀ (i : Nat) (a b : Tok), l[i]? = some a → new[i]? = some b → a.K = b.K ∧ a.S = b.S ∧ b.Line = 1
theorem Same.nil : Same [] [] := ⟨rfl, fun i a b h => by simp at h⟩
theorem Same.cons {x y : Tok} {l new : List Tok} (h1 : x.K = y.K) (h2 : x.S = y.S) (h3 : y.Line = 1) (h : Same l new) : Same (x :: l) (y :: new) :=
  ⟨by simp [h.1], fun i a b ha hb => by
    cases i with
    | zero => simp at ha hb; subst ha; subst hb; exact ⟨h1, h2, h3⟩
    | succ i => exact h.2 i a b (by simpa using ha) (by simpa using hb)⟩
theorem againT : ∀ (l : List Tok) (pre : ByteArray) (out : List Tok), (∀ x ∈ l, Good x.K x.S) → (pre ++ M.joinT sp (l.map (·.S))).size ≤ 1500 → out.length + l.length ≤ 1500 →
    ∃ new, M.impl_Lex_L0 (pre ++ M.joinT sp (l.map (·.S)), out, 1, 0, ((pre.size : Nat) : Int)) = some (.inr (out ++ new, 1, 0, (((pre ++ M.joinT sp (l.map (·.S))).size : Nat) : Int))) ∧ Same l new
  | [], pre, out, _, ht, ho => by
    refine ⟨[], ?_, .nil⟩
    have hz : (pre ++ M.joinT sp ([].map (fun (x : Tok) => x.S))).size = pre.size := by rw [ByteArray.size_append]; simp [M.joinT]; rfl
    rw [M.impl_Lex_L0]; dsimp only
    rw [if_neg (by rw [hz]; omega), List.append_nil, hz]
  | x :: l, pre, out, hg, ht, ho => by
    have hx := hg x (by simp)
    rw [List.map_cons] at ht ⊢
    have e0 : pre ++ M.joinT sp (x.S :: l.map (·.S)) = (pre ++ sp) ++ (x.S ++ M.joinT sp (l.map (·.S))) := by rw [M.joinT, ← bapp_assoc]
    have e1 : pre ++ M.joinT sp (x.S :: l.map (·.S)) = ((pre ++ sp) ++ x.S) ++ M.joinT sp (l.map (·.S)) := by rw [e0, bapp_assoc (pre ++ sp)]
    have hsp : (pre ++ sp).size = pre.size + 1 := by rw [ByteArray.size_append]; rfl
    have z1 : (pre ++ M.joinT sp (x.S :: l.map (·.S))).size = pre.size + 1 + x.S.size + (M.joinT sp (l.map (·.S))).size := by rw [e1, ByteArray.size_append, ByteArray.size_append, hsp]
    have hbl := joinT_first (l := x.S :: l.map (·.S)) (a := pre) (by have := hx.1; omega)
    rw [blank ht (by have := hx.1; omega) hbl]
    have h3 : (pre ++ M.joinT sp (x.S :: l.map (·.S))).extract (pre.size + 1) (pre.size + 1 + x.S.size) = x.S := by
      rw [e0, ← hsp]; exact app_ext3
    have h4 : pre.size + 1 + x.S.size < (pre ++ M.joinT sp (x.S :: l.map (·.S))).size → byt (pre ++ M.joinT sp (x.S :: l.map (·.S))) (pre.size + 1 + x.S.size) = 32 := fun h => by
      rw [e1] at h ⊢
      have hs2 : ((pre ++ sp) ++ x.S).size = pre.size + 1 + x.S.size := by rw [ByteArray.size_append, hsp]
      rw [← hs2] at h ⊢
      exact joinT_first h
    rw [List.length_cons] at ho
    obtain ⟨c, hc⟩ := oneTok hx (q := pre.size + 1) ht (by omega) h3 h4 out (by omega)
    rw [hc]
    obtain ⟨new, n1, n2⟩ := againT l ((pre ++ sp) ++ x.S) (out ++ [Tok.mk x.K x.S 1 c]) (fun y hy => hg y (by simp [hy])) (by rw [← e1]; exact ht) (by rw [List.length_append, List.length_singleton]; omega)
    rw [← e1] at n1
    rw [ByteArray.size_append, hsp] at n1
    exact ⟨Tok.mk x.K x.S 1 c :: new, by rw [n1, List.append_assoc]; rfl, .cons rfl rfl rfl n2⟩
theorem again (l : List Tok) (hg : ∀ x ∈ l, Good x.K x.S) (ht : (M.joinB sp (l.map (·.S))).size ≤ 1500) (hl : l.length + 1 ≤ 400) :
    ∃ new e, M.impl_Lex (M.joinB sp (l.map (·.S))) = some (new ++ [e], true) ∧ Same l new ∧ e.K = 6 ∧ e.S = (⟨⟨[]⟩⟩ : ByteArray) ∧ e.Line = 1 := by
  have hgr : grow = 549755813888 := rfl
  have key : ∃ new, M.impl_Lex_L0 (M.joinB sp (l.map (·.S)), [], 1, 0, 0) = some (.inr (new, 1, 0, (((M.joinB sp (l.map (·.S))).size : Nat) : Int))) ∧ Same l new := by
    cases l with
    | nil =>
      refine ⟨[], ?_, .nil⟩
      have hz : (M.joinB sp ([].map (fun (x : Tok) => x.S))).size = 0 := rfl
      rw [M.impl_Lex_L0]; dsimp only
      rw [if_neg (by rw [hz]; omega)]
      rfl
    | cons x l =>
      have hx := hg x (by simp)
      have e0 : M.joinB sp ((x :: l).map (·.S)) = x.S ++ M.joinT sp (l.map (·.S)) := rfl
      rw [e0] at ht ⊢
      have z1 : (x.S ++ M.joinT sp (l.map (·.S))).size = x.S.size + (M.joinT sp (l.map (·.S))).size := ByteArray.size_append
      have h3 : (x.S ++ M.joinT sp (l.map (·.S))).extract 0 (0 + x.S.size) = x.S := by
        rw [Nat.zero_add]
        exact app_ext30
      obtain ⟨c, hc⟩ := oneTok hx (q := 0) ht (by omega) h3 (fun h => by
        rw [Nat.zero_add] at h ⊢
        exact joinT_first h) [] (by simp)
      rw [List.length_cons] at hl
      obtain ⟨new, n1, n2⟩ := againT l x.S [Tok.mk x.K x.S 1 c] (fun y hy => hg y (by simp [hy])) ht (by rw [List.length_singleton]; omega)
      refine ⟨Tok.mk x.K x.S 1 c :: new, ?_, .cons rfl rfl rfl n2⟩
      have hc' : M.impl_Lex_L0 (x.S ++ M.joinT sp (l.map (·.S)), [], 1, 0, 0) = _ := hc
      rw [hc', Nat.zero_add, List.nil_append]
      exact n1
  obtain ⟨new, n1, n2⟩ := key
  have hnl : new.length = l.length := n2.1
  rw [M.impl_Lex, if_neg (by omega), n1, bind_some']; dsimp only
  rw [gd_t (by omega), bind_some', if_neg (by omega)]
  exact ⟨new, _, rfl, n2, rfl, rfl, rfl⟩
end Q
end W
