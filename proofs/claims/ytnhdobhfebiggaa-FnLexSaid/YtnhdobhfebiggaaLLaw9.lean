import Derived.Test.YtnhdobhfebiggaaLLaw8
namespace W
open Go HL
set_option linter.unusedVariables false
set_option maxRecDepth 100000
set_option maxHeartbeats 4000000
namespace Q
/-! places in order -/
theorem nlc_mono (s : ByteArray) (a : Nat) : ∀ k, nlc s a ≤ nlc s (a + k)
  | 0 => Nat.le_refl _
  | k + 1 => by
    have := nlc_mono s a k
    rw [show a + (k + 1) = (a + k) + 1 by omega, nlc]
    split <;> omega
theorem bgn_same (s : ByteArray) (a : Nat) : ∀ k, nlc s (a + k) = nlc s a → bgn s (a + k) = bgn s a
  | 0, _ => rfl
  | k + 1, h => by
    have := nlc_mono s a k
    rw [show a + (k + 1) = (a + k) + 1 by omega, nlc] at h
    rw [show a + (k + 1) = (a + k) + 1 by omega, bgn]
    by_cases e : byt s (a + k) = 10
    · rw [if_pos e] at h; omega
    · rw [if_neg e] at h
      rw [if_neg e]
      exact bgn_same s a k (by omega)
def lineAt (s : ByteArray) (p : Nat) : Int := ((1 + nlc s p : Nat) : Int)
def colAt (s : ByteArray) (p : Nat) : Int := IntKind.i64.wrap ((IntKind.i64.wrap ((p : Int) - ((bgn s p : Nat) : Int))) + 1)
def posOK (a b : Tok) : Prop := ¬ b.Line < a.Line ∧ (b.Line = a.Line → ¬ b.Col < a.Col)
theorem pos_le {s : ByteArray} (hn : s.size ≤ 1500) {p q : Nat} (h : p ≤ q) (hq : q ≤ s.size) {a b : Tok} (a1 : a.Line = lineAt s p) (a2 : a.Col = colAt s p) (b1 : b.Line = lineAt s q) (b2 : b.Col = colAt s q) : posOK a b := by
  have h1 := nlc_mono s p (q - p)
  have h2 := bgn_same s p (q - p)
  rw [show p + (q - p) = q by omega] at h1 h2
  have l1 := bgn_le s p
  have l2 := bgn_le s q
  unfold posOK
  rw [a1, a2, b1, b2]
  unfold lineAt colAt
  refine ⟨by omega, fun e => ?_⟩
  have := h2 (by omega)
  rw [wrap_ok (a := (p : Int) - ((bgn s p : Nat) : Int)) (by omega), wrap_ok (a := (q : Int) - ((bgn s q : Nat) : Int)) (by omega), wrap_ok (by omega), wrap_ok (by omega)]
  omega
def Ord (s : ByteArray) : Nat → List Tok → Prop
  | _, [] => True
  | p, t :: r => ∃ p', p ≤ p' ∧ p' ≤ s.size ∧ t.Line = lineAt s p' ∧ t.Col = colAt s p' ∧ Ord s p' r
theorem ord_get {s : ByteArray} (hn : s.size ≤ 1500) : ∀ {l : List Tok} {p : Nat}, Ord s p l → ∀ (i : Nat) (a b : Tok), l[i]? = some a → l[i + 1]? = some b → posOK a b
  | [], _, _, i, a, b, h, _ => by simp at h
  | [t], _, _, i, a, b, _, h => by simp at h
  | t :: u :: r, p, ⟨p', h1, h2, h3, h4, q, g1, g2, g3, g4, g5⟩, 0, a, b, ha, hb => by
    simp at ha hb
    subst ha hb
    exact pos_le hn g1 g2 h3 h4 g3 g4
  | t :: u :: r, p, ⟨p', h1, h2, h3, h4, h5⟩, i + 1, a, b, ha, hb => ord_get hn h5 i a b (by simpa using ha) (by simpa using hb)
theorem seq_ord {s : ByteArray} : ∀ {l : List Tok} {p : Nat}, p ≤ s.size → Seq s p l → Ord s p (l ++ [endAt s])
  | [], p, hp, _ => ⟨s.size, hp, Nat.le_refl _, rfl, rfl, trivial⟩
  | t :: r, p, hp, ⟨p', len, k, h1, h2, h3, h4, h5, h6⟩ => by
    refine ⟨p', h1, by omega, by rw [h4]; rfl, by rw [h4]; rfl, ?_⟩
    have := seq_ord (l := r) h3 h6
    have weak : ∀ {l : List Tok} {a b : Nat}, a ≤ b → Ord s b l → Ord s a l := by
      intro l a b hab
      cases l with
      | nil => exact fun _ => trivial
      | cons t r => rintro ⟨p', q1, q2⟩; exact ⟨p', Nat.le_trans hab q1, q2⟩
    exact weak (by omega) this
theorem seq_good {s : ByteArray} : ∀ {l : List Tok} {p : Nat}, Seq s p l → ∀ x ∈ l, Good x.K x.S ∧ x.S.size ≤ s.size
  | [], _, _, x, hx => by simp at hx
  | t :: r, p, ⟨p', len, k, h1, h2, h3, h4, h5, h6⟩, x, hx => by
    rcases List.mem_cons.1 hx with rfl | hx
    · refine ⟨by rw [h4] at h5 ⊢; exact h5, ?_⟩
      rw [h4]
      show (s.extract p' (p' + len)).size ≤ s.size
      rw [ext_size]; omega
    · exact seq_good h6 x hx
theorem Same.app {l new : List Tok} {x y : Tok} (h : Same l new) (h1 : x.K = y.K) (h2 : x.S = y.S) (h3 : y.Line = 1) : Same (l ++ [x]) (new ++ [y]) := by
  refine ⟨by simp [h.1], fun i a b ha hb => ?_⟩
  have hl := h.1
  rcases Nat.lt_trichotomy i l.length with c | c | c
  · rw [List.getElem?_append_left c] at ha
    rw [List.getElem?_append_left (by omega)] at hb
    exact h.2 i a b ha hb
  · rw [List.getElem?_append_right (by omega), c, Nat.sub_self] at ha
    rw [List.getElem?_append_right (by omega), show i - new.length = 0 by omega] at hb
    cases ha
    cases hb
    exact ⟨h1, h2, h3⟩
  · rw [List.getElem?_eq_none (by simp; omega)] at ha
    cases ha
theorem tokText {s : ByteArray} {l : List Tok} (hl : l.length + 1 ≤ 400) (hs : s.size ≤ 1500) (hg : ∀ x ∈ l, Good x.K x.S ∧ x.S.size ≤ s.size) : M.impl_TokText (l ++ [endAt s]) = some (M.joinB sp (l.map (·.S))) := by
  have hgr : grow = 549755813888 := rfl
  have key : ∀ (k i : Nat) (out : List ByteArray), i + k = l.length → out = (l.take i).map (·.S) → M.impl_TokText_L0 (l ++ [endAt s], out, (i : Int)) = some (l.map (·.S)) := by
    intro k
    induction k with
    | zero =>
      intro i out hi ho
      have : i = l.length := by omega
      subst this
      rw [List.take_length] at ho
      subst ho
      rw [M.impl_TokText_L0]; dsimp only
      have e1 : (l ++ [endAt s])[l.length]? = some (endAt s) := by simp
      rw [if_pos (by rw [List.length_append, List.length_singleton]; omega), ix_of e1, bind_some', if_pos (show (endAt s).K = 6 from rfl), wrap_ok (by omega), M.impl_TokText_L0]; dsimp only
      rw [if_neg (by rw [List.length_append, List.length_singleton]; omega)]
    | succ k ih =>
      intro i out hi ho
      have hil : i < l.length := by omega
      have hx := List.getElem?_eq_getElem hil
      have e1 : (l ++ [endAt s])[i]? = some l[i] := by rw [List.getElem?_append_left hil]; exact hx
      have hk := (hg l[i] (List.getElem_mem _)).1.2.1
      have hol : out.length = i := by rw [ho, List.length_map, List.length_take]; omega
      rw [M.impl_TokText_L0]; dsimp only
      rw [if_pos (by rw [List.length_append, List.length_singleton]; omega), ix_of e1, bind_some', if_neg hk, gd_t (by omega), bind_some', wrap_ok (by omega), show (i : Int) + 1 = ((i + 1 : Nat) : Int) by omega]
      refine ih (i + 1) _ (by omega) ?_
      rw [ho, List.take_add_one, hx, List.map_append]
      rfl
  have hz : ∀ (l : List Tok), (∀ x ∈ l, x.S.size ≤ 1500) → M.joinZ (l.map (·.S)) ≤ 1500 * l.length := by
    intro l
    induction l with
    | nil => intro _; exact Nat.zero_le _
    | cons x l ih =>
      intro h
      have h1 := h x (by simp)
      have h2 := ih fun y hy => h y (by simp [hy])
      rw [List.map_cons, M.joinZ, List.length_cons]
      omega
  have hz' := hz l fun x hx => Nat.le_trans (hg x hx).2 hs
  have hsp : sp.size = 1 := rfl
  rw [M.impl_TokText]
  rw [show M.impl_TokText_L0 (l ++ [endAt s], [], 0) = _ from key l.length 0 [] (by omega) rfl, bind_some', M.strings_Join, if_pos, bind_some']
  dsimp only
  rw [List.length_map]
  show l.length ≤ 140737488355328 ∧ sp.size * (l.length - 1) + M.joinZ (l.map (·.S)) ≤ 140737488355328
  rw [hsp, Nat.one_mul]
  omega
theorem sameToks (l : List Tok) (hl : l.length ≤ 400) : M.laws_sameToks (l, l) = some true := by
  have hlim : lim = 140737488355328 := rfl
  rw [M.laws_sameToks]; dsimp only
  rw [if_pos rfl]
  have h : M.laws_sameToks_L0 (l, l, 0) = _ := passLoop (n := l.length) (by omega) (L := fun i => M.laws_sameToks_L0 (l, l, i)) (x := some (.inr ())) (fun i hi hw => by
    show M.laws_sameToks_L0 (l, l, (i : Int)) = M.laws_sameToks_L0 (l, l, ((i + 1 : Nat) : Int))
    rw [M.laws_sameToks_L0]; dsimp only
    rw [if_pos (by omega), ix_of (List.getElem?_eq_getElem hi), bind_some', bind_some', if_neg (by simp), hw]) (by
    show M.laws_sameToks_L0 (l, l, _) = _
    rw [M.laws_sameToks_L0]; dsimp only
    rw [if_neg (by omega)])
  rw [h, bind_some']
theorem lastLoop {A B : List Tok} (ba bb : Bool) (hl : A.length ≤ 400) (hS : Same A B) (hO : ∀ (i : Nat) (a b : Tok), A[i]? = some a → A[i + 1]? = some b → posOK a b) : M.laws_FnLex_L0 ((A, ba), (B, bb), 0) = some (.inr ()) := by
  have hlim : lim = 140737488355328 := rfl
  have hB := hS.1
  exact passLoop (n := A.length) (by omega) (L := fun i => M.laws_FnLex_L0 ((A, ba), (B, bb), i)) (x := some (.inr ())) (fun i hi hw => by
    show M.laws_FnLex_L0 ((A, ba), (B, bb), (i : Int)) = M.laws_FnLex_L0 ((A, ba), (B, bb), ((i + 1 : Nat) : Int))
    have ha := List.getElem?_eq_getElem hi
    have hb := List.getElem?_eq_getElem (show i < B.length by omega)
    obtain ⟨s1, s2, s3⟩ := hS.2 i _ _ ha hb
    rw [M.laws_FnLex_L0]; dsimp only
    rw [if_pos (by omega), if_pos (by omega), ix_of ha, bind_some', ix_of hb, bind_some', if_pos s1, if_pos s2, if_pos s3, hw]
    by_cases h0 : 0 < (i : Int)
    · have hp := List.getElem?_eq_getElem (show i - 1 < A.length by omega)
      have ho := hO (i - 1) _ _ hp (by rw [show i - 1 + 1 = i by omega]; exact ha)
      rw [if_pos h0, wrap_ok (by omega), show (i : Int) - 1 = ((i - 1 : Nat) : Int) by omega, ix_of hp, bind_some', if_neg ho.1]
      by_cases e : A[i].Line = A[i - 1].Line
      · rw [if_pos e, if_neg (ho.2 e)]
      · rw [if_neg e]
    · rw [if_neg h0]) (by
    show M.laws_FnLex_L0 ((A, ba), (B, bb), _) = _
    rw [M.laws_FnLex_L0]; dsimp only
    rw [if_neg (by omega)])
theorem lawFnLex (x : List Int) (hx : x.length ≤ lim) (hx' : ∀ i ∈ x, (Lit.int .u8 i).wf = true) : M.laws_FnLex x = some true := by
  have hlim : lim = 140737488355328 := rfl
  rw [M.laws_FnLex, M.laws_big, bind_some']
  by_cases hbig : 1048576 < ((x.length : Nat) : Int)
  · rw [if_pos (decide_eq_true hbig)]
  rw [if_neg (by simpa using hbig)]
  obtain ⟨s, e1, z1⟩ := dLex hx
  obtain ⟨a, e2, z2⟩ := dName hx
  obtain ⟨b, e3, z3⟩ := dGreat hx
  obtain ⟨r, l1, l2, l3⟩ := lexSame s (by omega)
  obtain ⟨n1, m1, m2⟩ := (namesA (w := a) z2).1
  obtain ⟨n2, m3, m4⟩ := (namesA (w := b) z3).2
  have front : ∀ (rest_ : Option Bool), (if (r.2 == r.2) = true then (M.laws_sameToks (r.1, r.1) >>= fun r9 =>
    (if r9 = true then (M.impl_NameOk a >>= fun r11 =>
    (M.spec_NameOk a >>= fun r12 =>
    (if (r11 == r12) = true then (M.impl_GreatOk b >>= fun r14 =>
    (M.spec_GreatOk b >>= fun r15 =>
    (if (r14 == r15) = true then rest_ else
    some false))) else
    some false))) else
    some false)) else
    some false) = rest_ := fun rest_ => by
    rw [if_pos (by simp), sameToks _ l3, bind_some', if_pos rfl, m1, bind_some', m2, bind_some', if_pos (by simp), m3, bind_some', m4, bind_some', if_pos (by simp)]
  rw [e1, bind_some', l1, bind_some', l2, bind_some', e2, bind_some', e3, bind_some']
  refine (front _).trans ?_
  rcases shape s with h | ⟨hs, l, h, hseq, hl⟩
  · obtain rfl := Option.some.inj (l1.symm.trans h)
    rw [if_neg (by simp)]
    rfl
  · obtain rfl := Option.some.inj (l1.symm.trans h)
    have hg := seq_good hseq
    have hO := ord_get hs (seq_ord (Nat.zero_le _) hseq)
    dsimp only
    rw [if_pos rfl, tokText hl hs hg, bind_some']
    by_cases ht : 1500 < (M.joinB sp (l.map (·.S))).size
    · have : M.impl_Lex (M.joinB sp (l.map (·.S))) = some ([], false) := by rw [M.impl_Lex, if_pos (by omega)]
      rw [this, bind_some', if_pos (by omega)]
      rfl
    obtain ⟨new, e, g1, g2, g3, g4, g5⟩ := again l (fun x hx => (hg x hx).1) (by omega) hl
    have hsame : Same (l ++ [endAt s]) (new ++ [e]) := g2.app g3.symm g4.symm g5
    have hlast : (l ++ [endAt s])[l.length]? = some (endAt s) := by simp
    have hlen : (l ++ [endAt s]).length = l.length + 1 := by simp
    rw [g1, bind_some', if_neg (by omega), lastLoop true true (by rw [hlen]; omega) hsame hO, bind_some']
    dsimp only
    rw [if_pos rfl, if_pos (by have := hsame.1; omega), hlen, wrap_ok (by omega), show ((l.length + 1 : Nat) : Int) - 1 = ((l.length : Nat) : Int) by omega, ix_of hlast, bind_some']
    rfl
end Q
end W
