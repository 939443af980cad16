import Derived.Test.YtnhdobhfebiggaaLLaw7
namespace W
open Go HL
set_option linter.unusedVariables false
set_option maxRecDepth 100000
set_option maxHeartbeats 4000000
namespace Q
/-! names, whatever the text -/
open Classical in
theorem stopLoop {γ : Type} {n : Nat} (hn : n ≤ lim) {L : Int → Option γ} (q : Nat → Prop) (x y : Option γ) (hL : ∀ i : Nat, i < n → IntKind.i64.wrap ((i : Int) + 1) = ((i + 1 : Nat) : Int) → L i = if q i then L ((i + 1 : Nat) : Int) else x) (hend : L (n : Nat) = y) : L 0 = if ∀ m, m < n → q m then y else x := by
  have key : ∀ (k i : Nat), i + k = n → (∀ m, m < i → q m) → L i = if ∀ m, m < n → q m then y else x := by
    intro k
    induction k with
    | zero =>
      intro i h hq
      have : i = n := by omega
      subst this
      rw [hend, if_pos hq]
    | succ k ih =>
      intro i h hq
      rw [hL i (by omega) (wrap_succ (n := n) (by omega) hn)]
      by_cases a : q i
      · rw [if_pos a]
        refine ih (i + 1) (by omega) fun m hm => ?_
        by_cases e : m = i
        · subst e; exact a
        · exact hq m (by omega)
      · rw [if_neg a, if_neg (fun h' => a (h' i (by omega)))]
  exact key n 0 (by omega) (fun m hm => by omega)
open Classical in
theorem wordLikeA {w : ByteArray} (hw : w.size ≤ lim) : M.impl_wordLike w = some (decide ((∀ m, m < w.size → isL (byt w m) ∨ (m ≠ 0 ∧ isD (byt w m))) ∧ 1 ≤ w.size ∧ w.size ≤ 8)) := by
  rw [M.impl_wordLike]
  have h : M.impl_wordLike_L0 (w, 0) = _ := stopLoop (n := w.size) hw (L := fun i => M.impl_wordLike_L0 (w, i)) (fun m => isL (byt w m) ∨ (m ≠ 0 ∧ isD (byt w m))) (some (.inl false)) (some (.inr ())) (fun i hi hwr => by
    show M.impl_wordLike_L0 (w, (i : Int)) = _
    rw [M.impl_wordLike_L0]; try dsimp only
    rw [if_pos (by omega), bx_byt hi, bind_some', isLetter, bind_some', hwr]
    by_cases a : isL (byt w i)
    · rw [if_pos (decide_eq_true a), if_pos (.inl a)]
    · rw [if_neg (by simpa using a)]
      by_cases b : i = 0
      · rw [if_pos (by omega), if_neg (fun h => h.elim a fun h => h.1 b)]
      · rw [if_neg (by omega), isDigit, bind_some']
        by_cases c : isD (byt w i)
        · rw [if_pos (decide_eq_true c), if_pos (.inr ⟨b, c⟩)]
        · rw [if_neg (by simpa using c), if_neg (fun h => h.elim a fun h => c h.2)]) (by
    show M.impl_wordLike_L0 (w, _) = _
    rw [M.impl_wordLike_L0]; try dsimp only
    rw [if_neg (by omega)])
  rw [h]
  by_cases a : ∀ m, m < w.size → isL (byt w m) ∨ (m ≠ 0 ∧ isD (byt w m))
  · rw [if_pos a, bind_some']; dsimp only
    rw [implIn, bind_some']
    refine congrArg some (decide_eq_decide.2 ?_)
    constructor
    · intro h; exact ⟨a, by omega, by omega⟩
    · intro h; omega
  · rw [if_neg a, bind_some']; dsimp only
    exact congrArg some (decide_eq_false fun h => a h.1).symm
open Classical in
theorem lettersA {w : ByteArray} (hw : w.size ≤ lim) : M.spec_l1Letters w = some (decide ((∀ m, m < w.size → isL (byt w m) ∨ isD (byt w m)) ∧ 1 ≤ w.size ∧ w.size ≤ 8)) := by
  rw [M.spec_l1Letters]
  have h : M.spec_l1Letters_L0 (w, 0) = _ := stopLoop (n := w.size) hw (L := fun i => M.spec_l1Letters_L0 (w, i)) (fun m => isL (byt w m) ∨ isD (byt w m)) (some (.inl false)) (some (.inr ())) (fun i hi hwr => by
    show M.spec_l1Letters_L0 (w, (i : Int)) = _
    rw [M.spec_l1Letters_L0]; try dsimp only
    rw [if_pos (by omega), bx_byt hi, bind_some', l1Letter (byt_lt _ _), bind_some', hwr]
    by_cases a : isL (byt w i) ∨ isD (byt w i)
    · rw [if_pos (decide_eq_true a), if_pos a]
    · rw [if_neg (by simpa using a), if_neg a]) (by
    show M.spec_l1Letters_L0 (w, _) = _
    rw [M.spec_l1Letters_L0]; try dsimp only
    rw [if_neg (by omega)])
  rw [h]
  by_cases a : ∀ m, m < w.size → isL (byt w m) ∨ isD (byt w m)
  · rw [if_pos a, bind_some']; dsimp only
    rw [l1In, bind_some']
    refine congrArg some (decide_eq_decide.2 ?_)
    constructor
    · intro h; exact ⟨a, by omega, by omega⟩
    · intro h; omega
  · rw [if_neg a, bind_some']; dsimp only
    exact congrArg some (decide_eq_false fun h => a h.1).symm
open Classical in
theorem namesA {w : ByteArray} (hw : w.size ≤ lim) : (∃ b, M.impl_NameOk w = some b ∧ M.spec_NameOk w = some b) ∧ ∃ b, M.impl_GreatOk w = some b ∧ M.spec_GreatOk w = some b := by
  have hbl := byt_lt w 0
  by_cases h0 : 0 < w.size
  rotate_left
  · rw [M.impl_NameOk, M.spec_NameOk, M.impl_GreatOk, M.spec_GreatOk, wordLikeA hw, lettersA hw, bind_some', bind_some', bind_some', bind_some', if_neg (fun h => by have := (of_decide_eq_true h).2; omega), if_neg (fun h => by have := (of_decide_eq_true h).2; omega), if_neg (fun h => by have := (of_decide_eq_true h).2; omega), if_neg (fun h => by have := (of_decide_eq_true h).2; omega)]
    exact ⟨⟨_, rfl, rfl⟩, _, rfl, rfl⟩
  by_cases ha : ∀ m, m < w.size → isL (byt w m) ∨ isD (byt w m)
  · by_cases hf : isL (byt w 0)
    · exact names hw h0 ha hf
    · have hd : isD (byt w 0) := (ha 0 h0).resolve_left hf
      have n1 : ¬ (decide ((∀ m, m < w.size → isL (byt w m) ∨ (m ≠ 0 ∧ isD (byt w m))) ∧ 1 ≤ w.size ∧ w.size ≤ 8) = true) := fun h => ((of_decide_eq_true h).1 0 h0).elim hf fun h => h.1 rfl
      rw [M.impl_NameOk, M.spec_NameOk, M.impl_GreatOk, M.spec_GreatOk, wordLikeA hw, lettersA hw, bind_some', bind_some', bind_some', bind_some', if_neg n1, if_neg n1]
      by_cases h8 : w.size ≤ 8
      · have p1 : decide ((∀ m, m < w.size → isL (byt w m) ∨ isD (byt w m)) ∧ 1 ≤ w.size ∧ w.size ≤ 8) = true := decide_eq_true ⟨ha, h0, h8⟩
        have ns : ¬ (97 ≤ byt w 0 ∧ byt w 0 ≤ 122) := fun h => hf (.inl h)
        have ng : ¬ (65 ≤ byt w 0 ∧ byt w 0 ≤ 90) := fun h => hf (.inr h)
        rw [if_pos p1, if_pos p1, bx_byt0 h0, bind_some', bind_some', l1Small hbl, bind_some', if_neg (by simpa using ns), l1Large hbl, bind_some', decide_eq_false ng]
        exact ⟨⟨_, rfl, rfl⟩, _, rfl, rfl⟩
      · have n2 : ¬ (decide ((∀ m, m < w.size → isL (byt w m) ∨ isD (byt w m)) ∧ 1 ≤ w.size ∧ w.size ≤ 8) = true) := fun h => h8 (of_decide_eq_true h).2.2
        rw [if_neg n2, if_neg n2]
        exact ⟨⟨_, rfl, rfl⟩, _, rfl, rfl⟩
  · have n1 : ¬ (decide ((∀ m, m < w.size → isL (byt w m) ∨ (m ≠ 0 ∧ isD (byt w m))) ∧ 1 ≤ w.size ∧ w.size ≤ 8) = true) := fun h => ha fun m hm => ((of_decide_eq_true h).1 m hm).imp id And.right
    have n2 : ¬ (decide ((∀ m, m < w.size → isL (byt w m) ∨ isD (byt w m)) ∧ 1 ≤ w.size ∧ w.size ≤ 8) = true) := fun h => ha (of_decide_eq_true h).1
    rw [M.impl_NameOk, M.spec_NameOk, M.impl_GreatOk, M.spec_GreatOk, wordLikeA hw, lettersA hw, bind_some', bind_some', bind_some', bind_some', if_neg n1, if_neg n1, if_neg n2, if_neg n2]
    exact ⟨⟨_, rfl, rfl⟩, _, rfl, rfl⟩

/-! what is drawn -/
abbrev Cur := spec_l1Cur
def okC (c : Cur) : Prop := 0 ≤ c.i ∧ c.b.length ≤ lim
theorem and_byte (a : Int) : 0 ≤ andI IntKind.i64 a 255 ∧ andI IntKind.i64 a 255 ≤ 255 := by
  have h : ((BitVec.ofInt IntKind.i64.bits a) &&& (BitVec.ofInt IntKind.i64.bits 255)).toNat ≤ 255 := by
    rw [BitVec.toNat_and]
    exact Nat.le_trans Nat.and_le_right (by decide)
  unfold andI
  rw [wrap_ok (by omega)]
  omega
theorem dByte {c : Cur} (hc : okC c) : ∃ v c', M.spec_l1Byte_p c = some (v, c') ∧ 0 ≤ v ∧ v ≤ 255 ∧ okC c' := by
  have hlim : lim = 140737488355328 := rfl
  obtain ⟨h1, h2⟩ := hc
  rw [M.spec_l1Byte_p]
  by_cases a : c.i < ((c.b.length : Nat) : Int)
  · have hx : ix c.b c.i = some c.b[c.i.toNat] := by
      have := ix_of (l := c.b) (i := c.i.toNat) (List.getElem?_eq_getElem (by omega))
      rwa [show ((c.i.toNat : Nat) : Int) = c.i by omega] at this
    rw [if_pos a, hx, bind_some']
    exact ⟨_, _, rfl, (and_byte _).1, (and_byte _).2, by show 0 ≤ IntKind.i64.wrap (c.i + 1); rw [wrap_ok (by omega)]; omega, h2⟩
  · rw [if_neg a]
    exact ⟨_, _, rfl, (and_byte _).1, (and_byte _).2, h1, h2⟩
theorem tmod_in {v n : Int} (hv : 0 ≤ v) (hn : 0 < n) : 0 ≤ Int.tmod v n ∧ Int.tmod v n < n := by
  rw [Int.tmod_eq_emod_of_nonneg hv]
  exact ⟨Int.emod_nonneg _ (by omega), Int.emod_lt_of_pos _ hn⟩
theorem dBelow {c : Cur} (hc : okC c) {n : Int} (hn : 0 < n) : ∃ v c', M.spec_l1Below_p (c, n) = some (v, c') ∧ 0 ≤ v ∧ v < n ∧ okC c' := by
  rw [M.spec_l1Below_p]; dsimp only
  rw [if_neg (by omega)]
  obtain ⟨v1, c1, e1, a1, b1, o1⟩ := dByte hc
  by_cases h : n ≤ 256
  · rw [if_pos h, e1, bind_some', gd_t (by omega), bind_some']
    exact ⟨_, _, rfl, (tmod_in a1 hn).1, (tmod_in a1 hn).2, o1⟩
  · obtain ⟨v2, c2, e2, a2, b2, o2⟩ := dByte o1
    obtain ⟨v3, c3, e3, a3, b3, o3⟩ := dByte o2
    rw [if_neg h, e1, bind_some', e2, bind_some', e3, bind_some', gd_t (by omega), bind_some']
    have hv : 0 ≤ IntKind.i64.wrap ((IntKind.i64.wrap ((IntKind.i64.wrap (v1 * 65536)) + (IntKind.i64.wrap (v2 * 256)))) + v3) := by
      rw [wrap_ok (a := v1 * 65536) (by omega), wrap_ok (a := v2 * 256) (by omega), wrap_ok (a := v1 * 65536 + v2 * 256) (by omega), wrap_ok (by omega)]
      omega
    exact ⟨_, _, rfl, (tmod_in hv hn).1, (tmod_in hv hn).2, o3⟩
theorem dStr {c : Cur} (hc : okC c) {l : List ByteArray} (hl : 0 < l.length) : ∃ e c', M.spec_l1Str_p (c, l) = some (e, c') ∧ e ∈ l ∧ okC c' := by
  obtain ⟨v, c', e1, a1, b1, o1⟩ := dBelow hc (n := ((l.length : Nat) : Int)) (by omega)
  have hx : ix l v = some l[v.toNat] := by
    have := ix_of (l := l) (i := v.toNat) (List.getElem?_eq_getElem (by omega))
    rwa [show ((v.toNat : Nat) : Int) = v by omega] at this
  rw [M.spec_l1Str_p]; dsimp only
  rw [e1, bind_some', hx, bind_some']
  exact ⟨_, _, rfl, List.getElem_mem _, o1⟩
theorem dNew {x : List Int} (hx : x.length ≤ lim) : ∃ c, M.spec_l1New x = some c ∧ okC c := by
  have key : ∀ (k i : Nat) (h : Int), i + k = x.length → ∃ v, M.spec_l1New_L0 (x, h, (i : Int)) = some v := by
    intro k
    induction k with
    | zero =>
      intro i h hi
      rw [M.spec_l1New_L0]; dsimp only
      rw [if_neg (by omega)]
      exact ⟨_, rfl⟩
    | succ k ih =>
      intro i h hi
      rw [M.spec_l1New_L0]; dsimp only
      rw [if_pos (by omega)]
      by_cases a : (i : Int) < 4000
      · rw [if_pos a, ix_of (List.getElem?_eq_getElem (by omega)), bind_some', wrap_succ (n := x.length) (by omega) hx]
        exact ih (i + 1) _ (by omega)
      · rw [if_neg a]
        exact ⟨_, rfl⟩
  obtain ⟨v, e⟩ := key x.length 0 (IntKind.i64.wrap (945945 + ((x.length : Nat) : Int))) (by omega)
  rw [M.spec_l1New]
  rw [show M.spec_l1New_L0 (x, IntKind.i64.wrap (945945 + ((x.length : Nat) : Int)), 0) = _ from e, bind_some']
  exact ⟨_, rfl, Int.le_refl _, hx⟩
theorem mem_size {l : List ByteArray} {n : Nat} (h : (l.all fun e => decide (e.size ≤ n)) = true) {e : ByteArray} (he : e ∈ l) : e.size ≤ n := of_decide_eq_true (List.all_eq_true.1 h e he)
theorem strBind {γ : Type} {c : Cur} {l : List ByteArray} {f : ByteArray × Cur → Option γ} {Pr : γ → Prop} (n : Nat) (hc : okC c) (hl : 0 < l.length) (ha : (l.all fun e => decide (e.size ≤ n)) = true)
    (h : ∀ e c', e.size ≤ n → okC c' → ∃ g, f (e, c') = some g ∧ Pr g) : ∃ g, (M.spec_l1Str_p (c, l) >>= f) = some g ∧ Pr g := by
  obtain ⟨e, c', h1, h2, h3⟩ := dStr hc hl
  rw [h1, bind_some']
  exact h e c' (mem_size ha h2) h3
theorem dWord {c : Cur} (hc : okC c) : ∃ g : ByteArray × Cur, M.spec_l1Word_p c = some g ∧ (g.1.size ≤ 10 ∧ okC g.2) := by
  rw [M.spec_l1Word_p]
  exact strBind 10 hc (by decide) (by decide) fun e c' h1 h2 => ⟨_, rfl, h1, h2⟩
theorem dTextL : ∀ (k : Nat) (s : ByteArray) (c : Cur), k ≤ 14 → s.size + 20 * k ≤ 1000 → okC c → ∃ s' b i h, M.spec_l1Text_p_L0 (s, ((k : Nat) : Int), c.b, c.i, c.h) = some (s', b, i, h) ∧ s'.size ≤ 1000 ∧ okC (spec_l1Cur.mk b i h) := by
  have hlim : lim = 140737488355328 := rfl
  intro k
  induction k with
  | zero =>
    intro s c _ hs hc
    rw [M.spec_l1Text_p_L0]; dsimp only
    rw [if_neg (by omega)]
    exact ⟨_, _, _, _, rfl, by omega, hc⟩
  | succ k ih =>
    intro s c hk hs hc
    rw [M.spec_l1Text_p_L0]; dsimp only
    obtain ⟨⟨e1, c1⟩, h1, h2, h3⟩ := dWord (c := spec_l1Cur.mk c.b c.i c.h) hc
    dsimp only at h2 h3
    rw [if_pos (by omega), h1, bind_some', gd_t (by dsimp only; omega), bind_some']
    dsimp only
    obtain ⟨e2, c2, g1, g2, g3⟩ := dStr h3 (l := [(⟨⟨[32]⟩⟩ : ByteArray), (⟨⟨[32]⟩⟩ : ByteArray), (⟨⟨[32]⟩⟩ : ByteArray), (⟨⟨[10]⟩⟩ : ByteArray), (⟨⟨[10, 32, 32]⟩⟩ : ByteArray), (⟨⟨[10, 32, 32, 32, 32]⟩⟩ : ByteArray), (⟨⟨[]⟩⟩ : ByteArray)]) (by decide)
    have hg2 : e2.size ≤ 10 := mem_size (by decide) g2
    have hs1 : (s ++ e1).size = s.size + e1.size := ByteArray.size_append
    have hs2 : ((s ++ e1) ++ e2).size = s.size + e1.size + e2.size := by rw [ByteArray.size_append, hs1]
    rw [g1, bind_some', gd_t (by dsimp only; omega), bind_some', wrap_ok (by omega), show ((k + 1 : Nat) : Int) - 1 = ((k : Nat) : Int) by omega]
    exact ih _ c2 (by omega) (by dsimp only; omega) g3
theorem dText {c : Cur} (hc : okC c) : ∃ s c', M.spec_l1Text_p c = some (s, c') ∧ s.size ≤ 1000 ∧ okC c' := by
  rw [M.spec_l1Text_p]
  obtain ⟨v, c1, e1, a1, b1, o1⟩ := dBelow hc (n := 14) (by omega)
  rw [e1, bind_some']; dsimp only
  obtain ⟨s', b, i, h, g1, g2, g3⟩ := dTextL v.toNat (⟨⟨[]⟩⟩ : ByteArray) c1 (by omega) (by have : (⟨⟨[]⟩⟩ : ByteArray).size = 0 := rfl
                                                                                            omega) o1
  rw [show ((v.toNat : Nat) : Int) = v by omega] at g1
  rw [g1, bind_some']
  exact ⟨_, _, rfl, g2, g3⟩
theorem dLex {x : List Int} (hx : x.length ≤ lim) : ∃ s, M.spec_DrawLex x = some s ∧ s.size ≤ 3000 := by
  have hlim : lim = 140737488355328 := rfl
  obtain ⟨c, e0, o0⟩ := dNew hx
  obtain ⟨s, c1, e1, z1, o1⟩ := dText o0
  obtain ⟨v, c2, e2, a2, b2, o2⟩ := dBelow o1 (n := 8) (by omega)
  rw [M.spec_DrawLex, e0, bind_some', e1, bind_some']; dsimp only
  rw [e2, bind_some']; dsimp only
  by_cases h0 : v = 0
  · obtain ⟨e, c3, g1, g2, _⟩ := dStr o2 (l := [(⟨⟨[36]⟩⟩ : ByteArray), (⟨⟨[9]⟩⟩ : ByteArray), (⟨⟨[48, 49]⟩⟩ : ByteArray), (⟨⟨[49, 50, 51, 52, 53, 54, 55]⟩⟩ : ByteArray), (⟨⟨[110, 105, 110, 101, 108, 101, 116, 116, 115]⟩⟩ : ByteArray), (⟨⟨[45, 45, 32, 104, 105]⟩⟩ : ByteArray), (⟨⟨[45, 45]⟩⟩ : ByteArray), (⟨⟨[45, 62, 120]⟩⟩ : ByteArray), (⟨⟨[97, 45, 45, 98, 10, 99]⟩⟩ : ByteArray), (⟨⟨[38]⟩⟩ : ByteArray)]) (by decide)
    have hz : e.size ≤ 20 := mem_size (by decide) g2
    rw [if_pos h0, g1, bind_some', gd_t (by dsimp only; omega), bind_some']
    exact ⟨_, rfl, by rw [ByteArray.size_append]; dsimp only; omega⟩
  rw [if_neg h0]
  by_cases h1 : v = 1
  · rw [if_pos h1, wrap_ok (by omega)]
    obtain ⟨q, c3, e3, a3, b3, o3⟩ := dBelow o2 (n := ((s.size : Nat) : Int) + 1) (by omega)
    obtain ⟨e, c4, g1, g2, _⟩ := dStr o3 (l := [(⟨⟨[45, 45, 32, 120, 10]⟩⟩ : ByteArray), (⟨⟨[10]⟩⟩ : ByteArray), (⟨⟨[32]⟩⟩ : ByteArray), (⟨⟨[255]⟩⟩ : ByteArray), (⟨⟨[57]⟩⟩ : ByteArray)]) (by decide)
    have hz : e.size ≤ 20 := mem_size (by decide) g2
    have y1 : (s.extract (0 : Int).toNat q.toNat).size ≤ 1000 := by rw [ext_size]; omega
    have y2 : (s.extract q.toNat s.size).size ≤ 1000 := by rw [ext_size]; omega
    have y3 : ((s.extract (0 : Int).toNat q.toNat) ++ e).size = (s.extract (0 : Int).toNat q.toNat).size + e.size := ByteArray.size_append
    rw [e3, bind_some']; dsimp only
    rw [gd_t (by omega), bind_some', gd_t (by omega), bind_some', gd_t (by omega), bind_some', bind_some', gd_t (by omega), bind_some', g1, bind_some', gd_t (by dsimp only; omega), bind_some', gd_t (by dsimp only; omega), bind_some']
    exact ⟨_, rfl, by rw [ByteArray.size_append]; dsimp only; omega⟩
  rw [if_neg h1]
  by_cases h2 : v = 2
  · rw [if_pos h2, M.spec_l1Prog_p]
    obtain ⟨⟨e, c3⟩, g1, g2⟩ : ∃ g : ByteArray × Cur, M.spec_l1Prog_p c2 = some g ∧ g.1.size ≤ 3000 := by
      rw [M.spec_l1Prog_p]
      exact strBind 3000 o2 (by decide) (by decide) fun e c' h1 h2 => ⟨_, rfl, h1⟩
    rw [M.spec_l1Prog_p] at g1
    rw [g1, bind_some']
    exact ⟨_, rfl, g2⟩
  rw [if_neg h2, M.spec_l1Once_p]; dsimp only
  obtain ⟨u, c3, e3, a3, b3, o3⟩ := dBelow o2 (n := 60) (by omega)
  rw [e3, bind_some', bind_some']; dsimp only
  by_cases h3 : u = 0
  · obtain ⟨y, c4, e4, a4, b4, o4⟩ := dBelow o3 (n := 2) (by omega)
    rw [if_pos (decide_eq_true h3), e4, bind_some']; dsimp only
    rw [wrap_ok (by omega), gd_t (by omega), bind_some', gd_t (by omega), bind_some']
    exact ⟨_, rfl, by rw [bsOf_size, List.length_replicate]; omega⟩
  · rw [if_neg (by simpa using h3)]
    exact ⟨_, rfl, by omega⟩
theorem dName {x : List Int} (hx : x.length ≤ lim) : ∃ s, M.spec_DrawNameOk x = some s ∧ s.size ≤ lim := by
  have hlim : lim = 140737488355328 := rfl
  obtain ⟨c, e0, o0⟩ := dNew hx
  rw [M.spec_DrawNameOk, e0, bind_some']
  exact strBind 20 o0 (by decide) (by decide) fun e c' h1 h2 => ⟨_, rfl, by dsimp only; omega⟩
theorem dGreat {x : List Int} (hx : x.length ≤ lim) : ∃ s, M.spec_DrawGreatOk x = some s ∧ s.size ≤ lim := by
  have hlim : lim = 140737488355328 := rfl
  obtain ⟨c, e0, o0⟩ := dNew hx
  rw [M.spec_DrawGreatOk, e0, bind_some']
  exact strBind 20 o0 (by decide) (by decide) fun e c' h1 h2 => ⟨_, rfl, by dsimp only; omega⟩
end Q
end W
