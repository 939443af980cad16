import Derived.Test.YtnhdobhfebiggaaGMir
import Derived.Test.YtnhdobhfebiggaaHLP
namespace W
set_option linter.unusedSimpArgs false
set_option linter.unusedVariables false
open Go HL
set_option linter.unusedVariables false
set_option maxRecDepth 100000
set_option maxHeartbeats 4000000
namespace Q
def i64 (n : Int) : Prop := -9223372036854775808 ≤ n ∧ n ≤ 9223372036854775807
def strOk (l : List ByteArray) : Prop := l.length ≤ lim ∧ ∀ s ∈ l, s.size ≤ lim
end Q
def Tok.cost : Tok → Nat
  | ⟨K_, S_, Line_, Col_⟩ => S_.size
def Tok.costL : List Tok → Nat
  | [] => 0
  | x :: l => x.cost + Tok.costL l
def Tok.small : Tok → Prop
  | ⟨K_, S_, Line_, Col_⟩ => S_.size ≤ lim
def Tok.smallL : List Tok → Prop
  | [] => True
  | x :: l => x.small ∧ Tok.smallL l
theorem Tok.smallL_iff : ∀ {l : List Tok}, Tok.smallL l ↔ ∀ x ∈ l, x.small
  | [] => by simp [Tok.smallL]
  | x :: l => by simp [Tok.smallL, Tok.smallL_iff (l := l)]
theorem Tok.costL_eq : ∀ (l : List Tok), Tok.costL l = sumC Tok.cost l
  | [] => rfl
  | x :: l => by simp [Tok.costL, sumC, Tok.costL_eq l]
theorem Tok.cost_eq (t : Tok) : t.cost = t.S.size := by
  cases t; simp only [Tok.cost]
theorem Tok.small_eq (t : Tok) : t.small ↔ t.S.size ≤ lim := by
  cases t; simp only [Tok.small]
theorem Tok.ext' {a b : Tok} (h0 : a.K = b.K) (h1 : a.S = b.S) (h2 : a.Line = b.Line) (h3 : a.Col = b.Col) : a = b := by
  cases a; cases b; simp_all
namespace Q
theorem szTokS_of (l : List Tok) (hl : l.length ≤ lim) (IH : ∀ x ∈ l, ∀ left : Int, 0 ≤ left → left ≤ 1048576 → M.laws_szTok (x, left) = some (rest x.cost left)) (left : Int) (h0 : 0 ≤ left) (h1 : left ≤ 1048576) : M.laws_szTokS (l, left) = some (rest (l.length + sumC Tok.cost l) left) := by
  have hlim : lim = 140737488355328 := rfl
  rw [M.laws_szTokS]; try dsimp only
  rw [wrap_ok (by omega)]
  by_cases hk : left - ((l.length : Nat) : Int) < 0
  · rw [if_pos hk, rest_neg (by omega)]
  rw [if_neg hk]
  have hloop : M.laws_szTokS_L0 (l, left - ((l.length : Nat) : Int), 0) = _ := szLoop Tok.cost hl (L := fun b i => M.laws_szTokS_L0 (l, b, i)) (fun b i x hx hix hb0 hb1 hi hw => by
    show M.laws_szTokS_L0 (l, b, i) = _
    rw [M.laws_szTokS_L0]; try dsimp only
    rw [if_pos hi, hix, bind_some', IH x (List.mem_of_getElem? hx) b hb0 hb1, bind_some', hw]) (fun b => by
    show M.laws_szTokS_L0 (l, b, _) = _
    rw [M.laws_szTokS_L0]; try dsimp only
    rw [if_neg (by omega)]) (by omega) (by omega)
  rw [hloop, bind_some']
  by_cases hr : ((sumC Tok.cost l : Nat) : Int) ≤ left - ((l.length : Nat) : Int)
  · rw [rest_pos hr, if_neg (by omega), rest_pos (by omega)]; try dsimp only; congr 1; omega
  · rw [rest_neg hr, if_pos (by omega), rest_neg (by omega)]
theorem toTokS_of (l : List Tok) (h : l.length ≤ 1048576) (IH : ∀ x ∈ l, M.laws_toTok x = some x) : M.laws_toTokS l = some l := by
  have hlim : lim = 140737488355328 := rfl
  rw [M.laws_toTokS, gd_t (by omega), bind_some', gd_t (by omega), bind_some']
  have hloop : ∀ z, M.laws_toTokS_L0 (l, 0, List.replicate l.length z) = some l := fun z => setLoop (by omega) (by simp) (L := fun i o => M.laws_toTokS_L0 (l, i, o)) (fun i x o hx hix ho hi hw => by
    show M.laws_toTokS_L0 (l, i, o) = _
    rw [M.laws_toTokS_L0]; try dsimp only
    rw [if_pos hi, hix, bind_some', IH x (List.mem_of_getElem? hx), bind_some', gd_t (by omega), bind_some', gd_t (by omega), bind_some', hw]
    rfl) (fun o => by
    show M.laws_toTokS_L0 (l, _, o) = _
    rw [M.laws_toTokS_L0]; try dsimp only
    rw [if_neg (by omega)])
  rw [hloop]; rfl
open Classical in
theorem eqTokS_of (l l' : List Tok) (hl : l.length ≤ lim) (IH : ∀ x ∈ l, ∀ y, M.laws_eqTok (x, y) = some (decide (x = y))) : M.laws_eqTokS (l, l') = some (decide (l = l')) := by
  have hlim : lim = 140737488355328 := rfl
  rw [M.laws_eqTokS]; try dsimp only
  by_cases hlen : l.length = l'.length
  rotate_left
  · rw [if_neg (by omega)]
    rw [decide_eq_false (fun e => hlen (by rw [e]))]
  rw [if_pos (by omega)]
  have hloop : M.laws_eqTokS_L0 (l, l', 0) = _ := eqLoop hl hlen (L := fun i => M.laws_eqTokS_L0 (l, l', i)) (fun i x y hx hy hix hiy hi hw => by
    show M.laws_eqTokS_L0 (l, l', i) = _
    rw [M.laws_eqTokS_L0]; try dsimp only
    rw [if_pos hi, hix, bind_some', hiy, bind_some', hw]
    rw [IH x (List.mem_of_getElem? hx) y, bind_some']
    by_cases e : x = y
    · rw [if_pos (decide_eq_true e), if_pos e]
    · rw [if_neg (by simpa using e), if_neg e]) (by
    show M.laws_eqTokS_L0 (l, l', _) = _
    rw [M.laws_eqTokS_L0]; try dsimp only
    rw [if_neg (by omega)])
  rw [hloop, bind_some']
  by_cases e : l = l'
  · rw [if_pos e, decide_eq_true e]
  · rw [if_neg e, decide_eq_false e]
theorem szTok : ∀ t : Tok, t.small → ∀ left : Int, 0 ≤ left → left ≤ 1048576 → M.laws_szTok (t, left) = some (rest t.cost left) := by
  intro t
  intro hs left h0 h1
  have hlim : lim = 140737488355328 := rfl
  obtain hq_S := (Tok.small_eq t).1 hs
  have hcost := Tok.cost_eq t
  rw [M.laws_szTok]; try dsimp only
  rw [wrap_ok (by omega)]
  by_cases hk_S : left - ((t.S.size : Nat) : Int) < 0
  · rw [if_pos hk_S, rest_neg (by omega)]
  rw [if_neg hk_S]
  rw [rest_pos (by omega)]; try congr 1; try omega
theorem toTok : ∀ t : Tok, t.cost ≤ 1048576 → M.laws_toTok t = some t := by
  intro t
  intro hc
  have hlim : lim = 140737488355328 := rfl
  have hcost := Tok.cost_eq t
  rw [M.laws_toTok]; try dsimp only
  all_goals first | rfl | (cases t; rfl)
open Classical in
theorem eqTok : ∀ t : Tok, t.small → ∀ u : Tok, M.laws_eqTok (t, u) = some (decide (t = u)) := by
  intro t
  intro hs u
  have hlim : lim = 140737488355328 := rfl
  obtain hq_S := (Tok.small_eq t).1 hs
  rw [M.laws_eqTok]; try dsimp only
  by_cases hk_K : t.K = u.K
  rotate_left
  · rw [if_neg hk_K, decide_eq_false (fun e => hk_K (by rw [e]))]
  rw [if_pos hk_K]
  by_cases hk_S : t.S = u.S
  rotate_left
  · rw [if_neg hk_S, decide_eq_false (fun e => hk_S (by rw [e]))]
  rw [if_pos hk_S]
  by_cases hk_Line : t.Line = u.Line
  rotate_left
  · rw [if_neg hk_Line, decide_eq_false (fun e => hk_Line (by rw [e]))]
  rw [if_pos hk_Line]
  by_cases hk_Col : t.Col = u.Col
  rotate_left
  · rw [if_neg hk_Col, decide_eq_false (fun e => hk_Col (by rw [e]))]
  rw [if_pos hk_Col]
  rw [decide_eq_true (Tok.ext' hk_K hk_S hk_Line hk_Col)]
end Q
end W
