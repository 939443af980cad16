import Derived.Test.YtnhdobhfebiggaaDoorUMir
import Derived.Test.YtnhdobhfebiggaaDoorHLP
namespace W
set_option linter.unusedSimpArgs false
set_option linter.unusedVariables false
open Go HL
set_option linter.unusedVariables false
set_option maxRecDepth 100000
set_option maxHeartbeats 4000000
namespace Q
def i64 (n : Int) : Prop := -9223372036854775808 ≤ n ∧ n ≤ 9223372036854775807
def strOk (l : List ByteArray) : Prop := l.length ≤ lim ∧ ∀ s ∈ l, s.size ≤ lim
end Q
mutual
def Res.cost : Res → Nat
  | ⟨K_, S_, N_, L_⟩ => S_.size + (L_.length + Res.costL L_)
def Res.costL : List Res → Nat
  | [] => 0
  | x :: l => x.cost + Res.costL l
end
mutual
def Res.small : Res → Prop
  | ⟨K_, S_, N_, L_⟩ => Q.i64 K_ ∧ S_.size ≤ lim ∧ Q.i64 N_ ∧ L_.length ≤ lim ∧ Res.smallL L_
def Res.smallL : List Res → Prop
  | [] => True
  | x :: l => x.small ∧ Res.smallL l
end
theorem Res.smallL_iff : ∀ {l : List Res}, Res.smallL l ↔ ∀ x ∈ l, x.small
  | [] => by simp [Res.smallL]
  | x :: l => by simp [Res.smallL, Res.smallL_iff (l := l)]
theorem Res.costL_eq : ∀ (l : List Res), Res.costL l = sumC Res.cost l
  | [] => rfl
  | x :: l => by simp [Res.costL, sumC, Res.costL_eq l]
theorem Res.cost_eq (t : Res) : t.cost = t.S.size + (t.L.length + sumC Res.cost t.L) := by
  cases t; simp only [Res.cost, Res.costL_eq]
theorem Res.small_eq (t : Res) : t.small ↔ Q.i64 t.K ∧ t.S.size ≤ lim ∧ Q.i64 t.N ∧ t.L.length ≤ lim ∧ (∀ x ∈ t.L, x.small) := by
  cases t; simp only [Res.small, Res.smallL_iff]
theorem Res.ext' {a b : Res} (h0 : a.K = b.K) (h1 : a.S = b.S) (h2 : a.N = b.N) (h3 : a.L = b.L) : a = b := by
  cases a; cases b; simp_all
mutual
theorem Res.ind {M0 : Res → Prop} (h0 : ∀ t : Res, (∀ x ∈ t.L, M0 x) → M0 t) : ∀ t : Res, M0 t
  | ⟨K_, S_, N_, L_⟩ => h0 _ (Res.indL h0 L_)
theorem Res.indL {M0 : Res → Prop} (h0 : ∀ t : Res, (∀ x ∈ t.L, M0 x) → M0 t) : ∀ l : List Res, ∀ x ∈ l, M0 x
  | [] => fun x hx => by cases hx
  | y :: l => fun x hx => (List.mem_cons.1 hx).elim (fun e => e ▸ Res.ind h0 y) (fun h => Res.indL h0 l x h)
end
namespace Q
theorem szResS_of (l : List Res) (hl : l.length ≤ lim) (IH : ∀ x ∈ l, ∀ left : Int, 0 ≤ left → left ≤ 1048576 → M.laws_szRes (x, left) = some (rest x.cost left)) (left : Int) (h0 : 0 ≤ left) (h1 : left ≤ 1048576) : M.laws_szResS (l, left) = some (rest (l.length + sumC Res.cost l) left) := by
  have hlim : lim = 140737488355328 := rfl
  rw [M.laws_szResS]; try dsimp only
  rw [wrap_ok (by omega)]
  by_cases hk : left - ((l.length : Nat) : Int) < 0
  · rw [if_pos hk, rest_neg (by omega)]
  rw [if_neg hk]
  have hloop : M.laws_szResS_L0 (l, left - ((l.length : Nat) : Int), 0) = _ := szLoop Res.cost hl (L := fun b i => M.laws_szResS_L0 (l, b, i)) (fun b i x hx hix hb0 hb1 hi hw => by
    show M.laws_szResS_L0 (l, b, i) = _
    rw [M.laws_szResS_L0]; try dsimp only
    rw [if_pos hi, hix, bind_some', IH x (List.mem_of_getElem? hx) b hb0 hb1, bind_some', hw]) (fun b => by
    show M.laws_szResS_L0 (l, b, _) = _
    rw [M.laws_szResS_L0]; try dsimp only
    rw [if_neg (by omega)]) (by omega) (by omega)
  rw [hloop, bind_some']
  by_cases hr : ((sumC Res.cost l : Nat) : Int) ≤ left - ((l.length : Nat) : Int)
  · rw [rest_pos hr, if_neg (by omega), rest_pos (by omega)]; try dsimp only; congr 1; omega
  · rw [rest_neg hr, if_pos (by omega), rest_neg (by omega)]
theorem toResS_of (l : List Res) (h : l.length ≤ 1048576) (IH : ∀ x ∈ l, M.laws_toRes x = some x) : M.laws_toResS l = some l := by
  have hlim : lim = 140737488355328 := rfl
  rw [M.laws_toResS, gd_t (by omega), bind_some', gd_t (by omega), bind_some']
  have hloop : ∀ z, M.laws_toResS_L0 (l, 0, List.replicate l.length z) = some l := fun z => setLoop (by omega) (by simp) (L := fun i o => M.laws_toResS_L0 (l, i, o)) (fun i x o hx hix ho hi hw => by
    show M.laws_toResS_L0 (l, i, o) = _
    rw [M.laws_toResS_L0]; try dsimp only
    rw [if_pos hi, hix, bind_some', IH x (List.mem_of_getElem? hx), bind_some', gd_t (by omega), bind_some', gd_t (by omega), bind_some', hw]
    rfl) (fun o => by
    show M.laws_toResS_L0 (l, _, o) = _
    rw [M.laws_toResS_L0]; try dsimp only
    rw [if_neg (by omega)])
  rw [hloop]; rfl
open Classical in
theorem eqResS_of (l l' : List Res) (hl : l.length ≤ lim) (IH : ∀ x ∈ l, ∀ y, M.laws_eqRes (x, y) = some (decide (x = y))) : M.laws_eqResS (l, l') = some (decide (l = l')) := by
  have hlim : lim = 140737488355328 := rfl
  rw [M.laws_eqResS]; try dsimp only
  by_cases hlen : l.length = l'.length
  rotate_left
  · rw [if_neg (by omega)]
    rw [decide_eq_false (fun e => hlen (by rw [e]))]
  rw [if_pos (by omega)]
  have hloop : M.laws_eqResS_L0 (l, l', 0) = _ := eqLoop hl hlen (L := fun i => M.laws_eqResS_L0 (l, l', i)) (fun i x y hx hy hix hiy hi hw => by
    show M.laws_eqResS_L0 (l, l', i) = _
    rw [M.laws_eqResS_L0]; try dsimp only
    rw [if_pos hi, hix, bind_some', hiy, bind_some', hw]
    rw [IH x (List.mem_of_getElem? hx) y, bind_some']
    by_cases e : x = y
    · rw [if_pos (decide_eq_true e), if_pos e]
    · rw [if_neg (by simpa using e), if_neg e]) (by
    show M.laws_eqResS_L0 (l, l', _) = _
    rw [M.laws_eqResS_L0]; try dsimp only
    rw [if_neg (by omega)])
  rw [hloop, bind_some']
  by_cases e : l = l'
  · rw [if_pos e, decide_eq_true e]
  · rw [if_neg e, decide_eq_false e]
theorem szRes_all : (∀ t : Res, t.small → ∀ left : Int, 0 ≤ left → left ≤ 1048576 → M.laws_szRes (t, left) = some (rest t.cost left)) := by
  have h0 : ∀ t : Res, (∀ x ∈ t.L, (x.small → ∀ left : Int, 0 ≤ left → left ≤ 1048576 → M.laws_szRes (x, left) = some (rest x.cost left))) → (t.small → ∀ left : Int, 0 ≤ left → left ≤ 1048576 → M.laws_szRes (t, left) = some (rest t.cost left)) := by
    intro t ih0
    intro hs left h0 h1
    have hlim : lim = 140737488355328 := rfl
    obtain ⟨hq_K, hq_S, hq_N, hl_L, hm_L⟩ := (Res.small_eq t).1 hs
    have hcost := Res.cost_eq t
    rw [M.laws_szRes]; try dsimp only
    rw [wrap_ok (by omega)]
    by_cases hk_S : left - ((t.S.size : Nat) : Int) < 0
    · rw [if_pos hk_S, rest_neg (by omega)]
    rw [if_neg hk_S]
    rw [szResS_of _ hl_L (fun x hx => ih0 x hx (hm_L x hx)) _ (by omega) (by omega), bind_some']
    by_cases hk_L : ((t.L.length + sumC Res.cost t.L : Nat) : Int) ≤ left - ((t.S.size : Nat) : Int)
    rotate_left
    · rw [rest_neg hk_L, if_pos (by omega), rest_neg (by omega)]
    rw [rest_pos hk_L, if_neg (by omega)]
    rw [rest_pos (by omega)]; try congr 1; try omega
  exact fun t => Res.ind h0 t
theorem szRes : ∀ t : Res, t.small → ∀ left : Int, 0 ≤ left → left ≤ 1048576 → M.laws_szRes (t, left) = some (rest t.cost left) := szRes_all
theorem toRes_all : (∀ t : Res, t.cost ≤ 1048576 → M.laws_toRes t = some t) := by
  have h0 : ∀ t : Res, (∀ x ∈ t.L, (x.cost ≤ 1048576 → M.laws_toRes x = some x)) → (t.cost ≤ 1048576 → M.laws_toRes t = some t) := by
    intro t ih0
    intro hc
    have hlim : lim = 140737488355328 := rfl
    have hcost := Res.cost_eq t
    rw [M.laws_toRes]; try dsimp only
    have hm_L : ∀ x ∈ t.L, x.cost ≤ 1048576 := fun x hx => by have := sumC_mem (c := Res.cost) hx; omega
    rw [toResS_of _ (by omega) (fun x hx => ih0 x hx (hm_L x hx)), bind_some']
    all_goals first | rfl | (cases t; rfl)
  exact fun t => Res.ind h0 t
theorem toRes : ∀ t : Res, t.cost ≤ 1048576 → M.laws_toRes t = some t := toRes_all
open Classical in
theorem eqRes_all : (∀ t : Res, t.small → ∀ u : Res, M.laws_eqRes (t, u) = some (decide (t = u))) := by
  have h0 : ∀ t : Res, (∀ x ∈ t.L, (x.small → ∀ u : Res, M.laws_eqRes (x, u) = some (decide (x = u)))) → (t.small → ∀ u : Res, M.laws_eqRes (t, u) = some (decide (t = u))) := by
    intro t ih0
    intro hs u
    have hlim : lim = 140737488355328 := rfl
    obtain ⟨hq_K, hq_S, hq_N, hl_L, hm_L⟩ := (Res.small_eq t).1 hs
    rw [M.laws_eqRes]; try dsimp only
    by_cases hk_K : t.K = u.K
    rotate_left
    · rw [if_neg hk_K, decide_eq_false (fun e => hk_K (by rw [e]))]
    rw [if_pos hk_K]
    by_cases hk_S : t.S = u.S
    rotate_left
    · rw [if_neg hk_S, decide_eq_false (fun e => hk_S (by rw [e]))]
    rw [if_pos hk_S]
    by_cases hk_N : t.N = u.N
    rotate_left
    · rw [if_neg hk_N, decide_eq_false (fun e => hk_N (by rw [e]))]
    rw [if_pos hk_N]
    rw [eqResS_of _ _ hl_L (fun x hx => ih0 x hx (hm_L x hx)), bind_some']
    by_cases hk_L : t.L = u.L
    rotate_left
    · rw [if_neg (by simpa using hk_L), decide_eq_false (fun e => hk_L (by rw [e]))]
    rw [if_pos (decide_eq_true hk_L)]
    rw [decide_eq_true (Res.ext' hk_K hk_S hk_N hk_L)]
  exact fun t => Res.ind h0 t
open Classical in
theorem eqRes : ∀ t : Res, t.small → ∀ u : Res, M.laws_eqRes (t, u) = some (decide (t = u)) := eqRes_all
end Q
end W
