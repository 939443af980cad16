import Derived.Test.YtnhdobhfebiggaaEMir
import Derived.Test.YtnhdobhfebiggaaHLP
namespace W
set_option linter.unusedSimpArgs false
set_option linter.unusedVariables false
open Go HL
set_option linter.unusedVariables false
set_option maxRecDepth 100000
set_option maxHeartbeats 4000000
namespace Q
def strOk (l : List ByteArray) : Prop := l.length ≤ lim ∧ ∀ s ∈ l, s.size ≤ lim
theorem szStringS (l : List ByteArray) (h : strOk l) (left : Int) (h0 : 0 ≤ left) (h1 : left ≤ 1048576) : M.laws_szStringS (l, left) = some (rest (l.length + sumC ByteArray.size l) left) := by
  obtain ⟨hl, hs⟩ := h
  have hlim : lim = 140737488355328 := rfl
  rw [M.laws_szStringS]; try dsimp only
  rw [wrap_ok (by omega)]
  by_cases hk : left - ((l.length : Nat) : Int) < 0
  · rw [if_pos hk, rest_neg (by omega)]
  rw [if_neg hk]
  have hloop : M.laws_szStringS_L0 (l, left - ((l.length : Nat) : Int), 0) = _ := szLoop ByteArray.size hl (L := fun b i => M.laws_szStringS_L0 (l, b, i)) (fun b i x hx hix hb0 hb1 hi hw => by
    show M.laws_szStringS_L0 (l, b, i) = _
    rw [M.laws_szStringS_L0]; try dsimp only
    have hsx := hs x (List.mem_of_getElem? hx)
    rw [if_pos hi, hix, bind_some', hw, wrap_ok (by omega)]
    by_cases hr : (x.size : Int) ≤ b
    · rw [rest_pos hr]
    · rw [rest_neg hr, if_pos (by omega), if_pos (by omega)]) (fun b => by
    show M.laws_szStringS_L0 (l, b, _) = _
    rw [M.laws_szStringS_L0]; try dsimp only
    rw [if_neg (by omega)]) (by omega) (by omega)
  rw [hloop, bind_some']
  by_cases hr : ((sumC ByteArray.size l : Nat) : Int) ≤ left - ((l.length : Nat) : Int)
  · rw [rest_pos hr, if_neg (by omega), rest_pos (by omega)]; try dsimp only; congr 1; omega
  · rw [rest_neg hr, if_pos (by omega), rest_neg (by omega)]
theorem toStringS (l : List ByteArray) (h : l.length ≤ 1048576) : M.laws_toStringS l = some l := by
  have hlim : lim = 140737488355328 := rfl
  rw [M.laws_toStringS, gd_t (by omega), bind_some', gd_t (by omega), bind_some']
  have hloop : ∀ z, M.laws_toStringS_L0 (l, 0, List.replicate l.length z) = some l := fun z => setLoop (by omega) (by simp) (L := fun i o => M.laws_toStringS_L0 (l, i, o)) (fun i x o hx hix ho hi hw => by
    show M.laws_toStringS_L0 (l, i, o) = _
    rw [M.laws_toStringS_L0]; try dsimp only
    rw [if_pos hi, hix, bind_some', gd_t (by omega), bind_some', gd_t (by omega), bind_some', hw]
    rfl) (fun o => by
    show M.laws_toStringS_L0 (l, _, o) = _
    rw [M.laws_toStringS_L0]; try dsimp only
    rw [if_neg (by omega)])
  rw [hloop]; rfl
open Classical in
theorem eqStringS (l l' : List ByteArray) (hl : l.length ≤ lim) : M.laws_eqStringS (l, l') = some (decide (l = l')) := by
  have hlim : lim = 140737488355328 := rfl
  rw [M.laws_eqStringS]; try dsimp only
  by_cases hlen : l.length = l'.length
  rotate_left
  · rw [if_neg (by omega)]
    rw [decide_eq_false (fun e => hlen (by rw [e]))]
  rw [if_pos (by omega)]
  have hloop : M.laws_eqStringS_L0 (l, l', 0) = _ := eqLoop hl hlen (L := fun i => M.laws_eqStringS_L0 (l, l', i)) (fun i x y hx hy hix hiy hi hw => by
    show M.laws_eqStringS_L0 (l, l', i) = _
    rw [M.laws_eqStringS_L0]; try dsimp only
    rw [if_pos hi, hix, bind_some', hiy, bind_some', hw]
    by_cases e : x = y
    · rw [if_pos e, if_pos e]
    · rw [if_neg e, if_neg e]) (by
    show M.laws_eqStringS_L0 (l, l', _) = _
    rw [M.laws_eqStringS_L0]; try dsimp only
    rw [if_neg (by omega)])
  rw [hloop, bind_some']
  by_cases e : l = l'
  · rw [if_pos e, decide_eq_true e]
  · rw [if_neg e, decide_eq_false e]
end Q
mutual
def Alt.cost : Alt → Nat
  | ⟨Great_, Vars_, E_⟩ => Great_.size + (Vars_.length + sumC ByteArray.size Vars_) + Exp.cost E_
def Alt.costL : List Alt → Nat
  | [] => 0
  | x :: l => x.cost + Alt.costL l
def Dec.cost : Dec → Nat
  | ⟨Name_, Pars_, E_, Where_⟩ => Name_.size + (Pars_.length + sumC ByteArray.size Pars_) + Exp.cost E_ + (Where_.length + Dec.costL Where_)
def Dec.costL : List Dec → Nat
  | [] => 0
  | x :: l => x.cost + Dec.costL l
def Exp.cost : Exp → Nat
  | ⟨K_, S_, N_, L_, Decs_, Alts_⟩ => S_.size + (L_.length + Exp.costL L_) + (Decs_.length + Dec.costL Decs_) + (Alts_.length + Alt.costL Alts_)
def Exp.costL : List Exp → Nat
  | [] => 0
  | x :: l => x.cost + Exp.costL l
end
mutual
def Alt.small : Alt → Prop
  | ⟨Great_, Vars_, E_⟩ => Great_.size ≤ lim ∧ Q.strOk Vars_ ∧ Exp.small E_
def Alt.smallL : List Alt → Prop
  | [] => True
  | x :: l => x.small ∧ Alt.smallL l
def Dec.small : Dec → Prop
  | ⟨Name_, Pars_, E_, Where_⟩ => Name_.size ≤ lim ∧ Q.strOk Pars_ ∧ Exp.small E_ ∧ Where_.length ≤ lim ∧ Dec.smallL Where_
def Dec.smallL : List Dec → Prop
  | [] => True
  | x :: l => x.small ∧ Dec.smallL l
def Exp.small : Exp → Prop
  | ⟨K_, S_, N_, L_, Decs_, Alts_⟩ => S_.size ≤ lim ∧ L_.length ≤ lim ∧ Exp.smallL L_ ∧ Decs_.length ≤ lim ∧ Dec.smallL Decs_ ∧ Alts_.length ≤ lim ∧ Alt.smallL Alts_
def Exp.smallL : List Exp → Prop
  | [] => True
  | x :: l => x.small ∧ Exp.smallL l
end
theorem Alt.smallL_iff : ∀ {l : List Alt}, Alt.smallL l ↔ ∀ x ∈ l, x.small
  | [] => by simp [Alt.smallL]
  | x :: l => by simp [Alt.smallL, Alt.smallL_iff (l := l)]
theorem Alt.costL_eq : ∀ (l : List Alt), Alt.costL l = sumC Alt.cost l
  | [] => rfl
  | x :: l => by simp [Alt.costL, sumC, Alt.costL_eq l]
theorem Alt.cost_eq (t : Alt) : t.cost = t.Great.size + (t.Vars.length + sumC ByteArray.size t.Vars) + t.E.cost := by
  cases t; simp only [Alt.cost]
theorem Alt.small_eq (t : Alt) : t.small ↔ t.Great.size ≤ lim ∧ Q.strOk t.Vars ∧ t.E.small := by
  cases t; simp only [Alt.small]
theorem Alt.ext' {a b : Alt} (h0 : a.Great = b.Great) (h1 : a.Vars = b.Vars) (h2 : a.E = b.E) : a = b := by
  cases a; cases b; simp_all
theorem Dec.smallL_iff : ∀ {l : List Dec}, Dec.smallL l ↔ ∀ x ∈ l, x.small
  | [] => by simp [Dec.smallL]
  | x :: l => by simp [Dec.smallL, Dec.smallL_iff (l := l)]
theorem Dec.costL_eq : ∀ (l : List Dec), Dec.costL l = sumC Dec.cost l
  | [] => rfl
  | x :: l => by simp [Dec.costL, sumC, Dec.costL_eq l]
theorem Dec.cost_eq (t : Dec) : t.cost = t.Name.size + (t.Pars.length + sumC ByteArray.size t.Pars) + t.E.cost + (t.Where.length + sumC Dec.cost t.Where) := by
  cases t; simp only [Dec.cost, Dec.costL_eq]
theorem Dec.small_eq (t : Dec) : t.small ↔ t.Name.size ≤ lim ∧ Q.strOk t.Pars ∧ t.E.small ∧ t.Where.length ≤ lim ∧ (∀ x ∈ t.Where, x.small) := by
  cases t; simp only [Dec.small, Dec.smallL_iff]
theorem Dec.ext' {a b : Dec} (h0 : a.Name = b.Name) (h1 : a.Pars = b.Pars) (h2 : a.E = b.E) (h3 : a.Where = b.Where) : a = b := by
  cases a; cases b; simp_all
theorem Exp.smallL_iff : ∀ {l : List Exp}, Exp.smallL l ↔ ∀ x ∈ l, x.small
  | [] => by simp [Exp.smallL]
  | x :: l => by simp [Exp.smallL, Exp.smallL_iff (l := l)]
theorem Exp.costL_eq : ∀ (l : List Exp), Exp.costL l = sumC Exp.cost l
  | [] => rfl
  | x :: l => by simp [Exp.costL, sumC, Exp.costL_eq l]
theorem Exp.cost_eq (t : Exp) : t.cost = t.S.size + (t.L.length + sumC Exp.cost t.L) + (t.Decs.length + sumC Dec.cost t.Decs) + (t.Alts.length + sumC Alt.cost t.Alts) := by
  cases t; simp only [Exp.cost, Exp.costL_eq, Dec.costL_eq, Alt.costL_eq]
theorem Exp.small_eq (t : Exp) : t.small ↔ t.S.size ≤ lim ∧ t.L.length ≤ lim ∧ (∀ x ∈ t.L, x.small) ∧ t.Decs.length ≤ lim ∧ (∀ x ∈ t.Decs, x.small) ∧ t.Alts.length ≤ lim ∧ (∀ x ∈ t.Alts, x.small) := by
  cases t; simp only [Exp.small, Exp.smallL_iff, Dec.smallL_iff, Alt.smallL_iff]
theorem Exp.ext' {a b : Exp} (h0 : a.K = b.K) (h1 : a.S = b.S) (h2 : a.N = b.N) (h3 : a.L = b.L) (h4 : a.Decs = b.Decs) (h5 : a.Alts = b.Alts) : a = b := by
  cases a; cases b; simp_all
mutual
theorem Alt.ind {M0 : Alt → Prop} {M1 : Dec → Prop} {M2 : Exp → Prop} (h0 : ∀ t : Alt, M2 t.E → M0 t) (h1 : ∀ t : Dec, M2 t.E → (∀ x ∈ t.Where, M1 x) → M1 t) (h2 : ∀ t : Exp, (∀ x ∈ t.L, M2 x) → (∀ x ∈ t.Decs, M1 x) → (∀ x ∈ t.Alts, M0 x) → M2 t) : ∀ t : Alt, M0 t
  | ⟨Great_, Vars_, E_⟩ => h0 _ (Exp.ind h0 h1 h2 E_)
theorem Alt.indL {M0 : Alt → Prop} {M1 : Dec → Prop} {M2 : Exp → Prop} (h0 : ∀ t : Alt, M2 t.E → M0 t) (h1 : ∀ t : Dec, M2 t.E → (∀ x ∈ t.Where, M1 x) → M1 t) (h2 : ∀ t : Exp, (∀ x ∈ t.L, M2 x) → (∀ x ∈ t.Decs, M1 x) → (∀ x ∈ t.Alts, M0 x) → M2 t) : ∀ l : List Alt, ∀ x ∈ l, M0 x
  | [] => fun x hx => by cases hx
  | y :: l => fun x hx => (List.mem_cons.1 hx).elim (fun e => e ▸ Alt.ind h0 h1 h2 y) (fun h => Alt.indL h0 h1 h2 l x h)
theorem Dec.ind {M0 : Alt → Prop} {M1 : Dec → Prop} {M2 : Exp → Prop} (h0 : ∀ t : Alt, M2 t.E → M0 t) (h1 : ∀ t : Dec, M2 t.E → (∀ x ∈ t.Where, M1 x) → M1 t) (h2 : ∀ t : Exp, (∀ x ∈ t.L, M2 x) → (∀ x ∈ t.Decs, M1 x) → (∀ x ∈ t.Alts, M0 x) → M2 t) : ∀ t : Dec, M1 t
  | ⟨Name_, Pars_, E_, Where_⟩ => h1 _ (Exp.ind h0 h1 h2 E_) (Dec.indL h0 h1 h2 Where_)
theorem Dec.indL {M0 : Alt → Prop} {M1 : Dec → Prop} {M2 : Exp → Prop} (h0 : ∀ t : Alt, M2 t.E → M0 t) (h1 : ∀ t : Dec, M2 t.E → (∀ x ∈ t.Where, M1 x) → M1 t) (h2 : ∀ t : Exp, (∀ x ∈ t.L, M2 x) → (∀ x ∈ t.Decs, M1 x) → (∀ x ∈ t.Alts, M0 x) → M2 t) : ∀ l : List Dec, ∀ x ∈ l, M1 x
  | [] => fun x hx => by cases hx
  | y :: l => fun x hx => (List.mem_cons.1 hx).elim (fun e => e ▸ Dec.ind h0 h1 h2 y) (fun h => Dec.indL h0 h1 h2 l x h)
theorem Exp.ind {M0 : Alt → Prop} {M1 : Dec → Prop} {M2 : Exp → Prop} (h0 : ∀ t : Alt, M2 t.E → M0 t) (h1 : ∀ t : Dec, M2 t.E → (∀ x ∈ t.Where, M1 x) → M1 t) (h2 : ∀ t : Exp, (∀ x ∈ t.L, M2 x) → (∀ x ∈ t.Decs, M1 x) → (∀ x ∈ t.Alts, M0 x) → M2 t) : ∀ t : Exp, M2 t
  | ⟨K_, S_, N_, L_, Decs_, Alts_⟩ => h2 _ (Exp.indL h0 h1 h2 L_) (Dec.indL h0 h1 h2 Decs_) (Alt.indL h0 h1 h2 Alts_)
theorem Exp.indL {M0 : Alt → Prop} {M1 : Dec → Prop} {M2 : Exp → Prop} (h0 : ∀ t : Alt, M2 t.E → M0 t) (h1 : ∀ t : Dec, M2 t.E → (∀ x ∈ t.Where, M1 x) → M1 t) (h2 : ∀ t : Exp, (∀ x ∈ t.L, M2 x) → (∀ x ∈ t.Decs, M1 x) → (∀ x ∈ t.Alts, M0 x) → M2 t) : ∀ l : List Exp, ∀ x ∈ l, M2 x
  | [] => fun x hx => by cases hx
  | y :: l => fun x hx => (List.mem_cons.1 hx).elim (fun e => e ▸ Exp.ind h0 h1 h2 y) (fun h => Exp.indL h0 h1 h2 l x h)
end
namespace Q
theorem szAltS_of (l : List Alt) (hl : l.length ≤ lim) (IH : ∀ x ∈ l, ∀ left : Int, 0 ≤ left → left ≤ 1048576 → M.laws_szAlt (x, left) = some (rest x.cost left)) (left : Int) (h0 : 0 ≤ left) (h1 : left ≤ 1048576) : M.laws_szAltS (l, left) = some (rest (l.length + sumC Alt.cost l) left) := by
  have hlim : lim = 140737488355328 := rfl
  rw [M.laws_szAltS]; try dsimp only
  rw [wrap_ok (by omega)]
  by_cases hk : left - ((l.length : Nat) : Int) < 0
  · rw [if_pos hk, rest_neg (by omega)]
  rw [if_neg hk]
  have hloop : M.laws_szAltS_L0 (l, left - ((l.length : Nat) : Int), 0) = _ := szLoop Alt.cost hl (L := fun b i => M.laws_szAltS_L0 (l, b, i)) (fun b i x hx hix hb0 hb1 hi hw => by
    show M.laws_szAltS_L0 (l, b, i) = _
    rw [M.laws_szAltS_L0]; try dsimp only
    rw [if_pos hi, hix, bind_some', IH x (List.mem_of_getElem? hx) b hb0 hb1, bind_some', hw]) (fun b => by
    show M.laws_szAltS_L0 (l, b, _) = _
    rw [M.laws_szAltS_L0]; try dsimp only
    rw [if_neg (by omega)]) (by omega) (by omega)
  rw [hloop, bind_some']
  by_cases hr : ((sumC Alt.cost l : Nat) : Int) ≤ left - ((l.length : Nat) : Int)
  · rw [rest_pos hr, if_neg (by omega), rest_pos (by omega)]; try dsimp only; congr 1; omega
  · rw [rest_neg hr, if_pos (by omega), rest_neg (by omega)]
theorem toAltS_of (l : List Alt) (h : l.length ≤ 1048576) (IH : ∀ x ∈ l, M.laws_toAlt x = some x) : M.laws_toAltS l = some l := by
  have hlim : lim = 140737488355328 := rfl
  rw [M.laws_toAltS, gd_t (by omega), bind_some', gd_t (by omega), bind_some']
  have hloop : ∀ z, M.laws_toAltS_L0 (l, 0, List.replicate l.length z) = some l := fun z => setLoop (by omega) (by simp) (L := fun i o => M.laws_toAltS_L0 (l, i, o)) (fun i x o hx hix ho hi hw => by
    show M.laws_toAltS_L0 (l, i, o) = _
    rw [M.laws_toAltS_L0]; try dsimp only
    rw [if_pos hi, hix, bind_some', IH x (List.mem_of_getElem? hx), bind_some', gd_t (by omega), bind_some', gd_t (by omega), bind_some', hw]
    rfl) (fun o => by
    show M.laws_toAltS_L0 (l, _, o) = _
    rw [M.laws_toAltS_L0]; try dsimp only
    rw [if_neg (by omega)])
  rw [hloop]; rfl
open Classical in
theorem eqAltS_of (l l' : List Alt) (hl : l.length ≤ lim) (IH : ∀ x ∈ l, ∀ y, M.laws_eqAlt (x, y) = some (decide (x = y))) : M.laws_eqAltS (l, l') = some (decide (l = l')) := by
  have hlim : lim = 140737488355328 := rfl
  rw [M.laws_eqAltS]; try dsimp only
  by_cases hlen : l.length = l'.length
  rotate_left
  · rw [if_neg (by omega)]
    rw [decide_eq_false (fun e => hlen (by rw [e]))]
  rw [if_pos (by omega)]
  have hloop : M.laws_eqAltS_L0 (l, l', 0) = _ := eqLoop hl hlen (L := fun i => M.laws_eqAltS_L0 (l, l', i)) (fun i x y hx hy hix hiy hi hw => by
    show M.laws_eqAltS_L0 (l, l', i) = _
    rw [M.laws_eqAltS_L0]; try dsimp only
    rw [if_pos hi, hix, bind_some', hiy, bind_some', hw]
    rw [IH x (List.mem_of_getElem? hx) y, bind_some']
    by_cases e : x = y
    · rw [if_pos (decide_eq_true e), if_pos e]
    · rw [if_neg (by simpa using e), if_neg e]) (by
    show M.laws_eqAltS_L0 (l, l', _) = _
    rw [M.laws_eqAltS_L0]; try dsimp only
    rw [if_neg (by omega)])
  rw [hloop, bind_some']
  by_cases e : l = l'
  · rw [if_pos e, decide_eq_true e]
  · rw [if_neg e, decide_eq_false e]
theorem szDecS_of (l : List Dec) (hl : l.length ≤ lim) (IH : ∀ x ∈ l, ∀ left : Int, 0 ≤ left → left ≤ 1048576 → M.laws_szDec (x, left) = some (rest x.cost left)) (left : Int) (h0 : 0 ≤ left) (h1 : left ≤ 1048576) : M.laws_szDecS (l, left) = some (rest (l.length + sumC Dec.cost l) left) := by
  have hlim : lim = 140737488355328 := rfl
  rw [M.laws_szDecS]; try dsimp only
  rw [wrap_ok (by omega)]
  by_cases hk : left - ((l.length : Nat) : Int) < 0
  · rw [if_pos hk, rest_neg (by omega)]
  rw [if_neg hk]
  have hloop : M.laws_szDecS_L0 (l, left - ((l.length : Nat) : Int), 0) = _ := szLoop Dec.cost hl (L := fun b i => M.laws_szDecS_L0 (l, b, i)) (fun b i x hx hix hb0 hb1 hi hw => by
    show M.laws_szDecS_L0 (l, b, i) = _
    rw [M.laws_szDecS_L0]; try dsimp only
    rw [if_pos hi, hix, bind_some', IH x (List.mem_of_getElem? hx) b hb0 hb1, bind_some', hw]) (fun b => by
    show M.laws_szDecS_L0 (l, b, _) = _
    rw [M.laws_szDecS_L0]; try dsimp only
    rw [if_neg (by omega)]) (by omega) (by omega)
  rw [hloop, bind_some']
  by_cases hr : ((sumC Dec.cost l : Nat) : Int) ≤ left - ((l.length : Nat) : Int)
  · rw [rest_pos hr, if_neg (by omega), rest_pos (by omega)]; try dsimp only; congr 1; omega
  · rw [rest_neg hr, if_pos (by omega), rest_neg (by omega)]
theorem toDecS_of (l : List Dec) (h : l.length ≤ 1048576) (IH : ∀ x ∈ l, M.laws_toDec x = some x) : M.laws_toDecS l = some l := by
  have hlim : lim = 140737488355328 := rfl
  rw [M.laws_toDecS, gd_t (by omega), bind_some', gd_t (by omega), bind_some']
  have hloop : ∀ z, M.laws_toDecS_L0 (l, 0, List.replicate l.length z) = some l := fun z => setLoop (by omega) (by simp) (L := fun i o => M.laws_toDecS_L0 (l, i, o)) (fun i x o hx hix ho hi hw => by
    show M.laws_toDecS_L0 (l, i, o) = _
    rw [M.laws_toDecS_L0]; try dsimp only
    rw [if_pos hi, hix, bind_some', IH x (List.mem_of_getElem? hx), bind_some', gd_t (by omega), bind_some', gd_t (by omega), bind_some', hw]
    rfl) (fun o => by
    show M.laws_toDecS_L0 (l, _, o) = _
    rw [M.laws_toDecS_L0]; try dsimp only
    rw [if_neg (by omega)])
  rw [hloop]; rfl
open Classical in
theorem eqDecS_of (l l' : List Dec) (hl : l.length ≤ lim) (IH : ∀ x ∈ l, ∀ y, M.laws_eqDec (x, y) = some (decide (x = y))) : M.laws_eqDecS (l, l') = some (decide (l = l')) := by
  have hlim : lim = 140737488355328 := rfl
  rw [M.laws_eqDecS]; try dsimp only
  by_cases hlen : l.length = l'.length
  rotate_left
  · rw [if_neg (by omega)]
    rw [decide_eq_false (fun e => hlen (by rw [e]))]
  rw [if_pos (by omega)]
  have hloop : M.laws_eqDecS_L0 (l, l', 0) = _ := eqLoop hl hlen (L := fun i => M.laws_eqDecS_L0 (l, l', i)) (fun i x y hx hy hix hiy hi hw => by
    show M.laws_eqDecS_L0 (l, l', i) = _
    rw [M.laws_eqDecS_L0]; try dsimp only
    rw [if_pos hi, hix, bind_some', hiy, bind_some', hw]
    rw [IH x (List.mem_of_getElem? hx) y, bind_some']
    by_cases e : x = y
    · rw [if_pos (decide_eq_true e), if_pos e]
    · rw [if_neg (by simpa using e), if_neg e]) (by
    show M.laws_eqDecS_L0 (l, l', _) = _
    rw [M.laws_eqDecS_L0]; try dsimp only
    rw [if_neg (by omega)])
  rw [hloop, bind_some']
  by_cases e : l = l'
  · rw [if_pos e, decide_eq_true e]
  · rw [if_neg e, decide_eq_false e]
theorem szExpS_of (l : List Exp) (hl : l.length ≤ lim) (IH : ∀ x ∈ l, ∀ left : Int, 0 ≤ left → left ≤ 1048576 → M.laws_szExp (x, left) = some (rest x.cost left)) (left : Int) (h0 : 0 ≤ left) (h1 : left ≤ 1048576) : M.laws_szExpS (l, left) = some (rest (l.length + sumC Exp.cost l) left) := by
  have hlim : lim = 140737488355328 := rfl
  rw [M.laws_szExpS]; try dsimp only
  rw [wrap_ok (by omega)]
  by_cases hk : left - ((l.length : Nat) : Int) < 0
  · rw [if_pos hk, rest_neg (by omega)]
  rw [if_neg hk]
  have hloop : M.laws_szExpS_L0 (l, left - ((l.length : Nat) : Int), 0) = _ := szLoop Exp.cost hl (L := fun b i => M.laws_szExpS_L0 (l, b, i)) (fun b i x hx hix hb0 hb1 hi hw => by
    show M.laws_szExpS_L0 (l, b, i) = _
    rw [M.laws_szExpS_L0]; try dsimp only
    rw [if_pos hi, hix, bind_some', IH x (List.mem_of_getElem? hx) b hb0 hb1, bind_some', hw]) (fun b => by
    show M.laws_szExpS_L0 (l, b, _) = _
    rw [M.laws_szExpS_L0]; try dsimp only
    rw [if_neg (by omega)]) (by omega) (by omega)
  rw [hloop, bind_some']
  by_cases hr : ((sumC Exp.cost l : Nat) : Int) ≤ left - ((l.length : Nat) : Int)
  · rw [rest_pos hr, if_neg (by omega), rest_pos (by omega)]; try dsimp only; congr 1; omega
  · rw [rest_neg hr, if_pos (by omega), rest_neg (by omega)]
theorem toExpS_of (l : List Exp) (h : l.length ≤ 1048576) (IH : ∀ x ∈ l, M.laws_toExp x = some x) : M.laws_toExpS l = some l := by
  have hlim : lim = 140737488355328 := rfl
  rw [M.laws_toExpS, gd_t (by omega), bind_some', gd_t (by omega), bind_some']
  have hloop : ∀ z, M.laws_toExpS_L0 (l, 0, List.replicate l.length z) = some l := fun z => setLoop (by omega) (by simp) (L := fun i o => M.laws_toExpS_L0 (l, i, o)) (fun i x o hx hix ho hi hw => by
    show M.laws_toExpS_L0 (l, i, o) = _
    rw [M.laws_toExpS_L0]; try dsimp only
    rw [if_pos hi, hix, bind_some', IH x (List.mem_of_getElem? hx), bind_some', gd_t (by omega), bind_some', gd_t (by omega), bind_some', hw]
    rfl) (fun o => by
    show M.laws_toExpS_L0 (l, _, o) = _
    rw [M.laws_toExpS_L0]; try dsimp only
    rw [if_neg (by omega)])
  rw [hloop]; rfl
open Classical in
theorem eqExpS_of (l l' : List Exp) (hl : l.length ≤ lim) (IH : ∀ x ∈ l, ∀ y, M.laws_eqExp (x, y) = some (decide (x = y))) : M.laws_eqExpS (l, l') = some (decide (l = l')) := by
  have hlim : lim = 140737488355328 := rfl
  rw [M.laws_eqExpS]; try dsimp only
  by_cases hlen : l.length = l'.length
  rotate_left
  · rw [if_neg (by omega)]
    rw [decide_eq_false (fun e => hlen (by rw [e]))]
  rw [if_pos (by omega)]
  have hloop : M.laws_eqExpS_L0 (l, l', 0) = _ := eqLoop hl hlen (L := fun i => M.laws_eqExpS_L0 (l, l', i)) (fun i x y hx hy hix hiy hi hw => by
    show M.laws_eqExpS_L0 (l, l', i) = _
    rw [M.laws_eqExpS_L0]; try dsimp only
    rw [if_pos hi, hix, bind_some', hiy, bind_some', hw]
    rw [IH x (List.mem_of_getElem? hx) y, bind_some']
    by_cases e : x = y
    · rw [if_pos (decide_eq_true e), if_pos e]
    · rw [if_neg (by simpa using e), if_neg e]) (by
    show M.laws_eqExpS_L0 (l, l', _) = _
    rw [M.laws_eqExpS_L0]; try dsimp only
    rw [if_neg (by omega)])
  rw [hloop, bind_some']
  by_cases e : l = l'
  · rw [if_pos e, decide_eq_true e]
  · rw [if_neg e, decide_eq_false e]
theorem szAlt_all : (∀ t : Alt, t.small → ∀ left : Int, 0 ≤ left → left ≤ 1048576 → M.laws_szAlt (t, left) = some (rest t.cost left)) ∧
  (∀ t : Dec, t.small → ∀ left : Int, 0 ≤ left → left ≤ 1048576 → M.laws_szDec (t, left) = some (rest t.cost left)) ∧
  (∀ t : Exp, t.small → ∀ left : Int, 0 ≤ left → left ≤ 1048576 → M.laws_szExp (t, left) = some (rest t.cost left)) := by
  have h0 : ∀ t : Alt, (t.E.small → ∀ left : Int, 0 ≤ left → left ≤ 1048576 → M.laws_szExp (t.E, left) = some (rest t.E.cost left)) → (t.small → ∀ left : Int, 0 ≤ left → left ≤ 1048576 → M.laws_szAlt (t, left) = some (rest t.cost left)) := by
    intro t ih0
    intro hs left h0 h1
    have hlim : lim = 140737488355328 := rfl
    obtain ⟨hq_Great, hq_Vars, hq_E⟩ := (Alt.small_eq t).1 hs
    have hcost := Alt.cost_eq t
    rw [M.laws_szAlt]; try dsimp only
    rw [wrap_ok (by omega)]
    by_cases hk_Great : left - ((t.Great.size : Nat) : Int) < 0
    · rw [if_pos hk_Great, rest_neg (by omega)]
    rw [if_neg hk_Great]
    rw [szStringS _ hq_Vars _ (by omega) (by omega), bind_some']
    by_cases hk_Vars : ((t.Vars.length + sumC ByteArray.size t.Vars : Nat) : Int) ≤ left - ((t.Great.size : Nat) : Int)
    rotate_left
    · rw [rest_neg hk_Vars, if_pos (by omega), rest_neg (by omega)]
    rw [rest_pos hk_Vars, if_neg (by omega)]
    rw [ih0 hq_E _ (by omega) (by omega), bind_some']
    by_cases hk_E : ((Exp.cost t.E : Nat) : Int) ≤ left - ((t.Great.size : Nat) : Int) - ((t.Vars.length + sumC ByteArray.size t.Vars : Nat) : Int)
    rotate_left
    · rw [rest_neg hk_E, if_pos (by omega), rest_neg (by omega)]
    rw [rest_pos hk_E, if_neg (by omega)]
    rw [rest_pos (by omega)]; try congr 1; try omega
  have h1 : ∀ t : Dec, (t.E.small → ∀ left : Int, 0 ≤ left → left ≤ 1048576 → M.laws_szExp (t.E, left) = some (rest t.E.cost left)) → (∀ x ∈ t.Where, (x.small → ∀ left : Int, 0 ≤ left → left ≤ 1048576 → M.laws_szDec (x, left) = some (rest x.cost left))) → (t.small → ∀ left : Int, 0 ≤ left → left ≤ 1048576 → M.laws_szDec (t, left) = some (rest t.cost left)) := by
    intro t ih0 ih1
    intro hs left h0 h1
    have hlim : lim = 140737488355328 := rfl
    obtain ⟨hq_Name, hq_Pars, hq_E, hl_Where, hm_Where⟩ := (Dec.small_eq t).1 hs
    have hcost := Dec.cost_eq t
    rw [M.laws_szDec]; try dsimp only
    rw [wrap_ok (by omega)]
    by_cases hk_Name : left - ((t.Name.size : Nat) : Int) < 0
    · rw [if_pos hk_Name, rest_neg (by omega)]
    rw [if_neg hk_Name]
    rw [szStringS _ hq_Pars _ (by omega) (by omega), bind_some']
    by_cases hk_Pars : ((t.Pars.length + sumC ByteArray.size t.Pars : Nat) : Int) ≤ left - ((t.Name.size : Nat) : Int)
    rotate_left
    · rw [rest_neg hk_Pars, if_pos (by omega), rest_neg (by omega)]
    rw [rest_pos hk_Pars, if_neg (by omega)]
    rw [ih0 hq_E _ (by omega) (by omega), bind_some']
    by_cases hk_E : ((Exp.cost t.E : Nat) : Int) ≤ left - ((t.Name.size : Nat) : Int) - ((t.Pars.length + sumC ByteArray.size t.Pars : Nat) : Int)
    rotate_left
    · rw [rest_neg hk_E, if_pos (by omega), rest_neg (by omega)]
    rw [rest_pos hk_E, if_neg (by omega)]
    rw [szDecS_of _ hl_Where (fun x hx => ih1 x hx (hm_Where x hx)) _ (by omega) (by omega), bind_some']
    by_cases hk_Where : ((t.Where.length + sumC Dec.cost t.Where : Nat) : Int) ≤ left - ((t.Name.size : Nat) : Int) - ((t.Pars.length + sumC ByteArray.size t.Pars : Nat) : Int) - ((Exp.cost t.E : Nat) : Int)
    rotate_left
    · rw [rest_neg hk_Where, if_pos (by omega), rest_neg (by omega)]
    rw [rest_pos hk_Where, if_neg (by omega)]
    rw [rest_pos (by omega)]; try congr 1; try omega
  have h2 : ∀ t : Exp, (∀ x ∈ t.L, (x.small → ∀ left : Int, 0 ≤ left → left ≤ 1048576 → M.laws_szExp (x, left) = some (rest x.cost left))) → (∀ x ∈ t.Decs, (x.small → ∀ left : Int, 0 ≤ left → left ≤ 1048576 → M.laws_szDec (x, left) = some (rest x.cost left))) → (∀ x ∈ t.Alts, (x.small → ∀ left : Int, 0 ≤ left → left ≤ 1048576 → M.laws_szAlt (x, left) = some (rest x.cost left))) → (t.small → ∀ left : Int, 0 ≤ left → left ≤ 1048576 → M.laws_szExp (t, left) = some (rest t.cost left)) := by
    intro t ih0 ih1 ih2
    intro hs left h0 h1
    have hlim : lim = 140737488355328 := rfl
    obtain ⟨hq_S, hl_L, hm_L, hl_Decs, hm_Decs, hl_Alts, hm_Alts⟩ := (Exp.small_eq t).1 hs
    have hcost := Exp.cost_eq t
    rw [M.laws_szExp]; try dsimp only
    rw [wrap_ok (by omega)]
    by_cases hk_S : left - ((t.S.size : Nat) : Int) < 0
    · rw [if_pos hk_S, rest_neg (by omega)]
    rw [if_neg hk_S]
    rw [szExpS_of _ hl_L (fun x hx => ih0 x hx (hm_L x hx)) _ (by omega) (by omega), bind_some']
    by_cases hk_L : ((t.L.length + sumC Exp.cost t.L : Nat) : Int) ≤ left - ((t.S.size : Nat) : Int)
    rotate_left
    · rw [rest_neg hk_L, if_pos (by omega), rest_neg (by omega)]
    rw [rest_pos hk_L, if_neg (by omega)]
    rw [szDecS_of _ hl_Decs (fun x hx => ih1 x hx (hm_Decs x hx)) _ (by omega) (by omega), bind_some']
    by_cases hk_Decs : ((t.Decs.length + sumC Dec.cost t.Decs : Nat) : Int) ≤ left - ((t.S.size : Nat) : Int) - ((t.L.length + sumC Exp.cost t.L : Nat) : Int)
    rotate_left
    · rw [rest_neg hk_Decs, if_pos (by omega), rest_neg (by omega)]
    rw [rest_pos hk_Decs, if_neg (by omega)]
    rw [szAltS_of _ hl_Alts (fun x hx => ih2 x hx (hm_Alts x hx)) _ (by omega) (by omega), bind_some']
    by_cases hk_Alts : ((t.Alts.length + sumC Alt.cost t.Alts : Nat) : Int) ≤ left - ((t.S.size : Nat) : Int) - ((t.L.length + sumC Exp.cost t.L : Nat) : Int) - ((t.Decs.length + sumC Dec.cost t.Decs : Nat) : Int)
    rotate_left
    · rw [rest_neg hk_Alts, if_pos (by omega), rest_neg (by omega)]
    rw [rest_pos hk_Alts, if_neg (by omega)]
    rw [rest_pos (by omega)]; try congr 1; try omega
  exact ⟨fun t => Alt.ind h0 h1 h2 t, fun t => Dec.ind h0 h1 h2 t, fun t => Exp.ind h0 h1 h2 t⟩
theorem szAlt : ∀ t : Alt, t.small → ∀ left : Int, 0 ≤ left → left ≤ 1048576 → M.laws_szAlt (t, left) = some (rest t.cost left) := szAlt_all.1
theorem szDec : ∀ t : Dec, t.small → ∀ left : Int, 0 ≤ left → left ≤ 1048576 → M.laws_szDec (t, left) = some (rest t.cost left) := szAlt_all.2.1
theorem szExp : ∀ t : Exp, t.small → ∀ left : Int, 0 ≤ left → left ≤ 1048576 → M.laws_szExp (t, left) = some (rest t.cost left) := szAlt_all.2.2
theorem toAlt_all : (∀ t : Alt, t.cost ≤ 1048576 → M.laws_toAlt t = some t) ∧
  (∀ t : Dec, t.cost ≤ 1048576 → M.laws_toDec t = some t) ∧
  (∀ t : Exp, t.cost ≤ 1048576 → M.laws_toExp t = some t) := by
  have h0 : ∀ t : Alt, (t.E.cost ≤ 1048576 → M.laws_toExp t.E = some t.E) → (t.cost ≤ 1048576 → M.laws_toAlt t = some t) := by
    intro t ih0
    intro hc
    have hlim : lim = 140737488355328 := rfl
    have hcost := Alt.cost_eq t
    rw [M.laws_toAlt]; try dsimp only
    rw [toStringS _ (by omega), bind_some']
    rw [ih0 (by omega), bind_some']
    all_goals first | rfl | (cases t; rfl)
  have h1 : ∀ t : Dec, (t.E.cost ≤ 1048576 → M.laws_toExp t.E = some t.E) → (∀ x ∈ t.Where, (x.cost ≤ 1048576 → M.laws_toDec x = some x)) → (t.cost ≤ 1048576 → M.laws_toDec t = some t) := by
    intro t ih0 ih1
    intro hc
    have hlim : lim = 140737488355328 := rfl
    have hcost := Dec.cost_eq t
    rw [M.laws_toDec]; try dsimp only
    rw [toStringS _ (by omega), bind_some']
    rw [ih0 (by omega), bind_some']
    have hm_Where : ∀ x ∈ t.Where, x.cost ≤ 1048576 := fun x hx => by have := sumC_mem (c := Dec.cost) hx; omega
    rw [toDecS_of _ (by omega) (fun x hx => ih1 x hx (hm_Where x hx)), bind_some']
    all_goals first | rfl | (cases t; rfl)
  have h2 : ∀ t : Exp, (∀ x ∈ t.L, (x.cost ≤ 1048576 → M.laws_toExp x = some x)) → (∀ x ∈ t.Decs, (x.cost ≤ 1048576 → M.laws_toDec x = some x)) → (∀ x ∈ t.Alts, (x.cost ≤ 1048576 → M.laws_toAlt x = some x)) → (t.cost ≤ 1048576 → M.laws_toExp t = some t) := by
    intro t ih0 ih1 ih2
    intro hc
    have hlim : lim = 140737488355328 := rfl
    have hcost := Exp.cost_eq t
    rw [M.laws_toExp]; try dsimp only
    have hm_L : ∀ x ∈ t.L, x.cost ≤ 1048576 := fun x hx => by have := sumC_mem (c := Exp.cost) hx; omega
    rw [toExpS_of _ (by omega) (fun x hx => ih0 x hx (hm_L x hx)), bind_some']
    have hm_Decs : ∀ x ∈ t.Decs, x.cost ≤ 1048576 := fun x hx => by have := sumC_mem (c := Dec.cost) hx; omega
    rw [toDecS_of _ (by omega) (fun x hx => ih1 x hx (hm_Decs x hx)), bind_some']
    have hm_Alts : ∀ x ∈ t.Alts, x.cost ≤ 1048576 := fun x hx => by have := sumC_mem (c := Alt.cost) hx; omega
    rw [toAltS_of _ (by omega) (fun x hx => ih2 x hx (hm_Alts x hx)), bind_some']
    all_goals first | rfl | (cases t; rfl)
  exact ⟨fun t => Alt.ind h0 h1 h2 t, fun t => Dec.ind h0 h1 h2 t, fun t => Exp.ind h0 h1 h2 t⟩
theorem toAlt : ∀ t : Alt, t.cost ≤ 1048576 → M.laws_toAlt t = some t := toAlt_all.1
theorem toDec : ∀ t : Dec, t.cost ≤ 1048576 → M.laws_toDec t = some t := toAlt_all.2.1
theorem toExp : ∀ t : Exp, t.cost ≤ 1048576 → M.laws_toExp t = some t := toAlt_all.2.2
open Classical in
theorem eqAlt_all : (∀ t : Alt, t.small → ∀ u : Alt, M.laws_eqAlt (t, u) = some (decide (t = u))) ∧
  (∀ t : Dec, t.small → ∀ u : Dec, M.laws_eqDec (t, u) = some (decide (t = u))) ∧
  (∀ t : Exp, t.small → ∀ u : Exp, M.laws_eqExp (t, u) = some (decide (t = u))) := by
  have h0 : ∀ t : Alt, (t.E.small → ∀ u : Exp, M.laws_eqExp (t.E, u) = some (decide (t.E = u))) → (t.small → ∀ u : Alt, M.laws_eqAlt (t, u) = some (decide (t = u))) := by
    intro t ih0
    intro hs u
    have hlim : lim = 140737488355328 := rfl
    obtain ⟨hq_Great, hq_Vars, hq_E⟩ := (Alt.small_eq t).1 hs
    rw [M.laws_eqAlt]; try dsimp only
    by_cases hk_Great : t.Great = u.Great
    rotate_left
    · rw [if_neg hk_Great, decide_eq_false (fun e => hk_Great (by rw [e]))]
    rw [if_pos hk_Great]
    rw [eqStringS _ _ hq_Vars.1, bind_some']
    by_cases hk_Vars : t.Vars = u.Vars
    rotate_left
    · rw [if_neg (by simpa using hk_Vars), decide_eq_false (fun e => hk_Vars (by rw [e]))]
    rw [if_pos (decide_eq_true hk_Vars)]
    rw [ih0 hq_E _, bind_some']
    by_cases hk_E : t.E = u.E
    rotate_left
    · rw [if_neg (by simpa using hk_E), decide_eq_false (fun e => hk_E (by rw [e]))]
    rw [if_pos (decide_eq_true hk_E)]
    rw [decide_eq_true (Alt.ext' hk_Great hk_Vars hk_E)]
  have h1 : ∀ t : Dec, (t.E.small → ∀ u : Exp, M.laws_eqExp (t.E, u) = some (decide (t.E = u))) → (∀ x ∈ t.Where, (x.small → ∀ u : Dec, M.laws_eqDec (x, u) = some (decide (x = u)))) → (t.small → ∀ u : Dec, M.laws_eqDec (t, u) = some (decide (t = u))) := by
    intro t ih0 ih1
    intro hs u
    have hlim : lim = 140737488355328 := rfl
    obtain ⟨hq_Name, hq_Pars, hq_E, hl_Where, hm_Where⟩ := (Dec.small_eq t).1 hs
    rw [M.laws_eqDec]; try dsimp only
    by_cases hk_Name : t.Name = u.Name
    rotate_left
    · rw [if_neg hk_Name, decide_eq_false (fun e => hk_Name (by rw [e]))]
    rw [if_pos hk_Name]
    rw [eqStringS _ _ hq_Pars.1, bind_some']
    by_cases hk_Pars : t.Pars = u.Pars
    rotate_left
    · rw [if_neg (by simpa using hk_Pars), decide_eq_false (fun e => hk_Pars (by rw [e]))]
    rw [if_pos (decide_eq_true hk_Pars)]
    rw [ih0 hq_E _, bind_some']
    by_cases hk_E : t.E = u.E
    rotate_left
    · rw [if_neg (by simpa using hk_E), decide_eq_false (fun e => hk_E (by rw [e]))]
    rw [if_pos (decide_eq_true hk_E)]
    rw [eqDecS_of _ _ hl_Where (fun x hx => ih1 x hx (hm_Where x hx)), bind_some']
    by_cases hk_Where : t.Where = u.Where
    rotate_left
    · rw [if_neg (by simpa using hk_Where), decide_eq_false (fun e => hk_Where (by rw [e]))]
    rw [if_pos (decide_eq_true hk_Where)]
    rw [decide_eq_true (Dec.ext' hk_Name hk_Pars hk_E hk_Where)]
  have h2 : ∀ t : Exp, (∀ x ∈ t.L, (x.small → ∀ u : Exp, M.laws_eqExp (x, u) = some (decide (x = u)))) → (∀ x ∈ t.Decs, (x.small → ∀ u : Dec, M.laws_eqDec (x, u) = some (decide (x = u)))) → (∀ x ∈ t.Alts, (x.small → ∀ u : Alt, M.laws_eqAlt (x, u) = some (decide (x = u)))) → (t.small → ∀ u : Exp, M.laws_eqExp (t, u) = some (decide (t = u))) := by
    intro t ih0 ih1 ih2
    intro hs u
    have hlim : lim = 140737488355328 := rfl
    obtain ⟨hq_S, hl_L, hm_L, hl_Decs, hm_Decs, hl_Alts, hm_Alts⟩ := (Exp.small_eq t).1 hs
    rw [M.laws_eqExp]; try dsimp only
    by_cases hk_K : t.K = u.K
    rotate_left
    · rw [if_neg hk_K, decide_eq_false (fun e => hk_K (by rw [e]))]
    rw [if_pos hk_K]
    by_cases hk_S : t.S = u.S
    rotate_left
    · rw [if_neg hk_S, decide_eq_false (fun e => hk_S (by rw [e]))]
    rw [if_pos hk_S]
    by_cases hk_N : t.N = u.N
    rotate_left
    · rw [if_neg hk_N, decide_eq_false (fun e => hk_N (by rw [e]))]
    rw [if_pos hk_N]
    rw [eqExpS_of _ _ hl_L (fun x hx => ih0 x hx (hm_L x hx)), bind_some']
    by_cases hk_L : t.L = u.L
    rotate_left
    · rw [if_neg (by simpa using hk_L), decide_eq_false (fun e => hk_L (by rw [e]))]
    rw [if_pos (decide_eq_true hk_L)]
    rw [eqDecS_of _ _ hl_Decs (fun x hx => ih1 x hx (hm_Decs x hx)), bind_some']
    by_cases hk_Decs : t.Decs = u.Decs
    rotate_left
    · rw [if_neg (by simpa using hk_Decs), decide_eq_false (fun e => hk_Decs (by rw [e]))]
    rw [if_pos (decide_eq_true hk_Decs)]
    rw [eqAltS_of _ _ hl_Alts (fun x hx => ih2 x hx (hm_Alts x hx)), bind_some']
    by_cases hk_Alts : t.Alts = u.Alts
    rotate_left
    · rw [if_neg (by simpa using hk_Alts), decide_eq_false (fun e => hk_Alts (by rw [e]))]
    rw [if_pos (decide_eq_true hk_Alts)]
    rw [decide_eq_true (Exp.ext' hk_K hk_S hk_N hk_L hk_Decs hk_Alts)]
  exact ⟨fun t => Alt.ind h0 h1 h2 t, fun t => Dec.ind h0 h1 h2 t, fun t => Exp.ind h0 h1 h2 t⟩
open Classical in
theorem eqAlt : ∀ t : Alt, t.small → ∀ u : Alt, M.laws_eqAlt (t, u) = some (decide (t = u)) := eqAlt_all.1
open Classical in
theorem eqDec : ∀ t : Dec, t.small → ∀ u : Dec, M.laws_eqDec (t, u) = some (decide (t = u)) := eqAlt_all.2.1
open Classical in
theorem eqExp : ∀ t : Exp, t.small → ∀ u : Exp, M.laws_eqExp (t, u) = some (decide (t = u)) := eqAlt_all.2.2
end Q
mutual
def Ty.cost : Ty → Nat
  | ⟨K_, S_, N_, L_⟩ => S_.size + (L_.length + Ty.costL L_)
def Ty.costL : List Ty → Nat
  | [] => 0
  | x :: l => x.cost + Ty.costL l
end
mutual
def Ty.small : Ty → Prop
  | ⟨K_, S_, N_, L_⟩ => S_.size ≤ lim ∧ L_.length ≤ lim ∧ Ty.smallL L_
def Ty.smallL : List Ty → Prop
  | [] => True
  | x :: l => x.small ∧ Ty.smallL l
end
theorem Ty.smallL_iff : ∀ {l : List Ty}, Ty.smallL l ↔ ∀ x ∈ l, x.small
  | [] => by simp [Ty.smallL]
  | x :: l => by simp [Ty.smallL, Ty.smallL_iff (l := l)]
theorem Ty.costL_eq : ∀ (l : List Ty), Ty.costL l = sumC Ty.cost l
  | [] => rfl
  | x :: l => by simp [Ty.costL, sumC, Ty.costL_eq l]
theorem Ty.cost_eq (t : Ty) : t.cost = t.S.size + (t.L.length + sumC Ty.cost t.L) := by
  cases t; simp only [Ty.cost, Ty.costL_eq]
theorem Ty.small_eq (t : Ty) : t.small ↔ t.S.size ≤ lim ∧ t.L.length ≤ lim ∧ (∀ x ∈ t.L, x.small) := by
  cases t; simp only [Ty.small, Ty.smallL_iff]
theorem Ty.ext' {a b : Ty} (h0 : a.K = b.K) (h1 : a.S = b.S) (h2 : a.N = b.N) (h3 : a.L = b.L) : a = b := by
  cases a; cases b; simp_all
mutual
theorem Ty.ind {M0 : Ty → Prop} (h0 : ∀ t : Ty, (∀ x ∈ t.L, M0 x) → M0 t) : ∀ t : Ty, M0 t
  | ⟨K_, S_, N_, L_⟩ => h0 _ (Ty.indL h0 L_)
theorem Ty.indL {M0 : Ty → Prop} (h0 : ∀ t : Ty, (∀ x ∈ t.L, M0 x) → M0 t) : ∀ l : List Ty, ∀ x ∈ l, M0 x
  | [] => fun x hx => by cases hx
  | y :: l => fun x hx => (List.mem_cons.1 hx).elim (fun e => e ▸ Ty.ind h0 y) (fun h => Ty.indL h0 l x h)
end
namespace Q
theorem szTyS_of (l : List Ty) (hl : l.length ≤ lim) (IH : ∀ x ∈ l, ∀ left : Int, 0 ≤ left → left ≤ 1048576 → M.laws_szTy (x, left) = some (rest x.cost left)) (left : Int) (h0 : 0 ≤ left) (h1 : left ≤ 1048576) : M.laws_szTyS (l, left) = some (rest (l.length + sumC Ty.cost l) left) := by
  have hlim : lim = 140737488355328 := rfl
  rw [M.laws_szTyS]; try dsimp only
  rw [wrap_ok (by omega)]
  by_cases hk : left - ((l.length : Nat) : Int) < 0
  · rw [if_pos hk, rest_neg (by omega)]
  rw [if_neg hk]
  have hloop : M.laws_szTyS_L0 (l, left - ((l.length : Nat) : Int), 0) = _ := szLoop Ty.cost hl (L := fun b i => M.laws_szTyS_L0 (l, b, i)) (fun b i x hx hix hb0 hb1 hi hw => by
    show M.laws_szTyS_L0 (l, b, i) = _
    rw [M.laws_szTyS_L0]; try dsimp only
    rw [if_pos hi, hix, bind_some', IH x (List.mem_of_getElem? hx) b hb0 hb1, bind_some', hw]) (fun b => by
    show M.laws_szTyS_L0 (l, b, _) = _
    rw [M.laws_szTyS_L0]; try dsimp only
    rw [if_neg (by omega)]) (by omega) (by omega)
  rw [hloop, bind_some']
  by_cases hr : ((sumC Ty.cost l : Nat) : Int) ≤ left - ((l.length : Nat) : Int)
  · rw [rest_pos hr, if_neg (by omega), rest_pos (by omega)]; try dsimp only; congr 1; omega
  · rw [rest_neg hr, if_pos (by omega), rest_neg (by omega)]
theorem toTyS_of (l : List Ty) (h : l.length ≤ 1048576) (IH : ∀ x ∈ l, M.laws_toTy x = some x) : M.laws_toTyS l = some l := by
  have hlim : lim = 140737488355328 := rfl
  rw [M.laws_toTyS, gd_t (by omega), bind_some', gd_t (by omega), bind_some']
  have hloop : ∀ z, M.laws_toTyS_L0 (l, 0, List.replicate l.length z) = some l := fun z => setLoop (by omega) (by simp) (L := fun i o => M.laws_toTyS_L0 (l, i, o)) (fun i x o hx hix ho hi hw => by
    show M.laws_toTyS_L0 (l, i, o) = _
    rw [M.laws_toTyS_L0]; try dsimp only
    rw [if_pos hi, hix, bind_some', IH x (List.mem_of_getElem? hx), bind_some', gd_t (by omega), bind_some', gd_t (by omega), bind_some', hw]
    rfl) (fun o => by
    show M.laws_toTyS_L0 (l, _, o) = _
    rw [M.laws_toTyS_L0]; try dsimp only
    rw [if_neg (by omega)])
  rw [hloop]; rfl
open Classical in
theorem eqTyS_of (l l' : List Ty) (hl : l.length ≤ lim) (IH : ∀ x ∈ l, ∀ y, M.laws_eqTy (x, y) = some (decide (x = y))) : M.laws_eqTyS (l, l') = some (decide (l = l')) := by
  have hlim : lim = 140737488355328 := rfl
  rw [M.laws_eqTyS]; try dsimp only
  by_cases hlen : l.length = l'.length
  rotate_left
  · rw [if_neg (by omega)]
    rw [decide_eq_false (fun e => hlen (by rw [e]))]
  rw [if_pos (by omega)]
  have hloop : M.laws_eqTyS_L0 (l, l', 0) = _ := eqLoop hl hlen (L := fun i => M.laws_eqTyS_L0 (l, l', i)) (fun i x y hx hy hix hiy hi hw => by
    show M.laws_eqTyS_L0 (l, l', i) = _
    rw [M.laws_eqTyS_L0]; try dsimp only
    rw [if_pos hi, hix, bind_some', hiy, bind_some', hw]
    rw [IH x (List.mem_of_getElem? hx) y, bind_some']
    by_cases e : x = y
    · rw [if_pos (decide_eq_true e), if_pos e]
    · rw [if_neg (by simpa using e), if_neg e]) (by
    show M.laws_eqTyS_L0 (l, l', _) = _
    rw [M.laws_eqTyS_L0]; try dsimp only
    rw [if_neg (by omega)])
  rw [hloop, bind_some']
  by_cases e : l = l'
  · rw [if_pos e, decide_eq_true e]
  · rw [if_neg e, decide_eq_false e]
theorem szTy_all : (∀ t : Ty, t.small → ∀ left : Int, 0 ≤ left → left ≤ 1048576 → M.laws_szTy (t, left) = some (rest t.cost left)) := by
  have h0 : ∀ t : Ty, (∀ x ∈ t.L, (x.small → ∀ left : Int, 0 ≤ left → left ≤ 1048576 → M.laws_szTy (x, left) = some (rest x.cost left))) → (t.small → ∀ left : Int, 0 ≤ left → left ≤ 1048576 → M.laws_szTy (t, left) = some (rest t.cost left)) := by
    intro t ih0
    intro hs left h0 h1
    have hlim : lim = 140737488355328 := rfl
    obtain ⟨hq_S, hl_L, hm_L⟩ := (Ty.small_eq t).1 hs
    have hcost := Ty.cost_eq t
    rw [M.laws_szTy]; try dsimp only
    rw [wrap_ok (by omega)]
    by_cases hk_S : left - ((t.S.size : Nat) : Int) < 0
    · rw [if_pos hk_S, rest_neg (by omega)]
    rw [if_neg hk_S]
    rw [szTyS_of _ hl_L (fun x hx => ih0 x hx (hm_L x hx)) _ (by omega) (by omega), bind_some']
    by_cases hk_L : ((t.L.length + sumC Ty.cost t.L : Nat) : Int) ≤ left - ((t.S.size : Nat) : Int)
    rotate_left
    · rw [rest_neg hk_L, if_pos (by omega), rest_neg (by omega)]
    rw [rest_pos hk_L, if_neg (by omega)]
    rw [rest_pos (by omega)]; try congr 1; try omega
  exact fun t => Ty.ind h0 t
theorem szTy : ∀ t : Ty, t.small → ∀ left : Int, 0 ≤ left → left ≤ 1048576 → M.laws_szTy (t, left) = some (rest t.cost left) := szTy_all
theorem toTy_all : (∀ t : Ty, t.cost ≤ 1048576 → M.laws_toTy t = some t) := by
  have h0 : ∀ t : Ty, (∀ x ∈ t.L, (x.cost ≤ 1048576 → M.laws_toTy x = some x)) → (t.cost ≤ 1048576 → M.laws_toTy t = some t) := by
    intro t ih0
    intro hc
    have hlim : lim = 140737488355328 := rfl
    have hcost := Ty.cost_eq t
    rw [M.laws_toTy]; try dsimp only
    have hm_L : ∀ x ∈ t.L, x.cost ≤ 1048576 := fun x hx => by have := sumC_mem (c := Ty.cost) hx; omega
    rw [toTyS_of _ (by omega) (fun x hx => ih0 x hx (hm_L x hx)), bind_some']
    all_goals first | rfl | (cases t; rfl)
  exact fun t => Ty.ind h0 t
theorem toTy : ∀ t : Ty, t.cost ≤ 1048576 → M.laws_toTy t = some t := toTy_all
open Classical in
theorem eqTy_all : (∀ t : Ty, t.small → ∀ u : Ty, M.laws_eqTy (t, u) = some (decide (t = u))) := by
  have h0 : ∀ t : Ty, (∀ x ∈ t.L, (x.small → ∀ u : Ty, M.laws_eqTy (x, u) = some (decide (x = u)))) → (t.small → ∀ u : Ty, M.laws_eqTy (t, u) = some (decide (t = u))) := by
    intro t ih0
    intro hs u
    have hlim : lim = 140737488355328 := rfl
    obtain ⟨hq_S, hl_L, hm_L⟩ := (Ty.small_eq t).1 hs
    rw [M.laws_eqTy]; try dsimp only
    by_cases hk_K : t.K = u.K
    rotate_left
    · rw [if_neg hk_K, decide_eq_false (fun e => hk_K (by rw [e]))]
    rw [if_pos hk_K]
    by_cases hk_S : t.S = u.S
    rotate_left
    · rw [if_neg hk_S, decide_eq_false (fun e => hk_S (by rw [e]))]
    rw [if_pos hk_S]
    by_cases hk_N : t.N = u.N
    rotate_left
    · rw [if_neg hk_N, decide_eq_false (fun e => hk_N (by rw [e]))]
    rw [if_pos hk_N]
    rw [eqTyS_of _ _ hl_L (fun x hx => ih0 x hx (hm_L x hx)), bind_some']
    by_cases hk_L : t.L = u.L
    rotate_left
    · rw [if_neg (by simpa using hk_L), decide_eq_false (fun e => hk_L (by rw [e]))]
    rw [if_pos (decide_eq_true hk_L)]
    rw [decide_eq_true (Ty.ext' hk_K hk_S hk_N hk_L)]
  exact fun t => Ty.ind h0 t
open Classical in
theorem eqTy : ∀ t : Ty, t.small → ∀ u : Ty, M.laws_eqTy (t, u) = some (decide (t = u)) := eqTy_all
end Q
def Con.cost : Con → Nat
  | ⟨Name_, Args_⟩ => Name_.size + (Args_.length + Ty.costL Args_)
def Con.costL : List Con → Nat
  | [] => 0
  | x :: l => x.cost + Con.costL l
def Con.small : Con → Prop
  | ⟨Name_, Args_⟩ => Name_.size ≤ lim ∧ Args_.length ≤ lim ∧ Ty.smallL Args_
def Con.smallL : List Con → Prop
  | [] => True
  | x :: l => x.small ∧ Con.smallL l
theorem Con.smallL_iff : ∀ {l : List Con}, Con.smallL l ↔ ∀ x ∈ l, x.small
  | [] => by simp [Con.smallL]
  | x :: l => by simp [Con.smallL, Con.smallL_iff (l := l)]
theorem Con.costL_eq : ∀ (l : List Con), Con.costL l = sumC Con.cost l
  | [] => rfl
  | x :: l => by simp [Con.costL, sumC, Con.costL_eq l]
theorem Con.cost_eq (t : Con) : t.cost = t.Name.size + (t.Args.length + sumC Ty.cost t.Args) := by
  cases t; simp only [Con.cost, Ty.costL_eq]
theorem Con.small_eq (t : Con) : t.small ↔ t.Name.size ≤ lim ∧ t.Args.length ≤ lim ∧ (∀ x ∈ t.Args, x.small) := by
  cases t; simp only [Con.small, Ty.smallL_iff]
theorem Con.ext' {a b : Con} (h0 : a.Name = b.Name) (h1 : a.Args = b.Args) : a = b := by
  cases a; cases b; simp_all
namespace Q
theorem szConS_of (l : List Con) (hl : l.length ≤ lim) (IH : ∀ x ∈ l, ∀ left : Int, 0 ≤ left → left ≤ 1048576 → M.laws_szCon (x, left) = some (rest x.cost left)) (left : Int) (h0 : 0 ≤ left) (h1 : left ≤ 1048576) : M.laws_szConS (l, left) = some (rest (l.length + sumC Con.cost l) left) := by
  have hlim : lim = 140737488355328 := rfl
  rw [M.laws_szConS]; try dsimp only
  rw [wrap_ok (by omega)]
  by_cases hk : left - ((l.length : Nat) : Int) < 0
  · rw [if_pos hk, rest_neg (by omega)]
  rw [if_neg hk]
  have hloop : M.laws_szConS_L0 (l, left - ((l.length : Nat) : Int), 0) = _ := szLoop Con.cost hl (L := fun b i => M.laws_szConS_L0 (l, b, i)) (fun b i x hx hix hb0 hb1 hi hw => by
    show M.laws_szConS_L0 (l, b, i) = _
    rw [M.laws_szConS_L0]; try dsimp only
    rw [if_pos hi, hix, bind_some', IH x (List.mem_of_getElem? hx) b hb0 hb1, bind_some', hw]) (fun b => by
    show M.laws_szConS_L0 (l, b, _) = _
    rw [M.laws_szConS_L0]; try dsimp only
    rw [if_neg (by omega)]) (by omega) (by omega)
  rw [hloop, bind_some']
  by_cases hr : ((sumC Con.cost l : Nat) : Int) ≤ left - ((l.length : Nat) : Int)
  · rw [rest_pos hr, if_neg (by omega), rest_pos (by omega)]; try dsimp only; congr 1; omega
  · rw [rest_neg hr, if_pos (by omega), rest_neg (by omega)]
theorem toConS_of (l : List Con) (h : l.length ≤ 1048576) (IH : ∀ x ∈ l, M.laws_toCon x = some x) : M.laws_toConS l = some l := by
  have hlim : lim = 140737488355328 := rfl
  rw [M.laws_toConS, gd_t (by omega), bind_some', gd_t (by omega), bind_some']
  have hloop : ∀ z, M.laws_toConS_L0 (l, 0, List.replicate l.length z) = some l := fun z => setLoop (by omega) (by simp) (L := fun i o => M.laws_toConS_L0 (l, i, o)) (fun i x o hx hix ho hi hw => by
    show M.laws_toConS_L0 (l, i, o) = _
    rw [M.laws_toConS_L0]; try dsimp only
    rw [if_pos hi, hix, bind_some', IH x (List.mem_of_getElem? hx), bind_some', gd_t (by omega), bind_some', gd_t (by omega), bind_some', hw]
    rfl) (fun o => by
    show M.laws_toConS_L0 (l, _, o) = _
    rw [M.laws_toConS_L0]; try dsimp only
    rw [if_neg (by omega)])
  rw [hloop]; rfl
open Classical in
theorem eqConS_of (l l' : List Con) (hl : l.length ≤ lim) (IH : ∀ x ∈ l, ∀ y, M.laws_eqCon (x, y) = some (decide (x = y))) : M.laws_eqConS (l, l') = some (decide (l = l')) := by
  have hlim : lim = 140737488355328 := rfl
  rw [M.laws_eqConS]; try dsimp only
  by_cases hlen : l.length = l'.length
  rotate_left
  · rw [if_neg (by omega)]
    rw [decide_eq_false (fun e => hlen (by rw [e]))]
  rw [if_pos (by omega)]
  have hloop : M.laws_eqConS_L0 (l, l', 0) = _ := eqLoop hl hlen (L := fun i => M.laws_eqConS_L0 (l, l', i)) (fun i x y hx hy hix hiy hi hw => by
    show M.laws_eqConS_L0 (l, l', i) = _
    rw [M.laws_eqConS_L0]; try dsimp only
    rw [if_pos hi, hix, bind_some', hiy, bind_some', hw]
    rw [IH x (List.mem_of_getElem? hx) y, bind_some']
    by_cases e : x = y
    · rw [if_pos (decide_eq_true e), if_pos e]
    · rw [if_neg (by simpa using e), if_neg e]) (by
    show M.laws_eqConS_L0 (l, l', _) = _
    rw [M.laws_eqConS_L0]; try dsimp only
    rw [if_neg (by omega)])
  rw [hloop, bind_some']
  by_cases e : l = l'
  · rw [if_pos e, decide_eq_true e]
  · rw [if_neg e, decide_eq_false e]
theorem szCon : ∀ t : Con, t.small → ∀ left : Int, 0 ≤ left → left ≤ 1048576 → M.laws_szCon (t, left) = some (rest t.cost left) := by
  intro t
  intro hs left h0 h1
  have hlim : lim = 140737488355328 := rfl
  obtain ⟨hq_Name, hl_Args, hm_Args⟩ := (Con.small_eq t).1 hs
  have hcost := Con.cost_eq t
  rw [M.laws_szCon]; try dsimp only
  rw [wrap_ok (by omega)]
  by_cases hk_Name : left - ((t.Name.size : Nat) : Int) < 0
  · rw [if_pos hk_Name, rest_neg (by omega)]
  rw [if_neg hk_Name]
  rw [szTyS_of _ hl_Args (fun x hx => szTy x (hm_Args x hx)) _ (by omega) (by omega), bind_some']
  by_cases hk_Args : ((t.Args.length + sumC Ty.cost t.Args : Nat) : Int) ≤ left - ((t.Name.size : Nat) : Int)
  rotate_left
  · rw [rest_neg hk_Args, if_pos (by omega), rest_neg (by omega)]
  rw [rest_pos hk_Args, if_neg (by omega)]
  rw [rest_pos (by omega)]; try congr 1; try omega
theorem toCon : ∀ t : Con, t.cost ≤ 1048576 → M.laws_toCon t = some t := by
  intro t
  intro hc
  have hlim : lim = 140737488355328 := rfl
  have hcost := Con.cost_eq t
  rw [M.laws_toCon]; try dsimp only
  have hm_Args : ∀ x ∈ t.Args, x.cost ≤ 1048576 := fun x hx => by have := sumC_mem (c := Ty.cost) hx; omega
  rw [toTyS_of _ (by omega) (fun x hx => toTy x (hm_Args x hx)), bind_some']
  all_goals first | rfl | (cases t; rfl)
open Classical in
theorem eqCon : ∀ t : Con, t.small → ∀ u : Con, M.laws_eqCon (t, u) = some (decide (t = u)) := by
  intro t
  intro hs u
  have hlim : lim = 140737488355328 := rfl
  obtain ⟨hq_Name, hl_Args, hm_Args⟩ := (Con.small_eq t).1 hs
  rw [M.laws_eqCon]; try dsimp only
  by_cases hk_Name : t.Name = u.Name
  rotate_left
  · rw [if_neg hk_Name, decide_eq_false (fun e => hk_Name (by rw [e]))]
  rw [if_pos hk_Name]
  rw [eqTyS_of _ _ hl_Args (fun x hx => eqTy x (hm_Args x hx)), bind_some']
  by_cases hk_Args : t.Args = u.Args
  rotate_left
  · rw [if_neg (by simpa using hk_Args), decide_eq_false (fun e => hk_Args (by rw [e]))]
  rw [if_pos (decide_eq_true hk_Args)]
  rw [decide_eq_true (Con.ext' hk_Name hk_Args)]
end Q
def Data.cost : Data → Nat
  | ⟨Name_, Cons_⟩ => Name_.size + (Cons_.length + Con.costL Cons_)
def Data.costL : List Data → Nat
  | [] => 0
  | x :: l => x.cost + Data.costL l
def Data.small : Data → Prop
  | ⟨Name_, Cons_⟩ => Name_.size ≤ lim ∧ Cons_.length ≤ lim ∧ Con.smallL Cons_
def Data.smallL : List Data → Prop
  | [] => True
  | x :: l => x.small ∧ Data.smallL l
theorem Data.smallL_iff : ∀ {l : List Data}, Data.smallL l ↔ ∀ x ∈ l, x.small
  | [] => by simp [Data.smallL]
  | x :: l => by simp [Data.smallL, Data.smallL_iff (l := l)]
theorem Data.costL_eq : ∀ (l : List Data), Data.costL l = sumC Data.cost l
  | [] => rfl
  | x :: l => by simp [Data.costL, sumC, Data.costL_eq l]
theorem Data.cost_eq (t : Data) : t.cost = t.Name.size + (t.Cons.length + sumC Con.cost t.Cons) := by
  cases t; simp only [Data.cost, Con.costL_eq]
theorem Data.small_eq (t : Data) : t.small ↔ t.Name.size ≤ lim ∧ t.Cons.length ≤ lim ∧ (∀ x ∈ t.Cons, x.small) := by
  cases t; simp only [Data.small, Con.smallL_iff]
theorem Data.ext' {a b : Data} (h0 : a.Name = b.Name) (h1 : a.Cons = b.Cons) : a = b := by
  cases a; cases b; simp_all
namespace Q
theorem szDataS_of (l : List Data) (hl : l.length ≤ lim) (IH : ∀ x ∈ l, ∀ left : Int, 0 ≤ left → left ≤ 1048576 → M.laws_szData (x, left) = some (rest x.cost left)) (left : Int) (h0 : 0 ≤ left) (h1 : left ≤ 1048576) : M.laws_szDataS (l, left) = some (rest (l.length + sumC Data.cost l) left) := by
  have hlim : lim = 140737488355328 := rfl
  rw [M.laws_szDataS]; try dsimp only
  rw [wrap_ok (by omega)]
  by_cases hk : left - ((l.length : Nat) : Int) < 0
  · rw [if_pos hk, rest_neg (by omega)]
  rw [if_neg hk]
  have hloop : M.laws_szDataS_L0 (l, left - ((l.length : Nat) : Int), 0) = _ := szLoop Data.cost hl (L := fun b i => M.laws_szDataS_L0 (l, b, i)) (fun b i x hx hix hb0 hb1 hi hw => by
    show M.laws_szDataS_L0 (l, b, i) = _
    rw [M.laws_szDataS_L0]; try dsimp only
    rw [if_pos hi, hix, bind_some', IH x (List.mem_of_getElem? hx) b hb0 hb1, bind_some', hw]) (fun b => by
    show M.laws_szDataS_L0 (l, b, _) = _
    rw [M.laws_szDataS_L0]; try dsimp only
    rw [if_neg (by omega)]) (by omega) (by omega)
  rw [hloop, bind_some']
  by_cases hr : ((sumC Data.cost l : Nat) : Int) ≤ left - ((l.length : Nat) : Int)
  · rw [rest_pos hr, if_neg (by omega), rest_pos (by omega)]; try dsimp only; congr 1; omega
  · rw [rest_neg hr, if_pos (by omega), rest_neg (by omega)]
theorem toDataS_of (l : List Data) (h : l.length ≤ 1048576) (IH : ∀ x ∈ l, M.laws_toData x = some x) : M.laws_toDataS l = some l := by
  have hlim : lim = 140737488355328 := rfl
  rw [M.laws_toDataS, gd_t (by omega), bind_some', gd_t (by omega), bind_some']
  have hloop : ∀ z, M.laws_toDataS_L0 (l, 0, List.replicate l.length z) = some l := fun z => setLoop (by omega) (by simp) (L := fun i o => M.laws_toDataS_L0 (l, i, o)) (fun i x o hx hix ho hi hw => by
    show M.laws_toDataS_L0 (l, i, o) = _
    rw [M.laws_toDataS_L0]; try dsimp only
    rw [if_pos hi, hix, bind_some', IH x (List.mem_of_getElem? hx), bind_some', gd_t (by omega), bind_some', gd_t (by omega), bind_some', hw]
    rfl) (fun o => by
    show M.laws_toDataS_L0 (l, _, o) = _
    rw [M.laws_toDataS_L0]; try dsimp only
    rw [if_neg (by omega)])
  rw [hloop]; rfl
open Classical in
theorem eqDataS_of (l l' : List Data) (hl : l.length ≤ lim) (IH : ∀ x ∈ l, ∀ y, M.laws_eqData (x, y) = some (decide (x = y))) : M.laws_eqDataS (l, l') = some (decide (l = l')) := by
  have hlim : lim = 140737488355328 := rfl
  rw [M.laws_eqDataS]; try dsimp only
  by_cases hlen : l.length = l'.length
  rotate_left
  · rw [if_neg (by omega)]
    rw [decide_eq_false (fun e => hlen (by rw [e]))]
  rw [if_pos (by omega)]
  have hloop : M.laws_eqDataS_L0 (l, l', 0) = _ := eqLoop hl hlen (L := fun i => M.laws_eqDataS_L0 (l, l', i)) (fun i x y hx hy hix hiy hi hw => by
    show M.laws_eqDataS_L0 (l, l', i) = _
    rw [M.laws_eqDataS_L0]; try dsimp only
    rw [if_pos hi, hix, bind_some', hiy, bind_some', hw]
    rw [IH x (List.mem_of_getElem? hx) y, bind_some']
    by_cases e : x = y
    · rw [if_pos (decide_eq_true e), if_pos e]
    · rw [if_neg (by simpa using e), if_neg e]) (by
    show M.laws_eqDataS_L0 (l, l', _) = _
    rw [M.laws_eqDataS_L0]; try dsimp only
    rw [if_neg (by omega)])
  rw [hloop, bind_some']
  by_cases e : l = l'
  · rw [if_pos e, decide_eq_true e]
  · rw [if_neg e, decide_eq_false e]
theorem szData : ∀ t : Data, t.small → ∀ left : Int, 0 ≤ left → left ≤ 1048576 → M.laws_szData (t, left) = some (rest t.cost left) := by
  intro t
  intro hs left h0 h1
  have hlim : lim = 140737488355328 := rfl
  obtain ⟨hq_Name, hl_Cons, hm_Cons⟩ := (Data.small_eq t).1 hs
  have hcost := Data.cost_eq t
  rw [M.laws_szData]; try dsimp only
  rw [wrap_ok (by omega)]
  by_cases hk_Name : left - ((t.Name.size : Nat) : Int) < 0
  · rw [if_pos hk_Name, rest_neg (by omega)]
  rw [if_neg hk_Name]
  rw [szConS_of _ hl_Cons (fun x hx => szCon x (hm_Cons x hx)) _ (by omega) (by omega), bind_some']
  by_cases hk_Cons : ((t.Cons.length + sumC Con.cost t.Cons : Nat) : Int) ≤ left - ((t.Name.size : Nat) : Int)
  rotate_left
  · rw [rest_neg hk_Cons, if_pos (by omega), rest_neg (by omega)]
  rw [rest_pos hk_Cons, if_neg (by omega)]
  rw [rest_pos (by omega)]; try congr 1; try omega
theorem toData : ∀ t : Data, t.cost ≤ 1048576 → M.laws_toData t = some t := by
  intro t
  intro hc
  have hlim : lim = 140737488355328 := rfl
  have hcost := Data.cost_eq t
  rw [M.laws_toData]; try dsimp only
  have hm_Cons : ∀ x ∈ t.Cons, x.cost ≤ 1048576 := fun x hx => by have := sumC_mem (c := Con.cost) hx; omega
  rw [toConS_of _ (by omega) (fun x hx => toCon x (hm_Cons x hx)), bind_some']
  all_goals first | rfl | (cases t; rfl)
open Classical in
theorem eqData : ∀ t : Data, t.small → ∀ u : Data, M.laws_eqData (t, u) = some (decide (t = u)) := by
  intro t
  intro hs u
  have hlim : lim = 140737488355328 := rfl
  obtain ⟨hq_Name, hl_Cons, hm_Cons⟩ := (Data.small_eq t).1 hs
  rw [M.laws_eqData]; try dsimp only
  by_cases hk_Name : t.Name = u.Name
  rotate_left
  · rw [if_neg hk_Name, decide_eq_false (fun e => hk_Name (by rw [e]))]
  rw [if_pos hk_Name]
  rw [eqConS_of _ _ hl_Cons (fun x hx => eqCon x (hm_Cons x hx)), bind_some']
  by_cases hk_Cons : t.Cons = u.Cons
  rotate_left
  · rw [if_neg (by simpa using hk_Cons), decide_eq_false (fun e => hk_Cons (by rw [e]))]
  rw [if_pos (decide_eq_true hk_Cons)]
  rw [decide_eq_true (Data.ext' hk_Name hk_Cons)]
end Q
def Prog.cost : Prog → Nat
  | ⟨Datas_, Decs_⟩ => (Datas_.length + Data.costL Datas_) + (Decs_.length + Dec.costL Decs_)
def Prog.costL : List Prog → Nat
  | [] => 0
  | x :: l => x.cost + Prog.costL l
def Prog.small : Prog → Prop
  | ⟨Datas_, Decs_⟩ => Datas_.length ≤ lim ∧ Data.smallL Datas_ ∧ Decs_.length ≤ lim ∧ Dec.smallL Decs_
def Prog.smallL : List Prog → Prop
  | [] => True
  | x :: l => x.small ∧ Prog.smallL l
theorem Prog.smallL_iff : ∀ {l : List Prog}, Prog.smallL l ↔ ∀ x ∈ l, x.small
  | [] => by simp [Prog.smallL]
  | x :: l => by simp [Prog.smallL, Prog.smallL_iff (l := l)]
theorem Prog.costL_eq : ∀ (l : List Prog), Prog.costL l = sumC Prog.cost l
  | [] => rfl
  | x :: l => by simp [Prog.costL, sumC, Prog.costL_eq l]
theorem Prog.cost_eq (t : Prog) : t.cost = (t.Datas.length + sumC Data.cost t.Datas) + (t.Decs.length + sumC Dec.cost t.Decs) := by
  cases t; simp only [Prog.cost, Data.costL_eq, Dec.costL_eq]
theorem Prog.small_eq (t : Prog) : t.small ↔ t.Datas.length ≤ lim ∧ (∀ x ∈ t.Datas, x.small) ∧ t.Decs.length ≤ lim ∧ (∀ x ∈ t.Decs, x.small) := by
  cases t; simp only [Prog.small, Data.smallL_iff, Dec.smallL_iff]
theorem Prog.ext' {a b : Prog} (h0 : a.Datas = b.Datas) (h1 : a.Decs = b.Decs) : a = b := by
  cases a; cases b; simp_all
namespace Q
theorem szProg : ∀ t : Prog, t.small → ∀ left : Int, 0 ≤ left → left ≤ 1048576 → M.laws_szProg (t, left) = some (rest t.cost left) := by
  intro t
  intro hs left h0 h1
  have hlim : lim = 140737488355328 := rfl
  obtain ⟨hl_Datas, hm_Datas, hl_Decs, hm_Decs⟩ := (Prog.small_eq t).1 hs
  have hcost := Prog.cost_eq t
  rw [M.laws_szProg]; try dsimp only
  rw [szDataS_of _ hl_Datas (fun x hx => szData x (hm_Datas x hx)) _ (by omega) (by omega), bind_some']
  by_cases hk_Datas : ((t.Datas.length + sumC Data.cost t.Datas : Nat) : Int) ≤ left
  rotate_left
  · rw [rest_neg hk_Datas, if_pos (by omega), rest_neg (by omega)]
  rw [rest_pos hk_Datas, if_neg (by omega)]
  rw [szDecS_of _ hl_Decs (fun x hx => szDec x (hm_Decs x hx)) _ (by omega) (by omega), bind_some']
  by_cases hk_Decs : ((t.Decs.length + sumC Dec.cost t.Decs : Nat) : Int) ≤ left - ((t.Datas.length + sumC Data.cost t.Datas : Nat) : Int)
  rotate_left
  · rw [rest_neg hk_Decs, if_pos (by omega), rest_neg (by omega)]
  rw [rest_pos hk_Decs, if_neg (by omega)]
  rw [rest_pos (by omega)]; try congr 1; try omega
theorem toProg : ∀ t : Prog, t.cost ≤ 1048576 → M.laws_toProg t = some t := by
  intro t
  intro hc
  have hlim : lim = 140737488355328 := rfl
  have hcost := Prog.cost_eq t
  rw [M.laws_toProg]; try dsimp only
  have hm_Datas : ∀ x ∈ t.Datas, x.cost ≤ 1048576 := fun x hx => by have := sumC_mem (c := Data.cost) hx; omega
  rw [toDataS_of _ (by omega) (fun x hx => toData x (hm_Datas x hx)), bind_some']
  have hm_Decs : ∀ x ∈ t.Decs, x.cost ≤ 1048576 := fun x hx => by have := sumC_mem (c := Dec.cost) hx; omega
  rw [toDecS_of _ (by omega) (fun x hx => toDec x (hm_Decs x hx)), bind_some']
  all_goals first | rfl | (cases t; rfl)
open Classical in
theorem eqProg : ∀ t : Prog, t.small → ∀ u : Prog, M.laws_eqProg (t, u) = some (decide (t = u)) := by
  intro t
  intro hs u
  have hlim : lim = 140737488355328 := rfl
  obtain ⟨hl_Datas, hm_Datas, hl_Decs, hm_Decs⟩ := (Prog.small_eq t).1 hs
  rw [M.laws_eqProg]; try dsimp only
  rw [eqDataS_of _ _ hl_Datas (fun x hx => eqData x (hm_Datas x hx)), bind_some']
  by_cases hk_Datas : t.Datas = u.Datas
  rotate_left
  · rw [if_neg (by simpa using hk_Datas), decide_eq_false (fun e => hk_Datas (by rw [e]))]
  rw [if_pos (decide_eq_true hk_Datas)]
  rw [eqDecS_of _ _ hl_Decs (fun x hx => eqDec x (hm_Decs x hx)), bind_some']
  by_cases hk_Decs : t.Decs = u.Decs
  rotate_left
  · rw [if_neg (by simpa using hk_Decs), decide_eq_false (fun e => hk_Decs (by rw [e]))]
  rw [if_pos (decide_eq_true hk_Decs)]
  rw [decide_eq_true (Prog.ext' hk_Datas hk_Decs)]
end Q
end W
