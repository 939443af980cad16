import Derived.Test.YtnhdobhfebiggaaFMir
import Derived.Test.YtnhdobhfebiggaaHLP
namespace W
set_option linter.unusedSimpArgs false
set_option linter.unusedVariables false
open Go HL
set_option linter.unusedVariables false
set_option maxRecDepth 100000
set_option maxHeartbeats 4000000
namespace Q
def strOk (l : List ByteArray) : Prop := l.length ≤ lim ∧ ∀ s ∈ l, s.size ≤ lim
theorem szStringS (l : List ByteArray) (h : strOk l) (left : Int) (h0 : 0 ≤ left) (h1 : left ≤ 1048576) : M.laws_szStringS (l, left) = some (rest (l.length + sumC ByteArray.size l) left) := by
  obtain ⟨hl, hs⟩ := h
  have hlim : lim = 140737488355328 := rfl
  rw [M.laws_szStringS]; try dsimp only
  rw [wrap_ok (by omega)]
  by_cases hk : left - ((l.length : Nat) : Int) < 0
  · rw [if_pos hk, rest_neg (by omega)]
  rw [if_neg hk]
  have hloop : M.laws_szStringS_L0 (l, left - ((l.length : Nat) : Int), 0) = _ := szLoop ByteArray.size hl (L := fun b i => M.laws_szStringS_L0 (l, b, i)) (fun b i x hx hix hb0 hb1 hi hw => by
    show M.laws_szStringS_L0 (l, b, i) = _
    rw [M.laws_szStringS_L0]; try dsimp only
    have hsx := hs x (List.mem_of_getElem? hx)
    rw [if_pos hi, hix, bind_some', hw, wrap_ok (by omega)]
    by_cases hr : (x.size : Int) ≤ b
    · rw [rest_pos hr]
    · rw [rest_neg hr, if_pos (by omega), if_pos (by omega)]) (fun b => by
    show M.laws_szStringS_L0 (l, b, _) = _
    rw [M.laws_szStringS_L0]; try dsimp only
    rw [if_neg (by omega)]) (by omega) (by omega)
  rw [hloop, bind_some']
  by_cases hr : ((sumC ByteArray.size l : Nat) : Int) ≤ left - ((l.length : Nat) : Int)
  · rw [rest_pos hr, if_neg (by omega), rest_pos (by omega)]; try dsimp only; congr 1; omega
  · rw [rest_neg hr, if_pos (by omega), rest_neg (by omega)]
theorem toStringS (l : List ByteArray) (h : l.length ≤ 1048576) : M.laws_toStringS l = some l := by
  have hlim : lim = 140737488355328 := rfl
  rw [M.laws_toStringS, gd_t (by omega), bind_some', gd_t (by omega), bind_some']
  have hloop : ∀ z, M.laws_toStringS_L0 (l, 0, List.replicate l.length z) = some l := fun z => setLoop (by omega) (by simp) (L := fun i o => M.laws_toStringS_L0 (l, i, o)) (fun i x o hx hix ho hi hw => by
    show M.laws_toStringS_L0 (l, i, o) = _
    rw [M.laws_toStringS_L0]; try dsimp only
    rw [if_pos hi, hix, bind_some', gd_t (by omega), bind_some', gd_t (by omega), bind_some', hw]
    rfl) (fun o => by
    show M.laws_toStringS_L0 (l, _, o) = _
    rw [M.laws_toStringS_L0]; try dsimp only
    rw [if_neg (by omega)])
  rw [hloop]; rfl
open Classical in
theorem eqStringS (l l' : List ByteArray) (hl : l.length ≤ lim) : M.laws_eqStringS (l, l') = some (decide (l = l')) := by
  have hlim : lim = 140737488355328 := rfl
  rw [M.laws_eqStringS]; try dsimp only
  by_cases hlen : l.length = l'.length
  rotate_left
  · rw [if_neg (by omega)]
    rw [decide_eq_false (fun e => hlen (by rw [e]))]
  rw [if_pos (by omega)]
  have hloop : M.laws_eqStringS_L0 (l, l', 0) = _ := eqLoop hl hlen (L := fun i => M.laws_eqStringS_L0 (l, l', i)) (fun i x y hx hy hix hiy hi hw => by
    show M.laws_eqStringS_L0 (l, l', i) = _
    rw [M.laws_eqStringS_L0]; try dsimp only
    rw [if_pos hi, hix, bind_some', hiy, bind_some', hw]
    by_cases e : x = y
    · rw [if_pos e, if_pos e]
    · rw [if_neg e, if_neg e]) (by
    show M.laws_eqStringS_L0 (l, l', _) = _
    rw [M.laws_eqStringS_L0]; try dsimp only
    rw [if_neg (by omega)])
  rw [hloop, bind_some']
  by_cases e : l = l'
  · rw [if_pos e, decide_eq_true e]
  · rw [if_neg e, decide_eq_false e]
end Q
mutual
def Alt.cost : Alt → Nat
  | ⟨Great_, Vars_, E_⟩ => Great_.size + (Vars_.length + sumC ByteArray.size Vars_) + Exp.cost E_
def Alt.costL : List Alt → Nat
  | [] => 0
  | x :: l => x.cost + Alt.costL l
def Dec.cost : Dec → Nat
  | ⟨Name_, Pars_, E_, Where_⟩ => Name_.size + (Pars_.length + sumC ByteArray.size Pars_) + Exp.cost E_ + (Where_.length + Dec.costL Where_)
def Dec.costL : List Dec → Nat
  | [] => 0
  | x :: l => x.cost + Dec.costL l
def Exp.cost : Exp → Nat
  | ⟨K_, S_, N_, L_, Decs_, Alts_⟩ => S_.size + (L_.length + Exp.costL L_) + (Decs_.length + Dec.costL Decs_) + (Alts_.length + Alt.costL Alts_)
def Exp.costL : List Exp → Nat
  | [] => 0
  | x :: l => x.cost + Exp.costL l
end
mutual
def Alt.small : Alt → Prop
  | ⟨Great_, Vars_, E_⟩ => Great_.size ≤ lim ∧ Q.strOk Vars_ ∧ Exp.small E_
def Alt.smallL : List Alt → Prop
  | [] => True
  | x :: l => x.small ∧ Alt.smallL l
def Dec.small : Dec → Prop
  | ⟨Name_, Pars_, E_, Where_⟩ => Name_.size ≤ lim ∧ Q.strOk Pars_ ∧ Exp.small E_ ∧ Where_.length ≤ lim ∧ Dec.smallL Where_
def Dec.smallL : List Dec → Prop
  | [] => True
  | x :: l => x.small ∧ Dec.smallL l
def Exp.small : Exp → Prop
  | ⟨K_, S_, N_, L_, Decs_, Alts_⟩ => S_.size ≤ lim ∧ L_.length ≤ lim ∧ Exp.smallL L_ ∧ Decs_.length ≤ lim ∧ Dec.smallL Decs_ ∧ Alts_.length ≤ lim ∧ Alt.smallL Alts_
def Exp.smallL : List Exp → Prop
  | [] => True
  | x :: l => x.small ∧ Exp.smallL l
end
theorem Alt.smallL_iff : ∀ {l : List Alt}, Alt.smallL l ↔ ∀ x ∈ l, x.small
  | [] => by simp [Alt.smallL]
  | x :: l => by simp [Alt.smallL, Alt.smallL_iff (l := l)]
theorem Alt.costL_eq : ∀ (l : List Alt), Alt.costL l = sumC Alt.cost l
  | [] => rfl
  | x :: l => by simp [Alt.costL, sumC, Alt.costL_eq l]
theorem Alt.cost_eq (t : Alt) : t.cost = t.Great.size + (t.Vars.length + sumC ByteArray.size t.Vars) + t.E.cost := by
  cases t; simp only [Alt.cost]
theorem Alt.small_eq (t : Alt) : t.small ↔ t.Great.size ≤ lim ∧ Q.strOk t.Vars ∧ t.E.small := by
  cases t; simp only [Alt.small]
theorem Alt.ext' {a b : Alt} (h0 : a.Great = b.Great) (h1 : a.Vars = b.Vars) (h2 : a.E = b.E) : a = b := by
  cases a; cases b; simp_all
theorem Dec.smallL_iff : ∀ {l : List Dec}, Dec.smallL l ↔ ∀ x ∈ l, x.small
  | [] => by simp [Dec.smallL]
  | x :: l => by simp [Dec.smallL, Dec.smallL_iff (l := l)]
theorem Dec.costL_eq : ∀ (l : List Dec), Dec.costL l = sumC Dec.cost l
  | [] => rfl
  | x :: l => by simp [Dec.costL, sumC, Dec.costL_eq l]
theorem Dec.cost_eq (t : Dec) : t.cost = t.Name.size + (t.Pars.length + sumC ByteArray.size t.Pars) + t.E.cost + (t.Where.length + sumC Dec.cost t.Where) := by
  cases t; simp only [Dec.cost, Dec.costL_eq]
theorem Dec.small_eq (t : Dec) : t.small ↔ t.Name.size ≤ lim ∧ Q.strOk t.Pars ∧ t.E.small ∧ t.Where.length ≤ lim ∧ (∀ x ∈ t.Where, x.small) := by
  cases t; simp only [Dec.small, Dec.smallL_iff]
theorem Dec.ext' {a b : Dec} (h0 : a.Name = b.Name) (h1 : a.Pars = b.Pars) (h2 : a.E = b.E) (h3 : a.Where = b.Where) : a = b := by
  cases a; cases b; simp_all
theorem Exp.smallL_iff : ∀ {l : List Exp}, Exp.smallL l ↔ ∀ x ∈ l, x.small
  | [] => by simp [Exp.smallL]
  | x :: l => by simp [Exp.smallL, Exp.smallL_iff (l := l)]
theorem Exp.costL_eq : ∀ (l : List Exp), Exp.costL l = sumC Exp.cost l
  | [] => rfl
  | x :: l => by simp [Exp.costL, sumC, Exp.costL_eq l]
theorem Exp.cost_eq (t : Exp) : t.cost = t.S.size + (t.L.length + sumC Exp.cost t.L) + (t.Decs.length + sumC Dec.cost t.Decs) + (t.Alts.length + sumC Alt.cost t.Alts) := by
  cases t; simp only [Exp.cost, Exp.costL_eq, Dec.costL_eq, Alt.costL_eq]
theorem Exp.small_eq (t : Exp) : t.small ↔ t.S.size ≤ lim ∧ t.L.length ≤ lim ∧ (∀ x ∈ t.L, x.small) ∧ t.Decs.length ≤ lim ∧ (∀ x ∈ t.Decs, x.small) ∧ t.Alts.length ≤ lim ∧ (∀ x ∈ t.Alts, x.small) := by
  cases t; simp only [Exp.small, Exp.smallL_iff, Dec.smallL_iff, Alt.smallL_iff]
theorem Exp.ext' {a b : Exp} (h0 : a.K = b.K) (h1 : a.S = b.S) (h2 : a.N = b.N) (h3 : a.L = b.L) (h4 : a.Decs = b.Decs) (h5 : a.Alts = b.Alts) : a = b := by
  cases a; cases b; simp_all
mutual
theorem Alt.ind {M0 : Alt → Prop} {M1 : Dec → Prop} {M2 : Exp → Prop} (h0 : ∀ t : Alt, M2 t.E → M0 t) (h1 : ∀ t : Dec, M2 t.E → (∀ x ∈ t.Where, M1 x) → M1 t) (h2 : ∀ t : Exp, (∀ x ∈ t.L, M2 x) → (∀ x ∈ t.Decs, M1 x) → (∀ x ∈ t.Alts, M0 x) → M2 t) : ∀ t : Alt, M0 t
  | ⟨Great_, Vars_, E_⟩ => h0 _ (Exp.ind h0 h1 h2 E_)
theorem Alt.indL {M0 : Alt → Prop} {M1 : Dec → Prop} {M2 : Exp → Prop} (h0 : ∀ t : Alt, M2 t.E → M0 t) (h1 : ∀ t : Dec, M2 t.E → (∀ x ∈ t.Where, M1 x) → M1 t) (h2 : ∀ t : Exp, (∀ x ∈ t.L, M2 x) → (∀ x ∈ t.Decs, M1 x) → (∀ x ∈ t.Alts, M0 x) → M2 t) : ∀ l : List Alt, ∀ x ∈ l, M0 x
  | [] => fun x hx => by cases hx
  | y :: l => fun x hx => (List.mem_cons.1 hx).elim (fun e => e ▸ Alt.ind h0 h1 h2 y) (fun h => Alt.indL h0 h1 h2 l x h)
theorem Dec.ind {M0 : Alt → Prop} {M1 : Dec → Prop} {M2 : Exp → Prop} (h0 : ∀ t : Alt, M2 t.E → M0 t) (h1 : ∀ t : Dec, M2 t.E → (∀ x ∈ t.Where, M1 x) → M1 t) (h2 : ∀ t : Exp, (∀ x ∈ t.L, M2 x) → (∀ x ∈ t.Decs, M1 x) → (∀ x ∈ t.Alts, M0 x) → M2 t) : ∀ t : Dec, M1 t
  | ⟨Name_, Pars_, E_, Where_⟩ => h1 _ (Exp.ind h0 h1 h2 E_) (Dec.indL h0 h1 h2 Where_)
theorem Dec.indL {M0 : Alt → Prop} {M1 : Dec → Prop} {M2 : Exp → Prop} (h0 : ∀ t : Alt, M2 t.E → M0 t) (h1 : ∀ t : Dec, M2 t.E → (∀ x ∈ t.Where, M1 x) → M1 t) (h2 : ∀ t : Exp, (∀ x ∈ t.L, M2 x) → (∀ x ∈ t.Decs, M1 x) → (∀ x ∈ t.Alts, M0 x) → M2 t) : ∀ l : List Dec, ∀ x ∈ l, M1 x
  | [] => fun x hx => by cases hx
  | y :: l => fun x hx => (List.mem_cons.1 hx).elim (fun e => e ▸ Dec.ind h0 h1 h2 y) (fun h => Dec.indL h0 h1 h2 l x h)
theorem Exp.ind {M0 : Alt → Prop} {M1 : Dec → Prop} {M2 : Exp → Prop} (h0 : ∀ t : Alt, M2 t.E → M0 t) (h1 : ∀ t : Dec, M2 t.E → (∀ x ∈ t.Where, M1 x) → M1 t) (h2 : ∀ t : Exp, (∀ x ∈ t.L, M2 x) → (∀ x ∈ t.Decs, M1 x) → (∀ x ∈ t.Alts, M0 x) → M2 t) : ∀ t : Exp, M2 t
  | ⟨K_, S_, N_, L_, Decs_, Alts_⟩ => h2 _ (Exp.indL h0 h1 h2 L_) (Dec.indL h0 h1 h2 Decs_) (Alt.indL h0 h1 h2 Alts_)
theorem Exp.indL {M0 : Alt → Prop} {M1 : Dec → Prop} {M2 : Exp → Prop} (h0 : ∀ t : Alt, M2 t.E → M0 t) (h1 : ∀ t : Dec, M2 t.E → (∀ x ∈ t.Where, M1 x) → M1 t) (h2 : ∀ t : Exp, (∀ x ∈ t.L, M2 x) → (∀ x ∈ t.Decs, M1 x) → (∀ x ∈ t.Alts, M0 x) → M2 t) : ∀ l : List Exp, ∀ x ∈ l, M2 x
  | [] => fun x hx => by cases hx
  | y :: l => fun x hx => (List.mem_cons.1 hx).elim (fun e => e ▸ Exp.ind h0 h1 h2 y) (fun h => Exp.indL h0 h1 h2 l x h)
end
namespace Q
theorem szAltS_of (l : List Alt) (hl : l.length ≤ lim) (IH : ∀ x ∈ l, ∀ left : Int, 0 ≤ left → left ≤ 1048576 → M.laws_szAlt (x, left) = some (rest x.cost left)) (left : Int) (h0 : 0 ≤ left) (h1 : left ≤ 1048576) : M.laws_szAltS (l, left) = some (rest (l.length + sumC Alt.cost l) left) := by
  have hlim : lim = 140737488355328 := rfl
  rw [M.laws_szAltS]; try dsimp only
  rw [wrap_ok (by omega)]
  by_cases hk : left - ((l.length : Nat) : Int) < 0
  · rw [if_pos hk, rest_neg (by omega)]
  rw [if_neg hk]
  have hloop : M.laws_szAltS_L0 (l, left - ((l.length : Nat) : Int), 0) = _ := szLoop Alt.cost hl (L := fun b i => M.laws_szAltS_L0 (l, b, i)) (fun b i x hx hix hb0 hb1 hi hw => by
    show M.laws_szAltS_L0 (l, b, i) = _
    rw [M.laws_szAltS_L0]; try dsimp only
    rw [if_pos hi, hix, bind_some', IH x (List.mem_of_getElem? hx) b hb0 hb1, bind_some', hw]) (fun b => by
    show M.laws_szAltS_L0 (l, b, _) = _
    rw [M.laws_szAltS_L0]; try dsimp only
    rw [if_neg (by omega)]) (by omega) (by omega)
  rw [hloop, bind_some']
  by_cases hr : ((sumC Alt.cost l : Nat) : Int) ≤ left - ((l.length : Nat) : Int)
  · rw [rest_pos hr, if_neg (by omega), rest_pos (by omega)]; try dsimp only; congr 1; omega
  · rw [rest_neg hr, if_pos (by omega), rest_neg (by omega)]
theorem toAltS_of (l : List Alt) (h : l.length ≤ 1048576) (IH : ∀ x ∈ l, M.laws_toAlt x = some x) : M.laws_toAltS l = some l := by
  have hlim : lim = 140737488355328 := rfl
  rw [M.laws_toAltS, gd_t (by omega), bind_some', gd_t (by omega), bind_some']
  have hloop : ∀ z, M.laws_toAltS_L0 (l, 0, List.replicate l.length z) = some l := fun z => setLoop (by omega) (by simp) (L := fun i o => M.laws_toAltS_L0 (l, i, o)) (fun i x o hx hix ho hi hw => by
    show M.laws_toAltS_L0 (l, i, o) = _
    rw [M.laws_toAltS_L0]; try dsimp only
    rw [if_pos hi, hix, bind_some', IH x (List.mem_of_getElem? hx), bind_some', gd_t (by omega), bind_some', gd_t (by omega), bind_some', hw]
    rfl) (fun o => by
    show M.laws_toAltS_L0 (l, _, o) = _
    rw [M.laws_toAltS_L0]; try dsimp only
    rw [if_neg (by omega)])
  rw [hloop]; rfl
open Classical in
theorem eqAltS_of (l l' : List Alt) (hl : l.length ≤ lim) (IH : ∀ x ∈ l, ∀ y, M.laws_eqAlt (x, y) = some (decide (x = y))) : M.laws_eqAltS (l, l') = some (decide (l = l')) := by
  have hlim : lim = 140737488355328 := rfl
  rw [M.laws_eqAltS]; try dsimp only
  by_cases hlen : l.length = l'.length
  rotate_left
  · rw [if_neg (by omega)]
    rw [decide_eq_false (fun e => hlen (by rw [e]))]
  rw [if_pos (by omega)]
  have hloop : M.laws_eqAltS_L0 (l, l', 0) = _ := eqLoop hl hlen (L := fun i => M.laws_eqAltS_L0 (l, l', i)) (fun i x y hx hy hix hiy hi hw => by
    show M.laws_eqAltS_L0 (l, l', i) = _
    rw [M.laws_eqAltS_L0]; try dsimp only
    rw [if_pos hi, hix, bind_some', hiy, bind_some', hw]
    rw [IH x (List.mem_of_getElem? hx) y, bind_some']
    by_cases e : x = y
    · rw [if_pos (decide_eq_true e), if_pos e]
    · rw [if_neg (by simpa using e), if_neg e]) (by
    show M.laws_eqAltS_L0 (l, l', _) = _
    rw [M.laws_eqAltS_L0]; try dsimp only
    rw [if_neg (by omega)])
  rw [hloop, bind_some']
  by_cases e : l = l'
  · rw [if_pos e, decide_eq_true e]
  · rw [if_neg e, decide_eq_false e]
theorem szDecS_of (l : List Dec) (hl : l.length ≤ lim) (IH : ∀ x ∈ l, ∀ left : Int, 0 ≤ left → left ≤ 1048576 → M.laws_szDec (x, left) = some (rest x.cost left)) (left : Int) (h0 : 0 ≤ left) (h1 : left ≤ 1048576) : M.laws_szDecS (l, left) = some (rest (l.length + sumC Dec.cost l) left) := by
  have hlim : lim = 140737488355328 := rfl
  rw [M.laws_szDecS]; try dsimp only
  rw [wrap_ok (by omega)]
  by_cases hk : left - ((l.length : Nat) : Int) < 0
  · rw [if_pos hk, rest_neg (by omega)]
  rw [if_neg hk]
  have hloop : M.laws_szDecS_L0 (l, left - ((l.length : Nat) : Int), 0) = _ := szLoop Dec.cost hl (L := fun b i => M.laws_szDecS_L0 (l, b, i)) (fun b i x hx hix hb0 hb1 hi hw => by
    show M.laws_szDecS_L0 (l, b, i) = _
    rw [M.laws_szDecS_L0]; try dsimp only
    rw [if_pos hi, hix, bind_some', IH x (List.mem_of_getElem? hx) b hb0 hb1, bind_some', hw]) (fun b => by
    show M.laws_szDecS_L0 (l, b, _) = _
    rw [M.laws_szDecS_L0]; try dsimp only
    rw [if_neg (by omega)]) (by omega) (by omega)
  rw [hloop, bind_some']
  by_cases hr : ((sumC Dec.cost l : Nat) : Int) ≤ left - ((l.length : Nat) : Int)
  · rw [rest_pos hr, if_neg (by omega), rest_pos (by omega)]; try dsimp only; congr 1; omega
  · rw [rest_neg hr, if_pos (by omega), rest_neg (by omega)]
theorem toDecS_of (l : List Dec) (h : l.length ≤ 1048576) (IH : ∀ x ∈ l, M.laws_toDec x = some x) : M.laws_toDecS l = some l := by
  have hlim : lim = 140737488355328 := rfl
  rw [M.laws_toDecS, gd_t (by omega), bind_some', gd_t (by omega), bind_some']
  have hloop : ∀ z, M.laws_toDecS_L0 (l, 0, List.replicate l.length z) = some l := fun z => setLoop (by omega) (by simp) (L := fun i o => M.laws_toDecS_L0 (l, i, o)) (fun i x o hx hix ho hi hw => by
    show M.laws_toDecS_L0 (l, i, o) = _
    rw [M.laws_toDecS_L0]; try dsimp only
    rw [if_pos hi, hix, bind_some', IH x (List.mem_of_getElem? hx), bind_some', gd_t (by omega), bind_some', gd_t (by omega), bind_some', hw]
    rfl) (fun o => by
    show M.laws_toDecS_L0 (l, _, o) = _
    rw [M.laws_toDecS_L0]; try dsimp only
    rw [if_neg (by omega)])
  rw [hloop]; rfl
open Classical in
theorem eqDecS_of (l l' : List Dec) (hl : l.length ≤ lim) (IH : ∀ x ∈ l, ∀ y, M.laws_eqDec (x, y) = some (decide (x = y))) : M.laws_eqDecS (l, l') = some (decide (l = l')) := by
  have hlim : lim = 140737488355328 := rfl
  rw [M.laws_eqDecS]; try dsimp only
  by_cases hlen : l.length = l'.length
  rotate_left
  · rw [if_neg (by omega)]
    rw [decide_eq_false (fun e => hlen (by rw [e]))]
  rw [if_pos (by omega)]
  have hloop : M.laws_eqDecS_L0 (l, l', 0) = _ := eqLoop hl hlen (L := fun i => M.laws_eqDecS_L0 (l, l', i)) (fun i x y hx hy hix hiy hi hw => by
    show M.laws_eqDecS_L0 (l, l', i) = _
    rw [M.laws_eqDecS_L0]; try dsimp only
    rw [if_pos hi, hix, bind_some', hiy, bind_some', hw]
    rw [IH x (List.mem_of_getElem? hx) y, bind_some']
    by_cases e : x = y
    · rw [if_pos (decide_eq_true e), if_pos e]
    · rw [if_neg (by simpa using e), if_neg e]) (by
    show M.laws_eqDecS_L0 (l, l', _) = _
    rw [M.laws_eqDecS_L0]; try dsimp only
    rw [if_neg (by omega)])
  rw [hloop, bind_some']
  by_cases e : l = l'
  · rw [if_pos e, decide_eq_true e]
  · rw [if_neg e, decide_eq_false e]
theorem szExpS_of (l : List Exp) (hl : l.length ≤ lim) (IH : ∀ x ∈ l, ∀ left : Int, 0 ≤ left → left ≤ 1048576 → M.laws_szExp (x, left) = some (rest x.cost left)) (left : Int) (h0 : 0 ≤ left) (h1 : left ≤ 1048576) : M.laws_szExpS (l, left) = some (rest (l.length + sumC Exp.cost l) left) := by
  have hlim : lim = 140737488355328 := rfl
  rw [M.laws_szExpS]; try dsimp only
  rw [wrap_ok (by omega)]
  by_cases hk : left - ((l.length : Nat) : Int) < 0
  · rw [if_pos hk, rest_neg (by omega)]
  rw [if_neg hk]
  have hloop : M.laws_szExpS_L0 (l, left - ((l.length : Nat) : Int), 0) = _ := szLoop Exp.cost hl (L := fun b i => M.laws_szExpS_L0 (l, b, i)) (fun b i x hx hix hb0 hb1 hi hw => by
    show M.laws_szExpS_L0 (l, b, i) = _
    rw [M.laws_szExpS_L0]; try dsimp only
    rw [if_pos hi, hix, bind_some', IH x (List.mem_of_getElem? hx) b hb0 hb1, bind_some', hw]) (fun b => by
    show M.laws_szExpS_L0 (l, b, _) = _
    rw [M.laws_szExpS_L0]; try dsimp only
    rw [if_neg (by omega)]) (by omega) (by omega)
  rw [hloop, bind_some']
  by_cases hr : ((sumC Exp.cost l : Nat) : Int) ≤ left - ((l.length : Nat) : Int)
  · rw [rest_pos hr, if_neg (by omega), rest_pos (by omega)]; try dsimp only; congr 1; omega
  · rw [rest_neg hr, if_pos (by omega), rest_neg (by omega)]
theorem toExpS_of (l : List Exp) (h : l.length ≤ 1048576) (IH : ∀ x ∈ l, M.laws_toExp x = some x) : M.laws_toExpS l = some l := by
  have hlim : lim = 140737488355328 := rfl
  rw [M.laws_toExpS, gd_t (by omega), bind_some', gd_t (by omega), bind_some']
  have hloop : ∀ z, M.laws_toExpS_L0 (l, 0, List.replicate l.length z) = some l := fun z => setLoop (by omega) (by simp) (L := fun i o => M.laws_toExpS_L0 (l, i, o)) (fun i x o hx hix ho hi hw => by
    show M.laws_toExpS_L0 (l, i, o) = _
    rw [M.laws_toExpS_L0]; try dsimp only
    rw [if_pos hi, hix, bind_some', IH x (List.mem_of_getElem? hx), bind_some', gd_t (by omega), bind_some', gd_t (by omega), bind_some', hw]
    rfl) (fun o => by
    show M.laws_toExpS_L0 (l, _, o) = _
    rw [M.laws_toExpS_L0]; try dsimp only
    rw [if_neg (by omega)])
  rw [hloop]; rfl
open Classical in
theorem eqExpS_of (l l' : List Exp) (hl : l.length ≤ lim) (IH : ∀ x ∈ l, ∀ y, M.laws_eqExp (x, y) = some (decide (x = y))) : M.laws_eqExpS (l, l') = some (decide (l = l')) := by
  have hlim : lim = 140737488355328 := rfl
  rw [M.laws_eqExpS]; try dsimp only
  by_cases hlen : l.length = l'.length
  rotate_left
  · rw [if_neg (by omega)]
    rw [decide_eq_false (fun e => hlen (by rw [e]))]
  rw [if_pos (by omega)]
  have hloop : M.laws_eqExpS_L0 (l, l', 0) = _ := eqLoop hl hlen (L := fun i => M.laws_eqExpS_L0 (l, l', i)) (fun i x y hx hy hix hiy hi hw => by
    show M.laws_eqExpS_L0 (l, l', i) = _
    rw [M.laws_eqExpS_L0]; try dsimp only
    rw [if_pos hi, hix, bind_some', hiy, bind_some', hw]
    rw [IH x (List.mem_of_getElem? hx) y, bind_some']
    by_cases e : x = y
    · rw [if_pos (decide_eq_true e), if_pos e]
    · rw [if_neg (by simpa using e), if_neg e]) (by
    show M.laws_eqExpS_L0 (l, l', _) = _
    rw [M.laws_eqExpS_L0]; try dsimp only
    rw [if_neg (by omega)])
  rw [hloop, bind_some']
  by_cases e : l = l'
  · rw [if_pos e, decide_eq_true e]
  · rw [if_neg e, decide_eq_false e]
theorem szAlt_all : (∀ t : Alt, t.small → ∀ left : Int, 0 ≤ left → left ≤ 1048576 → M.laws_szAlt (t, left) = some (rest t.cost left)) ∧
  (∀ t : Dec, t.small → ∀ left : Int, 0 ≤ left → left ≤ 1048576 → M.laws_szDec (t, left) = some (rest t.cost left)) ∧
  (∀ t : Exp, t.small → ∀ left : Int, 0 ≤ left → left ≤ 1048576 → M.laws_szExp (t, left) = some (rest t.cost left)) := by
  have h0 : ∀ t : Alt, (t.E.small → ∀ left : Int, 0 ≤ left → left ≤ 1048576 → M.laws_szExp (t.E, left) = some (rest t.E.cost left)) → (t.small → ∀ left : Int, 0 ≤ left → left ≤ 1048576 → M.laws_szAlt (t, left) = some (rest t.cost left)) := by
    intro t ih0
    intro hs left h0 h1
    have hlim : lim = 140737488355328 := rfl
    obtain ⟨hq_Great, hq_Vars, hq_E⟩ := (Alt.small_eq t).1 hs
    have hcost := Alt.cost_eq t
    rw [M.laws_szAlt]; try dsimp only
    rw [wrap_ok (by omega)]
    by_cases hk_Great : left - ((t.Great.size : Nat) : Int) < 0
    · rw [if_pos hk_Great, rest_neg (by omega)]
    rw [if_neg hk_Great]
    rw [szStringS _ hq_Vars _ (by omega) (by omega), bind_some']
    by_cases hk_Vars : ((t.Vars.length + sumC ByteArray.size t.Vars : Nat) : Int) ≤ left - ((t.Great.size : Nat) : Int)
    rotate_left
    · rw [rest_neg hk_Vars, if_pos (by omega), rest_neg (by omega)]
    rw [rest_pos hk_Vars, if_neg (by omega)]
    rw [ih0 hq_E _ (by omega) (by omega), bind_some']
    by_cases hk_E : ((Exp.cost t.E : Nat) : Int) ≤ left - ((t.Great.size : Nat) : Int) - ((t.Vars.length + sumC ByteArray.size t.Vars : Nat) : Int)
    rotate_left
    · rw [rest_neg hk_E, if_pos (by omega), rest_neg (by omega)]
    rw [rest_pos hk_E, if_neg (by omega)]
    rw [rest_pos (by omega)]; try congr 1; try omega
  have h1 : ∀ t : Dec, (t.E.small → ∀ left : Int, 0 ≤ left → left ≤ 1048576 → M.laws_szExp (t.E, left) = some (rest t.E.cost left)) → (∀ x ∈ t.Where, (x.small → ∀ left : Int, 0 ≤ left → left ≤ 1048576 → M.laws_szDec (x, left) = some (rest x.cost left))) → (t.small → ∀ left : Int, 0 ≤ left → left ≤ 1048576 → M.laws_szDec (t, left) = some (rest t.cost left)) := by
    intro t ih0 ih1
    intro hs left h0 h1
    have hlim : lim = 140737488355328 := rfl
    obtain ⟨hq_Name, hq_Pars, hq_E, hl_Where, hm_Where⟩ := (Dec.small_eq t).1 hs
    have hcost := Dec.cost_eq t
    rw [M.laws_szDec]; try dsimp only
    rw [wrap_ok (by omega)]
    by_cases hk_Name : left - ((t.Name.size : Nat) : Int) < 0
    · rw [if_pos hk_Name, rest_neg (by omega)]
    rw [if_neg hk_Name]
    rw [szStringS _ hq_Pars _ (by omega) (by omega), bind_some']
    by_cases hk_Pars : ((t.Pars.length + sumC ByteArray.size t.Pars : Nat) : Int) ≤ left - ((t.Name.size : Nat) : Int)
    rotate_left
    · rw [rest_neg hk_Pars, if_pos (by omega), rest_neg (by omega)]
    rw [rest_pos hk_Pars, if_neg (by omega)]
    rw [ih0 hq_E _ (by omega) (by omega), bind_some']
    by_cases hk_E : ((Exp.cost t.E : Nat) : Int) ≤ left - ((t.Name.size : Nat) : Int) - ((t.Pars.length + sumC ByteArray.size t.Pars : Nat) : Int)
    rotate_left
    · rw [rest_neg hk_E, if_pos (by omega), rest_neg (by omega)]
    rw [rest_pos hk_E, if_neg (by omega)]
    rw [szDecS_of _ hl_Where (fun x hx => ih1 x hx (hm_Where x hx)) _ (by omega) (by omega), bind_some']
    by_cases hk_Where : ((t.Where.length + sumC Dec.cost t.Where : Nat) : Int) ≤ left - ((t.Name.size : Nat) : Int) - ((t.Pars.length + sumC ByteArray.size t.Pars : Nat) : Int) - ((Exp.cost t.E : Nat) : Int)
    rotate_left
    · rw [rest_neg hk_Where, if_pos (by omega), rest_neg (by omega)]
    rw [rest_pos hk_Where, if_neg (by omega)]
    rw [rest_pos (by omega)]; try congr 1; try omega
  have h2 : ∀ t : Exp, (∀ x ∈ t.L, (x.small → ∀ left : Int, 0 ≤ left → left ≤ 1048576 → M.laws_szExp (x, left) = some (rest x.cost left))) → (∀ x ∈ t.Decs, (x.small → ∀ left : Int, 0 ≤ left → left ≤ 1048576 → M.laws_szDec (x, left) = some (rest x.cost left))) → (∀ x ∈ t.Alts, (x.small → ∀ left : Int, 0 ≤ left → left ≤ 1048576 → M.laws_szAlt (x, left) = some (rest x.cost left))) → (t.small → ∀ left : Int, 0 ≤ left → left ≤ 1048576 → M.laws_szExp (t, left) = some (rest t.cost left)) := by
    intro t ih0 ih1 ih2
    intro hs left h0 h1
    have hlim : lim = 140737488355328 := rfl
    obtain ⟨hq_S, hl_L, hm_L, hl_Decs, hm_Decs, hl_Alts, hm_Alts⟩ := (Exp.small_eq t).1 hs
    have hcost := Exp.cost_eq t
    rw [M.laws_szExp]; try dsimp only
    rw [wrap_ok (by omega)]
    by_cases hk_S : left - ((t.S.size : Nat) : Int) < 0
    · rw [if_pos hk_S, rest_neg (by omega)]
    rw [if_neg hk_S]
    rw [szExpS_of _ hl_L (fun x hx => ih0 x hx (hm_L x hx)) _ (by omega) (by omega), bind_some']
    by_cases hk_L : ((t.L.length + sumC Exp.cost t.L : Nat) : Int) ≤ left - ((t.S.size : Nat) : Int)
    rotate_left
    · rw [rest_neg hk_L, if_pos (by omega), rest_neg (by omega)]
    rw [rest_pos hk_L, if_neg (by omega)]
    rw [szDecS_of _ hl_Decs (fun x hx => ih1 x hx (hm_Decs x hx)) _ (by omega) (by omega), bind_some']
    by_cases hk_Decs : ((t.Decs.length + sumC Dec.cost t.Decs : Nat) : Int) ≤ left - ((t.S.size : Nat) : Int) - ((t.L.length + sumC Exp.cost t.L : Nat) : Int)
    rotate_left
    · rw [rest_neg hk_Decs, if_pos (by omega), rest_neg (by omega)]
    rw [rest_pos hk_Decs, if_neg (by omega)]
    rw [szAltS_of _ hl_Alts (fun x hx => ih2 x hx (hm_Alts x hx)) _ (by omega) (by omega), bind_some']
    by_cases hk_Alts : ((t.Alts.length + sumC Alt.cost t.Alts : Nat) : Int) ≤ left - ((t.S.size : Nat) : Int) - ((t.L.length + sumC Exp.cost t.L : Nat) : Int) - ((t.Decs.length + sumC Dec.cost t.Decs : Nat) : Int)
    rotate_left
    · rw [rest_neg hk_Alts, if_pos (by omega), rest_neg (by omega)]
    rw [rest_pos hk_Alts, if_neg (by omega)]
    rw [rest_pos (by omega)]; try congr 1; try omega
  exact ⟨fun t => Alt.ind h0 h1 h2 t, fun t => Dec.ind h0 h1 h2 t, fun t => Exp.ind h0 h1 h2 t⟩
theorem szAlt : ∀ t : Alt, t.small → ∀ left : Int, 0 ≤ left → left ≤ 1048576 → M.laws_szAlt (t, left) = some (rest t.cost left) := szAlt_all.1
theorem szDec : ∀ t : Dec, t.small → ∀ left : Int, 0 ≤ left → left ≤ 1048576 → M.laws_szDec (t, left) = some (rest t.cost left) := szAlt_all.2.1
theorem szExp : ∀ t : Exp, t.small → ∀ left : Int, 0 ≤ left → left ≤ 1048576 → M.laws_szExp (t, left) = some (rest t.cost left) := szAlt_all.2.2
theorem toAlt_all : (∀ t : Alt, t.cost ≤ 1048576 → M.laws_toAlt t = some t) ∧
  (∀ t : Dec, t.cost ≤ 1048576 → M.laws_toDec t = some t) ∧
  (∀ t : Exp, t.cost ≤ 1048576 → M.laws_toExp t = some t) := by
  have h0 : ∀ t : Alt, (t.E.cost ≤ 1048576 → M.laws_toExp t.E = some t.E) → (t.cost ≤ 1048576 → M.laws_toAlt t = some t) := by
    intro t ih0
    intro hc
    have hlim : lim = 140737488355328 := rfl
    have hcost := Alt.cost_eq t
    rw [M.laws_toAlt]; try dsimp only
    rw [toStringS _ (by omega), bind_some']
    rw [ih0 (by omega), bind_some']
    all_goals first | rfl | (cases t; rfl)
  have h1 : ∀ t : Dec, (t.E.cost ≤ 1048576 → M.laws_toExp t.E = some t.E) → (∀ x ∈ t.Where, (x.cost ≤ 1048576 → M.laws_toDec x = some x)) → (t.cost ≤ 1048576 → M.laws_toDec t = some t) := by
    intro t ih0 ih1
    intro hc
    have hlim : lim = 140737488355328 := rfl
    have hcost := Dec.cost_eq t
    rw [M.laws_toDec]; try dsimp only
    rw [toStringS _ (by omega), bind_some']
    rw [ih0 (by omega), bind_some']
    have hm_Where : ∀ x ∈ t.Where, x.cost ≤ 1048576 := fun x hx => by have := sumC_mem (c := Dec.cost) hx; omega
    rw [toDecS_of _ (by omega) (fun x hx => ih1 x hx (hm_Where x hx)), bind_some']
    all_goals first | rfl | (cases t; rfl)
  have h2 : ∀ t : Exp, (∀ x ∈ t.L, (x.cost ≤ 1048576 → M.laws_toExp x = some x)) → (∀ x ∈ t.Decs, (x.cost ≤ 1048576 → M.laws_toDec x = some x)) → (∀ x ∈ t.Alts, (x.cost ≤ 1048576 → M.laws_toAlt x = some x)) → (t.cost ≤ 1048576 → M.laws_toExp t = some t) := by
    intro t ih0 ih1 ih2
    intro hc
    have hlim : lim = 140737488355328 := rfl
    have hcost := Exp.cost_eq t
    rw [M.laws_toExp]; try dsimp only
    have hm_L : ∀ x ∈ t.L, x.cost ≤ 1048576 := fun x hx => by have := sumC_mem (c := Exp.cost) hx; omega
    rw [toExpS_of _ (by omega) (fun x hx => ih0 x hx (hm_L x hx)), bind_some']
    have hm_Decs : ∀ x ∈ t.Decs, x.cost ≤ 1048576 := fun x hx => by have := sumC_mem (c := Dec.cost) hx; omega
    rw [toDecS_of _ (by omega) (fun x hx => ih1 x hx (hm_Decs x hx)), bind_some']
    have hm_Alts : ∀ x ∈ t.Alts, x.cost ≤ 1048576 := fun x hx => by have := sumC_mem (c := Alt.cost) hx; omega
    rw [toAltS_of _ (by omega) (fun x hx => ih2 x hx (hm_Alts x hx)), bind_some']
    all_goals first | rfl | (cases t; rfl)
  exact ⟨fun t => Alt.ind h0 h1 h2 t, fun t => Dec.ind h0 h1 h2 t, fun t => Exp.ind h0 h1 h2 t⟩
theorem toAlt : ∀ t : Alt, t.cost ≤ 1048576 → M.laws_toAlt t = some t := toAlt_all.1
theorem toDec : ∀ t : Dec, t.cost ≤ 1048576 → M.laws_toDec t = some t := toAlt_all.2.1
theorem toExp : ∀ t : Exp, t.cost ≤ 1048576 → M.laws_toExp t = some t := toAlt_all.2.2
open Classical in
theorem eqAlt_all : (∀ t : Alt, t.small → ∀ u : Alt, M.laws_eqAlt (t, u) = some (decide (t = u))) ∧
  (∀ t : Dec, t.small → ∀ u : Dec, M.laws_eqDec (t, u) = some (decide (t = u))) ∧
  (∀ t : Exp, t.small → ∀ u : Exp, M.laws_eqExp (t, u) = some (decide (t = u))) := by
  have h0 : ∀ t : Alt, (t.E.small → ∀ u : Exp, M.laws_eqExp (t.E, u) = some (decide (t.E = u))) → (t.small → ∀ u : Alt, M.laws_eqAlt (t, u) = some (decide (t = u))) := by
    intro t ih0
    intro hs u
    have hlim : lim = 140737488355328 := rfl
    obtain ⟨hq_Great, hq_Vars, hq_E⟩ := (Alt.small_eq t).1 hs
    rw [M.laws_eqAlt]; try dsimp only
    by_cases hk_Great : t.Great = u.Great
    rotate_left
    · rw [if_neg hk_Great, decide_eq_false (fun e => hk_Great (by rw [e]))]
    rw [if_pos hk_Great]
    rw [eqStringS _ _ hq_Vars.1, bind_some']
    by_cases hk_Vars : t.Vars = u.Vars
    rotate_left
    · rw [if_neg (by simpa using hk_Vars), decide_eq_false (fun e => hk_Vars (by rw [e]))]
    rw [if_pos (decide_eq_true hk_Vars)]
    rw [ih0 hq_E _, bind_some']
    by_cases hk_E : t.E = u.E
    rotate_left
    · rw [if_neg (by simpa using hk_E), decide_eq_false (fun e => hk_E (by rw [e]))]
    rw [if_pos (decide_eq_true hk_E)]
    rw [decide_eq_true (Alt.ext' hk_Great hk_Vars hk_E)]
  have h1 : ∀ t : Dec, (t.E.small → ∀ u : Exp, M.laws_eqExp (t.E, u) = some (decide (t.E = u))) → (∀ x ∈ t.Where, (x.small → ∀ u : Dec, M.laws_eqDec (x, u) = some (decide (x = u)))) → (t.small → ∀ u : Dec, M.laws_eqDec (t, u) = some (decide (t = u))) := by
    intro t ih0 ih1
    intro hs u
    have hlim : lim = 140737488355328 := rfl
    obtain ⟨hq_Name, hq_Pars, hq_E, hl_Where, hm_Where⟩ := (Dec.small_eq t).1 hs
    rw [M.laws_eqDec]; try dsimp only
    by_cases hk_Name : t.Name = u.Name
    rotate_left
    · rw [if_neg hk_Name, decide_eq_false (fun e => hk_Name (by rw [e]))]
    rw [if_pos hk_Name]
    rw [eqStringS _ _ hq_Pars.1, bind_some']
    by_cases hk_Pars : t.Pars = u.Pars
    rotate_left
    · rw [if_neg (by simpa using hk_Pars), decide_eq_false (fun e => hk_Pars (by rw [e]))]
    rw [if_pos (decide_eq_true hk_Pars)]
    rw [ih0 hq_E _, bind_some']
    by_cases hk_E : t.E = u.E
    rotate_left
    · rw [if_neg (by simpa using hk_E), decide_eq_false (fun e => hk_E (by rw [e]))]
    rw [if_pos (decide_eq_true hk_E)]
    rw [eqDecS_of _ _ hl_Where (fun x hx => ih1 x hx (hm_Where x hx)), bind_some']
    by_cases hk_Where : t.Where = u.Where
    rotate_left
    · rw [if_neg (by simpa using hk_Where), decide_eq_false (fun e => hk_Where (by rw [e]))]
    rw [if_pos (decide_eq_true hk_Where)]
    rw [decide_eq_true (Dec.ext' hk_Name hk_Pars hk_E hk_Where)]
  have h2 : ∀ t : Exp, (∀ x ∈ t.L, (x.small → ∀ u : Exp, M.laws_eqExp (x, u) = some (decide (x = u)))) → (∀ x ∈ t.Decs, (x.small → ∀ u : Dec, M.laws_eqDec (x, u) = some (decide (x = u)))) → (∀ x ∈ t.Alts, (x.small → ∀ u : Alt, M.laws_eqAlt (x, u) = some (decide (x = u)))) → (t.small → ∀ u : Exp, M.laws_eqExp (t, u) = some (decide (t = u))) := by
    intro t ih0 ih1 ih2
    intro hs u
    have hlim : lim = 140737488355328 := rfl
    obtain ⟨hq_S, hl_L, hm_L, hl_Decs, hm_Decs, hl_Alts, hm_Alts⟩ := (Exp.small_eq t).1 hs
    rw [M.laws_eqExp]; try dsimp only
    by_cases hk_K : t.K = u.K
    rotate_left
    · rw [if_neg hk_K, decide_eq_false (fun e => hk_K (by rw [e]))]
    rw [if_pos hk_K]
    by_cases hk_S : t.S = u.S
    rotate_left
    · rw [if_neg hk_S, decide_eq_false (fun e => hk_S (by rw [e]))]
    rw [if_pos hk_S]
    by_cases hk_N : t.N = u.N
    rotate_left
    · rw [if_neg hk_N, decide_eq_false (fun e => hk_N (by rw [e]))]
    rw [if_pos hk_N]
    rw [eqExpS_of _ _ hl_L (fun x hx => ih0 x hx (hm_L x hx)), bind_some']
    by_cases hk_L : t.L = u.L
    rotate_left
    · rw [if_neg (by simpa using hk_L), decide_eq_false (fun e => hk_L (by rw [e]))]
    rw [if_pos (decide_eq_true hk_L)]
    rw [eqDecS_of _ _ hl_Decs (fun x hx => ih1 x hx (hm_Decs x hx)), bind_some']
    by_cases hk_Decs : t.Decs = u.Decs
    rotate_left
    · rw [if_neg (by simpa using hk_Decs), decide_eq_false (fun e => hk_Decs (by rw [e]))]
    rw [if_pos (decide_eq_true hk_Decs)]
    rw [eqAltS_of _ _ hl_Alts (fun x hx => ih2 x hx (hm_Alts x hx)), bind_some']
    by_cases hk_Alts : t.Alts = u.Alts
    rotate_left
    · rw [if_neg (by simpa using hk_Alts), decide_eq_false (fun e => hk_Alts (by rw [e]))]
    rw [if_pos (decide_eq_true hk_Alts)]
    rw [decide_eq_true (Exp.ext' hk_K hk_S hk_N hk_L hk_Decs hk_Alts)]
  exact ⟨fun t => Alt.ind h0 h1 h2 t, fun t => Dec.ind h0 h1 h2 t, fun t => Exp.ind h0 h1 h2 t⟩
open Classical in
theorem eqAlt : ∀ t : Alt, t.small → ∀ u : Alt, M.laws_eqAlt (t, u) = some (decide (t = u)) := eqAlt_all.1
open Classical in
theorem eqDec : ∀ t : Dec, t.small → ∀ u : Dec, M.laws_eqDec (t, u) = some (decide (t = u)) := eqAlt_all.2.1
open Classical in
theorem eqExp : ∀ t : Exp, t.small → ∀ u : Exp, M.laws_eqExp (t, u) = some (decide (t = u)) := eqAlt_all.2.2
end Q
end W
