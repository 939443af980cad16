/- Programs: loops; texts; names. -/
import Derived.Test.YtjlpikjofjhafaaGreatDoorSE
import Derived.Test.YtjlpikjofjhafaaGreatDoorHLP
import Derived.Lib.ItoaNum
import Derived.Test.YtjlpikjofjhafaaGreatDoorSMan
set_option linter.unusedSimpArgs false
set_option linter.unusedVariables false
set_option linter.unusedSectionVars false
section
namespace W
open Go HL HL.X
set_option linter.unusedVariables false
set_option maxRecDepth 100000
set_option maxHeartbeats 4000000
namespace Q
theorem cnd_not {α : Type} (b : Bool) (x y : α) : (bif (!b) then x else y) = bif b then y else x := by cases b <;> rfl
theorem cnd_dec {α : Type} (p : Prop) [Decidable p] (x y : α) : (bif decide p then x else y) = if p then x else y := by by_cases h : p <;> simp [h]
def i64 (n : Int) : Prop := -9223372036854775808 ≤ n ∧ n ≤ 9223372036854775807
def strOk (l : List ByteArray) : Prop := l.length ≤ lim ∧ ∀ s ∈ l, s.size ≤ lim
theorem szStringS (l : List ByteArray) (h : strOk l) (left : Int) (h0 : 0 ≤ left) (h1 : left ≤ 1048576) : M.laws_szStringS (l, left) = some (rest (l.length + sumC ByteArray.size l) left) := by
  obtain ⟨hl, hs⟩ := h
  have hlim : lim = 140737488355328 := rfl
  rw [M.e_laws_szStringS]; try simp only [cnd_not, cnd_dec, Option.bind_some]
  rw [wrap_ok (by omega)]
  by_cases hk : left - ((l.length : Nat) : Int) < 0
  · rw [if_pos hk, rest_neg (by omega)]
  rw [if_neg hk]
  have hloop : M.laws_szStringS_L0 (l, left - ((l.length : Nat) : Int), 0) = _ := szLoop ByteArray.size hl (L := fun b i => M.laws_szStringS_L0 (l, b, i)) (fun b i x hx hix hb0 hb1 hi hw => by
    show M.laws_szStringS_L0 (l, b, i) = _
    rw [M.e_laws_szStringS_L0]; try simp only [cnd_not, cnd_dec, Option.bind_some]
    have hsx := hs x (List.mem_of_getElem? hx)
    rw [if_pos hi, hix, Option.bind_some, hw, wrap_ok (by omega)]
    by_cases hr : (x.size : Int) ≤ b
    · rw [rest_pos hr]
    · rw [rest_neg hr, if_pos (by omega), if_pos (by omega)]) (fun b => by
    show M.laws_szStringS_L0 (l, b, _) = _
    rw [M.e_laws_szStringS_L0]; try simp only [cnd_not, cnd_dec, Option.bind_some]
    rw [if_neg (by omega)]) (by omega) (by omega)
  rw [hloop, Option.bind_some]
  by_cases hr : ((sumC ByteArray.size l : Nat) : Int) ≤ left - ((l.length : Nat) : Int)
  · rw [rest_pos hr, if_neg (by omega), rest_pos (by omega)]; show some _ = some _; congr 1; omega
  · rw [rest_neg hr, if_pos (by omega), rest_neg (by omega)]; rfl
theorem toStringS (l : List ByteArray) (h : l.length ≤ 1048576) : M.laws_toStringS l = some l := by
  have hlim : lim = 140737488355328 := rfl
  rw [M.e_laws_toStringS, gd_t (by omega), Option.bind_some, gd_t (by omega), Option.bind_some]
  have hloop : ∀ z, M.laws_toStringS_L0 (l, 0, List.replicate l.length z) = some l := fun z => setLoop (by omega) (by simp) (L := fun i o => M.laws_toStringS_L0 (l, i, o)) (fun i x o hx hix ho hi hw => by
    show M.laws_toStringS_L0 (l, i, o) = _
    rw [M.e_laws_toStringS_L0]; try simp only [cnd_not, cnd_dec, Option.bind_some]
    rw [if_pos hi, hix, Option.bind_some, gd_t (by omega), Option.bind_some, gd_t (by omega), Option.bind_some, hw]
    rfl) (fun o => by
    show M.laws_toStringS_L0 (l, _, o) = _
    rw [M.e_laws_toStringS_L0]; try simp only [cnd_not, cnd_dec, Option.bind_some]
    rw [if_neg (by omega)])
  simp only [Int.toNat_natCast]; rw [hloop]; rfl
open Classical in
theorem eqStringS (l l' : List ByteArray) (hl : l.length ≤ lim) : M.laws_eqStringS (l, l') = some (decide (l = l')) := by
  have hlim : lim = 140737488355328 := rfl
  rw [M.e_laws_eqStringS]; try simp only [cnd_not, cnd_dec, Option.bind_some]
  by_cases hlen : l.length = l'.length
  rotate_left
  · rw [if_neg (by omega)]
    rw [decide_eq_false (fun e => hlen (by rw [e]))]
  rw [if_pos (by omega)]
  have hloop : M.laws_eqStringS_L0 (l, l', 0) = _ := eqLoop hl hlen (L := fun i => M.laws_eqStringS_L0 (l, l', i)) (fun i x y hx hy hix hiy hi hw => by
    show M.laws_eqStringS_L0 (l, l', i) = _
    rw [M.e_laws_eqStringS_L0]; try simp only [cnd_not, cnd_dec, Option.bind_some]
    rw [if_pos hi, hix, Option.bind_some, hiy, Option.bind_some, hw]
    by_cases e : x = y
    · rw [if_pos e, if_pos e]
    · rw [if_neg e, if_neg e]) (by
    show M.laws_eqStringS_L0 (l, l', _) = _
    rw [M.e_laws_eqStringS_L0]; try simp only [cnd_not, cnd_dec, Option.bind_some]
    rw [if_neg (by omega)])
  rw [hloop, Option.bind_some]
  by_cases e : l = l'
  · rw [if_pos e, decide_eq_true e]; rfl
  · rw [if_neg e, decide_eq_false e]; rfl
end Q
mutual
def Alt.cost : Alt → Nat
  | ⟨Great_, Vars_, E_⟩ => Great_.size + (Vars_.length + sumC ByteArray.size Vars_) + Exp.cost E_
def Alt.costL : List Alt → Nat
  | [] => 0
  | x :: l => x.cost + Alt.costL l
def Dec.cost : Dec → Nat
  | ⟨Name_, Pars_, E_, Where_⟩ => Name_.size + (Pars_.length + sumC ByteArray.size Pars_) + Exp.cost E_ + (Where_.length + Dec.costL Where_)
def Dec.costL : List Dec → Nat
  | [] => 0
  | x :: l => x.cost + Dec.costL l
def Exp.cost : Exp → Nat
  | ⟨K_, S_, N_, L_, Decs_, Alts_⟩ => S_.size + (L_.length + Exp.costL L_) + (Decs_.length + Dec.costL Decs_) + (Alts_.length + Alt.costL Alts_)
def Exp.costL : List Exp → Nat
  | [] => 0
  | x :: l => x.cost + Exp.costL l
end
mutual
def Alt.small : Alt → Prop
  | ⟨Great_, Vars_, E_⟩ => Great_.size ≤ lim ∧ Q.strOk Vars_ ∧ Exp.small E_
def Alt.smallL : List Alt → Prop
  | [] => True
  | x :: l => x.small ∧ Alt.smallL l
def Dec.small : Dec → Prop
  | ⟨Name_, Pars_, E_, Where_⟩ => Name_.size ≤ lim ∧ Q.strOk Pars_ ∧ Exp.small E_ ∧ Where_.length ≤ lim ∧ Dec.smallL Where_
def Dec.smallL : List Dec → Prop
  | [] => True
  | x :: l => x.small ∧ Dec.smallL l
def Exp.small : Exp → Prop
  | ⟨K_, S_, N_, L_, Decs_, Alts_⟩ => S_.size ≤ lim ∧ L_.length ≤ lim ∧ Exp.smallL L_ ∧ Decs_.length ≤ lim ∧ Dec.smallL Decs_ ∧ Alts_.length ≤ lim ∧ Alt.smallL Alts_
def Exp.smallL : List Exp → Prop
  | [] => True
  | x :: l => x.small ∧ Exp.smallL l
end
theorem Alt.smallL_iff : ∀ {l : List Alt}, Alt.smallL l ↔ ∀ x ∈ l, x.small
  | [] => by simp [Alt.smallL]
  | x :: l => by simp [Alt.smallL, Alt.smallL_iff (l := l)]
theorem Alt.costL_eq : ∀ (l : List Alt), Alt.costL l = sumC Alt.cost l
  | [] => rfl
  | x :: l => by simp [Alt.costL, sumC, Alt.costL_eq l]
theorem Alt.cost_eq (t : Alt) : t.cost = t.Great.size + (t.Vars.length + sumC ByteArray.size t.Vars) + t.E.cost := by
  cases t; simp only [Alt.cost] <;> rfl
theorem Alt.small_eq (t : Alt) : t.small ↔ t.Great.size ≤ lim ∧ Q.strOk t.Vars ∧ t.E.small := by
  cases t; simp only [Alt.small] <;> rfl
theorem Alt.eta (t : Alt) : Alt.mk t.Great t.Vars t.E = t := by cases t; rfl
theorem Alt.ext' {a b : Alt} (h0 : a.Great = b.Great) (h1 : a.Vars = b.Vars) (h2 : a.E = b.E) : a = b := by
  cases a; cases b; simp_all [Alt.Great, Alt.Vars, Alt.E]
theorem Dec.smallL_iff : ∀ {l : List Dec}, Dec.smallL l ↔ ∀ x ∈ l, x.small
  | [] => by simp [Dec.smallL]
  | x :: l => by simp [Dec.smallL, Dec.smallL_iff (l := l)]
theorem Dec.costL_eq : ∀ (l : List Dec), Dec.costL l = sumC Dec.cost l
  | [] => rfl
  | x :: l => by simp [Dec.costL, sumC, Dec.costL_eq l]
theorem Dec.cost_eq (t : Dec) : t.cost = t.Name.size + (t.Pars.length + sumC ByteArray.size t.Pars) + t.E.cost + (t.Where.length + sumC Dec.cost t.Where) := by
  cases t; simp only [Dec.cost, Dec.costL_eq] <;> rfl
theorem Dec.small_eq (t : Dec) : t.small ↔ t.Name.size ≤ lim ∧ Q.strOk t.Pars ∧ t.E.small ∧ t.Where.length ≤ lim ∧ (∀ x ∈ t.Where, x.small) := by
  cases t; simp only [Dec.small, Dec.smallL_iff] <;> rfl
theorem Dec.eta (t : Dec) : Dec.mk t.Name t.Pars t.E t.Where = t := by cases t; rfl
theorem Dec.ext' {a b : Dec} (h0 : a.Name = b.Name) (h1 : a.Pars = b.Pars) (h2 : a.E = b.E) (h3 : a.Where = b.Where) : a = b := by
  cases a; cases b; simp_all [Dec.Name, Dec.Pars, Dec.E, Dec.Where]
theorem Exp.smallL_iff : ∀ {l : List Exp}, Exp.smallL l ↔ ∀ x ∈ l, x.small
  | [] => by simp [Exp.smallL]
  | x :: l => by simp [Exp.smallL, Exp.smallL_iff (l := l)]
theorem Exp.costL_eq : ∀ (l : List Exp), Exp.costL l = sumC Exp.cost l
  | [] => rfl
  | x :: l => by simp [Exp.costL, sumC, Exp.costL_eq l]
theorem Exp.cost_eq (t : Exp) : t.cost = t.S.size + (t.L.length + sumC Exp.cost t.L) + (t.Decs.length + sumC Dec.cost t.Decs) + (t.Alts.length + sumC Alt.cost t.Alts) := by
  cases t; simp only [Exp.cost, Exp.costL_eq, Dec.costL_eq, Alt.costL_eq] <;> rfl
theorem Exp.small_eq (t : Exp) : t.small ↔ t.S.size ≤ lim ∧ t.L.length ≤ lim ∧ (∀ x ∈ t.L, x.small) ∧ t.Decs.length ≤ lim ∧ (∀ x ∈ t.Decs, x.small) ∧ t.Alts.length ≤ lim ∧ (∀ x ∈ t.Alts, x.small) := by
  cases t; simp only [Exp.small, Exp.smallL_iff, Dec.smallL_iff, Alt.smallL_iff] <;> rfl
theorem Exp.eta (t : Exp) : Exp.mk t.K t.S t.N t.L t.Decs t.Alts = t := by cases t; rfl
theorem Exp.ext' {a b : Exp} (h0 : a.K = b.K) (h1 : a.S = b.S) (h2 : a.N = b.N) (h3 : a.L = b.L) (h4 : a.Decs = b.Decs) (h5 : a.Alts = b.Alts) : a = b := by
  cases a; cases b; simp_all [Exp.K, Exp.S, Exp.N, Exp.L, Exp.Decs, Exp.Alts]
mutual
theorem Alt.ind {M0 : Alt → Prop} {M1 : Dec → Prop} {M2 : Exp → Prop} (h0 : ∀ t : Alt, M2 t.E → M0 t) (h1 : ∀ t : Dec, M2 t.E → (∀ x ∈ t.Where, M1 x) → M1 t) (h2 : ∀ t : Exp, (∀ x ∈ t.L, M2 x) → (∀ x ∈ t.Decs, M1 x) → (∀ x ∈ t.Alts, M0 x) → M2 t) : ∀ t : Alt, M0 t
  | ⟨Great_, Vars_, E_⟩ => h0 _ (Exp.ind h0 h1 h2 E_)
theorem Alt.indL {M0 : Alt → Prop} {M1 : Dec → Prop} {M2 : Exp → Prop} (h0 : ∀ t : Alt, M2 t.E → M0 t) (h1 : ∀ t : Dec, M2 t.E → (∀ x ∈ t.Where, M1 x) → M1 t) (h2 : ∀ t : Exp, (∀ x ∈ t.L, M2 x) → (∀ x ∈ t.Decs, M1 x) → (∀ x ∈ t.Alts, M0 x) → M2 t) : ∀ l : List Alt, ∀ x ∈ l, M0 x
  | [] => fun x hx => by cases hx
  | y :: l => fun x hx => (List.mem_cons.1 hx).elim (fun e => e ▸ Alt.ind h0 h1 h2 y) (fun h => Alt.indL h0 h1 h2 l x h)
theorem Dec.ind {M0 : Alt → Prop} {M1 : Dec → Prop} {M2 : Exp → Prop} (h0 : ∀ t : Alt, M2 t.E → M0 t) (h1 : ∀ t : Dec, M2 t.E → (∀ x ∈ t.Where, M1 x) → M1 t) (h2 : ∀ t : Exp, (∀ x ∈ t.L, M2 x) → (∀ x ∈ t.Decs, M1 x) → (∀ x ∈ t.Alts, M0 x) → M2 t) : ∀ t : Dec, M1 t
  | ⟨Name_, Pars_, E_, Where_⟩ => h1 _ (Exp.ind h0 h1 h2 E_) (Dec.indL h0 h1 h2 Where_)
theorem Dec.indL {M0 : Alt → Prop} {M1 : Dec → Prop} {M2 : Exp → Prop} (h0 : ∀ t : Alt, M2 t.E → M0 t) (h1 : ∀ t : Dec, M2 t.E → (∀ x ∈ t.Where, M1 x) → M1 t) (h2 : ∀ t : Exp, (∀ x ∈ t.L, M2 x) → (∀ x ∈ t.Decs, M1 x) → (∀ x ∈ t.Alts, M0 x) → M2 t) : ∀ l : List Dec, ∀ x ∈ l, M1 x
  | [] => fun x hx => by cases hx
  | y :: l => fun x hx => (List.mem_cons.1 hx).elim (fun e => e ▸ Dec.ind h0 h1 h2 y) (fun h => Dec.indL h0 h1 h2 l x h)
theorem Exp.ind {M0 : Alt → Prop} {M1 : Dec → Prop} {M2 : Exp → Prop} (h0 : ∀ t : Alt, M2 t.E → M0 t) (h1 : ∀ t : Dec, M2 t.E → (∀ x ∈ t.Where, M1 x) → M1 t) (h2 : ∀ t : Exp, (∀ x ∈ t.L, M2 x) → (∀ x ∈ t.Decs, M1 x) → (∀ x ∈ t.Alts, M0 x) → M2 t) : ∀ t : Exp, M2 t
  | ⟨K_, S_, N_, L_, Decs_, Alts_⟩ => h2 _ (Exp.indL h0 h1 h2 L_) (Dec.indL h0 h1 h2 Decs_) (Alt.indL h0 h1 h2 Alts_)
theorem Exp.indL {M0 : Alt → Prop} {M1 : Dec → Prop} {M2 : Exp → Prop} (h0 : ∀ t : Alt, M2 t.E → M0 t) (h1 : ∀ t : Dec, M2 t.E → (∀ x ∈ t.Where, M1 x) → M1 t) (h2 : ∀ t : Exp, (∀ x ∈ t.L, M2 x) → (∀ x ∈ t.Decs, M1 x) → (∀ x ∈ t.Alts, M0 x) → M2 t) : ∀ l : List Exp, ∀ x ∈ l, M2 x
  | [] => fun x hx => by cases hx
  | y :: l => fun x hx => (List.mem_cons.1 hx).elim (fun e => e ▸ Exp.ind h0 h1 h2 y) (fun h => Exp.indL h0 h1 h2 l x h)
end
namespace Q
theorem szAltS_of (l : List Alt) (hl : l.length ≤ lim) (IH : ∀ x ∈ l, ∀ left : Int, 0 ≤ left → left ≤ 1048576 → M.laws_szAlt (x, left) = some (rest x.cost left)) (left : Int) (h0 : 0 ≤ left) (h1 : left ≤ 1048576) : M.laws_szAltS (l, left) = some (rest (l.length + sumC Alt.cost l) left) := by
  have hlim : lim = 140737488355328 := rfl
  rw [M.e_laws_szAltS]; try simp only [cnd_not, cnd_dec, Option.bind_some]
  rw [wrap_ok (by omega)]
  by_cases hk : left - ((l.length : Nat) : Int) < 0
  · rw [if_pos hk, rest_neg (by omega)]
  rw [if_neg hk]
  have hloop : M.laws_szAltS_L0 (l, left - ((l.length : Nat) : Int), 0) = _ := szLoop Alt.cost hl (L := fun b i => M.laws_szAltS_L0 (l, b, i)) (fun b i x hx hix hb0 hb1 hi hw => by
    show M.laws_szAltS_L0 (l, b, i) = _
    rw [M.e_laws_szAltS_L0]; try simp only [cnd_not, cnd_dec, Option.bind_some]
    rw [if_pos hi, hix, Option.bind_some, IH x (List.mem_of_getElem? hx) b hb0 hb1, Option.bind_some, hw]) (fun b => by
    show M.laws_szAltS_L0 (l, b, _) = _
    rw [M.e_laws_szAltS_L0]; try simp only [cnd_not, cnd_dec, Option.bind_some]
    rw [if_neg (by omega)]) (by omega) (by omega)
  rw [hloop, Option.bind_some]
  by_cases hr : ((sumC Alt.cost l : Nat) : Int) ≤ left - ((l.length : Nat) : Int)
  · rw [rest_pos hr, if_neg (by omega), rest_pos (by omega)]; show some _ = some _; congr 1; omega
  · rw [rest_neg hr, if_pos (by omega), rest_neg (by omega)]; rfl
theorem toAltS_of (l : List Alt) (h : l.length ≤ 1048576) (IH : ∀ x ∈ l, M.laws_toAlt x = some x) : M.laws_toAltS l = some l := by
  have hlim : lim = 140737488355328 := rfl
  rw [M.e_laws_toAltS, gd_t (by omega), Option.bind_some, gd_t (by omega), Option.bind_some]
  have hloop : ∀ z, M.laws_toAltS_L0 (l, 0, List.replicate l.length z) = some l := fun z => setLoop (by omega) (by simp) (L := fun i o => M.laws_toAltS_L0 (l, i, o)) (fun i x o hx hix ho hi hw => by
    show M.laws_toAltS_L0 (l, i, o) = _
    rw [M.e_laws_toAltS_L0]; try simp only [cnd_not, cnd_dec, Option.bind_some]
    rw [if_pos hi, hix, Option.bind_some, IH x (List.mem_of_getElem? hx), Option.bind_some, gd_t (by omega), Option.bind_some, gd_t (by omega), Option.bind_some, hw]
    rfl) (fun o => by
    show M.laws_toAltS_L0 (l, _, o) = _
    rw [M.e_laws_toAltS_L0]; try simp only [cnd_not, cnd_dec, Option.bind_some]
    rw [if_neg (by omega)])
  simp only [Int.toNat_natCast]; rw [hloop]; rfl
open Classical in
theorem eqAltS_of (l l' : List Alt) (hl : l.length ≤ lim) (IH : ∀ x ∈ l, ∀ y, M.laws_eqAlt (x, y) = some (decide (x = y))) : M.laws_eqAltS (l, l') = some (decide (l = l')) := by
  have hlim : lim = 140737488355328 := rfl
  rw [M.e_laws_eqAltS]; try simp only [cnd_not, cnd_dec, Option.bind_some]
  by_cases hlen : l.length = l'.length
  rotate_left
  · rw [if_neg (by omega)]
    rw [decide_eq_false (fun e => hlen (by rw [e]))]
  rw [if_pos (by omega)]
  have hloop : M.laws_eqAltS_L0 (l, l', 0) = _ := eqLoop hl hlen (L := fun i => M.laws_eqAltS_L0 (l, l', i)) (fun i x y hx hy hix hiy hi hw => by
    show M.laws_eqAltS_L0 (l, l', i) = _
    rw [M.e_laws_eqAltS_L0]; try simp only [cnd_not, cnd_dec, Option.bind_some]
    rw [if_pos hi, hix, Option.bind_some, hiy, Option.bind_some, hw]
    rw [IH x (List.mem_of_getElem? hx) y, Option.bind_some]
    by_cases e : x = y
    · rw [decide_eq_true e, if_pos e]; rfl
    · rw [decide_eq_false e, if_neg e]; rfl) (by
    show M.laws_eqAltS_L0 (l, l', _) = _
    rw [M.e_laws_eqAltS_L0]; try simp only [cnd_not, cnd_dec, Option.bind_some]
    rw [if_neg (by omega)])
  rw [hloop, Option.bind_some]
  by_cases e : l = l'
  · rw [if_pos e, decide_eq_true e]; rfl
  · rw [if_neg e, decide_eq_false e]; rfl
theorem szDecS_of (l : List Dec) (hl : l.length ≤ lim) (IH : ∀ x ∈ l, ∀ left : Int, 0 ≤ left → left ≤ 1048576 → M.laws_szDec (x, left) = some (rest x.cost left)) (left : Int) (h0 : 0 ≤ left) (h1 : left ≤ 1048576) : M.laws_szDecS (l, left) = some (rest (l.length + sumC Dec.cost l) left) := by
  have hlim : lim = 140737488355328 := rfl
  rw [M.e_laws_szDecS]; try simp only [cnd_not, cnd_dec, Option.bind_some]
  rw [wrap_ok (by omega)]
  by_cases hk : left - ((l.length : Nat) : Int) < 0
  · rw [if_pos hk, rest_neg (by omega)]
  rw [if_neg hk]
  have hloop : M.laws_szDecS_L0 (l, left - ((l.length : Nat) : Int), 0) = _ := szLoop Dec.cost hl (L := fun b i => M.laws_szDecS_L0 (l, b, i)) (fun b i x hx hix hb0 hb1 hi hw => by
    show M.laws_szDecS_L0 (l, b, i) = _
    rw [M.e_laws_szDecS_L0]; try simp only [cnd_not, cnd_dec, Option.bind_some]
    rw [if_pos hi, hix, Option.bind_some, IH x (List.mem_of_getElem? hx) b hb0 hb1, Option.bind_some, hw]) (fun b => by
    show M.laws_szDecS_L0 (l, b, _) = _
    rw [M.e_laws_szDecS_L0]; try simp only [cnd_not, cnd_dec, Option.bind_some]
    rw [if_neg (by omega)]) (by omega) (by omega)
  rw [hloop, Option.bind_some]
  by_cases hr : ((sumC Dec.cost l : Nat) : Int) ≤ left - ((l.length : Nat) : Int)
  · rw [rest_pos hr, if_neg (by omega), rest_pos (by omega)]; show some _ = some _; congr 1; omega
  · rw [rest_neg hr, if_pos (by omega), rest_neg (by omega)]; rfl
theorem toDecS_of (l : List Dec) (h : l.length ≤ 1048576) (IH : ∀ x ∈ l, M.laws_toDec x = some x) : M.laws_toDecS l = some l := by
  have hlim : lim = 140737488355328 := rfl
  rw [M.e_laws_toDecS, gd_t (by omega), Option.bind_some, gd_t (by omega), Option.bind_some]
  have hloop : ∀ z, M.laws_toDecS_L0 (l, 0, List.replicate l.length z) = some l := fun z => setLoop (by omega) (by simp) (L := fun i o => M.laws_toDecS_L0 (l, i, o)) (fun i x o hx hix ho hi hw => by
    show M.laws_toDecS_L0 (l, i, o) = _
    rw [M.e_laws_toDecS_L0]; try simp only [cnd_not, cnd_dec, Option.bind_some]
    rw [if_pos hi, hix, Option.bind_some, IH x (List.mem_of_getElem? hx), Option.bind_some, gd_t (by omega), Option.bind_some, gd_t (by omega), Option.bind_some, hw]
    rfl) (fun o => by
    show M.laws_toDecS_L0 (l, _, o) = _
    rw [M.e_laws_toDecS_L0]; try simp only [cnd_not, cnd_dec, Option.bind_some]
    rw [if_neg (by omega)])
  simp only [Int.toNat_natCast]; rw [hloop]; rfl
open Classical in
theorem eqDecS_of (l l' : List Dec) (hl : l.length ≤ lim) (IH : ∀ x ∈ l, ∀ y, M.laws_eqDec (x, y) = some (decide (x = y))) : M.laws_eqDecS (l, l') = some (decide (l = l')) := by
  have hlim : lim = 140737488355328 := rfl
  rw [M.e_laws_eqDecS]; try simp only [cnd_not, cnd_dec, Option.bind_some]
  by_cases hlen : l.length = l'.length
  rotate_left
  · rw [if_neg (by omega)]
    rw [decide_eq_false (fun e => hlen (by rw [e]))]
  rw [if_pos (by omega)]
  have hloop : M.laws_eqDecS_L0 (l, l', 0) = _ := eqLoop hl hlen (L := fun i => M.laws_eqDecS_L0 (l, l', i)) (fun i x y hx hy hix hiy hi hw => by
    show M.laws_eqDecS_L0 (l, l', i) = _
    rw [M.e_laws_eqDecS_L0]; try simp only [cnd_not, cnd_dec, Option.bind_some]
    rw [if_pos hi, hix, Option.bind_some, hiy, Option.bind_some, hw]
    rw [IH x (List.mem_of_getElem? hx) y, Option.bind_some]
    by_cases e : x = y
    · rw [decide_eq_true e, if_pos e]; rfl
    · rw [decide_eq_false e, if_neg e]; rfl) (by
    show M.laws_eqDecS_L0 (l, l', _) = _
    rw [M.e_laws_eqDecS_L0]; try simp only [cnd_not, cnd_dec, Option.bind_some]
    rw [if_neg (by omega)])
  rw [hloop, Option.bind_some]
  by_cases e : l = l'
  · rw [if_pos e, decide_eq_true e]; rfl
  · rw [if_neg e, decide_eq_false e]; rfl
theorem szExpS_of (l : List Exp) (hl : l.length ≤ lim) (IH : ∀ x ∈ l, ∀ left : Int, 0 ≤ left → left ≤ 1048576 → M.laws_szExp (x, left) = some (rest x.cost left)) (left : Int) (h0 : 0 ≤ left) (h1 : left ≤ 1048576) : M.laws_szExpS (l, left) = some (rest (l.length + sumC Exp.cost l) left) := by
  have hlim : lim = 140737488355328 := rfl
  rw [M.e_laws_szExpS]; try simp only [cnd_not, cnd_dec, Option.bind_some]
  rw [wrap_ok (by omega)]
  by_cases hk : left - ((l.length : Nat) : Int) < 0
  · rw [if_pos hk, rest_neg (by omega)]
  rw [if_neg hk]
  have hloop : M.laws_szExpS_L0 (l, left - ((l.length : Nat) : Int), 0) = _ := szLoop Exp.cost hl (L := fun b i => M.laws_szExpS_L0 (l, b, i)) (fun b i x hx hix hb0 hb1 hi hw => by
    show M.laws_szExpS_L0 (l, b, i) = _
    rw [M.e_laws_szExpS_L0]; try simp only [cnd_not, cnd_dec, Option.bind_some]
    rw [if_pos hi, hix, Option.bind_some, IH x (List.mem_of_getElem? hx) b hb0 hb1, Option.bind_some, hw]) (fun b => by
    show M.laws_szExpS_L0 (l, b, _) = _
    rw [M.e_laws_szExpS_L0]; try simp only [cnd_not, cnd_dec, Option.bind_some]
    rw [if_neg (by omega)]) (by omega) (by omega)
  rw [hloop, Option.bind_some]
  by_cases hr : ((sumC Exp.cost l : Nat) : Int) ≤ left - ((l.length : Nat) : Int)
  · rw [rest_pos hr, if_neg (by omega), rest_pos (by omega)]; show some _ = some _; congr 1; omega
  · rw [rest_neg hr, if_pos (by omega), rest_neg (by omega)]; rfl
theorem toExpS_of (l : List Exp) (h : l.length ≤ 1048576) (IH : ∀ x ∈ l, M.laws_toExp x = some x) : M.laws_toExpS l = some l := by
  have hlim : lim = 140737488355328 := rfl
  rw [M.e_laws_toExpS, gd_t (by omega), Option.bind_some, gd_t (by omega), Option.bind_some]
  have hloop : ∀ z, M.laws_toExpS_L0 (l, 0, List.replicate l.length z) = some l := fun z => setLoop (by omega) (by simp) (L := fun i o => M.laws_toExpS_L0 (l, i, o)) (fun i x o hx hix ho hi hw => by
    show M.laws_toExpS_L0 (l, i, o) = _
    rw [M.e_laws_toExpS_L0]; try simp only [cnd_not, cnd_dec, Option.bind_some]
    rw [if_pos hi, hix, Option.bind_some, IH x (List.mem_of_getElem? hx), Option.bind_some, gd_t (by omega), Option.bind_some, gd_t (by omega), Option.bind_some, hw]
    rfl) (fun o => by
    show M.laws_toExpS_L0 (l, _, o) = _
    rw [M.e_laws_toExpS_L0]; try simp only [cnd_not, cnd_dec, Option.bind_some]
    rw [if_neg (by omega)])
  simp only [Int.toNat_natCast]; rw [hloop]; rfl
open Classical in
theorem eqExpS_of (l l' : List Exp) (hl : l.length ≤ lim) (IH : ∀ x ∈ l, ∀ y, M.laws_eqExp (x, y) = some (decide (x = y))) : M.laws_eqExpS (l, l') = some (decide (l = l')) := by
  have hlim : lim = 140737488355328 := rfl
  rw [M.e_laws_eqExpS]; try simp only [cnd_not, cnd_dec, Option.bind_some]
  by_cases hlen : l.length = l'.length
  rotate_left
  · rw [if_neg (by omega)]
    rw [decide_eq_false (fun e => hlen (by rw [e]))]
  rw [if_pos (by omega)]
  have hloop : M.laws_eqExpS_L0 (l, l', 0) = _ := eqLoop hl hlen (L := fun i => M.laws_eqExpS_L0 (l, l', i)) (fun i x y hx hy hix hiy hi hw => by
    show M.laws_eqExpS_L0 (l, l', i) = _
    rw [M.e_laws_eqExpS_L0]; try simp only [cnd_not, cnd_dec, Option.bind_some]
    rw [if_pos hi, hix, Option.bind_some, hiy, Option.bind_some, hw]
    rw [IH x (List.mem_of_getElem? hx) y, Option.bind_some]
    by_cases e : x = y
    · rw [decide_eq_true e, if_pos e]; rfl
    · rw [decide_eq_false e, if_neg e]; rfl) (by
    show M.laws_eqExpS_L0 (l, l', _) = _
    rw [M.e_laws_eqExpS_L0]; try simp only [cnd_not, cnd_dec, Option.bind_some]
    rw [if_neg (by omega)])
  rw [hloop, Option.bind_some]
  by_cases e : l = l'
  · rw [if_pos e, decide_eq_true e]; rfl
  · rw [if_neg e, decide_eq_false e]; rfl
theorem szAlt_all : (∀ t : Alt, t.small → ∀ left : Int, 0 ≤ left → left ≤ 1048576 → M.laws_szAlt (t, left) = some (rest t.cost left)) ∧
  (∀ t : Dec, t.small → ∀ left : Int, 0 ≤ left → left ≤ 1048576 → M.laws_szDec (t, left) = some (rest t.cost left)) ∧
  (∀ t : Exp, t.small → ∀ left : Int, 0 ≤ left → left ≤ 1048576 → M.laws_szExp (t, left) = some (rest t.cost left)) := by
  have h0 : ∀ t : Alt, (t.E.small → ∀ left : Int, 0 ≤ left → left ≤ 1048576 → M.laws_szExp (t.E, left) = some (rest t.E.cost left)) → (t.small → ∀ left : Int, 0 ≤ left → left ≤ 1048576 → M.laws_szAlt (t, left) = some (rest t.cost left)) := by
    intro t ih0
    intro hs left h0 h1
    have hlim : lim = 140737488355328 := rfl
    obtain ⟨hq_Great, hq_Vars, hq_E⟩ := (Alt.small_eq t).1 hs
    have hcost := Alt.cost_eq t
    rw [M.e_laws_szAlt]; try simp only [cnd_not, cnd_dec, Option.bind_some]
    rw [wrap_ok (by omega)]
    by_cases hk_Great : left - ((t.Great.size : Nat) : Int) < 0
    · rw [if_pos hk_Great, rest_neg (by omega)]
    rw [if_neg hk_Great]
    rw [szStringS _ hq_Vars _ (by omega) (by omega), Option.bind_some]
    by_cases hk_Vars : ((t.Vars.length + sumC ByteArray.size t.Vars : Nat) : Int) ≤ left - ((t.Great.size : Nat) : Int)
    rotate_left
    · rw [rest_neg hk_Vars, if_pos (by omega), rest_neg (by omega)]
    rw [rest_pos hk_Vars, if_neg (by omega)]
    rw [ih0 hq_E _ (by omega) (by omega), Option.bind_some]
    by_cases hk_E : ((Exp.cost t.E : Nat) : Int) ≤ left - ((t.Great.size : Nat) : Int) - ((t.Vars.length + sumC ByteArray.size t.Vars : Nat) : Int)
    rotate_left
    · rw [rest_neg hk_E, if_pos (by omega), rest_neg (by omega)]
    rw [rest_pos hk_E, if_neg (by omega)]
    rw [rest_pos (by omega)]; try congr 1; try omega
  have h1 : ∀ t : Dec, (t.E.small → ∀ left : Int, 0 ≤ left → left ≤ 1048576 → M.laws_szExp (t.E, left) = some (rest t.E.cost left)) → (∀ x ∈ t.Where, (x.small → ∀ left : Int, 0 ≤ left → left ≤ 1048576 → M.laws_szDec (x, left) = some (rest x.cost left))) → (t.small → ∀ left : Int, 0 ≤ left → left ≤ 1048576 → M.laws_szDec (t, left) = some (rest t.cost left)) := by
    intro t ih0 ih1
    intro hs left h0 h1
    have hlim : lim = 140737488355328 := rfl
    obtain ⟨hq_Name, hq_Pars, hq_E, hl_Where, hm_Where⟩ := (Dec.small_eq t).1 hs
    have hcost := Dec.cost_eq t
    rw [M.e_laws_szDec]; try simp only [cnd_not, cnd_dec, Option.bind_some]
    rw [wrap_ok (by omega)]
    by_cases hk_Name : left - ((t.Name.size : Nat) : Int) < 0
    · rw [if_pos hk_Name, rest_neg (by omega)]
    rw [if_neg hk_Name]
    rw [szStringS _ hq_Pars _ (by omega) (by omega), Option.bind_some]
    by_cases hk_Pars : ((t.Pars.length + sumC ByteArray.size t.Pars : Nat) : Int) ≤ left - ((t.Name.size : Nat) : Int)
    rotate_left
    · rw [rest_neg hk_Pars, if_pos (by omega), rest_neg (by omega)]
    rw [rest_pos hk_Pars, if_neg (by omega)]
    rw [ih0 hq_E _ (by omega) (by omega), Option.bind_some]
    by_cases hk_E : ((Exp.cost t.E : Nat) : Int) ≤ left - ((t.Name.size : Nat) : Int) - ((t.Pars.length + sumC ByteArray.size t.Pars : Nat) : Int)
    rotate_left
    · rw [rest_neg hk_E, if_pos (by omega), rest_neg (by omega)]
    rw [rest_pos hk_E, if_neg (by omega)]
    rw [szDecS_of _ hl_Where (fun x hx => ih1 x hx (hm_Where x hx)) _ (by omega) (by omega), Option.bind_some]
    by_cases hk_Where : ((t.Where.length + sumC Dec.cost t.Where : Nat) : Int) ≤ left - ((t.Name.size : Nat) : Int) - ((t.Pars.length + sumC ByteArray.size t.Pars : Nat) : Int) - ((Exp.cost t.E : Nat) : Int)
    rotate_left
    · rw [rest_neg hk_Where, if_pos (by omega), rest_neg (by omega)]
    rw [rest_pos hk_Where, if_neg (by omega)]
    rw [rest_pos (by omega)]; try congr 1; try omega
  have h2 : ∀ t : Exp, (∀ x ∈ t.L, (x.small → ∀ left : Int, 0 ≤ left → left ≤ 1048576 → M.laws_szExp (x, left) = some (rest x.cost left))) → (∀ x ∈ t.Decs, (x.small → ∀ left : Int, 0 ≤ left → left ≤ 1048576 → M.laws_szDec (x, left) = some (rest x.cost left))) → (∀ x ∈ t.Alts, (x.small → ∀ left : Int, 0 ≤ left → left ≤ 1048576 → M.laws_szAlt (x, left) = some (rest x.cost left))) → (t.small → ∀ left : Int, 0 ≤ left → left ≤ 1048576 → M.laws_szExp (t, left) = some (rest t.cost left)) := by
    intro t ih0 ih1 ih2
    intro hs left h0 h1
    have hlim : lim = 140737488355328 := rfl
    obtain ⟨hq_S, hl_L, hm_L, hl_Decs, hm_Decs, hl_Alts, hm_Alts⟩ := (Exp.small_eq t).1 hs
    have hcost := Exp.cost_eq t
    rw [M.e_laws_szExp]; try simp only [cnd_not, cnd_dec, Option.bind_some]
    rw [wrap_ok (by omega)]
    by_cases hk_S : left - ((t.S.size : Nat) : Int) < 0
    · rw [if_pos hk_S, rest_neg (by omega)]
    rw [if_neg hk_S]
    rw [szExpS_of _ hl_L (fun x hx => ih0 x hx (hm_L x hx)) _ (by omega) (by omega), Option.bind_some]
    by_cases hk_L : ((t.L.length + sumC Exp.cost t.L : Nat) : Int) ≤ left - ((t.S.size : Nat) : Int)
    rotate_left
    · rw [rest_neg hk_L, if_pos (by omega), rest_neg (by omega)]
    rw [rest_pos hk_L, if_neg (by omega)]
    rw [szDecS_of _ hl_Decs (fun x hx => ih1 x hx (hm_Decs x hx)) _ (by omega) (by omega), Option.bind_some]
    by_cases hk_Decs : ((t.Decs.length + sumC Dec.cost t.Decs : Nat) : Int) ≤ left - ((t.S.size : Nat) : Int) - ((t.L.length + sumC Exp.cost t.L : Nat) : Int)
    rotate_left
    · rw [rest_neg hk_Decs, if_pos (by omega), rest_neg (by omega)]
    rw [rest_pos hk_Decs, if_neg (by omega)]
    rw [szAltS_of _ hl_Alts (fun x hx => ih2 x hx (hm_Alts x hx)) _ (by omega) (by omega), Option.bind_some]
    by_cases hk_Alts : ((t.Alts.length + sumC Alt.cost t.Alts : Nat) : Int) ≤ left - ((t.S.size : Nat) : Int) - ((t.L.length + sumC Exp.cost t.L : Nat) : Int) - ((t.Decs.length + sumC Dec.cost t.Decs : Nat) : Int)
    rotate_left
    · rw [rest_neg hk_Alts, if_pos (by omega), rest_neg (by omega)]
    rw [rest_pos hk_Alts, if_neg (by omega)]
    rw [rest_pos (by omega)]; try congr 1; try omega
  exact ⟨fun t => Alt.ind h0 h1 h2 t, fun t => Dec.ind h0 h1 h2 t, fun t => Exp.ind h0 h1 h2 t⟩
theorem szAlt : ∀ t : Alt, t.small → ∀ left : Int, 0 ≤ left → left ≤ 1048576 → M.laws_szAlt (t, left) = some (rest t.cost left) := szAlt_all.1
theorem szDec : ∀ t : Dec, t.small → ∀ left : Int, 0 ≤ left → left ≤ 1048576 → M.laws_szDec (t, left) = some (rest t.cost left) := szAlt_all.2.1
theorem szExp : ∀ t : Exp, t.small → ∀ left : Int, 0 ≤ left → left ≤ 1048576 → M.laws_szExp (t, left) = some (rest t.cost left) := szAlt_all.2.2
theorem toAlt_all : (∀ t : Alt, t.cost ≤ 1048576 → M.laws_toAlt t = some t) ∧
  (∀ t : Dec, t.cost ≤ 1048576 → M.laws_toDec t = some t) ∧
  (∀ t : Exp, t.cost ≤ 1048576 → M.laws_toExp t = some t) := by
  have h0 : ∀ t : Alt, (t.E.cost ≤ 1048576 → M.laws_toExp t.E = some t.E) → (t.cost ≤ 1048576 → M.laws_toAlt t = some t) := by
    intro t ih0
    intro hc
    have hlim : lim = 140737488355328 := rfl
    have hcost := Alt.cost_eq t
    rw [M.e_laws_toAlt]; try simp only [cnd_not, cnd_dec, Option.bind_some]
    rw [toStringS _ (by omega), Option.bind_some]
    rw [ih0 (by omega), Option.bind_some]
    all_goals first | rfl | (cases t; rfl) | (simp only [Exp.eta, Dec.eta, Alt.eta]; try (cases t; rfl))
  have h1 : ∀ t : Dec, (t.E.cost ≤ 1048576 → M.laws_toExp t.E = some t.E) → (∀ x ∈ t.Where, (x.cost ≤ 1048576 → M.laws_toDec x = some x)) → (t.cost ≤ 1048576 → M.laws_toDec t = some t) := by
    intro t ih0 ih1
    intro hc
    have hlim : lim = 140737488355328 := rfl
    have hcost := Dec.cost_eq t
    rw [M.e_laws_toDec]; try simp only [cnd_not, cnd_dec, Option.bind_some]
    rw [toStringS _ (by omega), Option.bind_some]
    rw [ih0 (by omega), Option.bind_some]
    have hm_Where : ∀ x ∈ t.Where, x.cost ≤ 1048576 := fun x hx => by have := sumC_mem (c := Dec.cost) hx; omega
    rw [toDecS_of _ (by omega) (fun x hx => ih1 x hx (hm_Where x hx)), Option.bind_some]
    all_goals first | rfl | (cases t; rfl) | (simp only [Exp.eta, Dec.eta, Alt.eta]; try (cases t; rfl))
  have h2 : ∀ t : Exp, (∀ x ∈ t.L, (x.cost ≤ 1048576 → M.laws_toExp x = some x)) → (∀ x ∈ t.Decs, (x.cost ≤ 1048576 → M.laws_toDec x = some x)) → (∀ x ∈ t.Alts, (x.cost ≤ 1048576 → M.laws_toAlt x = some x)) → (t.cost ≤ 1048576 → M.laws_toExp t = some t) := by
    intro t ih0 ih1 ih2
    intro hc
    have hlim : lim = 140737488355328 := rfl
    have hcost := Exp.cost_eq t
    rw [M.e_laws_toExp]; try simp only [cnd_not, cnd_dec, Option.bind_some]
    have hm_L : ∀ x ∈ t.L, x.cost ≤ 1048576 := fun x hx => by have := sumC_mem (c := Exp.cost) hx; omega
    rw [toExpS_of _ (by omega) (fun x hx => ih0 x hx (hm_L x hx)), Option.bind_some]
    have hm_Decs : ∀ x ∈ t.Decs, x.cost ≤ 1048576 := fun x hx => by have := sumC_mem (c := Dec.cost) hx; omega
    rw [toDecS_of _ (by omega) (fun x hx => ih1 x hx (hm_Decs x hx)), Option.bind_some]
    have hm_Alts : ∀ x ∈ t.Alts, x.cost ≤ 1048576 := fun x hx => by have := sumC_mem (c := Alt.cost) hx; omega
    rw [toAltS_of _ (by omega) (fun x hx => ih2 x hx (hm_Alts x hx)), Option.bind_some]
    all_goals first | rfl | (cases t; rfl) | (simp only [Exp.eta, Dec.eta, Alt.eta]; try (cases t; rfl))
  exact ⟨fun t => Alt.ind h0 h1 h2 t, fun t => Dec.ind h0 h1 h2 t, fun t => Exp.ind h0 h1 h2 t⟩
theorem toAlt : ∀ t : Alt, t.cost ≤ 1048576 → M.laws_toAlt t = some t := toAlt_all.1
theorem toDec : ∀ t : Dec, t.cost ≤ 1048576 → M.laws_toDec t = some t := toAlt_all.2.1
theorem toExp : ∀ t : Exp, t.cost ≤ 1048576 → M.laws_toExp t = some t := toAlt_all.2.2
open Classical in
theorem eqAlt_all : (∀ t : Alt, t.small → ∀ u : Alt, M.laws_eqAlt (t, u) = some (decide (t = u))) ∧
  (∀ t : Dec, t.small → ∀ u : Dec, M.laws_eqDec (t, u) = some (decide (t = u))) ∧
  (∀ t : Exp, t.small → ∀ u : Exp, M.laws_eqExp (t, u) = some (decide (t = u))) := by
  have h0 : ∀ t : Alt, (t.E.small → ∀ u : Exp, M.laws_eqExp (t.E, u) = some (decide (t.E = u))) → (t.small → ∀ u : Alt, M.laws_eqAlt (t, u) = some (decide (t = u))) := by
    intro t ih0
    intro hs u
    have hlim : lim = 140737488355328 := rfl
    obtain ⟨hq_Great, hq_Vars, hq_E⟩ := (Alt.small_eq t).1 hs
    rw [M.e_laws_eqAlt]; try simp only [cnd_not, cnd_dec, Option.bind_some]
    by_cases hk_Great : t.Great = u.Great
    rotate_left
    · rw [if_neg hk_Great, decide_eq_false (fun e => hk_Great (by rw [e]))]
    rw [if_pos hk_Great]
    rw [eqStringS _ _ hq_Vars.1, Option.bind_some]
    by_cases hk_Vars : t.Vars = u.Vars
    rotate_left
    · rw [decide_eq_false hk_Vars, decide_eq_false (fun e => hk_Vars (by rw [e]))]; rfl
    rw [decide_eq_true hk_Vars, cond_true]
    rw [ih0 hq_E _, Option.bind_some]
    by_cases hk_E : t.E = u.E
    rotate_left
    · rw [decide_eq_false hk_E, decide_eq_false (fun e => hk_E (by rw [e]))]; rfl
    rw [decide_eq_true hk_E, cond_true]
    rw [decide_eq_true (Alt.ext' hk_Great hk_Vars hk_E)]
  have h1 : ∀ t : Dec, (t.E.small → ∀ u : Exp, M.laws_eqExp (t.E, u) = some (decide (t.E = u))) → (∀ x ∈ t.Where, (x.small → ∀ u : Dec, M.laws_eqDec (x, u) = some (decide (x = u)))) → (t.small → ∀ u : Dec, M.laws_eqDec (t, u) = some (decide (t = u))) := by
    intro t ih0 ih1
    intro hs u
    have hlim : lim = 140737488355328 := rfl
    obtain ⟨hq_Name, hq_Pars, hq_E, hl_Where, hm_Where⟩ := (Dec.small_eq t).1 hs
    rw [M.e_laws_eqDec]; try simp only [cnd_not, cnd_dec, Option.bind_some]
    by_cases hk_Name : t.Name = u.Name
    rotate_left
    · rw [if_neg hk_Name, decide_eq_false (fun e => hk_Name (by rw [e]))]
    rw [if_pos hk_Name]
    rw [eqStringS _ _ hq_Pars.1, Option.bind_some]
    by_cases hk_Pars : t.Pars = u.Pars
    rotate_left
    · rw [decide_eq_false hk_Pars, decide_eq_false (fun e => hk_Pars (by rw [e]))]; rfl
    rw [decide_eq_true hk_Pars, cond_true]
    rw [ih0 hq_E _, Option.bind_some]
    by_cases hk_E : t.E = u.E
    rotate_left
    · rw [decide_eq_false hk_E, decide_eq_false (fun e => hk_E (by rw [e]))]; rfl
    rw [decide_eq_true hk_E, cond_true]
    rw [eqDecS_of _ _ hl_Where (fun x hx => ih1 x hx (hm_Where x hx)), Option.bind_some]
    by_cases hk_Where : t.Where = u.Where
    rotate_left
    · rw [decide_eq_false hk_Where, decide_eq_false (fun e => hk_Where (by rw [e]))]; rfl
    rw [decide_eq_true hk_Where, cond_true]
    rw [decide_eq_true (Dec.ext' hk_Name hk_Pars hk_E hk_Where)]
  have h2 : ∀ t : Exp, (∀ x ∈ t.L, (x.small → ∀ u : Exp, M.laws_eqExp (x, u) = some (decide (x = u)))) → (∀ x ∈ t.Decs, (x.small → ∀ u : Dec, M.laws_eqDec (x, u) = some (decide (x = u)))) → (∀ x ∈ t.Alts, (x.small → ∀ u : Alt, M.laws_eqAlt (x, u) = some (decide (x = u)))) → (t.small → ∀ u : Exp, M.laws_eqExp (t, u) = some (decide (t = u))) := by
    intro t ih0 ih1 ih2
    intro hs u
    have hlim : lim = 140737488355328 := rfl
    obtain ⟨hq_S, hl_L, hm_L, hl_Decs, hm_Decs, hl_Alts, hm_Alts⟩ := (Exp.small_eq t).1 hs
    rw [M.e_laws_eqExp]; try simp only [cnd_not, cnd_dec, Option.bind_some]
    by_cases hk_K : t.K = u.K
    rotate_left
    · rw [if_neg hk_K, decide_eq_false (fun e => hk_K (by rw [e]))]
    rw [if_pos hk_K]
    by_cases hk_S : t.S = u.S
    rotate_left
    · rw [if_neg hk_S, decide_eq_false (fun e => hk_S (by rw [e]))]
    rw [if_pos hk_S]
    by_cases hk_N : t.N = u.N
    rotate_left
    · rw [if_neg hk_N, decide_eq_false (fun e => hk_N (by rw [e]))]
    rw [if_pos hk_N]
    rw [eqExpS_of _ _ hl_L (fun x hx => ih0 x hx (hm_L x hx)), Option.bind_some]
    by_cases hk_L : t.L = u.L
    rotate_left
    · rw [decide_eq_false hk_L, decide_eq_false (fun e => hk_L (by rw [e]))]; rfl
    rw [decide_eq_true hk_L, cond_true]
    rw [eqDecS_of _ _ hl_Decs (fun x hx => ih1 x hx (hm_Decs x hx)), Option.bind_some]
    by_cases hk_Decs : t.Decs = u.Decs
    rotate_left
    · rw [decide_eq_false hk_Decs, decide_eq_false (fun e => hk_Decs (by rw [e]))]; rfl
    rw [decide_eq_true hk_Decs, cond_true]
    rw [eqAltS_of _ _ hl_Alts (fun x hx => ih2 x hx (hm_Alts x hx)), Option.bind_some]
    by_cases hk_Alts : t.Alts = u.Alts
    rotate_left
    · rw [decide_eq_false hk_Alts, decide_eq_false (fun e => hk_Alts (by rw [e]))]; rfl
    rw [decide_eq_true hk_Alts, cond_true]
    rw [decide_eq_true (Exp.ext' hk_K hk_S hk_N hk_L hk_Decs hk_Alts)]
  exact ⟨fun t => Alt.ind h0 h1 h2 t, fun t => Dec.ind h0 h1 h2 t, fun t => Exp.ind h0 h1 h2 t⟩
open Classical in
theorem eqAlt : ∀ t : Alt, t.small → ∀ u : Alt, M.laws_eqAlt (t, u) = some (decide (t = u)) := eqAlt_all.1
open Classical in
theorem eqDec : ∀ t : Dec, t.small → ∀ u : Dec, M.laws_eqDec (t, u) = some (decide (t = u)) := eqAlt_all.2.1
open Classical in
theorem eqExp : ∀ t : Exp, t.small → ∀ u : Exp, M.laws_eqExp (t, u) = some (decide (t = u)) := eqAlt_all.2.2
end Q
mutual
def Ty.cost : Ty → Nat
  | ⟨K_, S_, N_, L_⟩ => S_.size + (L_.length + Ty.costL L_)
def Ty.costL : List Ty → Nat
  | [] => 0
  | x :: l => x.cost + Ty.costL l
end
mutual
def Ty.small : Ty → Prop
  | ⟨K_, S_, N_, L_⟩ => S_.size ≤ lim ∧ L_.length ≤ lim ∧ Ty.smallL L_
def Ty.smallL : List Ty → Prop
  | [] => True
  | x :: l => x.small ∧ Ty.smallL l
end
theorem Ty.smallL_iff : ∀ {l : List Ty}, Ty.smallL l ↔ ∀ x ∈ l, x.small
  | [] => by simp [Ty.smallL]
  | x :: l => by simp [Ty.smallL, Ty.smallL_iff (l := l)]
theorem Ty.costL_eq : ∀ (l : List Ty), Ty.costL l = sumC Ty.cost l
  | [] => rfl
  | x :: l => by simp [Ty.costL, sumC, Ty.costL_eq l]
theorem Ty.cost_eq (t : Ty) : t.cost = t.S.size + (t.L.length + sumC Ty.cost t.L) := by
  cases t; simp only [Ty.cost, Ty.costL_eq] <;> rfl
theorem Ty.small_eq (t : Ty) : t.small ↔ t.S.size ≤ lim ∧ t.L.length ≤ lim ∧ (∀ x ∈ t.L, x.small) := by
  cases t; simp only [Ty.small, Ty.smallL_iff] <;> rfl
theorem Ty.ext' {a b : Ty} (h0 : a.K = b.K) (h1 : a.S = b.S) (h2 : a.N = b.N) (h3 : a.L = b.L) : a = b := by
  cases a; cases b; simp_all
mutual
theorem Ty.ind {M0 : Ty → Prop} (h0 : ∀ t : Ty, (∀ x ∈ t.L, M0 x) → M0 t) : ∀ t : Ty, M0 t
  | ⟨K_, S_, N_, L_⟩ => h0 _ (Ty.indL h0 L_)
theorem Ty.indL {M0 : Ty → Prop} (h0 : ∀ t : Ty, (∀ x ∈ t.L, M0 x) → M0 t) : ∀ l : List Ty, ∀ x ∈ l, M0 x
  | [] => fun x hx => by cases hx
  | y :: l => fun x hx => (List.mem_cons.1 hx).elim (fun e => e ▸ Ty.ind h0 y) (fun h => Ty.indL h0 l x h)
end
namespace Q
theorem szTyS_of (l : List Ty) (hl : l.length ≤ lim) (IH : ∀ x ∈ l, ∀ left : Int, 0 ≤ left → left ≤ 1048576 → M.laws_szTy (x, left) = some (rest x.cost left)) (left : Int) (h0 : 0 ≤ left) (h1 : left ≤ 1048576) : M.laws_szTyS (l, left) = some (rest (l.length + sumC Ty.cost l) left) := by
  have hlim : lim = 140737488355328 := rfl
  rw [M.e_laws_szTyS]; try simp only [cnd_not, cnd_dec, Option.bind_some]
  rw [wrap_ok (by omega)]
  by_cases hk : left - ((l.length : Nat) : Int) < 0
  · rw [if_pos hk, rest_neg (by omega)]
  rw [if_neg hk]
  have hloop : M.laws_szTyS_L0 (l, left - ((l.length : Nat) : Int), 0) = _ := szLoop Ty.cost hl (L := fun b i => M.laws_szTyS_L0 (l, b, i)) (fun b i x hx hix hb0 hb1 hi hw => by
    show M.laws_szTyS_L0 (l, b, i) = _
    rw [M.e_laws_szTyS_L0]; try simp only [cnd_not, cnd_dec, Option.bind_some]
    rw [if_pos hi, hix, Option.bind_some, IH x (List.mem_of_getElem? hx) b hb0 hb1, Option.bind_some, hw]) (fun b => by
    show M.laws_szTyS_L0 (l, b, _) = _
    rw [M.e_laws_szTyS_L0]; try simp only [cnd_not, cnd_dec, Option.bind_some]
    rw [if_neg (by omega)]) (by omega) (by omega)
  rw [hloop, Option.bind_some]
  by_cases hr : ((sumC Ty.cost l : Nat) : Int) ≤ left - ((l.length : Nat) : Int)
  · rw [rest_pos hr, if_neg (by omega), rest_pos (by omega)]; show some _ = some _; congr 1; omega
  · rw [rest_neg hr, if_pos (by omega), rest_neg (by omega)]; rfl
theorem toTyS_of (l : List Ty) (h : l.length ≤ 1048576) (IH : ∀ x ∈ l, M.laws_toTy x = some x) : M.laws_toTyS l = some l := by
  have hlim : lim = 140737488355328 := rfl
  rw [M.e_laws_toTyS, gd_t (by omega), Option.bind_some, gd_t (by omega), Option.bind_some]
  have hloop : ∀ z, M.laws_toTyS_L0 (l, 0, List.replicate l.length z) = some l := fun z => setLoop (by omega) (by simp) (L := fun i o => M.laws_toTyS_L0 (l, i, o)) (fun i x o hx hix ho hi hw => by
    show M.laws_toTyS_L0 (l, i, o) = _
    rw [M.e_laws_toTyS_L0]; try simp only [cnd_not, cnd_dec, Option.bind_some]
    rw [if_pos hi, hix, Option.bind_some, IH x (List.mem_of_getElem? hx), Option.bind_some, gd_t (by omega), Option.bind_some, gd_t (by omega), Option.bind_some, hw]
    rfl) (fun o => by
    show M.laws_toTyS_L0 (l, _, o) = _
    rw [M.e_laws_toTyS_L0]; try simp only [cnd_not, cnd_dec, Option.bind_some]
    rw [if_neg (by omega)])
  simp only [Int.toNat_natCast]; rw [hloop]; rfl
open Classical in
theorem eqTyS_of (l l' : List Ty) (hl : l.length ≤ lim) (IH : ∀ x ∈ l, ∀ y, M.laws_eqTy (x, y) = some (decide (x = y))) : M.laws_eqTyS (l, l') = some (decide (l = l')) := by
  have hlim : lim = 140737488355328 := rfl
  rw [M.e_laws_eqTyS]; try simp only [cnd_not, cnd_dec, Option.bind_some]
  by_cases hlen : l.length = l'.length
  rotate_left
  · rw [if_neg (by omega)]
    rw [decide_eq_false (fun e => hlen (by rw [e]))]
  rw [if_pos (by omega)]
  have hloop : M.laws_eqTyS_L0 (l, l', 0) = _ := eqLoop hl hlen (L := fun i => M.laws_eqTyS_L0 (l, l', i)) (fun i x y hx hy hix hiy hi hw => by
    show M.laws_eqTyS_L0 (l, l', i) = _
    rw [M.e_laws_eqTyS_L0]; try simp only [cnd_not, cnd_dec, Option.bind_some]
    rw [if_pos hi, hix, Option.bind_some, hiy, Option.bind_some, hw]
    rw [IH x (List.mem_of_getElem? hx) y, Option.bind_some]
    by_cases e : x = y
    · rw [decide_eq_true e, if_pos e]; rfl
    · rw [decide_eq_false e, if_neg e]; rfl) (by
    show M.laws_eqTyS_L0 (l, l', _) = _
    rw [M.e_laws_eqTyS_L0]; try simp only [cnd_not, cnd_dec, Option.bind_some]
    rw [if_neg (by omega)])
  rw [hloop, Option.bind_some]
  by_cases e : l = l'
  · rw [if_pos e, decide_eq_true e]; rfl
  · rw [if_neg e, decide_eq_false e]; rfl
theorem szTy_all : (∀ t : Ty, t.small → ∀ left : Int, 0 ≤ left → left ≤ 1048576 → M.laws_szTy (t, left) = some (rest t.cost left)) := by
  have h0 : ∀ t : Ty, (∀ x ∈ t.L, (x.small → ∀ left : Int, 0 ≤ left → left ≤ 1048576 → M.laws_szTy (x, left) = some (rest x.cost left))) → (t.small → ∀ left : Int, 0 ≤ left → left ≤ 1048576 → M.laws_szTy (t, left) = some (rest t.cost left)) := by
    intro t ih0
    intro hs left h0 h1
    have hlim : lim = 140737488355328 := rfl
    obtain ⟨hq_S, hl_L, hm_L⟩ := (Ty.small_eq t).1 hs
    have hcost := Ty.cost_eq t
    rw [M.e_laws_szTy]; try simp only [cnd_not, cnd_dec, Option.bind_some]
    rw [wrap_ok (by omega)]
    by_cases hk_S : left - ((t.S.size : Nat) : Int) < 0
    · rw [if_pos hk_S, rest_neg (by omega)]
    rw [if_neg hk_S]
    rw [szTyS_of _ hl_L (fun x hx => ih0 x hx (hm_L x hx)) _ (by omega) (by omega), Option.bind_some]
    by_cases hk_L : ((t.L.length + sumC Ty.cost t.L : Nat) : Int) ≤ left - ((t.S.size : Nat) : Int)
    rotate_left
    · rw [rest_neg hk_L, if_pos (by omega), rest_neg (by omega)]
    rw [rest_pos hk_L, if_neg (by omega)]
    rw [rest_pos (by omega)]; try congr 1; try omega
  exact fun t => Ty.ind h0 t
theorem szTy : ∀ t : Ty, t.small → ∀ left : Int, 0 ≤ left → left ≤ 1048576 → M.laws_szTy (t, left) = some (rest t.cost left) := szTy_all
theorem toTy_all : (∀ t : Ty, t.cost ≤ 1048576 → M.laws_toTy t = some t) := by
  have h0 : ∀ t : Ty, (∀ x ∈ t.L, (x.cost ≤ 1048576 → M.laws_toTy x = some x)) → (t.cost ≤ 1048576 → M.laws_toTy t = some t) := by
    intro t ih0
    intro hc
    have hlim : lim = 140737488355328 := rfl
    have hcost := Ty.cost_eq t
    rw [M.e_laws_toTy]; try simp only [cnd_not, cnd_dec, Option.bind_some]
    have hm_L : ∀ x ∈ t.L, x.cost ≤ 1048576 := fun x hx => by have := sumC_mem (c := Ty.cost) hx; omega
    rw [toTyS_of _ (by omega) (fun x hx => ih0 x hx (hm_L x hx)), Option.bind_some]
    all_goals first | rfl | (cases t; rfl) | (simp only [Exp.eta, Dec.eta, Alt.eta]; try (cases t; rfl))
  exact fun t => Ty.ind h0 t
theorem toTy : ∀ t : Ty, t.cost ≤ 1048576 → M.laws_toTy t = some t := toTy_all
open Classical in
theorem eqTy_all : (∀ t : Ty, t.small → ∀ u : Ty, M.laws_eqTy (t, u) = some (decide (t = u))) := by
  have h0 : ∀ t : Ty, (∀ x ∈ t.L, (x.small → ∀ u : Ty, M.laws_eqTy (x, u) = some (decide (x = u)))) → (t.small → ∀ u : Ty, M.laws_eqTy (t, u) = some (decide (t = u))) := by
    intro t ih0
    intro hs u
    have hlim : lim = 140737488355328 := rfl
    obtain ⟨hq_S, hl_L, hm_L⟩ := (Ty.small_eq t).1 hs
    rw [M.e_laws_eqTy]; try simp only [cnd_not, cnd_dec, Option.bind_some]
    by_cases hk_K : t.K = u.K
    rotate_left
    · rw [if_neg hk_K, decide_eq_false (fun e => hk_K (by rw [e]))]
    rw [if_pos hk_K]
    by_cases hk_S : t.S = u.S
    rotate_left
    · rw [if_neg hk_S, decide_eq_false (fun e => hk_S (by rw [e]))]
    rw [if_pos hk_S]
    by_cases hk_N : t.N = u.N
    rotate_left
    · rw [if_neg hk_N, decide_eq_false (fun e => hk_N (by rw [e]))]
    rw [if_pos hk_N]
    rw [eqTyS_of _ _ hl_L (fun x hx => ih0 x hx (hm_L x hx)), Option.bind_some]
    by_cases hk_L : t.L = u.L
    rotate_left
    · rw [decide_eq_false hk_L, decide_eq_false (fun e => hk_L (by rw [e]))]; rfl
    rw [decide_eq_true hk_L, cond_true]
    rw [decide_eq_true (Ty.ext' hk_K hk_S hk_N hk_L)]
  exact fun t => Ty.ind h0 t
open Classical in
theorem eqTy : ∀ t : Ty, t.small → ∀ u : Ty, M.laws_eqTy (t, u) = some (decide (t = u)) := eqTy_all
end Q
def Con.cost : Con → Nat
  | ⟨Name_, Args_⟩ => Name_.size + (Args_.length + Ty.costL Args_)
def Con.costL : List Con → Nat
  | [] => 0
  | x :: l => x.cost + Con.costL l
def Con.small : Con → Prop
  | ⟨Name_, Args_⟩ => Name_.size ≤ lim ∧ Args_.length ≤ lim ∧ Ty.smallL Args_
def Con.smallL : List Con → Prop
  | [] => True
  | x :: l => x.small ∧ Con.smallL l
theorem Con.smallL_iff : ∀ {l : List Con}, Con.smallL l ↔ ∀ x ∈ l, x.small
  | [] => by simp [Con.smallL]
  | x :: l => by simp [Con.smallL, Con.smallL_iff (l := l)]
theorem Con.costL_eq : ∀ (l : List Con), Con.costL l = sumC Con.cost l
  | [] => rfl
  | x :: l => by simp [Con.costL, sumC, Con.costL_eq l]
theorem Con.cost_eq (t : Con) : t.cost = t.Name.size + (t.Args.length + sumC Ty.cost t.Args) := by
  cases t; simp only [Con.cost, Ty.costL_eq] <;> rfl
theorem Con.small_eq (t : Con) : t.small ↔ t.Name.size ≤ lim ∧ t.Args.length ≤ lim ∧ (∀ x ∈ t.Args, x.small) := by
  cases t; simp only [Con.small, Ty.smallL_iff] <;> rfl
theorem Con.ext' {a b : Con} (h0 : a.Name = b.Name) (h1 : a.Args = b.Args) : a = b := by
  cases a; cases b; simp_all
namespace Q
theorem szConS_of (l : List Con) (hl : l.length ≤ lim) (IH : ∀ x ∈ l, ∀ left : Int, 0 ≤ left → left ≤ 1048576 → M.laws_szCon (x, left) = some (rest x.cost left)) (left : Int) (h0 : 0 ≤ left) (h1 : left ≤ 1048576) : M.laws_szConS (l, left) = some (rest (l.length + sumC Con.cost l) left) := by
  have hlim : lim = 140737488355328 := rfl
  rw [M.e_laws_szConS]; try simp only [cnd_not, cnd_dec, Option.bind_some]
  rw [wrap_ok (by omega)]
  by_cases hk : left - ((l.length : Nat) : Int) < 0
  · rw [if_pos hk, rest_neg (by omega)]
  rw [if_neg hk]
  have hloop : M.laws_szConS_L0 (l, left - ((l.length : Nat) : Int), 0) = _ := szLoop Con.cost hl (L := fun b i => M.laws_szConS_L0 (l, b, i)) (fun b i x hx hix hb0 hb1 hi hw => by
    show M.laws_szConS_L0 (l, b, i) = _
    rw [M.e_laws_szConS_L0]; try simp only [cnd_not, cnd_dec, Option.bind_some]
    rw [if_pos hi, hix, Option.bind_some, IH x (List.mem_of_getElem? hx) b hb0 hb1, Option.bind_some, hw]) (fun b => by
    show M.laws_szConS_L0 (l, b, _) = _
    rw [M.e_laws_szConS_L0]; try simp only [cnd_not, cnd_dec, Option.bind_some]
    rw [if_neg (by omega)]) (by omega) (by omega)
  rw [hloop, Option.bind_some]
  by_cases hr : ((sumC Con.cost l : Nat) : Int) ≤ left - ((l.length : Nat) : Int)
  · rw [rest_pos hr, if_neg (by omega), rest_pos (by omega)]; show some _ = some _; congr 1; omega
  · rw [rest_neg hr, if_pos (by omega), rest_neg (by omega)]; rfl
theorem toConS_of (l : List Con) (h : l.length ≤ 1048576) (IH : ∀ x ∈ l, M.laws_toCon x = some x) : M.laws_toConS l = some l := by
  have hlim : lim = 140737488355328 := rfl
  rw [M.e_laws_toConS, gd_t (by omega), Option.bind_some, gd_t (by omega), Option.bind_some]
  have hloop : ∀ z, M.laws_toConS_L0 (l, 0, List.replicate l.length z) = some l := fun z => setLoop (by omega) (by simp) (L := fun i o => M.laws_toConS_L0 (l, i, o)) (fun i x o hx hix ho hi hw => by
    show M.laws_toConS_L0 (l, i, o) = _
    rw [M.e_laws_toConS_L0]; try simp only [cnd_not, cnd_dec, Option.bind_some]
    rw [if_pos hi, hix, Option.bind_some, IH x (List.mem_of_getElem? hx), Option.bind_some, gd_t (by omega), Option.bind_some, gd_t (by omega), Option.bind_some, hw]
    rfl) (fun o => by
    show M.laws_toConS_L0 (l, _, o) = _
    rw [M.e_laws_toConS_L0]; try simp only [cnd_not, cnd_dec, Option.bind_some]
    rw [if_neg (by omega)])
  simp only [Int.toNat_natCast]; rw [hloop]; rfl
open Classical in
theorem eqConS_of (l l' : List Con) (hl : l.length ≤ lim) (IH : ∀ x ∈ l, ∀ y, M.laws_eqCon (x, y) = some (decide (x = y))) : M.laws_eqConS (l, l') = some (decide (l = l')) := by
  have hlim : lim = 140737488355328 := rfl
  rw [M.e_laws_eqConS]; try simp only [cnd_not, cnd_dec, Option.bind_some]
  by_cases hlen : l.length = l'.length
  rotate_left
  · rw [if_neg (by omega)]
    rw [decide_eq_false (fun e => hlen (by rw [e]))]
  rw [if_pos (by omega)]
  have hloop : M.laws_eqConS_L0 (l, l', 0) = _ := eqLoop hl hlen (L := fun i => M.laws_eqConS_L0 (l, l', i)) (fun i x y hx hy hix hiy hi hw => by
    show M.laws_eqConS_L0 (l, l', i) = _
    rw [M.e_laws_eqConS_L0]; try simp only [cnd_not, cnd_dec, Option.bind_some]
    rw [if_pos hi, hix, Option.bind_some, hiy, Option.bind_some, hw]
    rw [IH x (List.mem_of_getElem? hx) y, Option.bind_some]
    by_cases e : x = y
    · rw [decide_eq_true e, if_pos e]; rfl
    · rw [decide_eq_false e, if_neg e]; rfl) (by
    show M.laws_eqConS_L0 (l, l', _) = _
    rw [M.e_laws_eqConS_L0]; try simp only [cnd_not, cnd_dec, Option.bind_some]
    rw [if_neg (by omega)])
  rw [hloop, Option.bind_some]
  by_cases e : l = l'
  · rw [if_pos e, decide_eq_true e]; rfl
  · rw [if_neg e, decide_eq_false e]; rfl
theorem szCon : ∀ t : Con, t.small → ∀ left : Int, 0 ≤ left → left ≤ 1048576 → M.laws_szCon (t, left) = some (rest t.cost left) := by
  intro t
  intro hs left h0 h1
  have hlim : lim = 140737488355328 := rfl
  obtain ⟨hq_Name, hl_Args, hm_Args⟩ := (Con.small_eq t).1 hs
  have hcost := Con.cost_eq t
  rw [M.e_laws_szCon]; try simp only [cnd_not, cnd_dec, Option.bind_some]
  rw [wrap_ok (by omega)]
  by_cases hk_Name : left - ((t.Name.size : Nat) : Int) < 0
  · rw [if_pos hk_Name, rest_neg (by omega)]
  rw [if_neg hk_Name]
  rw [szTyS_of _ hl_Args (fun x hx => szTy x (hm_Args x hx)) _ (by omega) (by omega), Option.bind_some]
  by_cases hk_Args : ((t.Args.length + sumC Ty.cost t.Args : Nat) : Int) ≤ left - ((t.Name.size : Nat) : Int)
  rotate_left
  · rw [rest_neg hk_Args, if_pos (by omega), rest_neg (by omega)]
  rw [rest_pos hk_Args, if_neg (by omega)]
  rw [rest_pos (by omega)]; try congr 1; try omega
theorem toCon : ∀ t : Con, t.cost ≤ 1048576 → M.laws_toCon t = some t := by
  intro t
  intro hc
  have hlim : lim = 140737488355328 := rfl
  have hcost := Con.cost_eq t
  rw [M.e_laws_toCon]; try simp only [cnd_not, cnd_dec, Option.bind_some]
  have hm_Args : ∀ x ∈ t.Args, x.cost ≤ 1048576 := fun x hx => by have := sumC_mem (c := Ty.cost) hx; omega
  rw [toTyS_of _ (by omega) (fun x hx => toTy x (hm_Args x hx)), Option.bind_some]
  all_goals first | rfl | (cases t; rfl) | (simp only [Exp.eta, Dec.eta, Alt.eta]; try (cases t; rfl))
open Classical in
theorem eqCon : ∀ t : Con, t.small → ∀ u : Con, M.laws_eqCon (t, u) = some (decide (t = u)) := by
  intro t
  intro hs u
  have hlim : lim = 140737488355328 := rfl
  obtain ⟨hq_Name, hl_Args, hm_Args⟩ := (Con.small_eq t).1 hs
  rw [M.e_laws_eqCon]; try simp only [cnd_not, cnd_dec, Option.bind_some]
  by_cases hk_Name : t.Name = u.Name
  rotate_left
  · rw [if_neg hk_Name, decide_eq_false (fun e => hk_Name (by rw [e]))]
  rw [if_pos hk_Name]
  rw [eqTyS_of _ _ hl_Args (fun x hx => eqTy x (hm_Args x hx)), Option.bind_some]
  by_cases hk_Args : t.Args = u.Args
  rotate_left
  · rw [decide_eq_false hk_Args, decide_eq_false (fun e => hk_Args (by rw [e]))]; rfl
  rw [decide_eq_true hk_Args, cond_true]
  rw [decide_eq_true (Con.ext' hk_Name hk_Args)]
end Q
def Data.cost : Data → Nat
  | ⟨Name_, Cons_⟩ => Name_.size + (Cons_.length + Con.costL Cons_)
def Data.costL : List Data → Nat
  | [] => 0
  | x :: l => x.cost + Data.costL l
def Data.small : Data → Prop
  | ⟨Name_, Cons_⟩ => Name_.size ≤ lim ∧ Cons_.length ≤ lim ∧ Con.smallL Cons_
def Data.smallL : List Data → Prop
  | [] => True
  | x :: l => x.small ∧ Data.smallL l
theorem Data.smallL_iff : ∀ {l : List Data}, Data.smallL l ↔ ∀ x ∈ l, x.small
  | [] => by simp [Data.smallL]
  | x :: l => by simp [Data.smallL, Data.smallL_iff (l := l)]
theorem Data.costL_eq : ∀ (l : List Data), Data.costL l = sumC Data.cost l
  | [] => rfl
  | x :: l => by simp [Data.costL, sumC, Data.costL_eq l]
theorem Data.cost_eq (t : Data) : t.cost = t.Name.size + (t.Cons.length + sumC Con.cost t.Cons) := by
  cases t; simp only [Data.cost, Con.costL_eq] <;> rfl
theorem Data.small_eq (t : Data) : t.small ↔ t.Name.size ≤ lim ∧ t.Cons.length ≤ lim ∧ (∀ x ∈ t.Cons, x.small) := by
  cases t; simp only [Data.small, Con.smallL_iff] <;> rfl
theorem Data.ext' {a b : Data} (h0 : a.Name = b.Name) (h1 : a.Cons = b.Cons) : a = b := by
  cases a; cases b; simp_all
namespace Q
theorem szDataS_of (l : List Data) (hl : l.length ≤ lim) (IH : ∀ x ∈ l, ∀ left : Int, 0 ≤ left → left ≤ 1048576 → M.laws_szData (x, left) = some (rest x.cost left)) (left : Int) (h0 : 0 ≤ left) (h1 : left ≤ 1048576) : M.laws_szDataS (l, left) = some (rest (l.length + sumC Data.cost l) left) := by
  have hlim : lim = 140737488355328 := rfl
  rw [M.e_laws_szDataS]; try simp only [cnd_not, cnd_dec, Option.bind_some]
  rw [wrap_ok (by omega)]
  by_cases hk : left - ((l.length : Nat) : Int) < 0
  · rw [if_pos hk, rest_neg (by omega)]
  rw [if_neg hk]
  have hloop : M.laws_szDataS_L0 (l, left - ((l.length : Nat) : Int), 0) = _ := szLoop Data.cost hl (L := fun b i => M.laws_szDataS_L0 (l, b, i)) (fun b i x hx hix hb0 hb1 hi hw => by
    show M.laws_szDataS_L0 (l, b, i) = _
    rw [M.e_laws_szDataS_L0]; try simp only [cnd_not, cnd_dec, Option.bind_some]
    rw [if_pos hi, hix, Option.bind_some, IH x (List.mem_of_getElem? hx) b hb0 hb1, Option.bind_some, hw]) (fun b => by
    show M.laws_szDataS_L0 (l, b, _) = _
    rw [M.e_laws_szDataS_L0]; try simp only [cnd_not, cnd_dec, Option.bind_some]
    rw [if_neg (by omega)]) (by omega) (by omega)
  rw [hloop, Option.bind_some]
  by_cases hr : ((sumC Data.cost l : Nat) : Int) ≤ left - ((l.length : Nat) : Int)
  · rw [rest_pos hr, if_neg (by omega), rest_pos (by omega)]; show some _ = some _; congr 1; omega
  · rw [rest_neg hr, if_pos (by omega), rest_neg (by omega)]; rfl
theorem toDataS_of (l : List Data) (h : l.length ≤ 1048576) (IH : ∀ x ∈ l, M.laws_toData x = some x) : M.laws_toDataS l = some l := by
  have hlim : lim = 140737488355328 := rfl
  rw [M.e_laws_toDataS, gd_t (by omega), Option.bind_some, gd_t (by omega), Option.bind_some]
  have hloop : ∀ z, M.laws_toDataS_L0 (l, 0, List.replicate l.length z) = some l := fun z => setLoop (by omega) (by simp) (L := fun i o => M.laws_toDataS_L0 (l, i, o)) (fun i x o hx hix ho hi hw => by
    show M.laws_toDataS_L0 (l, i, o) = _
    rw [M.e_laws_toDataS_L0]; try simp only [cnd_not, cnd_dec, Option.bind_some]
    rw [if_pos hi, hix, Option.bind_some, IH x (List.mem_of_getElem? hx), Option.bind_some, gd_t (by omega), Option.bind_some, gd_t (by omega), Option.bind_some, hw]
    rfl) (fun o => by
    show M.laws_toDataS_L0 (l, _, o) = _
    rw [M.e_laws_toDataS_L0]; try simp only [cnd_not, cnd_dec, Option.bind_some]
    rw [if_neg (by omega)])
  simp only [Int.toNat_natCast]; rw [hloop]; rfl
open Classical in
theorem eqDataS_of (l l' : List Data) (hl : l.length ≤ lim) (IH : ∀ x ∈ l, ∀ y, M.laws_eqData (x, y) = some (decide (x = y))) : M.laws_eqDataS (l, l') = some (decide (l = l')) := by
  have hlim : lim = 140737488355328 := rfl
  rw [M.e_laws_eqDataS]; try simp only [cnd_not, cnd_dec, Option.bind_some]
  by_cases hlen : l.length = l'.length
  rotate_left
  · rw [if_neg (by omega)]
    rw [decide_eq_false (fun e => hlen (by rw [e]))]
  rw [if_pos (by omega)]
  have hloop : M.laws_eqDataS_L0 (l, l', 0) = _ := eqLoop hl hlen (L := fun i => M.laws_eqDataS_L0 (l, l', i)) (fun i x y hx hy hix hiy hi hw => by
    show M.laws_eqDataS_L0 (l, l', i) = _
    rw [M.e_laws_eqDataS_L0]; try simp only [cnd_not, cnd_dec, Option.bind_some]
    rw [if_pos hi, hix, Option.bind_some, hiy, Option.bind_some, hw]
    rw [IH x (List.mem_of_getElem? hx) y, Option.bind_some]
    by_cases e : x = y
    · rw [decide_eq_true e, if_pos e]; rfl
    · rw [decide_eq_false e, if_neg e]; rfl) (by
    show M.laws_eqDataS_L0 (l, l', _) = _
    rw [M.e_laws_eqDataS_L0]; try simp only [cnd_not, cnd_dec, Option.bind_some]
    rw [if_neg (by omega)])
  rw [hloop, Option.bind_some]
  by_cases e : l = l'
  · rw [if_pos e, decide_eq_true e]; rfl
  · rw [if_neg e, decide_eq_false e]; rfl
theorem szData : ∀ t : Data, t.small → ∀ left : Int, 0 ≤ left → left ≤ 1048576 → M.laws_szData (t, left) = some (rest t.cost left) := by
  intro t
  intro hs left h0 h1
  have hlim : lim = 140737488355328 := rfl
  obtain ⟨hq_Name, hl_Cons, hm_Cons⟩ := (Data.small_eq t).1 hs
  have hcost := Data.cost_eq t
  rw [M.e_laws_szData]; try simp only [cnd_not, cnd_dec, Option.bind_some]
  rw [wrap_ok (by omega)]
  by_cases hk_Name : left - ((t.Name.size : Nat) : Int) < 0
  · rw [if_pos hk_Name, rest_neg (by omega)]
  rw [if_neg hk_Name]
  rw [szConS_of _ hl_Cons (fun x hx => szCon x (hm_Cons x hx)) _ (by omega) (by omega), Option.bind_some]
  by_cases hk_Cons : ((t.Cons.length + sumC Con.cost t.Cons : Nat) : Int) ≤ left - ((t.Name.size : Nat) : Int)
  rotate_left
  · rw [rest_neg hk_Cons, if_pos (by omega), rest_neg (by omega)]
  rw [rest_pos hk_Cons, if_neg (by omega)]
  rw [rest_pos (by omega)]; try congr 1; try omega
theorem toData : ∀ t : Data, t.cost ≤ 1048576 → M.laws_toData t = some t := by
  intro t
  intro hc
  have hlim : lim = 140737488355328 := rfl
  have hcost := Data.cost_eq t
  rw [M.e_laws_toData]; try simp only [cnd_not, cnd_dec, Option.bind_some]
  have hm_Cons : ∀ x ∈ t.Cons, x.cost ≤ 1048576 := fun x hx => by have := sumC_mem (c := Con.cost) hx; omega
  rw [toConS_of _ (by omega) (fun x hx => toCon x (hm_Cons x hx)), Option.bind_some]
  all_goals first | rfl | (cases t; rfl) | (simp only [Exp.eta, Dec.eta, Alt.eta]; try (cases t; rfl))
open Classical in
theorem eqData : ∀ t : Data, t.small → ∀ u : Data, M.laws_eqData (t, u) = some (decide (t = u)) := by
  intro t
  intro hs u
  have hlim : lim = 140737488355328 := rfl
  obtain ⟨hq_Name, hl_Cons, hm_Cons⟩ := (Data.small_eq t).1 hs
  rw [M.e_laws_eqData]; try simp only [cnd_not, cnd_dec, Option.bind_some]
  by_cases hk_Name : t.Name = u.Name
  rotate_left
  · rw [if_neg hk_Name, decide_eq_false (fun e => hk_Name (by rw [e]))]
  rw [if_pos hk_Name]
  rw [eqConS_of _ _ hl_Cons (fun x hx => eqCon x (hm_Cons x hx)), Option.bind_some]
  by_cases hk_Cons : t.Cons = u.Cons
  rotate_left
  · rw [decide_eq_false hk_Cons, decide_eq_false (fun e => hk_Cons (by rw [e]))]; rfl
  rw [decide_eq_true hk_Cons, cond_true]
  rw [decide_eq_true (Data.ext' hk_Name hk_Cons)]
end Q
def Prog.cost : Prog → Nat
  | ⟨Datas_, Decs_⟩ => (Datas_.length + Data.costL Datas_) + (Decs_.length + Dec.costL Decs_)
def Prog.costL : List Prog → Nat
  | [] => 0
  | x :: l => x.cost + Prog.costL l
def Prog.small : Prog → Prop
  | ⟨Datas_, Decs_⟩ => Datas_.length ≤ lim ∧ Data.smallL Datas_ ∧ Decs_.length ≤ lim ∧ Dec.smallL Decs_
def Prog.smallL : List Prog → Prop
  | [] => True
  | x :: l => x.small ∧ Prog.smallL l
theorem Prog.smallL_iff : ∀ {l : List Prog}, Prog.smallL l ↔ ∀ x ∈ l, x.small
  | [] => by simp [Prog.smallL]
  | x :: l => by simp [Prog.smallL, Prog.smallL_iff (l := l)]
theorem Prog.costL_eq : ∀ (l : List Prog), Prog.costL l = sumC Prog.cost l
  | [] => rfl
  | x :: l => by simp [Prog.costL, sumC, Prog.costL_eq l]
theorem Prog.cost_eq (t : Prog) : t.cost = (t.Datas.length + sumC Data.cost t.Datas) + (t.Decs.length + sumC Dec.cost t.Decs) := by
  cases t; simp only [Prog.cost, Data.costL_eq, Dec.costL_eq] <;> rfl
theorem Prog.small_eq (t : Prog) : t.small ↔ t.Datas.length ≤ lim ∧ (∀ x ∈ t.Datas, x.small) ∧ t.Decs.length ≤ lim ∧ (∀ x ∈ t.Decs, x.small) := by
  cases t; simp only [Prog.small, Data.smallL_iff, Dec.smallL_iff] <;> rfl
theorem Prog.ext' {a b : Prog} (h0 : a.Datas = b.Datas) (h1 : a.Decs = b.Decs) : a = b := by
  cases a; cases b; simp_all
namespace Q
theorem szProg : ∀ t : Prog, t.small → ∀ left : Int, 0 ≤ left → left ≤ 1048576 → M.laws_szProg (t, left) = some (rest t.cost left) := by
  intro t
  intro hs left h0 h1
  have hlim : lim = 140737488355328 := rfl
  obtain ⟨hl_Datas, hm_Datas, hl_Decs, hm_Decs⟩ := (Prog.small_eq t).1 hs
  have hcost := Prog.cost_eq t
  rw [M.e_laws_szProg]; try simp only [cnd_not, cnd_dec, Option.bind_some]
  rw [szDataS_of _ hl_Datas (fun x hx => szData x (hm_Datas x hx)) _ (by omega) (by omega), Option.bind_some]
  by_cases hk_Datas : ((t.Datas.length + sumC Data.cost t.Datas : Nat) : Int) ≤ left
  rotate_left
  · rw [rest_neg hk_Datas, if_pos (by omega), rest_neg (by omega)]
  rw [rest_pos hk_Datas, if_neg (by omega)]
  rw [szDecS_of _ hl_Decs (fun x hx => szDec x (hm_Decs x hx)) _ (by omega) (by omega), Option.bind_some]
  by_cases hk_Decs : ((t.Decs.length + sumC Dec.cost t.Decs : Nat) : Int) ≤ left - ((t.Datas.length + sumC Data.cost t.Datas : Nat) : Int)
  rotate_left
  · rw [rest_neg hk_Decs, if_pos (by omega), rest_neg (by omega)]
  rw [rest_pos hk_Decs, if_neg (by omega)]
  rw [rest_pos (by omega)]; try congr 1; try omega
theorem toProg : ∀ t : Prog, t.cost ≤ 1048576 → M.laws_toProg t = some t := by
  intro t
  intro hc
  have hlim : lim = 140737488355328 := rfl
  have hcost := Prog.cost_eq t
  rw [M.e_laws_toProg]; try simp only [cnd_not, cnd_dec, Option.bind_some]
  have hm_Datas : ∀ x ∈ t.Datas, x.cost ≤ 1048576 := fun x hx => by have := sumC_mem (c := Data.cost) hx; omega
  rw [toDataS_of _ (by omega) (fun x hx => toData x (hm_Datas x hx)), Option.bind_some]
  have hm_Decs : ∀ x ∈ t.Decs, x.cost ≤ 1048576 := fun x hx => by have := sumC_mem (c := Dec.cost) hx; omega
  rw [toDecS_of _ (by omega) (fun x hx => toDec x (hm_Decs x hx)), Option.bind_some]
  all_goals first | rfl | (cases t; rfl) | (simp only [Exp.eta, Dec.eta, Alt.eta]; try (cases t; rfl))
open Classical in
theorem eqProg : ∀ t : Prog, t.small → ∀ u : Prog, M.laws_eqProg (t, u) = some (decide (t = u)) := by
  intro t
  intro hs u
  have hlim : lim = 140737488355328 := rfl
  obtain ⟨hl_Datas, hm_Datas, hl_Decs, hm_Decs⟩ := (Prog.small_eq t).1 hs
  rw [M.e_laws_eqProg]; try simp only [cnd_not, cnd_dec, Option.bind_some]
  rw [eqDataS_of _ _ hl_Datas (fun x hx => eqData x (hm_Datas x hx)), Option.bind_some]
  by_cases hk_Datas : t.Datas = u.Datas
  rotate_left
  · rw [decide_eq_false hk_Datas, decide_eq_false (fun e => hk_Datas (by rw [e]))]; rfl
  rw [decide_eq_true hk_Datas, cond_true]
  rw [eqDecS_of _ _ hl_Decs (fun x hx => eqDec x (hm_Decs x hx)), Option.bind_some]
  by_cases hk_Decs : t.Decs = u.Decs
  rotate_left
  · rw [decide_eq_false hk_Decs, decide_eq_false (fun e => hk_Decs (by rw [e]))]; rfl
  rw [decide_eq_true hk_Decs, cond_true]
  rw [decide_eq_true (Prog.ext' hk_Datas hk_Decs)]
end Q
end W
end
section
namespace W
set_option linter.unusedVariables false
set_option maxRecDepth 100000
set_option maxHeartbeats 1000000
namespace Q
open Go HL HL.X

open Classical in
/-- A loop that goes on as long as something holds. -/
theorem stopL {γ : Type} {n : Nat} (hn : n ≤ lim) {L : Int → Option γ} (q : Nat → Prop) (bad good : Option γ)
    (hL : ∀ i : Nat, i < n → IntKind.i64.wrap ((i : Int) + 1) = ((i + 1 : Nat) : Int) → L i = if q i then L ((i + 1 : Nat) : Int) else bad) (hend : L (n : Nat) = good) : L 0 = if ∀ m, m < n → q m then good else bad := by
  have key : ∀ (k i : Nat), i + k = n → (∀ m, m < i → q m) → L i = if ∀ m, m < n → q m then good else bad := by
    intro k
    induction k with
    | zero =>
      intro i h hq
      have : i = n := by omega
      subst this
      rw [hend, if_pos hq]
    | succ k ih =>
      intro i h hq
      rw [hL i (by omega) (wrap_succ (n := n) (by omega) hn)]
      by_cases a : q i
      · rw [if_pos a]
        refine ih (i + 1) (by omega) fun m hm => ?_
        by_cases e : m = i
        · subst e; exact a
        · exact hq m (by omega)
      · rw [if_neg a, if_neg (fun h' => a (h' i (by omega)))]
  exact key n 0 (by omega) (fun m hm => by omega)

open Classical in
/-- The same along a list. -/
theorem allL {α γ : Type} {l : List α} (hl : l.length ≤ lim) {L : Int → Option γ} (q : α → Prop) (bad good : Option γ)
    (hL : ∀ (i : Nat) (x : α), l[i]? = some x → x ∈ l → ix l (i : Int) = some x → (i : Int) < (l.length : Int) → IntKind.i64.wrap ((i : Int) + 1) = ((i + 1 : Nat) : Int) → L i = if q x then L ((i + 1 : Nat) : Int) else bad)
    (hend : L (l.length : Nat) = good) : L 0 = if ∀ x ∈ l, q x then good else bad := by
  have := stopL hl (L := L) (fun i => ∀ x, l[i]? = some x → q x) bad good (fun i hi hw => by
    have hx := List.getElem?_eq_getElem hi
    rw [hL i _ hx (List.getElem_mem hi) (ix_of hx) (by omega) hw]
    by_cases a : q l[i]
    · rw [if_pos a, if_pos]
      intro x hx'
      rw [hx] at hx'
      cases hx'
      exact a
    · rw [if_neg a, if_neg]
      intro h
      exact a (h _ hx)) hend
  rw [this]
  congr 1
  refine propext ⟨fun h x hx => ?_, fun h m hm x hx => h x (List.mem_of_getElem? hx)⟩
  obtain ⟨i, hi⟩ := List.getElem?_of_mem hx
  exact h i (List.getElem?_eq_some_iff.1 hi).1 x hi

/-- A loop that counts, up to 200. -/
theorem cntL {α γ : Type} {l : List α} (hl : l.length ≤ lim) (c : α → Nat) (ok : Nat → α → Prop) {L : Nat → Int → Option γ} (good : Nat → γ) (Bad : γ → Prop)
    (hL : ∀ (k i : Nat) (x : α), l[i]? = some x → x ∈ l → ix l (i : Int) = some x → (i : Int) < (l.length : Int) → IntKind.i64.wrap ((i : Int) + 1) = ((i + 1 : Nat) : Int) → k ≤ 200 →
      (ok i x → k + c x ≤ 200 → L k i = L (k + c x) ((i + 1 : Nat) : Int)) ∧ (¬ (ok i x ∧ k + c x ≤ 200) → ∃ g, Bad g ∧ L k i = some g))
    (hend : ∀ k, k ≤ 200 → L k (l.length : Nat) = some (good k)) (k : Nat) (hk : k ≤ 200) :
    ((∀ i x, l[i]? = some x → ok i x) → k + sumC c l ≤ 200 → L k 0 = some (good (k + sumC c l))) ∧ (¬ ((∀ i x, l[i]? = some x → ok i x) ∧ k + sumC c l ≤ 200) → ∃ g, Bad g ∧ L k 0 = some g) := by
  have key : ∀ (n i k : Nat), i + n = l.length → k ≤ 200 →
      ((∀ j x, i ≤ j → l[j]? = some x → ok j x) → k + sumC c (l.drop i) ≤ 200 → L k i = some (good (k + sumC c (l.drop i)))) ∧ (¬ ((∀ j x, i ≤ j → l[j]? = some x → ok j x) ∧ k + sumC c (l.drop i) ≤ 200) → ∃ g, Bad g ∧ L k i = some g) := by
    intro n
    induction n with
    | zero =>
      intro i k hi hk
      have : i = l.length := by omega
      subst this
      rw [List.drop_length]
      refine ⟨fun _ _ => hend k hk, fun h => absurd ⟨fun j x hj hx => ?_, hk⟩ h⟩
      rw [List.getElem?_eq_none hj] at hx
      cases hx
    | succ n ih =>
      intro i k hi hk
      have hlt : i < l.length := by omega
      have hx := List.getElem?_eq_getElem hlt
      obtain ⟨h1, h2⟩ := hL k i _ hx (List.getElem_mem hlt) (ix_of hx) (by omega) (wrap_succ (n := l.length) hlt hl) hk
      rw [List.drop_eq_getElem_cons hlt]
      simp only [sumC]
      by_cases a : ok i l[i] ∧ k + c l[i] ≤ 200
      · obtain ⟨g1, g2⟩ := ih (i + 1) (k + c l[i]) (by omega) a.2
        rw [h1 a.1 a.2]
        refine ⟨fun q1 q2 => ?_, fun q => g2 fun q' => q ⟨fun j x hj hx' => ?_, by omega⟩⟩
        · rw [g1 (fun j x hj => q1 j x (by omega)) (by omega), Nat.add_assoc]
        · by_cases e : j = i
          · subst e
            rw [hx] at hx'
            cases hx'
            exact a.1
          · exact q'.1 j x (by omega) hx'
      · exact ⟨fun q1 q2 => absurd ⟨q1 i _ (Nat.le_refl _) hx, by omega⟩ a, fun _ => h2 a⟩
  have := key l.length 0 k (by omega) hk
  rw [List.drop_zero] at this
  refine ⟨fun a b => this.1 (fun j x _ => a j x) b, fun q => this.2 fun q' => q ⟨fun j x => q'.1 j x (Nat.zero_le _), q'.2⟩⟩

/-! ### texts -/
def byt (s : ByteArray) (i : Nat) : Nat := ((s.data[i]?).map UInt8.toNat).getD 0
theorem bx_byt {s : ByteArray} {i : Nat} (h : i < s.size) : bx s (i : Int) = some ((byt s i : Nat) : Int) := by
  have h' : i < s.data.size := h
  unfold bx byt
  rw [if_pos (by omega)]
  have e : ((i : Int)).toNat = i := by omega
  rw [e, Array.getElem?_eq_getElem h']
  rfl
theorem bx_byt0 {s : ByteArray} (h : 0 < s.size) : bx s 0 = some ((byt s 0 : Nat) : Int) := bx_byt h
theorem byt_lt (s : ByteArray) (i : Nat) : byt s i < 256 := by
  unfold byt
  cases s.data[i]? with
  | none => simp
  | some c => simpa using c.toNat_lt

theorem sp_in (a b c : Int) : M.spec_l1In (a, b, c) = some (decide (b ≤ a ∧ a ≤ c)) := by
  rw [M.e_spec_l1In]
  by_cases h : b ≤ a <;> simp [h]
theorem im_in (a b c : Int) : M.impl_in (a, b, c) = some (decide (b ≤ a ∧ a ≤ c)) := by
  rw [M.e_impl_in]
  by_cases h : b ≤ a <;> simp [h]
def isS (c : Nat) : Prop := 97 ≤ c ∧ c ≤ 122
def isG (c : Nat) : Prop := 65 ≤ c ∧ c ≤ 90
def isD (c : Nat) : Prop := 48 ≤ c ∧ c ≤ 57
instance (c : Nat) : Decidable (isS c) := inferInstanceAs (Decidable (_ ∧ _))
instance (c : Nat) : Decidable (isG c) := inferInstanceAs (Decidable (_ ∧ _))
instance (c : Nat) : Decidable (isD c) := inferInstanceAs (Decidable (_ ∧ _))
theorem wrapb {c : Nat} (h : c < 256) : IntKind.i64.wrap (c : Int) = c := wrap_ok (by omega)
theorem dcd {p q : Prop} {i : Decidable p} {j : Decidable q} (h : p ↔ q) : @decide p i = @decide q j := by
  by_cases hp : p
  · rw [decide_eq_true hp, decide_eq_true (h.1 hp)]
  · rw [decide_eq_false hp, decide_eq_false fun x => hp (h.2 x)]
theorem sp_small {c : Nat} (h : c < 256) : M.spec_l1Small (c : Int) = some (decide (isS c)) := by
  rw [M.e_spec_l1Small, wrapb h, sp_in]
  exact congrArg some (dcd (by unfold isS; omega))
theorem sp_large {c : Nat} (h : c < 256) : M.spec_l1Large (c : Int) = some (decide (isG c)) := by
  rw [M.e_spec_l1Large, wrapb h, sp_in]
  exact congrArg some (dcd (by unfold isG; omega))
theorem sp_digit {c : Nat} (h : c < 256) : M.spec_l1Digit (c : Int) = some (decide (isD c)) := by
  rw [M.e_spec_l1Digit, wrapb h, sp_in]
  exact congrArg some (dcd (by unfold isD; omega))
theorem sp_letter {c : Nat} (h : c < 256) : M.spec_l1Letter (c : Int) = some (decide ((isS c ∨ isG c) ∨ isD c)) := by
  rw [M.e_spec_l1Letter, sp_small h, sp_large h, sp_digit h]
  by_cases a : isS c <;> by_cases b : isG c <;> by_cases d : isD c <;> simp [a, b, d]
theorem im_letter (c : Nat) : M.impl_isLetter (c : Int) = some (decide (isS c ∨ isG c)) := by
  rw [M.e_impl_isLetter]
  have h1 : (97 ≤ (c : Int)) ↔ 97 ≤ c := by omega
  have h2 : ((c : Int) ≤ 122) ↔ c ≤ 122 := by omega
  have h3 : (65 ≤ (c : Int)) ↔ 65 ≤ c := by omega
  have h4 : ((c : Int) ≤ 90) ↔ c ≤ 90 := by omega
  by_cases a : 97 ≤ c <;> by_cases b : c ≤ 122 <;> by_cases d : 65 ≤ c <;> by_cases e : c ≤ 90 <;> simp [isS, isG, h1, h2, h3, h4, a, b, d, e]
theorem im_digit (c : Nat) : M.impl_isDigit (c : Int) = some (decide (isD c)) := by
  rw [M.e_impl_isDigit]
  have h1 : (48 ≤ (c : Int)) ↔ 48 ≤ c := by omega
  have h2 : ((c : Int) ≤ 57) ↔ c ≤ 57 := by omega
  by_cases a : 48 ≤ c <;> by_cases b : c ≤ 57 <;> simp [isD, h1, h2, a, b]

open Classical in
theorem im_wordLike {w : ByteArray} (hw : w.size ≤ lim) : M.impl_wordLike w = some (decide ((∀ m, m < w.size → (isS (byt w m) ∨ isG (byt w m)) ∨ (m ≠ 0 ∧ isD (byt w m))) ∧ 1 ≤ w.size ∧ w.size ≤ 8)) := by
  have h : M.impl_wordLike_L0 (w, (w.size : Int), 0) = _ := stopL (n := w.size) hw (L := fun i => M.impl_wordLike_L0 (w, (w.size : Int), i)) (fun m => (isS (byt w m) ∨ isG (byt w m)) ∨ (m ≠ 0 ∧ isD (byt w m))) (some (.inl false)) (some (.inr ())) (fun i hi hwr => by
    show M.impl_wordLike_L0 (w, (w.size : Int), (i : Int)) = _
    rw [M.e_impl_wordLike_L0]
    have h1 : (i : Int) < (w.size : Int) := by omega
    simp only [h1, decide_true, cond_true, bx_byt hi, Option.bind_some, im_letter, im_digit, hwr]
    have h2 : ((i : Int) = 0) ↔ i = 0 := by omega
    by_cases a : isS (byt w i) ∨ isG (byt w i)
    · rw [decide_eq_true a, if_pos (.inl a)]; rfl
    · rw [decide_eq_false a]
      by_cases b : i = 0
      · rw [decide_eq_true (h2.2 b), if_neg fun q => q.elim a fun q => q.1 b]; rfl
      · rw [decide_eq_false fun q => b (h2.1 q)]
        by_cases d : isD (byt w i)
        · rw [decide_eq_true d, if_pos (.inr ⟨b, d⟩)]; rfl
        · rw [decide_eq_false d, if_neg fun q => q.elim a fun q => d q.2]; rfl) (by
    show M.impl_wordLike_L0 (w, _, _) = _
    rw [M.e_impl_wordLike_L0]
    simp)
  rw [M.e_impl_wordLike, h]
  by_cases a : ∀ m, m < w.size → (isS (byt w m) ∨ isG (byt w m)) ∨ (m ≠ 0 ∧ isD (byt w m))
  · rw [if_pos a]
    simp only [Option.bind_some, Sum.elim_inr, im_in]
    exact congrArg some (dcd ⟨fun h => ⟨a, by omega, by omega⟩, fun h => by omega⟩)
  · rw [if_neg a]
    simp only [Option.bind_some, Sum.elim_inl]
    rw [decide_eq_false fun h => a h.1]
open Classical in
theorem sp_letters {w : ByteArray} (hw : w.size ≤ lim) : M.spec_l1Letters w = some (decide ((∀ m, m < w.size → (isS (byt w m) ∨ isG (byt w m)) ∨ isD (byt w m)) ∧ 1 ≤ w.size ∧ w.size ≤ 8)) := by
  have h : M.spec_l1Letters_L0 (w, 0) = _ := stopL (n := w.size) hw (L := fun i => M.spec_l1Letters_L0 (w, i)) (fun m => (isS (byt w m) ∨ isG (byt w m)) ∨ isD (byt w m)) (some (.inl false)) (some (.inr ())) (fun i hi hwr => by
    show M.spec_l1Letters_L0 (w, (i : Int)) = _
    rw [M.e_spec_l1Letters_L0]
    have h1 : (i : Int) < (w.size : Int) := by omega
    simp only [h1, decide_true, cond_true, bx_byt hi, Option.bind_some, sp_letter (byt_lt _ _), hwr]
    by_cases a : (isS (byt w i) ∨ isG (byt w i)) ∨ isD (byt w i) <;> simp [a]) (by
    show M.spec_l1Letters_L0 (w, _) = _
    rw [M.e_spec_l1Letters_L0]
    simp)
  rw [M.e_spec_l1Letters, h]
  by_cases a : ∀ m, m < w.size → (isS (byt w m) ∨ isG (byt w m)) ∨ isD (byt w m)
  · rw [if_pos a]
    simp only [Option.bind_some, Sum.elim_inr, sp_in]
    exact congrArg some (dcd ⟨fun h => ⟨a, by omega, by omega⟩, fun h => by omega⟩)
  · rw [if_neg a]
    simp only [Option.bind_some, Sum.elim_inl]
    rw [decide_eq_false fun h => a h.1]

open Classical in
theorem sp_has {l : List ByteArray} (hl : l.length ≤ lim) (x : ByteArray) : M.spec_l1Has (l, x) = some (decide (x ∈ l)) := by
  have h : M.spec_l1Has_L0 (l, x, 0) = _ := allL hl (L := fun i => M.spec_l1Has_L0 (l, x, i)) (fun y => y ≠ x) (some (.inl true)) (some (.inr ())) (fun i y hy hm hix hi hw => by
    show M.spec_l1Has_L0 (l, x, (i : Int)) = _
    rw [M.e_spec_l1Has_L0]
    simp only [hi, decide_true, cond_true, hix, Option.bind_some, hw]
    by_cases a : y = x <;> simp [a]) (by
    show M.spec_l1Has_L0 (l, x, _) = _
    rw [M.e_spec_l1Has_L0]
    simp)
  rw [M.e_spec_l1Has, h]
  by_cases a : x ∈ l
  · rw [if_neg (fun h => h x a rfl)]
    simp [a]
  · rw [if_pos (fun y hy (e : y = x) => a (by rw [← e]; exact hy))]
    simp [a]
open Classical in
theorem im_contains {l : List ByteArray} (hl : l.length ≤ lim) (x : ByteArray) : M.slices_Contains_string (l, x) = some (decide (x ∈ l)) := by
  have key : ∀ (k i : Nat), i + k = l.length → (x ∉ l.drop i ∧ M.slices_Index_string_L0 (l, x, (l.length : Int), (i : Int)) = some (.inr ())) ∨ (x ∈ l.drop i ∧ ∃ j : Nat, M.slices_Index_string_L0 (l, x, (l.length : Int), (i : Int)) = some (.inl (j : Int))) := by
    intro k
    induction k with
    | zero =>
      intro i h
      left
      rw [M.e_slices_Index_string_L0, List.drop_eq_nil_of_le (by omega)]
      have : ¬ ((i : Int) < (l.length : Int)) := by omega
      simp [this]
    | succ k ih =>
      intro i h
      have hi : i < l.length := by omega
      have hx := List.getElem?_eq_getElem hi
      have h1 : (i : Int) < (l.length : Int) := by omega
      rw [M.e_slices_Index_string_L0, List.drop_eq_getElem_cons hi]
      simp only [h1, decide_true, cond_true, ix_of hx, Option.bind_some, wrap_succ (n := l.length) hi hl]
      by_cases e : x = l[i]
      · right
        simp only [e, decide_true, cond_true]
        exact ⟨List.mem_cons_self, i, rfl⟩
      · simp only [e, decide_false, cond_false, List.mem_cons, false_or]
        exact ih (i + 1) (by omega)
  rw [M.e_slices_Contains_string, M.e_slices_Index_string]
  rcases key l.length 0 (by omega) with ⟨h1, h2⟩ | ⟨h1, j, h2⟩
  · rw [List.drop_zero] at h1
    rw [show (0 : Int) = ((0 : Nat) : Int) from rfl, h2]
    simp [h1]
  · rw [List.drop_zero] at h1
    rw [show (0 : Int) = ((0 : Nat) : Int) from rfl, h2]
    simp [h1]

/-! ### names -/
noncomputable def nameB (s : ByteArray) : Bool := (M.impl_NameOk s).getD false
noncomputable def greatB (s : ByteArray) : Bool := (M.impl_GreatOk s).getD false
abbrev under : ByteArray := ⟨⟨[95]⟩⟩
abbrev nos : ByteArray := ⟨⟨[]⟩⟩

open Classical in
theorem names {w : ByteArray} (hw : w.size ≤ lim) : ∃ b, M.impl_NameOk w = some b ∧ M.spec_NameOk w = some b ∧ (b = true → 0 < w.size ∧ isS (byt w 0)) := by
  have e1 := im_wordLike hw
  have e2 := sp_letters hw
  have hb := byt_lt w 0
  rw [M.e_impl_NameOk, M.e_spec_NameOk, e1, e2]
  by_cases h0 : 0 < w.size
  rotate_left
  · have : w.size = 0 := by omega
    exact ⟨false, by simp [this], by simp [this], fun q => by cases q⟩
  by_cases hs : isS (byt w 0)
  · have hiff : (∀ m, m < w.size → (isS (byt w m) ∨ isG (byt w m)) ∨ (m ≠ 0 ∧ isD (byt w m))) ↔ ∀ m, m < w.size → (isS (byt w m) ∨ isG (byt w m)) ∨ isD (byt w m) := by
      refine ⟨fun h m hm => (h m hm).imp id And.right, fun h m hm => ?_⟩
      by_cases e : m = 0
      · subst e; exact .inl (.inl hs)
      · exact (h m hm).imp id fun q => ⟨e, q⟩
    by_cases a : (∀ m, m < w.size → (isS (byt w m) ∨ isG (byt w m)) ∨ isD (byt w m)) ∧ 1 ≤ w.size ∧ w.size ≤ 8
    · have a' : (∀ m, m < w.size → (isS (byt w m) ∨ isG (byt w m)) ∨ (m ≠ 0 ∧ isD (byt w m))) ∧ 1 ≤ w.size ∧ w.size ≤ 8 := ⟨hiff.2 a.1, a.2⟩
      have h97 : 97 ≤ ((byt w 0 : Nat) : Int) := by have := hs.1; omega
      simp only [decide_eq_true a, decide_eq_true a', Option.bind_some, cond_true, bx_byt0 h0, sp_small hb, hs, decide_true, h97, M.e_impl_words, M.e_spec_l1IsWord, im_contains (l := [(⟨⟨[108, 101, 116]⟩⟩ : ByteArray), (⟨⟨[105, 110]⟩⟩ : ByteArray), (⟨⟨[119, 104, 101, 114, 101]⟩⟩ : ByteArray), (⟨⟨[99, 97, 115, 101]⟩⟩ : ByteArray), (⟨⟨[111, 102]⟩⟩ : ByteArray), (⟨⟨[105, 102]⟩⟩ : ByteArray), (⟨⟨[116, 104, 101, 110]⟩⟩ : ByteArray), (⟨⟨[101, 108, 115, 101]⟩⟩ : ByteArray), (⟨⟨[100, 97, 116, 97]⟩⟩ : ByteArray)]) (by simp [lim]), sp_has (l := [(⟨⟨[108, 101, 116]⟩⟩ : ByteArray), (⟨⟨[105, 110]⟩⟩ : ByteArray), (⟨⟨[119, 104, 101, 114, 101]⟩⟩ : ByteArray), (⟨⟨[99, 97, 115, 101]⟩⟩ : ByteArray), (⟨⟨[111, 102]⟩⟩ : ByteArray), (⟨⟨[105, 102]⟩⟩ : ByteArray), (⟨⟨[116, 104, 101, 110]⟩⟩ : ByteArray), (⟨⟨[101, 108, 115, 101]⟩⟩ : ByteArray), (⟨⟨[100, 97, 116, 97]⟩⟩ : ByteArray)]) (by simp [lim])]
      exact ⟨_, rfl, rfl, fun _ => ⟨h0, trivial⟩⟩
    · have a' : ¬ ((∀ m, m < w.size → (isS (byt w m) ∨ isG (byt w m)) ∨ (m ≠ 0 ∧ isD (byt w m))) ∧ 1 ≤ w.size ∧ w.size ≤ 8) := fun q => a ⟨hiff.1 q.1, q.2⟩
      simp only [decide_eq_false a, decide_eq_false a', Option.bind_some, cond_false]
      exact ⟨_, rfl, rfl, fun q => by cases q⟩
  · refine ⟨false, ?_, ?_, fun q => by cases q⟩
    · by_cases a' : (∀ m, m < w.size → (isS (byt w m) ∨ isG (byt w m)) ∨ (m ≠ 0 ∧ isD (byt w m))) ∧ 1 ≤ w.size ∧ w.size ≤ 8
      · have hg : isG (byt w 0) := by
          rcases a'.1 0 h0 with (q | q) | ⟨q, _⟩
          · exact absurd q hs
          · exact q
          · exact absurd rfl q
        have h97 : ¬ (97 ≤ ((byt w 0 : Nat) : Int)) := by have := hg.2; omega
        simp only [decide_eq_true a', Option.bind_some, cond_true, bx_byt0 h0, h97, decide_false, cond_false]
      · simp only [decide_eq_false a', Option.bind_some, cond_false]
    · by_cases a : (∀ m, m < w.size → (isS (byt w m) ∨ isG (byt w m)) ∨ isD (byt w m)) ∧ 1 ≤ w.size ∧ w.size ≤ 8
      · simp only [decide_eq_true a, Option.bind_some, cond_true, bx_byt0 h0, sp_small hb, hs, decide_false, cond_false]
      · simp only [decide_eq_false a, Option.bind_some, cond_false]
open Classical in
theorem greats {w : ByteArray} (hw : w.size ≤ lim) : ∃ b, M.impl_GreatOk w = some b ∧ M.spec_GreatOk w = some b ∧ (b = true → 0 < w.size ∧ isG (byt w 0)) := by
  have e1 := im_wordLike hw
  have e2 := sp_letters hw
  have hb := byt_lt w 0
  rw [M.e_impl_GreatOk, M.e_spec_GreatOk, e1, e2]
  by_cases h0 : 0 < w.size
  rotate_left
  · have : w.size = 0 := by omega
    exact ⟨false, by simp [this], by simp [this], fun q => by cases q⟩
  by_cases hs : isG (byt w 0)
  · have hiff : (∀ m, m < w.size → (isS (byt w m) ∨ isG (byt w m)) ∨ (m ≠ 0 ∧ isD (byt w m))) ↔ ∀ m, m < w.size → (isS (byt w m) ∨ isG (byt w m)) ∨ isD (byt w m) := by
      refine ⟨fun h m hm => (h m hm).imp id And.right, fun h m hm => ?_⟩
      by_cases e : m = 0
      · subst e; exact .inl (.inr hs)
      · exact (h m hm).imp id fun q => ⟨e, q⟩
    by_cases a : (∀ m, m < w.size → (isS (byt w m) ∨ isG (byt w m)) ∨ isD (byt w m)) ∧ 1 ≤ w.size ∧ w.size ≤ 8
    · have a' : (∀ m, m < w.size → (isS (byt w m) ∨ isG (byt w m)) ∨ (m ≠ 0 ∧ isD (byt w m))) ∧ 1 ≤ w.size ∧ w.size ≤ 8 := ⟨hiff.2 a.1, a.2⟩
      have h97 : ((byt w 0 : Nat) : Int) ≤ 90 := by have := hs.2; omega
      simp only [decide_eq_true a, decide_eq_true a', Option.bind_some, cond_true, bx_byt0 h0, sp_large hb, hs, decide_true, h97]
      exact ⟨_, rfl, rfl, fun _ => ⟨h0, trivial⟩⟩
    · have a' : ¬ ((∀ m, m < w.size → (isS (byt w m) ∨ isG (byt w m)) ∨ (m ≠ 0 ∧ isD (byt w m))) ∧ 1 ≤ w.size ∧ w.size ≤ 8) := fun q => a ⟨hiff.1 q.1, q.2⟩
      simp only [decide_eq_false a, decide_eq_false a', Option.bind_some, cond_false]
      exact ⟨_, rfl, rfl, fun q => by cases q⟩
  · refine ⟨false, ?_, ?_, fun q => by cases q⟩
    · by_cases a' : (∀ m, m < w.size → (isS (byt w m) ∨ isG (byt w m)) ∨ (m ≠ 0 ∧ isD (byt w m))) ∧ 1 ≤ w.size ∧ w.size ≤ 8
      · have hg : isS (byt w 0) := by
          rcases a'.1 0 h0 with (q | q) | ⟨q, _⟩
          · exact q
          · exact absurd q hs
          · exact absurd rfl q
        have h97 : ¬ (((byt w 0 : Nat) : Int) ≤ 90) := by have := hg.1; omega
        simp only [decide_eq_true a', Option.bind_some, cond_true, bx_byt0 h0, h97, decide_false]
      · simp only [decide_eq_false a', Option.bind_some, cond_false]
    · by_cases a : (∀ m, m < w.size → (isS (byt w m) ∨ isG (byt w m)) ∨ isD (byt w m)) ∧ 1 ≤ w.size ∧ w.size ≤ 8
      · simp only [decide_eq_true a, Option.bind_some, cond_true, bx_byt0 h0, sp_large hb, hs, decide_false]
      · simp only [decide_eq_false a, Option.bind_some, cond_false]

theorem im_name {w : ByteArray} (hw : w.size ≤ lim) : M.impl_NameOk w = some (nameB w) := by
  obtain ⟨b, h, _⟩ := names hw
  unfold nameB; rw [h]; rfl
theorem sp_name {w : ByteArray} (hw : w.size ≤ lim) : M.spec_NameOk w = some (nameB w) := by
  obtain ⟨b, h, h', _⟩ := names hw
  unfold nameB; rw [h, h']; rfl
theorem im_great {w : ByteArray} (hw : w.size ≤ lim) : M.impl_GreatOk w = some (greatB w) := by
  obtain ⟨b, h, _⟩ := greats hw
  unfold greatB; rw [h]; rfl
theorem sp_great {w : ByteArray} (hw : w.size ≤ lim) : M.spec_GreatOk w = some (greatB w) := by
  obtain ⟨b, h, h', _⟩ := greats hw
  unfold greatB; rw [h, h']; rfl
theorem name_not_under : nameB under = false := by
  cases h : nameB under with
  | false => rfl
  | true =>
    obtain ⟨b, h1, _, h2⟩ := names (w := under) (by decide)
    unfold nameB at h
    rw [h1] at h
    have := (h2 h).2.1
    have e : byt under 0 = 95 := by decide
    omega
theorem great_nos : greatB nos = false := by
  cases h : greatB nos with
  | false => rfl
  | true =>
    obtain ⟨b, h1, _, h2⟩ := greats (w := nos) (by decide)
    unfold greatB at h
    rw [h1] at h
    have := (h2 h).1
    cases this
theorem great_not_under : greatB under = false := by
  cases h : greatB under with
  | false => rfl
  | true =>
    obtain ⟨b, h1, _, h2⟩ := greats (w := under) (by decide)
    unfold greatB at h
    rw [h1] at h
    have := (h2 h).2.2
    have e : byt under 0 = 95 := by decide
    omega
end Q
end W
end
section
/- Programs: what expressions are right but for their parts. -/
namespace W
set_option linter.unusedVariables false
set_option maxRecDepth 100000
set_option maxHeartbeats 4000000
namespace Q
open Go HL HL.X

theorem ifc {α : Sort _} {p q : Prop} {i : Decidable p} {x y : α} (h : p ↔ q) : @ite α p i x y = @ite α q (Classical.propDecidable q) x y := by
  by_cases a : p
  · rw [if_pos a, if_pos (h.1 a)]
  · rw [if_neg a, if_neg fun b => a (h.2 b)]

def unl (l : List ByteArray) : Prop := ∀ (i : Nat) (x : ByteArray), l[i]? = some x → x ≠ under → x ∉ l.take i
def nor (x : ByteArray) : Prop := x = under ∨ nameB x = true
def varsP (l : List ByteArray) : Prop := l.length ≤ 4 ∧ unl l ∧ ∀ x ∈ l, nor x

open Classical in
theorem im_unlike {l : List ByteArray} (hl : l.length ≤ lim) : M.impl_unlike l = some (decide (unl l)) := by
  have h : M.impl_unlike_L0 (l, l, (l.length : Int), 0) = _ := stopL hl (L := fun i => M.impl_unlike_L0 (l, l, (l.length : Int), i)) (fun i => ∀ x, l[i]? = some x → x ≠ under → x ∉ l.take i) (some (.inl false)) (some (.inr ())) (fun i hi hw => by
    show M.impl_unlike_L0 (l, l, (l.length : Int), (i : Int)) = _
    rw [M.e_impl_unlike_L0]
    have hx := List.getElem?_eq_getElem hi
    have h1 : (i : Int) < (l.length : Int) := by omega
    have h2 : (0 : Int) ≤ (i : Int) := by omega
    have h3 : (i : Int) ≤ (l.length : Int) := by omega
    have hq : (∀ x, l[i]? = some x → x ≠ under → x ∉ l.take i) ↔ (l[i] ≠ under → l[i] ∉ l.take i) := by rw [hx]; simp
    simp only [h1, decide_true, cond_true, ix_of hx, Option.bind_some, gd_t h2, gd_t h3, Int.toNat_natCast, List.drop_zero, hw, im_contains (l := l.take i) (by simp; omega)]
    rw [ifc hq]
    by_cases a : l[i] = under
    · rw [decide_eq_true a, if_pos fun q => absurd a q]; rfl
    · rw [decide_eq_false a]
      by_cases b : l[i] ∈ l.take i
      · rw [decide_eq_true b, if_neg fun q => q a b]; rfl
      · rw [decide_eq_false b, if_pos fun _ => b]; rfl) (by
    show M.impl_unlike_L0 (l, l, (l.length : Int), _) = _
    rw [M.e_impl_unlike_L0]
    simp)
  rw [M.e_impl_unlike, h]
  have hq : (∀ m, m < l.length → ∀ x, l[m]? = some x → x ≠ under → x ∉ l.take m) ↔ unl l := ⟨fun h i x hx => h i (List.getElem?_eq_some_iff.1 hx).1 x hx, fun h m _ x => h m x⟩
  rw [ifc hq]
  by_cases a : unl l
  · rw [if_pos a, decide_eq_true a]; rfl
  · rw [if_neg a, decide_eq_false a]; rfl

open Classical in
theorem im_nor {x : ByteArray} (hx : x.size ≤ lim) : M.impl_nameOr x = some (decide (nor x)) := by
  rw [M.e_impl_nameOr, im_name hx]
  unfold nor
  by_cases a : x = under
  · simp [a]
  · cases b : nameB x <;> simp [a]

open Classical in
theorem im_namesOk {l : List ByteArray} (hs : strOk l) : M.impl_namesOk l = some (decide (varsP l)) := by
  obtain ⟨hl, hss⟩ := hs
  have key : ∀ (k i : Nat), i + k = l.length → ((∀ x ∈ l.drop i, nor x) ∧ M.slices_IndexFunc_string_at_namesOk_1_L0 (l, (l.length : Int), (i : Int)) = some (.inr ())) ∨ ((¬ ∀ x ∈ l.drop i, nor x) ∧ ∃ j : Nat, M.slices_IndexFunc_string_at_namesOk_1_L0 (l, (l.length : Int), (i : Int)) = some (.inl (j : Int))) := by
    intro k
    induction k with
    | zero =>
      intro i h
      left
      rw [M.e_slices_IndexFunc_string_at_namesOk_1_L0, List.drop_eq_nil_of_le (by omega)]
      have : ¬ ((i : Int) < (l.length : Int)) := by omega
      simp [this]
    | succ k ih =>
      intro i h
      have hi : i < l.length := by omega
      have hx := List.getElem?_eq_getElem hi
      have h1 : (i : Int) < (l.length : Int) := by omega
      rw [M.e_slices_IndexFunc_string_at_namesOk_1_L0, List.drop_eq_getElem_cons hi]
      simp only [h1, decide_true, cond_true, ix_of hx, Option.bind_some, M.e_impl_namesOk_1, im_nor (hss _ (List.getElem_mem hi)), wrap_succ (n := l.length) hi hl]
      by_cases e : nor l[i]
      · simp only [e, decide_true, Bool.not_true, cond_false, List.mem_cons, forall_eq_or_imp, true_and]
        exact ih (i + 1) (by omega)
      · right
        simp only [e, decide_false, Bool.not_false, cond_true]
        exact ⟨fun q => e (q _ List.mem_cons_self), i, rfl⟩
  rw [M.e_impl_namesOk, im_unlike hl, M.e_slices_ContainsFunc_string_at_namesOk_1, M.e_slices_IndexFunc_string_at_namesOk_1]
  have hlen : ((l.length : Int) ≤ 4) ↔ l.length ≤ 4 := by omega
  by_cases a : l.length ≤ 4 <;> by_cases b : unl l
  · rcases key l.length 0 (by omega) with ⟨h1, h2⟩ | ⟨h1, j, h2⟩
    · rw [List.drop_zero] at h1
      rw [show (0 : Int) = ((0 : Nat) : Int) from rfl, h2]
      rw [decide_eq_true (hlen.2 a), decide_eq_true b, decide_eq_true (show varsP l from ⟨a, b, h1⟩)]
      rfl
    · rw [List.drop_zero] at h1
      rw [show (0 : Int) = ((0 : Nat) : Int) from rfl, h2]
      rw [decide_eq_true (hlen.2 a), decide_eq_true b, decide_eq_false (show ¬ varsP l from fun q => h1 q.2.2)]
      simp
  all_goals simp [hlen, a, b, varsP]

open Classical in
theorem sp_vars {l : List ByteArray} (hs : strOk l) : M.spec_l3Vars l = some (decide (varsP l)) := by
  obtain ⟨hl, hss⟩ := hs
  have h : M.spec_l3Vars_L0 (l, 0) = _ := stopL hl (L := fun i => M.spec_l3Vars_L0 (l, i)) (fun i => ∀ x, l[i]? = some x → nor x ∧ (x ≠ under → x ∉ l.take i)) (some (.inl false)) (some (.inr ())) (fun i hi hw => by
    show M.spec_l3Vars_L0 (l, (i : Int)) = _
    rw [M.e_spec_l3Vars_L0]
    have hx := List.getElem?_eq_getElem hi
    have h1 : (i : Int) < (l.length : Int) := by omega
    have h2 : (0 : Int) ≤ (i : Int) := by omega
    have h3 : (i : Int) ≤ (l.length : Int) := by omega
    have hq : (∀ x, l[i]? = some x → nor x ∧ (x ≠ under → x ∉ l.take i)) ↔ (nor l[i] ∧ (l[i] ≠ under → l[i] ∉ l.take i)) := by rw [hx]; simp
    simp only [h1, decide_true, cond_true, ix_of hx, Option.bind_some, gd_t h2, gd_t h3, Int.toNat_natCast, List.drop_zero, hw, sp_has (l := l.take i) (by simp; omega), sp_name (hss _ (List.getElem_mem hi))]
    rw [ifc hq]
    by_cases a : l[i] = under
    · rw [decide_eq_true a, if_pos ⟨.inl a, fun q => absurd a q⟩]; rfl
    · rw [decide_eq_false a]
      cases c : nameB l[i] with
      | false => rw [if_neg fun q => q.1.elim a fun r => by rw [c] at r; cases r]; rfl
      | true =>
        by_cases b : l[i] ∈ l.take i
        · rw [decide_eq_true b, if_neg fun q => q.2 a b]; rfl
        · rw [decide_eq_false b, if_pos ⟨.inr c, fun _ => b⟩]; rfl) (by
    show M.spec_l3Vars_L0 (l, _) = _
    rw [M.e_spec_l3Vars_L0]
    simp)
  rw [M.e_spec_l3Vars, h]
  have hq : (∀ m, m < l.length → ∀ x, l[m]? = some x → nor x ∧ (x ≠ under → x ∉ l.take m)) ↔ unl l ∧ ∀ x ∈ l, nor x := by
    refine ⟨fun h => ⟨fun i x hx => (h i (List.getElem?_eq_some_iff.1 hx).1 x hx).2, fun x hx => ?_⟩, fun h m _ x hx => ⟨h.2 x (List.mem_of_getElem? hx), h.1 m x hx⟩⟩
    obtain ⟨i, hi⟩ := List.getElem?_of_mem hx
    exact (h i (List.getElem?_eq_some_iff.1 hi).1 x hi).1
  rw [ifc hq]
  by_cases a : unl l ∧ ∀ x ∈ l, nor x
  · rw [if_pos a]
    exact congrArg some (dcd ⟨fun q => ⟨by omega, a⟩, fun q => by have := q.1; omega⟩)
  · rw [if_neg a, decide_eq_false (show ¬ varsP l from fun q => a q.2)]; rfl

def altP (a : Alt) : Prop := (a.Great = nos ∧ a.Vars.length = 1 ∧ ∀ x ∈ a.Vars, nor x) ∨ (a.Great ≠ nos ∧ greatB a.Great = true ∧ varsP a.Vars)
open Classical in
theorem im_alt {a : Alt} (hg : a.Great.size ≤ lim) (hv : strOk a.Vars) : M.impl_altOk a = some (decide (altP a)) := by
  rw [M.e_impl_altOk, im_great hg, im_namesOk hv]
  unfold altP
  by_cases e : a.Great = nos
  · have hlen : ((a.Vars.length : Int) = 1) ↔ a.Vars.length = 1 := by omega
    by_cases h1 : a.Vars.length = 1
    · obtain ⟨x, hx⟩ := List.length_eq_one_iff.1 h1
      have hxs : x.size ≤ lim := hv.2 x (by rw [hx]; simp)
      have hn := im_nor hxs
      simp only [e, decide_true, cond_true, hlen.2 h1, hx, ix, show (0 : Int) ≤ 0 from Int.le_refl 0, if_true, Int.toNat_zero, List.getElem?_cons_zero, Option.bind_some, hn]
      exact congrArg some (dcd (by simp))
    · simp [e, hlen, h1]
  · cases c : greatB a.Great <;> simp [e]
open Classical in
theorem sp_alt {a : Alt} (hg : a.Great.size ≤ lim) (hv : strOk a.Vars) : M.spec_l3Alt a = some (decide (altP a)) := by
  rw [M.e_spec_l3Alt, sp_great hg, sp_vars hv]
  unfold altP
  have hlen : ((a.Vars.length : Int) = 1) ↔ a.Vars.length = 1 := by omega
  by_cases e : a.Great = nos
  · have hone : a.Vars.length = 1 → (varsP a.Vars ↔ ∀ x ∈ a.Vars, nor x) := fun h1 => by
      obtain ⟨y, hy⟩ := List.length_eq_one_iff.1 h1
      refine ⟨fun q => q.2.2, fun q => ⟨by omega, fun i x hx _ hm => ?_, q⟩⟩
      rw [hy] at hx hm
      match i, hx, hm with
      | 0, _, hm => simp at hm
      | i + 1, hx, _ => simp at hx
    rw [e, great_nos]
    by_cases h1 : a.Vars.length = 1
    · have := hone h1
      by_cases v : varsP a.Vars
      · simp [v, h1, hlen]
        exact this.1 v
      · simp [v, h1, hlen, ← this]
    · by_cases v : varsP a.Vars <;> simp [v, h1, hlen]
  · by_cases v : varsP a.Vars <;> cases c : greatB a.Great <;> simp [e, v]

def bareP (x : Exp) : Prop := x.Decs.length = 0 ∧ x.Alts.length = 0
def opB (s : ByteArray) : Bool := ([(⟨⟨[43]⟩⟩ : ByteArray), (⟨⟨[45]⟩⟩ : ByteArray), (⟨⟨[42]⟩⟩ : ByteArray), (⟨⟨[61, 61]⟩⟩ : ByteArray), (⟨⟨[60]⟩⟩ : ByteArray)].any fun y => decide (s = y))
theorem im_op (s : ByteArray) : M.impl_opOk s = some (opB s) := by
  rw [M.e_impl_opOk, im_contains (by simp [lim])]
  simp [opB]
theorem sp_op (s : ByteArray) : M.spec_l3Op s = some (opB s) := by
  rw [M.e_spec_l3Op, sp_has (by simp [lim])]
  simp [opB]

def hereP (x : Exp) : Prop :=
  if x.K = 1 then bareP x ∧ nameB x.S = true ∧ x.N = 0 ∧ x.L.length = 0
  else if x.K = 2 then bareP x ∧ greatB x.S = true ∧ x.N = 0 ∧ x.L.length = 0
  else if x.K = 3 then bareP x ∧ x.S = nos ∧ (0 ≤ x.N ∧ x.N ≤ 999999) ∧ x.L.length = 0
  else if x.K = 4 then bareP x ∧ x.S = nos ∧ x.N = 0 ∧ x.L.length = 2
  else if x.K = 5 then bareP x ∧ nor x.S ∧ x.N = 0 ∧ x.L.length = 1
  else if x.K = 6 then x.Alts.length = 0 ∧ x.S = nos ∧ x.N = 0 ∧ x.L.length = 1
  else if x.K = 7 then x.Decs.length = 0 ∧ (1 ≤ x.Alts.length ∧ x.Alts.length ≤ 6) ∧ x.S = nos ∧ x.N = 0 ∧ x.L.length = 1
  else if x.K = 8 then bareP x ∧ x.S = nos ∧ x.N = 0 ∧ x.L.length = 3
  else if x.K = 9 then bareP x ∧ opB x.S = true ∧ x.N = 0 ∧ x.L.length = 2
  else False

theorem bd {p : Prop} {i : Decidable p} {α : Type} (x y : α) : (bif @decide p i then x else y) = @ite α p i x y := by
  by_cases h : p
  · rw [decide_eq_true h, if_pos h]; rfl
  · rw [decide_eq_false h, if_neg h]; rfl

open Classical in
theorem im_here {x : Exp} (hs : x.S.size ≤ lim) : M.impl_expForm x = some (decide (hereP x)) := by
  rw [M.e_impl_expForm]
  have f1 := im_name hs
  have f2 := im_great hs
  have f3 := im_nor hs
  have f4 := im_op x.S
  have a1 : ((x.Decs.length : Int) = 0) ↔ x.Decs.length = 0 := by omega
  have a2 : ((x.Alts.length : Int) = 0) ↔ x.Alts.length = 0 := by omega
  have a3 : ∀ k : Nat, ((x.L.length : Int) = (k : Int)) ↔ x.L.length = k := fun k => by omega
  have b0 := a3 0
  have b1 := a3 1
  have b2 := a3 2
  have b3 := a3 3
  have a4 : (1 ≤ (x.Alts.length : Int) ∧ (x.Alts.length : Int) ≤ 6) ↔ (1 ≤ x.Alts.length ∧ x.Alts.length ≤ 6) := by omega
  simp only [Int.ofNat_zero, Int.ofNat_one, Int.cast_ofNat_Int] at b0 b1 b2 b3
  have a5 : (1 ≤ (x.Alts.length : Int)) ↔ 1 ≤ x.Alts.length := by omega
  have a6 : ((x.Alts.length : Int) ≤ 6) ↔ x.Alts.length ≤ 6 := by omega
  unfold hereP bareP
  by_cases k1 : x.K = 1
  · by_cases d : x.Decs = [] <;> by_cases e : x.Alts = [] <;> cases f : nameB x.S <;> by_cases g : x.N = 0 <;> simp [k1, b0, d, e, f, g, f1, f2, f3, f4, im_in]
  by_cases k2 : x.K = 2
  · by_cases d : x.Decs = [] <;> by_cases e : x.Alts = [] <;> cases f : greatB x.S <;> by_cases g : x.N = 0 <;> simp [k2, b0, d, e, f, g, f1, f2, f3, f4, im_in]
  by_cases k3 : x.K = 3
  · by_cases d : x.Decs = [] <;> by_cases e : x.Alts = [] <;> by_cases f : x.S = nos <;> by_cases g : 0 ≤ x.N <;> by_cases g2 : x.N ≤ 999999 <;> simp [k3, b0, d, e, f, g, g2, f1, f2, f3, f4, im_in]
  by_cases k4 : x.K = 4
  · by_cases d : x.Decs = [] <;> by_cases e : x.Alts = [] <;> by_cases f : x.S = nos <;> by_cases g : x.N = 0 <;> simp [k4, b2, d, e, f, g, f1, f2, f3, f4, im_in]
  by_cases k5 : x.K = 5
  · by_cases d : x.Decs = [] <;> by_cases e : x.Alts = [] <;> by_cases f : nor x.S <;> by_cases g : x.N = 0 <;> simp [k5, b1, d, e, f, g, f1, f2, f3, f4, im_in]
  by_cases k6 : x.K = 6
  · by_cases d : x.Decs = [] <;> by_cases e : x.Alts = [] <;> by_cases f : x.S = nos <;> by_cases g : x.N = 0 <;> simp [k6, b1, d, e, f, g, f1, f2, f3, f4, im_in]
  by_cases k7 : x.K = 7
  · by_cases d : x.Decs = [] <;> by_cases e : 1 ≤ x.Alts.length <;> by_cases e2 : x.Alts.length ≤ 6 <;> by_cases f : x.S = nos <;> by_cases g : x.N = 0 <;> simp [k7, b1, d, e, e2, a5, a6, f, g, f1, f2, f3, f4, im_in]
  by_cases k8 : x.K = 8
  · by_cases d : x.Decs = [] <;> by_cases e : x.Alts = [] <;> by_cases f : x.S = nos <;> by_cases g : x.N = 0 <;> simp [k8, b3, d, e, f, g, f1, f2, f3, f4, im_in]
  by_cases k9 : x.K = 9
  · by_cases d : x.Decs = [] <;> by_cases e : x.Alts = [] <;> cases f : opB x.S <;> by_cases g : x.N = 0 <;> simp [k9, b2, d, e, f, g, f1, f2, f3, f4, im_in]
  by_cases d : x.Decs = [] <;> simp [k1, k2, k3, k4, k5, k6, k7, k8, k9, d, f1, f2, f3, f4, im_in]

open Classical in
theorem sp_here {x : Exp} (hs : x.S.size ≤ lim) : M.spec_l3Here x = some (decide (hereP x)) := by
  rw [M.e_spec_l3Here, M.e_spec_l3Parts]
  have f1 := sp_name hs
  have f2 := sp_great hs
  have f4 := sp_op x.S
  have a1 : (0 < (x.Decs.length : Int)) ↔ ¬ x.Decs.length = 0 := by omega
  have a2 : (0 < (x.Alts.length : Int)) ↔ ¬ x.Alts.length = 0 := by omega
  have b0 : ((0 : Int) = (x.L.length : Int)) ↔ x.L.length = 0 := by omega
  have b1 : ((1 : Int) = (x.L.length : Int)) ↔ x.L.length = 1 := by omega
  have b2 : ((2 : Int) = (x.L.length : Int)) ↔ x.L.length = 2 := by omega
  have b3 : ((3 : Int) = (x.L.length : Int)) ↔ x.L.length = 3 := by omega
  have b4 : ¬ ((-1 : Int) = (x.L.length : Int)) := by omega
  have a4 : (1 ≤ (x.Alts.length : Int) ∧ (x.Alts.length : Int) ≤ 6) ↔ (1 ≤ x.Alts.length ∧ x.Alts.length ≤ 6) := by omega
  have a5 : (1 ≤ (x.Alts.length : Int)) ↔ 1 ≤ x.Alts.length := by omega
  have a6 : ((x.Alts.length : Int) ≤ 6) ↔ x.Alts.length ≤ 6 := by omega
  unfold hereP bareP
  by_cases k1 : x.K = 1
  · by_cases d : x.Decs = [] <;> by_cases e : x.Alts = [] <;> by_cases h : x.L = [] <;> by_cases g : x.N = 0 <;> simp [k1, b0, d, e, h, g, f1, f2, f4, sp_in, List.length_pos_iff]
  by_cases k2 : x.K = 2
  · by_cases d : x.Decs = [] <;> by_cases e : x.Alts = [] <;> by_cases h : x.L = [] <;> by_cases g : x.N = 0 <;> simp [k2, b0, d, e, h, g, f1, f2, f4, sp_in, List.length_pos_iff]
  by_cases k3 : x.K = 3
  · by_cases d : x.Decs = [] <;> by_cases e : x.Alts = [] <;> by_cases h : x.L = [] <;> by_cases f : x.S = nos <;> by_cases g : 0 ≤ x.N <;> by_cases g2 : x.N ≤ 999999 <;> simp [k3, b0, d, e, h, f, g, g2, f1, f2, f4, sp_in, List.length_pos_iff]
  by_cases k4 : x.K = 4
  · by_cases d : x.Decs = [] <;> by_cases e : x.Alts = [] <;> by_cases h : x.L.length = 2 <;> by_cases g : x.N = 0 <;> simp [k4, b2, d, e, h, g, f1, f2, f4, sp_in, List.length_pos_iff]
  by_cases k5 : x.K = 5
  · unfold nor
    by_cases d : x.Decs = [] <;> by_cases e : x.Alts = [] <;> by_cases h : x.L.length = 1 <;> by_cases g : x.N = 0 <;> cases f : nameB x.S <;> simp [k5, f, b1, d, e, h, g, f1, f2, f4, sp_in, List.length_pos_iff]
  by_cases k6 : x.K = 6
  · by_cases e : x.Alts = [] <;> by_cases h : x.L.length = 1 <;> by_cases g : x.N = 0 <;> simp [k6, b1, e, h, g, f1, f2, f4, sp_in, List.length_pos_iff]
  by_cases k7 : x.K = 7
  · by_cases d : x.Decs = [] <;> by_cases h : x.L.length = 1 <;> by_cases g : x.N = 0 <;> by_cases e : 1 ≤ x.Alts.length <;> by_cases e2 : x.Alts.length ≤ 6 <;> simp [k7, b1, d, e, e2, a5, a6, h, g, f1, f2, f4, sp_in, List.length_pos_iff]
  by_cases k8 : x.K = 8
  · by_cases d : x.Decs = [] <;> by_cases e : x.Alts = [] <;> by_cases h : x.L.length = 3 <;> by_cases g : x.N = 0 <;> simp [k8, b3, d, e, h, g, f1, f2, f4, sp_in, List.length_pos_iff]
  by_cases k9 : x.K = 9
  · by_cases d : x.Decs = [] <;> by_cases e : x.Alts = [] <;> by_cases h : x.L.length = 2 <;> by_cases g : x.N = 0 <;> simp [k9, b2, d, e, h, g, f1, f2, f4, sp_in, List.length_pos_iff]
  simp [k1, k2, k3, k4, k5, k6, k7, k8, k9, b4, f1, f2, f4, sp_in, List.length_pos_iff]
end Q
end W
end
section
/- Programs: how many expressions there are; what is right. -/
namespace W
set_option linter.unusedVariables false
set_option maxRecDepth 100000
set_option maxHeartbeats 1000000
namespace Q
open Go HL HL.X

def nodupN (l : List Dec) : Prop := ∀ (i k : Nat) (x y : Dec), l[i]? = some x → k < i → l[k]? = some y → y.Name ≠ x.Name

mutual
def cE : Exp → Nat
  | .mk K S N L D A => 1 + cEs L + cAs A + (if K = 6 then cDs D else 0)
def cEs : List Exp → Nat
  | [] => 0
  | x :: l => cE x + cEs l
def cAs : List Alt → Nat
  | [] => 0
  | .mk G V E :: l => cE E + cAs l
def cD : Dec → Nat
  | .mk Nm Ps E Wh => cE E + cDs Wh
def cDs : List Dec → Nat
  | [] => 0
  | x :: l => cD x + cDs l
end
mutual
def okE : Exp → Nat → Prop
  | .mk K S N L D A, d => d ≤ 12 ∧ hereP (.mk K S N L D A) ∧ okEs L (d + 1) ∧ okAs A (d + 1) ∧ (K = 6 → (1 ≤ D.length ∧ D.length ≤ 6) ∧ nodupN D ∧ okDL D (d + 1))
def okEs : List Exp → Nat → Prop
  | [], _ => True
  | x :: l, d => okE x d ∧ okEs l d
def okAs : List Alt → Nat → Prop
  | [], _ => True
  | .mk G V E :: l, d => (altP (.mk G V E) ∧ okE E d) ∧ okAs l d
def okD : Dec → Nat → Prop
  | .mk Nm Ps E Wh, d => nameB Nm = true ∧ varsP Ps ∧ okE E (d + 1) ∧ (Wh ≠ [] → (1 ≤ Wh.length ∧ Wh.length ≤ 6) ∧ nodupN Wh ∧ okDL Wh (d + 1))
def okDL : List Dec → Nat → Prop
  | [], _ => True
  | x :: l, d => okD x d ∧ okDL l d
end
def okDs (l : List Dec) (most d : Nat) : Prop := (1 ≤ l.length ∧ l.length ≤ most) ∧ nodupN l ∧ ∀ x ∈ l, okD x d

theorem cEs_eq : ∀ l, cEs l = sumC cE l
  | [] => by simp [cEs, sumC]
  | x :: l => by simp [cEs, sumC, cEs_eq l]
theorem cAs_eq : ∀ l, cAs l = sumC (fun a : Alt => cE a.E) l
  | [] => by simp [cAs, sumC]
  | .mk G V E :: l => by simp [cAs, sumC, cAs_eq l, Alt.E]
theorem cDs_eq : ∀ l, cDs l = sumC cD l
  | [] => by simp [cDs, sumC]
  | x :: l => by simp [cDs, sumC, cDs_eq l]
theorem cE_eq (e : Exp) : cE e = 1 + sumC cE e.L + sumC (fun a : Alt => cE a.E) e.Alts + (if e.K = 6 then sumC cD e.Decs else 0) := by
  cases e
  simp only [cE, cEs_eq, cAs_eq, cDs_eq, Exp.L, Exp.Alts, Exp.K, Exp.Decs] <;> rfl
theorem cD_eq (x : Dec) : cD x = cE x.E + sumC cD x.Where := by
  cases x
  simp only [cD, cDs_eq, Dec.E, Dec.Where]
theorem okEs_iff : ∀ {l d}, okEs l d ↔ ∀ x ∈ l, okE x d
  | [], d => by simp [okEs]
  | x :: l, d => by simp [okEs, okEs_iff (l := l)]
theorem okAs_iff : ∀ {l d}, okAs l d ↔ ∀ a ∈ l, altP a ∧ okE a.E d
  | [], d => by simp [okAs]
  | .mk G V E :: l, d => by simp [okAs, okAs_iff (l := l), Alt.E]
theorem okDL_iff : ∀ {l d}, okDL l d ↔ ∀ x ∈ l, okD x d
  | [], d => by simp [okDL]
  | x :: l, d => by simp [okDL, okDL_iff (l := l)]
theorem okE_iff (e : Exp) (d : Nat) : okE e d ↔ d ≤ 12 ∧ hereP e ∧ (∀ x ∈ e.L, okE x (d + 1)) ∧ (∀ a ∈ e.Alts, altP a ∧ okE a.E (d + 1)) ∧ (e.K = 6 → okDs e.Decs 6 (d + 1)) := by
  cases e
  simp only [okE, okEs_iff, okAs_iff, okDL_iff, okDs, Exp.L, Exp.Alts, Exp.K, Exp.Decs]
theorem okD_iff (x : Dec) (d : Nat) : okD x d ↔ nameB x.Name = true ∧ varsP x.Pars ∧ okE x.E (d + 1) ∧ (x.Where ≠ [] → okDs x.Where 6 (d + 1)) := by
  cases x
  simp only [okD, okDL_iff, okDs, Dec.Name, Dec.Pars, Dec.E, Dec.Where]

/-! ### sizes -/
theorem strOk_of {l : List ByteArray} (h : l.length + sumC ByteArray.size l ≤ 1048576) : strOk l := by
  have hlim : lim = 140737488355328 := rfl
  refine ⟨by omega, fun s hs => ?_⟩
  have := sumC_mem (c := ByteArray.size) hs
  omega
theorem szE {e : Exp} (h : e.cost ≤ 1048576) : e.S.size ≤ lim ∧ (e.L.length ≤ 1048576 ∧ ∀ x ∈ e.L, x.cost ≤ 1048576) ∧ (e.Decs.length ≤ 1048576 ∧ ∀ x ∈ e.Decs, x.cost ≤ 1048576) ∧ (e.Alts.length ≤ 1048576 ∧ ∀ x ∈ e.Alts, x.cost ≤ 1048576) := by
  have hc := Exp.cost_eq e
  have hlim : lim = 140737488355328 := rfl
  refine ⟨by omega, ⟨by omega, fun x hx => ?_⟩, ⟨by omega, fun x hx => ?_⟩, by omega, fun x hx => ?_⟩
  · have := sumC_mem (c := Exp.cost) hx; omega
  · have := sumC_mem (c := Dec.cost) hx; omega
  · have := sumC_mem (c := Alt.cost) hx; omega
theorem szA {a : Alt} (h : a.cost ≤ 1048576) : a.Great.size ≤ lim ∧ strOk a.Vars ∧ a.E.cost ≤ 1048576 := by
  have hc := Alt.cost_eq a
  have hlim : lim = 140737488355328 := rfl
  exact ⟨by omega, strOk_of (by omega), by omega⟩
theorem szD {x : Dec} (h : x.cost ≤ 1048576) : x.Name.size ≤ lim ∧ strOk x.Pars ∧ x.E.cost ≤ 1048576 ∧ x.Where.length ≤ 1048576 ∧ ∀ y ∈ x.Where, y.cost ≤ 1048576 := by
  have hc := Dec.cost_eq x
  have hlim : lim = 140737488355328 := rfl
  refine ⟨by omega, strOk_of (by omega), by omega, by omega, fun y hy => ?_⟩
  have := sumC_mem (c := Dec.cost) hy; omega

/-! ### counted by the reference -/
def SpE (e : Exp) (d : Nat) : Prop := ∃ r : Nat, M.spec_l3Count (e, (d : Int)) = some (r : Int) ∧ (okE e d → cE e ≤ 200 → r = cE e) ∧ (¬ (okE e d ∧ cE e ≤ 200) → 200 < r) ∧ r ≤ 20000 - 500 * d
def SpDs (l : List Dec) (most d : Nat) : Prop := ∃ r : Nat, M.spec_l3Decs (l, (most : Int), (d : Int)) = some (r : Int) ∧ (okDs l most d → sumC cD l ≤ 200 → r = sumC cD l) ∧ (¬ (okDs l most d ∧ sumC cD l ≤ 200) → 200 < r) ∧ r ≤ 20000 - 500 * d

theorem ifany {α : Sort _} {p : Prop} {i j : Decidable p} {x y : α} : @ite α p i x y = @ite α p j x y := by
  by_cases h : p
  · rw [if_pos h, if_pos h]
  · rw [if_neg h, if_neg h]
open Classical in
theorem sp_L1 {l : List Dec} (hl : l.length ≤ 1048576) {i : Nat} {x : Dec} (hx : l[i]? = some x) : M.spec_l3Decs_L1 (l, (i : Int), 0) = if ∀ k, k < i → ∀ y, l[k]? = some y → y.Name ≠ x.Name then some (.inr ()) else some (.inl 1000) := by
  have hlim : lim = 140737488355328 := rfl
  have hi : i < l.length := (List.getElem?_eq_some_iff.1 hx).1
  refine (stopL (n := i) (by omega) (L := fun k => M.spec_l3Decs_L1 (l, (i : Int), k)) (fun k => ∀ y, l[k]? = some y → y.Name ≠ x.Name) (some (.inl 1000)) (some (.inr ())) (fun k hk hw => ?_) ?_).trans ifany
  · show M.spec_l3Decs_L1 (l, (i : Int), (k : Int)) = _
    rw [M.e_spec_l3Decs_L1]
    have hy := List.getElem?_eq_getElem (show k < l.length by omega)
    have h1 : (k : Int) < (i : Int) := by omega
    have hq : (∀ y, l[k]? = some y → y.Name ≠ x.Name) ↔ (l[k]'(by omega)).Name ≠ x.Name := by rw [hy]; simp
    simp only [h1, decide_true, cond_true, ix_of hy, ix_of hx, Option.bind_some, hw]
    rw [ifc hq, bd]
    by_cases e : (l[k]'(by omega)).Name = x.Name
    · rw [if_pos e, if_neg fun q => q e]
    · rw [if_neg e, if_pos e]
  · show M.spec_l3Decs_L1 (l, (i : Int), (i : Int)) = _
    rw [M.e_spec_l3Decs_L1]
    simp

open Classical in
theorem spDs_of {l : List Dec} (hl : l.length ≤ 1048576) (hs : ∀ x ∈ l, x.cost ≤ 1048576) {most d : Nat} (hd : d ≤ 13) (hE : ∀ x ∈ l, SpE x.E (d + 1)) (hW : ∀ x ∈ l, d + 1 ≤ 12 → SpDs x.Where 6 (d + 1)) : SpDs l most d := by
  have hlim : lim = 140737488355328 := rfl
  have hw1 : IntKind.i64.wrap ((d : Int) + 1) = ((d + 1 : Nat) : Int) := by rw [wrap_ok (by omega)]; omega
  have over : ∀ (n : Nat) (i : Int), 200 < n → M.spec_l3Decs_L0 (l, (d : Int), (n : Int), i) = some (.inr (n : Int)) := fun n i hn => by
    rw [M.e_spec_l3Decs_L0]
    have : ¬ ((n : Int) ≤ 200) := by omega
    by_cases h : i < (l.length : Int) <;> simp [h, this]
  have loop := cntL (l := l) (by omega) cD (fun i x => okD x d ∧ ∀ k, k < i → ∀ y, l[k]? = some y → y.Name ≠ x.Name) (L := fun k i => M.spec_l3Decs_L0 (l, (d : Int), (k : Int), i)) (fun k => .inr (k : Int)) (fun g => g = .inl 1000 ∨ ∃ r : Nat, 200 < r ∧ r ≤ 20000 - 500 * d ∧ g = .inr (r : Int)) (fun k i x hx hm hix hi hw hk => by
    show (_ → _ → M.spec_l3Decs_L0 (l, (d : Int), (k : Int), (i : Int)) = M.spec_l3Decs_L0 (l, (d : Int), ((k + cD x : Nat) : Int), ((i + 1 : Nat) : Int))) ∧ (_ → ∃ g, _ ∧ M.spec_l3Decs_L0 (l, (d : Int), (k : Int), (i : Int)) = some g)
    obtain ⟨z1, z2, z3, z4, z5⟩ := szD (hs x hm)
    obtain ⟨r9, e9, f9, g9, b9⟩ := hE x hm
    have hk2 : ((k : Int) ≤ 200) := by omega
    have hcd := cD_eq x
    have hok := okD_iff x d
    have hw9 : IntKind.i64.wrap ((k : Int) + (r9 : Int)) = ((k + r9 : Nat) : Int) := by rw [wrap_ok (by omega)]; omega
    rw [M.e_spec_l3Decs_L0]
    simp only [hi, decide_true, cond_true, hk2, sp_L1 hl hx, hix, Option.bind_some, sp_name z1, sp_vars z2, hw1, e9, hw9, hw]
    by_cases nm : ∀ k, k < i → ∀ y, l[k]? = some y → y.Name ≠ x.Name
    rotate_left
    · rw [if_neg nm]
      exact ⟨fun q => absurd q.2 nm, fun _ => ⟨.inl 1000, .inl rfl, rfl⟩⟩
    rw [if_pos nm]
    simp only [Option.bind_some, Sum.elim_inr]
    cases nb : nameB x.Name with
    | false => exact ⟨fun q => (by have := (hok.1 q.1).1; rw [nb] at this; cases this), fun _ => ⟨.inl 1000, .inl rfl, rfl⟩⟩
    | true =>
    simp only [Bool.not_true, cond_false]
    by_cases vp : varsP x.Pars
    rotate_left
    · rw [decide_eq_false vp]
      exact ⟨fun q => absurd (hok.1 q.1).2.1 vp, fun _ => ⟨.inl 1000, .inl rfl, rfl⟩⟩
    rw [decide_eq_true vp]
    simp only [Bool.not_true, cond_false]
    by_cases n1 : k + r9 ≤ 200
    rotate_left
    · have hn1 : ¬ (((k + r9 : Nat) : Int) ≤ 200) := by omega
      have e : ((bif decide (0 < (x.Where.length : Int)) then some (decide (((k + r9 : Nat) : Int) ≤ 200)) else some false) : Option Bool) = some false := by
        by_cases q : 0 < (x.Where.length : Int) <;> simp only [q, hn1, decide_true, decide_false, cond_true, cond_false]
      rw [e]
      simp only [Option.bind_some, cond_false]
      rw [over _ _ (by omega)]
      refine ⟨fun q hc => ?_, fun _ => ⟨_, .inr ⟨k + r9, by omega, by omega, rfl⟩, rfl⟩⟩
      have := f9 (hok.1 q.1).2.2.1 (by omega)
      omega
    have hn1 : (((k + r9 : Nat) : Int) ≤ 200) := by omega
    have hE9 : okE x.E (d + 1) ∧ cE x.E ≤ 200 := Classical.byContradiction fun q => by have := g9 q; omega
    have hr9 := f9 hE9.1 hE9.2
    have hd12 := ((okE_iff _ _).1 hE9.1).1
    by_cases wh : x.Where = []
    · have e : ¬ (0 < (x.Where.length : Int)) := by rw [wh]; simp
      have hsw : sumC cD x.Where = 0 := by rw [wh]; rfl
      simp only [e, decide_false, cond_false, Option.bind_some]
      have hc : cD x = r9 := by omega
      rw [hc]
      refine ⟨fun _ _ => rfl, fun q => absurd ⟨⟨hok.2 ⟨nb, vp, hE9.1, fun h => absurd wh h⟩, nm⟩, n1⟩ q⟩
    · have e : (0 < (x.Where.length : Int)) := by have := List.length_pos_iff.2 wh; omega
      obtain ⟨r13, e13, f13, g13, b13⟩ := hW x hm hd12
      have hw13 : IntKind.i64.wrap (((k + r9 : Nat) : Int) + (r13 : Int)) = ((k + r9 + r13 : Nat) : Int) := by rw [wrap_ok (by omega)]; omega
      simp only [e, hn1, decide_true, cond_true, Option.bind_some]
      rw [show (6 : Int) = ((6 : Nat) : Int) from rfl, e13]
      simp only [Option.bind_some, hw13]
      by_cases all : (okDs x.Where 6 (d + 1) ∧ sumC cD x.Where ≤ 200) ∧ k + cD x ≤ 200
      · have := f13 all.1.1 all.1.2
        have hc : k + cD x = k + r9 + r13 := by omega
        rw [hc]
        exact ⟨fun _ _ => rfl, fun q => absurd ⟨⟨hok.2 ⟨nb, vp, hE9.1, fun _ => all.1.1⟩, nm⟩, by omega⟩ q⟩
      · have h200 : 200 < k + r9 + r13 := by
          by_cases q : okDs x.Where 6 (d + 1) ∧ sumC cD x.Where ≤ 200
          · have := f13 q.1 q.2
            have : ¬ (k + cD x ≤ 200) := fun z => all ⟨q, z⟩
            omega
          · have := g13 q
            omega
        rw [over _ _ h200]
        refine ⟨fun q hc => absurd ⟨⟨(hok.1 q.1).2.2.2 wh, by omega⟩, hc⟩ all, fun _ => ⟨_, .inr ⟨k + r9 + r13, h200, by omega, rfl⟩, rfl⟩⟩) (fun k hk => by
    show M.spec_l3Decs_L0 (l, (d : Int), (k : Int), (l.length : Int)) = _
    rw [M.e_spec_l3Decs_L0]
    simp) 0 (by omega)
  have hnd : (∀ (i : Nat) (x : Dec), l[i]? = some x → okD x d ∧ ∀ k, k < i → ∀ y, l[k]? = some y → y.Name ≠ x.Name) ↔ nodupN l ∧ ∀ x ∈ l, okD x d := by
    refine ⟨fun h => ⟨fun i k x y hx hk hy => (h i x hx).2 k hk y hy, fun x hx => ?_⟩, fun h i x hx => ⟨h.2 x (List.mem_of_getElem? hx), fun k hk y hy => h.1 i k x y hx hk hy⟩⟩
    obtain ⟨i, hi⟩ := List.getElem?_of_mem hx
    exact (h i x hi).1
  rw [hnd, Nat.zero_add] at loop
  unfold SpDs
  rw [M.e_spec_l3Decs, sp_in]
  have hin : (1 ≤ (l.length : Int) ∧ (l.length : Int) ≤ (most : Int)) ↔ (1 ≤ l.length ∧ l.length ≤ most) := by omega
  by_cases len : 1 ≤ l.length ∧ l.length ≤ most
  rotate_left
  · simp only [Option.bind_some, decide_eq_false fun q => len (hin.1 q), Bool.not_false, cond_true]
    exact ⟨1000, rfl, fun q => absurd q.1 len, fun _ => by omega, by omega⟩
  simp only [Option.bind_some, decide_eq_true (hin.2 len), Bool.not_true, cond_false]
  by_cases all : (nodupN l ∧ ∀ x ∈ l, okD x d) ∧ sumC cD l ≤ 200
  · have := loop.1 all.1 all.2
    rw [show ((0 : Nat) : Int) = 0 from rfl] at this
    rw [this]
    exact ⟨sumC cD l, rfl, fun _ _ => rfl, fun q => absurd ⟨⟨len, all.1⟩, all.2⟩ q, by omega⟩
  · obtain ⟨g, hg, e⟩ := loop.2 all
    rw [show ((0 : Nat) : Int) = 0 from rfl] at e
    rw [e]
    rcases hg with rfl | ⟨r, h1, h2, rfl⟩
    · exact ⟨1000, rfl, fun q h => absurd ⟨q.2, h⟩ all, fun _ => by omega, by omega⟩
    · exact ⟨r, rfl, fun q h => absurd ⟨q.2, h⟩ all, fun _ => h1, h2⟩

open Classical in
theorem spE_of {e : Exp} (hs : e.cost ≤ 1048576) {d : Nat} (hd : d ≤ 14) (hL : ∀ x ∈ e.L, d + 1 ≤ 13 → SpE x (d + 1)) (hA : ∀ a ∈ e.Alts, d + 1 ≤ 13 → SpE a.E (d + 1)) (hD : d + 1 ≤ 13 → SpDs e.Decs 6 (d + 1)) : SpE e d := by
  have hlim : lim = 140737488355328 := rfl
  obtain ⟨z1, ⟨z2, z3⟩, ⟨z4, z5⟩, z6, z7⟩ := szE hs
  have hw1 : IntKind.i64.wrap ((d : Int) + 1) = ((d + 1 : Nat) : Int) := by rw [wrap_ok (by omega)]; omega
  have hok := okE_iff e d
  have hce := cE_eq e
  unfold SpE
  rw [M.e_spec_l3Count]
  by_cases d12 : d ≤ 12
  rotate_left
  · have : (12 : Int) < (d : Int) := by omega
    simp only [this, decide_true, cond_true]
    exact ⟨1000, rfl, fun q => absurd (hok.1 q).1 d12, fun _ => by omega, by omega⟩
  have : ¬ ((12 : Int) < (d : Int)) := by omega
  simp only [this, decide_false, cond_false, sp_here z1, Option.bind_some, hw1]
  by_cases hh : hereP e
  rotate_left
  · rw [decide_eq_false hh]
    exact ⟨1000, rfl, fun q => absurd (hok.1 q).2.1 hh, fun _ => by omega, by omega⟩
  rw [decide_eq_true hh]
  simp only [Bool.not_true, cond_false]
  have over0 : ∀ (n : Nat) (i : Int), 200 < n → M.spec_l3Count_L0 ((d : Int), (n : Int), i, e) = some ((n : Int), e) := fun n i hn => by
    rw [M.e_spec_l3Count_L0]
    have : ¬ ((n : Int) ≤ 200) := by omega
    by_cases h : i < (e.L.length : Int) <;> simp [h, this]
  have over1 : ∀ (n : Nat) (i : Int), 200 < n → M.spec_l3Count_L1 ((d : Int), (n : Int), i, e) = some (.inr ((n : Int), e)) := fun n i hn => by
    rw [M.e_spec_l3Count_L1]
    have : ¬ ((n : Int) ≤ 200) := by omega
    by_cases h : i < (e.Alts.length : Int) <;> simp [h, this]
  have loop0 := cntL (l := e.L) (by omega) cE (fun _ x => okE x (d + 1)) (L := fun k i => M.spec_l3Count_L0 ((d : Int), (k : Int), i, e)) (fun k => ((k : Int), e)) (fun g => ∃ r : Nat, 200 < r ∧ r ≤ 20000 - 500 * d ∧ g = ((r : Int), e)) (fun k i x hx hm hix hi hw hk => by
    show (_ → _ → M.spec_l3Count_L0 ((d : Int), (k : Int), (i : Int), e) = M.spec_l3Count_L0 ((d : Int), ((k + cE x : Nat) : Int), ((i + 1 : Nat) : Int), e)) ∧ (_ → ∃ g, _ ∧ M.spec_l3Count_L0 ((d : Int), (k : Int), (i : Int), e) = some g)
    obtain ⟨r, e1, f1, g1, b1⟩ := hL x hm (by omega)
    have hk2 : ((k : Int) ≤ 200) := by omega
    have hwr : IntKind.i64.wrap ((k : Int) + (r : Int)) = ((k + r : Nat) : Int) := by rw [wrap_ok (by omega)]; omega
    rw [M.e_spec_l3Count_L0]
    simp only [hi, decide_true, cond_true, hk2, hix, Option.bind_some, hw1, e1, hwr, hw]
    by_cases a : okE x (d + 1) ∧ k + cE x ≤ 200
    · have := f1 a.1 (by omega)
      subst this
      exact ⟨fun _ _ => rfl, fun q => absurd a q⟩
    · have h200 : 200 < k + r := by
        by_cases q : okE x (d + 1) ∧ cE x ≤ 200
        · have := f1 q.1 q.2
          have : ¬ (k + cE x ≤ 200) := fun z => a ⟨q.1, z⟩
          omega
        · have := g1 q; omega
      rw [over0 _ _ h200]
      exact ⟨fun q1 q2 => absurd ⟨q1, q2⟩ a, fun _ => ⟨_, ⟨k + r, h200, by omega, rfl⟩, rfl⟩⟩) (fun k hk => by
    show M.spec_l3Count_L0 ((d : Int), (k : Int), (e.L.length : Int), e) = _
    rw [M.e_spec_l3Count_L0]
    simp) 1 (by omega)
  have loop1 := fun (k : Nat) (hk : k ≤ 200) => cntL (l := e.Alts) (by omega) (fun a => cE a.E) (fun _ a => altP a ∧ okE a.E (d + 1)) (L := fun k i => M.spec_l3Count_L1 ((d : Int), (k : Int), i, e)) (fun k => .inr ((k : Int), e)) (fun g => g = .inl 1000 ∨ ∃ r : Nat, 200 < r ∧ r ≤ 20000 - 500 * d ∧ g = .inr ((r : Int), e)) (fun k i x hx hm hix hi hw hk => by
    show (_ → _ → M.spec_l3Count_L1 ((d : Int), (k : Int), (i : Int), e) = M.spec_l3Count_L1 ((d : Int), ((k + cE x.E : Nat) : Int), ((i + 1 : Nat) : Int), e)) ∧ (_ → ∃ g, _ ∧ M.spec_l3Count_L1 ((d : Int), (k : Int), (i : Int), e) = some g)
    obtain ⟨r, e1, f1, g1, b1⟩ := hA x hm (by omega)
    obtain ⟨y1, y2, y3⟩ := szA (z7 x hm)
    have hk2 : ((k : Int) ≤ 200) := by omega
    have hwr : IntKind.i64.wrap ((k : Int) + (r : Int)) = ((k + r : Nat) : Int) := by rw [wrap_ok (by omega)]; omega
    rw [M.e_spec_l3Count_L1]
    simp only [hi, decide_true, cond_true, hk2, hix, Option.bind_some, sp_alt y1 y2, hw1, e1, hwr, hw]
    by_cases ap : altP x
    rotate_left
    · rw [decide_eq_false ap]
      exact ⟨fun q => absurd q.1 ap, fun _ => ⟨.inl 1000, .inl rfl, rfl⟩⟩
    rw [decide_eq_true ap]
    simp only [Bool.not_true, cond_false]
    by_cases a : okE x.E (d + 1) ∧ k + cE x.E ≤ 200
    · have := f1 a.1 (by omega)
      subst this
      exact ⟨fun _ _ => rfl, fun q => absurd ⟨⟨ap, a.1⟩, a.2⟩ q⟩
    · have h200 : 200 < k + r := by
        by_cases q : okE x.E (d + 1) ∧ cE x.E ≤ 200
        · have := f1 q.1 q.2
          have : ¬ (k + cE x.E ≤ 200) := fun z => a ⟨q.1, z⟩
          omega
        · have := g1 q; omega
      rw [over1 _ _ h200]
      exact ⟨fun q1 q2 => absurd ⟨q1.2, q2⟩ a, fun _ => ⟨_, .inr ⟨k + r, h200, by omega, rfl⟩, rfl⟩⟩) (fun k hk => by
    show M.spec_l3Count_L1 ((d : Int), (k : Int), (e.Alts.length : Int), e) = _
    rw [M.e_spec_l3Count_L1]
    simp) k hk
  -- what is told at the end, where it is too much
  have fin : ∀ r : Nat, 200 < r → r ≤ 20000 - 500 * d → ((bif decide (e.K = 6) then some (decide ((r : Int) ≤ 200), e) else some (false, e) : Option (Bool × Exp)).bind fun s6 => bif s6.1 then ((M.spec_l3Decs (s6.2.Decs, 6, ((d + 1 : Nat) : Int))).bind fun r7 => some (IntKind.i64.wrap ((r : Int) + r7))) else some (r : Int)) = some (r : Int) := fun r h1 h2 => by
    have : ¬ ((r : Int) ≤ 200) := by omega
    by_cases k6 : e.K = 6 <;> simp [k6, this]
  by_cases ok0 : (∀ (i : Nat) x, e.L[i]? = some x → okE x (d + 1)) ∧ 1 + sumC cE e.L ≤ 200
  rotate_left
  · obtain ⟨g, ⟨r, h1, h2, rfl⟩, eq⟩ := loop0.2 ok0
    rw [show (((1 : Nat) : Nat) : Int) = 1 from rfl] at eq
    rw [eq]
    simp only [Option.bind_some, over1 r 0 h1, Sum.elim_inr, fin r h1 h2]
    refine ⟨r, rfl, fun q hc => absurd ⟨fun i x hx => (hok.1 q).2.2.1 x (List.mem_of_getElem? hx), by omega⟩ ok0, fun _ => h1, h2⟩
  rw [show (1 : Int) = ((1 : Nat) : Int) from rfl, loop0.1 ok0.1 ok0.2]
  simp only [Option.bind_some]
  have l1 := loop1 (1 + sumC cE e.L) ok0.2
  have okL : ∀ x ∈ e.L, okE x (d + 1) := fun x hx => by
    obtain ⟨i, hi⟩ := List.getElem?_of_mem hx
    exact ok0.1 i x hi
  by_cases ok1 : (∀ (i : Nat) a, e.Alts[i]? = some a → altP a ∧ okE a.E (d + 1)) ∧ 1 + sumC cE e.L + sumC (fun a : Alt => cE a.E) e.Alts ≤ 200
  rotate_left
  · obtain ⟨g, hg, eq⟩ := l1.2 ok1
    rw [eq]
    have no : ¬ (okE e d ∧ cE e ≤ 200) := fun q => ok1 ⟨fun i x hx => (hok.1 q.1).2.2.2.1 x (List.mem_of_getElem? hx), by omega⟩
    rcases hg with rfl | ⟨r, h1, h2, rfl⟩
    · exact ⟨1000, rfl, fun q hc => absurd ⟨q, hc⟩ no, fun _ => by omega, by omega⟩
    · simp only [Option.bind_some, Sum.elim_inr, fin r h1 h2]
      exact ⟨r, rfl, fun q hc => absurd ⟨q, hc⟩ no, fun _ => h1, h2⟩
  rw [l1.1 ok1.1 ok1.2]
  have okA : ∀ a ∈ e.Alts, altP a ∧ okE a.E (d + 1) := fun x hx => by
    obtain ⟨i, hi⟩ := List.getElem?_of_mem hx
    exact ok1.1 i x hi
  simp only [Option.bind_some, Sum.elim_inr]
  generalize hn : 1 + sumC cE e.L + sumC (fun a : Alt => cE a.E) e.Alts = n at ok1 hce
  have hn200 : ((n : Int) ≤ 200) := by omega
  by_cases k6 : e.K = 6
  · obtain ⟨r, e1, f1, g1, b1⟩ := hD (by omega)
    have e1' : M.spec_l3Decs (e.Decs, 6, ((d + 1 : Nat) : Int)) = some (r : Int) := e1
    have hwr : IntKind.i64.wrap ((n : Int) + (r : Int)) = ((n + r : Nat) : Int) := by rw [wrap_ok (by omega)]; omega
    simp only [k6, hn200, decide_true, cond_true, Option.bind_some, e1', hwr]
    rw [if_pos k6] at hce
    have hd6 : okDs e.Decs 6 (d + 1) → okE e d := fun q => hok.2 ⟨d12, hh, okL, okA, fun _ => q⟩
    by_cases a : okDs e.Decs 6 (d + 1) ∧ sumC cD e.Decs ≤ 200
    · have := f1 a.1 a.2
      refine ⟨n + r, rfl, fun _ _ => by omega, fun q => ?_, by omega⟩
      have : ¬ (cE e ≤ 200) := fun z => q ⟨hd6 a.1, z⟩
      omega
    · have := g1 a
      exact ⟨n + r, rfl, fun q hc => absurd ⟨(hok.1 q).2.2.2.2 k6, by omega⟩ a, fun _ => by omega, by omega⟩
  · simp only [k6, decide_false, cond_false, Option.bind_some]
    rw [if_neg k6] at hce
    refine ⟨n, rfl, fun _ _ => by omega, fun q => ?_, by omega⟩
    exact absurd ⟨hok.2 ⟨d12, hh, okL, okA, fun h => absurd h k6⟩, by omega⟩ q

theorem spE_all : (∀ e : Exp, e.cost ≤ 1048576 → ∀ d, d ≤ 14 → SpE e d) ∧ (∀ x : Dec, x.cost ≤ 1048576 → (∀ d, d ≤ 14 → SpE x.E d) ∧ ∀ d, d ≤ 13 → SpDs x.Where 6 d) := by
  have h0 : ∀ t : Alt, (t.E.cost ≤ 1048576 → ∀ d, d ≤ 14 → SpE t.E d) → (t.cost ≤ 1048576 → ∀ d, d ≤ 14 → SpE t.E d) := fun t ih hc => ih (szA hc).2.2
  have h1 : ∀ t : Dec, (t.E.cost ≤ 1048576 → ∀ d, d ≤ 14 → SpE t.E d) → (∀ x ∈ t.Where, (x.cost ≤ 1048576 → (∀ d, d ≤ 14 → SpE x.E d) ∧ ∀ d, d ≤ 13 → SpDs x.Where 6 d)) → (t.cost ≤ 1048576 → (∀ d, d ≤ 14 → SpE t.E d) ∧ ∀ d, d ≤ 13 → SpDs t.Where 6 d) := by
    intro t ih ihW hc
    obtain ⟨z1, z2, z3, z4, z5⟩ := szD hc
    exact ⟨ih z3, fun d hd => spDs_of z4 z5 hd (fun x hx => (ihW x hx (z5 x hx)).1 (d + 1) (by omega)) (fun x hx h => (ihW x hx (z5 x hx)).2 (d + 1) (by omega))⟩
  have h2 : ∀ t : Exp, (∀ x ∈ t.L, (x.cost ≤ 1048576 → ∀ d, d ≤ 14 → SpE x d)) → (∀ x ∈ t.Decs, (x.cost ≤ 1048576 → (∀ d, d ≤ 14 → SpE x.E d) ∧ ∀ d, d ≤ 13 → SpDs x.Where 6 d)) → (∀ x ∈ t.Alts, (x.cost ≤ 1048576 → ∀ d, d ≤ 14 → SpE x.E d)) → (t.cost ≤ 1048576 → ∀ d, d ≤ 14 → SpE t d) := by
    intro t ihL ihD ihA hc d hd
    obtain ⟨z1, ⟨z2, z3⟩, ⟨z4, z5⟩, z6, z7⟩ := szE hc
    exact spE_of hc hd (fun x hx h => ihL x hx (z3 x hx) (d + 1) (by omega)) (fun a ha h => ihA a ha (z7 a ha) (d + 1) (by omega)) (fun h => spDs_of z4 z5 h (fun x hx => (ihD x hx (z5 x hx)).1 (d + 1 + 1) (by omega)) (fun x hx h' => (ihD x hx (z5 x hx)).2 (d + 1 + 1) (by omega)))
  exact ⟨fun e => Exp.ind h0 h1 h2 e, fun x => Dec.ind h0 h1 h2 x⟩
theorem sp_decs {l : List Dec} (hl : l.length ≤ 1048576) (hs : ∀ x ∈ l, x.cost ≤ 1048576) (most : Nat) : SpDs l most 0 :=
  spDs_of hl hs (by omega) (fun x hx => (spE_all.2 x (hs x hx)).1 1 (by omega)) (fun x hx _ => (spE_all.2 x (hs x hx)).2 1 (by omega))
end Q
end W
end
section
/- Programs: counted by the program. -/
namespace W
set_option linter.unusedVariables false
set_option maxRecDepth 100000
set_option maxHeartbeats 1000000
namespace Q
open Go HL HL.X

abbrev lk (k : Nat) : impl_looker := impl_looker.mk (k : Int)
def ImE (e : Exp) (d : Nat) : Prop := ∀ k : Nat, k ≤ 200 → (okE e d → k + cE e ≤ 200 → M.impl_looker_exp (e, (d : Int), lk k) = some (true, lk (k + cE e))) ∧ (¬ (okE e d ∧ k + cE e ≤ 200) → ∃ m, M.impl_looker_exp (e, (d : Int), lk k) = some (false, m))
def ImDs (l : List Dec) (most d : Nat) : Prop := ∀ k : Nat, k ≤ 200 → (okDs l most d → k + sumC cD l ≤ 200 → M.impl_looker_decs (l, (d : Int), (most : Int), lk k) = some (true, lk (k + sumC cD l))) ∧ (¬ (okDs l most d ∧ k + sumC cD l ≤ 200) → ∃ m, M.impl_looker_decs (l, (d : Int), (most : Int), lk k) = some (false, m))

def nm (l : List Dec) : List ByteArray := l.map Dec.Name
theorem unl_nm {l : List Dec} (h : ∀ x ∈ l, nameB x.Name = true) : unl (nm l) ↔ nodupN l := by
  have hu : ∀ x ∈ l, x.Name ≠ under := fun x hx e => by have := h x hx; rw [e, name_not_under] at this; cases this
  constructor
  · intro q i k x y hx hk hy e
    have h1 : (nm l)[i]? = some x.Name := by simp [nm, hx]
    refine q i _ h1 (hu x (List.mem_of_getElem? hx)) ?_
    rw [← e]
    have h2 : ((nm l).take i)[k]? = some y.Name := by rw [List.getElem?_take_of_lt hk]; simp [nm, hy]
    exact List.mem_of_getElem? h2
  · intro q i s hs _ hm
    obtain ⟨k, hk⟩ := List.getElem?_of_mem hm
    have hki : k < i := by
      have := (List.getElem?_eq_some_iff.1 hk).1
      simp at this
      omega
    rw [List.getElem?_take_of_lt hki] at hk
    simp only [nm, List.getElem?_map, Option.map_eq_some_iff] at hs hk
    obtain ⟨x, hx, rfl⟩ := hs
    obtain ⟨y, hy, e⟩ := hk
    exact q i k x y hx hki hy e

open Classical in
theorem imDs_of {l : List Dec} (hl : l.length ≤ 1048576) (hs : ∀ x ∈ l, x.cost ≤ 1048576) {most d : Nat} (hd : d ≤ 13) (hE : ∀ x ∈ l, ImE x.E (d + 1)) (hW : ∀ x ∈ l, d + 1 ≤ 12 → ImDs x.Where 6 (d + 1)) : ImDs l most d := by
  have hlim : lim = 140737488355328 := rfl
  have hw1 : IntKind.i64.wrap ((d : Int) + 1) = ((d + 1 : Nat) : Int) := by rw [wrap_ok (by omega)]; omega
  intro k hk
  have loop := cntL (l := l) (by omega) cD (fun i x => okD x d) (L := fun k i => M.impl_looker_decs_L0 ((d : Int), l, (l.length : Int), i, lk k, nm (l.take i.toNat))) (fun k => .inr (lk k, nm l)) (fun g => ∃ m, g = .inl (false, m)) (fun k i x hx hm hix hi hw hk => by
    show (_ → _ → M.impl_looker_decs_L0 ((d : Int), l, (l.length : Int), (i : Int), lk k, nm (l.take ((i : Int)).toNat)) = M.impl_looker_decs_L0 ((d : Int), l, (l.length : Int), ((i + 1 : Nat) : Int), lk (k + cD x), nm (l.take (((i + 1 : Nat) : Int)).toNat))) ∧ (_ → ∃ g, _ ∧ M.impl_looker_decs_L0 ((d : Int), l, (l.length : Int), (i : Int), lk k, nm (l.take ((i : Int)).toNat)) = some g)
    obtain ⟨z1, z2, z3, z4, z5⟩ := szD (hs x hm)
    have hil : i < l.length := by omega
    have hcd := cD_eq x
    have hok := okD_iff x d
    have htk : nm (l.take (i + 1)) = nm (l.take i) ++ [x.Name] := by
      have : l.take (i + 1) = l.take i ++ [x] := by
        rw [List.take_add_one, hx]
        rfl
      rw [this]
      simp [nm]
    have hgd : (nm (l.take i)).length + [x.Name].length ≤ grow := by simp [nm, grow]; omega
    obtain ⟨a1, a2⟩ := hE x hm k hk
    simp only [Int.toNat_natCast]
    rw [M.e_impl_looker_decs_L0]
    simp only [hi, decide_true, cond_true, hix, Option.bind_some, gd_t hgd, im_name z1, im_namesOk z2, hw1, hw]
    by_cases d12 : d ≤ 12
    rotate_left
    · have : (12 : Int) < (d : Int) := by omega
      simp only [this, decide_true, cond_true]
      exact ⟨fun q => absurd ((okE_iff _ _).1 (hok.1 q).2.2.1).1 (by omega), fun _ => ⟨_, ⟨_, rfl⟩, rfl⟩⟩
    have hd12 : ¬ ((12 : Int) < (d : Int)) := by omega
    simp only [hd12, decide_false, cond_false]
    cases nb : nameB x.Name with
    | false => exact ⟨fun q => (by have := (hok.1 q).1; rw [nb] at this; cases this), fun _ => ⟨_, ⟨_, rfl⟩, rfl⟩⟩
    | true =>
    simp only [Bool.not_true, cond_false]
    by_cases vp : varsP x.Pars
    rotate_left
    · rw [decide_eq_false vp]
      exact ⟨fun q => absurd (hok.1 q).2.1 vp, fun _ => ⟨_, ⟨_, rfl⟩, rfl⟩⟩
    rw [decide_eq_true vp]
    simp only [Bool.not_true, cond_false]
    by_cases oe : okE x.E (d + 1) ∧ k + cE x.E ≤ 200
    rotate_left
    · obtain ⟨m, e⟩ := a2 oe
      rw [e]
      exact ⟨fun q hc => absurd ⟨(hok.1 q).2.2.1, by omega⟩ oe, fun _ => ⟨_, ⟨_, rfl⟩, rfl⟩⟩
    rw [a1 oe.1 oe.2]
    simp only [Option.bind_some, Bool.not_true, cond_false]
    have hd1 := ((okE_iff _ _).1 oe.1).1
    by_cases wh : x.Where = []
    · have e : ¬ (0 < (x.Where.length : Int)) := by rw [wh]; simp
      have hsw : sumC cD x.Where = 0 := by rw [wh]; rfl
      simp only [e, decide_false, cond_false]
      rw [htk, show k + cD x = k + cE x.E by omega]
      exact ⟨fun _ _ => rfl, fun q => absurd ⟨hok.2 ⟨nb, vp, oe.1, fun h => absurd wh h⟩, oe.2⟩ q⟩
    · have e : (0 < (x.Where.length : Int)) := by have := List.length_pos_iff.2 wh; omega
      obtain ⟨b1, b2⟩ := hW x hm hd1 (k + cE x.E) oe.2
      simp only [e, decide_true, cond_true]
      by_cases ow : okDs x.Where 6 (d + 1) ∧ k + cE x.E + sumC cD x.Where ≤ 200
      · have := b1 ow.1 ow.2
        rw [show ((6 : Nat) : Int) = 6 from rfl] at this
        rw [this]
        simp only [Option.bind_some, Bool.not_true, cond_false]
        rw [htk, show k + cD x = k + cE x.E + sumC cD x.Where by omega]
        exact ⟨fun _ _ => rfl, fun q => absurd ⟨hok.2 ⟨nb, vp, oe.1, fun _ => ow.1⟩, ow.2⟩ q⟩
      · obtain ⟨m, this⟩ := b2 ow
        rw [show ((6 : Nat) : Int) = 6 from rfl] at this
        rw [this]
        exact ⟨fun q hc => absurd ⟨(hok.1 q).2.2.2 wh, by omega⟩ ow, fun _ => ⟨_, ⟨_, rfl⟩, rfl⟩⟩) (fun k hk => by
    show M.impl_looker_decs_L0 ((d : Int), l, (l.length : Int), (l.length : Int), lk k, nm (l.take ((l.length : Int)).toNat)) = _
    rw [M.e_impl_looker_decs_L0]
    simp) k hk
  have hall : (∀ (i : Nat) (x : Dec), l[i]? = some x → okD x d) ↔ ∀ x ∈ l, okD x d := by
    refine ⟨fun h x hx => ?_, fun h i x hx => h x (List.mem_of_getElem? hx)⟩
    obtain ⟨i, hi⟩ := List.getElem?_of_mem hx
    exact h i x hi
  rw [hall] at loop
  have hnil : nm (l.take ((0 : Int)).toNat) = [] := rfl
  simp only [hnil] at loop
  have hin : (1 ≤ (l.length : Int) ∧ (l.length : Int) ≤ (most : Int)) ↔ (1 ≤ l.length ∧ l.length ≤ most) := by omega
  rw [M.e_impl_looker_decs, im_in]
  by_cases all : (∀ x ∈ l, okD x d) ∧ k + sumC cD l ≤ 200
  · rw [loop.1 all.1 all.2]
    simp only [Option.bind_some, Sum.elim_inr, im_unlike (l := nm l) (by simp [nm]; omega)]
    have hun := unl_nm (l := l) fun x hx => ((okD_iff x d).1 (all.1 x hx)).1
    by_cases len : 1 ≤ l.length ∧ l.length ≤ most
    · simp only [decide_eq_true (hin.2 len), cond_true]
      by_cases nd : nodupN l
      · rw [decide_eq_true (hun.2 nd)]
        exact ⟨fun _ _ => rfl, fun q => absurd ⟨⟨len, nd, all.1⟩, all.2⟩ q⟩
      · rw [decide_eq_false fun q => nd (hun.1 q)]
        exact ⟨fun q => absurd q.2.1 nd, fun _ => ⟨_, rfl⟩⟩
    · simp only [decide_eq_false fun q => len (hin.1 q), cond_false]
      exact ⟨fun q => absurd q.1 len, fun _ => ⟨_, rfl⟩⟩
  · obtain ⟨g, ⟨m, rfl⟩, e⟩ := loop.2 all
    rw [e]
    exact ⟨fun q hc => absurd ⟨q.2.2, hc⟩ all, fun _ => ⟨m, rfl⟩⟩

open Classical in
theorem imE_of {e : Exp} (hs : e.cost ≤ 1048576) {d : Nat} (hd : d ≤ 14) (hL : ∀ x ∈ e.L, d + 1 ≤ 13 → ImE x (d + 1)) (hA : ∀ a ∈ e.Alts, d + 1 ≤ 13 → ImE a.E (d + 1)) (hD : d + 1 ≤ 13 → ImDs e.Decs 6 (d + 1)) : ImE e d := by
  have hlim : lim = 140737488355328 := rfl
  obtain ⟨z1, ⟨z2, z3⟩, ⟨z4, z5⟩, z6, z7⟩ := szE hs
  have hw1 : IntKind.i64.wrap ((d : Int) + 1) = ((d + 1 : Nat) : Int) := by rw [wrap_ok (by omega)]; omega
  have hok := okE_iff e d
  have hce := cE_eq e
  intro k hk
  have hwk : IntKind.i64.wrap ((lk k).many + 1) = ((k + 1 : Nat) : Int) := by
    show IntKind.i64.wrap ((k : Int) + 1) = _
    rw [wrap_ok (by omega)]; omega
  rw [M.e_impl_looker_exp]
  simp only [hwk]
  by_cases k1 : k + 1 ≤ 200
  rotate_left
  · have : (200 : Int) < ((k + 1 : Nat) : Int) := by omega
    simp only [this, decide_true, cond_true]
    exact ⟨fun _ hc => by omega, fun _ => ⟨_, rfl⟩⟩
  have hk1 : ¬ ((200 : Int) < ((k + 1 : Nat) : Int)) := by omega
  simp only [hk1, decide_false, cond_false]
  by_cases d12 : d ≤ 12
  rotate_left
  · have : (12 : Int) < (d : Int) := by omega
    simp only [this, decide_true, cond_true]
    exact ⟨fun q => absurd (hok.1 q).1 d12, fun _ => ⟨_, rfl⟩⟩
  have hd12 : ¬ ((12 : Int) < (d : Int)) := by omega
  simp only [hd12, decide_false, cond_false, im_here z1, Option.bind_some, hw1]
  by_cases hh : hereP e
  rotate_left
  · rw [decide_eq_false hh]
    exact ⟨fun q => absurd (hok.1 q).2.1 hh, fun _ => ⟨_, rfl⟩⟩
  rw [decide_eq_true hh]
  simp only [Bool.not_true, cond_false]
  have loop0 := cntL (l := e.L) (by omega) cE (fun _ x => okE x (d + 1)) (L := fun k i => M.impl_looker_exp_L0 ((d : Int), e.L, (e.L.length : Int), i, lk k, e)) (fun k => .inr (lk k, e)) (fun g => ∃ m, g = .inl (false, m)) (fun k i x hx hm hix hi hw hk => by
    show (_ → _ → M.impl_looker_exp_L0 ((d : Int), e.L, (e.L.length : Int), (i : Int), lk k, e) = M.impl_looker_exp_L0 ((d : Int), e.L, (e.L.length : Int), ((i + 1 : Nat) : Int), lk (k + cE x), e)) ∧ (_ → ∃ g, _ ∧ M.impl_looker_exp_L0 ((d : Int), e.L, (e.L.length : Int), (i : Int), lk k, e) = some g)
    obtain ⟨a1, a2⟩ := hL x hm (by omega) k hk
    rw [M.e_impl_looker_exp_L0]
    simp only [hi, decide_true, cond_true, hix, Option.bind_some, hw1, hw]
    by_cases a : okE x (d + 1) ∧ k + cE x ≤ 200
    · rw [a1 a.1 a.2]
      exact ⟨fun _ _ => rfl, fun q => absurd a q⟩
    · obtain ⟨m, eq⟩ := a2 a
      rw [eq]
      exact ⟨fun q1 q2 => absurd ⟨q1, q2⟩ a, fun _ => ⟨_, ⟨_, rfl⟩, rfl⟩⟩) (fun k hk => by
    show M.impl_looker_exp_L0 ((d : Int), e.L, (e.L.length : Int), (e.L.length : Int), lk k, e) = _
    rw [M.e_impl_looker_exp_L0]
    simp) (k + 1) k1
  have loop1 := fun (k : Nat) (hk : k ≤ 200) => cntL (l := e.Alts) (by omega) (fun a => cE a.E) (fun _ a => altP a ∧ okE a.E (d + 1)) (L := fun k i => M.impl_looker_exp_L1 ((d : Int), e.Alts, (e.Alts.length : Int), i, lk k, e)) (fun k => .inr (lk k, e)) (fun g => ∃ m, g = .inl (false, m)) (fun k i x hx hm hix hi hw hk => by
    show (_ → _ → M.impl_looker_exp_L1 ((d : Int), e.Alts, (e.Alts.length : Int), (i : Int), lk k, e) = M.impl_looker_exp_L1 ((d : Int), e.Alts, (e.Alts.length : Int), ((i + 1 : Nat) : Int), lk (k + cE x.E), e)) ∧ (_ → ∃ g, _ ∧ M.impl_looker_exp_L1 ((d : Int), e.Alts, (e.Alts.length : Int), (i : Int), lk k, e) = some g)
    obtain ⟨a1, a2⟩ := hA x hm (by omega) k hk
    obtain ⟨y1, y2, y3⟩ := szA (z7 x hm)
    rw [M.e_impl_looker_exp_L1]
    simp only [hi, decide_true, cond_true, hix, Option.bind_some, im_alt y1 y2, hw1, hw]
    by_cases ap : altP x
    rotate_left
    · rw [decide_eq_false ap]
      exact ⟨fun q => absurd q.1 ap, fun _ => ⟨_, ⟨_, rfl⟩, rfl⟩⟩
    rw [decide_eq_true ap]
    simp only [Bool.not_true, cond_false]
    by_cases a : okE x.E (d + 1) ∧ k + cE x.E ≤ 200
    · rw [a1 a.1 a.2]
      exact ⟨fun _ _ => rfl, fun q => absurd ⟨⟨ap, a.1⟩, a.2⟩ q⟩
    · obtain ⟨m, eq⟩ := a2 a
      rw [eq]
      exact ⟨fun q1 q2 => absurd ⟨q1.2, q2⟩ a, fun _ => ⟨_, ⟨_, rfl⟩, rfl⟩⟩) (fun k hk => by
    show M.impl_looker_exp_L1 ((d : Int), e.Alts, (e.Alts.length : Int), (e.Alts.length : Int), lk k, e) = _
    rw [M.e_impl_looker_exp_L1]
    simp) k hk
  by_cases ok0 : (∀ (i : Nat) x, e.L[i]? = some x → okE x (d + 1)) ∧ k + 1 + sumC cE e.L ≤ 200
  rotate_left
  · obtain ⟨g, ⟨m, rfl⟩, eq⟩ := loop0.2 ok0
    rw [show (impl_looker.mk ((k + 1 : Nat) : Int)) = lk (k + 1) from rfl, eq]
    exact ⟨fun q hc => absurd ⟨fun i x hx => (hok.1 q).2.2.1 x (List.mem_of_getElem? hx), by omega⟩ ok0, fun _ => ⟨_, rfl⟩⟩
  rw [show (impl_looker.mk ((k + 1 : Nat) : Int)) = lk (k + 1) from rfl, loop0.1 ok0.1 ok0.2]
  simp only [Option.bind_some, Sum.elim_inr]
  have l1 := loop1 (k + 1 + sumC cE e.L) ok0.2
  have okL : ∀ x ∈ e.L, okE x (d + 1) := fun x hx => by
    obtain ⟨i, hi⟩ := List.getElem?_of_mem hx
    exact ok0.1 i x hi
  by_cases ok1 : (∀ (i : Nat) a, e.Alts[i]? = some a → altP a ∧ okE a.E (d + 1)) ∧ k + 1 + sumC cE e.L + sumC (fun a : Alt => cE a.E) e.Alts ≤ 200
  rotate_left
  · obtain ⟨g, ⟨m, rfl⟩, eq⟩ := l1.2 ok1
    rw [eq]
    exact ⟨fun q hc => absurd ⟨fun i x hx => (hok.1 q).2.2.2.1 x (List.mem_of_getElem? hx), by omega⟩ ok1, fun _ => ⟨_, rfl⟩⟩
  rw [l1.1 ok1.1 ok1.2]
  have okA : ∀ a ∈ e.Alts, altP a ∧ okE a.E (d + 1) := fun x hx => by
    obtain ⟨i, hi⟩ := List.getElem?_of_mem hx
    exact ok1.1 i x hi
  simp only [Option.bind_some, Sum.elim_inr]
  by_cases k6 : e.K = 6
  · obtain ⟨a1, a2⟩ := hD (by omega) (k + 1 + sumC cE e.L + sumC (fun a : Alt => cE a.E) e.Alts) ok1.2
    rw [if_pos k6] at hce
    have hd6 : okDs e.Decs 6 (d + 1) → okE e d := fun q => hok.2 ⟨d12, hh, okL, okA, fun _ => q⟩
    simp only [k6, decide_true, Bool.not_true, cond_false]
    rw [show ((6 : Nat) : Int) = 6 from rfl] at a1 a2
    by_cases a : okDs e.Decs 6 (d + 1) ∧ k + 1 + sumC cE e.L + sumC (fun a : Alt => cE a.E) e.Alts + sumC cD e.Decs ≤ 200
    · rw [a1 a.1 a.2, show k + cE e = k + 1 + sumC cE e.L + sumC (fun a : Alt => cE a.E) e.Alts + sumC cD e.Decs by omega]
      exact ⟨fun _ _ => rfl, fun q => absurd ⟨hd6 a.1, a.2⟩ q⟩
    · obtain ⟨m, eq⟩ := a2 a
      rw [eq]
      exact ⟨fun q hc => absurd ⟨(hok.1 q).2.2.2.2 k6, by omega⟩ a, fun _ => ⟨_, rfl⟩⟩
  · rw [if_neg k6] at hce
    simp only [k6, decide_false, Bool.not_false, cond_true]
    rw [show k + cE e = k + 1 + sumC cE e.L + sumC (fun a : Alt => cE a.E) e.Alts by omega]
    exact ⟨fun _ _ => rfl, fun q => absurd ⟨hok.2 ⟨d12, hh, okL, okA, fun h => absurd h k6⟩, ok1.2⟩ q⟩

theorem imE_all : (∀ e : Exp, e.cost ≤ 1048576 → ∀ d, d ≤ 14 → ImE e d) ∧ (∀ x : Dec, x.cost ≤ 1048576 → (∀ d, d ≤ 14 → ImE x.E d) ∧ ∀ d, d ≤ 13 → ImDs x.Where 6 d) := by
  have h0 : ∀ t : Alt, (t.E.cost ≤ 1048576 → ∀ d, d ≤ 14 → ImE t.E d) → (t.cost ≤ 1048576 → ∀ d, d ≤ 14 → ImE t.E d) := fun t ih hc => ih (szA hc).2.2
  have h1 : ∀ t : Dec, (t.E.cost ≤ 1048576 → ∀ d, d ≤ 14 → ImE t.E d) → (∀ x ∈ t.Where, (x.cost ≤ 1048576 → (∀ d, d ≤ 14 → ImE x.E d) ∧ ∀ d, d ≤ 13 → ImDs x.Where 6 d)) → (t.cost ≤ 1048576 → (∀ d, d ≤ 14 → ImE t.E d) ∧ ∀ d, d ≤ 13 → ImDs t.Where 6 d) := by
    intro t ih ihW hc
    obtain ⟨z1, z2, z3, z4, z5⟩ := szD hc
    exact ⟨ih z3, fun d hd => imDs_of z4 z5 hd (fun x hx => (ihW x hx (z5 x hx)).1 (d + 1) (by omega)) (fun x hx h => (ihW x hx (z5 x hx)).2 (d + 1) (by omega))⟩
  have h2 : ∀ t : Exp, (∀ x ∈ t.L, (x.cost ≤ 1048576 → ∀ d, d ≤ 14 → ImE x d)) → (∀ x ∈ t.Decs, (x.cost ≤ 1048576 → (∀ d, d ≤ 14 → ImE x.E d) ∧ ∀ d, d ≤ 13 → ImDs x.Where 6 d)) → (∀ x ∈ t.Alts, (x.cost ≤ 1048576 → ∀ d, d ≤ 14 → ImE x.E d)) → (t.cost ≤ 1048576 → ∀ d, d ≤ 14 → ImE t d) := by
    intro t ihL ihD ihA hc d hd
    obtain ⟨z1, ⟨z2, z3⟩, ⟨z4, z5⟩, z6, z7⟩ := szE hc
    exact imE_of hc hd (fun x hx h => ihL x hx (z3 x hx) (d + 1) (by omega)) (fun a ha h => ihA a ha (z7 a ha) (d + 1) (by omega)) (fun h => imDs_of z4 z5 h (fun x hx => (ihD x hx (z5 x hx)).1 (d + 1 + 1) (by omega)) (fun x hx h' => (ihD x hx (z5 x hx)).2 (d + 1 + 1) (by omega)))
  exact ⟨fun e => Exp.ind h0 h1 h2 e, fun x => Dec.ind h0 h1 h2 x⟩
theorem im_decs {l : List Dec} (hl : l.length ≤ 1048576) (hs : ∀ x ∈ l, x.cost ≤ 1048576) (most : Nat) : ImDs l most 0 :=
  imDs_of hl hs (by omega) (fun x hx => (imE_all.2 x (hs x hx)).1 1 (by omega)) (fun x hx _ => (imE_all.2 x (hs x hx)).2 1 (by omega))
end Q
end W
end
section
/- Programs: Datas. -/
namespace W
set_option linter.unusedVariables false
set_option maxRecDepth 100000
set_option maxHeartbeats 1000000
namespace Q
open Go HL HL.X

abbrev sInt : ByteArray := ⟨⟨[73, 110, 116]⟩⟩
abbrev sBool : ByteArray := ⟨⟨[66, 111, 111, 108]⟩⟩
abbrev sTrue : ByteArray := ⟨⟨[84, 114, 117, 101]⟩⟩
abbrev sFalse : ByteArray := ⟨⟨[70, 97, 108, 115, 101]⟩⟩

/-- A function that looks for one. -/
theorem idxF {α : Type} {l : List α} (hl : l.length ≤ lim) {L : Int → Option (Int ⊕ Unit)} (q : α → Prop)
    (hL : ∀ (i : Nat) (x : α), l[i]? = some x → x ∈ l → ix l (i : Int) = some x → (i : Int) < (l.length : Int) → IntKind.i64.wrap ((i : Int) + 1) = ((i + 1 : Nat) : Int) → (q x → L i = some (.inl (i : Int))) ∧ (¬ q x → L i = L ((i + 1 : Nat) : Int)))
    (hend : L (l.length : Nat) = some (.inr ())) : ((∃ x ∈ l, q x) ∧ ∃ j : Nat, L 0 = some (.inl (j : Int))) ∨ ((¬ ∃ x ∈ l, q x) ∧ L 0 = some (.inr ())) := by
  have key : ∀ (n i : Nat), i + n = l.length → ((∃ x ∈ l.drop i, q x) ∧ ∃ j : Nat, L i = some (.inl (j : Int))) ∨ ((¬ ∃ x ∈ l.drop i, q x) ∧ L i = some (.inr ())) := by
    intro n
    induction n with
    | zero =>
      intro i h
      right
      have : i = l.length := by omega
      subst this
      exact ⟨by simp, hend⟩
    | succ n ih =>
      intro i h
      have hi : i < l.length := by omega
      have hx := List.getElem?_eq_getElem hi
      obtain ⟨h1, h2⟩ := hL i _ hx (List.getElem_mem hi) (ix_of hx) (by omega) (wrap_succ (n := l.length) hi hl)
      rw [List.drop_eq_getElem_cons hi]
      by_cases a : q l[i]
      · exact .inl ⟨⟨_, List.mem_cons_self, a⟩, i, h1 a⟩
      · rw [h2 a]
        rcases ih (i + 1) (by omega) with ⟨⟨x, hx1, hx2⟩, r⟩ | ⟨r1, r2⟩
        · exact .inl ⟨⟨x, List.mem_cons_of_mem _ hx1, hx2⟩, r⟩
        · refine .inr ⟨?_, r2⟩
          rintro ⟨x, hx1, hx2⟩
          rcases List.mem_cons.1 hx1 with rfl | hx1
          · exact a hx2
          · exact r1 ⟨x, hx1, hx2⟩
  exact key l.length 0 (by omega)

/-! ### types that are written -/
mutual
def cT : Ty → Nat
  | .mk K S N L => 1 + (if K = 4 then cTs L else 0)
def cTs : List Ty → Nat
  | [] => 0
  | x :: l => cT x + cTs l
end
mutual
def okT : Ty → Nat → Prop
  | .mk K S N L, d => d ≤ 6 ∧ N = 0 ∧ (((K = 1 ∨ K = 2) ∧ S = nos ∧ L = []) ∨ (K = 3 ∧ (greatB S = true ∧ S ≠ sInt ∧ S ≠ sBool) ∧ L = []) ∨ (K = 4 ∧ S = nos ∧ L.length = 2 ∧ okTs L (d + 1)))
def okTs : List Ty → Nat → Prop
  | [], _ => True
  | x :: l, d => okT x d ∧ okTs l d
end
theorem cTs_eq : ∀ l, cTs l = sumC cT l
  | [] => by simp [cTs, sumC]
  | x :: l => by simp [cTs, sumC, cTs_eq l]
theorem okTs_iff : ∀ {l d}, okTs l d ↔ ∀ x ∈ l, okT x d
  | [], d => by simp [okTs]
  | x :: l, d => by simp [okTs, okTs_iff (l := l)]
theorem cT_eq (t : Ty) : cT t = 1 + (if t.K = 4 then sumC cT t.L else 0) := by
  cases t
  simp only [cT, cTs_eq] <;> rfl
theorem okT_iff (t : Ty) (d : Nat) : okT t d ↔ d ≤ 6 ∧ t.N = 0 ∧ (((t.K = 1 ∨ t.K = 2) ∧ t.S = nos ∧ t.L = []) ∨ (t.K = 3 ∧ (greatB t.S = true ∧ t.S ≠ sInt ∧ t.S ≠ sBool) ∧ t.L = []) ∨ (t.K = 4 ∧ t.S = nos ∧ t.L.length = 2 ∧ ∀ x ∈ t.L, okT x (d + 1))) := by
  cases t
  simp only [okT, okTs_iff]
theorem szT1 {t : Ty} (h : t.cost ≤ 1048576) : t.S.size ≤ lim ∧ t.L.length ≤ 1048576 ∧ ∀ x ∈ t.L, x.cost ≤ 1048576 := by
  have hc := Ty.cost_eq t
  have hlim : lim = 140737488355328 := rfl
  refine ⟨by omega, by omega, fun x hx => ?_⟩
  have := sumC_mem (c := Ty.cost) hx; omega

def SpT (t : Ty) (d : Nat) : Prop := ∃ r : Nat, M.spec_l9Written (t, (d : Int)) = some (r : Int) ∧ (okT t d → cT t ≤ 10 → r = cT t) ∧ (¬ (okT t d ∧ cT t ≤ 10) → 10 < r) ∧ r ≤ 100 * 3 ^ (7 - d)
def ImT (t : Ty) (d : Nat) : Prop := ∀ k : Nat, k ≤ 10 → (okT t d → k + cT t ≤ 10 → M.impl_conTyOk (t, (d : Int), (k : Int)) = some (true, ((k + cT t : Nat) : Int))) ∧ (¬ (okT t d ∧ k + cT t ≤ 10) → ∃ m, M.impl_conTyOk (t, (d : Int), (k : Int)) = some (false, m))

theorem two_of {l : List Ty} (h : l.length = 2) : ∃ a b, l = [a, b] := by
  match l, h with
  | [a, b], _ => exact ⟨a, b, rfl⟩

theorem spT_of {t : Ty} (hs : t.cost ≤ 1048576) {d : Nat} (hd : d ≤ 7) (hL : ∀ x ∈ t.L, d + 1 ≤ 7 → SpT x (d + 1)) : SpT t d := by
  have hlim : lim = 140737488355328 := rfl
  obtain ⟨z1, z2, z3⟩ := szT1 hs
  have hok := okT_iff t d
  have hct := cT_eq t
  have hp : 1 ≤ 3 ^ (7 - d) := Nat.pos_of_ne_zero (by simp)
  have hw1 : IntKind.i64.wrap ((d : Int) + 1) = ((d + 1 : Nat) : Int) := by rw [wrap_ok (by omega)]; omega
  have no100 : ∀ {m : Option Int}, m = some 100 → ¬ okT t d → ∃ r : Nat, m = some (r : Int) ∧ (okT t d → cT t ≤ 10 → r = cT t) ∧ (¬ (okT t d ∧ cT t ≤ 10) → 10 < r) ∧ r ≤ 100 * 3 ^ (7 - d) := fun e q => ⟨100, e, fun h => absurd h q, fun _ => by omega, by omega⟩
  unfold SpT
  rw [M.e_spec_l9Written]
  by_cases d6 : d ≤ 6
  rotate_left
  · have : (6 : Int) < (d : Int) := by omega
    refine no100 ?_ fun h => d6 (hok.1 h).1
    simp [this]
  have hd6 : ¬ ((6 : Int) < (d : Int)) := by omega
  simp only [hd6, decide_false, cond_false]
  by_cases n0 : t.N = 0
  rotate_left
  · refine no100 ?_ fun h => n0 (hok.1 h).2.1
    simp [n0]
  simp only [n0, decide_true, Bool.not_true, cond_false]
  have one : ∀ {m : Option Int}, m = some 1 → (((t.K = 1 ∨ t.K = 2) ∧ t.S = nos ∧ t.L = []) ∨ (t.K = 3 ∧ (greatB t.S = true ∧ t.S ≠ sInt ∧ t.S ≠ sBool) ∧ t.L = [])) → ∃ r : Nat, m = some (r : Int) ∧ (okT t d → cT t ≤ 10 → r = cT t) ∧ (¬ (okT t d ∧ cT t ≤ 10) → 10 < r) ∧ r ≤ 100 * 3 ^ (7 - d) := fun e q => by
    have k4 : ¬ t.K = 4 := by rcases q with ⟨h | h, _⟩ | ⟨h, _⟩ <;> omega
    rw [if_neg k4] at hct
    refine ⟨1, e, fun _ _ => by omega, fun h => absurd ⟨hok.2 ⟨d6, n0, ?_⟩, by omega⟩ h, by omega⟩
    rcases q with q | q
    · exact .inl q
    · exact .inr (.inl q)
  by_cases k3 : t.K = 3
  · by_cases hl : t.L = []
    · have f2 := sp_great z1
      cases gb : greatB t.S with
      | false =>
        refine no100 ?_ fun h => ?_
        · simp [k3, hl, f2, gb]
        · rcases (hok.1 h).2.2 with ⟨h1, _⟩ | ⟨_, ⟨h1, _⟩, _⟩ | ⟨h1, _⟩
          · omega
          · rw [gb] at h1; cases h1
          · omega
      | true =>
        by_cases i1 : t.S = sInt
        · refine no100 ?_ fun h => ?_
          · rw [i1] at f2 gb
            simp [k3, hl, f2, gb, i1]
          · rcases (hok.1 h).2.2 with ⟨h1, _⟩ | ⟨_, ⟨_, h1, _⟩, _⟩ | ⟨h1, _⟩
            · omega
            · exact h1 i1
            · omega
        · by_cases i2 : t.S = sBool
          · refine no100 ?_ fun h => ?_
            · rw [i2] at f2 gb
              simp [k3, hl, f2, gb, i2]
            · rcases (hok.1 h).2.2 with ⟨h1, _⟩ | ⟨_, ⟨_, _, h1⟩, _⟩ | ⟨h1, _⟩
              · omega
              · exact h1 i2
              · omega
          · refine one ?_ (.inr ⟨k3, ⟨gb, i1, i2⟩, hl⟩)
            simp [k3, hl, f2, gb, i1, i2]
    · refine no100 ?_ fun h => ?_
      · have : 0 < t.L.length := List.length_pos_iff.2 hl
        simp [k3, this]
      · rcases (hok.1 h).2.2 with ⟨h1, _⟩ | ⟨_, _, h1⟩ | ⟨h1, _⟩
        · omega
        · exact hl h1
        · omega
  by_cases s0 : t.S = nos
  rotate_left
  · refine no100 ?_ fun h => ?_
    · simp [k3, s0]
    · rcases (hok.1 h).2.2 with ⟨_, h1, _⟩ | ⟨h1, _⟩ | ⟨_, h1, _⟩
      · exact s0 h1
      · exact k3 h1
      · exact s0 h1
  by_cases k4 : t.K = 4
  · by_cases l2 : t.L.length = 2
    · obtain ⟨a, b, hab⟩ := two_of l2
      obtain ⟨ra, ea, fa, ga, ba⟩ := hL a (by rw [hab]; simp) (by omega)
      obtain ⟨rb, eb, fb, gb, bb⟩ := hL b (by rw [hab]; simp) (by omega)
      rw [if_pos k4, hab] at hct
      simp only [sumC, Nat.add_zero] at hct
      have hpw : 3 ^ (7 - d) = 3 * 3 ^ (7 - (d + 1)) := by
        rw [show 7 - d = (7 - (d + 1)) + 1 by omega, Nat.pow_succ, Nat.mul_comm]
      have hbig : 3 ^ (7 - (d + 1)) ≤ 3 ^ 7 := Nat.pow_le_pow_right (by omega) (by omega)
      have h7 : 3 ^ 7 = 2187 := by decide
      have hpp : 1 ≤ 3 ^ (7 - (d + 1)) := Nat.pos_of_ne_zero (by simp)
      generalize 3 ^ (7 - (d + 1)) = p at ba bb hpw hbig hpp
      have hwa : IntKind.i64.wrap (1 + (ra : Int)) = ((1 + ra : Nat) : Int) := by rw [wrap_ok (by omega)]; omega
      have hwb : IntKind.i64.wrap (((1 + ra : Nat) : Int) + (rb : Int)) = ((1 + ra + rb : Nat) : Int) := by rw [wrap_ok (by omega)]; omega
      have hokab : okT t d ↔ okT a (d + 1) ∧ okT b (d + 1) := by
        rw [hok]
        constructor
        · rintro ⟨_, _, ⟨h1, _⟩ | ⟨h1, _⟩ | ⟨_, _, _, h⟩⟩
          · omega
          · omega
          · exact ⟨h a (by rw [hab]; simp), h b (by rw [hab]; simp)⟩
        · rintro ⟨h1, h2⟩
          refine ⟨d6, n0, .inr (.inr ⟨k4, s0, l2, fun x hx => ?_⟩)⟩
          rw [hab] at hx
          simp at hx
          rcases hx with rfl | rfl
          · exact h1
          · exact h2
      refine ⟨1 + ra + rb, ?_, fun q hc => ?_, fun q => ?_, by rw [hpw]; omega⟩
      · generalize ((d + 1 : Nat) : Int) = D at ea eb hw1
        have hwa' : IntKind.i64.wrap (1 + (ra : Int)) = 1 + (ra : Int) := by rw [hwa]; omega
        have hwb' : IntKind.i64.wrap (1 + (ra : Int) + (rb : Int)) = 1 + (ra : Int) + (rb : Int) := by rw [show (1 : Int) + ra = ((1 + ra : Nat) : Int) by omega, hwb]; omega
        simp [k4, s0, hab, ix, hw1, ea, eb, hwa', hwb']
      · have q' := hokab.1 q
        have := fa q'.1 (by omega)
        have := fb q'.2 (by omega)
        omega
      · by_cases qa : okT a (d + 1) ∧ cT a ≤ 10
        · by_cases qb : okT b (d + 1) ∧ cT b ≤ 10
          · have := fa qa.1 qa.2
            have := fb qb.1 qb.2
            have : ¬ (cT t ≤ 10) := fun h => q ⟨hokab.2 ⟨qa.1, qb.1⟩, h⟩
            omega
          · have := gb qb; omega
        · have := ga qa; omega
    · refine no100 ?_ fun h => ?_
      · have : ¬ ((t.L.length : Int) = 2) := by omega
        simp [k3, k4, s0, this]
      · rcases (hok.1 h).2.2 with ⟨h1, _⟩ | ⟨h1, _⟩ | ⟨_, _, h1, _⟩
        · omega
        · omega
        · exact l2 h1
  by_cases hl : t.L = []
  rotate_left
  · refine no100 ?_ fun h => ?_
    · have : 0 < t.L.length := List.length_pos_iff.2 hl
      simp [k3, k4, s0, this]
    · rcases (hok.1 h).2.2 with ⟨_, _, h1⟩ | ⟨h1, _⟩ | ⟨h1, _⟩
      · exact hl h1
      · exact k3 h1
      · exact k4 h1
  by_cases k1 : t.K = 1
  · exact one (by simp [s0, hl, k1]) (.inl ⟨.inl k1, s0, hl⟩)
  by_cases k2 : t.K = 2
  · exact one (by simp [s0, hl, k2]) (.inl ⟨.inr k2, s0, hl⟩)
  refine no100 (by simp [k1, k2, k3, k4, s0, hl]) fun h => ?_
  rcases (hok.1 h).2.2 with ⟨h1 | h1, _⟩ | ⟨h1, _⟩ | ⟨h1, _⟩
  · exact k1 h1
  · exact k2 h1
  · exact k3 h1
  · exact k4 h1

theorem imT_of {t : Ty} (hs : t.cost ≤ 1048576) {d : Nat} (hd : d ≤ 7) (hL : ∀ x ∈ t.L, d + 1 ≤ 7 → ImT x (d + 1)) : ImT t d := by
  have hlim : lim = 140737488355328 := rfl
  obtain ⟨z1, z2, z3⟩ := szT1 hs
  have hok := okT_iff t d
  have hct := cT_eq t
  have hw1 : IntKind.i64.wrap ((d : Int) + 1) = ((d + 1 : Nat) : Int) := by rw [wrap_ok (by omega)]; omega
  intro k hk
  have hwk : IntKind.i64.wrap ((k : Int) + 1) = ((k + 1 : Nat) : Int) := by rw [wrap_ok (by omega)]; omega
  have no : ∀ {m : Option (Bool × Int)} {n : Int}, m = some (false, n) → ¬ okT t d → (okT t d → k + cT t ≤ 10 → m = some (true, ((k + cT t : Nat) : Int))) ∧ (¬ (okT t d ∧ k + cT t ≤ 10) → ∃ m', m = some (false, m')) := fun e q => ⟨fun h => absurd h q, fun _ => ⟨_, e⟩⟩
  rw [M.e_impl_conTyOk]
  simp only [hwk]
  by_cases d6 : d ≤ 6
  rotate_left
  · have : (6 : Int) < (d : Int) := by omega
    exact no (by simp [this]; rfl) fun h => d6 (hok.1 h).1
  have hd6 : ¬ ((6 : Int) < (d : Int)) := by omega
  by_cases k10 : k + 1 ≤ 10
  rotate_left
  · have : (10 : Int) < ((k + 1 : Nat) : Int) := by omega
    simp only [hd6, this, decide_false, decide_true, cond_false, cond_true]
    exact ⟨fun _ h => by omega, fun _ => ⟨_, rfl⟩⟩
  have hk10 : ¬ ((10 : Int) < ((k + 1 : Nat) : Int)) := by omega
  simp only [hd6, hk10, decide_false, cond_false]
  by_cases n0 : t.N = 0
  rotate_left
  · exact no (by simp [n0]; rfl) fun h => n0 (hok.1 h).2.1
  simp only [n0, decide_true, Bool.not_true, cond_false]
  have one : ∀ {m : Option (Bool × Int)}, m = some (true, ((k + 1 : Nat) : Int)) → (((t.K = 1 ∨ t.K = 2) ∧ t.S = nos ∧ t.L = []) ∨ (t.K = 3 ∧ (greatB t.S = true ∧ t.S ≠ sInt ∧ t.S ≠ sBool) ∧ t.L = [])) → (okT t d → k + cT t ≤ 10 → m = some (true, ((k + cT t : Nat) : Int))) ∧ (¬ (okT t d ∧ k + cT t ≤ 10) → ∃ m', m = some (false, m')) := fun e q => by
    have k4 : ¬ t.K = 4 := by rcases q with ⟨h | h, _⟩ | ⟨h, _⟩ <;> omega
    rw [if_neg k4] at hct
    refine ⟨fun _ _ => by rw [e, hct], fun h => absurd ⟨hok.2 ⟨d6, n0, ?_⟩, by omega⟩ h⟩
    rcases q with q | q
    · exact .inl q
    · exact .inr (.inl q)
  have lz : ((t.L.length : Int) = 0) ↔ t.L = [] := by rw [← List.length_eq_zero_iff]; omega
  by_cases k12 : t.K = 1 ∨ t.K = 2
  · have e12 : (bif decide (t.K = 1) then some (true, ((k + 1 : Nat) : Int), t) else some (decide (t.K = 2), ((k + 1 : Nat) : Int), t) : Option (Bool × Int × Ty)) = some (true, ((k + 1 : Nat) : Int), t) := by
      rcases k12 with h | h <;> simp [h]
    rw [e12]
    simp only [Option.bind_some, cond_true]
    by_cases s0 : t.S = nos
    · by_cases hl : t.L = []
      · exact one (by simp [s0, hl]) (.inl ⟨k12, s0, hl⟩)
      · refine no (n := ((k + 1 : Nat) : Int)) (by simp [s0, hl]) fun h => ?_
        rcases (hok.1 h).2.2 with ⟨_, _, h1⟩ | ⟨h1, _⟩ | ⟨h1, _⟩
        · exact hl h1
        · omega
        · omega
    · refine no (n := ((k + 1 : Nat) : Int)) (by simp [s0]) fun h => ?_
      rcases (hok.1 h).2.2 with ⟨_, h1, _⟩ | ⟨h1, _⟩ | ⟨h1, _⟩
      · exact s0 h1
      · omega
      · omega
  have e12 : (bif decide (t.K = 1) then some (true, ((k + 1 : Nat) : Int), t) else some (decide (t.K = 2), ((k + 1 : Nat) : Int), t) : Option (Bool × Int × Ty)) = some (false, ((k + 1 : Nat) : Int), t) := by
    have h1 : ¬ t.K = 1 := fun h => k12 (.inl h)
    have h2 : ¬ t.K = 2 := fun h => k12 (.inr h)
    simp [h1, h2]
  rw [e12]
  simp only [Option.bind_some, cond_false]
  by_cases k3 : t.K = 3
  · have f2 := im_great z1
    have dead : ∀ {m : Option (Bool × Int)} {n : Int}, m = some (false, n) → ¬ ((greatB t.S = true ∧ t.S ≠ sInt ∧ t.S ≠ sBool) ∧ t.L = []) → (okT t d → k + cT t ≤ 10 → m = some (true, ((k + cT t : Nat) : Int))) ∧ (¬ (okT t d ∧ k + cT t ≤ 10) → ∃ m', m = some (false, m')) := fun e q => no e fun h => by
      rcases (hok.1 h).2.2 with ⟨h1, _⟩ | ⟨_, h1⟩ | ⟨h1, _⟩
      · exact k12 h1
      · exact q h1
      · omega
    cases gb : greatB t.S with
    | false => exact dead (n := ((k + 1 : Nat) : Int)) (by simp [k3, f2, gb]) (fun q => by rw [gb] at q; exact absurd q.1.1 (by simp))
    | true =>
      by_cases i1 : t.S = sInt
      · exact dead (n := ((k + 1 : Nat) : Int)) (by rw [i1] at f2 gb; simp [k3, f2, gb, i1]) (fun q => q.1.2.1 i1)
      by_cases i2 : t.S = sBool
      · exact dead (n := ((k + 1 : Nat) : Int)) (by rw [i2] at f2 gb; simp [k3, f2, gb, i2]) (fun q => q.1.2.2 i2)
      by_cases hl : t.L = []
      · exact one (by simp [k3, f2, gb, i1, i2, hl]) (.inr ⟨k3, ⟨gb, i1, i2⟩, hl⟩)
      · exact dead (n := ((k + 1 : Nat) : Int)) (by simp [k3, f2, gb, i1, i2, hl]) (fun q => hl q.2)
  by_cases k4 : t.K = 4
  rotate_left
  · refine no (n := ((k + 1 : Nat) : Int)) (by simp [k3, k4]) fun h => ?_
    rcases (hok.1 h).2.2 with ⟨h1, _⟩ | ⟨h1, _⟩ | ⟨h1, _⟩
    · exact k12 h1
    · exact k3 h1
    · exact k4 h1
  by_cases s0 : t.S = nos
  rotate_left
  · refine no (n := ((k + 1 : Nat) : Int)) (by simp [k3, k4, s0]) fun h => ?_
    rcases (hok.1 h).2.2 with ⟨h1, _⟩ | ⟨h1, _⟩ | ⟨_, h1, _⟩
    · exact k12 h1
    · exact k3 h1
    · exact s0 h1
  by_cases l2 : t.L.length = 2
  rotate_left
  · refine no (n := ((k + 1 : Nat) : Int)) ?_ fun h => ?_
    · have : ¬ ((t.L.length : Int) = 2) := by omega
      simp [k4, s0, this]
    rcases (hok.1 h).2.2 with ⟨h1, _⟩ | ⟨h1, _⟩ | ⟨_, _, h1, _⟩
    · exact k12 h1
    · exact k3 h1
    · exact l2 h1
  obtain ⟨a, b, hab⟩ := two_of l2
  obtain ⟨a1, a2⟩ := hL a (by rw [hab]; simp) (by omega) (k + 1) k10
  rw [if_pos k4, hab] at hct
  simp only [sumC, Nat.add_zero] at hct
  have hokab : okT t d ↔ okT a (d + 1) ∧ okT b (d + 1) := by
    rw [hok]
    constructor
    · rintro ⟨_, _, ⟨h1, _⟩ | ⟨h1, _⟩ | ⟨_, _, _, h⟩⟩
      · exact absurd h1 k12
      · omega
      · exact ⟨h a (by rw [hab]; simp), h b (by rw [hab]; simp)⟩
    · rintro ⟨h1, h2⟩
      refine ⟨d6, n0, .inr (.inr ⟨k4, s0, l2, fun x hx => ?_⟩)⟩
      rw [hab] at hx
      simp at hx
      rcases hx with rfl | rfl
      · exact h1
      · exact h2
  have hlen : ((t.L.length : Int) = 2) := by omega
  simp only [k3, k4, s0, hlen, decide_true, decide_false, cond_true, cond_false, hw1]
  rw [hab]
  simp only [show ix [a, b] 0 = some a from rfl, show ix [a, b] 1 = some b from rfl, Option.bind_some]
  by_cases qa : okT a (d + 1) ∧ k + 1 + cT a ≤ 10
  rotate_left
  · obtain ⟨m, e⟩ := a2 qa
    rw [e]
    exact ⟨fun q h => absurd ⟨(hokab.1 q).1, by omega⟩ qa, fun _ => ⟨_, rfl⟩⟩
  rw [a1 qa.1 qa.2]
  simp only [Option.bind_some, cond_true]
  obtain ⟨b1, b2⟩ := hL b (by rw [hab]; simp) (by omega) (k + 1 + cT a) qa.2
  by_cases qb : okT b (d + 1) ∧ k + 1 + cT a + cT b ≤ 10
  · rw [b1 qb.1 qb.2]
    exact ⟨fun _ _ => by rw [show k + cT t = k + 1 + cT a + cT b by omega]; rfl, fun q => absurd ⟨hokab.2 ⟨qa.1, qb.1⟩, by omega⟩ q⟩
  · obtain ⟨m, e⟩ := b2 qb
    rw [e]
    exact ⟨fun q h => absurd ⟨(hokab.1 q).2, by omega⟩ qb, fun _ => ⟨_, rfl⟩⟩

theorem spT_all : ∀ t : Ty, t.cost ≤ 1048576 → ∀ d, d ≤ 7 → SpT t d := fun t => Ty.ind (M0 := fun t => t.cost ≤ 1048576 → ∀ d, d ≤ 7 → SpT t d) (fun t ih hc d hd => spT_of hc hd fun x hx h => ih x hx ((szT1 hc).2.2 x hx) (d + 1) h) t
theorem imT_all : ∀ t : Ty, t.cost ≤ 1048576 → ∀ d, d ≤ 7 → ImT t d := fun t => Ty.ind (M0 := fun t => t.cost ≤ 1048576 → ∀ d, d ≤ 7 → ImT t d) (fun t ih hc d hd => imT_of hc hd fun x hx h => ih x hx ((szT1 hc).2.2 x hx) (d + 1) h) t
end Q
end W
end
section
/- Programs: right ones. -/
namespace W
set_option linter.unusedVariables false
set_option maxRecDepth 100000
set_option maxHeartbeats 1000000
namespace Q
open Go HL HL.X

def argsP (c : Con) : Prop := ∀ t ∈ c.Args, okT t 1 ∧ cT t ≤ 10
def conP (c : Con) : Prop := argsP c ∧ greatB c.Name = true ∧ c.Args.length ≤ 4
def takenP (s : ByteArray) : Prop := s = sInt ∨ s = sBool ∨ s = sTrue ∨ s = sFalse
def dn (l : List Data) : List ByteArray := l.map Data.Name
def cn (l : List Data) : List ByteArray := l.flatMap fun d => d.Cons.map Con.Name
def dataP (d : Data) : Prop := greatB d.Name = true ∧ (1 ≤ d.Cons.length ∧ d.Cons.length ≤ 5) ∧ ∀ c ∈ d.Cons, conP c
def datasP (l : List Data) : Prop := (∀ d ∈ l, dataP d) ∧ l.length ≤ 5 ∧ unl (dn l) ∧ unl (cn l) ∧ ∀ s ∈ dn l ++ cn l, ¬ takenP s
def progP (p : Prog) : Prop := datasP p.Datas ∧ okDs p.Decs 12 0 ∧ sumC cD p.Decs ≤ 200

theorem szC {c : Con} (h : c.cost ≤ 1048576) : c.Name.size ≤ lim ∧ c.Args.length ≤ 1048576 ∧ ∀ t ∈ c.Args, t.cost ≤ 1048576 := by
  have hc := Con.cost_eq c
  have hlim : lim = 140737488355328 := rfl
  refine ⟨by omega, by omega, fun t ht => ?_⟩
  have := sumC_mem (c := Ty.cost) ht; omega
theorem szDt {d : Data} (h : d.cost ≤ 1048576) : d.Name.size ≤ lim ∧ d.Cons.length ≤ 1048576 ∧ ∀ c ∈ d.Cons, c.cost ≤ 1048576 := by
  have hc := Data.cost_eq d
  have hlim : lim = 140737488355328 := rfl
  refine ⟨by omega, by omega, fun t ht => ?_⟩
  have := sumC_mem (c := Con.cost) ht; omega
theorem szP {p : Prog} (h : p.cost ≤ 1048576) : (p.Datas.length + sumC Data.cost p.Datas ≤ 1048576 ∧ ∀ d ∈ p.Datas, d.cost ≤ 1048576) ∧ (p.Decs.length ≤ 1048576 ∧ ∀ d ∈ p.Decs, d.cost ≤ 1048576) := by
  have hc := Prog.cost_eq p
  refine ⟨⟨by omega, fun t ht => ?_⟩, by omega, fun t ht => ?_⟩
  · have := sumC_mem (c := Data.cost) ht; omega
  · have := sumC_mem (c := Dec.cost) ht; omega
theorem cn_len : ∀ l : List Data, (cn l).length ≤ sumC Data.cost l
  | [] => Nat.le_refl _
  | d :: l => by
    have h1 := cn_len l
    have h2 := Data.cost_eq d
    simp only [cn, List.flatMap_cons, List.length_append, List.length_map, sumC] at h1 ⊢
    omega

open Classical in
theorem im_con {c : Con} (hs : c.cost ≤ 1048576) : M.impl_conOk c = some (decide (conP c)) := by
  have hlim : lim = 140737488355328 := rfl
  obtain ⟨z1, z2, z3⟩ := szC hs
  have h : M.impl_conOk_L0 (c.Args, (c.Args.length : Int), 0, c) = _ := allL (l := c.Args) (by omega) (L := fun i => M.impl_conOk_L0 (c.Args, (c.Args.length : Int), i, c)) (fun t => okT t 1 ∧ cT t ≤ 10) (some (.inl false)) (some (.inr c)) (fun i t ht hm hix hi hw => by
    show M.impl_conOk_L0 (c.Args, (c.Args.length : Int), (i : Int), c) = _
    obtain ⟨a1, a2⟩ := imT_all t (z3 t hm) 1 (by omega) 0 (by omega)
    rw [Nat.zero_add] at a1 a2
    rw [M.e_impl_conOk_L0]
    simp only [hi, decide_true, cond_true, hix, Option.bind_some, hw]
    by_cases a : okT t 1 ∧ cT t ≤ 10
    · have := a1 a.1 a.2
      rw [show ((1 : Nat) : Int) = 1 from rfl, show ((0 : Nat) : Int) = 0 from rfl] at this
      rw [this, if_pos a]
      rfl
    · obtain ⟨m, this⟩ := a2 a
      rw [show ((1 : Nat) : Int) = 1 from rfl, show ((0 : Nat) : Int) = 0 from rfl] at this
      rw [this, if_neg a]
      rfl) (by
    show M.impl_conOk_L0 (c.Args, (c.Args.length : Int), (c.Args.length : Int), c) = _
    rw [M.e_impl_conOk_L0]
    simp)
  rw [M.e_impl_conOk, h]
  by_cases a : argsP c
  · rw [if_pos (show ∀ t ∈ c.Args, okT t 1 ∧ cT t ≤ 10 from a)]
    simp only [Option.bind_some, Sum.elim_inr, im_great z1]
    cases g : greatB c.Name with
    | false => rw [decide_eq_false (show ¬ conP c from fun q => by rw [q.2.1] at g; cases g)]; rfl
    | true =>
      simp only [cond_true]
      exact congrArg some (dcd ⟨fun q => ⟨a, g, by omega⟩, fun q => by have := q.2.2; omega⟩)
  · rw [if_neg (show ¬ ∀ t ∈ c.Args, okT t 1 ∧ cT t ≤ 10 from a), decide_eq_false (show ¬ conP c from fun q => a q.1)]; rfl

open Classical in
theorem im_taken (s : ByteArray) : M.impl_taken s = some (decide (takenP s)) := by
  rw [M.e_impl_taken]
  unfold takenP
  by_cases a : s = sInt
  · simp [a]
  by_cases b : s = sBool
  · simp [b]
  by_cases c : s = sTrue
  · simp [c]
  by_cases d : s = sFalse <;> simp [a, b, c, d]
open Classical in
theorem sp_taken (s : ByteArray) : M.spec_l3Own s = some (decide (takenP s)) := by
  rw [M.e_spec_l3Own, sp_has (by simp [lim])]
  simp only [Option.bind_some]
  exact congrArg some (dcd (by simp [takenP]))

theorem concat2 {a b : List ByteArray} (ha : a.length ≤ 2000000) (hb : b.length ≤ 2000000) : M.slices_Concat_string [a, b] = some (a ++ b) := by
  have w1 : IntKind.i64.wrap (0 + (a.length : Int)) = (a.length : Int) := by rw [wrap_ok (by omega)]; omega
  have w2 : IntKind.i64.wrap ((a.length : Int) + (b.length : Int)) = ((a.length + b.length : Nat) : Int) := by rw [wrap_ok (by omega)]; omega
  have n1 : ¬ ((a.length : Int) < 0) := by omega
  have n2 : ¬ (((a.length + b.length : Nat) : Int) < 0) := by omega
  have i1 : IntKind.i64.wrap (0 + 1) = 1 := by decide
  have i2 : IntKind.i64.wrap (1 + 1) = 2 := by decide
  have x0 : ix [a, b] 0 = some a := rfl
  have x1 : ix [a, b] 1 = some b := rfl
  have l0 : M.slices_Concat_string_L0 (0, [a, b], 2, 0) = some ((a.length + b.length : Nat) : Int) := by
    rw [M.e_slices_Concat_string_L0]
    simp only [show decide ((0 : Int) < 2) = true from rfl, cond_true, x0, Option.bind_some, w1, n1, decide_false, cond_false, i1]
    rw [M.e_slices_Concat_string_L0]
    simp only [show decide ((1 : Int) < 2) = true from rfl, cond_true, x1, Option.bind_some, w2, n2, decide_false, cond_false, i2]
    rw [M.e_slices_Concat_string_L0]
    rfl
  have g0 : growB ((a.length + b.length : Nat) : Int) [] = some [] := by
    have h1 : (0 : Int) ≤ ((a.length + b.length : Nat) : Int) := by omega
    have h2 : ((a.length + b.length : Nat) : Int) ≤ 1099511627776 := by omega
    simp only [growB, h1, h2, decide_true, Bool.and_self, cond_true]
  have l1 : M.slices_Concat_string_L1 ([a, b], 2, 0, []) = some (a ++ b) := by
    rw [M.e_slices_Concat_string_L1]
    simp only [show decide ((0 : Int) < 2) = true from rfl, cond_true, x0, Option.bind_some, i1]
    rw [gd_t (by simp [grow]; omega)]
    simp only [Option.bind_some]
    rw [M.e_slices_Concat_string_L1]
    simp only [show decide ((1 : Int) < 2) = true from rfl, cond_true, x1, Option.bind_some, i2]
    rw [gd_t (by simp [grow]; omega)]
    simp only [Option.bind_some]
    rw [M.e_slices_Concat_string_L1]
    simp
  rw [M.e_slices_Concat_string]
  show ((M.slices_Concat_string_L0 (0, [a, b], 2, 0)).bind _) = _
  rw [l0]
  simp only [Option.bind_some, M.e_slices_Grow_string, g0]
  show ((M.slices_Concat_string_L1 ([a, b], 2, 0, [])).bind _) = _
  rw [l1]
  rfl

open Classical in
theorem im_anyTaken {l : List ByteArray} (hl : l.length ≤ lim) : M.slices_ContainsFunc_string_at_taken l = some (decide (∃ s ∈ l, takenP s)) := by
  have h := idxF hl (L := fun i => M.slices_IndexFunc_string_at_taken_L0 (l, (l.length : Int), i)) takenP (fun i x hx hm hix hi hw => by
    show (_ → M.slices_IndexFunc_string_at_taken_L0 (l, (l.length : Int), (i : Int)) = _) ∧ (_ → M.slices_IndexFunc_string_at_taken_L0 (l, (l.length : Int), (i : Int)) = M.slices_IndexFunc_string_at_taken_L0 (l, (l.length : Int), ((i + 1 : Nat) : Int)))
    rw [M.e_slices_IndexFunc_string_at_taken_L0]
    simp only [hi, decide_true, cond_true, hix, Option.bind_some, im_taken, hw]
    exact ⟨fun q => by rw [decide_eq_true q]; rfl, fun q => by rw [decide_eq_false q]; rfl⟩) (by
    show M.slices_IndexFunc_string_at_taken_L0 (l, (l.length : Int), (l.length : Int)) = _
    rw [M.e_slices_IndexFunc_string_at_taken_L0]
    simp)
  rw [M.e_slices_ContainsFunc_string_at_taken, M.e_slices_IndexFunc_string_at_taken]
  rcases h with ⟨h1, j, h2⟩ | ⟨h1, h2⟩
  · have h2 : M.slices_IndexFunc_string_at_taken_L0 (l, (l.length : Int), 0) = some (.inl (j : Int)) := h2
    rw [h2, decide_eq_true h1]
    simp
  · have h2 : M.slices_IndexFunc_string_at_taken_L0 (l, (l.length : Int), 0) = some (.inr ()) := h2
    rw [h2, decide_eq_false h1]
    simp

theorem cn_take {l : List Data} {i : Nat} {d : Data} (h : l[i]? = some d) : cn (l.take (i + 1)) = cn (l.take i) ++ d.Cons.map Con.Name := by
  have : l.take (i + 1) = l.take i ++ [d] := by rw [List.take_add_one, h]; rfl
  rw [this]
  simp [cn]
theorem dn_take {l : List Data} {i : Nat} {d : Data} (h : l[i]? = some d) : dn (l.take (i + 1)) = dn (l.take i) ++ [d.Name] := by
  have : l.take (i + 1) = l.take i ++ [d] := by rw [List.take_add_one, h]; rfl
  rw [this]
  simp [dn]
theorem sumC_take {α : Type} (c : α → Nat) : ∀ (l : List α) (i : Nat), sumC c (l.take i) ≤ sumC c l
  | [], i => by simp [sumC]
  | x :: l, 0 => by simp [sumC]
  | x :: l, i + 1 => by have := sumC_take c l i; simp only [List.take_succ_cons, sumC]; omega

open Classical in
theorem im_L1 {cs : List Con} (hl : cs.length ≤ 1048576) (hs : ∀ c ∈ cs, c.cost ≤ 1048576) {D C : List ByteArray} (hC : C.length ≤ 1048576) : M.impl_datasOk_L1 (cs, (cs.length : Int), 0, D, C) = if ∀ c ∈ cs, conP c then some (.inr (D, C ++ cs.map Con.Name)) else some (.inl false) := by
  have hlim : lim = 140737488355328 := rfl
  have := allL (l := cs) (by omega) (L := fun i => M.impl_datasOk_L1 (cs, (cs.length : Int), i, D, C ++ (cs.take i.toNat).map Con.Name)) conP (some (.inl false)) (some (.inr (D, C ++ cs.map Con.Name))) (fun i c hc hm hix hi hw => by
    show M.impl_datasOk_L1 (cs, (cs.length : Int), (i : Int), D, C ++ (cs.take ((i : Int)).toNat).map Con.Name) = if _ then M.impl_datasOk_L1 (cs, (cs.length : Int), ((i + 1 : Nat) : Int), D, C ++ (cs.take (((i + 1 : Nat) : Int)).toNat).map Con.Name) else _
    have hil : i < cs.length := by omega
    have htk : (cs.take (i + 1)).map Con.Name = (cs.take i).map Con.Name ++ [c.Name] := by
      have : cs.take (i + 1) = cs.take i ++ [c] := by rw [List.take_add_one, hc]; rfl
      rw [this]
      simp
    have hgd : (C ++ (cs.take i).map Con.Name).length + [c.Name].length ≤ grow := by simp [grow]; omega
    simp only [Int.toNat_natCast]
    rw [M.e_impl_datasOk_L1]
    simp only [hi, decide_true, cond_true, hix, Option.bind_some, gd_t hgd, im_con (hs c hm), hw]
    by_cases a : conP c
    · rw [decide_eq_true a, if_pos a, htk, List.append_assoc]; rfl
    · rw [decide_eq_false a, if_neg a]; rfl) (by
    show M.impl_datasOk_L1 (cs, (cs.length : Int), (cs.length : Int), D, C ++ (cs.take ((cs.length : Int)).toNat).map Con.Name) = _
    rw [M.e_impl_datasOk_L1]
    simp)
  simp only [Int.toNat_zero, List.take_zero, List.map_nil, List.append_nil] at this
  exact this.trans ifany

open Classical in
theorem im_datas {l : List Data} (hl : l.length + sumC Data.cost l ≤ 1048576) : M.impl_datasOk l = some (decide (datasP l)) := by
  have hlim : lim = 140737488355328 := rfl
  have hs : ∀ d ∈ l, d.cost ≤ 1048576 := fun d hd => by have := sumC_mem (c := Data.cost) hd; omega
  have hcn : ∀ i, (cn (l.take i)).length ≤ 1048576 := fun i => by have := cn_len (l.take i); have := sumC_take Data.cost l i; omega
  have hcnl : (cn l).length ≤ 1048576 := by have := cn_len l; omega
  have h := allL (l := l) (by omega) (L := fun i => M.impl_datasOk_L0 (l, (l.length : Int), i, dn (l.take i.toNat), cn (l.take i.toNat))) dataP (some (.inl false)) (some (.inr (dn l, cn l))) (fun i d hd hm hix hi hw => by
    show M.impl_datasOk_L0 (l, (l.length : Int), (i : Int), dn (l.take ((i : Int)).toNat), cn (l.take ((i : Int)).toNat)) = if _ then M.impl_datasOk_L0 (l, (l.length : Int), ((i + 1 : Nat) : Int), dn (l.take (((i + 1 : Nat) : Int)).toNat), cn (l.take (((i + 1 : Nat) : Int)).toNat)) else _
    have hil : i < l.length := by omega
    obtain ⟨z1, z2, z3⟩ := szDt (hs d hm)
    have hgd : (dn (l.take i)).length + [d.Name].length ≤ grow := by simp [dn, grow]; omega
    have hin : (1 ≤ (d.Cons.length : Int) ∧ (d.Cons.length : Int) ≤ 5) ↔ (1 ≤ d.Cons.length ∧ d.Cons.length ≤ 5) := by omega
    simp only [Int.toNat_natCast]
    rw [M.e_impl_datasOk_L0]
    simp only [hi, decide_true, cond_true, hix, Option.bind_some, gd_t hgd, im_great z1, im_in, im_L1 z2 z3 (hcn i), hw]
    rw [dn_take hd, cn_take hd]
    cases g : greatB d.Name with
    | false => rw [if_neg (fun q : dataP d => by rw [q.1] at g; cases g)]; rfl
    | true =>
      simp only [Bool.not_true, cond_false]
      by_cases a : 1 ≤ d.Cons.length ∧ d.Cons.length ≤ 5
      · rw [decide_eq_true (hin.2 a)]
        by_cases b : ∀ c ∈ d.Cons, conP c
        · rw [if_pos b, if_pos (show dataP d from ⟨g, a, b⟩)]; rfl
        · rw [if_neg b, if_neg (fun q : dataP d => b q.2.2)]; rfl
      · rw [decide_eq_false fun q => a (hin.1 q), if_neg (fun q : dataP d => a q.2.1)]; rfl) (by
    show M.impl_datasOk_L0 (l, (l.length : Int), (l.length : Int), dn (l.take ((l.length : Int)).toNat), cn (l.take ((l.length : Int)).toNat)) = _
    rw [M.e_impl_datasOk_L0]
    simp)
  have h : M.impl_datasOk_L0 (l, (l.length : Int), 0, [], []) = _ := h
  rw [M.e_impl_datasOk, h]
  by_cases a : ∀ d ∈ l, dataP d
  rotate_left
  · rw [if_neg a, decide_eq_false (show ¬ datasP l from fun q => a q.1)]; rfl
  rw [if_pos a]
  have hdl : (dn l).length = l.length := by simp [dn]
  simp only [Option.bind_some, Sum.elim_inr, im_unlike (l := dn l) (by omega), im_unlike (l := cn l) (by omega), concat2 (a := dn l) (b := cn l) (by omega) (by omega), im_anyTaken (l := dn l ++ cn l) (by simp; omega)]
  have hlen : ((l.length : Int) ≤ 5) ↔ l.length ≤ 5 := by omega
  by_cases b : l.length ≤ 5
  rotate_left
  · rw [decide_eq_false fun q => b (hlen.1 q), decide_eq_false (show ¬ datasP l from fun q => b q.2.1)]; rfl
  rw [decide_eq_true (hlen.2 b)]
  by_cases c : unl (dn l)
  rotate_left
  · rw [decide_eq_false c, decide_eq_false (show ¬ datasP l from fun q => c q.2.2.1)]; rfl
  rw [decide_eq_true c]
  by_cases d : unl (cn l)
  rotate_left
  · rw [decide_eq_false d, decide_eq_false (show ¬ datasP l from fun q => d q.2.2.2.1)]; rfl
  rw [decide_eq_true d]
  by_cases e : ∃ s ∈ dn l ++ cn l, takenP s
  · rw [decide_eq_true e, decide_eq_false (show ¬ datasP l from fun q => by obtain ⟨s, h1, h2⟩ := e; exact q.2.2.2.2 s h1 h2)]; rfl
  · rw [decide_eq_false e, decide_eq_true (show datasP l from ⟨a, b, c, d, fun s h1 h2 => e ⟨s, h1, h2⟩⟩)]; rfl

open Classical in
theorem im_prog {p : Prog} (hs : p.cost ≤ 1048576) : M.impl_ProgOk p = some (decide (progP p)) := by
  obtain ⟨⟨z1, z2⟩, z3, z4⟩ := szP hs
  rw [M.e_impl_ProgOk, im_datas z1]
  by_cases a : datasP p.Datas
  · simp only [decide_eq_true a, Option.bind_some, cond_true]
    obtain ⟨h1, h2⟩ := im_decs z3 z4 12 0 (by omega)
    rw [Nat.zero_add] at h1 h2
    by_cases b : okDs p.Decs 12 0 ∧ sumC cD p.Decs ≤ 200
    · have : M.impl_looker_decs (p.Decs, 0, 12, impl_looker.mk 0) = _ := h1 b.1 b.2
      rw [this, decide_eq_true (show progP p from ⟨a, b⟩)]
      rfl
    · obtain ⟨m, e⟩ := h2 b
      have e : M.impl_looker_decs (p.Decs, 0, 12, impl_looker.mk 0) = _ := e
      rw [e, decide_eq_false (show ¬ progP p from fun q => b q.2)]
      rfl
  · simp only [decide_eq_false a, Option.bind_some, cond_false]
    rw [decide_eq_false (show ¬ progP p from fun q => a q.1)]
end Q
end W
end
section
/- Programs: right ones, as the reference says. -/
namespace W
set_option linter.unusedVariables false
set_option maxRecDepth 100000
set_option maxHeartbeats 1000000
namespace Q
open Go HL HL.X

open Classical in
noncomputable def cnt (s : ByteArray) : List ByteArray → Nat
  | [] => 0
  | x :: l => (if x = s then 1 else 0) + cnt s l
theorem cnt_app (s : ByteArray) : ∀ a b, cnt s (a ++ b) = cnt s a + cnt s b
  | [], b => by simp [cnt]
  | x :: a, b => by simp [cnt, cnt_app s a b, Nat.add_assoc]
theorem cnt_le (s : ByteArray) : ∀ l, cnt s l ≤ l.length
  | [] => Nat.le_refl _
  | x :: l => by have := cnt_le s l; simp only [cnt, List.length_cons]; split <;> omega
theorem cnt_zero {s : ByteArray} : ∀ {l}, cnt s l = 0 ↔ s ∉ l
  | [] => by simp [cnt]
  | x :: l => by
    have := cnt_zero (s := s) (l := l)
    simp only [cnt, List.mem_cons, not_or]
    by_cases e : x = s
    · subst e; simp
    · rw [if_neg e, Nat.zero_add, this]
      exact ⟨fun h => ⟨fun q => e q.symm, h⟩, fun h => h.2⟩
theorem cnt_nodup : ∀ {l : List ByteArray}, (∀ s ∈ l, cnt s l = 1) ↔ l.Nodup
  | [] => by simp
  | x :: l => by
    have ih := cnt_nodup (l := l)
    rw [List.nodup_cons, ← ih]
    constructor
    · intro h
      have h1 := h x (by simp)
      simp only [cnt, if_true] at h1
      have hx : x ∉ l := cnt_zero.1 (by omega)
      refine ⟨hx, fun s hs => ?_⟩
      have h2 := h s (by simp [hs])
      simp only [cnt] at h2
      rw [if_neg (fun e : x = s => hx (e ▸ hs))] at h2
      omega
    · rintro ⟨h1, h2⟩ s hs
      simp only [cnt]
      by_cases e : x = s
      · rw [if_pos e, ← e, cnt_zero.2 h1]
      · rw [if_neg e, h2 s ((List.mem_cons.1 hs).resolve_left fun q => e q.symm)]
theorem unl_nodup {l : List ByteArray} (h : ∀ s ∈ l, s ≠ under) : unl l ↔ l.Nodup := by
  rw [List.nodup_iff_pairwise_ne, List.pairwise_iff_getElem]
  constructor
  · intro q i j hi hj hij e
    refine q j l[j] (List.getElem?_eq_getElem hj) (h _ (List.getElem_mem hj)) ?_
    rw [← e]
    have : (l.take j)[i]? = some l[i] := by rw [List.getElem?_take_of_lt hij]; exact List.getElem?_eq_getElem hi
    exact List.mem_of_getElem? this
  · intro q j x hx _ hm
    obtain ⟨i, hi⟩ := List.getElem?_of_mem hm
    have hij : i < j := by
      have := (List.getElem?_eq_some_iff.1 hi).1
      simp at this
      omega
    rw [List.getElem?_take_of_lt hij] at hi
    obtain ⟨hi1, hi2⟩ := List.getElem?_eq_some_iff.1 hi
    obtain ⟨hj1, hj2⟩ := List.getElem?_eq_some_iff.1 hx
    exact q i j hi1 hj1 hij (by rw [hi2, hj2])

theorem sp_timesL1 {p : Prog} {i : Nat} {d : Data} (hd : p.Datas[i]? = some d) (hl : d.Cons.length ≤ 1048576) (s : ByteArray) : ∀ (k j n : Nat), j + k = d.Cons.length → n + k ≤ 4000000 →
    M.spec_l3Times_L1 (s, (n : Int), (i : Int), (j : Int), p) = some (((n + cnt s ((d.Cons.drop j).map Con.Name) : Nat) : Int), p)
  | 0, j, n, h, _ => by
    have : ¬ ((j : Int) < (d.Cons.length : Int)) := by omega
    rw [M.e_spec_l3Times_L1]
    simp only [ix_of hd, Option.bind_some, this, decide_false, cond_false]
    rw [List.drop_eq_nil_of_le (by omega)]
    rfl
  | k + 1, j, n, h, hk => by
    have hj : j < d.Cons.length := by omega
    have h1 : (j : Int) < (d.Cons.length : Int) := by omega
    have hw : IntKind.i64.wrap ((j : Int) + 1) = ((j + 1 : Nat) : Int) := by rw [wrap_ok (by omega)]; omega
    have hn1 : IntKind.i64.wrap ((n : Int) + 1) = ((n + 1 : Nat) : Int) := by rw [wrap_ok (by omega)]; omega
    rw [M.e_spec_l3Times_L1, List.drop_eq_getElem_cons hj]
    simp only [ix_of hd, Option.bind_some, h1, decide_true, cond_true, ix_of (List.getElem?_eq_getElem hj), hw, hn1, List.map_cons, cnt]
    by_cases e : (d.Cons[j]).Name = s
    · rw [decide_eq_true e, if_pos e, cond_true, sp_timesL1 hd hl s k (j + 1) (n + 1) (by omega) (by omega), Nat.add_assoc]
    · rw [decide_eq_false e, if_neg e, cond_false, sp_timesL1 hd hl s k (j + 1) n (by omega) (by omega), Nat.zero_add]
theorem sp_timesL0 {p : Prog} (hl : p.Datas.length + sumC Data.cost p.Datas ≤ 1048576) (s : ByteArray) : ∀ (k i n : Nat), i + k = p.Datas.length → n + sumC Data.cost (p.Datas.drop i) ≤ 2000000 →
    M.spec_l3Times_L0 (s, (n : Int), (i : Int), p) = some ((n + cnt s (cn (p.Datas.drop i)) : Nat) : Int)
  | 0, i, n, h, _ => by
    have : ¬ ((i : Int) < (p.Datas.length : Int)) := by omega
    rw [M.e_spec_l3Times_L0]
    simp only [this, decide_false, cond_false]
    rw [List.drop_eq_nil_of_le (by omega)]
    rfl
  | k + 1, i, n, h, hk => by
    have hi : i < p.Datas.length := by omega
    have h1 : (i : Int) < (p.Datas.length : Int) := by omega
    have hd := List.getElem?_eq_getElem hi
    have hw : IntKind.i64.wrap ((i : Int) + 1) = ((i + 1 : Nat) : Int) := by rw [wrap_ok (by omega)]; omega
    have hm := sumC_mem (c := Data.cost) (List.getElem_mem hi)
    obtain ⟨z1, z2, z3⟩ := szDt (d := p.Datas[i]) (by omega)
    have hcc := Data.cost_eq p.Datas[i]
    rw [List.drop_eq_getElem_cons hi] at hk ⊢
    simp only [sumC] at hk
    have hcl : cnt s (p.Datas[i].Cons.map Con.Name) ≤ p.Datas[i].Cons.length := by have := cnt_le s (p.Datas[i].Cons.map Con.Name); simpa using this
    have e1 := sp_timesL1 hd z2 s p.Datas[i].Cons.length 0 n (by omega) (by omega)
    rw [List.drop_zero] at e1
    rw [M.e_spec_l3Times_L0]
    simp only [h1, decide_true, cond_true, hw]
    rw [show (0 : Int) = ((0 : Nat) : Int) from rfl, e1]
    simp only [Option.bind_some]
    rw [sp_timesL0 hl s k (i + 1) _ (by omega) (by omega)]
    simp only [cn, List.flatMap_cons, cnt_app]
    rw [Nat.add_assoc]
theorem sp_times {p : Prog} (hl : p.Datas.length + sumC Data.cost p.Datas ≤ 1048576) (s : ByteArray) : M.spec_l3Times (p, s) = some ((cnt s (cn p.Datas) : Nat) : Int) := by
  have := sp_timesL0 hl s p.Datas.length 0 0 (by omega) (by simp; omega)
  rw [List.drop_zero, Nat.zero_add] at this
  rw [M.e_spec_l3Times]
  have this : M.spec_l3Times_L0 (s, 0, 0, p) = _ := this
  rw [this]
  rfl

def conS (p : Prog) (c : Con) : Prop := greatB c.Name = true ∧ ¬ takenP c.Name ∧ c.Args.length ≤ 4 ∧ cnt c.Name (cn p.Datas) = 1 ∧ argsP c
def dataS (p : Prog) (i : Nat) (d : Data) : Prop := (∀ k, k < i → ∀ y, p.Datas[k]? = some y → y.Name ≠ d.Name) ∧ (∀ c ∈ d.Cons, conS p c) ∧ greatB d.Name = true ∧ ¬ takenP d.Name ∧ (1 ≤ d.Cons.length ∧ d.Cons.length ≤ 5)

open Classical in
theorem sp_L2 {p : Prog} {d : Data} {c : Con} (hs : c.cost ≤ 1048576) : M.spec_l3Data_L2 (0, p, d, c) = if argsP c then some (.inr (p, d)) else some (.inl false) := by
  have hlim : lim = 140737488355328 := rfl
  obtain ⟨z1, z2, z3⟩ := szC hs
  refine (allL (l := c.Args) (by omega) (L := fun i => M.spec_l3Data_L2 (i, p, d, c)) (fun t => okT t 1 ∧ cT t ≤ 10) (some (.inl false)) (some (.inr (p, d))) (fun i t ht hm hix hi hw => ?_) ?_).trans (ifc Iff.rfl)
  · show M.spec_l3Data_L2 ((i : Int), p, d, c) = _
    obtain ⟨r, e1, f1, g1, _⟩ := spT_all t (z3 t hm) 1 (by omega)
    have e1 : M.spec_l9Written (t, 1) = some (r : Int) := e1
    rw [M.e_spec_l3Data_L2]
    simp only [hi, decide_true, cond_true, hix, Option.bind_some, e1, hw]
    by_cases a : okT t 1 ∧ cT t ≤ 10
    · have := f1 a.1 a.2
      have h10 : ¬ ((10 : Int) < (r : Int)) := by omega
      rw [decide_eq_false h10, if_pos a]; rfl
    · have := g1 a
      have h10 : ((10 : Int) < (r : Int)) := by omega
      rw [decide_eq_true h10, if_neg a]; rfl
  · show M.spec_l3Data_L2 ((c.Args.length : Int), p, d, c) = _
    rw [M.e_spec_l3Data_L2]
    simp

open Classical in
theorem sp_DL1 {p : Prog} (hl : p.Datas.length + sumC Data.cost p.Datas ≤ 1048576) {d : Data} (hs : d.cost ≤ 1048576) : M.spec_l3Data_L1 (0, p, d) = if ∀ c ∈ d.Cons, conS p c then some (.inr d) else some (.inl false) := by
  have hlim : lim = 140737488355328 := rfl
  obtain ⟨z1, z2, z3⟩ := szDt hs
  refine (allL (l := d.Cons) (by omega) (L := fun i => M.spec_l3Data_L1 (i, p, d)) (conS p) (some (.inl false)) (some (.inr d)) (fun i c hc hm hix hi hw => ?_) ?_).trans ifany
  · show M.spec_l3Data_L1 ((i : Int), p, d) = _
    obtain ⟨y1, y2, y3⟩ := szC (z3 c hm)
    rw [M.e_spec_l3Data_L1]
    simp only [hi, decide_true, cond_true, hix, Option.bind_some, sp_great y1, sp_taken, sp_times hl, sp_L2 (z3 c hm), hw]
    cases g : greatB c.Name with
    | false => rw [if_neg (fun q : conS p c => by rw [q.1] at g; cases g)]; rfl
    | true =>
      simp only [Bool.not_true, cond_false]
      by_cases a : takenP c.Name
      · rw [decide_eq_true a, if_neg (fun q : conS p c => q.2.1 a)]; rfl
      rw [decide_eq_false a]
      by_cases b : c.Args.length ≤ 4
      rotate_left
      · have : (4 : Int) < (c.Args.length : Int) := by omega
        rw [decide_eq_true this, if_neg (fun q : conS p c => b q.2.2.1)]; rfl
      have hb : ¬ ((4 : Int) < (c.Args.length : Int)) := by omega
      rw [decide_eq_false hb]
      by_cases t : cnt c.Name (cn p.Datas) = 1
      rotate_left
      · have : ¬ (((cnt c.Name (cn p.Datas) : Nat) : Int) = 1) := by omega
        rw [decide_eq_false this, if_neg (fun q : conS p c => t q.2.2.2.1)]; rfl
      have ht : (((cnt c.Name (cn p.Datas) : Nat) : Int) = 1) := by omega
      rw [decide_eq_true ht]
      by_cases r : argsP c
      · rw [if_pos r, if_pos (show conS p c from ⟨g, a, b, t, r⟩)]; rfl
      · rw [if_neg r, if_neg (fun q : conS p c => r q.2.2.2.2)]; rfl
  · show M.spec_l3Data_L1 ((d.Cons.length : Int), p, d) = _
    rw [M.e_spec_l3Data_L1]
    simp

open Classical in
theorem sp_data {p : Prog} (hl : p.Datas.length + sumC Data.cost p.Datas ≤ 1048576) {i : Nat} {d : Data} (hd : p.Datas[i]? = some d) : M.spec_l3Data (p, (i : Int)) = some (decide (dataS p i d)) := by
  have hlim : lim = 140737488355328 := rfl
  have hi : i < p.Datas.length := (List.getElem?_eq_some_iff.1 hd).1
  have hs : d.cost ≤ 1048576 := by have := sumC_mem (c := Data.cost) (List.mem_of_getElem? hd); omega
  obtain ⟨z1, z2, z3⟩ := szDt hs
  have h0 : M.spec_l3Data_L0 ((i : Int), 0, p, d) = _ := stopL (n := i) (by omega) (L := fun k => M.spec_l3Data_L0 ((i : Int), k, p, d)) (fun k => ∀ y, p.Datas[k]? = some y → y.Name ≠ d.Name) (some (.inl false)) (some (.inr (p, d))) (fun k hk hw => by
    show M.spec_l3Data_L0 ((i : Int), (k : Int), p, d) = _
    have hy := List.getElem?_eq_getElem (show k < p.Datas.length by omega)
    have h1 : (k : Int) < (i : Int) := by omega
    have hq : (∀ y, p.Datas[k]? = some y → y.Name ≠ d.Name) ↔ (p.Datas[k]'(by omega)).Name ≠ d.Name := by rw [hy]; simp
    rw [M.e_spec_l3Data_L0]
    simp only [h1, decide_true, cond_true, ix_of hy, Option.bind_some, hw]
    rw [ifc hq, bd]
    by_cases e : (p.Datas[k]'(by omega)).Name = d.Name
    · rw [if_pos e, if_neg fun q => q e]
    · rw [if_neg e, if_pos e]) (by
    show M.spec_l3Data_L0 ((i : Int), (i : Int), p, d) = _
    rw [M.e_spec_l3Data_L0]
    simp)
  rw [M.e_spec_l3Data, ix_of hd]
  simp only [Option.bind_some, h0]
  by_cases a : ∀ k, k < i → ∀ y, p.Datas[k]? = some y → y.Name ≠ d.Name
  rotate_left
  · rw [if_neg a, decide_eq_false (show ¬ dataS p i d from fun q => a q.1)]; rfl
  rw [if_pos a]
  simp only [Option.bind_some, Sum.elim_inr, sp_DL1 hl hs]
  by_cases b : ∀ c ∈ d.Cons, conS p c
  rotate_left
  · rw [if_neg b, decide_eq_false (show ¬ dataS p i d from fun q => b q.2.1)]; rfl
  rw [if_pos b]
  simp only [Option.bind_some, Sum.elim_inr, sp_great z1, sp_taken, sp_in]
  cases g : greatB d.Name with
  | false => rw [decide_eq_false (show ¬ dataS p i d from fun q => by rw [q.2.2.1] at g; cases g)]; rfl
  | true =>
    simp only [cond_true]
    by_cases t : takenP d.Name
    · rw [decide_eq_true t, decide_eq_false (show ¬ dataS p i d from fun q => q.2.2.2.1 t)]; rfl
    · rw [decide_eq_false t]
      simp only [Bool.not_false, cond_true]
      exact congrArg some (dcd ⟨fun q => ⟨a, b, g, t, by omega, by omega⟩, fun q => by have := q.2.2.2.2; omega⟩)

theorem datas_same {p : Prog} : ((∀ (i : Nat) (d : Data), p.Datas[i]? = some d → dataS p i d) ∧ p.Datas.length ≤ 5) ↔ datasP p.Datas := by
  have hnu : ∀ s, greatB s = true → s ≠ under := fun s h e => by rw [e, great_not_under] at h; cases h
  constructor
  · rintro ⟨h, h5⟩
    have hd : ∀ d ∈ p.Datas, ∃ i, p.Datas[i]? = some d ∧ dataS p i d := fun d hd => by
      obtain ⟨i, hi⟩ := List.getElem?_of_mem hd
      exact ⟨i, hi, h i d hi⟩
    have hc : ∀ s ∈ cn p.Datas, greatB s = true ∧ ¬ takenP s ∧ cnt s (cn p.Datas) = 1 := fun s hs => by
      simp only [cn, List.mem_flatMap, List.mem_map] at hs
      obtain ⟨d, hd1, c, hc1, rfl⟩ := hs
      obtain ⟨i, _, q⟩ := hd d hd1
      have := q.2.1 c hc1
      exact ⟨this.1, this.2.1, this.2.2.2.1⟩
    refine ⟨fun d hd1 => ?_, h5, ?_, ?_, fun s hs => ?_⟩
    · obtain ⟨i, _, q⟩ := hd d hd1
      exact ⟨q.2.2.1, q.2.2.2.2, fun c hc1 => ⟨(q.2.1 c hc1).2.2.2.2, (q.2.1 c hc1).1, (q.2.1 c hc1).2.2.1⟩⟩
    · intro i x hx _ hm
      obtain ⟨k, hk⟩ := List.getElem?_of_mem hm
      have hki : k < i := by
        have := (List.getElem?_eq_some_iff.1 hk).1
        simp at this
        omega
      rw [List.getElem?_take_of_lt hki] at hk
      simp only [dn, List.getElem?_map, Option.map_eq_some_iff] at hx hk
      obtain ⟨d, hd1, rfl⟩ := hx
      obtain ⟨y, hy, e⟩ := hk
      exact (h i d hd1).1 k hki y hy e
    · exact (unl_nodup fun s hs => hnu s (hc s hs).1).2 (cnt_nodup.1 fun s hs => (hc s hs).2.2)
    · rcases List.mem_append.1 hs with hs | hs
      · simp only [dn, List.mem_map] at hs
        obtain ⟨d, hd1, rfl⟩ := hs
        obtain ⟨i, _, q⟩ := hd d hd1
        exact q.2.2.2.1
      · exact (hc s hs).2.1
  · rintro ⟨h1, h2, h3, h4, h5⟩
    have hg : ∀ s ∈ cn p.Datas, greatB s = true := fun s hs => by
      simp only [cn, List.mem_flatMap, List.mem_map] at hs
      obtain ⟨d, hd1, c, hc1, rfl⟩ := hs
      exact ((h1 d hd1).2.2 c hc1).2.1
    have hnd := cnt_nodup.2 ((unl_nodup fun s hs => hnu s (hg s hs)).1 h4)
    refine ⟨fun i d hd => ?_, h2⟩
    have hm := List.mem_of_getElem? hd
    refine ⟨fun k hk y hy e => ?_, fun c hc => ?_, (h1 d hm).1, h5 _ (List.mem_append_left _ (List.mem_map.2 ⟨d, hm, rfl⟩)), (h1 d hm).2.1⟩
    · have hx : (dn p.Datas)[i]? = some d.Name := by simp [dn, hd]
      refine h3 i _ hx (hnu _ (h1 d hm).1) ?_
      rw [← e]
      have : ((dn p.Datas).take i)[k]? = some y.Name := by rw [List.getElem?_take_of_lt hk]; simp [dn, hy]
      exact List.mem_of_getElem? this
    · have hmc : c.Name ∈ cn p.Datas := by
        simp only [cn, List.mem_flatMap, List.mem_map]
        exact ⟨d, hm, c, hc, rfl⟩
      have q := (h1 d hm).2.2 c hc
      exact ⟨q.2.1, h5 _ (List.mem_append_right _ hmc), q.2.2, hnd _ hmc, q.1⟩

open Classical in
theorem sp_prog {p : Prog} (hs : p.cost ≤ 1048576) : M.spec_ProgOk p = some (decide (progP p)) := by
  have hlim : lim = 140737488355328 := rfl
  obtain ⟨⟨z1, z2⟩, z3, z4⟩ := szP hs
  have h0 : M.spec_ProgOk_L0 (0, p) = _ := stopL (n := p.Datas.length) (by omega) (L := fun i => M.spec_ProgOk_L0 (i, p)) (fun i => ∀ d, p.Datas[i]? = some d → dataS p i d) (some (.inl false)) (some (.inr p)) (fun i hi hw => by
    show M.spec_ProgOk_L0 ((i : Int), p) = _
    have hd := List.getElem?_eq_getElem hi
    have h1 : (i : Int) < (p.Datas.length : Int) := by omega
    have hq : (∀ d, p.Datas[i]? = some d → dataS p i d) ↔ dataS p i p.Datas[i] := by rw [hd]; simp
    rw [M.e_spec_ProgOk_L0]
    simp only [h1, decide_true, cond_true, sp_data z1 hd, Option.bind_some, hw]
    rw [ifc hq]
    by_cases e : dataS p i p.Datas[i]
    · rw [decide_eq_true e, if_pos e]; rfl
    · rw [decide_eq_false e, if_neg e]; rfl) (by
    show M.spec_ProgOk_L0 ((p.Datas.length : Int), p) = _
    rw [M.e_spec_ProgOk_L0]
    simp)
  rw [M.e_spec_ProgOk, h0]
  have hiff : (∀ m, m < p.Datas.length → ∀ d, p.Datas[m]? = some d → dataS p m d) ↔ ∀ (i : Nat) (d : Data), p.Datas[i]? = some d → dataS p i d := ⟨fun h i d hd => h i (List.getElem?_eq_some_iff.1 hd).1 d hd, fun h i _ d hd => h i d hd⟩
  rw [ifc hiff]
  by_cases a : ∀ (i : Nat) (d : Data), p.Datas[i]? = some d → dataS p i d
  rotate_left
  · rw [if_neg a, decide_eq_false (show ¬ progP p from fun q => a (datas_same.2 q.1).1)]; rfl
  rw [if_pos a]
  simp only [Option.bind_some, Sum.elim_inr]
  by_cases b : p.Datas.length ≤ 5
  rotate_left
  · have : ¬ ((p.Datas.length : Int) ≤ 5) := by omega
    rw [decide_eq_false this, decide_eq_false (show ¬ progP p from fun q => b (datas_same.2 q.1).2)]; rfl
  have hb : ((p.Datas.length : Int) ≤ 5) := by omega
  rw [decide_eq_true hb]
  obtain ⟨r, e1, f1, g1, _⟩ := sp_decs z3 z4 12
  have e1 : M.spec_l3Decs (p.Decs, 12, 0) = some (r : Int) := e1
  simp only [cond_true, e1, Option.bind_some]
  have hd := datas_same.1 ⟨a, b⟩
  refine congrArg some (dcd ⟨fun q => ⟨hd, Classical.byContradiction fun n => by have := g1 n; omega⟩, fun q => ?_⟩)
  have := f1 q.2.1 q.2.2
  have := q.2.2
  omega
end Q
end W
end
section
/- Texts: numbers, types, signs ahead, words. -/
namespace W
set_option linter.unusedVariables false
set_option maxRecDepth 100000
set_option maxHeartbeats 1000000
namespace Q
open Go HL HL.X

theorem app_assoc (a b c : ByteArray) : (a ++ b) ++ c = a ++ (b ++ c) := by
  apply ByteArray.ext; simp [ByteArray.data_append, Array.append_assoc]
theorem app_nil (a : ByteArray) : a ++ (⟨#[]⟩ : ByteArray) = a := by
  apply ByteArray.ext; simp [ByteArray.data_append]
theorem nil_app (a : ByteArray) : (⟨#[]⟩ : ByteArray) ++ a = a := by
  apply ByteArray.ext; simp [ByteArray.data_append]
theorem szl (l : List UInt8) : (⟨⟨l⟩⟩ : ByteArray).size = l.length := rfl
theorem s32 : (⟨⟨[32]⟩⟩ : ByteArray).size = 1 := rfl
theorem s0 : (⟨⟨[]⟩⟩ : ByteArray).size = 0 := rfl
theorem szm (l : Array UInt8) : (⟨l⟩ : ByteArray).size = l.size := rfl
theorem data_lit (l : List UInt8) : (⟨⟨l⟩⟩ : ByteArray).data = ⟨l⟩ := rfl
theorem lit_app (a b : List UInt8) : (⟨⟨a⟩⟩ : ByteArray) ++ (⟨⟨b⟩⟩ : ByteArray) = ⟨⟨a ++ b⟩⟩ := by
  apply ByteArray.ext; simp [ByteArray.data_append]

theorem wrap8 {n : Int} (h : 0 ≤ n) (h' : n < 256) : IntKind.u8.wrap n = n := by
  simp only [IntKind.wrap, IntKind.bits, IntKind.signed]
  first | omega | (simp; omega)
theorem digit {d : Int} (h0 : 0 ≤ d) (h1 : d < 10) : bsOf [IntKind.u8.wrap (IntKind.i64.wrap (48 + d))] = ⟨#[UInt8.ofNat (48 + d.toNat)]⟩ := by
  rw [wrap_ok (by omega), wrap8 (by omega) (by omega)]
  have : (48 + d).toNat = 48 + d.toNat := by omega
  show ByteArray.push ByteArray.empty (UInt8.ofNat (48 + d).toNat) = _
  rw [this]
  rfl
theorem decLen : ∀ (k u : Nat), u < 10 ^ (k + 1) → (Lib.decDigits u).length ≤ k + 1 := by
  intro k
  induction k with
  | zero => intro u h; rw [Lib.decDigits, dif_pos (by simpa using h)]; simp
  | succ k ih =>
    intro u h
    rw [Lib.decDigits]
    split
    · simp
    · have := ih (u / 10) (by rw [Nat.pow_succ] at h; omega)
      simp only [List.length_append, List.length_singleton]
      omega
theorem l5Num : ∀ u : Nat, u ≤ 9223372036854775807 → M.spec_l5Num (u : Int) = some ⟨(Lib.decDigits u).toArray⟩ := by
  have hlim : lim = 140737488355328 := rfl
  intro u
  induction u using Nat.strongRecOn with
  | ind u ih =>
    intro hu
    rw [M.e_spec_l5Num]
    by_cases h : u < 10
    · have h1 : (u : Int) < 10 := by omega
      rw [decide_eq_true h1, cond_true, digit (by omega) (by omega), Lib.decDigits, dif_pos h]
      rfl
    · have h1 : ¬ (u : Int) < 10 := by omega
      have hq : Int.tdiv (u : Int) 10 = ((u / 10 : Nat) : Int) := rfl
      have hm : Int.tmod (u : Int) 10 = ((u % 10 : Nat) : Int) := rfl
      have hlen := decLen 19 (u / 10) (by omega)
      rw [decide_eq_false h1, cond_false, gd_t (by decide), Option.bind_some, Option.bind_some, hq, hm, wrap_ok (by omega), ih (u / 10) (by omega) (by omega), Option.bind_some, digit (by omega) (by omega)]
      rw [gd_t (by
        show (Lib.decDigits (u / 10)).toArray.size + 1 ≤ lim
        rw [List.size_toArray]; omega), Option.bind_some, Lib.decDigits.eq_def u, dif_neg h]
      congr 1
theorem numBoth {n : Int} (h0 : 0 ≤ n) (h1 : n ≤ 999999) : ∃ s : ByteArray, M.strconv_Itoa n = some s ∧ M.spec_l5Num n = some s ∧ s.size ≤ 20 := by
  obtain ⟨u, rfl⟩ : ∃ u : Nat, n = (u : Int) := ⟨n.toNat, by omega⟩
  refine ⟨_, ?_, l5Num u (by omega), ?_⟩
  · rw [M.e_strconv_Itoa]
    show itoaB (u : Int) = _
    rw [itoaB, if_pos ⟨by omega, by omega⟩]
    unfold Lib.itoa
    rw [if_neg (by omega)]
    rfl
  · have := decLen 19 u (by omega)
    show (Lib.decDigits u).toArray.size ≤ 20
    rw [List.size_toArray]; omega

/-! ### types -/
theorem tyBoth : ∀ t : Ty, t.cost ≤ 1048576 → ∀ d : Nat, okT t d → cT t ≤ 10 → ∃ s, M.impl_tyText (t, (d : Int)) = some (s, true) ∧ M.spec_l9Text (t, (d : Int)) = some (s, true) ∧ s.size + 1000000 ≤ 10000000 * cT t := by
  have hlim : lim = 140737488355328 := rfl
  have hcost : ∀ t : Ty, t.S.size ≤ t.cost := fun t => by have := Ty.cost_eq t; omega
  refine Ty.ind (M0 := fun t => t.cost ≤ 1048576 → ∀ d : Nat, okT t d → cT t ≤ 10 → ∃ s, M.impl_tyText (t, (d : Int)) = some (s, true) ∧ M.spec_l9Text (t, (d : Int)) = some (s, true) ∧ s.size + 1000000 ≤ 10000000 * cT t) (fun t ih hs d ho hc => ?_)
  have hS := hcost t
  have hce := cT_eq t
  obtain ⟨z1, z2, z3⟩ := szT1 hs
  obtain ⟨d6, hN, ho⟩ := (okT_iff t d).1 ho
  have h12 : ¬ (12 : Int) < (d : Int) := by omega
  rw [M.e_impl_tyText, M.e_spec_l9Text]
  rcases ho with ⟨k, _, hL⟩ | ⟨k, _, hL⟩ | ⟨k, _, hL, hT⟩
  · rcases k with k | k
    · exact ⟨⟨⟨[73, 110, 116]⟩⟩, by simp [h12, k], by simp [h12, k], by simp only [szl, List.length_cons, List.length_nil]; omega⟩
    · exact ⟨⟨⟨[66, 111, 111, 108]⟩⟩, by simp [h12, k], by simp [h12, k], by simp only [szl, List.length_cons, List.length_nil]; omega⟩
  · exact ⟨t.S, by simp [h12, k], by simp [h12, k], by omega⟩
  · obtain ⟨a, b, e⟩ := two_of hL
    have x0 : ix [a, b] 0 = some a := rfl
    have x1 : ix [a, b] 1 = some b := rfl
    have l2 : (([a, b] : List Ty).length : Int) = 2 := rfl
    have ma : a ∈ t.L := by rw [e]; simp
    have mb : b ∈ t.L := by rw [e]; simp
    rw [if_pos k, e] at hce
    simp only [sumC] at hce
    have hw : IntKind.i64.wrap ((d : Int) + 1) = (d : Int) + 1 := by rw [wrap_ok (by omega)]
    have hd1 : ((d + 1 : Nat) : Int) = (d : Int) + 1 := by omega
    obtain ⟨sa, a1, a2, a3⟩ := ih a ma (z3 a ma) (d + 1) (hT a ma) (by omega)
    obtain ⟨sb, b1, b2, b3⟩ := ih b mb (z3 b mb) (d + 1) (hT b mb) (by omega)
    rw [hd1] at a1 a2 b1 b2
    by_cases ka : a.K = 4
    · refine ⟨(((⟨⟨[40]⟩⟩ ++ sa) ++ ⟨⟨[41]⟩⟩) ++ ⟨⟨[32, 45, 62, 32]⟩⟩) ++ sb, ?_, ?_, ?_⟩
      · simp (disch := omega) [h12, k, e, x0, x1, hw, a1, b1, ka, ByteArray.size_append, szl, gd_t]
      · simp (disch := omega) [h12, k, e, x0, x1, hw, a2, b2, ka, ByteArray.size_append, szl, gd_t]
      · simp only [ByteArray.size_append, szl, List.length_cons, List.length_nil]; omega
    · refine ⟨(sa ++ ⟨⟨[32, 45, 62, 32]⟩⟩) ++ sb, ?_, ?_, ?_⟩
      · simp (disch := omega) [h12, k, e, x0, x1, hw, a1, b1, ka, ByteArray.size_append, szl, gd_t]
      · simp (disch := omega) [h12, k, e, x0, x1, hw, a2, b2, ka, ByteArray.size_append, szl, gd_t]
      · simp only [ByteArray.size_append, szl, List.length_cons, List.length_nil]; omega
noncomputable def tyS (t : Ty) : ByteArray := (M.spec_TyText t).getD ⟨⟨[]⟩⟩
theorem tyT {t : Ty} (hs : t.cost ≤ 1048576) (ho : okT t 1) (hc : cT t ≤ 10) : M.spec_TyText t = some (tyS t) ∧ M.impl_TyText t = some (tyS t) ∧ (tyS t).size ≤ 100000000 := by
  obtain ⟨s, e1, e2, e3⟩ := tyBoth t hs 1 ho hc
  have e1 : M.impl_tyText (t, 1) = some (s, true) := e1
  have e2 : M.spec_l9Text (t, 1) = some (s, true) := e2
  have h1 : M.spec_TyText t = some s := by rw [M.e_spec_TyText, e2]; rfl
  have h2 : M.impl_TyText t = some s := by rw [M.e_impl_TyText, e1]; rfl
  have : tyS t = s := by unfold tyS; rw [h1]; rfl
  rw [this]
  exact ⟨h1, h2, by omega⟩

/-! ### signs ahead -/
def pad (n : Nat) : ByteArray := ⟨(List.replicate n (32 : UInt8)).toArray⟩
theorem pad_size (n : Nat) : (pad n).size = n := by
  show (List.replicate n (32 : UInt8)).toArray.size = n
  simp
theorem pad_succ (n : Nat) : (⟨⟨[32]⟩⟩ : ByteArray) ++ pad n = pad (n + 1) := by
  apply ByteArray.ext
  simp [pad, ByteArray.data_append, List.replicate_succ]
theorem im_blanks {n : Nat} (h : n ≤ 1000000) : M.impl_blanks (n : Int) = some (pad n) := by
  have : M.strings_Repeat ((⟨⟨[32]⟩⟩ : ByteArray), (n : Int)) = some (pad n) := by
    rw [M.e_strings_Repeat]
    show repB _ = _
    rw [repB]
    have h1 : ((⟨⟨[32]⟩⟩ : ByteArray)).size = 1 := rfl
    rw [if_pos ⟨⟨by omega, by omega⟩, by rw [h1]; simp; omega⟩]
    have := Lib.repeatL_replicate 32 1 n
    rw [Nat.mul_one] at this
    show some (⟨(Lib.repeatL [32] n).toArray⟩ : ByteArray) = _
    have e : Lib.repeatL [32] n = List.replicate n 32 := this
    rw [e]
    rfl
  rw [M.e_impl_blanks, this]
  rfl
theorem sp_padL {n : Nat} (h : n ≤ 1000000) : ∀ (k i : Nat) (s : ByteArray), i + k = n → s.size + k ≤ 2000000 → M.spec_l5Pad_L0 ((n : Int), s, (i : Int)) = some (s ++ pad k)
  | 0, i, s, e, hs => by
    have : ¬ (i : Int) < (n : Int) := by omega
    rw [M.e_spec_l5Pad_L0]
    simp only [this, decide_false, cond_false]
    exact congrArg some (app_nil s).symm
  | k + 1, i, s, e, hs => by
    have hlim : lim = 140737488355328 := rfl
    have h1 : (i : Int) < (n : Int) := by omega
    have hw : IntKind.i64.wrap ((i : Int) + 1) = ((i + 1 : Nat) : Int) := by rw [wrap_ok (by omega)]; omega
    have hz : (s ++ (⟨⟨[32]⟩⟩ : ByteArray)).size = s.size + 1 := by rw [ByteArray.size_append]; rfl
    rw [M.e_spec_l5Pad_L0]
    simp only [h1, decide_true, cond_true, hw]
    rw [gd_t (by rw [s32]; omega), Option.bind_some, sp_padL h k (i + 1) _ (by omega) (by omega), app_assoc, pad_succ]
theorem sp_pad {n : Nat} (h : n ≤ 1000000) : M.spec_l5Pad (n : Int) = some (pad n) := by
  have := sp_padL h n 0 ⟨⟨[]⟩⟩ (by omega) (by rw [s0]; omega)
  rw [M.e_spec_l5Pad]
  have this : M.spec_l5Pad_L0 ((n : Int), (⟨⟨[]⟩⟩ : ByteArray), 0) = _ := this
  rw [this]
  exact congrArg some (nil_app _)

/-! ### words -/
abbrev sp1 : ByteArray := ⟨⟨[32]⟩⟩
theorem joinT_size (sep : ByteArray) : ∀ l, (joinT sep l).size = sep.size * l.length + sumC ByteArray.size l
  | [] => by simp [joinT, sumC, szm]
  | x :: l => by
    simp only [joinT, ByteArray.size_append, joinT_size sep l, sumC, List.length_cons, Nat.mul_add, Nat.mul_one]
    omega
theorem joinZ_eq : ∀ l, joinZ l = sumC ByteArray.size l
  | [] => rfl
  | x :: l => by simp [joinZ, sumC, joinZ_eq l]
theorem sp_wordsL {l : List ByteArray} (hl : l.length + sumC ByteArray.size l ≤ 2000000) : ∀ (k i : Nat) (s : ByteArray), i + k = l.length → s ≠ (⟨⟨[]⟩⟩ : ByteArray) → s.size + k + sumC ByteArray.size (l.drop i) ≤ 8000000 → M.spec_l5Words_L0 (l, s, (i : Int)) = some (s ++ joinT sp1 (l.drop i))
  | 0, i, s, e, h0, hs => by
    have : ¬ (i : Int) < (l.length : Int) := by omega
    rw [M.e_spec_l5Words_L0]
    simp only [this, decide_false, cond_false]
    rw [List.drop_eq_nil_of_le (by omega)]
    exact congrArg some (app_nil s).symm
  | k + 1, i, s, e, h0, hs => by
    have hlim : lim = 140737488355328 := rfl
    have hi : i < l.length := by omega
    have h1 : (i : Int) < (l.length : Int) := by omega
    have hw : IntKind.i64.wrap ((i : Int) + 1) = ((i + 1 : Nat) : Int) := by rw [wrap_ok (by omega)]; omega
    rw [List.drop_eq_getElem_cons hi] at hs ⊢
    simp only [sumC] at hs
    have hz : ((s ++ sp1) ++ l[i]).size = s.size + 1 + l[i].size := by rw [ByteArray.size_append, ByteArray.size_append]; rfl
    have hn : (s ++ sp1) ++ l[i] ≠ (⟨⟨[]⟩⟩ : ByteArray) := fun q => by
      have := congrArg ByteArray.size q
      rw [hz, s0] at this
      omega
    rw [M.e_spec_l5Words_L0]
    simp only [h1, decide_true, cond_true, hw, decide_eq_false h0, Bool.not_false]
    rw [gd_t (by rw [s32]; omega), Option.bind_some]
    simp only [Option.bind_some, ix_of (List.getElem?_eq_getElem hi)]
    rw [gd_t (by rw [ByteArray.size_append, s32]; omega), Option.bind_some, sp_wordsL hl k (i + 1) _ (by omega) hn (by rw [hz]; omega), joinT, app_assoc, app_assoc]
theorem sp_words {l : List ByteArray} (hl : l.length + sumC ByteArray.size l ≤ 2000000) {s : ByteArray} (h0 : s ≠ (⟨⟨[]⟩⟩ : ByteArray)) (hs : s.size ≤ 2000000) : M.spec_l5Words (s, l) = some (joinB sp1 (s :: l)) := by
  have := sp_wordsL hl l.length 0 s (by omega) h0 (by rw [List.drop_zero]; omega)
  rw [List.drop_zero] at this
  have this : M.spec_l5Words_L0 (l, s, 0) = _ := this
  rw [M.e_spec_l5Words, this]
  rfl
theorem sp_words0 {v : ByteArray} (hv : v.size ≤ 2000000) : M.spec_l5Words (⟨⟨[]⟩⟩, [v]) = some (joinB sp1 [v]) := by
  have hlim : lim = 140737488355328 := rfl
  have x0 : ix [v] 0 = some v := rfl
  rw [M.e_spec_l5Words, M.e_spec_l5Words_L0]
  have h1 : ((0 : Int) < (([v] : List ByteArray).length : Int)) := by simp
  simp only [h1, decide_true, cond_true, Bool.not_true, cond_false, Option.bind_some, x0]
  rw [gd_t (by rw [s0]; omega), Option.bind_some, M.e_spec_l5Words_L0]
  have h2 : ¬ (IntKind.i64.wrap (0 + 1) < (([v] : List ByteArray).length : Int)) := by rw [show IntKind.i64.wrap (0 + 1) = 1 by decide]; simp
  simp only [h2, decide_false, cond_false, Option.bind_some]
  refine congrArg some ?_
  show (⟨#[]⟩ : ByteArray) ++ v = v ++ ⟨#[]⟩
  rw [nil_app, app_nil]
theorem im_join {l : List ByteArray} {sep : ByteArray} (h : l.length ≤ 4000000) (hz : sep.size ≤ 3) (hs : sumC ByteArray.size l ≤ 140000000000000) : M.strings_Join (l, sep) = some (joinB sep l) := by
  rw [M.e_strings_Join]
  show joinS _ = _
  rw [joinS, if_pos]
  refine ⟨by show l.length ≤ _; omega, ?_⟩
  show sep.size * (l.length - 1) + joinZ l ≤ _
  rw [joinZ_eq]
  have : sep.size * (l.length - 1) ≤ 3 * (l.length - 1) := Nat.mul_le_mul_right _ hz
  omega
def lv (e : Exp) : Int := if e.K = 4 then 4 else if e.K = 9 then (if e.S = (⟨⟨[42]⟩⟩ : ByteArray) then 3 else if e.S = (⟨⟨[43]⟩⟩ : ByteArray) then 2 else if e.S = (⟨⟨[45]⟩⟩ : ByteArray) then 2 else 1) else if e.K = 1 ∨ e.K = 2 ∨ e.K = 3 then 5 else 0
theorem lv_le (e : Exp) : 0 ≤ lv e ∧ lv e ≤ 5 := by unfold lv; split <;> (try split) <;> (try split) <;> (try split) <;> (try split) <;> omega
theorem im_lv (e : Exp) : M.impl_binds e = some (lv e) := by
  rw [M.e_impl_binds]
  unfold lv
  by_cases h4 : e.K = 4
  · simp [h4]
  by_cases h9 : e.K = 9
  · simp only [h4, h9, if_true, decide_true, cond_true, bd]
    simp
    split <;> (try split) <;> (try split) <;> rfl
  by_cases h1 : e.K = 1
  · simp [h1]
  by_cases h2 : e.K = 2
  · simp [h2]
  by_cases h3 : e.K = 3
  · simp [h3]
  simp [h4, h9, h1, h2, h3]
theorem sp_lv (e : Exp) : M.spec_l5Level e = some (lv e) := by
  rw [M.e_spec_l5Level]
  unfold lv
  by_cases h1 : e.K = 1
  · simp [h1]
  by_cases h2 : e.K = 2
  · simp [h2]
  by_cases h3 : e.K = 3
  · simp [h3]
  by_cases h4 : e.K = 4
  · simp [h4]
  by_cases h9 : e.K = 9
  · simp only [h9, decide_true, cond_true, bd]
    simp
    split <;> (try split) <;> (try split) <;> rfl
  simp [h4, h9, h1, h2, h3]
end Q
end W
end
section
/- Texts of expressions: loops that put texts behind each other. -/
namespace W
set_option linter.unusedVariables false
set_option maxRecDepth 100000
set_option maxHeartbeats 1000000
namespace Q
open Go HL HL.X

abbrev nl : ByteArray := ⟨⟨[10]⟩⟩
abbrev arrow : ByteArray := ⟨⟨[32, 45, 62, 32]⟩⟩
def cat : List ByteArray → ByteArray
  | [] => ⟨#[]⟩
  | x :: l => x ++ cat l
theorem catL {α γ : Type} {l : List α} (hl : l.length ≤ lim) (f : α → ByteArray) (lo : Nat) {L : ByteArray → Int → Option γ} (R : ByteArray → γ)
    (hL : ∀ (i : Nat) (x : α) (s : ByteArray), lo ≤ i → l[i]? = some x → x ∈ l → ix l (i : Int) = some x → (i : Int) < (l.length : Int) → IntKind.i64.wrap ((i : Int) + 1) = ((i + 1 : Nat) : Int) → s.size + (f x).size ≤ 100000000000000 → L s (i : Int) = L (s ++ f x) ((i + 1 : Nat) : Int))
    (hend : ∀ s, L s (l.length : Nat) = some (R s)) : ∀ (k i : Nat) (s : ByteArray), i + k = l.length → lo ≤ i → s.size + sumC (fun x => (f x).size) (l.drop i) ≤ 100000000000000 → L s (i : Int) = some (R (s ++ cat ((l.drop i).map f)))
  | 0, i, s, e, h0, h => by
    have hi : i = l.length := by omega
    subst hi
    rw [hend, List.drop_eq_nil_of_le (Nat.le_refl _)]
    exact congrArg (fun z => some (R z)) (app_nil s).symm
  | k + 1, i, s, e, h0, h => by
    have hi : i < l.length := by omega
    have hlim : lim = 140737488355328 := rfl
    have hw : IntKind.i64.wrap ((i : Int) + 1) = ((i + 1 : Nat) : Int) := by rw [wrap_ok (by omega)]; omega
    rw [List.drop_eq_getElem_cons hi] at h ⊢
    simp only [sumC] at h
    rw [hL i l[i] s h0 (List.getElem?_eq_getElem hi) (List.getElem_mem hi) (ix_of (List.getElem?_eq_getElem hi)) (by omega) hw (by omega)]
    rw [catL hl f lo R hL hend k (i + 1) (s ++ f l[i]) (by omega) (by omega) (by rw [ByteArray.size_append]; omega), List.map_cons, cat, app_assoc]
theorem cat_size {α : Type} (f : α → ByteArray) : ∀ l : List α, (cat (l.map f)).size = sumC (fun x => (f x).size) l
  | [] => rfl
  | x :: l => by simp only [List.map_cons, cat, ByteArray.size_append, cat_size f l, sumC]
theorem joinT_cat {α : Type} (sep : ByteArray) (f : α → ByteArray) : ∀ l : List α, joinT sep (l.map f) = cat (l.map fun x => sep ++ f x)
  | [] => rfl
  | x :: l => by simp only [List.map_cons, cat, joinT, joinT_cat sep f l, app_assoc]
theorem cat_end {α : Type} (sep : ByteArray) (f : α → ByteArray) : ∀ l : List α, sep ++ cat (l.map fun x => f x ++ sep) = cat (l.map fun x => sep ++ f x) ++ sep
  | [] => by simp only [List.map_nil, cat, app_nil, nil_app]
  | x :: l => by
    simp only [List.map_cons, cat, app_assoc]
    rw [cat_end sep f l]
theorem sumC_le {α : Type} {f c : α → Nat} {k : Nat} : ∀ {l : List α}, (∀ x ∈ l, f x + k ≤ 10000000 * c x) → sumC f l + k * l.length ≤ 10000000 * sumC c l
  | [], _ => by simp [sumC]
  | x :: l, h => by
    have h1 := h x (by simp)
    have h2 := sumC_le (l := l) (fun y hy => h y (by simp [hy]))
    simp only [sumC, List.length_cons, Nat.mul_add, Nat.mul_one]
    omega

noncomputable def T (e : Exp) (n : Nat) : ByteArray := (M.spec_l5Bare (e, (n : Int))).getD ⟨⟨[]⟩⟩
noncomputable def TA (e : Exp) (m : Int) (n : Nat) : ByteArray := if lv e < m then (⟨⟨[40]⟩⟩ ++ T e n) ++ ⟨⟨[41]⟩⟩ else T e n
noncomputable def TD (x : Dec) (n : Nat) : ByteArray := (M.spec_l5Dec (x, (n : Int))).getD ⟨⟨[]⟩⟩
def LE (e : Exp) (d : Nat) : Prop := ∀ n : Nat, n ≤ 10 * d → M.spec_l5Bare (e, (n : Int)) = some (T e n) ∧ M.impl_expText (e, (n : Int)) = some (T e n) ∧ (T e n).size + 6000000 ≤ 10000000 * cE e
def LD (x : Dec) (d : Nat) : Prop := ∀ n : Nat, n ≤ 10 * d → M.spec_l5Dec (x, (n : Int)) = some (TD x n) ∧ M.impl_decText (x, (n : Int)) = some (TD x n) ∧ (TD x n).size + 2000000 ≤ 10000000 * cD x
theorem LE_of {e : Exp} {d : Nat} (h : ∀ n : Nat, n ≤ 10 * d → ∃ s, M.spec_l5Bare (e, (n : Int)) = some s ∧ M.impl_expText (e, (n : Int)) = some s ∧ s.size + 6000000 ≤ 10000000 * cE e) : LE e d := by
  intro n hn
  obtain ⟨s, h1, h2, h3⟩ := h n hn
  have : T e n = s := by unfold T; rw [h1]; rfl
  rw [this]
  exact ⟨h1, h2, h3⟩
theorem LD_of {x : Dec} {d : Nat} (h : ∀ n : Nat, n ≤ 10 * d → ∃ s, M.spec_l5Dec (x, (n : Int)) = some s ∧ M.impl_decText (x, (n : Int)) = some s ∧ s.size + 2000000 ≤ 10000000 * cD x) : LD x d := by
  intro n hn
  obtain ⟨s, h1, h2, h3⟩ := h n hn
  have : TD x n = s := by unfold TD; rw [h1]; rfl
  rw [this]
  exact ⟨h1, h2, h3⟩
theorem TA0 (e : Exp) (n : Nat) : TA e 0 n = T e n := by
  unfold TA
  rw [if_neg (by have := lv_le e; omega)]
theorem at_both {e : Exp} {d n : Nat} (h : LE e d) (hn : n ≤ 10 * d) (hc : cE e ≤ 1000000) (m : Int) :
    M.spec_l5At (e, m, (n : Int)) = some (TA e m n) ∧ M.impl_within (e, m, (n : Int)) = some (TA e m n) ∧ (TA e m n).size + 5000000 ≤ 10000000 * cE e := by
  have hlim : lim = 140737488355328 := rfl
  obtain ⟨h1, h2, h3⟩ := h n hn
  rw [M.e_spec_l5At, M.e_impl_within]
  unfold TA
  by_cases q : lv e < m
  · simp only [q, if_true]
    refine ⟨?_, ?_, ?_⟩
    · simp (disch := omega) [h1, sp_lv, q, ByteArray.size_append, szl, gd_t]
    · simp (disch := omega) [h2, im_lv, q, ByteArray.size_append, szl, gd_t]
    · simp only [ByteArray.size_append, szl, List.length_cons, List.length_nil]; omega
  · simp only [q, if_false]
    refine ⟨?_, ?_, by omega⟩
    · simp [h1, sp_lv, q]
    · simp [h2, im_lv, q]

theorem cE_pos (e : Exp) : 1 ≤ cE e := by rw [cE_eq]; omega

/-! ### Decs -/
theorem sp_decsT {l : List Dec} {n : Nat} (hl : 1 ≤ l.length) (hl2 : l.length ≤ 1048576) (h : ∀ x ∈ l, M.spec_l5Dec (x, (n : Int)) = some (TD x n)) (hz : sumC (fun x => (TD x n).size + 1) l ≤ 90000000000000) :
    M.spec_l5Decs (l, (n : Int)) = some (joinB nl (l.map fun x => TD x n)) := by
  have hlim : lim = 140737488355328 := rfl
  have hnl : nl.size = 1 := rfl
  have main := catL (l := l) (by omega) (fun x => nl ++ TD x n) 1 (L := fun s i => M.spec_l5Decs_L0 (l, (n : Int), s, i)) (fun s => s) (fun i x s h0 hx hm hix hi hw hs => by
    show M.spec_l5Decs_L0 (l, (n : Int), s, (i : Int)) = _
    rw [ByteArray.size_append, hnl] at hs
    have h1 : (0 : Int) < (i : Int) := by omega
    rw [M.e_spec_l5Decs_L0]
    simp only [hi, h1, decide_true, cond_true, hix, h x hm, hw]
    rw [gd_t (by show s.size + 1 ≤ _; omega)]
    simp only [Option.bind_some, h x hm]
    rw [gd_t (by rw [ByteArray.size_append, hnl]; omega)]
    rw [Option.bind_some, app_assoc]) (fun s => by
    show M.spec_l5Decs_L0 (l, (n : Int), s, (l.length : Int)) = _
    rw [M.e_spec_l5Decs_L0]
    simp)
  obtain ⟨y, r, rfl⟩ : ∃ y r, l = y :: r := by cases l with | nil => simp at hl | cons y r => exact ⟨y, r, rfl⟩
  simp only [sumC] at hz
  have hsz : (⟨⟨[]⟩⟩ : ByteArray).size = 0 := rfl
  have h0 : ((0 : Int) < ((y :: r).length : Int)) := by simp
  have x0 : ix (y :: r) 0 = some y := rfl
  have m1 := main r.length 1 ((⟨⟨[]⟩⟩ : ByteArray) ++ TD y n) (by simp; omega) (Nat.le_refl _) (by
    rw [ByteArray.size_append, hsz]
    show 0 + (TD y n).size + sumC (fun x => (nl ++ TD x n).size) r ≤ _
    have : sumC (fun x => (nl ++ TD x n).size) r = sumC (fun x => (TD x n).size + 1) r := by
      exact congrArg (fun f => sumC f r) (funext fun x => by rw [ByteArray.size_append, hnl, Nat.add_comm])
    rw [this]; omega)
  have m1 : M.spec_l5Decs_L0 (y :: r, (n : Int), (⟨⟨[]⟩⟩ : ByteArray) ++ TD y n, 1) = some (((⟨⟨[]⟩⟩ : ByteArray) ++ TD y n) ++ cat (r.map fun x => nl ++ TD x n)) := m1
  rw [M.e_spec_l5Decs, M.e_spec_l5Decs_L0]
  simp only [h0, decide_true, cond_true, Int.lt_irrefl, decide_false, cond_false, Option.bind_some, x0, h y (by simp)]
  rw [gd_t (by rw [hsz]; omega), Option.bind_some, show IntKind.i64.wrap (0 + 1) = 1 by decide, m1, List.map_cons, joinB, joinT_cat]
  exact congrArg some (by rw [show ((⟨⟨[]⟩⟩ : ByteArray) ++ TD y n) = TD y n from nil_app _])
theorem im_letL {l : List Dec} {n : Nat} (hn : n ≤ 1000000) (hl2 : l.length ≤ 1048576) (e : Exp) (h : ∀ x ∈ l, M.impl_decText (x, ((n + 2 : Nat) : Int)) = some (TD x (n + 2))) (s : ByteArray) (hz : s.size + sumC (fun x => (TD x (n + 2)).size + 1) l ≤ 90000000000000) :
    M.impl_expText_L0 ((n : Int), s, l, (l.length : Int), 0, e) = some (s ++ cat (l.map fun x => TD x (n + 2) ++ nl), e) := by
  have hlim : lim = 140737488355328 := rfl
  have hnl : nl.size = 1 := rfl
  have hn2 : IntKind.i64.wrap ((n : Int) + 2) = ((n + 2 : Nat) : Int) := by rw [wrap_ok (by omega)]; omega
  have main := catL (l := l) (by omega) (fun x => TD x (n + 2) ++ nl) 0 (L := fun s i => M.impl_expText_L0 ((n : Int), s, l, (l.length : Int), i, e)) (fun s => (s, e)) (fun i x s h0 hx hm hix hi hw hs => by
    show M.impl_expText_L0 ((n : Int), s, l, (l.length : Int), (i : Int), e) = _
    rw [ByteArray.size_append, hnl] at hs
    rw [M.e_impl_expText_L0]
    simp only [hi, decide_true, cond_true, hix, hn2, h x hm, hw, Option.bind_some]
    rw [gd_t (by show (TD x (n + 2)).size + 1 ≤ _; omega)]
    simp only [Option.bind_some]
    rw [gd_t (by rw [ByteArray.size_append]; show s.size + ((TD x (n + 2)).size + 1) ≤ _; omega)]
    rw [Option.bind_some]) (fun s => by
    show M.impl_expText_L0 ((n : Int), s, l, (l.length : Int), (l.length : Int), e) = _
    rw [M.e_impl_expText_L0]
    simp) l.length 0 s (by omega) (Nat.le_refl _) (by
    rw [List.drop_zero]
    have : sumC (fun x => (TD x (n + 2) ++ nl).size) l = sumC (fun x => (TD x (n + 2)).size + 1) l := by
      congr 1; funext x; rw [ByteArray.size_append, hnl]
    rw [this]; omega)
  rw [List.drop_zero] at main
  exact main
theorem im_whereL {l : List Dec} {n : Nat} (hn : n ≤ 1000000) (hl2 : l.length ≤ 1048576) (h : ∀ x ∈ l, M.impl_decText (x, ((n + 4 : Nat) : Int)) = some (TD x (n + 4))) (s : ByteArray) (hz : s.size + sumC (fun x => (TD x (n + 4)).size + 1) l ≤ 90000000000000) :
    M.impl_decText_L0 ((n : Int), s, l, (l.length : Int), 0) = some (s ++ joinT nl (l.map fun x => TD x (n + 4))) := by
  have hlim : lim = 140737488355328 := rfl
  have hnl : nl.size = 1 := rfl
  have hn2 : IntKind.i64.wrap ((n : Int) + 4) = ((n + 4 : Nat) : Int) := by rw [wrap_ok (by omega)]; omega
  have main := catL (l := l) (by omega) (fun x => nl ++ TD x (n + 4)) 0 (L := fun s i => M.impl_decText_L0 ((n : Int), s, l, (l.length : Int), i)) (fun s => s) (fun i x s h0 hx hm hix hi hw hs => by
    show M.impl_decText_L0 ((n : Int), s, l, (l.length : Int), (i : Int)) = _
    rw [ByteArray.size_append, hnl] at hs
    rw [M.e_impl_decText_L0]
    simp only [hi, decide_true, cond_true, hix, hn2, h x hm, hw, Option.bind_some]
    rw [gd_t (by show 1 + (TD x (n + 4)).size ≤ _; omega)]
    simp only [Option.bind_some]
    rw [gd_t (by rw [ByteArray.size_append]; show s.size + (1 + (TD x (n + 4)).size) ≤ _; omega)]
    rw [Option.bind_some]) (fun s => by
    show M.impl_decText_L0 ((n : Int), s, l, (l.length : Int), (l.length : Int)) = _
    rw [M.e_impl_decText_L0]
    simp) l.length 0 s (by omega) (Nat.le_refl _) (by
    rw [List.drop_zero]
    have : sumC (fun x => (nl ++ TD x (n + 4)).size) l = sumC (fun x => (TD x (n + 4)).size + 1) l := by
      exact congrArg (fun f => sumC f l) (funext fun x => by rw [ByteArray.size_append, hnl, Nat.add_comm])
    rw [this]; omega)
  rw [List.drop_zero] at main
  rw [joinT_cat]
  exact main

/-! ### Alts -/
noncomputable def altS (a : Alt) (n : Nat) : ByteArray := ((pad n ++ joinB sp1 (if a.Great = (⟨⟨[]⟩⟩ : ByteArray) then a.Vars else a.Great :: a.Vars)) ++ arrow) ++ T a.E (n + 2)
theorem im_clone {l : List ByteArray} (h : l.length ≤ 2000000) : M.slices_Clone_string l = some l := by
  rw [M.e_slices_Clone_string, gd_t (show l.length ≤ grow by simp [grow]; omega)]
  cases l with
  | nil => show X.meet (some []) (some []) = _; simp [X.meet]
  | cons x l => rfl
theorem joinB_size {l : List ByteArray} : (joinB sp1 l).size ≤ l.length + sumC ByteArray.size l := by
  cases l with
  | nil => simp [joinB, szm]
  | cons x l =>
    rw [joinB, ByteArray.size_append, joinT_size]
    have : sp1.size = 1 := rfl
    simp only [sumC, List.length_cons, this]
    omega
theorem alt_both {a : Alt} (hs : a.cost ≤ 1048576) (ha : altP a) {d n : Nat} (hn : n + 2 ≤ 10 * d) (hd : d ≤ 100) (h : LE a.E d) (hc : cE a.E ≤ 1000000) :
    M.spec_l5Words (a.Great, a.Vars) = some (joinB sp1 (if a.Great = (⟨⟨[]⟩⟩ : ByteArray) then a.Vars else a.Great :: a.Vars)) ∧ M.impl_altText (a, (n : Int)) = some (altS a n) ∧ (altS a n).size + 1000000 ≤ 10000000 * cE a.E
      ∧ (joinB sp1 (if a.Great = (⟨⟨[]⟩⟩ : ByteArray) then a.Vars else a.Great :: a.Vars)).size ≤ 4000000 := by
  have hlim : lim = 140737488355328 := rfl
  have hce := Alt.cost_eq a
  obtain ⟨h1, h2, h3⟩ := h (n + 2) hn
  have hn2 : IntKind.i64.wrap ((n : Int) + 2) = ((n + 2 : Nat) : Int) := by rw [wrap_ok (by omega)]; omega
  have hp := pad_size n
  have har : arrow.size = 4 := rfl
  have hw : sumC ByteArray.size (if a.Great = (⟨⟨[]⟩⟩ : ByteArray) then a.Vars else a.Great :: a.Vars) ≤ 2000000 ∧ (if a.Great = (⟨⟨[]⟩⟩ : ByteArray) then a.Vars else a.Great :: a.Vars).length ≤ 1100000 := by
    split
    · omega
    · simp only [sumC, List.length_cons]; omega
  have hj := joinB_size (l := if a.Great = (⟨⟨[]⟩⟩ : ByteArray) then a.Vars else a.Great :: a.Vars)
  refine ⟨?_, ?_, ?_, by omega⟩
  · rcases ha with ⟨g, v, _⟩ | ⟨g, _, _⟩
    · rw [if_pos g]
      obtain ⟨x, hx⟩ : ∃ x, a.Vars = [x] := List.length_eq_one_iff.1 v
      rw [show a.Great = (⟨⟨[]⟩⟩ : ByteArray) from g, hx]
      refine sp_words0 ?_
      rw [hx] at hce
      simp only [sumC, List.length_cons] at hce
      omega
    · rw [if_neg g]
      exact sp_words (by omega) g (by omega)
  · have hjn := im_join (l := if a.Great = (⟨⟨[]⟩⟩ : ByteArray) then a.Vars else a.Great :: a.Vars) (sep := sp1) (by omega) (by decide) (by omega)
    rw [M.e_impl_altText]
    simp only [im_clone (l := a.Vars) (by omega), Option.bind_some, im_blanks (n := n) (by omega), hn2]
    unfold altS
    generalize joinB sp1 (if a.Great = (⟨⟨[]⟩⟩ : ByteArray) then a.Vars else a.Great :: a.Vars) = J at *
    have fin : ∀ e : Exp, e = a.E → ((gd ((pad n).size + J.size ≤ lim)).bind fun _ =>
      (gd ((pad n ++ J).size + arrow.size ≤ lim)).bind fun _ =>
      (M.impl_expText (e, ((n + 2 : Nat) : Int))).bind fun r5 =>
      (gd (((pad n ++ J) ++ arrow).size + r5.size ≤ lim)).bind fun _ =>
      some (((pad n ++ J) ++ arrow) ++ r5)) = some (((pad n ++ J) ++ arrow) ++ T a.E (n + 2)) := fun e he => by
      subst he
      rw [gd_t (by omega), Option.bind_some, gd_t (by rw [ByteArray.size_append]; omega), Option.bind_some, h2, Option.bind_some, gd_t (by rw [ByteArray.size_append, ByteArray.size_append]; omega), Option.bind_some]
    by_cases g : a.Great = (⟨⟨[]⟩⟩ : ByteArray)
    · rw [if_pos g] at hjn
      simp only [g, decide_true, Bool.not_true, cond_false, Option.bind_some, hjn]
      exact fin a.E rfl
    · rw [if_neg g] at hjn
      simp only [g, decide_false, Bool.not_false, cond_true, gd_t (show (([a.Great] : List ByteArray).length + a.Vars.length ≤ grow) by simp [grow]; omega), Option.bind_some, List.singleton_append, hjn]
      exact fin a.E rfl
  · unfold altS
    rw [ByteArray.size_append, ByteArray.size_append, ByteArray.size_append]
    omega
end Q
end W
end
section
/- Texts of expressions: each kind. -/
namespace W
set_option linter.unusedVariables false
set_option maxRecDepth 100000
set_option maxHeartbeats 1000000
namespace Q
open Go HL HL.X

theorem shape {e : Exp} (h : hereP e) : (e.K ≠ 6 → e.Decs = []) ∧ (e.K ≠ 7 → e.Alts = []) := by
  simp only [← List.length_eq_zero_iff]
  unfold hereP bareP at h
  grind
theorem shapeL {e : Exp} (h : hereP e) : (e.K = 1 ∨ e.K = 2 ∨ (e.K = 3 ∧ 0 ≤ e.N ∧ e.N ≤ 999999)) ∨ ((e.K = 5 ∨ e.K = 6 ∨ e.K = 7) ∧ e.L.length = 1) ∨ ((e.K = 4 ∨ e.K = 9) ∧ e.L.length = 2) ∨ (e.K = 8 ∧ e.L.length = 3) := by
  unfold hereP bareP at h
  grind (splits := 40)
theorem three_of {l : List Exp} (h : l.length = 3) : ∃ a b c, l = [a, b, c] := by
  match l, h with
  | [a, b, c], _ => exact ⟨a, b, c, rfl⟩
theorem joinB_nl {α : Type} (f : α → ByteArray) {l : List α} (h : 1 ≤ l.length) : joinB nl (l.map f) ++ nl = cat (l.map fun x => f x ++ nl) := by
  obtain ⟨y, r, rfl⟩ : ∃ y r, l = y :: r := by cases l with | nil => simp at h | cons y r => exact ⟨y, r, rfl⟩
  simp only [List.map_cons, joinB, cat, joinT_cat, app_assoc]
  rw [cat_end nl f r]
theorem joinT_B (sep : ByteArray) {l : List ByteArray} (h : 1 ≤ l.length) : joinT sep l = sep ++ joinB sep l := by
  cases l with
  | nil => simp at h
  | cons y r => rfl

theorem sumC_le0 {α : Type} {f c : α → Nat} : ∀ {l : List α}, (∀ x ∈ l, f x ≤ 10000000 * c x) → sumC f l ≤ 10000000 * sumC c l
  | [], _ => by simp [sumC]
  | x :: l, h => by
    have h1 := h x (by simp)
    have h2 := sumC_le0 (l := l) (fun y hy => h y (by simp [hy]))
    simp only [sumC, Nat.mul_add]
    omega
theorem sp_altsT {l : List Alt} {n d : Nat} (hl : l.length ≤ 1048576) (hn : n + 2 ≤ 10 * d) (hd : d ≤ 100) (hs : ∀ a ∈ l, a.cost ≤ 1048576) (ha : ∀ a ∈ l, altP a) (hE : ∀ a ∈ l, LE a.E d) (hc : ∀ a ∈ l, cE a.E ≤ 1000000) (hz : sumC (fun a => (altS a n).size + 1) l ≤ 90000000000000) :
    M.spec_l5Alts (l, (n : Int)) = some (joinT nl (l.map fun a => altS a n)) := by
  have hlim : lim = 140737488355328 := rfl
  have hnl : nl.size = 1 := rfl
  have har : arrow.size = 4 := rfl
  have hp := pad_size n
  have hn2 : IntKind.i64.wrap ((n : Int) + 2) = ((n + 2 : Nat) : Int) := by rw [wrap_ok (by omega)]; omega
  have main := catL (l := l) (by omega) (fun a => nl ++ altS a n) 0 (L := fun s i => M.spec_l5Alts_L0 (l, (n : Int), s, i)) (fun s => s) (fun i a s h0 hx hm hix hi hw hss => by
    show M.spec_l5Alts_L0 (l, (n : Int), s, (i : Int)) = _
    rw [ByteArray.size_append, hnl] at hss
    obtain ⟨w1, w2, w3, w4⟩ := alt_both (hs a hm) (ha a hm) hn hd (hE a hm) (hc a hm)
    obtain ⟨q1, q2, q3⟩ := at_both (hE a hm) hn (hc a hm) 0
    have hca := hc a hm
    rw [TA0] at q1 q3
    have hsz : (altS a n).size = n + (joinB sp1 (if a.Great = (⟨⟨[]⟩⟩ : ByteArray) then a.Vars else a.Great :: a.Vars)).size + 4 + (T a.E (n + 2)).size := by
      unfold altS
      rw [ByteArray.size_append, ByteArray.size_append, ByteArray.size_append]; omega
    have halt : altS a n = ((pad n ++ joinB sp1 (if a.Great = (⟨⟨[]⟩⟩ : ByteArray) then a.Vars else a.Great :: a.Vars)) ++ arrow) ++ T a.E (n + 2) := rfl
    rw [halt]
    generalize joinB sp1 (if a.Great = (⟨⟨[]⟩⟩ : ByteArray) then a.Vars else a.Great :: a.Vars) = J at *
    rw [M.e_spec_l5Alts_L0]
    simp only [hi, decide_true, cond_true, hix, hn2, w1, q1, hw, Option.bind_some, sp_pad (n := n) (by omega)]
    rw [gd_t (by show s.size + 1 ≤ _; omega), Option.bind_some]
    rw [gd_t (by rw [ByteArray.size_append, hnl]; omega), Option.bind_some]
    rw [gd_t (by rw [ByteArray.size_append, ByteArray.size_append, hnl]; omega), Option.bind_some]
    rw [gd_t (by rw [ByteArray.size_append, ByteArray.size_append, ByteArray.size_append, hnl, har]; omega), Option.bind_some]
    rw [gd_t (by rw [ByteArray.size_append, ByteArray.size_append, ByteArray.size_append, ByteArray.size_append, hnl, har]; omega), Option.bind_some]
    simp only [app_assoc]) (fun s => by
    show M.spec_l5Alts_L0 (l, (n : Int), s, (l.length : Int)) = _
    rw [M.e_spec_l5Alts_L0]
    simp) l.length 0 ⟨⟨[]⟩⟩ (by omega) (Nat.le_refl _) (by
    rw [List.drop_zero, s0]
    have : sumC (fun x => (nl ++ altS x n).size) l = sumC (fun x => (altS x n).size + 1) l := congrArg (fun f => sumC f l) (funext fun x => by rw [ByteArray.size_append, hnl, Nat.add_comm])
    rw [this]; omega)
  rw [List.drop_zero] at main
  have main : M.spec_l5Alts_L0 (l, (n : Int), ⟨⟨[]⟩⟩, 0) = _ := main
  rw [M.e_spec_l5Alts, main, joinT_cat]
  exact congrArg some (nil_app _)
theorem im_altsL {l : List Alt} {n d : Nat} (hl : l.length ≤ 1048576) (hn : n + 4 ≤ 10 * d) (hd : d ≤ 100) (hs : ∀ a ∈ l, a.cost ≤ 1048576) (ha : ∀ a ∈ l, altP a) (hE : ∀ a ∈ l, LE a.E d) (hc : ∀ a ∈ l, cE a.E ≤ 1000000) (s : ByteArray) (hz : s.size + sumC (fun a => (altS a (n + 2)).size + 1) l ≤ 90000000000000) :
    M.impl_expText_L1 ((n : Int), s, l, (l.length : Int), 0) = some (s ++ joinT nl (l.map fun a => altS a (n + 2))) := by
  have hlim : lim = 140737488355328 := rfl
  have hnl : nl.size = 1 := rfl
  have hn2 : IntKind.i64.wrap ((n : Int) + 2) = ((n + 2 : Nat) : Int) := by rw [wrap_ok (by omega)]; omega
  have main := catL (l := l) (by omega) (fun a => nl ++ altS a (n + 2)) 0 (L := fun s i => M.impl_expText_L1 ((n : Int), s, l, (l.length : Int), i)) (fun s => s) (fun i a s h0 hx hm hix hi hw hss => by
    show M.impl_expText_L1 ((n : Int), s, l, (l.length : Int), (i : Int)) = _
    rw [ByteArray.size_append, hnl] at hss
    obtain ⟨w1, w2, w3, w4⟩ := alt_both (hs a hm) (ha a hm) (n := n + 2) (by omega) hd (hE a hm) (hc a hm)
    rw [M.e_impl_expText_L1]
    simp only [hi, decide_true, cond_true, hix, hn2, w2, hw, Option.bind_some]
    rw [gd_t (by show 1 + (altS a (n + 2)).size ≤ _; omega), Option.bind_some]
    rw [gd_t (by rw [ByteArray.size_append]; show s.size + (1 + (altS a (n + 2)).size) ≤ _; omega), Option.bind_some]) (fun s => by
    show M.impl_expText_L1 ((n : Int), s, l, (l.length : Int), (l.length : Int)) = _
    rw [M.e_impl_expText_L1]
    simp) l.length 0 s (by omega) (Nat.le_refl _) (by
    rw [List.drop_zero]
    have : sumC (fun x => (nl ++ altS x (n + 2)).size) l = sumC (fun x => (altS x (n + 2)).size + 1) l := congrArg (fun f => sumC f l) (funext fun x => by rw [ByteArray.size_append, hnl, Nat.add_comm])
    rw [this]; omega)
  rw [List.drop_zero] at main
  rw [joinT_cat]
  exact main

end Q
end W
end
section
/- Texts of expressions: each kind, one by one. -/
namespace W
set_option linter.unusedVariables false
set_option maxRecDepth 100000
set_option maxHeartbeats 1000000
namespace Q
open Go HL HL.X

theorem LE_1 {e : Exp} (hs : e.cost ≤ 1048576) (hc : cE e ≤ 1000000) {d : Nat} (ho : okE e d) (hL : ∀ x ∈ e.L, LE x (d + 1)) (hA : ∀ a ∈ e.Alts, LE a.E (d + 1)) (hD : ∀ x ∈ e.Decs, e.K = 6 → LD x (d + 1)) (k : e.K = 1)  : LE e d := by
  have hlim : lim = 140737488355328 := rfl
  have hcost := Exp.cost_eq e
  have hce := cE_eq e
  obtain ⟨d12, hh, oL, oA, oD⟩ := (okE_iff e d).1 ho
  obtain ⟨z1, ⟨z2, z3⟩, ⟨z4, z5⟩, z6, z7⟩ := szE hs
  obtain ⟨p1, p2⟩ := shape hh
  refine LE_of fun n hn => ?_
  have hw2 : IntKind.i64.wrap ((n : Int) + 2) = (n : Int) + 2 := wrap_ok (by omega)
  have hd2 : ((n + 2 : Nat) : Int) = (n : Int) + 2 := by omega
  have hp := pad_size n
  have hnl : nl.size = 1 := rfl
  have hcp : 1 ≤ cE e := cE_pos e
  refine ⟨e.S, ?_, ?_, by omega⟩
  · rw [M.e_spec_l5Bare]; simp [k]
  · rw [M.e_impl_expText]; simp [k]

theorem LE_2 {e : Exp} (hs : e.cost ≤ 1048576) (hc : cE e ≤ 1000000) {d : Nat} (ho : okE e d) (hL : ∀ x ∈ e.L, LE x (d + 1)) (hA : ∀ a ∈ e.Alts, LE a.E (d + 1)) (hD : ∀ x ∈ e.Decs, e.K = 6 → LD x (d + 1)) (k : e.K = 2)  : LE e d := by
  have hlim : lim = 140737488355328 := rfl
  have hcost := Exp.cost_eq e
  have hce := cE_eq e
  obtain ⟨d12, hh, oL, oA, oD⟩ := (okE_iff e d).1 ho
  obtain ⟨z1, ⟨z2, z3⟩, ⟨z4, z5⟩, z6, z7⟩ := szE hs
  obtain ⟨p1, p2⟩ := shape hh
  refine LE_of fun n hn => ?_
  have hw2 : IntKind.i64.wrap ((n : Int) + 2) = (n : Int) + 2 := wrap_ok (by omega)
  have hd2 : ((n + 2 : Nat) : Int) = (n : Int) + 2 := by omega
  have hp := pad_size n
  have hnl : nl.size = 1 := rfl
  have hcp : 1 ≤ cE e := cE_pos e
  refine ⟨e.S, ?_, ?_, by omega⟩
  · rw [M.e_spec_l5Bare]; simp [k]
  · rw [M.e_impl_expText]; simp [k]

theorem LE_3 {e : Exp} (hs : e.cost ≤ 1048576) (hc : cE e ≤ 1000000) {d : Nat} (ho : okE e d) (hL : ∀ x ∈ e.L, LE x (d + 1)) (hA : ∀ a ∈ e.Alts, LE a.E (d + 1)) (hD : ∀ x ∈ e.Decs, e.K = 6 → LD x (d + 1)) (k : e.K = 3) (n0 : 0 ≤ e.N) (n1 : e.N ≤ 999999)  : LE e d := by
  have hlim : lim = 140737488355328 := rfl
  have hcost := Exp.cost_eq e
  have hce := cE_eq e
  obtain ⟨d12, hh, oL, oA, oD⟩ := (okE_iff e d).1 ho
  obtain ⟨z1, ⟨z2, z3⟩, ⟨z4, z5⟩, z6, z7⟩ := szE hs
  obtain ⟨p1, p2⟩ := shape hh
  refine LE_of fun n hn => ?_
  have hw2 : IntKind.i64.wrap ((n : Int) + 2) = (n : Int) + 2 := wrap_ok (by omega)
  have hd2 : ((n + 2 : Nat) : Int) = (n : Int) + 2 := by omega
  have hp := pad_size n
  have hnl : nl.size = 1 := rfl
  have hcp : 1 ≤ cE e := cE_pos e
  obtain ⟨s, e1, e2, e3⟩ := numBoth n0 n1
  refine ⟨s, ?_, ?_, by omega⟩
  · rw [M.e_spec_l5Bare]; simp [k, e2]
  · rw [M.e_impl_expText]; simp [k, e1]

theorem LE_5 {e : Exp} (hs : e.cost ≤ 1048576) (hc : cE e ≤ 1000000) {d : Nat} (ho : okE e d) (hL : ∀ x ∈ e.L, LE x (d + 1)) (hA : ∀ a ∈ e.Alts, LE a.E (d + 1)) (hD : ∀ x ∈ e.Decs, e.K = 6 → LD x (d + 1)) (k : e.K = 5) (hl : e.L.length = 1)  : LE e d := by
  have hlim : lim = 140737488355328 := rfl
  have hcost := Exp.cost_eq e
  have hce := cE_eq e
  obtain ⟨d12, hh, oL, oA, oD⟩ := (okE_iff e d).1 ho
  obtain ⟨z1, ⟨z2, z3⟩, ⟨z4, z5⟩, z6, z7⟩ := szE hs
  obtain ⟨p1, p2⟩ := shape hh
  refine LE_of fun n hn => ?_
  have hw2 : IntKind.i64.wrap ((n : Int) + 2) = (n : Int) + 2 := wrap_ok (by omega)
  have hd2 : ((n + 2 : Nat) : Int) = (n : Int) + 2 := by omega
  have hp := pad_size n
  have hnl : nl.size = 1 := rfl
  have hcp : 1 ≤ cE e := cE_pos e
  obtain ⟨a, eL⟩ : ∃ a, e.L = [a] := List.length_eq_one_iff.1 hl
  have ma : a ∈ e.L := by rw [eL]; simp
  have x0 : ix [a] 0 = some a := rfl
  rw [eL] at hce
  simp only [sumC] at hce
  obtain ⟨a1, a2, a3⟩ := (hL a ma) n (by omega)
  obtain ⟨b1, _, _⟩ := at_both (hL a ma) (n := n) (by omega) (by omega) 0
  rw [TA0] at b1
  obtain ⟨c1, c2, c3⟩ := at_both (hL a ma) (n := n) (by omega) (by omega) 1
  refine ⟨((⟨⟨[92]⟩⟩ ++ e.S) ++ arrow) ++ T a n, ?_, ?_, ?_⟩
  · rw [M.e_spec_l5Bare]
    simp (disch := omega) [k, eL, x0, b1, ByteArray.size_append, szl, gd_t]
  · rw [M.e_impl_expText]
    simp (disch := omega) [k, eL, x0, a2, ByteArray.size_append, szl, gd_t]
  · simp only [ByteArray.size_append, szl, List.length_cons, List.length_nil]; omega

theorem LE_6 {e : Exp} (hs : e.cost ≤ 1048576) (hc : cE e ≤ 1000000) {d : Nat} (ho : okE e d) (hL : ∀ x ∈ e.L, LE x (d + 1)) (hA : ∀ a ∈ e.Alts, LE a.E (d + 1)) (hD : ∀ x ∈ e.Decs, e.K = 6 → LD x (d + 1)) (k : e.K = 6) (hl : e.L.length = 1)  : LE e d := by
  have hlim : lim = 140737488355328 := rfl
  have hcost := Exp.cost_eq e
  have hce := cE_eq e
  obtain ⟨d12, hh, oL, oA, oD⟩ := (okE_iff e d).1 ho
  obtain ⟨z1, ⟨z2, z3⟩, ⟨z4, z5⟩, z6, z7⟩ := szE hs
  obtain ⟨p1, p2⟩ := shape hh
  refine LE_of fun n hn => ?_
  have hw2 : IntKind.i64.wrap ((n : Int) + 2) = (n : Int) + 2 := wrap_ok (by omega)
  have hd2 : ((n + 2 : Nat) : Int) = (n : Int) + 2 := by omega
  have hp := pad_size n
  have hnl : nl.size = 1 := rfl
  have hcp : 1 ≤ cE e := cE_pos e
  obtain ⟨a, eL⟩ : ∃ a, e.L = [a] := List.length_eq_one_iff.1 hl
  have ma : a ∈ e.L := by rw [eL]; simp
  have x0 : ix [a] 0 = some a := rfl
  rw [eL] at hce
  simp only [sumC] at hce
  obtain ⟨a1, a2, a3⟩ := (hL a ma) n (by omega)
  obtain ⟨b1, _, _⟩ := at_both (hL a ma) (n := n) (by omega) (by omega) 0
  rw [TA0] at b1
  obtain ⟨c1, c2, c3⟩ := at_both (hL a ma) (n := n) (by omega) (by omega) 1
  rw [if_pos k] at hce
  have hdl := (oD k).1
  have t1 : ∀ x ∈ e.Decs, M.spec_l5Dec (x, ((n + 2 : Nat) : Int)) = some (TD x (n + 2)) := fun x hx => (hD x hx k (n + 2) (by omega)).1
  have t2 : ∀ x ∈ e.Decs, M.impl_decText (x, ((n + 2 : Nat) : Int)) = some (TD x (n + 2)) := fun x hx => (hD x hx k (n + 2) (by omega)).2.1
  have t3 := sumC_le0 (l := e.Decs) (f := fun x => (TD x (n + 2)).size + 1) (c := cD) (fun x hx => by have := (hD x hx k (n + 2) (by omega)).2.2; omega)
  have u1 := sp_decsT hdl.1 z4 t1 (by omega)
  rw [hd2] at u1
  have hls : (⟨⟨[108, 101, 116, 10]⟩⟩ : ByteArray).size = 4 := rfl
  have u2 := im_letL (n := n) (by omega) z4 e t2 ⟨⟨[108, 101, 116, 10]⟩⟩ (by rw [hls]; omega)
  have u3 := joinB_nl (fun x => TD x (n + 2)) hdl.1
  have u4 : (cat (e.Decs.map fun x => TD x (n + 2) ++ nl)).size = sumC (fun x => (TD x (n + 2)).size + 1) e.Decs := by
    rw [cat_size]
    exact congrArg (fun f => sumC f e.Decs) (funext fun x => by rw [ByteArray.size_append, hnl])
  have u5 : (joinB nl (e.Decs.map fun x => TD x (n + 2))).size + 1 = sumC (fun x => (TD x (n + 2)).size + 1) e.Decs := by
    rw [← u4, ← u3, ByteArray.size_append, hnl]
  have hbl := im_blanks (n := n) (by omega)
  have hpd := sp_pad (n := n) (by omega)
  generalize joinB nl (e.Decs.map fun x => TD x (n + 2)) = J at *
  generalize cat (e.Decs.map fun x => TD x (n + 2) ++ nl) = C at *
  refine ⟨((((⟨⟨[108, 101, 116, 10]⟩⟩ ++ J) ++ nl) ++ pad n) ++ ⟨⟨[105, 110, 32]⟩⟩) ++ T a n, ?_, ?_, ?_⟩
  · rw [M.e_spec_l5Bare]
    simp (disch := omega) [k, eL, x0, b1, u1, hw2, hpd, ByteArray.size_append, szl, gd_t]
  · rw [app_assoc (⟨⟨[108, 101, 116, 10]⟩⟩ : ByteArray) J nl, u3, M.e_impl_expText]
    simp (disch := omega) [k, eL, x0, a2, u2, hbl, ByteArray.size_append, szl, gd_t]
  · simp only [ByteArray.size_append, szl, List.length_cons, List.length_nil]; omega

theorem LE_7 {e : Exp} (hs : e.cost ≤ 1048576) (hc : cE e ≤ 1000000) {d : Nat} (ho : okE e d) (hL : ∀ x ∈ e.L, LE x (d + 1)) (hA : ∀ a ∈ e.Alts, LE a.E (d + 1)) (hD : ∀ x ∈ e.Decs, e.K = 6 → LD x (d + 1)) (k : e.K = 7) (hl : e.L.length = 1)  : LE e d := by
  have hlim : lim = 140737488355328 := rfl
  have hcost := Exp.cost_eq e
  have hce := cE_eq e
  obtain ⟨d12, hh, oL, oA, oD⟩ := (okE_iff e d).1 ho
  obtain ⟨z1, ⟨z2, z3⟩, ⟨z4, z5⟩, z6, z7⟩ := szE hs
  obtain ⟨p1, p2⟩ := shape hh
  refine LE_of fun n hn => ?_
  have hw2 : IntKind.i64.wrap ((n : Int) + 2) = (n : Int) + 2 := wrap_ok (by omega)
  have hd2 : ((n + 2 : Nat) : Int) = (n : Int) + 2 := by omega
  have hp := pad_size n
  have hnl : nl.size = 1 := rfl
  have hcp : 1 ≤ cE e := cE_pos e
  obtain ⟨a, eL⟩ : ∃ a, e.L = [a] := List.length_eq_one_iff.1 hl
  have ma : a ∈ e.L := by rw [eL]; simp
  have x0 : ix [a] 0 = some a := rfl
  rw [eL] at hce
  simp only [sumC] at hce
  obtain ⟨a1, a2, a3⟩ := (hL a ma) n (by omega)
  obtain ⟨b1, _, _⟩ := at_both (hL a ma) (n := n) (by omega) (by omega) 0
  rw [TA0] at b1
  obtain ⟨c1, c2, c3⟩ := at_both (hL a ma) (n := n) (by omega) (by omega) 1
  have q1 : ∀ a ∈ e.Alts, cE a.E ≤ 1000000 := fun x hx => by have := sumC_mem (c := fun a : Alt => cE a.E) hx; omega
  have t3 := sumC_le0 (l := e.Alts) (f := fun a => (altS a (n + 2)).size + 1) (c := fun a : Alt => cE a.E) (fun a ha => by have := (alt_both (z7 a ha) (oA a ha).1 (n := n + 2) (d := d + 1) (by omega) (by omega) (hA a ha) (q1 a ha)).2.2.1; omega)
  have u1 := sp_altsT (n := n + 2) (d := d + 1) z6 (by omega) (by omega) z7 (fun a ha => (oA a ha).1) hA q1 (by omega)
  rw [hd2] at u1
  have hcs : ((⟨⟨[99, 97, 115, 101, 32]⟩⟩ ++ TA a 1 n) ++ (⟨⟨[32, 111, 102]⟩⟩ : ByteArray)).size = 8 + (TA a 1 n).size := by
    simp only [ByteArray.size_append, szl, List.length_cons, List.length_nil]; omega
  have u2 := im_altsL (n := n) (d := d + 1) z6 (by omega) (by omega) z7 (fun a ha => (oA a ha).1) hA q1 ((⟨⟨[99, 97, 115, 101, 32]⟩⟩ ++ TA a 1 n) ++ ⟨⟨[32, 111, 102]⟩⟩) (by rw [hcs]; omega)
  have u4 : (joinT nl (e.Alts.map fun a => altS a (n + 2))).size = sumC (fun a => (altS a (n + 2)).size + 1) e.Alts := by
    rw [joinT_cat, cat_size]
    exact congrArg (fun f => sumC f e.Alts) (funext fun x => by rw [ByteArray.size_append, hnl, Nat.add_comm])
  generalize joinT nl (e.Alts.map fun a => altS a (n + 2)) = J at *
  refine ⟨((⟨⟨[99, 97, 115, 101, 32]⟩⟩ ++ TA a 1 n) ++ ⟨⟨[32, 111, 102]⟩⟩) ++ J, ?_, ?_, ?_⟩
  · rw [M.e_spec_l5Bare]
    simp (disch := omega) [k, eL, x0, c1, u1, hw2, ByteArray.size_append, szl, gd_t]
  · rw [M.e_impl_expText]
    simp (disch := omega) [k, eL, x0, c2, u2, ByteArray.size_append, szl, gd_t]
  · simp only [ByteArray.size_append, szl, List.length_cons, List.length_nil]; omega

theorem LE_4 {e : Exp} (hs : e.cost ≤ 1048576) (hc : cE e ≤ 1000000) {d : Nat} (ho : okE e d) (hL : ∀ x ∈ e.L, LE x (d + 1)) (hA : ∀ a ∈ e.Alts, LE a.E (d + 1)) (hD : ∀ x ∈ e.Decs, e.K = 6 → LD x (d + 1)) (k : e.K = 4) (hl : e.L.length = 2)  : LE e d := by
  have hlim : lim = 140737488355328 := rfl
  have hcost := Exp.cost_eq e
  have hce := cE_eq e
  obtain ⟨d12, hh, oL, oA, oD⟩ := (okE_iff e d).1 ho
  obtain ⟨z1, ⟨z2, z3⟩, ⟨z4, z5⟩, z6, z7⟩ := szE hs
  obtain ⟨p1, p2⟩ := shape hh
  refine LE_of fun n hn => ?_
  have hw2 : IntKind.i64.wrap ((n : Int) + 2) = (n : Int) + 2 := wrap_ok (by omega)
  have hd2 : ((n + 2 : Nat) : Int) = (n : Int) + 2 := by omega
  have hp := pad_size n
  have hnl : nl.size = 1 := rfl
  have hcp : 1 ≤ cE e := cE_pos e
  obtain ⟨a, b, eL⟩ : ∃ a b, e.L = [a, b] := by
    match h : e.L, hl with
    | [a, b], _ => exact ⟨a, b, rfl⟩
  have ma : a ∈ e.L := by rw [eL]; simp
  have mb : b ∈ e.L := by rw [eL]; simp
  have x0 : ix [a, b] 0 = some a := rfl
  have x1 : ix [a, b] 1 = some b := rfl
  rw [eL] at hce
  simp only [sumC] at hce
  obtain ⟨a1, a2, a3⟩ := at_both (hL a ma) (n := n) (by omega) (by omega) 4
  obtain ⟨b1, b2, b3⟩ := at_both (hL b mb) (n := n) (by omega) (by omega) 5
  refine ⟨(TA a 4 n ++ sp1) ++ TA b 5 n, ?_, ?_, ?_⟩
  · rw [M.e_spec_l5Bare]
    simp (disch := omega) [k, eL, x0, x1, a1, b1, ByteArray.size_append, szl, gd_t]
  · rw [M.e_impl_expText]
    simp (disch := omega) [k, eL, x0, x1, a2, b2, ByteArray.size_append, szl, gd_t]
  · simp only [ByteArray.size_append, szl, List.length_cons, List.length_nil]; omega

theorem LE_9 {e : Exp} (hs : e.cost ≤ 1048576) (hc : cE e ≤ 1000000) {d : Nat} (ho : okE e d) (hL : ∀ x ∈ e.L, LE x (d + 1)) (hA : ∀ a ∈ e.Alts, LE a.E (d + 1)) (hD : ∀ x ∈ e.Decs, e.K = 6 → LD x (d + 1)) (k : e.K = 9) (hl : e.L.length = 2)  : LE e d := by
  have hlim : lim = 140737488355328 := rfl
  have hcost := Exp.cost_eq e
  have hce := cE_eq e
  obtain ⟨d12, hh, oL, oA, oD⟩ := (okE_iff e d).1 ho
  obtain ⟨z1, ⟨z2, z3⟩, ⟨z4, z5⟩, z6, z7⟩ := szE hs
  obtain ⟨p1, p2⟩ := shape hh
  refine LE_of fun n hn => ?_
  have hw2 : IntKind.i64.wrap ((n : Int) + 2) = (n : Int) + 2 := wrap_ok (by omega)
  have hd2 : ((n + 2 : Nat) : Int) = (n : Int) + 2 := by omega
  have hp := pad_size n
  have hnl : nl.size = 1 := rfl
  have hcp : 1 ≤ cE e := cE_pos e
  obtain ⟨a, b, eL⟩ : ∃ a b, e.L = [a, b] := by
    match h : e.L, hl with
    | [a, b], _ => exact ⟨a, b, rfl⟩
  have ma : a ∈ e.L := by rw [eL]; simp
  have mb : b ∈ e.L := by rw [eL]; simp
  have x0 : ix [a, b] 0 = some a := rfl
  have x1 : ix [a, b] 1 = some b := rfl
  rw [eL] at hce
  simp only [sumC] at hce
  obtain ⟨v0, v5⟩ := lv_le e
  have hwl : IntKind.i64.wrap (lv e + 1) = lv e + 1 := wrap_ok (by omega)
  obtain ⟨a1, a2, a3⟩ := at_both (hL a ma) (n := n) (by omega) (by omega) (if lv e = 1 then 2 else lv e)
  obtain ⟨b1, b2, b3⟩ := at_both (hL b mb) (n := n) (by omega) (by omega) (lv e + 1)
  have hsl := sp_lv e
  have hil := im_lv e
  generalize lv e = v at *
  generalize TA b (v + 1) n = tb at *
  refine ⟨(((TA a (if v = 1 then 2 else v) n ++ sp1) ++ e.S) ++ sp1) ++ tb, ?_, ?_, ?_⟩
  · rw [M.e_spec_l5Bare]
    by_cases q : v = 1
    · rw [if_pos q] at a1 a3 ⊢
      subst q
      simp (disch := omega) [k, eL, x0, x1, a1, b1, hsl, hwl, ByteArray.size_append, szl, gd_t] at *
    · rw [if_neg q] at a1 a3 ⊢
      simp (disch := omega) [k, eL, x0, x1, a1, b1, hsl, hwl, q, ByteArray.size_append, szl, gd_t]
  · rw [M.e_impl_expText]
    by_cases q : v = 1
    · rw [if_pos q] at a2 a3 ⊢
      subst q
      simp (disch := omega) [k, eL, x0, x1, a2, b2, hil, hwl, ByteArray.size_append, szl, gd_t] at *
    · rw [if_neg q] at a2 a3 ⊢
      simp (disch := omega) [k, eL, x0, x1, a2, b2, hil, hwl, q, ByteArray.size_append, szl, gd_t]
  · simp only [ByteArray.size_append, szl, List.length_cons, List.length_nil]; omega

theorem LE_8 {e : Exp} (hs : e.cost ≤ 1048576) (hc : cE e ≤ 1000000) {d : Nat} (ho : okE e d) (hL : ∀ x ∈ e.L, LE x (d + 1)) (hA : ∀ a ∈ e.Alts, LE a.E (d + 1)) (hD : ∀ x ∈ e.Decs, e.K = 6 → LD x (d + 1)) (k : e.K = 8) (hl : e.L.length = 3)  : LE e d := by
  have hlim : lim = 140737488355328 := rfl
  have hcost := Exp.cost_eq e
  have hce := cE_eq e
  obtain ⟨d12, hh, oL, oA, oD⟩ := (okE_iff e d).1 ho
  obtain ⟨z1, ⟨z2, z3⟩, ⟨z4, z5⟩, z6, z7⟩ := szE hs
  obtain ⟨p1, p2⟩ := shape hh
  refine LE_of fun n hn => ?_
  have hw2 : IntKind.i64.wrap ((n : Int) + 2) = (n : Int) + 2 := wrap_ok (by omega)
  have hd2 : ((n + 2 : Nat) : Int) = (n : Int) + 2 := by omega
  have hp := pad_size n
  have hnl : nl.size = 1 := rfl
  have hcp : 1 ≤ cE e := cE_pos e
  obtain ⟨a, b, c, eL⟩ := three_of hl
  have ma : a ∈ e.L := by rw [eL]; simp
  have mb : b ∈ e.L := by rw [eL]; simp
  have mc : c ∈ e.L := by rw [eL]; simp
  have x0 : ix [a, b, c] 0 = some a := rfl
  have x1 : ix [a, b, c] 1 = some b := rfl
  have x2 : ix [a, b, c] 2 = some c := rfl
  rw [eL] at hce
  simp only [sumC] at hce
  obtain ⟨a1, a2, a3⟩ := at_both (hL a ma) (n := n) (by omega) (by omega) 1
  obtain ⟨b1, b2, b3⟩ := at_both (hL b mb) (n := n) (by omega) (by omega) 1
  obtain ⟨c1, _, c3⟩ := at_both (hL c mc) (n := n) (by omega) (by omega) 0
  obtain ⟨_, c2, _⟩ := (hL c mc) n (by omega)
  rw [TA0] at c1 c3
  refine ⟨((((⟨⟨[105, 102, 32]⟩⟩ ++ TA a 1 n) ++ ⟨⟨[32, 116, 104, 101, 110, 32]⟩⟩) ++ TA b 1 n) ++ ⟨⟨[32, 101, 108, 115, 101, 32]⟩⟩) ++ T c n, ?_, ?_, ?_⟩
  · rw [M.e_spec_l5Bare]
    simp (disch := omega) [k, eL, x0, x1, x2, a1, b1, c1, ByteArray.size_append, szl, gd_t]
  · rw [M.e_impl_expText]
    simp (disch := omega) [k, eL, x0, x1, x2, a2, b2, c2, ByteArray.size_append, szl, gd_t]
  · simp only [ByteArray.size_append, szl, List.length_cons, List.length_nil]; omega

theorem LE_step {e : Exp} (hs : e.cost ≤ 1048576) (hc : cE e ≤ 1000000) {d : Nat} (ho : okE e d) (hL : ∀ x ∈ e.L, LE x (d + 1)) (hA : ∀ a ∈ e.Alts, LE a.E (d + 1)) (hD : ∀ x ∈ e.Decs, e.K = 6 → LD x (d + 1)) : LE e d := by
  have hh := ((okE_iff e d).1 ho).2.1
  rcases shapeL hh with (k | k | ⟨k, n0, n1⟩) | ⟨k | k | k, hl⟩ | ⟨k | k, hl⟩ | ⟨k, hl⟩
  · exact LE_1 hs hc ho hL hA hD k 
  · exact LE_2 hs hc ho hL hA hD k 
  · exact LE_3 hs hc ho hL hA hD k n0 n1
  · exact LE_5 hs hc ho hL hA hD k hl
  · exact LE_6 hs hc ho hL hA hD k hl
  · exact LE_7 hs hc ho hL hA hD k hl
  · exact LE_4 hs hc ho hL hA hD k hl
  · exact LE_9 hs hc ho hL hA hD k hl
  · exact LE_8 hs hc ho hL hA hD k hl
end Q
end W
end
section
/- Texts of definitions, of data, of programs. -/
namespace W
set_option linter.unusedVariables false
set_option maxRecDepth 100000
set_option maxHeartbeats 1000000
namespace Q
open Go HL HL.X

theorem name_ne {s : ByteArray} (hz : s.size ≤ lim) (h : nameB s = true) : s ≠ (⟨⟨[]⟩⟩ : ByteArray) := by
  obtain ⟨b, e1, _, e3⟩ := names hz
  rw [im_name hz] at e1
  have : nameB s = b := Option.some.inj e1
  intro q
  have := (e3 (by rw [← this]; exact h)).1
  rw [q, s0] at this
  omega

theorem LD_step {x : Dec} (hs : x.cost ≤ 1048576) (hc : cD x ≤ 1000000) {d : Nat} (hd : d ≤ 12) (ho : okD x d) (hE : LE x.E (d + 1)) (hW : ∀ y ∈ x.Where, LD y (d + 1)) : LD x d := by
  have hlim : lim = 140737488355328 := rfl
  have hcost := Dec.cost_eq x
  have hcd := cD_eq x
  obtain ⟨z1, z2, z3, z4, z5⟩ := szD hs
  obtain ⟨n1, n2, n3, n4⟩ := (okD_iff x d).1 ho
  refine LD_of fun n hn => ?_
  have hw2 : IntKind.i64.wrap ((n : Int) + 2) = (n : Int) + 2 := wrap_ok (by omega)
  have hw4 : IntKind.i64.wrap ((n : Int) + 4) = (n : Int) + 4 := wrap_ok (by omega)
  have hd2 : ((n + 2 : Nat) : Int) = (n : Int) + 2 := by omega
  have hd4 : ((n + 4 : Nat) : Int) = (n : Int) + 4 := by omega
  have hp := pad_size n
  have hp2 := pad_size (n + 2)
  have hnl : nl.size = 1 := rfl
  have hpd := sp_pad (n := n) (by omega)
  have hbl := im_blanks (n := n) (by omega)
  have hpd2 := sp_pad (n := n + 2) (by omega)
  have hbl2 := im_blanks (n := n + 2) (by omega)
  obtain ⟨a1, a2, a3⟩ := hE (n + 2) (by omega)
  obtain ⟨b1, _, _⟩ := at_both hE (n := n + 2) (by omega) (by omega) 0
  rw [TA0] at b1
  rw [hd2] at b1 a2 hpd2 hbl2
  have hsw : sumC ByteArray.size (x.Name :: x.Pars) ≤ 2000000 := by simp only [sumC]; omega
  have hj := joinB_size (l := x.Name :: x.Pars)
  rw [List.length_cons] at hj
  have hwd := sp_words (l := x.Pars) (by omega) (name_ne z1 n1) (by omega)
  have hjn := im_join (l := x.Name :: x.Pars) (sep := sp1) (by rw [List.length_cons]; omega) (by decide) (by omega)
  have hgr : (([x.Name] : List ByteArray).length + x.Pars.length ≤ grow) := by simp [grow]; omega
  generalize joinB sp1 (x.Name :: x.Pars) = J at *
  have hJ : J.size ≤ 4000000 := by omega
  by_cases w : x.Where = []
  · refine ⟨((pad n ++ J) ++ ⟨⟨[32, 61, 32]⟩⟩) ++ T x.E (n + 2), ?_, ?_, ?_⟩
    · rw [M.e_spec_l5Dec]
      simp (disch := omega) [w, hpd, hwd, b1, hw2, ByteArray.size_append, szl, gd_t]
    · rw [M.e_impl_decText]
      simp only [meet_self, List.singleton_append, hbl, hjn, Option.bind_some, gd_t hgr]
      simp (disch := omega) [w, a2, hw2, ByteArray.size_append, szl, gd_t]
    · simp only [ByteArray.size_append, szl, List.length_cons, List.length_nil]; omega
  · have hl : 1 ≤ x.Where.length := (n4 w).1.1
    have t1 : ∀ y ∈ x.Where, M.spec_l5Dec (y, ((n + 4 : Nat) : Int)) = some (TD y (n + 4)) := fun y hy => (hW y hy (n + 4) (by omega)).1
    have t2 : ∀ y ∈ x.Where, M.impl_decText (y, ((n + 4 : Nat) : Int)) = some (TD y (n + 4)) := fun y hy => (hW y hy (n + 4) (by omega)).2.1
    have t3 := sumC_le0 (l := x.Where) (f := fun y => (TD y (n + 4)).size + 1) (c := cD) (fun y hy => by have := (hW y hy (n + 4) (by omega)).2.2; omega)
    have u1 := sp_decsT hl z4 t1 (by omega)
    rw [hd4] at u1
    have hsz : ((((pad n ++ J) ++ ⟨⟨[32, 61, 32]⟩⟩) ++ T x.E (n + 2)) ++ ((nl ++ pad (n + 2)) ++ (⟨⟨[119, 104, 101, 114, 101]⟩⟩ : ByteArray))).size = n + J.size + 3 + (T x.E (n + 2)).size + (1 + (n + 2) + 5) := by
      simp only [ByteArray.size_append, szl, List.length_cons, List.length_nil]; omega
    have u2 := im_whereL (n := n) (by omega) z4 t2 ((((pad n ++ J) ++ ⟨⟨[32, 61, 32]⟩⟩) ++ T x.E (n + 2)) ++ ((nl ++ pad (n + 2)) ++ ⟨⟨[119, 104, 101, 114, 101]⟩⟩)) (by rw [hsz]; omega)
    have u3 := joinT_B nl (l := x.Where.map fun y => TD y (n + 4)) (by rw [List.length_map]; exact hl)
    have u4 : (joinT nl (x.Where.map fun y => TD y (n + 4))).size = sumC (fun y => (TD y (n + 4)).size + 1) x.Where := by
      rw [joinT_cat, cat_size]
      exact congrArg (fun f => sumC f x.Where) (funext fun y => by rw [ByteArray.size_append, hnl, Nat.add_comm])
    have u5 : 1 + (joinB nl (x.Where.map fun y => TD y (n + 4))).size = sumC (fun y => (TD y (n + 4)).size + 1) x.Where := by
      rw [← u4, u3, ByteArray.size_append, hnl]
    have hpos : (0 : Int) < (x.Where.length : Int) := by omega
    have hne : ¬ ((x.Where.length : Int) = 0) := by omega
    rw [u3] at u2
    generalize joinB nl (x.Where.map fun y => TD y (n + 4)) = B at *
    have hwn : (⟨⟨[119, 104, 101, 114, 101, 10]⟩⟩ : ByteArray) = (⟨⟨[119, 104, 101, 114, 101]⟩⟩ : ByteArray) ++ nl := (lit_app [119, 104, 101, 114, 101] [10]).symm
    refine ⟨((((((pad n ++ J) ++ ⟨⟨[32, 61, 32]⟩⟩) ++ T x.E (n + 2)) ++ nl) ++ pad (n + 2)) ++ ⟨⟨[119, 104, 101, 114, 101, 10]⟩⟩) ++ B, ?_, ?_, ?_⟩
    · rw [M.e_spec_l5Dec]
      simp only [hpos, decide_true, cond_true, hpd, hwd, b1, hw2, hpd2, hw4, u1, Option.bind_some]
      simp (disch := omega) [ByteArray.size_append, szl, gd_t]
    · rw [M.e_impl_decText]
      simp only [meet_self, List.singleton_append, hbl, hjn, Option.bind_some, gd_t hgr, hw2, a2]
      have g1 : (gd ((pad n).size + J.size ≤ lim)) = some () := gd_t (by omega)
      have g2 : (gd ((pad n ++ J).size + (⟨⟨[32, 61, 32]⟩⟩ : ByteArray).size ≤ lim)) = some () := gd_t (by simp only [ByteArray.size_append, szl, List.length_cons, List.length_nil]; omega)
      have g3 : (gd (((pad n ++ J) ++ (⟨⟨[32, 61, 32]⟩⟩ : ByteArray)).size + (T x.E (n + 2)).size ≤ lim)) = some () := gd_t (by simp only [ByteArray.size_append, szl, List.length_cons, List.length_nil]; omega)
      have g4 : (gd ((⟨⟨[10]⟩⟩ : ByteArray).size + (pad (n + 2)).size ≤ lim)) = some () := gd_t (by simp only [szl, List.length_cons, List.length_nil]; omega)
      have g5 : (gd (((⟨⟨[10]⟩⟩ : ByteArray) ++ pad (n + 2)).size + (⟨⟨[119, 104, 101, 114, 101]⟩⟩ : ByteArray).size ≤ lim)) = some () := gd_t (by simp only [ByteArray.size_append, szl, List.length_cons, List.length_nil]; omega)
      have g6 : (gd ((((pad n ++ J) ++ (⟨⟨[32, 61, 32]⟩⟩ : ByteArray)) ++ T x.E (n + 2)).size + (((⟨⟨[10]⟩⟩ : ByteArray) ++ pad (n + 2)) ++ (⟨⟨[119, 104, 101, 114, 101]⟩⟩ : ByteArray)).size ≤ lim)) = some () := gd_t (by simp only [ByteArray.size_append, szl, List.length_cons, List.length_nil]; omega)
      simp only [g1, g2, g3, Option.bind_some, hne, decide_false, cond_false, hbl2, g4, g5, g6, u2]
      rw [hwn]
      simp only [app_assoc]
    · simp only [ByteArray.size_append, szl, List.length_cons, List.length_nil]; omega

theorem L_all : ∀ x : Dec, x.cost ≤ 1048576 → cD x ≤ 1000000 → ∀ d, d ≤ 12 → okD x d → LD x d := by
  refine Dec.ind (M0 := fun a => a.E.cost ≤ 1048576 → cE a.E ≤ 1000000 → ∀ d, okE a.E d → LE a.E d) (M2 := fun e => e.cost ≤ 1048576 → cE e ≤ 1000000 → ∀ d, okE e d → LE e d) (fun a ih h => ih h) (fun x ih1 ih2 hs hc d hd ho => ?_) (fun e ihL ihD ihA hs hc d ho => ?_)
  · obtain ⟨z1, z2, z3, z4, z5⟩ := szD hs
    obtain ⟨n1, n2, n3, n4⟩ := (okD_iff x d).1 ho
    have hcd := cD_eq x
    have d11 := ((okE_iff _ _).1 n3).1
    refine LD_step hs hc hd ho (ih1 z3 (by omega) (d + 1) n3) fun y hy => ?_
    have hw : x.Where ≠ [] := fun q => by rw [q] at hy; cases hy
    exact ih2 y hy (z5 y hy) (by have := sumC_mem (c := cD) hy; omega) (d + 1) d11 ((n4 hw).2.2 y hy)
  · obtain ⟨z1, ⟨z2, z3⟩, ⟨z4, z5⟩, z6, z7⟩ := szE hs
    obtain ⟨d12, hh, oL, oA, oD⟩ := (okE_iff e d).1 ho
    have hce := cE_eq e
    refine LE_step hs hc ho (fun x hx => ihL x hx (z3 x hx) (by have := sumC_mem (c := cE) hx; omega) (d + 1) (oL x hx)) (fun a ha => ihA a ha (szA (z7 a ha)).2.2 (by have := sumC_mem (c := fun a : Alt => cE a.E) ha; omega) (d + 1) (oA a ha).2) (fun x hx k6 => ?_)
    rw [if_pos k6] at hce
    have oo := (oD k6).2.2 x hx
    have := ((okE_iff _ _).1 ((okD_iff x (d + 1)).1 oo).2.2.1).1
    exact ihD x hx (z5 x hx) (by have := sumC_mem (c := cD) hx; omega) (d + 1) (by omega) oo
end Q
end W
end
section
/- Texts of programs: both give the same. -/
namespace W
set_option linter.unusedVariables false
set_option maxRecDepth 100000
set_option maxHeartbeats 1000000
namespace Q
open Go HL HL.X

theorem sumC_const {α : Type} {f : α → Nat} {m : Nat} : ∀ {l : List α}, (∀ x ∈ l, f x ≤ m) → sumC f l ≤ m * l.length
  | [], _ => by simp [sumC]
  | x :: l, h => by
    have h1 := h x (by simp)
    have h2 := sumC_const (l := l) (fun y hy => h y (by simp [hy]))
    simp only [sumC, List.length_cons, Nat.mul_add, Nat.mul_one]
    omega
theorem sumC_map {α β : Type} (f : β → Nat) (g : α → β) : ∀ l : List α, sumC f (l.map g) = sumC (fun x => f (g x)) l
  | [] => rfl
  | x :: l => by simp only [List.map_cons, sumC, sumC_map f g l]

abbrev bar : ByteArray := ⟨⟨[32, 124, 32]⟩⟩
noncomputable def argT (t : Ty) : ByteArray := if t.K = 4 then (⟨⟨[40]⟩⟩ ++ tyS t) ++ ⟨⟨[41]⟩⟩ else tyS t
noncomputable def conT (c : Con) : ByteArray := joinB sp1 (c.Name :: c.Args.map argT)
def okC (c : Con) : Prop := c.cost ≤ 1048576 ∧ (∀ t ∈ c.Args, okT t 1 ∧ cT t ≤ 10) ∧ c.Args.length ≤ 4
theorem argT_size {t : Ty} (hs : t.cost ≤ 1048576) (ho : okT t 1) (hc : cT t ≤ 10) : (argT t).size ≤ 100000002 := by
  obtain ⟨_, _, h⟩ := tyT hs ho hc
  unfold argT
  split
  · simp only [ByteArray.size_append, szl, List.length_cons, List.length_nil]; omega
  · omega
theorem conT_size {c : Con} (h : okC c) : (conT c).size ≤ 500000000 := by
  obtain ⟨h1, h2, h3⟩ := h
  obtain ⟨z1, z2, z3⟩ := szC h1
  have hce := Con.cost_eq c
  have := joinB_size (l := c.Name :: c.Args.map argT)
  have hm := sumC_const (f := fun t => (argT t).size) (m := 100000002) (l := c.Args) (fun t ht => argT_size (z3 t ht) (h2 t ht).1 (h2 t ht).2)
  unfold conT
  rw [List.length_cons, List.length_map] at this
  simp only [sumC, sumC_map] at this
  omega

theorem sp_argsL {d : Data} {i : Nat} {c : Con} (hc : d.Cons[i]? = some c) (h : okC c) (s : ByteArray) (hz : s.size ≤ 10000000000) :
    M.spec_l5Data_L1 (s, (i : Int), 0, d) = some (s ++ joinT sp1 (c.Args.map argT), d) := by
  have hlim : lim = 140737488355328 := rfl
  obtain ⟨h1, h2, h3⟩ := h
  obtain ⟨z1, z2, z3⟩ := szC h1
  have hsp : sp1.size = 1 := rfl
  have hm := sumC_const (f := fun t => (sp1 ++ argT t).size) (m := 100000003) (l := c.Args) (fun t ht => by have := argT_size (z3 t ht) (h2 t ht).1 (h2 t ht).2; rw [ByteArray.size_append, hsp]; omega)
  have main := catL (l := c.Args) (by omega) (fun t => sp1 ++ argT t) 0 (L := fun s k => M.spec_l5Data_L1 (s, (i : Int), k, d)) (fun s => (s, d)) (fun k t s h0 hx hm hix hi hw hss => by
    show M.spec_l5Data_L1 (s, (i : Int), (k : Int), d) = _
    obtain ⟨t1, _, t3⟩ := tyT (z3 t hm) (h2 t hm).1 (h2 t hm).2
    rw [ByteArray.size_append, hsp] at hss
    have hs1 : s.size ≤ 100000000000000 := by omega
    rw [M.e_spec_l5Data_L1]
    simp only [ix_of hc, hi, decide_true, cond_true, hix, Option.bind_some, t1, hw]
    have hb : (⟨⟨[32, 40]⟩⟩ : ByteArray) = sp1 ++ (⟨⟨[40]⟩⟩ : ByteArray) := (lit_app [32] [40]).symm
    by_cases k4 : t.K = 4
    · rw [decide_eq_true k4, cond_true]
      rw [gd_t (by simp only [szl, List.length_cons, List.length_nil]; omega), Option.bind_some]
      rw [gd_t (by simp only [ByteArray.size_append, szl, List.length_cons, List.length_nil]; omega), Option.bind_some]
      rw [gd_t (by simp only [ByteArray.size_append, szl, List.length_cons, List.length_nil]; omega), Option.bind_some]
      rw [show argT t = (⟨⟨[40]⟩⟩ ++ tyS t) ++ ⟨⟨[41]⟩⟩ by unfold argT; rw [if_pos k4], hb]
      simp only [app_assoc]
    · rw [decide_eq_false k4, cond_false]
      rw [gd_t (by simp only [szl, List.length_cons, List.length_nil]; omega), Option.bind_some]
      rw [gd_t (by simp only [ByteArray.size_append, szl, List.length_cons, List.length_nil]; omega), Option.bind_some]
      rw [show argT t = tyS t by unfold argT; rw [if_neg k4]]
      simp only [app_assoc]) (fun s => by
    show M.spec_l5Data_L1 (s, (i : Int), (c.Args.length : Int), d) = _
    rw [M.e_spec_l5Data_L1]
    simp [ix_of hc]) c.Args.length 0 s (by omega) (Nat.le_refl _) (by rw [List.drop_zero]; omega)
  rw [List.drop_zero] at main
  rw [joinT_cat]
  exact main
theorem sp_conStep {d : Data} {i : Nat} {c : Con} (hc : d.Cons[i]? = some c) (h : okC c) (s : ByteArray) (hz : s.size ≤ 9000000000) :
    ((gd (s.size + c.Name.size ≤ lim)).bind fun _ => (M.spec_l5Data_L1 ((s ++ c.Name), (i : Int), 0, d)).bind fun s3 => M.spec_l5Data_L0 (s3.1, ((i + 1 : Nat) : Int), s3.2)) = M.spec_l5Data_L0 (s ++ conT c, ((i + 1 : Nat) : Int), d) := by
  have hlim : lim = 140737488355328 := rfl
  have hce := Con.cost_eq c
  have h1 := h.1
  rw [gd_t (by omega), Option.bind_some, sp_argsL hc h _ (by rw [ByteArray.size_append]; omega), Option.bind_some, app_assoc]
  rfl
theorem sp_dataT {d : Data} (hs : d.cost ≤ 1048576) (h1 : 1 ≤ d.Cons.length) (h5 : d.Cons.length ≤ 5) (h : ∀ c ∈ d.Cons, okC c) :
    M.spec_l5Data d = some (((⟨⟨[100, 97, 116, 97, 32]⟩⟩ ++ d.Name) ++ ⟨⟨[32, 61, 32]⟩⟩) ++ joinB bar (d.Cons.map conT)) := by
  have hlim : lim = 140737488355328 := rfl
  have hce := Data.cost_eq d
  have hbar : bar.size = 3 := rfl
  have hm : ∀ l : List Con, (∀ c ∈ l, okC c) → sumC (fun c => (bar ++ conT c).size) l ≤ 500000003 * l.length := fun l hl => sumC_const (fun c hc => by have := conT_size (hl c hc); rw [ByteArray.size_append, hbar]; omega)
  have hL0 : ∀ (k i : Nat) (s : ByteArray), i + k = d.Cons.length → 1 ≤ i → s.size + 500000003 * k ≤ 8000000000 → M.spec_l5Data_L0 (s, (i : Int), d) = some (s ++ cat ((d.Cons.drop i).map fun c => bar ++ conT c)) := by
    intro k
    induction k with
    | zero =>
      intro i s e h0 hz
      have : ¬ ((i : Int) < (d.Cons.length : Int)) := by omega
      rw [M.e_spec_l5Data_L0]
      simp only [this, decide_false, cond_false]
      rw [List.drop_eq_nil_of_le (by omega)]
      exact congrArg some (app_nil s).symm
    | succ k ih =>
      intro i s e h0 hz
      have hi : i < d.Cons.length := by omega
      have hii : (i : Int) < (d.Cons.length : Int) := by omega
      have hi0 : (0 : Int) < (i : Int) := by omega
      have hw : IntKind.i64.wrap ((i : Int) + 1) = ((i + 1 : Nat) : Int) := by rw [wrap_ok (by omega)]; omega
      have hx := List.getElem?_eq_getElem hi
      have hcs := conT_size (h _ (List.getElem_mem hi))
      rw [M.e_spec_l5Data_L0, List.drop_eq_getElem_cons hi]
      simp only [hii, hi0, decide_true, cond_true, hw]
      rw [gd_t (by simp only [szl, List.length_cons, List.length_nil]; omega)]
      simp only [Option.bind_some, ix_of hx]
      rw [sp_conStep hx (h _ (List.getElem_mem hi)) _ (by rw [ByteArray.size_append, hbar]; omega)]
      rw [ih (i + 1) _ (by omega) (by omega) (by rw [ByteArray.size_append, ByteArray.size_append, hbar]; omega), List.map_cons, cat]
      simp only [app_assoc]
  obtain ⟨y, r, hyr⟩ : ∃ y r, d.Cons = y :: r := by cases hq : d.Cons with | nil => rw [hq] at h1; simp at h1 | cons y r => exact ⟨y, r, rfl⟩
  have hy : d.Cons[0]? = some y := by rw [hyr]; rfl
  have hoy := h y (by rw [hyr]; simp)
  have hcs := conT_size hoy
  have hii : (0 : Int) < (d.Cons.length : Int) := by omega
  rw [M.e_spec_l5Data]
  rw [gd_t (by simp only [szl, List.length_cons, List.length_nil]; omega), Option.bind_some]
  rw [gd_t (by simp only [ByteArray.size_append, szl, List.length_cons, List.length_nil]; omega), Option.bind_some]
  have hsz : (((⟨⟨[100, 97, 116, 97, 32]⟩⟩ : ByteArray) ++ d.Name) ++ (⟨⟨[32, 61, 32]⟩⟩ : ByteArray)).size = 8 + d.Name.size := by
    simp only [ByteArray.size_append, szl, List.length_cons, List.length_nil]; omega
  generalize (((⟨⟨[100, 97, 116, 97, 32]⟩⟩ : ByteArray) ++ d.Name) ++ (⟨⟨[32, 61, 32]⟩⟩ : ByteArray)) = H at *
  have x0 : ix d.Cons 0 = some y := ix_of (i := 0) hy
  rw [M.e_spec_l5Data_L0]
  simp only [hii, decide_true, cond_true, Int.lt_irrefl, decide_false, cond_false, Option.bind_some, x0, show IntKind.i64.wrap (0 + 1) = ((0 + 1 : Nat) : Int) by decide]
  have st := sp_conStep hy hoy H (by omega)
  rw [show ((gd (H.size + y.Name.size ≤ lim)).bind fun _ => (M.spec_l5Data_L1 ((H ++ y.Name), 0, 0, d)).bind fun s3 => M.spec_l5Data_L0 (s3.1, ((0 + 1 : Nat) : Int), s3.2)) = _ from st]
  have hrl : d.Cons.length = r.length + 1 := by rw [hyr]; rfl
  have hH := hL0 r.length 1 (H ++ conT y) (by omega) (Nat.le_refl _) (by rw [ByteArray.size_append]; omega)
  have hH : M.spec_l5Data_L0 (H ++ conT y, ((0 + 1 : Nat) : Int), d) = _ := hH
  rw [hH]
  simp only [Option.bind_some, hyr, List.drop_one, List.tail_cons, List.map_cons, joinB, joinT_cat, app_assoc]

theorem im_conT {c : Con} (h : okC c) : M.impl_conText c = some (conT c) := by
  have hlim : lim = 140737488355328 := rfl
  have hh := h
  obtain ⟨h1, h2, h3⟩ := h
  obtain ⟨z1, z2, z3⟩ := szC h1
  have hce := Con.cost_eq c
  have hL : ∀ (k i : Nat) (acc : List ByteArray), i + k = c.Args.length → acc.length + k ≤ 2000000 → M.impl_conText_L0 (c.Args, (c.Args.length : Int), (i : Int), acc) = some (acc ++ (c.Args.drop i).map argT) := by
    intro k
    induction k with
    | zero =>
      intro i acc e _
      have : ¬ ((i : Int) < (c.Args.length : Int)) := by omega
      rw [M.e_impl_conText_L0]
      simp only [this, decide_false, cond_false]
      rw [List.drop_eq_nil_of_le (by omega)]
      simp
    | succ k ih =>
      intro i acc e ha
      have hi : i < c.Args.length := by omega
      have hii : (i : Int) < (c.Args.length : Int) := by omega
      have hw : IntKind.i64.wrap ((i : Int) + 1) = ((i + 1 : Nat) : Int) := by rw [wrap_ok (by omega)]; omega
      have hx := List.getElem?_eq_getElem hi
      have hm := List.getElem_mem hi
      obtain ⟨_, t2, t3⟩ := tyT (z3 _ hm) (h2 _ hm).1 (h2 _ hm).2
      have step : ∀ t : Ty, t = c.Args[i] → (bif decide (t.K = 4) then ((gd ((⟨⟨[40]⟩⟩ : ByteArray).size + (tyS t).size ≤ lim)).bind fun _ =>
          (gd (((⟨⟨[40]⟩⟩ : ByteArray) ++ tyS t).size + (⟨⟨[41]⟩⟩ : ByteArray).size ≤ lim)).bind fun _ =>
          some ((((⟨⟨[40]⟩⟩ : ByteArray) ++ tyS t) ++ (⟨⟨[41]⟩⟩ : ByteArray)), acc)) else some (tyS t, acc)) = some (argT t, acc) := fun t ht => by
        subst ht
        unfold argT
        by_cases k4 : (c.Args[i]).K = 4
        · rw [decide_eq_true k4, cond_true, if_pos k4]
          rw [gd_t (by simp only [szl, List.length_cons, List.length_nil]; omega), Option.bind_some]
          rw [gd_t (by simp only [ByteArray.size_append, szl, List.length_cons, List.length_nil]; omega), Option.bind_some]
        · rw [decide_eq_false k4, cond_false, if_neg k4]
      rw [M.e_impl_conText_L0, List.drop_eq_getElem_cons hi]
      simp only [hii, decide_true, cond_true, ix_of hx, Option.bind_some, t2, hw, step _ rfl]
      rw [gd_t (by simp [grow]; omega), Option.bind_some, ih (i + 1) _ (by omega) (by simp; omega), List.map_cons, List.append_assoc]
      rfl
  have h0 := hL c.Args.length 0 [c.Name] (by omega) (by simp; omega)
  rw [List.drop_zero] at h0
  have h0 : M.impl_conText_L0 (c.Args, (c.Args.length : Int), 0, [c.Name]) = _ := h0
  have hm := sumC_const (f := fun t => (argT t).size) (m := 100000002) (l := c.Args) (fun t ht => argT_size (z3 t ht) (h2 t ht).1 (h2 t ht).2)
  rw [M.e_impl_conText, h0, Option.bind_some, List.singleton_append, im_join (by rw [List.length_cons, List.length_map]; omega) (by decide) (by simp only [sumC, sumC_map]; omega)]
  rfl
end Q
end W
end
section
/- ProgText: the law. -/
namespace W
set_option linter.unusedVariables false
set_option maxRecDepth 100000
set_option maxHeartbeats 1000000
namespace Q
open Go HL HL.X

noncomputable def dataT (d : Data) : ByteArray := ((⟨⟨[100, 97, 116, 97, 32]⟩⟩ ++ d.Name) ++ ⟨⟨[32, 61, 32]⟩⟩) ++ joinB bar (d.Cons.map conT)
theorem okC_of {p : Prog} (hs : p.cost ≤ 1048576) (hp : progP p) : ∀ d ∈ p.Datas, d.cost ≤ 1048576 ∧ 1 ≤ d.Cons.length ∧ d.Cons.length ≤ 5 ∧ ∀ c ∈ d.Cons, okC c := by
  obtain ⟨⟨z1, z2⟩, z3, z4⟩ := szP hs
  obtain ⟨hda, _, _⟩ := hp
  intro d hd
  obtain ⟨q1, q2, q3⟩ := hda.1 d hd
  obtain ⟨y1, y2, y3⟩ := szDt (z2 d hd)
  exact ⟨z2 d hd, q2.1, q2.2, fun c hc => ⟨y3 c hc, (q3 c hc).1, (q3 c hc).2.2⟩⟩
theorem joinB_le {sep : ByteArray} {l : List ByteArray} : (joinB sep l).size ≤ sep.size * l.length + sumC ByteArray.size l := by
  cases l with
  | nil => simp [joinB, szm]
  | cons x l =>
    rw [joinB, ByteArray.size_append, joinT_size]
    simp only [sumC, List.length_cons, Nat.mul_add, Nat.mul_one]
    omega
theorem dataT_size {d : Data} (hs : d.cost ≤ 1048576) (h5 : d.Cons.length ≤ 5) (h : ∀ c ∈ d.Cons, okC c) : (dataT d).size ≤ 3000000000 ∧ sumC ByteArray.size (d.Cons.map conT) ≤ 2500000000 := by
  have hce := Data.cost_eq d
  have hbar : bar.size = 3 := rfl
  have hm := sumC_const (f := fun c => (conT c).size) (m := 500000000) (l := d.Cons) (fun c hc => conT_size (h c hc))
  have hj := joinB_le (sep := bar) (l := d.Cons.map conT)
  rw [List.length_map, sumC_map, hbar] at hj
  rw [sumC_map]
  unfold dataT
  refine ⟨?_, by omega⟩
  simp only [ByteArray.size_append, szl, List.length_cons, List.length_nil]
  omega
theorem im_consL {p : Prog} {d : Data} {l : List Con} (hl : l.length ≤ 1048576) (h : ∀ c ∈ l, okC c) : ∀ (k i : Nat) (acc : List ByteArray), i + k = l.length → acc.length + k ≤ 2000000 →
    M.impl_ProgText_L1 (l, (l.length : Int), (i : Int), p, d, acc) = some (p, d, acc ++ (l.drop i).map conT)
  | 0, i, acc, e, _ => by
    have : ¬ ((i : Int) < (l.length : Int)) := by omega
    rw [M.e_impl_ProgText_L1]
    simp only [this, decide_false, cond_false]
    rw [List.drop_eq_nil_of_le (by omega)]
    simp
  | k + 1, i, acc, e, ha => by
    have hi : i < l.length := by omega
    have h1 : (i : Int) < (l.length : Int) := by omega
    have hw : IntKind.i64.wrap ((i : Int) + 1) = ((i + 1 : Nat) : Int) := by rw [wrap_ok (by omega)]; omega
    rw [M.e_impl_ProgText_L1, List.drop_eq_getElem_cons hi]
    simp only [h1, decide_true, cond_true, ix_of (List.getElem?_eq_getElem hi), Option.bind_some, im_conT (h _ (List.getElem_mem hi)), hw]
    rw [gd_t (by simp [grow]; omega), Option.bind_some, im_consL hl h k (i + 1) _ (by omega) (by simp; omega), List.map_cons, List.append_assoc]
    rfl

theorem bothT {p : Prog} (hs : p.cost ≤ 1048576) (hp : progP p) : ∃ s, M.spec_ProgText p = some s ∧ M.impl_ProgText p = some s := by
  have hlim : lim = 140737488355328 := rfl
  have hnl : nl.size = 1 := rfl
  have hbar : bar.size = 3 := rfl
  obtain ⟨⟨z1, z2⟩, z3, z4⟩ := szP hs
  have hok := okC_of hs hp
  have i0 : M.impl_ProgOk p = some true := (im_prog hs).trans (congrArg some (@decide_eq_true _ (Classical.propDecidable _) hp))
  have s0 : M.spec_ProgOk p = some true := (sp_prog hs).trans (congrArg some (@decide_eq_true _ (Classical.propDecidable _) hp))
  obtain ⟨hda, hds, hcc⟩ := hp
  have h5 := hda.2.1
  have hD : ∀ x ∈ p.Decs, M.spec_l5Dec (x, 0) = some (TD x 0) ∧ M.impl_decText (x, 0) = some (TD x 0) ∧ (TD x 0).size + 2000000 ≤ 10000000 * cD x := fun x hx => by
    have := sumC_mem (c := cD) hx
    exact L_all x (z4 x hx) (by omega) 0 (by omega) (hds.2.2 x hx) 0 (by omega)
  have mD := sumC_le0 (l := p.Decs) (f := fun x => (TD x 0 ++ nl).size) (c := cD) (fun x hx => by
    have := (hD x hx).2.2
    rw [ByteArray.size_append, hnl]
    omega)
  have mT := sumC_const (f := fun d => (dataT d ++ nl).size) (m := 3000000001) (l := p.Datas) (fun d hd => by
    obtain ⟨q1, q2, q3, q4⟩ := hok d hd
    have := (dataT_size q1 q3 q4).1
    rw [ByteArray.size_append, hnl]; omega)
  have hsz0 : (⟨⟨[]⟩⟩ : ByteArray).size = 0 := rfl
  have a1 := catL (l := p.Datas) (by omega) (fun d => dataT d ++ nl) 0 (L := fun s i => M.spec_ProgText_L0 (s, i, p)) (fun s => (s, p)) (fun i d s h0 hx hm hix hi hw hss => by
    show M.spec_ProgText_L0 (s, (i : Int), p) = _
    obtain ⟨q1, q2, q3, q4⟩ := hok d hm
    have hd : M.spec_l5Data d = some (dataT d) := sp_dataT q1 q2 q3 q4
    rw [ByteArray.size_append, hnl] at hss
    rw [M.e_spec_ProgText_L0]
    simp only [hi, decide_true, cond_true, hix, Option.bind_some, hd, hw]
    rw [gd_t (by omega), Option.bind_some, gd_t (by rw [ByteArray.size_append]; show s.size + (dataT d).size + 1 ≤ _; omega), Option.bind_some, app_assoc]) (fun s => by
    show M.spec_ProgText_L0 (s, (p.Datas.length : Int), p) = _
    rw [M.e_spec_ProgText_L0]
    simp) p.Datas.length 0 ⟨⟨[]⟩⟩ (by omega) (Nat.le_refl _) (by rw [List.drop_zero, hsz0]; omega)
  have a2 := catL (l := p.Datas) (by omega) (fun d => dataT d ++ nl) 0 (L := fun s i => M.impl_ProgText_L0 (s, p.Datas, (p.Datas.length : Int), i, p)) (fun s => (s, p)) (fun i d s h0 hx hm hix hi hw hss => by
    show M.impl_ProgText_L0 (s, p.Datas, (p.Datas.length : Int), (i : Int), p) = _
    obtain ⟨q1, q2, q3, q4⟩ := hok d hm
    obtain ⟨w1, w2⟩ := dataT_size q1 q3 q4
    have hdc := Data.cost_eq d
    have hc := im_consL (p := p) (d := d) (l := d.Cons) (by omega) q4 d.Cons.length 0 [] (by omega) (by simp; omega)
    rw [List.drop_zero, List.nil_append] at hc
    have hc : M.impl_ProgText_L1 (d.Cons, (d.Cons.length : Int), 0, p, d, []) = _ := hc
    have hj := im_join (l := d.Cons.map conT) (sep := bar) (by rw [List.length_map]; omega) (by decide) (by omega)
    have hdt : dataT d = ((⟨⟨[100, 97, 116, 97, 32]⟩⟩ ++ d.Name) ++ ⟨⟨[32, 61, 32]⟩⟩) ++ joinB bar (d.Cons.map conT) := rfl
    rw [ByteArray.size_append, hnl] at hss
    rw [hdt] at hss w1 ⊢
    generalize joinB bar (d.Cons.map conT) = B at *
    simp only [ByteArray.size_append, szl, List.length_cons, List.length_nil] at hss w1
    rw [M.e_impl_ProgText_L0]
    simp only [hi, decide_true, cond_true, hix, Option.bind_some, hc, hj, hw]
    rw [gd_t (by simp only [szl, List.length_cons, List.length_nil]; omega), Option.bind_some]
    rw [gd_t (by simp only [ByteArray.size_append, szl, List.length_cons, List.length_nil]; omega), Option.bind_some]
    rw [gd_t (by simp only [ByteArray.size_append, szl, List.length_cons, List.length_nil]; omega), Option.bind_some]
    rw [gd_t (by simp only [ByteArray.size_append, szl, List.length_cons, List.length_nil]; omega), Option.bind_some]
    rw [gd_t (by simp only [ByteArray.size_append, szl, List.length_cons, List.length_nil]; omega), Option.bind_some]) (fun s => by
    show M.impl_ProgText_L0 (s, p.Datas, (p.Datas.length : Int), (p.Datas.length : Int), p) = _
    rw [M.e_impl_ProgText_L0]
    simp) p.Datas.length 0 ⟨⟨[]⟩⟩ (by omega) (Nat.le_refl _) (by rw [List.drop_zero, hsz0]; omega)
  rw [List.drop_zero] at a1 a2
  have a1 : M.spec_ProgText_L0 (⟨⟨[]⟩⟩, 0, p) = _ := a1
  have a2 : M.impl_ProgText_L0 (⟨⟨[]⟩⟩, p.Datas, (p.Datas.length : Int), 0, p) = _ := a2
  have hCs : (cat (p.Datas.map fun d => dataT d ++ nl)).size ≤ 20000000000 := by rw [cat_size]; omega
  generalize cat (p.Datas.map fun d => dataT d ++ nl) = C at *
  have hHs : ((⟨⟨[]⟩⟩ : ByteArray) ++ C).size ≤ 20000000000 := by rw [ByteArray.size_append, hsz0]; omega
  generalize (⟨⟨[]⟩⟩ : ByteArray) ++ C = H at *
  have b1 := catL (l := p.Decs) (by omega) (fun x => TD x 0 ++ nl) 0 (L := fun s i => M.spec_ProgText_L1 (s, i, p)) (fun s => s) (fun i x s h0 hx hm hix hi hw hss => by
    show M.spec_ProgText_L1 (s, (i : Int), p) = _
    rw [ByteArray.size_append, hnl] at hss
    rw [M.e_spec_ProgText_L1]
    simp only [hi, decide_true, cond_true, hix, Option.bind_some, (hD x hm).1, hw]
    rw [gd_t (by omega), Option.bind_some, gd_t (by rw [ByteArray.size_append]; show s.size + (TD x 0).size + 1 ≤ _; omega), Option.bind_some, app_assoc]) (fun s => by
    show M.spec_ProgText_L1 (s, (p.Decs.length : Int), p) = _
    rw [M.e_spec_ProgText_L1]
    simp) p.Decs.length 0 H (by omega) (Nat.le_refl _) (by rw [List.drop_zero]; omega)
  have b2 := catL (l := p.Decs) (by omega) (fun x => TD x 0 ++ nl) 0 (L := fun s i => M.impl_ProgText_L2 (s, p.Decs, (p.Decs.length : Int), i)) (fun s => s) (fun i x s h0 hx hm hix hi hw hss => by
    show M.impl_ProgText_L2 (s, p.Decs, (p.Decs.length : Int), (i : Int)) = _
    rw [ByteArray.size_append, hnl] at hss
    rw [M.e_impl_ProgText_L2]
    simp only [hi, decide_true, cond_true, hix, Option.bind_some, (hD x hm).2.1, hw]
    rw [gd_t (by show (TD x 0).size + 1 ≤ _; omega), Option.bind_some, gd_t (by rw [ByteArray.size_append]; show s.size + ((TD x 0).size + 1) ≤ _; omega), Option.bind_some]) (fun s => by
    show M.impl_ProgText_L2 (s, p.Decs, (p.Decs.length : Int), (p.Decs.length : Int)) = _
    rw [M.e_impl_ProgText_L2]
    simp) p.Decs.length 0 H (by omega) (Nat.le_refl _) (by rw [List.drop_zero]; omega)
  have b1 : M.spec_ProgText_L1 (H, 0, p) = _ := b1
  have b2 : M.impl_ProgText_L2 (H, p.Decs, (p.Decs.length : Int), 0) = _ := b2
  refine ⟨H ++ cat ((p.Decs.drop 0).map fun x => TD x 0 ++ nl), ?_, ?_⟩
  · rw [M.e_spec_ProgText, s0]
    simp only [Option.bind_some, Bool.not_true, cond_false, a1, b1]
  · rw [M.e_impl_ProgText, i0]
    simp only [Option.bind_some, Bool.not_true, cond_false, a2, b2]
theorem bothF {p : Prog} (hs : p.cost ≤ 1048576) (hp : ¬ progP p) : ∃ s, M.spec_ProgText p = some s ∧ M.impl_ProgText p = some s := by
  have i0 : M.impl_ProgOk p = some false := (im_prog hs).trans (congrArg some (@decide_eq_false _ (Classical.propDecidable _) hp))
  have s0 : M.spec_ProgOk p = some false := (sp_prog hs).trans (congrArg some (@decide_eq_false _ (Classical.propDecidable _) hp))
  refine ⟨⟨⟨[]⟩⟩, ?_, ?_⟩
  · rw [M.e_spec_ProgText, s0]; rfl
  · rw [M.e_impl_ProgText, i0]; rfl
theorem lawText {p : Prog} (h : p.small) : M.laws_FnExactProgText p = some true := by
  rw [M.e_laws_FnExactProgText, szProg p h 1048576 (by omega) (by omega)]
  simp only [Option.bind_some]
  by_cases hc : p.cost ≤ 1048576
  rotate_left
  · have : rest p.cost 1048576 < 0 := by unfold rest; split <;> omega
    rw [decide_eq_true this]; rfl
  have h0 : ¬ rest p.cost 1048576 < 0 := by unfold rest; split <;> omega
  rw [decide_eq_false h0]
  obtain ⟨s, e1, e2⟩ : ∃ s, M.spec_ProgText p = some s ∧ M.impl_ProgText p = some s := by
    by_cases hp : progP p
    · exact bothT hc hp
    · exact bothF hc hp
  simp only [cond_false, toProg p hc, Option.bind_some, e1, e2, eqProg p h p]
  simp
end Q
end W
end
