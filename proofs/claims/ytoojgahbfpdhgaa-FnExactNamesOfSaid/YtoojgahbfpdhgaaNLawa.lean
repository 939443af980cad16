/- Names in order: put in one by one; sorted, each once; without the sign for nothing. -/
import Derived.Test.YtoojgahbfpdhgaaNE
import Derived.Test.YtoojgahbfpdhgaaHLP
import Derived.Test.YtoojgahbfpdhgaaNMan2
import Derived.Test.YtoojgahbfpdhgaaHLZ
set_option linter.unusedSimpArgs false
set_option linter.unusedVariables false
set_option linter.unusedSectionVars false
section
namespace W
open Go HL HL.X
set_option linter.unusedVariables false
set_option maxRecDepth 100000
set_option maxHeartbeats 4000000
namespace Q
theorem cnd_not {α : Type} (b : Bool) (x y : α) : (bif (!b) then x else y) = bif b then y else x := by cases b <;> rfl
theorem cnd_dec {α : Type} (p : Prop) [Decidable p] (x y : α) : (bif decide p then x else y) = if p then x else y := by by_cases h : p <;> simp [h]
def i64 (n : Int) : Prop := -9223372036854775808 ≤ n ∧ n ≤ 9223372036854775807
def strOk (l : List ByteArray) : Prop := l.length ≤ lim ∧ ∀ s ∈ l, s.size ≤ lim
theorem szStringS (l : List ByteArray) (h : strOk l) (left : Int) (h0 : 0 ≤ left) (h1 : left ≤ 1048576) : M.laws_szStringS (l, left) = some (rest (l.length + sumC ByteArray.size l) left) := by
  obtain ⟨hl, hs⟩ := h
  have hlim : lim = 140737488355328 := rfl
  rw [M.e_laws_szStringS]; try simp only [cnd_not, cnd_dec, Option.bind_some]
  rw [wrap_ok (by omega)]
  by_cases hk : left - ((l.length : Nat) : Int) < 0
  · rw [if_pos hk, rest_neg (by omega)]
  rw [if_neg hk]
  have hloop : M.laws_szStringS_L0 (l, left - ((l.length : Nat) : Int), 0) = _ := szLoop ByteArray.size hl (L := fun b i => M.laws_szStringS_L0 (l, b, i)) (fun b i x hx hix hb0 hb1 hi hw => by
    show M.laws_szStringS_L0 (l, b, i) = _
    rw [M.e_laws_szStringS_L0]; try simp only [cnd_not, cnd_dec, Option.bind_some]
    have hsx := hs x (List.mem_of_getElem? hx)
    rw [if_pos hi, hix, Option.bind_some, hw, wrap_ok (by omega)]
    by_cases hr : (x.size : Int) ≤ b
    · rw [rest_pos hr]
    · rw [rest_neg hr, if_pos (by omega), if_pos (by omega)]) (fun b => by
    show M.laws_szStringS_L0 (l, b, _) = _
    rw [M.e_laws_szStringS_L0]; try simp only [cnd_not, cnd_dec, Option.bind_some]
    rw [if_neg (by omega)]) (by omega) (by omega)
  rw [hloop, Option.bind_some]
  by_cases hr : ((sumC ByteArray.size l : Nat) : Int) ≤ left - ((l.length : Nat) : Int)
  · rw [rest_pos hr, if_neg (by omega), rest_pos (by omega)]; show some _ = some _; congr 1; omega
  · rw [rest_neg hr, if_pos (by omega), rest_neg (by omega)]; rfl
theorem toStringS (l : List ByteArray) (h : l.length ≤ 1048576) : M.laws_toStringS l = some l := by
  have hlim : lim = 140737488355328 := rfl
  rw [M.e_laws_toStringS, gd_t (by omega), Option.bind_some, gd_t (by omega), Option.bind_some]
  have hloop : ∀ z, M.laws_toStringS_L0 (l, 0, List.replicate l.length z) = some l := fun z => setLoop (by omega) (by simp) (L := fun i o => M.laws_toStringS_L0 (l, i, o)) (fun i x o hx hix ho hi hw => by
    show M.laws_toStringS_L0 (l, i, o) = _
    rw [M.e_laws_toStringS_L0]; try simp only [cnd_not, cnd_dec, Option.bind_some]
    rw [if_pos hi, hix, Option.bind_some, gd_t (by omega), Option.bind_some, gd_t (by omega), Option.bind_some, hw]
    rfl) (fun o => by
    show M.laws_toStringS_L0 (l, _, o) = _
    rw [M.e_laws_toStringS_L0]; try simp only [cnd_not, cnd_dec, Option.bind_some]
    rw [if_neg (by omega)])
  simp only [Int.toNat_natCast]; rw [hloop]; rfl
open Classical in
theorem eqStringS (l l' : List ByteArray) (hl : l.length ≤ lim) : M.laws_eqStringS (l, l') = some (decide (l = l')) := by
  have hlim : lim = 140737488355328 := rfl
  rw [M.e_laws_eqStringS]; try simp only [cnd_not, cnd_dec, Option.bind_some]
  by_cases hlen : l.length = l'.length
  rotate_left
  · rw [if_neg (by omega)]
    rw [decide_eq_false (fun e => hlen (by rw [e]))]
  rw [if_pos (by omega)]
  have hloop : M.laws_eqStringS_L0 (l, l', 0) = _ := eqLoop hl hlen (L := fun i => M.laws_eqStringS_L0 (l, l', i)) (fun i x y hx hy hix hiy hi hw => by
    show M.laws_eqStringS_L0 (l, l', i) = _
    rw [M.e_laws_eqStringS_L0]; try simp only [cnd_not, cnd_dec, Option.bind_some]
    rw [if_pos hi, hix, Option.bind_some, hiy, Option.bind_some, hw]
    by_cases e : x = y
    · rw [if_pos e, if_pos e]
    · rw [if_neg e, if_neg e]) (by
    show M.laws_eqStringS_L0 (l, l', _) = _
    rw [M.e_laws_eqStringS_L0]; try simp only [cnd_not, cnd_dec, Option.bind_some]
    rw [if_neg (by omega)])
  rw [hloop, Option.bind_some]
  by_cases e : l = l'
  · rw [if_pos e, decide_eq_true e]; rfl
  · rw [if_neg e, decide_eq_false e]; rfl
end Q
mutual
def Alt.cost : Alt → Nat
  | ⟨Great_, Vars_, E_⟩ => Great_.size + (Vars_.length + sumC ByteArray.size Vars_) + Exp.cost E_
def Alt.costL : List Alt → Nat
  | [] => 0
  | x :: l => x.cost + Alt.costL l
def Dec.cost : Dec → Nat
  | ⟨Name_, Pars_, E_, Where_⟩ => Name_.size + (Pars_.length + sumC ByteArray.size Pars_) + Exp.cost E_ + (Where_.length + Dec.costL Where_)
def Dec.costL : List Dec → Nat
  | [] => 0
  | x :: l => x.cost + Dec.costL l
def Exp.cost : Exp → Nat
  | ⟨K_, S_, N_, L_, Decs_, Alts_⟩ => S_.size + (L_.length + Exp.costL L_) + (Decs_.length + Dec.costL Decs_) + (Alts_.length + Alt.costL Alts_)
def Exp.costL : List Exp → Nat
  | [] => 0
  | x :: l => x.cost + Exp.costL l
end
mutual
def Alt.small : Alt → Prop
  | ⟨Great_, Vars_, E_⟩ => Great_.size ≤ lim ∧ Q.strOk Vars_ ∧ Exp.small E_
def Alt.smallL : List Alt → Prop
  | [] => True
  | x :: l => x.small ∧ Alt.smallL l
def Dec.small : Dec → Prop
  | ⟨Name_, Pars_, E_, Where_⟩ => Name_.size ≤ lim ∧ Q.strOk Pars_ ∧ Exp.small E_ ∧ Where_.length ≤ lim ∧ Dec.smallL Where_
def Dec.smallL : List Dec → Prop
  | [] => True
  | x :: l => x.small ∧ Dec.smallL l
def Exp.small : Exp → Prop
  | ⟨K_, S_, N_, L_, Decs_, Alts_⟩ => S_.size ≤ lim ∧ L_.length ≤ lim ∧ Exp.smallL L_ ∧ Decs_.length ≤ lim ∧ Dec.smallL Decs_ ∧ Alts_.length ≤ lim ∧ Alt.smallL Alts_
def Exp.smallL : List Exp → Prop
  | [] => True
  | x :: l => x.small ∧ Exp.smallL l
end
theorem Alt.smallL_iff : ∀ {l : List Alt}, Alt.smallL l ↔ ∀ x ∈ l, x.small
  | [] => by simp [Alt.smallL]
  | x :: l => by simp [Alt.smallL, Alt.smallL_iff (l := l)]
theorem Alt.costL_eq : ∀ (l : List Alt), Alt.costL l = sumC Alt.cost l
  | [] => rfl
  | x :: l => by simp [Alt.costL, sumC, Alt.costL_eq l]
theorem Alt.cost_eq (t : Alt) : t.cost = t.Great.size + (t.Vars.length + sumC ByteArray.size t.Vars) + t.E.cost := by
  cases t; simp only [Alt.cost] <;> rfl
theorem Alt.small_eq (t : Alt) : t.small ↔ t.Great.size ≤ lim ∧ Q.strOk t.Vars ∧ t.E.small := by
  cases t; simp only [Alt.small] <;> rfl
theorem Alt.eta (t : Alt) : Alt.mk t.Great t.Vars t.E = t := by cases t; rfl
theorem Alt.ext' {a b : Alt} (h0 : a.Great = b.Great) (h1 : a.Vars = b.Vars) (h2 : a.E = b.E) : a = b := by
  cases a; cases b; simp_all [Alt.Great, Alt.Vars, Alt.E]
theorem Dec.smallL_iff : ∀ {l : List Dec}, Dec.smallL l ↔ ∀ x ∈ l, x.small
  | [] => by simp [Dec.smallL]
  | x :: l => by simp [Dec.smallL, Dec.smallL_iff (l := l)]
theorem Dec.costL_eq : ∀ (l : List Dec), Dec.costL l = sumC Dec.cost l
  | [] => rfl
  | x :: l => by simp [Dec.costL, sumC, Dec.costL_eq l]
theorem Dec.cost_eq (t : Dec) : t.cost = t.Name.size + (t.Pars.length + sumC ByteArray.size t.Pars) + t.E.cost + (t.Where.length + sumC Dec.cost t.Where) := by
  cases t; simp only [Dec.cost, Dec.costL_eq] <;> rfl
theorem Dec.small_eq (t : Dec) : t.small ↔ t.Name.size ≤ lim ∧ Q.strOk t.Pars ∧ t.E.small ∧ t.Where.length ≤ lim ∧ (∀ x ∈ t.Where, x.small) := by
  cases t; simp only [Dec.small, Dec.smallL_iff] <;> rfl
theorem Dec.eta (t : Dec) : Dec.mk t.Name t.Pars t.E t.Where = t := by cases t; rfl
theorem Dec.ext' {a b : Dec} (h0 : a.Name = b.Name) (h1 : a.Pars = b.Pars) (h2 : a.E = b.E) (h3 : a.Where = b.Where) : a = b := by
  cases a; cases b; simp_all [Dec.Name, Dec.Pars, Dec.E, Dec.Where]
theorem Exp.smallL_iff : ∀ {l : List Exp}, Exp.smallL l ↔ ∀ x ∈ l, x.small
  | [] => by simp [Exp.smallL]
  | x :: l => by simp [Exp.smallL, Exp.smallL_iff (l := l)]
theorem Exp.costL_eq : ∀ (l : List Exp), Exp.costL l = sumC Exp.cost l
  | [] => rfl
  | x :: l => by simp [Exp.costL, sumC, Exp.costL_eq l]
theorem Exp.cost_eq (t : Exp) : t.cost = t.S.size + (t.L.length + sumC Exp.cost t.L) + (t.Decs.length + sumC Dec.cost t.Decs) + (t.Alts.length + sumC Alt.cost t.Alts) := by
  cases t; simp only [Exp.cost, Exp.costL_eq, Dec.costL_eq, Alt.costL_eq] <;> rfl
theorem Exp.small_eq (t : Exp) : t.small ↔ t.S.size ≤ lim ∧ t.L.length ≤ lim ∧ (∀ x ∈ t.L, x.small) ∧ t.Decs.length ≤ lim ∧ (∀ x ∈ t.Decs, x.small) ∧ t.Alts.length ≤ lim ∧ (∀ x ∈ t.Alts, x.small) := by
  cases t; simp only [Exp.small, Exp.smallL_iff, Dec.smallL_iff, Alt.smallL_iff] <;> rfl
theorem Exp.eta (t : Exp) : Exp.mk t.K t.S t.N t.L t.Decs t.Alts = t := by cases t; rfl
theorem Exp.ext' {a b : Exp} (h0 : a.K = b.K) (h1 : a.S = b.S) (h2 : a.N = b.N) (h3 : a.L = b.L) (h4 : a.Decs = b.Decs) (h5 : a.Alts = b.Alts) : a = b := by
  cases a; cases b; simp_all [Exp.K, Exp.S, Exp.N, Exp.L, Exp.Decs, Exp.Alts]
mutual
theorem Alt.ind {M0 : Alt → Prop} {M1 : Dec → Prop} {M2 : Exp → Prop} (h0 : ∀ t : Alt, M2 t.E → M0 t) (h1 : ∀ t : Dec, M2 t.E → (∀ x ∈ t.Where, M1 x) → M1 t) (h2 : ∀ t : Exp, (∀ x ∈ t.L, M2 x) → (∀ x ∈ t.Decs, M1 x) → (∀ x ∈ t.Alts, M0 x) → M2 t) : ∀ t : Alt, M0 t
  | ⟨Great_, Vars_, E_⟩ => h0 _ (Exp.ind h0 h1 h2 E_)
theorem Alt.indL {M0 : Alt → Prop} {M1 : Dec → Prop} {M2 : Exp → Prop} (h0 : ∀ t : Alt, M2 t.E → M0 t) (h1 : ∀ t : Dec, M2 t.E → (∀ x ∈ t.Where, M1 x) → M1 t) (h2 : ∀ t : Exp, (∀ x ∈ t.L, M2 x) → (∀ x ∈ t.Decs, M1 x) → (∀ x ∈ t.Alts, M0 x) → M2 t) : ∀ l : List Alt, ∀ x ∈ l, M0 x
  | [] => fun x hx => by cases hx
  | y :: l => fun x hx => (List.mem_cons.1 hx).elim (fun e => e ▸ Alt.ind h0 h1 h2 y) (fun h => Alt.indL h0 h1 h2 l x h)
theorem Dec.ind {M0 : Alt → Prop} {M1 : Dec → Prop} {M2 : Exp → Prop} (h0 : ∀ t : Alt, M2 t.E → M0 t) (h1 : ∀ t : Dec, M2 t.E → (∀ x ∈ t.Where, M1 x) → M1 t) (h2 : ∀ t : Exp, (∀ x ∈ t.L, M2 x) → (∀ x ∈ t.Decs, M1 x) → (∀ x ∈ t.Alts, M0 x) → M2 t) : ∀ t : Dec, M1 t
  | ⟨Name_, Pars_, E_, Where_⟩ => h1 _ (Exp.ind h0 h1 h2 E_) (Dec.indL h0 h1 h2 Where_)
theorem Dec.indL {M0 : Alt → Prop} {M1 : Dec → Prop} {M2 : Exp → Prop} (h0 : ∀ t : Alt, M2 t.E → M0 t) (h1 : ∀ t : Dec, M2 t.E → (∀ x ∈ t.Where, M1 x) → M1 t) (h2 : ∀ t : Exp, (∀ x ∈ t.L, M2 x) → (∀ x ∈ t.Decs, M1 x) → (∀ x ∈ t.Alts, M0 x) → M2 t) : ∀ l : List Dec, ∀ x ∈ l, M1 x
  | [] => fun x hx => by cases hx
  | y :: l => fun x hx => (List.mem_cons.1 hx).elim (fun e => e ▸ Dec.ind h0 h1 h2 y) (fun h => Dec.indL h0 h1 h2 l x h)
theorem Exp.ind {M0 : Alt → Prop} {M1 : Dec → Prop} {M2 : Exp → Prop} (h0 : ∀ t : Alt, M2 t.E → M0 t) (h1 : ∀ t : Dec, M2 t.E → (∀ x ∈ t.Where, M1 x) → M1 t) (h2 : ∀ t : Exp, (∀ x ∈ t.L, M2 x) → (∀ x ∈ t.Decs, M1 x) → (∀ x ∈ t.Alts, M0 x) → M2 t) : ∀ t : Exp, M2 t
  | ⟨K_, S_, N_, L_, Decs_, Alts_⟩ => h2 _ (Exp.indL h0 h1 h2 L_) (Dec.indL h0 h1 h2 Decs_) (Alt.indL h0 h1 h2 Alts_)
theorem Exp.indL {M0 : Alt → Prop} {M1 : Dec → Prop} {M2 : Exp → Prop} (h0 : ∀ t : Alt, M2 t.E → M0 t) (h1 : ∀ t : Dec, M2 t.E → (∀ x ∈ t.Where, M1 x) → M1 t) (h2 : ∀ t : Exp, (∀ x ∈ t.L, M2 x) → (∀ x ∈ t.Decs, M1 x) → (∀ x ∈ t.Alts, M0 x) → M2 t) : ∀ l : List Exp, ∀ x ∈ l, M2 x
  | [] => fun x hx => by cases hx
  | y :: l => fun x hx => (List.mem_cons.1 hx).elim (fun e => e ▸ Exp.ind h0 h1 h2 y) (fun h => Exp.indL h0 h1 h2 l x h)
end
namespace Q
theorem szAltS_of (l : List Alt) (hl : l.length ≤ lim) (IH : ∀ x ∈ l, ∀ left : Int, 0 ≤ left → left ≤ 1048576 → M.laws_szAlt (x, left) = some (rest x.cost left)) (left : Int) (h0 : 0 ≤ left) (h1 : left ≤ 1048576) : M.laws_szAltS (l, left) = some (rest (l.length + sumC Alt.cost l) left) := by
  have hlim : lim = 140737488355328 := rfl
  rw [M.e_laws_szAltS]; try simp only [cnd_not, cnd_dec, Option.bind_some]
  rw [wrap_ok (by omega)]
  by_cases hk : left - ((l.length : Nat) : Int) < 0
  · rw [if_pos hk, rest_neg (by omega)]
  rw [if_neg hk]
  have hloop : M.laws_szAltS_L0 (l, left - ((l.length : Nat) : Int), 0) = _ := szLoop Alt.cost hl (L := fun b i => M.laws_szAltS_L0 (l, b, i)) (fun b i x hx hix hb0 hb1 hi hw => by
    show M.laws_szAltS_L0 (l, b, i) = _
    rw [M.e_laws_szAltS_L0]; try simp only [cnd_not, cnd_dec, Option.bind_some]
    rw [if_pos hi, hix, Option.bind_some, IH x (List.mem_of_getElem? hx) b hb0 hb1, Option.bind_some, hw]) (fun b => by
    show M.laws_szAltS_L0 (l, b, _) = _
    rw [M.e_laws_szAltS_L0]; try simp only [cnd_not, cnd_dec, Option.bind_some]
    rw [if_neg (by omega)]) (by omega) (by omega)
  rw [hloop, Option.bind_some]
  by_cases hr : ((sumC Alt.cost l : Nat) : Int) ≤ left - ((l.length : Nat) : Int)
  · rw [rest_pos hr, if_neg (by omega), rest_pos (by omega)]; show some _ = some _; congr 1; omega
  · rw [rest_neg hr, if_pos (by omega), rest_neg (by omega)]; rfl
theorem toAltS_of (l : List Alt) (h : l.length ≤ 1048576) (IH : ∀ x ∈ l, M.laws_toAlt x = some x) : M.laws_toAltS l = some l := by
  have hlim : lim = 140737488355328 := rfl
  rw [M.e_laws_toAltS, gd_t (by omega), Option.bind_some, gd_t (by omega), Option.bind_some]
  have hloop : ∀ z, M.laws_toAltS_L0 (l, 0, List.replicate l.length z) = some l := fun z => setLoop (by omega) (by simp) (L := fun i o => M.laws_toAltS_L0 (l, i, o)) (fun i x o hx hix ho hi hw => by
    show M.laws_toAltS_L0 (l, i, o) = _
    rw [M.e_laws_toAltS_L0]; try simp only [cnd_not, cnd_dec, Option.bind_some]
    rw [if_pos hi, hix, Option.bind_some, IH x (List.mem_of_getElem? hx), Option.bind_some, gd_t (by omega), Option.bind_some, gd_t (by omega), Option.bind_some, hw]
    rfl) (fun o => by
    show M.laws_toAltS_L0 (l, _, o) = _
    rw [M.e_laws_toAltS_L0]; try simp only [cnd_not, cnd_dec, Option.bind_some]
    rw [if_neg (by omega)])
  simp only [Int.toNat_natCast]; rw [hloop]; rfl
open Classical in
theorem eqAltS_of (l l' : List Alt) (hl : l.length ≤ lim) (IH : ∀ x ∈ l, ∀ y, M.laws_eqAlt (x, y) = some (decide (x = y))) : M.laws_eqAltS (l, l') = some (decide (l = l')) := by
  have hlim : lim = 140737488355328 := rfl
  rw [M.e_laws_eqAltS]; try simp only [cnd_not, cnd_dec, Option.bind_some]
  by_cases hlen : l.length = l'.length
  rotate_left
  · rw [if_neg (by omega)]
    rw [decide_eq_false (fun e => hlen (by rw [e]))]
  rw [if_pos (by omega)]
  have hloop : M.laws_eqAltS_L0 (l, l', 0) = _ := eqLoop hl hlen (L := fun i => M.laws_eqAltS_L0 (l, l', i)) (fun i x y hx hy hix hiy hi hw => by
    show M.laws_eqAltS_L0 (l, l', i) = _
    rw [M.e_laws_eqAltS_L0]; try simp only [cnd_not, cnd_dec, Option.bind_some]
    rw [if_pos hi, hix, Option.bind_some, hiy, Option.bind_some, hw]
    rw [IH x (List.mem_of_getElem? hx) y, Option.bind_some]
    by_cases e : x = y
    · rw [decide_eq_true e, if_pos e]; rfl
    · rw [decide_eq_false e, if_neg e]; rfl) (by
    show M.laws_eqAltS_L0 (l, l', _) = _
    rw [M.e_laws_eqAltS_L0]; try simp only [cnd_not, cnd_dec, Option.bind_some]
    rw [if_neg (by omega)])
  rw [hloop, Option.bind_some]
  by_cases e : l = l'
  · rw [if_pos e, decide_eq_true e]; rfl
  · rw [if_neg e, decide_eq_false e]; rfl
theorem szDecS_of (l : List Dec) (hl : l.length ≤ lim) (IH : ∀ x ∈ l, ∀ left : Int, 0 ≤ left → left ≤ 1048576 → M.laws_szDec (x, left) = some (rest x.cost left)) (left : Int) (h0 : 0 ≤ left) (h1 : left ≤ 1048576) : M.laws_szDecS (l, left) = some (rest (l.length + sumC Dec.cost l) left) := by
  have hlim : lim = 140737488355328 := rfl
  rw [M.e_laws_szDecS]; try simp only [cnd_not, cnd_dec, Option.bind_some]
  rw [wrap_ok (by omega)]
  by_cases hk : left - ((l.length : Nat) : Int) < 0
  · rw [if_pos hk, rest_neg (by omega)]
  rw [if_neg hk]
  have hloop : M.laws_szDecS_L0 (l, left - ((l.length : Nat) : Int), 0) = _ := szLoop Dec.cost hl (L := fun b i => M.laws_szDecS_L0 (l, b, i)) (fun b i x hx hix hb0 hb1 hi hw => by
    show M.laws_szDecS_L0 (l, b, i) = _
    rw [M.e_laws_szDecS_L0]; try simp only [cnd_not, cnd_dec, Option.bind_some]
    rw [if_pos hi, hix, Option.bind_some, IH x (List.mem_of_getElem? hx) b hb0 hb1, Option.bind_some, hw]) (fun b => by
    show M.laws_szDecS_L0 (l, b, _) = _
    rw [M.e_laws_szDecS_L0]; try simp only [cnd_not, cnd_dec, Option.bind_some]
    rw [if_neg (by omega)]) (by omega) (by omega)
  rw [hloop, Option.bind_some]
  by_cases hr : ((sumC Dec.cost l : Nat) : Int) ≤ left - ((l.length : Nat) : Int)
  · rw [rest_pos hr, if_neg (by omega), rest_pos (by omega)]; show some _ = some _; congr 1; omega
  · rw [rest_neg hr, if_pos (by omega), rest_neg (by omega)]; rfl
theorem toDecS_of (l : List Dec) (h : l.length ≤ 1048576) (IH : ∀ x ∈ l, M.laws_toDec x = some x) : M.laws_toDecS l = some l := by
  have hlim : lim = 140737488355328 := rfl
  rw [M.e_laws_toDecS, gd_t (by omega), Option.bind_some, gd_t (by omega), Option.bind_some]
  have hloop : ∀ z, M.laws_toDecS_L0 (l, 0, List.replicate l.length z) = some l := fun z => setLoop (by omega) (by simp) (L := fun i o => M.laws_toDecS_L0 (l, i, o)) (fun i x o hx hix ho hi hw => by
    show M.laws_toDecS_L0 (l, i, o) = _
    rw [M.e_laws_toDecS_L0]; try simp only [cnd_not, cnd_dec, Option.bind_some]
    rw [if_pos hi, hix, Option.bind_some, IH x (List.mem_of_getElem? hx), Option.bind_some, gd_t (by omega), Option.bind_some, gd_t (by omega), Option.bind_some, hw]
    rfl) (fun o => by
    show M.laws_toDecS_L0 (l, _, o) = _
    rw [M.e_laws_toDecS_L0]; try simp only [cnd_not, cnd_dec, Option.bind_some]
    rw [if_neg (by omega)])
  simp only [Int.toNat_natCast]; rw [hloop]; rfl
open Classical in
theorem eqDecS_of (l l' : List Dec) (hl : l.length ≤ lim) (IH : ∀ x ∈ l, ∀ y, M.laws_eqDec (x, y) = some (decide (x = y))) : M.laws_eqDecS (l, l') = some (decide (l = l')) := by
  have hlim : lim = 140737488355328 := rfl
  rw [M.e_laws_eqDecS]; try simp only [cnd_not, cnd_dec, Option.bind_some]
  by_cases hlen : l.length = l'.length
  rotate_left
  · rw [if_neg (by omega)]
    rw [decide_eq_false (fun e => hlen (by rw [e]))]
  rw [if_pos (by omega)]
  have hloop : M.laws_eqDecS_L0 (l, l', 0) = _ := eqLoop hl hlen (L := fun i => M.laws_eqDecS_L0 (l, l', i)) (fun i x y hx hy hix hiy hi hw => by
    show M.laws_eqDecS_L0 (l, l', i) = _
    rw [M.e_laws_eqDecS_L0]; try simp only [cnd_not, cnd_dec, Option.bind_some]
    rw [if_pos hi, hix, Option.bind_some, hiy, Option.bind_some, hw]
    rw [IH x (List.mem_of_getElem? hx) y, Option.bind_some]
    by_cases e : x = y
    · rw [decide_eq_true e, if_pos e]; rfl
    · rw [decide_eq_false e, if_neg e]; rfl) (by
    show M.laws_eqDecS_L0 (l, l', _) = _
    rw [M.e_laws_eqDecS_L0]; try simp only [cnd_not, cnd_dec, Option.bind_some]
    rw [if_neg (by omega)])
  rw [hloop, Option.bind_some]
  by_cases e : l = l'
  · rw [if_pos e, decide_eq_true e]; rfl
  · rw [if_neg e, decide_eq_false e]; rfl
theorem szExpS_of (l : List Exp) (hl : l.length ≤ lim) (IH : ∀ x ∈ l, ∀ left : Int, 0 ≤ left → left ≤ 1048576 → M.laws_szExp (x, left) = some (rest x.cost left)) (left : Int) (h0 : 0 ≤ left) (h1 : left ≤ 1048576) : M.laws_szExpS (l, left) = some (rest (l.length + sumC Exp.cost l) left) := by
  have hlim : lim = 140737488355328 := rfl
  rw [M.e_laws_szExpS]; try simp only [cnd_not, cnd_dec, Option.bind_some]
  rw [wrap_ok (by omega)]
  by_cases hk : left - ((l.length : Nat) : Int) < 0
  · rw [if_pos hk, rest_neg (by omega)]
  rw [if_neg hk]
  have hloop : M.laws_szExpS_L0 (l, left - ((l.length : Nat) : Int), 0) = _ := szLoop Exp.cost hl (L := fun b i => M.laws_szExpS_L0 (l, b, i)) (fun b i x hx hix hb0 hb1 hi hw => by
    show M.laws_szExpS_L0 (l, b, i) = _
    rw [M.e_laws_szExpS_L0]; try simp only [cnd_not, cnd_dec, Option.bind_some]
    rw [if_pos hi, hix, Option.bind_some, IH x (List.mem_of_getElem? hx) b hb0 hb1, Option.bind_some, hw]) (fun b => by
    show M.laws_szExpS_L0 (l, b, _) = _
    rw [M.e_laws_szExpS_L0]; try simp only [cnd_not, cnd_dec, Option.bind_some]
    rw [if_neg (by omega)]) (by omega) (by omega)
  rw [hloop, Option.bind_some]
  by_cases hr : ((sumC Exp.cost l : Nat) : Int) ≤ left - ((l.length : Nat) : Int)
  · rw [rest_pos hr, if_neg (by omega), rest_pos (by omega)]; show some _ = some _; congr 1; omega
  · rw [rest_neg hr, if_pos (by omega), rest_neg (by omega)]; rfl
theorem toExpS_of (l : List Exp) (h : l.length ≤ 1048576) (IH : ∀ x ∈ l, M.laws_toExp x = some x) : M.laws_toExpS l = some l := by
  have hlim : lim = 140737488355328 := rfl
  rw [M.e_laws_toExpS, gd_t (by omega), Option.bind_some, gd_t (by omega), Option.bind_some]
  have hloop : ∀ z, M.laws_toExpS_L0 (l, 0, List.replicate l.length z) = some l := fun z => setLoop (by omega) (by simp) (L := fun i o => M.laws_toExpS_L0 (l, i, o)) (fun i x o hx hix ho hi hw => by
    show M.laws_toExpS_L0 (l, i, o) = _
    rw [M.e_laws_toExpS_L0]; try simp only [cnd_not, cnd_dec, Option.bind_some]
    rw [if_pos hi, hix, Option.bind_some, IH x (List.mem_of_getElem? hx), Option.bind_some, gd_t (by omega), Option.bind_some, gd_t (by omega), Option.bind_some, hw]
    rfl) (fun o => by
    show M.laws_toExpS_L0 (l, _, o) = _
    rw [M.e_laws_toExpS_L0]; try simp only [cnd_not, cnd_dec, Option.bind_some]
    rw [if_neg (by omega)])
  simp only [Int.toNat_natCast]; rw [hloop]; rfl
open Classical in
theorem eqExpS_of (l l' : List Exp) (hl : l.length ≤ lim) (IH : ∀ x ∈ l, ∀ y, M.laws_eqExp (x, y) = some (decide (x = y))) : M.laws_eqExpS (l, l') = some (decide (l = l')) := by
  have hlim : lim = 140737488355328 := rfl
  rw [M.e_laws_eqExpS]; try simp only [cnd_not, cnd_dec, Option.bind_some]
  by_cases hlen : l.length = l'.length
  rotate_left
  · rw [if_neg (by omega)]
    rw [decide_eq_false (fun e => hlen (by rw [e]))]
  rw [if_pos (by omega)]
  have hloop : M.laws_eqExpS_L0 (l, l', 0) = _ := eqLoop hl hlen (L := fun i => M.laws_eqExpS_L0 (l, l', i)) (fun i x y hx hy hix hiy hi hw => by
    show M.laws_eqExpS_L0 (l, l', i) = _
    rw [M.e_laws_eqExpS_L0]; try simp only [cnd_not, cnd_dec, Option.bind_some]
    rw [if_pos hi, hix, Option.bind_some, hiy, Option.bind_some, hw]
    rw [IH x (List.mem_of_getElem? hx) y, Option.bind_some]
    by_cases e : x = y
    · rw [decide_eq_true e, if_pos e]; rfl
    · rw [decide_eq_false e, if_neg e]; rfl) (by
    show M.laws_eqExpS_L0 (l, l', _) = _
    rw [M.e_laws_eqExpS_L0]; try simp only [cnd_not, cnd_dec, Option.bind_some]
    rw [if_neg (by omega)])
  rw [hloop, Option.bind_some]
  by_cases e : l = l'
  · rw [if_pos e, decide_eq_true e]; rfl
  · rw [if_neg e, decide_eq_false e]; rfl
theorem szAlt_all : (∀ t : Alt, t.small → ∀ left : Int, 0 ≤ left → left ≤ 1048576 → M.laws_szAlt (t, left) = some (rest t.cost left)) ∧
  (∀ t : Dec, t.small → ∀ left : Int, 0 ≤ left → left ≤ 1048576 → M.laws_szDec (t, left) = some (rest t.cost left)) ∧
  (∀ t : Exp, t.small → ∀ left : Int, 0 ≤ left → left ≤ 1048576 → M.laws_szExp (t, left) = some (rest t.cost left)) := by
  have h0 : ∀ t : Alt, (t.E.small → ∀ left : Int, 0 ≤ left → left ≤ 1048576 → M.laws_szExp (t.E, left) = some (rest t.E.cost left)) → (t.small → ∀ left : Int, 0 ≤ left → left ≤ 1048576 → M.laws_szAlt (t, left) = some (rest t.cost left)) := by
    intro t ih0
    intro hs left h0 h1
    have hlim : lim = 140737488355328 := rfl
    obtain ⟨hq_Great, hq_Vars, hq_E⟩ := (Alt.small_eq t).1 hs
    have hcost := Alt.cost_eq t
    rw [M.e_laws_szAlt]; try simp only [cnd_not, cnd_dec, Option.bind_some]
    rw [wrap_ok (by omega)]
    by_cases hk_Great : left - ((t.Great.size : Nat) : Int) < 0
    · rw [if_pos hk_Great, rest_neg (by omega)]
    rw [if_neg hk_Great]
    rw [szStringS _ hq_Vars _ (by omega) (by omega), Option.bind_some]
    by_cases hk_Vars : ((t.Vars.length + sumC ByteArray.size t.Vars : Nat) : Int) ≤ left - ((t.Great.size : Nat) : Int)
    rotate_left
    · rw [rest_neg hk_Vars, if_pos (by omega), rest_neg (by omega)]
    rw [rest_pos hk_Vars, if_neg (by omega)]
    rw [ih0 hq_E _ (by omega) (by omega), Option.bind_some]
    by_cases hk_E : ((Exp.cost t.E : Nat) : Int) ≤ left - ((t.Great.size : Nat) : Int) - ((t.Vars.length + sumC ByteArray.size t.Vars : Nat) : Int)
    rotate_left
    · rw [rest_neg hk_E, if_pos (by omega), rest_neg (by omega)]
    rw [rest_pos hk_E, if_neg (by omega)]
    rw [rest_pos (by omega)]; try congr 1; try omega
  have h1 : ∀ t : Dec, (t.E.small → ∀ left : Int, 0 ≤ left → left ≤ 1048576 → M.laws_szExp (t.E, left) = some (rest t.E.cost left)) → (∀ x ∈ t.Where, (x.small → ∀ left : Int, 0 ≤ left → left ≤ 1048576 → M.laws_szDec (x, left) = some (rest x.cost left))) → (t.small → ∀ left : Int, 0 ≤ left → left ≤ 1048576 → M.laws_szDec (t, left) = some (rest t.cost left)) := by
    intro t ih0 ih1
    intro hs left h0 h1
    have hlim : lim = 140737488355328 := rfl
    obtain ⟨hq_Name, hq_Pars, hq_E, hl_Where, hm_Where⟩ := (Dec.small_eq t).1 hs
    have hcost := Dec.cost_eq t
    rw [M.e_laws_szDec]; try simp only [cnd_not, cnd_dec, Option.bind_some]
    rw [wrap_ok (by omega)]
    by_cases hk_Name : left - ((t.Name.size : Nat) : Int) < 0
    · rw [if_pos hk_Name, rest_neg (by omega)]
    rw [if_neg hk_Name]
    rw [szStringS _ hq_Pars _ (by omega) (by omega), Option.bind_some]
    by_cases hk_Pars : ((t.Pars.length + sumC ByteArray.size t.Pars : Nat) : Int) ≤ left - ((t.Name.size : Nat) : Int)
    rotate_left
    · rw [rest_neg hk_Pars, if_pos (by omega), rest_neg (by omega)]
    rw [rest_pos hk_Pars, if_neg (by omega)]
    rw [ih0 hq_E _ (by omega) (by omega), Option.bind_some]
    by_cases hk_E : ((Exp.cost t.E : Nat) : Int) ≤ left - ((t.Name.size : Nat) : Int) - ((t.Pars.length + sumC ByteArray.size t.Pars : Nat) : Int)
    rotate_left
    · rw [rest_neg hk_E, if_pos (by omega), rest_neg (by omega)]
    rw [rest_pos hk_E, if_neg (by omega)]
    rw [szDecS_of _ hl_Where (fun x hx => ih1 x hx (hm_Where x hx)) _ (by omega) (by omega), Option.bind_some]
    by_cases hk_Where : ((t.Where.length + sumC Dec.cost t.Where : Nat) : Int) ≤ left - ((t.Name.size : Nat) : Int) - ((t.Pars.length + sumC ByteArray.size t.Pars : Nat) : Int) - ((Exp.cost t.E : Nat) : Int)
    rotate_left
    · rw [rest_neg hk_Where, if_pos (by omega), rest_neg (by omega)]
    rw [rest_pos hk_Where, if_neg (by omega)]
    rw [rest_pos (by omega)]; try congr 1; try omega
  have h2 : ∀ t : Exp, (∀ x ∈ t.L, (x.small → ∀ left : Int, 0 ≤ left → left ≤ 1048576 → M.laws_szExp (x, left) = some (rest x.cost left))) → (∀ x ∈ t.Decs, (x.small → ∀ left : Int, 0 ≤ left → left ≤ 1048576 → M.laws_szDec (x, left) = some (rest x.cost left))) → (∀ x ∈ t.Alts, (x.small → ∀ left : Int, 0 ≤ left → left ≤ 1048576 → M.laws_szAlt (x, left) = some (rest x.cost left))) → (t.small → ∀ left : Int, 0 ≤ left → left ≤ 1048576 → M.laws_szExp (t, left) = some (rest t.cost left)) := by
    intro t ih0 ih1 ih2
    intro hs left h0 h1
    have hlim : lim = 140737488355328 := rfl
    obtain ⟨hq_S, hl_L, hm_L, hl_Decs, hm_Decs, hl_Alts, hm_Alts⟩ := (Exp.small_eq t).1 hs
    have hcost := Exp.cost_eq t
    rw [M.e_laws_szExp]; try simp only [cnd_not, cnd_dec, Option.bind_some]
    rw [wrap_ok (by omega)]
    by_cases hk_S : left - ((t.S.size : Nat) : Int) < 0
    · rw [if_pos hk_S, rest_neg (by omega)]
    rw [if_neg hk_S]
    rw [szExpS_of _ hl_L (fun x hx => ih0 x hx (hm_L x hx)) _ (by omega) (by omega), Option.bind_some]
    by_cases hk_L : ((t.L.length + sumC Exp.cost t.L : Nat) : Int) ≤ left - ((t.S.size : Nat) : Int)
    rotate_left
    · rw [rest_neg hk_L, if_pos (by omega), rest_neg (by omega)]
    rw [rest_pos hk_L, if_neg (by omega)]
    rw [szDecS_of _ hl_Decs (fun x hx => ih1 x hx (hm_Decs x hx)) _ (by omega) (by omega), Option.bind_some]
    by_cases hk_Decs : ((t.Decs.length + sumC Dec.cost t.Decs : Nat) : Int) ≤ left - ((t.S.size : Nat) : Int) - ((t.L.length + sumC Exp.cost t.L : Nat) : Int)
    rotate_left
    · rw [rest_neg hk_Decs, if_pos (by omega), rest_neg (by omega)]
    rw [rest_pos hk_Decs, if_neg (by omega)]
    rw [szAltS_of _ hl_Alts (fun x hx => ih2 x hx (hm_Alts x hx)) _ (by omega) (by omega), Option.bind_some]
    by_cases hk_Alts : ((t.Alts.length + sumC Alt.cost t.Alts : Nat) : Int) ≤ left - ((t.S.size : Nat) : Int) - ((t.L.length + sumC Exp.cost t.L : Nat) : Int) - ((t.Decs.length + sumC Dec.cost t.Decs : Nat) : Int)
    rotate_left
    · rw [rest_neg hk_Alts, if_pos (by omega), rest_neg (by omega)]
    rw [rest_pos hk_Alts, if_neg (by omega)]
    rw [rest_pos (by omega)]; try congr 1; try omega
  exact ⟨fun t => Alt.ind h0 h1 h2 t, fun t => Dec.ind h0 h1 h2 t, fun t => Exp.ind h0 h1 h2 t⟩
theorem szAlt : ∀ t : Alt, t.small → ∀ left : Int, 0 ≤ left → left ≤ 1048576 → M.laws_szAlt (t, left) = some (rest t.cost left) := szAlt_all.1
theorem szDec : ∀ t : Dec, t.small → ∀ left : Int, 0 ≤ left → left ≤ 1048576 → M.laws_szDec (t, left) = some (rest t.cost left) := szAlt_all.2.1
theorem szExp : ∀ t : Exp, t.small → ∀ left : Int, 0 ≤ left → left ≤ 1048576 → M.laws_szExp (t, left) = some (rest t.cost left) := szAlt_all.2.2
theorem toAlt_all : (∀ t : Alt, t.cost ≤ 1048576 → M.laws_toAlt t = some t) ∧
  (∀ t : Dec, t.cost ≤ 1048576 → M.laws_toDec t = some t) ∧
  (∀ t : Exp, t.cost ≤ 1048576 → M.laws_toExp t = some t) := by
  have h0 : ∀ t : Alt, (t.E.cost ≤ 1048576 → M.laws_toExp t.E = some t.E) → (t.cost ≤ 1048576 → M.laws_toAlt t = some t) := by
    intro t ih0
    intro hc
    have hlim : lim = 140737488355328 := rfl
    have hcost := Alt.cost_eq t
    rw [M.e_laws_toAlt]; try simp only [cnd_not, cnd_dec, Option.bind_some]
    rw [toStringS _ (by omega), Option.bind_some]
    rw [ih0 (by omega), Option.bind_some]
    all_goals first | rfl | (cases t; rfl) | (simp only [Exp.eta, Dec.eta, Alt.eta]; try (cases t; rfl))
  have h1 : ∀ t : Dec, (t.E.cost ≤ 1048576 → M.laws_toExp t.E = some t.E) → (∀ x ∈ t.Where, (x.cost ≤ 1048576 → M.laws_toDec x = some x)) → (t.cost ≤ 1048576 → M.laws_toDec t = some t) := by
    intro t ih0 ih1
    intro hc
    have hlim : lim = 140737488355328 := rfl
    have hcost := Dec.cost_eq t
    rw [M.e_laws_toDec]; try simp only [cnd_not, cnd_dec, Option.bind_some]
    rw [toStringS _ (by omega), Option.bind_some]
    rw [ih0 (by omega), Option.bind_some]
    have hm_Where : ∀ x ∈ t.Where, x.cost ≤ 1048576 := fun x hx => by have := sumC_mem (c := Dec.cost) hx; omega
    rw [toDecS_of _ (by omega) (fun x hx => ih1 x hx (hm_Where x hx)), Option.bind_some]
    all_goals first | rfl | (cases t; rfl) | (simp only [Exp.eta, Dec.eta, Alt.eta]; try (cases t; rfl))
  have h2 : ∀ t : Exp, (∀ x ∈ t.L, (x.cost ≤ 1048576 → M.laws_toExp x = some x)) → (∀ x ∈ t.Decs, (x.cost ≤ 1048576 → M.laws_toDec x = some x)) → (∀ x ∈ t.Alts, (x.cost ≤ 1048576 → M.laws_toAlt x = some x)) → (t.cost ≤ 1048576 → M.laws_toExp t = some t) := by
    intro t ih0 ih1 ih2
    intro hc
    have hlim : lim = 140737488355328 := rfl
    have hcost := Exp.cost_eq t
    rw [M.e_laws_toExp]; try simp only [cnd_not, cnd_dec, Option.bind_some]
    have hm_L : ∀ x ∈ t.L, x.cost ≤ 1048576 := fun x hx => by have := sumC_mem (c := Exp.cost) hx; omega
    rw [toExpS_of _ (by omega) (fun x hx => ih0 x hx (hm_L x hx)), Option.bind_some]
    have hm_Decs : ∀ x ∈ t.Decs, x.cost ≤ 1048576 := fun x hx => by have := sumC_mem (c := Dec.cost) hx; omega
    rw [toDecS_of _ (by omega) (fun x hx => ih1 x hx (hm_Decs x hx)), Option.bind_some]
    have hm_Alts : ∀ x ∈ t.Alts, x.cost ≤ 1048576 := fun x hx => by have := sumC_mem (c := Alt.cost) hx; omega
    rw [toAltS_of _ (by omega) (fun x hx => ih2 x hx (hm_Alts x hx)), Option.bind_some]
    all_goals first | rfl | (cases t; rfl) | (simp only [Exp.eta, Dec.eta, Alt.eta]; try (cases t; rfl))
  exact ⟨fun t => Alt.ind h0 h1 h2 t, fun t => Dec.ind h0 h1 h2 t, fun t => Exp.ind h0 h1 h2 t⟩
theorem toAlt : ∀ t : Alt, t.cost ≤ 1048576 → M.laws_toAlt t = some t := toAlt_all.1
theorem toDec : ∀ t : Dec, t.cost ≤ 1048576 → M.laws_toDec t = some t := toAlt_all.2.1
theorem toExp : ∀ t : Exp, t.cost ≤ 1048576 → M.laws_toExp t = some t := toAlt_all.2.2
open Classical in
theorem eqAlt_all : (∀ t : Alt, t.small → ∀ u : Alt, M.laws_eqAlt (t, u) = some (decide (t = u))) ∧
  (∀ t : Dec, t.small → ∀ u : Dec, M.laws_eqDec (t, u) = some (decide (t = u))) ∧
  (∀ t : Exp, t.small → ∀ u : Exp, M.laws_eqExp (t, u) = some (decide (t = u))) := by
  have h0 : ∀ t : Alt, (t.E.small → ∀ u : Exp, M.laws_eqExp (t.E, u) = some (decide (t.E = u))) → (t.small → ∀ u : Alt, M.laws_eqAlt (t, u) = some (decide (t = u))) := by
    intro t ih0
    intro hs u
    have hlim : lim = 140737488355328 := rfl
    obtain ⟨hq_Great, hq_Vars, hq_E⟩ := (Alt.small_eq t).1 hs
    rw [M.e_laws_eqAlt]; try simp only [cnd_not, cnd_dec, Option.bind_some]
    by_cases hk_Great : t.Great = u.Great
    rotate_left
    · rw [if_neg hk_Great, decide_eq_false (fun e => hk_Great (by rw [e]))]
    rw [if_pos hk_Great]
    rw [eqStringS _ _ hq_Vars.1, Option.bind_some]
    by_cases hk_Vars : t.Vars = u.Vars
    rotate_left
    · rw [decide_eq_false hk_Vars, decide_eq_false (fun e => hk_Vars (by rw [e]))]; rfl
    rw [decide_eq_true hk_Vars, cond_true]
    rw [ih0 hq_E _, Option.bind_some]
    by_cases hk_E : t.E = u.E
    rotate_left
    · rw [decide_eq_false hk_E, decide_eq_false (fun e => hk_E (by rw [e]))]; rfl
    rw [decide_eq_true hk_E, cond_true]
    rw [decide_eq_true (Alt.ext' hk_Great hk_Vars hk_E)]
  have h1 : ∀ t : Dec, (t.E.small → ∀ u : Exp, M.laws_eqExp (t.E, u) = some (decide (t.E = u))) → (∀ x ∈ t.Where, (x.small → ∀ u : Dec, M.laws_eqDec (x, u) = some (decide (x = u)))) → (t.small → ∀ u : Dec, M.laws_eqDec (t, u) = some (decide (t = u))) := by
    intro t ih0 ih1
    intro hs u
    have hlim : lim = 140737488355328 := rfl
    obtain ⟨hq_Name, hq_Pars, hq_E, hl_Where, hm_Where⟩ := (Dec.small_eq t).1 hs
    rw [M.e_laws_eqDec]; try simp only [cnd_not, cnd_dec, Option.bind_some]
    by_cases hk_Name : t.Name = u.Name
    rotate_left
    · rw [if_neg hk_Name, decide_eq_false (fun e => hk_Name (by rw [e]))]
    rw [if_pos hk_Name]
    rw [eqStringS _ _ hq_Pars.1, Option.bind_some]
    by_cases hk_Pars : t.Pars = u.Pars
    rotate_left
    · rw [decide_eq_false hk_Pars, decide_eq_false (fun e => hk_Pars (by rw [e]))]; rfl
    rw [decide_eq_true hk_Pars, cond_true]
    rw [ih0 hq_E _, Option.bind_some]
    by_cases hk_E : t.E = u.E
    rotate_left
    · rw [decide_eq_false hk_E, decide_eq_false (fun e => hk_E (by rw [e]))]; rfl
    rw [decide_eq_true hk_E, cond_true]
    rw [eqDecS_of _ _ hl_Where (fun x hx => ih1 x hx (hm_Where x hx)), Option.bind_some]
    by_cases hk_Where : t.Where = u.Where
    rotate_left
    · rw [decide_eq_false hk_Where, decide_eq_false (fun e => hk_Where (by rw [e]))]; rfl
    rw [decide_eq_true hk_Where, cond_true]
    rw [decide_eq_true (Dec.ext' hk_Name hk_Pars hk_E hk_Where)]
  have h2 : ∀ t : Exp, (∀ x ∈ t.L, (x.small → ∀ u : Exp, M.laws_eqExp (x, u) = some (decide (x = u)))) → (∀ x ∈ t.Decs, (x.small → ∀ u : Dec, M.laws_eqDec (x, u) = some (decide (x = u)))) → (∀ x ∈ t.Alts, (x.small → ∀ u : Alt, M.laws_eqAlt (x, u) = some (decide (x = u)))) → (t.small → ∀ u : Exp, M.laws_eqExp (t, u) = some (decide (t = u))) := by
    intro t ih0 ih1 ih2
    intro hs u
    have hlim : lim = 140737488355328 := rfl
    obtain ⟨hq_S, hl_L, hm_L, hl_Decs, hm_Decs, hl_Alts, hm_Alts⟩ := (Exp.small_eq t).1 hs
    rw [M.e_laws_eqExp]; try simp only [cnd_not, cnd_dec, Option.bind_some]
    by_cases hk_K : t.K = u.K
    rotate_left
    · rw [if_neg hk_K, decide_eq_false (fun e => hk_K (by rw [e]))]
    rw [if_pos hk_K]
    by_cases hk_S : t.S = u.S
    rotate_left
    · rw [if_neg hk_S, decide_eq_false (fun e => hk_S (by rw [e]))]
    rw [if_pos hk_S]
    by_cases hk_N : t.N = u.N
    rotate_left
    · rw [if_neg hk_N, decide_eq_false (fun e => hk_N (by rw [e]))]
    rw [if_pos hk_N]
    rw [eqExpS_of _ _ hl_L (fun x hx => ih0 x hx (hm_L x hx)), Option.bind_some]
    by_cases hk_L : t.L = u.L
    rotate_left
    · rw [decide_eq_false hk_L, decide_eq_false (fun e => hk_L (by rw [e]))]; rfl
    rw [decide_eq_true hk_L, cond_true]
    rw [eqDecS_of _ _ hl_Decs (fun x hx => ih1 x hx (hm_Decs x hx)), Option.bind_some]
    by_cases hk_Decs : t.Decs = u.Decs
    rotate_left
    · rw [decide_eq_false hk_Decs, decide_eq_false (fun e => hk_Decs (by rw [e]))]; rfl
    rw [decide_eq_true hk_Decs, cond_true]
    rw [eqAltS_of _ _ hl_Alts (fun x hx => ih2 x hx (hm_Alts x hx)), Option.bind_some]
    by_cases hk_Alts : t.Alts = u.Alts
    rotate_left
    · rw [decide_eq_false hk_Alts, decide_eq_false (fun e => hk_Alts (by rw [e]))]; rfl
    rw [decide_eq_true hk_Alts, cond_true]
    rw [decide_eq_true (Exp.ext' hk_K hk_S hk_N hk_L hk_Decs hk_Alts)]
  exact ⟨fun t => Alt.ind h0 h1 h2 t, fun t => Dec.ind h0 h1 h2 t, fun t => Exp.ind h0 h1 h2 t⟩
open Classical in
theorem eqAlt : ∀ t : Alt, t.small → ∀ u : Alt, M.laws_eqAlt (t, u) = some (decide (t = u)) := eqAlt_all.1
open Classical in
theorem eqDec : ∀ t : Dec, t.small → ∀ u : Dec, M.laws_eqDec (t, u) = some (decide (t = u)) := eqAlt_all.2.1
open Classical in
theorem eqExp : ∀ t : Exp, t.small → ∀ u : Exp, M.laws_eqExp (t, u) = some (decide (t = u)) := eqAlt_all.2.2
end Q
mutual
def Ty.cost : Ty → Nat
  | ⟨K_, S_, N_, L_⟩ => S_.size + (L_.length + Ty.costL L_)
def Ty.costL : List Ty → Nat
  | [] => 0
  | x :: l => x.cost + Ty.costL l
end
mutual
def Ty.small : Ty → Prop
  | ⟨K_, S_, N_, L_⟩ => S_.size ≤ lim ∧ L_.length ≤ lim ∧ Ty.smallL L_
def Ty.smallL : List Ty → Prop
  | [] => True
  | x :: l => x.small ∧ Ty.smallL l
end
theorem Ty.smallL_iff : ∀ {l : List Ty}, Ty.smallL l ↔ ∀ x ∈ l, x.small
  | [] => by simp [Ty.smallL]
  | x :: l => by simp [Ty.smallL, Ty.smallL_iff (l := l)]
theorem Ty.costL_eq : ∀ (l : List Ty), Ty.costL l = sumC Ty.cost l
  | [] => rfl
  | x :: l => by simp [Ty.costL, sumC, Ty.costL_eq l]
theorem Ty.cost_eq (t : Ty) : t.cost = t.S.size + (t.L.length + sumC Ty.cost t.L) := by
  cases t; simp only [Ty.cost, Ty.costL_eq] <;> rfl
theorem Ty.small_eq (t : Ty) : t.small ↔ t.S.size ≤ lim ∧ t.L.length ≤ lim ∧ (∀ x ∈ t.L, x.small) := by
  cases t; simp only [Ty.small, Ty.smallL_iff] <;> rfl
theorem Ty.ext' {a b : Ty} (h0 : a.K = b.K) (h1 : a.S = b.S) (h2 : a.N = b.N) (h3 : a.L = b.L) : a = b := by
  cases a; cases b; simp_all
mutual
theorem Ty.ind {M0 : Ty → Prop} (h0 : ∀ t : Ty, (∀ x ∈ t.L, M0 x) → M0 t) : ∀ t : Ty, M0 t
  | ⟨K_, S_, N_, L_⟩ => h0 _ (Ty.indL h0 L_)
theorem Ty.indL {M0 : Ty → Prop} (h0 : ∀ t : Ty, (∀ x ∈ t.L, M0 x) → M0 t) : ∀ l : List Ty, ∀ x ∈ l, M0 x
  | [] => fun x hx => by cases hx
  | y :: l => fun x hx => (List.mem_cons.1 hx).elim (fun e => e ▸ Ty.ind h0 y) (fun h => Ty.indL h0 l x h)
end
namespace Q
theorem szTyS_of (l : List Ty) (hl : l.length ≤ lim) (IH : ∀ x ∈ l, ∀ left : Int, 0 ≤ left → left ≤ 1048576 → M.laws_szTy (x, left) = some (rest x.cost left)) (left : Int) (h0 : 0 ≤ left) (h1 : left ≤ 1048576) : M.laws_szTyS (l, left) = some (rest (l.length + sumC Ty.cost l) left) := by
  have hlim : lim = 140737488355328 := rfl
  rw [M.e_laws_szTyS]; try simp only [cnd_not, cnd_dec, Option.bind_some]
  rw [wrap_ok (by omega)]
  by_cases hk : left - ((l.length : Nat) : Int) < 0
  · rw [if_pos hk, rest_neg (by omega)]
  rw [if_neg hk]
  have hloop : M.laws_szTyS_L0 (l, left - ((l.length : Nat) : Int), 0) = _ := szLoop Ty.cost hl (L := fun b i => M.laws_szTyS_L0 (l, b, i)) (fun b i x hx hix hb0 hb1 hi hw => by
    show M.laws_szTyS_L0 (l, b, i) = _
    rw [M.e_laws_szTyS_L0]; try simp only [cnd_not, cnd_dec, Option.bind_some]
    rw [if_pos hi, hix, Option.bind_some, IH x (List.mem_of_getElem? hx) b hb0 hb1, Option.bind_some, hw]) (fun b => by
    show M.laws_szTyS_L0 (l, b, _) = _
    rw [M.e_laws_szTyS_L0]; try simp only [cnd_not, cnd_dec, Option.bind_some]
    rw [if_neg (by omega)]) (by omega) (by omega)
  rw [hloop, Option.bind_some]
  by_cases hr : ((sumC Ty.cost l : Nat) : Int) ≤ left - ((l.length : Nat) : Int)
  · rw [rest_pos hr, if_neg (by omega), rest_pos (by omega)]; show some _ = some _; congr 1; omega
  · rw [rest_neg hr, if_pos (by omega), rest_neg (by omega)]; rfl
theorem toTyS_of (l : List Ty) (h : l.length ≤ 1048576) (IH : ∀ x ∈ l, M.laws_toTy x = some x) : M.laws_toTyS l = some l := by
  have hlim : lim = 140737488355328 := rfl
  rw [M.e_laws_toTyS, gd_t (by omega), Option.bind_some, gd_t (by omega), Option.bind_some]
  have hloop : ∀ z, M.laws_toTyS_L0 (l, 0, List.replicate l.length z) = some l := fun z => setLoop (by omega) (by simp) (L := fun i o => M.laws_toTyS_L0 (l, i, o)) (fun i x o hx hix ho hi hw => by
    show M.laws_toTyS_L0 (l, i, o) = _
    rw [M.e_laws_toTyS_L0]; try simp only [cnd_not, cnd_dec, Option.bind_some]
    rw [if_pos hi, hix, Option.bind_some, IH x (List.mem_of_getElem? hx), Option.bind_some, gd_t (by omega), Option.bind_some, gd_t (by omega), Option.bind_some, hw]
    rfl) (fun o => by
    show M.laws_toTyS_L0 (l, _, o) = _
    rw [M.e_laws_toTyS_L0]; try simp only [cnd_not, cnd_dec, Option.bind_some]
    rw [if_neg (by omega)])
  simp only [Int.toNat_natCast]; rw [hloop]; rfl
open Classical in
theorem eqTyS_of (l l' : List Ty) (hl : l.length ≤ lim) (IH : ∀ x ∈ l, ∀ y, M.laws_eqTy (x, y) = some (decide (x = y))) : M.laws_eqTyS (l, l') = some (decide (l = l')) := by
  have hlim : lim = 140737488355328 := rfl
  rw [M.e_laws_eqTyS]; try simp only [cnd_not, cnd_dec, Option.bind_some]
  by_cases hlen : l.length = l'.length
  rotate_left
  · rw [if_neg (by omega)]
    rw [decide_eq_false (fun e => hlen (by rw [e]))]
  rw [if_pos (by omega)]
  have hloop : M.laws_eqTyS_L0 (l, l', 0) = _ := eqLoop hl hlen (L := fun i => M.laws_eqTyS_L0 (l, l', i)) (fun i x y hx hy hix hiy hi hw => by
    show M.laws_eqTyS_L0 (l, l', i) = _
    rw [M.e_laws_eqTyS_L0]; try simp only [cnd_not, cnd_dec, Option.bind_some]
    rw [if_pos hi, hix, Option.bind_some, hiy, Option.bind_some, hw]
    rw [IH x (List.mem_of_getElem? hx) y, Option.bind_some]
    by_cases e : x = y
    · rw [decide_eq_true e, if_pos e]; rfl
    · rw [decide_eq_false e, if_neg e]; rfl) (by
    show M.laws_eqTyS_L0 (l, l', _) = _
    rw [M.e_laws_eqTyS_L0]; try simp only [cnd_not, cnd_dec, Option.bind_some]
    rw [if_neg (by omega)])
  rw [hloop, Option.bind_some]
  by_cases e : l = l'
  · rw [if_pos e, decide_eq_true e]; rfl
  · rw [if_neg e, decide_eq_false e]; rfl
theorem szTy_all : (∀ t : Ty, t.small → ∀ left : Int, 0 ≤ left → left ≤ 1048576 → M.laws_szTy (t, left) = some (rest t.cost left)) := by
  have h0 : ∀ t : Ty, (∀ x ∈ t.L, (x.small → ∀ left : Int, 0 ≤ left → left ≤ 1048576 → M.laws_szTy (x, left) = some (rest x.cost left))) → (t.small → ∀ left : Int, 0 ≤ left → left ≤ 1048576 → M.laws_szTy (t, left) = some (rest t.cost left)) := by
    intro t ih0
    intro hs left h0 h1
    have hlim : lim = 140737488355328 := rfl
    obtain ⟨hq_S, hl_L, hm_L⟩ := (Ty.small_eq t).1 hs
    have hcost := Ty.cost_eq t
    rw [M.e_laws_szTy]; try simp only [cnd_not, cnd_dec, Option.bind_some]
    rw [wrap_ok (by omega)]
    by_cases hk_S : left - ((t.S.size : Nat) : Int) < 0
    · rw [if_pos hk_S, rest_neg (by omega)]
    rw [if_neg hk_S]
    rw [szTyS_of _ hl_L (fun x hx => ih0 x hx (hm_L x hx)) _ (by omega) (by omega), Option.bind_some]
    by_cases hk_L : ((t.L.length + sumC Ty.cost t.L : Nat) : Int) ≤ left - ((t.S.size : Nat) : Int)
    rotate_left
    · rw [rest_neg hk_L, if_pos (by omega), rest_neg (by omega)]
    rw [rest_pos hk_L, if_neg (by omega)]
    rw [rest_pos (by omega)]; try congr 1; try omega
  exact fun t => Ty.ind h0 t
theorem szTy : ∀ t : Ty, t.small → ∀ left : Int, 0 ≤ left → left ≤ 1048576 → M.laws_szTy (t, left) = some (rest t.cost left) := szTy_all
theorem toTy_all : (∀ t : Ty, t.cost ≤ 1048576 → M.laws_toTy t = some t) := by
  have h0 : ∀ t : Ty, (∀ x ∈ t.L, (x.cost ≤ 1048576 → M.laws_toTy x = some x)) → (t.cost ≤ 1048576 → M.laws_toTy t = some t) := by
    intro t ih0
    intro hc
    have hlim : lim = 140737488355328 := rfl
    have hcost := Ty.cost_eq t
    rw [M.e_laws_toTy]; try simp only [cnd_not, cnd_dec, Option.bind_some]
    have hm_L : ∀ x ∈ t.L, x.cost ≤ 1048576 := fun x hx => by have := sumC_mem (c := Ty.cost) hx; omega
    rw [toTyS_of _ (by omega) (fun x hx => ih0 x hx (hm_L x hx)), Option.bind_some]
    all_goals first | rfl | (cases t; rfl) | (simp only [Exp.eta, Dec.eta, Alt.eta]; try (cases t; rfl))
  exact fun t => Ty.ind h0 t
theorem toTy : ∀ t : Ty, t.cost ≤ 1048576 → M.laws_toTy t = some t := toTy_all
open Classical in
theorem eqTy_all : (∀ t : Ty, t.small → ∀ u : Ty, M.laws_eqTy (t, u) = some (decide (t = u))) := by
  have h0 : ∀ t : Ty, (∀ x ∈ t.L, (x.small → ∀ u : Ty, M.laws_eqTy (x, u) = some (decide (x = u)))) → (t.small → ∀ u : Ty, M.laws_eqTy (t, u) = some (decide (t = u))) := by
    intro t ih0
    intro hs u
    have hlim : lim = 140737488355328 := rfl
    obtain ⟨hq_S, hl_L, hm_L⟩ := (Ty.small_eq t).1 hs
    rw [M.e_laws_eqTy]; try simp only [cnd_not, cnd_dec, Option.bind_some]
    by_cases hk_K : t.K = u.K
    rotate_left
    · rw [if_neg hk_K, decide_eq_false (fun e => hk_K (by rw [e]))]
    rw [if_pos hk_K]
    by_cases hk_S : t.S = u.S
    rotate_left
    · rw [if_neg hk_S, decide_eq_false (fun e => hk_S (by rw [e]))]
    rw [if_pos hk_S]
    by_cases hk_N : t.N = u.N
    rotate_left
    · rw [if_neg hk_N, decide_eq_false (fun e => hk_N (by rw [e]))]
    rw [if_pos hk_N]
    rw [eqTyS_of _ _ hl_L (fun x hx => ih0 x hx (hm_L x hx)), Option.bind_some]
    by_cases hk_L : t.L = u.L
    rotate_left
    · rw [decide_eq_false hk_L, decide_eq_false (fun e => hk_L (by rw [e]))]; rfl
    rw [decide_eq_true hk_L, cond_true]
    rw [decide_eq_true (Ty.ext' hk_K hk_S hk_N hk_L)]
  exact fun t => Ty.ind h0 t
open Classical in
theorem eqTy : ∀ t : Ty, t.small → ∀ u : Ty, M.laws_eqTy (t, u) = some (decide (t = u)) := eqTy_all
end Q
def Con.cost : Con → Nat
  | ⟨Name_, Args_⟩ => Name_.size + (Args_.length + Ty.costL Args_)
def Con.costL : List Con → Nat
  | [] => 0
  | x :: l => x.cost + Con.costL l
def Con.small : Con → Prop
  | ⟨Name_, Args_⟩ => Name_.size ≤ lim ∧ Args_.length ≤ lim ∧ Ty.smallL Args_
def Con.smallL : List Con → Prop
  | [] => True
  | x :: l => x.small ∧ Con.smallL l
theorem Con.smallL_iff : ∀ {l : List Con}, Con.smallL l ↔ ∀ x ∈ l, x.small
  | [] => by simp [Con.smallL]
  | x :: l => by simp [Con.smallL, Con.smallL_iff (l := l)]
theorem Con.costL_eq : ∀ (l : List Con), Con.costL l = sumC Con.cost l
  | [] => rfl
  | x :: l => by simp [Con.costL, sumC, Con.costL_eq l]
theorem Con.cost_eq (t : Con) : t.cost = t.Name.size + (t.Args.length + sumC Ty.cost t.Args) := by
  cases t; simp only [Con.cost, Ty.costL_eq] <;> rfl
theorem Con.small_eq (t : Con) : t.small ↔ t.Name.size ≤ lim ∧ t.Args.length ≤ lim ∧ (∀ x ∈ t.Args, x.small) := by
  cases t; simp only [Con.small, Ty.smallL_iff] <;> rfl
theorem Con.ext' {a b : Con} (h0 : a.Name = b.Name) (h1 : a.Args = b.Args) : a = b := by
  cases a; cases b; simp_all
namespace Q
theorem szConS_of (l : List Con) (hl : l.length ≤ lim) (IH : ∀ x ∈ l, ∀ left : Int, 0 ≤ left → left ≤ 1048576 → M.laws_szCon (x, left) = some (rest x.cost left)) (left : Int) (h0 : 0 ≤ left) (h1 : left ≤ 1048576) : M.laws_szConS (l, left) = some (rest (l.length + sumC Con.cost l) left) := by
  have hlim : lim = 140737488355328 := rfl
  rw [M.e_laws_szConS]; try simp only [cnd_not, cnd_dec, Option.bind_some]
  rw [wrap_ok (by omega)]
  by_cases hk : left - ((l.length : Nat) : Int) < 0
  · rw [if_pos hk, rest_neg (by omega)]
  rw [if_neg hk]
  have hloop : M.laws_szConS_L0 (l, left - ((l.length : Nat) : Int), 0) = _ := szLoop Con.cost hl (L := fun b i => M.laws_szConS_L0 (l, b, i)) (fun b i x hx hix hb0 hb1 hi hw => by
    show M.laws_szConS_L0 (l, b, i) = _
    rw [M.e_laws_szConS_L0]; try simp only [cnd_not, cnd_dec, Option.bind_some]
    rw [if_pos hi, hix, Option.bind_some, IH x (List.mem_of_getElem? hx) b hb0 hb1, Option.bind_some, hw]) (fun b => by
    show M.laws_szConS_L0 (l, b, _) = _
    rw [M.e_laws_szConS_L0]; try simp only [cnd_not, cnd_dec, Option.bind_some]
    rw [if_neg (by omega)]) (by omega) (by omega)
  rw [hloop, Option.bind_some]
  by_cases hr : ((sumC Con.cost l : Nat) : Int) ≤ left - ((l.length : Nat) : Int)
  · rw [rest_pos hr, if_neg (by omega), rest_pos (by omega)]; show some _ = some _; congr 1; omega
  · rw [rest_neg hr, if_pos (by omega), rest_neg (by omega)]; rfl
theorem toConS_of (l : List Con) (h : l.length ≤ 1048576) (IH : ∀ x ∈ l, M.laws_toCon x = some x) : M.laws_toConS l = some l := by
  have hlim : lim = 140737488355328 := rfl
  rw [M.e_laws_toConS, gd_t (by omega), Option.bind_some, gd_t (by omega), Option.bind_some]
  have hloop : ∀ z, M.laws_toConS_L0 (l, 0, List.replicate l.length z) = some l := fun z => setLoop (by omega) (by simp) (L := fun i o => M.laws_toConS_L0 (l, i, o)) (fun i x o hx hix ho hi hw => by
    show M.laws_toConS_L0 (l, i, o) = _
    rw [M.e_laws_toConS_L0]; try simp only [cnd_not, cnd_dec, Option.bind_some]
    rw [if_pos hi, hix, Option.bind_some, IH x (List.mem_of_getElem? hx), Option.bind_some, gd_t (by omega), Option.bind_some, gd_t (by omega), Option.bind_some, hw]
    rfl) (fun o => by
    show M.laws_toConS_L0 (l, _, o) = _
    rw [M.e_laws_toConS_L0]; try simp only [cnd_not, cnd_dec, Option.bind_some]
    rw [if_neg (by omega)])
  simp only [Int.toNat_natCast]; rw [hloop]; rfl
open Classical in
theorem eqConS_of (l l' : List Con) (hl : l.length ≤ lim) (IH : ∀ x ∈ l, ∀ y, M.laws_eqCon (x, y) = some (decide (x = y))) : M.laws_eqConS (l, l') = some (decide (l = l')) := by
  have hlim : lim = 140737488355328 := rfl
  rw [M.e_laws_eqConS]; try simp only [cnd_not, cnd_dec, Option.bind_some]
  by_cases hlen : l.length = l'.length
  rotate_left
  · rw [if_neg (by omega)]
    rw [decide_eq_false (fun e => hlen (by rw [e]))]
  rw [if_pos (by omega)]
  have hloop : M.laws_eqConS_L0 (l, l', 0) = _ := eqLoop hl hlen (L := fun i => M.laws_eqConS_L0 (l, l', i)) (fun i x y hx hy hix hiy hi hw => by
    show M.laws_eqConS_L0 (l, l', i) = _
    rw [M.e_laws_eqConS_L0]; try simp only [cnd_not, cnd_dec, Option.bind_some]
    rw [if_pos hi, hix, Option.bind_some, hiy, Option.bind_some, hw]
    rw [IH x (List.mem_of_getElem? hx) y, Option.bind_some]
    by_cases e : x = y
    · rw [decide_eq_true e, if_pos e]; rfl
    · rw [decide_eq_false e, if_neg e]; rfl) (by
    show M.laws_eqConS_L0 (l, l', _) = _
    rw [M.e_laws_eqConS_L0]; try simp only [cnd_not, cnd_dec, Option.bind_some]
    rw [if_neg (by omega)])
  rw [hloop, Option.bind_some]
  by_cases e : l = l'
  · rw [if_pos e, decide_eq_true e]; rfl
  · rw [if_neg e, decide_eq_false e]; rfl
theorem szCon : ∀ t : Con, t.small → ∀ left : Int, 0 ≤ left → left ≤ 1048576 → M.laws_szCon (t, left) = some (rest t.cost left) := by
  intro t
  intro hs left h0 h1
  have hlim : lim = 140737488355328 := rfl
  obtain ⟨hq_Name, hl_Args, hm_Args⟩ := (Con.small_eq t).1 hs
  have hcost := Con.cost_eq t
  rw [M.e_laws_szCon]; try simp only [cnd_not, cnd_dec, Option.bind_some]
  rw [wrap_ok (by omega)]
  by_cases hk_Name : left - ((t.Name.size : Nat) : Int) < 0
  · rw [if_pos hk_Name, rest_neg (by omega)]
  rw [if_neg hk_Name]
  rw [szTyS_of _ hl_Args (fun x hx => szTy x (hm_Args x hx)) _ (by omega) (by omega), Option.bind_some]
  by_cases hk_Args : ((t.Args.length + sumC Ty.cost t.Args : Nat) : Int) ≤ left - ((t.Name.size : Nat) : Int)
  rotate_left
  · rw [rest_neg hk_Args, if_pos (by omega), rest_neg (by omega)]
  rw [rest_pos hk_Args, if_neg (by omega)]
  rw [rest_pos (by omega)]; try congr 1; try omega
theorem toCon : ∀ t : Con, t.cost ≤ 1048576 → M.laws_toCon t = some t := by
  intro t
  intro hc
  have hlim : lim = 140737488355328 := rfl
  have hcost := Con.cost_eq t
  rw [M.e_laws_toCon]; try simp only [cnd_not, cnd_dec, Option.bind_some]
  have hm_Args : ∀ x ∈ t.Args, x.cost ≤ 1048576 := fun x hx => by have := sumC_mem (c := Ty.cost) hx; omega
  rw [toTyS_of _ (by omega) (fun x hx => toTy x (hm_Args x hx)), Option.bind_some]
  all_goals first | rfl | (cases t; rfl) | (simp only [Exp.eta, Dec.eta, Alt.eta]; try (cases t; rfl))
open Classical in
theorem eqCon : ∀ t : Con, t.small → ∀ u : Con, M.laws_eqCon (t, u) = some (decide (t = u)) := by
  intro t
  intro hs u
  have hlim : lim = 140737488355328 := rfl
  obtain ⟨hq_Name, hl_Args, hm_Args⟩ := (Con.small_eq t).1 hs
  rw [M.e_laws_eqCon]; try simp only [cnd_not, cnd_dec, Option.bind_some]
  by_cases hk_Name : t.Name = u.Name
  rotate_left
  · rw [if_neg hk_Name, decide_eq_false (fun e => hk_Name (by rw [e]))]
  rw [if_pos hk_Name]
  rw [eqTyS_of _ _ hl_Args (fun x hx => eqTy x (hm_Args x hx)), Option.bind_some]
  by_cases hk_Args : t.Args = u.Args
  rotate_left
  · rw [decide_eq_false hk_Args, decide_eq_false (fun e => hk_Args (by rw [e]))]; rfl
  rw [decide_eq_true hk_Args, cond_true]
  rw [decide_eq_true (Con.ext' hk_Name hk_Args)]
end Q
def Data.cost : Data → Nat
  | ⟨Name_, Cons_⟩ => Name_.size + (Cons_.length + Con.costL Cons_)
def Data.costL : List Data → Nat
  | [] => 0
  | x :: l => x.cost + Data.costL l
def Data.small : Data → Prop
  | ⟨Name_, Cons_⟩ => Name_.size ≤ lim ∧ Cons_.length ≤ lim ∧ Con.smallL Cons_
def Data.smallL : List Data → Prop
  | [] => True
  | x :: l => x.small ∧ Data.smallL l
theorem Data.smallL_iff : ∀ {l : List Data}, Data.smallL l ↔ ∀ x ∈ l, x.small
  | [] => by simp [Data.smallL]
  | x :: l => by simp [Data.smallL, Data.smallL_iff (l := l)]
theorem Data.costL_eq : ∀ (l : List Data), Data.costL l = sumC Data.cost l
  | [] => rfl
  | x :: l => by simp [Data.costL, sumC, Data.costL_eq l]
theorem Data.cost_eq (t : Data) : t.cost = t.Name.size + (t.Cons.length + sumC Con.cost t.Cons) := by
  cases t; simp only [Data.cost, Con.costL_eq] <;> rfl
theorem Data.small_eq (t : Data) : t.small ↔ t.Name.size ≤ lim ∧ t.Cons.length ≤ lim ∧ (∀ x ∈ t.Cons, x.small) := by
  cases t; simp only [Data.small, Con.smallL_iff] <;> rfl
theorem Data.ext' {a b : Data} (h0 : a.Name = b.Name) (h1 : a.Cons = b.Cons) : a = b := by
  cases a; cases b; simp_all
namespace Q
theorem szDataS_of (l : List Data) (hl : l.length ≤ lim) (IH : ∀ x ∈ l, ∀ left : Int, 0 ≤ left → left ≤ 1048576 → M.laws_szData (x, left) = some (rest x.cost left)) (left : Int) (h0 : 0 ≤ left) (h1 : left ≤ 1048576) : M.laws_szDataS (l, left) = some (rest (l.length + sumC Data.cost l) left) := by
  have hlim : lim = 140737488355328 := rfl
  rw [M.e_laws_szDataS]; try simp only [cnd_not, cnd_dec, Option.bind_some]
  rw [wrap_ok (by omega)]
  by_cases hk : left - ((l.length : Nat) : Int) < 0
  · rw [if_pos hk, rest_neg (by omega)]
  rw [if_neg hk]
  have hloop : M.laws_szDataS_L0 (l, left - ((l.length : Nat) : Int), 0) = _ := szLoop Data.cost hl (L := fun b i => M.laws_szDataS_L0 (l, b, i)) (fun b i x hx hix hb0 hb1 hi hw => by
    show M.laws_szDataS_L0 (l, b, i) = _
    rw [M.e_laws_szDataS_L0]; try simp only [cnd_not, cnd_dec, Option.bind_some]
    rw [if_pos hi, hix, Option.bind_some, IH x (List.mem_of_getElem? hx) b hb0 hb1, Option.bind_some, hw]) (fun b => by
    show M.laws_szDataS_L0 (l, b, _) = _
    rw [M.e_laws_szDataS_L0]; try simp only [cnd_not, cnd_dec, Option.bind_some]
    rw [if_neg (by omega)]) (by omega) (by omega)
  rw [hloop, Option.bind_some]
  by_cases hr : ((sumC Data.cost l : Nat) : Int) ≤ left - ((l.length : Nat) : Int)
  · rw [rest_pos hr, if_neg (by omega), rest_pos (by omega)]; show some _ = some _; congr 1; omega
  · rw [rest_neg hr, if_pos (by omega), rest_neg (by omega)]; rfl
theorem toDataS_of (l : List Data) (h : l.length ≤ 1048576) (IH : ∀ x ∈ l, M.laws_toData x = some x) : M.laws_toDataS l = some l := by
  have hlim : lim = 140737488355328 := rfl
  rw [M.e_laws_toDataS, gd_t (by omega), Option.bind_some, gd_t (by omega), Option.bind_some]
  have hloop : ∀ z, M.laws_toDataS_L0 (l, 0, List.replicate l.length z) = some l := fun z => setLoop (by omega) (by simp) (L := fun i o => M.laws_toDataS_L0 (l, i, o)) (fun i x o hx hix ho hi hw => by
    show M.laws_toDataS_L0 (l, i, o) = _
    rw [M.e_laws_toDataS_L0]; try simp only [cnd_not, cnd_dec, Option.bind_some]
    rw [if_pos hi, hix, Option.bind_some, IH x (List.mem_of_getElem? hx), Option.bind_some, gd_t (by omega), Option.bind_some, gd_t (by omega), Option.bind_some, hw]
    rfl) (fun o => by
    show M.laws_toDataS_L0 (l, _, o) = _
    rw [M.e_laws_toDataS_L0]; try simp only [cnd_not, cnd_dec, Option.bind_some]
    rw [if_neg (by omega)])
  simp only [Int.toNat_natCast]; rw [hloop]; rfl
open Classical in
theorem eqDataS_of (l l' : List Data) (hl : l.length ≤ lim) (IH : ∀ x ∈ l, ∀ y, M.laws_eqData (x, y) = some (decide (x = y))) : M.laws_eqDataS (l, l') = some (decide (l = l')) := by
  have hlim : lim = 140737488355328 := rfl
  rw [M.e_laws_eqDataS]; try simp only [cnd_not, cnd_dec, Option.bind_some]
  by_cases hlen : l.length = l'.length
  rotate_left
  · rw [if_neg (by omega)]
    rw [decide_eq_false (fun e => hlen (by rw [e]))]
  rw [if_pos (by omega)]
  have hloop : M.laws_eqDataS_L0 (l, l', 0) = _ := eqLoop hl hlen (L := fun i => M.laws_eqDataS_L0 (l, l', i)) (fun i x y hx hy hix hiy hi hw => by
    show M.laws_eqDataS_L0 (l, l', i) = _
    rw [M.e_laws_eqDataS_L0]; try simp only [cnd_not, cnd_dec, Option.bind_some]
    rw [if_pos hi, hix, Option.bind_some, hiy, Option.bind_some, hw]
    rw [IH x (List.mem_of_getElem? hx) y, Option.bind_some]
    by_cases e : x = y
    · rw [decide_eq_true e, if_pos e]; rfl
    · rw [decide_eq_false e, if_neg e]; rfl) (by
    show M.laws_eqDataS_L0 (l, l', _) = _
    rw [M.e_laws_eqDataS_L0]; try simp only [cnd_not, cnd_dec, Option.bind_some]
    rw [if_neg (by omega)])
  rw [hloop, Option.bind_some]
  by_cases e : l = l'
  · rw [if_pos e, decide_eq_true e]; rfl
  · rw [if_neg e, decide_eq_false e]; rfl
theorem szData : ∀ t : Data, t.small → ∀ left : Int, 0 ≤ left → left ≤ 1048576 → M.laws_szData (t, left) = some (rest t.cost left) := by
  intro t
  intro hs left h0 h1
  have hlim : lim = 140737488355328 := rfl
  obtain ⟨hq_Name, hl_Cons, hm_Cons⟩ := (Data.small_eq t).1 hs
  have hcost := Data.cost_eq t
  rw [M.e_laws_szData]; try simp only [cnd_not, cnd_dec, Option.bind_some]
  rw [wrap_ok (by omega)]
  by_cases hk_Name : left - ((t.Name.size : Nat) : Int) < 0
  · rw [if_pos hk_Name, rest_neg (by omega)]
  rw [if_neg hk_Name]
  rw [szConS_of _ hl_Cons (fun x hx => szCon x (hm_Cons x hx)) _ (by omega) (by omega), Option.bind_some]
  by_cases hk_Cons : ((t.Cons.length + sumC Con.cost t.Cons : Nat) : Int) ≤ left - ((t.Name.size : Nat) : Int)
  rotate_left
  · rw [rest_neg hk_Cons, if_pos (by omega), rest_neg (by omega)]
  rw [rest_pos hk_Cons, if_neg (by omega)]
  rw [rest_pos (by omega)]; try congr 1; try omega
theorem toData : ∀ t : Data, t.cost ≤ 1048576 → M.laws_toData t = some t := by
  intro t
  intro hc
  have hlim : lim = 140737488355328 := rfl
  have hcost := Data.cost_eq t
  rw [M.e_laws_toData]; try simp only [cnd_not, cnd_dec, Option.bind_some]
  have hm_Cons : ∀ x ∈ t.Cons, x.cost ≤ 1048576 := fun x hx => by have := sumC_mem (c := Con.cost) hx; omega
  rw [toConS_of _ (by omega) (fun x hx => toCon x (hm_Cons x hx)), Option.bind_some]
  all_goals first | rfl | (cases t; rfl) | (simp only [Exp.eta, Dec.eta, Alt.eta]; try (cases t; rfl))
open Classical in
theorem eqData : ∀ t : Data, t.small → ∀ u : Data, M.laws_eqData (t, u) = some (decide (t = u)) := by
  intro t
  intro hs u
  have hlim : lim = 140737488355328 := rfl
  obtain ⟨hq_Name, hl_Cons, hm_Cons⟩ := (Data.small_eq t).1 hs
  rw [M.e_laws_eqData]; try simp only [cnd_not, cnd_dec, Option.bind_some]
  by_cases hk_Name : t.Name = u.Name
  rotate_left
  · rw [if_neg hk_Name, decide_eq_false (fun e => hk_Name (by rw [e]))]
  rw [if_pos hk_Name]
  rw [eqConS_of _ _ hl_Cons (fun x hx => eqCon x (hm_Cons x hx)), Option.bind_some]
  by_cases hk_Cons : t.Cons = u.Cons
  rotate_left
  · rw [decide_eq_false hk_Cons, decide_eq_false (fun e => hk_Cons (by rw [e]))]; rfl
  rw [decide_eq_true hk_Cons, cond_true]
  rw [decide_eq_true (Data.ext' hk_Name hk_Cons)]
end Q
def Prog.cost : Prog → Nat
  | ⟨Datas_, Decs_⟩ => (Datas_.length + Data.costL Datas_) + (Decs_.length + Dec.costL Decs_)
def Prog.costL : List Prog → Nat
  | [] => 0
  | x :: l => x.cost + Prog.costL l
def Prog.small : Prog → Prop
  | ⟨Datas_, Decs_⟩ => Datas_.length ≤ lim ∧ Data.smallL Datas_ ∧ Decs_.length ≤ lim ∧ Dec.smallL Decs_
def Prog.smallL : List Prog → Prop
  | [] => True
  | x :: l => x.small ∧ Prog.smallL l
theorem Prog.smallL_iff : ∀ {l : List Prog}, Prog.smallL l ↔ ∀ x ∈ l, x.small
  | [] => by simp [Prog.smallL]
  | x :: l => by simp [Prog.smallL, Prog.smallL_iff (l := l)]
theorem Prog.costL_eq : ∀ (l : List Prog), Prog.costL l = sumC Prog.cost l
  | [] => rfl
  | x :: l => by simp [Prog.costL, sumC, Prog.costL_eq l]
theorem Prog.cost_eq (t : Prog) : t.cost = (t.Datas.length + sumC Data.cost t.Datas) + (t.Decs.length + sumC Dec.cost t.Decs) := by
  cases t; simp only [Prog.cost, Data.costL_eq, Dec.costL_eq] <;> rfl
theorem Prog.small_eq (t : Prog) : t.small ↔ t.Datas.length ≤ lim ∧ (∀ x ∈ t.Datas, x.small) ∧ t.Decs.length ≤ lim ∧ (∀ x ∈ t.Decs, x.small) := by
  cases t; simp only [Prog.small, Data.smallL_iff, Dec.smallL_iff] <;> rfl
theorem Prog.ext' {a b : Prog} (h0 : a.Datas = b.Datas) (h1 : a.Decs = b.Decs) : a = b := by
  cases a; cases b; simp_all
namespace Q
theorem szProg : ∀ t : Prog, t.small → ∀ left : Int, 0 ≤ left → left ≤ 1048576 → M.laws_szProg (t, left) = some (rest t.cost left) := by
  intro t
  intro hs left h0 h1
  have hlim : lim = 140737488355328 := rfl
  obtain ⟨hl_Datas, hm_Datas, hl_Decs, hm_Decs⟩ := (Prog.small_eq t).1 hs
  have hcost := Prog.cost_eq t
  rw [M.e_laws_szProg]; try simp only [cnd_not, cnd_dec, Option.bind_some]
  rw [szDataS_of _ hl_Datas (fun x hx => szData x (hm_Datas x hx)) _ (by omega) (by omega), Option.bind_some]
  by_cases hk_Datas : ((t.Datas.length + sumC Data.cost t.Datas : Nat) : Int) ≤ left
  rotate_left
  · rw [rest_neg hk_Datas, if_pos (by omega), rest_neg (by omega)]
  rw [rest_pos hk_Datas, if_neg (by omega)]
  rw [szDecS_of _ hl_Decs (fun x hx => szDec x (hm_Decs x hx)) _ (by omega) (by omega), Option.bind_some]
  by_cases hk_Decs : ((t.Decs.length + sumC Dec.cost t.Decs : Nat) : Int) ≤ left - ((t.Datas.length + sumC Data.cost t.Datas : Nat) : Int)
  rotate_left
  · rw [rest_neg hk_Decs, if_pos (by omega), rest_neg (by omega)]
  rw [rest_pos hk_Decs, if_neg (by omega)]
  rw [rest_pos (by omega)]; try congr 1; try omega
theorem toProg : ∀ t : Prog, t.cost ≤ 1048576 → M.laws_toProg t = some t := by
  intro t
  intro hc
  have hlim : lim = 140737488355328 := rfl
  have hcost := Prog.cost_eq t
  rw [M.e_laws_toProg]; try simp only [cnd_not, cnd_dec, Option.bind_some]
  have hm_Datas : ∀ x ∈ t.Datas, x.cost ≤ 1048576 := fun x hx => by have := sumC_mem (c := Data.cost) hx; omega
  rw [toDataS_of _ (by omega) (fun x hx => toData x (hm_Datas x hx)), Option.bind_some]
  have hm_Decs : ∀ x ∈ t.Decs, x.cost ≤ 1048576 := fun x hx => by have := sumC_mem (c := Dec.cost) hx; omega
  rw [toDecS_of _ (by omega) (fun x hx => toDec x (hm_Decs x hx)), Option.bind_some]
  all_goals first | rfl | (cases t; rfl) | (simp only [Exp.eta, Dec.eta, Alt.eta]; try (cases t; rfl))
open Classical in
theorem eqProg : ∀ t : Prog, t.small → ∀ u : Prog, M.laws_eqProg (t, u) = some (decide (t = u)) := by
  intro t
  intro hs u
  have hlim : lim = 140737488355328 := rfl
  obtain ⟨hl_Datas, hm_Datas, hl_Decs, hm_Decs⟩ := (Prog.small_eq t).1 hs
  rw [M.e_laws_eqProg]; try simp only [cnd_not, cnd_dec, Option.bind_some]
  rw [eqDataS_of _ _ hl_Datas (fun x hx => eqData x (hm_Datas x hx)), Option.bind_some]
  by_cases hk_Datas : t.Datas = u.Datas
  rotate_left
  · rw [decide_eq_false hk_Datas, decide_eq_false (fun e => hk_Datas (by rw [e]))]; rfl
  rw [decide_eq_true hk_Datas, cond_true]
  rw [eqDecS_of _ _ hl_Decs (fun x hx => eqDec x (hm_Decs x hx)), Option.bind_some]
  by_cases hk_Decs : t.Decs = u.Decs
  rotate_left
  · rw [decide_eq_false hk_Decs, decide_eq_false (fun e => hk_Decs (by rw [e]))]; rfl
  rw [decide_eq_true hk_Decs, cond_true]
  rw [decide_eq_true (Prog.ext' hk_Datas hk_Decs)]
end Q
end W
end
section
namespace W
set_option linter.unusedVariables false
set_option maxRecDepth 100000
set_option maxHeartbeats 1000000
namespace Q
open Go HL HL.X

def under : ByteArray := ⟨⟨[95]⟩⟩
def kl (s : ByteArray) : List UInt8 := s.data.toList
theorem kl_inj {a b : ByteArray} (h : kl a = kl b) : a = b := by
  cases a; cases b
  simp only [kl] at h
  congr
  exact Array.toList_inj.1 h
def Asc (l : List ByteArray) : Prop := l.Pairwise fun s t => kl s < kl t
theorem bl (a b : ByteArray) : Op.bytesLess a.toList b.toList = decide (kl a < kl b) := by
  have key : ∀ x y : List UInt8, Op.bytesLess x y = decide (x < y) := by
    intro x
    induction x with
    | nil => intro y; cases y <;> simp [Op.bytesLess]
    | cons a x ih =>
      intro y
      cases y with
      | nil => simp [Op.bytesLess]
      | cons b y =>
        rw [Op.bytesLess, ih]
        have e : (a :: x < b :: y) ↔ (a < b ∨ a = b ∧ x < y) := List.cons_lt_cons_iff
        simp only [e]
        by_cases h : a < b <;> by_cases h2 : a = b <;> simp [h, h2]
  rw [key, ByteArray.toList_eq, ByteArray.toList_eq]
  rfl
/-- Two lists in order of the same names are the same. -/
theorem asc_ext : ∀ {l l' : List ByteArray}, Asc l → Asc l' → (∀ s, s ∈ l ↔ s ∈ l') → l = l'
  | [], [], _, _, _ => rfl
  | [], y :: l', _, _, h => by have := (h y).2 (by simp); simp at this
  | x :: l, [], _, _, h => by have := (h x).1 (by simp); simp at this
  | x :: l, y :: l', h1, h2, h => by
    obtain ⟨a1, a2⟩ := List.pairwise_cons.1 h1
    obtain ⟨b1, b2⟩ := List.pairwise_cons.1 h2
    have e : x = y := by
      rcases List.mem_cons.1 ((h x).1 (by simp)) with q | q
      · exact q
      · rcases List.mem_cons.1 ((h y).2 (by simp)) with r | r
        · exact r.symm
        · exact absurd (Std.lt_trans (b1 x q) (a1 y r)) Std.lt_irrefl
    subst e
    congr 1
    refine asc_ext a2 b2 fun s => ⟨fun q => ?_, fun q => ?_⟩
    · rcases List.mem_cons.1 ((h s).1 (List.mem_cons_of_mem _ q)) with r | r
      · subst r; exact absurd (a1 _ q) Std.lt_irrefl
      · exact r
    · rcases List.mem_cons.1 ((h s).2 (List.mem_cons_of_mem _ q)) with r | r
      · subst r; exact absurd (b1 _ q) Std.lt_irrefl
      · exact r

noncomputable def dc (p : Prop) : Bool := @decide p (Classical.propDecidable p)
theorem dc_t {p : Prop} (h : p) : dc p = true := @decide_eq_true p (Classical.propDecidable p) h
theorem dc_f {p : Prop} (h : ¬ p) : dc p = false := @decide_eq_false p (Classical.propDecidable p) h

theorem sp_has {l : List ByteArray} (hl : l.length ≤ lim) (x : ByteArray) : M.spec_l1Has (l, x) = some (dc (x ∈ l)) := by
  have key : ∀ (k i : Nat), i + k = l.length → M.spec_l1Has_L0 (l, x, (i : Int)) = some (if dc (x ∈ l.drop i) then .inl true else .inr ()) := by
    intro k
    induction k with
    | zero =>
      intro i h
      rw [M.e_spec_l1Has_L0]; simp only [cnd_dec]
      rw [if_neg (by omega), List.drop_eq_nil_of_le (by omega), dc_f (by simp)]
      rfl
    | succ k ih =>
      intro i h
      have hlt : i < l.length := by omega
      rw [M.e_spec_l1Has_L0]; simp only [cnd_dec]
      rw [if_pos (by omega), ix_of (List.getElem?_eq_getElem hlt), Option.bind_some, wrap_succ hlt hl, ih (i + 1) (by omega), List.drop_eq_getElem_cons hlt]
      by_cases e : l[i] = x
      · rw [if_pos e, dc_t (by rw [e]; exact List.mem_cons_self)]
        rfl
      · rw [if_neg e]
        have : (x ∈ l[i] :: l.drop (i + 1)) ↔ x ∈ l.drop (i + 1) := by
          rw [List.mem_cons]
          exact ⟨fun h => h.resolve_left fun q => e q.symm, .inr⟩
        simp only [this]
  rw [M.e_spec_l1Has]
  have := key l.length 0 (by omega)
  simp only [List.drop_zero] at this
  show (M.spec_l1Has_L0 (l, x, ((0 : Nat) : Int))).bind _ = _
  rw [this, Option.bind_some]
  cases dc (x ∈ l) <;> rfl

theorem putL {x : ByteArray} : ∀ (k : Nat) (a : List ByteArray) (v : ByteArray) (b : List ByteArray), a.length = k → (a ++ v :: b).length ≤ 16000000 →
    ∃ a' v' c, M.spec_l6Put_L0 (x, (k : Int), a ++ v :: b) = some ((a'.length : Int), a' ++ v' :: (c ++ b)) ∧ a' ++ c = a ∧ (∀ s ∈ c, kl x < kl s) ∧ ∀ u a0, a' = a0 ++ [u] → ¬ kl x < kl u
  | 0, a, v, b, h, _ => by
    rw [M.e_spec_l6Put_L0]
    have : a = [] := List.length_eq_zero_iff.1 h
    subst this
    exact ⟨[], v, [], rfl, rfl, by simp, fun u a0 h => by simp at h⟩
  | k + 1, a, v, b, h, hl => by
    obtain ⟨a0, u, rfl⟩ : ∃ a0 u, a = a0 ++ [u] := by
      rcases List.eq_nil_or_concat a with q | ⟨a0, u, q⟩
      · rw [q] at h; cases h
      · exact ⟨a0, u, by simpa using q⟩
    have hk : a0.length = k := by simpa using h
    have hlen : (a0 ++ [u] ++ v :: b).length = k + 1 + (b.length + 1) := by simp [hk]; omega
    have h1 : (0 : Int) < ((k + 1 : Nat) : Int) := by omega
    have hw : IntKind.i64.wrap (((k + 1 : Nat) : Int) - 1) = (k : Int) := by rw [wrap_ok (by omega)]; omega
    have hg : (a0 ++ [u] ++ v :: b)[k]? = some u := by simp [hk]
    have hs : (a0 ++ [u] ++ v :: b).set (k + 1) u = a0 ++ u :: (u :: b) := by
      rw [List.set_append_right _ _ (by simp; omega)]
      simp [hk]
    rw [M.e_spec_l6Put_L0]
    simp only [h1, decide_true, cond_true, hw, gd_t (show (0 : Int) ≤ (k : Int) by omega), gd_t (show ((k : Int)) < ((a0 ++ [u] ++ v :: b).length : Int) by omega), Option.bind_some, Int.toNat_natCast, hg, gd_t (show (0 : Int) ≤ ((k + 1 : Nat) : Int) by omega), gd_t (show (((k + 1 : Nat) : Int)) < ((a0 ++ [u] ++ v :: b).length : Int) by omega), hs, bl]
    by_cases hc : kl u < kl x ∨ u = x
    · have : (decide (kl u < kl x) || decide (u = x)) = true := by simpa using hc
      rw [this]
      refine ⟨a0 ++ [u], v, [], by simp [hk], by simp, by simp, fun u' a1 e => ?_⟩
      have e' := List.append_inj_right' e rfl
      simp only [List.cons.injEq, and_true] at e'
      subst e'
      rcases hc with q | q
      · exact fun r => Std.lt_irrefl (Std.lt_trans q r)
      · subst q; exact Std.lt_irrefl
    · have : (decide (kl u < kl x) || decide (u = x)) = false := by simpa using hc
      rw [this]
      obtain ⟨a', v', c, e1, e2, e3, e4⟩ := putL (x := x) k a0 u (u :: b) hk (by simp at hl ⊢; omega)
      have hxu : kl x < kl u := by
        rcases not_or.1 hc with ⟨q1, q2⟩
        exact Std.lt_of_le_of_ne (Std.not_lt.1 q1) fun q => q2 (kl_inj q.symm)
      refine ⟨a', v', c ++ [u], by simp only [Bool.not_false, cond_true, e1]; simp, by rw [← List.append_assoc, e2], fun s hs => ?_, e4⟩
      rcases List.mem_append.1 hs with q | q
      · exact e3 s q
      · simp only [List.mem_singleton] at q; subst q; exact hxu

theorem sp_put {l : List ByteArray} (hl : l.length ≤ 12000000) (ha : Asc l) (x : ByteArray) : ∃ r, M.spec_l6Put (l, x) = some r ∧ Asc r ∧ (∀ s, s ∈ r ↔ s ∈ l ∨ (s = x ∧ ¬ s = under)) ∧ r.length ≤ l.length + 1 := by
  have hlim : lim = 140737488355328 := rfl
  have hgr : grow = 549755813888 := rfl
  have hh : M.spec_l1Has (l, x) = some (dc (x ∈ l)) := sp_has (l := l) (by omega) x
  rw [M.e_spec_l6Put]
  simp only [hh, Option.bind_some]
  rw [gd_t (show l.length ≤ grow by omega)]
  by_cases m : x ∈ l
  · rw [dc_t m]
    exact ⟨l, rfl, ha, by grind, by omega⟩
  rw [dc_f m]
  by_cases u : x = under
  · have u' : x = (⟨⟨[95]⟩⟩ : ByteArray) := u
    rw [decide_eq_true u']
    exact ⟨l, rfl, ha, by grind, by omega⟩
  have u' : ¬ x = (⟨⟨[95]⟩⟩ : ByteArray) := u
  rw [decide_eq_false u', gd_t (show l.length + [x].length ≤ grow by simp; omega)]
  have hw : IntKind.i64.wrap (((l ++ [x]).length : Int) - 1) = (l.length : Int) := by rw [wrap_ok (by simp; omega)]; simp
  obtain ⟨a', v', c, e1, e2, e3, e4⟩ := putL (x := x) l.length l x [] rfl (by simp; omega)
  have hlen : a'.length + c.length = l.length := by have := congrArg List.length e2; simpa using this
  simp only [List.append_nil] at e1
  simp only [cond_false, Option.bind_some, hw, e1, gd_t (show (0 : Int) ≤ (a'.length : Int) by omega), gd_t (show (a'.length : Int) < ((a' ++ v' :: c).length : Int) by simp; omega), Int.toNat_natCast]
  have hset : (a' ++ v' :: c).set a'.length x = a' ++ x :: c := by simp
  rw [← e2] at ha m
  obtain ⟨p1, p2, p3⟩ := List.pairwise_append.1 ha
  refine ⟨a' ++ x :: c, by rw [hset], ?_, fun s => ?_, by simp; omega⟩
  · refine List.pairwise_append.2 ⟨p1, List.pairwise_cons.2 ⟨e3, p2⟩, fun s hs t ht => ?_⟩
    have hsx : kl s < kl x := by
      obtain ⟨a0, u2, rfl⟩ : ∃ a0 u, a' = a0 ++ [u] := by
        rcases List.eq_nil_or_concat a' with q | ⟨a0, u, q⟩
        · rw [q] at hs; simp at hs
        · exact ⟨a0, u, by simpa using q⟩
      have hu : kl u2 < kl x := Std.lt_of_le_of_ne (Std.not_lt.1 (e4 u2 a0 rfl)) fun q => m (by rw [kl_inj q.symm]; simp)
      rcases List.mem_append.1 hs with q | q
      · exact Std.lt_trans ((List.pairwise_append.1 p1).2.2 s q u2 (by simp)) hu
      · simp only [List.mem_singleton] at q; subst q; exact hu
    rcases List.mem_cons.1 ht with q | q
    · subst q; exact hsx
    · exact p3 s hs t q
  · have : s ∈ l ↔ s ∈ a' ∨ s ∈ c := by rw [← e2]; simp
    rw [this]
    simp only [List.mem_append, List.mem_cons]
    grind

/-- A loop that gathers names. -/
theorem accA {α γ : Type} {l : List α} (hl : l.length ≤ lim) (F : ByteArray → α → Prop) (I : List ByteArray → Prop) (N : Nat) (c : α → Nat) {L : List ByteArray → Int → Option γ} (R : List ByteArray → γ)
    (hL : ∀ (i : Nat) (x : α) (out : List ByteArray), l[i]? = some x → x ∈ l → ix l (i : Int) = some x → (i : Int) < (l.length : Int) → IntKind.i64.wrap ((i : Int) + 1) = ((i + 1 : Nat) : Int) → I out → out.length + c x ≤ N →
      ∃ out', L out (i : Int) = L out' ((i + 1 : Nat) : Int) ∧ I out' ∧ (∀ s, s ∈ out' ↔ s ∈ out ∨ F s x) ∧ out'.length ≤ out.length + c x)
    (hend : ∀ out, L out (l.length : Nat) = some (R out)) (out : List ByteArray) (hI : I out) (h : out.length + sumC c l ≤ N) :
    ∃ out', L out 0 = some (R out') ∧ I out' ∧ (∀ s, s ∈ out' ↔ s ∈ out ∨ ∃ x ∈ l, F s x) ∧ out'.length ≤ out.length + sumC c l := by
  have hlim : lim = 140737488355328 := rfl
  have main : ∀ (k i : Nat) (out : List ByteArray), i + k = l.length → I out → out.length + sumC c (l.drop i) ≤ N →
      ∃ out', L out (i : Int) = some (R out') ∧ I out' ∧ (∀ s, s ∈ out' ↔ s ∈ out ∨ ∃ x ∈ l.drop i, F s x) ∧ out'.length ≤ out.length + sumC c (l.drop i) := by
    intro k
    induction k with
    | zero =>
      intro i out e hI h
      have e : i = l.length := by omega
      subst e
      exact ⟨out, hend out, hI, by simp, by simp⟩
    | succ k ih =>
      intro i out e hI h
      have hi : i < l.length := by omega
      have hw : IntKind.i64.wrap ((i : Int) + 1) = ((i + 1 : Nat) : Int) := by rw [wrap_ok (by omega)]; omega
      rw [List.drop_eq_getElem_cons hi] at h ⊢
      simp only [sumC] at h ⊢
      obtain ⟨o1, e1, i1, m1, b1⟩ := hL i l[i] out (List.getElem?_eq_getElem hi) (List.getElem_mem hi) (ix_of (List.getElem?_eq_getElem hi)) (by omega) hw hI (by omega)
      obtain ⟨o2, e2, i2, m2, b2⟩ := ih (i + 1) o1 (by omega) i1 (by omega)
      refine ⟨o2, e1.trans e2, i2, fun s => ?_, by omega⟩
      rw [m2, m1]
      simp only [List.mem_cons, exists_eq_or_imp]
      grind
  have := main l.length 0 out (by omega) hI (by simpa using h)
  simpa using this
theorem sumC_one {α : Type} : ∀ l : List α, sumC (fun _ => 1) l = l.length
  | [] => rfl
  | x :: l => by simp [sumC, sumC_one l]; omega

theorem sp_join {a b : List ByteArray} (h : a.length + b.length ≤ 12000000) (ha : Asc a) : ∃ r, M.spec_l6Join (a, b) = some r ∧ Asc r ∧ (∀ s, s ∈ r ↔ s ∈ a ∨ (s ∈ b ∧ ¬ s = under)) ∧ r.length ≤ a.length + b.length := by
  have hlim : lim = 140737488355328 := rfl
  have hgr : grow = 549755813888 := rfl
  obtain ⟨r, e, i, m, l⟩ := accA (l := b) (by omega) (fun s x => s = x ∧ ¬ s = under) Asc 12000000 (fun _ => 1) (L := fun o i => M.spec_l6Join_L0 (b, i, o)) (fun o => o) (fun i x o hx hm hix hi hw hI ho => by
    obtain ⟨o', e1, i1, m1, l1⟩ := sp_put (l := o) (by omega) hI x
    refine ⟨o', ?_, i1, m1, l1⟩
    show M.spec_l6Join_L0 (b, (i : Int), o) = _
    rw [M.e_spec_l6Join_L0]
    simp only [hi, decide_true, cond_true, hix, Option.bind_some, e1, hw]) (fun o => by
    show M.spec_l6Join_L0 (b, (b.length : Int), o) = _
    rw [M.e_spec_l6Join_L0]
    simp) a ha (by rw [sumC_one]; omega)
  rw [sumC_one] at l
  refine ⟨r, ?_, i, fun s => (m s).trans ⟨fun h => h.imp_right fun ⟨x, h1, h2, h3⟩ => ⟨h2 ▸ h1, h3⟩, fun h => h.imp_right fun ⟨h1, h2⟩ => ⟨s, h1, rfl, h2⟩⟩, l⟩
  rw [M.e_spec_l6Join]
  simp only [gd_t (show a.length ≤ grow by omega), Option.bind_some, e]
end Q
end W
end
section
/- Names that stand in a program, as the reference gathers them. -/
namespace W
set_option linter.unusedVariables false
set_option maxRecDepth 100000
set_option maxHeartbeats 1000000
namespace Q
open Go HL HL.X

mutual
def BE (s : ByteArray) : Exp → Prop
  | .mk k n _ l ds al => (k = 5 ∧ s = n) ∨ BEs s l ∨ BAs s al ∨ BDs s ds
def BEs (s : ByteArray) : List Exp → Prop
  | [] => False
  | x :: l => BE s x ∨ BEs s l
def BAs (s : ByteArray) : List Alt → Prop
  | [] => False
  | .mk _ vs e :: l => (s ∈ vs ∨ BE s e) ∨ BAs s l
def BD (s : ByteArray) : Dec → Prop
  | .mk _ ps e w => s ∈ ps ∨ BE s e ∨ BDs s w
def BDs (s : ByteArray) : List Dec → Prop
  | [] => False
  | d :: l => (s = d.Name ∨ BD s d) ∨ BDs s l
end
mutual
def UE (s : ByteArray) : Exp → Prop
  | .mk k n _ l ds al => (k = 1 ∧ s = n) ∨ UEs s l ∨ UAs s al ∨ UDs s ds
def UEs (s : ByteArray) : List Exp → Prop
  | [] => False
  | x :: l => UE s x ∨ UEs s l
def UAs (s : ByteArray) : List Alt → Prop
  | [] => False
  | .mk _ vs e :: l => UE s e ∨ UAs s l
def UD (s : ByteArray) : Dec → Prop
  | .mk _ ps e w => UE s e ∨ UDs s w
def UDs (s : ByteArray) : List Dec → Prop
  | [] => False
  | d :: l => UD s d ∨ UDs s l
end
theorem BEs_iff {s} : ∀ {l}, BEs s l ↔ ∃ e ∈ l, BE s e
  | [] => by simp [BEs]
  | x :: l => by rw [BEs, BEs_iff]; simp
theorem BAs_iff {s} : ∀ {l}, BAs s l ↔ ∃ a ∈ l, s ∈ a.Vars ∨ BE s a.E
  | [] => by simp [BAs]
  | .mk _ _ _ :: l => by rw [BAs, BAs_iff]; simp [Alt.Vars, Alt.E]
theorem BDs_iff {s} : ∀ {l}, BDs s l ↔ ∃ d ∈ l, s = d.Name ∨ BD s d
  | [] => by simp [BDs]
  | x :: l => by rw [BDs, BDs_iff]; simp
theorem BE_iff (s : ByteArray) (e : Exp) : BE s e ↔ (e.K = 5 ∧ s = e.S) ∨ (∃ x ∈ e.L, BE s x) ∨ (∃ a ∈ e.Alts, s ∈ a.Vars ∨ BE s a.E) ∨ ∃ d ∈ e.Decs, s = d.Name ∨ BD s d := by
  cases e
  simp only [BE, BEs_iff, BAs_iff, BDs_iff, Exp.K, Exp.S, Exp.L, Exp.Alts, Exp.Decs]
theorem BD_iff (s : ByteArray) (d : Dec) : BD s d ↔ s ∈ d.Pars ∨ BE s d.E ∨ ∃ w ∈ d.Where, s = w.Name ∨ BD s w := by
  cases d
  simp only [BD, BDs_iff, Dec.E, Dec.Where, Dec.Pars]
theorem UEs_iff {s} : ∀ {l}, UEs s l ↔ ∃ e ∈ l, UE s e
  | [] => by simp [UEs]
  | x :: l => by rw [UEs, UEs_iff]; simp
theorem UAs_iff {s} : ∀ {l}, UAs s l ↔ ∃ a ∈ l, UE s a.E
  | [] => by simp [UAs]
  | .mk _ _ _ :: l => by rw [UAs, UAs_iff]; simp [Alt.E]
theorem UDs_iff {s} : ∀ {l}, UDs s l ↔ ∃ d ∈ l, UD s d
  | [] => by simp [UDs]
  | x :: l => by rw [UDs, UDs_iff]; simp
theorem UE_iff (s : ByteArray) (e : Exp) : UE s e ↔ (e.K = 1 ∧ s = e.S) ∨ (∃ x ∈ e.L, UE s x) ∨ (∃ a ∈ e.Alts, UE s a.E) ∨ ∃ d ∈ e.Decs, UD s d := by
  cases e
  simp only [UE, UEs_iff, UAs_iff, UDs_iff, Exp.K, Exp.S, Exp.L, Exp.Alts, Exp.Decs]
theorem UD_iff (s : ByteArray) (d : Dec) : UD s d ↔ UE s d.E ∨ ∃ w ∈ d.Where, UD s w := by
  cases d
  simp only [UD, UDs_iff, Dec.E, Dec.Where]

theorem sumC_lin {α : Type} (c : α → Nat) (a b : Nat) : ∀ l : List α, sumC (fun x => a * c x + b) l = a * sumC c l + b * l.length
  | [] => by simp [sumC]
  | x :: l => by simp only [sumC, sumC_lin c a b l, List.length_cons, Nat.mul_add]; omega

/-- What is found: in order, these names but the sign for nothing. -/
def Found (r : List ByteArray) (F : ByteArray → Prop) (n : Nat) : Prop := Asc r ∧ (∀ s, s ∈ r ↔ F s ∧ ¬ s = under) ∧ r.length ≤ n
def SpB (e : Exp) : Prop := e.cost ≤ 1048576 → ∃ r, M.spec_BoundOf e = some r ∧ Found r (fun s => BE s e) (3 * e.cost + 1)
def SpBW (l : List Dec) : Prop := l.length + sumC Dec.cost l ≤ 1048576 → ∃ r, M.spec_l6BoundOfDecs l = some r ∧ Found r (fun s => ∃ d ∈ l, s = d.Name ∨ BD s d) (3 * (l.length + sumC Dec.cost l))
def SpU (e : Exp) : Prop := e.cost ≤ 1048576 → ∃ r, M.spec_l6Used e = some r ∧ Found r (fun s => UE s e) (3 * e.cost + 1)
def SpUW (l : List Dec) : Prop := l.length + sumC Dec.cost l ≤ 1048576 → ∃ r, M.spec_l6UsedDecs l = some r ∧ Found r (fun s => ∃ d ∈ l, UD s d) (3 * (l.length + sumC Dec.cost l))

theorem dec_lt {l : List Dec} {d : Dec} (h : d ∈ l) (hc : l.length + sumC Dec.cost l ≤ 1048576) : d.E.cost ≤ 1048576 ∧ d.Where.length + sumC Dec.cost d.Where ≤ 1048576 ∧ d.Pars.length + d.E.cost + (d.Where.length + sumC Dec.cost d.Where) ≤ d.cost := by
  have h1 := sumC_mem (c := Dec.cost) h
  have h2 := Dec.cost_eq d
  omega

theorem boundDecs_of {l : List Dec} (h : ∀ d ∈ l, SpB d.E ∧ SpBW d.Where) : SpBW l := by
  intro hc
  have hlim : lim = 140737488355328 := rfl
  obtain ⟨r, e, i, m, n⟩ := accA (l := l) (by omega) (fun s d => (s = d.Name ∨ BD s d) ∧ ¬ s = under) Asc 12000000 (fun d => 3 * d.cost + 3) (L := fun o i => M.spec_l6BoundOfDecs_L0 (l, i, o)) (fun o => o) (fun i x o hx hm hix hi hw hI ho => by
    obtain ⟨c1, c2, c3⟩ := dec_lt hm hc
    obtain ⟨rb, eb, ab, mb, nb⟩ := (h x hm).1 c1
    obtain ⟨rw, ew, aw, mw, nw⟩ := (h x hm).2 c2
    obtain ⟨o1, e1, a1, m1, n1⟩ := sp_put (l := o) (by omega) hI x.Name
    obtain ⟨o2, e2, a2, m2, n2⟩ := sp_join (a := o1) (b := x.Pars) (by omega) a1
    obtain ⟨o3, e3, a3, m3, n3⟩ := sp_join (a := o2) (b := rb) (by omega) a2
    obtain ⟨o4, e4, a4, m4, n4⟩ := sp_join (a := o3) (b := rw) (by omega) a3
    refine ⟨o4, ?_, a4, fun s => ?_, by omega⟩
    · show M.spec_l6BoundOfDecs_L0 (l, (i : Int), o) = _
      rw [M.e_spec_l6BoundOfDecs_L0]
      simp only [hi, decide_true, cond_true, hix, Option.bind_some, e1, e2, eb, e3, ew, e4, hw]
    · rw [m4, m3, m2, m1, mb, mw, BD_iff]
      grind) (fun o => by
    show M.spec_l6BoundOfDecs_L0 (l, (l.length : Int), o) = _
    rw [M.e_spec_l6BoundOfDecs_L0]
    simp) [] List.Pairwise.nil (by rw [sumC_lin]; simp; omega)
  rw [sumC_lin] at n
  refine ⟨r, ?_, i, fun s => ?_, by simp at n; omega⟩
  · rw [M.e_spec_l6BoundOfDecs]
    simp only [Option.bind_some, e]
  · rw [m]
    grind

theorem bound_of {e : Exp} (hL : ∀ x ∈ e.L, SpB x) (hA : ∀ a ∈ e.Alts, SpB a.E) (hD : SpBW e.Decs) : SpB e := by
  intro hc
  have hlim : lim = 140737488355328 := rfl
  have hco := Exp.cost_eq e
  have start : ∃ o, (bif decide (e.K = 5) then ((M.spec_l6Put ([], e.S)).bind fun r1 => some (e, r1)) else some (e, [])) = some (e, o) ∧ Asc o ∧ (∀ s, s ∈ o ↔ (e.K = 5 ∧ s = e.S) ∧ ¬ s = under) ∧ o.length ≤ 1 := by
    by_cases k : e.K = 5
    · obtain ⟨o, e1, a1, m1, n1⟩ := sp_put (l := []) (by simp) List.Pairwise.nil e.S
      exact ⟨o, by simp only [k, decide_true, cond_true, e1, Option.bind_some], a1, fun s => by rw [m1]; simp [k], by simpa using n1⟩
    · exact ⟨[], by simp [k], List.Pairwise.nil, by simp [k], by simp⟩
  obtain ⟨o0, e0, a0, m0, n0⟩ := start
  obtain ⟨o1, e1, a1, m1, n1⟩ := accA (l := e.L) (by omega) (fun s x => BE s x ∧ ¬ s = under) Asc 12000000 (fun x => 3 * x.cost + 1) (L := fun o i => M.spec_BoundOf_L0 (i, e, o)) (fun o => (e, o)) (fun i x o hx hm hix hi hw hI ho => by
    have hcx := sumC_mem (c := Exp.cost) hm
    obtain ⟨rb, eb, ab, mb, nb⟩ := hL x hm (by omega)
    obtain ⟨o2, e2, a2, m2, n2⟩ := sp_join (a := o) (b := rb) (by omega) hI
    refine ⟨o2, ?_, a2, fun s => ?_, by omega⟩
    · show M.spec_BoundOf_L0 ((i : Int), e, o) = _
      rw [M.e_spec_BoundOf_L0]
      simp only [hi, decide_true, cond_true, hix, Option.bind_some, eb, e2, hw]
    · rw [m2, mb]; grind) (fun o => by
    show M.spec_BoundOf_L0 ((e.L.length : Int), e, o) = _
    rw [M.e_spec_BoundOf_L0]
    simp) o0 a0 (by rw [sumC_lin]; omega)
  rw [sumC_lin] at n1
  obtain ⟨o2, e2, a2, m2, n2⟩ := accA (l := e.Alts) (by omega) (fun s a => (s ∈ a.Vars ∨ BE s a.E) ∧ ¬ s = under) Asc 12000000 (fun x => 3 * x.cost + 1) (L := fun o i => M.spec_BoundOf_L1 (i, e, o)) (fun o => (e, o)) (fun i x o hx hm hix hi hw hI ho => by
    have hcx := sumC_mem (c := Alt.cost) hm
    have hcy := Alt.cost_eq x
    obtain ⟨rb, eb, ab, mb, nb⟩ := hA x hm (by omega)
    obtain ⟨o3, e3, a3, m3, n3⟩ := sp_join (a := o) (b := x.Vars) (by omega) hI
    obtain ⟨o4, e4, a4, m4, n4⟩ := sp_join (a := o3) (b := rb) (by omega) a3
    refine ⟨o4, ?_, a4, fun s => ?_, by omega⟩
    · show M.spec_BoundOf_L1 ((i : Int), e, o) = _
      rw [M.e_spec_BoundOf_L1]
      simp only [hi, decide_true, cond_true, hix, Option.bind_some, e3, eb, e4, hw]
    · rw [m4, m3, mb]; grind) (fun o => by
    show M.spec_BoundOf_L1 ((e.Alts.length : Int), e, o) = _
    rw [M.e_spec_BoundOf_L1]
    simp) o1 a1 (by rw [sumC_lin]; omega)
  rw [sumC_lin] at n2
  obtain ⟨rd, ed, ad, md, nd⟩ := hD (by omega)
  obtain ⟨o3, e3, a3, m3, n3⟩ := sp_join (a := o2) (b := rd) (by omega) a2
  refine ⟨o3, ?_, a3, fun s => ?_, by omega⟩
  · rw [M.e_spec_BoundOf, e0]
    simp only [Option.bind_some, e1, e2, ed, e3]
  · show _ ↔ (BE s e ∧ ¬ s = under)
    rw [m3, m2, m1, m0, md, BE_iff]
    grind

theorem sp_bound : (∀ e : Exp, SpB e) ∧ ∀ l : List Dec, SpBW l := by
  have main : ∀ e : Exp, SpB e := Exp.ind (M0 := fun a => SpB a.E) (M1 := fun d => SpB d.E ∧ SpBW d.Where) (M2 := SpB)
    (fun a h => h) (fun d h hw => ⟨h, boundDecs_of hw⟩) (fun e hL hD hA => bound_of hL hA (boundDecs_of hD))
  have main2 : ∀ d : Dec, SpB d.E ∧ SpBW d.Where := Dec.ind (M0 := fun a => SpB a.E) (M1 := fun d => SpB d.E ∧ SpBW d.Where) (M2 := SpB)
    (fun a h => h) (fun d h hw => ⟨h, boundDecs_of hw⟩) (fun e hL hD hA => bound_of hL hA (boundDecs_of hD))
  exact ⟨main, fun l => boundDecs_of fun d _ => main2 d⟩

theorem usedDecs_of {l : List Dec} (h : ∀ d ∈ l, SpU d.E ∧ SpUW d.Where) : SpUW l := by
  intro hc
  have hlim : lim = 140737488355328 := rfl
  obtain ⟨r, e, i, m, n⟩ := accA (l := l) (by omega) (fun s d => UD s d ∧ ¬ s = under) Asc 12000000 (fun d => 3 * d.cost + 3) (L := fun o i => M.spec_l6UsedDecs_L0 (l, i, o)) (fun o => o) (fun i x o hx hm hix hi hw hI ho => by
    obtain ⟨c1, c2, c3⟩ := dec_lt hm hc
    obtain ⟨rb, eb, ab, mb, nb⟩ := (h x hm).1 c1
    obtain ⟨rw, ew, aw, mw, nw⟩ := (h x hm).2 c2
    obtain ⟨o3, e3, a3, m3, n3⟩ := sp_join (a := o) (b := rb) (by omega) hI
    obtain ⟨o4, e4, a4, m4, n4⟩ := sp_join (a := o3) (b := rw) (by omega) a3
    refine ⟨o4, ?_, a4, fun s => ?_, by omega⟩
    · show M.spec_l6UsedDecs_L0 (l, (i : Int), o) = _
      rw [M.e_spec_l6UsedDecs_L0]
      simp only [hi, decide_true, cond_true, hix, Option.bind_some, eb, e3, ew, e4, hw]
    · rw [m4, m3, mb, mw, UD_iff]
      grind) (fun o => by
    show M.spec_l6UsedDecs_L0 (l, (l.length : Int), o) = _
    rw [M.e_spec_l6UsedDecs_L0]
    simp) [] List.Pairwise.nil (by rw [sumC_lin]; simp; omega)
  rw [sumC_lin] at n
  refine ⟨r, ?_, i, fun s => ?_, by simp at n; omega⟩
  · rw [M.e_spec_l6UsedDecs]
    simp only [Option.bind_some, e]
  · rw [m]
    grind

theorem used_of {e : Exp} (hL : ∀ x ∈ e.L, SpU x) (hA : ∀ a ∈ e.Alts, SpU a.E) (hD : SpUW e.Decs) : SpU e := by
  intro hc
  have hlim : lim = 140737488355328 := rfl
  have hco := Exp.cost_eq e
  have start : ∃ o, (bif decide (e.K = 1) then ((M.spec_l6Put ([], e.S)).bind fun r1 => some (e, r1)) else some (e, [])) = some (e, o) ∧ Asc o ∧ (∀ s, s ∈ o ↔ (e.K = 1 ∧ s = e.S) ∧ ¬ s = under) ∧ o.length ≤ 1 := by
    by_cases k : e.K = 1
    · obtain ⟨o, e1, a1, m1, n1⟩ := sp_put (l := []) (by simp) List.Pairwise.nil e.S
      exact ⟨o, by simp only [k, decide_true, cond_true, e1, Option.bind_some], a1, fun s => by rw [m1]; simp [k], by simpa using n1⟩
    · exact ⟨[], by simp [k], List.Pairwise.nil, by simp [k], by simp⟩
  obtain ⟨o0, e0, a0, m0, n0⟩ := start
  obtain ⟨o1, e1, a1, m1, n1⟩ := accA (l := e.L) (by omega) (fun s x => UE s x ∧ ¬ s = under) Asc 12000000 (fun x => 3 * x.cost + 1) (L := fun o i => M.spec_l6Used_L0 (i, e, o)) (fun o => (e, o)) (fun i x o hx hm hix hi hw hI ho => by
    have hcx := sumC_mem (c := Exp.cost) hm
    obtain ⟨rb, eb, ab, mb, nb⟩ := hL x hm (by omega)
    obtain ⟨o2, e2, a2, m2, n2⟩ := sp_join (a := o) (b := rb) (by omega) hI
    refine ⟨o2, ?_, a2, fun s => ?_, by omega⟩
    · show M.spec_l6Used_L0 ((i : Int), e, o) = _
      rw [M.e_spec_l6Used_L0]
      simp only [hi, decide_true, cond_true, hix, Option.bind_some, eb, e2, hw]
    · rw [m2, mb]; grind) (fun o => by
    show M.spec_l6Used_L0 ((e.L.length : Int), e, o) = _
    rw [M.e_spec_l6Used_L0]
    simp) o0 a0 (by rw [sumC_lin]; omega)
  rw [sumC_lin] at n1
  obtain ⟨o2, e2, a2, m2, n2⟩ := accA (l := e.Alts) (by omega) (fun s a => UE s a.E ∧ ¬ s = under) Asc 12000000 (fun x => 3 * x.cost + 1) (L := fun o i => M.spec_l6Used_L1 (i, e, o)) (fun o => (e, o)) (fun i x o hx hm hix hi hw hI ho => by
    have hcx := sumC_mem (c := Alt.cost) hm
    have hcy := Alt.cost_eq x
    obtain ⟨rb, eb, ab, mb, nb⟩ := hA x hm (by omega)
    obtain ⟨o4, e4, a4, m4, n4⟩ := sp_join (a := o) (b := rb) (by omega) hI
    refine ⟨o4, ?_, a4, fun s => ?_, by omega⟩
    · show M.spec_l6Used_L1 ((i : Int), e, o) = _
      rw [M.e_spec_l6Used_L1]
      simp only [hi, decide_true, cond_true, hix, Option.bind_some, eb, e4, hw]
    · rw [m4, mb]; grind) (fun o => by
    show M.spec_l6Used_L1 ((e.Alts.length : Int), e, o) = _
    rw [M.e_spec_l6Used_L1]
    simp) o1 a1 (by rw [sumC_lin]; omega)
  rw [sumC_lin] at n2
  obtain ⟨rd, ed, ad, md, nd⟩ := hD (by omega)
  obtain ⟨o3, e3, a3, m3, n3⟩ := sp_join (a := o2) (b := rd) (by omega) a2
  refine ⟨o3, ?_, a3, fun s => ?_, by omega⟩
  · rw [M.e_spec_l6Used, e0]
    simp only [Option.bind_some, e1, e2, ed, e3]
  · show _ ↔ (UE s e ∧ ¬ s = under)
    rw [m3, m2, m1, m0, md, UE_iff]
    grind

theorem sp_used : (∀ e : Exp, SpU e) ∧ ∀ l : List Dec, SpUW l := by
  have main : ∀ e : Exp, SpU e := Exp.ind (M0 := fun a => SpU a.E) (M1 := fun d => SpU d.E ∧ SpUW d.Where) (M2 := SpU)
    (fun a h => h) (fun d h hw => ⟨h, usedDecs_of hw⟩) (fun e hL hD hA => used_of hL hA (usedDecs_of hD))
  have main2 : ∀ d : Dec, SpU d.E ∧ SpUW d.Where := Dec.ind (M0 := fun a => SpU a.E) (M1 := fun d => SpU d.E ∧ SpUW d.Where) (M2 := SpU)
    (fun a h => h) (fun d h hw => ⟨h, usedDecs_of hw⟩) (fun e hL hD hA => used_of hL hA (usedDecs_of hD))
  exact ⟨main, fun l => usedDecs_of fun d _ => main2 d⟩

/-- All names that stand in a program. -/
theorem sp_names (p : Prog) (hc : p.cost ≤ 1048576) : ∃ r, M.spec_NamesOf p = some r ∧ Found r (fun s => (∃ d ∈ p.Decs, s = d.Name ∨ BD s d) ∨ ∃ d ∈ p.Decs, UD s d) 8000000 := by
  have hlim : lim = 140737488355328 := rfl
  have hco := Prog.cost_eq p
  obtain ⟨r0, e0, a0, m0, n0⟩ := sp_bound.2 p.Decs (by omega)
  obtain ⟨r, e, i, m, n⟩ := accA (l := p.Decs) (by omega) (fun s d => UD s d ∧ ¬ s = under) Asc 12000000 (fun d => 3 * d.cost + 3) (L := fun o i => M.spec_NamesOf_L0 (i, p, o)) (fun o => o) (fun i x o hx hm hix hi hw hI ho => by
    obtain ⟨c1, c2, c3⟩ := dec_lt hm (by omega)
    obtain ⟨rb, eb, ab, mb, nb⟩ := sp_used.1 x.E c1
    obtain ⟨rw, ew, aw, mw, nw⟩ := sp_used.2 x.Where c2
    obtain ⟨o3, e3, a3, m3, n3⟩ := sp_join (a := o) (b := rb) (by omega) hI
    obtain ⟨o4, e4, a4, m4, n4⟩ := sp_join (a := o3) (b := rw) (by omega) a3
    refine ⟨o4, ?_, a4, fun s => ?_, by omega⟩
    · show M.spec_NamesOf_L0 ((i : Int), p, o) = _
      rw [M.e_spec_NamesOf_L0]
      simp only [hi, decide_true, cond_true, hix, Option.bind_some, eb, e3, ew, e4, hw]
    · rw [m4, m3, mb, mw, UD_iff]
      grind) (fun o => by
    show M.spec_NamesOf_L0 ((p.Decs.length : Int), p, o) = _
    rw [M.e_spec_NamesOf_L0]
    simp) r0 a0 (by rw [sumC_lin]; omega)
  rw [sumC_lin] at n
  refine ⟨r, ?_, i, fun s => ?_, by omega⟩
  · rw [M.e_spec_NamesOf, e0]
    simp only [Option.bind_some, e]
  · rw [m, m0]
    grind
end Q
end W
end
section
/- Names that stand in a program, as the program gathers them. -/
namespace W
set_option linter.unusedVariables false
set_option maxRecDepth 100000
set_option maxHeartbeats 1000000
namespace Q
open Go HL HL.X

/-- A loop that gathers names, with something beside them. -/
theorem accB {α β γ : Type} {l : List α} (hl : l.length ≤ lim) (F : ByteArray → α → Prop) (pr : β → List ByteArray) (I : β → Nat → Prop) (N : Nat) (c : α → Nat) {L : β → Int → Option γ} (R : β → γ)
    (hL : ∀ (i : Nat) (x : α) (b : β), l[i]? = some x → x ∈ l → i < l.length → ix l (i : Int) = some x → (i : Int) < (l.length : Int) → IntKind.i64.wrap ((i : Int) + 1) = ((i + 1 : Nat) : Int) → I b i → (pr b).length + c x ≤ N →
      ∃ b', L b (i : Int) = L b' ((i + 1 : Nat) : Int) ∧ I b' (i + 1) ∧ (∀ s, s ∈ pr b' ↔ s ∈ pr b ∨ F s x) ∧ (pr b').length ≤ (pr b).length + c x)
    (hend : ∀ b, L b (l.length : Nat) = some (R b)) (b : β) (hI : I b 0) (h : (pr b).length + sumC c l ≤ N) :
    ∃ b', L b 0 = some (R b') ∧ I b' l.length ∧ (∀ s, s ∈ pr b' ↔ s ∈ pr b ∨ ∃ x ∈ l, F s x) ∧ (pr b').length ≤ (pr b).length + sumC c l := by
  have hlim : lim = 140737488355328 := rfl
  have main : ∀ (k i : Nat) (b : β), i + k = l.length → I b i → (pr b).length + sumC c (l.drop i) ≤ N →
      ∃ b', L b (i : Int) = some (R b') ∧ I b' l.length ∧ (∀ s, s ∈ pr b' ↔ s ∈ pr b ∨ ∃ x ∈ l.drop i, F s x) ∧ (pr b').length ≤ (pr b).length + sumC c (l.drop i) := by
    intro k
    induction k with
    | zero =>
      intro i b e hI h
      have e : i = l.length := by omega
      subst e
      exact ⟨b, hend b, hI, by simp, by simp⟩
    | succ k ih =>
      intro i b e hI h
      have hi : i < l.length := by omega
      have hw : IntKind.i64.wrap ((i : Int) + 1) = ((i + 1 : Nat) : Int) := by rw [wrap_ok (by omega)]; omega
      rw [List.drop_eq_getElem_cons hi] at h ⊢
      simp only [sumC] at h ⊢
      obtain ⟨o1, e1, i1, m1, b1⟩ := hL i l[i] b (List.getElem?_eq_getElem hi) (List.getElem_mem hi) hi (ix_of (List.getElem?_eq_getElem hi)) (by omega) hw hI (by omega)
      obtain ⟨o2, e2, i2, m2, b2⟩ := ih (i + 1) o1 (by omega) i1 (by omega)
      refine ⟨o2, e1.trans e2, i2, fun s => ?_, by omega⟩
      rw [m2, m1]
      simp only [List.mem_cons, exists_eq_or_imp]
      grind
  have := main l.length 0 b (by omega) hI (by simpa using h)
  simpa using this

def ImB (e : Exp) : Prop := e.cost ≤ 1048576 → ∀ out : List ByteArray, out.length + (3 * e.cost + 1) ≤ 12000000 → ∃ out', M.impl_boundExp (e, out) = some out' ∧ (∀ s, s ∈ out' ↔ s ∈ out ∨ BE s e) ∧ out'.length ≤ out.length + (3 * e.cost + 1)
def ImBD (d : Dec) : Prop := d.cost ≤ 1048576 → ∀ out : List ByteArray, out.length + (3 * d.cost + 2) ≤ 12000000 → ∃ out', M.impl_boundDec (d, out) = some out' ∧ (∀ s, s ∈ out' ↔ s ∈ out ∨ BD s d) ∧ out'.length ≤ out.length + (3 * d.cost + 2)

theorem imBD_of {d : Dec} (hE : ImB d.E) (hW : ∀ w ∈ d.Where, ImBD w) : ImBD d := by
  intro hc out ho
  have hlim : lim = 140737488355328 := rfl
  have hgr : grow = 549755813888 := rfl
  have hco := Dec.cost_eq d
  obtain ⟨o1, e1, m1, n1⟩ := hE (by omega) (out ++ d.Pars) (by simp; omega)
  simp only [List.length_append] at n1
  obtain ⟨o2, e2, _, m2, n2⟩ := accA (l := d.Where) (by omega) (fun s w => s = w.Name ∨ BD s w) (fun _ => True) 12000000 (fun w => 3 * w.cost + 3) (L := fun o i => M.impl_boundDec_L0 (d.Where, (d.Where.length : Int), i, o)) (fun o => o) (fun i x o hx hm hix hi hw _ ho => by
    have hcx := sumC_mem (c := Dec.cost) hm
    obtain ⟨o3, e3, m3, n3⟩ := hW x hm (by omega) (o ++ [x.Name]) (by simp; omega)
    refine ⟨o3, ?_, trivial, fun s => ?_, by simp at n3; omega⟩
    · show M.impl_boundDec_L0 (d.Where, _, (i : Int), o) = _
      rw [M.e_impl_boundDec_L0]
      simp only [hi, decide_true, cond_true, hix, Option.bind_some, gd_t (show o.length + [x.Name].length ≤ grow by simp; omega), e3, hw]
    · rw [m3]
      simp only [List.mem_append, List.mem_singleton]
      grind) (fun o => by
    show M.impl_boundDec_L0 (d.Where, _, (d.Where.length : Int), o) = _
    rw [M.e_impl_boundDec_L0]
    simp) o1 trivial (by rw [sumC_lin]; omega)
  rw [sumC_lin] at n2
  refine ⟨o2, ?_, fun s => ?_, by omega⟩
  · rw [M.e_impl_boundDec]
    simp only [gd_t (show out.length + d.Pars.length ≤ grow by omega), Option.bind_some, e1, e2]
  · rw [m2, m1, BD_iff]
    simp only [List.mem_append]
    grind

theorem imB_of {e : Exp} (hL : ∀ x ∈ e.L, ImB x) (hD : ∀ d ∈ e.Decs, ImBD d) (hA : ∀ a ∈ e.Alts, ImB a.E) : ImB e := by
  intro hc out ho
  have hlim : lim = 140737488355328 := rfl
  have hgr : grow = 549755813888 := rfl
  have hco := Exp.cost_eq e
  have start : ∃ o, (bif decide (e.K = 5) then ((gd (out.length + [e.S].length ≤ grow)).bind fun _ => some ((out ++ [e.S]), e)) else some (out, e)) = some (o, e) ∧ (∀ s, s ∈ o ↔ s ∈ out ∨ (e.K = 5 ∧ s = e.S)) ∧ o.length ≤ out.length + 1 := by
    by_cases k : e.K = 5
    · refine ⟨out ++ [e.S], ?_, fun s => by simp [k], by simp⟩
      simp only [k, decide_true, cond_true, gd_t (show out.length + [e.S].length ≤ grow by simp; omega), Option.bind_some]
    · exact ⟨out, by simp [k], by simp [k], by omega⟩
  obtain ⟨o0, e0, m0, n0⟩ := start
  obtain ⟨o1, e1, _, m1, n1⟩ := accA (l := e.L) (by omega) (fun s x => BE s x) (fun _ => True) 12000000 (fun x => 3 * x.cost + 1) (L := fun o i => M.impl_boundExp_L0 (e.L, (e.L.length : Int), i, o, e)) (fun o => (o, e)) (fun i x o hx hm hix hi hw _ ho => by
    have hcx := sumC_mem (c := Exp.cost) hm
    obtain ⟨o3, e3, m3, n3⟩ := hL x hm (by omega) o (by omega)
    refine ⟨o3, ?_, trivial, fun s => by rw [m3], by omega⟩
    show M.impl_boundExp_L0 (e.L, _, (i : Int), o, e) = _
    rw [M.e_impl_boundExp_L0]
    simp only [hi, decide_true, cond_true, hix, Option.bind_some, e3, hw]) (fun o => by
    show M.impl_boundExp_L0 (e.L, _, (e.L.length : Int), o, e) = _
    rw [M.e_impl_boundExp_L0]
    simp) o0 trivial (by rw [sumC_lin]; omega)
  rw [sumC_lin] at n1
  obtain ⟨o2, e2, _, m2, n2⟩ := accA (l := e.Decs) (by omega) (fun s w => s = w.Name ∨ BD s w) (fun _ => True) 12000000 (fun w => 3 * w.cost + 3) (L := fun o i => M.impl_boundExp_L1 (e.Decs, (e.Decs.length : Int), i, o, e)) (fun o => (o, e)) (fun i x o hx hm hix hi hw _ ho => by
    have hcx := sumC_mem (c := Dec.cost) hm
    obtain ⟨o3, e3, m3, n3⟩ := hD x hm (by omega) (o ++ [x.Name]) (by simp; omega)
    refine ⟨o3, ?_, trivial, fun s => ?_, by simp at n3; omega⟩
    · show M.impl_boundExp_L1 (e.Decs, _, (i : Int), o, e) = _
      rw [M.e_impl_boundExp_L1]
      simp only [hi, decide_true, cond_true, hix, Option.bind_some, gd_t (show o.length + [x.Name].length ≤ grow by simp; omega), e3, hw]
    · rw [m3]
      simp only [List.mem_append, List.mem_singleton]
      grind) (fun o => by
    show M.impl_boundExp_L1 (e.Decs, _, (e.Decs.length : Int), o, e) = _
    rw [M.e_impl_boundExp_L1]
    simp) o1 trivial (by rw [sumC_lin]; omega)
  rw [sumC_lin] at n2
  obtain ⟨o3, e3, _, m3, n3⟩ := accA (l := e.Alts) (by omega) (fun s a => s ∈ a.Vars ∨ BE s a.E) (fun _ => True) 12000000 (fun x => 3 * x.cost + 1) (L := fun o i => M.impl_boundExp_L2 (e.Alts, (e.Alts.length : Int), i, o)) (fun o => o) (fun i x o hx hm hix hi hw _ ho => by
    have hcx := sumC_mem (c := Alt.cost) hm
    have hcy := Alt.cost_eq x
    obtain ⟨o3, e3, m3, n3⟩ := hA x hm (by omega) (o ++ x.Vars) (by simp; omega)
    simp only [List.length_append] at n3
    refine ⟨o3, ?_, trivial, fun s => ?_, by omega⟩
    · show M.impl_boundExp_L2 (e.Alts, _, (i : Int), o) = _
      rw [M.e_impl_boundExp_L2]
      simp only [hi, decide_true, cond_true, hix, Option.bind_some, gd_t (show o.length + x.Vars.length ≤ grow by omega), e3, hw]
    · rw [m3]
      simp only [List.mem_append]
      grind) (fun o => by
    show M.impl_boundExp_L2 (e.Alts, _, (e.Alts.length : Int), o) = _
    rw [M.e_impl_boundExp_L2]
    simp) o2 trivial (by rw [sumC_lin]; omega)
  rw [sumC_lin] at n3
  refine ⟨o3, ?_, fun s => ?_, by omega⟩
  · rw [M.e_impl_boundExp, e0]
    simp only [Option.bind_some, e1, e2, e3]
  · rw [m3, m2, m1, m0, BE_iff]
    grind

theorem im_bound : ∀ d : Dec, ImBD d := Dec.ind (M0 := fun a => ImB a.E) (M1 := ImBD) (M2 := ImB) (fun a h => h) (fun d h hw => imBD_of h hw) (fun e hL hD hA => imB_of hL hD hA)

theorem im_clone {l : List ByteArray} (hl : l.length ≤ grow) : M.slices_Clone_string l = some l := by
  rw [M.e_slices_Clone_string, gd_t hl]
  cases l with
  | nil => simp [meet_self]
  | cons x l => rfl

def ImU (e : Exp) : Prop := e.cost ≤ 1048576 → ∀ out : List ByteArray, out.length + (3 * e.cost + 1) ≤ 12000000 → ∃ out', M.impl_varsExp (e, out) = some out' ∧ (∀ s, s ∈ out' ↔ s ∈ out ∨ UE s e) ∧ out'.length ≤ out.length + (3 * e.cost + 1)
def ImUW (l : List Dec) : Prop := l.length + sumC Dec.cost l ≤ 1048576 → ∀ out : List ByteArray, out.length + (3 * (l.length + sumC Dec.cost l)) ≤ 12000000 → ∃ ds out', M.impl_mappedDecs_at_varsExp_1 (l, out) = some (ds, out') ∧ (∀ s, s ∈ out' ↔ s ∈ out ∨ ∃ d ∈ l, UD s d) ∧ out'.length ≤ out.length + (3 * (l.length + sumC Dec.cost l))
def ImNW (l : List Dec) : Prop := l.length + sumC Dec.cost l ≤ 1048576 → ∀ out : List ByteArray, out.length + (3 * (l.length + sumC Dec.cost l)) ≤ 12000000 → ∃ ds out', M.impl_mappedDecs_at_namesOfDecs_1 (l, out) = some (ds, out') ∧ (∀ s, s ∈ out' ↔ s ∈ out ∨ ∃ d ∈ l, UD s d) ∧ out'.length ≤ out.length + (3 * (l.length + sumC Dec.cost l))

theorem imUW_of {l : List Dec} (h : ∀ d ∈ l, ImU d.E ∧ ImUW d.Where) : ImUW l := by
  intro hc out ho
  have hlim : lim = 140737488355328 := rfl
  have hgr : grow = 549755813888 := rfl
  obtain ⟨⟨o, acc⟩, e1, i1, m1, n1⟩ := accB (l := l) (by omega) (fun s d => UD s d) (fun b : List ByteArray × List Dec => b.1) (fun b i => b.2.length = i) 12000000 (fun d => 3 * d.cost + 3) (L := fun b i => M.impl_mappedDecs_at_varsExp_1_L0 (l, (l.length : Int), i, b.1, b.2)) (fun b => b) (fun i x b hx hm hil hix hi hw hI ho => by
    obtain ⟨c1, c2, c3⟩ := dec_lt hm hc
    have hcx := sumC_mem (c := Dec.cost) hm
    have hco := Dec.cost_eq x
    obtain ⟨o2, e2, m2, n2⟩ := (h x hm).1 c1 b.1 (by omega)
    obtain ⟨ds, o3, e3, m3, n3⟩ := (h x hm).2 c2 o2 (by omega)
    refine ⟨(o3, b.2 ++ [Dec.mk x.Name x.Pars (Exp.mk x.E.K x.E.S x.E.N x.E.L x.E.Decs x.E.Alts) ds]), ?_, by simp [hI], fun s => ?_, by show o3.length ≤ _; omega⟩
    · show M.impl_mappedDecs_at_varsExp_1_L0 (l, _, (i : Int), b.1, b.2) = _
      rw [M.e_impl_mappedDecs_at_varsExp_1_L0]
      simp only [hi, decide_true, cond_true, hix, Option.bind_some, im_clone (l := x.Pars) (by omega), M.e_impl_varsExp_1, e2, e3, gd_t (show b.2.length + [Dec.mk x.Name x.Pars (Exp.mk x.E.K x.E.S x.E.N x.E.L x.E.Decs x.E.Alts) ds].length ≤ grow by simp; omega), hw]
    · show s ∈ o3 ↔ _
      rw [m3, m2, UD_iff]
      grind) (fun b => by
    show M.impl_mappedDecs_at_varsExp_1_L0 (l, _, (l.length : Int), b.1, b.2) = _
    rw [M.e_impl_mappedDecs_at_varsExp_1_L0]
    simp) (out, []) rfl (by rw [sumC_lin]; show out.length + _ ≤ _; omega)
  rw [sumC_lin] at n1
  refine ⟨acc, o, ?_, m1, by have : o.length ≤ out.length + (3 * sumC Dec.cost l + 3 * l.length) := n1; omega⟩
  rw [M.e_impl_mappedDecs_at_varsExp_1]
  have e1' : M.impl_mappedDecs_at_varsExp_1_L0 (l, (l.length : Int), 0, out, []) = some (o, acc) := e1
  simp only [e1', Option.bind_some]

theorem imU_of {e : Exp} (hL : ∀ x ∈ e.L, ImU x) (hD : ImUW e.Decs) (hA : ∀ a ∈ e.Alts, ImU a.E) : ImU e := by
  intro hc out ho
  have hlim : lim = 140737488355328 := rfl
  have hgr : grow = 549755813888 := rfl
  have hco := Exp.cost_eq e
  have start : ∃ o, (bif decide (e.K = 1) then ((gd (out.length + [e.S].length ≤ grow)).bind fun _ => some ((out ++ [e.S]), e)) else some (out, e)) = some (o, e) ∧ (∀ s, s ∈ o ↔ s ∈ out ∨ (e.K = 1 ∧ s = e.S)) ∧ o.length ≤ out.length + 1 := by
    by_cases k : e.K = 1
    · refine ⟨out ++ [e.S], ?_, fun s => by simp [k], by simp⟩
      simp only [k, decide_true, cond_true, gd_t (show out.length + [e.S].length ≤ grow by simp; omega), Option.bind_some]
    · exact ⟨out, by simp [k], by simp [k], by omega⟩
  obtain ⟨o0, e0, m0, n0⟩ := start
  obtain ⟨⟨o1, acc1⟩, e1, _, m1, n1⟩ := accB (l := e.L) (by omega) (fun s x => UE s x) (fun b : List ByteArray × List Exp => b.1) (fun b i => b.2.length = i) 12000000 (fun x => 3 * x.cost + 1)
    (L := fun b i => M.impl_mapped_at_varsExp_1_L0 (e.L, (e.L.length : Int), i, b.1, e, (Exp.mk 0 (⟨⟨[]⟩⟩ : ByteArray) 0 [] [] []), e.K, e.S, e.N, [], b.2, [])) (fun b => (b.1, e, (Exp.mk 0 (⟨⟨[]⟩⟩ : ByteArray) 0 [] [] []), e.K, e.S, e.N, [], b.2, [])) (fun i x b hx hm hil hix hi hw hI ho => by
    have hcx := sumC_mem (c := Exp.cost) hm
    obtain ⟨o3, e3, m3, n3⟩ := hL x hm (by omega) b.1 (by omega)
    refine ⟨(o3, b.2 ++ [x]), ?_, by simp [hI], fun s => by show s ∈ o3 ↔ _; rw [m3], by show o3.length ≤ _; omega⟩
    show M.impl_mapped_at_varsExp_1_L0 (e.L, _, (i : Int), b.1, e, _, _, _, _, _, b.2, _) = _
    rw [M.e_impl_mapped_at_varsExp_1_L0]
    simp only [hi, decide_true, cond_true, hix, Option.bind_some, M.e_impl_varsExp_1, e3, gd_t (show b.2.length + [x].length ≤ grow by simp; omega), hw]) (fun b => by
    show M.impl_mapped_at_varsExp_1_L0 (e.L, _, (e.L.length : Int), b.1, e, _, _, _, _, _, b.2, _) = _
    rw [M.e_impl_mapped_at_varsExp_1_L0]
    simp) (o0, []) rfl (by rw [sumC_lin]; show o0.length + _ ≤ _; omega)
  rw [sumC_lin] at n1
  replace n1 : o1.length ≤ o0.length + (3 * sumC Exp.cost e.L + 1 * e.L.length) := n1
  obtain ⟨ds, o2, e2, m2, n2⟩ := hD (by omega) o1 (by omega)
  obtain ⟨⟨o3, acc3⟩, e3, _, m3, n3⟩ := accB (l := e.Alts) (by omega) (fun s a => UE s a.E) (fun b : List ByteArray × List Alt => b.1) (fun b i => b.2.length = i) 12000000 (fun x => 3 * x.cost + 1)
    (L := fun b i => M.impl_mapped_at_varsExp_1_L1 (e.Alts, (e.Alts.length : Int), i, b.1, (Exp.mk 0 (⟨⟨[]⟩⟩ : ByteArray) 0 [] [] []), e.K, e.S, e.N, ds, acc1, b.2)) (fun b => (b.1, (Exp.mk 0 (⟨⟨[]⟩⟩ : ByteArray) 0 [] [] []), e.K, e.S, e.N, ds, acc1, b.2)) (fun i x b hx hm hil hix hi hw hI ho => by
    have hcx := sumC_mem (c := Alt.cost) hm
    have hcy := Alt.cost_eq x
    obtain ⟨o3, e3, m3, n3⟩ := hA x hm (by omega) b.1 (by omega)
    refine ⟨(o3, b.2 ++ [Alt.mk x.Great x.Vars (Exp.mk x.E.K x.E.S x.E.N x.E.L x.E.Decs x.E.Alts)]), ?_, by simp [hI], fun s => by show s ∈ o3 ↔ _; rw [m3], by show o3.length ≤ _; omega⟩
    show M.impl_mapped_at_varsExp_1_L1 (e.Alts, _, (i : Int), b.1, _, _, _, _, _, _, b.2) = _
    rw [M.e_impl_mapped_at_varsExp_1_L1]
    simp only [hi, decide_true, cond_true, hix, Option.bind_some, im_clone (l := x.Vars) (by omega), M.e_impl_varsExp_1, e3, gd_t (show b.2.length + [Alt.mk x.Great x.Vars (Exp.mk x.E.K x.E.S x.E.N x.E.L x.E.Decs x.E.Alts)].length ≤ grow by simp; omega), hw]) (fun b => by
    show M.impl_mapped_at_varsExp_1_L1 (e.Alts, _, (e.Alts.length : Int), b.1, _, _, _, _, _, _, b.2) = _
    rw [M.e_impl_mapped_at_varsExp_1_L1]
    simp) (o2, []) rfl (by rw [sumC_lin]; show o2.length + _ ≤ _; omega)
  rw [sumC_lin] at n3
  replace n3 : o3.length ≤ o2.length + (3 * sumC Alt.cost e.Alts + 1 * e.Alts.length) := n3
  have e1' : M.impl_mapped_at_varsExp_1_L0 (e.L, (e.L.length : Int), 0, o0, e, (Exp.mk 0 (⟨⟨[]⟩⟩ : ByteArray) 0 [] [] []), e.K, e.S, e.N, [], [], []) = _ := e1
  have e3' : M.impl_mapped_at_varsExp_1_L1 (e.Alts, (e.Alts.length : Int), 0, o2, (Exp.mk 0 (⟨⟨[]⟩⟩ : ByteArray) 0 [] [] []), e.K, e.S, e.N, ds, acc1, []) = _ := e3
  refine ⟨o3, ?_, fun s => ?_, by omega⟩
  · rw [M.e_impl_varsExp, e0]
    simp only [Option.bind_some]
    rw [M.e_impl_mapped_at_varsExp_1]
    simp only [e1', Option.bind_some, e2, e3']
  · have m1' : s ∈ o1 ↔ s ∈ o0 ∨ ∃ x ∈ e.L, UE s x := m1 s
    have m3' : s ∈ o3 ↔ s ∈ o2 ∨ ∃ x ∈ e.Alts, UE s x.E := m3 s
    rw [m3', m2, m1', m0, UE_iff]
    grind

theorem im_used : ∀ d : Dec, ImU d.E ∧ ImUW d.Where := Dec.ind (M0 := fun a => ImU a.E) (M1 := fun d => ImU d.E ∧ ImUW d.Where) (M2 := ImU)
    (fun a h => h) (fun d h hw => ⟨h, imUW_of hw⟩) (fun e hL hD hA => imU_of hL (imUW_of hD) hA)

theorem imNW_of {l : List Dec} (h : ∀ d ∈ l, ImU d.E ∧ ImNW d.Where) : ImNW l := by
  intro hc out ho
  have hlim : lim = 140737488355328 := rfl
  have hgr : grow = 549755813888 := rfl
  obtain ⟨⟨o, acc⟩, e1, i1, m1, n1⟩ := accB (l := l) (by omega) (fun s d => UD s d) (fun b : List ByteArray × List Dec => b.1) (fun b i => b.2.length = i) 12000000 (fun d => 3 * d.cost + 3) (L := fun b i => M.impl_mappedDecs_at_namesOfDecs_1_L0 (l, (l.length : Int), i, b.1, b.2)) (fun b => b) (fun i x b hx hm hil hix hi hw hI ho => by
    obtain ⟨c1, c2, c3⟩ := dec_lt hm hc
    have hcx := sumC_mem (c := Dec.cost) hm
    have hco := Dec.cost_eq x
    obtain ⟨o2, e2, m2, n2⟩ := (h x hm).1 c1 b.1 (by omega)
    obtain ⟨ds, o3, e3, m3, n3⟩ := (h x hm).2 c2 o2 (by omega)
    refine ⟨(o3, b.2 ++ [Dec.mk x.Name x.Pars (Exp.mk x.E.K x.E.S x.E.N x.E.L x.E.Decs x.E.Alts) ds]), ?_, by simp [hI], fun s => ?_, by show o3.length ≤ _; omega⟩
    · show M.impl_mappedDecs_at_namesOfDecs_1_L0 (l, _, (i : Int), b.1, b.2) = _
      rw [M.e_impl_mappedDecs_at_namesOfDecs_1_L0]
      simp only [hi, decide_true, cond_true, hix, Option.bind_some, im_clone (l := x.Pars) (by omega), M.e_impl_namesOfDecs_1, e2, e3, gd_t (show b.2.length + [Dec.mk x.Name x.Pars (Exp.mk x.E.K x.E.S x.E.N x.E.L x.E.Decs x.E.Alts) ds].length ≤ grow by simp; omega), hw]
    · show s ∈ o3 ↔ _
      rw [m3, m2, UD_iff]
      grind) (fun b => by
    show M.impl_mappedDecs_at_namesOfDecs_1_L0 (l, _, (l.length : Int), b.1, b.2) = _
    rw [M.e_impl_mappedDecs_at_namesOfDecs_1_L0]
    simp) (out, []) rfl (by rw [sumC_lin]; show out.length + _ ≤ _; omega)
  rw [sumC_lin] at n1
  refine ⟨acc, o, ?_, m1, by have : o.length ≤ out.length + (3 * sumC Dec.cost l + 3 * l.length) := n1; omega⟩
  rw [M.e_impl_mappedDecs_at_namesOfDecs_1]
  have e1' : M.impl_mappedDecs_at_namesOfDecs_1_L0 (l, (l.length : Int), 0, out, []) = some (o, acc) := e1
  simp only [e1', Option.bind_some]
theorem im_nused : ∀ l : List Dec, ImNW l := by
  have main : ∀ d : Dec, ImU d.E ∧ ImNW d.Where := Dec.ind (M0 := fun _ => True) (M1 := fun d => ImU d.E ∧ ImNW d.Where) (M2 := fun _ => True)
    (fun a h => trivial) (fun d h hw => ⟨(im_used d).1, imNW_of hw⟩) (fun e hL hD hA => trivial)
  exact fun l => imNW_of fun d _ => main d
end Q
end W
end
section
/- Sorted, each once, without the sign for nothing; both find the same. -/
namespace W
set_option linter.unusedVariables false
set_option maxRecDepth 100000
set_option maxHeartbeats 1000000
namespace Q
open Go HL HL.X

theorem compact_inv (zs : List (List UInt8)) (hs : zs.Pairwise (· ≤ ·)) : ∀ m, m ≤ zs.length → (Lib.compactUpTo zs.toArray m).Pairwise (· < ·) ∧ (∀ s, s ∈ Lib.compactUpTo zs.toArray m ↔ s ∈ zs.take m) ∧ (Lib.compactUpTo zs.toArray m).length ≤ m := by
  intro m
  induction m with
  | zero => intro _; simp [Lib.compactUpTo]
  | succ m ih =>
    intro hm
    obtain ⟨h1, h2, h3⟩ := ih (by omega)
    have hlt : m < zs.length := by omega
    have e : zs.toArray[m]! = zs[m] := by rw [getElem!_pos zs.toArray m (by simpa using hlt)]; simp
    have ht : zs.take (m + 1) = zs.take m ++ [zs[m]] := by rw [List.take_add_one, List.getElem?_eq_getElem hlt]; rfl
    rw [Lib.compactUpTo_succ, ht, e]
    by_cases k : Lib.keeps zs.toArray m = true
    · rw [if_pos k]
      refine ⟨List.pairwise_append.2 ⟨h1, List.pairwise_singleton _ _, fun a ha b hb => ?_⟩, fun s => by simp only [List.mem_append, h2], by simp; omega⟩
      simp only [List.mem_singleton] at hb
      subst hb
      have ha' := (h2 a).1 ha
      obtain ⟨j, hj, rfl⟩ := List.getElem_of_mem ha'
      simp only [List.length_take] at hj
      rw [List.getElem_take]
      have hm0 : 0 < m := by omega
      have kk : ¬ m = 0 := by omega
      unfold Lib.keeps at k
      have k' := (of_decide_eq_true k).resolve_left kk
      have e2 : zs.toArray[m - 1]! = zs[m - 1]'(by omega) := by rw [getElem!_pos zs.toArray (m - 1) (by simp; omega)]; simp
      rw [e, e2] at k'
      have hpw := List.pairwise_iff_getElem.1 hs
      have l1 : zs[m - 1]'(by omega) < zs[m] := Std.lt_of_le_of_ne (hpw (m - 1) m (by omega) hlt (by omega)) fun q => k' q.symm
      rcases Nat.lt_or_ge j (m - 1) with q | q
      · exact Std.lt_of_le_of_lt (hpw j (m - 1) (by omega) (by omega) q) l1
      · have : j = m - 1 := by omega
        subst this
        exact l1
    · rw [if_neg k, List.append_nil]
      refine ⟨h1, fun s => ?_, by omega⟩
      rw [h2, List.mem_append]
      refine ⟨.inl, fun q => q.elim id fun q => ?_⟩
      simp only [List.mem_singleton] at q
      subst q
      unfold Lib.keeps at k
      have k : ¬ (m = 0 ∨ zs.toArray[m]! ≠ zs.toArray[m - 1]!) := fun q => k (decide_eq_true q)
      have j0 : m ≠ 0 := fun q => k (.inl q)
      have e2 : zs.toArray[m]! = zs.toArray[m - 1]! := Classical.byContradiction fun q => k (.inr q)
      have e3 : zs.toArray[m - 1]! = zs[m - 1]'(by omega) := by rw [getElem!_pos zs.toArray (m - 1) (by simp; omega)]; simp
      rw [← e, e2, e3]
      exact List.mem_take_iff_getElem.2 ⟨m - 1, by omega, rfl⟩

theorem sorted_found (l : List ByteArray) : Asc (sortedB l) ∧ (∀ s, s ∈ sortedB l ↔ s ∈ l) ∧ (sortedB l).length ≤ l.length := by
  have hp : (sortB l).Pairwise (· ≤ ·) := by
    have := List.pairwise_mergeSort (le := fun x y : List UInt8 => decide (x ≤ y)) (fun a b c h1 h2 => by simpa using Std.le_trans (of_decide_eq_true h1) (of_decide_eq_true h2)) (fun a b => by simpa using Std.le_total (a := a) (b := b)) (bytesL l)
    exact this.imp fun h => of_decide_eq_true h
  obtain ⟨h1, h2, h3⟩ := compact_inv (sortB l) hp (sortB l).length (Nat.le_refl _)
  have hlen : (sortB l).length = l.length := by unfold sortB; rw [List.length_mergeSort]; simp [bytesL]
  refine ⟨?_, fun s => ?_, ?_⟩
  · unfold Asc sortedB strsL
    rw [List.pairwise_map]
    exact h1.imp fun h => by simpa [kl] using h
  · unfold sortedB strsL
    rw [List.mem_map]
    have h2' : ∀ z, z ∈ Lib.compact (sortB l) ↔ z ∈ bytesL l := fun z => by
      have := h2 z
      rw [List.take_length] at this
      rw [show Lib.compact (sortB l) = Lib.compactUpTo (sortB l).toArray (sortB l).length from rfl, this]
      unfold sortB
      rw [List.mem_mergeSort]
    constructor
    · rintro ⟨z, hz, rfl⟩
      have := (h2' z).1 hz
      unfold bytesL at this
      rw [List.mem_map] at this
      obtain ⟨t, ht, rfl⟩ := this
      simpa using ht
    · intro h
      exact ⟨s.data.toList, (h2' _).2 (List.mem_map.2 ⟨s, h, rfl⟩), by simp⟩
  · unfold sortedB strsL
    rw [List.length_map, ← hlen]
    exact h3

theorem gdT : gd True = some () := gd_t trivial
theorem named1 (x : ByteArray) : M.impl_named_1 x = some (decide (x = under)) := M.e_impl_named_1 x

theorem im_index {l : List ByteArray} (hl : l.length ≤ 12000000) : (under ∉ l ∧ M.slices_IndexFunc_string_at_named_1 l = some (-1)) ∨ ∃ i : Nat, i < l.length ∧ under ∉ l.take i ∧ l[i]? = some under ∧ M.slices_IndexFunc_string_at_named_1 l = some (i : Int) := by
  have hlim : lim = 140737488355328 := rfl
  have key : ∀ (k i : Nat), i + k = l.length → under ∉ l.take i → (under ∉ l ∧ M.slices_IndexFunc_string_at_named_1_L0 ((l.length : Int), (i : Int), l) = some (.inr ())) ∨ ∃ j : Nat, j < l.length ∧ under ∉ l.take j ∧ l[j]? = some under ∧ M.slices_IndexFunc_string_at_named_1_L0 ((l.length : Int), (i : Int), l) = some (.inl (j : Int)) := by
    intro k
    induction k with
    | zero =>
      intro i h hn
      left
      have e : i = l.length := by omega
      subst e
      rw [List.take_length] at hn
      refine ⟨hn, ?_⟩
      rw [M.e_slices_IndexFunc_string_at_named_1_L0]
      simp
    | succ k ih =>
      intro i h hn
      have hlt : i < l.length := by omega
      have hi := List.getElem?_eq_getElem hlt
      have hstep : M.slices_IndexFunc_string_at_named_1_L0 ((l.length : Int), (i : Int), l) = bif decide (l[i] = under) then some (.inl (i : Int)) else M.slices_IndexFunc_string_at_named_1_L0 ((l.length : Int), ((i + 1 : Nat) : Int), l) := by
        rw [M.e_slices_IndexFunc_string_at_named_1_L0]
        simp only [show (i : Int) < (l.length : Int) by omega, decide_true, cond_true, gd_t (show (0 : Int) ≤ (i : Int) by omega), Option.bind_some, gdT, Int.toNat_natCast, hi, named1, wrap_succ hlt (by omega)]
      rw [hstep]
      by_cases q : l[i] = under
      · right
        rw [decide_eq_true q]
        exact ⟨i, hlt, hn, by rw [hi, q], rfl⟩
      · rw [decide_eq_false q]
        refine ih (i + 1) (by omega) ?_
        rw [List.take_add_one, hi]
        simp only [Option.toList_some, List.mem_append, List.mem_singleton]
        exact fun r => r.elim hn fun r => q r.symm
  rcases key l.length 0 (by omega) (by simp) with ⟨h1, h2⟩ | ⟨j, h1, h2, h3, h4⟩
  · left
    refine ⟨h1, ?_⟩
    rw [M.e_slices_IndexFunc_string_at_named_1]
    have h2' : M.slices_IndexFunc_string_at_named_1_L0 ((l.length : Int), 0, l) = _ := h2
    rw [h2']; rfl
  · right
    refine ⟨j, h1, h2, h3, ?_⟩
    rw [M.e_slices_IndexFunc_string_at_named_1]
    have h4' : M.slices_IndexFunc_string_at_named_1_L0 ((l.length : Int), 0, l) = _ := h4
    rw [h4']; rfl

def keepU (l : List ByteArray) : List ByteArray := l.filter fun s => decide (¬ s = under)

theorem im_delete {l : List ByteArray} (hl : l.length ≤ 12000000) : M.slices_DeleteFunc_string_at_named_1 l = some (keepU l) := by
  have hlim : lim = 140737488355328 := rfl
  have none_under : ∀ {m : List ByteArray}, under ∉ m → keepU m = m := fun {m} h => by
    unfold keepU
    rw [List.filter_eq_self]
    intro a ha
    simp only [decide_eq_true_eq]
    exact fun q => h (q ▸ ha)
  rw [M.e_slices_DeleteFunc_string_at_named_1]
  rcases im_index hl with ⟨h1, h2⟩ | ⟨i0, h1, h2, h3, h4⟩
  · simp only [h2, Option.bind_some, decide_true, cond_true]
    rw [none_under h1]
  · have key : ∀ (n j k : Nat) (l' : List ByteArray), j + n = l.length → k ≤ j → l'.length = l.length → l'.take k = keepU (l.take j) → k < j → l'.drop j = l.drop j → ∃ (k' : Nat) (l2 : List ByteArray), M.slices_DeleteFunc_string_at_named_1_L0 ((k : Int), (j : Int), l') = some ((k' : Int), l2) ∧ k' ≤ l2.length ∧ l2.take k' = keepU l := by
      intro n
      induction n with
      | zero =>
        intro j k l' e hk hlen ht _ _
        have e : j = l.length := by omega
        subst e
        rw [List.take_length] at ht
        refine ⟨k, l', ?_, by omega, ht⟩
        rw [M.e_slices_DeleteFunc_string_at_named_1_L0]
        simp [hlen]
      | succ n ih =>
        intro j k l' e hk hlen ht hkj hd
        have hlt : j < l'.length := by omega
        have hj := List.getElem?_eq_getElem hlt
        have hjl : l'[j] = l[j]'(by omega) := by
          have := congrArg (fun z => z[0]?) hd
          simp only [List.getElem?_drop, Nat.add_zero] at this
          rw [hj, List.getElem?_eq_getElem (by omega)] at this
          exact Option.some.inj this
        have hstep : M.slices_DeleteFunc_string_at_named_1_L0 ((k : Int), (j : Int), l') = bif (!decide (l'[j] = under)) then M.slices_DeleteFunc_string_at_named_1_L0 (((k + 1 : Nat) : Int), ((j + 1 : Nat) : Int), l'.set k l'[j]) else M.slices_DeleteFunc_string_at_named_1_L0 ((k : Int), ((j + 1 : Nat) : Int), l') := by
          rw [M.e_slices_DeleteFunc_string_at_named_1_L0]
          simp only [show (j : Int) < (l'.length : Int) by omega, decide_true, cond_true, gd_t (show (0 : Int) ≤ (j : Int) by omega), Option.bind_some, gdT, Int.toNat_natCast, hj, named1, wrap_succ hlt (by omega), wrap_succ (i := k) (n := l'.length) (by omega) (by omega), gd_t (show (0 : Int) ≤ (k : Int) by omega), gd_t (show (k : Int) < (l'.length : Int) by omega)]
        have htk : l.take (j + 1) = l.take j ++ [l[j]'(by omega)] := by rw [List.take_add_one, List.getElem?_eq_getElem (by omega)]; rfl
        rw [hstep]
        by_cases q : l'[j] = under
        · rw [decide_eq_true q]
          refine ih (j + 1) k l' (by omega) (by omega) hlen ?_ (by omega) ?_
          · rw [htk, ht]
            unfold keepU
            rw [List.filter_append, ← hjl, q]
            simp
          · rw [← List.drop_drop, hd, List.drop_drop]
        · rw [decide_eq_false q]
          refine ih (j + 1) (k + 1) (l'.set k l'[j]) (by omega) (by omega) (by simp [hlen]) ?_ (by omega) ?_
          · rw [htk]
            unfold keepU at ht ⊢
            rw [List.filter_append, ← ht, ← hjl]
            simp only [List.filter_cons, q, not_false_eq_true, decide_true, ↓reduceIte, List.filter_nil]
            rw [List.take_add_one, List.take_set_of_le (Nat.le_refl _), List.getElem?_set_self (by omega)]
            rfl
          · rw [List.drop_set_of_lt (by omega), ← List.drop_drop, hd, List.drop_drop]
    have hk0 : l.take i0 = keepU (l.take (i0 + 1)) := by
      rw [List.take_add_one, h3]
      unfold keepU
      rw [List.filter_append]
      have := none_under h2
      unfold keepU at this
      rw [this]
      simp
    obtain ⟨k', l2, e1, e2, e3⟩ := key (l.length - (i0 + 1)) (i0 + 1) i0 l (by omega) (by omega) rfl hk0 (by omega) rfl
    have hne : ¬ ((i0 : Int) = -1) := by omega
    have hle : k' ≤ (l2.take k' ++ List.replicate (l2.length - k') (⟨⟨[]⟩⟩ : ByteArray)).length := by simp; omega
    simp only [h4, Option.bind_some, decide_eq_false hne, cond_false, wrap_succ h1 (show l.length ≤ lim by omega), e1, gd_t (show (0 : Int) ≤ (k' : Int) by omega), gd_t (show (k' : Int) ≤ (l2.length : Int) by omega), Int.toNat_natCast, gd_t (show (k' : Int) ≤ ((l2.take k' ++ List.replicate (l2.length - k') (⟨⟨[]⟩⟩ : ByteArray)).length : Int) by omega)]
    rw [List.take_append_of_le_length (by rw [List.length_take]; omega), List.take_take, Nat.min_self, e3]

theorem asc_filter {l : List ByteArray} (h : Asc l) : Asc (keepU l) := List.Pairwise.filter _ h

theorem im_named {l : List ByteArray} (hl : l.length ≤ 12000000) : ∃ r, M.impl_named l = some r ∧ Found r (fun s => s ∈ l) l.length := by
  obtain ⟨h1, h2, h3⟩ := sorted_found l
  refine ⟨keepU (sortedB l), ?_, asc_filter h1, fun s => ?_, Nat.le_trans (List.length_filter_le _ _) h3⟩
  · rw [M.e_impl_named, M.e_impl_sorted]
    simp only [Option.bind_some, im_delete (l := sortedB l) (by omega)]
  · unfold keepU
    rw [List.mem_filter, h2]
    simp

theorem im_names (p : Prog) (hc : p.cost ≤ 1048576) : ∃ r, M.impl_NamesOf p = some r ∧ Found r (fun s => (∃ d ∈ p.Decs, s = d.Name ∨ BD s d) ∨ ∃ d ∈ p.Decs, UD s d) 8000000 := by
  have hlim : lim = 140737488355328 := rfl
  have hgr : grow = 549755813888 := rfl
  have hco := Prog.cost_eq p
  obtain ⟨o1, e1, _, m1, n1⟩ := accA (l := p.Decs) (by omega) (fun s w => s = w.Name ∨ BD s w) (fun _ => True) 12000000 (fun w => 3 * w.cost + 3) (L := fun o i => M.impl_namesOfDecs_L0 (p.Decs, (p.Decs.length : Int), i, o)) (fun o => o) (fun i x o hx hm hix hi hw _ ho => by
    have hcx := sumC_mem (c := Dec.cost) hm
    obtain ⟨o3, e3, m3, n3⟩ := im_bound x (by omega) (o ++ [x.Name]) (by simp; omega)
    refine ⟨o3, ?_, trivial, fun s => ?_, by simp at n3; omega⟩
    · show M.impl_namesOfDecs_L0 (p.Decs, _, (i : Int), o) = _
      rw [M.e_impl_namesOfDecs_L0]
      simp only [hi, decide_true, cond_true, hix, Option.bind_some, gd_t (show o.length + [x.Name].length ≤ grow by simp; omega), e3, hw]
    · rw [m3]
      simp only [List.mem_append, List.mem_singleton]
      grind) (fun o => by
    show M.impl_namesOfDecs_L0 (p.Decs, _, (p.Decs.length : Int), o) = _
    rw [M.e_impl_namesOfDecs_L0]
    simp) [] trivial (by rw [sumC_lin]; simp; omega)
  rw [sumC_lin] at n1
  simp only [List.length_nil] at n1
  obtain ⟨ds, o2, e2, m2, n2⟩ := im_nused p.Decs (by omega) o1 (by omega)
  obtain ⟨r, e3, a3, m3, n3⟩ := im_named (l := o2) (by omega)
  refine ⟨r, ?_, a3, fun s => ?_, by omega⟩
  · rw [M.e_impl_NamesOf, M.e_impl_namesOfDecs]
    simp only [e1, Option.bind_some, e2, e3]
  · rw [m3]
    show (s ∈ o2 ∧ _) ↔ _
    rw [m2, m1]
    simp

/-- Both find the same. -/
theorem names_same (p : Prog) (hc : p.cost ≤ 1048576) : ∃ r, M.spec_NamesOf p = some r ∧ M.impl_NamesOf p = some r ∧ r.length ≤ 8000000 := by
  obtain ⟨r, e1, a1, m1, n1⟩ := sp_names p hc
  obtain ⟨r', e2, a2, m2, n2⟩ := im_names p hc
  have : r = r' := asc_ext a1 a2 fun s => by rw [m1, m2]
  subst this
  exact ⟨r, e1, e2, n1⟩
end Q
end W
end
section
/- Marks as texts; what is known of the library's functions. -/
namespace W
set_option linter.unusedVariables false
set_option maxRecDepth 100000
set_option maxHeartbeats 4000000
namespace Q
open Go HL HL.X HL.Y Go.RowKit

theorem bs1 (x : Int) : (bsOf [x]).size = 1 := rfl
theorem markText_L : ∀ (f : Nat) (n : Int) (acc : ByteArray), 0 ≤ n → n ≤ f → acc.size + f ≤ 1099511627776 → ∃ s, M.laws_markText_L0 (n, acc) = some s ∧ s.size ≤ 1099511627776 := by
  intro f
  induction f with
  | zero =>
    intro n acc h0 h1 h2
    have : n = 0 := by omega
    subst this
    exact ⟨acc, by rw [M.e_laws_markText_L0]; rfl, by omega⟩
  | succ f ih =>
    intro n acc h0 h1 h2
    by_cases hn : 0 < n
    · have hd : n.tdiv 10 ≤ f ∧ 0 ≤ n.tdiv 10 := by
        rw [Int.tdiv_eq_ediv_of_nonneg h0]; omega
      obtain ⟨s, e1, e2⟩ := ih (n.tdiv 10) (bsOf [IntKind.u8.wrap (IntKind.i64.wrap (48 + n.tmod 10))] ++ acc) hd.2 hd.1 (by rw [ByteArray.size_append, bs1]; omega)
      refine ⟨s, ?_, e2⟩
      have hlim : lim = 140737488355328 := rfl
      rw [M.e_laws_markText_L0]; simp only [cnd_dec]
      rw [if_pos hn, gd_t (by decide), Option.bind_some, gd_t (by rw [bs1]; omega), Option.bind_some, Option.bind_some, wrap_ok (a := n.tdiv 10) (by omega)]
      exact e1
    · have : n = 0 := by omega
      subst this
      exact ⟨acc, by rw [M.e_laws_markText_L0]; rfl, by omega⟩
theorem markText_some (n : Int) (h0 : 0 ≤ n) (h1 : n ≤ 549755813888) : ∃ s, M.laws_markText n = some s ∧ s.size ≤ lim := by
  have hlim : lim = 140737488355328 := rfl
  rw [M.e_laws_markText]; simp only [cnd_dec]
  by_cases hn : n ≤ 0
  · rw [if_pos hn]; exact ⟨_, rfl, by rw [hlim]; decide⟩
  · rw [if_neg hn]
    obtain ⟨s, e1, e2⟩ := markText_L n.toNat n ⟨#[]⟩ h0 (by omega) (by show 0 + _ ≤ _; omega)
    have e1' : M.laws_markText_L0 (n, (⟨⟨[]⟩⟩ : ByteArray)) = some s := e1
    have hm : (⟨⟨[109]⟩⟩ : ByteArray).size = 1 := rfl
    rw [e1', Option.bind_some, gd_t (by rw [hm]; omega), Option.bind_some]
    exact ⟨_, rfl, by rw [ByteArray.size_append, hm]; omega⟩

theorem ext_all : ∀ s ∈ tab, s.ext = none ∨ s = s_impl_sorted := by
  have e : tab = tab.take 45 ++ s_impl_sorted :: tab.drop 46 := by kernel_rfl
  have h1 : ((tab.take 45).all fun s => s.ext.isNone) = true := by kernel_rfl
  have h3 : ((tab.drop 46).all fun s => s.ext.isNone) = true := by kernel_rfl
  intro s hs
  rw [e] at hs
  rcases List.mem_append.1 hs with hs | hs
  · exact .inl (by simpa using List.all_eq_true.1 h1 s hs)
  rcases List.mem_cons.1 hs with hs | hs
  · exact .inr hs
  · exact .inl (by simpa using List.all_eq_true.1 h3 s hs)
theorem hext : ∀ s ∈ tab, ∀ f, s.ext = some f → ∀ x o, f x = some o → ClaimF P s x o := fun s hs f hf => by
  rcases ext_all s hs with h | h
  · rw [h] at hf; cases hf
  · subst h
    cases hf
    exact fun x o h => J.sorted_claim x o h
theorem noTab : Go.Proofs.Try.prog.globalNamed "internal/strconv.uint64pow10" = none := by kernel_rfl
end Q
end W
end
