/- Costs; inductions. -/
import Derived.Test.YtamneeogomklgaaGreatGE
import Derived.Test.YtamneeogomklgaaGreatHLP
import Derived.Test.YtamneeogomklgaaGreatGWeb
set_option linter.unusedSimpArgs false
set_option linter.unusedVariables false
set_option linter.unusedSectionVars false
section
namespace W
open Go HL HL.X
set_option linter.unusedVariables false
set_option maxRecDepth 100000
set_option maxHeartbeats 4000000
namespace Q
def strOk (l : List ByteArray) : Prop := l.length ≤ lim ∧ ∀ s ∈ l, s.size ≤ lim
end Q
mutual
def Alt.small : Alt → Prop
  | ⟨Great_, Vars_, E_⟩ => Great_.size ≤ lim ∧ Q.strOk Vars_ ∧ Exp.small E_
def Alt.smallL : List Alt → Prop
  | [] => True
  | x :: l => x.small ∧ Alt.smallL l
def Dec.small : Dec → Prop
  | ⟨Name_, Pars_, E_, Where_⟩ => Name_.size ≤ lim ∧ Q.strOk Pars_ ∧ Exp.small E_ ∧ Where_.length ≤ lim ∧ Dec.smallL Where_
def Dec.smallL : List Dec → Prop
  | [] => True
  | x :: l => x.small ∧ Dec.smallL l
def Exp.small : Exp → Prop
  | ⟨K_, S_, N_, L_, Decs_, Alts_⟩ => S_.size ≤ lim ∧ L_.length ≤ lim ∧ Exp.smallL L_ ∧ Decs_.length ≤ lim ∧ Dec.smallL Decs_ ∧ Alts_.length ≤ lim ∧ Alt.smallL Alts_
def Exp.smallL : List Exp → Prop
  | [] => True
  | x :: l => x.small ∧ Exp.smallL l
end
theorem Alt.smallL_iff : ∀ {l : List Alt}, Alt.smallL l ↔ ∀ x ∈ l, x.small
  | [] => by simp [Alt.smallL]
  | x :: l => by simp [Alt.smallL, Alt.smallL_iff (l := l)]
theorem Alt.costL_eq : ∀ (l : List Alt), Alt.costL l = sumC Alt.cost l
  | [] => rfl
  | x :: l => by simp [Alt.costL, sumC, Alt.costL_eq l]
theorem Alt.cost_eq (t : Alt) : t.cost = t.Great.size + (t.Vars.length + sumC ByteArray.size t.Vars) + t.E.cost := by
  cases t; simp only [Alt.cost] <;> rfl
theorem Dec.smallL_iff : ∀ {l : List Dec}, Dec.smallL l ↔ ∀ x ∈ l, x.small
  | [] => by simp [Dec.smallL]
  | x :: l => by simp [Dec.smallL, Dec.smallL_iff (l := l)]
theorem Dec.costL_eq : ∀ (l : List Dec), Dec.costL l = sumC Dec.cost l
  | [] => rfl
  | x :: l => by simp [Dec.costL, sumC, Dec.costL_eq l]
theorem Dec.cost_eq (t : Dec) : t.cost = t.Name.size + (t.Pars.length + sumC ByteArray.size t.Pars) + t.E.cost + (t.Where.length + sumC Dec.cost t.Where) := by
  cases t; simp only [Dec.cost, Dec.costL_eq] <;> rfl
theorem Exp.smallL_iff : ∀ {l : List Exp}, Exp.smallL l ↔ ∀ x ∈ l, x.small
  | [] => by simp [Exp.smallL]
  | x :: l => by simp [Exp.smallL, Exp.smallL_iff (l := l)]
theorem Exp.costL_eq : ∀ (l : List Exp), Exp.costL l = sumC Exp.cost l
  | [] => rfl
  | x :: l => by simp [Exp.costL, sumC, Exp.costL_eq l]
theorem Exp.cost_eq (t : Exp) : t.cost = t.S.size + (t.L.length + sumC Exp.cost t.L) + (t.Decs.length + sumC Dec.cost t.Decs) + (t.Alts.length + sumC Alt.cost t.Alts) := by
  cases t; simp only [Exp.cost, Exp.costL_eq, Dec.costL_eq, Alt.costL_eq] <;> rfl
theorem Exp.eta (t : Exp) : Exp.mk t.K t.S t.N t.L t.Decs t.Alts = t := by cases t; rfl
mutual
theorem Alt.ind {M0 : Alt → Prop} {M1 : Dec → Prop} {M2 : Exp → Prop} (h0 : ∀ t : Alt, M2 t.E → M0 t) (h1 : ∀ t : Dec, M2 t.E → (∀ x ∈ t.Where, M1 x) → M1 t) (h2 : ∀ t : Exp, (∀ x ∈ t.L, M2 x) → (∀ x ∈ t.Decs, M1 x) → (∀ x ∈ t.Alts, M0 x) → M2 t) : ∀ t : Alt, M0 t
  | ⟨Great_, Vars_, E_⟩ => h0 _ (Exp.ind h0 h1 h2 E_)
theorem Alt.indL {M0 : Alt → Prop} {M1 : Dec → Prop} {M2 : Exp → Prop} (h0 : ∀ t : Alt, M2 t.E → M0 t) (h1 : ∀ t : Dec, M2 t.E → (∀ x ∈ t.Where, M1 x) → M1 t) (h2 : ∀ t : Exp, (∀ x ∈ t.L, M2 x) → (∀ x ∈ t.Decs, M1 x) → (∀ x ∈ t.Alts, M0 x) → M2 t) : ∀ l : List Alt, ∀ x ∈ l, M0 x
  | [] => fun x hx => by cases hx
  | y :: l => fun x hx => (List.mem_cons.1 hx).elim (fun e => e ▸ Alt.ind h0 h1 h2 y) (fun h => Alt.indL h0 h1 h2 l x h)
theorem Dec.ind {M0 : Alt → Prop} {M1 : Dec → Prop} {M2 : Exp → Prop} (h0 : ∀ t : Alt, M2 t.E → M0 t) (h1 : ∀ t : Dec, M2 t.E → (∀ x ∈ t.Where, M1 x) → M1 t) (h2 : ∀ t : Exp, (∀ x ∈ t.L, M2 x) → (∀ x ∈ t.Decs, M1 x) → (∀ x ∈ t.Alts, M0 x) → M2 t) : ∀ t : Dec, M1 t
  | ⟨Name_, Pars_, E_, Where_⟩ => h1 _ (Exp.ind h0 h1 h2 E_) (Dec.indL h0 h1 h2 Where_)
theorem Dec.indL {M0 : Alt → Prop} {M1 : Dec → Prop} {M2 : Exp → Prop} (h0 : ∀ t : Alt, M2 t.E → M0 t) (h1 : ∀ t : Dec, M2 t.E → (∀ x ∈ t.Where, M1 x) → M1 t) (h2 : ∀ t : Exp, (∀ x ∈ t.L, M2 x) → (∀ x ∈ t.Decs, M1 x) → (∀ x ∈ t.Alts, M0 x) → M2 t) : ∀ l : List Dec, ∀ x ∈ l, M1 x
  | [] => fun x hx => by cases hx
  | y :: l => fun x hx => (List.mem_cons.1 hx).elim (fun e => e ▸ Dec.ind h0 h1 h2 y) (fun h => Dec.indL h0 h1 h2 l x h)
theorem Exp.ind {M0 : Alt → Prop} {M1 : Dec → Prop} {M2 : Exp → Prop} (h0 : ∀ t : Alt, M2 t.E → M0 t) (h1 : ∀ t : Dec, M2 t.E → (∀ x ∈ t.Where, M1 x) → M1 t) (h2 : ∀ t : Exp, (∀ x ∈ t.L, M2 x) → (∀ x ∈ t.Decs, M1 x) → (∀ x ∈ t.Alts, M0 x) → M2 t) : ∀ t : Exp, M2 t
  | ⟨K_, S_, N_, L_, Decs_, Alts_⟩ => h2 _ (Exp.indL h0 h1 h2 L_) (Dec.indL h0 h1 h2 Decs_) (Alt.indL h0 h1 h2 Alts_)
theorem Exp.indL {M0 : Alt → Prop} {M1 : Dec → Prop} {M2 : Exp → Prop} (h0 : ∀ t : Alt, M2 t.E → M0 t) (h1 : ∀ t : Dec, M2 t.E → (∀ x ∈ t.Where, M1 x) → M1 t) (h2 : ∀ t : Exp, (∀ x ∈ t.L, M2 x) → (∀ x ∈ t.Decs, M1 x) → (∀ x ∈ t.Alts, M0 x) → M2 t) : ∀ l : List Exp, ∀ x ∈ l, M2 x
  | [] => fun x hx => by cases hx
  | y :: l => fun x hx => (List.mem_cons.1 hx).elim (fun e => e ▸ Exp.ind h0 h1 h2 y) (fun h => Exp.indL h0 h1 h2 l x h)
end
end W
end
section
namespace W
set_option linter.unusedVariables false
set_option maxRecDepth 100000
set_option maxHeartbeats 1000000
namespace Q
open Go HL HL.X
open Classical in
theorem stopL {γ : Type} {n : Nat} (hn : n ≤ lim) {L : Int → Option γ} (q : Nat → Prop) (bad good : Option γ)
    (hL : ∀ i : Nat, i < n → IntKind.i64.wrap ((i : Int) + 1) = ((i + 1 : Nat) : Int) → L i = if q i then L ((i + 1 : Nat) : Int) else bad) (hend : L (n : Nat) = good) : L 0 = if ∀ m, m < n → q m then good else bad := by
  have key : ∀ (k i : Nat), i + k = n → (∀ m, m < i → q m) → L i = if ∀ m, m < n → q m then good else bad := by
    intro k
    induction k with
    | zero =>
      intro i h hq
      have : i = n := by omega
      subst this
      rw [hend, if_pos hq]
    | succ k ih =>
      intro i h hq
      rw [hL i (by omega) (wrap_succ (n := n) (by omega) hn)]
      by_cases a : q i
      · rw [if_pos a]
        refine ih (i + 1) (by omega) fun m hm => ?_
        by_cases e : m = i
        · subst e; exact a
        · exact hq m (by omega)
      · rw [if_neg a, if_neg (fun h' => a (h' i (by omega)))]
  exact key n 0 (by omega) (fun m hm => by omega)
open Classical in
theorem allL {α γ : Type} {l : List α} (hl : l.length ≤ lim) {L : Int → Option γ} (q : α → Prop) (bad good : Option γ)
    (hL : ∀ (i : Nat) (x : α), l[i]? = some x → x ∈ l → ix l (i : Int) = some x → (i : Int) < (l.length : Int) → IntKind.i64.wrap ((i : Int) + 1) = ((i + 1 : Nat) : Int) → L i = if q x then L ((i + 1 : Nat) : Int) else bad)
    (hend : L (l.length : Nat) = good) : L 0 = if ∀ x ∈ l, q x then good else bad := by
  have := stopL hl (L := L) (fun i => ∀ x, l[i]? = some x → q x) bad good (fun i hi hw => by
    have hx := List.getElem?_eq_getElem hi
    rw [hL i _ hx (List.getElem_mem hi) (ix_of hx) (by omega) hw]
    by_cases a : q l[i]
    · rw [if_pos a, if_pos]
      intro x hx'
      rw [hx] at hx'
      cases hx'
      exact a
    · rw [if_neg a, if_neg]
      intro h
      exact a (h _ hx)) hend
  rw [this]
  congr 1
  refine propext ⟨fun h x hx => ?_, fun h m hm x hx => h x (List.mem_of_getElem? hx)⟩
  obtain ⟨i, hi⟩ := List.getElem?_of_mem hx
  exact h i (List.getElem?_eq_some_iff.1 hi).1 x hi
open Classical in
theorem sp_has {l : List ByteArray} (hl : l.length ≤ lim) (x : ByteArray) : M.spec_l1Has (l, x) = some (decide (x ∈ l)) := by
  have h : M.spec_l1Has_L0 (l, x, 0) = _ := allL hl (L := fun i => M.spec_l1Has_L0 (l, x, i)) (fun y => y ≠ x) (some (.inl true)) (some (.inr ())) (fun i y hy hm hix hi hw => by
    show M.spec_l1Has_L0 (l, x, (i : Int)) = _
    rw [M.e_spec_l1Has_L0]
    simp only [hi, decide_true, cond_true, hix, Option.bind_some, hw]
    by_cases a : y = x <;> simp [a]) (by
    show M.spec_l1Has_L0 (l, x, _) = _
    rw [M.e_spec_l1Has_L0]
    simp)
  rw [M.e_spec_l1Has, h]
  by_cases a : x ∈ l
  · rw [if_neg (fun h => h x a rfl)]
    simp [a]
  · rw [if_pos (fun y hy (e : y = x) => a (by rw [← e]; exact hy))]
    simp [a]
noncomputable def dc (p : Prop) : Bool := @decide p (Classical.propDecidable p)
theorem dc_t {p : Prop} (h : p) : dc p = true := @decide_eq_true p (Classical.propDecidable p) h
theorem dc_f {p : Prop} (h : ¬ p) : dc p = false := @decide_eq_false p (Classical.propDecidable p) h
theorem dc_iff {p q : Prop} (h : p ↔ q) : dc p = dc q := by rw [propext h]
abbrev under : ByteArray := underB
def nm (l : List Dec) : List ByteArray := l.map Dec.Name
theorem nmB_nm (l : List Dec) : nmB l = nm l := rfl
mutual
def cE : Exp → Nat
  | .mk K S N L D A => 1 + cEs L + cAs A + (if K = 6 then cDs D else 0)
def cEs : List Exp → Nat
  | [] => 0
  | x :: l => cE x + cEs l
def cAs : List Alt → Nat
  | [] => 0
  | .mk G V E :: l => cE E + cAs l
def cD : Dec → Nat
  | .mk Nm Ps E Wh => cE E + cDs Wh
def cDs : List Dec → Nat
  | [] => 0
  | x :: l => cD x + cDs l
end
theorem cEs_eq : ∀ l, cEs l = sumC cE l
  | [] => by simp [cEs, sumC]
  | x :: l => by simp [cEs, sumC, cEs_eq l]
theorem cAs_eq : ∀ l, cAs l = sumC (fun a : Alt => cE a.E) l
  | [] => by simp [cAs, sumC]
  | .mk G V E :: l => by simp [cAs, sumC, cAs_eq l, Alt.E]
theorem cDs_eq : ∀ l, cDs l = sumC cD l
  | [] => by simp [cDs, sumC]
  | x :: l => by simp [cDs, sumC, cDs_eq l]
theorem cE_eq (e : Exp) : cE e = 1 + sumC cE e.L + sumC (fun a : Alt => cE a.E) e.Alts + (if e.K = 6 then sumC cD e.Decs else 0) := by
  cases e
  simp only [cE, cEs_eq, cAs_eq, cDs_eq, Exp.L, Exp.Alts, Exp.K, Exp.Decs] <;> rfl
theorem cD_eq (x : Dec) : cD x = cE x.E + sumC cD x.Where := by
  cases x
  simp only [cD, cDs_eq, Dec.E, Dec.Where]
theorem strOk_of {l : List ByteArray} (h : l.length + sumC ByteArray.size l ≤ 1048576) : strOk l := by
  have hlim : lim = 140737488355328 := rfl
  refine ⟨by omega, fun s hs => ?_⟩
  have := sumC_mem (c := ByteArray.size) hs
  omega
theorem szE {e : Exp} (h : e.cost ≤ 1048576) : e.S.size ≤ lim ∧ (e.L.length ≤ 1048576 ∧ ∀ x ∈ e.L, x.cost ≤ 1048576) ∧ (e.Decs.length ≤ 1048576 ∧ ∀ x ∈ e.Decs, x.cost ≤ 1048576) ∧ (e.Alts.length ≤ 1048576 ∧ ∀ x ∈ e.Alts, x.cost ≤ 1048576) := by
  have hc := Exp.cost_eq e
  have hlim : lim = 140737488355328 := rfl
  refine ⟨by omega, ⟨by omega, fun x hx => ?_⟩, ⟨by omega, fun x hx => ?_⟩, by omega, fun x hx => ?_⟩
  · have := sumC_mem (c := Exp.cost) hx; omega
  · have := sumC_mem (c := Dec.cost) hx; omega
  · have := sumC_mem (c := Alt.cost) hx; omega
theorem szA {a : Alt} (h : a.cost ≤ 1048576) : a.Great.size ≤ lim ∧ strOk a.Vars ∧ a.E.cost ≤ 1048576 := by
  have hc := Alt.cost_eq a
  have hlim : lim = 140737488355328 := rfl
  exact ⟨by omega, strOk_of (by omega), by omega⟩
theorem szD {x : Dec} (h : x.cost ≤ 1048576) : x.Name.size ≤ lim ∧ strOk x.Pars ∧ x.E.cost ≤ 1048576 ∧ x.Where.length ≤ 1048576 ∧ ∀ y ∈ x.Where, y.cost ≤ 1048576 := by
  have hc := Dec.cost_eq x
  have hlim : lim = 140737488355328 := rfl
  refine ⟨by omega, strOk_of (by omega), by omega, by omega, fun y hy => ?_⟩
  have := sumC_mem (c := Dec.cost) hy; omega
theorem memB_iff {s : ByteArray} {l : List ByteArray} : memB s l = true ↔ s ∈ l := by
  simp [memB, List.any_eq_true]
def FE (x : ByteArray) (e : Exp) : Prop := frE x e = true
def FD (x : ByteArray) (d : Dec) : Prop := frD x d = true
theorem frEs_iff {x} : ∀ {l}, frEs x l = true ↔ ∃ e ∈ l, FE x e
  | [] => by simp [frEs]
  | e :: l => by simp [frEs, frEs_iff (l := l), FE]
theorem frAs_iff {x} : ∀ {l}, frAs x l = true ↔ ∃ a ∈ l, FE x a.E ∧ x ∉ a.Vars
  | [] => by simp [frAs]
  | .mk g v e :: l => by simp [frAs, frA, frAs_iff (l := l), FE, Alt.E, Alt.Vars, ← memB_iff]
theorem frDs_iff {x} : ∀ {l}, frDs x l = true ↔ ∃ e ∈ l, FD x e
  | [] => by simp [frDs]
  | e :: l => by simp [frDs, frDs_iff (l := l), FD]
theorem FE_iff (x : ByteArray) (e : Exp) : FE x e ↔ (e.K = 1 ∧ x = e.S ∧ ¬ x = under) ∨ (¬ e.K = 1 ∧ (((∃ y ∈ e.L, FE x y) ∧ ¬ (e.K = 5 ∧ x = e.S) ∧ ¬ (e.K = 6 ∧ x ∈ nm e.Decs)) ∨ (e.K = 6 ∧ (∃ y ∈ e.Decs, FD x y) ∧ x ∉ nm e.Decs) ∨ (e.K = 7 ∧ ∃ a ∈ e.Alts, FE x a.E ∧ x ∉ a.Vars))) := by
  cases e with
  | mk k s n l ds az =>
    show frE x _ = true ↔ _
    simp only [frE, Exp.K, Exp.S, Exp.L, Exp.Alts, Exp.Decs, nmB_nm, ← frEs_iff, ← frAs_iff, ← frDs_iff]
    simp only [← memB_iff]
    by_cases k1 : k = 1
    · simp [k1]
    · simp [k1, Bool.or_eq_true, Bool.and_eq_true]
      grind
theorem FD_iff (x : ByteArray) (d : Dec) : FD x d ↔ (FE x d.E ∨ ∃ y ∈ d.Where, FD x y) ∧ x ∉ d.Pars ∧ x ∉ nm d.Where := by
  cases d with
  | mk n ps e ws =>
    show frD x _ = true ↔ _
    simp only [frD, Dec.E, Dec.Where, Dec.Pars, nmB_nm, ← frDs_iff, ← memB_iff, FE]
    simp [Bool.or_eq_true, Bool.and_eq_true]
    grind
theorem accA {α γ : Type} {l : List α} (hl : l.length ≤ lim) (F : ByteArray → α → Prop) (B : ByteArray → Prop) (I : List ByteArray → Prop) (c : α → Nat) {L : List ByteArray → Int → Option γ} (R : List ByteArray → γ)
    (hL : ∀ (i : Nat) (x : α) (out : List ByteArray), l[i]? = some x → x ∈ l → ix l (i : Int) = some x → (i : Int) < (l.length : Int) → IntKind.i64.wrap ((i : Int) + 1) = ((i + 1 : Nat) : Int) → I out → out.length + c x ≤ 2000000 →
      ∃ out', L out (i : Int) = L out' ((i + 1 : Nat) : Int) ∧ I out' ∧ (∀ s, s ∈ out' ↔ s ∈ out ∨ (F s x ∧ ¬ B s)) ∧ out'.length ≤ out.length + c x)
    (hend : ∀ out, L out (l.length : Nat) = some (R out)) (out : List ByteArray) (hI : I out) (h : out.length + sumC c l ≤ 2000000) :
    ∃ out', L out 0 = some (R out') ∧ I out' ∧ (∀ s, s ∈ out' ↔ s ∈ out ∨ ((∃ x ∈ l, F s x) ∧ ¬ B s)) ∧ out'.length ≤ out.length + sumC c l := by
  have hlim : lim = 140737488355328 := rfl
  have main : ∀ (k i : Nat) (out : List ByteArray), i + k = l.length → I out → out.length + sumC c (l.drop i) ≤ 2000000 →
      ∃ out', L out (i : Int) = some (R out') ∧ I out' ∧ (∀ s, s ∈ out' ↔ s ∈ out ∨ ((∃ x ∈ l.drop i, F s x) ∧ ¬ B s)) ∧ out'.length ≤ out.length + sumC c (l.drop i) := by
    intro k
    induction k with
    | zero =>
      intro i out e hI h
      have e : i = l.length := by omega
      subst e
      exact ⟨out, hend out, hI, by simp, by simp⟩
    | succ k ih =>
      intro i out e hI h
      have hi : i < l.length := by omega
      have hw : IntKind.i64.wrap ((i : Int) + 1) = ((i + 1 : Nat) : Int) := by rw [wrap_ok (by omega)]; omega
      rw [List.drop_eq_getElem_cons hi] at h ⊢
      simp only [sumC] at h ⊢
      obtain ⟨o1, e1, i1, m1, b1⟩ := hL i l[i] out (List.getElem?_eq_getElem hi) (List.getElem_mem hi) (ix_of (List.getElem?_eq_getElem hi)) (by omega) hw hI (by omega)
      obtain ⟨o2, e2, i2, m2, b2⟩ := ih (i + 1) o1 (by omega) i1 (by omega)
      refine ⟨o2, e1.trans e2, i2, fun s => ?_, by omega⟩
      rw [m2, m1]
      simp only [List.mem_cons, exists_eq_or_imp]
      grind
  have := main l.length 0 out (by omega) hI (by simpa using h)
  simpa using this
theorem accL {α γ : Type} {l : List α} (hl : l.length ≤ lim) (F : ByteArray → α → Prop) (B : ByteArray → Prop) (c : α → Nat) {L : List ByteArray → Int → Option γ} (R : List ByteArray → γ)
    (hL : ∀ (i : Nat) (x : α) (out : List ByteArray), l[i]? = some x → x ∈ l → ix l (i : Int) = some x → (i : Int) < (l.length : Int) → IntKind.i64.wrap ((i : Int) + 1) = ((i + 1 : Nat) : Int) → out.length + c x ≤ 2000000 →
      ∃ out', L out (i : Int) = L out' ((i + 1 : Nat) : Int) ∧ (∀ s, s ∈ out' ↔ s ∈ out ∨ (F s x ∧ ¬ B s)) ∧ out'.length ≤ out.length + c x)
    (hend : ∀ out, L out (l.length : Nat) = some (R out)) (out : List ByteArray) (h : out.length + sumC c l ≤ 2000000) :
    ∃ out', L out 0 = some (R out') ∧ (∀ s, s ∈ out' ↔ s ∈ out ∨ ((∃ x ∈ l, F s x) ∧ ¬ B s)) ∧ out'.length ≤ out.length + sumC c l := by
  obtain ⟨o, h1, _, h2, h3⟩ := accA hl F B (fun _ => True) c R (fun i x out a1 a2 a3 a4 a5 _ a6 => by
    obtain ⟨o, q1, q2, q3⟩ := hL i x out a1 a2 a3 a4 a5 a6
    exact ⟨o, q1, trivial, q2, q3⟩) hend out trivial h
  exact ⟨o, h1, h2, h3⟩
theorem sumC_one {α : Type} : ∀ l : List α, sumC (fun _ => 1) l = l.length
  | [] => rfl
  | x :: l => by simp [sumC, sumC_one l]; omega
theorem nm_len (l : List Dec) : (nm l).length = l.length := by simp [nm]
theorem sp_nmL {l : List Dec} (hl : l.length ≤ 1048576) : ∀ (k i : Nat) (out : List ByteArray), i + k = l.length → out.length + k ≤ 2000000 → M.spec_l6DecNames_L0 (l, (i : Int), out) = some (out ++ nm (l.drop i))
  | 0, i, out, e, h => by
    have : ¬ ((i : Int) < (l.length : Int)) := by omega
    rw [M.e_spec_l6DecNames_L0]
    simp only [this, decide_false, cond_false]
    rw [List.drop_eq_nil_of_le (by omega)]
    simp [nm]
  | k + 1, i, out, e, h => by
    have hi : i < l.length := by omega
    have h1 : (i : Int) < (l.length : Int) := by omega
    have hw : IntKind.i64.wrap ((i : Int) + 1) = ((i + 1 : Nat) : Int) := by rw [wrap_ok (by omega)]; omega
    rw [M.e_spec_l6DecNames_L0, List.drop_eq_getElem_cons hi]
    simp only [h1, decide_true, cond_true, ix_of (List.getElem?_eq_getElem hi), Option.bind_some, hw]
    rw [gd_t (by simp [grow]; omega)]
    simp only [Option.bind_some]
    rw [sp_nmL hl k (i + 1) _ (by omega) (by simp; omega)]
    simp only [nm, List.map_cons, List.append_assoc, List.singleton_append]
theorem sp_nm {l : List Dec} (hl : l.length ≤ 1048576) : M.spec_l6DecNames l = some (nm l) := by
  have h := sp_nmL hl l.length 0 [] (by omega) (by simp; omega)
  rw [List.drop_zero, List.nil_append] at h
  have h : M.spec_l6DecNames_L0 (l, 0, []) = _ := h
  rw [M.e_spec_l6DecNames, h]
  rfl
def kl (s : ByteArray) : List UInt8 := s.data.toList
theorem kl_inj {a b : ByteArray} (h : kl a = kl b) : a = b := by
  cases a; cases b
  simp only [kl] at h
  congr
  exact Array.toList_inj.1 h
def Asc (l : List ByteArray) : Prop := l.Pairwise fun s t => kl s < kl t
theorem bl (a b : ByteArray) : Op.bytesLess a.toList b.toList = decide (kl a < kl b) := by
  have key : ∀ x y : List UInt8, Op.bytesLess x y = decide (x < y) := by
    intro x
    induction x with
    | nil => intro y; cases y <;> simp [Op.bytesLess]
    | cons a x ih =>
      intro y
      cases y with
      | nil => simp [Op.bytesLess]
      | cons b y =>
        rw [Op.bytesLess, ih]
        have e : (a :: x < b :: y) ↔ (a < b ∨ a = b ∧ x < y) := List.cons_lt_cons_iff
        simp only [e]
        by_cases h : a < b <;> by_cases h2 : a = b <;> simp [h, h2]
  rw [key, ByteArray.toList_eq, ByteArray.toList_eq]
  rfl
theorem putL {x : ByteArray} : ∀ (k : Nat) (a : List ByteArray) (v : ByteArray) (b : List ByteArray), a.length = k → (a ++ v :: b).length ≤ 4000000 →
    ∃ a' v' c, M.spec_l6Put_L0 (x, (k : Int), a ++ v :: b) = some ((a'.length : Int), a' ++ v' :: (c ++ b)) ∧ a' ++ c = a ∧ (∀ s ∈ c, kl x < kl s) ∧ ∀ u a0, a' = a0 ++ [u] → ¬ kl x < kl u
  | 0, a, v, b, h, _ => by
    rw [M.e_spec_l6Put_L0]
    have : a = [] := List.length_eq_zero_iff.1 h
    subst this
    exact ⟨[], v, [], rfl, rfl, by simp, fun u a0 h => by simp at h⟩
  | k + 1, a, v, b, h, hl => by
    obtain ⟨a0, u, rfl⟩ : ∃ a0 u, a = a0 ++ [u] := by
      rcases List.eq_nil_or_concat a with q | ⟨a0, u, q⟩
      · rw [q] at h; cases h
      · exact ⟨a0, u, by simpa using q⟩
    have hk : a0.length = k := by simpa using h
    have hlen : (a0 ++ [u] ++ v :: b).length = k + 1 + (b.length + 1) := by simp [hk]; omega
    have h1 : (0 : Int) < ((k + 1 : Nat) : Int) := by omega
    have hw : IntKind.i64.wrap (((k + 1 : Nat) : Int) - 1) = (k : Int) := by rw [wrap_ok (by omega)]; omega
    have hg : (a0 ++ [u] ++ v :: b)[k]? = some u := by simp [hk]
    have hs : (a0 ++ [u] ++ v :: b).set (k + 1) u = a0 ++ u :: (u :: b) := by
      rw [List.set_append_right _ _ (by simp; omega)]
      simp [hk]
    rw [M.e_spec_l6Put_L0]
    simp only [h1, decide_true, cond_true, hw, gd_t (show (0 : Int) ≤ (k : Int) by omega), gd_t (show ((k : Int)) < ((a0 ++ [u] ++ v :: b).length : Int) by omega), Option.bind_some, Int.toNat_natCast, hg, gd_t (show (0 : Int) ≤ ((k + 1 : Nat) : Int) by omega), gd_t (show (((k + 1 : Nat) : Int)) < ((a0 ++ [u] ++ v :: b).length : Int) by omega), hs, bl]
    by_cases hc : kl u < kl x ∨ u = x
    · have : (decide (kl u < kl x) || decide (u = x)) = true := by simpa using hc
      rw [this]
      refine ⟨a0 ++ [u], v, [], by simp [hk], by simp, by simp, fun u' a1 e => ?_⟩
      have e' := List.append_inj_right' e rfl
      simp only [List.cons.injEq, and_true] at e'
      subst e'
      rcases hc with q | q
      · exact fun r => Std.lt_irrefl (Std.lt_trans q r)
      · subst q; exact Std.lt_irrefl
    · have : (decide (kl u < kl x) || decide (u = x)) = false := by simpa using hc
      rw [this]
      obtain ⟨a', v', c, e1, e2, e3, e4⟩ := putL (x := x) k a0 u (u :: b) hk (by simp at hl ⊢; omega)
      have hxu : kl x < kl u := by
        rcases not_or.1 hc with ⟨q1, q2⟩
        exact Std.lt_of_le_of_ne (Std.not_lt.1 q1) fun q => q2 (kl_inj q.symm)
      refine ⟨a', v', c ++ [u], by simp only [Bool.not_false, cond_true, e1]; simp, by rw [← List.append_assoc, e2], fun s hs => ?_, e4⟩
      rcases List.mem_append.1 hs with q | q
      · exact e3 s q
      · simp only [List.mem_singleton] at q; subst q; exact hxu
theorem sp_put {l : List ByteArray} (hl : l.length ≤ 2000000) (ha : Asc l) (x : ByteArray) : ∃ r, M.spec_l6Put (l, x) = some r ∧ Asc r ∧ (∀ s, s ∈ r ↔ s ∈ l ∨ (s = x ∧ ¬ s = under)) ∧ r.length ≤ l.length + 1 := by
  have hlim : lim = 140737488355328 := rfl
  have hgr : grow = 549755813888 := rfl
  have hh : M.spec_l1Has (l, x) = some (dc (x ∈ l)) := sp_has (l := l) (by omega) x
  rw [M.e_spec_l6Put]
  simp only [hh, Option.bind_some]
  rw [gd_t (show l.length ≤ grow by omega)]
  by_cases m : x ∈ l
  · rw [dc_t m]
    exact ⟨l, rfl, ha, by grind, by omega⟩
  rw [dc_f m]
  by_cases u : x = under
  · have u' : x = (⟨⟨[95]⟩⟩ : ByteArray) := u
    rw [decide_eq_true u']
    exact ⟨l, rfl, ha, by grind, by omega⟩
  have u' : ¬ x = (⟨⟨[95]⟩⟩ : ByteArray) := u
  rw [decide_eq_false u', gd_t (show l.length + [x].length ≤ grow by simp; omega)]
  have hw : IntKind.i64.wrap (((l ++ [x]).length : Int) - 1) = (l.length : Int) := by rw [wrap_ok (by simp; omega)]; simp
  obtain ⟨a', v', c, e1, e2, e3, e4⟩ := putL (x := x) l.length l x [] rfl (by simp; omega)
  have hlen : a'.length + c.length = l.length := by have := congrArg List.length e2; simpa using this
  simp only [List.append_nil] at e1
  simp only [cond_false, Option.bind_some, hw, e1, gd_t (show (0 : Int) ≤ (a'.length : Int) by omega), gd_t (show (a'.length : Int) < ((a' ++ v' :: c).length : Int) by simp; omega), Int.toNat_natCast]
  have hset : (a' ++ v' :: c).set a'.length x = a' ++ x :: c := by simp
  rw [← e2] at ha m
  obtain ⟨p1, p2, p3⟩ := List.pairwise_append.1 ha
  refine ⟨a' ++ x :: c, by rw [hset], ?_, fun s => ?_, by simp; omega⟩
  · refine List.pairwise_append.2 ⟨p1, List.pairwise_cons.2 ⟨e3, p2⟩, fun s hs t ht => ?_⟩
    have hsx : kl s < kl x := by
      obtain ⟨a0, u2, rfl⟩ : ∃ a0 u, a' = a0 ++ [u] := by
        rcases List.eq_nil_or_concat a' with q | ⟨a0, u, q⟩
        · rw [q] at hs; simp at hs
        · exact ⟨a0, u, by simpa using q⟩
      have hu : kl u2 < kl x := Std.lt_of_le_of_ne (Std.not_lt.1 (e4 u2 a0 rfl)) fun q => m (by rw [kl_inj q.symm]; simp)
      rcases List.mem_append.1 hs with q | q
      · exact Std.lt_trans ((List.pairwise_append.1 p1).2.2 s q u2 (by simp)) hu
      · simp only [List.mem_singleton] at q; subst q; exact hu
    rcases List.mem_cons.1 ht with q | q
    · subst q; exact hsx
    · exact p3 s hs t q
  · have : s ∈ l ↔ s ∈ a' ∨ s ∈ c := by rw [← e2]; simp
    rw [this]
    simp only [List.mem_append, List.mem_cons]
    grind
theorem sp_join {a b : List ByteArray} (h : a.length + b.length ≤ 2000000) (ha : Asc a) : ∃ r, M.spec_l6Join (a, b) = some r ∧ Asc r ∧ (∀ s, s ∈ r ↔ s ∈ a ∨ (s ∈ b ∧ ¬ s = under)) ∧ r.length ≤ a.length + b.length := by
  have hlim : lim = 140737488355328 := rfl
  have hgr : grow = 549755813888 := rfl
  obtain ⟨r, e, i, m, l⟩ := accA (l := b) (by omega) (fun s x => s = x) (· = under) Asc (fun _ => 1) (L := fun o i => M.spec_l6Join_L0 (b, i, o)) (fun o => o) (fun i x o hx hm hix hi hw hI ho => by
    obtain ⟨o', e1, i1, m1, l1⟩ := sp_put (l := o) (by omega) hI x
    refine ⟨o', ?_, i1, m1, l1⟩
    show M.spec_l6Join_L0 (b, (i : Int), o) = _
    rw [M.e_spec_l6Join_L0]
    simp only [hi, decide_true, cond_true, hix, Option.bind_some, e1, hw]) (fun o => by
    show M.spec_l6Join_L0 (b, (b.length : Int), o) = _
    rw [M.e_spec_l6Join_L0]
    simp) a ha (by rw [sumC_one]; omega)
  rw [sumC_one] at l
  refine ⟨r, ?_, i, fun s => by rw [m]; simp, l⟩
  rw [M.e_spec_l6Join]
  simp only [gd_t (show a.length ≤ grow by omega), Option.bind_some, e]
theorem sp_lessL {a b : List ByteArray} (ha : a.length ≤ 2000000) (hb : b.length ≤ 2000000) : ∀ (k i : Nat) (o : List ByteArray), i + k = a.length → o.length + k ≤ 4000000 → M.spec_l6Less_L0 (a, b, (i : Int), o) = some (o ++ (a.drop i).filter fun s => !dc (s ∈ b))
  | 0, i, o, e, h => by
    rw [M.e_spec_l6Less_L0]
    simp only [show ¬ (i : Int) < (a.length : Int) by omega, decide_false, cond_false]
    rw [List.drop_eq_nil_of_le (by omega)]
    simp
  | k + 1, i, o, e, h => by
    have hlim : lim = 140737488355328 := rfl
    have hi : i < a.length := by omega
    have hw : IntKind.i64.wrap ((i : Int) + 1) = ((i + 1 : Nat) : Int) := by rw [wrap_ok (by omega)]; omega
    have hh : M.spec_l1Has (b, a[i]) = some (dc (a[i] ∈ b)) := sp_has (l := b) (by omega) _
    rw [M.e_spec_l6Less_L0, List.drop_eq_getElem_cons hi, List.filter_cons]
    simp only [show (i : Int) < (a.length : Int) by omega, decide_true, cond_true, ix_of (List.getElem?_eq_getElem hi), Option.bind_some, hh, hw, gd_t (show o.length + [a[i]].length ≤ grow by simp [grow]; omega)]
    cases dc (a[i] ∈ b) with
    | true => simp only [Bool.not_true, cond_false, sp_lessL ha hb k (i + 1) o (by omega) (by omega), Bool.false_eq_true, ↓reduceIte]
    | false => simp only [Bool.not_false, cond_true, sp_lessL ha hb k (i + 1) (o ++ [a[i]]) (by omega) (by simp; omega), ↓reduceIte, List.append_assoc, List.singleton_append]
theorem sp_less {a b : List ByteArray} (ha : a.length ≤ 2000000) (hb : b.length ≤ 2000000) (hA : Asc a) : ∃ r, M.spec_l6Less (a, b) = some r ∧ Asc r ∧ (∀ s, s ∈ r ↔ s ∈ a ∧ s ∉ b) ∧ r.length ≤ a.length := by
  have h := sp_lessL ha hb a.length 0 [] (by omega) (by simp; omega)
  rw [List.drop_zero, List.nil_append] at h
  have h : M.spec_l6Less_L0 (a, b, 0, []) = _ := h
  refine ⟨a.filter fun s => !dc (s ∈ b), ?_, hA.filter _, fun s => ?_, List.length_filter_le _ _⟩
  · rw [M.e_spec_l6Less, h]
    rfl
  · rw [List.mem_filter]
    by_cases q : s ∈ b
    · rw [dc_t q]; simp [q]
    · rw [dc_f q]; simp [q]
def SpF (e : Exp) : Prop := ∃ r, M.spec_FreeOf e = some r ∧ Asc r ∧ (∀ s, s ∈ r ↔ FE s e ∧ ¬ s = under) ∧ r.length ≤ cE e
def SpFD (x : Dec) : Prop := ∃ r, M.spec_FreeOfDec x = some r ∧ Asc r ∧ (∀ s, s ∈ r ↔ FD s x ∧ ¬ s = under) ∧ r.length ≤ cD x
theorem sp_freeDecs {l : List Dec} (hl : l.length ≤ 1048576) (hc : sumC cD l ≤ 1000000) (h : ∀ x ∈ l, SpFD x) : ∃ r, M.spec_l6FreeOfDecs l = some r ∧ Asc r ∧ (∀ s, s ∈ r ↔ ((∃ x ∈ l, FD s x) ∧ ¬ s = under) ∧ s ∉ nm l) ∧ r.length ≤ sumC cD l := by
  have hlim : lim = 140737488355328 := rfl
  obtain ⟨o, e1, i1, m1, l1⟩ := accA (l := l) (by omega) FD (· = under) Asc cD (L := fun o i => M.spec_l6FreeOfDecs_L0 (l, i, o)) (fun o => o) (fun i x o hx hm hix hi hw hI ho => by
    obtain ⟨r, e1, i1, m1, l1⟩ := h x hm
    obtain ⟨o', e2, i2, m2, l2⟩ := sp_join (a := o) (b := r) (by omega) hI
    refine ⟨o', ?_, i2, fun s => by rw [m2, m1]; grind, by omega⟩
    show M.spec_l6FreeOfDecs_L0 (l, (i : Int), o) = _
    rw [M.e_spec_l6FreeOfDecs_L0]
    simp only [hi, decide_true, cond_true, hix, Option.bind_some, e1, e2, hw]) (fun o => by
    show M.spec_l6FreeOfDecs_L0 (l, (l.length : Int), o) = _
    rw [M.e_spec_l6FreeOfDecs_L0]
    simp) [] List.Pairwise.nil (by simp; omega)
  have l1' : o.length ≤ sumC cD l := by simpa using l1
  obtain ⟨r, e2, i2, m2, l2⟩ := sp_less (a := o) (b := nm l) (by omega) (by rw [nm_len]; omega) i1
  refine ⟨r, ?_, i2, fun s => by rw [m2, m1]; simp, by omega⟩
  rw [M.e_spec_l6FreeOfDecs]
  simp only [Option.bind_some, e1, sp_nm hl, e2]
theorem spFD_of {x : Dec} (hs : x.cost ≤ 1048576) (hc : cD x ≤ 1000000) (hp : x.Pars.length ≤ 1000000) (hE : SpF x.E) (hW : ∀ y ∈ x.Where, SpFD y) : SpFD x := by
  have hlim : lim = 140737488355328 := rfl
  obtain ⟨z1, z2, z3, z4, z5⟩ := szD hs
  have hcd := cD_eq x
  obtain ⟨r1, e1, i1, m1, l1⟩ := hE
  obtain ⟨o, e2, i2, m2, l2⟩ := accA (l := x.Where) (by omega) FD (· = under) Asc cD (L := fun o i => M.spec_FreeOfDec_L0 (i, x, o)) (fun o => (x, o)) (fun i y o hx hm hix hi hw hI ho => by
    obtain ⟨r, e1, i1, m1, l1⟩ := hW y hm
    obtain ⟨o', e2, i2, m2, l2⟩ := sp_join (a := o) (b := r) (by omega) hI
    refine ⟨o', ?_, i2, fun s => by rw [m2, m1]; grind, by omega⟩
    show M.spec_FreeOfDec_L0 ((i : Int), x, o) = _
    rw [M.e_spec_FreeOfDec_L0]
    simp only [hi, decide_true, cond_true, hix, Option.bind_some, e1, e2, hw]) (fun o => by
    show M.spec_FreeOfDec_L0 ((x.Where.length : Int), x, o) = _
    rw [M.e_spec_FreeOfDec_L0]
    simp) r1 i1 (by omega)
  obtain ⟨r3, e3, i3, m3, l3⟩ := sp_less (a := o) (b := nm x.Where) (by omega) (by rw [nm_len]; omega) i2
  obtain ⟨r4, e4, i4, m4, l4⟩ := sp_less (a := r3) (b := x.Pars) (by omega) (by omega) i3
  refine ⟨r4, ?_, i4, fun s => ?_, by omega⟩
  · rw [M.e_spec_FreeOfDec]
    simp only [Option.bind_some, e1, e2, sp_nm z4, e3, e4]
  · rw [m4, m3, m2, m1, FD_iff]
    generalize (∃ y ∈ x.Where, FD s y) = X
    generalize FE s x.E = Y
    grind
theorem spF_of {e : Exp} (hs : e.cost ≤ 1048576) (hc : cE e ≤ 1000000) (hL : ∀ x ∈ e.L, SpF x) (hA : ∀ a ∈ e.Alts, SpF a.E) (hD : ∀ x ∈ e.Decs, e.K = 6 → SpFD x) (hV : ∀ a ∈ e.Alts, a.Vars.length ≤ 1000000) : SpF e := by
  have hlim : lim = 140737488355328 := rfl
  obtain ⟨z1, ⟨z2, z3⟩, ⟨z4, z5⟩, z6, z7⟩ := szE hs
  have hce := cE_eq e
  unfold SpF
  rw [M.e_spec_FreeOf]
  by_cases k1 : e.K = 1
  · obtain ⟨r, e1, i1, m1, l1⟩ := sp_put (l := []) (by simp) List.Pairwise.nil e.S
    rw [decide_eq_true k1]
    simp only [cond_true, e1, Option.bind_some]
    refine ⟨r, rfl, i1, fun s => ?_, by simp at l1; omega⟩
    rw [m1, FE_iff]
    simp [k1]
  rw [decide_eq_false k1]
  obtain ⟨o, e2, i2, m2, l2⟩ := accA (l := e.L) (by omega) FE (· = under) Asc cE (L := fun o i => M.spec_FreeOf_L0 (i, e, o)) (fun o => (e, o)) (fun i y o hx hm hix hi hw hI ho => by
    obtain ⟨r, e1, i1, m1, l1⟩ := hL y hm
    obtain ⟨o', e2, i2, m2, l2⟩ := sp_join (a := o) (b := r) (by omega) hI
    refine ⟨o', ?_, i2, fun s => by rw [m2, m1]; grind, by omega⟩
    show M.spec_FreeOf_L0 ((i : Int), e, o) = _
    rw [M.e_spec_FreeOf_L0]
    simp only [hi, decide_true, cond_true, hix, Option.bind_some, e1, e2, hw]) (fun o => by
    show M.spec_FreeOf_L0 ((e.L.length : Int), e, o) = _
    rw [M.e_spec_FreeOf_L0]
    simp) [] List.Pairwise.nil (by simp; omega)
  have l2' : o.length ≤ sumC cE e.L := by simpa using l2
  have m2' : ∀ s, s ∈ o ↔ (∃ x ∈ e.L, FE s x) ∧ ¬ s = under := fun s => by rw [m2]; simp
  simp only [cond_false, e2, Option.bind_some]
  by_cases k5 : e.K = 5
  · rw [decide_eq_true k5]
    obtain ⟨r, e3, i3, m3, l3⟩ := sp_less (a := o) (b := [e.S]) (by omega) (by simp) i2
    simp only [cond_true, e3, Option.bind_some]
    refine ⟨r, rfl, i3, fun s => ?_, by omega⟩
    rw [m3, m2', FE_iff]
    generalize (∃ x ∈ e.L, FE s x) = X
    simp [k5]
    grind
  rw [decide_eq_false k5]
  by_cases k6 : e.K = 6
  · rw [if_pos k6] at hce
    rw [decide_eq_true k6]
    obtain ⟨r, e3, i3, m3, l3⟩ := sp_less (a := o) (b := nm e.Decs) (by omega) (by rw [nm_len]; omega) i2
    obtain ⟨r4, e4, i4, m4, l4⟩ := sp_freeDecs z4 (by omega) (fun x hx => hD x hx k6)
    obtain ⟨r5, e5, i5, m5, l5⟩ := sp_join (a := r) (b := r4) (by omega) i3
    simp only [cond_false, cond_true, sp_nm z4, e3, e4, e5, Option.bind_some]
    refine ⟨r5, rfl, i5, fun s => ?_, by omega⟩
    rw [m5, m4, m3, m2', FE_iff]
    simp only [k6]
    generalize (∃ x ∈ e.L, FE s x) = X
    generalize (∃ x ∈ e.Decs, FD s x) = Y
    simp
    grind
  rw [decide_eq_false k6]
  by_cases k7 : e.K = 7
  · rw [decide_eq_true k7]
    obtain ⟨o', e3, i3, m3, l3⟩ := accA (l := e.Alts) (by omega) (fun s a => FE s a.E ∧ s ∉ a.Vars) (· = under) Asc (fun a : Alt => cE a.E) (L := fun o i => M.spec_FreeOf_L1 (i, e, o)) (fun o => o) (fun i y o hx hm hix hi hw hI ho => by
      have hv := (szA (z7 y hm)).2.1.1
      have hv2 := hV y hm
      obtain ⟨r, e1, i1, m1, l1⟩ := hA y hm
      obtain ⟨r', e1', i1', m1', l1'⟩ := sp_less (a := r) (b := y.Vars) (by omega) (by omega) i1
      obtain ⟨o', e2, i2, m2, l2⟩ := sp_join (a := o) (b := r') (by omega) hI
      refine ⟨o', ?_, i2, fun s => by rw [m2, m1', m1]; grind, by omega⟩
      show M.spec_FreeOf_L1 ((i : Int), e, o) = _
      rw [M.e_spec_FreeOf_L1]
      simp only [hi, decide_true, cond_true, hix, Option.bind_some, e1, e1', e2, hw]) (fun o => by
      show M.spec_FreeOf_L1 ((e.Alts.length : Int), e, o) = _
      rw [M.e_spec_FreeOf_L1]
      simp) o i2 (by omega)
    simp only [cond_false, cond_true, e3, Option.bind_some]
    refine ⟨o', rfl, i3, fun s => ?_, by omega⟩
    rw [m3, m2', FE_iff]
    simp only [k7]
    generalize (∃ x ∈ e.L, FE s x) = X
    generalize (∃ x ∈ e.Alts, FE s x.E ∧ s ∉ x.Vars) = Y
    simp
    grind
  rw [decide_eq_false k7]
  refine ⟨o, rfl, i2, fun s => ?_, by omega⟩
  rw [m2', FE_iff]
  simp [k1, k5, k6, k7]
theorem spF_all : ∀ x : Dec, x.cost ≤ 1000000 → cD x ≤ 1000000 → SpFD x := by
  refine Dec.ind (M0 := fun a => a.E.cost ≤ 1000000 → cE a.E ≤ 1000000 → SpF a.E) (M2 := fun e => e.cost ≤ 1000000 → cE e ≤ 1000000 → SpF e) (fun a ih h => ih h) (fun x ih1 ih2 hs hc => ?_) (fun e ihL ihD ihA hs hc => ?_)
  · have hx := Dec.cost_eq x
    have hcd := cD_eq x
    exact spFD_of (by omega) hc (by omega) (ih1 (by omega) (by omega)) fun y hy => ih2 y hy (by have := sumC_mem (c := Dec.cost) hy; omega) (by have := sumC_mem (c := cD) hy; omega)
  · have he := Exp.cost_eq e
    have hce := cE_eq e
    refine spF_of (by omega) hc (fun x hx => ihL x hx (by have := sumC_mem (c := Exp.cost) hx; omega) (by have := sumC_mem (c := cE) hx; omega)) (fun a ha => ihA a ha (by have := sumC_mem (c := Alt.cost) ha; have := Alt.cost_eq a; omega) (by have := sumC_mem (c := fun a : Alt => cE a.E) ha; omega)) (fun x hx k6 => ?_) fun a ha => (by have := sumC_mem (c := Alt.cost) ha; have := Alt.cost_eq a; omega)
    rw [if_pos k6] at hce
    exact ihD x hx (by have := sumC_mem (c := Dec.cost) hx; omega) (by have := sumC_mem (c := cD) hx; omega)
end Q
end W
end
section
namespace W
set_option linter.unusedVariables false
set_option maxRecDepth 100000
set_option maxHeartbeats 1000000
namespace Q
open Go HL HL.X
open Classical in
theorem im_contains {l : List ByteArray} (hl : l.length ≤ lim) (x : ByteArray) : M.slices_Contains_string (l, x) = some (decide (x ∈ l)) := by
  have key : ∀ (k i : Nat), i + k = l.length → (x ∉ l.drop i ∧ M.slices_Index_string_L0 (l, x, (l.length : Int), (i : Int)) = some (.inr ())) ∨ (x ∈ l.drop i ∧ ∃ j : Nat, M.slices_Index_string_L0 (l, x, (l.length : Int), (i : Int)) = some (.inl (j : Int))) := by
    intro k
    induction k with
    | zero =>
      intro i h
      left
      rw [M.e_slices_Index_string_L0, List.drop_eq_nil_of_le (by omega)]
      have : ¬ ((i : Int) < (l.length : Int)) := by omega
      simp [this]
    | succ k ih =>
      intro i h
      have hi : i < l.length := by omega
      have hx := List.getElem?_eq_getElem hi
      have h1 : (i : Int) < (l.length : Int) := by omega
      rw [M.e_slices_Index_string_L0, List.drop_eq_getElem_cons hi]
      simp only [h1, decide_true, cond_true, ix_of hx, Option.bind_some, wrap_succ (n := l.length) hi hl]
      by_cases e : x = l[i]
      · right
        simp only [e, decide_true, cond_true]
        exact ⟨List.mem_cons_self, i, rfl⟩
      · simp only [e, decide_false, cond_false, List.mem_cons, false_or]
        exact ih (i + 1) (by omega)
  rw [M.e_slices_Contains_string, M.e_slices_Index_string]
  rcases key l.length 0 (by omega) with ⟨h1, h2⟩ | ⟨h1, j, h2⟩
  · rw [List.drop_zero] at h1
    rw [show (0 : Int) = ((0 : Nat) : Int) from rfl, h2]
    simp [h1]
  · rw [List.drop_zero] at h1
    rw [show (0 : Int) = ((0 : Nat) : Int) from rfl, h2]
    simp [h1]
/-! ### names -/
theorem concat2 {a b : List ByteArray} (ha : a.length ≤ 2000000) (hb : b.length ≤ 2000000) : M.slices_Concat_string [a, b] = some (a ++ b) := by
  have w1 : IntKind.i64.wrap (0 + (a.length : Int)) = (a.length : Int) := by rw [wrap_ok (by omega)]; omega
  have w2 : IntKind.i64.wrap ((a.length : Int) + (b.length : Int)) = ((a.length + b.length : Nat) : Int) := by rw [wrap_ok (by omega)]; omega
  have n1 : ¬ ((a.length : Int) < 0) := by omega
  have n2 : ¬ (((a.length + b.length : Nat) : Int) < 0) := by omega
  have i1 : IntKind.i64.wrap (0 + 1) = 1 := by decide
  have i2 : IntKind.i64.wrap (1 + 1) = 2 := by decide
  have x0 : ix [a, b] 0 = some a := rfl
  have x1 : ix [a, b] 1 = some b := rfl
  have l0 : M.slices_Concat_string_L0 (0, [a, b], 2, 0) = some ((a.length + b.length : Nat) : Int) := by
    rw [M.e_slices_Concat_string_L0]
    simp only [show decide ((0 : Int) < 2) = true from rfl, cond_true, x0, Option.bind_some, w1, n1, decide_false, cond_false, i1]
    rw [M.e_slices_Concat_string_L0]
    simp only [show decide ((1 : Int) < 2) = true from rfl, cond_true, x1, Option.bind_some, w2, n2, decide_false, cond_false, i2]
    rw [M.e_slices_Concat_string_L0]
    rfl
  have g0 : growB ((a.length + b.length : Nat) : Int) [] = some [] := by
    have h1 : (0 : Int) ≤ ((a.length + b.length : Nat) : Int) := by omega
    have h2 : ((a.length + b.length : Nat) : Int) ≤ 1099511627776 := by omega
    simp only [growB, h1, h2, decide_true, Bool.and_self, cond_true]
  have l1 : M.slices_Concat_string_L1 ([a, b], 2, 0, []) = some (a ++ b) := by
    rw [M.e_slices_Concat_string_L1]
    simp only [show decide ((0 : Int) < 2) = true from rfl, cond_true, x0, Option.bind_some, i1]
    rw [gd_t (by simp [grow]; omega)]
    simp only [Option.bind_some]
    rw [M.e_slices_Concat_string_L1]
    simp only [show decide ((1 : Int) < 2) = true from rfl, cond_true, x1, Option.bind_some, i2]
    rw [gd_t (by simp [grow]; omega)]
    simp only [Option.bind_some]
    rw [M.e_slices_Concat_string_L1]
    simp
  rw [M.e_slices_Concat_string]
  show ((M.slices_Concat_string_L0 (0, [a, b], 2, 0)).bind _) = _
  rw [l0]
  simp only [Option.bind_some, M.e_slices_Grow_string, g0]
  show ((M.slices_Concat_string_L1 ([a, b], 2, 0, [])).bind _) = _
  rw [l1]
  rfl
theorem im_nmL {l : List Dec} (hl : l.length ≤ 1048576) : ∀ (k i : Nat) (out : List ByteArray), i + k = l.length → out.length + k ≤ 2000000 → M.impl_decNames_L0 (l, (l.length : Int), (i : Int), out) = some (out ++ nm (l.drop i))
  | 0, i, out, e, h => by
    have : ¬ ((i : Int) < (l.length : Int)) := by omega
    rw [M.e_impl_decNames_L0]
    simp only [this, decide_false, cond_false]
    rw [List.drop_eq_nil_of_le (by omega)]
    simp [nm]
  | k + 1, i, out, e, h => by
    have hi : i < l.length := by omega
    have h1 : (i : Int) < (l.length : Int) := by omega
    have hw : IntKind.i64.wrap ((i : Int) + 1) = ((i + 1 : Nat) : Int) := by rw [wrap_ok (by omega)]; omega
    rw [M.e_impl_decNames_L0, List.drop_eq_getElem_cons hi]
    simp only [h1, decide_true, cond_true, ix_of (List.getElem?_eq_getElem hi), Option.bind_some, hw]
    rw [gd_t (by simp [grow]; omega)]
    simp only [Option.bind_some]
    rw [im_nmL hl k (i + 1) _ (by omega) (by simp; omega)]
    simp only [nm, List.map_cons, List.append_assoc, List.singleton_append]
theorem im_nm {l : List Dec} (hl : l.length ≤ 1048576) : M.impl_decNames l = some (nm l) := by
  have h := im_nmL hl l.length 0 [] (by omega) (by simp; omega)
  rw [List.drop_zero, List.nil_append] at h
  have h : M.impl_decNames_L0 (l, (l.length : Int), 0, []) = _ := h
  rw [M.e_impl_decNames, h]
  rfl
theorem im_also {a b : List ByteArray} (ha : a.length ≤ 2000000) (hb : b.length ≤ 2000000) : M.impl_also (a, b) = some (a ++ b) := by
  rw [M.e_impl_also]
  show (M.slices_Concat_string [a, b]).bind _ = _
  rw [concat2 ha hb]
  rfl
mutual
def IE (x : ByteArray) : Exp → Prop
  | .mk K S N L D A => (K = 1 ∧ x = S) ∨ ((IEs x L ∨ IDs x D ∨ IAs x A) ∧ ¬ (K = 5 ∧ x = S) ∧ ¬ (K = 6 ∧ x ∈ nm D))
def IEs (x : ByteArray) : List Exp → Prop
  | [] => False
  | e :: l => IE x e ∨ IEs x l
def IAs (x : ByteArray) : List Alt → Prop
  | [] => False
  | .mk G V E :: l => (IE x E ∧ x ∉ V) ∨ IAs x l
def ID (x : ByteArray) : Dec → Prop
  | .mk Nm Ps E Wh => (IE x E ∨ IDs x Wh) ∧ x ∉ Ps ∧ x ∉ nm Wh
def IDs (x : ByteArray) : List Dec → Prop
  | [] => False
  | e :: l => ID x e ∨ IDs x l
end
theorem IEs_iff {x} : ∀ {l}, IEs x l ↔ ∃ e ∈ l, IE x e
  | [] => by simp [IEs]
  | e :: l => by simp [IEs, IEs_iff (l := l)]
theorem IAs_iff {x} : ∀ {l}, IAs x l ↔ ∃ a ∈ l, IE x a.E ∧ x ∉ a.Vars
  | [] => by simp [IAs]
  | .mk G V E :: l => by simp [IAs, IAs_iff (l := l), Alt.E, Alt.Vars]
theorem IDs_iff {x} : ∀ {l}, IDs x l ↔ ∃ e ∈ l, ID x e
  | [] => by simp [IDs]
  | e :: l => by simp [IDs, IDs_iff (l := l)]
theorem IE_iff (x : ByteArray) (e : Exp) : IE x e ↔ (e.K = 1 ∧ x = e.S) ∨ (((∃ y ∈ e.L, IE x y) ∨ (∃ y ∈ e.Decs, ID x y) ∨ ∃ a ∈ e.Alts, IE x a.E ∧ x ∉ a.Vars) ∧ ¬ (e.K = 5 ∧ x = e.S) ∧ ¬ (e.K = 6 ∧ x ∈ nm e.Decs)) := by
  cases e
  simp only [IE, IEs_iff, IAs_iff, IDs_iff, Exp.K, Exp.S, Exp.L, Exp.Alts, Exp.Decs]
theorem ID_iff (x : ByteArray) (d : Dec) : ID x d ↔ (IE x d.E ∨ ∃ y ∈ d.Where, ID x y) ∧ x ∉ d.Pars ∧ x ∉ nm d.Where := by
  cases d
  simp only [ID, IDs_iff, Dec.E, Dec.Where, Dec.Pars]
theorem sumC_add {α : Type} (c : α → Nat) : ∀ l : List α, sumC (fun x => 1 + c x) l = l.length + sumC c l
  | [] => rfl
  | x :: l => by simp only [sumC, sumC_add c l, List.length_cons]; omega
theorem sumC_le {α : Type} {c c' : α → Nat} (h : ∀ x, c x ≤ c' x) : ∀ l : List α, sumC c l ≤ sumC c' l
  | [] => Nat.le_refl _
  | x :: l => by have := sumC_le h l; have := h x; simp only [sumC]; omega
def ImF (e : Exp) : Prop := ∀ bound out : List ByteArray, bound.length + e.cost ≤ 1500000 → out.length + (1 + e.cost) ≤ 2000000 → ∃ out', M.impl_freeExp (e, bound, out) = some out' ∧ (∀ s, s ∈ out' ↔ s ∈ out ∨ (IE s e ∧ ¬ s ∈ bound)) ∧ out'.length ≤ out.length + (1 + e.cost)
def ImFD (x : Dec) : Prop := ∀ bound out : List ByteArray, bound.length + x.cost ≤ 1500000 → out.length + (1 + x.cost) ≤ 2000000 → ∃ out', M.impl_freeDec (x, bound, out) = some out' ∧ (∀ s, s ∈ out' ↔ s ∈ out ∨ (ID s x ∧ ¬ s ∈ bound)) ∧ out'.length ≤ out.length + (1 + x.cost)
theorem imF_of {e : Exp} (hs : e.cost ≤ 1048576) (hL : ∀ x ∈ e.L, ImF x) (hA : ∀ a ∈ e.Alts, ImF a.E) (hD : ∀ x ∈ e.Decs, ImFD x) : ImF e := by
  have hlim : lim = 140737488355328 := rfl
  obtain ⟨z1, ⟨z2, z3⟩, ⟨z4, z5⟩, z6, z7⟩ := szE hs
  have hec := Exp.cost_eq e
  have q1 := sumC_add Exp.cost e.L
  have q2 := sumC_add Dec.cost e.Decs
  have q3 : sumC (fun a : Alt => 1 + a.E.cost) e.Alts ≤ e.Alts.length + sumC Alt.cost e.Alts := by
    rw [← sumC_add Alt.cost]
    exact sumC_le (fun a => by have := Alt.cost_eq a; omega) _
  intro bound out hb hout
  -- the first step
  have st : ∃ (b5 o5 : List ByteArray), (bif decide (e.K = 1) then ((M.slices_Contains_string (bound, e.S)).bind fun r1 =>
        bif (!r1) then ((gd (out.length + [e.S].length ≤ grow)).bind fun _ =>
          some (bound, (out ++ [e.S]), e)) else
        some (bound, out, e)) else
      bif decide (e.K = 5) then ((M.impl_also (bound, [e.S])).bind fun r2 =>
        some (r2, out, e)) else
      bif decide (e.K = 6) then ((M.impl_decNames e.Decs).bind fun r3 =>
        (M.impl_also (bound, r3)).bind fun r4 =>
        some (r4, out, e)) else
      some (bound, out, e)) = some (b5, o5, e) ∧ (∀ s, s ∈ b5 ↔ s ∈ bound ∨ (e.K = 5 ∧ s = e.S) ∨ (e.K = 6 ∧ s ∈ nm e.Decs)) ∧ (b5.length ≤ bound.length + 1 ∨ b5.length ≤ bound.length + e.Decs.length) ∧ (∀ s, s ∈ o5 ↔ s ∈ out ∨ ((e.K = 1 ∧ s = e.S) ∧ ¬ s ∈ bound)) ∧ o5.length ≤ out.length + 1 := by
    by_cases k1 : e.K = 1
    · rw [decide_eq_true k1]
      have hc : M.slices_Contains_string (bound, e.S) = some (dc (e.S ∈ bound)) := im_contains (l := bound) (by omega) e.S
      simp only [cond_true, hc, Option.bind_some]
      by_cases m : e.S ∈ bound
      · rw [dc_t m]
        exact ⟨bound, out, rfl, by grind, .inl (by omega), by grind, by omega⟩
      · rw [dc_f m, gd_t (by simp [grow]; omega)]
        exact ⟨bound, out ++ [e.S], rfl, by grind, .inl (by omega), by grind, by simp⟩
    rw [decide_eq_false k1]
    by_cases k5 : e.K = 5
    · rw [decide_eq_true k5]
      simp only [cond_true, cond_false, im_also (a := bound) (b := [e.S]) (by omega) (by simp), Option.bind_some]
      exact ⟨bound ++ [e.S], out, rfl, by grind, .inl (by simp), by grind, by omega⟩
    rw [decide_eq_false k5]
    by_cases k6 : e.K = 6
    · rw [decide_eq_true k6]
      simp only [cond_true, cond_false, im_nm z4, im_also (a := bound) (b := nm e.Decs) (by omega) (by rw [nm_len]; omega), Option.bind_some]
      exact ⟨bound ++ nm e.Decs, out, rfl, by grind, .inr (by rw [List.length_append, nm_len]; omega), by grind, by omega⟩
    rw [decide_eq_false k6]
    exact ⟨bound, out, rfl, by grind, .inl (by omega), by grind, by omega⟩
  obtain ⟨b5, o5, e5, mb, lb, mo, lo⟩ := st
  obtain ⟨o6, e6, m6, l6⟩ := accL (l := e.L) (by omega) IE (· ∈ b5) (fun x => 1 + x.cost) (L := fun o i => M.impl_freeExp_L0 (b5, e.L, (e.L.length : Int), i, o, e)) (fun o => (o, e)) (fun i x o hx hm hix hi hw ho => by
    obtain ⟨o', e1, m1, l1⟩ := hL x hm b5 o (by have := sumC_mem (c := Exp.cost) hm; have := List.length_pos_of_mem hm; omega) ho
    refine ⟨o', ?_, m1, l1⟩
    show M.impl_freeExp_L0 (b5, e.L, (e.L.length : Int), (i : Int), o, e) = _
    rw [M.e_impl_freeExp_L0]
    simp only [hi, decide_true, cond_true, hix, Option.bind_some, e1, hw]) (fun o => by
    show M.impl_freeExp_L0 (b5, e.L, (e.L.length : Int), (e.L.length : Int), o, e) = _
    rw [M.e_impl_freeExp_L0]
    simp) o5 (by omega)
  obtain ⟨o7, e7, m7, l7⟩ := accL (l := e.Decs) (by omega) ID (· ∈ b5) (fun x => 1 + x.cost) (L := fun o i => M.impl_freeExp_L1 (b5, e.Decs, (e.Decs.length : Int), i, o, e)) (fun o => (o, e)) (fun i x o hx hm hix hi hw ho => by
    obtain ⟨o', e1, m1, l1⟩ := hD x hm b5 o (by have := sumC_mem (c := Dec.cost) hm; have := List.length_pos_of_mem hm; omega) ho
    refine ⟨o', ?_, m1, l1⟩
    show M.impl_freeExp_L1 (b5, e.Decs, (e.Decs.length : Int), (i : Int), o, e) = _
    rw [M.e_impl_freeExp_L1]
    simp only [hi, decide_true, cond_true, hix, Option.bind_some, e1, hw]) (fun o => by
    show M.impl_freeExp_L1 (b5, e.Decs, (e.Decs.length : Int), (e.Decs.length : Int), o, e) = _
    rw [M.e_impl_freeExp_L1]
    simp) o6 (by omega)
  obtain ⟨o8, e8, m8, l8⟩ := accL (l := e.Alts) (by omega) (fun s a => IE s a.E ∧ s ∉ a.Vars) (· ∈ b5) (fun a : Alt => 1 + a.E.cost) (L := fun o i => M.impl_freeExp_L2 (b5, e.Alts, (e.Alts.length : Int), i, o)) (fun o => o) (fun i x o hx hm hix hi hw ho => by
    have hv0 := Alt.cost_eq x
    have hv1 := sumC_mem (c := Alt.cost) hm
    have hv2 := List.length_pos_of_mem hm
    obtain ⟨o', e1, m1, l1⟩ := hA x hm (b5 ++ x.Vars) o (by rw [List.length_append]; omega) ho
    refine ⟨o', ?_, fun s => by rw [m1]; simp only [List.mem_append]; grind, l1⟩
    show M.impl_freeExp_L2 (b5, e.Alts, (e.Alts.length : Int), (i : Int), o) = _
    rw [M.e_impl_freeExp_L2]
    simp only [hi, decide_true, cond_true, hix, Option.bind_some, im_also (a := b5) (b := x.Vars) (by omega) (by omega), e1, hw]) (fun o => by
    show M.impl_freeExp_L2 (b5, e.Alts, (e.Alts.length : Int), (e.Alts.length : Int), o) = _
    rw [M.e_impl_freeExp_L2]
    simp) o7 (by omega)
  refine ⟨o8, ?_, fun s => ?_, by omega⟩
  · rw [M.e_impl_freeExp]
    refine (congrArg (fun z => Option.bind z _) e5).trans ?_
    simp only [Option.bind_some, e6, e7, e8]
  · rw [m8, m7, m6, mo, IE_iff]
    have := mb s
    have h1 : e.K = 1 → ¬ (e.K = 5 ∧ s = e.S) ∧ ¬ (e.K = 6 ∧ s ∈ nm e.Decs) := fun k => ⟨fun q => by omega, fun q => by omega⟩
    generalize (∃ x ∈ e.L, IE s x) = X
    generalize (∃ x ∈ e.Decs, ID s x) = Y
    generalize (∃ x ∈ e.Alts, IE s x.E ∧ s ∉ x.Vars) = Z
    rw [this]
    generalize (e.K = 5 ∧ s = e.S) = B5 at *
    generalize (e.K = 6 ∧ s ∈ nm e.Decs) = B6 at *
    by_cases k : e.K = 1
    · have := h1 k
      by_cases a : s ∈ out <;> by_cases b : s ∈ bound <;> by_cases c : s = e.S <;> by_cases x : X <;> by_cases y : Y <;> by_cases z : Z <;> simp_all
    · by_cases a : s ∈ out <;> by_cases b : s ∈ bound <;> by_cases b5 : B5 <;> by_cases b6 : B6 <;> by_cases x : X <;> by_cases y : Y <;> by_cases z : Z <;> simp_all
theorem imFD_of {x : Dec} (hs : x.cost ≤ 1048576) (hE : ImF x.E) (hW : ∀ y ∈ x.Where, ImFD y) : ImFD x := by
  have hlim : lim = 140737488355328 := rfl
  obtain ⟨z1, z2, z3, z4, z5⟩ := szD hs
  have hxc := Dec.cost_eq x
  have q2 := sumC_add Dec.cost x.Where
  intro bound out hb hout
  have hbl : ((bound ++ x.Pars) ++ nm x.Where).length = bound.length + x.Pars.length + x.Where.length := by rw [List.length_append, List.length_append, nm_len]
  obtain ⟨o4, e4, m4, l4⟩ := hE ((bound ++ x.Pars) ++ nm x.Where) out (by omega) (by omega)
  obtain ⟨o5, e5, m5, l5⟩ := accL (l := x.Where) (by omega) ID (· ∈ (bound ++ x.Pars) ++ nm x.Where) (fun y => 1 + y.cost) (L := fun o i => M.impl_freeDec_L0 ((bound ++ x.Pars) ++ nm x.Where, x.Where, (x.Where.length : Int), i, o)) (fun o => o) (fun i y o hx hm hix hi hw ho => by
    obtain ⟨o', e1, m1, l1⟩ := hW y hm ((bound ++ x.Pars) ++ nm x.Where) o (by have := sumC_mem (c := Dec.cost) hm; have := List.length_pos_of_mem hm; omega) ho
    refine ⟨o', ?_, m1, l1⟩
    show M.impl_freeDec_L0 ((bound ++ x.Pars) ++ nm x.Where, x.Where, (x.Where.length : Int), (i : Int), o) = _
    rw [M.e_impl_freeDec_L0]
    simp only [hi, decide_true, cond_true, hix, Option.bind_some, e1, hw]) (fun o => by
    show M.impl_freeDec_L0 ((bound ++ x.Pars) ++ nm x.Where, x.Where, (x.Where.length : Int), (x.Where.length : Int), o) = _
    rw [M.e_impl_freeDec_L0]
    simp) o4 (by omega)
  refine ⟨o5, ?_, fun s => ?_, by omega⟩
  · rw [M.e_impl_freeDec]
    simp only [im_also (a := bound) (b := x.Pars) (by omega) (by omega), im_nm z4, Option.bind_some, im_also (a := bound ++ x.Pars) (b := nm x.Where) (by rw [List.length_append]; omega) (by rw [nm_len]; omega), e4, e5]
  · rw [m5, m4, ID_iff]
    simp only [List.mem_append]
    generalize (∃ y ∈ x.Where, ID s y) = X
    generalize IE s x.E = Y
    grind
theorem imF_all : ∀ x : Dec, x.cost ≤ 1000000 → ImFD x := by
  refine Dec.ind (M0 := fun a => a.E.cost ≤ 1000000 → ImF a.E) (M2 := fun e => e.cost ≤ 1000000 → ImF e) (fun a ih h => ih h) (fun x ih1 ih2 hs => ?_) (fun e ihL ihD ihA hs => ?_)
  · have hx := Dec.cost_eq x
    exact imFD_of (by omega) (ih1 (by omega)) fun y hy => ih2 y hy (by have := sumC_mem (c := Dec.cost) hy; omega)
  · have he := Exp.cost_eq e
    exact imF_of (by omega) (fun x hx => ihL x hx (by have := sumC_mem (c := Exp.cost) hx; omega)) (fun a ha => ihA a ha (by have := sumC_mem (c := Alt.cost) ha; have := Alt.cost_eq a; omega)) fun x hx => ihD x hx (by have := sumC_mem (c := Dec.cost) hx; omega)
end Q
end W
end
section
namespace W
set_option linter.unusedVariables false
set_option maxRecDepth 100000
set_option maxHeartbeats 1000000
namespace Q
open Go HL HL.X
theorem sumC_leM {α : Type} {c c' : α → Nat} : ∀ {l : List α}, (∀ x ∈ l, c x ≤ c' x) → sumC c l ≤ sumC c' l
  | [], _ => Nat.le_refl _
  | x :: l, h => by have := sumC_leM (l := l) fun y hy => h y (by simp [hy]); have := h x (by simp); simp only [sumC]; omega
def fstI {α : Type} (p : α → Bool) : List α → Option Nat
  | [] => none
  | x :: l => bif p x then some 0 else (fstI p l).map (· + 1)
theorem fstI_some {α : Type} {p : α → Bool} : ∀ {l : List α} {i : Nat}, fstI p l = some i → ∃ x, l[i]? = some x ∧ p x = true ∧ l.find? p = some x
  | [], i, h => by cases h
  | x :: l, i, h => by
    simp only [fstI] at h
    cases hp : p x with
    | true => rw [hp] at h; cases h; exact ⟨x, rfl, hp, by rw [List.find?_cons, hp]⟩
    | false =>
      rw [hp] at h
      simp only [cond_false, Option.map_eq_some_iff] at h
      obtain ⟨j, hj, rfl⟩ := h
      obtain ⟨y, h1, h2, h3⟩ := fstI_some hj
      exact ⟨y, by simpa using h1, h2, by rw [List.find?_cons, hp]; exact h3⟩
theorem fstI_none {α : Type} {p : α → Bool} : ∀ {l : List α}, fstI p l = none → (∀ x ∈ l, p x = false) ∧ l.find? p = none
  | [], h => by simp
  | x :: l, h => by
    simp only [fstI] at h
    cases hp : p x with
    | true => rw [hp] at h; cases h
    | false =>
      rw [hp] at h
      simp only [cond_false, Option.map_eq_none_iff] at h
      obtain ⟨h1, h2⟩ := fstI_none h
      exact ⟨fun y hy => (List.mem_cons.1 hy).elim (fun e => e ▸ hp) (h1 y), by rw [List.find?_cons, hp]; exact h2⟩
theorem firstL {α γ : Type} {l : List α} (hl : l.length ≤ lim) (p : α → Bool) {L : Int → Option γ} (hit : Nat → γ) (miss : γ)
    (hL : ∀ (i : Nat) (x : α), l[i]? = some x → ix l (i : Int) = some x → (i : Int) < (l.length : Int) → IntKind.i64.wrap ((i : Int) + 1) = ((i + 1 : Nat) : Int) → L (i : Int) = bif p x then some (hit i) else L ((i + 1 : Nat) : Int))
    (hend : L (l.length : Nat) = some miss) : L 0 = some (match fstI p l with
      | some i => hit i
      | none => miss) := by
  have hlim : lim = 140737488355328 := rfl
  have main : ∀ (k i : Nat), i + k = l.length → L (i : Int) = some (match fstI p (l.drop i) with
      | some j => hit (i + j)
      | none => miss) := by
    intro k
    induction k with
    | zero =>
      intro i e
      have e : i = l.length := by omega
      subst e
      rw [hend, List.drop_length]
      rfl
    | succ k ih =>
      intro i e
      have hi : i < l.length := by omega
      have hw : IntKind.i64.wrap ((i : Int) + 1) = ((i + 1 : Nat) : Int) := by rw [wrap_ok (by omega)]; omega
      rw [hL i _ (List.getElem?_eq_getElem hi) (ix_of (List.getElem?_eq_getElem hi)) (by omega) hw, List.drop_eq_getElem_cons hi, fstI]
      cases p l[i] with
      | true => rfl
      | false =>
        rw [cond_false, cond_false, ih (i + 1) (by omega)]
        cases fstI p (l.drop (i + 1)) with
        | none => rfl
        | some j => exact congrArg (fun z => some (hit z)) (show i + 1 + j = i + (j + 1) by omega)
  have := main l.length 0 (by omega)
  simpa using this
def isN (s : ByteArray) (d : Dec) : Bool := decide (d.Name = s)
def atB (l : List Dec) (s : ByteArray) : Int := match fstI (isN s) l with
  | some i => (i : Int)
  | none => -1
theorem sp_at {l : List Dec} (hl : l.length ≤ 1048576) (s : ByteArray) : M.spec_l8At (l, s) = some (atB l s) := by
  have hlim : lim = 140737488355328 := rfl
  have h := firstL (l := l) (by omega) (isN s) (L := fun i => M.spec_l8At_L0 (l, s, i)) (fun i => .inl (i : Int)) (.inr ()) (fun i x hx hix hi hw => by
    show M.spec_l8At_L0 (l, s, (i : Int)) = _
    rw [M.e_spec_l8At_L0]
    simp only [hi, decide_true, cond_true, hix, Option.bind_some, hw]
    rfl) (by
    show M.spec_l8At_L0 (l, s, (l.length : Int)) = _
    rw [M.e_spec_l8At_L0]
    simp)
  rw [M.e_spec_l8At]
  have h : M.spec_l8At_L0 (l, s, 0) = _ := h
  rw [h, atB]
  cases fstI (isN s) l <;> rfl
theorem im_at {l : List Dec} (hl : l.length ≤ 1048576) (s : ByteArray) : M.impl_decAt (l, s) = some (atB l s) := by
  have hlim : lim = 140737488355328 := rfl
  have h := firstL (l := l) (by omega) (isN s) (L := fun i => M.slices_IndexFunc_impl_Dec_at_decAt_1_L0 (l, (l.length : Int), i, s)) (fun i => .inl ((i : Int), s)) (.inr s) (fun i x hx hix hi hw => by
    show M.slices_IndexFunc_impl_Dec_at_decAt_1_L0 (l, (l.length : Int), (i : Int), s) = _
    rw [M.e_slices_IndexFunc_impl_Dec_at_decAt_1_L0]
    simp only [hi, decide_true, cond_true, hix, Option.bind_some, hw, M.e_impl_decAt_1]
    rfl) (by
    show M.slices_IndexFunc_impl_Dec_at_decAt_1_L0 (l, (l.length : Int), (l.length : Int), s) = _
    rw [M.e_slices_IndexFunc_impl_Dec_at_decAt_1_L0]
    simp)
  have h : M.slices_IndexFunc_impl_Dec_at_decAt_1_L0 (l, (l.length : Int), 0, s) = _ := h
  rw [M.e_impl_decAt, M.e_slices_IndexFunc_impl_Dec_at_decAt_1]
  simp only []
  rw [h, atB]
  cases fstI (isN s) l <;> rfl
theorem at_neg {l : List Dec} {s : ByteArray} : atB l s < 0 ↔ memB s (nmB l) = false := by
  unfold atB
  cases h : fstI (isN s) l with
  | some i =>
    obtain ⟨x, h1, h2, h3⟩ := fstI_some h
    have : memB s (nmB l) = true := memB_iff.2 (List.mem_map.2 ⟨x, List.mem_of_getElem? h1, by simpa [isN] using h2⟩)
    rw [this]
    simp
  | none =>
    have := (fstI_none h).1
    have : memB s (nmB l) = false := by
      cases e : memB s (nmB l) with
      | false => rfl
      | true =>
        obtain ⟨x, hx, q⟩ := List.mem_map.1 (memB_iff.1 e)
        have := this x hx
        simp [isN, q] at this
    rw [this]
    simp
theorem at_pos {l : List Dec} {s : ByteArray} (h : ¬ atB l s < 0) : ∃ x, ix l (atB l s) = some x ∧ x ∈ l ∧ x.Name = s ∧ l.find? (fun d => decide (d.Name = s)) = some x := by
  unfold atB at h ⊢
  cases hf : fstI (isN s) l with
  | some i =>
    obtain ⟨x, h1, h2, h3⟩ := fstI_some hf
    exact ⟨x, ix_of h1, List.mem_of_getElem? h1, by simpa [isN] using h2, h3⟩
  | none => rw [hf] at h; simp at h
theorem need_none {l : List Dec} {s t : ByteArray} (h : atB l s < 0) : needB l s t = false := by
  unfold needB
  have : l.find? (fun d => decide (d.Name = s)) = none := by
    rw [List.find?_eq_none]
    intro x hx q
    have h := at_neg.1 h
    have h' : memB s (nmB l) = true := memB_iff.2 (List.mem_map.2 ⟨x, hx, of_decide_eq_true q⟩)
    rw [h] at h'
    cases h'
  rw [this]
def Sm (l : List Dec) : Prop := l.length ≤ 1000 ∧ ∀ d ∈ l, d.cost ≤ 500000
theorem cD_le : ∀ x : Dec, cD x ≤ 1 + x.cost := by
  refine Dec.ind (M0 := fun a => cE a.E ≤ 1 + a.E.cost) (M2 := fun e => cE e ≤ 1 + e.cost) (fun a ih => ih) (fun x ih1 ih2 => ?_) (fun e ihL ihD ihA => ?_)
  · have h1 := cD_eq x
    have h2 := Dec.cost_eq x
    have h3 : sumC cD x.Where ≤ sumC (fun y => 1 + y.cost) x.Where := sumC_leM fun y hy => ih2 y hy
    rw [sumC_add] at h3
    omega
  · have h1 := cE_eq e
    have h2 := Exp.cost_eq e
    have h3 : sumC cE e.L ≤ sumC (fun y => 1 + y.cost) e.L := sumC_leM fun y hy => ihL y hy
    have h4 : sumC cD e.Decs ≤ sumC (fun y => 1 + y.cost) e.Decs := sumC_leM fun y hy => ihD y hy
    have h5 : sumC (fun a : Alt => cE a.E) e.Alts ≤ sumC (fun y => 1 + y.cost) e.Alts := sumC_leM fun y hy => by have := ihA y hy; have := Alt.cost_eq y; omega
    rw [sumC_add] at h3 h4 h5
    split at h1 <;> omega
theorem gdT {i : Decidable True} : @gd True i = some () := by unfold gd; rw [if_pos trivial]
theorem sp_needsL {l : List Dec} (hd : l.length ≤ 1048576) {r : List ByteArray} (hr : r.length ≤ 2000000) : ∀ (k i : Nat) (o : List ByteArray), i + k = r.length → o.length + k ≤ 4000000 → M.spec_Needs_L0 (l, (i : Int), o, r) = some (o ++ (r.drop i).filter fun y => memB y (nmB l))
  | 0, i, o, e, h => by
    rw [M.e_spec_Needs_L0]
    simp only [show ¬ (i : Int) < (r.length : Int) by omega, decide_false, cond_false]
    rw [List.drop_eq_nil_of_le (by omega)]
    simp
  | k + 1, i, o, e, h => by
    have hlim : lim = 140737488355328 := rfl
    have hi : i < r.length := by omega
    have hw : IntKind.i64.wrap ((i : Int) + 1) = ((i + 1 : Nat) : Int) := by rw [wrap_ok (by omega)]; omega
    have hy := List.getElem?_eq_getElem hi
    have hdec : decide (0 ≤ atB l r[i]) = memB r[i] (nmB l) := by
      cases q : memB r[i] (nmB l) with
      | false => exact decide_eq_false (by have := at_neg.2 q; omega)
      | true => exact decide_eq_true (by
          rcases Int.lt_or_le (atB l r[i]) 0 with n | n
          · rw [at_neg.1 n] at q; cases q
          · exact n)
    rw [M.e_spec_Needs_L0, List.drop_eq_getElem_cons hi, List.filter_cons]
    simp only [show (i : Int) < (r.length : Int) by omega, decide_true, cond_true, gd_t (show (0 : Int) ≤ (i : Int) by omega), gdT, Option.bind_some, Int.toNat_natCast, hy, sp_at hd, hdec, hw, gd_t (show o.length + [r[i]].length ≤ grow by simp [grow]; omega)]
    cases memB r[i] (nmB l) with
    | true => simp only [cond_true, sp_needsL hd hr k (i + 1) (o ++ [r[i]]) (by omega) (by simp; omega), ↓reduceIte, List.append_assoc, List.singleton_append]
    | false => simp only [cond_false, sp_needsL hd hr k (i + 1) o (by omega) (by omega), Bool.false_eq_true, ↓reduceIte]
theorem sp_needs {l : List Dec} (hl : Sm l) (s : ByteArray) : ∃ r, M.spec_Needs (l, s) = some r ∧ Asc r ∧ (∀ t, t ∈ r ↔ needB l s t = true ∧ ¬ t = under) ∧ r.length ≤ 600000 := by
  have hlim : lim = 140737488355328 := rfl
  obtain ⟨h0, hd⟩ := hl
  have ha := sp_at (l := l) (by omega) s
  rw [M.e_spec_Needs]
  simp only [ha, Option.bind_some]
  by_cases n : atB l s < 0
  · rw [decide_eq_true n]
    exact ⟨[], rfl, List.Pairwise.nil, fun t => by rw [need_none n]; simp, by simp⟩
  rw [decide_eq_false n]
  obtain ⟨x, e1, hx, hn, hf⟩ := at_pos n
  have hxc := hd x hx
  obtain ⟨r, e2, i2, m2, l2⟩ := spF_all x (by omega) (by have := cD_le x; omega)
  have l3 := cD_le x
  have e4 := sp_needsL (l := l) (by omega) (r := r) (by omega) r.length 0 [] (by omega) (by simp; omega)
  rw [List.drop_zero, List.nil_append] at e4
  have e4 : M.spec_Needs_L0 (l, 0, [], r) = _ := e4
  refine ⟨_, ?_, i2.filter fun y => memB y (nmB l), fun t => ?_, by have := List.length_filter_le (fun y => memB y (nmB l)) r; omega⟩
  · simp only [cond_false, e1, Option.bind_some, e2]
    exact (congrArg (fun z => Option.bind z _) e4).trans rfl
  · rw [List.mem_filter, m2]
    unfold needB
    rw [hf]
    simp only [Bool.and_eq_true]
    exact ⟨fun ⟨⟨a, b⟩, c⟩ => ⟨⟨a, c⟩, b⟩, fun ⟨⟨a, c⟩, b⟩ => ⟨⟨a, b⟩, c⟩⟩
end Q
end W
end
section
namespace W
set_option linter.unusedVariables false
set_option maxRecDepth 100000
set_option maxHeartbeats 1000000
namespace Q
open Go HL HL.X
theorem fstI_take {α : Type} {p : α → Bool} : ∀ {l : List α} {i : Nat}, fstI p l = some i → ∀ x ∈ l.take i, p x = false
  | [], i, h => by cases h
  | x :: l, i, h => by
    simp only [fstI] at h
    cases hp : p x with
    | true => rw [hp] at h; cases h; simp
    | false =>
      rw [hp] at h
      simp only [cond_false, Option.map_eq_some_iff] at h
      obtain ⟨j, hj, rfl⟩ := h
      intro y hy
      rcases List.mem_cons.1 (by simpa using hy) with rfl | hy
      · exact hp
      · exact fstI_take hj y hy
def goneB (ds : List Dec) (t : ByteArray) : Bool := decide (atB ds t < 0)
def keepB (ds : List Dec) (l : List ByteArray) : List ByteArray := l.filter fun t => !goneB ds t
theorem needs1 {ds : List Dec} (hd : ds.length ≤ 1048576) (t : ByteArray) : M.impl_Needs_1 (t, ds) = some (goneB ds t, ds) := by
  rw [M.e_impl_Needs_1]
  simp only [im_at hd, Option.bind_some]
  rfl
theorem im_delete {ds : List Dec} (hd0 : ds.length ≤ 1048576) {l : List ByteArray} (hl : l.length ≤ 12000000) : M.slices_DeleteFunc_string_at_Needs_1 (l, ds) = some (ds, keepB ds l) := by
  have hlim : lim = 140737488355328 := rfl
  have none_under : ∀ {m : List ByteArray}, (∀ x ∈ m, goneB ds x = false) → keepB ds m = m := fun {m} h => by
    unfold keepB
    rw [List.filter_eq_self]
    intro a ha
    rw [h a ha]
    rfl
  have hidx := firstL (l := l) (by omega) (goneB ds) (L := fun i => M.slices_IndexFunc_stringV_at_Needs_1_L0 ((l.length : Int), i, l, ds)) (fun i => .inl ((i : Int), ds)) (.inr ds) (fun i x hx hix hi hw => by
    show M.slices_IndexFunc_stringV_at_Needs_1_L0 ((l.length : Int), (i : Int), l, ds) = _
    rw [M.e_slices_IndexFunc_stringV_at_Needs_1_L0]
    simp only [hi, decide_true, cond_true, gd_t (show (0 : Int) ≤ (i : Int) by omega), gdT, Option.bind_some, Int.toNat_natCast, hx, needs1 hd0, hw]) (by
    show M.slices_IndexFunc_stringV_at_Needs_1_L0 ((l.length : Int), (l.length : Int), l, ds) = _
    rw [M.e_slices_IndexFunc_stringV_at_Needs_1_L0]
    simp)
  have hidx : M.slices_IndexFunc_stringV_at_Needs_1_L0 ((l.length : Int), 0, l, ds) = _ := hidx
  rw [M.e_slices_DeleteFunc_string_at_Needs_1, M.e_slices_IndexFunc_stringV_at_Needs_1]
  simp only [hidx, Option.bind_some]
  cases hf : fstI (goneB ds) l with
  | none =>
    simp only [Sum.elim_inr, Option.bind_some, decide_true, cond_true]
    rw [none_under (fstI_none hf).1]
  | some i0 =>
    obtain ⟨x0, h3, hx0, _⟩ := fstI_some hf
    have h1 : i0 < l.length := (List.getElem?_eq_some_iff.1 h3).1
    have h2 := fstI_take hf
    simp only [Sum.elim_inl, Option.bind_some]
    have key : ∀ (n j k : Nat) (l' : List ByteArray), j + n = l.length → k ≤ j → l'.length = l.length → l'.take k = keepB ds (l.take j) → k < j → l'.drop j = l.drop j → ∃ (k' : Nat) (l2 : List ByteArray), M.slices_DeleteFunc_string_at_Needs_1_L0 ((k : Int), (j : Int), l', ds) = some ((k' : Int), l2, ds) ∧ k' ≤ l2.length ∧ l2.take k' = keepB ds l := by
      intro n
      induction n with
      | zero =>
        intro j k l' e hk hlen ht _ _
        have e : j = l.length := by omega
        subst e
        rw [List.take_length] at ht
        refine ⟨k, l', ?_, by omega, ht⟩
        rw [M.e_slices_DeleteFunc_string_at_Needs_1_L0]
        simp [hlen]
      | succ n ih =>
        intro j k l' e hk hlen ht hkj hd
        have hlt : j < l'.length := by omega
        have hj := List.getElem?_eq_getElem hlt
        have hjl : l'[j] = l[j]'(by omega) := by
          have := congrArg (fun z => z[0]?) hd
          simp only [List.getElem?_drop, Nat.add_zero] at this
          rw [hj, List.getElem?_eq_getElem (by omega)] at this
          exact Option.some.inj this
        have hstep : M.slices_DeleteFunc_string_at_Needs_1_L0 ((k : Int), (j : Int), l', ds) = bif (!goneB ds l'[j]) then M.slices_DeleteFunc_string_at_Needs_1_L0 (((k + 1 : Nat) : Int), ((j + 1 : Nat) : Int), l'.set k l'[j], ds) else M.slices_DeleteFunc_string_at_Needs_1_L0 ((k : Int), ((j + 1 : Nat) : Int), l', ds) := by
          rw [M.e_slices_DeleteFunc_string_at_Needs_1_L0]
          simp only [show (j : Int) < (l'.length : Int) by omega, decide_true, cond_true, gd_t (show (0 : Int) ≤ (j : Int) by omega), Option.bind_some, gdT, Int.toNat_natCast, hj, needs1 hd0, wrap_succ hlt (by omega), wrap_succ (i := k) (n := l'.length) (by omega) (by omega), gd_t (show (0 : Int) ≤ (k : Int) by omega), gd_t (show (k : Int) < (l'.length : Int) by omega)]
        have htk : l.take (j + 1) = l.take j ++ [l[j]'(by omega)] := by rw [List.take_add_one, List.getElem?_eq_getElem (by omega)]; rfl
        rw [hstep]
        cases q : goneB ds l'[j] with
        | true =>
          refine ih (j + 1) k l' (by omega) (by omega) hlen ?_ (by omega) ?_
          · rw [htk, ht]
            unfold keepB
            rw [List.filter_append, ← hjl]
            simp [q]
          · rw [← List.drop_drop, hd, List.drop_drop]
        | false =>
          refine ih (j + 1) (k + 1) (l'.set k l'[j]) (by omega) (by omega) (by simp [hlen]) ?_ (by omega) ?_
          · rw [htk]
            unfold keepB at ht ⊢
            rw [List.filter_append, ← ht, ← hjl]
            simp only [List.filter_cons, q, Bool.not_false, ↓reduceIte, List.filter_nil]
            rw [List.take_add_one, List.take_set_of_le (Nat.le_refl _), List.getElem?_set_self (by omega)]
            rfl
          · rw [List.drop_set_of_lt (by omega), ← List.drop_drop, hd, List.drop_drop]
    have hk0 : l.take i0 = keepB ds (l.take (i0 + 1)) := by
      rw [List.take_add_one, h3]
      unfold keepB
      rw [List.filter_append]
      have := none_under h2
      unfold keepB at this
      rw [this]
      simp [hx0]
    obtain ⟨k', l2, e1, e2, e3⟩ := key (l.length - (i0 + 1)) (i0 + 1) i0 l (by omega) (by omega) rfl hk0 (by omega) rfl
    have hne : ¬ ((i0 : Int) = -1) := by omega
    have hle : k' ≤ (l2.take k' ++ List.replicate (l2.length - k') (⟨⟨[]⟩⟩ : ByteArray)).length := by simp; omega
    simp only [decide_eq_false hne, cond_false, wrap_succ h1 (show l.length ≤ lim by omega), e1, Option.bind_some, gd_t (show (0 : Int) ≤ (k' : Int) by omega), gd_t (show (k' : Int) ≤ (l2.length : Int) by omega), Int.toNat_natCast, gd_t (show (k' : Int) ≤ ((l2.take k' ++ List.replicate (l2.length - k') (⟨⟨[]⟩⟩ : ByteArray)).length : Int) by omega)]
    rw [List.take_append_of_le_length (by rw [List.length_take]; omega), List.take_take, Nat.min_self, e3]
end Q
end W
end
section
namespace W
set_option linter.unusedVariables false
set_option maxRecDepth 100000
set_option maxHeartbeats 1000000
namespace Q
open Go HL HL.X
theorem asc_ext : ∀ {l l' : List ByteArray}, Asc l → Asc l' → (∀ s, s ∈ l ↔ s ∈ l') → l = l'
  | [], [], _, _, _ => rfl
  | [], y :: l', _, _, h => by have := (h y).2 (by simp); simp at this
  | x :: l, [], _, _, h => by have := (h x).1 (by simp); simp at this
  | x :: l, y :: l', h1, h2, h => by
    obtain ⟨a1, a2⟩ := List.pairwise_cons.1 h1
    obtain ⟨b1, b2⟩ := List.pairwise_cons.1 h2
    have e : x = y := by
      rcases List.mem_cons.1 ((h x).1 (by simp)) with q | q
      · exact q
      · rcases List.mem_cons.1 ((h y).2 (by simp)) with r | r
        · exact r.symm
        · exact absurd (Std.lt_trans (b1 x q) (a1 y r)) Std.lt_irrefl
    subst e
    congr 1
    refine asc_ext a2 b2 fun s => ⟨fun q => ?_, fun q => ?_⟩
    · rcases List.mem_cons.1 ((h s).1 (List.mem_cons_of_mem _ q)) with r | r
      · subst r; exact absurd (a1 _ q) Std.lt_irrefl
      · exact r
    · rcases List.mem_cons.1 ((h s).2 (List.mem_cons_of_mem _ q)) with r | r
      · subst r; exact absurd (b1 _ q) Std.lt_irrefl
      · exact r
theorem compact_inv (zs : List (List UInt8)) (hs : zs.Pairwise (· ≤ ·)) : ∀ m, m ≤ zs.length → (Lib.compactUpTo zs.toArray m).Pairwise (· < ·) ∧ (∀ s, s ∈ Lib.compactUpTo zs.toArray m ↔ s ∈ zs.take m) ∧ (Lib.compactUpTo zs.toArray m).length ≤ m := by
  intro m
  induction m with
  | zero => intro _; simp [Lib.compactUpTo]
  | succ m ih =>
    intro hm
    obtain ⟨h1, h2, h3⟩ := ih (by omega)
    have hlt : m < zs.length := by omega
    have e : zs.toArray[m]! = zs[m] := by rw [getElem!_pos zs.toArray m (by simpa using hlt)]; simp
    have ht : zs.take (m + 1) = zs.take m ++ [zs[m]] := by rw [List.take_add_one, List.getElem?_eq_getElem hlt]; rfl
    rw [Lib.compactUpTo_succ, ht, e]
    by_cases k : Lib.keeps zs.toArray m = true
    · rw [if_pos k]
      refine ⟨List.pairwise_append.2 ⟨h1, List.pairwise_singleton _ _, fun a ha b hb => ?_⟩, fun s => by simp only [List.mem_append, h2], by simp; omega⟩
      simp only [List.mem_singleton] at hb
      subst hb
      have ha' := (h2 a).1 ha
      obtain ⟨j, hj, rfl⟩ := List.getElem_of_mem ha'
      simp only [List.length_take] at hj
      rw [List.getElem_take]
      have hm0 : 0 < m := by omega
      have kk : ¬ m = 0 := by omega
      unfold Lib.keeps at k
      have k' := (of_decide_eq_true k).resolve_left kk
      have e2 : zs.toArray[m - 1]! = zs[m - 1]'(by omega) := by rw [getElem!_pos zs.toArray (m - 1) (by simp; omega)]; simp
      rw [e, e2] at k'
      have hpw := List.pairwise_iff_getElem.1 hs
      have l1 : zs[m - 1]'(by omega) < zs[m] := Std.lt_of_le_of_ne (hpw (m - 1) m (by omega) hlt (by omega)) fun q => k' q.symm
      rcases Nat.lt_or_ge j (m - 1) with q | q
      · exact Std.lt_of_le_of_lt (hpw j (m - 1) (by omega) (by omega) q) l1
      · have : j = m - 1 := by omega
        subst this
        exact l1
    · rw [if_neg k, List.append_nil]
      refine ⟨h1, fun s => ?_, by omega⟩
      rw [h2, List.mem_append]
      refine ⟨.inl, fun q => q.elim id fun q => ?_⟩
      simp only [List.mem_singleton] at q
      subst q
      unfold Lib.keeps at k
      have k : ¬ (m = 0 ∨ zs.toArray[m]! ≠ zs.toArray[m - 1]!) := fun q => k (decide_eq_true q)
      have j0 : m ≠ 0 := fun q => k (.inl q)
      have e2 : zs.toArray[m]! = zs.toArray[m - 1]! := Classical.byContradiction fun q => k (.inr q)
      have e3 : zs.toArray[m - 1]! = zs[m - 1]'(by omega) := by rw [getElem!_pos zs.toArray (m - 1) (by simp; omega)]; simp
      rw [← e, e2, e3]
      exact List.mem_take_iff_getElem.2 ⟨m - 1, by omega, rfl⟩
theorem sorted_found (l : List ByteArray) : Asc (sortedB l) ∧ (∀ s, s ∈ sortedB l ↔ s ∈ l) ∧ (sortedB l).length ≤ l.length := by
  have hp : (sortB l).Pairwise (· ≤ ·) := by
    have := List.pairwise_mergeSort (le := fun x y : List UInt8 => decide (x ≤ y)) (fun a b c h1 h2 => by simpa using Std.le_trans (of_decide_eq_true h1) (of_decide_eq_true h2)) (fun a b => by simpa using Std.le_total (a := a) (b := b)) (bytesL l)
    exact this.imp fun h => of_decide_eq_true h
  obtain ⟨h1, h2, h3⟩ := compact_inv (sortB l) hp (sortB l).length (Nat.le_refl _)
  have hlen : (sortB l).length = l.length := by unfold sortB; rw [List.length_mergeSort]; simp [bytesL]
  refine ⟨?_, fun s => ?_, ?_⟩
  · unfold Asc sortedB strsL
    rw [List.pairwise_map]
    exact h1.imp fun h => by simpa [kl] using h
  · unfold sortedB strsL
    rw [List.mem_map]
    have h2' : ∀ z, z ∈ Lib.compact (sortB l) ↔ z ∈ bytesL l := fun z => by
      have := h2 z
      rw [List.take_length] at this
      rw [show Lib.compact (sortB l) = Lib.compactUpTo (sortB l).toArray (sortB l).length from rfl, this]
      unfold sortB
      rw [List.mem_mergeSort]
    constructor
    · rintro ⟨z, hz, rfl⟩
      have := (h2' z).1 hz
      unfold bytesL at this
      rw [List.mem_map] at this
      obtain ⟨t, ht, rfl⟩ := this
      simpa using ht
    · intro h
      exact ⟨s.data.toList, (h2' _).2 (List.mem_map.2 ⟨s, h, rfl⟩), by simp⟩
  · unfold sortedB strsL
    rw [List.length_map, ← hlen]
    exact h3
theorem im_needs {l : List Dec} (hl : Sm l) (s : ByteArray) : ∃ r, M.impl_Needs (l, s) = some r ∧ Asc r ∧ r.length ≤ 600000 ∧ (∀ t, t ∈ r → t ∈ nmB l) ∧
    ∀ x, l.find? (fun d => decide (d.Name = s)) = some x → ∀ t, t ∈ r ↔ ID t x ∧ t ∈ nmB l := by
  have hlim : lim = 140737488355328 := rfl
  obtain ⟨h0, hd⟩ := hl
  have ha := im_at (l := l) (by omega) s
  rw [M.e_impl_Needs]
  simp only [ha, Option.bind_some]
  by_cases n : atB l s < 0
  · rw [decide_eq_true n]
    refine ⟨[], rfl, List.Pairwise.nil, by simp, fun t ht => by (cases ht), fun x hx t => ?_⟩
    have h1 := List.find?_some hx
    have h2 := at_neg.1 n
    have h3 : memB s (nmB l) = true := memB_iff.2 (List.mem_map.2 ⟨x, List.mem_of_find?_eq_some hx, of_decide_eq_true h1⟩)
    rw [h2] at h3
    cases h3
  rw [decide_eq_false n]
  obtain ⟨x, e1, hx, hn, hf⟩ := at_pos n
  have hxc := hd x hx
  obtain ⟨r, e2, m2, l2⟩ := imF_all x (by omega) [] [] (by simp; omega) (by simp; omega)
  have l2 : r.length ≤ 1 + x.cost := by simpa using l2
  obtain ⟨a1, a2, a3⟩ := sorted_found r
  have e3 : M.impl_FreeOfDec x = some (sortedB r) := by
    rw [M.e_impl_FreeOfDec, e2, Option.bind_some, M.e_impl_sorted]
    rfl
  simp only [cond_false, e1, Option.bind_some, e3, im_delete (ds := l) (by omega) (l := sortedB r) (by omega)]
  have mem : ∀ t, t ∈ keepB l (sortedB r) ↔ t ∈ r ∧ t ∈ nmB l := by
    intro t
    unfold keepB goneB
    rw [List.mem_filter, a2, ← memB_iff (s := t) (l := nmB l)]
    have := at_neg (l := l) (s := t)
    cases q : memB t (nmB l) with
    | true =>
      have : ¬ atB l t < 0 := fun h => by rw [this.1 h] at q; cases q
      simp [this]
    | false => simp [this.2 q]
  refine ⟨keepB l (sortedB r), rfl, List.Pairwise.filter _ a1, Nat.le_trans (List.length_filter_le _ _) (by omega), fun t ht => ((mem t).1 ht).2, fun y hy t => ?_⟩
  rw [hf] at hy
  cases hy
  rw [mem, m2]
  simp
end Q
end W
end
section
namespace W
set_option linter.unusedVariables false
set_option maxRecDepth 100000
set_option maxHeartbeats 1000000
namespace Q
open Go HL HL.X
mutual
def wE : Exp → Prop
  | .mk k s _ l ds az => (k = 1 → l = [] ∧ ¬ s = under) ∧ (¬ k = 6 → ds = []) ∧ (¬ k = 7 → az = []) ∧ wEs l ∧ wDs ds ∧ wAs az
def wEs : List Exp → Prop
  | [] => True
  | e :: l => wE e ∧ wEs l
def wAs : List Alt → Prop
  | [] => True
  | .mk _ _ e :: l => wE e ∧ wAs l
def wD : Dec → Prop
  | .mk _ _ e ws => wE e ∧ wDs ws
def wDs : List Dec → Prop
  | [] => True
  | d :: l => wD d ∧ wDs l
end
theorem wEs_iff : ∀ {l}, wEs l ↔ ∀ e ∈ l, wE e
  | [] => by simp [wEs]
  | e :: l => by simp [wEs, wEs_iff (l := l)]
theorem wAs_iff : ∀ {l}, wAs l ↔ ∀ a ∈ l, wE a.E
  | [] => by simp [wAs]
  | .mk _ _ e :: l => by simp [wAs, wAs_iff (l := l), Alt.E]
theorem wDs_iff : ∀ {l}, wDs l ↔ ∀ d ∈ l, wD d
  | [] => by simp [wDs]
  | e :: l => by simp [wDs, wDs_iff (l := l)]
theorem wE_iff (e : Exp) : wE e ↔ (e.K = 1 → e.L = [] ∧ ¬ e.S = under) ∧ (¬ e.K = 6 → e.Decs = []) ∧ (¬ e.K = 7 → e.Alts = []) ∧ (∀ x ∈ e.L, wE x) ∧ (∀ d ∈ e.Decs, wD d) ∧ ∀ a ∈ e.Alts, wE a.E := by
  cases e
  simp only [wE, wEs_iff, wAs_iff, wDs_iff, Exp.K, Exp.S, Exp.L, Exp.Alts, Exp.Decs]
theorem wD_iff (d : Dec) : wD d ↔ wE d.E ∧ ∀ y ∈ d.Where, wD y := by
  cases d
  simp only [wD, wDs_iff, Dec.E, Dec.Where]
theorem same_free (t : ByteArray) : ∀ x : Dec, wD x → (ID t x ↔ FD t x) := by
  refine Dec.ind (M0 := fun a => wE a.E → (IE t a.E ↔ FE t a.E)) (M2 := fun e => wE e → (IE t e ↔ FE t e)) (fun a ih h => ih h) (fun x ih1 ih2 hw => ?_) (fun e ihL ihD ihA hw => ?_)
  · obtain ⟨h1, h2⟩ := (wD_iff x).1 hw
    rw [ID_iff, FD_iff, ih1 h1]
    have : (∃ y ∈ x.Where, ID t y) ↔ ∃ y ∈ x.Where, FD t y := exists_congr fun y => and_congr_right fun hy => ih2 y hy (h2 y hy)
    rw [this]
  · obtain ⟨h1, h2, h3, hL, hD, hA⟩ := (wE_iff e).1 hw
    have eL : (∃ y ∈ e.L, IE t y) ↔ ∃ y ∈ e.L, FE t y := exists_congr fun y => and_congr_right fun hy => ihL y hy (hL y hy)
    have eD : (∃ y ∈ e.Decs, ID t y) ↔ ∃ y ∈ e.Decs, FD t y := exists_congr fun y => and_congr_right fun hy => ihD y hy (hD y hy)
    have eA : (∃ a ∈ e.Alts, IE t a.E ∧ t ∉ a.Vars) ↔ ∃ a ∈ e.Alts, FE t a.E ∧ t ∉ a.Vars := exists_congr fun y => and_congr_right fun hy => by rw [ihA y hy (hA y hy)]
    rw [IE_iff, FE_iff, eL, eD, eA]
    have d0 : ¬ e.K = 6 → ¬ ∃ y ∈ e.Decs, FD t y := fun k => by rw [h2 k]; simp
    have a0 : ¬ e.K = 7 → ¬ ∃ a ∈ e.Alts, FE t a.E ∧ t ∉ a.Vars := fun k => by rw [h3 k]; simp
    have l0 : e.K = 1 → ¬ ∃ y ∈ e.L, FE t y := fun k => by rw [(h1 k).1]; simp
    have s0 : e.K = 1 → t = e.S → ¬ t = under := fun k q => by rw [q]; exact (h1 k).2
    generalize (∃ y ∈ e.L, FE t y) = X at *
    generalize (∃ y ∈ e.Decs, FD t y) = Y at *
    generalize (∃ a ∈ e.Alts, FE t a.E ∧ t ∉ a.Vars) = Z at *
    by_cases k1 : e.K = 1
    · have k6 : ¬ e.K = 6 := by omega
      have k7 : ¬ e.K = 7 := by omega
      have := d0 k6; have := a0 k7; have := l0 k1; have := s0 k1
      simp_all
    · by_cases k6 : e.K = 6
      · have k7 : ¬ e.K = 7 := by omega
        have k5 : ¬ e.K = 5 := by omega
        have := a0 k7
        simp_all
        grind
      · have := d0 k6
        by_cases k7 : e.K = 7
        · have k5 : ¬ e.K = 5 := by omega
          simp_all
        · have := a0 k7
          simp_all
noncomputable def iNeed (l : List Dec) (a b : ByteArray) : Bool := match M.impl_Needs (l, a) with
  | some r => memB b r
  | none => false
theorem iNeed_eq {l : List Dec} (hl : Sm l) (s : ByteArray) : ∃ r, M.impl_Needs (l, s) = some r ∧ Asc r ∧ r.length ≤ 600000 ∧ (∀ t, t ∈ r ↔ iNeed l s t = true) ∧ (∀ t, t ∈ r → t ∈ nmB l) ∧
    ((∀ x, l.find? (fun d => decide (d.Name = s)) = some x → wD x) → ∀ t, iNeed l s t = needB l s t) := by
  obtain ⟨r, h1, h2, h3, h4, h5⟩ := im_needs hl s
  have e : ∀ t, iNeed l s t = memB t r := fun t => by unfold iNeed; rw [h1]
  refine ⟨r, h1, h2, h3, fun t => by rw [e, memB_iff], h4, fun hw t => ?_⟩
  rw [e, Bool.eq_iff_iff, memB_iff]
  cases hf : l.find? (fun d => decide (d.Name = s)) with
  | some x =>
    rw [h5 x hf t, same_free t x (hw x hf)]
    unfold needB
    rw [hf]
    simp only [Bool.and_eq_true, memB_iff]
    rfl
  | none =>
    unfold needB
    rw [hf]
    have hneg : atB l s < 0 := by
      rw [at_neg]
      cases q : memB s (nmB l) with
      | false => rfl
      | true =>
        obtain ⟨y, hy, hq⟩ := List.mem_map.1 (memB_iff.1 q)
        have := List.find?_eq_none.1 hf y hy
        simp [hq] at this
    have : M.impl_Needs (l, s) = some [] := by
      rw [M.e_impl_Needs]
      simp only [im_at (l := l) (by have := hl.1; omega) s, Option.bind_some]
      rw [decide_eq_true hneg]
      rfl
    rw [h1] at this
    cases this
    simp
end Q
end W
end
section
namespace W
set_option linter.unusedVariables false
set_option maxRecDepth 100000
set_option maxHeartbeats 1000000
namespace Q
open Go HL HL.X
theorem nodup_le {α : Type} : ∀ {l m : List α}, l.Nodup → (∀ x ∈ l, x ∈ m) → l.length ≤ m.length
  | [], m, _, _ => Nat.zero_le _
  | x :: l, m, h, hs => by
    obtain ⟨a, b, rfl⟩ := List.append_of_mem (hs x (by simp))
    have h' := List.nodup_cons.1 h
    have := nodup_le (l := l) (m := a ++ b) h'.2 fun y hy => by
      have hy2 := hs y (by simp [hy])
      have hne : y ≠ x := fun e => h'.1 (e ▸ hy)
      simp only [List.mem_append, List.mem_cons] at hy2 ⊢
      rcases hy2 with q | q | q
      · exact .inl q
      · exact absurd q hne
      · exact .inr q
    simp only [List.length_cons, List.length_append] at this ⊢
    omega
theorem im_containsV {l : List ByteArray} (hl : l.length ≤ 2000000) (x : ByteArray) : M.slices_Contains_stringV (x, l) = some (memB x l) := by
  have hlim : lim = 140737488355328 := rfl
  have h := firstL (l := l) (by omega) (fun y => decide (x = y)) (L := fun i => M.slices_Index_stringV_L0 (x, (l.length : Int), i, l)) (fun i => .inl (i : Int)) (.inr ()) (fun i y hy hix hi hw => by
    show M.slices_Index_stringV_L0 (x, (l.length : Int), (i : Int), l) = _
    rw [M.e_slices_Index_stringV_L0]
    simp only [hi, decide_true, cond_true, gd_t (show (0 : Int) ≤ (i : Int) by omega), gdT, Option.bind_some, Int.toNat_natCast, hy, hw]) (by
    show M.slices_Index_stringV_L0 (x, (l.length : Int), (l.length : Int), l) = _
    rw [M.e_slices_Index_stringV_L0]
    simp)
  have h : M.slices_Index_stringV_L0 (x, (l.length : Int), 0, l) = _ := h
  rw [M.e_slices_Contains_stringV, M.e_slices_Index_stringV]
  simp only [h, Option.bind_some]
  cases hf : fstI (fun y => decide (x = y)) l with
  | some i =>
    obtain ⟨y, h1, h2, _⟩ := fstI_some hf
    have : memB x l = true := memB_iff.2 (by rw [of_decide_eq_true h2]; exact List.mem_of_getElem? h1)
    rw [this]
    simp
  | none =>
    have : memB x l = false := by
      cases q : memB x l with
      | false => rfl
      | true => have := (fstI_none hf).1 x (memB_iff.1 q); simp at this
    rw [this]
    simp
theorem reach1 {r : List ByteArray} (hr : r.length ≤ 600000) : ∀ (k i : Nat) (out : List ByteArray), i + k = r.length → out.length + k ≤ 1500000 →
    ∃ ext, M.impl_reached_L1 ((r.length : Int), (i : Int), out, r) = some (out ++ ext) ∧ (out.Nodup → (out ++ ext).Nodup) ∧ ∀ t, t ∈ out ++ ext ↔ t ∈ out ∨ t ∈ r.drop i
  | 0, i, out, e, h => by
    have : ¬ ((i : Int) < (r.length : Int)) := by omega
    rw [M.e_impl_reached_L1]
    simp only [this, decide_false, cond_false]
    exact ⟨[], by simp, by simp, fun t => by rw [List.drop_eq_nil_of_le (by omega)]; simp⟩
  | k + 1, i, out, e, h => by
    have hi : i < r.length := by omega
    have h1 : (i : Int) < (r.length : Int) := by omega
    have hw : IntKind.i64.wrap ((i : Int) + 1) = ((i + 1 : Nat) : Int) := by rw [wrap_ok (by omega)]; omega
    have step : M.impl_reached_L1 ((r.length : Int), (i : Int), out, r) = bif (!memB r[i] out) then M.impl_reached_L1 ((r.length : Int), ((i + 1 : Nat) : Int), out ++ [r[i]], r) else M.impl_reached_L1 ((r.length : Int), ((i + 1 : Nat) : Int), out, r) := by
      rw [M.e_impl_reached_L1]
      simp only [h1, decide_true, cond_true, gd_t (show (0 : Int) ≤ (i : Int) by omega), gdT, Option.bind_some, Int.toNat_natCast, List.getElem?_eq_getElem hi, im_containsV (l := out) (by omega), hw, gd_t (show out.length + [r[i]].length ≤ grow by simp [grow]; omega)]
    rw [step, List.drop_eq_getElem_cons hi]
    cases q : memB r[i] out with
    | true =>
      obtain ⟨ext, e1, e2, e3⟩ := reach1 hr k (i + 1) out (by omega) (by omega)
      refine ⟨ext, e1, e2, fun t => ?_⟩
      rw [e3]
      have := memB_iff.1 q
      simp only [List.mem_cons]
      grind
    | false =>
      have hn : ¬ r[i] ∈ out := fun m => by rw [memB_iff.2 m] at q; cases q
      obtain ⟨ext, e1, e2, e3⟩ := reach1 hr k (i + 1) (out ++ [r[i]]) (by omega) (by simp; omega)
      refine ⟨r[i] :: ext, by simpa using e1, fun hd => ?_, fun t => ?_⟩
      · have := e2 (by
          rw [List.nodup_append]
          exact ⟨hd, by simp, fun x hx y hy e => hn (by rw [List.mem_singleton] at hy; rw [← hy, ← e]; exact hx)⟩)
        simpa using this
      · have := e3 t
        simp only [List.append_assoc, List.singleton_append, List.mem_append, List.mem_singleton] at this
        rw [List.mem_append, this, List.mem_cons]
        grind
abbrev En (l : List Dec) (a b : ByteArray) : Prop := iNeed l a b = true
theorem reach0 {l : List Dec} (hl : Sm l) (s : ByteArray) : ∀ (n i : Nat) (out : List ByteArray), l.length + 1 ≤ n + i → i ≤ out.length → out.Nodup → (∀ t ∈ out, t ∈ nmB l) → (∀ t ∈ out, Rch (En l) s t) → (∀ t, En l s t → t ∈ out) →
    (∀ (j : Nat) (x : ByteArray), j < i → out[j]? = some x → ∀ t, En l x t → t ∈ out) → ∃ r, M.impl_reached_L0 (l, (i : Int), out) = some r ∧ r.Nodup ∧ ∀ t, t ∈ r ↔ Rch (En l) s t := by
  intro n
  have hnl : (nmB l).length = l.length := by simp [nmB]
  have hle : ∀ out : List ByteArray, out.Nodup → (∀ t ∈ out, t ∈ nmB l) → out.length ≤ l.length := fun out h1 h2 => by have := nodup_le h1 h2; omega
  have hl0 := hl.1
  induction n with
  | zero =>
    intro i out hn hi hd hs _ _ _
    have := hle out hd hs
    omega
  | succ n ih =>
    intro i out hn hi hd hs hr hb hc
    have hlen := hle out hd hs
    by_cases q : i < out.length
    · have hw : IntKind.i64.wrap ((i : Int) + 1) = ((i + 1 : Nat) : Int) := by rw [wrap_ok (by omega)]; omega
      obtain ⟨r, e1, _, r3, r4, r5, _⟩ := iNeed_eq hl out[i]
      obtain ⟨ext, e2, x2, x3⟩ := reach1 r3 r.length 0 out (by omega) (by omega)
      rw [List.drop_zero] at x3
      have e2 : M.impl_reached_L1 ((r.length : Int), 0, out, r) = _ := e2
      rw [M.e_impl_reached_L0]
      simp only [show (i : Int) < (out.length : Int) by omega, decide_true, cond_true, gd_t (show (0 : Int) ≤ (i : Int) by omega), gdT, Option.bind_some, Int.toNat_natCast, List.getElem?_eq_getElem q, e1, e2, hw]
      have hri := hr _ (List.getElem_mem q)
      refine ih (i + 1) (out ++ ext) (by omega) (by rw [List.length_append]; omega) (x2 hd) (fun t ht => ?_) (fun t ht => ?_) (fun t ht => (x3 t).2 (.inl (hb t ht))) (fun j x hj hx t ht => ?_)
      · exact ((x3 t).1 ht).elim (hs t) (r5 t)
      · exact ((x3 t).1 ht).elim (hr t) fun m => hri.snoc ((r4 t).1 m)
      · rw [List.getElem?_append_left (by omega)] at hx
        rcases Nat.lt_or_ge j i with hji | hji
        · exact (x3 t).2 (.inl (hc j x hji hx t ht))
        · have : j = i := by omega
          subst this
          rw [List.getElem?_eq_getElem q] at hx
          cases hx
          exact (x3 t).2 (.inr ((r4 t).2 ht))
    · rw [M.e_impl_reached_L0]
      simp only [show ¬ (i : Int) < (out.length : Int) by omega, decide_false, cond_false]
      refine ⟨out, by simp, hd, fun t => ⟨hr t, fun h => ?_⟩⟩
      have cl : ∀ {a b}, Rch (En l) a b → (∀ t, En l a t → t ∈ out) → b ∈ out := by
        intro a b h
        induction h with
        | edge e => exact fun hA => hA _ e
        | step e _ ih2 =>
          intro hA
          refine ih2 fun t ht => ?_
          obtain ⟨j, hj⟩ := List.getElem?_of_mem (hA _ e)
          have hj2 := (List.getElem?_eq_some_iff.1 hj).1
          exact hc j _ (by omega) hj t ht
      exact cl h hb
theorem asc_nodup {l : List ByteArray} (h : Asc l) : l.Nodup := List.Pairwise.imp (fun {a b} h e => by subst e; exact absurd h (List.lt_irrefl _)) h
theorem im_reached {l : List Dec} (hl : Sm l) (s : ByteArray) : ∃ r, M.impl_reached (l, s) = some r ∧ r.length ≤ 1000 ∧ ∀ t, t ∈ r ↔ Rch (En l) s t := by
  obtain ⟨r, e1, r2, r3, r4, r5, _⟩ := iNeed_eq hl s
  obtain ⟨o, e2, o2, o3⟩ := reach0 hl s (l.length + 1) 0 r (by omega) (by omega) (asc_nodup r2) r5 (fun t ht => .edge ((r4 t).1 ht)) (fun t ht => (r4 t).2 ht) (fun j x hj => by omega)
  have hin : ∀ t ∈ o, t ∈ nmB l := fun t ht => by
    rcases ((o3 t).1 ht).last with h | ⟨b, _, h⟩
    · exact r5 t ((r4 t).2 h)
    · obtain ⟨r', _, _, _, q4, q5, _⟩ := iNeed_eq hl b
      exact q5 t ((q4 t).2 h)
  refine ⟨o, ?_, ?_, o3⟩
  · rw [M.e_impl_reached]
    simp only [e1, Option.bind_some]
    exact (congrArg (fun z => Option.bind z _) e2).trans rfl
  · have := nodup_le o2 hin
    have h0 := hl.1
    simp only [nmB, List.length_map] at this
    omega
end Q
end W
end
section
namespace W
set_option linter.unusedVariables false
set_option maxRecDepth 100000
set_option maxHeartbeats 1000000
namespace Q
open Go HL HL.X
noncomputable def iR (l : List Dec) (a b : ByteArray) : Bool := dc (Rch (En l) a b)
theorem iR_iff {l : List Dec} {a b : ByteArray} : iR l a b = true ↔ Rch (En l) a b := by
  unfold iR
  by_cases h : Rch (En l) a b
  · rw [dc_t h]; simp [h]
  · rw [dc_f h]; simp [h]
theorem im_Reaches {l : List Dec} (hl : Sm l) (a b : ByteArray) : M.impl_Reaches (l, a, b) = some (iR l a b) := by
  have hlim : lim = 140737488355328 := rfl
  obtain ⟨r, e1, e2, e3⟩ := im_reached hl a
  have h : M.slices_Contains_string (r, b) = some (dc (b ∈ r)) := im_contains (l := r) (by omega) b
  rw [M.e_impl_Reaches]
  simp only [e1, Option.bind_some, h]
  exact congrArg some (dc_iff (e3 b))
theorem onceB_spec : ∀ (l out : List ByteArray), out.Nodup → (onceB out l).Nodup ∧ (∀ t, t ∈ onceB out l ↔ t ∈ out ∨ t ∈ l) ∧ (onceB out l).length ≤ out.length + l.length
  | [], out, h => ⟨h, fun t => by simp [onceB], by simp [onceB]⟩
  | s :: l, out, h => by
    simp only [onceB]
    by_cases q : memB s out = true
    · rw [if_pos q]
      obtain ⟨h1, h2, h3⟩ := onceB_spec l out h
      refine ⟨h1, fun t => ?_, by simp only [List.length_cons]; omega⟩
      rw [h2]
      have := memB_iff.1 q
      simp only [List.mem_cons]
      grind
    · rw [if_neg q]
      have hn : ¬ s ∈ out := fun m => q (memB_iff.2 m)
      obtain ⟨h1, h2, h3⟩ := onceB_spec l (out ++ [s]) (by
        rw [List.nodup_append]
        exact ⟨h, by simp, fun x hx y hy e => hn (by rw [List.mem_singleton] at hy; rw [← hy, ← e]; exact hx)⟩)
      refine ⟨h1, fun t => ?_, by simp only [List.length_append, List.length_cons, List.length_nil] at h3 ⊢; omega⟩
      rw [h2]
      simp only [List.mem_append, List.mem_cons, List.not_mem_nil, or_false]
      grind
abbrev nsB (l : List Dec) : List ByteArray := onceB [] (nmB l)
theorem ns_mem {l : List Dec} {t : ByteArray} : t ∈ nsB l ↔ t ∈ nmB l := by
  have := (onceB_spec (nmB l) [] List.nodup_nil).2.1 t
  simpa using this
theorem ns_nodup (l : List Dec) : (nsB l).Nodup := (onceB_spec (nmB l) [] List.nodup_nil).1
theorem iNeed_mem {l : List Dec} (hl : Sm l) {a b : ByteArray} (h : iNeed l a b = true) : a ∈ nmB l ∧ b ∈ nmB l := by
  obtain ⟨r, e1, _, _, r4, r5, _⟩ := iNeed_eq hl a
  refine ⟨?_, r5 b ((r4 b).2 h)⟩
  by_cases q : atB l a < 0
  · have : M.impl_Needs (l, a) = some [] := by
      rw [M.e_impl_Needs]
      simp only [im_at (l := l) (by have := hl.1; omega) a, Option.bind_some]
      rw [decide_eq_true q]
      rfl
    unfold iNeed at h
    rw [this] at h
    cases h
  · obtain ⟨x, _, hx, hn, _⟩ := at_pos q
    exact List.mem_map.2 ⟨x, hx, hn⟩
theorem needB_mem {l : List Dec} {a b : ByteArray} (h : needB l a b = true) : a ∈ nmB l ∧ b ∈ nmB l := by
  unfold needB at h
  split at h
  · cases h
  · rename_i d hd
    rw [Bool.and_eq_true] at h
    have := List.find?_some hd
    exact ⟨List.mem_map.2 ⟨d, List.mem_of_find?_eq_some hd, of_decide_eq_true this⟩, memB_iff.1 h.2⟩
theorem iWeb {l : List Dec} (hl : Sm l) : Web (nsB l) (iNeed l) (iR l) where
  nd := ns_nodup l
  mem a b h := by have := iNeed_mem hl h; exact ⟨ns_mem.2 this.1, ns_mem.2 this.2⟩
  rch a b := iR_iff
noncomputable def sR (l : List Dec) (a b : ByteArray) : Bool := dc (Rch (fun a b => needB l a b = true) a b)
theorem sWeb (l : List Dec) : Web (nsB l) (needB l) (sR l) where
  nd := ns_nodup l
  mem a b h := by have := needB_mem h; exact ⟨ns_mem.2 this.1, ns_mem.2 this.2⟩
  rch a b := by
    unfold sR
    by_cases h : Rch (fun a b => needB l a b = true) a b
    · rw [dc_t h]; simp [h]
    · rw [dc_f h]; simp [h]
end Q
end W
end
section
namespace W
set_option linter.unusedVariables false
set_option maxRecDepth 100000
set_option maxHeartbeats 1000000
namespace Q
open Go HL HL.X
theorem rows_sq (l : List Dec) (ns : List ByteArray) : Sq ns.length (rowsB l ns) := by
  refine ⟨by simp [rowsB], fun r hr => ?_⟩
  simp only [rowsB, List.mem_map] at hr
  obtain ⟨a, _, rfl⟩ := hr
  simp
theorem rows_at {l : List Dec} {ns : List ByteArray} {i k : Nat} : At (rowsB l ns) i k ↔ ∃ a b, ns[i]? = some a ∧ ns[k]? = some b ∧ needB l a b = true := by
  constructor
  · rintro ⟨r, h1, h2⟩
    simp only [rowsB, List.getElem?_map, Option.map_eq_some_iff] at h1
    obtain ⟨a, ha, rfl⟩ := h1
    simp only [List.getElem?_map, Option.map_eq_some_iff] at h2
    obtain ⟨b, hb, h⟩ := h2
    exact ⟨a, b, ha, hb, h⟩
  · rintro ⟨a, b, ha, hb, h⟩
    refine ⟨ns.map fun b => needB l a b, by simp [rowsB, ha], by simp [hb, h]⟩
theorem web_at {l : List Dec} {i k : Nat} {a b : ByteArray} (ha : (nsB l)[i]? = some a) (hb : (nsB l)[k]? = some b) : At (l8B l).needs i k ↔ sR l a b = true := by
  have hn := ns_nodup l
  rw [(sWeb l).rch]
  show At (closeTo (rowsB l (nsB l)) (nsB l).length) i k ↔ _
  rw [close_rch (rows_sq l (nsB l))]
  constructor
  · intro h
    induction h generalizing a with
    | edge e =>
      obtain ⟨a', b', h1, h2, h3⟩ := rows_at.1 e
      rw [ha] at h1; rw [hb] at h2
      cases h1; cases h2
      exact .edge h3
    | step e _ ih =>
      obtain ⟨a', b', h1, h2, h3⟩ := rows_at.1 e
      rw [ha] at h1
      cases h1
      exact .step h3 (ih h2 hb)
  · intro h
    induction h generalizing i with
    | edge e => exact .edge (rows_at.2 ⟨_, _, ha, hb, e⟩)
    | step e _ ih =>
      have hm := ns_mem.2 (needB_mem e).2
      obtain ⟨j, hj⟩ := List.getElem?_of_mem hm
      exact .step (rows_at.2 ⟨_, _, ha, hj, e⟩) (ih hj hb)
theorem web_sq (l : List Dec) : Sq (nsB l).length (l8B l).needs := closeTo_sq (rows_sq l (nsB l)) _ (Nat.le_refl _)
theorem web_cell {l : List Dec} {i k : Nat} {a b : ByteArray} (ha : (nsB l)[i]? = some a) (hb : (nsB l)[k]? = some b) : ∃ r, (l8B l).needs[i]? = some r ∧ r[k]? = some (sR l a b) := by
  have hi := (List.getElem?_eq_some_iff.1 ha).1
  have hk := (List.getElem?_eq_some_iff.1 hb).1
  obtain ⟨r, h1, h2⟩ := (web_sq l).get hi
  refine ⟨r, h1, ?_⟩
  have hkr : k < r.length := by omega
  rw [List.getElem?_eq_getElem hkr]
  have hw := web_at ha hb
  cases q : sR l a b with
  | true =>
    obtain ⟨r', g1, g2⟩ := hw.2 q
    rw [h1] at g1
    cases g1
    rw [List.getElem?_eq_getElem hkr] at g2
    exact g2
  | false =>
    cases e : r[k] with
    | false => rfl
    | true =>
      have := hw.1 ⟨r, h1, by rw [List.getElem?_eq_getElem hkr, e]⟩
      rw [q] at this
      cases this
theorem ns_len {l : List Dec} (hl : Sm l) : (nsB l).length ≤ 1000 := by
  have h1 := (onceB_spec (nmB l) [] List.nodup_nil).2.2
  have h0 := hl.1
  simp only [nmB, List.length_map, List.length_nil, Nat.zero_add] at h1
  exact Nat.le_trans h1 h0
end Q
end W
end
section
namespace W
set_option linter.unusedVariables false
set_option maxRecDepth 100000
set_option maxHeartbeats 1000000
namespace Q
open Go HL HL.X
theorem sm_iff {l : List Dec} : smB l = true ↔ Sm l := by
  unfold smB Sm
  simp [List.all_eq_true]
theorem mk8 {l : List Dec} (hl : Sm l) : M.spec_l8Make l = some (l8B l) := by
  rw [M.e_spec_l8Make]
  show l8M l = _
  unfold l8M
  rw [sm_iff.2 hl, cond_true]
def plB (ns : List ByteArray) (s : ByteArray) : Int := match fstI (fun y => decide (y = s)) ns with
  | some i => (i : Int)
  | none => -1
theorem sp_place {w : spec_l8Web} (hl : w.names.length ≤ 1048576) (s : ByteArray) : M.spec_l8Place (w, s) = some (plB w.names s) := by
  have hlim : lim = 140737488355328 := rfl
  have h := firstL (l := w.names) (by omega) (fun y => decide (y = s)) (L := fun i => M.spec_l8Place_L0 (s, i, w)) (fun i => .inl (i : Int)) (.inr ()) (fun i x hx hix hi hw => by
    show M.spec_l8Place_L0 (s, (i : Int), w) = _
    rw [M.e_spec_l8Place_L0]
    simp only [hi, decide_true, cond_true, hix, Option.bind_some, hw]) (by
    show M.spec_l8Place_L0 (s, (w.names.length : Int), w) = _
    rw [M.e_spec_l8Place_L0]
    simp)
  rw [M.e_spec_l8Place]
  have h : M.spec_l8Place_L0 (s, 0, w) = _ := h
  rw [h, plB]
  cases fstI (fun y => decide (y = s)) w.names <;> rfl
theorem pl_none {ns : List ByteArray} {s : ByteArray} (h : ¬ s ∈ ns) : plB ns s = -1 := by
  unfold plB
  cases hf : fstI (fun y => decide (y = s)) ns with
  | none => rfl
  | some i =>
    obtain ⟨x, h1, h2, _⟩ := fstI_some hf
    exact absurd (by rw [← of_decide_eq_true h2]; exact List.mem_of_getElem? h1) h
theorem pl_some {ns : List ByteArray} {s : ByteArray} (h : s ∈ ns) : ∃ i : Nat, plB ns s = (i : Int) ∧ ns[i]? = some s := by
  unfold plB
  cases hf : fstI (fun y => decide (y = s)) ns with
  | none => have := (fstI_none hf).1 s h; simp at this
  | some i =>
    obtain ⟨x, h1, h2, _⟩ := fstI_some hf
    exact ⟨i, rfl, by rw [h1, of_decide_eq_true h2]⟩
theorem sp_Reaches {l : List Dec} (hl : Sm l) (a b : ByteArray) : M.spec_Reaches (l, a, b) = some (sR l a b) := by
  have hn := ns_len hl
  have hp : ∀ s, M.spec_l8Place (l8B l, s) = some (plB (nsB l) s) := fun s => sp_place (w := l8B l) (by show (nsB l).length ≤ _; omega) s
  have hmem : ∀ {a b}, sR l a b = true → a ∈ nsB l ∧ b ∈ nsB l := fun h => (sWeb l).rmem h
  rw [M.e_spec_Reaches]
  simp only [mk8 hl, Option.bind_some, hp]
  by_cases ha : a ∈ nsB l
  · obtain ⟨i, i1, i2⟩ := pl_some ha
    by_cases hb : b ∈ nsB l
    · obtain ⟨k, k1, k2⟩ := pl_some hb
      obtain ⟨r, r1, r2⟩ := web_cell i2 k2
      rw [i1, k1, decide_eq_true (show (0 : Int) ≤ (i : Int) by omega), decide_eq_true (show (0 : Int) ≤ (k : Int) by omega)]
      simp only [cond_true, ix_of r1, ix_of r2, Option.bind_some]
    · rw [pl_none hb, i1, decide_eq_true (show (0 : Int) ≤ (i : Int) by omega), decide_eq_false (show ¬ (0 : Int) ≤ -1 by omega)]
      simp only [cond_true, cond_false]
      cases q : sR l a b with
      | false => rfl
      | true => exact absurd (hmem q).2 hb
  · rw [pl_none ha, decide_eq_false (show ¬ (0 : Int) ≤ -1 by omega)]
    simp only [cond_false]
    cases q : sR l a b with
    | false => rfl
    | true => exact absurd (hmem q).1 ha
end Q
end W
end
section
namespace W
set_option linter.unusedVariables false
set_option maxRecDepth 100000
set_option maxHeartbeats 1000000
namespace Q
open Go HL HL.X
noncomputable def withB (l : List Dec) (a : ByteArray) : List Bool := (nsB l).map fun b => decide (b = a) || (sR l a b && sR l b a)
theorem sp_with {l : List Dec} (hl : Sm l) {i : Nat} {a : ByteArray} (ha : (nsB l)[i]? = some a) : M.spec_l8With (l8B l, (i : Int)) = some (withB l a) := by
  have hlim : lim = 140737488355328 := rfl
  have hn := ns_len hl
  have hi := (List.getElem?_eq_some_iff.1 ha).1
  have hnm : (l8B l).names = nsB l := rfl
  have hlen : (withB l a).length = (nsB l).length := by simp [withB]
  have h := setLoop (l := withB l a) (out := List.replicate (nsB l).length false) (by omega) (by simp [hlen]) (L := fun k o => M.spec_l8With_L0 ((i : Int), k, l8B l, o)) (fun k x o hx hix ho hk hw => by
    have hkn : k < (nsB l).length := by have := (List.getElem?_eq_some_iff.1 hx).1; omega
    have hb := List.getElem?_eq_getElem hkn
    have hxx : x = (decide ((nsB l)[k] = a) || (sR l a (nsB l)[k] && sR l (nsB l)[k] a)) := by
      simp only [withB, List.getElem?_map, hb, Option.map_some, Option.some.injEq] at hx
      exact hx.symm
    show M.spec_l8With_L0 ((i : Int), (k : Int), l8B l, o) = _
    rw [M.e_spec_l8With_L0]
    have g1 : gd ((k : Int) < (o.length : Int)) = some () := gd_t (by omega)
    simp only [hnm, show (k : Int) < ((nsB l).length : Int) by omega, decide_true, cond_true, gd_t (show (0 : Int) ≤ (k : Int) by omega), g1, Option.bind_some, Int.toNat_natCast, hw]
    by_cases e : k = i
    · subst e
      rw [hb] at ha
      cases ha
      rw [decide_eq_true (rfl : (k : Int) = (k : Int)), hxx]
      simp
    · have hne : ¬ (nsB l)[k] = a := fun q => e ((List.getElem_inj (ns_nodup l)).1 (by rw [q]; exact ((List.getElem?_eq_some_iff.1 ha).2).symm))
      obtain ⟨r, r1, r2⟩ := web_cell ha hb
      obtain ⟨r', q1, q2⟩ := web_cell hb ha
      rw [decide_eq_false (show ¬ (k : Int) = (i : Int) by omega), hxx, decide_eq_false hne]
      simp only [cond_false, ix_of r1, ix_of r2, ix_of q1, ix_of q2, Option.bind_some, Bool.false_or]
      cases sR l a (nsB l)[k] <;> rfl) (fun o => by
    show M.spec_l8With_L0 ((i : Int), ((withB l a).length : Int), l8B l, o) = _
    rw [M.e_spec_l8With_L0, hlen]
    simp only [hnm, show ¬ (((nsB l).length : Nat) : Int) < ((nsB l).length : Int) by omega, decide_false, cond_false])
  rw [M.e_spec_l8With]
  simp only [hnm, gd_t (show (0 : Int) ≤ ((nsB l).length : Int) by omega), gd_t (show ((nsB l).length : Int) ≤ 1099511627776 by omega), Option.bind_some, Int.toNat_natCast]
  exact (congrArg (fun z => Option.bind z _) h).trans rfl
theorem with_at {l : List Dec} {a b : ByteArray} {k : Nat} (hb : (nsB l)[k]? = some b) : (withB l a)[k]? = some (memB b (grp (nsB l) (sR l) a)) := by
  simp only [withB, List.getElem?_map, hb, Option.map_some]
  congr 1
  have hm := List.mem_of_getElem? hb
  rw [Bool.eq_iff_iff]
  simp only [Bool.or_eq_true, Bool.and_eq_true, decide_eq_true_eq, memB_iff, grp_mem, hm, true_and]
end Q
end W
end
section
namespace W
set_option linter.unusedVariables false
set_option maxRecDepth 100000
set_option maxHeartbeats 1000000
namespace Q
open Go HL HL.X
def bitsB (ns done : List ByteArray) : List Bool := ns.map fun b => memB b done
def okF (l : List Dec) (a : ByteArray) (done : List ByteArray) (b c : ByteArray) : Prop := memB b (grp (nsB l) (sR l) a) = true → sR l b c = true → memB c (grp (nsB l) (sR l) a) = true ∨ memB c done = true
open Classical in
theorem sp_free1 {l : List Dec} (hl : Sm l) (a : ByteArray) (done : List ByteArray) {i : Nat} {b : ByteArray} (hb : (nsB l)[i]? = some b) :
    M.spec_l8Free_L1 (withB l a, (i : Int), 0, bitsB (nsB l) done, l8B l) = if ∀ m, m < (nsB l).length → ∀ c, (nsB l)[m]? = some c → okF l a done b c then some (.inr (l8B l)) else some (.inl false) := by
  have hlim : lim = 140737488355328 := rfl
  have hn := ns_len hl
  have hnm : (l8B l).names = nsB l := rfl
  have wb := with_at (a := a) hb
  cases hg : memB b (grp (nsB l) (sR l) a) with
  | false =>
    have all : ∀ m, m < (nsB l).length → ∀ c, (nsB l)[m]? = some c → okF l a done b c := fun m _ c _ h => by rw [hg] at h; cases h
    rw [if_pos all, M.e_spec_l8Free_L1]
    rw [hg] at wb
    simp only [hnm, ix_of wb, Option.bind_some, cond_false]
    cases decide ((0 : Int) < ((nsB l).length : Int)) <;> rfl
  | true =>
    rw [hg] at wb
    have key := stopL (n := (nsB l).length) (by omega) (L := fun k => M.spec_l8Free_L1 (withB l a, (i : Int), k, bitsB (nsB l) done, l8B l)) (fun m => ∀ c, (nsB l)[m]? = some c → okF l a done b c) (some (.inl false)) (some (.inr (l8B l))) (fun k hk hw => by
      have hc := List.getElem?_eq_getElem hk
      obtain ⟨r, r1, r2⟩ := web_cell hb hc
      have wc := with_at (a := a) hc
      have dcn : (bitsB (nsB l) done)[k]? = some (memB (nsB l)[k] done) := by simp [bitsB, hc]
      have hbl : (bitsB (nsB l) done).length = (nsB l).length := by simp [bitsB]
      have g1 : gd ((k : Int) < ((bitsB (nsB l) done).length : Int)) = some () := gd_t (by omega)
      show M.spec_l8Free_L1 (withB l a, (i : Int), (k : Int), bitsB (nsB l) done, l8B l) = _
      rw [M.e_spec_l8Free_L1]
      simp only [hnm, show (k : Int) < ((nsB l).length : Int) by omega, decide_true, cond_true, ix_of wb, ix_of r1, ix_of r2, ix_of wc, gd_t (show (0 : Int) ≤ (k : Int) by omega), g1, Option.bind_some, Int.toNat_natCast, dcn, hw]
      have iff : (∀ c, (nsB l)[k]? = some c → okF l a done b c) ↔ okF l a done b (nsB l)[k] := ⟨fun h => h _ hc, fun h c hc' => by rw [hc] at hc'; cases hc'; exact h⟩
      simp only [iff]
      unfold okF
      rw [hg]
      cases sR l b (nsB l)[k] <;> cases memB (nsB l)[k] (grp (nsB l) (sR l) a) <;> cases memB (nsB l)[k] done <;> simp) (by
      show M.spec_l8Free_L1 (withB l a, (i : Int), ((nsB l).length : Int), bitsB (nsB l) done, l8B l) = _
      rw [M.e_spec_l8Free_L1]
      simp [hnm])
    refine key.trans ?_
    by_cases h : ∀ m, m < (nsB l).length → ∀ c, (nsB l)[m]? = some c → okF l a done b c
    · rw [if_pos h, if_pos h]
    · rw [if_neg h, if_neg h]
end Q
end W
end
section
namespace W
set_option linter.unusedVariables false
set_option maxRecDepth 100000
set_option maxHeartbeats 1000000
namespace Q
open Go HL HL.X
theorem rdyR_okF {l : List Dec} {a : ByteArray} {done : List ByteArray} : rdyR (nsB l) (sR l) done a = true ↔ ∀ b ∈ nsB l, ∀ c ∈ nsB l, okF l a done b c := by
  rw [rdyR_iff]
  unfold okF
  simp only [memB_iff]
  exact ⟨fun h b hb c hc hg e => h b hg c hc e, fun h b hb c hc e => h b (grp_mem.1 hb).1 c hc hb e⟩
open Classical in
theorem sp_free {l : List Dec} (hl : Sm l) (a : ByteArray) (done : List ByteArray) : M.spec_l8Free (l8B l, withB l a, bitsB (nsB l) done) = some (rdyR (nsB l) (sR l) done a) := by
  have hlim : lim = 140737488355328 := rfl
  have hn := ns_len hl
  have hnm : (l8B l).names = nsB l := rfl
  have key := stopL (n := (nsB l).length) (by omega) (L := fun i => M.spec_l8Free_L0 (withB l a, i, bitsB (nsB l) done, l8B l)) (fun i => ∀ m, m < (nsB l).length → ∀ b c, (nsB l)[i]? = some b → (nsB l)[m]? = some c → okF l a done b c) (some (.inl false)) (some (.inr ())) (fun i hi hw => by
    have hb := List.getElem?_eq_getElem hi
    have h1 := sp_free1 hl a done hb
    have e : (∀ m, m < (nsB l).length → ∀ b c, (nsB l)[i]? = some b → (nsB l)[m]? = some c → okF l a done b c) ↔ ∀ m, m < (nsB l).length → ∀ c, (nsB l)[m]? = some c → okF l a done (nsB l)[i] c :=
      ⟨fun h m hm c hc => h m hm _ c hb hc, fun h m hm b c hb' hc => by rw [hb] at hb'; cases hb'; exact h m hm c hc⟩
    show M.spec_l8Free_L0 (withB l a, (i : Int), bitsB (nsB l) done, l8B l) = _
    rw [M.e_spec_l8Free_L0]
    simp only [hnm, show (i : Int) < ((nsB l).length : Int) by omega, decide_true, cond_true, h1, hw]
    by_cases q : ∀ m, m < (nsB l).length → ∀ c, (nsB l)[m]? = some c → okF l a done (nsB l)[i] c
    · rw [if_pos q, if_pos (e.2 q)]
      rfl
    · rw [if_neg q, if_neg (fun h => q (e.1 h))]
      rfl) (by
    show M.spec_l8Free_L0 (withB l a, ((nsB l).length : Int), bitsB (nsB l) done, l8B l) = _
    rw [M.e_spec_l8Free_L0]
    simp [hnm])
  have key : M.spec_l8Free_L0 (withB l a, 0, bitsB (nsB l) done, l8B l) = _ := key
  have iff : (∀ i, i < (nsB l).length → ∀ m, m < (nsB l).length → ∀ b c, (nsB l)[i]? = some b → (nsB l)[m]? = some c → okF l a done b c) ↔ rdyR (nsB l) (sR l) done a = true := by
    rw [rdyR_okF]
    constructor
    · intro h b hb c hc
      obtain ⟨i, hi⟩ := List.getElem?_of_mem hb
      obtain ⟨m, hm⟩ := List.getElem?_of_mem hc
      exact h i (List.getElem?_eq_some_iff.1 hi).1 m (List.getElem?_eq_some_iff.1 hm).1 b c hi hm
    · exact fun h i _ m _ b c hb hc => h b (List.mem_of_getElem? hb) c (List.mem_of_getElem? hc)
  rw [M.e_spec_l8Free]
  simp only [key]
  cases q : rdyR (nsB l) (sR l) done a with
  | true => rw [if_pos (iff.2 q)]; rfl
  | false => rw [if_neg (fun h => by rw [iff.1 h] at q; cases q)]; rfl
end Q
end W
end
section
namespace W
set_option linter.unusedVariables false
set_option maxRecDepth 100000
set_option maxHeartbeats 1000000
namespace Q
open Go HL HL.X
theorem filter_take {α : Type} (p : α → Bool) {l : List α} {k : Nat} {x : α} (h : l[k]? = some x) : (l.take (k + 1)).filter p = (l.take k).filter p ++ (bif p x then [x] else []) := by
  rw [List.take_add_one, h]
  simp only [Option.toList_some, List.filter_append]
  cases q : p x <;> simp [q]
theorem sp_take {l : List Dec} (hl : Sm l) (a : ByteArray) (done : List ByteArray) (out : List (List ByteArray)) : ∀ (n k : Nat) (d : List Bool) (nm : List ByteArray), k + n = (nsB l).length → d.length = (nsB l).length → nm.length ≤ k →
    (∀ m b, (nsB l)[m]? = some b → d[m]? = some (bif decide (m < k) then memB b (done ++ grp (nsB l) (sR l) a) else memB b done)) → nm = ((nsB l).take k).filter (fun b => memB b (grp (nsB l) (sR l) a)) →
    M.spec_Groups_L2 (withB l a, (k : Int), out, l8B l, d, nm) = some (out, l8B l, bitsB (nsB l) (done ++ grp (nsB l) (sR l) a), (nsB l).filter (fun b => memB b (grp (nsB l) (sR l) a)))
  | 0, k, d, nm, hk, hd, hlen, hm, hnm => by
    have hn := ns_len hl
    have e : k = (nsB l).length := by omega
    subst e
    rw [M.e_spec_Groups_L2]
    have hw : (l8B l).names = nsB l := rfl
    simp only [hw, show ¬ (((nsB l).length : Nat) : Int) < ((nsB l).length : Int) by omega, decide_false, cond_false]
    have hdd : d = bitsB (nsB l) (done ++ grp (nsB l) (sR l) a) := by
      apply List.ext_getElem?
      intro m
      cases hb : (nsB l)[m]? with
      | some b =>
        have hlt := (List.getElem?_eq_some_iff.1 hb).1
        rw [hm m b hb, decide_eq_true hlt]
        simp [bitsB, hb]
      | none =>
        have hge := List.getElem?_eq_none_iff.1 hb
        rw [List.getElem?_eq_none (by omega), List.getElem?_eq_none (by simp [bitsB]; omega)]
    rw [hdd, hnm, List.take_length]
  | n + 1, k, d, nm, hk, hd, hlen, hm, hnm => by
    have hlim : lim = 140737488355328 := rfl
    have hn := ns_len hl
    have hlt : k < (nsB l).length := by omega
    have hb := List.getElem?_eq_getElem hlt
    have wb := with_at (a := a) hb
    have hw : (l8B l).names = nsB l := rfl
    have hwr : IntKind.i64.wrap ((k : Int) + 1) = ((k + 1 : Nat) : Int) := by rw [wrap_ok (by omega)]; omega
    have g1 : gd ((k : Int) < (d.length : Int)) = some () := gd_t (by omega)
    rw [M.e_spec_Groups_L2]
    simp only [hw, show (k : Int) < ((nsB l).length : Int) by omega, decide_true, cond_true, ix_of wb, ix_of hb, Option.bind_some, gd_t (show (0 : Int) ≤ (k : Int) by omega), g1, Int.toNat_natCast, hwr, gd_t (show nm.length + [(nsB l)[k]].length ≤ grow by simp [grow]; omega)]
    have hf := filter_take (fun b => memB b (grp (nsB l) (sR l) a)) hb
    cases q : memB (nsB l)[k] (grp (nsB l) (sR l) a) with
    | true =>
      refine sp_take hl a done out n (k + 1) _ _ (by omega) (by simpa using hd) (by simp; omega) (fun m b hmb => ?_) (by rw [hf, q, ← hnm]; rfl)
      by_cases e : m = k
      · subst e
        rw [hb] at hmb
        cases hmb
        rw [List.getElem?_set_self (by omega), decide_eq_true (by omega)]
        have : memB (nsB l)[m] (done ++ grp (nsB l) (sR l) a) = true := memB_iff.2 (List.mem_append_right _ (memB_iff.1 q))
        rw [this]; rfl
      · rw [List.getElem?_set_ne (by omega), hm m b hmb]
        by_cases c : m < k
        · rw [decide_eq_true c, decide_eq_true (by omega)]
        · rw [decide_eq_false c, decide_eq_false (by omega)]
    | false =>
      refine sp_take hl a done out n (k + 1) _ _ (by omega) hd (by omega) (fun m b hmb => ?_) (by rw [hf, q, ← hnm]; simp)
      rw [hm m b hmb]
      by_cases e : m = k
      · subst e
        rw [hb] at hmb
        cases hmb
        rw [decide_eq_false (by omega), decide_eq_true (by omega)]
        have : memB (nsB l)[m] (done ++ grp (nsB l) (sR l) a) = memB (nsB l)[m] done := by
          rw [Bool.eq_iff_iff, memB_iff, memB_iff, List.mem_append]
          exact ⟨fun h => h.elim id (fun h => by rw [memB_iff.2 h] at q; exact absurd q (by simp)), .inl⟩
        rw [this]; rfl
      · by_cases c : m < k
        · rw [decide_eq_true c, decide_eq_true (by omega)]
        · rw [decide_eq_false c, decide_eq_false (by omega)]
end Q
end W
end
section
namespace W
set_option linter.unusedVariables false
set_option maxRecDepth 100000
set_option maxHeartbeats 1000000
namespace Q
open Go HL HL.X
theorem grp_filter (l : List Dec) (a : ByteArray) : (nsB l).filter (fun b => memB b (grp (nsB l) (sR l) a)) = grp (nsB l) (sR l) a := by
  conv => rhs; unfold grp
  refine List.filter_congr fun b hb => ?_
  rw [Bool.eq_iff_iff, memB_iff, grp_mem]
  simp [hb]
noncomputable def tkn (l : List Dec) (done : List ByteArray) (a : ByteArray) : Bool := !memB a done && rdyR (nsB l) (sR l) done a
theorem sp_pick {l : List Dec} (hl : Sm l) (done : List ByteArray) (out : List (List ByteArray)) (ho : out.length ≤ 1000000) : ∀ (n i : Nat), i + n = (nsB l).length →
    M.spec_Groups_L1 (false, (i : Int), out, l8B l, bitsB (nsB l) done) = some (match ((nsB l).drop i).find? (tkn l done) with
      | some a => (true, out ++ [grp (nsB l) (sR l) a], l8B l, bitsB (nsB l) (done ++ grp (nsB l) (sR l) a))
      | none => (false, out, l8B l, bitsB (nsB l) done))
  | 0, i, hi => by
    have hw : (l8B l).names = nsB l := rfl
    rw [M.e_spec_Groups_L1]
    simp only [hw, show ¬ (i : Int) < ((nsB l).length : Int) by omega, decide_false, cond_false]
    rw [List.drop_eq_nil_of_le (by omega)]
    rfl
  | n + 1, i, hi => by
    have hlim : lim = 140737488355328 := rfl
    have hn := ns_len hl
    have hlt : i < (nsB l).length := by omega
    have hb := List.getElem?_eq_getElem hlt
    have hw : (l8B l).names = nsB l := rfl
    have hwr : IntKind.i64.wrap ((i : Int) + 1) = ((i + 1 : Nat) : Int) := by rw [wrap_ok (by omega)]; omega
    have hbl : (bitsB (nsB l) done).length = (nsB l).length := by simp [bitsB]
    have hbd : (bitsB (nsB l) done)[i]? = some (memB (nsB l)[i] done) := by simp [bitsB, hb]
    have g1 : gd ((i : Int) < ((bitsB (nsB l) done).length : Int)) = some () := gd_t (by omega)
    have ih := sp_pick hl done out ho n (i + 1) (by omega)
    rw [M.e_spec_Groups_L1, List.drop_eq_getElem_cons hlt, List.find?_cons]
    simp only [hw, show (i : Int) < ((nsB l).length : Int) by omega, decide_true, cond_true, Bool.not_false, sp_with hl hb, Option.bind_some, gd_t (show (0 : Int) ≤ (i : Int) by omega), g1, Int.toNat_natCast, hbd, hwr, sp_free hl]
    cases q : memB (nsB l)[i] done with
    | true =>
      have ht : tkn l done (nsB l)[i] = false := by unfold tkn; rw [q]; rfl
      rw [ht, cond_true]
      exact ih
    | false =>
      cases r : rdyR (nsB l) (sR l) done (nsB l)[i] with
      | false =>
        have ht : tkn l done (nsB l)[i] = false := by unfold tkn; rw [q, r]; rfl
        rw [ht]
        exact ih
      | true =>
        have ht : tkn l done (nsB l)[i] = true := by unfold tkn; rw [q, r]; rfl
        have h2 := sp_take hl (nsB l)[i] done out (nsB l).length 0 (bitsB (nsB l) done) [] (by omega) hbl (by simp) (fun m b hmb => by simp [bitsB, hmb]) (by simp)
        rw [grp_filter] at h2
        have h2 : M.spec_Groups_L2 (withB l (nsB l)[i], 0, out, l8B l, bitsB (nsB l) done, []) = _ := h2
        rw [ht]
        simp only [cond_false, Bool.not_true, h2, Option.bind_some, gd_t (show out.length + [grp (nsB l) (sR l) (nsB l)[i]].length ≤ grow by simp [grow]; omega)]
        rw [M.e_spec_Groups_L1]
        simp only [Bool.not_true, cond_false]
        cases decide (((i + 1 : Nat) : Int) < ((l8B l).names.length : Int)) <;> rfl
end Q
end W
end
section
namespace W
set_option linter.unusedVariables false
set_option maxRecDepth 100000
set_option maxHeartbeats 1000000
namespace Q
open Go HL HL.X
theorem memB_dec {x : ByteArray} {done : List ByteArray} {i : Decidable (x ∈ done)} : memB x done = @decide (x ∈ done) i := by
  cases q : memB x done with
  | true => exact (@decide_eq_true (x ∈ done) i (memB_iff.1 q)).symm
  | false => exact (@decide_eq_false (x ∈ done) i (fun m => by rw [memB_iff.2 m] at q; cases q)).symm
theorem tkn_pick {l : List Dec} {done : List ByteArray} (hc : Cld (needB l) done) : (nsB l).find? (tkn l done) = pick (nsB l) (needB l) (sR l) done := by
  unfold pick
  refine pick_at (tkn l done) (nsB l) fun x hx => ?_
  unfold tkn
  rw [rdy_R (sWeb l) hc]
  congr 1
  congr 1
  exact memB_dec
theorem sp_rounds {l : List Dec} (hl : Sm l) : ∀ (n : Nat) (done : List ByteArray) (out : List (List ByteArray)), Cld (needB l) done → (nsB l).countP (fun x => !memB x done) < n → out.length + n ≤ 1000000 →
    M.spec_Groups_L0 (true, out, l8B l, bitsB (nsB l) done) = some (out ++ rounds (nsB l) (needB l) (sR l) n done)
  | 0, done, out, hc, hn, ho => by omega
  | n + 1, done, out, hc, hn, ho => by
    have h1 := sp_pick hl done out (by omega) (nsB l).length 0 (by omega)
    rw [List.drop_zero, tkn_pick hc] at h1
    have h1 : M.spec_Groups_L1 (false, 0, out, l8B l, bitsB (nsB l) done) = _ := h1
    rw [M.e_spec_Groups_L0]
    simp only [cond_true, h1, Option.bind_some, rounds]
    cases hp : pick (nsB l) (needB l) (sR l) done with
    | none =>
      simp only []
      rw [M.e_spec_Groups_L0]
      simp
    | some a =>
      obtain ⟨p1, p2, p3⟩ := pick_some (sWeb l) hp
      have haa : a ∈ grp (nsB l) (sR l) a := grp_mem.2 ⟨p1, .inl rfl⟩
      have m1 : memB a done = false := by
        cases q : memB a done with
        | false => rfl
        | true => exact absurd (memB_iff.1 q) p2
      have m2 : memB a (done ++ grp (nsB l) (sR l) a) = true := memB_iff.2 (List.mem_append_right _ haa)
      have hlt : (nsB l).countP (fun x => !memB x (done ++ grp (nsB l) (sR l) a)) < (nsB l).countP (fun x => !memB x done) := by
        refine countP_lt (fun x hx h => ?_) p1 (by rw [m1]; rfl) (by rw [m2]; rfl)
        cases q : memB x done with
        | false => rfl
        | true =>
          rw [memB_iff.2 (List.mem_append_left _ (memB_iff.1 q))] at h
          cases h
      have ih := sp_rounds hl n (done ++ grp (nsB l) (sR l) a) (out ++ [grp (nsB l) (sR l) a]) ((sWeb l).cld hc p3) (by omega) (by simp; omega)
      simp only [ih, List.append_assoc, List.singleton_append]
theorem sp_Groups {l : List Dec} (hl : Sm l) : M.spec_Groups l = some (rounds (nsB l) (needB l) (sR l) 2000 []) := by
  have hn := ns_len hl
  have hw : (l8B l).names = nsB l := rfl
  have hb : List.replicate (nsB l).length false = bitsB (nsB l) [] := by
    unfold bitsB
    exact (List.eq_replicate_iff.2 ⟨by simp, fun b hb => by
      obtain ⟨x, _, h⟩ := List.mem_map.1 hb
      exact h.symm⟩).symm
  have h := sp_rounds hl 2000 [] [] (fun a b h => by cases h) (Nat.lt_of_le_of_lt List.countP_le_length (by omega)) (by simp)
  rw [M.e_spec_Groups]
  simp only [mk8 hl, Option.bind_some, hw, gd_t (show (0 : Int) ≤ ((nsB l).length : Int) by omega), gd_t (show ((nsB l).length : Int) ≤ 1099511627776 by omega), Int.toNat_natCast, hb, h]
  rfl
end Q
end W
end
section
namespace W
set_option linter.unusedVariables false
set_option maxRecDepth 100000
set_option maxHeartbeats 1000000
namespace Q
open Go HL HL.X
theorem compact_nodup {zs : List (List UInt8)} (h : zs.Nodup) : Lib.compact zs = zs := by
  unfold Lib.compact Lib.compactUpTo
  rw [List.filter_eq_self.2]
  · apply List.ext_getElem
    · simp
    · intro i h1 h2
      simp only [List.getElem_map, List.getElem_range]
      rw [getElem!_pos zs.toArray i (by simpa using h2)]
      simp
  · intro m hm
    have hlt : m < zs.length := List.mem_range.1 hm
    refine decide_eq_true ?_
    by_cases e : m = 0
    · exact .inl e
    · refine .inr fun q => ?_
      rw [getElem!_pos zs.toArray m (by simpa using hlt), getElem!_pos zs.toArray (m - 1) (by simp; omega)] at q
      have := (List.getElem_inj h (i := m) (j := m - 1) (h₀ := hlt) (h₁ := by omega)).1 (by simpa using q)
      omega
theorem strs_bytes (l : List ByteArray) : strsL (bytesL l) = l := by
  unfold strsL bytesL
  rw [List.map_map]
  conv => rhs; rw [← List.map_id l]
  exact List.map_congr_left fun x _ => by simp
theorem compactB_once {l : List ByteArray} (h : l.Nodup) : compactB l = l := by
  unfold compactB
  rw [compact_nodup (by
    unfold bytesL
    exact List.Pairwise.map _ (fun a b hab e => hab (by
      have : a.data = b.data := Array.toList_inj.1 e
      cases a; cases b; simp_all)) h)]
  exact strs_bytes l
end Q
end W
end
section
namespace W
set_option linter.unusedVariables false
set_option maxRecDepth 100000
set_option maxHeartbeats 1000000
namespace Q
open Go HL HL.X
noncomputable def tog (l : List Dec) (a b : ByteArray) : Bool := decide (b = a) || (iR l a b && iR l b a)
theorem im_togL {l : List Dec} (hl : Sm l) (a : ByteArray) : ∀ (k i : Nat) (out : List ByteArray), i + k = l.length → out.length + k ≤ 2000000 → M.impl_together_L0 (l, a, l, (l.length : Int), (i : Int), out) = some (out ++ (nmB (l.drop i)).filter (tog l a))
  | 0, i, out, e, h => by
    rw [M.e_impl_together_L0]
    simp only [show ¬ (i : Int) < (l.length : Int) by omega, decide_false, cond_false]
    rw [List.drop_eq_nil_of_le (by omega)]
    simp [nmB]
  | k + 1, i, out, e, h => by
    have h0 := hl.1
    have hi : i < l.length := by omega
    have hw : IntKind.i64.wrap ((i : Int) + 1) = ((i + 1 : Nat) : Int) := by rw [wrap_ok (by omega)]; omega
    have ih1 := im_togL hl a k (i + 1) (out ++ [l[i].Name]) (by omega) (by simp; omega)
    have ih2 := im_togL hl a k (i + 1) out (by omega) (by omega)
    have hf : (nmB (l.drop i)).filter (tog l a) = (bif tog l a l[i].Name then [l[i].Name] else []) ++ (nmB (l.drop (i + 1))).filter (tog l a) := by
      rw [List.drop_eq_getElem_cons hi]
      simp only [nmB, List.map_cons, List.filter_cons]
      cases tog l a l[i].Name <;> rfl
    rw [M.e_impl_together_L0, hf]
    simp only [show (i : Int) < (l.length : Int) by omega, decide_true, cond_true, ix_of (List.getElem?_eq_getElem hi), Option.bind_some, im_Reaches hl, hw, gd_t (show out.length + [l[i].Name].length ≤ grow by simp [grow]; omega), ih1, ih2]
    have hg := gd_t (show out.length + [l[i].Name].length ≤ grow by simp [grow]; omega)
    have ht : tog l a l[i].Name = (decide (l[i].Name = a) || (iR l a l[i].Name && iR l l[i].Name a)) := rfl
    rw [ht]
    cases decide (l[i].Name = a) <;> cases iR l a l[i].Name <;> cases iR l l[i].Name a <;>
      simp only [cond_true, cond_false, Bool.true_or, Bool.false_or, Bool.true_and, Bool.false_and, Option.bind_some, hg, ih1, ih2, List.append_assoc, List.singleton_append, List.nil_append]
end Q
end W
end
section
namespace W
set_option linter.unusedVariables false
set_option maxRecDepth 100000
set_option maxHeartbeats 1000000
namespace Q
open Go HL HL.X
theorem fst_any {α : Type} {p : α → Bool} : ∀ {l : List α}, (fstI p l).isSome = l.any p
  | [] => rfl
  | x :: l => by
    rw [fstI, List.any_cons, ← fst_any (l := l)]
    cases p x with
    | true => rfl
    | false => cases fstI p l <;> rfl
noncomputable def outB (g came : List ByteArray) (s : ByteArray) : Bool := !dc (s ∈ g) && !memB s came
theorem im_g11 {g came : List ByteArray} (hg : g.length ≤ 2000000) (hc : came.length ≤ 2000000) (s : ByteArray) : M.impl_Groups_1_1 (s, g, came) = some (outB g came s, g) := by
  have hlim : lim = 140737488355328 := rfl
  have h : M.slices_Contains_string (g, s) = some (dc (s ∈ g)) := im_contains (l := g) (by omega) s
  rw [M.e_impl_Groups_1_1]
  simp only [h, Option.bind_some, im_containsV hc]
  unfold outB
  cases dc (s ∈ g) <;> rfl
theorem im_any11 {r g came : List ByteArray} (hr : r.length ≤ 2000000) (hg : g.length ≤ 2000000) (hc : came.length ≤ 2000000) : M.slices_ContainsFunc_string_at_Groups_1_1 (r, g, came) = some (r.any (outB g came), g) := by
  have hlim : lim = 140737488355328 := rfl
  have h := firstL (l := r) (by omega) (outB g came) (L := fun i => M.slices_IndexFunc_string_at_Groups_1_1_L0 (r, (r.length : Int), i, g, came)) (fun i => .inl ((i : Int), g)) (.inr g) (fun i x hx hix hi hw => by
    show M.slices_IndexFunc_string_at_Groups_1_1_L0 (r, (r.length : Int), (i : Int), g, came) = _
    rw [M.e_slices_IndexFunc_string_at_Groups_1_1_L0]
    simp only [hi, decide_true, cond_true, hix, Option.bind_some, hw, im_g11 hg hc]) (by
    show M.slices_IndexFunc_string_at_Groups_1_1_L0 (r, (r.length : Int), (r.length : Int), g, came) = _
    rw [M.e_slices_IndexFunc_string_at_Groups_1_1_L0]
    simp)
  have h : M.slices_IndexFunc_string_at_Groups_1_1_L0 (r, (r.length : Int), 0, g, came) = _ := h
  rw [M.e_slices_ContainsFunc_string_at_Groups_1_1, M.e_slices_IndexFunc_string_at_Groups_1_1]
  simp only [h, Option.bind_some, ← fst_any]
  cases fstI (outB g came) r with
  | none => rfl
  | some i => simp
noncomputable def lackB (l : List Dec) (g came : List ByteArray) (s : ByteArray) : Bool := match M.impl_Needs (l, s) with
  | some r => r.any (outB g came)
  | none => false
theorem im_g1 {l : List Dec} (hl : Sm l) {g came : List ByteArray} (hg : g.length ≤ 2000000) (hc : came.length ≤ 2000000) (s : ByteArray) : M.impl_Groups_1 (s, l, g, came) = some (lackB l g came s, l, g) := by
  obtain ⟨r, e1, _, r3, _⟩ := iNeed_eq hl s
  rw [M.e_impl_Groups_1]
  unfold lackB
  simp only [e1, Option.bind_some, im_any11 (r := r) (by omega) hg hc]
theorem im_any1 {l : List Dec} (hl : Sm l) {r g came : List ByteArray} (hr : r.length ≤ 2000000) (hg : g.length ≤ 2000000) (hc : came.length ≤ 2000000) : M.slices_ContainsFunc_string_at_Groups_1 (r, l, g, came) = some (r.any (lackB l g came), l, g) := by
  have hlim : lim = 140737488355328 := rfl
  have h := firstL (l := r) (by omega) (lackB l g came) (L := fun i => M.slices_IndexFunc_string_at_Groups_1_L0 (r, (r.length : Int), i, l, g, came)) (fun i => .inl ((i : Int), l, g)) (.inr (l, g)) (fun i x hx hix hi hw => by
    show M.slices_IndexFunc_string_at_Groups_1_L0 (r, (r.length : Int), (i : Int), l, g, came) = _
    rw [M.e_slices_IndexFunc_string_at_Groups_1_L0]
    simp only [hi, decide_true, cond_true, hix, Option.bind_some, hw, im_g1 hl hg hc]) (by
    show M.slices_IndexFunc_string_at_Groups_1_L0 (r, (r.length : Int), (r.length : Int), l, g, came) = _
    rw [M.e_slices_IndexFunc_string_at_Groups_1_L0]
    simp)
  have h : M.slices_IndexFunc_string_at_Groups_1_L0 (r, (r.length : Int), 0, l, g, came) = _ := h
  rw [M.e_slices_ContainsFunc_string_at_Groups_1, M.e_slices_IndexFunc_string_at_Groups_1]
  simp only [h, Option.bind_some, ← fst_any]
  cases fstI (lackB l g came) r with
  | none => rfl
  | some i => simp
theorem lack_iff {l : List Dec} (hl : Sm l) {g came : List ByteArray} {s : ByteArray} : lackB l g came s = false ↔ ∀ c ∈ nsB l, iNeed l s c = true → c ∈ g ∨ c ∈ came := by
  obtain ⟨r, e1, _, _, r4, r5, _⟩ := iNeed_eq hl s
  unfold lackB
  rw [e1]
  simp only [List.any_eq_false]
  unfold outB
  constructor
  · intro h c _ q
    have := h c ((r4 c).2 q)
    simp only [Bool.and_eq_true, Bool.not_eq_true', not_and] at this
    by_cases a : c ∈ g
    · exact .inl a
    · refine .inr (Classical.byContradiction fun b => this (dc_f a) ?_)
      cases e : memB c came with
      | false => rfl
      | true => exact absurd (memB_iff.1 e) b
  · intro h c hc
    simp only [Bool.and_eq_true, Bool.not_eq_true', not_and]
    intro a b
    rcases h c (ns_mem.2 (r5 c hc)) ((r4 c).1 hc) with q | q
    · rw [dc_t q] at a; cases a
    · rw [memB_iff.2 q] at b; cases b
theorem im_rdy {l : List Dec} (hl : Sm l) {came : List ByteArray} {a : ByteArray} : (grp (nsB l) (iR l) a).any (lackB l (grp (nsB l) (iR l) a) came) = !rdy (nsB l) (iNeed l) (iR l) came a := by
  have h : (grp (nsB l) (iR l) a).any (lackB l (grp (nsB l) (iR l) a) came) = false ↔ rdy (nsB l) (iNeed l) (iR l) came a = true := by
    rw [rdy_iff, List.any_eq_false]
    exact ⟨fun h b hb => (lack_iff hl).1 (by have := h b hb; simpa using this), fun h b hb => by have := (lack_iff hl).2 (h b hb); simp [this]⟩
  cases q : rdy (nsB l) (iNeed l) (iR l) came a with
  | true => rw [h.2 q]; rfl
  | false =>
    cases e : (grp (nsB l) (iR l) a).any (lackB l (grp (nsB l) (iR l) a) came) with
    | true => rfl
    | false => rw [h.1 e] at q; cases q
end Q
end W
end
section
namespace W
set_option linter.unusedVariables false
set_option maxRecDepth 100000
set_option maxHeartbeats 1000000
namespace Q
open Go HL HL.X
def Tg (l : List Dec) : Prop := ∀ a ∈ nmB l, compactB ((nmB l).filter (tog l a)) = grp (nsB l) (iR l) a
theorem im_together {l : List Dec} (hl : Sm l) (ht : Tg l) {a : ByteArray} (ha : a ∈ nmB l) : M.impl_together (l, a) = some (grp (nsB l) (iR l) a) := by
  have h0 := hl.1
  have h := im_togL hl a l.length 0 [] (by omega) (by simp; omega)
  rw [List.drop_zero, List.nil_append] at h
  have h : M.impl_together_L0 (l, a, l, (l.length : Int), 0, []) = _ := h
  rw [M.e_impl_together]
  simp only [h, Option.bind_some, M.e_slices_Compact_string, ht a ha]
theorem grp_len {l : List Dec} (hl : Sm l) (R : ByteArray → ByteArray → Bool) (a : ByteArray) : (grp (nsB l) R a).length ≤ 1000 := Nat.le_trans (List.length_filter_le _ _) (ns_len hl)
noncomputable def tkI (l : List Dec) (came : List ByteArray) (a : ByteArray) : Bool := !memB a came && rdy (nsB l) (iNeed l) (iR l) came a
theorem im_pick {l : List Dec} (hl : Sm l) (ht : Tg l) {came : List ByteArray} (hc : came.length ≤ 2000000) (out : List (List ByteArray)) : ∀ (n i : Nat), i + n = l.length →
    M.impl_Groups_L1 ([], l, (l.length : Int), (i : Int), l, out, came) = some (match (nmB (l.drop i)).find? (tkI l came) with
      | some a => (grp (nsB l) (iR l) a, l, out, came)
      | none => ([], l, out, came))
  | 0, i, hi => by
    rw [M.e_impl_Groups_L1]
    simp only [show ¬ (i : Int) < (l.length : Int) by omega, decide_false, cond_false]
    rw [List.drop_eq_nil_of_le (by omega)]
    rfl
  | n + 1, i, hi => by
    have hlim : lim = 140737488355328 := rfl
    have h0 := hl.1
    have hlt : i < l.length := by omega
    have hb := List.getElem?_eq_getElem hlt
    have hm : l[i].Name ∈ nmB l := List.mem_map.2 ⟨_, List.getElem_mem hlt, rfl⟩
    have hwr : IntKind.i64.wrap ((i : Int) + 1) = ((i + 1 : Nat) : Int) := by rw [wrap_ok (by omega)]; omega
    have ih := im_pick hl ht hc out n (i + 1) (by omega)
    have hg := grp_len hl (iR l) l[i].Name
    have hd : nmB (l.drop i) = l[i].Name :: nmB (l.drop (i + 1)) := by rw [List.drop_eq_getElem_cons hlt]; rfl
    rw [M.e_impl_Groups_L1, hd, List.find?_cons]
    simp only [show (i : Int) < (l.length : Int) by omega, decide_true, cond_true, ix_of hb, Option.bind_some, im_containsV hc, hwr, im_together hl ht hm, im_any1 hl (r := grp (nsB l) (iR l) l[i].Name) (g := grp (nsB l) (iR l) l[i].Name) (by omega) (by omega) hc, im_rdy hl, ih, Bool.not_not]
    unfold tkI
    cases memB l[i].Name came with
    | true => rfl
    | false => cases rdy (nsB l) (iNeed l) (iR l) came l[i].Name <;> rfl
theorem find_once {p : ByteArray → Bool} : ∀ (l out : List ByteArray), (onceB out l).find? p = (out ++ l).find? p
  | [], out => by simp [onceB]
  | s :: l, out => by
    rw [onceB]
    by_cases q : memB s out = true
    · rw [if_pos q, find_once l out, List.find?_append, List.find?_append, List.find?_cons]
      have hs := memB_iff.1 q
      cases hf : out.find? p with
      | some a => rfl
      | none =>
        have := List.find?_eq_none.1 hf s hs
        cases e : p s with
        | true => exact absurd e this
        | false => rfl
    · rw [if_neg q, find_once l (out ++ [s]), List.append_assoc, List.singleton_append]
theorem tkI_pick {l : List Dec} {came : List ByteArray} : (nmB l).find? (tkI l came) = pick (nsB l) (iNeed l) (iR l) came := by
  have h := find_once (p := tkI l came) (nmB l) []
  rw [List.nil_append] at h
  rw [← h]
  unfold pick
  refine pick_at (tkI l came) (nsB l) fun x hx => ?_
  unfold tkI
  congr 1
  congr 1
  exact memB_dec
theorem im_rounds {l : List Dec} (hl : Sm l) (ht : Tg l) : ∀ (n : Nat) (came : List ByteArray) (out : List (List ByteArray)), (nsB l).countP (fun x => !memB x came) < n → out.length + n ≤ 1000000 → came.length + 1000 * n ≤ 2000000 →
    M.impl_Groups_L0 (l, out, came) = some (out ++ rounds (nsB l) (iNeed l) (iR l) n came)
  | 0, came, out, hn, ho, hc => by omega
  | n + 1, came, out, hn, ho, hc => by
    have h1 := im_pick hl ht (came := came) (by omega) out l.length 0 (by omega)
    rw [List.drop_zero, tkI_pick] at h1
    have h1 : M.impl_Groups_L1 ([], l, (l.length : Int), 0, l, out, came) = _ := h1
    rw [M.e_impl_Groups_L0]
    simp only [h1, Option.bind_some, rounds]
    cases hp : pick (nsB l) (iNeed l) (iR l) came with
    | none =>
      simp
    | some a =>
      obtain ⟨p1, p2, p3⟩ := pick_some (iWeb hl) hp
      have haa : a ∈ grp (nsB l) (iR l) a := grp_mem.2 ⟨p1, .inl rfl⟩
      have hg := grp_len hl (iR l) a
      have hg0 : ¬ ((grp (nsB l) (iR l) a).length : Int) = 0 := by have := List.length_pos_of_mem haa; omega
      have m1 : memB a came = false := by
        cases q : memB a came with
        | false => rfl
        | true => exact absurd (memB_iff.1 q) p2
      have m2 : memB a (came ++ grp (nsB l) (iR l) a) = true := memB_iff.2 (List.mem_append_right _ haa)
      have hlt : (nsB l).countP (fun x => !memB x (came ++ grp (nsB l) (iR l) a)) < (nsB l).countP (fun x => !memB x came) := by
        refine countP_lt (fun x hx h => ?_) p1 (by rw [m1]; rfl) (by rw [m2]; rfl)
        cases q : memB x came with
        | false => rfl
        | true =>
          rw [memB_iff.2 (List.mem_append_left _ (memB_iff.1 q))] at h
          cases h
      have ih := im_rounds hl ht n (came ++ grp (nsB l) (iR l) a) (out ++ [grp (nsB l) (iR l) a]) (by omega) (by simp; omega) (by simp; omega)
      simp only [decide_eq_false hg0, cond_false, gd_t (show out.length + [grp (nsB l) (iR l) a].length ≤ grow by simp [grow]; omega), gd_t (show came.length + (grp (nsB l) (iR l) a).length ≤ grow by simp [grow]; omega), Option.bind_some, ih, List.append_assoc, List.singleton_append]
theorem im_Groups {l : List Dec} (hl : Sm l) (ht : Tg l) : M.impl_Groups l = some (rounds (nsB l) (iNeed l) (iR l) 2000 []) := by
  have hn := ns_len hl
  have h := im_rounds hl ht 2000 [] [] (Nat.lt_of_le_of_lt List.countP_le_length (by omega)) (by simp) (by simp)
  rw [M.e_impl_Groups, h]
  rfl
end Q
end W
end
section
namespace W
set_option linter.unusedVariables false
set_option maxRecDepth 100000
set_option maxHeartbeats 1000000
namespace Q
open Go HL HL.X
theorem law_has {l : List ByteArray} (hl : l.length ≤ 4000000) (s : ByteArray) : M.laws_hasText (s, l) = some (memB s l) := by
  have hlim : lim = 140737488355328 := rfl
  have h := firstL (l := l) (by omega) (fun y => decide (y = s)) (L := fun i => M.laws_hasText_L0 (s, i, l)) (fun i => .inl true) (.inr ()) (fun i y hy hix hi hw => by
    show M.laws_hasText_L0 (s, (i : Int), l) = _
    rw [M.e_laws_hasText_L0]
    simp only [hi, decide_true, cond_true, gd_t (show (0 : Int) ≤ (i : Int) by omega), gdT, Option.bind_some, Int.toNat_natCast, hy, hw]) (by
    show M.laws_hasText_L0 (s, (l.length : Int), l) = _
    rw [M.e_laws_hasText_L0]
    simp)
  have h : M.laws_hasText_L0 (s, 0, l) = _ := h
  have e : memB s l = (fstI (fun y => decide (y = s)) l).isSome := by rw [fst_any]; rfl
  rw [M.e_laws_hasText, h, e]
  cases fstI (fun y => decide (y = s)) l <;> rfl
theorem law_textsL {r : List ByteArray} (hr : r.length ≤ 4000000) : ∀ (k i : Nat), i + k = r.length → M.laws_sameTexts_L0 (r, r, (i : Int)) = some (.inr ())
  | 0, i, h => by
    rw [M.e_laws_sameTexts_L0]
    simp only [show ¬ (i : Int) < (r.length : Int) by omega, decide_false, cond_false]
  | k + 1, i, h => by
    have hi : i < r.length := by omega
    have hw : IntKind.i64.wrap ((i : Int) + 1) = ((i + 1 : Nat) : Int) := by rw [wrap_ok (by omega)]; omega
    rw [M.e_laws_sameTexts_L0]
    simp only [show (i : Int) < (r.length : Int) by omega, decide_true, cond_true, ix_of (List.getElem?_eq_getElem hi), Option.bind_some, Bool.not_true, cond_false, hw, law_textsL hr k (i + 1) (by omega)]
theorem law_texts {r : List ByteArray} (hr : r.length ≤ 4000000) : M.laws_sameTexts (r, r) = some true := by
  have h : M.laws_sameTexts_L0 (r, r, 0) = _ := law_textsL hr r.length 0 (by omega)
  rw [M.e_laws_sameTexts]
  simp only [decide_true, Bool.not_true, cond_false, h, Option.bind_some, Sum.elim_inr]
theorem law_groupsL {r : List (List ByteArray)} (hr : r.length ≤ 4000000) (hg : ∀ g ∈ r, g.length ≤ 4000000) : ∀ (k i : Nat), i + k = r.length → M.laws_sameGroups_L0 (r, r, (i : Int)) = some (.inr ())
  | 0, i, h => by
    rw [M.e_laws_sameGroups_L0]
    simp only [show ¬ (i : Int) < (r.length : Int) by omega, decide_false, cond_false]
  | k + 1, i, h => by
    have hi : i < r.length := by omega
    have hw : IntKind.i64.wrap ((i : Int) + 1) = ((i + 1 : Nat) : Int) := by rw [wrap_ok (by omega)]; omega
    rw [M.e_laws_sameGroups_L0]
    simp only [show (i : Int) < (r.length : Int) by omega, decide_true, cond_true, ix_of (List.getElem?_eq_getElem hi), Option.bind_some, law_texts (hg _ (List.getElem_mem hi)), Bool.not_true, cond_false, hw, law_groupsL hr hg k (i + 1) (by omega)]
theorem law_groups {r : List (List ByteArray)} (hr : r.length ≤ 4000000) (hg : ∀ g ∈ r, g.length ≤ 4000000) : M.laws_sameGroups (r, r) = some true := by
  have h : M.laws_sameGroups_L0 (r, r, 0) = _ := law_groupsL hr hg r.length 0 (by omega)
  rw [M.e_laws_sameGroups]
  simp only [decide_true, Bool.not_true, cond_false, h, Option.bind_some, Sum.elim_inr]
end Q
end W
end
section
namespace W
set_option linter.unusedVariables false
set_option maxRecDepth 100000
set_option maxHeartbeats 1000000
namespace Q
open Go HL HL.X
theorem lawL2 {l : List Dec} (hl : Sm l) {G : List (List ByteArray)} {i : Nat} {g : List ByteArray} (hG : G[i]? = some g) (hn : g.length ≤ 1000000) {k : Nat} {x : ByteArray} (hk : g[k]? = some x) (done : List ByteArray)
    (hr : ∀ j y, j < k → g[j]? = some y → iR l x y = true ∧ iR l y x = true) : ∀ (n j : Nat), j + n = k → M.laws_FnGroups_L2 (l, G, (i : Int), (k : Int), (j : Int), done) = some (.inr done)
  | 0, j, h => by
    rw [M.e_laws_FnGroups_L2]
    simp only [show ¬ (j : Int) < (k : Int) by omega, decide_false, cond_false]
  | n + 1, j, h => by
    have hkl := (List.getElem?_eq_some_iff.1 hk).1
    have hj : j < g.length := by omega
    have hw : IntKind.i64.wrap ((j : Int) + 1) = ((j + 1 : Nat) : Int) := by rw [wrap_ok (by omega)]; omega
    obtain ⟨r1, r2⟩ := hr j g[j] (by omega) (List.getElem?_eq_getElem hj)
    rw [M.e_laws_FnGroups_L2]
    simp only [show (j : Int) < (k : Int) by omega, decide_true, cond_true, ix_of hG, ix_of hk, ix_of (List.getElem?_eq_getElem hj), Option.bind_some, im_Reaches hl, r1, r2, Bool.not_true, cond_false, hw, lawL2 hl hG hn hk done hr n (j + 1) (by omega)]
theorem lawL1 {l : List Dec} (hl : Sm l) {G : List (List ByteArray)} {i : Nat} {g : List ByteArray} (hG : G[i]? = some g) (hn : g.length ≤ 1000000) (hd : g.Nodup) (done : List ByteArray) (hdl : done.length ≤ 2000000) (hnew : ∀ x ∈ g, x ∉ done)
    (hr : ∀ x ∈ g, ∀ y ∈ g, x ≠ y → iR l x y = true) : ∀ (n k : Nat), k + n = g.length → M.laws_FnGroups_L1 (l, G, (i : Int), (k : Int), done ++ g.take k) = some (.inr (done ++ g))
  | 0, k, h => by
    have e : k = g.length := by omega
    subst e
    rw [M.e_laws_FnGroups_L1]
    simp only [ix_of hG, Option.bind_some, show ¬ ((g.length : Nat) : Int) < (g.length : Int) by omega, decide_false, cond_false, List.take_length]
  | n + 1, k, h => by
    have hk : k < g.length := by omega
    have hgk := List.getElem?_eq_getElem hk
    have hw : IntKind.i64.wrap ((k : Int) + 1) = ((k + 1 : Nat) : Int) := by rw [wrap_ok (by omega)]; omega
    have hlen : (done ++ g.take k).length ≤ 3000000 := by simp; omega
    have hm : memB g[k] (done ++ g.take k) = false := by
      cases q : memB g[k] (done ++ g.take k) with
      | false => rfl
      | true =>
        rcases List.mem_append.1 (memB_iff.1 q) with h1 | h1
        · exact absurd h1 (hnew _ (List.getElem_mem hk))
        · obtain ⟨j, hj, e⟩ := List.getElem_of_mem h1
          rw [List.length_take] at hj
          rw [List.getElem_take] at e
          have := (List.getElem_inj hd (h₀ := by omega) (h₁ := hk)).1 e
          omega
    have ht : done ++ g.take k ++ [g[k]] = done ++ g.take (k + 1) := by rw [List.take_add_one, hgk]; simp
    have hr2 : ∀ j y, j < k → g[j]? = some y → iR l g[k] y = true ∧ iR l y g[k] = true := by
      intro j y hj hy
      obtain ⟨hjl, rfl⟩ := List.getElem?_eq_some_iff.1 hy
      have hne : g[k] ≠ g[j] := fun e => by
        have := (List.getElem_inj hd (h₀ := hk) (h₁ := hjl)).1 e
        omega
      exact ⟨hr _ (List.getElem_mem hk) _ (List.getElem_mem hjl) hne, hr _ (List.getElem_mem hjl) _ (List.getElem_mem hk) fun e => hne e.symm⟩
    have h2 : M.laws_FnGroups_L2 (l, G, (i : Int), (k : Int), 0, done ++ g.take (k + 1)) = _ := lawL2 hl hG hn hgk (done ++ g.take (k + 1)) hr2 k 0 (by omega)
    rw [M.e_laws_FnGroups_L1]
    simp only [ix_of hG, Option.bind_some, show (k : Int) < (g.length : Int) by omega, decide_true, cond_true, ix_of hgk, law_has (l := done ++ g.take k) (by omega), hm, cond_false, gd_t (show (done ++ g.take k).length + [g[k]].length ≤ grow by simp [grow]; omega), ht, h2, Sum.elim_inr, hw, lawL1 hl hG hn hd done hdl hnew hr n (k + 1) (by omega)]
theorem lawL4 {done n : List ByteArray} (hdl : done.length ≤ 4000000) (hn : n.length ≤ 4000000) (h : ∀ x ∈ n, x ∈ done) : ∀ (k i : Nat), i + k = n.length → M.laws_FnGroups_L4 ((i : Int), done, n) = some (.inr done)
  | 0, i, e => by
    rw [M.e_laws_FnGroups_L4]
    simp only [show ¬ (i : Int) < (n.length : Int) by omega, decide_false, cond_false]
  | k + 1, i, e => by
    have hi : i < n.length := by omega
    have hw : IntKind.i64.wrap ((i : Int) + 1) = ((i + 1 : Nat) : Int) := by rw [wrap_ok (by omega)]; omega
    have hm : memB n[i] done = true := memB_iff.2 (h _ (List.getElem_mem hi))
    rw [M.e_laws_FnGroups_L4]
    simp only [show (i : Int) < (n.length : Int) by omega, decide_true, cond_true, gd_t (show (0 : Int) ≤ (i : Int) by omega), gdT, Option.bind_some, Int.toNat_natCast, List.getElem?_eq_getElem hi, law_has hdl, hm, Bool.not_true, cond_false, hw, lawL4 hdl hn h k (i + 1) (by omega)]
theorem lawL3 {l : List Dec} (hl : Sm l) {G : List (List ByteArray)} {i : Nat} {g : List ByteArray} (hG : G[i]? = some g) (hn : g.length ≤ 1000000) (done : List ByteArray) (hdl : done.length ≤ 4000000)
    (hr : ∀ x ∈ g, ∀ y, iNeed l x y = true → y ∈ done) : ∀ (n k : Nat), k + n = g.length → M.laws_FnGroups_L3 (l, G, (i : Int), (k : Int), done) = some (.inr done)
  | 0, k, h => by
    have e : k = g.length := by omega
    subst e
    rw [M.e_laws_FnGroups_L3]
    simp only [ix_of hG, Option.bind_some, show ¬ ((g.length : Nat) : Int) < (g.length : Int) by omega, decide_false, cond_false]
  | n + 1, k, h => by
    have hk : k < g.length := by omega
    have hgk := List.getElem?_eq_getElem hk
    have hw : IntKind.i64.wrap ((k : Int) + 1) = ((k + 1 : Nat) : Int) := by rw [wrap_ok (by omega)]; omega
    obtain ⟨r, e1, _, r3, r4, _⟩ := iNeed_eq hl g[k]
    have h4 : M.laws_FnGroups_L4 (0, done, r) = _ := lawL4 hdl (n := r) (by omega) (fun x hx => hr _ (List.getElem_mem hk) x ((r4 x).1 hx)) r.length 0 (by omega)
    rw [M.e_laws_FnGroups_L3]
    simp only [ix_of hG, Option.bind_some, show (k : Int) < (g.length : Int) by omega, decide_true, cond_true, ix_of hgk, e1, h4, Sum.elim_inr, hw, lawL3 hl hG hn done hdl hr n (k + 1) (by omega)]
theorem lawL0 {l : List Dec} (hl : Sm l) {G : List (List ByteArray)} (hGl : G.length ≤ 1000000) (hg : ∀ g ∈ G, g.length ≤ 1000) : ∀ (n i : Nat) (done : List ByteArray), i + n = G.length → done.length + 1000 * n ≤ 2000000 → Good (nsB l) (iNeed l) (iR l) done (G.drop i) →
    M.laws_FnGroups_L0 (l, G, (i : Int), done) = some (.inr (done ++ (G.drop i).flatten))
  | 0, i, done, h, _, _ => by
    rw [M.e_laws_FnGroups_L0]
    simp only [show ¬ (i : Int) < (G.length : Int) by omega, decide_false, cond_false]
    rw [List.drop_eq_nil_of_le (by omega)]
    simp
  | n + 1, i, done, h, hdl, hgood => by
    have hi : i < G.length := by omega
    have hGi := List.getElem?_eq_getElem hi
    have hw : IntKind.i64.wrap ((i : Int) + 1) = ((i + 1 : Nat) : Int) := by rw [wrap_ok (by omega)]; omega
    have hlen := hg _ (List.getElem_mem hi)
    rw [List.drop_eq_getElem_cons hi] at hgood ⊢
    obtain ⟨g1, g2, g3, g4, g5, g6⟩ := hgood
    have h1 := lawL1 hl hGi (by omega) g2 done (by omega) (fun x hx => (g3 x hx).2) g4 G[i].length 0 (by omega)
    rw [List.take_zero, List.append_nil] at h1
    have h1 : M.laws_FnGroups_L1 (l, G, (i : Int), 0, done) = _ := h1
    have h3 : M.laws_FnGroups_L3 (l, G, (i : Int), 0, done ++ G[i]) = _ := lawL3 hl hGi (by omega) (done ++ G[i]) (by simp; omega) g5 G[i].length 0 (by omega)
    rw [M.e_laws_FnGroups_L0]
    simp only [show (i : Int) < (G.length : Int) by omega, decide_true, cond_true, h1, h3, Option.bind_some, Sum.elim_inr, hw, lawL0 hl hGl hg n (i + 1) (done ++ G[i]) (by omega) (by simp; omega) g6, List.flatten_cons, List.append_assoc]
theorem lawL5 {l : List Dec} (hl : l.length ≤ 1000) {done : List ByteArray} (hdl : done.length ≤ 4000000) (h : ∀ x ∈ nmB l, x ∈ done) : ∀ (k i : Nat), i + k = l.length → M.laws_FnGroups_L5 (l, (i : Int), done) = some (.inr done)
  | 0, i, e => by
    rw [M.e_laws_FnGroups_L5]
    simp only [show ¬ (i : Int) < (l.length : Int) by omega, decide_false, cond_false]
  | k + 1, i, e => by
    have hi : i < l.length := by omega
    have hw : IntKind.i64.wrap ((i : Int) + 1) = ((i + 1 : Nat) : Int) := by rw [wrap_ok (by omega)]; omega
    have hm : memB l[i].Name done = true := memB_iff.2 (h _ (List.mem_map.2 ⟨_, List.getElem_mem hi, rfl⟩))
    rw [M.e_laws_FnGroups_L5]
    simp only [show (i : Int) < (l.length : Int) by omega, decide_true, cond_true, ix_of (List.getElem?_eq_getElem hi), Option.bind_some, law_has hdl, hm, Bool.not_true, cond_false, hw, lawL5 hl hdl h k (i + 1) (by omega)]
end Q
end W
end
section
namespace W
set_option linter.unusedVariables false
set_option maxRecDepth 100000
set_option maxHeartbeats 1000000
namespace Q
open Go HL HL.X
abbrev nX : ByteArray := ⟨⟨[88]⟩⟩
abbrev nK : ByteArray := ⟨⟨[107]⟩⟩
structure Dn (l : List Dec) : Prop where
  sm : Sm l
  lk : ∃ z, Like (nsB l) (iNeed l) (needB l) z ∧ ∀ y, z = some y → y = nX ∨ y = nK
  tg : Tg l
theorem free_under : ∀ d : Dec, ¬ FD under d := by
  refine Dec.ind (M0 := fun a => ¬ FE under a.E) (M2 := fun e => ¬ FE under e) (fun a ih => ih) (fun x ih1 ih2 h => ?_) (fun e ihL ihD ihA h => ?_)
  · rw [FD_iff] at h
    rcases h.1 with q | ⟨y, hy, q⟩
    · exact ih1 q
    · exact ih2 y hy q
  · rw [FE_iff] at h
    rcases h with ⟨_, _, h⟩ | ⟨_, ⟨⟨y, hy, q⟩, _⟩ | ⟨_, ⟨y, hy, q⟩, _⟩ | ⟨_, a, ha, q, _⟩⟩
    · exact h rfl
    · exact ihL y hy q
    · exact ihD y hy q
    · exact ihA a ha q
theorem need_under {l : List Dec} {a : ByteArray} : needB l a under = false := by
  cases q : needB l a under with
  | false => rfl
  | true =>
    unfold needB at q
    split at q
    · cases q
    · rw [Bool.and_eq_true] at q
      exact absurd q.1 (free_under _)
theorem rounds_len {α : Type} [DecidableEq α] {ns : List α} {E R : α → α → Bool} : ∀ n done, (rounds ns E R n done).length ≤ n ∧ ∀ g ∈ rounds ns E R n done, ∃ a, g = grp ns R a
  | 0, done => by simp [rounds]
  | n + 1, done => by
    simp only [rounds]
    cases pick ns E R done with
    | none => simp
    | some a =>
      obtain ⟨h1, h2⟩ := rounds_len (E := E) (R := R) n (done ++ grp ns R a)
      refine ⟨by simpa using h1, fun g hg => ?_⟩
      rcases List.mem_cons.1 hg with rfl | hg
      · exact ⟨a, rfl⟩
      · exact h2 g hg
theorem good_all {α : Type} [DecidableEq α] {ns : List α} {E R : α → α → Bool} : ∀ {gs : List (List α)} {done : List α}, Good ns E R done gs → (∀ x ∈ ns, x ∈ done ++ gs.flatten) ∧ ∀ x ∈ gs.flatten, x ∈ ns
  | [], done, h => ⟨fun x hx => by simpa using h x hx, by simp⟩
  | g :: gs, done, h => by
    obtain ⟨_, h1, h2, _, _, h3⟩ := h
    obtain ⟨a, b⟩ := good_all h3
    refine ⟨fun x hx => by have := a x hx; rw [List.flatten_cons, ← List.append_assoc]; exact this, fun x hx => ?_⟩
    rw [List.flatten_cons] at hx
    rcases List.mem_append.1 hx with q | q
    · exact (h2 x q).1
    · exact b x q
section
variable {l : List Dec} (d : Dn l)
include d
theorem Dn.groups : ∃ G, M.impl_Groups l = some G ∧ M.spec_Groups l = some G ∧ G.length ≤ 2000 ∧ (∀ g ∈ G, g.length ≤ 1000) ∧ Good (nsB l) (iNeed l) (iR l) [] G := by
  obtain ⟨z, k, _⟩ := d.lk
  obtain ⟨h1, h2⟩ := rounds_len (ns := nsB l) (E := iNeed l) (R := iR l) 2000 []
  refine ⟨_, im_Groups d.sm d.tg, ?_, h1, fun g hg => ?_, rounds_good (iWeb d.sm) 2000 [] (fun a b h => by cases h) (Nat.le_trans List.countP_le_length (by have := ns_len d.sm; omega))⟩
  · rw [sp_Groups d.sm, like_rounds (iWeb d.sm) (sWeb l) k]
  · obtain ⟨a, rfl⟩ := h2 g hg
    exact grp_len d.sm _ _
theorem Dn.needs {a : ByteArray} (h1 : a ≠ nX) (h2 : a ≠ nK) : ∃ r, M.impl_Needs (l, a) = some r ∧ M.spec_Needs (l, a) = some r ∧ r.length ≤ 600000 := by
  obtain ⟨z, k, hz⟩ := d.lk
  have hza : z ≠ some a := fun q => (hz a q).elim h1 h2
  obtain ⟨r, e1, r2, r3, r4, _⟩ := iNeed_eq d.sm a
  obtain ⟨s, e2, s2, s3, _⟩ := sp_needs d.sm a
  refine ⟨r, e1, ?_, r3⟩
  rw [e2]
  congr 1
  refine asc_ext s2 r2 fun t => ?_
  rw [s3, r4, k.eq a t hza]
  exact ⟨fun h => h.1, fun h => ⟨h, fun q => by rw [q, need_under] at h; cases h⟩⟩
theorem Dn.reaches {a : ByteArray} (h1 : a ≠ nX) (h2 : a ≠ nK) (b : ByteArray) : ∃ r, M.impl_Reaches (l, a, b) = some r ∧ M.spec_Reaches (l, a, b) = some r := by
  obtain ⟨z, k, hz⟩ := d.lk
  have hza : z ≠ some a := fun q => (hz a q).elim h1 h2
  refine ⟨iR l a b, im_Reaches d.sm a b, ?_⟩
  rw [sp_Reaches d.sm]
  congr 1
  rw [Bool.eq_iff_iff]
  exact ⟨like_rch (sWeb l) (iWeb d.sm) k.symm hza, like_rch (iWeb d.sm) (sWeb l) k hza⟩
theorem Dn.law {x : List Int} {a b c : ByteArray} (hb : x.length ≤ 1048576) (e1 : M.spec_DrawGroups x = some l) {m : List Dec} (hm : Dn m) (e2 : M.spec_DrawNeeds x = some (m, a)) (a1 : a ≠ nX) (a2 : a ≠ nK)
    {n : List Dec} (hn : Dn n) (e3 : M.spec_DrawReaches x = some (n, b, c)) (b1 : b ≠ nX) (b2 : b ≠ nK) : M.laws_FnGroups x = some true := by
  have h0 := d.sm.1
  obtain ⟨G, g1, g2, g3, g4, g5⟩ := d.groups
  obtain ⟨r, r1, r2, r3⟩ := hm.needs a1 a2
  obtain ⟨q, q1, q2⟩ := hn.reaches b1 b2 c
  obtain ⟨all, sub⟩ := good_all g5
  rw [List.nil_append] at all
  have nd : G.flatten.Nodup := by
    rcases good_len g5 with h | h
    · simpa using h
    · exact absurd List.nodup_nil h
  have hfl : G.flatten.length ≤ l.length := by
    have h1 := nodup_le nd sub
    have h2 := (onceB_spec (nmB l) [] List.nodup_nil).2.2
    simp only [nmB, List.length_map, List.length_nil, Nat.zero_add] at h2
    exact Nat.le_trans h1 h2
  have hL0 := lawL0 d.sm (G := G) (by omega) g4 G.length 0 [] (by omega) (by simp; omega) (by simpa using g5)
  rw [List.drop_zero, List.nil_append] at hL0
  have hL0 : M.laws_FnGroups_L0 (l, G, 0, []) = _ := hL0
  have hL5 : M.laws_FnGroups_L5 (l, 0, G.flatten) = _ := lawL5 (by omega) (done := G.flatten) (by omega) (fun x hx => all x (ns_mem.2 hx)) l.length 0 (by omega)
  rw [M.e_laws_FnGroups, M.e_laws_big]
  simp only [Option.bind_some, show ¬ (1048576 : Int) < (x.length : Int) by omega, decide_false, cond_false, e1, e2, e3, g1, g2, law_groups (r := G) (by omega) (fun g hg => by have := g4 g hg; omega), Bool.not_true, r1, r2, law_texts (r := r) (by omega), q1, q2, beq_self_eq_true, hL0, Sum.elim_inr, hL5, show ((G.flatten.length : Nat) : Int) ≤ (l.length : Int) by omega, decide_true]
end
end Q
end W
end
section
namespace W
set_option linter.unusedVariables false
set_option maxRecDepth 100000
set_option maxHeartbeats 1000000
namespace Q
open Go HL HL.X
abbrev nM : ByteArray := ⟨⟨[109, 97, 105, 110]⟩⟩
def okN (t : ByteArray) : Prop := t ≠ nM ∧ t ≠ nX ∧ t ≠ nK
mutual
def sE : Exp → Prop
  | .mk k s _ l ds az => okN s ∧ sEs l ∧ sDs ds ∧ sAs az
def sEs : List Exp → Prop
  | [] => True
  | e :: l => sE e ∧ sEs l
def sAs : List Alt → Prop
  | [] => True
  | .mk _ _ e :: l => sE e ∧ sAs l
def sD : Dec → Prop
  | .mk _ _ e ws => sE e ∧ sDs ws
def sDs : List Dec → Prop
  | [] => True
  | d :: l => sD d ∧ sDs l
end
theorem sEs_iff : ∀ {l}, sEs l ↔ ∀ e ∈ l, sE e
  | [] => by simp [sEs]
  | e :: l => by simp [sEs, sEs_iff (l := l)]
theorem sAs_iff : ∀ {l}, sAs l ↔ ∀ a ∈ l, sE a.E
  | [] => by simp [sAs]
  | .mk _ _ e :: l => by simp [sAs, sAs_iff (l := l), Alt.E]
theorem sDs_iff : ∀ {l}, sDs l ↔ ∀ d ∈ l, sD d
  | [] => by simp [sDs]
  | e :: l => by simp [sDs, sDs_iff (l := l)]
theorem sE_iff (e : Exp) : sE e ↔ okN e.S ∧ (∀ x ∈ e.L, sE x) ∧ (∀ d ∈ e.Decs, sD d) ∧ ∀ a ∈ e.Alts, sE a.E := by
  cases e
  simp only [sE, sEs_iff, sAs_iff, sDs_iff, Exp.S, Exp.L, Exp.Alts, Exp.Decs]
theorem sD_iff (d : Dec) : sD d ↔ sE d.E ∧ ∀ y ∈ d.Where, sD y := by
  cases d
  simp only [sD, sDs_iff, Dec.E, Dec.Where]
theorem sFD (t : ByteArray) : ∀ x : Dec, sD x → FD t x → okN t := by
  refine Dec.ind (M0 := fun a => sE a.E → FE t a.E → okN t) (M2 := fun e => sE e → FE t e → okN t) (fun a ih => ih) (fun x ih1 ih2 hs h => ?_) (fun e ihL ihD ihA hs h => ?_)
  · obtain ⟨h1, h2⟩ := (sD_iff x).1 hs
    rw [FD_iff] at h
    rcases h.1 with q | ⟨y, hy, q⟩
    · exact ih1 h1 q
    · exact ih2 y hy (h2 y hy) q
  · obtain ⟨h1, hL, hD, hA⟩ := (sE_iff e).1 hs
    rw [FE_iff] at h
    rcases h with ⟨_, rfl, _⟩ | ⟨_, ⟨⟨y, hy, q⟩, _⟩ | ⟨_, ⟨y, hy, q⟩, _⟩ | ⟨_, a, ha, q, _⟩⟩
    · exact h1
    · exact ihL y hy (hL y hy) q
    · exact ihD y hy (hD y hy) q
    · exact ihA a ha (hA a ha) q
theorem sID (t : ByteArray) : ∀ x : Dec, sD x → ID t x → okN t := by
  refine Dec.ind (M0 := fun a => sE a.E → IE t a.E → okN t) (M2 := fun e => sE e → IE t e → okN t) (fun a ih => ih) (fun x ih1 ih2 hs h => ?_) (fun e ihL ihD ihA hs h => ?_)
  · obtain ⟨h1, h2⟩ := (sD_iff x).1 hs
    rw [ID_iff] at h
    rcases h.1 with q | ⟨y, hy, q⟩
    · exact ih1 h1 q
    · exact ih2 y hy (h2 y hy) q
  · obtain ⟨h1, hL, hD, hA⟩ := (sE_iff e).1 hs
    rw [IE_iff] at h
    rcases h with ⟨_, rfl⟩ | ⟨⟨y, hy, q⟩ | ⟨y, hy, q⟩ | ⟨a, ha, q, _⟩, _⟩
    · exact h1
    · exact ihL y hy (hL y hy) q
    · exact ihD y hy (hD y hy) q
    · exact ihA a ha (hA a ha) q
theorem find_name {l : List Dec} {a : ByteArray} (h : l.find? (fun d => decide (d.Name = a)) = none) : a ∉ nmB l := fun q => by
  obtain ⟨y, hy, e⟩ := List.mem_map.1 q
  have := List.find?_eq_none.1 h y hy
  simp [e] at this
theorem iNeed_ID {l : List Dec} (hl : Sm l) {a t : ByteArray} (h : iNeed l a t = true) : ∃ x ∈ l, ID t x := by
  obtain ⟨r, e1, _, _, r4, _⟩ := iNeed_eq hl a
  obtain ⟨r', e2, _, _, _, q5⟩ := im_needs hl a
  rw [e1] at e2
  cases e2
  cases hf : l.find? (fun d => decide (d.Name = a)) with
  | some x => exact ⟨x, List.mem_of_find?_eq_some hf, ((q5 x hf t).1 ((r4 t).2 h)).1⟩
  | none => exact absurd (iNeed_mem hl h).1 (find_name hf)
theorem needB_FD {l : List Dec} {a t : ByteArray} (h : needB l a t = true) : ∃ x ∈ l, FD t x := by
  unfold needB at h
  split at h
  · cases h
  · rename_i x hx
    rw [Bool.and_eq_true] at h
    exact ⟨x, List.mem_of_find?_eq_some hx, h.1⟩
theorem need_eq {l : List Dec} (hl : Sm l) {a : ByteArray} (hw : ∀ x, l.find? (fun d => decide (d.Name = a)) = some x → wD x) (b : ByteArray) : iNeed l a b = needB l a b := by
  obtain ⟨r, _, _, _, _, _, h⟩ := iNeed_eq hl a
  exact h hw b
theorem once_nodup : ∀ {l out : List ByteArray}, (out ++ l).Nodup → onceB out l = out ++ l
  | [], out, _ => by simp [onceB]
  | s :: l, out, h => by
    have hs : ¬ memB s out = true := fun q => by
      have := (List.nodup_append.1 h).2.2 s (memB_iff.1 q) s (by simp)
      exact this rfl
    rw [onceB, if_neg hs, once_nodup (by simpa using h)]
    simp
theorem once_snoc : ∀ {l out : List ByteArray} {s : ByteArray}, s ∈ out ∨ s ∈ l → onceB out (l ++ [s]) = onceB out l
  | [], out, s, h => by
    have : memB s out = true := memB_iff.2 (by simpa using h)
    simp only [List.nil_append, onceB]
    rw [if_pos this]
  | y :: l, out, s, h => by
    rw [List.cons_append, onceB, onceB]
    by_cases q : memB y out = true
    · rw [if_pos q]
      refine once_snoc ?_
      rcases h with h | h
      · exact .inl h
      · rcases List.mem_cons.1 h with rfl | h
        · exact .inl (memB_iff.1 q)
        · exact .inr h
    · rw [if_neg q]
      refine once_snoc ?_
      rcases h with h | h
      · exact .inl (List.mem_append_left _ h)
      · rcases List.mem_cons.1 h with rfl | h
        · exact .inl (by simp)
        · exact .inr h
theorem Tg_nodup {l : List Dec} (nd : (nmB l).Nodup) : Tg l := by
  intro a ha
  rw [compactB_once (nd.filter _)]
  have e : nsB l = nmB l := by
    have := once_nodup (l := nmB l) (out := []) (by simpa using nd)
    simpa using this
  unfold grp
  rw [e]
  exact List.filter_congr fun b _ => rfl
theorem filter_one {s : ByteArray} : ∀ {l : List ByteArray}, l.Nodup → s ∈ l → l.filter (fun b => decide (b = s)) = [s]
  | x :: l, nd, h => by
    obtain ⟨h1, h2⟩ := List.nodup_cons.1 nd
    rw [List.filter_cons]
    by_cases e : x = s
    · subst e
      rw [if_pos (decide_eq_true rfl)]
      congr 1
      rw [List.filter_eq_nil_iff]
      intro y hy q
      exact h1 (of_decide_eq_true q ▸ hy)
    · rw [if_neg (by simp [e])]
      exact filter_one h2 ((List.mem_cons.1 h).resolve_left fun q => e q.symm)
theorem compact_two (x : List UInt8) : Lib.compact [x, x] = [x] := by
  simp [Lib.compact, Lib.compactUpTo, Lib.keeps, List.range_succ]
theorem dnA {l : List Dec} (sm : Sm l) (nd : (nmB l).Nodup) (w : ∀ d ∈ l, wD d) : Dn l where
  sm := sm
  lk := ⟨none, ⟨fun a b _ => need_eq sm (fun x hx => w x (List.mem_of_find?_eq_some hx)) b, fun y h => (by cases h)⟩, fun y h => (by cases h)⟩
  tg := Tg_nodup nd
theorem dnB {l0 : List Dec} {d : Dec} (sm : Sm (l0 ++ [d])) (nd : (nmB l0).Nodup) (w : ∀ x ∈ l0, wD x) (hs : ∀ x ∈ l0 ++ [d], sD x) (hd : d.Name = nM ∨ d.Name = nX ∨ d.Name = nK) (hm : nM ∈ nmB l0) : Dn (l0 ++ [d]) := by
  have hn : nmB (l0 ++ [d]) = nmB l0 ++ [d.Name] := by simp [nmB]
  have nok : ¬ okN d.Name := fun h => hd.elim h.1 fun q => q.elim h.2.1 h.2.2
  have no1 : ∀ a, iNeed (l0 ++ [d]) a d.Name = false := fun a => by
    cases q : iNeed (l0 ++ [d]) a d.Name with
    | false => rfl
    | true =>
      obtain ⟨x, hx, h⟩ := iNeed_ID sm q
      exact absurd (sID _ x (hs x hx) h) nok
  have no2 : ∀ a, needB (l0 ++ [d]) a d.Name = false := fun a => by
    cases q : needB (l0 ++ [d]) a d.Name with
    | false => rfl
    | true =>
      obtain ⟨x, hx, h⟩ := needB_FD q
      exact absurd (sFD _ x (hs x hx) h) nok
  have fnd : ∀ a x, (a ≠ d.Name ∨ a ∈ nmB l0) → (l0 ++ [d]).find? (fun d => decide (d.Name = a)) = some x → x ∈ l0 := by
    intro a x ha h
    rw [List.find?_append] at h
    cases hf : l0.find? (fun d => decide (d.Name = a)) with
    | some y => rw [hf] at h; cases h; exact List.mem_of_find?_eq_some hf
    | none =>
      rw [hf] at h
      have h1 : [d].find? (fun d => decide (d.Name = a)) = some x := by simpa only [Option.none_or] using h
      have h2 := List.find?_some h1
      have hx : x = d := List.mem_singleton.1 (List.mem_of_find?_eq_some h1)
      subst hx
      rcases ha with q | q
      · exact absurd (of_decide_eq_true h2).symm q
      · exact absurd q (find_name hf)
  by_cases hin : d.Name ∈ nmB l0
  · refine ⟨sm, ⟨none, ⟨fun a b _ => need_eq sm (fun x hx => w x (fnd a x ?_ hx)) b, fun y h => (by cases h)⟩, fun y h => (by cases h)⟩, fun a ha => ?_⟩
    · by_cases e : a = d.Name
      · exact .inr (e ▸ hin)
      · exact .inl e
    · have ens : nsB (l0 ++ [d]) = nmB l0 := by
        unfold nsB
        rw [hn, once_snoc (.inr hin)]
        have := once_nodup (l := nmB l0) (out := []) (by simpa using nd)
        simpa using this
      have eg : grp (nsB (l0 ++ [d])) (iR (l0 ++ [d])) a = (nmB l0).filter (tog (l0 ++ [d]) a) := by
        unfold grp
        rw [ens]
        exact List.filter_congr fun b _ => rfl
      have nr : ∀ b, iR (l0 ++ [d]) b d.Name = false := fun b => by
        cases q : iR (l0 ++ [d]) b d.Name with
        | false => rfl
        | true =>
          rcases (((iWeb sm).rch b d.Name).1 q).last with e | ⟨c, _, e⟩
          · rw [no1] at e; cases e
          · rw [no1] at e; cases e
      rw [eg, hn, List.filter_append]
      by_cases e : a = d.Name
      · subst e
        have ht : ∀ b, tog (l0 ++ [d]) d.Name b = decide (b = d.Name) := fun b => by
          unfold tog
          rw [nr b, Bool.and_false, Bool.or_false]
        have h1 : (nmB l0).filter (tog (l0 ++ [d]) d.Name) = [d.Name] := by
          rw [show (tog (l0 ++ [d]) d.Name) = fun b => decide (b = d.Name) from funext ht]
          exact filter_one nd hin
        have h2 : [d.Name].filter (tog (l0 ++ [d]) d.Name) = [d.Name] := by simp [ht]
        rw [h1, h2]
        unfold compactB bytesL
        simp only [List.cons_append, List.nil_append, List.map_cons, List.map_nil]
        rw [compact_two]
        simp [strsL]
      · have h2 : [d.Name].filter (tog (l0 ++ [d]) a) = [] := by
          have : tog (l0 ++ [d]) a d.Name = false := by
            unfold tog
            rw [nr a, Bool.false_and, Bool.or_false]
            exact decide_eq_false fun q => e q.symm
          simp [this]
        rw [h2, List.append_nil]
        exact compactB_once (nd.filter _)
  · have nd2 : (nmB (l0 ++ [d])).Nodup := by
      rw [hn, List.nodup_append]
      exact ⟨nd, by simp, fun x hx y hy e => hin (by rw [List.mem_singleton] at hy; rw [← hy, ← e]; exact hx)⟩
    have hz : d.Name = nX ∨ d.Name = nK := hd.resolve_left fun q => hin (q ▸ hm)
    refine ⟨sm, ⟨some d.Name, ⟨fun a b h => need_eq sm (fun x hx => w x (fnd a x (.inl fun q => h (by rw [q])) hx)) b, fun y h => ?_⟩, fun y h => by cases h; exact hz⟩, Tg_nodup nd2⟩
    cases h
    refine ⟨fun a => ⟨no1 a, no2 a⟩, nmB l0, ?_⟩
    have := once_nodup (l := nmB (l0 ++ [d])) (out := []) (by simpa using nd2)
    rw [← hn]
    simpa using this
end Q
end W
end
section
namespace W
set_option linter.unusedVariables false
set_option maxRecDepth 100000
set_option maxHeartbeats 1000000
namespace Q
open Go HL HL.X
abbrev Cur := spec_l1Cur
def okC (c : Cur) : Prop := 0 ≤ c.i ∧ c.b.length ≤ 2000000
theorem and_byte (a : Int) : 0 ≤ andI IntKind.i64 a 255 ∧ andI IntKind.i64 a 255 ≤ 255 := by
  have h : ((BitVec.ofInt IntKind.i64.bits a) &&& (BitVec.ofInt IntKind.i64.bits 255)).toNat ≤ 255 := by
    rw [BitVec.toNat_and]
    exact Nat.le_trans Nat.and_le_right (by decide)
  unfold andI
  rw [wrap_ok (by omega)]
  omega
theorem dByte {c : Cur} (hc : okC c) : ∃ v c', M.spec_l1Byte c = some (v, c') ∧ 0 ≤ v ∧ v ≤ 255 ∧ okC c' := by
  obtain ⟨h1, h2⟩ := hc
  rw [M.e_spec_l1Byte]
  simp only [gd_t (show (0 : Int) ≤ 33 by omega), gd_t (show (0 : Int) ≤ 47 by omega), Option.bind_some]
  by_cases a : c.i < ((c.b.length : Nat) : Int)
  · have hx : ix c.b c.i = some c.b[c.i.toNat] := by
      have := ix_of (l := c.b) (i := c.i.toNat) (List.getElem?_eq_getElem (by omega))
      rwa [show ((c.i.toNat : Nat) : Int) = c.i by omega] at this
    simp only [a, decide_true, cond_true, hx, Option.bind_some]
    exact ⟨_, _, rfl, (and_byte _).1, (and_byte _).2, by show 0 ≤ IntKind.i64.wrap (c.i + 1); rw [wrap_ok (by omega)]; omega, h2⟩
  · simp only [a, decide_false, cond_false]
    exact ⟨_, _, rfl, (and_byte _).1, (and_byte _).2, h1, h2⟩
theorem tmod_in {v n : Int} (hv : 0 ≤ v) (hn : 0 < n) : 0 ≤ Int.tmod v n ∧ Int.tmod v n < n := by
  rw [Int.tmod_eq_emod_of_nonneg hv]
  exact ⟨Int.emod_nonneg _ (by omega), Int.emod_lt_of_pos _ hn⟩
theorem dBelow {c : Cur} (hc : okC c) {n : Int} (hn : 0 < n) (h : n ≤ 256) : ∃ v c', M.spec_l1Below (n, c) = some (v, c') ∧ 0 ≤ v ∧ v < n ∧ okC c' := by
  obtain ⟨v1, c1, e1, a1, b1, o1⟩ := dByte hc
  rw [M.e_spec_l1Below]
  have n1 : ¬ (n ≤ 0) := by omega
  simp only [n1, decide_false, cond_false, h, decide_true, cond_true, e1, Option.bind_some, gd_t (show n ≠ 0 by omega)]
  exact ⟨_, _, rfl, (tmod_in a1 hn).1, (tmod_in a1 hn).2, o1⟩
theorem dOnce {c : Cur} (hc : okC c) {n : Int} (hn : 0 < n) (h : n ≤ 256) : ∃ b c', M.spec_l1Once (n, c) = some (b, c') ∧ okC c' := by
  obtain ⟨v, c', e, _, _, o⟩ := dBelow hc hn h
  rw [M.e_spec_l1Once]
  simp only [e, Option.bind_some]
  exact ⟨_, _, rfl, o⟩
theorem dStr {c : Cur} (hc : okC c) {l : List ByteArray} (hl : 0 < l.length) (hl2 : l.length ≤ 256) : ∃ e c', M.spec_l1Str (l, c) = some (e, c') ∧ e ∈ l ∧ okC c' := by
  obtain ⟨v, c', e1, a1, b1, o1⟩ := dBelow hc (n := ((l.length : Nat) : Int)) (by omega) (by omega)
  have hx : ix l v = some l[v.toNat] := by
    have := ix_of (l := l) (i := v.toNat) (List.getElem?_eq_getElem (by omega))
    rwa [show ((v.toNat : Nat) : Int) = v by omega] at this
  rw [M.e_spec_l1Str]
  simp only [e1, Option.bind_some, hx]
  exact ⟨_, _, rfl, List.getElem_mem _, o1⟩
theorem dInt {c : Cur} (hc : okC c) {l : List Int} (hl : 0 < l.length) (hl2 : l.length ≤ 256) : ∃ e c', M.spec_l1Int (l, c) = some (e, c') ∧ e ∈ l ∧ okC c' := by
  obtain ⟨v, c', e1, a1, b1, o1⟩ := dBelow hc (n := ((l.length : Nat) : Int)) (by omega) (by omega)
  have hx : ix l v = some l[v.toNat] := by
    have := ix_of (l := l) (i := v.toNat) (List.getElem?_eq_getElem (by omega))
    rwa [show ((v.toNat : Nat) : Int) = v by omega] at this
  rw [M.e_spec_l1Int]
  simp only [e1, Option.bind_some, hx]
  exact ⟨_, _, rfl, List.getElem_mem _, o1⟩
theorem dNew {x : List Int} (hx : x.length ≤ 2000000) : ∃ c, M.spec_l1New x = some c ∧ okC c := by
  have key : ∀ (k i : Nat) (h : Int), i + k = x.length → ∃ v, M.spec_l1New_L0 (x, h, (i : Int)) = some v := by
    intro k
    induction k with
    | zero =>
      intro i h hi
      rw [M.e_spec_l1New_L0]
      have : ¬ ((i : Int) < (x.length : Int)) := by omega
      simp only [this, decide_false, cond_false]
      exact ⟨_, rfl⟩
    | succ k ih =>
      intro i h hi
      rw [M.e_spec_l1New_L0]
      have a1 : (i : Int) < (x.length : Int) := by omega
      have a2 : IntKind.i64.wrap ((i : Int) + 1) = ((i + 1 : Nat) : Int) := by rw [wrap_ok (by omega)]; omega
      simp only [a1, decide_true, cond_true, ix_of (List.getElem?_eq_getElem (show i < x.length by omega)), Option.bind_some, a2]
      by_cases a : (i : Int) < 4000
      · simp only [a, decide_true, cond_true]
        exact ih (i + 1) _ (by omega)
      · simp only [a, decide_false, cond_false]
        exact ⟨_, rfl⟩
  obtain ⟨v, e⟩ := key x.length 0 (IntKind.i64.wrap (945945 + ((x.length : Nat) : Int))) (by omega)
  rw [M.e_spec_l1New]
  rw [show M.spec_l1New_L0 (x, IntKind.i64.wrap (945945 + ((x.length : Nat) : Int)), 0) = _ from e]
  exact ⟨_, rfl, Int.le_refl _, hx⟩
/-! ### names -/
def okS (s : ByteArray) : Prop := s.size ≤ 5 ∧ okN s
theorem dName {c : Cur} (hc : okC c) : ∃ s c', M.spec_l3Name c = some (s, c') ∧ okS s ∧ s ≠ under ∧ okC c' := by
  obtain ⟨s, c', e, m, o⟩ := dStr hc (l := [(⟨⟨[120]⟩⟩ : ByteArray), (⟨⟨[121]⟩⟩ : ByteArray), (⟨⟨[102]⟩⟩ : ByteArray), (⟨⟨[103]⟩⟩ : ByteArray), (⟨⟨[104]⟩⟩ : ByteArray)]) (by simp) (by simp)
  rw [M.e_spec_l3Name]
  simp only [e, Option.bind_some]
  have key : ∀ s ∈ [(⟨⟨[120]⟩⟩ : ByteArray), (⟨⟨[121]⟩⟩ : ByteArray), (⟨⟨[102]⟩⟩ : ByteArray), (⟨⟨[103]⟩⟩ : ByteArray), (⟨⟨[104]⟩⟩ : ByteArray)], (s.size ≤ 5 ∧ s ≠ nM ∧ s ≠ nX ∧ s ≠ nK) ∧ s ≠ under := by decide
  exact ⟨s, c', rfl, (key s m).1, (key s m).2, o⟩
theorem has_V {l : List ByteArray} (hl : l.length ≤ 1000) (s : ByteArray) : M.spec_l1HasV (s, l) = some (memB s l) := by
  have hlim : lim = 140737488355328 := rfl
  have h := firstL (l := l) (by omega) (fun y => decide (y = s)) (L := fun i => M.spec_l1HasV_L0 (s, i, l)) (fun i => .inl true) (.inr ()) (fun i y hy hix hi hw => by
    show M.spec_l1HasV_L0 (s, (i : Int), l) = _
    rw [M.e_spec_l1HasV_L0]
    simp only [hi, decide_true, cond_true, gd_t (show (0 : Int) ≤ (i : Int) by omega), gdT, Option.bind_some, Int.toNat_natCast, hy, hw]) (by
    show M.spec_l1HasV_L0 (s, (l.length : Int), l) = _
    rw [M.e_spec_l1HasV_L0]
    simp)
  have h : M.spec_l1HasV_L0 (s, 0, l) = _ := h
  have e : memB s l = (fstI (fun y => decide (y = s)) l).isSome := by rw [fst_any]; rfl
  rw [M.e_spec_l1HasV, h, e]
  cases fstI (fun y => decide (y = s)) l <;> rfl
theorem dParsL : ∀ (n : Nat) {c : Cur} (out : List ByteArray), okC c → out.length + n ≤ 100 → (∀ s ∈ out, s.size ≤ 5) → ∃ l c', M.spec_l3Pars_L0 ((n : Int), c, out) = some (c', l) ∧ l.length = out.length + n ∧ (∀ s ∈ l, s.size ≤ 5) ∧ okC c'
  | 0, c, out, hc, hl, ho => by
    rw [M.e_spec_l3Pars_L0]
    simp only [show ¬ (0 : Int) < ((0 : Nat) : Int) by omega, decide_false, cond_false]
    exact ⟨out, c, rfl, rfl, ho, hc⟩
  | n + 1, c, out, hc, hl, ho => by
    obtain ⟨s, c1, e1, ⟨z1, _⟩, _, o1⟩ := dName hc
    have hw : IntKind.i64.wrap (((n + 1 : Nat) : Int) - 1) = (n : Int) := by rw [wrap_ok (by omega)]; omega
    rw [M.e_spec_l3Pars_L0]
    simp only [show (0 : Int) < ((n + 1 : Nat) : Int) by omega, decide_true, cond_true, e1, Option.bind_some, has_V (l := out) (by omega), hw]
    cases memB s out with
    | true =>
      obtain ⟨l, c', f1, f2, f3, f4⟩ := dParsL n (c := c1) (out ++ [(⟨⟨[95]⟩⟩ : ByteArray)]) o1 (by simp; omega) (fun t ht => by
        rcases List.mem_append.1 ht with h | h
        · exact ho t h
        · rw [List.mem_singleton.1 h]; decide)
      refine ⟨l, c', ?_, by simp at f2; omega, f3, f4⟩
      simp only [cond_true, Option.bind_some, gd_t (show out.length + [(⟨⟨[95]⟩⟩ : ByteArray)].length ≤ grow by simp [grow]; omega), f1]
    | false =>
      obtain ⟨l, c', f1, f2, f3, f4⟩ := dParsL n (c := c1) (out ++ [s]) o1 (by simp; omega) (fun t ht => by
        rcases List.mem_append.1 ht with h | h
        · exact ho t h
        · rw [List.mem_singleton.1 h]; exact z1)
      refine ⟨l, c', ?_, by simp at f2; omega, f3, f4⟩
      simp only [cond_false, Option.bind_some, gd_t (show out.length + [s].length ≤ grow by simp [grow]; omega), f1]
theorem sum_le {l : List ByteArray} {b : Nat} (h : ∀ s ∈ l, s.size ≤ b) : sumC ByteArray.size l ≤ b * l.length := by
  induction l with
  | nil => simp [sumC]
  | cons x l ih =>
    have := ih fun s hs => h s (by simp [hs])
    have := h x (by simp)
    simp only [sumC, List.length_cons, Nat.mul_add]
    omega
def okP (n : Nat) (l : List ByteArray) : Prop := l.length + sumC ByteArray.size l ≤ 6 * n
theorem dPars {c : Cur} (hc : okC c) : ∃ l c', M.spec_l3Pars (2, c) = some (l, c') ∧ okP 2 l ∧ okC c' := by
  obtain ⟨v, c1, e1, a1, b1, o1⟩ := dBelow hc (n := 3) (by omega) (by omega)
  obtain ⟨l, c2, e2, l2, s2, o2⟩ := dParsL v.toNat (c := c1) [] o1 (by simp; omega) (by simp)
  rw [show ((v.toNat : Nat) : Int) = v by omega] at e2
  have := sum_le s2
  rw [M.e_spec_l3Pars]
  simp only [show IntKind.i64.wrap (2 + 1) = 3 by decide, e1, e2, Option.bind_some]
  exact ⟨l, c2, rfl, by unfold okP; simp at l2; omega, o2⟩
theorem dStrsL : ∀ (n : Nat) {c : Cur} (out : List ByteArray), okC c → out.length + n ≤ 100 → (∀ s ∈ out, s.size ≤ 5) → ∃ l c', M.spec_l1Strs_L0 ((n : Int), c, out) = some (c', l) ∧ l.length = out.length + n ∧ (∀ s ∈ l, s.size ≤ 5) ∧ okC c'
  | 0, c, out, hc, hl, ho => by
    rw [M.e_spec_l1Strs_L0]
    simp only [show ¬ (0 : Int) < ((0 : Nat) : Int) by omega, decide_false, cond_false]
    exact ⟨out, c, rfl, rfl, ho, hc⟩
  | n + 1, c, out, hc, hl, ho => by
    obtain ⟨s, c1, e1, m1, o1⟩ := dStr hc (l := [(⟨⟨[120]⟩⟩ : ByteArray), (⟨⟨[121]⟩⟩ : ByteArray), (⟨⟨[95]⟩⟩ : ByteArray), (⟨⟨[122]⟩⟩ : ByteArray), (⟨⟨[65]⟩⟩ : ByteArray)]) (by simp) (by simp)
    have key : ∀ s ∈ [(⟨⟨[120]⟩⟩ : ByteArray), (⟨⟨[121]⟩⟩ : ByteArray), (⟨⟨[95]⟩⟩ : ByteArray), (⟨⟨[122]⟩⟩ : ByteArray), (⟨⟨[65]⟩⟩ : ByteArray)], s.size ≤ 5 := by decide
    have hw : IntKind.i64.wrap (((n + 1 : Nat) : Int) - 1) = (n : Int) := by rw [wrap_ok (by omega)]; omega
    obtain ⟨l, c', f1, f2, f3, f4⟩ := dStrsL n (c := c1) (out ++ [s]) o1 (by simp; omega) (fun t ht => by
      rcases List.mem_append.1 ht with h | h
      · exact ho t h
      · rw [List.mem_singleton.1 h]; exact key s m1)
    rw [M.e_spec_l1Strs_L0]
    simp only [show (0 : Int) < ((n + 1 : Nat) : Int) by omega, decide_true, cond_true, e1, Option.bind_some, hw, gd_t (show out.length + [s].length ≤ grow by simp [grow]; omega), f1]
    exact ⟨l, c', rfl, by simp at f2; omega, f3, f4⟩
theorem dStrs {c : Cur} (hc : okC c) : ∃ l c', M.spec_l1Strs c = some (l, c') ∧ okP 5 l ∧ okC c' := by
  obtain ⟨v, c1, e1, a1, b1, o1⟩ := dBelow hc (n := 6) (by omega) (by omega)
  obtain ⟨l, c2, e2, l2, s2, o2⟩ := dStrsL v.toNat (c := c1) [] o1 (by simp; omega) (by simp)
  rw [show ((v.toNat : Nat) : Int) = v by omega] at e2
  have := sum_le s2
  rw [M.e_spec_l1Strs]
  simp only [e1, e2, Option.bind_some]
  exact ⟨l, c2, rfl, by unfold okP; simp at l2; omega, o2⟩
end Q
end W
end
section
namespace W
set_option linter.unusedVariables false
set_option maxRecDepth 100000
set_option maxHeartbeats 1000000
namespace Q
open Go HL HL.X
def pw (k : Nat) : Nat := 20 ^ k
theorem pw_s (k : Nat) : pw (k + 1) = 20 * pw k := by unfold pw; rw [Nat.pow_succ]; omega
theorem pw_p (k : Nat) : 1 ≤ pw k := Nat.one_le_pow _ _ (by omega)
def gE (k : Nat) (e : Exp) : Prop := wE e ∧ sE e ∧ e.cost ≤ 20 * pw k
def gD (k : Nat) (d : Dec) : Prop := wD d ∧ sD d ∧ d.cost ≤ 40 * pw k
def gA (k : Nat) (a : Alt) : Prop := wE a.E ∧ sE a.E ∧ a.cost ≤ 17 + 20 * pw k
def Dr1 (k : Nat) : Prop := ∀ {c : Cur}, okC c → ∃ e c', M.spec_l3Draw ((k : Int), c) = some (e, c') ∧ gE k e ∧ okC c'
def Ds1 (k : Nat) : Prop := ∀ {c : Cur} {ns : List ByteArray}, okC c → ns.length ≤ 4 → (∀ s ∈ ns, s.size ≤ 5) → ∃ ds c', M.spec_l3DrawDecs ((k : Int), ns, c) = some (c', ds) ∧ nmB ds = ns ∧ (∀ d ∈ ds, gD k d) ∧ okC c'
def As1 (k : Nat) : Prop := ∀ {c : Cur}, okC c → ∃ az c', M.spec_l3DrawAlts ((k : Int), c) = some (c', az) ∧ az.length ≤ 2 ∧ (∀ a ∈ az, gA k a) ∧ okC c'
theorem sumC_le' {α : Type} {c : α → Nat} {l : List α} {b : Nat} (h : ∀ x ∈ l, c x ≤ b) : sumC c l ≤ b * l.length := by
  induction l with
  | nil => simp [sumC]
  | cons x l ih =>
    have := ih fun s hs => h s (by simp [hs])
    have := h x (by simp)
    simp only [sumC, List.length_cons, Nat.mul_add]
    omega
theorem okN_of {s : ByteArray} (h : s ≠ nM ∧ s ≠ nX ∧ s ≠ nK) : okN s := h
theorem okN_nil : okN (⟨⟨[]⟩⟩ : ByteArray) := okN_of (by decide)
theorem gE_leaf {k : Nat} {K n : Int} {s : ByteArray} (h1 : okN s) (h2 : K = 1 → s ≠ under) (h3 : s.size ≤ 5) : gE k (Exp.mk K s n [] [] []) := by
  have hp := pw_p k
  refine ⟨(wE_iff _).2 ⟨fun h => ⟨rfl, h2 h⟩, fun _ => rfl, fun _ => rfl, by simp [Exp.L], by simp [Exp.Decs], by simp [Exp.Alts]⟩, (sE_iff _).2 ⟨h1, by simp [Exp.L], by simp [Exp.Decs], by simp [Exp.Alts]⟩, ?_⟩
  rw [Exp.cost_eq]
  simp only [Exp.S, Exp.L, Exp.Decs, Exp.Alts, List.length_nil, sumC]
  omega
theorem gE_parts {k : Nat} {K n : Int} {s : ByteArray} {l : List Exp} (hk : ¬ K = 1) (h1 : okN s) (h3 : s.size ≤ 5) (hl : l.length ≤ 3) (h : ∀ e ∈ l, gE k e) : gE (k + 1) (Exp.mk K s n l [] []) := by
  have hp := pw_p k
  have hs := sumC_le' (c := Exp.cost) (l := l) (b := 20 * pw k) fun x hx => (h x hx).2.2
  have hs2 : 20 * pw k * l.length ≤ 20 * pw k * 3 := Nat.mul_le_mul_left _ hl
  refine ⟨(wE_iff _).2 ⟨fun q => absurd q hk, fun _ => rfl, fun _ => rfl, fun x hx => (h x hx).1, by simp [Exp.Decs], by simp [Exp.Alts]⟩, (sE_iff _).2 ⟨h1, fun x hx => (h x hx).2.1, by simp [Exp.Decs], by simp [Exp.Alts]⟩, ?_⟩
  rw [Exp.cost_eq, pw_s]
  simp only [Exp.S, Exp.L, Exp.Decs, Exp.Alts, List.length_nil, sumC]
  omega
theorem gE_let {k : Nat} {e : Exp} {ds : List Dec} (he : gE k e) (hl : ds.length ≤ 2) (h : ∀ d ∈ ds, gD k d) : gE (k + 1) (Exp.mk 6 (⟨⟨[]⟩⟩ : ByteArray) 0 [e] ds []) := by
  have hp := pw_p k
  have hs := sumC_le' (c := Dec.cost) (l := ds) (b := 40 * pw k) fun x hx => (h x hx).2.2
  have hs2 : 40 * pw k * ds.length ≤ 40 * pw k * 2 := Nat.mul_le_mul_left _ hl
  have hc := he.2.2
  refine ⟨(wE_iff _).2 ⟨fun q => absurd q (show ¬ (6 : Int) = 1 by decide), fun q => absurd rfl q, fun _ => rfl, by simpa [Exp.L] using he.1, fun x hx => (h x hx).1, by simp [Exp.Alts]⟩, (sE_iff _).2 ⟨okN_nil, by simpa [Exp.L] using he.2.1, fun x hx => (h x hx).2.1, by simp [Exp.Alts]⟩, ?_⟩
  rw [Exp.cost_eq, pw_s]
  have z : (⟨⟨[]⟩⟩ : ByteArray).size = 0 := rfl
  simp only [Exp.S, Exp.L, Exp.Decs, Exp.Alts, List.length_nil, List.length_cons, sumC, z]
  omega
theorem gE_case {k : Nat} {e : Exp} {az : List Alt} (he : gE k e) (hl : az.length ≤ 2) (h : ∀ d ∈ az, gA k d) : gE (k + 1) (Exp.mk 7 (⟨⟨[]⟩⟩ : ByteArray) 0 [e] [] az) := by
  have hp := pw_p k
  have hs := sumC_le' (c := Alt.cost) (l := az) (b := 17 + 20 * pw k) fun x hx => (h x hx).2.2
  have hs2 : (17 + 20 * pw k) * az.length ≤ (17 + 20 * pw k) * 2 := Nat.mul_le_mul_left _ hl
  have hc := he.2.2
  refine ⟨(wE_iff _).2 ⟨fun q => absurd q (show ¬ (7 : Int) = 1 by decide), fun _ => rfl, fun q => absurd rfl q, by simpa [Exp.L] using he.1, by simp [Exp.Decs], fun x hx => (h x hx).1⟩, (sE_iff _).2 ⟨okN_nil, by simpa [Exp.L] using he.2.1, by simp [Exp.Decs], fun x hx => (h x hx).2.1⟩, ?_⟩
  rw [Exp.cost_eq, pw_s]
  have z : (⟨⟨[]⟩⟩ : ByteArray).size = 0 := rfl
  simp only [Exp.S, Exp.L, Exp.Decs, Exp.Alts, List.length_nil, List.length_cons, sumC, z]
  omega
theorem ds_of {k : Nat} (hk : k ≤ 100) (hE : Dr1 k) (hD : ∀ k', k = k' + 1 → 1 < k → Ds1 k') : Ds1 k := by
  have hp := pw_p k
  have main : ∀ (ns : List ByteArray), ns.length ≤ 4 → (∀ s ∈ ns, s.size ≤ 5) → ∀ (n i : Nat) (c : Cur) (out : List Dec), i + n = ns.length → okC c → nmB out = ns.take i → (∀ d ∈ out, gD k d) →
      ∃ ds c', M.spec_l3DrawDecs_L0 ((k : Int), ns, (i : Int), c, out) = some (c', ds) ∧ nmB ds = ns ∧ (∀ d ∈ ds, gD k d) ∧ okC c' := by
    intro ns hns hsz n
    induction n with
    | zero =>
      intro i c out hi hc hn hg
      rw [M.e_spec_l3DrawDecs_L0]
      simp only [show ¬ (i : Int) < (ns.length : Int) by omega, decide_false, cond_false]
      exact ⟨out, c, rfl, by rw [hn, List.take_of_length_le (by omega)], hg, hc⟩
    | succ n ih =>
      intro i c out hi hc hn hg
      have hlt : i < ns.length := by omega
      have hx := List.getElem?_eq_getElem hlt
      have hw : IntKind.i64.wrap ((i : Int) + 1) = ((i + 1 : Nat) : Int) := by rw [wrap_ok (by omega)]; omega
      have hol : out.length ≤ 4 := by have := congrArg List.length hn; simp [nmB] at this; omega
      obtain ⟨ps, c1, e1, p1, o1⟩ := dPars hc
      obtain ⟨e, c2, e2, ⟨w2, s2, z2⟩, o2⟩ := hE o1
      have hnm := hsz _ (List.getElem_mem hlt)
      have htk : ns.take (i + 1) = ns.take i ++ [ns[i]] := by rw [List.take_add_one, hx]; rfl
      -- what is put behind
      have fin : ∀ (wh : List Dec), (wh = [] ∨ ∃ k' y, k = k' + 1 ∧ 1 < k ∧ wh = [y] ∧ gD k' y) → gD k (Dec.mk ns[i] ps e wh) ∧ nmB (out ++ [Dec.mk ns[i] ps e wh]) = ns.take (i + 1) := by
        intro wh hwh
        refine ⟨?_, by rw [htk, ← hn]; simp [nmB, Dec.Name]⟩
        unfold okP at p1
        rcases hwh with rfl | ⟨k', y, rfl, _, rfl, g1, g2, g3⟩
        · refine ⟨(wD_iff _).2 ⟨w2, by simp [Dec.Where]⟩, (sD_iff _).2 ⟨s2, by simp [Dec.Where]⟩, ?_⟩
          rw [Dec.cost_eq]
          simp only [Dec.Name, Dec.Pars, Dec.E, Dec.Where, List.length_nil, sumC]
          omega
        · refine ⟨(wD_iff _).2 ⟨w2, by simpa [Dec.Where] using g1⟩, (sD_iff _).2 ⟨s2, by simpa [Dec.Where] using g2⟩, ?_⟩
          rw [Dec.cost_eq]
          have := pw_s k'
          simp only [Dec.Name, Dec.Pars, Dec.E, Dec.Where, List.length_nil, List.length_cons, sumC]
          omega
      have go : ∀ (wh : List Dec) (c' : Cur), okC c' → (wh = [] ∨ ∃ k' y, k = k' + 1 ∧ 1 < k ∧ wh = [y] ∧ gD k' y) → ∃ ds c'', M.spec_l3DrawDecs_L0 ((k : Int), ns, ((i + 1 : Nat) : Int), c', out ++ [Dec.mk ns[i] ps e wh]) = some (c'', ds) ∧ nmB ds = ns ∧ (∀ d ∈ ds, gD k d) ∧ okC c'' := by
        intro wh c' hc' hwh
        obtain ⟨f1, f2⟩ := fin wh hwh
        refine ih (i + 1) c' _ (by omega) hc' f2 fun d hd => ?_
        rcases List.mem_append.1 hd with h | h
        · exact hg d h
        · rw [List.mem_singleton.1 h]; exact f1
      have gg : ∀ wh, gd (out.length + [Dec.mk ns[i] ps e wh].length ≤ grow) = some () := fun wh => gd_t (by simp [grow]; omega)
      rw [M.e_spec_l3DrawDecs_L0]
      simp only [show (i : Int) < (ns.length : Int) by omega, decide_true, cond_true, ix_of hx, Option.bind_some, meet_self, e1, e2, Exp.eta, hw]
      by_cases k1 : 1 < k
      · obtain ⟨k', rfl⟩ : ∃ k', k = k' + 1 := ⟨k - 1, by omega⟩
        obtain ⟨b, c3, e3, o3⟩ := dOnce o2 (n := 5) (by omega) (by omega)
        have hwk : IntKind.i64.wrap (((k' + 1 : Nat) : Int) - 1) = (k' : Int) := by rw [wrap_ok (by omega)]; omega
        simp only [show (1 : Int) < ((k' + 1 : Nat) : Int) by omega, decide_true, cond_true, e3, Option.bind_some]
        cases b with
        | true =>
          obtain ⟨nm1, c4, e4, ⟨z4, _⟩, _, o4⟩ := dName o3
          obtain ⟨wh, c5, e5, n5, g5, o5⟩ := hD k' rfl k1 (ns := [nm1]) o4 (by simp) (by simpa using z4)
          obtain ⟨y, rfl⟩ : ∃ y, wh = [y] := by
            have := congrArg List.length n5
            simp only [nmB, List.length_map, List.length_cons, List.length_nil] at this
            exact List.length_eq_one_iff.1 this
          simp only [cond_true, e4, e5, hwk, Option.bind_some, Dec.Name, Dec.Pars, Dec.E, Exp.eta, gg]
          exact go [y] c5 o5 (.inr ⟨k', y, rfl, k1, rfl, g5 y (by simp)⟩)
        | false =>
          simp only [cond_false, Option.bind_some, gg]
          exact go [] c3 o3 (.inl rfl)
      · simp only [show ¬ (1 : Int) < (k : Int) by omega, decide_false, cond_false, Option.bind_some, gg]
        exact go [] c2 o2 (.inl rfl)
  intro c ns hc hns hsz
  obtain ⟨ds, c', e, h1, h2, h3⟩ := main ns hns hsz ns.length 0 c [] (by omega) hc (by simp [nmB]) (by simp)
  have e : M.spec_l3DrawDecs_L0 ((k : Int), ns, 0, c, []) = _ := e
  refine ⟨ds, c', ?_, h1, h2, h3⟩
  rw [M.e_spec_l3DrawDecs]
  simp only [e, Option.bind_some]
theorem as_of {k : Nat} (hE : Dr1 k) : As1 k := by
  have hp := pw_p k
  have key1 : ∀ s ∈ [(⟨⟨[120]⟩⟩ : ByteArray), (⟨⟨[95]⟩⟩ : ByteArray), (⟨⟨[122]⟩⟩ : ByteArray)], s.size ≤ 5 := by decide
  have key2 : ∀ s ∈ [(⟨⟨[84, 114, 117, 101]⟩⟩ : ByteArray), (⟨⟨[70, 97, 108, 115, 101]⟩⟩ : ByteArray), (⟨⟨[65]⟩⟩ : ByteArray)], s.size ≤ 5 := by decide
  have key3 : ∀ s ∈ [(⟨⟨[66]⟩⟩ : ByteArray), (⟨⟨[67]⟩⟩ : ByteArray)], s.size ≤ 5 := by decide
  have mkA : ∀ {s vs e}, s.size ≤ 5 → okP 2 vs → gE k e → gA k (Alt.mk s vs e) := by
    intro s vs e h1 h2 ⟨h3, h4, h5⟩
    unfold okP at h2
    refine ⟨h3, h4, ?_⟩
    rw [Alt.cost_eq]
    simp only [Alt.Great, Alt.Vars, Alt.E]
    omega
  have main : ∀ (n : Nat) (c : Cur) (out : List Alt), out.length + n ≤ 2 → okC c → (∀ a ∈ out, gA k a) → ∃ az c', M.spec_l3DrawAlts_L0 ((k : Int), (n : Int), c, out) = some (c', az) ∧ az.length ≤ 2 ∧ (∀ a ∈ az, gA k a) ∧ okC c' := by
    intro n
    induction n with
    | zero =>
      intro c out hl hc hg
      rw [M.e_spec_l3DrawAlts_L0]
      simp only [show ¬ (0 : Int) < ((0 : Nat) : Int) by omega, decide_false, cond_false]
      exact ⟨out, c, rfl, by omega, hg, hc⟩
    | succ n ih =>
      intro c out hl hc hg
      have hw : IntKind.i64.wrap (((n + 1 : Nat) : Int) - 1) = (n : Int) := by rw [wrap_ok (by omega)]; omega
      have gg : ∀ a, gd (out.length + [(a : Alt)].length ≤ grow) = some () := fun a => gd_t (by simp [grow]; omega)
      have go : ∀ (a : Alt) (c' : Cur), okC c' → gA k a → ∃ az c'', M.spec_l3DrawAlts_L0 ((k : Int), (n : Int), c', out ++ [a]) = some (c'', az) ∧ az.length ≤ 2 ∧ (∀ a ∈ az, gA k a) ∧ okC c'' := by
        intro a c' hc' ha
        refine ih c' _ (by simp; omega) hc' fun d hd => ?_
        rcases List.mem_append.1 hd with h | h
        · exact hg d h
        · rw [List.mem_singleton.1 h]; exact ha
      obtain ⟨v, c1, e1, _, _, o1⟩ := dBelow hc (n := 4) (by omega) (by omega)
      rw [M.e_spec_l3DrawAlts_L0]
      simp only [show (0 : Int) < ((n + 1 : Nat) : Int) by omega, decide_true, cond_true, e1, Option.bind_some, hw, Exp.eta, gg]
      by_cases v0 : v = 0
      · obtain ⟨s, c2, e2, m2, o2⟩ := dStr o1 (l := [(⟨⟨[120]⟩⟩ : ByteArray), (⟨⟨[95]⟩⟩ : ByteArray), (⟨⟨[122]⟩⟩ : ByteArray)]) (by simp) (by simp)
        obtain ⟨e, c3, e3, g3, o3⟩ := hE o2
        simp only [v0, decide_true, cond_true, e2, e3, Option.bind_some]
        exact go _ c3 o3 (mkA (by decide) (by have := key1 s m2; unfold okP; simp [sumC]; omega) g3)
      by_cases v1 : v = 1
      · obtain ⟨s, c2, e2, m2, o2⟩ := dStr o1 (l := [(⟨⟨[84, 114, 117, 101]⟩⟩ : ByteArray), (⟨⟨[70, 97, 108, 115, 101]⟩⟩ : ByteArray), (⟨⟨[65]⟩⟩ : ByteArray)]) (by simp) (by simp)
        obtain ⟨e, c3, e3, g3, o3⟩ := hE o2
        rw [decide_eq_false v0, decide_eq_true v1]
        simp only [cond_true, cond_false, e2, e3, Option.bind_some]
        exact go _ c3 o3 (mkA (key2 s m2) (by unfold okP; simp [sumC]) g3)
      · obtain ⟨s, c2, e2, m2, o2⟩ := dStr o1 (l := [(⟨⟨[66]⟩⟩ : ByteArray), (⟨⟨[67]⟩⟩ : ByteArray)]) (by simp) (by simp)
        obtain ⟨ps, c3, e3, p3, o3⟩ := dPars o2
        obtain ⟨e, c4, e4, g4, o4⟩ := hE o3
        rw [decide_eq_false v0, decide_eq_false v1]
        simp only [cond_false, e2, e3, e4, Option.bind_some]
        exact go _ c4 o4 (mkA (key3 s m2) p3 g4)
  intro c hc
  obtain ⟨v, c1, e1, a1, b1, o1⟩ := dBelow hc (n := 2) (by omega) (by omega)
  have hw : IntKind.i64.wrap (1 + v) = (((1 + v).toNat : Nat) : Int) := by rw [wrap_ok (by omega)]; omega
  obtain ⟨az, c2, e2, h1, h2, h3⟩ := main (1 + v).toNat c1 [] (by simp; omega) o1 (by simp)
  refine ⟨az, c2, ?_, h1, h2, h3⟩
  rw [M.e_spec_l3DrawAlts]
  simp only [e1, Option.bind_some, hw, e2]
end Q
end W
end
section
namespace W
set_option linter.unusedVariables false
set_option maxRecDepth 100000
set_option maxHeartbeats 1000000
namespace Q
open Go HL HL.X
theorem dr_of {k : Nat} (hk : k ≤ 100) (hs : ∀ k', k = k' + 1 → Dr1 k' ∧ Ds1 k' ∧ As1 k') : Dr1 k := by
  intro c hc
  obtain ⟨v, c1, e1, m, o1⟩ := dInt hc (l := [1, 1, 3, 2, 4, 4, 5, 6, 7, 8, 9, 9]) (by simp) (by simp)
  -- the leaves
  have leaf1 : ∃ e c', ((M.spec_l3Name c1).bind fun r3 => (M.spec_l3Var r3.1).bind fun r4 => some (r4, r3.2)) = some (e, c') ∧ gE k e ∧ okC c' := by
    obtain ⟨s, c2, e2, ⟨z, h1⟩, h2, o2⟩ := dName o1
    exact ⟨_, c2, by rw [e2, Option.bind_some, M.e_spec_l3Var, Option.bind_some], gE_leaf h1 (fun _ => h2) z, o2⟩
  have leaf2 : ∃ e c', ((M.spec_l1Str ([(⟨⟨[84, 114, 117, 101]⟩⟩ : ByteArray), (⟨⟨[70, 97, 108, 115, 101]⟩⟩ : ByteArray), (⟨⟨[65]⟩⟩ : ByteArray), (⟨⟨[66]⟩⟩ : ByteArray), (⟨⟨[67]⟩⟩ : ByteArray)], c1)).bind fun r5 => some ((Exp.mk 2 r5.1 0 [] [] []), r5.2)) = some (e, c') ∧ gE k e ∧ okC c' := by
    obtain ⟨s, c2, e2, m2, o2⟩ := dStr o1 (l := [(⟨⟨[84, 114, 117, 101]⟩⟩ : ByteArray), (⟨⟨[70, 97, 108, 115, 101]⟩⟩ : ByteArray), (⟨⟨[65]⟩⟩ : ByteArray), (⟨⟨[66]⟩⟩ : ByteArray), (⟨⟨[67]⟩⟩ : ByteArray)]) (by simp) (by simp)
    have key : ∀ s ∈ [(⟨⟨[84, 114, 117, 101]⟩⟩ : ByteArray), (⟨⟨[70, 97, 108, 115, 101]⟩⟩ : ByteArray), (⟨⟨[65]⟩⟩ : ByteArray), (⟨⟨[66]⟩⟩ : ByteArray), (⟨⟨[67]⟩⟩ : ByteArray)], (s ≠ nM ∧ s ≠ nX ∧ s ≠ nK) ∧ s.size ≤ 5 := by decide
    exact ⟨_, c2, by rw [e2, Option.bind_some], gE_leaf (key s m2).1 (fun h => by cases h) (key s m2).2, o2⟩
  have leaf3 : ∃ e c', ((M.spec_l1Below (50, c1)).bind fun r6 => (M.spec_l3Num r6.1).bind fun r7 => some (r7, r6.2)) = some (e, c') ∧ gE k e ∧ okC c' := by
    obtain ⟨n, c2, e2, _, _, o2⟩ := dBelow o1 (n := 50) (by omega) (by omega)
    exact ⟨_, c2, by rw [e2, Option.bind_some, M.e_spec_l3Num, Option.bind_some], gE_leaf okN_nil (fun h => by cases h) (by decide), o2⟩
  rw [M.e_spec_l3Draw]
  simp only [e1, Option.bind_some]
  cases k with
  | zero =>
    simp only [List.mem_cons, List.not_mem_nil, or_false] at m
    rcases m with rfl | rfl | rfl | rfl | rfl | rfl | rfl | rfl | rfl | rfl | rfl | rfl <;>
      simp only [show ((0 : Nat) : Int) ≤ 0 by omega, decide_true, cond_true, Int.reduceLT, Int.reduceEq, decide_false, cond_false, Option.bind_some] <;>
      first | exact leaf1 | exact leaf2 | exact leaf3
  | succ k =>
    obtain ⟨hE, hD, hA⟩ := hs k rfl
    have hw : IntKind.i64.wrap (((k + 1 : Nat) : Int) - 1) = (k : Int) := by rw [wrap_ok (by omega)]; omega
    have hn : ¬ ((k + 1 : Nat) : Int) ≤ 0 := by omega
    have nil5 : (⟨⟨[]⟩⟩ : ByteArray).size ≤ 5 := by decide
    have app : ∃ e c', ((M.spec_l3Draw ((k : Int), c1)).bind fun r21 => (M.spec_l3Draw ((k : Int), r21.2)).bind fun r22 => (M.spec_l3App (r21.1, r22.1)).bind fun r23 => some (r23, r22.2)) = some (e, c') ∧ gE (k + 1) e ∧ okC c' := by
      obtain ⟨x, c2, e2, g2, o2⟩ := hE o1
      obtain ⟨y, c3, e3, g3, o3⟩ := hE o2
      refine ⟨_, c3, by rw [e2, Option.bind_some, e3, Option.bind_some, M.e_spec_l3App, Option.bind_some], gE_parts (by decide) okN_nil nil5 (by simp) ?_, o3⟩
      intro z hz
      simp only [List.mem_cons, List.not_mem_nil, or_false] at hz
      rcases hz with rfl | rfl
      · exact g2
      · exact g3
    have lam : ∃ e c', ((M.spec_l1Str ([(⟨⟨[120]⟩⟩ : ByteArray), (⟨⟨[121]⟩⟩ : ByteArray), (⟨⟨[95]⟩⟩ : ByteArray)], c1)).bind fun r8 => (M.spec_l3Draw ((k : Int), r8.2)).bind fun r9 => some ((Exp.mk 5 r8.1 0 [r9.1] [] []), r9.2)) = some (e, c') ∧ gE (k + 1) e ∧ okC c' := by
      obtain ⟨s, c2, e2, m2, o2⟩ := dStr o1 (l := [(⟨⟨[120]⟩⟩ : ByteArray), (⟨⟨[121]⟩⟩ : ByteArray), (⟨⟨[95]⟩⟩ : ByteArray)]) (by simp) (by simp)
      have key : ∀ s ∈ [(⟨⟨[120]⟩⟩ : ByteArray), (⟨⟨[121]⟩⟩ : ByteArray), (⟨⟨[95]⟩⟩ : ByteArray)], (s ≠ nM ∧ s ≠ nX ∧ s ≠ nK) ∧ s.size ≤ 5 := by decide
      obtain ⟨x, c3, e3, g3, o3⟩ := hE o2
      exact ⟨_, c3, by rw [e2, Option.bind_some, e3, Option.bind_some], gE_parts (by decide) (key s m2).1 (key s m2).2 (by simp) (by simpa using g3), o3⟩
    have lett : ∃ e c', ((M.spec_l1Below (2, c1)).bind fun r10 => (gd (0 ≤ (IntKind.i64.wrap (1 + r10.1)))).bind fun _ => (gd ((IntKind.i64.wrap (1 + r10.1)) ≤ (([(⟨⟨[120]⟩⟩ : ByteArray), (⟨⟨[121]⟩⟩ : ByteArray)] : List ByteArray).length : Int))).bind fun _ =>
        (M.spec_l3DrawDecs ((k : Int), (([(⟨⟨[120]⟩⟩ : ByteArray), (⟨⟨[121]⟩⟩ : ByteArray)] : List ByteArray).take (IntKind.i64.wrap (1 + r10.1)).toNat), r10.2)).bind fun r11 => (M.spec_l3Draw ((k : Int), r11.1)).bind fun r12 => some ((Exp.mk 6 (⟨⟨[]⟩⟩ : ByteArray) 0 [r12.1] r11.2 []), r12.2)) = some (e, c') ∧ gE (k + 1) e ∧ okC c' := by
      obtain ⟨v, c2, e2, a2, b2, o2⟩ := dBelow o1 (n := 2) (by omega) (by omega)
      have hw1 : IntKind.i64.wrap (1 + v) = 1 + v := wrap_ok (by omega)
      obtain ⟨ds, c3, e3, n3, g3, o3⟩ := hD (ns := ([(⟨⟨[120]⟩⟩ : ByteArray), (⟨⟨[121]⟩⟩ : ByteArray)] : List ByteArray).take (1 + v).toNat) o2 (by simp; omega) (fun s hs => by
        have := List.mem_of_mem_take hs
        revert s
        have : ∀ s ∈ [(⟨⟨[120]⟩⟩ : ByteArray), (⟨⟨[121]⟩⟩ : ByteArray)], s.size ≤ 5 := by decide
        intro s _ h
        exact this s h)
      obtain ⟨x, c4, e4, g4, o4⟩ := hE o3
      refine ⟨_, c4, by rw [e2, Option.bind_some, hw1, gd_t (by omega), Option.bind_some, gd_t (by simp; omega), Option.bind_some, e3, Option.bind_some, e4, Option.bind_some], gE_let g4 ?_ g3, o4⟩
      have := congrArg List.length n3
      simp [nmB] at this
      omega
    have casee : ∃ e c', ((M.spec_l3Draw ((k : Int), c1)).bind fun r13 => (M.spec_l3DrawAlts ((k : Int), r13.2)).bind fun r14 => some ((Exp.mk 7 (⟨⟨[]⟩⟩ : ByteArray) 0 [r13.1] [] r14.2), r14.1)) = some (e, c') ∧ gE (k + 1) e ∧ okC c' := by
      obtain ⟨x, c2, e2, g2, o2⟩ := hE o1
      obtain ⟨az, c3, e3, l3, g3, o3⟩ := hA o2
      exact ⟨_, c3, by rw [e2, Option.bind_some, e3, Option.bind_some], gE_case g2 l3 g3, o3⟩
    have iff : ∃ e c', ((M.spec_l3Draw ((k : Int), c1)).bind fun r15 => (M.spec_l3Draw ((k : Int), r15.2)).bind fun r16 => (M.spec_l3Draw ((k : Int), r16.2)).bind fun r17 => some ((Exp.mk 8 (⟨⟨[]⟩⟩ : ByteArray) 0 [r15.1, r16.1, r17.1] [] []), r17.2)) = some (e, c') ∧ gE (k + 1) e ∧ okC c' := by
      obtain ⟨x, c2, e2, g2, o2⟩ := hE o1
      obtain ⟨y, c3, e3, g3, o3⟩ := hE o2
      obtain ⟨z, c4, e4, g4, o4⟩ := hE o3
      refine ⟨_, c4, by rw [e2, Option.bind_some, e3, Option.bind_some, e4, Option.bind_some], gE_parts (by decide) okN_nil nil5 (by simp) ?_, o4⟩
      intro w hw
      simp only [List.mem_cons, List.not_mem_nil, or_false] at hw
      rcases hw with rfl | rfl | rfl
      · exact g2
      · exact g3
      · exact g4
    have op : ∃ e c', ((M.spec_l3Draw ((k : Int), c1)).bind fun r18 => (M.spec_l1Str ([(⟨⟨[43]⟩⟩ : ByteArray), (⟨⟨[45]⟩⟩ : ByteArray), (⟨⟨[42]⟩⟩ : ByteArray), (⟨⟨[61, 61]⟩⟩ : ByteArray), (⟨⟨[60]⟩⟩ : ByteArray)], r18.2)).bind fun r19 => (M.spec_l3Draw ((k : Int), r19.2)).bind fun r20 => some ((Exp.mk 9 r19.1 0 [r18.1, r20.1] [] []), r20.2)) = some (e, c') ∧ gE (k + 1) e ∧ okC c' := by
      obtain ⟨x, c2, e2, g2, o2⟩ := hE o1
      obtain ⟨s, c3, e3, m3, o3⟩ := dStr o2 (l := [(⟨⟨[43]⟩⟩ : ByteArray), (⟨⟨[45]⟩⟩ : ByteArray), (⟨⟨[42]⟩⟩ : ByteArray), (⟨⟨[61, 61]⟩⟩ : ByteArray), (⟨⟨[60]⟩⟩ : ByteArray)]) (by simp) (by simp)
      have key : ∀ s ∈ [(⟨⟨[43]⟩⟩ : ByteArray), (⟨⟨[45]⟩⟩ : ByteArray), (⟨⟨[42]⟩⟩ : ByteArray), (⟨⟨[61, 61]⟩⟩ : ByteArray), (⟨⟨[60]⟩⟩ : ByteArray)], (s ≠ nM ∧ s ≠ nX ∧ s ≠ nK) ∧ s.size ≤ 5 := by decide
      obtain ⟨y, c4, e4, g4, o4⟩ := hE o3
      refine ⟨_, c4, by rw [e2, Option.bind_some, e3, Option.bind_some, e4, Option.bind_some], gE_parts (by decide) (key s m3).1 (key s m3).2 (by simp) ?_, o4⟩
      intro w hw
      simp only [List.mem_cons, List.not_mem_nil, or_false] at hw
      rcases hw with rfl | rfl
      · exact g2
      · exact g4
    simp only [List.mem_cons, List.not_mem_nil, or_false] at m
    rcases m with rfl | rfl | rfl | rfl | rfl | rfl | rfl | rfl | rfl | rfl | rfl | rfl <;>
      simp only [hn, decide_true, cond_true, Int.reduceEq, decide_false, cond_false, Option.bind_some, hw] <;>
      first | exact leaf1 | exact leaf2 | exact leaf3 | exact app | exact lam | exact lett | exact casee | exact iff | exact op
theorem dAll : ∀ k : Nat, k ≤ 100 → Dr1 k ∧ Ds1 k ∧ As1 k
  | 0, h => by
    have a : Dr1 0 := dr_of h fun k' e => by cases e
    exact ⟨a, ds_of h a (fun k' e => by cases e), as_of a⟩
  | k + 1, h => by
    obtain ⟨a, b, c⟩ := dAll k (by omega)
    have a' : Dr1 (k + 1) := dr_of h fun k' e => by cases e; exact ⟨a, b, c⟩
    exact ⟨a', ds_of h a' (fun k' e _ => by cases e; exact b), as_of a'⟩
theorem drawV {x : Int} {c : Cur} : M.spec_l3DrawV (x, c) = (M.spec_l3Draw (x, c)).map fun r => (r.1.K, r.1.S, r.1.N, r.1.L, r.2, r.1.Decs, r.1.Alts) := by
  rw [M.e_spec_l3DrawV, M.e_spec_l3Draw]
  simp only [Option.map_bind, Function.comp_def, Bool.apply_cond (Option.map _), Option.map_some, M.e_spec_l3Var, M.e_spec_l3VarV, M.e_spec_l3Num, M.e_spec_l3NumV, M.e_spec_l3App, M.e_spec_l3AppV, Option.bind_some, Exp.K, Exp.S, Exp.N, Exp.L, Exp.Decs, Exp.Alts]
end Q
end W
end
section
namespace W
set_option linter.unusedVariables false
set_option maxRecDepth 100000
set_option maxHeartbeats 1000000
namespace Q
open Go HL HL.X
theorem cost_mkE {K N : Int} {S : ByteArray} {L : List Exp} {D : List Dec} {A : List Alt} : (Exp.mk K S N L D A).cost = S.size + (L.length + sumC Exp.cost L) + (D.length + sumC Dec.cost D) + (A.length + sumC Alt.cost A) := Exp.cost_eq _
theorem cost_mkD {S : ByteArray} {P : List ByteArray} {E : Exp} {D : List Dec} : (Dec.mk S P E D).cost = S.size + (P.length + sumC ByteArray.size P) + E.cost + (D.length + sumC Dec.cost D) := Dec.cost_eq _
theorem cost_mkA {S : ByteArray} {P : List ByteArray} {E : Exp} : (Alt.mk S P E).cost = S.size + (P.length + sumC ByteArray.size P) + E.cost := Alt.cost_eq _
theorem sumC_app {α : Type} {c : α → Nat} : ∀ {l m : List α}, sumC c (l ++ m) = sumC c l + sumC c m
  | [], m => by simp [sumC]
  | x :: l, m => by simp only [List.cons_append, sumC, sumC_app (l := l)]; omega
theorem size_nil : (⟨⟨[]⟩⟩ : ByteArray).size = 0 := rfl
def oE (n : Nat) (e : Exp) : Prop := sE e ∧ e.cost ≤ n
theorem oE_mk {n m : Nat} {e : Exp} (h : oE n e) {K N : Int} {s : ByteArray} (hs : okN s) (hz : s.size ≤ e.S.size + 5) (hm : n + 5 ≤ m) : oE m (Exp.mk K s N e.L e.Decs e.Alts) := by
  obtain ⟨h1, h2⟩ := h
  obtain ⟨_, a, b, c⟩ := (sE_iff e).1 h1
  refine ⟨(sE_iff _).2 ⟨hs, a, b, c⟩, ?_⟩
  rw [cost_mkE]
  rw [Exp.cost_eq] at h2
  omega
theorem okN_q : okN (⟨⟨[113]⟩⟩ : ByteArray) := okN_of (by decide)
theorem dAnyL : ∀ (n : Nat) {m : Nat} {c : Cur} {d e : Exp}, n ≤ 100 → oE m e → ∃ e' d', M.spec_l3Any_L0 ((n : Int), c, d, e) = some (c, d', e') ∧ oE (m + 2 * n) e'
  | 0, m, c, d, e, hn, h => by
    rw [M.e_spec_l3Any_L0]
    simp only [show ¬ (0 : Int) < ((0 : Nat) : Int) by omega, decide_false, cond_false]
    exact ⟨e, d, rfl, h⟩
  | n + 1, m, c, d, e, hn, h => by
    have hw : IntKind.i64.wrap (((n + 1 : Nat) : Int) - 1) = (n : Int) := by rw [wrap_ok (by omega)]; omega
    obtain ⟨e', d', f1, f2⟩ := dAnyL n (m := m + 2) (c := c) (d := d) (e := Exp.mk 5 (⟨⟨[113]⟩⟩ : ByteArray) 0 [e] [] []) (by omega) (by
      refine ⟨(sE_iff _).2 ⟨okN_q, by simpa [Exp.L] using h.1, by simp [Exp.Decs], by simp [Exp.Alts]⟩, ?_⟩
      have := h.2
      have z : (⟨⟨[113]⟩⟩ : ByteArray).size = 1 := rfl
      rw [Exp.cost_eq]
      simp only [Exp.S, Exp.L, Exp.Decs, Exp.Alts, List.length_nil, List.length_cons, sumC, z]
      omega)
    rw [M.e_spec_l3Any_L0]
    simp only [show (0 : Int) < ((n + 1 : Nat) : Int) by omega, decide_true, cond_true, hw, f1]
    exact ⟨e', d', rfl, by rw [show m + 2 * (n + 1) = m + 2 + 2 * n by omega]; exact f2⟩
theorem dAny {c : Cur} (hc : okC c) : ∃ e c', M.spec_l3Any c = some (e, c') ∧ oE 300000 e ∧ okC c' := by
  obtain ⟨e, c1, e1, ⟨w1, s1, z1⟩, o1⟩ := (dAll 3 (by omega)).1 hc
  have hz : e.cost ≤ 160000 := by have : pw 3 = 8000 := rfl; omega
  have e1 : M.spec_l3Draw (3, c) = some (e, c1) := e1
  have hS : okN e.S := ((sE_iff e).1 s1).1
  have ho : oE 160000 e := ⟨s1, hz⟩
  obtain ⟨v, c2, e2, _, _, o2⟩ := dBelow o1 (n := 12) (by omega) (by omega)
  have hcost := Exp.cost_eq e
  rw [M.e_spec_l3Any, drawV, e1]
  simp only [Option.map_some, Option.bind_some, e2]
  by_cases v0 : v = 0
  · obtain ⟨n, c3, e3, _, o3⟩ := dInt o2 (l := [0, 10, 1, 4, 6]) (by simp) (by simp)
    rw [decide_eq_true v0]
    simp only [cond_true, e3, Option.bind_some]
    exact ⟨_, _, rfl, oE_mk ho hS (by omega) (by omega), o3⟩
  by_cases v1 : v = 1
  · obtain ⟨n, c3, e3, m3, o3⟩ := dStr o2 (l := [(⟨⟨[]⟩⟩ : ByteArray), (⟨⟨[65]⟩⟩ : ByteArray), (⟨⟨[120]⟩⟩ : ByteArray), (⟨⟨[43]⟩⟩ : ByteArray), (⟨⟨[108, 101, 116]⟩⟩ : ByteArray)]) (by simp) (by simp)
    have key : ∀ s ∈ [(⟨⟨[]⟩⟩ : ByteArray), (⟨⟨[65]⟩⟩ : ByteArray), (⟨⟨[120]⟩⟩ : ByteArray), (⟨⟨[43]⟩⟩ : ByteArray), (⟨⟨[108, 101, 116]⟩⟩ : ByteArray)], (s ≠ nM ∧ s ≠ nX ∧ s ≠ nK) ∧ s.size ≤ 5 := by decide
    rw [decide_eq_false v0, decide_eq_true v1]
    simp only [cond_true, cond_false, e3, Option.bind_some]
    exact ⟨_, _, rfl, oE_mk ho (key n m3).1 (by have := (key n m3).2; omega) (by omega), o3⟩
  by_cases v2 : v = 2
  · obtain ⟨n, c3, e3, _, o3⟩ := dInt o2 (l := [(-1), 1, 999999, 1000000]) (by simp) (by simp)
    rw [decide_eq_false v0, decide_eq_false v1, decide_eq_true v2]
    simp only [cond_true, cond_false, e3, Option.bind_some]
    exact ⟨_, _, rfl, oE_mk ho hS (by omega) (by omega), o3⟩
  by_cases v3 : v = 3
  · obtain ⟨n, c3, e3, a3, b3, o3⟩ := dBelow o2 (n := 13) (by omega) (by omega)
    obtain ⟨e', d', f1, f2⟩ := dAnyL n.toNat (m := 160000) (c := c3) (d := Exp.mk 0 (⟨⟨[]⟩⟩ : ByteArray) 0 [] [] []) (e := e) (by omega) ho
    rw [show ((n.toNat : Nat) : Int) = n by omega] at f1
    rw [decide_eq_false v0, decide_eq_false v1, decide_eq_false v2, decide_eq_true v3]
    simp only [cond_true, cond_false, e3, Option.bind_some, Exp.eta, f1]
    exact ⟨_, _, rfl, ⟨f2.1, by have := f2.2; omega⟩, o3⟩
  by_cases v4 : v = 4
  · obtain ⟨s, c3, e3, m3, o3⟩ := dStr o2 (l := [(⟨⟨[]⟩⟩ : ByteArray), (⟨⟨[65]⟩⟩ : ByteArray), (⟨⟨[97]⟩⟩ : ByteArray)]) (by simp) (by simp)
    obtain ⟨ps, c4, e4, p4, o4⟩ := dStrs o3
    have key : ∀ s ∈ [(⟨⟨[]⟩⟩ : ByteArray), (⟨⟨[65]⟩⟩ : ByteArray), (⟨⟨[97]⟩⟩ : ByteArray)], s.size ≤ 5 := by decide
    have hsz := key s m3
    rw [decide_eq_false v0, decide_eq_false v1, decide_eq_false v2, decide_eq_false v3, decide_eq_true v4]
    simp only [cond_true, cond_false, e3, e4, Option.bind_some]
    rw [gd_t (by simp [grow]; omega), Option.bind_some]
    refine ⟨_, _, rfl, ⟨(sE_iff _).2 ?_, ?_⟩, o4⟩
    · obtain ⟨a, b, d, f⟩ := (sE_iff e).1 s1
      refine ⟨a, b, d, fun x hx => ?_⟩
      rcases List.mem_append.1 hx with h | h
      · exact f x h
      · rw [List.mem_singleton.1 h]
        exact (sE_iff _).2 ⟨okN_nil, by simp [Alt.E, Exp.L], by simp [Alt.E, Exp.Decs], by simp [Alt.E, Exp.Alts]⟩
    · unfold okP at p4
      simp only [cost_mkE, List.length_append, List.length_cons, List.length_nil, sumC_app, sumC, cost_mkA, size_nil]
      omega
  by_cases v5 : v = 5
  · obtain ⟨s, c3, e3, m3, o3⟩ := dStr o2 (l := [(⟨⟨[120]⟩⟩ : ByteArray), (⟨⟨[88]⟩⟩ : ByteArray), (⟨⟨[111, 102]⟩⟩ : ByteArray)]) (by simp) (by simp)
    obtain ⟨ps, c4, e4, p4, o4⟩ := dStrs o3
    have key : ∀ s ∈ [(⟨⟨[120]⟩⟩ : ByteArray), (⟨⟨[88]⟩⟩ : ByteArray), (⟨⟨[111, 102]⟩⟩ : ByteArray)], s.size ≤ 5 := by decide
    have hsz := key s m3
    rw [decide_eq_false v0, decide_eq_false v1, decide_eq_false v2, decide_eq_false v3, decide_eq_false v4, decide_eq_true v5]
    simp only [cond_true, cond_false, e3, e4, Option.bind_some, M.e_spec_l3Num, Exp.eta]
    rw [gd_t (by simp [grow]; omega), Option.bind_some]
    refine ⟨_, _, rfl, ⟨(sE_iff _).2 ?_, ?_⟩, o4⟩
    · obtain ⟨a, b, d, f⟩ := (sE_iff e).1 s1
      refine ⟨a, b, fun x hx => ?_, f⟩
      rcases List.mem_append.1 hx with h | h
      · exact d x h
      · rw [List.mem_singleton.1 h]
        exact (sD_iff _).2 ⟨(sE_iff _).2 ⟨okN_nil, by simp [Dec.E, Exp.L], by simp [Dec.E, Exp.Decs], by simp [Dec.E, Exp.Alts]⟩, by simp [Dec.Where]⟩
    · unfold okP at p4
      simp only [cost_mkE, List.length_append, List.length_cons, List.length_nil, sumC_app, sumC, cost_mkD, size_nil]
      omega
  · rw [decide_eq_false v0, decide_eq_false v1, decide_eq_false v2, decide_eq_false v3, decide_eq_false v4, decide_eq_false v5]
    simp only [cond_false, Exp.eta]
    exact ⟨_, _, rfl, ⟨s1, by omega⟩, o2⟩
theorem dDatas {c : Cur} (hc : okC c) : ∃ ds c', M.spec_l3Datas c = some (c', ds) ∧ ds.length ≤ 2 ∧ okC c' := by
  obtain ⟨b1, c1, e1, o1⟩ := dOnce hc (n := 2) (by omega) (by omega)
  obtain ⟨b2, c2, e2, o2⟩ := dOnce o1 (n := 3) (by omega) (by omega)
  rw [M.e_spec_l3Datas]
  simp only [e1, Option.bind_some, M.e_spec_l9Int, M.e_spec_l9Data]
  cases b1 <;> cases b2 <;> simp only [cond_true, cond_false, Option.bind_some, e2]
  · exact ⟨_, _, rfl, by simp, o2⟩
  · rw [gd_t (by simp [grow]), Option.bind_some]
    exact ⟨_, _, rfl, by simp, o2⟩
  · exact ⟨_, _, rfl, by simp, o2⟩
  · rw [gd_t (by simp [grow]), Option.bind_some]
    exact ⟨_, _, rfl, by simp, o2⟩
def gL (ns : List ByteArray) (ds : List Dec) : Prop := nmB ds = ns ∧ ∀ d ∈ ds, gD 2 d
theorem gL_sm {ns : List ByteArray} {ds : List Dec} (hn : ns.length ≤ 10) (h : gL ns ds) : Sm ds := by
  refine ⟨?_, fun d hd => ?_⟩
  · have := congrArg List.length h.1
    simp [nmB] at this
    omega
  · have h1 := (h.2 d hd).2.2
    have : pw 2 = 400 := rfl
    omega
theorem gL_dn {ns : List ByteArray} {ds : List Dec} (hn : ns.length ≤ 10) (nd : ns.Nodup) (h : gL ns ds) : Dn ds := dnA (gL_sm hn h) (by rw [h.1]; exact nd) fun d hd => (h.2 d hd).1
abbrev nMfg : List ByteArray := [(⟨⟨[109, 97, 105, 110]⟩⟩ : ByteArray), (⟨⟨[102]⟩⟩ : ByteArray), (⟨⟨[103]⟩⟩ : ByteArray)]
theorem dProg {c : Cur} (hc : okC c) : ∃ n dts ds c', M.spec_l3Prog c = some (c', dts, ds) ∧ 1 ≤ n ∧ gL (nMfg.take n) ds ∧ dts.length ≤ 2 ∧ okC c' := by
  obtain ⟨dts, c1, e1, l1, o1⟩ := dDatas hc
  obtain ⟨v, c2, e2, a2, b2, o2⟩ := dBelow o1 (n := 3) (by omega) (by omega)
  have hw1 : IntKind.i64.wrap (1 + v) = 1 + v := wrap_ok (by omega)
  obtain ⟨ds, c3, e3, n3, g3, o3⟩ := (dAll 2 (by omega)).2.1 (ns := nMfg.take (1 + v).toNat) o2 (by simp; omega) (fun s hs => by
    have this : ∀ s ∈ nMfg, s.size ≤ 5 := by decide
    exact this s (List.mem_of_mem_take hs))
  have e3 : M.spec_l3DrawDecs (2, nMfg.take (1 + v).toNat, c2) = _ := e3
  refine ⟨(1 + v).toNat, dts, ds, c3, ?_, by omega, ⟨n3, g3⟩, l1, o3⟩
  rw [M.e_spec_l3Prog]
  simp only [e1, Option.bind_some, e2, hw1]
  rw [gd_t (by omega), Option.bind_some, gd_t (by simp; omega), Option.bind_some, e3]
  rfl
theorem dProgAny {c : Cur} (hc : okC c) : ∃ p c', M.spec_l3ProgAny c = some (p, c') ∧ Dn p.Decs ∧ okC c' := by
  obtain ⟨n, dts, ds, c1, e1, n1, g1, l1, o1⟩ := dProg hc
  obtain ⟨v, c2, e2, a2, b2, o2⟩ := dBelow o1 (n := 10) (by omega) (by omega)
  have hlen : (nMfg.take n).length ≤ 10 := by simp; omega
  have nd : (nMfg.take n).Nodup := List.Pairwise.sublist (List.take_sublist _ _) (by decide)
  have hdn := gL_dn hlen nd g1
  have hdl : ds.length ≤ 10 := by have := congrArg List.length g1.1; simp [nmB] at this; omega
  rw [M.e_spec_l3ProgAny]
  simp only [e1, Option.bind_some, e2]
  by_cases v0 : v = 0
  · obtain ⟨s, c3, e3, m3, o3⟩ := dStr o2 (l := [(⟨⟨[109, 97, 105, 110]⟩⟩ : ByteArray), (⟨⟨[88]⟩⟩ : ByteArray), (⟨⟨[107]⟩⟩ : ByteArray)]) (by simp) (by simp)
    obtain ⟨ps, c4, e4, p4, o4⟩ := dStrs o3
    obtain ⟨e, c5, e5, ⟨s5, z5⟩, o5⟩ := dAny o4
    rw [decide_eq_true v0]
    simp only [cond_true, e3, e4, e5, Option.bind_some, Exp.eta]
    rw [gd_t (by simp [grow]; omega), Option.bind_some]
    refine ⟨_, _, rfl, ?_, o5⟩
    have hss : s.size ≤ 5 := by
      have key : ∀ s ∈ [(⟨⟨[109, 97, 105, 110]⟩⟩ : ByteArray), (⟨⟨[88]⟩⟩ : ByteArray), (⟨⟨[107]⟩⟩ : ByteArray)], s.size ≤ 5 := by decide
      exact key s m3
    refine dnB (l0 := ds) (d := Dec.mk s ps e []) ⟨by simp; omega, fun x hx => ?_⟩ (by rw [g1.1]; exact nd) (fun x hx => (g1.2 x hx).1) (fun x hx => ?_) ?_ ?_
    · rcases List.mem_append.1 hx with h | h
      · exact (gL_sm hlen g1).2 x h
      · rw [List.mem_singleton.1 h, Dec.cost_eq]
        unfold okP at p4
        simp only [Dec.Name, Dec.Pars, Dec.E, Dec.Where, List.length_nil, sumC]
        omega
    · rcases List.mem_append.1 hx with h | h
      · exact (g1.2 x h).2.1
      · rw [List.mem_singleton.1 h]
        exact (sD_iff _).2 ⟨s5, by simp [Dec.Where]⟩
    · simpa [Dec.Name] using m3
    · rw [g1.1]
      obtain ⟨n', rfl⟩ : ∃ n', n = n' + 1 := ⟨n - 1, by omega⟩
      simp
  by_cases v1 : v = 1
  · obtain ⟨s, c3, e3, m3, o3⟩ := dStr o2 (l := [(⟨⟨[84]⟩⟩ : ByteArray), (⟨⟨[73, 110, 116]⟩⟩ : ByteArray), (⟨⟨[75]⟩⟩ : ByteArray), (⟨⟨[107]⟩⟩ : ByteArray)]) (by simp) (by simp)
    obtain ⟨t, c4, e4, m4, o4⟩ := dStr o3 (l := [(⟨⟨[65]⟩⟩ : ByteArray), (⟨⟨[84, 114, 117, 101]⟩⟩ : ByteArray), (⟨⟨[90]⟩⟩ : ByteArray), (⟨⟨[122]⟩⟩ : ByteArray)]) (by simp) (by simp)
    obtain ⟨w, c5, e5, a5, b5, o5⟩ := dBelow o4 (n := 2) (by omega) (by omega)
    rw [decide_eq_false v0, decide_eq_true v1]
    simp only [cond_true, cond_false, e3, e4, e5, Option.bind_some]
    rw [gd_t (by omega), Option.bind_some, gd_t (by omega), Option.bind_some, gd_t (by simp [grow]; omega), Option.bind_some]
    exact ⟨_, _, rfl, hdn, o5⟩
  by_cases v2 : v = 2
  · rw [decide_eq_false v0, decide_eq_false v1, decide_eq_true v2]
    simp only [cond_true, cond_false]
    rw [gd_t (by simp [grow]; omega), Option.bind_some]
    exact ⟨_, _, rfl, hdn, o2⟩
  by_cases v3 : v = 3
  · rw [decide_eq_false v0, decide_eq_false v1, decide_eq_false v2, decide_eq_true v3]
    simp only [cond_true, cond_false]
    exact ⟨_, _, rfl, dnA ⟨by simp [Prog.Decs], by simp [Prog.Decs]⟩ (by simp [Prog.Decs, nmB]) (by simp [Prog.Decs]), o2⟩
  · rw [decide_eq_false v0, decide_eq_false v1, decide_eq_false v2, decide_eq_false v3]
    simp only [cond_false]
    exact ⟨_, _, rfl, hdn, o2⟩
end Q
end W
end
