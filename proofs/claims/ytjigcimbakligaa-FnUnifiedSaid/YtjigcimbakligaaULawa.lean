/- FnUnified: types as terms. -/
import Derived.Test.YtjigcimbakligaaUE
import Derived.Test.YtjigcimbakligaaHLP
set_option linter.unusedSimpArgs false
set_option linter.unusedVariables false
set_option linter.unusedSectionVars false
section
namespace W
namespace Q
open Go HL HL.X
set_option maxRecDepth 100000

abbrev nos : ByteArray := ⟨⟨[]⟩⟩

inductive Tm where
  | int
  | bool
  | dat (s : ByteArray)
  | var (n : Nat)
  | fn (a b : Tm)
  deriving DecidableEq

def Tm.ty : Tm → Ty
  | .int => Ty.mk 1 nos 0 []
  | .bool => Ty.mk 2 nos 0 []
  | .dat s => Ty.mk 3 s 0 []
  | .var n => Ty.mk 5 nos (n : Int) []
  | .fn a b => Ty.mk 4 nos 0 [a.ty, b.ty]

theorem ty_inj : ∀ {a b : Tm}, a.ty = b.ty → a = b := by
  intro a
  induction a with
  | int => intro b h; cases b <;> simp [Tm.ty] at h ⊢
  | bool => intro b h; cases b <;> simp [Tm.ty] at h ⊢
  | dat s => intro b h; cases b <;> simp [Tm.ty] at h ⊢; exact h
  | var n => intro b h; cases b <;> simp [Tm.ty] at h ⊢; omega
  | fn a b iha ihb =>
    intro c h
    cases c <;> simp [Tm.ty] at h ⊢
    exact ⟨iha h.1, ihb h.2⟩

theorem gd_t {p : Prop} [Decidable p] (h : p) : gd p = some () := by simp [gd, h]
@[simp] theorem w1 : IntKind.i64.wrap 1 = 1 := by decide
@[simp] theorem w2 : IntKind.i64.wrap 2 = 2 := by decide
@[simp] theorem w499 : IntKind.i64.wrap 499 = 499 := by decide

theorem clone2 {x y x' y' : Ty} {t : Ty} {k n : Int} {s : ByteArray} (hx : M.impl_cloneTy x = some x') (hy : M.impl_cloneTy y = some y') :
    M.impl_cloneTy_L0 ([x, y], 2, 0, t, k, s, n, []) = some (t, k, s, n, [x', y']) := by
  rw [M.e_impl_cloneTy_L0]
  simp [ix, hx, gd, grow]
  rw [M.e_impl_cloneTy_L0]
  simp [ix, hy, gd, grow]
  rw [M.e_impl_cloneTy_L0]
  simp

theorem clone_ty : ∀ t : Tm, M.impl_cloneTy t.ty = some t.ty := by
  have leaf : ∀ k s n, M.impl_cloneTy (Ty.mk k s n []) = some (Ty.mk k s n []) := by
    intro k s n
    rw [M.e_impl_cloneTy, M.e_impl_cloneTy_L0]
    rfl
  intro t
  induction t with
  | int => exact leaf _ _ _
  | bool => exact leaf _ _ _
  | dat s => exact leaf _ _ _
  | var n => exact leaf _ _ _
  | fn a b iha ihb =>
    rw [M.e_impl_cloneTy]
    simp only [Tm.ty]
    have := clone2 (t := Ty.mk 0 nos 0 []) (k := 4) (n := 0) (s := nos) iha ihb
    show (M.impl_cloneTy_L0 ([a.ty, b.ty], 2, 0, Ty.mk 0 nos 0 [], 4, nos, 0, [])).bind _ = _
    rw [this]
    rfl

/-! ### types told apart -/

theorem bif_t {α : Type} {b : Bool} {x y : α} (h : b = true) : cond b x y = x := by rw [h]; rfl
theorem bif_f {α : Type} {b : Bool} {x y : α} (h : b = false) : cond b x y = y := by rw [h]; rfl

theorem sameL_nil {t u : Ty} (ht : t.L = []) : M.laws_sameTy_L0 (0, t, u) = some (.inr ()) := by
  rw [M.e_laws_sameTy_L0]
  simp [ht]
theorem same_leaf {k k' n n' : Int} {s s' : ByteArray} : M.laws_sameTy (Ty.mk k s n [], Ty.mk k' s' n' []) = some (decide (k = k') && decide (s = s') && decide (n = n')) := by
  rw [M.e_laws_sameTy]
  rw [sameL_nil rfl]
  by_cases h1 : k = k' <;> by_cases h2 : s = s' <;> by_cases h3 : n = n' <;> simp [h1, h2, h3]
theorem same_two {a b c d : Ty} {p q : Bool} (h1 : M.laws_sameTy (a, c) = some p) (h2 : M.laws_sameTy (b, d) = some q) : M.laws_sameTy (Ty.mk 4 nos 0 [a, b], Ty.mk 4 nos 0 [c, d]) = some (p && q) := by
  rw [M.e_laws_sameTy]
  rw [M.e_laws_sameTy_L0]
  cases p <;> cases q <;> simp [ix, h1]
  all_goals rw [M.e_laws_sameTy_L0]; simp [ix, h2]
  all_goals rw [M.e_laws_sameTy_L0]; simp
theorem same_mix {k n : Int} {s : ByteArray} {a b : Ty} (hk : k ≠ 4) : M.laws_sameTy (Ty.mk k s n [], Ty.mk 4 nos 0 [a, b]) = some false ∧ M.laws_sameTy (Ty.mk 4 nos 0 [a, b], Ty.mk k s n []) = some false := by
  constructor
  · rw [M.e_laws_sameTy]; simp [hk]
  · rw [M.e_laws_sameTy]; simp [Ne.symm hk]

theorem same_ty : ∀ a b : Tm, M.laws_sameTy (a.ty, b.ty) = some (decide (a = b)) := by
  intro a
  induction a with
  | fn a b iha ihb =>
    intro c
    cases c with
    | fn c d =>
      have := same_two (iha c) (ihb d)
      simp only [Tm.ty]
      rw [this]
      simp
    | _ => exact (same_mix (by decide)).2
  | _ =>
    intro c
    cases c with
    | fn c d => exact (same_mix (by decide)).1
    | _ => simp only [Tm.ty]; rw [same_leaf]; simp; try omega

def Tm.leaf : Tm → Bool
  | .fn _ _ => false
  | _ => true

theorem eqf_nil (l : List Ty) : M.slices_EqualFunc_impl_Ty_at_SameTy ([], l) = some (decide (l = [])) := by
  rw [M.e_slices_EqualFunc_impl_Ty_at_SameTy]
  cases l with
  | nil =>
    rw [M.e_slices_EqualFunc_impl_Ty_at_SameTy_L0]
    simp
  | cons a l =>
    have : (!decide ((([] : List Ty).length : Int) = ((a :: l).length : Int))) = true := by simp; omega
    simp only [this]
    simp

theorem SameTy_leaf {a : Tm} (ha : a.leaf = true) (b : Tm) : M.impl_SameTy (a.ty, b.ty) = some (decide (a = b)) := by
  rw [M.e_impl_SameTy]
  have bd : ∀ {p : Prop} [Decidable p] {q : Prop} [Decidable q], (p ↔ q) → (bif decide p then some true else some false : Option Bool) = some (decide q) := by
    intro p _ q _ h
    by_cases hp : p
    · have hq := h.1 hp; simp [hp, hq]
    · have hq : ¬ q := fun x => hp (h.2 x); simp [hp, hq]
  cases a with
  | fn a b => cases ha
  | var m =>
    cases b with
    | var n => simp only [Tm.ty, eqf_nil]; simp; exact bd (by omega)
    | _ => simp [Tm.ty]
  | dat m =>
    cases b with
    | dat n => simp only [Tm.ty, eqf_nil]; simp; exact bd Iff.rfl
    | _ => simp [Tm.ty]
  | _ => cases b <;> simp [Tm.ty, eqf_nil]

end Q
end W
end
section
/- FnUnified: what a type is bound to. -/
namespace W
namespace Q
open Go HL HL.X
set_option maxRecDepth 100000

abbrev Tb := List (Option Tm)
def opt : Option Tm → Ty
  | none => Ty.mk 0 nos 0 []
  | some t => t.ty
def Tb.tys (tb : Tb) : List Ty := tb.map opt
def look (tb : Tb) (n : Nat) : Option Tm := match tb[n]? with
  | some o => o
  | none => none
def walk (tb : Tb) : Nat → Tm → Tm
  | 0, t => t
  | f + 1, .var n => match look tb n with
    | some t => walk tb f t
    | none => .var n
  | _ + 1, t => t

theorem tys_len (tb : Tb) : tb.tys.length = tb.length := by simp [Tb.tys]
theorem opt_K (o : Option Tm) : (opt o).K = 0 ↔ o = none := by
  cases o with
  | none => simp [opt]
  | some t => cases t <;> simp [opt, Tm.ty]
theorem ty_K5 (t : Tm) : t.ty.K = 5 ↔ ∃ n, t = .var n := by
  cases t <;> simp [Tm.ty]

theorem in_s (n a b : Int) : M.impl_in (n, a, b) = some (decide (a ≤ n) && decide (n ≤ b)) := by
  rw [M.e_impl_in]
  by_cases h : a ≤ n <;> simp [h]

theorem looked_L0 {tb : Tb} (hl : tb.length ≤ 500) (d : Ty) : ∀ (f i : Nat) (t : Tm), i + f = tb.length + 1 → M.impl_looked_L0 ((i : Int), tb.tys, t.ty, d) = some ((walk tb f t).ty, d)
  | 0, i, t, h => by
    rw [M.e_impl_looked_L0]
    have : ¬ ((i : Int) ≤ (tb.tys.length : Int)) := by rw [tys_len]; omega
    simp [this, walk]
  | f + 1, i, t, h => by
    rw [M.e_impl_looked_L0]
    have h1 : (i : Int) ≤ (tb.tys.length : Int) := by rw [tys_len]; omega
    simp only [h1, decide_true, cond_true]
    cases t with
    | var n =>
      have e1 : (decide ((Tm.var n).ty.K = 5)) = true := by simp [Tm.ty]
      have e2 : (Tm.var n).ty.N = (n : Int) := rfl
      have ew : IntKind.i64.wrap ((tb.tys.length : Int) - 1) = (tb.length : Int) - 1 := by rw [tys_len]; exact wrap_ok (by omega)
      simp only [e1, cond_true, e2, ew, in_s]
      by_cases hn : n < tb.length
      · have e3 : (decide ((0 : Int) ≤ (n : Int)) && decide ((n : Int) ≤ (tb.length : Int) - 1)) = true := by simp; omega
        have e4 : tb.tys[n]? = some (opt (tb[n]'hn)) := by simp [Tb.tys, hn]
        have e5 : ((n : Int)).toNat = n := by simp
        have e6 : (n : Int) < (tb.tys.length : Int) := by rw [tys_len]; omega
        have hlk : look tb n = tb[n]'hn := by simp [look, hn]
        have ew2 : IntKind.i64.wrap ((i : Int) + 1) = ((i + 1 : Nat) : Int) := by rw [wrap_ok (by omega)]; omega
        simp only [e3, Option.bind_some, cond_true, gd_t (show (0 : Int) ≤ (n : Int) by omega), gd_t e6, e5, e4, ew2]
        cases ho : tb[n]'hn with
        | none =>
          rw [ho] at hlk
          simp [opt, walk, hlk, Tm.ty]
        | some u =>
          rw [ho] at hlk
          have e7 : (!decide ((opt (some u)).K = 0)) = true := by
            have : ¬ (opt (some u)).K = 0 := fun q => by have := (opt_K (some u)).1 q; cases this
            simp [this]
          simp only [e7, cond_true]
          rw [show opt (some u) = u.ty from rfl, looked_L0 hl d f (i + 1) u (by omega)]
          simp [walk, hlk]
      · have e3 : (decide ((0 : Int) ≤ (n : Int)) && decide ((n : Int) ≤ (tb.length : Int) - 1)) = false := by simp; omega
        have hlk : look tb n = none := by simp [look, List.getElem?_eq_none (Nat.le_of_not_lt hn)]
        simp only [e3, Option.bind_some, cond_false]
        simp [walk, hlk]
    | _ => simp [Tm.ty, walk]

theorem looked_s {tb : Tb} (hl : tb.length ≤ 500) (t : Tm) : M.impl_looked (t.ty, tb.tys) = some (walk tb (tb.length + 1) t).ty := by
  rw [M.e_impl_looked]
  have := looked_L0 hl (Ty.mk 0 nos 0 []) (tb.length + 1) 0 t (by omega)
  rw [show ((0 : Nat) : Int) = 0 from rfl] at this
  rw [this]
  rfl

end Q
end W
end
section
/- FnUnified: substitutions. No program in sight. -/
namespace W
namespace Q
set_option maxRecDepth 100000

def sub (σ : Nat → Tm) : Tm → Tm
  | .var n => σ n
  | .fn a b => .fn (sub σ a) (sub σ b)
  | t => t
def occ (n : Nat) : Tm → Bool
  | .var m => decide (m = n)
  | .fn a b => occ n a || occ n b
  | _ => false
def size : Tm → Nat
  | .fn a b => size a + size b + 1
  | _ => 1

theorem size_pos (t : Tm) : 1 ≤ size t := by cases t <;> simp [size]
theorem sub_sub (σ τ : Nat → Tm) : ∀ t, sub σ (sub τ t) = sub (fun n => sub σ (τ n)) t
  | .var n => rfl
  | .fn a b => by simp [sub, sub_sub σ τ a, sub_sub σ τ b]
  | .int => rfl
  | .bool => rfl
  | .dat _ => rfl
theorem sub_congr {σ τ : Nat → Tm} : ∀ {t : Tm}, (∀ n, occ n t = true → σ n = τ n) → sub σ t = sub τ t
  | .var n, h => h n (by simp [occ])
  | .fn a b, h => by simp only [sub]; rw [sub_congr (t := a) fun n hn => h n (by simp [occ, hn]), sub_congr (t := b) fun n hn => h n (by simp [occ, hn])]
  | .int, _ => rfl
  | .bool, _ => rfl
  | .dat _, _ => rfl
theorem sub_var : ∀ t, sub Tm.var t = t
  | .var n => rfl
  | .fn a b => by simp [sub, sub_var a, sub_var b]
  | .int => rfl
  | .bool => rfl
  | .dat _ => rfl
theorem occ_sub {σ : Nat → Tm} {n : Nat} : ∀ {t : Tm}, occ n (sub σ t) = true ↔ ∃ m, occ m t = true ∧ occ n (σ m) = true
  | .var k => by
    constructor
    · intro h; exact ⟨k, by simp [occ], h⟩
    · rintro ⟨m, h1, h2⟩
      simp [occ] at h1
      subst h1
      exact h2
  | .fn a b => by
    simp only [sub, occ, Bool.or_eq_true]
    rw [occ_sub (t := a), occ_sub (t := b)]
    constructor
    · rintro (⟨m, h1, h2⟩ | ⟨m, h1, h2⟩)
      · exact ⟨m, .inl h1, h2⟩
      · exact ⟨m, .inr h1, h2⟩
    · rintro ⟨m, h1 | h1, h2⟩
      · exact .inl ⟨m, h1, h2⟩
      · exact .inr ⟨m, h1, h2⟩
  | .int => by simp [sub, occ]
  | .bool => by simp [sub, occ]
  | .dat _ => by simp [sub, occ]
theorem occ_size {n : Nat} {σ : Nat → Tm} : ∀ {t : Tm}, occ n t = true → size (σ n) ≤ size (sub σ t)
  | .var k, h => by simp [occ] at h; subst h; exact Nat.le_refl _
  | .fn a b, h => by
    simp only [occ, Bool.or_eq_true] at h
    simp only [sub, size]
    rcases h with h | h
    · have := occ_size (σ := σ) h; omega
    · have := occ_size (σ := σ) h; omega

/-- A table that leads nowhere back; all that is bound is put in. -/
structure Good (tb : Tb) (σ : Nat → Tm) (r : Nat → Nat) : Prop where
  s : ∀ n, σ n = match look tb n with
    | none => .var n
    | some t => sub σ t
  r : ∀ n t, look tb n = some t → ∀ m, occ m t = true → r m < r n

theorem Good.no {tb : Tb} {σ : Nat → Tm} {r : Nat → Nat} (h : Good tb σ r) {n : Nat} (hn : look tb n = none) : σ n = .var n := by
  have := h.s n
  rw [hn] at this
  exact this
theorem Good.yes {tb : Tb} {σ : Nat → Tm} {r : Nat → Nat} (h : Good tb σ r) {n : Nat} {t : Tm} (hn : look tb n = some t) : σ n = sub σ t := by
  have := h.s n
  rw [hn] at this
  exact this

def Sat (θ : Nat → Tm) (tb : Tb) : Prop := ∀ n t, look tb n = some t → θ n = sub θ t

theorem Good.sat_sub {tb : Tb} {σ : Nat → Tm} {r : Nat → Nat} (h : Good tb σ r) {θ : Nat → Tm} (hθ : Sat θ tb) : ∀ n, sub θ (σ n) = θ n := by
  have key : ∀ k n, r n < k → sub θ (σ n) = θ n := by
    intro k
    induction k with
    | zero => intro n hn; omega
    | succ k ih =>
      intro n hn
      cases hl : look tb n with
      | none => rw [h.no hl]; rfl
      | some t =>
        rw [h.yes hl, hθ n t hl, sub_sub]
        exact sub_congr fun m hm => ih m (by have := h.r n t hl m hm; omega)
  exact fun n => key (r n + 1) n (Nat.lt_succ_self _)
theorem Good.sat {tb : Tb} {σ : Nat → Tm} {r : Nat → Nat} (h : Good tb σ r) : Sat σ tb := fun n t hn => h.yes hn
theorem Good.idem {tb : Tb} {σ : Nat → Tm} {r : Nat → Nat} (h : Good tb σ r) (t : Tm) : sub σ (sub σ t) = sub σ t := by
  rw [sub_sub]
  exact sub_congr fun n _ => h.sat_sub h.sat n
theorem Good.sat_all {tb : Tb} {σ : Nat → Tm} {r : Nat → Nat} (h : Good tb σ r) {θ : Nat → Tm} (hθ : Sat θ tb) (t : Tm) : sub θ (sub σ t) = sub θ t := by
  rw [sub_sub]
  exact sub_congr fun n _ => h.sat_sub hθ n

/-- What is not bound stays. -/
theorem Good.free {tb : Tb} {σ : Nat → Tm} {r : Nat → Nat} (h : Good tb σ r) {n m : Nat} (ho : occ m (σ n) = true) : look tb m = none := by
  have key : ∀ k n, r n < k → ∀ m, occ m (σ n) = true → look tb m = none := by
    intro k
    induction k with
    | zero => intro n hn; omega
    | succ k ih =>
      intro n hn m ho
      cases hl : look tb n with
      | none =>
        rw [h.no hl] at ho
        simp [occ] at ho
        subst ho
        exact hl
      | some t =>
        rw [h.yes hl, occ_sub] at ho
        obtain ⟨p, p1, p2⟩ := ho
        exact ih p (by have := h.r n t hl p p1; omega) m p2
  exact key (r n + 1) n (Nat.lt_succ_self _) m ho

/-! ### a new binding -/

def upd (n : Nat) (u : Tm) : Nat → Tm := fun v => if v = n then u else .var v
theorem upd_not {n : Nat} {u : Tm} : ∀ {t : Tm}, occ n t = false → sub (upd n u) t = t := by
  intro t h
  have := sub_congr (σ := upd n u) (τ := Tm.var) (t := t) fun m hm => by
    by_cases e : m = n
    · subst e; rw [h] at hm; cases hm
    · simp [upd, e]
  rw [this, sub_var]

def mx (r : Nat → Nat) : Tm → Nat
  | .var n => r n
  | .fn a b => mx r a + mx r b
  | _ => 0
theorem mx_le {r : Nat → Nat} {n : Nat} : ∀ {t : Tm}, occ n t = true → r n ≤ mx r t
  | .var k, h => by simp [occ] at h; subst h; exact Nat.le_refl _
  | .fn a b, h => by
    simp only [occ, Bool.or_eq_true] at h
    simp only [mx]
    rcases h with h | h
    · have := mx_le (r := r) h; omega
    · have := mx_le (r := r) h; omega

theorem Good.bind {tb tb' : Tb} {σ : Nat → Tm} {r : Nat → Nat} (h : Good tb σ r) {n : Nat} {t : Tm} (hn : look tb n = none) (ho : occ n (sub σ t) = false) (h1 : look tb' n = some t) (h2 : ∀ m, m ≠ n → look tb' m = look tb m) :
    ∃ r', Good tb' (fun v => sub (upd n (sub σ t)) (σ v)) r' := by
  refine ⟨fun v => if occ n (σ v) = true then r v + (mx r t + 1) else r v, ⟨fun v => ?_, fun v u hv m hm => ?_⟩⟩
  · by_cases e : v = n
    · subst e
      rw [h1]
      simp only
      rw [← sub_sub, upd_not ho, h.no hn]
      simp [sub, upd]
    · rw [h2 v e]
      cases hl : look tb v with
      | none => simp only; rw [h.no hl]; simp [sub, upd, e]
      | some u => simp only; rw [← sub_sub, ← h.yes hl]
  · by_cases e : v = n
    · subst e
      rw [h1] at hv
      cases hv
      have hm' : ¬ occ v (σ m) = true := fun q => by
        have : occ v (sub σ t) = true := occ_sub.2 ⟨m, hm, q⟩
        rw [ho] at this; cases this
      have hv' : occ v (σ v) = true := by rw [h.no hn]; simp [occ]
      simp only [hv', if_true]
      rw [if_neg hm']
      have := mx_le (r := r) hm
      omega
    · rw [h2 v e] at hv
      have hr := h.r v u hv m hm
      by_cases hm' : occ n (σ m) = true
      · have : occ n (σ v) = true := by rw [h.yes hv]; exact occ_sub.2 ⟨m, hm, hm'⟩
        simp only [this, hm', if_true]
        omega
      · simp only [if_neg hm']
        split <;> omega

/-- What satisfies the new table. -/
theorem sat_bind {tb tb' : Tb} {n : Nat} {t : Tm} (hn : look tb n = none) (h1 : look tb' n = some t) (h2 : ∀ m, m ≠ n → look tb' m = look tb m) (θ : Nat → Tm) : Sat θ tb' ↔ Sat θ tb ∧ θ n = sub θ t := by
  constructor
  · intro h
    refine ⟨fun m u hm => ?_, h n t h1⟩
    by_cases e : m = n
    · subst e; rw [hn] at hm; cases hm
    · exact h m u (by rw [h2 m e]; exact hm)
  · rintro ⟨h, hx⟩ m u hm
    by_cases e : m = n
    · subst e; rw [h1] at hm; cases hm; exact hx
    · rw [h2 m e] at hm; exact h m u hm

/-- One that occurs in what it is to be is nothing. -/
theorem occurs_no {tb : Tb} {σ : Nat → Tm} {r : Nat → Nat} (h : Good tb σ r) {n : Nat} {t : Tm} (ho : occ n (sub σ t) = true) (hv : t ≠ .var n ∨ True) (hne : sub σ t ≠ .var n) {θ : Nat → Tm} (hθ : Sat θ tb) : θ n ≠ sub θ t := by
  intro e
  have e2 := h.sat_all hθ t
  rw [← e] at e2
  have key : ∀ u : Tm, occ n u = true → u ≠ .var n → size (θ n) < size (sub θ u) := by
    intro u
    induction u with
    | var m => intro h1 h2; simp [occ] at h1; subst h1; exact absurd rfl h2
    | fn a b iha ihb =>
      intro h1 _
      simp only [occ, Bool.or_eq_true] at h1
      simp only [sub, size]
      rcases h1 with h1 | h1
      · have := occ_size (σ := θ) h1; omega
      · have := occ_size (σ := θ) h1; omega
    | _ => intro h1; simp [occ] at h1
  have := key _ ho hne
  rw [e2] at this
  omega

end Q
end W
end
section
/- FnUnified: looking up, and looking for. -/
namespace W
namespace Q
open Go HL HL.X
set_option maxRecDepth 100000

theorem walk_sub {tb : Tb} {σ : Nat → Tm} {r : Nat → Nat} (h : Good tb σ r) : ∀ (f : Nat) (t : Tm), sub σ (walk tb f t) = sub σ t
  | 0, t => rfl
  | f + 1, .var n => by
    simp only [walk]
    cases hl : look tb n with
    | none => rfl
    | some u =>
      simp only
      rw [walk_sub h f u, ← h.yes hl]
      rfl
  | f + 1, .fn a b => rfl
  | f + 1, .int => rfl
  | f + 1, .bool => rfl
  | f + 1, .dat _ => rfl

theorem look_lt {tb : Tb} {n : Nat} {t : Tm} (h : look tb n = some t) : n < tb.length := by
  simp only [look] at h
  split at h
  · rename_i o ho
    exact (List.getElem?_eq_some_iff.1 ho).1
  · cases h

theorem countP_lt {α : Type} {p q : α → Bool} {l : List α} (hpq : ∀ x, p x = true → q x = true) {a : α} (ha : a ∈ l) (hp : p a = false) (hq : q a = true) : l.countP p < l.countP q := by
  induction l with
  | nil => cases ha
  | cons b l ih =>
    rw [List.countP_cons, List.countP_cons]
    rcases List.mem_cons.1 ha with rfl | ha
    · have := List.countP_mono_left (l := l) (fun x _ => hpq x)
      simp [hp, hq]
      omega
    · have := ih ha
      cases hb : p b with
      | true => simp [hpq b hb]; omega
      | false => cases q b <;> simp <;> omega

theorem walk_end {tb : Tb} {σ : Nat → Tm} {r : Nat → Nat} (h : Good tb σ r) : ∀ (f : Nat) (t : Tm), (∀ n, t = .var n → (List.range tb.length).countP (fun v => decide (r v ≤ r n)) < f) → ∀ n, walk tb f t = .var n → look tb n = none
  | 0, t, hf, n, hn => by
    simp only [walk] at hn
    have := hf n hn
    omega
  | f + 1, .var k, hf, n, hn => by
    simp only [walk] at hn
    cases hl : look tb k with
    | none =>
      rw [hl] at hn
      simp only [Tm.var.injEq] at hn
      subst hn
      exact hl
    | some u =>
      rw [hl] at hn
      refine walk_end h f u (fun m hm => ?_) n hn
      subst hm
      have h1 := h.r k _ hl m (by simp [occ])
      have h2 := hf k rfl
      have := countP_lt (p := fun v => decide (r v ≤ r m)) (q := fun v => decide (r v ≤ r k)) (l := List.range tb.length) (fun x hx => by simp at hx ⊢; omega) (a := k) (by simpa using look_lt hl) (by simp; omega) (by simp)
      omega
  | f + 1, .fn a b, hf, n, hn => by simp [walk] at hn
  | f + 1, .int, hf, n, hn => by simp [walk] at hn
  | f + 1, .bool, hf, n, hn => by simp [walk] at hn
  | f + 1, .dat _, hf, n, hn => by simp [walk] at hn

abbrev wk (tb : Tb) (t : Tm) : Tm := walk tb (tb.length + 1) t
theorem wk_end {tb : Tb} {σ : Nat → Tm} {r : Nat → Nat} (h : Good tb σ r) {t : Tm} {n : Nat} (hn : wk tb t = .var n) : look tb n = none := by
  refine walk_end h _ t (fun m _ => ?_) n hn
  have := List.countP_le_length (p := fun v => decide (r v ≤ r m)) (l := List.range tb.length)
  simp only [List.length_range] at this
  omega

/-! ### what a type is made of -/

theorem spend_s {l : Int} (h1 : 1 ≤ l) (h2 : l ≤ 20000) (tys : List Ty) : M.impl_unifier_spend (l, false, tys) = some (true, l - 1, false) := by
  rw [M.e_impl_unifier_spend]
  have e : IntKind.i64.wrap (l - 1) = l - 1 := wrap_ok (by omega)
  have e2 : ¬ (l - 1 < 0) := by omega
  simp [e, e2]

theorem cont_nil (n l : Int) (b : Bool) (tys : List Ty) : M.slices_ContainsFunc_impl_Ty_at_unifier_has_1 ([], n, l, b, tys) = some (false, n, l, b) := by
  rw [M.e_slices_ContainsFunc_impl_Ty_at_unifier_has_1, M.e_slices_IndexFunc_impl_Ty_at_unifier_has_1, M.e_slices_IndexFunc_impl_Ty_at_unifier_has_1_L0]
  simp

theorem has1_s {x : Ty} {n l l' : Int} {b b' q : Bool} {tys : List Ty} (h : M.impl_unifier_has (n, x, l, b, tys) = some (q, l', b')) : M.impl_unifier_has_1 (x, n, l, b, tys) = some (q, n, l', b') := by
  rw [M.e_impl_unifier_has_1]
  simp only
  rw [h]
  rfl

theorem cont_two {x y : Ty} {n l l1 l2 : Int} {q1 q2 : Bool} {tys : List Ty} (h1 : M.impl_unifier_has (n, x, l, false, tys) = some (q1, l1, false)) (h2 : q1 = false → M.impl_unifier_has (n, y, l1, false, tys) = some (q2, l2, false)) :
    M.slices_ContainsFunc_impl_Ty_at_unifier_has_1 ([x, y], n, l, false, tys) = some (q1 || q2, n, (if q1 then l1 else l2), false) ∨ (q1 = true ∧ M.slices_ContainsFunc_impl_Ty_at_unifier_has_1 ([x, y], n, l, false, tys) = some (true, n, l1, false)) := by
  rw [M.e_slices_ContainsFunc_impl_Ty_at_unifier_has_1, M.e_slices_IndexFunc_impl_Ty_at_unifier_has_1, M.e_slices_IndexFunc_impl_Ty_at_unifier_has_1_L0]
  have e1 := has1_s h1
  cases q1 with
  | true => right; simp [ix, e1]
  | false =>
    left
    have e2 := has1_s (h2 rfl)
    simp [ix, e1]
    rw [M.e_slices_IndexFunc_impl_Ty_at_unifier_has_1_L0]
    cases q2 with
    | true => simp [ix, e2]
    | false =>
      simp [ix, e2]
      rw [M.e_slices_IndexFunc_impl_Ty_at_unifier_has_1_L0]
      simp

end Q
end W
end
section
/- FnUnified: does a variable occur? -/
namespace W
namespace Q
open Go HL HL.X
set_option maxRecDepth 100000

theorem dc {p q : Prop} {i : Decidable p} {j : Decidable q} (h : p ↔ q) : @decide p i = @decide q j := by
  by_cases hp : p
  · rw [decide_eq_true hp, decide_eq_true (h.1 hp)]
  · rw [decide_eq_false hp, decide_eq_false fun x => hp (h.2 x)]

theorem has_s {tb : Tb} {σ : Nat → Tm} {r : Nat → Nat} (h : Good tb σ r) (hl : tb.length ≤ 500) (n : Nat) : ∀ (k : Nat) (t : Tm), size (sub σ t) ≤ k → ∀ l : Int, (size (sub σ t) : Int) ≤ l → l ≤ 20000 →
    ∃ l', l - size (sub σ t) ≤ l' ∧ l' ≤ l ∧ M.impl_unifier_has ((n : Int), t.ty, l, false, tb.tys) = some (occ n (sub σ t), l', false)
  | 0, t, hk, l, _, _ => by have := size_pos (sub σ t); omega
  | k + 1, t, hk, l, hl1, hl2 => by
    have hsp := size_pos (sub σ t)
    have hw : sub σ (wk tb t) = sub σ t := walk_sub h _ t
    rw [M.e_impl_unifier_has]
    simp only [spend_s (show 1 ≤ l by omega) hl2, looked_s hl, Option.bind_some]
    cases hu : walk tb (tb.length + 1) t with
    | var m =>
      have hn := wk_end h hu
      have e : sub σ t = .var m := by rw [← hw]; show sub σ (walk tb (tb.length + 1) t) = _; rw [hu]; exact h.no hn
      refine ⟨l - 1, by rw [e]; simp [size], by omega, ?_⟩
      rw [e]
      simp [Tm.ty, occ]
      exact dc (by omega)
    | fn a b =>
      have e : sub σ t = .fn (sub σ a) (sub σ b) := by rw [← hw]; show sub σ (walk tb (tb.length + 1) t) = _; rw [hu]; rfl
      rw [e] at hk hl1 ⊢
      simp only [size] at hk hl1 ⊢
      obtain ⟨l1, a1, a2, a3⟩ := has_s h hl n k a (by omega) (l - 1) (by omega) (by omega)
      obtain ⟨l2, b1, b2, b3⟩ := has_s h hl n k b (by omega) l1 (by omega) (by omega)
      simp only [Tm.ty]
      rcases cont_two a3 (fun _ => b3) with q | ⟨q1, q⟩
      · refine ⟨if occ n (sub σ a) = true then l1 else l2, ?_, ?_, ?_⟩
        · split <;> omega
        · split <;> omega
        · simp [q, occ]
      · refine ⟨l1, by omega, by omega, ?_⟩
        simp [q, occ, q1]
    | int =>
      have e : sub σ t = .int := by rw [← hw]; show sub σ (walk tb (tb.length + 1) t) = _; rw [hu]; rfl
      refine ⟨l - 1, by rw [e]; simp [size], by omega, ?_⟩
      rw [e]
      simp [Tm.ty, occ, cont_nil]
    | bool =>
      have e : sub σ t = .bool := by rw [← hw]; show sub σ (walk tb (tb.length + 1) t) = _; rw [hu]; rfl
      refine ⟨l - 1, by rw [e]; simp [size], by omega, ?_⟩
      rw [e]
      simp [Tm.ty, occ, cont_nil]
    | dat s =>
      have e : sub σ t = .dat s := by rw [← hw]; show sub σ (walk tb (tb.length + 1) t) = _; rw [hu]; rfl
      refine ⟨l - 1, by rw [e]; simp [size], by omega, ?_⟩
      rw [e]
      simp [Tm.ty, occ, cont_nil]

end Q
end W
end
section
/- FnUnified: a variable becomes known. -/
namespace W
namespace Q
open Go HL HL.X
set_option maxRecDepth 100000

def growT (tb : Tb) (n : Nat) : Tb := tb ++ List.replicate (n + 1 - tb.length) none
theorem look_grow (tb : Tb) (n m : Nat) : look (growT tb n) m = look tb m := by
  simp only [look, growT]
  rcases Nat.lt_or_ge m tb.length with h | h
  · rw [List.getElem?_append_left h]
  · rw [List.getElem?_append_right h, List.getElem?_eq_none h, List.getElem?_replicate]
    split <;> rename_i o ho
    · split at ho
      · cases ho; rfl
      · cases ho
    · rfl
theorem grow_len (tb : Tb) (n : Nat) : (growT tb n).length = max tb.length (n + 1) := by simp [growT]; omega

theorem know_L0 {n : Nat} (hn : n < 500) (l : Int) (b : Bool) (t : Ty) : ∀ (k : Nat) (tb : Tb), tb.length ≤ 500 → n + 1 - tb.length = k → M.impl_unifier_know_L0 ((n : Int), l, b, tb.tys, t) = some (l, b, (growT tb n).tys, t)
  | 0, tb, hl, hk => by
    rw [M.e_impl_unifier_know_L0]
    have : ¬ ((tb.tys.length : Int) ≤ (n : Int)) := by rw [tys_len]; omega
    simp only [this, decide_false, cond_false]
    simp [growT, hk]
  | k + 1, tb, hl, hk => by
    rw [M.e_impl_unifier_know_L0]
    have h1 : (tb.tys.length : Int) ≤ (n : Int) := by rw [tys_len]; omega
    simp only [h1, decide_true, cond_true]
    rw [gd_t (by rw [tys_len]; simp [grow]; omega), gd_t (by omega), gd_t (by simp; omega)]
    simp only [Option.bind_some]
    have e : (tb.tys ++ [Ty.mk 0 nos 0 []]).set ((tb.tys.length : Int)).toNat (Ty.mk 0 nos 0 []) = Tb.tys (tb ++ [none]) := by
      simp [Tb.tys, opt]
    rw [e, know_L0 hn l b t k (tb ++ [none]) (by simp; omega) (by simp; omega)]
    have : growT (tb ++ [none]) n = growT tb n := by
      simp only [growT, List.length_append, List.length_cons, List.length_nil, List.append_assoc]
      rw [hk, show n + 1 - (tb.length + (0 + 1)) = k by omega]
      simp [List.replicate_succ]
    rw [this]

def bindT (tb : Tb) (n : Nat) (t : Tm) : Tb := (growT tb n).set n (some t)
theorem look_bind (tb : Tb) (n : Nat) (t : Tm) : look (bindT tb n t) n = some t ∧ ∀ m, m ≠ n → look (bindT tb n t) m = look tb m := by
  have hl : n < (growT tb n).length := by rw [grow_len]; omega
  constructor
  · simp [look, bindT, hl]
  · intro m hm
    rw [← look_grow tb n m]
    simp only [look, bindT]
    rw [List.getElem?_set_ne (fun e => hm e.symm)]
theorem bind_len (tb : Tb) (n : Nat) (t : Tm) : (bindT tb n t).length = max tb.length (n + 1) := by simp [bindT, grow_len]

theorem know_s {tb : Tb} {σ : Nat → Tm} {r : Nat → Nat} (h : Good tb σ r) (hl : tb.length ≤ 500) {n : Nat} (hn : n < 500) (t : Tm) (l : Int) (h1 : (size (sub σ t) : Int) ≤ l) (h2 : l ≤ 20000) :
    ∃ l', l - size (sub σ t) ≤ l' ∧ l' ≤ l ∧ M.impl_unifier_know ((n : Int), t.ty, l, false, tb.tys) =
      bif occ n (sub σ t) then some (l', true, tb.tys) else some (l', false, (bindT tb n t).tys) := by
  obtain ⟨l', a1, a2, a3⟩ := has_s h hl n _ t (Nat.le_refl _) l h1 h2
  refine ⟨l', a1, a2, ?_⟩
  rw [M.e_impl_unifier_know]
  have e : (decide ((0 : Int) ≤ (n : Int)) && decide ((n : Int) ≤ 499)) = true := by simp; omega
  simp only [in_s, e, Option.bind_some, Bool.not_true, cond_false, a3]
  cases ho : occ n (sub σ t) with
  | true => simp
  | false =>
    simp only [cond_false]
    rw [know_L0 hn l' false t.ty _ tb hl rfl]
    simp only [Option.bind_some, clone_ty]
    rw [gd_t (by omega), gd_t (by rw [tys_len, grow_len]; omega)]
    simp [bindT, Tb.tys, opt, List.map_set]

end Q
end W
end
section
/- FnUnified: how large a type may become. No program in sight. -/
namespace W
namespace Q
set_option maxRecDepth 100000

def depth : Tm → Nat
  | .fn a b => max (depth a) (depth b) + 1
  | _ => 0

def Small (t : Tm) : Prop := ∀ n, occ n t = true → n < 4
/-- What may be bound: small ones, and two larger ones. -/
def C (e1 e2 t : Tm) : Prop := Small t ∧ (depth t ≤ 1 ∨ t = e1 ∨ t = e2)
def InC (e1 e2 : Tm) (tb : Tb) : Prop := ∀ n t, look tb n = some t → n < 4 ∧ C e1 e2 t

theorem size_d0 {σ : Nat → Tm} {b : Nat} {t : Tm} (h : depth t = 0) (hb : ∀ n, occ n t = true → size (σ n) ≤ b) (h1 : 1 ≤ b) : size (sub σ t) ≤ b := by
  cases t with
  | var n => exact hb n (by simp [occ])
  | fn a b => simp [depth] at h
  | _ => exact h1
theorem size_d1 {σ : Nat → Tm} {b : Nat} {t : Tm} (h : depth t ≤ 1) (hb : ∀ n, occ n t = true → size (σ n) ≤ b) (h1 : 1 ≤ b) : size (sub σ t) ≤ 1 + 2 * b := by
  cases t with
  | var n => have := hb n (by simp [occ]); simp only [sub]; omega
  | fn x y =>
    simp only [depth] at h
    have a1 := size_d0 (σ := σ) (t := x) (by omega) (fun n hn => hb n (by simp [occ, hn])) h1
    have a2 := size_d0 (σ := σ) (t := y) (by omega) (fun n hn => hb n (by simp [occ, hn])) h1
    simp only [sub, size]
    omega
  | _ => simp only [sub, size]; omega
theorem size_d2 {σ : Nat → Tm} {b : Nat} {t : Tm} (h : depth t ≤ 2) (hb : ∀ n, occ n t = true → size (σ n) ≤ b) (h1 : 1 ≤ b) : size (sub σ t) ≤ 3 + 4 * b := by
  cases t with
  | var n => have := hb n (by simp [occ]); simp only [sub]; omega
  | fn x y =>
    simp only [depth] at h
    have a1 := size_d1 (σ := σ) (t := x) (by omega) (fun n hn => hb n (by simp [occ, hn])) h1
    have a2 := size_d1 (σ := σ) (t := y) (by omega) (fun n hn => hb n (by simp [occ, hn])) h1
    simp only [sub, size]
    omega
  | _ => simp only [sub, size]; omega

def g : Nat → Nat → Nat
  | 0, _ => 1
  | k + 1, 0 => 1 + 2 * g k 0
  | k + 1, a + 1 => max (1 + 2 * g k (a + 1)) (3 + 4 * g k a)
theorem g_pos : ∀ k a, 1 ≤ g k a
  | 0, _ => Nat.le_refl _
  | k + 1, 0 => by simp only [g]; omega
  | k + 1, a + 1 => by simp only [g]; omega
theorem g_step (k a : Nat) : 1 + 2 * g k a ≤ g (k + 1) a := by
  cases a <;> simp only [g] <;> omega
theorem g_mono_k : ∀ {k k' a : Nat}, k ≤ k' → g k a ≤ g k' a
  | k, 0, a, h => by have : k = 0 := by omega
                     subst this; exact Nat.le_refl _
  | k, k' + 1, a, h => by
    rcases Nat.lt_or_ge k (k' + 1) with q | q
    · have := g_mono_k (k := k) (k' := k') (a := a) (by omega)
      have := g_step k' a
      have := g_pos k' a
      omega
    · have : k = k' + 1 := by omega
      subst this; exact Nat.le_refl _
theorem g_mono_a : ∀ {k a : Nat}, g k a ≤ g k (a + 1)
  | 0, _ => Nat.le_refl _
  | k + 1, 0 => by
    have := g_mono_a (k := k) (a := 0)
    simp only [g]
    omega
  | k + 1, a + 1 => by
    have h1 := g_mono_a (k := k) (a := a)
    have h2 := g_mono_a (k := k) (a := a + 1)
    simp only [g]
    omega

theorem g_mono_a' {k a a' : Nat} (h : a ≤ a') : g k a ≤ g k a' := by
  obtain ⟨d, rfl⟩ := Nat.le.dest h
  induction d with
  | zero => exact Nat.le_refl _
  | succ d ih => exact Nat.le_trans (ih (Nat.le_add_right _ _)) g_mono_a
theorem g_two (k a : Nat) : 3 + 4 * g k a ≤ g (k + 1) (a + 1) := by simp only [g]; omega

/-- May a term still be met, from here on? -/
def av (tb : Tb) (r : Nat → Nat) (e : Tm) (ρ : Nat) : Nat := if (List.range 4).any (fun m => decide (r m ≤ ρ) && decide (look tb m = some e)) = true then 1 else 0
theorem av_le {tb : Tb} {r : Nat → Nat} {e : Tm} {ρ : Nat} : av tb r e ρ ≤ 1 := by simp only [av]; split <;> omega
theorem av_mono {tb : Tb} {r : Nat → Nat} {e : Tm} {ρ ρ' : Nat} (h : ρ ≤ ρ') : av tb r e ρ ≤ av tb r e ρ' := by
  simp only [av]
  split
  · rename_i q
    simp only [List.any_eq_true, Bool.and_eq_true, decide_eq_true_eq] at q
    obtain ⟨m, h1, h2, h3⟩ := q
    rw [if_pos]
    · exact Nat.le_refl _
    · simp only [List.any_eq_true, Bool.and_eq_true, decide_eq_true_eq]
      exact ⟨m, h1, by omega, h3⟩
  · omega
theorem av_one {tb : Tb} {r : Nat → Nat} {e : Tm} {n : Nat} (hn : n < 4) (h : look tb n = some e) : av tb r e (r n) = 1 := by
  simp only [av]
  rw [if_pos]
  simp only [List.any_eq_true, Bool.and_eq_true, decide_eq_true_eq]
  exact ⟨n, by simpa using hn, Nat.le_refl _, h⟩
theorem av_no {tb : Tb} {σ : Nat → Tm} {r : Nat → Nat} (h : Good tb σ r) {e : Tm} {m : Nat} (hm : occ m e = true) : av tb r e (r m) = 0 := by
  simp only [av]
  rw [if_neg]
  simp only [List.any_eq_true, Bool.and_eq_true, decide_eq_true_eq]
  rintro ⟨p, _, h2, h3⟩
  have := h.r p e h3 m hm
  omega

theorem size_le {tb : Tb} {σ : Nat → Tm} {r : Nat → Nat} (h : Good tb σ r) {e1 e2 : Tm} (hc : InC e1 e2 tb) (d1 : depth e1 ≤ 2) (d2 : depth e2 ≤ 2) : ∀ (k n : Nat), n < 4 → (List.range 4).countP (fun v => decide (r v ≤ r n)) ≤ k →
    size (σ n) ≤ g k (av tb r e1 (r n) + av tb r e2 (r n))
  | 0, n, hn, hk => by
    have : 0 < (List.range 4).countP (fun v => decide (r v ≤ r n)) := List.countP_pos_iff.2 ⟨n, by simpa using hn, by simp⟩
    omega
  | k + 1, n, hn, hk => by
    cases hl : look tb n with
    | none => rw [h.no hl]; exact g_pos _ _
    | some t =>
      rw [h.yes hl]
      obtain ⟨_, hs, ht⟩ := hc n t hl
      have child : ∀ m, occ m t = true → size (σ m) ≤ g k (av tb r e1 (r m) + av tb r e2 (r m)) ∧ r m < r n := fun m hm => by
        have hr := h.r n t hl m hm
        have := countP_lt (p := fun v => decide (r v ≤ r m)) (q := fun v => decide (r v ≤ r n)) (l := List.range 4) (fun x hx => by simp at hx ⊢; omega) (a := n) (by simpa using hn) (by simp; omega) (by simp)
        exact ⟨size_le h hc d1 d2 k m (hs m hm) (by omega), hr⟩
      rcases ht with ht | rfl | rfl
      · have := size_d1 (σ := σ) (b := g k (av tb r e1 (r n) + av tb r e2 (r n))) ht (fun m hm => by
          obtain ⟨a1, a2⟩ := child m hm
          refine Nat.le_trans a1 (g_mono_a' ?_)
          have := av_mono (tb := tb) (r := r) (e := e1) (show r m ≤ r n by omega)
          have := av_mono (tb := tb) (r := r) (e := e2) (show r m ≤ r n by omega)
          omega) (g_pos _ _)
        exact Nat.le_trans this (g_step _ _)
      · rw [av_one hn hl, Nat.add_comm 1]
        have := size_d2 (σ := σ) (b := g k (av tb r e2 (r n))) d1 (fun m hm => by
          obtain ⟨a1, a2⟩ := child m hm
          rw [av_no h hm, Nat.zero_add] at a1
          exact Nat.le_trans a1 (g_mono_a' (av_mono (by omega)))) (g_pos _ _)
        exact Nat.le_trans this (g_two _ _)
      · rw [av_one hn hl]
        have := size_d2 (σ := σ) (b := g k (av tb r e1 (r n))) d2 (fun m hm => by
          obtain ⟨a1, a2⟩ := child m hm
          rw [av_no h hm, Nat.add_zero] at a1
          exact Nat.le_trans a1 (g_mono_a' (av_mono (by omega)))) (g_pos _ _)
        exact Nat.le_trans this (g_two _ _)

/-- A variable stands for at most so much. -/
theorem size_var {tb : Tb} {σ : Nat → Tm} {r : Nat → Nat} (h : Good tb σ r) {e1 e2 : Tm} (hc : InC e1 e2 tb) (d1 : depth e1 ≤ 2) (d2 : depth e2 ≤ 2) {n : Nat} (hn : n < 4) : size (σ n) ≤ 127 := by
  have hk : (List.range 4).countP (fun v => decide (r v ≤ r n)) ≤ 4 := by
    have := List.countP_le_length (p := fun v => decide (r v ≤ r n)) (l := List.range 4)
    simpa using this
  have a := size_le h hc d1 d2 4 n hn hk
  have b := av_le (tb := tb) (r := r) (e := e1) (ρ := r n)
  have c := av_le (tb := tb) (r := r) (e := e2) (ρ := r n)
  have d := g_mono_a' (k := 4) (show av tb r e1 (r n) + av tb r e2 (r n) ≤ 2 by omega)
  have e : g 4 2 = 127 := by decide
  omega
theorem size_C {tb : Tb} {σ : Nat → Tm} {r : Nat → Nat} (h : Good tb σ r) {e1 e2 : Tm} (hc : InC e1 e2 tb) (d1 : depth e1 ≤ 2) (d2 : depth e2 ≤ 2) {t : Tm} (ht : C e1 e2 t) : size (sub σ t) ≤ 511 := by
  have hd : depth t ≤ 2 := by
    rcases ht.2 with q | rfl | rfl <;> omega
  have := size_d2 (σ := σ) (b := 127) hd (fun n hn => size_var h hc d1 d2 (ht.1 n hn)) (by omega)
  omega

end Q
end W
end
section
/- FnUnified: two types made one. -/
namespace W
namespace Q
open Go HL HL.X
set_option maxRecDepth 100000

def free (tb : Tb) : Nat := (List.range 4).countP fun m => decide (look tb m = none)

structure Res (e1 e2 : Tm) (tb : Tb) (x y : Tm) (l l' : Int) (bad : Bool) (tb' : Tb) (σ' : Nat → Tm) (r' : Nat → Nat) : Prop where
  good : Good tb' σ' r'
  inC : InC e1 e2 tb'
  len : tb'.length ≤ 500
  ext : ∀ m t, look tb m = some t → look tb' m = some t
  cost : l - l' ≤ size (sub σ' x) + 512 * (((free tb : Int) - free tb') + (if bad then 1 else 0))
  le : l' ≤ l
  ok : bad = false → ∀ θ, Sat θ tb' ↔ Sat θ tb ∧ sub θ x = sub θ y
  no : bad = true → ∀ θ, Sat θ tb → sub θ x ≠ sub θ y

theorem free_le {tb tb' : Tb} (h : ∀ m t, look tb m = some t → look tb' m = some t) : free tb' ≤ free tb := by
  refine List.countP_mono_left fun m _ hm => ?_
  simp only [decide_eq_true_eq] at hm ⊢
  cases hl : look tb m with
  | none => rfl
  | some t => rw [h m t hl] at hm; cases hm
theorem free_lt {tb tb' : Tb} (h : ∀ m t, look tb m = some t → look tb' m = some t) {n : Nat} {t : Tm} (hn : n < 4) (h1 : look tb n = none) (h2 : look tb' n = some t) : free tb' < free tb := by
  refine countP_lt (a := n) (fun m hm => ?_) (by simpa using hn) (by simp [h2]) (by simp [h1])
  simp only [decide_eq_true_eq] at hm ⊢
  cases hl : look tb m with
  | none => rfl
  | some t => rw [h m t hl] at hm; cases hm

theorem spend_bad (l : Int) (tys : List Ty) : M.impl_unifier_spend (l, true, tys) = some (false, IntKind.i64.wrap (l - 1), true) := by
  rw [M.e_impl_unifier_spend]
  simp
theorem both_bad (a b : Ty) (l : Int) (tys : List Ty) : M.impl_unifier_both (a, b, l, true, tys) = some (IntKind.i64.wrap (l - 1), true, tys) := by
  rw [M.e_impl_unifier_both]
  simp [spend_bad]

/-- A variable meets a type: the table behind it. -/
theorem bind_res {e1 e2 : Tm} {tb : Tb} {σ : Nat → Tm} {r : Nat → Nat} (h : Good tb σ r) (hc : InC e1 e2 tb) (hl : tb.length ≤ 500) {n : Nat} (hn : n < 4) (hln : look tb n = none) {t : Tm} (ht : C e1 e2 t) (ho : occ n (sub σ t) = false) :
    (∃ r', Good (bindT tb n t) (fun v => sub (upd n (sub σ t)) (σ v)) r') ∧ InC e1 e2 (bindT tb n t) ∧ (bindT tb n t).length ≤ 500 ∧ (∀ m u, look tb m = some u → look (bindT tb n t) m = some u) ∧ free (bindT tb n t) < free tb ∧ ∀ θ, Sat θ (bindT tb n t) ↔ Sat θ tb ∧ θ n = sub θ t := by
  obtain ⟨b1, b2⟩ := look_bind tb n t
  have hext : ∀ m u, look tb m = some u → look (bindT tb n t) m = some u := fun m u hm => by
    rw [b2 m fun e => by subst e; rw [hln] at hm; cases hm]
    exact hm
  refine ⟨h.bind hln ho b1 b2, fun m u hm => ?_, by rw [bind_len]; omega, hext, free_lt hext hn hln b1, sat_bind hln b1 b2⟩
  by_cases e : m = n
  · subst e; rw [b1] at hm; cases hm; exact ⟨hn, ht⟩
  · rw [b2 m e] at hm; exact hc m u hm

section
variable {tb : Tb} (hl : tb.length ≤ 500) {x y : Tm} {l : Int} (h1 : 1 ≤ l) (h2 : l ≤ 20000)
include hl h1 h2

theorem both_same {n : Nat} (hn : n < 500) (hx : wk tb x = .var n) (hy : wk tb y = .var n) : M.impl_unifier_both (x.ty, y.ty, l, false, tb.tys) = some (l - 1, false, tb.tys) := by
  rw [M.e_impl_unifier_both]
  simp only [spend_s h1 h2, looked_s hl, Option.bind_some]
  simp only [wk] at hx hy
  rw [hx, hy]
  simp [Tm.ty, in_s]
  omega
theorem both_left {n : Nat} (hx : wk tb x = .var n) (hy : wk tb y ≠ .var n) : M.impl_unifier_both (x.ty, y.ty, l, false, tb.tys) = (M.impl_unifier_know ((n : Int), (wk tb y).ty, l - 1, false, tb.tys)).bind fun r => some (r.1, r.2.1, r.2.2) := by
  rw [M.e_impl_unifier_both]
  simp only [spend_s h1 h2, looked_s hl, Option.bind_some]
  simp only [wk] at hx hy
  rw [hx]
  cases hv : walk tb (tb.length + 1) y with
  | var m =>
    have hne : ¬ ((n : Int) = (m : Int)) := fun e => hy (by rw [hv]; congr 1; omega)
    simp [Tm.ty, wk, hv, hne]
  | _ => simp [Tm.ty, wk, hv]
theorem both_right {n : Nat} (hx : ∀ m, wk tb x ≠ .var m) (hy : wk tb y = .var n) : M.impl_unifier_both (x.ty, y.ty, l, false, tb.tys) = (M.impl_unifier_know ((n : Int), (wk tb x).ty, l - 1, false, tb.tys)).bind fun r => some (r.1, r.2.1, r.2.2) := by
  rw [M.e_impl_unifier_both]
  simp only [spend_s h1 h2, looked_s hl, Option.bind_some]
  simp only [wk] at hx hy
  rw [hy]
  cases hv : walk tb (tb.length + 1) x with
  | var m => exact absurd hv (hx m)
  | _ => simp [Tm.ty, wk, hv]
theorem both_leaf (hx : (wk tb x).leaf = true) (hxv : ∀ m, wk tb x ≠ .var m) (hy : ∀ m, wk tb y ≠ .var m) : M.impl_unifier_both (x.ty, y.ty, l, false, tb.tys) = some (l - 1, !decide (wk tb x = wk tb y), tb.tys) := by
  have hS := SameTy_leaf hx (wk tb y)
  rw [M.e_impl_unifier_both]
  simp only [spend_s h1 h2, looked_s hl, Option.bind_some]
  obtain ⟨u, hu⟩ : ∃ u, wk tb x = u := ⟨_, rfl⟩
  obtain ⟨v, hv⟩ : ∃ v, wk tb y = v := ⟨_, rfl⟩
  rw [hu] at hx hxv hS ⊢
  rw [hv] at hy hS ⊢
  simp only [wk] at hu hv
  rw [hu, hv]
  clear hu hv
  cases u with
  | var m => exact absurd rfl (hxv m)
  | fn a b => cases hx
  | _ =>
    cases v with
    | var m => exact absurd rfl (hy m)
    | _ =>
      simp only [Tm.ty] at hS
      simp [Tm.ty, in_s, hS]
theorem both_fn_leaf {a b : Tm} (hx : wk tb x = .fn a b) (hyl : (wk tb y).leaf = true) (hy : ∀ m, wk tb y ≠ .var m) : M.impl_unifier_both (x.ty, y.ty, l, false, tb.tys) = some (l - 1, true, tb.tys) := by
  rw [M.e_impl_unifier_both]
  simp only [spend_s h1 h2, looked_s hl, Option.bind_some]
  simp only [wk] at hx hyl hy
  rw [hx]
  cases hw : walk tb (tb.length + 1) y with
  | var m => exact absurd hw (hy m)
  | fn a b => rw [hw] at hyl; cases hyl
  | _ => simp [Tm.ty, in_s]
theorem both_fn {a b c d : Tm} (hx : wk tb x = .fn a b) (hy : wk tb y = .fn c d) : M.impl_unifier_both (x.ty, y.ty, l, false, tb.tys) =
    (M.impl_unifier_both (a.ty, c.ty, l - 1, false, tb.tys)).bind fun r => (M.impl_unifier_both (b.ty, d.ty, r.1, r.2.1, r.2.2)).bind fun q => some (q.1, q.2.1, q.2.2) := by
  rw [M.e_impl_unifier_both]
  simp only [spend_s h1 h2, looked_s hl, Option.bind_some]
  simp only [wk] at hx hy
  rw [hx, hy]
  simp [Tm.ty, ix]
end

end Q
end W
end
section
/- FnUnified: two types made one, all the way. -/
namespace W
namespace Q
open Go HL HL.X
set_option maxRecDepth 100000

theorem Good.uniq {tb tb' : Tb} {σ σ' : Nat → Tm} {r r' : Nat → Nat} (h : Good tb σ r) (h' : Good tb' σ' r') (he : ∀ m, look tb m = look tb' m) : ∀ n, σ n = σ' n := by
  have key : ∀ k n, r n < k → σ n = σ' n := by
    intro k
    induction k with
    | zero => intro n hn; omega
    | succ k ih =>
      intro n hn
      cases hl : look tb n with
      | none => rw [h.no hl, h'.no (by rw [← he]; exact hl)]
      | some t =>
        rw [h.yes hl, h'.yes (by rw [← he]; exact hl)]
        exact sub_congr fun m hm => ih m (by have := h.r n t hl m hm; omega)
  exact fun n => key (r n + 1) n (Nat.lt_succ_self _)

theorem ext_sub {tb tb' : Tb} {σ σ' : Nat → Tm} {r r' : Nat → Nat} (h : Good tb σ r) (h' : Good tb' σ' r') (he : ∀ m t, look tb m = some t → look tb' m = some t) (t : Tm) : sub σ' (sub σ t) = sub σ' t :=
  h.sat_all (fun n u hn => h'.sat n u (he n u hn)) t
theorem sub_size {σ : Nat → Tm} : ∀ t, size t ≤ size (sub σ t)
  | .var n => size_pos _
  | .fn a b => by have := sub_size (σ := σ) a; have := sub_size (σ := σ) b; simp only [sub, size]; omega
  | .int => Nat.le_refl _
  | .bool => Nat.le_refl _
  | .dat _ => Nat.le_refl _
theorem ext_size {tb tb' : Tb} {σ σ' : Nat → Tm} {r r' : Nat → Nat} (h : Good tb σ r) (h' : Good tb' σ' r') (he : ∀ m t, look tb m = some t → look tb' m = some t) (t : Tm) : size (sub σ t) ≤ size (sub σ' t) := by
  rw [← ext_sub h h' he t]
  exact sub_size _

theorem countP_eq {α : Type} {p q : α → Bool} {l : List α} (hpq : ∀ x, p x = true → q x = true) (h : l.countP q ≤ l.countP p) : ∀ x ∈ l, q x = true → p x = true := by
  intro x hx hq
  cases hp : p x with
  | true => rfl
  | false => have := countP_lt hpq hx hp hq; omega

theorem same_look {e1 e2 : Tm} {tb tb' : Tb} (hc' : InC e1 e2 tb') (he : ∀ m t, look tb m = some t → look tb' m = some t) (hf : free tb ≤ free tb') : ∀ m, look tb m = look tb' m := by
  intro m
  cases hl : look tb m with
  | some t => rw [he m t hl]
  | none =>
    cases hl' : look tb' m with
    | none => rfl
    | some t =>
      have hm := (hc' m t hl').1
      have := countP_eq (p := fun m => decide (look tb' m = none)) (q := fun m => decide (look tb m = none)) (l := List.range 4) (fun x hx => by
        simp only [decide_eq_true_eq] at hx ⊢
        cases hq : look tb x with
        | none => rfl
        | some u => rw [he x u hq] at hx; cases hx) hf m (by simpa using hm) (by simpa using hl)
      simp [hl'] at this

/-- Larger ones consist of small ones. -/
def Deep (e : Tm) : Prop := depth e ≤ 2
theorem C_child {e1 e2 : Tm} (d1 : depth e1 ≤ 2) (d2 : depth e2 ≤ 2) {a b : Tm} (h : C e1 e2 (.fn a b)) : C e1 e2 a ∧ C e1 e2 b := by
  have hd : depth (.fn a b) ≤ 2 := by
    rcases h.2 with q | q | q
    · omega
    · rw [q]; exact d1
    · rw [q]; exact d2
  simp only [depth] at hd
  exact ⟨⟨fun n hn => h.1 n (by simp [occ, hn]), .inl (by omega)⟩, ⟨fun n hn => h.1 n (by simp [occ, hn]), .inl (by omega)⟩⟩

theorem walk_C {e1 e2 : Tm} {tb : Tb} (hc : InC e1 e2 tb) : ∀ (f : Nat) (t : Tm), C e1 e2 t → C e1 e2 (walk tb f t)
  | 0, t, h => h
  | f + 1, .var n, h => by
    simp only [walk]
    cases hl : look tb n with
    | none => exact h
    | some u => exact walk_C hc f u (hc n u hl).2
  | f + 1, .fn a b, h => h
  | f + 1, .int, h => h
  | f + 1, .bool, h => h
  | f + 1, .dat _, h => h

end Q
end W
end
section
/- FnUnified: two types made one, all the way. -/
namespace W
namespace Q
open Go HL HL.X
set_option maxRecDepth 100000

theorem walk_sat {tb : Tb} {θ : Nat → Tm} (h : Sat θ tb) : ∀ (f : Nat) (t : Tm), sub θ (walk tb f t) = sub θ t
  | 0, t => rfl
  | f + 1, .var n => by
    simp only [walk]
    cases hl : look tb n with
    | none => rfl
    | some u => simp only; rw [walk_sat h f u, ← h n u hl]; rfl
  | f + 1, .fn a b => rfl
  | f + 1, .int => rfl
  | f + 1, .bool => rfl
  | f + 1, .dat _ => rfl

/-- Nothing is bound anew. -/
theorem res_same {e1 e2 : Tm} {tb : Tb} {σ : Nat → Tm} {r : Nat → Nat} (h : Good tb σ r) (hc : InC e1 e2 tb) (hl : tb.length ≤ 500) {x y : Tm} {l : Int} {bad : Bool} (hok : bad = false → ∀ θ, Sat θ tb → sub θ x = sub θ y) (hno : bad = true → ∀ θ, Sat θ tb → sub θ x ≠ sub θ y) :
    Res e1 e2 tb x y l (l - 1) bad tb σ r where
  good := h
  inC := hc
  len := hl
  ext _ _ q := q
  cost := by have := size_pos (sub σ x); cases bad <;> simp <;> omega
  le := by omega
  ok hb θ := ⟨fun q => ⟨q, hok hb θ q⟩, fun q => q.1⟩
  no := hno

/-- A variable is bound, or it cannot be. -/
theorem res_bind {e1 e2 : Tm} (d1 : depth e1 ≤ 2) (d2 : depth e2 ≤ 2) {tb : Tb} {σ : Nat → Tm} {r : Nat → Nat} (h : Good tb σ r) (hc : InC e1 e2 tb) (hl : tb.length ≤ 500) {n : Nat} (hn : n < 4) (hln : look tb n = none) {t : Tm} (ht : C e1 e2 t) (htv : sub σ t ≠ .var n)
    {x y : Tm} (hxy : ∀ θ, Sat θ tb → (sub θ x = sub θ y ↔ θ n = sub θ t)) {l : Int} (h1 : 1024 ≤ l) (h2 : l ≤ 20000) :
    ∃ l' bad tb' σ' r', M.impl_unifier_know ((n : Int), t.ty, l - 1, false, tb.tys) = some (l', bad, tb'.tys) ∧ Res e1 e2 tb x y l l' bad tb' σ' r' := by
  have hsz := size_C h hc d1 d2 ht
  obtain ⟨l', a1, a2, a3⟩ := know_s h hl (n := n) (by omega) t (l - 1) (by omega) (by omega)
  cases ho : occ n (sub σ t) with
  | true =>
    rw [ho] at a3
    refine ⟨l', true, tb, σ, r, a3, ⟨h, hc, hl, fun _ _ q => q, ?_, by omega, fun q => (by cases q), fun _ θ hθ e => ?_⟩⟩
    · have := size_pos (sub σ x)
      simp only [if_true]
      omega
    · exact occurs_no h ho (.inr trivial) htv hθ ((hxy θ hθ).1 e)
  | false =>
    rw [ho] at a3
    obtain ⟨⟨r', b1⟩, b2, b3, b4, b5, b6⟩ := bind_res h hc hl hn hln ht ho
    refine ⟨l', false, bindT tb n t, _, r', a3, ⟨b1, b2, b3, b4, ?_, by omega, fun _ θ => ?_, fun q => (by cases q)⟩⟩
    · have := size_pos (sub (fun v => sub (upd n (sub σ t)) (σ v)) x)
      simp only [Bool.false_eq_true, if_false]
      omega
    · rw [b6 θ]
      constructor
      · rintro ⟨q1, q2⟩; exact ⟨q1, (hxy θ q1).2 q2⟩
      · rintro ⟨q1, q2⟩; exact ⟨q1, (hxy θ q1).1 q2⟩

end Q
end W
end
section
/- FnUnified: two types made one, all the way. -/
namespace W
namespace Q
open Go HL HL.X
set_option maxRecDepth 100000

theorem both_s {e1 e2 : Tm} (d1 : depth e1 ≤ 2) (d2 : depth e2 ≤ 2) : ∀ (k : Nat) (tb : Tb) (σ : Nat → Tm) (r : Nat → Nat) (x y : Tm) (l : Int) (R : Nat), free tb * 512 + size (sub σ x) ≤ k → Good tb σ r → InC e1 e2 tb → tb.length ≤ 500 → C e1 e2 x → C e1 e2 y →
    (∀ tb' σ' r', Good tb' σ' r' → InC e1 e2 tb' → (∀ m t, look tb m = some t → look tb' m = some t) → size (sub σ' x) ≤ R) → (R : Int) + 512 * (free tb + 1) + 512 ≤ l → l ≤ 20000 →
    ∃ l' bad tb' σ' r', M.impl_unifier_both (x.ty, y.ty, l, false, tb.tys) = some (l', bad, tb'.tys) ∧ Res e1 e2 tb x y l l' bad tb' σ' r'
  | 0, tb, σ, r, x, y, l, R, hk, h, hc, hl, hx, hy, hR, h1, h2 => by have := size_pos (sub σ x); omega
  | k + 1, tb, σ, r, x, y, l, R, hk, h, hc, hl, hx, hy, hR, h1, h2 => by
    have hR0 := hR tb σ r h hc (fun _ _ q => q)
    have hsp := size_pos (sub σ x)
    have hu : sub σ (wk tb x) = sub σ x := walk_sub h _ x
    have hv : sub σ (wk tb y) = sub σ y := walk_sub h _ y
    have cu : C e1 e2 (wk tb x) := walk_C hc _ x hx
    have cv : C e1 e2 (wk tb y) := walk_C hc _ y hy
    have su : ∀ θ, Sat θ tb → sub θ (wk tb x) = sub θ x := fun θ q => walk_sat q _ x
    have sv : ∀ θ, Sat θ tb → sub θ (wk tb y) = sub θ y := fun θ q => walk_sat q _ y
    by_cases hxv : ∃ n, wk tb x = .var n
    · obtain ⟨n, hn⟩ := hxv
      have hn4 : n < 4 := cu.1 n (by rw [hn]; simp [occ])
      have hln := wk_end h hn
      by_cases hyn : wk tb y = .var n
      · exact ⟨_, _, _, _, _, both_same hl (by omega) h2 (by omega) hn hyn, res_same h hc hl (fun _ θ q => by rw [← su θ q, ← sv θ q, hn, hyn]) (fun q => by cases q)⟩
      · rw [both_left hl (by omega) h2 hn hyn]
        obtain ⟨l', bad, tb', σ', r', b1, b2⟩ := res_bind d1 d2 h hc hl hn4 hln cv (fun e => hyn (by
          cases hw : wk tb y with
          | var m => rw [hw] at e; rw [show sub σ (.var m) = .var m from h.no (wk_end h hw)] at e; exact e
          | _ => rw [hw] at e; cases e)) (x := x) (y := y) (fun θ q => by rw [← su θ q, ← sv θ q, hn]; rfl) (l := l) (by omega) h2
        exact ⟨l', bad, tb', σ', r', by rw [b1]; rfl, b2⟩
    · have hxn : ∀ m, wk tb x ≠ .var m := fun m q => hxv ⟨m, q⟩
      by_cases hyv : ∃ n, wk tb y = .var n
      · obtain ⟨n, hn⟩ := hyv
        have hn4 : n < 4 := cv.1 n (by rw [hn]; simp [occ])
        have hln := wk_end h hn
        rw [both_right hl (by omega) h2 hxn hn]
        obtain ⟨l', bad, tb', σ', r', b1, b2⟩ := res_bind d1 d2 h hc hl hn4 hln cu (fun e => by
          cases hw : wk tb x with
          | var m => exact hxn m hw
          | _ => rw [hw] at e; cases e) (x := x) (y := y) (fun θ q => by rw [← su θ q, ← sv θ q, hn]; exact ⟨fun e => e.symm, fun e => e.symm⟩) (l := l) (by omega) h2
        exact ⟨l', bad, tb', σ', r', by rw [b1]; rfl, b2⟩
      · have hyn : ∀ m, wk tb y ≠ .var m := fun m q => hyv ⟨m, q⟩
        by_cases hul : (wk tb x).leaf = true
        · refine ⟨_, _, _, _, _, both_leaf hl (by omega) h2 hul hxn hyn, res_same h hc hl (fun q θ hθ => ?_) (fun q θ hθ e => ?_)⟩
          · have q : wk tb x = wk tb y := by simpa using q
            rw [← su θ hθ, ← sv θ hθ, q]
          · have q : ¬ wk tb x = wk tb y := by simpa using q
            rw [← su θ hθ, ← sv θ hθ] at e
            cases hw : wk tb x with
            | var m => exact hxn m hw
            | fn a b => rw [hw] at hul; cases hul
            | _ =>
              rw [hw] at e q
              cases hz : wk tb y with
              | var m => exact hyn m hz
              | _ => rw [hz] at e q; first | exact q rfl | exact q e | cases e
        · obtain ⟨a, b, hab⟩ : ∃ a b, wk tb x = .fn a b := by
            cases hw : wk tb x with
            | fn a b => exact ⟨a, b, rfl⟩
            | _ => rw [hw] at hul; exact absurd rfl hul
          by_cases hvl : (wk tb y).leaf = true
          · refine ⟨_, _, _, _, _, both_fn_leaf hl (by omega) h2 hab hvl hyn, res_same h hc hl (fun q => by cases q) (fun _ θ hθ e => ?_)⟩
            rw [← su θ hθ, ← sv θ hθ, hab] at e
            cases hz : wk tb y with
            | var m => exact hyn m hz
            | fn c d => rw [hz] at hvl; cases hvl
            | _ => rw [hz] at e; cases e
          · obtain ⟨c, d, hcd⟩ : ∃ c d, wk tb y = .fn c d := by
              cases hw : wk tb y with
              | fn a b => exact ⟨a, b, rfl⟩
              | _ => rw [hw] at hvl; exact absurd rfl hvl
            rw [both_fn hl (by omega) h2 hab hcd]
            rw [hab] at cu hu su
            rw [hcd] at cv hv sv
            obtain ⟨ca, cb⟩ := C_child d1 d2 cu
            obtain ⟨cc, cd⟩ := C_child d1 d2 cv
            have sx : ∀ θ, Sat θ tb → size (sub θ x) = size (sub θ a) + size (sub θ b) + 1 := fun θ q => by rw [← su θ q]; rfl
            have sat' : ∀ {tb' : Tb} {σ' : Nat → Tm} {r' : Nat → Nat}, Good tb' σ' r' → (∀ m t, look tb m = some t → look tb' m = some t) → Sat σ' tb := fun g he m t q => g.sat m t (he m t q)
            have hxs := sx σ h.sat
            have hpb := size_pos (sub σ b)
            have xy : ∀ θ, Sat θ tb → (sub θ x = sub θ y ↔ sub θ a = sub θ c ∧ sub θ b = sub θ d) := fun θ q => by
              rw [← su θ q, ← sv θ q]
              simp [sub]
            obtain ⟨l1, bad1, tb1, σ1, r1, q1, s1⟩ := both_s d1 d2 k tb σ r a c (l - 1) (R - 1) (by omega) h hc hl ca cc (fun tb' σ' r' g1 g2 g3 => by
              have e1 := hR tb' σ' r' g1 g2 g3
              have e2 := sx σ' (sat' g1 g3)
              omega) (by omega) (by omega)
            have e1 := hR tb1 σ1 r1 s1.good s1.inC s1.ext
            have e2 := sx σ1 (sat' s1.good s1.ext)
            have e3 := size_pos (sub σ1 b)
            have e4 := free_le s1.ext
            have e5 := s1.cost
            have e6 := s1.le
            have hf4 : free tb ≤ 4 := by
              have := List.countP_le_length (p := fun m => decide (look tb m = none)) (l := List.range 4)
              simpa [free] using this
            rw [q1]
            simp only [Option.bind_some]
            cases bad1 with
            | true =>
              simp only [if_true] at e5
              rw [both_bad, wrap_ok (by omega)]
              refine ⟨l1 - 1, true, tb1, σ1, r1, rfl, ⟨s1.good, s1.inC, s1.len, s1.ext, ?_, by omega, fun q => (by cases q), fun _ θ hθ e => s1.no rfl θ hθ ((xy θ hθ).1 e).1⟩⟩
              simp only [if_true]
              omega
            | false =>
              simp only [Bool.false_eq_true, if_false] at e5
              have hk1 : free tb1 * 512 + size (sub σ1 b) ≤ k := by
                rcases Nat.lt_or_ge (free tb1) (free tb) with q | q
                · have := size_C s1.good s1.inC d1 d2 cb
                  omega
                · have hlk := same_look s1.inC s1.ext q
                  have := h.uniq s1.good hlk
                  have hb : sub σ1 b = sub σ b := sub_congr fun n _ => (this n).symm
                  rw [hb]
                  omega
              obtain ⟨l2, bad2, tb2, σ2, r2, q2, s2⟩ := both_s d1 d2 k tb1 σ1 r1 b d l1 (R - 1 - size (sub σ1 a)) hk1 s1.good s1.inC s1.len cb cd (fun tb' σ' r' g1 g2 g3 => by
                have f3 : ∀ m t, look tb m = some t → look tb' m = some t := fun m t q => g3 m t (s1.ext m t q)
                have f1 := hR tb' σ' r' g1 g2 f3
                have f2 := sx σ' (sat' g1 f3)
                have f4 := ext_size s1.good g1 g3 a
                omega) (by omega) (by omega)
              have f3 : ∀ m t, look tb m = some t → look tb2 m = some t := fun m t q => s2.ext m t (s1.ext m t q)
              have f2 := sx σ2 (sat' s2.good f3)
              have f4 := ext_size s1.good s2.good s2.ext a
              have f5 := s2.cost
              have f6 := s2.le
              rw [q2]
              refine ⟨l2, bad2, tb2, σ2, r2, rfl, ⟨s2.good, s2.inC, s2.len, f3, ?_, by omega, fun q θ => ?_, fun q θ hθ e => ?_⟩⟩
              · cases bad2 <;> simp at f5 ⊢ <;> omega
              · rw [s2.ok q θ, s1.ok rfl θ]
                constructor
                · rintro ⟨⟨a1, a2⟩, a3⟩; exact ⟨a1, (xy θ a1).2 ⟨a2, a3⟩⟩
                · rintro ⟨a1, a2⟩; exact ⟨⟨a1, ((xy θ a1).1 a2).1⟩, ((xy θ a1).1 a2).2⟩
              · exact s2.no q θ ((s1.ok rfl θ).2 ⟨hθ, ((xy θ hθ).1 e).1⟩) ((xy θ hθ).1 e).2

end Q
end W
end
section
/- FnUnified: from the root. -/
namespace W
namespace Q
open Go HL HL.X
set_option maxRecDepth 100000

theorem nil_good : Good [] Tm.var (fun _ => 0) := ⟨fun n => rfl, fun n t h => by simp [look] at h⟩
theorem nil_inC (e1 e2 : Tm) : InC e1 e2 [] := fun n t h => by simp [look] at h
theorem nil_sat (θ : Nat → Tm) : Sat θ [] := fun n t h => by simp [look] at h
theorem nil_free : free [] = 4 := by decide
theorem cloneTable_nil : M.impl_cloneTable ([] : List Ty) = some [] := by
  rw [M.e_impl_cloneTable, M.e_impl_cloneTable_L0]
  rfl

/-- Small, and of depth three at most. -/
def Dr (t : Tm) : Prop := Small t ∧ depth t ≤ 3

/-- What a table is that makes two types one. -/
structure Uni (a b : Tm) (tb : Tb) (σ : Nat → Tm) (r : Nat → Nat) : Prop where
  good : Good tb σ r
  len : tb.length ≤ 500
  sat : ∀ θ, Sat θ tb ↔ sub θ a = sub θ b
  sz : ∀ n, n < 4 → size (σ n) ≤ 127
  lt : ∀ n t, look tb n = some t → n < 4 ∧ Small t

theorem size_depth : ∀ t : Tm, size t + 1 ≤ 2 ^ (depth t + 1)
  | .fn a b => by
    have h1 := size_depth a
    have h2 := size_depth b
    have h3 : 2 ^ (depth a + 1) ≤ 2 ^ (max (depth a) (depth b) + 1) := Nat.pow_le_pow_right (by omega) (by omega)
    have h4 : 2 ^ (depth b + 1) ≤ 2 ^ (max (depth a) (depth b) + 1) := Nat.pow_le_pow_right (by omega) (by omega)
    simp only [size, depth]
    rw [Nat.pow_succ]
    omega
  | .var n => by simp [size, depth]
  | .int => by simp [size, depth]
  | .bool => by simp [size, depth]
  | .dat _ => by simp [size, depth]

end Q
end W
end
section
/- FnUnified: from the root, the halves. -/
namespace W
namespace Q
open Go HL HL.X
set_option maxRecDepth 100000

def isVar : Tm → Bool
  | .var _ => true
  | _ => false
/-- The larger one that a variable may be, in a pair. -/
def big (p q : Tm) : Tm := if isVar p then q else if isVar q then p else .int

theorem big_depth {p q : Tm} (h1 : depth p ≤ 2) (h2 : depth q ≤ 2) : depth (big p q) ≤ 2 := by
  simp only [big]
  split
  · exact h2
  · split
    · exact h1
    · simp [depth]

theorem half_size {tb : Tb} {σ : Nat → Tm} {r : Nat → Nat} {e1 e2 : Tm} (h : Good tb σ r) (hc : InC e1 e2 tb) (d1 : depth e1 ≤ 2) (d2 : depth e2 ≤ 2) {p : Tm} (hp : Small p) (hd : depth p ≤ 2) : size (sub σ p) ≤ 511 := by
  have := size_d2 (σ := σ) (b := 127) hd (fun n hn => size_var h hc d1 d2 (hp n hn)) (by omega)
  omega

theorem wk_nv (tb : Tb) {p : Tm} (h : isVar p = false) : wk tb p = p := by
  cases p with
  | var n => cases h
  | _ => rfl

/-- Two functions made one, by two calls. -/
theorem fn_s {e1 e2 : Tm} {tb : Tb} {σ : Nat → Tm} {r : Nat → Nat} {a b c d : Tm} {l : Int} (h : Good tb σ r) (hl : tb.length ≤ 500) (h1 : 1 ≤ l) (h2 : l ≤ 20000)
    (ha : ∃ l' bad tb' σ' r', M.impl_unifier_both (a.ty, c.ty, l - 1, false, tb.tys) = some (l', bad, tb'.tys) ∧ Res e1 e2 tb a c (l - 1) l' bad tb' σ' r')
    (hb : ∀ l1 tb1 σ1 r1, Res e1 e2 tb a c (l - 1) l1 false tb1 σ1 r1 → ∃ l' bad tb' σ' r', M.impl_unifier_both (b.ty, d.ty, l1, false, tb1.tys) = some (l', bad, tb'.tys) ∧ Res e1 e2 tb1 b d l1 l' bad tb' σ' r')
    (hlow : ∀ l1 bad1 tb1 σ1 r1, Res e1 e2 tb a c (l - 1) l1 bad1 tb1 σ1 r1 → -20000 ≤ l1) :
    ∃ l' bad tb' σ' r', M.impl_unifier_both ((Tm.fn a b).ty, (Tm.fn c d).ty, l, false, tb.tys) = some (l', bad, tb'.tys) ∧ Res e1 e2 tb (.fn a b) (.fn c d) l l' bad tb' σ' r' := by
  rw [both_fn hl h1 h2 (x := .fn a b) (y := .fn c d) rfl rfl]
  obtain ⟨l1, bad1, tb1, σ1, r1, q1, s1⟩ := ha
  have hlo := hlow _ _ _ _ _ s1
  have xy : ∀ θ, (sub θ (.fn a b) = sub θ (.fn c d) ↔ sub θ a = sub θ c ∧ sub θ b = sub θ d) := fun θ => by simp [sub]
  have e5 := s1.cost
  have e6 := s1.le
  rw [q1]
  simp only [Option.bind_some]
  cases bad1 with
  | true =>
    simp only [if_true] at e5
    have e3 := size_pos (sub σ1 b)
    rw [both_bad, wrap_ok (by omega)]
    refine ⟨l1 - 1, true, tb1, σ1, r1, rfl, ⟨s1.good, s1.inC, s1.len, s1.ext, ?_, by omega, fun q => (by cases q), fun _ θ hθ e => s1.no rfl θ hθ ((xy θ).1 e).1⟩⟩
    simp only [if_true, sub, size]
    omega
  | false =>
    simp only [Bool.false_eq_true, if_false] at e5
    obtain ⟨l2, bad2, tb2, σ2, r2, q2, s2⟩ := hb l1 tb1 σ1 r1 s1
    have f3 : ∀ m t, look tb m = some t → look tb2 m = some t := fun m t q => s2.ext m t (s1.ext m t q)
    have f4 := ext_size s1.good s2.good s2.ext a
    have f5 := s2.cost
    have f6 := s2.le
    rw [q2]
    refine ⟨l2, bad2, tb2, σ2, r2, rfl, ⟨s2.good, s2.inC, s2.len, f3, ?_, by omega, fun q θ => ?_, fun q θ hθ e => ?_⟩⟩
    · cases bad2 <;> simp [sub, size] at f5 ⊢ <;> omega
    · rw [s2.ok q θ, s1.ok rfl θ]
      constructor
      · rintro ⟨⟨a1, a2⟩, a3⟩; exact ⟨a1, (xy θ).2 ⟨a2, a3⟩⟩
      · rintro ⟨a1, a2⟩; exact ⟨⟨a1, ((xy θ).1 a2).1⟩, ((xy θ).1 a2).2⟩
    · exact s2.no q θ ((s1.ok rfl θ).2 ⟨hθ, ((xy θ).1 e).1⟩) ((xy θ).1 e).2

/-- Half of it. -/
theorem half_s {e1 e2 : Tm} (d1 : depth e1 ≤ 2) (d2 : depth e2 ≤ 2) {tb : Tb} {σ : Nat → Tm} {r : Nat → Nat} {p q : Tm} {l : Int} (h : Good tb σ r) (hc : InC e1 e2 tb) (hl : tb.length ≤ 500) (hp : Small p) (hq : Small q) (hpd : depth p ≤ 2) (hqd : depth q ≤ 2)
    (he : big p q = e1 ∨ big p q = e2) (h1 : 5000 ≤ l) (h2 : l ≤ 20000) :
    ∃ l' bad tb' σ' r', M.impl_unifier_both (p.ty, q.ty, l, false, tb.tys) = some (l', bad, tb'.tys) ∧ Res e1 e2 tb p q l l' bad tb' σ' r' := by
  have hf4 : free tb ≤ 4 := by
    have := List.countP_le_length (p := fun m => decide (look tb m = none)) (l := List.range 4)
    simpa [free] using this
  by_cases hv : isVar p = true ∨ isVar q = true
  · have hC : C e1 e2 p ∧ C e1 e2 q := by
      cases hpv : isVar p with
      | true =>
        have hb : big p q = q := by simp [big, hpv]
        rw [hb] at he
        refine ⟨⟨hp, .inl ?_⟩, hq, .inr he⟩
        cases p with
        | var n => simp [depth]
        | _ => cases hpv
      | false =>
        have hqv : isVar q = true := by rcases hv with v | v; rw [hpv] at v; cases v; exact v
        have hb : big p q = p := by simp [big, hpv, hqv]
        rw [hb] at he
        refine ⟨⟨hp, .inr he⟩, hq, .inl ?_⟩
        cases q with
        | var n => simp [depth]
        | _ => cases hqv
    exact both_s d1 d2 _ tb σ r p q l 511 (Nat.le_refl _) h hc hl hC.1 hC.2 (fun tb' σ' r' g1 g2 _ => size_C g1 g2 d1 d2 hC.1) (by omega) h2
  · simp only [not_or, Bool.not_eq_true] at hv
    by_cases hpl : p.leaf = true
    · have hpw := wk_nv tb hv.1
      have hqw := wk_nv tb hv.2
      have hpn : ∀ m, wk tb p ≠ .var m := fun m e => by rw [hpw] at e; rw [e] at hv; cases hv.1
      have hqn : ∀ m, wk tb q ≠ .var m := fun m e => by rw [hqw] at e; rw [e] at hv; cases hv.2
      refine ⟨_, _, _, _, _, both_leaf hl (by omega) h2 (by rw [hpw]; exact hpl) hpn hqn, res_same h hc hl (fun e θ _ => ?_) (fun e θ _ e' => ?_)⟩
      · have e : p = q := by rw [hpw, hqw] at e; simpa using e
        rw [e]
      · have e : ¬ p = q := by rw [hpw, hqw] at e; simpa using e
        cases p with
        | var n => cases hv.1
        | fn a b => cases hpl
        | _ =>
          cases q with
          | var n => cases hv.2
          | _ => first | exact e rfl | exact e e' | cases e'
    · obtain ⟨a, b, rfl⟩ : ∃ a b, p = .fn a b := by
        cases p with
        | fn a b => exact ⟨a, b, rfl⟩
        | _ => exact absurd rfl hpl
      by_cases hql : q.leaf = true
      · have hqw := wk_nv tb hv.2
        have hqn : ∀ m, wk tb q ≠ .var m := fun m e => by rw [hqw] at e; rw [e] at hv; cases hv.2
        refine ⟨_, _, _, _, _, both_fn_leaf hl (by omega) h2 rfl (by rw [hqw]; exact hql) hqn, res_same h hc hl (fun e => by cases e) (fun _ θ _ e => ?_)⟩
        cases q with
        | var n => cases hv.2
        | fn c d => cases hql
        | _ => cases e
      · obtain ⟨c, d, rfl⟩ : ∃ c d, q = .fn c d := by
          cases q with
          | fn a b => exact ⟨a, b, rfl⟩
          | _ => exact absurd rfl hql
        simp only [depth] at hpd hqd
        have ca : C e1 e2 a := ⟨fun n hn => hp n (by simp [occ, hn]), .inl (by omega)⟩
        have cb : C e1 e2 b := ⟨fun n hn => hp n (by simp [occ, hn]), .inl (by omega)⟩
        have cc : C e1 e2 c := ⟨fun n hn => hq n (by simp [occ, hn]), .inl (by omega)⟩
        have cd : C e1 e2 d := ⟨fun n hn => hq n (by simp [occ, hn]), .inl (by omega)⟩
        refine fn_s h hl (by omega) h2 ?_ ?_ ?_
        · exact both_s d1 d2 _ tb σ r a c (l - 1) 511 (Nat.le_refl _) h hc hl ca cc (fun tb' σ' r' g1 g2 _ => size_C g1 g2 d1 d2 ca) (by omega) (by omega)
        · intro l1 tb1 σ1 r1 s1
          have e5 := s1.cost
          have e6 := s1.le
          have e7 := size_C s1.good s1.inC d1 d2 ca
          simp only [Bool.false_eq_true, if_false] at e5
          exact both_s d1 d2 _ tb1 σ1 r1 b d l1 511 (Nat.le_refl _) s1.good s1.inC s1.len cb cd (fun tb' σ' r' g1 g2 _ => size_C g1 g2 d1 d2 cb) (by omega) (by omega)
        · intro l1 bad1 tb1 σ1 r1 s1
          have e5 := s1.cost
          have e7 := size_C s1.good s1.inC d1 d2 ca
          cases bad1 <;> simp at e5 <;> omega

end Q
end W
end
section
/- FnUnified: two types made one, from nothing known. -/
namespace W
namespace Q
open Go HL HL.X
set_option maxRecDepth 100000

theorem wk_nil (t : Tm) : wk [] t = t := by
  cases t with
  | var n => simp [wk, walk, look]
  | _ => rfl

theorem res_uni {e1 e2 : Tm} (d1 : depth e1 ≤ 2) (d2 : depth e2 ≤ 2) {x y : Tm} {l l' : Int} {tb' : Tb} {σ' : Nat → Tm} {r' : Nat → Nat} (h : Res e1 e2 [] x y l l' false tb' σ' r') : Uni x y tb' σ' r' where
  good := h.good
  len := h.len
  sat θ := by rw [h.ok rfl θ]; exact ⟨fun q => q.2, fun q => ⟨nil_sat θ, q⟩⟩
  sz n hn := size_var h.good h.inC d1 d2 hn
  lt n t q := ⟨(h.inC n t q).1, (h.inC n t q).2.1⟩

/-- What comes of two types, from nothing known. -/
def UniS (a b : Tm) (m : Option (Int × Bool × List Ty)) : Prop := (∃ l' tb σ r, m = some (l', false, Tb.tys tb) ∧ Uni a b tb σ r) ∨ (∃ l' tys, m = some (l', true, tys) ∧ ∀ θ, sub θ a ≠ sub θ b)

theorem uni_res {e1 e2 : Tm} (d1 : depth e1 ≤ 2) (d2 : depth e2 ≤ 2) {a b : Tm} {m : Option (Int × Bool × List Ty)} {l : Int} (h : ∃ l' bad tb' σ' r', m = some (l', bad, Tb.tys tb') ∧ Res e1 e2 [] a b l l' bad tb' σ' r') : UniS a b m := by
  obtain ⟨l', bad, tb', σ', r', h1, h2⟩ := h
  cases bad with
  | false => exact .inl ⟨l', tb', σ', r', h1, res_uni d1 d2 h2⟩
  | true => exact .inr ⟨l', _, h1, fun θ => h2.no rfl θ (nil_sat θ)⟩

theorem uni_bind {a b t : Tm} {n : Nat} (hn : n < 4) (ht : Dr t) (htv : t ≠ .var n) (hab : ∀ θ, sub θ a = sub θ b ↔ θ n = sub θ t) : UniS a b ((M.impl_unifier_know ((n : Int), t.ty, 19999, false, Tb.tys [])).bind fun r => some (r.1, r.2.1, r.2.2)) := by
  have h15 : size t ≤ 15 := by
    have := size_depth t
    have h4 : 2 ^ (depth t + 1) ≤ 2 ^ 4 := Nat.pow_le_pow_right (by omega) (by have := ht.2; omega)
    have h16 : 2 ^ 4 = 16 := by decide
    omega
  have hs : sub Tm.var t = t := sub_var t
  obtain ⟨l', a1, a2, a3⟩ := know_s nil_good (by simp) (n := n) (by omega) t 19999 (by rw [hs]; omega) (by omega)
  rw [hs] at a3
  cases ho : occ n t with
  | true =>
    rw [ho] at a3
    refine .inr ⟨l', _, by rw [a3]; rfl, fun θ e => ?_⟩
    exact occurs_no nil_good (n := n) (t := t) (by rw [hs]; exact ho) (.inr trivial) (by rw [hs]; exact htv) (nil_sat θ) ((hab θ).1 e)
  | false =>
    rw [ho] at a3
    obtain ⟨b1, b2⟩ := look_bind [] n t
    have hl0 : look [] n = none := rfl
    obtain ⟨r', g⟩ := nil_good.bind hl0 (by rw [hs]; exact ho) b1 b2
    refine .inl ⟨l', bindT [] n t, _, r', by rw [a3]; rfl, ⟨g, ?_, fun θ => ?_, fun v _ => ?_, fun v u hv => ?_⟩⟩
    · rw [bind_len]; simp; omega
    · rw [sat_bind hl0 b1 b2, hab θ]
      exact ⟨fun q => q.2, fun q => ⟨nil_sat θ, q⟩⟩
    · show size (upd n (sub Tm.var t) v) ≤ 127
      rw [hs]
      simp only [upd]
      split
      · omega
      · simp [size]
    · by_cases e : v = n
      · subst e; rw [b1] at hv; cases hv; exact ⟨hn, ht.1⟩
      · rw [b2 v e] at hv; cases hv

theorem big_C {a c : Tm} : big a c = big a c := rfl

theorem uni_both {a b : Tm} (ha : Dr a) (hb : Dr b) : UniS a b (M.impl_unifier_both (a.ty, b.ty, 20000, false, Tb.tys [])) := by
  have wa := wk_nil a
  have wb := wk_nil b
  have d0 : depth Tm.int ≤ 2 := by simp [depth]
  have hl0 : ([] : Tb).length ≤ 500 := by simp
  by_cases hav : ∃ n, a = .var n
  · obtain ⟨n, rfl⟩ := hav
    have hn : n < 4 := ha.1 n (by simp [occ])
    by_cases hbn : b = .var n
    · subst hbn
      rw [both_same hl0 (by omega) (by omega) (n := n) (by omega) wa wb]
      exact uni_res d0 d0 ⟨_, _, _, _, _, rfl, res_same (e1 := .int) (e2 := .int) (l := 20000) nil_good (nil_inC _ _) hl0 (fun _ θ _ => rfl) (fun q => by cases q)⟩
    · rw [both_left hl0 (by omega) (by omega) wa (by rw [wb]; exact hbn), wb]
      exact uni_bind hn hb hbn fun θ => Iff.rfl
  · have han : ∀ m, wk [] a ≠ .var m := fun m e => hav ⟨m, by rw [wa] at e; exact e⟩
    by_cases hbv : ∃ n, b = .var n
    · obtain ⟨n, rfl⟩ := hbv
      have hn : n < 4 := hb.1 n (by simp [occ])
      rw [both_right hl0 (by omega) (by omega) han wb, wa]
      exact uni_bind hn ha (fun e => hav ⟨n, e⟩) fun θ => ⟨fun e => e.symm, fun e => e.symm⟩
    · have hbn : ∀ m, wk [] b ≠ .var m := fun m e => hbv ⟨m, by rw [wb] at e; exact e⟩
      by_cases hal : a.leaf = true
      · rw [both_leaf hl0 (by omega) (by omega) (by rw [wa]; exact hal) han hbn, wa, wb]
        refine uni_res d0 d0 ⟨_, _, _, _, _, rfl, res_same (e1 := .int) (e2 := .int) (l := 20000) nil_good (nil_inC _ _) hl0 (fun q θ _ => ?_) (fun q θ _ e => ?_)⟩
        · have q : a = b := by simpa using q
          rw [q]
        · have q : ¬ a = b := by simpa using q
          cases a with
          | var m => exact hav ⟨m, rfl⟩
          | fn a b => cases hal
          | _ =>
            cases b with
            | var m => exact hbv ⟨m, rfl⟩
            | _ => first | exact q rfl | exact q e | cases e
      · obtain ⟨a1, a2, rfl⟩ : ∃ a1 a2, a = .fn a1 a2 := by
          cases a with
          | fn a b => exact ⟨a, b, rfl⟩
          | _ => exact absurd rfl hal
        by_cases hbl : b.leaf = true
        · rw [both_fn_leaf hl0 (by omega) (by omega) wa (by rw [wb]; exact hbl) hbn]
          refine uni_res d0 d0 ⟨_, _, _, _, _, rfl, res_same (e1 := .int) (e2 := .int) (l := 20000) nil_good (nil_inC _ _) hl0 (fun q => by cases q) (fun _ θ _ e => ?_)⟩
          cases b with
          | var m => exact hbv ⟨m, rfl⟩
          | fn c d => cases hbl
          | _ => cases e
        · obtain ⟨b1, b2, rfl⟩ : ∃ b1 b2, b = .fn b1 b2 := by
            cases b with
            | fn a b => exact ⟨a, b, rfl⟩
            | _ => exact absurd rfl hbl
          obtain ⟨sa, da⟩ := ha
          obtain ⟨sb, db⟩ := hb
          simp only [depth] at da db
          have sa1 : Small a1 := fun n hn => sa n (by simp [occ, hn])
          have sa2 : Small a2 := fun n hn => sa n (by simp [occ, hn])
          have sb1 : Small b1 := fun n hn => sb n (by simp [occ, hn])
          have sb2 : Small b2 := fun n hn => sb n (by simp [occ, hn])
          have e1 : depth (big a1 b1) ≤ 2 := big_depth (by omega) (by omega)
          have e2 : depth (big a2 b2) ≤ 2 := big_depth (by omega) (by omega)
          refine uni_res e1 e2 (l := 20000) (fn_s nil_good hl0 (by omega) (by omega) ?_ ?_ ?_)
          · exact half_s e1 e2 nil_good (nil_inC _ _) hl0 sa1 sb1 (by omega) (by omega) (.inl rfl) (by omega) (by omega)
          · intro l1 tb1 σ1 r1 s1
            have c5 := s1.cost
            have c6 := s1.le
            have c7 := half_size s1.good s1.inC e1 e2 sa1 (by omega)
            have c8 := nil_free
            simp only [Bool.false_eq_true, if_false] at c5
            exact half_s e1 e2 s1.good s1.inC s1.len sa2 sb2 (by omega) (by omega) (.inr rfl) (by omega) (by omega)
          · intro l1 bad1 tb1 σ1 r1 s1
            have c5 := s1.cost
            have c7 := half_size s1.good s1.inC e1 e2 sa1 (by omega)
            have c8 := nil_free
            cases bad1 <;> simp at c5 <;> omega

theorem unify_s {a b : Tm} (ha : Dr a) (hb : Dr b) : (∃ tb σ r, M.impl_Unify ([], a.ty, b.ty) = some (true, Tb.tys tb) ∧ Uni a b tb σ r) ∨ (M.impl_Unify ([], a.ty, b.ty) = some (false, []) ∧ ∀ θ, sub θ a ≠ sub θ b) := by
  rw [M.e_impl_Unify]
  simp only [cloneTable_nil, Option.bind_some]
  rcases uni_both ha hb with ⟨l', tb, σ, r, h1, h2⟩ | ⟨l', tys, h1, h2⟩
  · left
    refine ⟨tb, σ, r, ?_, h2⟩
    rw [show ([] : List Ty) = Tb.tys [] from rfl, h1]
    rfl
  · right
    refine ⟨?_, h2⟩
    rw [show M.impl_unifier_both (a.ty, b.ty, 20000, false, []) = _ from h1]
    rfl

end Q
end W
end
section
/- FnUnified: types, as far as they are known; their variables. -/
namespace W
namespace Q
open Go HL HL.X
set_option maxRecDepth 100000

theorem kn_two {x y x' y' : Ty} {tys : List Ty} {t : Ty} {k n l l1 l2 : Int} {s : ByteArray} (hx : M.impl_knower_ty (x, l, tys) = some (x', l1)) (hy : M.impl_knower_ty (y, l1, tys) = some (y', l2)) :
    M.impl_knower_ty_L0 ([x, y], 2, 0, l, tys, t, k, s, n, []) = some (l2, t, k, s, n, [x', y']) := by
  rw [M.e_impl_knower_ty_L0]
  simp [ix, hx, gd, grow]
  rw [M.e_impl_knower_ty_L0]
  simp [ix, hy, gd, grow]
  rw [M.e_impl_knower_ty_L0]
  simp
theorem kn_nil {tys : List Ty} {t : Ty} {k n l : Int} {s : ByteArray} : M.impl_knower_ty_L0 ([], 0, 0, l, tys, t, k, s, n, []) = some (l, t, k, s, n, []) := by
  rw [M.e_impl_knower_ty_L0]
  simp

theorem knower_s {tb : Tb} {σ : Nat → Tm} {r : Nat → Nat} (h : Good tb σ r) (hl : tb.length ≤ 500) : ∀ (k : Nat) (t : Tm), size (sub σ t) ≤ k → ∀ l : Int, (size (sub σ t) : Int) ≤ l → l ≤ 3000 →
    M.impl_knower_ty (t.ty, l, tb.tys) = some ((sub σ t).ty, l - size (sub σ t))
  | 0, t, hk, l, _, _ => by have := size_pos (sub σ t); omega
  | k + 1, t, hk, l, hl1, hl2 => by
    have hsp := size_pos (sub σ t)
    have hw : sub σ (wk tb t) = sub σ t := walk_sub h _ t
    have h0 : decide (l = 0) = false := decide_eq_false (by omega)
    have hwr : IntKind.i64.wrap (l - 1) = l - 1 := wrap_ok (by omega)
    rw [M.e_impl_knower_ty]
    simp only [h0, cond_false, looked_s hl, Option.bind_some, hwr]
    cases hu : walk tb (tb.length + 1) t with
    | var m =>
      have hn := wk_end h hu
      have e : sub σ t = .var m := by rw [← hw]; show sub σ (walk tb (tb.length + 1) t) = _; rw [hu]; exact h.no hn
      rw [e]
      show ((M.impl_knower_ty_L0 ([], 0, 0, l - 1, tb.tys, _, _, _, _, [])).bind _) = _
      rw [kn_nil]
      simp [Tm.ty, size]
    | fn a b =>
      have e : sub σ t = .fn (sub σ a) (sub σ b) := by rw [← hw]; show sub σ (walk tb (tb.length + 1) t) = _; rw [hu]; rfl
      rw [e] at hk hl1 ⊢
      simp only [size] at hk hl1 ⊢
      have a1 := knower_s h hl k a (by omega) (l - 1) (by omega) (by omega)
      have a2 := knower_s h hl k b (by omega) (l - 1 - size (sub σ a)) (by omega) (by omega)
      show ((M.impl_knower_ty_L0 ([a.ty, b.ty], 2, 0, l - 1, tb.tys, _, _, _, _, [])).bind _) = _
      rw [kn_two a1 a2]
      simp only [Option.bind_some, Tm.ty, Option.some.injEq, Prod.mk.injEq, true_and]
      omega
    | int =>
      have e : sub σ t = .int := by rw [← hw]; show sub σ (walk tb (tb.length + 1) t) = _; rw [hu]; rfl
      rw [e]
      show ((M.impl_knower_ty_L0 ([], 0, 0, l - 1, tb.tys, _, _, _, _, [])).bind _) = _
      rw [kn_nil]
      simp [Tm.ty, size]
    | bool =>
      have e : sub σ t = .bool := by rw [← hw]; show sub σ (walk tb (tb.length + 1) t) = _; rw [hu]; rfl
      rw [e]
      show ((M.impl_knower_ty_L0 ([], 0, 0, l - 1, tb.tys, _, _, _, _, [])).bind _) = _
      rw [kn_nil]
      simp [Tm.ty, size]
    | dat s =>
      have e : sub σ t = .dat s := by rw [← hw]; show sub σ (walk tb (tb.length + 1) t) = _; rw [hu]; rfl
      rw [e]
      show ((M.impl_knower_ty_L0 ([], 0, 0, l - 1, tb.tys, _, _, _, _, [])).bind _) = _
      rw [kn_nil]
      simp [Tm.ty, size]

theorem Known_s {tb : Tb} {σ : Nat → Tm} {r : Nat → Nat} (h : Good tb σ r) (hl : tb.length ≤ 500) {t : Tm} (hs : size (sub σ t) ≤ 3000) : M.impl_Known (t.ty, tb.tys) = some (sub σ t).ty := by
  rw [M.e_impl_Known, knower_s h hl _ t (Nat.le_refl _) 3000 (by omega) (by omega)]
  rfl

/-! ### variables -/

def vs : Tm → List Nat → List Nat
  | .var n, out => if n ∈ out then out else out ++ [n]
  | .fn a b, out => vs b (vs a out)
  | _, out => out
abbrev ints (l : List Nat) : List Int := l.map Int.ofNat

theorem vs_len : ∀ (t : Tm) (out : List Nat), (vs t out).length ≤ out.length + size t
  | .var n, out => by simp only [vs, size]; split <;> simp
  | .fn a b, out => by have h1 := vs_len a out; have h2 := vs_len b (vs a out); simp only [vs, size]; omega
  | .int, out => by simp [vs, size]
  | .bool, out => by simp [vs, size]
  | .dat _, out => by simp [vs, size]

theorem Index_s (v : Nat) (l : List Nat) (hl : l.length ≤ 100000) : M.slices_Contains_int ((v : Int), ints l) = some (decide (v ∈ l)) := by
  have key : ∀ (k i : Nat), i + k = l.length → M.slices_Index_int_L0 ((v : Int), (l.length : Int), (i : Int), ints l) = some (.inr ()) ∧ v ∉ l.drop i ∨ (∃ j : Nat, M.slices_Index_int_L0 ((v : Int), (l.length : Int), (i : Int), ints l) = some (.inl (j : Int))) ∧ v ∈ l.drop i := by
    intro k
    induction k with
    | zero =>
      intro i h
      left
      rw [M.e_slices_Index_int_L0]
      have : ¬ ((i : Int) < (l.length : Int)) := by omega
      simp only [this, decide_false, cond_false]
      rw [List.drop_eq_nil_of_le (by omega)]
      simp
    | succ k ih =>
      intro i h
      have hi : i < l.length := by omega
      have e1 : (i : Int) < (l.length : Int) := by omega
      have e2 : (i : Int) < ((ints l).length : Int) := by simp; omega
      have e3 : (ints l)[((i : Int)).toNat]? = some ((l[i] : Nat) : Int) := by simp [hi]
      have e4 : IntKind.i64.wrap ((i : Int) + 1) = ((i + 1 : Nat) : Int) := by rw [wrap_ok (by omega)]; omega
      have e5 := List.drop_eq_getElem_cons hi
      rw [M.e_slices_Index_int_L0]
      simp only [e1, decide_true, cond_true, gd_t (show (0 : Int) ≤ (i : Int) by omega), gd_t e2, e3, Option.bind_some, e4, e5]
      by_cases e : v = l[i]
      · right
        have e6 : (v : Int) = ((l[i] : Nat) : Int) := by omega
        simp only [e6, decide_true, cond_true]
        exact ⟨⟨i, rfl⟩, List.mem_cons.2 (.inl e)⟩
      · have e6 : ¬ ((v : Int) = ((l[i] : Nat) : Int)) := by omega
        simp only [e6, decide_false, cond_false, List.mem_cons, e, false_or]
        exact ih (i + 1) (by omega)
  rw [M.e_slices_Contains_int, M.e_slices_Index_int]
  simp only [List.length_map]
  rcases key l.length 0 (by omega) with ⟨h1, h2⟩ | ⟨⟨j, h1⟩, h2⟩
  · rw [show (0 : Int) = ((0 : Nat) : Int) from rfl, h1]
    simp only [List.drop_zero] at h2
    simp [h2]
  · rw [show (0 : Int) = ((0 : Nat) : Int) from rfl, h1]
    simp only [List.drop_zero] at h2
    simp [h2]

theorem vl_nil (out : List Int) : M.impl_varsIn_L0 ([], 0, 0, out) = some out := by
  rw [M.e_impl_varsIn_L0]
  simp
theorem vl_two {x y : Ty} {o1 o2 out : List Int} (h1 : M.impl_varsIn (x, out) = some o1) (h2 : M.impl_varsIn (y, o1) = some o2) : M.impl_varsIn_L0 ([x, y], 2, 0, out) = some o2 := by
  rw [M.e_impl_varsIn_L0]
  simp [ix, h1]
  rw [M.e_impl_varsIn_L0]
  simp [ix, h2]
  rw [M.e_impl_varsIn_L0]
  simp

theorem varsIn_s : ∀ (t : Tm) (out : List Nat), out.length + size t ≤ 100000 → M.impl_varsIn (t.ty, ints out) = some (ints (vs t out))
  | .var n, out, h => by
    simp only [size] at h
    rw [M.e_impl_varsIn]
    have e : decide ((Tm.var n).ty.K = 5) = true := by simp [Tm.ty]
    simp only [e, cond_true]
    rw [show (Tm.var n).ty.N = (n : Int) from rfl, Index_s n out (by omega)]
    by_cases hm : n ∈ out
    · simp [hm, vs, Tm.ty, vl_nil]
    · simp only [hm, decide_false, Option.bind_some, Bool.not_false, cond_true]
      rw [gd_t (by simp [grow]; omega)]
      simp [hm, vs, Tm.ty, vl_nil]
  | .fn a b, out, h => by
    simp only [size] at h
    have h1 := varsIn_s a out (by omega)
    have h2 := varsIn_s b (vs a out) (by have := vs_len a out; omega)
    rw [M.e_impl_varsIn]
    simp [Tm.ty, vl_two h1 h2, vs]
  | .int, out, h => by rw [M.e_impl_varsIn]; simp [Tm.ty, vl_nil, vs]
  | .bool, out, h => by rw [M.e_impl_varsIn]; simp [Tm.ty, vl_nil, vs]
  | .dat _, out, h => by rw [M.e_impl_varsIn]; simp [Tm.ty, vl_nil, vs]

theorem VarsOf_s {t : Tm} (h : size t ≤ 3000) : M.impl_VarsOf t.ty = some (ints (vs t [])) := by
  rw [M.e_impl_VarsOf, show ([] : List Int) = ints [] from rfl, varsIn_s t [] (by simp; omega)]
  rfl

theorem vs_nodup : ∀ (t : Tm) (out : List Nat), out.Nodup → (vs t out).Nodup
  | .var n, out, h => by
    simp only [vs]
    split
    · exact h
    · rename_i hm
      rw [List.nodup_append]
      refine ⟨h, by simp, fun a ha b hb => ?_⟩
      simp at hb
      subst hb
      intro e
      subst e
      exact hm ha
  | .fn a b, out, h => vs_nodup b _ (vs_nodup a out h)
  | .int, out, h => h
  | .bool, out, h => h
  | .dat _, out, h => h
theorem vs_mem : ∀ (t : Tm) (out : List Nat) (n : Nat), n ∈ vs t out ↔ n ∈ out ∨ occ n t = true
  | .var m, out, n => by
    simp only [vs, occ, decide_eq_true_eq]
    split
    · rename_i hm
      exact ⟨.inl, fun h => h.elim id fun e => by subst e; exact hm⟩
    · simp [eq_comm]
  | .fn a b, out, n => by simp only [vs, occ]; rw [vs_mem b, vs_mem a]; simp [or_assoc]
  | .int, out, n => by simp [vs, occ]
  | .bool, out, n => by simp [vs, occ]
  | .dat _, out, n => by simp [vs, occ]

theorem len_le : ∀ {l1 l2 : List Nat}, l1.Nodup → (∀ x, x ∈ l1 → x ∈ l2) → l1.length ≤ l2.length
  | [], l2, _, _ => Nat.zero_le _
  | a :: l1, l2, hn, hs => by
    rw [List.nodup_cons] at hn
    have ha := hs a (by simp)
    have := len_le (l1 := l1) (l2 := l2.erase a) hn.2 fun x hx => by
      have hne : x ≠ a := fun e => by subst e; exact hn.1 hx
      exact (List.mem_erase_of_ne hne).2 (hs x (by simp [hx]))
    have h3 : 0 < l2.length := List.length_pos_of_mem ha
    rw [List.length_erase_of_mem ha] at this
    simp only [List.length_cons]
    omega

theorem sub_id {ρ : Nat → Tm} : ∀ {y : Tm}, sub ρ y = y → ∀ n, occ n y = true → ρ n = .var n
  | .var m, h, n, hn => by simp [occ] at hn; subst hn; exact h
  | .fn a b, h, n, hn => by
    simp only [sub, Tm.fn.injEq] at h
    simp only [occ, Bool.or_eq_true] at hn
    rcases hn with hn | hn
    · exact sub_id h.1 n hn
    · exact sub_id h.2 n hn
  | .int, _, n, hn => by simp [occ] at hn
  | .bool, _, n, hn => by simp [occ] at hn
  | .dat _, _, n, hn => by simp [occ] at hn

def un : Tm → Nat
  | .var m => m
  | _ => 0

theorem nodup_map {f : Nat → Nat} : ∀ {l : List Nat}, l.Nodup → (∀ x, x ∈ l → ∀ y, y ∈ l → f x = f y → x = y) → (l.map f).Nodup
  | [], _, _ => List.nodup_nil
  | a :: l, hn, hf => by
    rw [List.nodup_cons] at hn
    rw [List.map_cons, List.nodup_cons]
    refine ⟨fun h => ?_, nodup_map hn.2 fun x hx y hy => hf x (by simp [hx]) y (by simp [hy])⟩
    rw [List.mem_map] at h
    obtain ⟨b, hb, e⟩ := h
    have := hf b (by simp [hb]) a (by simp) e
    subst this
    exact hn.1 hb

theorem count_le {x y : Tm} {σ τ : Nat → Tm} (h1 : sub σ y = x) (h2 : sub τ x = y) : (vs y []).length ≤ (vs x []).length := by
  have hid : ∀ n, occ n y = true → sub τ (σ n) = .var n := by
    have : sub (fun n => sub τ (σ n)) y = y := by rw [← sub_sub, h1, h2]
    exact sub_id this
  have hun : ∀ n, occ n y = true → σ n = .var (un (σ n)) := fun n hn => by
    have := hid n hn
    cases h : σ n with
    | var m => rfl
    | _ => rw [h] at this; cases this
  have hm : ∀ n, n ∈ vs y [] ↔ occ n y = true := fun n => by rw [vs_mem]; simp
  have hx : ∀ n, n ∈ vs x [] ↔ occ n x = true := fun n => by rw [vs_mem]; simp
  have hnd : ((vs y []).map fun n => un (σ n)).Nodup := nodup_map (vs_nodup y [] List.nodup_nil) fun a ha b hb e => by
    have ia := hid a ((hm a).1 ha)
    have ib := hid b ((hm b).1 hb)
    rw [hun a ((hm a).1 ha)] at ia
    rw [hun b ((hm b).1 hb)] at ib
    have e : un (σ a) = un (σ b) := e
    rw [e, ib] at ia
    cases ia
    rfl
  have := len_le hnd (l2 := vs x []) fun k hk => by
    rw [List.mem_map] at hk
    obtain ⟨n, hn, rfl⟩ := hk
    rw [hx, ← h1, occ_sub]
    refine ⟨n, (hm n).1 hn, ?_⟩
    have e := hun n ((hm n).1 hn)
    generalize hk : un (σ n) = k at e ⊢
    rw [e]
    simp [occ]
  simpa using this

end Q
end W
end
section
/- FnUnified: what is drawn. -/
namespace W
namespace Q
open Go HL HL.X
set_option maxRecDepth 100000

abbrev Cur := spec_l1Cur
def okC (c : Cur) : Prop := 0 ≤ c.i ∧ c.b.length ≤ 2000000
theorem and_byte (a : Int) : 0 ≤ andI IntKind.i64 a 255 ∧ andI IntKind.i64 a 255 ≤ 255 := by
  have h : ((BitVec.ofInt IntKind.i64.bits a) &&& (BitVec.ofInt IntKind.i64.bits 255)).toNat ≤ 255 := by
    rw [BitVec.toNat_and]
    exact Nat.le_trans Nat.and_le_right (by decide)
  unfold andI
  rw [wrap_ok (by omega)]
  omega
theorem dByte {c : Cur} (hc : okC c) : ∃ v c', M.spec_l1Byte c = some (v, c') ∧ 0 ≤ v ∧ v ≤ 255 ∧ okC c' := by
  obtain ⟨h1, h2⟩ := hc
  rw [M.e_spec_l1Byte]
  simp only [gd_t (show (0 : Int) ≤ 33 by omega), gd_t (show (0 : Int) ≤ 47 by omega), Option.bind_some]
  by_cases a : c.i < ((c.b.length : Nat) : Int)
  · have hx : ix c.b c.i = some c.b[c.i.toNat] := by
      have := ix_of (l := c.b) (i := c.i.toNat) (List.getElem?_eq_getElem (by omega))
      rwa [show ((c.i.toNat : Nat) : Int) = c.i by omega] at this
    simp only [a, decide_true, cond_true, hx, Option.bind_some]
    exact ⟨_, _, rfl, (and_byte _).1, (and_byte _).2, by show 0 ≤ IntKind.i64.wrap (c.i + 1); rw [wrap_ok (by omega)]; omega, h2⟩
  · simp only [a, decide_false, cond_false]
    exact ⟨_, _, rfl, (and_byte _).1, (and_byte _).2, h1, h2⟩
theorem tmod_in {v n : Int} (hv : 0 ≤ v) (hn : 0 < n) : 0 ≤ Int.tmod v n ∧ Int.tmod v n < n := by
  rw [Int.tmod_eq_emod_of_nonneg hv]
  exact ⟨Int.emod_nonneg _ (by omega), Int.emod_lt_of_pos _ hn⟩
theorem dBelow {c : Cur} (hc : okC c) {n : Int} (hn : 0 < n) (h : n ≤ 256) : ∃ v c', M.spec_l1Below (n, c) = some (v, c') ∧ 0 ≤ v ∧ v < n ∧ okC c' := by
  obtain ⟨v1, c1, e1, a1, b1, o1⟩ := dByte hc
  rw [M.e_spec_l1Below]
  have n1 : ¬ (n ≤ 0) := by omega
  simp only [n1, decide_false, cond_false, h, decide_true, cond_true, e1, Option.bind_some, gd_t (show n ≠ 0 by omega)]
  exact ⟨_, _, rfl, (tmod_in a1 hn).1, (tmod_in a1 hn).2, o1⟩
theorem dStr {c : Cur} (hc : okC c) {l : List ByteArray} (hl : 0 < l.length) (hl2 : l.length ≤ 256) : ∃ e c', M.spec_l1Str (l, c) = some (e, c') ∧ okC c' := by
  obtain ⟨v, c', e1, a1, b1, o1⟩ := dBelow hc (n := ((l.length : Nat) : Int)) (by omega) (by omega)
  have hx : ix l v = some l[v.toNat] := by
    have := ix_of (l := l) (i := v.toNat) (List.getElem?_eq_getElem (by omega))
    rwa [show ((v.toNat : Nat) : Int) = v by omega] at this
  rw [M.e_spec_l1Str]
  simp only [e1, Option.bind_some, hx]
  exact ⟨_, _, rfl, o1⟩
theorem dNew {x : List Int} (hx : x.length ≤ 2000000) : ∃ c, M.spec_l1New x = some c ∧ okC c := by
  have key : ∀ (k i : Nat) (h : Int), i + k = x.length → ∃ v, M.spec_l1New_L0 (x, h, (i : Int)) = some v := by
    intro k
    induction k with
    | zero =>
      intro i h hi
      rw [M.e_spec_l1New_L0]
      have : ¬ ((i : Int) < (x.length : Int)) := by omega
      simp only [this, decide_false, cond_false]
      exact ⟨_, rfl⟩
    | succ k ih =>
      intro i h hi
      rw [M.e_spec_l1New_L0]
      have a1 : (i : Int) < (x.length : Int) := by omega
      have a2 : IntKind.i64.wrap ((i : Int) + 1) = ((i + 1 : Nat) : Int) := by rw [wrap_ok (by omega)]; omega
      simp only [a1, decide_true, cond_true, ix_of (List.getElem?_eq_getElem (show i < x.length by omega)), Option.bind_some, a2]
      by_cases a : (i : Int) < 4000
      · simp only [a, decide_true, cond_true]
        exact ih (i + 1) _ (by omega)
      · simp only [a, decide_false, cond_false]
        exact ⟨_, rfl⟩
  obtain ⟨v, e⟩ := key x.length 0 (IntKind.i64.wrap (945945 + ((x.length : Nat) : Int))) (by omega)
  rw [M.e_spec_l1New]
  rw [show M.spec_l1New_L0 (x, IntKind.i64.wrap (945945 + ((x.length : Nat) : Int)), 0) = _ from e]
  exact ⟨_, rfl, Int.le_refl _, hx⟩

theorem dVar {c : Cur} (hc : okC c) : ∃ n c', n < 4 ∧ okC c' ∧ (M.spec_l1Below (4, c)).bind (fun r => (M.spec_l9Var r.1).bind fun r8 => some (r8, r.2)) = some ((Tm.var n).ty, c') := by
  obtain ⟨v, c', e1, a1, b1, o1⟩ := dBelow hc (n := 4) (by omega) (by omega)
  refine ⟨v.toNat, c', by omega, o1, ?_⟩
  have : ((v.toNat : Nat) : Int) = v := by omega
  rw [e1]
  simp [M.e_spec_l9Var, Tm.ty, this]

theorem dDraw : ∀ (k : Nat), k ≤ 3 → ∀ {c : Cur}, okC c → ∃ t c', M.spec_l9Draw ((k : Int), c) = some (Tm.ty t, c') ∧ Small t ∧ depth t ≤ k ∧ okC c' := by
  have sl : ∀ t : Tm, (∀ n, t ≠ .var n) → t.leaf = true → Small t := fun t h1 h2 n hn => by
    cases t with
    | var m => exact absurd rfl (h1 m)
    | fn a b => cases h2
    | _ => simp [occ] at hn
  have sv : ∀ {n}, n < 4 → Small (.var n) := fun h m hm => by simp [occ] at hm; omega
  intro k
  induction k with
  | zero =>
    intro _ c hc
    obtain ⟨v, c1, e1, a1, b1, o1⟩ := dBelow hc (n := 8) (by omega) (by omega)
    rw [M.e_spec_l9Draw]
    simp only [e1, Option.bind_some]
    by_cases h0 : v = 0
    · simp only [h0, decide_true, cond_true, M.e_spec_l9Int, Option.bind_some]
      exact ⟨.int, _, rfl, sl _ (fun _ h => by cases h) rfl, by simp [depth], o1⟩
    by_cases h1 : v = 1
    · simp only [h0, h1, decide_false, decide_true, cond_false, cond_true, M.e_spec_l9Bool, Option.bind_some]
      exact ⟨.bool, _, rfl, sl _ (fun _ h => by cases h) rfl, by simp [depth], o1⟩
    by_cases h2 : v = 2
    · obtain ⟨e, c2, g1, g2⟩ := dStr o1 (l := [(⟨⟨[84]⟩⟩ : ByteArray), (⟨⟨[76]⟩⟩ : ByteArray)]) (by simp) (by simp)
      rw [h2]
      simp only [show decide ((2 : Int) = 0) = false from rfl, show decide ((2 : Int) = 1) = false from rfl, show decide ((2 : Int) = 2) = true from rfl, cond_false, cond_true, g1, M.e_spec_l9Data, Option.bind_some]
      exact ⟨.dat e, _, rfl, sl _ (fun _ h => by cases h) rfl, by simp [depth], g2⟩
    obtain ⟨n, c2, n4, o2, g⟩ := dVar o1
    simp only [h0, h1, h2, decide_false, cond_false]
    by_cases h3 : v = 3
    · simp only [h3, decide_true, cond_true, Option.bind_some]
      exact ⟨.var n, c2, g, sv n4, by simp [depth], o2⟩
    · by_cases h4 : v = 4
      · simp only [h3, h4, decide_false, decide_true, cond_false, cond_true, Option.bind_some]
        exact ⟨.var n, c2, g, sv n4, by simp [depth], o2⟩
      · simp only [h3, h4, decide_false, cond_false, Option.bind_some]
        exact ⟨.var n, c2, g, sv n4, by simp [depth], o2⟩
  | succ k ih =>
    intro hk c hc
    obtain ⟨v, c1, e1, a1, b1, o1⟩ := dBelow hc (n := 8) (by omega) (by omega)
    rw [M.e_spec_l9Draw]
    simp only [e1, Option.bind_some]
    by_cases h0 : v = 0
    · simp only [h0, decide_true, cond_true, M.e_spec_l9Int, Option.bind_some]
      exact ⟨.int, _, rfl, sl _ (fun _ h => by cases h) rfl, by simp [depth], o1⟩
    by_cases h1 : v = 1
    · simp only [h0, h1, decide_false, decide_true, cond_false, cond_true, M.e_spec_l9Bool, Option.bind_some]
      exact ⟨.bool, _, rfl, sl _ (fun _ h => by cases h) rfl, by simp [depth], o1⟩
    by_cases h2 : v = 2
    · obtain ⟨e, c2, g1, g2⟩ := dStr o1 (l := [(⟨⟨[84]⟩⟩ : ByteArray), (⟨⟨[76]⟩⟩ : ByteArray)]) (by simp) (by simp)
      rw [h2]
      simp only [show decide ((2 : Int) = 0) = false from rfl, show decide ((2 : Int) = 1) = false from rfl, show decide ((2 : Int) = 2) = true from rfl, cond_false, cond_true, g1, M.e_spec_l9Data, Option.bind_some]
      exact ⟨.dat e, _, rfl, sl _ (fun _ h => by cases h) rfl, by simp [depth], g2⟩
    obtain ⟨n, c2, n4, o2, g⟩ := dVar o1
    simp only [h0, h1, h2, decide_false, cond_false]
    by_cases h3 : v = 3
    · simp only [h3, decide_true, cond_true, Option.bind_some]
      exact ⟨.var n, c2, g, sv n4, by simp [depth], o2⟩
    · by_cases h4 : v = 4
      · simp only [h3, h4, decide_false, decide_true, cond_false, cond_true, Option.bind_some]
        exact ⟨.var n, c2, g, sv n4, by simp [depth], o2⟩
      · have hz : ¬ (((k + 1 : Nat) : Int) = 0) := by omega
        have hw : IntKind.i64.wrap (((k + 1 : Nat) : Int) - 1) = (k : Int) := by rw [wrap_ok (by omega)]; omega
        obtain ⟨t1, d1, f1, s1, p1, q1⟩ := ih (by omega) o1
        obtain ⟨t2, d2, f2, s2, p2, q2⟩ := ih (by omega) q1
        simp only [h3, h4, hz, decide_false, cond_false, Option.bind_some, hw, f1, f2, M.e_spec_l9Fun]
        refine ⟨.fn t1 t2, d2, rfl, fun n hn => ?_, by simp only [depth]; omega, q2⟩
        simp only [occ, Bool.or_eq_true] at hn
        exact hn.elim (s1 n) (s2 n)

theorem dTys {x : List Int} (hx : x.length ≤ 2000000) : ∃ a b, Dr a ∧ Dr b ∧ M.spec_DrawTys x = some (a.ty, b.ty) := by
  obtain ⟨c, e0, o0⟩ := dNew hx
  obtain ⟨a, c1, e1, s1, d1, o1⟩ := dDraw 3 (by omega) o0
  obtain ⟨b, c2, e2, s2, d2, o2⟩ := dDraw 3 (by omega) o1
  refine ⟨a, b, ⟨s1, d1⟩, ⟨s2, d2⟩, ?_⟩
  rw [M.e_spec_DrawTys, e0]
  simp only [Option.bind_some]
  rw [show ((3 : Nat) : Int) = 3 from rfl] at e1 e2
  rw [e1]
  simp only [Option.bind_some]
  rw [e2]
  rfl

/-! ### the law -/

theorem uni_size {a b t : Tm} {tb : Tb} {σ : Nat → Tm} {r : Nat → Nat} (h : Uni a b tb σ r) (ht : Dr t) : size (sub σ t) ≤ 1023 := by
  have key : ∀ (d : Nat) (t : Tm), Small t → depth t ≤ d → size (sub σ t) + 1 ≤ 128 * 2 ^ d := by
    intro d
    induction d with
    | zero =>
      intro t s h0
      have := size_d0 (σ := σ) (b := 127) (t := t) (by omega) (fun n hn => h.sz n (s n hn)) (by omega)
      omega
    | succ d ih =>
      intro t s h1
      rw [Nat.pow_succ]
      have hp : 1 ≤ 2 ^ d := Nat.one_le_two_pow
      cases t with
      | fn x y =>
        simp only [depth] at h1
        have := ih x (fun n hn => s n (by simp [occ, hn])) (by omega)
        have := ih y (fun n hn => s n (by simp [occ, hn])) (by omega)
        simp only [sub, size]
        omega
      | var n => have := h.sz n (s n (by simp [occ])); simp only [sub]; omega
      | int => simp only [sub, size]; omega
      | bool => simp only [sub, size]; omega
      | dat w => simp only [sub, size]; omega
  have := key 3 t ht.1 ht.2
  have h8 : 128 * 2 ^ 3 = 1024 := by decide
  omega

/-- Each with itself: nothing becomes known. -/
theorem both_self : ∀ (k : Nat) (a : Tm) (l : Int), size a ≤ k → (size a : Int) ≤ l → l ≤ 20000 → (∀ n, occ n a = true → n < 4) → M.impl_unifier_both (a.ty, a.ty, l, false, Tb.tys []) = some (l - size a, false, Tb.tys [])
  | 0, a, l, hk, _, _, _ => by have := size_pos a; omega
  | k + 1, a, l, hk, h1, h2, hs => by
    have hl0 : ([] : Tb).length ≤ 500 := by simp
    have hp := size_pos a
    cases a with
    | var n =>
      have := hs n (by simp [occ])
      rw [both_same hl0 (by omega) h2 (n := n) (by omega) (wk_nil _) (wk_nil _)]
      simp [size]
    | fn x y =>
      simp only [size] at hk h1 ⊢
      rw [both_fn hl0 (by omega) h2 (wk_nil _) (wk_nil _), both_self k x (l - 1) (by omega) (by omega) (by omega) (fun n hn => hs n (by simp [occ, hn]))]
      simp only [Option.bind_some]
      rw [both_self k y _ (by omega) (by omega) (by omega) (fun n hn => hs n (by simp [occ, hn]))]
      simp only [Option.bind_some, Option.some.injEq, Prod.mk.injEq, and_true]
      omega
    | int => rw [both_leaf hl0 (by omega) h2 (by rw [wk_nil]; rfl) (fun m => by rw [wk_nil]; simp) (fun m => by rw [wk_nil]; simp)]; simp [size]
    | bool => rw [both_leaf hl0 (by omega) h2 (by rw [wk_nil]; rfl) (fun m => by rw [wk_nil]; simp) (fun m => by rw [wk_nil]; simp)]; simp [size]
    | dat w => rw [both_leaf hl0 (by omega) h2 (by rw [wk_nil]; rfl) (fun m => by rw [wk_nil]; simp) (fun m => by rw [wk_nil]; simp)]; simp [size]

theorem size_Dr {t : Tm} (ht : Dr t) : size t ≤ 15 := by
  have := size_depth t
  have h4 : 2 ^ (depth t + 1) ≤ 2 ^ 4 := Nat.pow_le_pow_right (by omega) (by have := ht.2; omega)
  have h16 : 2 ^ 4 = 16 := by decide
  omega

theorem unify_self {a : Tm} (ha : Dr a) : M.impl_Unify ([], a.ty, a.ty) = some (true, []) := by
  rw [M.e_impl_Unify]
  simp only [cloneTable_nil, Option.bind_some]
  have hs := size_Dr ha
  rw [show ([] : List Ty) = Tb.tys [] from rfl, both_self _ a 20000 (Nat.le_refl _) (by omega) (by omega) ha.1]
  rfl

theorem lawUnified {x : List Int} (hx : x.length ≤ lim) : M.laws_FnUnified x = some true := by
  rw [M.e_laws_FnUnified, M.e_laws_big]
  simp only [Option.bind_some]
  by_cases hb : 1048576 < (x.length : Int)
  · simp only [hb, decide_true, cond_true]
  simp only [hb, decide_false, cond_false]
  obtain ⟨a, b, ha, hbb, e⟩ := dTys (x := x) (by omega)
  simp only [e, Option.bind_some, unify_self ha]
  rcases unify_s ha hbb with ⟨tb, σ, r, u1, g1⟩ | ⟨u1, g1⟩
  · rcases unify_s hbb ha with ⟨tb', τ, r', u2, g2⟩ | ⟨u2, g2⟩
    · have hab : sub σ a = sub σ b := (g1.sat σ).1 g1.good.sat
      have hba : sub τ b = sub τ a := (g2.sat τ).1 g2.good.sat
      have i1 := g1.good.idem a
      have z1 := uni_size g1 ha
      have z2 := uni_size g1 hbb
      have z3 := uni_size g2 ha
      have z4 := uni_size g2 hbb
      have k1 := Known_s g1.good g1.len (t := a) (by omega)
      have k2 := Known_s g1.good g1.len (t := b) (by omega)
      have k3 := Known_s g1.good g1.len (t := sub σ a) (by rw [i1]; omega)
      have k4 := Known_s g2.good g2.len (t := a) (by omega)
      have k5 := Known_s g2.good g2.len (t := b) (by omega)
      have v1 := VarsOf_s (t := sub σ a) (by omega)
      have v2 := VarsOf_s (t := sub τ a) (by omega)
      have s1 : sub σ (sub τ a) = sub σ a := g2.good.sat_all ((g2.sat σ).2 hab.symm) a
      have s2 : sub τ (sub σ a) = sub τ a := g1.good.sat_all ((g1.sat τ).2 hba.symm) a
      have c1 := count_le s1 s2
      have c2 := count_le s2 s1
      simp only [u1, u2, Option.bind_some, k1, k2, k3, k4, k5, same_ty, v1, v2, i1, hab.symm, hba]
      simp
      omega
    · exact absurd ((g1.sat σ).1 g1.good.sat).symm (g2 σ)
  · rcases unify_s hbb ha with ⟨tb', τ, r', u2, g2⟩ | ⟨u2, g2⟩
    · exact absurd ((g2.sat τ).1 g2.good.sat).symm (g1 τ)
    · have hne : ¬ a = b := fun e => g1 Tm.var (by rw [e])
      simp [u1, u2, same_ty, hne]

end Q
end W
end
section
/- FnUnified: what the machine's function answers. -/
namespace W
namespace Q
open Go HL HL.X
set_option maxRecDepth 100000

theorem ext_none : ∀ s ∈ tab, s.ext = none := by
  have h : (tab.all fun s => s.ext.isNone) = true := by kernel_rfl
  intro s hs
  have := List.all_eq_true.1 h s hs
  simpa using this

theorem law_FnUnified (x : List Int) (hx : x.length ≤ lim) (_ : ∀ i ∈ x, (Lit.int .u8 i).wf = true) : HCp P s_laws_FnUnified.fid [HV.sl (x.map (HV.int .u8))] (HV.bool true) :=
  law_of (tab := tab) S_ok (fun s hs f h => by rw [ext_none s hs] at h; cases h) (s := s_laws_FnUnified) (by simp [tab]) (lawUnified hx) rfl rfl rfl

end Q
end W
end
