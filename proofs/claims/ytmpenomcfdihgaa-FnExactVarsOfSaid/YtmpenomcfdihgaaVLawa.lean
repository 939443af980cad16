/- VarsOf: which numbers stand in a type; the reference and the program find the same. -/
import Derived.Test.YtmpenomcfdihgaaVE
import Derived.Test.YtmpenomcfdihgaaHLP
import Derived.Test.YtmpenomcfdihgaaHLY
import Derived.Deep.RegionHeld3
set_option linter.unusedSimpArgs false
set_option linter.unusedVariables false
set_option linter.unusedSectionVars false
section
namespace W
open Go HL HL.X
set_option linter.unusedVariables false
set_option maxRecDepth 100000
set_option maxHeartbeats 4000000
namespace Q
theorem cnd_not {α : Type} (b : Bool) (x y : α) : (bif (!b) then x else y) = bif b then y else x := by cases b <;> rfl
theorem cnd_dec {α : Type} (p : Prop) [Decidable p] (x y : α) : (bif decide p then x else y) = if p then x else y := by by_cases h : p <;> simp [h]
def i64 (n : Int) : Prop := -9223372036854775808 ≤ n ∧ n ≤ 9223372036854775807
def strOk (l : List ByteArray) : Prop := l.length ≤ lim ∧ ∀ s ∈ l, s.size ≤ lim
end Q
mutual
def Ty.cost : Ty → Nat
  | ⟨K_, S_, N_, L_⟩ => S_.size + (L_.length + Ty.costL L_)
def Ty.costL : List Ty → Nat
  | [] => 0
  | x :: l => x.cost + Ty.costL l
end
mutual
def Ty.small : Ty → Prop
  | ⟨K_, S_, N_, L_⟩ => S_.size ≤ lim ∧ L_.length ≤ lim ∧ Ty.smallL L_
def Ty.smallL : List Ty → Prop
  | [] => True
  | x :: l => x.small ∧ Ty.smallL l
end
theorem Ty.smallL_iff : ∀ {l : List Ty}, Ty.smallL l ↔ ∀ x ∈ l, x.small
  | [] => by simp [Ty.smallL]
  | x :: l => by simp [Ty.smallL, Ty.smallL_iff (l := l)]
theorem Ty.costL_eq : ∀ (l : List Ty), Ty.costL l = sumC Ty.cost l
  | [] => rfl
  | x :: l => by simp [Ty.costL, sumC, Ty.costL_eq l]
theorem Ty.cost_eq (t : Ty) : t.cost = t.S.size + (t.L.length + sumC Ty.cost t.L) := by
  cases t; simp only [Ty.cost, Ty.costL_eq] <;> rfl
theorem Ty.small_eq (t : Ty) : t.small ↔ t.S.size ≤ lim ∧ t.L.length ≤ lim ∧ (∀ x ∈ t.L, x.small) := by
  cases t; simp only [Ty.small, Ty.smallL_iff] <;> rfl
theorem Ty.ext' {a b : Ty} (h0 : a.K = b.K) (h1 : a.S = b.S) (h2 : a.N = b.N) (h3 : a.L = b.L) : a = b := by
  cases a; cases b; simp_all
mutual
theorem Ty.ind {M0 : Ty → Prop} (h0 : ∀ t : Ty, (∀ x ∈ t.L, M0 x) → M0 t) : ∀ t : Ty, M0 t
  | ⟨K_, S_, N_, L_⟩ => h0 _ (Ty.indL h0 L_)
theorem Ty.indL {M0 : Ty → Prop} (h0 : ∀ t : Ty, (∀ x ∈ t.L, M0 x) → M0 t) : ∀ l : List Ty, ∀ x ∈ l, M0 x
  | [] => fun x hx => by cases hx
  | y :: l => fun x hx => (List.mem_cons.1 hx).elim (fun e => e ▸ Ty.ind h0 y) (fun h => Ty.indL h0 l x h)
end
namespace Q
theorem szTyS_of (l : List Ty) (hl : l.length ≤ lim) (IH : ∀ x ∈ l, ∀ left : Int, 0 ≤ left → left ≤ 1048576 → M.laws_szTy (x, left) = some (rest x.cost left)) (left : Int) (h0 : 0 ≤ left) (h1 : left ≤ 1048576) : M.laws_szTyS (l, left) = some (rest (l.length + sumC Ty.cost l) left) := by
  have hlim : lim = 140737488355328 := rfl
  rw [M.e_laws_szTyS]; try simp only [cnd_not, cnd_dec, Option.bind_some]
  rw [wrap_ok (by omega)]
  by_cases hk : left - ((l.length : Nat) : Int) < 0
  · rw [if_pos hk, rest_neg (by omega)]
  rw [if_neg hk]
  have hloop : M.laws_szTyS_L0 (l, left - ((l.length : Nat) : Int), 0) = _ := szLoop Ty.cost hl (L := fun b i => M.laws_szTyS_L0 (l, b, i)) (fun b i x hx hix hb0 hb1 hi hw => by
    show M.laws_szTyS_L0 (l, b, i) = _
    rw [M.e_laws_szTyS_L0]; try simp only [cnd_not, cnd_dec, Option.bind_some]
    rw [if_pos hi, hix, Option.bind_some, IH x (List.mem_of_getElem? hx) b hb0 hb1, Option.bind_some, hw]) (fun b => by
    show M.laws_szTyS_L0 (l, b, _) = _
    rw [M.e_laws_szTyS_L0]; try simp only [cnd_not, cnd_dec, Option.bind_some]
    rw [if_neg (by omega)]) (by omega) (by omega)
  rw [hloop, Option.bind_some]
  by_cases hr : ((sumC Ty.cost l : Nat) : Int) ≤ left - ((l.length : Nat) : Int)
  · rw [rest_pos hr, if_neg (by omega), rest_pos (by omega)]; show some _ = some _; congr 1; omega
  · rw [rest_neg hr, if_pos (by omega), rest_neg (by omega)]; rfl
theorem toTyS_of (l : List Ty) (h : l.length ≤ 1048576) (IH : ∀ x ∈ l, M.laws_toTy x = some x) : M.laws_toTyS l = some l := by
  have hlim : lim = 140737488355328 := rfl
  rw [M.e_laws_toTyS, gd_t (by omega), Option.bind_some, gd_t (by omega), Option.bind_some]
  have hloop : ∀ z, M.laws_toTyS_L0 (l, 0, List.replicate l.length z) = some l := fun z => setLoop (by omega) (by simp) (L := fun i o => M.laws_toTyS_L0 (l, i, o)) (fun i x o hx hix ho hi hw => by
    show M.laws_toTyS_L0 (l, i, o) = _
    rw [M.e_laws_toTyS_L0]; try simp only [cnd_not, cnd_dec, Option.bind_some]
    rw [if_pos hi, hix, Option.bind_some, IH x (List.mem_of_getElem? hx), Option.bind_some, gd_t (by omega), Option.bind_some, gd_t (by omega), Option.bind_some, hw]
    rfl) (fun o => by
    show M.laws_toTyS_L0 (l, _, o) = _
    rw [M.e_laws_toTyS_L0]; try simp only [cnd_not, cnd_dec, Option.bind_some]
    rw [if_neg (by omega)])
  simp only [Int.toNat_natCast]; rw [hloop]; rfl
open Classical in
theorem eqTyS_of (l l' : List Ty) (hl : l.length ≤ lim) (IH : ∀ x ∈ l, ∀ y, M.laws_eqTy (x, y) = some (decide (x = y))) : M.laws_eqTyS (l, l') = some (decide (l = l')) := by
  have hlim : lim = 140737488355328 := rfl
  rw [M.e_laws_eqTyS]; try simp only [cnd_not, cnd_dec, Option.bind_some]
  by_cases hlen : l.length = l'.length
  rotate_left
  · rw [if_neg (by omega)]
    rw [decide_eq_false (fun e => hlen (by rw [e]))]
  rw [if_pos (by omega)]
  have hloop : M.laws_eqTyS_L0 (l, l', 0) = _ := eqLoop hl hlen (L := fun i => M.laws_eqTyS_L0 (l, l', i)) (fun i x y hx hy hix hiy hi hw => by
    show M.laws_eqTyS_L0 (l, l', i) = _
    rw [M.e_laws_eqTyS_L0]; try simp only [cnd_not, cnd_dec, Option.bind_some]
    rw [if_pos hi, hix, Option.bind_some, hiy, Option.bind_some, hw]
    rw [IH x (List.mem_of_getElem? hx) y, Option.bind_some]
    by_cases e : x = y
    · rw [decide_eq_true e, if_pos e]; rfl
    · rw [decide_eq_false e, if_neg e]; rfl) (by
    show M.laws_eqTyS_L0 (l, l', _) = _
    rw [M.e_laws_eqTyS_L0]; try simp only [cnd_not, cnd_dec, Option.bind_some]
    rw [if_neg (by omega)])
  rw [hloop, Option.bind_some]
  by_cases e : l = l'
  · rw [if_pos e, decide_eq_true e]; rfl
  · rw [if_neg e, decide_eq_false e]; rfl
theorem szTy_all : (∀ t : Ty, t.small → ∀ left : Int, 0 ≤ left → left ≤ 1048576 → M.laws_szTy (t, left) = some (rest t.cost left)) := by
  have h0 : ∀ t : Ty, (∀ x ∈ t.L, (x.small → ∀ left : Int, 0 ≤ left → left ≤ 1048576 → M.laws_szTy (x, left) = some (rest x.cost left))) → (t.small → ∀ left : Int, 0 ≤ left → left ≤ 1048576 → M.laws_szTy (t, left) = some (rest t.cost left)) := by
    intro t ih0
    intro hs left h0 h1
    have hlim : lim = 140737488355328 := rfl
    obtain ⟨hq_S, hl_L, hm_L⟩ := (Ty.small_eq t).1 hs
    have hcost := Ty.cost_eq t
    rw [M.e_laws_szTy]; try simp only [cnd_not, cnd_dec, Option.bind_some]
    rw [wrap_ok (by omega)]
    by_cases hk_S : left - ((t.S.size : Nat) : Int) < 0
    · rw [if_pos hk_S, rest_neg (by omega)]
    rw [if_neg hk_S]
    rw [szTyS_of _ hl_L (fun x hx => ih0 x hx (hm_L x hx)) _ (by omega) (by omega), Option.bind_some]
    by_cases hk_L : ((t.L.length + sumC Ty.cost t.L : Nat) : Int) ≤ left - ((t.S.size : Nat) : Int)
    rotate_left
    · rw [rest_neg hk_L, if_pos (by omega), rest_neg (by omega)]
    rw [rest_pos hk_L, if_neg (by omega)]
    rw [rest_pos (by omega)]; try congr 1; try omega
  exact fun t => Ty.ind h0 t
theorem szTy : ∀ t : Ty, t.small → ∀ left : Int, 0 ≤ left → left ≤ 1048576 → M.laws_szTy (t, left) = some (rest t.cost left) := szTy_all
theorem toTy_all : (∀ t : Ty, t.cost ≤ 1048576 → M.laws_toTy t = some t) := by
  have h0 : ∀ t : Ty, (∀ x ∈ t.L, (x.cost ≤ 1048576 → M.laws_toTy x = some x)) → (t.cost ≤ 1048576 → M.laws_toTy t = some t) := by
    intro t ih0
    intro hc
    have hlim : lim = 140737488355328 := rfl
    have hcost := Ty.cost_eq t
    rw [M.e_laws_toTy]; try simp only [cnd_not, cnd_dec, Option.bind_some]
    have hm_L : ∀ x ∈ t.L, x.cost ≤ 1048576 := fun x hx => by have := sumC_mem (c := Ty.cost) hx; omega
    rw [toTyS_of _ (by omega) (fun x hx => ih0 x hx (hm_L x hx)), Option.bind_some]
    all_goals first | rfl | (cases t; rfl) | (simp only []; try (cases t; rfl))
  exact fun t => Ty.ind h0 t
theorem toTy : ∀ t : Ty, t.cost ≤ 1048576 → M.laws_toTy t = some t := toTy_all
open Classical in
theorem eqTy_all : (∀ t : Ty, t.small → ∀ u : Ty, M.laws_eqTy (t, u) = some (decide (t = u))) := by
  have h0 : ∀ t : Ty, (∀ x ∈ t.L, (x.small → ∀ u : Ty, M.laws_eqTy (x, u) = some (decide (x = u)))) → (t.small → ∀ u : Ty, M.laws_eqTy (t, u) = some (decide (t = u))) := by
    intro t ih0
    intro hs u
    have hlim : lim = 140737488355328 := rfl
    obtain ⟨hq_S, hl_L, hm_L⟩ := (Ty.small_eq t).1 hs
    rw [M.e_laws_eqTy]; try simp only [cnd_not, cnd_dec, Option.bind_some]
    by_cases hk_K : t.K = u.K
    rotate_left
    · rw [if_neg hk_K, decide_eq_false (fun e => hk_K (by rw [e]))]
    rw [if_pos hk_K]
    by_cases hk_S : t.S = u.S
    rotate_left
    · rw [if_neg hk_S, decide_eq_false (fun e => hk_S (by rw [e]))]
    rw [if_pos hk_S]
    by_cases hk_N : t.N = u.N
    rotate_left
    · rw [if_neg hk_N, decide_eq_false (fun e => hk_N (by rw [e]))]
    rw [if_pos hk_N]
    rw [eqTyS_of _ _ hl_L (fun x hx => ih0 x hx (hm_L x hx)), Option.bind_some]
    by_cases hk_L : t.L = u.L
    rotate_left
    · rw [decide_eq_false hk_L, decide_eq_false (fun e => hk_L (by rw [e]))]; rfl
    rw [decide_eq_true hk_L, cond_true]
    rw [decide_eq_true (Ty.ext' hk_K hk_S hk_N hk_L)]
  exact fun t => Ty.ind h0 t
open Classical in
theorem eqTy : ∀ t : Ty, t.small → ∀ u : Ty, M.laws_eqTy (t, u) = some (decide (t = u)) := eqTy_all
end Q
end W
end
section
namespace W
set_option linter.unusedVariables false
set_option maxRecDepth 100000
set_option maxHeartbeats 1000000
namespace Q
open Go HL HL.X

mutual
def vars (out : List Int) : Ty → List Int
  | .mk k s n l => varsL (if k = 5 ∧ n ∉ out then out ++ [n] else out) l
def varsL (out : List Int) : List Ty → List Int
  | [] => out
  | x :: l => varsL (vars out x) l
end
theorem vars_eq (out : List Int) (t : Ty) : vars out t = varsL (if t.K = 5 ∧ t.N ∉ out then out ++ [t.N] else out) t.L := by cases t; rfl
mutual
theorem vars_len (out : List Int) : ∀ t : Ty, (vars out t).length ≤ out.length + 1 + t.cost
  | .mk k s n l => by
    rw [vars]
    have := varsL_len (if k = 5 ∧ n ∉ out then out ++ [n] else out) l
    have h2 : (if k = 5 ∧ n ∉ out then out ++ [n] else out).length ≤ out.length + 1 := by split <;> simp
    have h3 : (Ty.mk k s n l).cost = s.size + (l.length + sumC Ty.cost l) := Ty.cost_eq _
    rw [h3]
    omega
theorem varsL_len (out : List Int) : ∀ l : List Ty, (varsL out l).length ≤ out.length + (l.length + sumC Ty.cost l)
  | [] => by simp [varsL]
  | x :: l => by
    rw [varsL]
    have := varsL_len (vars out x) l
    have := vars_len out x
    simp only [sumC, List.length_cons]
    omega
end

/-- A loop that goes over a list with something in hand. -/
theorem foldL {α β : Type} {l : List α} (hl : l.length ≤ lim) {L : β → Int → Option β} (f : β → List α → β) (I : β → List α → Prop) (hf0 : ∀ b, f b [] = b)
    (hL : ∀ (b : β) (i : Nat) (x : α) (r : List α), l.drop i = x :: r → I b (x :: r) → x ∈ l → ix l (i : Int) = some x → (i : Int) < (l.length : Int) → IntKind.i64.wrap ((i : Int) + 1) = ((i + 1 : Nat) : Int) →
      ∃ b', L b i = L b' ((i + 1 : Nat) : Int) ∧ I b' r ∧ f b (x :: r) = f b' r) (hend : ∀ b, L b (l.length : Nat) = some b) (b : β) (h0 : I b l) : L b 0 = some (f b l) := by
  have key : ∀ (k i : Nat) (b : β), i + k = l.length → I b (l.drop i) → L b i = some (f b (l.drop i)) := by
    intro k
    induction k with
    | zero =>
      intro i b h hI
      have : i = l.length := by omega
      subst this
      rw [hend, List.drop_length, hf0]
    | succ k ih =>
      intro i b h hI
      have hlt : i < l.length := by omega
      have hx := List.getElem?_eq_getElem hlt
      have hd : l.drop i = l[i] :: l.drop (i + 1) := List.drop_eq_getElem_cons hlt
      rw [hd] at hI ⊢
      obtain ⟨b', e1, e2, e3⟩ := hL b i l[i] _ hd hI (List.getElem_mem hlt) (ix_of hx) (by omega) (wrap_succ hlt hl)
      rw [e1, e3]
      exact ih (i + 1) b' (by omega) e2
  exact key l.length 0 b (by omega) h0

theorem sp_hasI {l : List Int} (hl : l.length ≤ lim) (n : Int) : M.spec_l9Has (l, n) = some (decide (n ∈ l)) := by
  have key : ∀ (k i : Nat), i + k = l.length → M.spec_l9Has_L0 (l, n, (i : Int)) = some (if n ∈ l.drop i then .inl true else .inr ()) := by
    intro k
    induction k with
    | zero =>
      intro i h
      rw [M.e_spec_l9Has_L0]; simp only [cnd_dec]
      rw [if_neg (by omega), List.drop_eq_nil_of_le (by omega)]
      simp
    | succ k ih =>
      intro i h
      have hlt : i < l.length := by omega
      rw [M.e_spec_l9Has_L0]; simp only [cnd_dec]
      rw [if_pos (by omega), ix_of (List.getElem?_eq_getElem hlt), Option.bind_some, wrap_succ hlt hl, ih (i + 1) (by omega), List.drop_eq_getElem_cons hlt]
      by_cases e : l[i] = n
      · rw [if_pos e, if_pos (by simp [e])]
      · rw [if_neg e]
        have : ¬ n = l[i] := fun h => e h.symm
        simp only [List.mem_cons, this, false_or]
  rw [M.e_spec_l9Has]
  have := key l.length 0 (by omega)
  simp only [List.drop_zero] at this
  show (M.spec_l9Has_L0 (l, n, ((0 : Nat) : Int))).bind _ = _
  rw [this, Option.bind_some]
  by_cases h : n ∈ l <;> simp [h]

theorem im_index {l : List Int} (hl : l.length ≤ lim) (n : Int) : ∃ i : Int, M.slices_Index_int (n, l) = some i ∧ (0 ≤ i ↔ n ∈ l) := by
  have key : ∀ (k i : Nat), i + k = l.length → ∃ r, M.slices_Index_int_L0 (n, (l.length : Int), (i : Int), l) = some r ∧ ((∃ j : Int, 0 ≤ j ∧ r = .inl j ∧ n ∈ l.drop i) ∨ (r = .inr () ∧ n ∉ l.drop i)) := by
    intro k
    induction k with
    | zero =>
      intro i h
      refine ⟨.inr (), ?_, .inr ⟨rfl, by rw [List.drop_eq_nil_of_le (by omega)]; simp⟩⟩
      rw [M.e_slices_Index_int_L0]; simp only [cnd_dec]
      rw [if_neg (by omega)]
    | succ k ih =>
      intro i h
      have hlt : i < l.length := by omega
      rw [M.e_slices_Index_int_L0]; simp only [cnd_dec]
      rw [if_pos (by omega), gd_t (by omega), Option.bind_some, gd_t (by omega), Option.bind_some, Int.toNat_natCast, List.getElem?_eq_getElem hlt, Option.bind_some, wrap_succ hlt hl, List.drop_eq_getElem_cons hlt]
      by_cases e : n = l[i]
      · rw [if_pos e]
        exact ⟨_, rfl, .inl ⟨_, by omega, rfl, by rw [e]; exact List.mem_cons_self⟩⟩
      · rw [if_neg e]
        obtain ⟨r, e1, e2⟩ := ih (i + 1) (by omega)
        refine ⟨r, e1, ?_⟩
        rcases e2 with ⟨j, a, b, c⟩ | ⟨a, b⟩
        · exact .inl ⟨j, a, b, List.mem_cons_of_mem _ c⟩
        · exact .inr ⟨a, by rw [List.mem_cons]; exact fun h => h.elim e b⟩
  obtain ⟨r, e1, e2⟩ := key l.length 0 (by omega)
  rw [M.e_slices_Index_int]
  simp only [List.drop_zero] at e2
  show ∃ i, (M.slices_Index_int_L0 (n, (l.length : Int), ((0 : Nat) : Int), l)).bind _ = _ ∧ _
  rw [e1, Option.bind_some]
  rcases e2 with ⟨j, a, b, c⟩ | ⟨a, b⟩
  · subst b; exact ⟨j, rfl, by simp [a, c]⟩
  · subst a; exact ⟨-1, rfl, by simp [b]⟩
theorem im_hasI {l : List Int} (hl : l.length ≤ lim) (n : Int) : M.slices_Contains_int (n, l) = some (decide (n ∈ l)) := by
  obtain ⟨i, e1, e2⟩ := im_index hl n
  rw [M.e_slices_Contains_int]
  show (M.slices_Index_int (n, l)).bind _ = _
  rw [e1, Option.bind_some]
  by_cases h : n ∈ l
  · simp [h, e2.2 h]
  · have : ¬ 0 ≤ i := fun q => h (e2.1 q)
    simp [h, this]

theorem sp_vars : ∀ t : Ty, t.small → ∀ out : List Int, out.length + 1 + t.cost ≤ grow → M.spec_l9Vars (out, t) = some (vars out t) := by
  refine Ty.ind fun t IH hs out hc => ?_
  have hlim : lim = 140737488355328 := rfl
  have hgr : grow = 549755813888 := rfl
  obtain ⟨h1, h2, h3⟩ := Ty.small_eq t |>.1 hs
  have hco := Ty.cost_eq t
  have loop : ∀ out : List Int, out.length + (t.L.length + sumC Ty.cost t.L) ≤ grow → M.spec_l9Vars_L0 (out, 0, t) = some (varsL out t.L) := by
    intro out ho
    refine foldL h2 (L := fun b i => M.spec_l9Vars_L0 (b, i, t)) varsL (fun b r => b.length + (r.length + sumC Ty.cost r) ≤ grow) (fun b => by simp [varsL]) (fun b i x r hd hI hx hix hi hw => ?_) (fun b => ?_) out ho
    · simp only [sumC, List.length_cons] at hI
      refine ⟨vars b x, ?_, ?_, by simp [varsL]⟩
      · show M.spec_l9Vars_L0 (b, i, t) = _
        rw [M.e_spec_l9Vars_L0]; simp only [cnd_dec]
        rw [if_pos hi, hix, Option.bind_some, IH x hx (h3 x hx) b (by omega), Option.bind_some, hw]
      · have := vars_len b x
        omega
    · show M.spec_l9Vars_L0 (b, _, t) = _
      rw [M.e_spec_l9Vars_L0]; simp only [cnd_dec]
      rw [if_neg (by omega)]
  rw [M.e_spec_l9Vars, vars_eq]
  simp only [cnd_dec]
  by_cases hk : t.K = 5
  · rw [if_pos hk, sp_hasI (by omega), Option.bind_some, Option.bind_some]
    by_cases hn : t.N ∈ out
    · rw [if_neg (by simp [hn])]
      simp only [hn, decide_true, Bool.not_true, cond_false, Option.bind_some]
      rw [loop out (by omega)]; rfl
    · rw [if_pos ⟨hk, hn⟩]
      simp only [hn, decide_false, Bool.not_false, cond_true, meet_self]
      rw [gd_t (by omega), Option.bind_some, gd_t (by simp; omega), Option.bind_some, Option.bind_some]
      show (M.spec_l9Vars_L0 (out ++ [t.N], 0, t)).bind _ = _
      rw [loop _ (by simp; omega)]; rfl
  · rw [if_neg hk, if_neg (fun h => hk h.1), Option.bind_some]
    show (M.spec_l9Vars_L0 (out, 0, t)).bind _ = _
    rw [loop out (by omega)]; rfl

theorem im_vars : ∀ t : Ty, t.small → ∀ out : List Int, out.length + 1 + t.cost ≤ grow → M.impl_varsIn (t, out) = some (vars out t) := by
  refine Ty.ind fun t IH hs out hc => ?_
  have hlim : lim = 140737488355328 := rfl
  have hgr : grow = 549755813888 := rfl
  obtain ⟨h1, h2, h3⟩ := Ty.small_eq t |>.1 hs
  have hco := Ty.cost_eq t
  have loop : ∀ out : List Int, out.length + (t.L.length + sumC Ty.cost t.L) ≤ grow → M.impl_varsIn_L0 (t.L, (t.L.length : Int), 0, out) = some (varsL out t.L) := by
    intro out ho
    refine foldL h2 (L := fun b i => M.impl_varsIn_L0 (t.L, (t.L.length : Int), i, b)) varsL (fun b r => b.length + (r.length + sumC Ty.cost r) ≤ grow) (fun b => by simp [varsL]) (fun b i x r hd hI hx hix hi hw => ?_) (fun b => ?_) out ho
    · simp only [sumC, List.length_cons] at hI
      refine ⟨vars b x, ?_, ?_, by simp [varsL]⟩
      · show M.impl_varsIn_L0 (t.L, _, (i : Int), b) = _
        rw [M.e_impl_varsIn_L0]; simp only [cnd_dec]
        rw [if_pos hi, hix, Option.bind_some, IH x hx (h3 x hx) b (by omega), Option.bind_some, hw]
      · have := vars_len b x
        omega
    · show M.impl_varsIn_L0 (t.L, _, _, b) = _
      rw [M.e_impl_varsIn_L0]; simp only [cnd_dec]
      rw [if_neg (by omega)]
  rw [M.e_impl_varsIn, vars_eq]
  simp only [cnd_dec]
  by_cases hk : t.K = 5
  · rw [if_pos hk, im_hasI (by omega), Option.bind_some, Option.bind_some]
    by_cases hn : t.N ∈ out
    · rw [if_neg (by simp [hn])]
      simp only [hn, decide_true, Bool.not_true, cond_false, Option.bind_some]
      rw [loop out (by omega)]; rfl
    · rw [if_pos ⟨hk, hn⟩]
      simp only [hn, decide_false, Bool.not_false, cond_true]
      rw [gd_t (by simp; omega), Option.bind_some, Option.bind_some]
      show (M.impl_varsIn_L0 (t.L, (t.L.length : Int), 0, out ++ [t.N])).bind _ = _
      rw [loop _ (by simp; omega)]; rfl
  · rw [if_neg hk, if_neg (fun h => hk h.1), Option.bind_some]
    show (M.impl_varsIn_L0 (t.L, (t.L.length : Int), 0, out)).bind _ = _
    rw [loop out (by omega)]; rfl

theorem sp_VarsOf (t : Ty) (hs : t.small) (hc : t.cost ≤ 1048576) : M.spec_VarsOf t = some (vars [] t) := by
  rw [M.e_spec_VarsOf, sp_vars t hs [] (by have : grow = 549755813888 := rfl; simp; omega)]; rfl
theorem im_VarsOf (t : Ty) (hs : t.small) (hc : t.cost ≤ 1048576) : M.impl_VarsOf t = some (vars [] t) := by
  rw [M.e_impl_VarsOf, im_vars t hs [] (by have : grow = 549755813888 := rfl; simp; omega)]; rfl
theorem vars_small (t : Ty) (hc : t.cost ≤ 1048576) : (vars [] t).length ≤ 1048577 := by
  have := vars_len [] t
  simp at this
  omega

open Classical in
theorem eqI (l l' : List Int) (hl : l.length ≤ lim) : M.laws_eqIntS (l, l') = some (decide (l = l')) := by
  have hlim : lim = 140737488355328 := rfl
  rw [M.e_laws_eqIntS]; simp only [cnd_not, cnd_dec]
  by_cases hlen : l.length = l'.length
  rotate_left
  · rw [if_neg (by omega)]
    rw [decide_eq_false (fun e => hlen (by rw [e]))]
  rw [if_pos (by omega)]
  have hloop : M.laws_eqIntS_L0 (l, l', 0) = _ := eqLoop hl hlen (L := fun i => M.laws_eqIntS_L0 (l, l', i)) (fun i x y hx hy hix hiy hi hw => by
    show M.laws_eqIntS_L0 (l, l', i) = _
    rw [M.e_laws_eqIntS_L0]; simp only [cnd_not, cnd_dec]
    rw [if_pos hi, hix, Option.bind_some, hiy, Option.bind_some, hw]
    by_cases e : x = y
    · rw [if_pos e, if_pos e]
    · rw [if_neg e, if_neg e]) (by
    show M.laws_eqIntS_L0 (l, l', _) = _
    rw [M.e_laws_eqIntS_L0]; simp only [cnd_not, cnd_dec]
    rw [if_neg (by omega)])
  rw [hloop, Option.bind_some]
  by_cases e : l = l'
  · rw [if_pos e, decide_eq_true e]; rfl
  · rw [if_neg e, decide_eq_false e]; rfl

/-- k, k + 1 and so on. -/
def upFrom (k : Int) : Nat → List Int
  | 0 => []
  | n + 1 => k :: upFrom (k + 1) n
theorem upFrom_len : ∀ (n : Nat) (k : Int), (upFrom k n).length = n
  | 0, _ => rfl
  | n + 1, k => by rw [upFrom, List.length_cons, upFrom_len n]
theorem upFrom_get : ∀ (n : Nat) (k : Int) (i : Nat), i < n → (upFrom k n)[i]? = some (k + i)
  | 0, _, _, h => by omega
  | n + 1, k, 0, _ => by simp [upFrom]
  | n + 1, k, i + 1, h => by
    rw [upFrom, List.getElem?_cons_succ, upFrom_get n (k + 1) i (by omega)]
    congr 1
    omega
theorem heldI {n : Nat} (hn : n ≤ 1048577) : M.laws_heldIntS (upFrom 1 n, 1) = some ((n : Int) + 1) := by
  have hlim : lim = 140737488355328 := rfl
  have key : ∀ (k i : Nat), i + k = n → M.laws_heldIntS_L0 (upFrom 1 n, (i : Int) + 1, (i : Int)) = some (.inr ((n : Int) + 1)) := by
    intro k
    induction k with
    | zero =>
      intro i h
      rw [M.e_laws_heldIntS_L0]; simp only [cnd_dec]
      rw [if_neg (by rw [upFrom_len]; omega)]
      have : i = n := by omega
      rw [this]
    | succ k ih =>
      intro i h
      rw [M.e_laws_heldIntS_L0]; simp only [cnd_not, cnd_dec]
      rw [if_pos (by rw [upFrom_len]; omega), ix_of (upFrom_get n 1 i (by omega)), Option.bind_some, if_pos (by omega), wrap_ok (by omega), wrap_ok (by omega)]
      have := ih (i + 1) (by omega)
      simpa [Int.add_comm, Int.add_assoc, Int.add_left_comm] using this
  rw [M.e_laws_heldIntS]
  have := key n 0 (by omega)
  show (M.laws_heldIntS_L0 (upFrom 1 n, 1, 0)).bind _ = _
  simp only [Int.natCast_zero, Int.zero_add] at this
  rw [this]
  rfl
end Q
end W
end
section
/- VarsOf: a copy of a type lies in blocks of its own. -/
namespace W
set_option linter.unusedVariables false
set_option maxRecDepth 100000
set_option maxHeartbeats 4000000
namespace Q
open Go HL HL.X HL.Y Go.RowKit

theorem heap_alloc3 {w : World} {o1 o2 o3 : Obj} {k : Nat} (h : k < w.heap.size) : (((w.alloc o1).alloc o2).alloc o3).heap[k]? = w.heap[k]? := by
  rw [Below.heap_alloc _ _ _ (by simp; omega), Below.heap_alloc _ _ _ (by simp; omega), Below.heap_alloc _ _ _ h]
theorem _root_.W.Ty.enc_eq (t : Ty) : t.enc = .agg [.int .i64 t.K, .str t.S, .int .i64 t.N, .sl (t.L.map Ty.enc)] := by cases t; rw [Ty.enc]; rfl

theorem D_tys {B : Nat} {w : World} {us : List Value} {t : Ty} (h : D B w (.vals us t.enc.cells)) : ∃ vl, us = [.int .i64 t.K, .string t.S, .int .i64 t.N, vl] ∧ t.S.size ≤ lim ∧ D B w (.val vl (.sl (t.L.map Ty.enc))) := by
  rw [Ty.enc_eq] at h
  cases h with | vcons a0 h => cases h with | vcons a1 h => cases h with | vcons a2 h => cases h with | vcons a3 h => cases h with | vnil =>
  cases a0; cases a1; cases a2
  exact ⟨_, rfl, by assumption, a3⟩
theorem Ty.enc_flat (t : Ty) : ∀ c ∈ t.enc.cells, c.flat = true := by
  rw [Ty.enc_eq]
  simp [HV.cells, HV.flat]
theorem D_ty {B : Nat} {w : World} {v : Value} {t : Ty} (h : D B w (.val v t.enc)) : ∃ vl, v = .agg #[.int .i64 t.K, .string t.S, .int .i64 t.N, vl] ∧ t.S.size ≤ lim ∧ D B w (.val vl (.sl (t.L.map Ty.enc))) := by
  have e : t.enc = .agg t.enc.cells := by rw [Ty.enc_eq]; rfl
  rw [e] at h
  cases h with
  | agg hf h =>
    obtain ⟨vl, rfl, h1, h2⟩ := D_tys h
    exact ⟨vl, rfl, h1, h2⟩
theorem D_agg {B : Nat} {w : World} {vl : Value} {t : Ty} (hs : t.S.size ≤ lim) (h : D B w (.val vl (.sl (t.L.map Ty.enc)))) : D B w (.val (.agg #[.int .i64 t.K, .string t.S, .int .i64 t.N, vl]) t.enc) := by
  rw [Ty.enc_eq]
  exact .agg (vs := [_, _, _, _]) (by simp [HV.flat]) (.vcons .int (.vcons (.str hs) (.vcons .int (.vcons h .vnil))))
theorem TJ_tysN {w : World} {lo hi : Nat} {us : List Value} {t : Ty} (h : TJ w lo hi us t.enc.cells) : ∃ b, us = [.int .i64 t.K, .string t.S, .int .i64 t.N, .slice (some ⟨b, 0, none⟩) t.L.length t.L.length] ∧ lo ≤ b ∧ b < hi ∧ TJ w lo hi [.slice (some ⟨b, 0, none⟩) t.L.length t.L.length] [.sl (t.L.map Ty.enc)] := by
  rw [Ty.enc_eq] at h
  cases h with | int h => cases h with | str _ h => cases h with | int h =>
  have h0 := h
  cases h with
  | sl hb hn hl hu hf hc hk h1 h2 =>
    cases h2 with
    | nil h3 =>
      have := h1.le
      subst hn
      rw [List.length_map] at h0
      exact ⟨_, by simp, hb, by omega, h0⟩
theorem TJ_tys {w : World} {lo hi : Nat} {us : List Value} {t : Ty} (h : TJ w lo hi us t.enc.cells) : ∃ b, us = [.int .i64 t.K, .string t.S, .int .i64 t.N, .slice (some ⟨b, 0, none⟩) t.L.length t.L.length] ∧ lo ≤ b ∧ b < hi := by
  obtain ⟨b, h1, h2, h3, _⟩ := TJ_tysN h
  exact ⟨b, h1, h2, h3⟩

theorem toTy_own {B : Nat} {t : Ty} {w : World} {v : Value} (hB : B ≤ w.heap.size) (h : D B w (.val v t.enc))
    (ih : ∀ (w1 : World) (v1 : Value), B ≤ w1.heap.size → D B w1 (.val v1 (.sl (t.L.map Ty.enc))) → Calls Go.Proofs.Try.prog 15 #[v1] w1 fun e w' => ∃ v', e = .returned v' ∧ TJ w' w1.heap.size w'.heap.size [v'] [.sl (t.L.map Ty.enc)] ∧ Below w1.heap.size w1 w') :
    Calls Go.Proofs.Try.prog 6 #[v] w fun e w' => ∃ us : List Value, e = .returned (.agg us.toArray) ∧ TJ w' w.heap.size w'.heap.size us t.enc.cells ∧ Below w.heap.size w w' := by
  obtain ⟨vl, rfl, hs, hl⟩ := D_ty h
  go_enter Go.Proofs.Try.func6, Go.Proofs.Try.ntmps6
  go_wp2_with fail
  refine (ih _ vl (by simp; omega) (hl.mono fun k hk => heap_alloc3 hk)).mono ?_
  rintro e w2 ⟨v', rfl, ht, hb⟩
  simp only [World.size_alloc] at ht hb
  obtain ⟨b, rfl, hb1, hb2⟩ := ht.one
  have c0 : w2.heap[w.heap.size + 1]? = some (.cells #[.int .i64 0, .string ⟨#[]⟩, .int .i64 0, .slice none 0 0] 30 (0, 0)) := by
    rw [hb.block _ (by omega), Below.heap_alloc _ _ _ (by simp)]; exact alloc_at (by simp)
  have c1 : w2.heap[w.heap.size + 1 + 1]? = some (.cells #[.int .i64 t.K, .string t.S, .int .i64 t.N, .slice none 0 0] 30 (0, 0)) := by
    rw [hb.block _ (by omega)]; exact alloc_at (by simp)
  have k0 := cell_at (i := 0) c0 rfl
  have k1 := cell_at (i := 1) c0 rfl
  have k2 := cell_at (i := 2) c0 rfl
  have k3 := cell_at (i := 3) c0 rfl
  have m0 := cell_at (i := 0) c1 rfl
  have m1 := cell_at (i := 1) c1 rfl
  have m2 := cell_at (i := 2) c1 rfl
  have m3 := cell_at (i := 3) c1 rfl
  have f0 := free_at (i := 0) c0
  have f1 := free_at (i := 1) c0
  have f2 := free_at (i := 2) c0
  have f3 := free_at (i := 3) c0
  have g3 := free_at (i := 3) c1
  have hsz := hb.size
  simp only [World.size_alloc] at hsz
  clear c0 c1 h
  go_wp2_with fail

  refine bodyPost_ret (v := .agg #[.int .i64 t.K, .string t.S, .int .i64 t.N, .slice (some ⟨b, 0, none⟩) (t.L.map Ty.enc).length (t.L.map Ty.enc).length]) ?_ rfl ⟨[_, _, _, _], rfl, ?_, ?_⟩
  · simp [results, Go.Proofs.Try.results6, go_sem, cell_set, k0, k1, k2, k3]
  · rw [Ty.enc_eq]
    refine .int (.str hs (.int ?_))
    refine (ht.mono (w' := _) fun k h1 h2 => ?_).lower (by omega) |>.hi (by simp)
    rw [Below.heap_setCell _ _ _ _ (by simp; omega), Below.heap_setCell _ _ _ _ (by simp; omega), Below.heap_setCell _ _ _ _ (by simp; omega), Below.heap_setCell _ _ _ _ (by simp; omega), Below.heap_setCell _ _ _ _ (by simp; omega)]
  · exact (((((((((Below.refl _ _).alloc (Nat.le_refl _) _).alloc (by simp) _).alloc (by simp; omega) _).trans (hb.mono (by omega))).setCell (by simp; omega) _).setCell (by simp) _).setCell (by simp) _).setCell (by simp) _).setCell (by simp) _

theorem ty_sz {l : List Ty} : ∀ x ∈ l.map Ty.enc, x.cells.length = 4 := fun x hx => by
  obtain ⟨t, _, rfl⟩ := List.mem_map.1 hx
  exact Ty.len t
abbrev zero4 : List Value := [.int .i64 0, .string ⟨#[]⟩, .int .i64 0, .slice none 0 0]
def zeros (n : Nat) : List Value := (List.replicate n zero4).flatten
theorem make_ty (n : Nat) (hn : n ≤ 1099511627776) (w : World) : (Instr.makeSlice 28 (.int .i64 (n : Int)) (.int .i64 (n : Int))).run Go.Proofs.Try.prog w = .ok (.slice (some ⟨w.heap.size, 0, none⟩) n n) (w.alloc (.cells (zeros n).toArray 30)) :=
  make_row (sz := 4) (bytes := 56) (by kernel_rfl) (by kernel_rfl) rfl (by decide) n hn w
theorem toTyS_own {B : Nat} {l : List Ty} {w : World} {v : Value} (hB : B ≤ w.heap.size) (hn : l.length ≤ 1048576) (h : D B w (.val v (.sl (l.map Ty.enc))))
    (ih : ∀ (t : Ty) (w1 : World) (v1 : Value), t ∈ l → B ≤ w1.heap.size → D B w1 (.val v1 t.enc) → Calls Go.Proofs.Try.prog 6 #[v1] w1 fun e w' => ∃ us : List Value, e = .returned (.agg us.toArray) ∧ TJ w' w1.heap.size w'.heap.size us t.enc.cells ∧ Below w1.heap.size w1 w') :
    Calls Go.Proofs.Try.prog 15 #[v] w fun e w' => ∃ v', e = .returned v' ∧ TJ w' w.heap.size w'.heap.size [v'] [.sl (l.map Ty.enc)] ∧ Below w.heap.size w w' := by
  have hv : ∃ p cap, v = .slice p l.length cap := by
    rcases D_el h ty_sz with ⟨e, p, rfl⟩ | ⟨b, base, cap, rfl, _⟩
    · simp at e; subst e; exact ⟨p, 0, rfl⟩
    · exact ⟨some ⟨b, base, none⟩, cap, by simp⟩
  obtain ⟨p, cap, rfl⟩ := hv
  have hmk := make_ty l.length (by omega)
  generalize hN : l.length = N at hmk hn h
  have kN := Kept.mk hN
  clear hN
  go_enter Go.Proofs.Try.func15, Go.Proofs.Try.ntmps15
  go_wp2_with fail
  go_loopw [4] (fun i wr => ∃ (k : Nat) (vs : List Value), k ≤ N ∧ i = .int .i64 k ∧ Kept (vs.length = k * 4 ∧ wr.heap[w.heap.size]? = some (.cells (vs ++ zeros (N - k)).toArray 30 (0, 0)) ∧ TJ wr (w.heap.size + 1) wr.heap.size vs (flatL ((l.map Ty.enc).take k)) ∧ Below w.heap.size w wr)) (fun i _ => N - (intOf i).toNat)
  case atStart =>
    refine ⟨0, [], Nat.zero_le _, rfl, .mk ⟨by simp, ?_, ?_, (Below.refl _ _).alloc (Nat.le_refl _) _⟩⟩
    · simpa using alloc_at rfl
    · simp only [List.take_zero, World.size_alloc]; exact .nil (Nat.le_refl _)
  case round =>
    obtain ⟨k, vs, hk, rfl, K⟩ := hrel
    by_cases hkN : k < N
    · obtain ⟨x, hx⟩ : ∃ x, l[k]? = some x := ⟨l[k]'(by rw [kN.get]; exact hkN), List.getElem?_eq_getElem _⟩
      rcases D_el h ty_sz with ⟨e, _⟩ | ⟨b, base, cap', e, hlm, hel⟩
      · have : l = [] := by simpa using e
        subst this
        simp at hx
      obtain ⟨us, hus, hD, hcell⟩ := hel k x.enc (by rw [List.getElem?_map, hx]; rfl)
      simp only [Value.slice.injEq] at e
      obtain ⟨rfl, hq, rfl⟩ := e
      clear hq
      obtain ⟨vl, rfl, hs, hl⟩ := D_tys hD
      obtain ⟨K1, K2, K3, K4⟩ := K.get
      have c0 := (hcell 0 _ rfl)
      have c1 := (hcell 1 _ rfl)
      have c2 := (hcell 2 _ rfl)
      have c3 := (hcell 3 _ rfl)
      have bl : b < w.heap.size := World.block_lt_of_cell? _ _ c0
      simp only [Nat.add_zero] at c0
      rw [← K4.cell (p := ⟨b, base + k * 4, none⟩) bl] at c0
      rw [← K4.cell (p := ⟨b, base + k * 4 + 1, none⟩) bl] at c1
      rw [← K4.cell (p := ⟨b, base + k * 4 + 2, none⟩) bl] at c2
      rw [← K4.cell (p := ⟨b, base + k * 4 + 3, none⟩) bl] at c3
      have kK := Kept.mk (And.intro K1 (And.intro K2 (And.intro K3 K4)))
      clear K K1 K2 K3 K4 hcell hus hD hel bl
      go_wp2_with fail
      refine (ih x wr _ (List.mem_of_getElem? hx) (Nat.le_trans hB kK.get.2.2.2.size) ((D_agg hs hl).mono fun q hq => kK.get.2.2.2.block q hq)).mono ?_
      rintro e w2 ⟨us, rfl, ht, hb⟩
      obtain ⟨b2, rfl, hb1, hb2⟩ := TJ_tys ht
      obtain ⟨K1, K2, K3, K4⟩ := kK.get
      obtain ⟨m, hm⟩ : ∃ m, N - k = m + 1 := ⟨N - k - 1, by omega⟩
      rw [hm] at K2
      have hlt : w.heap.size < wr.heap.size := (Array.getElem?_eq_some_iff.1 K2).1
      have hw2 : w2.heap[w.heap.size]? = some (.cells (vs ++ zero4 ++ zeros m).toArray 30 (0, 0)) := by
        rw [hb.block _ hlt, K2, List.append_assoc]; rfl
      have z0 := cell_at (i := k * 4) (u := .int .i64 0) hw2 (by rw [← K1]; simp [zero4])
      have z1 := cell_at (i := k * 4 + 1) (u := .string ⟨#[]⟩) hw2 (by rw [← K1]; simp [zero4])
      have z2 := cell_at (i := k * 4 + 2) (u := .int .i64 0) hw2 (by rw [← K1]; simp [zero4])
      have z3 := cell_at (i := k * 4 + 3) (u := .slice none 0 0) hw2 (by rw [← K1]; simp [zero4])
      have f0 := free_at (i := k * 4) hw2
      have f1 := free_at (i := k * 4 + 1) hw2
      have f2 := free_at (i := k * 4 + 2) hw2
      have f3 := free_at (i := k * 4 + 3) hw2
      have kK2 := Kept.mk (And.intro hw2 (And.intro ht (And.intro hb hlt)))
      have kb := Kept.mk (And.intro hb1 hb2)
      clear K1 K2 K3 K4 hw2 ht hb hlt hb1 hb2
      go_wp2_with fail
      obtain ⟨K1, K2, K3, K4⟩ := kK.get
      obtain ⟨hw2, ht, hb, hlt⟩ := kK2.get
      have hs2 := hb.size
      refine ⟨⟨k + 1, vs ++ [.int .i64 x.K, .string x.S, .int .i64 x.N, .slice (some ⟨b2, 0, none⟩) x.L.length x.L.length], by omega, by go_num, .mk ?_⟩, by simp [intOf]; omega⟩
      have hN1 : N - (k + 1) = m := by omega
      rw [hN1]
      generalize hus : [Value.int .i64 x.K, .string x.S, .int .i64 x.N, .slice (some ⟨b2, 0, none⟩) x.L.length x.L.length] = us at ht
      have hul : us.length = 4 := by rw [← hus]; rfl
      have key : (vs ++ us).length = (k + 1) * 4 ∧ (w2.setCells w.heap.size (k * 4) us).heap[w.heap.size]? = some (.cells (vs ++ us ++ zeros m).toArray 30 (0, 0)) ∧
          TJ (w2.setCells w.heap.size (k * 4) us) (w.heap.size + 1) (w2.setCells w.heap.size (k * 4) us).heap.size (vs ++ us) (flatL ((l.map Ty.enc).take (k + 1))) ∧ Below w.heap.size w (w2.setCells w.heap.size (k * 4) us) := by
        have hset := set_row (us := us) (zs := zero4) (by rw [hul]; rfl) hw2
        rw [K1] at hset
        have other : ∀ q, w.heap.size + 1 ≤ q → (w2.setCells w.heap.size (k * 4) us).heap[q]? = w2.heap[q]? := fun q hq => heap_setCells (by omega)
        refine ⟨by rw [List.length_append, K1, hul]; omega, hset, ?_, below_setCells (Nat.le_refl _) (K4.trans (hb.mono (by omega)))⟩
        rw [take_succ_flat (x := x.enc) (by rw [List.getElem?_map, hx]; rfl), size_setCells]
        exact (K3.mono fun q h1 h2 => (other q h1).trans (hb.block q h2)).app (ht.mono fun q h1 h2 => other q (by omega))
      subst hus
      exact key
    · obtain rfl : k = N := by omega
      obtain ⟨K1, K2, K3, K4⟩ := K.get
      have kK := Kept.mk (And.intro K1 (And.intro K2 (And.intro K3 K4)))
      clear K K1 K2 K3 K4
      go_wp2_with fail
      go_ret
      obtain ⟨K1, K2, K3, K4⟩ := kK.get
      rw [List.take_of_length_le (by rw [List.length_map, kN.get]; omega)] at K3
      refine ⟨_, rfl, ?_, K4⟩
      refine .sl (Nat.le_refl _) (by rw [List.length_map, kN.get]) (by have : lim = 140737488355328 := rfl; omega) ty_sz (fun c hc => ?_) K2 (fun q u hu => ?_) K3 (.nil (Nat.le_refl _))
      · obtain ⟨y, hy, hc⟩ := List.mem_flatMap.1 hc
        obtain ⟨t, _, rfl⟩ := List.mem_map.1 hy
        exact Ty.enc_flat t c hc
      · simp only [List.getElem?_toArray]
        rw [List.getElem?_append_left (List.getElem?_eq_some_iff.1 hu).1]
        exact hu
/-- A copy of a type lies in blocks of its own. -/
theorem toTyS_tj : ∀ (l : List Ty) {B : Nat} {w : World} {v : Value}, l.length + sumC Ty.cost l ≤ 1048576 → B ≤ w.heap.size → D B w (.val v (.sl (l.map Ty.enc))) →
    Calls Go.Proofs.Try.prog 15 #[v] w fun e w' => ∃ v', e = .returned v' ∧ TJ w' w.heap.size w'.heap.size [v'] [.sl (l.map Ty.enc)] ∧ Below w.heap.size w w' := by
  have main : ∀ t : Ty, ∀ {B : Nat} {w : World} {v : Value}, t.cost ≤ 1048576 → B ≤ w.heap.size → D B w (.val v (.sl (t.L.map Ty.enc))) →
    Calls Go.Proofs.Try.prog 15 #[v] w fun e w' => ∃ v', e = .returned v' ∧ TJ w' w.heap.size w'.heap.size [v'] [.sl (t.L.map Ty.enc)] ∧ Below w.heap.size w w' := by
    refine Ty.ind fun t IH B w v hc hB hD => ?_
    have hco := Ty.cost_eq t
    exact toTyS_own hB (by omega) hD fun x w1 v1 hx hB1 hD1 => toTy_own hB1 hD1 fun w2 v2 hB2 hD2 => IH x hx (by have := sumC_mem (c := Ty.cost) hx; omega) hB2 hD2
  intro l B w v hc hB hD
  exact main (.mk 0 ⟨#[]⟩ 0 l) (by rw [Ty.cost_eq]; show 0 + (l.length + sumC Ty.cost l) ≤ 1048576; omega) hB hD
theorem toTy_tj (t : Ty) {B : Nat} {w : World} {v : Value} (hc : t.cost ≤ 1048576) (hB : B ≤ w.heap.size) (hD : D B w (.val v t.enc)) :
    Calls Go.Proofs.Try.prog 6 #[v] w fun e w' => ∃ us : List Value, e = .returned (.agg us.toArray) ∧ TJ w' w.heap.size w'.heap.size us t.enc.cells ∧ Below w.heap.size w w' :=
  toTy_own hB hD fun w1 v1 hB1 hD1 => toTyS_tj t.L (by have := Ty.cost_eq t; omega) hB1 hD1
end Q
end W
end
section
/- VarsOf: a tree of a call's own is marked. -/
namespace W
set_option linter.unusedVariables false
set_option maxRecDepth 100000
set_option maxHeartbeats 4000000
namespace Q
open Go HL HL.X HL.Y Go.RowKit

theorem bs1 (x : Int) : (bsOf [x]).size = 1 := rfl
theorem markText_L : ∀ (f : Nat) (n : Int) (acc : ByteArray), 0 ≤ n → n ≤ f → acc.size + f ≤ 1099511627776 → ∃ s, M.laws_markText_L0 (n, acc) = some s ∧ s.size ≤ 1099511627776 := by
  intro f
  induction f with
  | zero =>
    intro n acc h0 h1 h2
    have : n = 0 := by omega
    subst this
    exact ⟨acc, by rw [M.e_laws_markText_L0]; rfl, by omega⟩
  | succ f ih =>
    intro n acc h0 h1 h2
    by_cases hn : 0 < n
    · have hd : n.tdiv 10 ≤ f ∧ 0 ≤ n.tdiv 10 := by
        rw [Int.tdiv_eq_ediv_of_nonneg h0]; omega
      obtain ⟨s, e1, e2⟩ := ih (n.tdiv 10) (bsOf [IntKind.u8.wrap (IntKind.i64.wrap (48 + n.tmod 10))] ++ acc) hd.2 hd.1 (by rw [ByteArray.size_append, bs1]; omega)
      refine ⟨s, ?_, e2⟩
      have hlim : lim = 140737488355328 := rfl
      rw [M.e_laws_markText_L0]; simp only [cnd_dec]
      rw [if_pos hn, gd_t (by decide), Option.bind_some, gd_t (by rw [bs1]; omega), Option.bind_some, Option.bind_some, wrap_ok (a := n.tdiv 10) (by omega)]
      exact e1
    · have : n = 0 := by omega
      subst this
      exact ⟨acc, by rw [M.e_laws_markText_L0]; rfl, by omega⟩
theorem markText_some (n : Int) (h0 : 0 ≤ n) (h1 : n ≤ 549755813888) : ∃ s, M.laws_markText n = some s ∧ s.size ≤ lim := by
  have hlim : lim = 140737488355328 := rfl
  rw [M.e_laws_markText]; simp only [cnd_dec]
  by_cases hn : n ≤ 0
  · rw [if_pos hn]; exact ⟨_, rfl, by rw [hlim]; decide⟩
  · rw [if_neg hn]
    obtain ⟨s, e1, e2⟩ := markText_L n.toNat n ⟨#[]⟩ h0 (by omega) (by show 0 + _ ≤ _; omega)
    have e1' : M.laws_markText_L0 (n, (⟨⟨[]⟩⟩ : ByteArray)) = some s := e1
    have hm : (⟨⟨[109]⟩⟩ : ByteArray).size = 1 := rfl
    rw [e1', Option.bind_some, gd_t (by rw [hm]; omega), Option.bind_some]
    exact ⟨_, rfl, by rw [ByteArray.size_append, hm]; omega⟩

theorem ext_none : ∀ s ∈ tab, s.ext = none := by
  have h : (tab.all fun s => s.ext.isNone) = true := by kernel_rfl
  intro s hs
  have := List.all_eq_true.1 h s hs
  simpa using this
theorem hext : ∀ s ∈ tab, ∀ f, s.ext = some f → ∀ x o, f x = some o → ClaimF P s x o := fun s hs f h => by rw [ext_none s hs] at h; cases h
theorem noTab : Go.Proofs.Try.prog.globalNamed "internal/strconv.uint64pow10" = none := by kernel_rfl

theorem markText_calls {w : World} {n : Int} (h0 : 0 ≤ n) (h1 : n ≤ 549755813888) :
    Calls Go.Proofs.Try.prog 21 #[.int .i64 n] w fun e w' => ∃ s : ByteArray, e = .returned (.string s) ∧ s.size ≤ lim ∧ Below w.heap.size w w' := by
  obtain ⟨s, e1, e2⟩ := markText_some n h0 h1
  have hc : HCp P 21 [.int .i64 n] (.str s) := law_of (tab := tab) S_ok hext (s := s_laws_markText) (by simp [tab]) (x := n) (o := s) e1 rfl rfl rfl
  refine (hcp (B := 0) (vs := [.int .i64 n]) hc (.vcons .int .vnil) (TabW.noW noTab (Nat.zero_le _))).mono ?_
  rintro e w' ⟨v, rfl, hv, hb⟩
  cases hv
  exact ⟨s, rfl, e2, hb⟩

theorem sumC_take {α : Type} (c : α → Nat) : ∀ (l : List α) (j : Nat), sumC c (l.take j) ≤ sumC c l
  | [], j => by simp
  | x :: l, 0 => by simp [sumC]
  | x :: l, j + 1 => by have := sumC_take c l j; simp only [List.take_succ_cons, sumC]; omega
theorem sumC_at {α : Type} (c : α → Nat) : ∀ (l : List α) (j : Nat) (x : α), l[j]? = some x → sumC c (l.take (j + 1)) = sumC c (l.take j) + c x
  | [], j, x, h => by simp at h
  | y :: l, 0, x, h => by simp at h; subst h; simp [sumC]
  | y :: l, j + 1, x, h => by have := sumC_at c l j x (by simpa using h); simp only [List.take_succ_cons, sumC] at this ⊢; omega
/-- What is marked: at most so much is counted. -/
def mk (l : List Ty) : Nat := 3 * (l.length + sumC Ty.cost l)
theorem markTyS_own {l : List Ty} {w : World} {v : Value} {lo hi : Nat} {k : Int} (ht : TJ w lo hi [v] [.sl (l.map Ty.enc)]) (hh : hi ≤ w.heap.size) (hk0 : 0 ≤ k) (hk1 : k + mk l ≤ 274877906944)
    (ih : ∀ (t : Ty) (w1 : World) (v1 : Value) (lo1 hi1 : Nat) (k1 : Int), t ∈ l → TJ w1 lo1 hi1 [v1] [.sl (t.L.map Ty.enc)] → hi1 ≤ w1.heap.size → 0 ≤ k1 → k1 + mk t.L ≤ 274877906944 →
      Calls Go.Proofs.Try.prog 18 #[v1, .int .i64 k1] w1 fun e w' => ∃ k' : Int, e = .returned (.int .i64 k') ∧ k1 ≤ k' ∧ k' ≤ k1 + mk t.L ∧ Out lo1 hi1 w1 w') :
    Calls Go.Proofs.Try.prog 18 #[v, .int .i64 k] w fun e w' => ∃ k' : Int, e = .returned (.int .i64 k') ∧ k ≤ k' ∧ k' ≤ k + mk l ∧ Out lo hi w w' := by
  have hlen : l.length ≤ 274877906944 := by unfold mk at hk1; omega
  obtain ⟨b, mid, c0, t0, us0, rfl, hb, hm, hc0, hus0, hT⟩ := TJ_sl ht
  have hmid := hT.le
  rw [List.length_map] at *
  generalize hN : l.length = N at hlen
  have kN := Kept.mk (And.intro hN (And.intro hc0 (And.intro hus0 (And.intro hT (And.intro ht (And.intro hh (And.intro hb (And.intro hm hk1))))))))
  have kih := Kept.mk ih
  clear hN hc0 hus0 hT ht ih hh hb hm hmid hk1
  go_enter Go.Proofs.Try.func18, Go.Proofs.Try.ntmps18
  go_wp2_with fail
  go_loopw [1, 5] (fun kk i wr => ∃ (j : Nat) (kv : Int), j ≤ N ∧ i = .int .i64 j ∧ kk = .int .i64 kv ∧ Kept (k ≤ kv ∧ kv ≤ k + 3 * (j + sumC Ty.cost (l.take j)) ∧ ∃ h us c, b < h ∧ TJ wr h mid us (flatL ((l.map Ty.enc).drop j)) ∧
    wr.heap[b]? = some (.cells c t0 (0, 0)) ∧ (∀ (q : Nat) (u : Value), us[q]? = some u → c[j * 4 + q]? = some u) ∧ Out b mid w wr)) (fun _ i _ => N - (intOf i).toNat)
  case atStart =>
    obtain ⟨hN, hc0, hus0, hT, ht, hh, hb, hm, hk1⟩ := kN.get
    exact ⟨0, k, Nat.zero_le _, rfl, rfl, .mk ⟨by omega, by simp [sumC], b + 1, us0, c0, by omega, by simpa using hT, hc0, by simpa using hus0, .refl⟩⟩
  case round =>
    obtain ⟨j, kv, hj, rfl, rfl, K⟩ := hrel
    obtain ⟨hN, hc0, hus0, hT, ht, hh, hb, hm, hk1⟩ := kN.get
    obtain ⟨K1, K2, h, us, c, K3, K4, K5, K6, K7⟩ := K.get
    have kv0 : 0 ≤ kv := by omega
    have kv1 : kv ≤ 274877906944 := by
      have := sumC_take Ty.cost l j
      unfold mk at hk1
      omega
    by_cases hjN : j < N
    · obtain ⟨x, hx⟩ : ∃ x, l[j]? = some x := ⟨l[j]'(by rw [hN]; exact hjN), List.getElem?_eq_getElem _⟩
      have hd : (l.map Ty.enc).drop j = x.enc :: (l.map Ty.enc).drop (j + 1) := by
        have hlt : j < (l.map Ty.enc).length := by rw [List.length_map, hN]; exact hjN
        rw [List.drop_eq_getElem_cons hlt, List.getElem_map]
        rw [List.getElem?_eq_some_iff] at hx
        obtain ⟨_, hx⟩ := hx
        rw [hx]
      rw [hd, flatL_cons] at K4
      obtain ⟨us1, us2, m, rfl, T1, T2⟩ := K4.split
      obtain ⟨b2, rfl, hb1, hb2, T3⟩ := TJ_tysN T1
      have hm2 := T2.le
      have q0 := K6 0 _ rfl
      have q1 := K6 1 _ rfl
      have q2 := K6 2 _ rfl
      have q3 := K6 3 _ rfl
      have hlt := (Array.getElem?_eq_some_iff.1 K5).1
      have hsz := K7.size
      have z0 := cell_at K5 q0
      have f0 := free_at (i := j * 4) K5
      simp only [Nat.add_zero] at z0
      have kK := Kept.mk (And.intro K1 (And.intro K2 (And.intro K3 (And.intro K5 (And.intro K6 (And.intro K7 (And.intro T1 (And.intro T2 (And.intro T3 (And.intro hb1 (And.intro hb2 (And.intro hm2 (And.intro q0 (And.intro q1 (And.intro q2 (And.intro q3 (And.intro hlt hsz)))))))))))))))))
      clear K K1 K2 K3 K4 K5 K6 K7 T1 T2 T3 hb1 hb2 hm2 q0 q1 q2 q3 hlt hsz hN hc0 hus0 hT ht hh hb hm hk1 hd
      go_wp2_with fail
      refine (markText_calls (by omega) (by omega)).mono ?_
      rintro e w2 ⟨s, rfl, hs, hb⟩
      obtain ⟨K1, K2, K3, K5, K6, K7, T1, T2, T3, hb1, hb2, hm2, q0, q1, q2, q3, hlt, hsz⟩ := kK.get
      simp only [World.size_setCell] at hb
      have d1 : w2.heap[b]? = some (.cells (c.setIfInBounds (j * 4) (.int .i64 kv)) t0 (0, 0)) := (hb.block b hlt).trans (heap_set K5)
      have z1 := cell_at (i := j * 4 + 1) (u := .string x.S) d1 (by rw [Array.getElem?_setIfInBounds_ne (by omega)]; exact q1)
      have z2 := cell_at (i := j * 4 + 2) (u := .int .i64 x.N) d1 (by rw [Array.getElem?_setIfInBounds_ne (by omega)]; exact q2)
      have z3 := cell_at (i := j * 4 + 3) (u := .slice (some ⟨b2, 0, none⟩) x.L.length x.L.length) d1 (by rw [Array.getElem?_setIfInBounds_ne (by omega)]; exact q3)
      have f1 := free_at (i := j * 4 + 1) d1
      have f2 := free_at (i := j * 4 + 2) d1
      have kK2 := Kept.mk (And.intro hb (And.intro d1 hs))
      clear K1 K2 K3 K5 K6 K7 T1 T2 T3 hb1 hb2 hm2 q0 q1 q2 q3 hlt hsz hb d1 hs z0 f0
      go_wp2_with fail
      have kz := Kept.mk (And.intro z1 (And.intro z2 z3))
      obtain ⟨K1, K2, K3, K5, K6, K7, T1, T2, T3, hb1, hb2, hm2, q0, q1, q2, q3, hlt, hsz⟩ := kK.get
      obtain ⟨hN, hc0, hus0, hT, ht, hh, hb0, hm, hk1⟩ := kN.get
      obtain ⟨hb, d1, hs⟩ := kK2.get
      have hszb := hb.size
      simp only [World.size_setCell] at hszb
      have far : ∀ q, h ≤ q → q < m → ((w2.setCell ⟨b, j * 4 + 1, none⟩ (.string s)).setCell ⟨b, j * 4 + 2, none⟩ (.int .i64 (kv + 1 + 1))).heap[q]? = wr.heap[q]? := fun q h1 h2 => by
        rw [Below.heap_setCell _ _ _ _ (by simp; omega), Below.heap_setCell _ _ _ _ (by simp; omega), hb.block q (by omega), Below.heap_setCell _ _ _ _ (by simp; omega)]
      have hcost := sumC_at Ty.cost l j x hx
      have hxc := Ty.cost_eq x
      have hle := sumC_take Ty.cost l (j + 1)
      unfold mk at hk1
      have hfin : kv + 1 + 1 + 1 + ((3 * (x.L.length + sumC Ty.cost x.L) : Nat) : Int) ≤ 274877906944 := by
        omega
      refine (kih.get x _ _ h m _ (List.mem_of_getElem? hx) (T3.mono far) (by simp only [World.size_setCell]; omega) (by omega) hfin).mono ?_
      rintro e w4 ⟨k', rfl, h1, h2, ho⟩
      have fin : k ≤ k' ∧ k' ≤ k + 3 * (((j + 1 : Nat) : Int) + sumC Ty.cost (l.take (j + 1))) ∧ ∃ h us c, b < h ∧ TJ w4 h mid us (flatL ((l.map Ty.enc).drop (j + 1))) ∧
          w4.heap[b]? = some (.cells c t0 (0, 0)) ∧ (∀ (q : Nat) (u : Value), us[q]? = some u → c[(j + 1) * 4 + q]? = some u) ∧ Out b mid w w4 := by
        have h2' : k' ≤ kv + 1 + 1 + 1 + ((3 * (x.L.length + sumC Ty.cost x.L) : Nat) : Int) := h2
        have e3 : ((w2.setCell ⟨b, j * 4 + 1, none⟩ (.string s)).setCell ⟨b, j * 4 + 2, none⟩ (.int .i64 (kv + 1 + 1))).heap[b]? = some (.cells (((c.setIfInBounds (j * 4) (.int .i64 kv)).setIfInBounds (j * 4 + 1) (.string s)).setIfInBounds (j * 4 + 2) (.int .i64 (kv + 1 + 1))) t0 (0, 0)) := heap_set (heap_set d1)
        have hsz4 := ho.size
        simp only [World.size_setCell] at hsz4
        refine ⟨by omega, by omega, m, us2, ((c.setIfInBounds (j * 4) (.int .i64 kv)).setIfInBounds (j * 4 + 1) (.string s)).setIfInBounds (j * 4 + 2) (.int .i64 (kv + 1 + 1)), by omega, ?_, ?_, ?_, ?_⟩
        · refine T2.mono fun q g1 g2 => ?_
          rw [ho.heap q (by simp only [World.size_setCell]; omega) (by omega), Below.heap_setCell _ _ _ _ (by simp; omega), Below.heap_setCell _ _ _ _ (by simp; omega), hb.block q (by omega), Below.heap_setCell _ _ _ _ (by simp; omega)]
        · rw [ho.heap b (by simp only [World.size_setCell]; omega) (by omega)]
          exact e3
        · intro q u hu
          have := K6 (q + 4) u (by simpa using hu)
          rw [Array.getElem?_setIfInBounds_ne (by omega), Array.getElem?_setIfInBounds_ne (by omega), Array.getElem?_setIfInBounds_ne (by omega), ← this]
          congr 1
          omega
        · refine K7.trans ?_
          have o1 : Out b mid wr (wr.setCell ⟨b, j * 4, none⟩ (.int .i64 kv)) := (Out.refl (lo := b) (hi := mid) (w := wr)).setCell (p := ⟨b, j * 4, none⟩) (Nat.le_refl _) (by show b < mid; omega) _
          have o2 : Out b mid (wr.setCell ⟨b, j * 4, none⟩ (.int .i64 kv)) w2 := Out.of_below (by simp only [World.size_setCell]; exact hb)
          exact (((o1.trans o2).setCell (p := ⟨b, j * 4 + 1, none⟩) (Nat.le_refl _) (by show b < mid; omega) _).setCell (p := ⟨b, j * 4 + 2, none⟩) (Nat.le_refl _) (by show b < mid; omega) _).trans (ho.mono (by omega) (by omega))
      have kf := Kept.mk fin
      clear fin h1 h2 ho far K1 K2 K3 K5 K6 K7 T1 T2 T3 hb1 hb2 hm2 q0 q1 q2 q3 hlt hsz hN hc0 hus0 hT ht hh hb0 hm hk1 hb d1 hs hszb hcost hxc hle hfin z1 z2 z3
      go_wp2_with fail
      exact ⟨⟨j + 1, k', by omega, by go_num, rfl, kf⟩, by simp [intOf]; omega⟩
    · obtain rfl : j = N := by omega
      rw [List.take_of_length_le (by omega)] at K2
      have kK := Kept.mk (And.intro K1 (And.intro K2 (And.intro K7 (And.intro hb (And.intro hm hN)))))
      clear K K1 K2 K3 K4 K5 K6 K7 hN hc0 hus0 hT ht hh hb hm hk1
      go_wp2_with fail
      go_ret
      obtain ⟨K1, K2, K7, hb, hm, hN⟩ := kK.get
      exact ⟨kv, rfl, K1, by unfold mk; omega, K7.mono hb hm⟩
end Q
end W
end
section
/- VarsOf: marks, whole. -/
namespace W
set_option linter.unusedVariables false
set_option maxRecDepth 100000
set_option maxHeartbeats 4000000
namespace Q
open Go HL HL.X HL.Y Go.RowKit

theorem markTyS_all : ∀ (l : List Ty) {w : World} {v : Value} {lo hi : Nat} {k : Int}, TJ w lo hi [v] [.sl (l.map Ty.enc)] → hi ≤ w.heap.size → 0 ≤ k → k + mk l ≤ 274877906944 →
    Calls Go.Proofs.Try.prog 18 #[v, .int .i64 k] w fun e w' => ∃ k' : Int, e = .returned (.int .i64 k') ∧ k ≤ k' ∧ k' ≤ k + mk l ∧ Out lo hi w w' := by
  have main : ∀ t : Ty, ∀ {w : World} {v : Value} {lo hi : Nat} {k : Int}, TJ w lo hi [v] [.sl (t.L.map Ty.enc)] → hi ≤ w.heap.size → 0 ≤ k → k + mk t.L ≤ 274877906944 →
    Calls Go.Proofs.Try.prog 18 #[v, .int .i64 k] w fun e w' => ∃ k' : Int, e = .returned (.int .i64 k') ∧ k ≤ k' ∧ k' ≤ k + mk t.L ∧ Out lo hi w w' := by
    refine Ty.ind fun t IH w v lo hi k ht hh h0 h1 => ?_
    exact markTyS_own ht hh h0 h1 fun x w1 v1 lo1 hi1 k1 hx a b c d => IH x hx a b c d
  intro l w v lo hi k ht hh h0 h1
  exact main (.mk 0 ⟨#[]⟩ 0 l) ht hh h0 h1

theorem markTy_tj (t : Ty) {w : World} {us : List Value} {lo hi : Nat} {k : Int} (ht : TJ w lo hi us t.enc.cells) (hh : hi ≤ w.heap.size) (h0 : 0 ≤ k) (h1 : k + mk t.L ≤ 274877906944) :
    Calls Go.Proofs.Try.prog 10 #[.agg us.toArray, .int .i64 k] w fun e w' => ∃ k' : Int, e = .returned (.int .i64 k') ∧ k ≤ k' ∧ k' ≤ k + mk t.L ∧ Out lo hi w w' := by
  obtain ⟨b, rfl, hb1, hb2, hn⟩ := TJ_tysN ht
  clear ht
  go_enter Go.Proofs.Try.func10, Go.Proofs.Try.ntmps10
  go_wp2_with fail
  refine (markTyS_all t.L (hn.mono fun q g1 g2 => Below.heap_alloc _ _ _ (by omega)) (by simp; omega) h0 h1).mono ?_
  rintro e w2 ⟨k', rfl, g1, g2, ho⟩
  have kK := Kept.mk (And.intro g1 (And.intro g2 ho))
  clear g1 g2 ho
  go_wp2_with fail
  go_ret
  obtain ⟨g1, g2, ho⟩ := kK.get
  exact ⟨k', rfl, g1, g2, (Out.refl.alloc _).trans ho⟩

theorem markIntS_raw {w : World} {p : Option Addr} {n cap : Nat} {k : Int} (hn : n ≤ 1048577) (h0 : 0 ≤ k) (h1 : k ≤ 1048577) (hp : n ≠ 0 → ∃ b c t, p = some ⟨b, 0, none⟩ ∧ w.heap[b]? = some (.cells c t (0, 0)) ∧ n ≤ c.size) :
    Calls Go.Proofs.Try.prog 11 #[.slice p n cap, .int .i64 k] w fun e w' => e = .returned (.int .i64 (k + n)) ∧ (n = 0 → w' = w) ∧ ∀ b, n ≠ 0 → p = some ⟨b, 0, none⟩ → Out b (b + 1) w w' ∧ ∃ c t, w'.heap[b]? = some (.cells c t (0, 0)) ∧ n ≤ c.size ∧ ∀ i : Nat, i < n → c[i]? = some (.int .i64 (k + i)) := by
  have kp := Kept.mk hp
  clear hp
  go_enter Go.Proofs.Try.func11, Go.Proofs.Try.ntmps11
  go_wp2_with fail
  go_loopw [1, 5] (fun kk i wr => ∃ j : Nat, j ≤ n ∧ i = .int .i64 j ∧ kk = .int .i64 (k + j) ∧ Kept ((n = 0 → wr = w) ∧ ∀ b, n ≠ 0 → p = some ⟨b, 0, none⟩ → Out b (b + 1) w wr ∧ ∃ c t, wr.heap[b]? = some (.cells c t (0, 0)) ∧ n ≤ c.size ∧ ∀ i : Nat, i < j → c[i]? = some (.int .i64 (k + i)))) (fun _ i _ => n - (intOf i).toNat)
  case atStart =>
    refine ⟨0, Nat.zero_le _, rfl, by simp, .mk ⟨fun _ => rfl, fun b hn0 hpb => ⟨.refl, ?_⟩⟩⟩
    obtain ⟨b', c, t, e, h2, h3⟩ := kp.get hn0
    rw [hpb] at e
    cases e
    exact ⟨c, t, h2, h3, fun i hi => by omega⟩
  case round =>
    obtain ⟨j, hj, rfl, rfl, K⟩ := hrel
    by_cases hjn : j < n
    · obtain ⟨b, _, _, rfl, _, _⟩ := kp.get (by omega)
      obtain ⟨ho, c, t, g1, g2, g3⟩ := K.get.2 b (by omega) rfl
      obtain ⟨y, hy⟩ : ∃ y, c[j]? = some y := ⟨_, Array.getElem?_eq_getElem (by omega)⟩
      have z := cell_at (i := j) g1 hy
      have f := free_at (i := j) g1
      have kK := Kept.mk (And.intro ho (And.intro g1 (And.intro g2 g3)))
      clear K ho g1 g2 g3 hy
      go_wp2_with fail
      obtain ⟨ho, g1, g2, g3⟩ := kK.get
      refine ⟨⟨j + 1, by omega, by go_num, by congr 1; omega, .mk ⟨fun h => by omega, fun b' _ e => ?_⟩⟩, by simp [intOf]; omega⟩
      cases e
      refine ⟨ho.setCell (Nat.le_refl _) (by show b < b + 1; omega) _, _, t, heap_set g1, by simpa using g2, fun i hi => ?_⟩
      by_cases e : i = j
      · subst e
        rw [Array.getElem?_setIfInBounds_self_of_lt (by omega)]
      · rw [Array.getElem?_setIfInBounds_ne (by omega)]
        exact g3 i (by omega)
    · obtain rfl : j = n := by omega
      go_wp2_with fail
      go_ret
      exact ⟨rfl, K.get.1, K.get.2⟩
end Q
end W
end
section
/- VarsOf: the law. -/
namespace W
set_option linter.unusedVariables false
set_option maxRecDepth 100000
set_option maxHeartbeats 4000000
namespace Q
open Go HL HL.X HL.Y Go.RowKit

theorem H_sz (t : Ty) (hs : t.small) : HCp P 4 [t.enc, .int .i64 1048576] (.int .i64 (rest t.cost 1048576)) :=
  law_of (tab := tab) S_ok hext (s := s_laws_szTy) (by simp [tab]) (x := (t, (1048576 : Int))) (o := rest t.cost 1048576) (szTy t hs 1048576 (by decide) (by decide)) rfl rfl rfl
theorem H_to (t : Ty) (hc : t.cost ≤ 1048576) : HCp P 6 [t.enc] t.enc :=
  law_of (tab := tab) S_ok hext (s := s_laws_toTy) (by simp [tab]) (x := t) (o := t) (toTy t hc) rfl rfl rfl
theorem H_sp (t : Ty) (hs : t.small) (hc : t.cost ≤ 1048576) : HCp P 5 [t.enc] (.sl ((vars [] t).map (HV.int .i64))) :=
  law_of (tab := tab) S_ok hext (s := s_spec_VarsOf) (by simp [tab]) (x := t) (o := vars [] t) (sp_VarsOf t hs hc) rfl rfl rfl
theorem H_eqI (l : List Int) (hl : l.length ≤ lim) : HCp P 8 [.sl (l.map (HV.int .i64)), .sl (l.map (HV.int .i64))] (.bool true) := by
  have h : M.laws_eqIntS (l, l) = some true := by rw [eqI l l hl, decide_eq_true rfl]
  exact law_of (tab := tab) S_ok hext (s := s_laws_eqIntS) (by simp [tab]) (x := (l, l)) (o := true) h rfl rfl rfl
theorem H_eqT (t : Ty) (hs : t.small) : HCp P 9 [t.enc, t.enc] (.bool true) := by
  have h : M.laws_eqTy (t, t) = some true := by rw [eqTy t hs t]; simp
  exact law_of (tab := tab) S_ok hext (s := s_laws_eqTy) (by simp [tab]) (x := (t, t)) (o := true) h rfl rfl rfl
theorem H_held (n : Nat) (hn : n ≤ 1048577) : HCp P 12 [.sl ((upFrom 1 n).map (HV.int .i64)), .int .i64 1] (.int .i64 (1 + (n : Int))) := by
  rw [Int.add_comm]
  exact law_of (tab := tab) S_ok hext (s := s_laws_heldIntS) (by simp [tab]) (x := (upFrom 1 n, (1 : Int))) (o := (n : Int) + 1) (heldI hn) rfl rfl rfl
theorem H_im (t : Ty) (hs : t.small) (hc : t.cost ≤ 1048576) : HC P 7 [t.enc] [] fun r st => r = .own 0 ((vars [] t).map (HV.int .i64)).length ∧ st = [.arr 1 ((vars [] t).map (HV.int .i64)) true] := by
  exact own_of (tab := tab) S_ok hext (s := s_impl_VarsOf) (by simp [tab]) (x := t) (o := vars [] t) (im_VarsOf t hs hc) rfl rfl (t := .int .i64) (l := vars [] t) rfl rfl rfl

theorem enc_ints (l : List Int) : l.map (encT S (.int .i64)) = l.map (HV.int .i64) := rfl

theorem TJ_agg {B : Nat} {w : World} {lo hi : Nat} {us : List Value} {t : Ty} (h : TJ w lo hi us t.enc.cells) : D B w (.val (.agg us.toArray) t.enc) := by
  have e : t.enc = .agg t.enc.cells := by rw [Ty.enc_eq]; rfl
  have := R.agg (Ty.enc_flat t) (h.d (B := B))
  rw [← e] at this
  exact this
theorem box4 {w : World} {b : Nat} {a0 a1 a2 a3 : Value} {t : TypeId} (h : w.heap[b]? = some (.cells #[a0, a1, a2, a3] t (0, 0))) : w.cell? ⟨b, 0, none⟩ = some a0 ∧ w.cell? ⟨b, 1, none⟩ = some a1 ∧ w.cell? ⟨b, 2, none⟩ = some a2 ∧ w.cell? ⟨b, 3, none⟩ = some a3 :=
  ⟨cell_at h rfl, cell_at h rfl, cell_at h rfl, cell_at h rfl⟩
theorem law_raw {w : World} {v : Value} {t : Ty} (hs : t.small) (hR : R (G0 w) (.val v t.enc)) : Calls Go.Proofs.Try.prog 3 #[v] w fun e w' => e = .returned (.bool true) ∧ Below w.heap.size w w' := by
  have hD : D w.heap.size w (.val v t.enc) := hR
  generalize hB : w.heap.size = B at hD
  obtain ⟨vl, rfl, hS, hl⟩ := D_ty hD
  have tabW : ∀ {w' : World}, B ≤ w'.heap.size → TabW P (Gw B w') w' := fun h => TabW.noW noTab h
  have hagg : ∀ {w' : World}, (∀ k, k < B → w'.heap[k]? = w.heap[k]?) → D B w' (.vals [.agg #[.int .i64 t.K, .string t.S, .int .i64 t.N, vl]] [t.enc]) := fun h => .vcons (hD.mono fun k hk => h k (by omega)) .vnil
  have kA := Kept.mk (And.intro hD (And.intro hl hB))
  clear hD hl hR hB
  go_enter Go.Proofs.Try.func3, Go.Proofs.Try.ntmps3
  go_wp2_with fail
  have below1 : Below B w (w.alloc (Obj.cells #[.int .i64 t.K, .string t.S, .int .i64 t.N, vl] 24)) := (Below.refl _ _).alloc (Nat.le_of_eq kA.get.2.2.symm) _
  refine (hcp (B := B) (vs := [_, .int .i64 1048576]) (H_sz t hs) ((hagg below1.block).app_val .int) (tabW (by rw [World.size_alloc, kA.get.2.2]; omega))).mono ?_
  rintro e w2 ⟨v2, rfl, hv2, hb2⟩
  cases hv2
  simp only [World.size_alloc] at hb2
  have hbox : w2.heap[w.heap.size]? = some (.cells #[.int .i64 t.K, .string t.S, .int .i64 t.N, vl] 24 (0, 0)) := by
    rw [hb2.block _ (by omega)]; exact alloc_at rfl
  have below2 : Below B w w2 := below1.trans (hb2.mono (by have := kA.get.2.2; omega))
  by_cases hc : t.cost ≤ 1048576
  · rw [rest_pos (by omega)]
    obtain ⟨c0, c1, c2, c3⟩ := box4 hbox
    have kB := Kept.mk (And.intro below2 hbox)
    clear below1 below2 hbox hb2
    go_wp2_with fail
    -- toTy, for the reference
    have b2 := kB.get.1
    refine (hcp (B := B) (H_to t hc) (hagg b2.block) (tabW (by have := b2.size; have := kA.get.2.2; omega))).mono ?_
    rintro e w3 ⟨v3, rfl, hv3, hb3⟩
    have kC := Kept.mk (And.intro hv3 hb3)
    clear hv3 hb3 b2
    go_wp2_with fail
    obtain ⟨hv3, hb3⟩ := kC.get
    have b2 := kB.get.1
    have z2 := b2.size
    have z3 := hb3.size
    have zB := kA.get.2.2
    refine (hcp (B := B) (vs := [v3]) (H_sp t hs hc) (.vcons hv3 .vnil) (tabW (by omega))).mono ?_
    rintro e w4 ⟨v4, rfl, hv4, hb4⟩
    have b4 : Below B w w4 := (b2.trans (hb3.mono (by omega))).trans (hb4.mono (by omega))
    have hbox4 : w4.heap[w.heap.size]? = some (.cells #[.int .i64 t.K, .string t.S, .int .i64 t.N, vl] 24 (0, 0)) := by
      have hlt := (Array.getElem?_eq_some_iff.1 kB.get.2).1
      rw [hb4.block _ (by omega), hb3.block _ (by omega)]; exact kB.get.2
    clear c0 c1 c2 c3 kB kC hv3 hb3 b2 hb4 z2 z3 zB
    obtain ⟨c0, c1, c2, c3⟩ := box4 hbox4
    have kB := Kept.mk (And.intro b4 (And.intro hbox4 hv4))
    clear b4 hbox4 hv4
    go_wp2_with fail
    -- toTy, for the program: in blocks of its own
    have zB := kA.get.2.2
    have z4 := kB.get.1.size
    have hn := t.cost
    refine (toTy_tj t hc (B := B) (by omega) (hagg kB.get.1.block).one).mono ?_
    rintro e w5 ⟨us, rfl, ht5, hb5⟩
    obtain ⟨b, rfl, hbl, hbh, _⟩ := TJ_tysN ht5
    have kC := Kept.mk (And.intro ht5 (And.intro hb5 (And.intro hbl hbh)))
    have hbox5 : w5.heap[w.heap.size]? = some (.cells #[.int .i64 t.K, .string t.S, .int .i64 t.N, vl] 24 (0, 0)) := by
      have hlt := (Array.getElem?_eq_some_iff.1 kB.get.2.1).1
      rw [hb5.block _ (by omega)]; exact kB.get.2.1
    clear c0 c1 c2 c3 ht5 hb5 hbl hbh zB z4 hn
    obtain ⟨c0, c1, c2, c3⟩ := box4 hbox5
    have kD := Kept.mk hbox5
    clear hbox5
    go_wp2_with fail
    -- VarsOf
    obtain ⟨ht5, hb5, hbl, hbh⟩ := kC.get
    have zB := kA.get.2.2
    have z4 := kB.get.1.size
    have z5 := hb5.size
    have hl := ht5.le
    have ht6 := ht5.mono (w' := w5.alloc (Obj.cells #[.int .i64 t.K, .string t.S, .int .i64 t.N, .slice (some ⟨b, 0, none⟩) t.L.length t.L.length] 30)) fun k h1 h2 => Below.heap_alloc _ _ _ h2
    refine (hco (B := B) (vs := [_]) (H_im t hs hc) (by rw [flat_ints]; exact ScdL_iff.2 fun x hx => by obtain ⟨i, _, rfl⟩ := List.mem_map.1 hx; trivial)
      (.vcons (TJ_agg ht6) .vnil) (tabW (by rw [World.size_alloc]; omega))).mono ?_
    rintro e w7 ⟨v7, rfl, ho7, hb7⟩
    simp only [World.size_alloc] at hb7 ho7
    have hbox7 : w7.heap[w.heap.size]? = some (.cells #[.int .i64 t.K, .string t.S, .int .i64 t.N, vl] 24 (0, 0)) := by
      have hlt := (Array.getElem?_eq_some_iff.1 kD.get).1
      rw [hb7.block _ (by omega), Below.heap_alloc _ _ _ hlt]; exact kD.get
    have xbox7 : w7.heap[w5.heap.size]? = some (.cells #[.int .i64 t.K, .string t.S, .int .i64 t.N, .slice (some ⟨b, 0, none⟩) t.L.length t.L.length] 30 (0, 0)) := by
      rw [hb7.block _ (by omega)]; exact alloc_at rfl
    have hb47 : Below w4.heap.size w4 w7 := (hb5.alloc (by omega) _).trans (hb7.mono (by omega))
    have ht7 : TJ w7 w4.heap.size w5.heap.size [.int .i64 t.K, .string t.S, .int .i64 t.N, .slice (some ⟨b, 0, none⟩) t.L.length t.L.length] t.enc.cells := ht6.mono fun k h1 h2 => hb7.block k (by omega)
    have z7 := hb7.size
    simp only [World.size_alloc] at z7
    have kE := Kept.mk (And.intro hbox7 (And.intro xbox7 (And.intro hb47 (And.intro ht7 (And.intro ho7 (And.intro z4 (And.intro z5 z7)))))))
    obtain ⟨a7, cap7, hv7, _⟩ := ho7
    rw [List.length_map] at hv7
    subst hv7
    clear c0 c1 c2 c3 kD ht5 hb5 hbl hbh zB z4 z5 hl ht6 hb7 hbox7 xbox7 hb47 ht7 z7
    go_wp2_with fail
    -- the same
    obtain ⟨hbox7, xbox7, hb47, ht7, ho7, z4, z5, z7⟩ := kE.get
    have zB := kA.get.2.2
    have hv4 := kB.get.2.2
    have hvl := vars_small t hc
    have hlim : lim = 140737488355328 := rfl
    refine (hcp (B := B) (vs := [_, v4]) (H_eqI (vars [] t) (by omega)) (.vcons ho7.d (.vcons (hv4.mono hb47.block) .vnil)) (tabW (by omega))).mono ?_
    rintro e w8 ⟨v8, rfl, hv8, hb8⟩
    cases hv8
    have z8 := hb8.size
    have kF := Kept.mk (And.intro hb8 z8)
    have hbox8 := (hb8.block _ (by omega)).trans hbox7
    have xbox8 := (hb8.block _ (by omega)).trans xbox7
    clear hbox7 xbox7 hb47 ht7 ho7 z4 z5 z7 zB hv4 hvl hlim hb8 z8
    obtain ⟨c0, c1, c2, c3⟩ := box4 hbox8
    obtain ⟨d0, d1, d2, d3⟩ := box4 xbox8
    have kG := Kept.mk (And.intro hbox8 xbox8)
    clear hbox8 xbox8
    go_wp2_with fail
    -- what was handed over is as it was: in whatever order
    have hto : ∀ w' : World, Below w8.heap.size w8 w' → Calls Go.Proofs.Try.prog 6 #[.agg #[.int .i64 t.K, .string t.S, .int .i64 t.N, vl]] w' fun e w'' => ∃ v, e = .returned v ∧ D B w'' (.val v t.enc) ∧ Below w8.heap.size w8 w'' := by
      intro w' h
      have z8 := kF.get.2
      obtain ⟨hbox7, xbox7, hb47, ht7, ho7, z4, z5, z7⟩ := kE.get
      have zB := kA.get.2.2
      have hb8 := kF.get.1
      have z' := h.size
      have hbB : Below B w w' := ((kB.get.1.trans (hb47.mono (by omega))).trans (hb8.mono (by omega))).trans (h.mono (by omega))
      refine (hcp (B := B) (H_to t hc) (hagg hbB.block) (tabW (by omega))).mono ?_
      rintro e w'' ⟨v, rfl, hv, hb⟩
      exact ⟨v, rfl, hv, h.trans (hb.mono z')⟩
    have heq : ∀ (w' : World) (v : Value), Below w8.heap.size w8 w' → D B w' (.val v t.enc) → Calls Go.Proofs.Try.prog 9 #[.agg #[.int .i64 t.K, .string t.S, .int .i64 t.N, .slice (some ⟨b, 0, none⟩) t.L.length t.L.length], v] w' fun e w'' => e = .returned (.bool true) ∧ Below w8.heap.size w8 w'' := by
      intro w' v h hv
      have z8 := kF.get.2
      obtain ⟨hbox7, xbox7, hb47, ht7, ho7, z4, z5, z7⟩ := kE.get
      have zB := kA.get.2.2
      have hb8 := kF.get.1
      have z' := h.size
      have ht' : TJ w' w4.heap.size w5.heap.size [.int .i64 t.K, .string t.S, .int .i64 t.N, .slice (some ⟨b, 0, none⟩) t.L.length t.L.length] t.enc.cells := (ht7.mono fun k h1 h2 => hb8.block k (by omega)).mono fun k h1 h2 => h.block k (by omega)
      refine (hcp (B := B) (vs := [_, v]) (H_eqT t hs) (.vcons (TJ_agg ht') (.vcons hv .vnil)) (tabW (by omega))).mono ?_
      rintro e w'' ⟨v', rfl, hv', hb⟩
      cases hv'
      exact ⟨rfl, h.trans (hb.mono z')⟩
    have hcells : ∀ w' : World, Below w8.heap.size w8 w' → w'.cell? ⟨w.heap.size, 0, none⟩ = some (.int .i64 t.K) ∧ w'.cell? ⟨w.heap.size, 1, none⟩ = some (.string t.S) ∧ w'.cell? ⟨w.heap.size, 2, none⟩ = some (.int .i64 t.N) ∧ w'.cell? ⟨w.heap.size, 3, none⟩ = some vl ∧
        w'.cell? ⟨w5.heap.size, 0, none⟩ = some (.int .i64 t.K) ∧ w'.cell? ⟨w5.heap.size, 1, none⟩ = some (.string t.S) ∧ w'.cell? ⟨w5.heap.size, 2, none⟩ = some (.int .i64 t.N) ∧ w'.cell? ⟨w5.heap.size, 3, none⟩ = some (.slice (some ⟨b, 0, none⟩) t.L.length t.L.length) ∧ Below w8.heap.size w8 w' := by
      intro w' h
      have q1 := (h.block _ (Array.getElem?_eq_some_iff.1 kG.get.1).1).trans kG.get.1
      have q2 := (h.block _ (Array.getElem?_eq_some_iff.1 kG.get.2).1).trans kG.get.2
      obtain ⟨a0, a1, a2, a3⟩ := box4 q1
      obtain ⟨e0, e1, e2, e3⟩ := box4 q2
      exact ⟨a0, a1, a2, a3, e0, e1, e2, e3, h⟩
    have hw8 : Below w8.heap.size w8 w8.drew := (Below.refl w8.heap.size w8).drew
    go_region_held3 (fun w' => w'.cell? ⟨w.heap.size, 0, none⟩ = some (.int .i64 t.K) ∧ w'.cell? ⟨w.heap.size, 1, none⟩ = some (.string t.S) ∧ w'.cell? ⟨w.heap.size, 2, none⟩ = some (.int .i64 t.N) ∧ w'.cell? ⟨w.heap.size, 3, none⟩ = some vl ∧
        w'.cell? ⟨w5.heap.size, 0, none⟩ = some (.int .i64 t.K) ∧ w'.cell? ⟨w5.heap.size, 1, none⟩ = some (.string t.S) ∧ w'.cell? ⟨w5.heap.size, 2, none⟩ = some (.int .i64 t.N) ∧ w'.cell? ⟨w5.heap.size, 3, none⟩ = some (.slice (some ⟨b, 0, none⟩) t.L.length t.L.length) ∧ Below w8.heap.size w8 w')
      (first | exact hcells _ (by assumption) | go_keep)
      (first
        | (go_at_call 6; refine (hto _ (by assumption)).mono ?_; rintro e w9 ⟨v9, rfl, hv9, hw9⟩)
        | (go_at_call 9; refine (heq _ _ (by assumption) (by assumption)).mono ?_; rintro e w10 ⟨rfl, hw10⟩))
    have k10 := Kept.mk hw10
    obtain ⟨c0, c1, c2, c3, d0, d1, d2, d3, _⟩ := hcells _ hw10
    have kcells := Kept.mk hcells
    have kto := Kept.mk hto
    clear hw10 hcells hto heq hw8 hv9 hw9
    go_wp2_with fail
    -- marked
    have z8 := kF.get.2
    have hb8 := kF.get.1
    obtain ⟨hbox7, xbox7, hb47, ht7, ho7, z4, z5, z7⟩ := kE.get
    have zB := kA.get.2.2
    have z10 := k10.get.size
    have hco := Ty.cost_eq t
    have hmk : mk t.L ≤ 3145728 := by unfold mk; omega
    have ht10 : TJ w10 w4.heap.size w5.heap.size [.int .i64 t.K, .string t.S, .int .i64 t.N, .slice (some ⟨b, 0, none⟩) t.L.length t.L.length] t.enc.cells := (ht7.mono fun k h1 h2 => hb8.block k (by omega)).mono fun k h1 h2 => k10.get.block k (by omega)
    refine (markTy_tj t ht10 (by omega) (k := 1) (by omega) (by omega)).mono ?_
    rintro e w11 ⟨k', rfl, g1, g2, ho⟩
    have b410 : Below w4.heap.size w4 w10 := (hb47.trans (hb8.mono (by omega))).trans (k10.get.mono (by omega))
    have b411 : Below w4.heap.size w4 w11 := b410.trans (ho.below (by omega))
    have hi7 := ho7.ints
    have hi11 : NumsAt (w5.heap.size + 1) w11 a7 cap7 (vars [] t) := by
      refine ((hi7.mono hb8.size fun k h1 h2 => hb8.block k (by omega)).mono z10 fun k h1 h2 => k10.get.block k (by omega)).mono ho.size fun k h1 h2 => ho.heap k (by omega) (by omega)
    have hbox11 : w11.heap[w.heap.size]? = some (.cells #[.int .i64 t.K, .string t.S, .int .i64 t.N, vl] 24 (0, 0)) := by
      have := kB.get.1.size
      rw [b411.block _ (Array.getElem?_eq_some_iff.1 kB.get.2.1).1]; exact kB.get.2.1
    have kH := Kept.mk (And.intro b411 (And.intro hi11 hbox11))
    have g3 : (0 : Int) ≤ k' := by omega
    have kk := Kept.mk g2
    clear c0 c1 c2 c3 d0 d1 d2 d3 z8 hb8 hbox7 xbox7 hb47 ht7 ho7 z4 z5 z7 zB z10 hco hmk ht10 g1 g2 ho b410 b411 hi7 hi11 hbox11
    go_wp2_with fail
    have hlim : lim = 140737488355328 := rfl
    have hvl := vars_small t hc
    have tab12 : B ≤ w11.heap.size := by have := kH.get.1.size; have := kB.get.1.size; have := kA.get.2.2; omega
    refine (hcp (B := B) (vs := [_, v4]) (H_eqI (vars [] t) (by omega)) (.vcons (kH.get.2.1.d (by omega)) (.vcons (kB.get.2.2.mono kH.get.1.block) .vnil)) (tabW tab12)).mono ?_
    rintro e w12 ⟨v12, rfl, hv12, hb12⟩
    cases hv12
    have kI := Kept.mk (And.intro hb12 tab12)
    clear hb12 tab12
    go_wp2_with fail
    -- marks on what came back
    have hi12 := kH.get.2.1.mono kI.get.1.size fun k _ h2 => kI.get.1.block k h2
    refine (markIntS_raw (w := w12) (p := a7) (n := (vars [] t).length) (cap := cap7) (k := 1) hvl (by omega) (by omega) (fun h => by obtain ⟨b', c, ty, e1, _, e3, e4⟩ := hi12.room h; exact ⟨b', c, ty, e1, e3, e4⟩)).mono ?_
    rintro e w13 ⟨rfl, m0, m1⟩
    have hi13 : NumsAt (w5.heap.size + 1) w13 a7 cap7 (upFrom 1 (vars [] t).length) ∧ Below (w5.heap.size + 1) w12 w13 := by
      by_cases hn0 : (vars [] t).length = 0
      · rw [m0 hn0, hn0]
        have : vars [] t = [] := List.length_eq_zero_iff.1 hn0
        rw [this] at hi12
        exact ⟨hi12, .refl _ _⟩
      · obtain ⟨b', c', ty, e1, e2, e3, e4⟩ := hi12.room hn0
        obtain ⟨ho, c, ty', f1, f2, f3⟩ := m1 b' hn0 e1
        have hlt := (Array.getElem?_eq_some_iff.1 e3).1
        rcases hi12 with ⟨h, _⟩ | ⟨b2, _, _, h1, _, _, h4, _, _⟩
        · rw [h] at hn0; simp at hn0
        refine ⟨.inr ⟨b', c, ty', e1, e2, by have := ho.size; omega, by rw [upFrom_len]; exact h4, f1, fun i x hx => ?_⟩, (ho.below (by omega)).mono e2⟩
        have hi := (List.getElem?_eq_some_iff.1 hx).1
        rw [upFrom_len] at hi
        rw [upFrom_get _ _ _ hi] at hx
        cases hx
        exact f3 i hi
    have hbox12 := (kI.get.1.block _ (Array.getElem?_eq_some_iff.1 kH.get.2.2).1).trans kH.get.2.2
    have b412 : Below w4.heap.size w4 w12 := kH.get.1.trans (kI.get.1.mono (by have := kH.get.1.size; omega))
    have kJ := Kept.mk (And.intro hi13.1 (And.intro hi13.2 (And.intro hbox12 b412)))
    clear hi12 m0 m1 hi13 hbox12 b412
    go_wp2_with fail
    have held : ∀ W : World, Below w13.heap.size w13 W → Calls Go.Proofs.Try.prog 12 #[.slice a7 (vars [] t).length cap7, .int .i64 1] W fun e W' => e = .returned (.int .i64 (1 + ((vars [] t).length : Int))) ∧ Below w13.heap.size w13 W' := by
      intro W h
      have hd := (kJ.get.1.mono h.size fun k _ h2 => h.block k h2).d (B := B) (by rw [upFrom_len]; omega)
      rw [upFrom_len] at hd
      have z13 := kJ.get.2.1.size
      have z12 := kI.get.1.size
      have := kI.get.2
      have zW := h.size
      refine (hcp (B := B) (vs := [_, .int .i64 1]) (H_held _ hvl) (.vcons hd (.vcons .int .vnil)) (tabW (by omega))).mono ?_
      rintro e W' ⟨v, rfl, hv, hb⟩
      cases hv
      exact ⟨rfl, h.trans (hb.mono zW)⟩
    have hbox13 : w13.heap[w.heap.size]? = some (.cells #[.int .i64 t.K, .string t.S, .int .i64 t.N, vl] 24 (0, 0)) := by
      obtain ⟨_, h2, h3, h4⟩ := kJ.get
      have z4 := kB.get.1.size
      have := (Array.getElem?_eq_some_iff.1 kB.get.2.1).1
      have z5 := kC.get.2.1.size
      rw [h2.block _ (by omega)]; exact h3
    have b413 : Below w4.heap.size w4 w13 := by
      obtain ⟨_, h2, h3, h4⟩ := kJ.get
      have z5 := kC.get.2.1.size
      exact h4.trans (h2.mono (by omega))
    have b13 : Below B w w13 := kB.get.1.trans (b413.mono (by have := kB.get.1.size; have := kA.get.2.2; omega))
    refine (held w13 (Below.refl _ _)).mono ?_
    rintro e w14 ⟨rfl, hb14⟩
    obtain ⟨c0, c1, c2, c3⟩ := box4 ((hb14.block _ (Array.getElem?_eq_some_iff.1 hbox13).1).trans hbox13)
    have q1 : ¬ (1 + ((vars [] t).length : Int) < 0) := by omega
    have kL := Kept.mk (And.intro hb14 (And.intro b413 b13))
    have kheld := Kept.mk held
    clear held hbox13 hb14 b413 b13
    go_wp2_with fail
    -- once more
    have zA : B ≤ w14.heap.size ∧ w13.heap.size ≤ w14.heap.size ∧ w4.heap.size ≤ w13.heap.size ∧ B ≤ w13.heap.size := by
      have h1 := kL.get.1.size
      have h2 := kL.get.2.1.size
      have h3 := kL.get.2.2.size
      have h4 := kA.get.2.2
      omega
    have b14 : Below B w w14 := kL.get.2.2.trans (kL.get.1.mono zA.2.2.2)
    refine (hcp (B := B) (H_to t hc) (hagg b14.block) (tabW zA.1)).mono ?_
    rintro e w15 ⟨v15, rfl, hv15, hb15⟩
    have kM := Kept.mk (And.intro hv15 (And.intro hb15 (And.intro zA b14)))
    clear hv15 hb15 b14 zA c0 c1 c2 c3
    go_wp2_with fail
    obtain ⟨hv15, hb15, zA, b14⟩ := kM.get
    have z15 := hb15.size
    refine (hco (B := B) (vs := [v15]) (H_im t hs hc) (by rw [flat_ints]; exact ScdL_iff.2 fun x hx => by obtain ⟨i, _, rfl⟩ := List.mem_map.1 hx; trivial)
      (.vcons hv15 .vnil) (tabW (by omega))).mono ?_
    rintro e w16 ⟨v16, rfl, ho16, hb16⟩
    have hb1316 : Below w13.heap.size w13 w16 := (kL.get.1.trans (hb15.mono zA.2.1)).trans (hb16.mono (by omega))
    have z16 := hb16.size
    have kN := Kept.mk (And.intro ho16.d (And.intro hb1316 (And.intro z16 (And.intro z15 zA))))
    obtain ⟨a16, cap16, hv16, _⟩ := ho16
    rw [List.length_map] at hv16
    subst hv16
    clear hv15 hb15 zA b14 z15 hb16 hb1316 z16
    go_wp2_with fail
    obtain ⟨hd16, hb1316, z16, z15, zA⟩ := kN.get
    refine (hcp (B := B) (vs := [_, v4]) (H_eqI (vars [] t) (by omega)) (.vcons hd16 (.vcons ((kB.get.2.2.mono kL.get.2.1.block).mono hb1316.block) .vnil)) (tabW (by omega))).mono ?_
    rintro e w17 ⟨v17, rfl, hv17, hb17⟩
    cases hv17
    have kO := Kept.mk (hb1316.trans (hb17.mono hb1316.size))
    clear hd16 hb1316 z16 z15 zA hb17
    go_wp2_with fail
    refine (kheld.get w17 kO.get).mono ?_
    rintro e w18 ⟨rfl, hb18⟩
    have kP := Kept.mk hb18
    clear hb18
    go_wp2_with fail
    go_ret
    have h3 := kL.get.2.2
    have h4 := kA.get.2.2
    subst h4
    exact ⟨rfl, h3.trans (kP.get.mono (by have := kM.get.2.2.1; omega))⟩
  · rw [rest_neg (by omega)]
    have kB := Kept.mk below2
    clear below1 below2 hbox hb2
    go_wp2_with fail
    go_ret
    have := kA.get.2.2
    subst this
    exact ⟨rfl, kB.get⟩
end Q
end W
end
