import Derived.Test.YtnhdobhfebiggaaFFam
namespace W
set_option linter.unusedSimpArgs false
set_option linter.unusedVariables false
open Go HL
set_option linter.unusedVariables false
set_option maxRecDepth 100000
set_option maxHeartbeats 4000000
namespace Q
theorem sumC_zero {α : Type} {c : α → Nat} {l : List α} : sumC c l = 0 ↔ ∀ x ∈ l, c x = 0 := by
  induction l with
  | nil => simp [sumC]
  | cons x l ih => simp only [sumC, Nat.add_eq_zero_iff, ih, List.mem_cons, forall_eq_or_imp]
theorem sumC_le {α : Type} {c d : α → Nat} {l : List α} (h : ∀ x ∈ l, c x ≤ 1 + d x) : sumC c l ≤ l.length + sumC d l := by
  induction l with
  | nil => simp [sumC]
  | cons x l ih =>
    have h1 := h x (List.mem_cons_self ..)
    have h2 := ih (fun y hy => h y (List.mem_cons_of_mem _ hy))
    simp only [sumC, List.length_cons]
    omega
theorem addLoop {α β γ : Type} {l : List α} (hl : l.length ≤ lim) (c : α → Nat) {L : List β → Int → Int → Option γ} (mk : List β → Int → γ)
    (hL : ∀ (i k : Nat) (x : α) (out : List β), x ∈ l → ix l i = some x → out.length = i → (i : Int) < (l.length : Nat) → i < l.length → IntKind.i64.wrap ((i : Int) + 1) = ((i + 1 : Nat) : Int) → k + c x ≤ 2199023255552 → ∃ y, L out i k = L (out ++ [y]) ((i + 1 : Nat) : Int) ((k + c x : Nat) : Int))
    (hend : ∀ out (k : Nat), L out (l.length : Nat) k = some (mk out k)) (k : Nat) (hk : k + sumC c l ≤ 2199023255552) : ∃ out, L [] 0 k = some (mk out ((k + sumC c l : Nat) : Int)) := by
  have key : ∀ (n i k : Nat) (out : List β), i + n = l.length → out.length = i → k + sumC c (l.drop i) ≤ 2199023255552 → ∃ out', L out i k = some (mk out' ((k + sumC c (l.drop i) : Nat) : Int)) := by
    intro n
    induction n with
    | zero =>
      intro i k out h ho hk
      have : i = l.length := by omega
      subst this
      refine ⟨out, ?_⟩
      rw [hend, List.drop_length]
      rfl
    | succ n ih =>
      intro i k out h ho hk
      have hi : i < l.length := by omega
      have hx : l[i]? = some l[i] := List.getElem?_eq_getElem hi
      rw [List.drop_eq_getElem_cons hi] at hk ⊢
      simp only [sumC] at hk ⊢
      obtain ⟨y, hy⟩ := hL i k l[i] out (List.getElem_mem _) (ix_of hx) ho (by omega) hi (wrap_succ hi hl) (by omega)
      rw [hy]
      obtain ⟨o, h2⟩ := ih (i + 1) (k + c l[i]) (out ++ [y]) (by omega) (by simp [ho]) (by omega)
      refine ⟨o, ?_⟩
      rw [h2, Nat.add_assoc]
  simpa using key l.length 0 k [] (by omega) rfl (by simpa using hk)
open Classical in
theorem allLoop {α : Type} {l : List α} (hl : l.length ≤ lim) (q : α → Prop) {L : Int → Option (Sum Bool Unit)}
    (hL : ∀ (i : Nat) (x : α), x ∈ l → ix l i = some x → (i : Int) < (l.length : Nat) → IntKind.i64.wrap ((i : Int) + 1) = ((i + 1 : Nat) : Int) → L i = if q x then L ((i + 1 : Nat) : Int) else some (.inl false))
    (hend : L (l.length : Nat) = some (.inr ())) : L 0 = some (if ∀ x ∈ l, q x then .inr () else .inl false) := by
  have key : ∀ (n i : Nat), i + n = l.length → L i = some (if ∀ x ∈ l.drop i, q x then .inr () else .inl false) := by
    intro n
    induction n with
    | zero =>
      intro i h
      have : i = l.length := by omega
      subst this
      rw [hend, List.drop_length]
      simp
    | succ n ih =>
      intro i h
      have hi : i < l.length := by omega
      have hx : l[i]? = some l[i] := List.getElem?_eq_getElem hi
      rw [hL i _ (List.getElem_mem _) (ix_of hx) (by omega) (wrap_succ hi hl), List.drop_eq_getElem_cons hi]
      by_cases e : q l[i]
      · rw [if_pos e, ih (i + 1) (by omega)]
        simp only [List.mem_cons, forall_eq_or_imp, e, true_and]
      · rw [if_neg e, if_neg (fun h => e (h _ (List.mem_cons_self ..)))]
  simpa using key l.length 0 (by omega)
theorem anyLoop {α : Type} {l : List α} (hl : l.length ≤ lim) (q : α → Prop) [DecidablePred q] {L : Int → Option (Sum Int Unit)}
    (hL : ∀ (i : Nat) (x : α), x ∈ l → ix l i = some x → (i : Int) < (l.length : Nat) → IntKind.i64.wrap ((i : Int) + 1) = ((i + 1 : Nat) : Int) → L i = if q x then some (.inl i) else L ((i + 1 : Nat) : Int))
    (hend : L (l.length : Nat) = some (.inr ())) : (∃ j : Nat, L 0 = some (.inl j) ∧ ∃ x ∈ l, q x) ∨ (L 0 = some (.inr ()) ∧ ∀ x ∈ l, ¬ q x) := by
  have key : ∀ (n i : Nat), i + n = l.length → (∃ j : Nat, L i = some (.inl j) ∧ ∃ x ∈ l.drop i, q x) ∨ (L i = some (.inr ()) ∧ ∀ x ∈ l.drop i, ¬ q x) := by
    intro n
    induction n with
    | zero =>
      intro i h
      have : i = l.length := by omega
      subst this
      right
      rw [hend, List.drop_length]
      simp
    | succ n ih =>
      intro i h
      have hi : i < l.length := by omega
      have hx : l[i]? = some l[i] := List.getElem?_eq_getElem hi
      rw [hL i _ (List.getElem_mem _) (ix_of hx) (by omega) (wrap_succ hi hl), List.drop_eq_getElem_cons hi]
      by_cases e : q l[i]
      · rw [if_pos e]
        exact .inl ⟨i, rfl, _, List.mem_cons_self .., e⟩
      · rw [if_neg e]
        rcases ih (i + 1) (by omega) with ⟨j, h1, x, h2, h3⟩ | ⟨h1, h2⟩
        · exact .inl ⟨j, h1, x, List.mem_cons_of_mem _ h2, h3⟩
        · right
          refine ⟨h1, fun x hx => ?_⟩
          rcases List.mem_cons.1 hx with rfl | h
          · exact e
          · exact h2 x h
  simpa using key l.length 0 (by omega)

/-- does a Dec have Pars, or a Where? -/
def full (d : Dec) : Prop := 0 < d.Pars.length ∨ 0 < d.Where.length
instance (d : Dec) : Decidable (full d) := inferInstanceAs (Decidable (_ ∨ _))
theorem isFull (d : Dec) : M.impl_IsBare_1_1 d = some (decide (full d)) := by
  rw [M.impl_IsBare_1_1]; try dsimp only
  by_cases h : 0 < ((d.Pars.length : Nat) : Int)
  · rw [if_pos h, decide_eq_true (show full d from .inl (by omega))]
  · rw [if_neg h]
    by_cases h2 : 0 < d.Where.length
    · rw [decide_eq_true (show full d from .inr h2), decide_eq_true (by omega)]
    · rw [decide_eq_false (show ¬ full d from fun e => by rcases e with e | e <;> omega), decide_eq_false (by omega)]
open Classical in
theorem hasFull (e : Exp) (hl : e.Decs.length ≤ lim) : M.impl_IsBare_1 e = some (decide (∃ d ∈ e.Decs, full d)) := by
  rw [M.impl_IsBare_1, M.slices_ContainsFunc_impl_Dec_at_IsBare_1_1, M.slices_IndexFunc_impl_Dec_at_IsBare_1_1]
  rcases anyLoop (l := e.Decs) hl full (L := fun i => M.slices_IndexFunc_impl_Dec_at_IsBare_1_1_L0 (e.Decs, i)) (fun i x hx hix hi hw => by
    show M.slices_IndexFunc_impl_Dec_at_IsBare_1_1_L0 (e.Decs, i) = _
    rw [M.slices_IndexFunc_impl_Dec_at_IsBare_1_1_L0]; try dsimp only
    rw [if_pos hi, hix, bind_some', isFull, bind_some', hw]
    by_cases h : full x
    · rw [if_pos (decide_eq_true h), if_pos h]
    · rw [if_neg (by simpa using h), if_neg h]) (by
    show M.slices_IndexFunc_impl_Dec_at_IsBare_1_1_L0 (e.Decs, _) = _
    rw [M.slices_IndexFunc_impl_Dec_at_IsBare_1_1_L0]; try dsimp only
    rw [if_neg (by omega)]) with ⟨j, h1, h2⟩ | ⟨h1, h2⟩
  · have h1' : M.slices_IndexFunc_impl_Dec_at_IsBare_1_1_L0 (e.Decs, 0) = some (.inl j) := h1
    rw [h1', bind_some']; dsimp only
    rw [bind_some', bind_some', decide_eq_true h2, decide_eq_true (show (0 : Int) ≤ (j : Int) by omega)]
  · have h1' : M.slices_IndexFunc_impl_Dec_at_IsBare_1_1_L0 (e.Decs, 0) = some (.inr ()) := h1
    rw [h1', bind_some']; dsimp only
    rw [bind_some', bind_some', decide_eq_false (show ¬ ∃ d ∈ e.Decs, full d from fun ⟨d, h3, h4⟩ => h2 d h3 h4), decide_eq_false (show ¬ (0 : Int) ≤ -1 by omega)]
theorem clone (l : List ByteArray) (h : l.length ≤ grow) : M.slices_Clone_string l = some l := by
  rw [M.slices_Clone_string]
  by_cases e : l = []
  · rw [if_pos e, e]
  · rw [if_neg e, gd_t h, bind_some']

/-- how many are so -/
noncomputable def cnt (e : Exp) : Nat := ((M.impl_counted_at_IsBare_1 e).getD 0).toNat
noncomputable def cntW (l : List Dec) : Nat := ((M.impl_mappedDecs_at_counted_1_IsBare_1 (l, 0)).getD ([], 0)).2.toNat
open Classical in
def PE (e : Exp) : Prop := M.impl_counted_at_IsBare_1 e = some (cnt e : Int) ∧ cnt e ≤ 1 + e.cost ∧ M.spec_IsBare e = some (decide (cnt e = 0))
def PW (l : List Dec) : Prop := (∀ k : Nat, k + cntW l ≤ 2199023255552 → ∃ o, M.impl_mappedDecs_at_counted_1_IsBare_1 (l, (k : Int)) = some (o, ((k + cntW l : Nat) : Int))) ∧ cntW l ≤ l.length + sumC Dec.cost l
noncomputable def cD (d : Dec) : Nat := cnt d.E + cntW d.Where
def PD (d : Dec) : Prop := PE d.E ∧ PW d.Where

theorem counted1 {e : Exp} (h : PE e) (k : Nat) (hk : k + cnt e ≤ 2199023255552) : M.impl_counted_1_at_IsBare_1 (e, (k : Int)) = some (e, ((k + cnt e : Nat) : Int)) := by
  rw [M.impl_counted_1_at_IsBare_1]; try dsimp only
  rw [h.1, bind_some', wrap_ok (by omega)]
  congr 2
theorem decs_of (l : List Dec) (hl : l.length ≤ 1048576) (hc : l.length + sumC Dec.cost l ≤ 1048576) (hs : ∀ d ∈ l, d.small) (IH : ∀ d ∈ l, PD d) :
    (∀ k : Nat, k + sumC cD l ≤ 2199023255552 → ∃ o, M.impl_mappedDecs_at_counted_1_IsBare_1 (l, (k : Int)) = some (o, ((k + sumC cD l : Nat) : Int))) ∧ sumC cD l ≤ l.length + sumC Dec.cost l := by
  have hlim : lim = 140737488355328 := rfl
  have hgr : grow = 549755813888 := rfl
  have hb : ∀ d ∈ l, cD d ≤ 1 + d.cost := by
    intro d hd
    have h1 := (IH d hd).1.2.1
    have h2 := (IH d hd).2.2
    have h3 := Dec.cost_eq d
    unfold cD
    omega
  have hsum := sumC_le hb
  refine ⟨fun k hk => ?_, hsum⟩
  rw [M.impl_mappedDecs_at_counted_1_IsBare_1]; try dsimp only
  obtain ⟨o, h⟩ := addLoop (l := l) (by omega) cD (L := fun out i k => M.impl_mappedDecs_at_counted_1_IsBare_1_L0 (l, out, i, k)) (fun out k => (out, k)) (fun i k x out hx hix ho hi hi' hw hkx => by
    show ∃ y, M.impl_mappedDecs_at_counted_1_IsBare_1_L0 (l, out, (i : Int), (k : Int)) = M.impl_mappedDecs_at_counted_1_IsBare_1_L0 (l, _, _, _)
    rw [M.impl_mappedDecs_at_counted_1_IsBare_1_L0]; try dsimp only
    have hxc := sumC_mem (c := Dec.cost) hx
    have hxe := Dec.cost_eq x
    have hcx : cD x = cnt x.E + cntW x.Where := rfl
    obtain ⟨o2, h2⟩ := (IH x hx).2.1 (k + cnt x.E) (by omega)
    rw [if_pos hi, hix, bind_some', clone _ (by omega), bind_some', counted1 (IH x hx).1 k (by omega), bind_some', h2, bind_some', gd_t (by omega), bind_some', hw]
    exact ⟨Dec.mk x.Name x.Pars x.E o2, by rw [hcx, ← Nat.add_assoc]⟩) (fun out k => by
    show M.impl_mappedDecs_at_counted_1_IsBare_1_L0 (l, out, _, (k : Int)) = _
    rw [M.impl_mappedDecs_at_counted_1_IsBare_1_L0]; try dsimp only
    rw [if_neg (by omega)]) k (by omega)
  refine ⟨o, ?_⟩
  have h' : M.impl_mappedDecs_at_counted_1_IsBare_1_L0 (l, [], 0, (k : Int)) = some (o, ((k + sumC cD l : Nat) : Int)) := h
  rw [h', bind_some']
theorem cntW_eq (l : List Dec) (hl : l.length ≤ 1048576) (hc : l.length + sumC Dec.cost l ≤ 1048576) (hs : ∀ d ∈ l, d.small) (IH : ∀ d ∈ l, PD d) : cntW l = sumC cD l := by
  obtain ⟨h1, h2⟩ := decs_of l hl hc hs IH
  obtain ⟨o, h⟩ := h1 0 (by omega)
  have h' : M.impl_mappedDecs_at_counted_1_IsBare_1 (l, 0) = some (o, ((0 + sumC cD l : Nat) : Int)) := h
  unfold cntW
  rw [h']
  simp
theorem PW_of (l : List Dec) (hl : l.length ≤ 1048576) (hc : l.length + sumC Dec.cost l ≤ 1048576) (hs : ∀ d ∈ l, d.small) (IH : ∀ d ∈ l, PD d) : PW l := by
  have h := decs_of l hl hc hs IH
  unfold PW
  rw [cntW_eq l hl hc hs IH]
  exact h
theorem clean {l : List Dec} (hf : ¬ ∃ d ∈ l, full d) : ∀ d ∈ l, d.Pars.length = 0 ∧ d.Where.length = 0 := fun d hd => by
  have : ¬ full d := fun h => hf ⟨d, hd, h⟩
  unfold full at this
  omega
open Classical in
theorem l11Is (l : List Dec) (hl : l.length ≤ lim) (IH : ∀ d ∈ l, PE d.E) : M.spec_l11Is l = some (decide (∀ d ∈ l, ¬ full d ∧ cnt d.E = 0)) := by
  rw [M.spec_l11Is]
  have h : M.spec_l11Is_L0 (l, 0) = _ := allLoop hl (fun d => ¬ full d ∧ cnt d.E = 0) (L := fun i => M.spec_l11Is_L0 (l, i)) (fun i x hx hix hi hw => by
    show M.spec_l11Is_L0 (l, i) = _
    rw [M.spec_l11Is_L0]; try dsimp only
    rw [if_pos hi, hix, bind_some', hw]
    by_cases h1 : 0 < ((x.Pars.length : Nat) : Int)
    · rw [if_pos h1, if_neg (fun h => h.1 (.inl (by omega)))]
    rw [if_neg h1]
    by_cases h2 : 0 < ((x.Where.length : Nat) : Int)
    · rw [if_pos h2, if_neg (fun h => h.1 (.inr (by omega)))]
    rw [if_neg h2, (IH x hx).2.2, bind_some']
    have hf : ¬ full x := fun h => by rcases h with h | h <;> omega
    by_cases h3 : cnt x.E = 0
    · rw [if_pos (decide_eq_true h3), if_pos ⟨hf, h3⟩]
    · rw [if_neg (by simpa using h3), if_neg (fun h => h3 h.2)]) (by
    show M.spec_l11Is_L0 (l, _) = _
    rw [M.spec_l11Is_L0]; try dsimp only
    rw [if_neg (by omega)])
  rw [h, bind_some']
  by_cases e : ∀ d ∈ l, ¬ full d ∧ cnt d.E = 0
  · rw [if_pos e, decide_eq_true e]
  · rw [if_neg e, decide_eq_false e]
/-- what an Exp's parts count -/
noncomputable def tot (e : Exp) : Nat := sumC cnt e.L + sumC cD e.Decs + sumC (fun a : Alt => cnt a.E) e.Alts
theorem mappedE (e : Exp) (hs : e.small) (hc : e.cost ≤ 1048576) (i1 : ∀ x ∈ e.L, PE x) (i2 : ∀ d ∈ e.Decs, PD d) (i3 : ∀ a ∈ e.Alts, PE a.E) (k : Nat) (hk : k ≤ 1) :
    ∃ o, M.impl_mapped_at_counted_1_IsBare_1 (e, (k : Int)) = some (o, ((k + tot e : Nat) : Int)) := by
  have hlim : lim = 140737488355328 := rfl
  have hgr : grow = 549755813888 := rfl
  obtain ⟨q1, q2, q3, q4, q5, q6, q7⟩ := (Exp.small_eq e).1 hs
  have hce := Exp.cost_eq e
  have b1 : sumC cnt e.L ≤ e.L.length + sumC Exp.cost e.L := sumC_le fun x hx => (i1 x hx).2.1
  have b3 : sumC (fun a : Alt => cnt a.E) e.Alts ≤ e.Alts.length + sumC Alt.cost e.Alts := sumC_le fun a ha => by
    have := (i3 a ha).2.1
    have := Alt.cost_eq a
    omega
  obtain ⟨d1, b2⟩ := decs_of e.Decs (by omega) (by omega) q5 i2
  rw [M.impl_mapped_at_counted_1_IsBare_1]; try dsimp only
  obtain ⟨o1, h1⟩ := addLoop (l := e.L) (by omega) cnt (L := fun (out : List Exp) i k => M.impl_mapped_at_counted_1_IsBare_1_L0 (e, i, k, out)) (fun out k => (k, out)) (fun i k x out hx hix ho hi hi' hw hkx => by
    show ∃ y, M.impl_mapped_at_counted_1_IsBare_1_L0 (e, (i : Int), (k : Int), out) = M.impl_mapped_at_counted_1_IsBare_1_L0 (e, _, _, _)
    rw [M.impl_mapped_at_counted_1_IsBare_1_L0]; try dsimp only
    rw [if_pos hi, hix, bind_some', counted1 (i1 x hx) k (by omega), bind_some', gd_t (by omega), bind_some', hw]
    exact ⟨_, rfl⟩) (fun out k => by
    show M.impl_mapped_at_counted_1_IsBare_1_L0 (e, _, (k : Int), out) = _
    rw [M.impl_mapped_at_counted_1_IsBare_1_L0]; try dsimp only
    rw [if_neg (by omega)]) k (by omega)
  have h1' : M.impl_mapped_at_counted_1_IsBare_1_L0 (e, 0, (k : Int), []) = some (((k + sumC cnt e.L : Nat) : Int), o1) := h1
  rw [h1', bind_some']; try dsimp only
  obtain ⟨o2, h2⟩ := d1 (k + sumC cnt e.L) (by omega)
  rw [h2, bind_some']; try dsimp only
  generalize hG : (((k + sumC cnt e.L : Nat) : Int), o1) = g1
  generalize hG2 : (o2, ((k + sumC cnt e.L + sumC cD e.Decs : Nat) : Int)) = g2
  obtain ⟨o3, h3⟩ := addLoop (l := e.Alts) (by omega) (fun a : Alt => cnt a.E) (L := fun (out : List Alt) i k => M.impl_mapped_at_counted_1_IsBare_1_L1 (e, g1, g2, i, k, out)) (fun out k => (k, out)) (fun i k x out hx hix ho hi hi' hw hkx => by
    show ∃ y, M.impl_mapped_at_counted_1_IsBare_1_L1 (e, g1, g2, (i : Int), (k : Int), out) = M.impl_mapped_at_counted_1_IsBare_1_L1 (e, g1, g2, _, _, _)
    rw [M.impl_mapped_at_counted_1_IsBare_1_L1]; try dsimp only
    have hxc := sumC_mem (c := Alt.cost) hx
    have hxe := Alt.cost_eq x
    rw [if_pos hi, hix, bind_some', clone _ (by omega), bind_some', counted1 (i3 x hx) k (by omega), bind_some', gd_t (by omega), bind_some', hw]
    exact ⟨_, rfl⟩) (fun out k => by
    show M.impl_mapped_at_counted_1_IsBare_1_L1 (e, g1, g2, _, (k : Int), out) = _
    rw [M.impl_mapped_at_counted_1_IsBare_1_L1]; try dsimp only
    rw [if_neg (by omega)]) (k + sumC cnt e.L + sumC cD e.Decs) (by omega)
  have h3' : M.impl_mapped_at_counted_1_IsBare_1_L1 (e, g1, g2, 0, ((k + sumC cnt e.L + sumC cD e.Decs : Nat) : Int), []) = some (((k + sumC cnt e.L + sumC cD e.Decs + sumC (fun a : Alt => cnt a.E) e.Alts : Nat) : Int), o3) := h3
  rw [h3', bind_some', show k + tot e = k + sumC cnt e.L + sumC cD e.Decs + sumC (fun a : Alt => cnt a.E) e.Alts by unfold tot; omega]
  exact ⟨Exp.mk e.K e.S e.N o1 o2 o3, rfl⟩
open Classical in
theorem PE_of (e : Exp) (hs : e.small) (hc : e.cost ≤ 1048576) (i1 : ∀ x ∈ e.L, PE x) (i2 : ∀ d ∈ e.Decs, PD d) (i3 : ∀ a ∈ e.Alts, PE a.E) : PE e := by
  have hlim : lim = 140737488355328 := rfl
  obtain ⟨q1, q2, q3, q4, q5, q6, q7⟩ := (Exp.small_eq e).1 hs
  have hce := Exp.cost_eq e
  have b1 : sumC cnt e.L ≤ e.L.length + sumC Exp.cost e.L := sumC_le fun x hx => (i1 x hx).2.1
  have b3 : sumC (fun a : Alt => cnt a.E) e.Alts ≤ e.Alts.length + sumC Alt.cost e.Alts := sumC_le fun a ha => by
    have := (i3 a ha).2.1
    have := Alt.cost_eq a
    omega
  obtain ⟨_, b2⟩ := decs_of e.Decs (by omega) (by omega) q5 i2
  have hcount : M.impl_counted_at_IsBare_1 e = some (((if ∃ d ∈ e.Decs, full d then 1 else 0) + tot e : Nat) : Int) := by
    rw [M.impl_counted_at_IsBare_1, hasFull e (by omega), bind_some']
    by_cases h : ∃ d ∈ e.Decs, full d
    · obtain ⟨o, h1⟩ := mappedE e hs hc i1 i2 i3 1 (by omega)
      have h1' : M.impl_mapped_at_counted_1_IsBare_1 (e, 1) = some (o, ((1 + tot e : Nat) : Int)) := h1
      rw [if_pos (decide_eq_true h), if_pos h, h1', bind_some']
    · obtain ⟨o, h1⟩ := mappedE e hs hc i1 i2 i3 0 (by omega)
      have h1' : M.impl_mapped_at_counted_1_IsBare_1 (e, 0) = some (o, ((0 + tot e : Nat) : Int)) := h1
      rw [if_neg (by simpa using h), if_neg h, h1', bind_some']
  have hcnt : cnt e = (if ∃ d ∈ e.Decs, full d then 1 else 0) + tot e := by
    unfold cnt
    rw [hcount]
    exact Int.toNat_natCast _
  have hle : (if ∃ d ∈ e.Decs, full d then 1 else 0) ≤ 1 := by split <;> omega
  refine ⟨by rw [hcnt]; exact hcount, by rw [hcnt]; unfold tot; omega, ?_⟩
  rw [M.spec_IsBare]
  have h1 : M.spec_IsBare_L0 (e, 0) = _ := allLoop (l := e.L) (by omega) (fun x => cnt x = 0) (L := fun i => M.spec_IsBare_L0 (e, i)) (fun i x hx hix hi hw => by
    show M.spec_IsBare_L0 (e, i) = _
    rw [M.spec_IsBare_L0]; try dsimp only
    rw [if_pos hi, hix, bind_some', hw, (i1 x hx).2.2, bind_some']
    by_cases h3 : cnt x = 0
    · rw [if_pos (decide_eq_true h3), if_pos h3]
    · rw [if_neg (by simpa using h3), if_neg h3]) (by
    show M.spec_IsBare_L0 (e, _) = _
    rw [M.spec_IsBare_L0]; try dsimp only
    rw [if_neg (by omega)])
  rw [h1, bind_some']
  by_cases c1 : ∀ x ∈ e.L, cnt x = 0
  rotate_left
  · rw [if_neg c1]; dsimp only
    rw [decide_eq_false (fun h => c1 (sumC_zero.1 (by rw [hcnt] at h; unfold tot at h; omega)))]
  rw [if_pos c1]; dsimp only
  have h2 : M.spec_IsBare_L1 (e, 0) = _ := allLoop (l := e.Alts) (by omega) (fun x => cnt x.E = 0) (L := fun i => M.spec_IsBare_L1 (e, i)) (fun i x hx hix hi hw => by
    show M.spec_IsBare_L1 (e, i) = _
    rw [M.spec_IsBare_L1]; try dsimp only
    rw [if_pos hi, hix, bind_some', hw, (i3 x hx).2.2, bind_some']
    by_cases h3 : cnt x.E = 0
    · rw [if_pos (decide_eq_true h3), if_pos h3]
    · rw [if_neg (by simpa using h3), if_neg h3]) (by
    show M.spec_IsBare_L1 (e, _) = _
    rw [M.spec_IsBare_L1]; try dsimp only
    rw [if_neg (by omega)])
  rw [h2, bind_some']
  by_cases c2 : ∀ x ∈ e.Alts, cnt x.E = 0
  rotate_left
  · rw [if_neg c2]; dsimp only
    rw [decide_eq_false (fun h => c2 (sumC_zero.1 (by rw [hcnt] at h; unfold tot at h; omega)))]
  rw [if_pos c2]; dsimp only
  rw [l11Is e.Decs (by omega) (fun d hd => (i2 d hd).1), bind_some']
  congr 1
  apply decide_eq_decide.2
  rw [hcnt]
  have t1 : sumC cnt e.L = 0 := sumC_zero.2 c1
  have t3 : sumC (fun a : Alt => cnt a.E) e.Alts = 0 := sumC_zero.2 c2
  by_cases h : ∃ d ∈ e.Decs, full d
  · rw [if_pos h]
    obtain ⟨d, h3, h4⟩ := h
    exact ⟨fun h5 => absurd h4 (h5 d h3).1, fun h5 => by omega⟩
  · rw [if_neg h]
    have hcl := clean h
    have hw0 : ∀ d ∈ e.Decs, cD d = cnt d.E := fun d hd => by
      have e0 : d.Where = [] := List.eq_nil_of_length_eq_zero (hcl d hd).2
      have : cntW [] = 0 := by rw [cntW_eq [] (by simp) (by simp [sumC]) (by simp) (by simp)]; rfl
      unfold cD
      rw [e0, this]
      rfl
    unfold tot
    rw [t1, t3]
    constructor
    · intro h5
      have : sumC cD e.Decs = 0 := sumC_zero.2 fun d hd => by rw [hw0 d hd]; exact (h5 d hd).2
      omega
    · intro h5 d hd
      refine ⟨fun h6 => h ⟨d, hd, h6⟩, ?_⟩
      rw [← hw0 d hd]
      exact sumC_zero.1 (by omega) d hd
theorem bare_all : (∀ t : Exp, t.small → t.cost ≤ 1048576 → PE t) ∧ (∀ d : Dec, d.small → d.cost ≤ 1048576 → PD d) ∧ (∀ a : Alt, a.small → a.cost ≤ 1048576 → PE a.E) := by
  have hA : ∀ t : Alt, (t.E.small → t.E.cost ≤ 1048576 → PE t.E) → (t.small → t.cost ≤ 1048576 → PE t.E) := by
    intro t ih hs hc
    have := Alt.cost_eq t
    exact ih ((Alt.small_eq t).1 hs).2.2 (by omega)
  have hD : ∀ t : Dec, (t.E.small → t.E.cost ≤ 1048576 → PE t.E) → (∀ x ∈ t.Where, x.small → x.cost ≤ 1048576 → PD x) → (t.small → t.cost ≤ 1048576 → PD t) := by
    intro t ih ihw hs hc
    have hce := Dec.cost_eq t
    obtain ⟨q1, q2, q3, q4, q5⟩ := (Dec.small_eq t).1 hs
    exact ⟨ih q3 (by omega), PW_of t.Where (by omega) (by omega) q5 fun d hd => ihw d hd (q5 d hd) (by have := sumC_mem (c := Dec.cost) hd; omega)⟩
  have hE : ∀ t : Exp, (∀ x ∈ t.L, x.small → x.cost ≤ 1048576 → PE x) → (∀ x ∈ t.Decs, x.small → x.cost ≤ 1048576 → PD x) → (∀ x ∈ t.Alts, x.small → x.cost ≤ 1048576 → PE x.E) → t.small → t.cost ≤ 1048576 → PE t := by
    intro t i1 i2 i3 hs hc
    have hce := Exp.cost_eq t
    obtain ⟨q1, q2, q3, q4, q5, q6, q7⟩ := (Exp.small_eq t).1 hs
    exact PE_of t hs hc (fun x hx => i1 x hx (q3 x hx) (by have := sumC_mem (c := Exp.cost) hx; omega)) (fun x hx => i2 x hx (q5 x hx) (by have := sumC_mem (c := Dec.cost) hx; omega))
      (fun x hx => i3 x hx (q7 x hx) (by have := sumC_mem (c := Alt.cost) hx; omega))
  exact ⟨fun t => Exp.ind hA hD hE t, fun t => Dec.ind hA hD hE t, fun t => Alt.ind hA hD hE t⟩
theorem lawIsBare (a : Exp) (ha : a.small) : M.laws_FnExactIsBare a = some true := by
  rw [M.laws_FnExactIsBare]; try dsimp only
  rw [szExp a ha 1048576 (by omega) (by omega), bind_some']
  by_cases h1 : (a.cost : Int) ≤ 1048576
  rotate_left
  · rw [rest_neg h1, if_pos (by omega)]
  rw [rest_pos h1, if_neg (by omega)]
  obtain ⟨p1, _, p2⟩ := bare_all.1 a ha (by omega)
  have hi : M.impl_IsBare a = some (decide (cnt a = 0)) := by
    rw [M.impl_IsBare, p1, bind_some']
    congr 1
    apply decide_eq_decide.2
    omega
  rw [toExp a (by omega), bind_some', p2, bind_some', bind_some', hi, bind_some', if_pos (by simp), bind_some', eqExp a ha a, bind_some', if_pos (by simp)]
end Q
end W
