import Derived.Test.YtnhdobhfebiggaaELaw2
namespace W
open Go HL
set_option linter.unusedVariables false
set_option maxRecDepth 100000
set_option maxHeartbeats 4000000
namespace Q
open Classical
theorem eqf_Ty (l l' : List Ty) (hl : l.length ≤ lim) (IH : ∀ x ∈ l, ∀ y, M.impl_SameTy (x, y) = some (decide (x = y))) : M.slices_EqualFunc_impl_Ty_at_SameTy (l, l') = some (decide (l = l')) := by
  rw [M.slices_EqualFunc_impl_Ty_at_SameTy]; try dsimp only
  by_cases hlen : l.length = l'.length
  rotate_left
  · rw [if_neg (by omega), decide_eq_false (fun e => hlen (by rw [e]))]
  rw [if_pos (by omega)]
  have hloop : M.slices_EqualFunc_impl_Ty_at_SameTy_L0 (l', l, 0) = _ := eqLoop hl hlen (L := fun i => M.slices_EqualFunc_impl_Ty_at_SameTy_L0 (l', l, i)) (fun i x y hx hy hix hiy hi hw => by
    show M.slices_EqualFunc_impl_Ty_at_SameTy_L0 (l', l, i) = _
    rw [M.slices_EqualFunc_impl_Ty_at_SameTy_L0]; try dsimp only
    rw [if_pos hi, hix, bind_some', hiy, bind_some', IH x (List.mem_of_getElem? hx) y, bind_some', hw]
    by_cases e : x = y
    · rw [if_pos (decide_eq_true e), if_pos e]
    · rw [if_neg (by simpa using e), if_neg e]) (by
    show M.slices_EqualFunc_impl_Ty_at_SameTy_L0 (l', l, _) = _
    rw [M.slices_EqualFunc_impl_Ty_at_SameTy_L0]; try dsimp only
    rw [if_neg (by omega)])
  rw [hloop, bind_some']
  by_cases e : l = l'
  · rw [if_pos e, decide_eq_true e]
  · rw [if_neg e, decide_eq_false e]
theorem eqf_Con (l l' : List Con) (hl : l.length ≤ lim) (IH : ∀ x ∈ l, ∀ y, M.impl_sameCon (x, y) = some (decide (x = y))) : M.slices_EqualFunc_impl_Con_at_sameCon (l, l') = some (decide (l = l')) := by
  rw [M.slices_EqualFunc_impl_Con_at_sameCon]; try dsimp only
  by_cases hlen : l.length = l'.length
  rotate_left
  · rw [if_neg (by omega), decide_eq_false (fun e => hlen (by rw [e]))]
  rw [if_pos (by omega)]
  have hloop : M.slices_EqualFunc_impl_Con_at_sameCon_L0 (l', l, 0) = _ := eqLoop hl hlen (L := fun i => M.slices_EqualFunc_impl_Con_at_sameCon_L0 (l', l, i)) (fun i x y hx hy hix hiy hi hw => by
    show M.slices_EqualFunc_impl_Con_at_sameCon_L0 (l', l, i) = _
    rw [M.slices_EqualFunc_impl_Con_at_sameCon_L0]; try dsimp only
    rw [if_pos hi, hix, bind_some', hiy, bind_some', IH x (List.mem_of_getElem? hx) y, bind_some', hw]
    by_cases e : x = y
    · rw [if_pos (decide_eq_true e), if_pos e]
    · rw [if_neg (by simpa using e), if_neg e]) (by
    show M.slices_EqualFunc_impl_Con_at_sameCon_L0 (l', l, _) = _
    rw [M.slices_EqualFunc_impl_Con_at_sameCon_L0]; try dsimp only
    rw [if_neg (by omega)])
  rw [hloop, bind_some']
  by_cases e : l = l'
  · rw [if_pos e, decide_eq_true e]
  · rw [if_neg e, decide_eq_false e]
theorem eqf_Data (l l' : List Data) (hl : l.length ≤ lim) (IH : ∀ x ∈ l, ∀ y, M.impl_sameData (x, y) = some (decide (x = y))) : M.slices_EqualFunc_impl_Data_at_sameData (l, l') = some (decide (l = l')) := by
  rw [M.slices_EqualFunc_impl_Data_at_sameData]; try dsimp only
  by_cases hlen : l.length = l'.length
  rotate_left
  · rw [if_neg (by omega), decide_eq_false (fun e => hlen (by rw [e]))]
  rw [if_pos (by omega)]
  have hloop : M.slices_EqualFunc_impl_Data_at_sameData_L0 (l', l, 0) = _ := eqLoop hl hlen (L := fun i => M.slices_EqualFunc_impl_Data_at_sameData_L0 (l', l, i)) (fun i x y hx hy hix hiy hi hw => by
    show M.slices_EqualFunc_impl_Data_at_sameData_L0 (l', l, i) = _
    rw [M.slices_EqualFunc_impl_Data_at_sameData_L0]; try dsimp only
    rw [if_pos hi, hix, bind_some', hiy, bind_some', IH x (List.mem_of_getElem? hx) y, bind_some', hw]
    by_cases e : x = y
    · rw [if_pos (decide_eq_true e), if_pos e]
    · rw [if_neg (by simpa using e), if_neg e]) (by
    show M.slices_EqualFunc_impl_Data_at_sameData_L0 (l', l, _) = _
    rw [M.slices_EqualFunc_impl_Data_at_sameData_L0]; try dsimp only
    rw [if_neg (by omega)])
  rw [hloop, bind_some']
  by_cases e : l = l'
  · rw [if_pos e, decide_eq_true e]
  · rw [if_neg e, decide_eq_false e]
theorem eqf_Dec (l l' : List Dec) (hl : l.length ≤ lim) (IH : ∀ x ∈ l, ∀ y, M.impl_sameDec (x, y) = some (decide (x = y))) : M.slices_EqualFunc_impl_Dec_at_sameDec (l, l') = some (decide (l = l')) := by
  rw [M.slices_EqualFunc_impl_Dec_at_sameDec]; try dsimp only
  by_cases hlen : l.length = l'.length
  rotate_left
  · rw [if_neg (by omega), decide_eq_false (fun e => hlen (by rw [e]))]
  rw [if_pos (by omega)]
  have hloop : M.slices_EqualFunc_impl_Dec_at_sameDec_L0 (l', l, 0) = _ := eqLoop hl hlen (L := fun i => M.slices_EqualFunc_impl_Dec_at_sameDec_L0 (l', l, i)) (fun i x y hx hy hix hiy hi hw => by
    show M.slices_EqualFunc_impl_Dec_at_sameDec_L0 (l', l, i) = _
    rw [M.slices_EqualFunc_impl_Dec_at_sameDec_L0]; try dsimp only
    rw [if_pos hi, hix, bind_some', hiy, bind_some', IH x (List.mem_of_getElem? hx) y, bind_some', hw]
    by_cases e : x = y
    · rw [if_pos (decide_eq_true e), if_pos e]
    · rw [if_neg (by simpa using e), if_neg e]) (by
    show M.slices_EqualFunc_impl_Dec_at_sameDec_L0 (l', l, _) = _
    rw [M.slices_EqualFunc_impl_Dec_at_sameDec_L0]; try dsimp only
    rw [if_neg (by omega)])
  rw [hloop, bind_some']
  by_cases e : l = l'
  · rw [if_pos e, decide_eq_true e]
  · rw [if_neg e, decide_eq_false e]
theorem implSameCon (c d : Con) (hc : c.small) : M.impl_sameCon (c, d) = some (decide (c = d)) := by
  obtain ⟨_, hl, hm⟩ := (Con.small_eq c).1 hc
  rw [M.impl_sameCon]; try dsimp only
  by_cases h1 : c.Name = d.Name
  rotate_left
  · rw [if_neg h1, decide_eq_false (fun e => h1 (by rw [e]))]
  rw [if_pos h1, eqf_Ty _ _ hl (fun x hx y => implSameTy x (hm x hx) y), bind_some']
  by_cases e : c.Args = d.Args
  · rw [decide_eq_true e, decide_eq_true (Con.ext' h1 e)]
  · rw [decide_eq_false e, decide_eq_false (fun e' => e (by rw [e']))]
theorem implSameData (c d : Data) (hc : c.small) : M.impl_sameData (c, d) = some (decide (c = d)) := by
  obtain ⟨_, hl, hm⟩ := (Data.small_eq c).1 hc
  rw [M.impl_sameData]; try dsimp only
  by_cases h1 : c.Name = d.Name
  rotate_left
  · rw [if_neg h1, decide_eq_false (fun e => h1 (by rw [e]))]
  rw [if_pos h1, eqf_Con _ _ hl (fun x hx y => implSameCon x y (hm x hx)), bind_some']
  by_cases e : c.Cons = d.Cons
  · rw [decide_eq_true e, decide_eq_true (Data.ext' h1 e)]
  · rw [decide_eq_false e, decide_eq_false (fun e' => e (by rw [e']))]
theorem implSameProg (c d : Prog) (hc : c.small) : M.impl_SameProg (c, d) = some (decide (c = d)) := by
  obtain ⟨hl, hm, hl2, hm2⟩ := (Prog.small_eq c).1 hc
  rw [M.impl_SameProg]; try dsimp only
  rw [eqf_Data _ _ hl (fun x hx y => implSameData x y (hm x hx)), bind_some']
  by_cases h1 : c.Datas = d.Datas
  rotate_left
  · rw [if_neg (by simpa using h1), decide_eq_false (fun e => h1 (by rw [e]))]
  rw [if_pos (decide_eq_true h1), eqf_Dec _ _ hl2 (fun x hx y => implSame_all.2.1 x (hm2 x hx) y), bind_some']
  by_cases e : c.Decs = d.Decs
  · rw [decide_eq_true e, decide_eq_true (Prog.ext' h1 e)]
  · rw [decide_eq_false e, decide_eq_false (fun e' => e (by rw [e']))]
theorem specSameData (c d : Data) (hc : c.small) : M.spec_l3SameData (c, d) = some (decide (c = d)) := by
  obtain ⟨_, hl, hm⟩ := (Data.small_eq c).1 hc
  rw [M.spec_l3SameData]; try dsimp only
  by_cases h1 : c.Name = d.Name
  rotate_left
  · rw [if_neg h1, decide_eq_false (fun e => h1 (by rw [e]))]
  rw [if_pos h1]
  by_cases hlen : c.Cons.length = d.Cons.length
  rotate_left
  · rw [if_neg (by omega), decide_eq_false (fun e => hlen (by rw [e]))]
  rw [if_pos (by omega)]
  have hloop : M.spec_l3SameData_L0 (c, d, 0) = _ := eqLoop hl hlen (L := fun i => M.spec_l3SameData_L0 (c, d, i)) (fun i x y hx hy hix hiy hi hw => by
    show M.spec_l3SameData_L0 (c, d, i) = _
    rw [M.spec_l3SameData_L0]; try dsimp only
    have hxs := (Con.small_eq x).1 (hm x (List.mem_of_getElem? hx))
    rw [if_pos hi, hix, bind_some', hiy, bind_some', hw]
    by_cases e1 : x.Name = y.Name
    rotate_left
    · rw [if_neg e1, if_neg (fun e => e1 (by rw [e]))]
    rw [if_pos e1]
    by_cases e2 : x.Args.length = y.Args.length
    rotate_left
    · rw [if_neg (by omega), if_neg (fun e => e2 (by rw [e]))]
    rw [if_pos (by omega)]
    have h2 : M.spec_l3SameData_L1 (i, c, d, 0) = _ := eqLoop hxs.2.1 e2 (L := fun j => M.spec_l3SameData_L1 (i, c, d, j)) (fun j a b ha hb hja hjb hj hw => by
      show M.spec_l3SameData_L1 (i, c, d, j) = _
      rw [M.spec_l3SameData_L1]; try dsimp only
      rw [hix, bind_some', if_pos hj, hja, bind_some', hiy, bind_some', hjb, bind_some', specSameTy a (hxs.2.2 a (List.mem_of_getElem? ha)) b, bind_some', hw]
      by_cases e : a = b
      · rw [if_pos (decide_eq_true e), if_pos e]
      · rw [if_neg (by simpa using e), if_neg e]) (by
      show M.spec_l3SameData_L1 (i, c, d, _) = _
      rw [M.spec_l3SameData_L1]; try dsimp only
      rw [hix, bind_some', if_neg (by omega)])
    rw [h2, bind_some']
    by_cases e3 : x.Args = y.Args
    · rw [if_pos e3, if_pos (Con.ext' e1 e3)]
    · rw [if_neg e3, if_neg (fun e => e3 (by rw [e]))]) (by
    show M.spec_l3SameData_L0 (c, d, _) = _
    rw [M.spec_l3SameData_L0]; try dsimp only
    rw [if_neg (by omega)])
  rw [hloop, bind_some']
  by_cases e : c.Cons = d.Cons
  · rw [if_pos e, decide_eq_true (Data.ext' h1 e)]
  · rw [if_neg e, decide_eq_false (fun e' => e (by rw [e']))]
theorem specSameProg (c d : Prog) (hc : c.small) : M.spec_SameProg (c, d) = some (decide (c = d)) := by
  obtain ⟨hl, hm, hl2, hm2⟩ := (Prog.small_eq c).1 hc
  rw [M.spec_SameProg]; try dsimp only
  by_cases hlen : c.Datas.length = d.Datas.length
  rotate_left
  · rw [if_neg (by omega), decide_eq_false (fun e => hlen (by rw [e]))]
  rw [if_pos (by omega)]
  have hloop : M.spec_SameProg_L0 (c, d, 0) = _ := eqLoop hl hlen (L := fun i => M.spec_SameProg_L0 (c, d, i)) (fun i x y hx hy hix hiy hi hw => by
    show M.spec_SameProg_L0 (c, d, i) = _
    rw [M.spec_SameProg_L0]; try dsimp only
    rw [if_pos hi, hix, bind_some', hiy, bind_some', specSameData x y (hm x (List.mem_of_getElem? hx)), bind_some', hw]
    by_cases e : x = y
    · rw [if_pos (decide_eq_true e), if_pos e]
    · rw [if_neg (by simpa using e), if_neg e]) (by
    show M.spec_SameProg_L0 (c, d, _) = _
    rw [M.spec_SameProg_L0]; try dsimp only
    rw [if_neg (by omega)])
  rw [hloop, bind_some']
  by_cases e : c.Datas = d.Datas
  rotate_left
  · rw [if_neg e, decide_eq_false (fun e' => e (by rw [e']))]
  rw [if_pos e]
  dsimp only
  rw [specSameDecs_of _ _ hl2 hm2 (fun x hx => specSame_all.2.1 x (hm2 x hx)), bind_some']
  by_cases e2 : c.Decs = d.Decs
  · rw [decide_eq_true e2, decide_eq_true (Prog.ext' e e2)]
  · rw [decide_eq_false e2, decide_eq_false (fun e' => e2 (by rw [e']))]
theorem lawSameProg (a b : Prog) (ha : a.small) (hb : b.small) : M.laws_FnExactSameProg (a, b) = some true := by
  rw [M.laws_FnExactSameProg]; try dsimp only
  rw [szProg a ha 1048576 (by omega) (by omega), bind_some']
  by_cases h1 : (a.cost : Int) ≤ 1048576
  rotate_left
  · rw [rest_neg h1, if_pos (by omega)]
  rw [rest_pos h1, if_neg (by omega)]
  rw [szProg b hb _ (by omega) (by omega), bind_some']
  by_cases h2 : (b.cost : Int) ≤ 1048576 - (a.cost : Int)
  rotate_left
  · rw [rest_neg h2, if_pos (by omega)]
  rw [rest_pos h2, if_neg (by omega)]
  rw [toProg a (by omega), bind_some', toProg b (by omega), bind_some', specSameProg a b ha, bind_some', bind_some', bind_some', implSameProg a b ha, bind_some', if_pos (by simp), bind_some', eqProg a ha a, bind_some', if_pos (by simp), bind_some', eqProg b hb b, bind_some', if_pos (by simp)]
end Q
end W
