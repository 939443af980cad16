import Derived.Test.YtnhdobhfebiggaaELaw
namespace W
open Go HL
set_option linter.unusedVariables false
set_option maxRecDepth 100000
set_option maxHeartbeats 4000000
namespace Q
open Classical in
theorem specSameDecs_of (l l' : List Dec) (hl : l.length ≤ lim) (hs : ∀ x ∈ l, x.small) (IH : ∀ x ∈ l, (∀ u : Exp, M.spec_SameExp (x.E, u) = some (decide (x.E = u))) ∧ ∀ w, M.spec_l3SameDecs (x.Where, w) = some (decide (x.Where = w))) :
    M.spec_l3SameDecs (l, l') = some (decide (l = l')) := by
  rw [M.spec_l3SameDecs]; try dsimp only
  by_cases hlen : l.length = l'.length
  rotate_left
  · rw [if_neg (by omega)]
    rw [decide_eq_false (fun e => hlen (by rw [e]))]
  rw [if_pos (by omega)]
  have hloop : M.spec_l3SameDecs_L0 (l, l', 0) = _ := eqLoop hl hlen (L := fun i => M.spec_l3SameDecs_L0 (l, l', i)) (fun i x y hx hy hix hiy hi hw => by
    show M.spec_l3SameDecs_L0 (l, l', i) = _
    rw [M.spec_l3SameDecs_L0]; try dsimp only
    have hxm := List.mem_of_getElem? hx
    obtain ⟨i1, i2⟩ := IH x hxm
    obtain ⟨q1, q2, q3, q4, q5⟩ := (Dec.small_eq x).1 (hs x hxm)
    rw [if_pos hi, hix, bind_some', hiy, bind_some']
    by_cases h1 : x.Name = y.Name
    rotate_left
    · rw [if_neg h1, if_neg (fun e => h1 (by rw [e]))]
    rw [if_pos h1, specSameTexts _ _ q2.1, bind_some']
    by_cases h2 : x.Pars = y.Pars
    rotate_left
    · rw [if_neg (by simpa using h2), if_neg (fun e => h2 (by rw [e]))]
    rw [if_pos (decide_eq_true h2), i1, bind_some']
    by_cases h3 : x.E = y.E
    rotate_left
    · rw [if_neg (by simpa using h3), if_neg (fun e => h3 (by rw [e]))]
    rw [if_pos (decide_eq_true h3), i2, bind_some']
    by_cases h4 : x.Where = y.Where
    rotate_left
    · rw [if_neg (by simpa using h4), if_neg (fun e => h4 (by rw [e]))]
    rw [if_pos (decide_eq_true h4), if_pos (Dec.ext' h1 h2 h3 h4), hw]) (by
    show M.spec_l3SameDecs_L0 (l, l', _) = _
    rw [M.spec_l3SameDecs_L0]; try dsimp only
    rw [if_neg (by omega)])
  rw [hloop, bind_some']
  by_cases e : l = l'
  · rw [if_pos e, decide_eq_true e]
  · rw [if_neg e, decide_eq_false e]
open Classical in
theorem specSame_all : (∀ t : Exp, t.small → ∀ u : Exp, M.spec_SameExp (t, u) = some (decide (t = u))) ∧
    (∀ d : Dec, d.small → (∀ u : Exp, M.spec_SameExp (d.E, u) = some (decide (d.E = u))) ∧ ∀ w, M.spec_l3SameDecs (d.Where, w) = some (decide (d.Where = w))) ∧
    (∀ a : Alt, a.small → ∀ u : Exp, M.spec_SameExp (a.E, u) = some (decide (a.E = u))) := by
  have hA : ∀ t : Alt, (t.E.small → ∀ u : Exp, M.spec_SameExp (t.E, u) = some (decide (t.E = u))) → (t.small → ∀ u : Exp, M.spec_SameExp (t.E, u) = some (decide (t.E = u))) := by
    intro t ih hs
    exact ih ((Alt.small_eq t).1 hs).2.2
  have hD : ∀ t : Dec, (t.E.small → ∀ u : Exp, M.spec_SameExp (t.E, u) = some (decide (t.E = u))) →
      (∀ x ∈ t.Where, x.small → (∀ u : Exp, M.spec_SameExp (x.E, u) = some (decide (x.E = u))) ∧ ∀ w, M.spec_l3SameDecs (x.Where, w) = some (decide (x.Where = w))) →
      (t.small → (∀ u : Exp, M.spec_SameExp (t.E, u) = some (decide (t.E = u))) ∧ ∀ w, M.spec_l3SameDecs (t.Where, w) = some (decide (t.Where = w))) := by
    intro t ih ihw hs
    obtain ⟨q1, q2, q3, q4, q5⟩ := (Dec.small_eq t).1 hs
    exact ⟨ih q3, fun w => specSameDecs_of _ _ q4 q5 (fun x hx => ihw x hx (q5 x hx))⟩
  have hE : ∀ t : Exp, (∀ x ∈ t.L, x.small → ∀ u : Exp, M.spec_SameExp (x, u) = some (decide (x = u))) →
      (∀ x ∈ t.Decs, x.small → (∀ u : Exp, M.spec_SameExp (x.E, u) = some (decide (x.E = u))) ∧ ∀ w, M.spec_l3SameDecs (x.Where, w) = some (decide (x.Where = w))) →
      (∀ x ∈ t.Alts, x.small → ∀ u : Exp, M.spec_SameExp (x.E, u) = some (decide (x.E = u))) → t.small → ∀ u : Exp, M.spec_SameExp (t, u) = some (decide (t = u)) := by
    intro t i1 i2 i3 hs u
    obtain ⟨q1, q2, q3, q4, q5, q6, q7⟩ := (Exp.small_eq t).1 hs
    rw [M.spec_SameExp]; try dsimp only
    by_cases h1 : t.K = u.K
    rotate_left
    · rw [if_neg h1, decide_eq_false (fun e => h1 (by rw [e]))]
    rw [if_pos h1]
    by_cases h2 : t.S = u.S
    rotate_left
    · rw [if_neg h2, decide_eq_false (fun e => h2 (by rw [e]))]
    rw [if_pos h2]
    by_cases h3 : t.N = u.N
    rotate_left
    · rw [if_neg h3, decide_eq_false (fun e => h3 (by rw [e]))]
    rw [if_pos h3]
    by_cases hlen : t.L.length = u.L.length
    rotate_left
    · rw [if_neg (by omega), decide_eq_false (fun e => hlen (by rw [e]))]
    rw [if_pos (by omega)]
    by_cases hlen2 : t.Alts.length = u.Alts.length
    rotate_left
    · rw [if_neg (by omega), decide_eq_false (fun e => hlen2 (by rw [e]))]
    rw [if_pos (by omega)]
    rw [specSameDecs_of _ _ q4 q5 (fun x hx => i2 x hx (q5 x hx)), bind_some']
    by_cases h4 : t.Decs = u.Decs
    rotate_left
    · rw [if_neg (by simpa using h4), decide_eq_false (fun e => h4 (by rw [e]))]
    rw [if_pos (decide_eq_true h4)]
    have hloop : M.spec_SameExp_L0 (t, u, 0) = _ := eqLoop q2 hlen (L := fun i => M.spec_SameExp_L0 (t, u, i)) (fun i x y hx hy hix hiy hi hw => by
      show M.spec_SameExp_L0 (t, u, i) = _
      rw [M.spec_SameExp_L0]; try dsimp only
      have hxm := List.mem_of_getElem? hx
      rw [if_pos hi, hix, bind_some', hiy, bind_some', i1 x hxm (q3 x hxm) y, bind_some', hw]
      by_cases e : x = y
      · rw [if_pos (decide_eq_true e), if_pos e]
      · rw [if_neg (by simpa using e), if_neg e]) (by
      show M.spec_SameExp_L0 (t, u, _) = _
      rw [M.spec_SameExp_L0]; try dsimp only
      rw [if_neg (by omega)])
    rw [hloop, bind_some']
    by_cases h5 : t.L = u.L
    rotate_left
    · rw [if_neg h5]; rw [decide_eq_false (fun e => h5 (by rw [e]))]
    rw [if_pos h5]; try dsimp only
    have hloop2 : M.spec_SameExp_L1 (t, u, 0) = _ := eqLoop q6 hlen2 (L := fun i => M.spec_SameExp_L1 (t, u, i)) (fun i x y hx hy hix hiy hi hw => by
      show M.spec_SameExp_L1 (t, u, i) = _
      rw [M.spec_SameExp_L1]; try dsimp only
      have hxm := List.mem_of_getElem? hx
      obtain ⟨p1, p2, p3⟩ := (Alt.small_eq x).1 (q7 x hxm)
      rw [if_pos hi, hix, bind_some', hiy, bind_some']
      by_cases g1 : x.Great = y.Great
      rotate_left
      · rw [if_neg g1, if_neg (fun e => g1 (by rw [e]))]
      rw [if_pos g1, specSameTexts _ _ p2.1, bind_some']
      by_cases g2 : x.Vars = y.Vars
      rotate_left
      · rw [if_neg (by simpa using g2), if_neg (fun e => g2 (by rw [e]))]
      rw [if_pos (decide_eq_true g2), i3 x hxm (q7 x hxm), bind_some']
      by_cases g3 : x.E = y.E
      rotate_left
      · rw [if_neg (by simpa using g3), if_neg (fun e => g3 (by rw [e]))]
      rw [if_pos (decide_eq_true g3), if_pos (Alt.ext' g1 g2 g3), hw]) (by
      show M.spec_SameExp_L1 (t, u, _) = _
      rw [M.spec_SameExp_L1]; try dsimp only
      rw [if_neg (by omega)])
    rw [hloop2, bind_some']
    by_cases h6 : t.Alts = u.Alts
    · rw [if_pos h6]; rw [decide_eq_true (Exp.ext' h1 h2 h3 h5 h4 h6)]
    · rw [if_neg h6]; rw [decide_eq_false (fun e => h6 (by rw [e]))]
  exact ⟨fun t => Exp.ind hA hD hE t, fun t => Dec.ind hA hD hE t, fun t => Alt.ind hA hD hE t⟩
open Classical in
theorem implSame_all : (∀ t : Alt, t.small → ∀ u : Alt, M.impl_sameAlt (t, u) = some (decide (t = u))) ∧
    (∀ t : Dec, t.small → ∀ u : Dec, M.impl_sameDec (t, u) = some (decide (t = u))) ∧
    (∀ t : Exp, t.small → ∀ u : Exp, M.impl_SameExp (t, u) = some (decide (t = u))) := by
  have fD : ∀ (l l' : List Dec), l.length ≤ lim → (∀ x ∈ l, ∀ y, M.impl_sameDec (x, y) = some (decide (x = y))) → M.slices_EqualFunc_impl_Dec_at_sameDec (l, l') = some (decide (l = l')) := by
    intro l l' hl IH
    rw [M.slices_EqualFunc_impl_Dec_at_sameDec]; try dsimp only
    by_cases hlen : l.length = l'.length
    rotate_left
    · rw [if_neg (by omega), decide_eq_false (fun e => hlen (by rw [e]))]
    rw [if_pos (by omega)]
    have hloop : M.slices_EqualFunc_impl_Dec_at_sameDec_L0 (l', l, 0) = _ := eqLoop hl hlen (L := fun i => M.slices_EqualFunc_impl_Dec_at_sameDec_L0 (l', l, i)) (fun i x y hx hy hix hiy hi hw => by
      show M.slices_EqualFunc_impl_Dec_at_sameDec_L0 (l', l, i) = _
      rw [M.slices_EqualFunc_impl_Dec_at_sameDec_L0]; try dsimp only
      rw [if_pos hi, hix, bind_some', hiy, bind_some', IH x (List.mem_of_getElem? hx) y, bind_some', hw]
      by_cases e : x = y
      · rw [if_pos (decide_eq_true e), if_pos e]
      · rw [if_neg (by simpa using e), if_neg e]) (by
      show M.slices_EqualFunc_impl_Dec_at_sameDec_L0 (l', l, _) = _
      rw [M.slices_EqualFunc_impl_Dec_at_sameDec_L0]; try dsimp only
      rw [if_neg (by omega)])
    rw [hloop, bind_some']
    by_cases e : l = l'
    · rw [if_pos e, decide_eq_true e]
    · rw [if_neg e, decide_eq_false e]
  have fA : ∀ (l l' : List Alt), l.length ≤ lim → (∀ x ∈ l, ∀ y, M.impl_sameAlt (x, y) = some (decide (x = y))) → M.slices_EqualFunc_impl_Alt_at_sameAlt (l, l') = some (decide (l = l')) := by
    intro l l' hl IH
    rw [M.slices_EqualFunc_impl_Alt_at_sameAlt]; try dsimp only
    by_cases hlen : l.length = l'.length
    rotate_left
    · rw [if_neg (by omega), decide_eq_false (fun e => hlen (by rw [e]))]
    rw [if_pos (by omega)]
    have hloop : M.slices_EqualFunc_impl_Alt_at_sameAlt_L0 (l', l, 0) = _ := eqLoop hl hlen (L := fun i => M.slices_EqualFunc_impl_Alt_at_sameAlt_L0 (l', l, i)) (fun i x y hx hy hix hiy hi hw => by
      show M.slices_EqualFunc_impl_Alt_at_sameAlt_L0 (l', l, i) = _
      rw [M.slices_EqualFunc_impl_Alt_at_sameAlt_L0]; try dsimp only
      rw [if_pos hi, hix, bind_some', hiy, bind_some', IH x (List.mem_of_getElem? hx) y, bind_some', hw]
      by_cases e : x = y
      · rw [if_pos (decide_eq_true e), if_pos e]
      · rw [if_neg (by simpa using e), if_neg e]) (by
      show M.slices_EqualFunc_impl_Alt_at_sameAlt_L0 (l', l, _) = _
      rw [M.slices_EqualFunc_impl_Alt_at_sameAlt_L0]; try dsimp only
      rw [if_neg (by omega)])
    rw [hloop, bind_some']
    by_cases e : l = l'
    · rw [if_pos e, decide_eq_true e]
    · rw [if_neg e, decide_eq_false e]
  have fE : ∀ (l l' : List Exp), l.length ≤ lim → (∀ x ∈ l, ∀ y, M.impl_SameExp (x, y) = some (decide (x = y))) → M.slices_EqualFunc_impl_Exp_at_SameExp (l, l') = some (decide (l = l')) := by
    intro l l' hl IH
    rw [M.slices_EqualFunc_impl_Exp_at_SameExp]; try dsimp only
    by_cases hlen : l.length = l'.length
    rotate_left
    · rw [if_neg (by omega), decide_eq_false (fun e => hlen (by rw [e]))]
    rw [if_pos (by omega)]
    have hloop : M.slices_EqualFunc_impl_Exp_at_SameExp_L0 (l', l, 0) = _ := eqLoop hl hlen (L := fun i => M.slices_EqualFunc_impl_Exp_at_SameExp_L0 (l', l, i)) (fun i x y hx hy hix hiy hi hw => by
      show M.slices_EqualFunc_impl_Exp_at_SameExp_L0 (l', l, i) = _
      rw [M.slices_EqualFunc_impl_Exp_at_SameExp_L0]; try dsimp only
      rw [if_pos hi, hix, bind_some', hiy, bind_some', IH x (List.mem_of_getElem? hx) y, bind_some', hw]
      by_cases e : x = y
      · rw [if_pos (decide_eq_true e), if_pos e]
      · rw [if_neg (by simpa using e), if_neg e]) (by
      show M.slices_EqualFunc_impl_Exp_at_SameExp_L0 (l', l, _) = _
      rw [M.slices_EqualFunc_impl_Exp_at_SameExp_L0]; try dsimp only
      rw [if_neg (by omega)])
    rw [hloop, bind_some']
    by_cases e : l = l'
    · rw [if_pos e, decide_eq_true e]
    · rw [if_neg e, decide_eq_false e]
  have hA : ∀ t : Alt, (t.E.small → ∀ u : Exp, M.impl_SameExp (t.E, u) = some (decide (t.E = u))) → (t.small → ∀ u : Alt, M.impl_sameAlt (t, u) = some (decide (t = u))) := by
    intro x ih hs y
    obtain ⟨p1, p2, p3⟩ := (Alt.small_eq x).1 hs
    rw [M.impl_sameAlt]; try dsimp only
    by_cases g1 : x.Great = y.Great
    rotate_left
    · rw [if_neg g1, decide_eq_false (fun e => g1 (by rw [e]))]
    rw [if_pos g1, implEqual _ _ p2.1, bind_some']
    by_cases g2 : x.Vars = y.Vars
    rotate_left
    · rw [if_neg (by simpa using g2), decide_eq_false (fun e => g2 (by rw [e]))]
    rw [if_pos (decide_eq_true g2), ih p3, bind_some']
    by_cases g3 : x.E = y.E
    · rw [decide_eq_true g3, decide_eq_true (Alt.ext' g1 g2 g3)]
    · rw [decide_eq_false g3, decide_eq_false (fun e => g3 (by rw [e]))]
  have hD : ∀ t : Dec, (t.E.small → ∀ u : Exp, M.impl_SameExp (t.E, u) = some (decide (t.E = u))) → (∀ x ∈ t.Where, x.small → ∀ u : Dec, M.impl_sameDec (x, u) = some (decide (x = u))) → (t.small → ∀ u : Dec, M.impl_sameDec (t, u) = some (decide (t = u))) := by
    intro x ih ihw hs y
    obtain ⟨q1, q2, q3, q4, q5⟩ := (Dec.small_eq x).1 hs
    rw [M.impl_sameDec]; try dsimp only
    by_cases g1 : x.Name = y.Name
    rotate_left
    · rw [if_neg g1, decide_eq_false (fun e => g1 (by rw [e]))]
    rw [if_pos g1, implEqual _ _ q2.1, bind_some']
    by_cases g2 : x.Pars = y.Pars
    rotate_left
    · rw [if_neg (by simpa using g2), decide_eq_false (fun e => g2 (by rw [e]))]
    rw [if_pos (decide_eq_true g2), ih q3, bind_some']
    by_cases g3 : x.E = y.E
    rotate_left
    · rw [if_neg (by simpa using g3), decide_eq_false (fun e => g3 (by rw [e]))]
    rw [if_pos (decide_eq_true g3), fD _ _ q4 (fun z hz => ihw z hz (q5 z hz)), bind_some']
    by_cases g4 : x.Where = y.Where
    · rw [decide_eq_true g4, decide_eq_true (Dec.ext' g1 g2 g3 g4)]
    · rw [decide_eq_false g4, decide_eq_false (fun e => g4 (by rw [e]))]
  have hE : ∀ t : Exp, (∀ x ∈ t.L, x.small → ∀ u : Exp, M.impl_SameExp (x, u) = some (decide (x = u))) → (∀ x ∈ t.Decs, x.small → ∀ u : Dec, M.impl_sameDec (x, u) = some (decide (x = u))) →
      (∀ x ∈ t.Alts, x.small → ∀ u : Alt, M.impl_sameAlt (x, u) = some (decide (x = u))) → t.small → ∀ u : Exp, M.impl_SameExp (t, u) = some (decide (t = u)) := by
    intro t i1 i2 i3 hs u
    obtain ⟨q1, q2, q3, q4, q5, q6, q7⟩ := (Exp.small_eq t).1 hs
    rw [M.impl_SameExp]; try dsimp only
    by_cases h1 : t.K = u.K
    rotate_left
    · rw [if_neg h1, decide_eq_false (fun e => h1 (by rw [e]))]
    rw [if_pos h1]
    by_cases h2 : t.S = u.S
    rotate_left
    · rw [if_neg h2, decide_eq_false (fun e => h2 (by rw [e]))]
    rw [if_pos h2]
    by_cases h3 : t.N = u.N
    rotate_left
    · rw [if_neg h3, decide_eq_false (fun e => h3 (by rw [e]))]
    rw [if_pos h3, fE _ _ q2 (fun z hz => i1 z hz (q3 z hz)), bind_some']
    by_cases h5 : t.L = u.L
    rotate_left
    · rw [if_neg (by simpa using h5), decide_eq_false (fun e => h5 (by rw [e]))]
    rw [if_pos (decide_eq_true h5), fD _ _ q4 (fun z hz => i2 z hz (q5 z hz)), bind_some']
    by_cases h4 : t.Decs = u.Decs
    rotate_left
    · rw [if_neg (by simpa using h4), decide_eq_false (fun e => h4 (by rw [e]))]
    rw [if_pos (decide_eq_true h4), fA _ _ q6 (fun z hz => i3 z hz (q7 z hz)), bind_some']
    by_cases h6 : t.Alts = u.Alts
    · rw [decide_eq_true h6, decide_eq_true (Exp.ext' h1 h2 h3 h5 h4 h6)]
    · rw [decide_eq_false h6, decide_eq_false (fun e => h6 (by rw [e]))]
  exact ⟨fun t => Alt.ind hA hD hE t, fun t => Dec.ind hA hD hE t, fun t => Exp.ind hA hD hE t⟩

end Q
end W
