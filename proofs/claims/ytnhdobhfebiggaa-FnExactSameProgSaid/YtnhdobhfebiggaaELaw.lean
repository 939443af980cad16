import Derived.Test.YtnhdobhfebiggaaEFam
namespace W
open Go HL
set_option linter.unusedVariables false
set_option maxRecDepth 100000
set_option maxHeartbeats 4000000
namespace Q
open Classical in
theorem specSameTexts (l l' : List ByteArray) (hl : l.length ≤ lim) : M.spec_l3SameTexts (l, l') = some (decide (l = l')) := by
  rw [M.spec_l3SameTexts]; try dsimp only
  by_cases hlen : l.length = l'.length
  rotate_left
  · rw [if_neg (by omega)]
    rw [decide_eq_false (fun e => hlen (by rw [e]))]
  rw [if_pos (by omega)]
  have hloop : M.spec_l3SameTexts_L0 (l, l', 0) = _ := eqLoop hl hlen (L := fun i => M.spec_l3SameTexts_L0 (l, l', i)) (fun i x y hx hy hix hiy hi hw => by
    show M.spec_l3SameTexts_L0 (l, l', i) = _
    rw [M.spec_l3SameTexts_L0]; try dsimp only
    rw [if_pos hi, hix, bind_some', hiy, bind_some', hw]
    by_cases e : x = y
    · rw [if_pos e, if_pos e]
    · rw [if_neg e, if_neg e]) (by
    show M.spec_l3SameTexts_L0 (l, l', _) = _
    rw [M.spec_l3SameTexts_L0]; try dsimp only
    rw [if_neg (by omega)])
  rw [hloop, bind_some']
  by_cases e : l = l'
  · rw [if_pos e, decide_eq_true e]
  · rw [if_neg e, decide_eq_false e]
open Classical in
theorem implEqual (l l' : List ByteArray) (hl : l.length ≤ lim) : M.slices_Equal_string (l, l') = some (decide (l = l')) := by
  rw [M.slices_Equal_string]; try dsimp only
  by_cases hlen : l.length = l'.length
  rotate_left
  · rw [if_neg (by omega)]
    rw [decide_eq_false (fun e => hlen (by rw [e]))]
  rw [if_pos (by omega)]
  have hloop : M.slices_Equal_string_L0 (l, l', 0) = _ := eqLoop hl hlen (L := fun i => M.slices_Equal_string_L0 (l, l', i)) (fun i x y hx hy hix hiy hi hw => by
    show M.slices_Equal_string_L0 (l, l', i) = _
    rw [M.slices_Equal_string_L0]; try dsimp only
    rw [if_pos hi, hix, bind_some', hiy, bind_some', hw]
    by_cases e : x = y
    · rw [if_pos e, if_pos e]
    · rw [if_neg e, if_neg e]) (by
    show M.slices_Equal_string_L0 (l, l', _) = _
    rw [M.slices_Equal_string_L0]; try dsimp only
    rw [if_neg (by omega)])
  rw [hloop, bind_some']
  by_cases e : l = l'
  · rw [if_pos e, decide_eq_true e]
  · rw [if_neg e, decide_eq_false e]

/-! SameTy -/
open Classical in
theorem specSameTy : ∀ t : Ty, t.small → ∀ u : Ty, M.spec_SameTy (t, u) = some (decide (t = u)) := by
  intro t
  refine Ty.ind (M0 := fun t => t.small → ∀ u : Ty, M.spec_SameTy (t, u) = some (decide (t = u))) ?_ t
  intro t ih hs u
  obtain ⟨hq_S, hl_L, hm_L⟩ := (Ty.small_eq t).1 hs
  rw [M.spec_SameTy]; try dsimp only
  by_cases h1 : t.K = u.K
  rotate_left
  · rw [if_neg h1, decide_eq_false (fun e => h1 (by rw [e]))]
  rw [if_pos h1]
  by_cases h2 : t.S = u.S
  rotate_left
  · rw [if_neg h2, decide_eq_false (fun e => h2 (by rw [e]))]
  rw [if_pos h2]
  by_cases h3 : t.N = u.N
  rotate_left
  · rw [if_neg h3, decide_eq_false (fun e => h3 (by rw [e]))]
  rw [if_pos h3]
  by_cases hlen : t.L.length = u.L.length
  rotate_left
  · rw [if_neg (by omega), decide_eq_false (fun e => hlen (by rw [e]))]
  rw [if_pos (by omega)]
  have hloop : M.spec_SameTy_L0 (t, u, 0) = _ := eqLoop hl_L hlen (L := fun i => M.spec_SameTy_L0 (t, u, i)) (fun i x y hx hy hix hiy hi hw => by
    show M.spec_SameTy_L0 (t, u, i) = _
    rw [M.spec_SameTy_L0]; try dsimp only
    have hxm := List.mem_of_getElem? hx
    rw [if_pos hi, hix, bind_some', hiy, bind_some', ih x hxm (hm_L x hxm) y, bind_some', hw]
    by_cases e : x = y
    · rw [if_pos (decide_eq_true e), if_pos e]
    · rw [if_neg (by simpa using e), if_neg e]) (by
    show M.spec_SameTy_L0 (t, u, _) = _
    rw [M.spec_SameTy_L0]; try dsimp only
    rw [if_neg (by omega)])
  rw [hloop, bind_some']
  by_cases e : t.L = u.L
  · rw [if_pos e]; rw [decide_eq_true (Ty.ext' h1 h2 h3 e)]
  · rw [if_neg e]; rw [decide_eq_false (fun e' => e (by rw [e']))]
open Classical in
theorem implSameTy : ∀ t : Ty, t.small → ∀ u : Ty, M.impl_SameTy (t, u) = some (decide (t = u)) := by
  intro t
  refine Ty.ind (M0 := fun t => t.small → ∀ u : Ty, M.impl_SameTy (t, u) = some (decide (t = u))) ?_ t
  intro t ih hs u
  obtain ⟨hq_S, hl_L, hm_L⟩ := (Ty.small_eq t).1 hs
  rw [M.impl_SameTy]; try dsimp only
  by_cases h1 : t.K = u.K
  rotate_left
  · rw [if_neg h1, decide_eq_false (fun e => h1 (by rw [e]))]
  rw [if_pos h1]
  by_cases h2 : t.S = u.S
  rotate_left
  · rw [if_neg h2, decide_eq_false (fun e => h2 (by rw [e]))]
  rw [if_pos h2]
  by_cases h3 : t.N = u.N
  rotate_left
  · rw [if_neg h3, decide_eq_false (fun e => h3 (by rw [e]))]
  rw [if_pos h3]
  rw [M.slices_EqualFunc_impl_Ty_at_SameTy]; try dsimp only
  by_cases hlen : t.L.length = u.L.length
  rotate_left
  · rw [if_neg (by omega), bind_some', decide_eq_false (fun e => hlen (by rw [e]))]
  rw [if_pos (by omega)]
  have hloop : M.slices_EqualFunc_impl_Ty_at_SameTy_L0 (u.L, t.L, 0) = _ := eqLoop hl_L hlen (L := fun i => M.slices_EqualFunc_impl_Ty_at_SameTy_L0 (u.L, t.L, i)) (fun i x y hx hy hix hiy hi hw => by
    show M.slices_EqualFunc_impl_Ty_at_SameTy_L0 (u.L, t.L, i) = _
    rw [M.slices_EqualFunc_impl_Ty_at_SameTy_L0]; try dsimp only
    have hxm := List.mem_of_getElem? hx
    rw [if_pos hi, hix, bind_some', hiy, bind_some', ih x hxm (hm_L x hxm) y, bind_some', hw]
    by_cases e : x = y
    · rw [if_pos (decide_eq_true e), if_pos e]
    · rw [if_neg (by simpa using e), if_neg e]) (by
    show M.slices_EqualFunc_impl_Ty_at_SameTy_L0 (u.L, t.L, _) = _
    rw [M.slices_EqualFunc_impl_Ty_at_SameTy_L0]; try dsimp only
    rw [if_neg (by omega)])
  rw [hloop, bind_some']
  by_cases e : t.L = u.L
  · rw [if_pos e, bind_some', decide_eq_true (Ty.ext' h1 h2 h3 e)]
  · rw [if_neg e, bind_some', decide_eq_false (fun e' => e (by rw [e']))]

end Q
end W
