import Derived.Test.YtnhdobhfebiggaaCFam
namespace W
open Go HL
set_option linter.unusedVariables false
set_option maxRecDepth 100000
set_option maxHeartbeats 4000000
namespace Q
open Classical in
theorem specSameTexts (l l' : List ByteArray) (hl : l.length ≤ lim) : M.spec_l3SameTexts (l, l') = some (decide (l = l')) := by
  rw [M.spec_l3SameTexts]; try dsimp only
  by_cases hlen : l.length = l'.length
  rotate_left
  · rw [if_neg (by omega)]
    rw [decide_eq_false (fun e => hlen (by rw [e]))]
  rw [if_pos (by omega)]
  have hloop : M.spec_l3SameTexts_L0 (l, l', 0) = _ := eqLoop hl hlen (L := fun i => M.spec_l3SameTexts_L0 (l, l', i)) (fun i x y hx hy hix hiy hi hw => by
    show M.spec_l3SameTexts_L0 (l, l', i) = _
    rw [M.spec_l3SameTexts_L0]; try dsimp only
    rw [if_pos hi, hix, bind_some', hiy, bind_some', hw]
    by_cases e : x = y
    · rw [if_pos e, if_pos e]
    · rw [if_neg e, if_neg e]) (by
    show M.spec_l3SameTexts_L0 (l, l', _) = _
    rw [M.spec_l3SameTexts_L0]; try dsimp only
    rw [if_neg (by omega)])
  rw [hloop, bind_some']
  by_cases e : l = l'
  · rw [if_pos e, decide_eq_true e]
  · rw [if_neg e, decide_eq_false e]
open Classical in
theorem implEqual (l l' : List ByteArray) (hl : l.length ≤ lim) : M.slices_Equal_string (l, l') = some (decide (l = l')) := by
  rw [M.slices_Equal_string]; try dsimp only
  by_cases hlen : l.length = l'.length
  rotate_left
  · rw [if_neg (by omega)]
    rw [decide_eq_false (fun e => hlen (by rw [e]))]
  rw [if_pos (by omega)]
  have hloop : M.slices_Equal_string_L0 (l, l', 0) = _ := eqLoop hl hlen (L := fun i => M.slices_Equal_string_L0 (l, l', i)) (fun i x y hx hy hix hiy hi hw => by
    show M.slices_Equal_string_L0 (l, l', i) = _
    rw [M.slices_Equal_string_L0]; try dsimp only
    rw [if_pos hi, hix, bind_some', hiy, bind_some', hw]
    by_cases e : x = y
    · rw [if_pos e, if_pos e]
    · rw [if_neg e, if_neg e]) (by
    show M.slices_Equal_string_L0 (l, l', _) = _
    rw [M.slices_Equal_string_L0]; try dsimp only
    rw [if_neg (by omega)])
  rw [hloop, bind_some']
  by_cases e : l = l'
  · rw [if_pos e, decide_eq_true e]
  · rw [if_neg e, decide_eq_false e]

end Q
end W
