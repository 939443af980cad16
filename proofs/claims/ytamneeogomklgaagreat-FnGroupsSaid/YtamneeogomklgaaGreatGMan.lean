/- What the library's sort, compact and grow do to a list of strings of one's own: by the shelf's contracts. -/
import Derived.Test.YtamneeogomklgaaGreatGTab
import Derived.Test.YtamneeogomklgaaGreatGShelf
import Derived.Sort.EveryDepth
import Derived.Sort.OwnSorted
import Derived.Lib.OwnBridge
import Derived.Tactics
import Derived.Test.YtamneeogomklgaaGreatHLP
set_option linter.unusedSimpArgs false
set_option linter.unusedVariables false
set_option linter.unusedSectionVars false
section
namespace W
set_option linter.unusedVariables false
set_option linter.unusedSimpArgs false
set_option maxRecDepth 100000
set_option maxHeartbeats 4000000
namespace J
open Go Go.RowKit Go.Sort Go.Proofs
open HL (lim)
abbrev le8 : List UInt8 → List UInt8 → Bool := fun x y => decide (x ≤ y)
theorem sort_c (b cap n : Nat) (zs : List (List UInt8)) (w : World) (hn : n = zs.length) (hH : Holds encStr w b 0 zs.toArray) (hb : b < w.heap.size) (hs : zs.length < 4611686018427387904) :
    Calls Tryz.prog 59 #[.slice (some ⟨b, 0, none⟩) n cap] w fun e w' => e = .returned (.tuple #[]) ∧ ∃ q os, w' = grow (putRow encStr (Sort.ahead w q) b 0 (zs.mergeSort le8).toArray) os := by
  subst hn
  exact calls_of_every_depth fun D => AnyS.slices_Sort_string_alone Tryz.lays190 D b 0 cap zs w hH hb hs
theorem sort_e (a : Option Addr) (cap : Nat) (w : World) :
    Calls Tryz.prog 59 #[.slice a 0 cap] w fun e w' => e = .returned (.tuple #[]) ∧ w' = w :=
  calls_of_every_depth fun D => AnyS.slices_Sort_string_none_alone Tryz.lays190 D a cap w
theorem compact_c (b cap n : Nat) (zs : List (List UInt8)) (w : World) (hn : n = zs.length) (hH : Holds encStr w b 0 zs.toArray) (hs : zs.length ≤ 9223372036854775807) (hc : zs.length ≤ cap) :
    Calls Tryz.prog 41 #[.slice (some ⟨b, 0, none⟩) n cap] w fun e w' => e = .returned (.slice (some ⟨b, 0, none⟩) (Lib.compact zs).length cap) ∧ ∃ q, w' = putRow encStr (Sort.ahead w q) b 0 (Lib.compact zs ++ List.replicate (zs.length - (Lib.compact zs).length) []).toArray := by
  subst hn
  exact calls_of_every_depth fun D => AnyS.slices_Compact_string_in Tryz.lays194 D b 0 cap zs w hH hs hc
theorem compact_e (a : Option Addr) (cap : Nat) (w : World) :
    Calls Tryz.prog 41 #[.slice a 0 cap] w fun e w' => e = .returned (.slice a 0 cap) ∧ w' = w :=
  calls_of_every_depth fun D => AnyS.slices_Compact_string_empty_in Tryz.lays194 D a cap w
theorem sorted_e (a : Option Addr) (cap : Nat) (w : World) :
    Calls Tryz.prog 46 #[.slice a 0 cap] w fun e w' => e = .returned (.slice a 0 cap) ∧ w' = w := by
  go_enter Tryz.func46, Tryz.ntmps46
  go_wp2_with first
    | (go_at_call 59; refine (sort_e a cap w).mono ?_; rintro e w' ⟨rfl, rfl⟩)
    | (go_at_call 41; refine (compact_e a cap _).mono ?_; rintro e w' ⟨rfl, rfl⟩)
  go_ret
  exact ⟨rfl, rfl⟩
def srt (zs : List (List UInt8)) : List (List UInt8) := Lib.compact (zs.mergeSort le8)
def put (zs : List (List UInt8)) : Array (List UInt8) := (srt zs ++ List.replicate (zs.length - (srt zs).length) []).toArray
theorem compact_len (zs : List (List UInt8)) : (Lib.compact zs).length ≤ zs.length := by
  unfold Lib.compact Lib.compactUpTo
  rw [List.length_map]
  refine Nat.le_trans (List.length_filter_le _ _) ?_
  simp
theorem srt_len (zs : List (List UInt8)) : (srt zs).length ≤ zs.length := by
  have := compact_len (zs.mergeSort le8)
  rwa [List.length_mergeSort] at this
theorem sorted_c (b cap n : Nat) (zs : List (List UInt8)) (w : World) (hn : n = zs.length) (hH : Holds encStr w b 0 zs.toArray) (hb : b < w.heap.size) (hs : zs.length < 4611686018427387904) (hc : zs.length ≤ cap) :
    Calls Tryz.prog 46 #[.slice (some ⟨b, 0, none⟩) n cap] w fun e w' => e = .returned (.slice (some ⟨b, 0, none⟩) (srt zs).length cap) ∧ ∃ q os, w' = grow (putRow encStr (Sort.ahead w q) b 0 (put zs)) os := by
  have c1 := sort_c b cap n zs w hn hH hb hs
  have c2 : ∀ w1, (∃ q os, w1 = grow (putRow encStr (Sort.ahead w q) b 0 (zs.mergeSort le8).toArray) os) → Calls Tryz.prog 41 #[.slice (some ⟨b, 0, none⟩) n cap] w1 fun e w' => e = .returned (.slice (some ⟨b, 0, none⟩) (srt zs).length cap) ∧ ∃ q os, w' = grow (putRow encStr (Sort.ahead w q) b 0 (put zs)) os := by
    rintro _ ⟨q, os, rfl⟩
    have hl : (zs.mergeSort le8).length = zs.length := List.length_mergeSort _
    have hH2 : Holds encStr (grow (putRow encStr (Sort.ahead w q) b 0 (zs.mergeSort le8).toArray) os) b 0 (zs.mergeSort le8).toArray :=
      holds_grow _ _ _ _ _ _ (by simpa using hb) (holds_putRow encStr (Sort.ahead w q) b 0 zs.toArray (zs.mergeSort le8).toArray (holds_ahead _ _ _ _ _ _ hH) (by simp [hl]))
    refine (compact_c b cap n (zs.mergeSort le8) _ (by omega) hH2 (by omega) (by omega)).mono ?_
    rintro e w2 ⟨rfl, q2, rfl⟩
    refine ⟨rfl, q + q2, os, ?_⟩
    rw [hl]
    show putRow encStr (Sort.ahead (grow (putRow encStr (Sort.ahead w q) b 0 (zs.mergeSort le8).toArray) os) q2) b 0 (put zs) = _
    have := srt_len zs
    rw [ahead_grow, putRow_grow _ _ _ _ _ _ (by simpa using hb), putRow_ahead_putRow]
    simp [put, hl]
    omega
  clear hn hH hb hs hc
  generalize (zs.mergeSort le8).toArray = Z1 at c1 c2
  generalize (srt zs).length = N1 at c2 ⊢
  generalize put zs = Z2 at c2 ⊢
  go_enter Tryz.func46, Tryz.ntmps46
  go_wp2_with (go_at_call 59; refine c1.mono ?_; rintro e w1 ⟨rfl, hw⟩)
  replace c2 := c2 _ hw
  clear hw c1
  go_wp2_with (go_at_call 41; refine c2.mono ?_; rintro e w2 ⟨rfl, hw2⟩)
  go_ret
  exact ⟨rfl, hw2⟩
end J
end W
end
section
namespace W
set_option linter.unusedVariables false
set_option linter.unusedSimpArgs false
set_option maxRecDepth 100000
set_option maxHeartbeats 1000000
namespace J
open Go Go.RowKit Go.Sort Go.Proofs HL HL.X
theorem ha_old (w : World) (o : Obj) (k : Nat) (h : k < w.heap.size) : (w.alloc o).heap[k]? = w.heap[k]? := by
  show (w.heap.push o)[k]? = _
  rw [Array.getElem?_push_lt h, Array.getElem?_eq_getElem h]
theorem ha_new (w : World) (o : Obj) : (w.alloc o).heap[w.heap.size]? = some o := by
  show (w.heap.push o)[w.heap.size]? = _
  simp
theorem two {P : Program} {G : Gh} {w w' : World} {o : HO} {info info1 : Info} {l' : List HV} (h : Rel P G [o] w) (hs : G.s = [info]) (hkc : ∀ b i u, G.K b i = some u → w'.cell? ⟨b, i, none⟩ = some u)
    (hz : info1.sz = 1) (hr : RLive ⟨G.base, G.K, [info, info1]⟩ w' info1 l' true) (e1 : w'.os = w.os) (e2 : w'.tape = w.tape) (e3 : w'.output = w.output) (e4 : w.heap.size ≤ w'.heap.size)
    (e5 : ∀ k, k < w.heap.size → ¬ inS G.s k → w'.heap[k]? = w.heap[k]?) (e6 : ∀ b, info1.blk = some b → info.blk = some b ∨ w.heap.size ≤ b) :
    Rel P ⟨G.base, G.K, [info, info1]⟩ [.dead, .arr 1 l' true] w' ∧ Step G w ⟨G.base, G.K, [info, info1]⟩ w' := by
  refine h.mk2 rfl hkc (fun id i o' hi ho => ?_) (fun id id' i i' o' o'' b b' hi hi' ho ho' l1 l2 hne => ?_) ⟨rfl, fun _ _ _ q => q, fun _ _ _ q => .inl q, fun id i hi => ?_, e1, e2, e3, e4, e5, fun b q => ?_⟩
  · match id, hi, ho with
    | 0, hi, ho =>
      simp only [List.getElem?_cons_zero, Option.some.injEq] at ho
      subst ho
      exact ⟨trivial, fun l m q => by cases q⟩
    | 1, hi, ho =>
      simp only [List.getElem?_cons_succ, List.getElem?_cons_zero, Option.some.injEq] at ho hi
      subst ho hi
      exact ⟨hz, fun l m q => by cases q; exact hr⟩
    | id + 2, hi, ho => simp at hi
  · have z : ∀ id o', ([HO.dead, .arr 1 l' true] : List HO)[id]? = some o' → o'.live.isSome → id = 1 := by
      intro id o' ho l
      match id, ho with
      | 0, ho =>
        simp only [List.getElem?_cons_zero, Option.some.injEq] at ho
        subst ho
        cases l
      | 1, ho => rfl
      | id + 2, ho => simp at ho
    exact absurd ((z _ _ ho l1).trans (z _ _ ho' l2).symm) hne
  · rw [hs] at hi
    match id, hi with
    | 0, hi => exact ⟨i, hi, Nat.le_refl _, rfl, fun _ => rfl⟩
    | id + 1, hi => simp at hi
  · obtain ⟨id, i, hi, hb⟩ := q
    match id, hi with
    | 0, hi =>
      simp only [List.getElem?_cons_zero, Option.some.injEq] at hi
      subst hi
      exact .inl ⟨0, info, by rw [hs]; rfl, hb⟩
    | 1, hi =>
      simp only [List.getElem?_cons_succ, List.getElem?_cons_zero, Option.some.injEq] at hi
      subst hi
      rcases e6 b hb with q | q
      · exact .inl ⟨0, info, by rw [hs]; rfl, q⟩
      · exact .inr q
    | id + 2, hi => simp at hi
theorem strs_uni (l : List ByteArray) : HL.Uni 1 (l.map HV.str) := fun x hx => by
  rw [List.mem_map] at hx
  obtain ⟨y, _, rfl⟩ := hx
  rfl
theorem strs_flat : ∀ l : List ByteArray, flatL (l.map HV.str) = l.map HV.str
  | [] => rfl
  | x :: l => by
    have := strs_flat l
    simp only [flatL, List.map_cons, List.flatMap_cons] at this ⊢
    rw [this]
    rfl
theorem strs_R {G : Gh} : ∀ {l : List ByteArray}, (∀ s ∈ l, s.size ≤ lim) → R G (.vals (l.map Value.string) (l.map HV.str))
  | [], _ => .vnil
  | x :: l, h => .vcons (.str (h x (by simp))) (strs_R fun s hs => h s (by simp [hs]))
theorem strs_of {G : Gh} : ∀ {l : List ByteArray} {us : List Value}, R G (.vals us (l.map HV.str)) → us = l.map Value.string ∧ ∀ s ∈ l, s.size ≤ lim
  | [], us, h => by cases h; exact ⟨rfl, fun s hs => by cases hs⟩
  | x :: l, us, h => by
    cases h with
    | vcons h1 h2 =>
      cases h1 with
      | str hs =>
        obtain ⟨e, q⟩ := strs_of h2
        refine ⟨by rw [e]; rfl, fun s hs' => ?_⟩
        rcases List.mem_cons.1 hs' with rfl | hs'
        · exact hs
        · exact q s hs'
theorem one_obj {P : Program} {G : Gh} {w : World} {l : List HV} (h : Rel P G [.arr 1 l true] w) : ∃ info, G.s = [info] ∧ info.sz = 1 ∧ RLive G w info l true := by
  have hl := h.len
  match hs : G.s, hl with
  | [info], _ =>
    obtain ⟨a, b⟩ := h.obj 0 info (.arr 1 l true) (by rw [hs]; rfl) rfl
    exact ⟨info, rfl, a, b l true rfl⟩
  | [], hl => simp at hl
  | _ :: _ :: _, hl => simp at hl
theorem own_arg {G : Gh} {w : World} {info : Info} {l : List HV} {v : Value} {n : Nat} (hs : G.s = [info]) (hr : RLive G w info l true) (hn : n = l.length) (h : R G (.val v (.own 0 n))) :
    ∃ a, v = .slice a n info.cap ∧ ∀ b, info.blk = some b → a = some ⟨b, 0, none⟩ := by
  cases h with
  | own hi hle hp =>
    rename_i a cap inf
    rw [hs] at hi
    simp only [List.getElem?_cons_zero, Option.some.injEq] at hi
    subst hi
    obtain ⟨h1, h2⟩ := hp (by rw [hr.n, hn])
    exact ⟨a, by rw [h2], h1⟩
theorem mem_compact {zs : List (List UInt8)} {x : List UInt8} (h : x ∈ Lib.compact zs) : x ∈ zs := by
  unfold Lib.compact Lib.compactUpTo at h
  rw [List.mem_map] at h
  obtain ⟨j, hj, rfl⟩ := h
  have hlt : j < zs.length := List.mem_range.1 (List.mem_filter.1 hj).1
  rw [getElem!_pos zs.toArray j (by simpa using hlt)]
  simp
theorem mem_srt {zs : List (List UInt8)} {x : List UInt8} (h : x ∈ srt zs) : x ∈ zs := by
  have := mem_compact h
  rwa [List.mem_mergeSort] at this
theorem strs_enc : ∀ zs : List (List UInt8), (strsL zs).map Value.string = zs.map encStr
  | [] => rfl
  | z :: zs => by
    have := strs_enc zs
    simp only [strsL, List.map_cons] at this ⊢
    rw [this]
theorem sorted_hc {l : List ByteArray} : HC P 46 [.own 0 l.length] [.arr 1 (l.map HV.str) true] fun r st => r = .own 1 (sortedB l).length ∧ st = [.dead, .arr 1 ((sortedB l).map HV.str) true] := by
  refine ⟨⟨_, Tryz.func46, by kernel_rfl, by kernel_rfl⟩, fun G w vs hr hR => ?_⟩
  obtain ⟨info, hs, hz, hl⟩ := one_obj hr
  cases hR with
  | vcons hv hnil =>
  cases hnil
  obtain ⟨a, rfl, ha⟩ := own_arg hs hl (by simp) hv
  have hln : info.n = l.length := by rw [hl.n, List.length_map]
  have hcap : l.length ≤ info.cap := by have := hl.cap; rwa [List.length_map] at this
  have hlm : l.length ≤ lim := by have := hl.lm; rwa [List.length_map] at this
  have hlim : lim = 140737488355328 := rfl
  show Calls Tryz.prog 46 #[.slice a l.length info.cap] w _
  by_cases h0 : l = []
  · subst h0
    have hs0 : sortedB [] = [] := by simp [sortedB, sortB, bytesL, strsL, Lib.compact, Lib.compactUpTo]
    rw [hs0]
    refine (sorted_e a info.cap w).mono ?_
    rintro e w' ⟨rfl, rfl⟩
    have hr' : RLive ⟨G.base, G.K, [info, info]⟩ w' info [] true := ⟨hl.n, hl.cap, hl.lm, hl.uni, hl.flat, hl.nil, fun b hb => by
      obtain ⟨c, t, us, g1, g2, g3, g4, g5, g6, g7⟩ := hl.row b hb
      refine ⟨c, t, us, g1, g2, ?_, g4, g5, g6, g7⟩
      have : us = [] := List.length_eq_zero_iff.1 g3.vals_length
      subst this
      exact .vnil⟩
    obtain ⟨q1, q2⟩ := two hr hs hr.kc hz hr' rfl rfl rfl (Nat.le_refl _) (fun _ _ _ => rfl) (fun b hb => .inl hb)
    exact ⟨_, _, _, _, rfl, ⟨rfl, rfl⟩, q1, .own (info := info) rfl (by rw [hln]; exact Nat.le_refl _) fun _ => ⟨ha, rfl⟩, q2⟩
  · have hpos : 0 < l.length := List.length_pos_iff.2 h0
    cases hb : info.blk with
    | none => have := hl.nil.1 hb; omega
    | some b =>
      rw [ha b hb]
      obtain ⟨c, t, us, g1, g2, g3, g4, g5, g6, g7⟩ := hl.row b hb
      rw [hz, Nat.mul_one] at g2 g5
      rw [List.length_map] at g5 g6
      rw [strs_flat] at g3
      obtain ⟨hus, hsz⟩ := strs_of g3
      have hblt : b < w.heap.size := (Array.getElem?_eq_some_iff.1 g1).1
      have hbl : (bytesL l).length = l.length := by simp [bytesL]
      have hH : Holds encStr w b 0 (bytesL l).toArray := by
        refine holds_of_block g1 ?_
        rw [hbl, show (bytesL l).map encStr = l.map Value.string from Lib.map_encStr l, ← hus]
        apply List.ext_getElem?
        intro j
        by_cases hj : j < l.length
        · rw [List.getElem?_take_of_lt hj, Array.getElem?_toList]
          have hj2 : j < us.length := by rw [hus]; simpa using hj
          rw [List.getElem?_eq_getElem hj2]
          exact g4 j _ (List.getElem?_eq_getElem hj2)
        · rw [List.getElem?_take_eq_none (by omega), List.getElem?_eq_none (by rw [hus]; simp; omega)]
      refine (sorted_c b info.cap l.length (bytesL l) w hbl.symm hH hblt (by omega) (by omega)).mono ?_
      rintro e w' ⟨rfl, q, os, rfl⟩
      have hlen : (sortedB l).length = (srt (bytesL l)).length := by simp [sortedB, strsL, srt, sortB]
      have hsl : (srt (bytesL l)).length ≤ l.length := by have := srt_len (bytesL l); omega
      have hpz : (put (bytesL l)).size = l.length := by simp [put]; omega
      have hh := heap_sorted (n := q) (os := os) (put (bytesL l)) g1
      have hcs : (putCells encStr 0 (put (bytesL l)) c).size = c.size := by simp [putCells]
      have hget : ∀ (k : Nat) (u : Value), ((sortedB l).map Value.string)[k]? = some u → (putCells encStr 0 (put (bytesL l)) c)[k]? = some u := by
        intro k u hu
        rw [show (sortedB l).map Value.string = (srt (bytesL l)).map encStr from strs_enc _] at hu
        have hk : k < (srt (bytesL l)).length := by
          rcases Nat.lt_or_ge k (srt (bytesL l)).length with h | h
          · exact h
          · rw [List.getElem?_eq_none (by simpa using h)] at hu; cases hu
        have e := take_putCells c (srt (bytesL l) ++ List.replicate ((bytesL l).length - (srt (bytesL l)).length) []) (by simp; omega)
        have e2 := congrArg (fun z => z[k]?) e
        simp only [List.length_append, List.length_replicate] at e2
        rw [List.getElem?_take_of_lt (by omega), Array.getElem?_toList, List.map_append, List.getElem?_append_left (by simpa using hk), hu] at e2
        exact e2
      have hout : ∀ (k : Nat), l.length ≤ k → (putCells encStr 0 (put (bytesL l)) c)[k]? = c[k]? := by
        intro k hk
        simp only [putCells, Array.getElem?_mapIdx]
        cases c[k]? with
        | none => rfl
        | some y => simp only [Option.map_some]; rw [if_neg (by omega)]
      let info1 : Info := ⟨some b, 1, (sortedB l).length, info.cap⟩
      have hr' : RLive ⟨G.base, G.K, [info, info1]⟩ (grow (putRow encStr (Sort.ahead w q) b 0 (put (bytesL l))) os) info1 ((sortedB l).map HV.str) true := by
        refine ⟨by simp [info1], by simp [info1]; omega, by simp; omega, strs_uni _, fun x hx => ?_, ⟨fun h => (by cases h), hl.nil.2⟩, fun b' hb' => ?_⟩
        · rw [strs_flat, List.mem_map] at hx
          obtain ⟨y, _, rfl⟩ := hx
          rfl
        · cases hb'
          refine ⟨_, _, (sortedB l).map Value.string, hh, by rw [hcs]; simpa [info1] using g2, ?_, hget, fun k h1 h2 => ?_, fun _ k h1 => ?_, fun h => (by cases h)⟩
          · rw [strs_flat]
            refine strs_R fun s hs' => ?_
            simp only [sortedB, strsL, List.mem_map] at hs'
            obtain ⟨z, hz', rfl⟩ := hs'
            have hm := mem_srt (zs := bytesL l) hz'
            simp only [bytesL, List.mem_map] at hm
            obtain ⟨s0, hs0, rfl⟩ := hm
            exact hsz s0 hs0
          · simp only [List.length_map, info1, Nat.mul_one] at h1 h2
            rcases Nat.lt_or_ge k l.length with h | h
            · exact g6 rfl k (by rw [hz, Nat.mul_one]; exact h)
            · exact g5 k h (by omega)
          · simp only [List.length_map, info1, Nat.mul_one] at h1
            exact g6 rfl k (by rw [hz, Nat.mul_one]; omega)
      have hkc : ∀ b' i u, G.K b' i = some u → (grow (putRow encStr (Sort.ahead w q) b 0 (put (bytesL l))) os).cell? ⟨b', i, none⟩ = some u := by
        intro b' i u hk
        have hc := hr.kc b' i u hk
        by_cases e : b' = b
        · subst e
          have hi : l.length ≤ i := by
            rcases Nat.lt_or_ge i l.length with h | h
            · rw [g6 rfl i (by rw [hz, Nat.mul_one]; exact h)] at hk; cases hk
            · exact h
          simp only [World.cell?, g1] at hc
          simp only [World.cell?, hh]
          simp only [Option.isSome_none, Bool.false_eq_true, if_false] at hc ⊢
          rw [hout i hi]
          exact hc
        · have hlt : b' < w.heap.size := by
            rcases Nat.lt_or_ge b' w.heap.size with h' | h'
            · exact h'
            · simp [World.cell?, Array.getElem?_eq_none h'] at hc
          rw [cell?_grow _ _ _ (by simpa using hlt)]
          simp only [World.cell?, putRow, mapBlock, Sort.ahead, Array.getElem?_modify, if_neg (Ne.symm e)]
          exact hc
      obtain ⟨q1, q2⟩ := two hr hs hkc rfl hr' rfl rfl rfl (by simp) (fun k hk hn => by
        rw [heap_grow_old _ _ (by simpa using hk)]
        have : b ≠ k := fun e => hn ⟨0, info, by rw [hs]; rfl, by rw [hb, e]⟩
        simp [putRow, mapBlock, Sort.ahead, Array.getElem?_modify, this]) (fun b' hb' => by cases hb'; exact .inl hb)
      exact ⟨_, _, _, _, rfl, ⟨rfl, rfl⟩, q1, by rw [← hlen]; exact .own (info := info1) rfl (Nat.le_refl _) fun _ => ⟨fun b' hb' => by cases hb'; rfl, rfl⟩, q2⟩
theorem grow_hc {n : Int} (h0 : 0 ≤ n) (h1 : n ≤ 1099511627776) : HC P 108 [.own 0 0, .int .i64 n] [.arr 1 [] true] fun r st => r = .own 1 0 ∧ st = [.dead, .arr 1 [] true] := by
  refine ⟨⟨_, Tryz.func108, by kernel_rfl, by kernel_rfl⟩, fun G w vs hr hR => ?_⟩
  obtain ⟨info, hs, hz, hl⟩ := one_obj hr
  cases hR with
  | vcons hv hnil =>
  cases hnil with
  | vcons hv2 hnil =>
  cases hnil
  cases hv2
  obtain ⟨a, rfl, ha⟩ := own_arg hs hl rfl hv
  have hn0 : info.n = 0 := hl.n
  obtain ⟨m, rfl⟩ : ∃ m : Nat, n = (m : Int) := ⟨n.toNat, by omega⟩
  show Calls Tryz.prog 108 #[.slice a 0 info.cap, .int .i64 (m : Int)] w _
  by_cases hroom : m ≤ info.cap
  · refine (Any8.slices_Grow_room Tryz.growS a 0 info.cap m w (Nat.zero_le _) hl.nil.2 (by omega) (by omega)).mono ?_
    rintro e w' ⟨rfl, rfl⟩
    have hr' : RLive ⟨G.base, G.K, [info, info]⟩ w' info [] true := ⟨hl.n, hl.cap, hl.lm, hl.uni, hl.flat, hl.nil, fun b hb => by
      obtain ⟨c, t, us, g1, g2, g3, g4, g5, g6, g7⟩ := hl.row b hb
      refine ⟨c, t, us, g1, g2, ?_, g4, g5, g6, g7⟩
      have : us = [] := List.length_eq_zero_iff.1 g3.vals_length
      subst this
      exact .vnil⟩
    obtain ⟨q1, q2⟩ := two hr hs hr.kc hz hr' rfl rfl rfl (Nat.le_refl _) (fun _ _ _ => rfl) (fun b hb => .inl hb)
    exact ⟨_, _, _, _, rfl, ⟨rfl, rfl⟩, q1, .own (info := info) rfl (by rw [hn0]; exact Nat.le_refl _) fun _ => ⟨ha, rfl⟩, q2⟩
  · have e1 : (Tryz.prog.info? (Tryz.growS_ren.t 25)).map (fun i => (i.size, i.bytes, i.zero)) = some (1, 16, some (.string ⟨⟨[]⟩⟩)) := by kernel_rfl
    obtain ⟨i0, hi0, hi⟩ := Option.map_eq_some_iff.1 e1
    simp only [Prod.mk.injEq] at hi
    obtain ⟨hi1, hi2, hi3⟩ := hi
    obtain ⟨cs, hcl, hcs⟩ : ∃ cs : List Value, cs.length = info.cap * i0.size ∧ ∀ a', a = some a' → ∀ j v, cs[j]? = some v → w.cell? (a'.add j) = some v := by
      cases hb : info.blk with
      | none =>
        have h0 := hl.nil.1 hb
        exact ⟨[], by rw [h0]; simp, fun a' _ j v hj => by simp at hj⟩
      | some b =>
        obtain ⟨c, t, us, g1, g2, g3, g4, g5, g6, g7⟩ := hl.row b hb
        rw [hz, Nat.mul_one] at g2
        refine ⟨c.toList.take info.cap, by rw [hi1]; simp; omega, fun a' ha' j v hj => ?_⟩
        rw [ha b hb] at ha'
        cases ha'
        rw [List.getElem?_take] at hj
        split at hj
        · rw [addr_add]
          simp only [World.cell?, g1, Nat.zero_add]
          simpa using hj
        · cases hj
    refine (Any8.slices_Grow_grow Tryz.growS i0 _ hi0 hi3 (by omega) a 0 info.cap m cs w (Nat.zero_le _) (by omega) (by rw [hi2]; omega) (by omega) hcl (fun hnone => ?_) hcs).mono ?_
    · cases hb : info.blk with
      | none => exact hl.nil.1 hb
      | some b => rw [ha b hb] at hnone; cases hnone
    rintro e w' ⟨rfl, rfl⟩
    have hge := grownCap_ge w (0 + m) info.cap (Tryz.growS_ren.t 25)
    have hle := grownCap_le_maxLen w (0 + m) info.cap (Tryz.growS_ren.t 25) (by unfold Go.maxLen; omega)
    unfold Go.maxLen at hle
    generalize hgc : grownCap w (0 + m) info.cap (Tryz.growS_ren.t 25) = gc at hge hle
    generalize hcc : cs.toArray ++ Builtin.zeroCells (Value.string ⟨⟨[]⟩⟩).cells (0 + m - info.cap) ++ Builtin.zeroCells (Value.string ⟨⟨[]⟩⟩).cells (gc - (0 + m)) = cc
    have hccs : cc.size = gc := by
      rw [← hcc, Array.size_append, Array.size_append, size_zeroCells, size_zeroCells, List.size_toArray, hcl, hi1]
      simp only [Value.cells, List.size_toArray, List.length_cons, List.length_nil]
      omega
    let info1 : Info := ⟨some w.heap.size, 1, 0, gc⟩
    have hr' : RLive ⟨G.base, G.K, [info, info1]⟩ (w.drew.alloc (.cells cc (Tryz.growS_ren.t 25))) info1 [] true := ⟨rfl, Nat.zero_le _, by simp, (fun x hx => by cases hx), (fun c hc => by simp at hc), ⟨fun q => (by cases q), hle⟩, fun b hb => by
      cases hb
      exact ⟨cc, _, [], ha_new w.drew _, by simp [info1, hccs], .vnil, fun k u hu => by simp at hu, fun k _ _ => K_new hr k, fun _ k _ => K_new hr k, fun q => by cases q⟩⟩
    obtain ⟨q1, q2⟩ := two hr hs (fun b i u hk => cell_same (ha_old w.drew _ _ (hr.K_lt hk)) (hr.kc _ _ _ hk)) rfl hr' rfl rfl rfl (by simp) (fun k hk _ => ha_old w.drew _ k hk) (fun b hb => by cases hb; exact .inr (Nat.le_refl _))
    exact ⟨_, _, _, _, rfl, ⟨rfl, rfl⟩, q1, .own (info := info1) rfl (Nat.le_refl _) fun _ => ⟨fun b hb => by cases hb; rfl, rfl⟩, q2⟩
theorem grow_claim (x : Int × List ByteArray) (o : List ByteArray) (h : growB x.1 x.2 = some o) : ClaimF P s_slices_Grow_string x o := by
  obtain ⟨n, l⟩ := x
  simp only [growB] at h
  cases hb : (decide (l = []) && (decide (0 ≤ n) && decide (n ≤ 1099511627776))) with
  | false => rw [hb] at h; cases h
  | true =>
    rw [hb] at h
    cases h
    simp only [Bool.and_eq_true, decide_eq_true_eq] at hb
    obtain ⟨rfl, h1, h2⟩ := hb
    intro _ _
    exact ⟨grow_hc h1 h2, rfl, rfl, trivial, by decide⟩
theorem sorted_claim (x : List ByteArray) (o : List ByteArray) (h : (some (sortedB x) : Option (List ByteArray)) = some o) : ClaimF P s_impl_sorted x o := by
  cases h
  intro _ _
  exact ⟨sorted_hc, rfl, rfl, trivial, by decide⟩
end J
end W
end
section
namespace W
set_option linter.unusedVariables false
set_option linter.unusedSimpArgs false
set_option maxRecDepth 100000
set_option maxHeartbeats 1000000
namespace J
open Go Go.RowKit Go.Sort Go.Proofs HL HL.X
def putC (zs : List (List UInt8)) : Array (List UInt8) := (Lib.compact zs ++ List.replicate (zs.length - (Lib.compact zs).length) []).toArray
theorem compact_s (b cap n : Nat) (zs : List (List UInt8)) (w : World) (hn : n = zs.length) (hH : Holds encStr w b 0 zs.toArray) (hs : zs.length < 4611686018427387904) (hc : zs.length ≤ cap) :
    Calls Tryz.prog 41 #[.slice (some ⟨b, 0, none⟩) n cap] w fun e w' => e = .returned (.slice (some ⟨b, 0, none⟩) (Lib.compact zs).length cap) ∧ ∃ q os, w' = grow (putRow encStr (Sort.ahead w q) b 0 (putC zs)) os := by
  refine (compact_c b cap n zs w hn hH (by omega) hc).mono ?_
  rintro e w' ⟨rfl, q, rfl⟩
  exact ⟨rfl, q, #[], (grow_empty _).symm⟩
theorem compact_hc {l : List ByteArray} : HC P 41 [.own 0 l.length] [.arr 1 (l.map HV.str) true] fun r st => r = .own 1 (compactB l).length ∧ st = [.dead, .arr 1 ((compactB l).map HV.str) true] := by
  refine ⟨⟨_, Tryz.func41, by kernel_rfl, by kernel_rfl⟩, fun G w vs hr hR => ?_⟩
  obtain ⟨info, hs, hz, hl⟩ := one_obj hr
  cases hR with
  | vcons hv hnil =>
  cases hnil
  obtain ⟨a, rfl, ha⟩ := own_arg hs hl (by simp) hv
  have hln : info.n = l.length := by rw [hl.n, List.length_map]
  have hcap : l.length ≤ info.cap := by have := hl.cap; rwa [List.length_map] at this
  have hlm : l.length ≤ lim := by have := hl.lm; rwa [List.length_map] at this
  have hlim : lim = 140737488355328 := rfl
  show Calls Tryz.prog 41 #[.slice a l.length info.cap] w _
  by_cases h0 : l = []
  · subst h0
    have hs0 : compactB [] = [] := by simp [compactB, bytesL, strsL, Lib.compact, Lib.compactUpTo]
    rw [hs0]
    refine (compact_e a info.cap w).mono ?_
    rintro e w' ⟨rfl, rfl⟩
    have hr' : RLive ⟨G.base, G.K, [info, info]⟩ w' info [] true := ⟨hl.n, hl.cap, hl.lm, hl.uni, hl.flat, hl.nil, fun b hb => by
      obtain ⟨c, t, us, g1, g2, g3, g4, g5, g6, g7⟩ := hl.row b hb
      refine ⟨c, t, us, g1, g2, ?_, g4, g5, g6, g7⟩
      have : us = [] := List.length_eq_zero_iff.1 g3.vals_length
      subst this
      exact .vnil⟩
    obtain ⟨q1, q2⟩ := two hr hs hr.kc hz hr' rfl rfl rfl (Nat.le_refl _) (fun _ _ _ => rfl) (fun b hb => .inl hb)
    exact ⟨_, _, _, _, rfl, ⟨rfl, rfl⟩, q1, .own (info := info) rfl (by rw [hln]; exact Nat.le_refl _) fun _ => ⟨ha, rfl⟩, q2⟩
  · have hpos : 0 < l.length := List.length_pos_iff.2 h0
    cases hb : info.blk with
    | none => have := hl.nil.1 hb; omega
    | some b =>
      rw [ha b hb]
      obtain ⟨c, t, us, g1, g2, g3, g4, g5, g6, g7⟩ := hl.row b hb
      rw [hz, Nat.mul_one] at g2 g5
      rw [List.length_map] at g5 g6
      rw [strs_flat] at g3
      obtain ⟨hus, hsz⟩ := strs_of g3
      have hblt : b < w.heap.size := (Array.getElem?_eq_some_iff.1 g1).1
      have hbl : (bytesL l).length = l.length := by simp [bytesL]
      have hH : Holds encStr w b 0 (bytesL l).toArray := by
        refine holds_of_block g1 ?_
        rw [hbl, show (bytesL l).map encStr = l.map Value.string from Lib.map_encStr l, ← hus]
        apply List.ext_getElem?
        intro j
        by_cases hj : j < l.length
        · rw [List.getElem?_take_of_lt hj, Array.getElem?_toList]
          have hj2 : j < us.length := by rw [hus]; simpa using hj
          rw [List.getElem?_eq_getElem hj2]
          exact g4 j _ (List.getElem?_eq_getElem hj2)
        · rw [List.getElem?_take_eq_none (by omega), List.getElem?_eq_none (by rw [hus]; simp; omega)]
      refine (compact_s b info.cap l.length (bytesL l) w hbl.symm hH (by omega) (by omega)).mono ?_
      rintro e w' ⟨rfl, q, os, rfl⟩
      have hlen : (compactB l).length = (Lib.compact (bytesL l)).length := by simp [compactB, strsL]
      have hsl : (Lib.compact (bytesL l)).length ≤ l.length := by have := compact_len (bytesL l); omega
      have hpz : (putC (bytesL l)).size = l.length := by simp [putC]; omega
      have hh := heap_sorted (n := q) (os := os) (putC (bytesL l)) g1
      have hcs : (putCells encStr 0 (putC (bytesL l)) c).size = c.size := by simp [putCells]
      have hget : ∀ (k : Nat) (u : Value), ((compactB l).map Value.string)[k]? = some u → (putCells encStr 0 (putC (bytesL l)) c)[k]? = some u := by
        intro k u hu
        rw [show (compactB l).map Value.string = (Lib.compact (bytesL l)).map encStr from strs_enc _] at hu
        have hk : k < (Lib.compact (bytesL l)).length := by
          rcases Nat.lt_or_ge k (Lib.compact (bytesL l)).length with h | h
          · exact h
          · rw [List.getElem?_eq_none (by simpa using h)] at hu; cases hu
        have e := take_putCells c (Lib.compact (bytesL l) ++ List.replicate ((bytesL l).length - (Lib.compact (bytesL l)).length) []) (by simp; omega)
        have e2 := congrArg (fun z => z[k]?) e
        simp only [List.length_append, List.length_replicate] at e2
        rw [List.getElem?_take_of_lt (by omega), Array.getElem?_toList, List.map_append, List.getElem?_append_left (by simpa using hk), hu] at e2
        exact e2
      have hout : ∀ (k : Nat), l.length ≤ k → (putCells encStr 0 (putC (bytesL l)) c)[k]? = c[k]? := by
        intro k hk
        simp only [putCells, Array.getElem?_mapIdx]
        cases c[k]? with
        | none => rfl
        | some y => simp only [Option.map_some]; rw [if_neg (by omega)]
      let info1 : Info := ⟨some b, 1, (compactB l).length, info.cap⟩
      have hr' : RLive ⟨G.base, G.K, [info, info1]⟩ (grow (putRow encStr (Sort.ahead w q) b 0 (putC (bytesL l))) os) info1 ((compactB l).map HV.str) true := by
        refine ⟨by simp [info1], by simp [info1]; omega, by simp; omega, strs_uni _, fun x hx => ?_, ⟨fun h => (by cases h), hl.nil.2⟩, fun b' hb' => ?_⟩
        · rw [strs_flat, List.mem_map] at hx
          obtain ⟨y, _, rfl⟩ := hx
          rfl
        · cases hb'
          refine ⟨_, _, (compactB l).map Value.string, hh, by rw [hcs]; simpa [info1] using g2, ?_, hget, fun k h1 h2 => ?_, fun _ k h1 => ?_, fun h => (by cases h)⟩
          · rw [strs_flat]
            refine strs_R fun s hs' => ?_
            simp only [compactB, strsL, List.mem_map] at hs'
            obtain ⟨z, hz', rfl⟩ := hs'
            have hm := mem_compact (zs := bytesL l) hz'
            simp only [bytesL, List.mem_map] at hm
            obtain ⟨s0, hs0, rfl⟩ := hm
            exact hsz s0 hs0
          · simp only [List.length_map, info1, Nat.mul_one] at h1 h2
            rcases Nat.lt_or_ge k l.length with h | h
            · exact g6 rfl k (by rw [hz, Nat.mul_one]; exact h)
            · exact g5 k h (by omega)
          · simp only [List.length_map, info1, Nat.mul_one] at h1
            exact g6 rfl k (by rw [hz, Nat.mul_one]; omega)
      have hkc : ∀ b' i u, G.K b' i = some u → (grow (putRow encStr (Sort.ahead w q) b 0 (putC (bytesL l))) os).cell? ⟨b', i, none⟩ = some u := by
        intro b' i u hk
        have hc := hr.kc b' i u hk
        by_cases e : b' = b
        · subst e
          have hi : l.length ≤ i := by
            rcases Nat.lt_or_ge i l.length with h | h
            · rw [g6 rfl i (by rw [hz, Nat.mul_one]; exact h)] at hk; cases hk
            · exact h
          simp only [World.cell?, g1] at hc
          simp only [World.cell?, hh]
          simp only [Option.isSome_none, Bool.false_eq_true, if_false] at hc ⊢
          rw [hout i hi]
          exact hc
        · have hlt : b' < w.heap.size := by
            rcases Nat.lt_or_ge b' w.heap.size with h' | h'
            · exact h'
            · simp [World.cell?, Array.getElem?_eq_none h'] at hc
          rw [cell?_grow _ _ _ (by simpa using hlt)]
          simp only [World.cell?, putRow, mapBlock, Sort.ahead, Array.getElem?_modify, if_neg (Ne.symm e)]
          exact hc
      obtain ⟨q1, q2⟩ := two hr hs hkc rfl hr' rfl rfl rfl (by simp) (fun k hk hn => by
        rw [heap_grow_old _ _ (by simpa using hk)]
        have : b ≠ k := fun e => hn ⟨0, info, by rw [hs]; rfl, by rw [hb, e]⟩
        simp [putRow, mapBlock, Sort.ahead, Array.getElem?_modify, this]) (fun b' hb' => by cases hb'; exact .inl hb)
      exact ⟨_, _, _, _, rfl, ⟨rfl, rfl⟩, q1, by rw [← hlen]; exact .own (info := info1) rfl (Nat.le_refl _) fun _ => ⟨fun b' hb' => by cases hb'; rfl, rfl⟩, q2⟩
theorem compact_claim (x : List ByteArray) (o : List ByteArray) (h : (some (compactB x) : Option (List ByteArray)) = some o) : ClaimF P s_slices_Compact_string x o := by
  cases h
  intro _ _
  exact ⟨compact_hc, rfl, rfl, trivial, by decide⟩
end J
end W
end
