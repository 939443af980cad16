/- What the library's sort, compact and grow do to a list of strings of one's own: by the shelf's contracts. -/
import Derived.Test.YtoojgahbfpdhgaaNTab
import Derived.Test.YtoojgahbfpdhgaaNShelf
import Derived.Sort.EveryDepth
import Derived.Sort.OwnSorted
import Derived.Lib.OwnBridge
import Derived.Tactics
set_option linter.unusedSimpArgs false
set_option linter.unusedVariables false
set_option linter.unusedSectionVars false
namespace W
set_option linter.unusedVariables false
set_option linter.unusedSimpArgs false
set_option maxRecDepth 100000
set_option maxHeartbeats 400000
namespace J
open Go Go.RowKit Go.Sort Go.Proofs
open HL (lim)

abbrev le8 : List UInt8 → List UInt8 → Bool := fun x y => decide (x ≤ y)
theorem sort_c (b cap n : Nat) (zs : List (List UInt8)) (w : World) (hn : n = zs.length) (hH : Holds encStr w b 0 zs.toArray) (hb : b < w.heap.size) (hs : zs.length < 4611686018427387904) :
    Calls Try.prog 67 #[.slice (some ⟨b, 0, none⟩) n cap] w fun e w' => e = .returned (.tuple #[]) ∧ ∃ q os, w' = grow (putRow encStr (Sort.ahead w q) b 0 (zs.mergeSort le8).toArray) os := by
  subst hn
  exact calls_of_every_depth fun D => AnyS.slices_Sort_string_alone Try.lays190 D b 0 cap zs w hH hb hs
theorem sort_e (a : Option Addr) (cap : Nat) (w : World) :
    Calls Try.prog 67 #[.slice a 0 cap] w fun e w' => e = .returned (.tuple #[]) ∧ w' = w :=
  calls_of_every_depth fun D => AnyS.slices_Sort_string_none_alone Try.lays190 D a cap w
theorem compact_c (b cap n : Nat) (zs : List (List UInt8)) (w : World) (hn : n = zs.length) (hH : Holds encStr w b 0 zs.toArray) (hs : zs.length ≤ 9223372036854775807) (hc : zs.length ≤ cap) :
    Calls Try.prog 68 #[.slice (some ⟨b, 0, none⟩) n cap] w fun e w' => e = .returned (.slice (some ⟨b, 0, none⟩) (Lib.compact zs).length cap) ∧ ∃ q, w' = putRow encStr (Sort.ahead w q) b 0 (Lib.compact zs ++ List.replicate (zs.length - (Lib.compact zs).length) []).toArray := by
  subst hn
  exact calls_of_every_depth fun D => AnyS.slices_Compact_string_in Try.lays194 D b 0 cap zs w hH hs hc
theorem compact_e (a : Option Addr) (cap : Nat) (w : World) :
    Calls Try.prog 68 #[.slice a 0 cap] w fun e w' => e = .returned (.slice a 0 cap) ∧ w' = w :=
  calls_of_every_depth fun D => AnyS.slices_Compact_string_empty_in Try.lays194 D a cap w

theorem sorted_e (a : Option Addr) (cap : Nat) (w : World) :
    Calls Try.prog 55 #[.slice a 0 cap] w fun e w' => e = .returned (.slice a 0 cap) ∧ w' = w := by
  go_enter Try.func55, Try.ntmps55
  go_wp2_with first
    | (go_at_call 67; refine (sort_e a cap w).mono ?_; rintro e w' ⟨rfl, rfl⟩)
    | (go_at_call 68; refine (compact_e a cap _).mono ?_; rintro e w' ⟨rfl, rfl⟩)
  go_ret
  exact ⟨rfl, rfl⟩

/-- What lies behind a list that was sorted, each once. -/
def srt (zs : List (List UInt8)) : List (List UInt8) := Lib.compact (zs.mergeSort le8)
def put (zs : List (List UInt8)) : Array (List UInt8) := (srt zs ++ List.replicate (zs.length - (srt zs).length) []).toArray

theorem compact_len (zs : List (List UInt8)) : (Lib.compact zs).length ≤ zs.length := by
  unfold Lib.compact Lib.compactUpTo
  rw [List.length_map]
  refine Nat.le_trans (List.length_filter_le _ _) ?_
  simp
theorem srt_len (zs : List (List UInt8)) : (srt zs).length ≤ zs.length := by
  have := compact_len (zs.mergeSort le8)
  rwa [List.length_mergeSort] at this

theorem sorted_c (b cap n : Nat) (zs : List (List UInt8)) (w : World) (hn : n = zs.length) (hH : Holds encStr w b 0 zs.toArray) (hb : b < w.heap.size) (hs : zs.length < 4611686018427387904) (hc : zs.length ≤ cap) :
    Calls Try.prog 55 #[.slice (some ⟨b, 0, none⟩) n cap] w fun e w' => e = .returned (.slice (some ⟨b, 0, none⟩) (srt zs).length cap) ∧ ∃ q os, w' = grow (putRow encStr (Sort.ahead w q) b 0 (put zs)) os := by
  have c1 := sort_c b cap n zs w hn hH hb hs
  have c2 : ∀ w1, (∃ q os, w1 = grow (putRow encStr (Sort.ahead w q) b 0 (zs.mergeSort le8).toArray) os) → Calls Try.prog 68 #[.slice (some ⟨b, 0, none⟩) n cap] w1 fun e w' => e = .returned (.slice (some ⟨b, 0, none⟩) (srt zs).length cap) ∧ ∃ q os, w' = grow (putRow encStr (Sort.ahead w q) b 0 (put zs)) os := by
    rintro _ ⟨q, os, rfl⟩
    have hl : (zs.mergeSort le8).length = zs.length := List.length_mergeSort _
    have hH2 : Holds encStr (grow (putRow encStr (Sort.ahead w q) b 0 (zs.mergeSort le8).toArray) os) b 0 (zs.mergeSort le8).toArray :=
      holds_grow _ _ _ _ _ _ (by simpa using hb) (holds_putRow encStr (Sort.ahead w q) b 0 zs.toArray (zs.mergeSort le8).toArray (holds_ahead _ _ _ _ _ _ hH) (by simp [hl]))
    refine (compact_c b cap n (zs.mergeSort le8) _ (by omega) hH2 (by omega) (by omega)).mono ?_
    rintro e w2 ⟨rfl, q2, rfl⟩
    refine ⟨rfl, q + q2, os, ?_⟩
    rw [hl]
    show putRow encStr (Sort.ahead (grow (putRow encStr (Sort.ahead w q) b 0 (zs.mergeSort le8).toArray) os) q2) b 0 (put zs) = _
    have := srt_len zs
    rw [ahead_grow, putRow_grow _ _ _ _ _ _ (by simpa using hb), putRow_ahead_putRow]
    simp [put, hl]
    omega
  clear hn hH hb hs hc
  generalize (zs.mergeSort le8).toArray = Z1 at c1 c2
  generalize (srt zs).length = N1 at c2 ⊢
  generalize put zs = Z2 at c2 ⊢
  go_enter Try.func55, Try.ntmps55
  go_wp2_with (go_at_call 67; refine c1.mono ?_; rintro e w1 ⟨rfl, hw⟩)
  replace c2 := c2 _ hw
  clear hw c1
  go_wp2_with (go_at_call 68; refine c2.mono ?_; rintro e w2 ⟨rfl, hw2⟩)
  go_ret
  exact ⟨rfl, hw2⟩
end J
end W
