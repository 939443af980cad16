/- l8Make: the contract, in the words of HX. -/
import Derived.Test.YtamneeogomklgaaGreatGWlk
import Derived.Test.YtamneeogomklgaaGreatGCon
import Derived.Test.YtamneeogomklgaaGreatGLaw1
set_option linter.unusedSimpArgs false
set_option linter.unusedVariables false
set_option linter.unusedSectionVars false
namespace W
set_option linter.unusedVariables false
set_option maxRecDepth 100000
set_option maxHeartbeats 1000000
namespace Q
open Go HL HL.X HL.Y Go.RowKit
theorem memB_dc {s : ByteArray} {l : List ByteArray} : dc (s ∈ l) = memB s l := by
  cases q : memB s l with
  | true => exact dc_t (memB_iff.1 q)
  | false => exact dc_f fun h => by rw [memB_iff.2 h] at q; cases q
theorem ScdL_strs (l : List ByteArray) : ScdL 0 (flatL (l.map HV.str)) := by
  rw [flat_strs]
  exact ScdL_iff.2 fun x hx => by
    obtain ⟨i, _, rfl⟩ := List.mem_map.1 hx
    trivial
theorem make_hc {l : List Dec} (hl : Sm l) : HC P 25 [.sl (l.map Dec.enc)] [] fun r st => r = (l8B l).enc ∧ st = [] := by
  refine ⟨⟨_, Go.Proofs.Tryz.func25, by kernel_rfl, by kernel_rfl⟩, fun G w vs hr hR => ?_⟩
  have hlim : lim = 140737488355328 := rfl
  have hs0 : G.s = [] := List.length_eq_zero_iff.1 hr.len
  have hB : G.base ≤ w.heap.size := hr.tab.1.1
  have hD0 : D G.base w (.vals vs [.sl (l.map Dec.enc)]) := R.mono_gh (G := G) (G' := Gw G.base w) rfl (fun b i u hu => hr.kc b i u hu) (fun id info hi => by rw [hs0] at hi; simp at hi) hR
  clear hR
  cases hD0 with
  | vcons hD hnil =>
  cases hnil
  rename_i v
  have tabW : ∀ {w' : World}, w.heap.size ≤ w'.heap.size → TabW P (Gw G.base w') w' := fun h => TabW.noW noTab (by omega)
  refine Calls.mono (make_raw hl.1 (fun d hd => ?_) hD (fun ns s w1 v1 hn hw1 hD1 => ?_) (fun s w1 hs hb => ?_)) ?_
  · have := hl.2 d hd
    have h2 := Dec.cost_eq d
    omega
  · refine (hcp (B := G.base) (vs := [v1, .string s]) (H_has hn s) hD1 (tabW hw1)).mono ?_
    rintro e w' ⟨v2, rfl, hv, hb⟩
    rw [memB_dc] at hv
    cases hv
    exact ⟨rfl, hb⟩
  · obtain ⟨r, m, hr', hc⟩ := H_needs hl s
    have hD1 : D G.base w1 (.vals [v, .string s] [.sl (l.map Dec.enc), .str s]) := .vcons (D.mono hD fun k hk => hb.block k hk) (.vcons (.str hs) .vnil)
    refine (hco (B := G.base) (vs := [v, .string s]) hc (ScdL_strs r) hD1 (tabW hb.size)).mono ?_
    rintro e w' ⟨v2, rfl, ho, hb2⟩
    obtain ⟨h1, h2⟩ := OwnL.strs ho
    refine ⟨v2, r, rfl, h1, by omega, h2, fun t => ?_, hb2⟩
    rw [Bool.eq_iff_iff, memB_iff, m]
    exact ⟨fun h => h.1, fun h => ⟨h, fun q => by rw [q, need_under] at h; cases h⟩⟩
  · rintro e w' ⟨v2, rfl, hv, hb⟩
    refine ⟨v2, _, _, ⟨G.base, fun b i => if b < w.heap.size then G.K b i else w'.cell? ⟨b, i, none⟩, []⟩, rfl, ⟨rfl, rfl⟩, ⟨rfl, fun b i u hu => ?_, fun id info o hi => by simp at hi, fun id id' info info' o o' b b' hi => by simp at hi, ⟨⟨by have := hb.size; show G.base ≤ _; omega, fun b ⟨id, info, hi, _⟩ => by simp at hi⟩, fun g hg => by rw [show P.globalNamed "internal/strconv.uint64pow10" = none from noTab] at hg; cases hg⟩⟩, hv _ fun b i u h1 h2 => ?_, ⟨rfl, fun b i u hu => ?_, fun b i u hu => ?_, fun id info hi => by rw [hs0] at hi; simp at hi, hb.os, hb.tape, hb.output, hb.size, fun k hk _ => hb.block k hk, fun b ⟨id, info, hi, _⟩ => by simp at hi⟩⟩
    · simp only at hu
      split at hu
      · rename_i hlt
        exact (hb.cell (p := ⟨b, i, none⟩) hlt).trans (hr.kc b i u hu)
      · exact hu
    · show (if b < w.heap.size then G.K b i else w'.cell? ⟨b, i, none⟩) = some u
      rw [if_neg (by omega)]
      exact h2
    · show (if b < w.heap.size then G.K b i else w'.cell? ⟨b, i, none⟩) = some u
      rw [if_pos (World.block_lt_of_cell? w ⟨b, i, none⟩ (hr.kc b i u hu))]
      exact hu
    · simp only at hu
      split at hu
      · exact .inl hu
      · rename_i h
        exact .inr (.inl (by omega))
theorem sm_of {l : List Dec} (h : smB l = true) : Sm l := sm_iff.1 h
theorem make_claim (x : List Dec) (o : spec_l8Web) (h : l8M x = some o) : ClaimF P s_spec_l8Make x o := by
  unfold l8M at h
  cases q : smB x with
  | false => rw [q] at h; cases h
  | true =>
    rw [q] at h
    cases h
    intro _ _
    exact ⟨make_hc (sm_of q), rfl, rfl, trivial, by decide⟩
end Q
end W
