/- HLS: strings of a call's own, as they lie. Nothing of a seat is named here. -/
import Derived.Test.YtoojgahbfpdhgaaHLZ
set_option linter.unusedSimpArgs false
set_option linter.unusedVariables false
set_option linter.unusedSectionVars false
namespace HL
namespace Y
open Go Go.RowKit
set_option linter.unusedVariables false

theorem uni_strs (l : List ByteArray) : Uni 1 (l.map HV.str) := fun x hx => by
  obtain ⟨i, _, rfl⟩ := List.mem_map.1 hx
  rfl
theorem flat_strs : ∀ l : List ByteArray, flatL (l.map HV.str) = l.map HV.str
  | [] => rfl
  | x :: l => by rw [List.map_cons, flatL, List.flatMap_cons]; exact congrArg _ (flat_strs l)
/-- Strings lie behind a slice, from a block on. -/
def StrsAt (lo : Nat) (w : World) (a : Option Addr) (cap : Nat) (l : List ByteArray) : Prop :=
  (∀ s ∈ l, s.size ≤ lim) ∧ (l = [] ∧ cap = 0 ∨ ∃ b c t, a = some ⟨b, 0, none⟩ ∧ lo ≤ b ∧ b < w.heap.size ∧ l.length ≤ cap ∧ w.heap[b]? = some (.cells c t (0, 0)) ∧ ∀ (i : Nat) (x : ByteArray), l[i]? = some x → c[i]? = some (.string x))
theorem D_strs {B : Nat} {w : World} : ∀ {l : List ByteArray}, (∀ s ∈ l, s.size ≤ lim) → D B w (.vals (l.map Value.string) (l.map HV.str))
  | [], _ => .vnil
  | x :: l, h => .vcons (.str (h x (by simp))) (D_strs fun s hs => h s (by simp [hs]))
theorem StrsAt.d {lo B : Nat} {w : World} {a : Option Addr} {cap : Nat} {l : List ByteArray} (h : StrsAt lo w a cap l) (hl : l.length ≤ lim) : D B w (.val (.slice a l.length cap) (.sl (l.map HV.str))) := by
  obtain ⟨hs, h⟩ := h
  rcases h with ⟨rfl, rfl⟩ | ⟨b, c, t, rfl, _, _, h1, h2, h3⟩
  · exact .sl0
  · refine .sl (sz := 1) (l.map Value.string) (uni_strs l) (by rw [flat_strs]; exact D_strs hs) (fun k u hk => ?_) ?_ (by simpa using h1) (by simp) (by simpa using hl)
    · show World.cell? _ _ = _
      rw [Nat.zero_add]
      rw [List.getElem?_map, Option.map_eq_some_iff] at hk
      obtain ⟨x, hx, rfl⟩ := hk
      exact cell_of_row h2 (h3 k x hx)
    · rw [flat_strs]
      intro x hx
      obtain ⟨i, _, rfl⟩ := List.mem_map.1 hx
      rfl
theorem StrsAt.mono {lo : Nat} {w w' : World} {a : Option Addr} {cap : Nat} {l : List ByteArray} (h : StrsAt lo w a cap l) (hs : w.heap.size ≤ w'.heap.size) (hh : ∀ k, lo ≤ k → k < w.heap.size → w'.heap[k]? = w.heap[k]?) : StrsAt lo w' a cap l := by
  obtain ⟨h0, h⟩ := h
  refine ⟨h0, ?_⟩
  rcases h with h | ⟨b, c, t, h1, h2, h3, h4, h5, h6⟩
  · exact .inl h
  · exact .inr ⟨b, c, t, h1, h2, by omega, h4, (hh b h2 h3).trans h5, h6⟩
theorem StrsAt.room {lo : Nat} {w : World} {a : Option Addr} {cap : Nat} {l : List ByteArray} (h : StrsAt lo w a cap l) (hn : l.length ≠ 0) : ∃ b c t, a = some ⟨b, 0, none⟩ ∧ lo ≤ b ∧ w.heap[b]? = some (.cells c t (0, 0)) ∧ l.length ≤ c.size := by
  rcases h.2 with ⟨rfl, _⟩ | ⟨b, c, t, h1, h2, h3, h4, h5, h6⟩
  · simp at hn
  · refine ⟨b, c, t, h1, h2, h5, ?_⟩
    have := h6 (l.length - 1) _ (List.getElem?_eq_getElem (by omega))
    have := (Array.getElem?_eq_some_iff.1 this).1
    omega
theorem D_str_inv {B : Nat} {w : World} {us : List Value} : ∀ {l : List ByteArray}, D B w (.vals us (l.map HV.str)) → us = l.map Value.string ∧ ∀ s ∈ l, s.size ≤ lim := by
  intro l
  induction l generalizing us with
  | nil => intro h; cases h; exact ⟨rfl, by simp⟩
  | cons x l ih =>
    intro h
    cases h with
    | vcons h1 h2 =>
      cases h1 with
      | str hs =>
        obtain ⟨e, q⟩ := ih h2
        exact ⟨by rw [e]; rfl, fun s hs' => (List.mem_cons.1 hs').elim (fun e => e ▸ hs) (q s)⟩
/-- Strings of a call's own. -/
theorem OwnL.strs {B lo : Nat} {w : World} {a : Option Addr} {cap n : Nat} {l : List ByteArray} (h : OwnL B lo w (.slice a n cap) 1 (l.map HV.str)) : StrsAt lo w a cap l := by
  obtain ⟨a', cap', e, hl, hu, hf, h⟩ := h
  simp only [Value.slice.injEq] at e
  obtain ⟨rfl, rfl, rfl⟩ := e
  rcases h with ⟨rfl, h⟩ | ⟨b, c, t, us, rfl, h1, h2, h3, h4, h5⟩
  · have : l = [] := by simpa using h
    subst this
    exact ⟨by simp, .inl ⟨rfl, rfl⟩⟩
  · rw [flat_strs] at h4
    obtain ⟨e1, e2⟩ := D_str_inv h4
    rw [e1] at h5
    exact ⟨e2, .inr ⟨b, c, t, rfl, h1, (Array.getElem?_eq_some_iff.1 h3).1, by simpa using h2, h3, fun i x hx => h5 i _ (by rw [List.getElem?_map, hx]; rfl)⟩⟩
end Y
end HL
