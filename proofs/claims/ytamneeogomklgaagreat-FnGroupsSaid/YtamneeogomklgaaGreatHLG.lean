/- HL: words that printed proofs use. Nothing of a seat is named here. -/
import Derived.Test.YtamneeogomklgaaGreatHLF
set_option linter.unusedSimpArgs false
set_option linter.unusedVariables false
set_option linter.unusedSectionVars false
namespace HL
open Go
theorem bs {α β : Type} {x : Option α} {f : α → Option β} {r : β} (h : (x >>= f) = some r) : ∃ y, x = some y ∧ f y = some r := Option.bind_eq_some_iff.1 h
def ix {α : Type} (l : List α) (i : Int) : Option α := if 0 ≤ i then l[i.toNat]? else none
theorem ix_nn {α : Type} {l : List α} {i : Int} {x : α} (h : ix l i = some x) : 0 ≤ i := by
  unfold ix at h; split at h
  · assumption
  · cases h
theorem ix_get {α : Type} {l : List α} {i : Int} {x : α} (h : ix l i = some x) : l[i.toNat]? = some x := by
  unfold ix at h; split at h
  · exact h
  · cases h
def bx (s : ByteArray) (i : Int) : Option Int := if 0 ≤ i then (s.data[i.toNat]?).map (fun b => (b.toNat : Int)) else none
theorem bx_nn {s : ByteArray} {i x : Int} (h : bx s i = some x) : 0 ≤ i := by
  unfold bx at h; split at h
  · assumption
  · cases h
theorem bx_get {s : ByteArray} {i x : Int} (h : bx s i = some x) : ∃ c : UInt8, s.data[i.toNat]? = some c ∧ ((c.toNat : Nat) : Int) = x := by
  unfold bx at h; split at h
  · simpa [Option.map_eq_some_iff] using h
  · cases h
def gd (p : Prop) [Decidable p] : Option Unit := if p then some () else none
theorem gd_some {p : Prop} [Decidable p] {u : Unit} (h : gd p = some u) : p := by
  unfold gd at h; split at h
  · assumption
  · cases h
def Cl (h : HV) : Prop := (∀ σ, h.ren σ = h) ∧ ∀ n, Scd n h
def ClL (l : List HV) : Prop := (∀ σ, renL σ l = l) ∧ ∀ n, ScdL n l
theorem ClL.nil : ClL [] := ⟨fun _ => rfl, fun _ => trivial⟩
theorem ClL.cons {x : HV} {l : List HV} (h : Cl x) (h' : ClL l) : ClL (x :: l) := ⟨fun σ => by rw [renL, h.1, h'.1], fun n => ⟨h.2 n, h'.2 n⟩⟩
theorem clapp {a b : List HV} (h : ClL a) (h' : ClL b) : ClL (a ++ b) := ⟨fun σ => by rw [renL_append, h.1, h'.1], fun n => by
  rw [ScdL_iff]; intro x hx
  rcases List.mem_append.1 hx with hx | hx
  · exact ScdL_iff.1 (h.2 n) x hx
  · exact ScdL_iff.1 (h'.2 n) x hx⟩
theorem cl_of {l : List HV} (h : ClL l) : Cl (.agg l) := ⟨fun σ => by rw [HV.ren, h.1], fun n => h.2 n⟩
theorem cl_sl {l : List HV} (h : ClL l) : Cl (.sl l) := ⟨fun σ => by rw [HV.ren, h.1], fun n => h.2 n⟩
theorem cl_cells {x : HV} (h : Cl x) : ClL x.cells := ⟨fun σ => by rw [← cells_ren, h.1], fun n => ScdL_iff.2 (Scd_cells (h.2 n))⟩
theorem cl_int (k : IntKind) (i : Int) : Cl (.int k i) := ⟨fun _ => rfl, fun _ => trivial⟩
theorem cl_bool (b : Bool) : Cl (.bool b) := ⟨fun _ => rfl, fun _ => trivial⟩
theorem cl_str (s : ByteArray) : Cl (.str s) := ⟨fun _ => rfl, fun _ => trivial⟩
theorem cll_of {α : Type} {f : α → HV} (h : ∀ x, Cl (f x)) : ∀ l : List α, ClL (List.map f l)
  | [] => .nil
  | x :: l => .cons (h x) (cll_of h l)
section
variable {P : Program} {fz : Bool} {env : Env} {st : St}
end
section
variable {fz : Bool} {env : Env} {st : St}
end
end HL
