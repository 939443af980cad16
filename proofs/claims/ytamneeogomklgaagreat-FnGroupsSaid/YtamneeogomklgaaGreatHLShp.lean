/- HL: what data of a type look like, for printed texts. Nothing of a seat is named here. -/
import Derived.Test.YtamneeogomklgaaGreatHLEntry
import Derived.Test.YtamneeogomklgaaGreatHLK
set_option linter.unusedSimpArgs false
set_option linter.unusedVariables false
set_option linter.unusedSectionVars false
namespace HL
open Go Go.RowKit
theorem reach_lim {n : Nat} (h : n ≤ reachBytes) : n ≤ lim := by unfold reachBytes at h; unfold lim; omega
theorem Shp_int {P : Program} {n : Nat} {t : TypeId} {h : HV} {k : IntKind} (hu : P.underlying t = some (.int k)) (hs : Shp P n t h) : ∃ i, h = .int k i ∧ (Lit.int k i).wf = true := by
  cases n with
  | zero => exact hs.elim
  | succ n =>
    simp only [Shp, hu] at hs
    exact hs
theorem Shp_sl {P : Program} {n : Nat} {t e : TypeId} {ts : List TypeId} {h : HV} (hok : okTys P ts = true) (ht : t ∈ ts) (hu : P.underlying t = some (.slice e)) (hs : Shp P (n + 1) t h) : ∃ l, h = .sl l ∧ l.length ≤ lim ∧ ∀ x ∈ l, Shp P n e x := by
  simp only [Shp, hu] at hs
  obtain ⟨l, rfl, h2, h3⟩ := hs
  have hk := okTys_mem hok ht
  unfold okTy at hk
  rw [hu] at hk
  simp only [Bool.and_eq_true, decide_eq_true_eq] at hk
  obtain ⟨⟨_, k3⟩, _⟩ := hk
  have : l.length * 1 ≤ l.length * P.bytesOf e := Nat.mul_le_mul_left _ k3
  exact ⟨l, rfl, reach_lim (by omega), h3⟩
theorem all_enc {α : Type} {f : α → HV} {p : α → Prop} : ∀ {l : List HV}, (∀ x ∈ l, ∃ t, x = f t ∧ p t) → ∃ ts : List α, l = List.map f ts ∧ ∀ t ∈ ts, p t
  | [], _ => ⟨[], rfl, fun t ht => by cases ht⟩
  | x :: l, h => by
    obtain ⟨t, rfl, ht⟩ := h x (by simp)
    obtain ⟨ts, rfl, hts⟩ := all_enc (l := l) fun y hy => h y (by simp [hy])
    exact ⟨t :: ts, rfl, fun y hy => by rcases List.mem_cons.1 hy with rfl | hy; exact ht; exact hts y hy⟩
end HL
