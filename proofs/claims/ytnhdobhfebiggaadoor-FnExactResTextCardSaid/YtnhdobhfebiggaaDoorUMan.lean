/- strconv.Itoa: what the shelf of the kit proves of it, as a contract of HL. -/
import Derived.Test.YtnhdobhfebiggaaDoorUMir
import Derived.Test.YtnhdobhfebiggaaDoorUCode
import Derived.Test.YtnhdobhfebiggaaDoorUShelf
import Derived.Test.YtnhdobhfebiggaaDoorHLP
namespace W
set_option linter.unusedSimpArgs false
set_option linter.unusedVariables false
open Go HL S
set_option linter.unusedVariables false
namespace K
theorem strconv_Itoa : ∀ (x : Int) (r : ByteArray), M.strconv_Itoa x = some r → HCp P F.strconv_Itoa [HV.int .i64 x] (HV.str r) := by
  intro x r h
  rw [M.strconv_Itoa] at h
  split at h
  rotate_left
  · cases h
  rename_i hx
  cases h
  obtain ⟨g, hg⟩ : ∃ g, P.globalNamed "internal/strconv.uint64pow10" = some g := ⟨_, Go.Proofs.Tryd.laysM171.m17⟩
  refine ⟨⟨_, Go.Proofs.Tryd.func26, rfl, by kernel_rfl⟩, fun G w vs hrel hR => ?_⟩
  obtain ⟨v, vs', rfl, r1, r2⟩ : ∃ v vs', vs = v :: vs' ∧ R G (.val v (.int .i64 x)) ∧ R G (.vals vs' []) := by
    cases hR with
    | vcons h1 h2 => exact ⟨_, _, rfl, h1, h2⟩
  cases r1
  cases r2
  refine (Go.Proofs.Tryd.strconv_Itoa x hx.1 hx.2 w (hrel.tab g hg).1).mono fun e w' ⟨he, k, os, hw⟩ => ?_
  subst hw
  have hsz : w.heap.size ≤ (Go.Sort.grow (w.drewN k) os).heap.size := by simp [Go.Sort.grow, World.drewN]
  have hheap : ∀ j, j < w.heap.size → (Go.Sort.grow (w.drewN k) os).heap[j]? = w.heap[j]? := fun j hj => by
    simp only [Go.Sort.grow, World.drewN]
    exact Array.getElem?_append_left hj
  have hlen : (Lib.itoa x).length ≤ 140737488355328 := by
    have := itoa_len hx
    omega
  have hs0 : G.s = [] := List.eq_nil_of_length_eq_zero (by rw [hrel.len]; rfl)
  have step : Step G w G (Go.Sort.grow (w.drewN k) os) := ⟨fun _ _ _ h => h, fun _ _ _ h => .inl h, fun _ i hi => ⟨i, hi, Nat.le_refl _, rfl, fun _ => rfl⟩, rfl, rfl, rfl, hsz, fun j hj _ => hheap j hj, fun _ h => .inl h⟩
  refine ⟨_, _, [], G, he, ⟨rfl, rfl⟩, ⟨hrel.len, fun b i u hk => cell_same (hheap b (hrel.K_lt hk)) (hrel.kc b i u hk), fun id info o hi => by rw [hs0] at hi; simp at hi, fun id id' info info' o o' b b' hi => by rw [hs0] at hi; simp at hi, hrel.tab.step step⟩, .str ?_, step⟩
  show (Lib.itoa x).toArray.size ≤ lim
  rw [List.size_toArray]
  exact hlen
end K
end W
