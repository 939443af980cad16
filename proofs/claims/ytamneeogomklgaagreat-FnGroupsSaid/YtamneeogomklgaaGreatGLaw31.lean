/- FnGroups: the law's function answers true. -/
import Derived.Test.YtamneeogomklgaaGreatGLaw30
import Derived.Test.YtamneeogomklgaaGreatGMk
set_option linter.unusedSimpArgs false
set_option linter.unusedVariables false
set_option linter.unusedSectionVars false
namespace W
set_option linter.unusedVariables false
set_option maxRecDepth 100000
namespace Q
open Go HL HL.X
theorem hext : ∀ s ∈ tab, ∀ f, s.ext = some f → ∀ x o, f x = some o → ClaimF P s x o := by
  intro s hs f hf x o h
  have hs2 : s = s_spec_l8Make ∨ s ∈ tab2 := by
    have e : tab = tab.take 128 ++ s_spec_l8Make :: tab.drop 129 := by kernel_rfl
    have e2 : tab2 = tab.take 128 ++ tab.drop 129 := by kernel_rfl
    rw [e] at hs
    rw [e2]
    rcases List.mem_append.1 hs with q | q
    · exact .inr (List.mem_append_left _ q)
    · rcases List.mem_cons.1 q with q | q
      · exact .inl q
      · exact .inr (List.mem_append_right _ q)
  rcases hs2 with rfl | h2
  · cases hf
    exact make_claim x o h
  · exact hext2 s h2 f hf x o h
theorem law_FnGroups (x : List Int) (hx : x.length ≤ lim) (_ : ∀ i ∈ x, (Lit.int .u8 i).wf = true) : HCp P s_laws_FnGroups.fid [HV.sl (x.map (HV.int .u8))] (HV.bool true) :=
  law_of (tab := tab) S_ok hext (s := s_laws_FnGroups) (by simp [tab]) (lawGroups hx) rfl rfl rfl
end Q
end W
