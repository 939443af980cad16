/- l8Make: its callees; what lies where. -/
import Derived.Test.YtamneeogomklgaaGreatGW
import Derived.Test.YtamneeogomklgaaGreatGLaw1
import Derived.Test.YtamneeogomklgaaGreatGMan
import Derived.Test.YtamneeogomklgaaGreatHLY
set_option linter.unusedSimpArgs false
set_option linter.unusedVariables false
set_option linter.unusedSectionVars false
namespace W
set_option linter.unusedVariables false
set_option maxRecDepth 100000
set_option maxHeartbeats 1000000
namespace Q
open Go HL HL.X HL.Y Go.RowKit
theorem ext_all2 : ∀ s ∈ tab2, s.ext = none ∨ s = s_slices_Grow_string ∨ s = s_impl_sorted ∨ s = s_slices_Compact_string := by
  have e : tab2 = tab2.take 102 ++ s_slices_Grow_string :: ((tab2.drop 103).take 7 ++ s_impl_sorted :: ((tab2.drop 111).take 6 ++ s_slices_Compact_string :: tab2.drop 118)) := by kernel_rfl
  have h1 : ((tab2.take 102).all fun s => s.ext.isNone) = true := by kernel_rfl
  have h2 : (((tab2.drop 103).take 7).all fun s => s.ext.isNone) = true := by kernel_rfl
  have h3 : (((tab2.drop 111).take 6).all fun s => s.ext.isNone) = true := by kernel_rfl
  have h4 : ((tab2.drop 118).all fun s => s.ext.isNone) = true := by kernel_rfl
  intro s hs
  rw [e] at hs
  rcases List.mem_append.1 hs with hs | hs
  · exact .inl (by simpa using List.all_eq_true.1 h1 s hs)
  rcases List.mem_cons.1 hs with hs | hs
  · exact .inr (.inl hs)
  rcases List.mem_append.1 hs with hs | hs
  · exact .inl (by simpa using List.all_eq_true.1 h2 s hs)
  rcases List.mem_cons.1 hs with hs | hs
  · exact .inr (.inr (.inl hs))
  rcases List.mem_append.1 hs with hs | hs
  · exact .inl (by simpa using List.all_eq_true.1 h3 s hs)
  rcases List.mem_cons.1 hs with hs | hs
  · exact .inr (.inr (.inr hs))
  · exact .inl (by simpa using List.all_eq_true.1 h4 s hs)
theorem hext2 : ∀ s ∈ tab2, ∀ f, s.ext = some f → ∀ x o, f x = some o → ClaimF P s x o := by
  intro s hs f hf x o h
  rcases ext_all2 s hs with e | rfl | rfl | rfl
  · rw [e] at hf; cases hf
  · cases hf
    exact J.grow_claim x o h
  · cases hf
    exact J.sorted_claim x o h
  · cases hf
    exact J.compact_claim x o h
theorem noTab : Go.Proofs.Tryz.prog.globalNamed "internal/strconv.uint64pow10" = none := by kernel_rfl
theorem H_has {l : List ByteArray} (hl : l.length ≤ 1000000) (s : ByteArray) : HCp P 43 [.sl (l.map HV.str), .str s] (.bool (dc (s ∈ l))) := by
  have hlim : lim = 140737488355328 := rfl
  have h : M.spec_l1Has (l, s) = some (dc (s ∈ l)) := sp_has (l := l) (by omega) s
  exact law_of (tab := tab2) S_ok hext2 (s := s_spec_l1Has) (by simp [tab2]) (x := (l, s)) (o := dc (s ∈ l)) (Ew.both_has h) rfl rfl rfl
theorem H_needs {l : List Dec} (hl : Sm l) (s : ByteArray) : ∃ r : List ByteArray, (∀ t, t ∈ r ↔ needB l s t = true ∧ ¬ t = under) ∧ r.length ≤ 600000 ∧ HC P 13 [.sl (l.map Dec.enc), .str s] [] fun x st => x = .own 0 (r.map HV.str).length ∧ st = [.arr 1 (r.map HV.str) true] := by
  obtain ⟨r, e, _, h1, h2⟩ := sp_needs hl s
  exact ⟨r, h1, h2, own_of (tab := tab2) S_ok hext2 (s := s_spec_Needs) (by simp [tab2]) (x := (l, s)) (o := r) (Ew.both_needs e) rfl rfl (t := .str) (l := r) rfl rfl rfl⟩
end Q
end W
