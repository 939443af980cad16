/- FnExactLex: the law answers true, whatever it is handed; what it was handed reads as it did. -/
import Derived.Test.YtnhdobhfebiggaaXLaw5
import Derived.Test.YtnhdobhfebiggaaXPrf10
import Derived.Test.YtnhdobhfebiggaaHLShp
import Derived.Test.YtnhdobhfebiggaaRows
namespace Go.Proofs.Ytnhdobhfebiggaa.fnExactLex
open Go.ChangeShapes Go.WideShapes Go.ChangeAt Go.RowKit
open HL
set_option linter.unusedVariables false
set_option maxRecDepth 100000
set_option maxHeartbeats 4000000
theorem own : ownKnob Try.prog.godebug = none := by kernel_rfl
theorem laid : laidOutB Try.prog = true := by kernel_rfl
theorem tys : okTys Try.prog [9] = true := by kernel_rfl
theorem lifted (os : Os) (started : os.Started) (H : Type) (enc : TypeId × Value → H) :
    ReturnsInHanded {} Try.checked os 6 .any (Rows.fnExactLexSpec.pre6 enc Try.prog Try.f6 Rows.fnExactLexRow.domain false) (Rows.fnExactLexSpec.post enc Try.prog Try.f6 false true false false) := by
  refine returnsInHanded_of_change_sized (C := Try.checked) own started (by kernel_rfl) Try.func6
    (ChangeSpec.witness6 (enc := enc) (C := Try.checked) false ⟨#[], #[.string ByteArray.empty], []⟩ 8 (by kernel_rfl) (by kernel_rfl) (by kernel_rfl) (by kernel_rfl)) ?_
  intro W base args ds gs before hval0 hW hcnd hsz0 _
  have hsz : (DataW.weightsEach Try.prog (Try.f6.params.toList ++ Rows.fnExactLexSpec.plain.varTypes Try.prog) (ds ++ gs)).all (· ≤ reachBytes) = true := hsz0
  have hval : ∀ (j : Nat) t v, Try.f6.params[j]? = some t → args[j]? = some v → Value.okWide Try.prog W .any base t v := hval0
  have hW' := hW
  have hbel := DataW.Whole.lt hW
  obtain ⟨p, q, hA0, hV, rfl, hfz, hnd⟩ := hW
  have hA : DataW.TrodAll enc Try.prog W 0 (fun _ => true) true Try.f6.params.toList args.toList ds p := hA0
  rw [Try.params6] at hA hval hsz
  obtain ⟨v0, vs0, d0, ds0, p0, q0, hargs, rfl, rfl, h0, r0⟩ := trodAll_cons hA
  obtain ⟨rfl, rfl, rfl⟩ := trodAll_nil r0
  obtain rfl : args = #[v0] := by cases args; simp_all
  obtain ⟨rfl, rfl⟩ := trodVars_none hV
  obtain ⟨n0, x0, R0, S0⟩ := entry1 tys (t := 9) (by decide) (hval 0 9 v0 rfl rfl) h0 (weigh hsz (j := 0) rfl rfl)
  obtain ⟨t0, rfl, z0⟩ := Shp_str Try.underlying9 S0
  clear hA0 hval0 hsz0 hsz
  refine (law_true (_root_.W.K.laws_FnExactLex t0 true (_root_.W.Q.lawLex t0 z0)) (.vcons R0 .vnil) (TabW.no (by kernel_rfl))).mono fun e W' ⟨he, bel⟩ => ?_
  subst he
  exact ⟨_, rfl, _, _, _, [], _, [], hW', trodAll_mk1 (shut_bool Try.underlying4 _), (trodAll_cons_mk (Below.trod laid (by kernel_rfl) (of_decide_eq_true (by kernel_rfl)) h0 bel (fun x hx => hbel x (by simp [hx]))) trodAll_mk0), rfl, bel.frame _, fun h => by cases h⟩
theorem over : Rows.fnExactLexRow.holds Try.pinned (OpenSpec.ofChange Rows.fnExactLexSpec) :=
  OpenClaim.holds_of_wide 6 Try.f6 rfl rfl rfl rfl rfl rfl rfl ⟨rfl, rfl, rfl, rfl, rfl⟩ rfl rfl rfl rfl rfl (by kernel_rfl) Try.func6 (by kernel_rfl)
    (of_decide_eq_true (by kernel_rfl)) (by unfold Func.isWrapper; first | (rw [if_pos (by decide +kernel)]; kernel_rfl) | (rw [if_neg (by decide +kernel)]; exact ⟨rfl, rfl⟩))
    (fun os started H enc _ => lifted os started H enc)
theorem proved : Rows.FnExactLexSaid := over
end Go.Proofs.Ytnhdobhfebiggaa.fnExactLex
namespace Go.Proofs.Ytnhdobhfebiggaa
/-- The row, under a short name, for the claim. -/
theorem fnExactLex_holds : Rows.FnExactLexSaid := fnExactLex.proved
end Go.Proofs.Ytnhdobhfebiggaa
