/- FnGroups: the law answers true, whatever it is handed; what it was handed reads as it did. -/
import Derived.Test.YtamneeogomklgaaGreatGLaw31
import Derived.Test.YtamneeogomklgaaGreatHLShp
import Derived.Test.YtamneeogomklgaaGreatRows
set_option linter.unusedSimpArgs false
set_option linter.unusedVariables false
set_option linter.unusedSectionVars false
namespace Go.Proofs.YtamneeogomklgaaGreat.fnGroups
open Go.ChangeShapes Go.WideShapes Go.ChangeAt Go.RowKit
open HL
set_option linter.unusedVariables false
set_option maxRecDepth 100000
set_option maxHeartbeats 4000000
theorem own : ownKnob Tryz.prog.godebug = none := by kernel_rfl
theorem laid : laidOutB Tryz.prog = true := by kernel_rfl
theorem tys : okTys Tryz.prog [22, 5] = true := by kernel_rfl
theorem lifted (os : Os) (started : os.Started) (H : Type) (enc : TypeId × Value → H) :
    ReturnsInHanded {} Tryz.checked os 3 .any (Rows.fnGroupsSpec.pre6 enc Tryz.prog Tryz.f3 Rows.fnGroupsRow.domain false) (Rows.fnGroupsSpec.post enc Tryz.prog Tryz.f3 false true false false) := by
  refine returnsInHanded_of_change_sized (C := Tryz.checked) own started (by kernel_rfl) Tryz.func3
    (ChangeSpec.witness6 (enc := enc) (C := Tryz.checked) false ⟨#[], #[.slice none 0 0], []⟩ 8 (by kernel_rfl) (by kernel_rfl) (by kernel_rfl) (by kernel_rfl)) ?_
  intro W base args ds gs before hval0 hW hcnd hsz0 _
  have hsz : (DataW.weightsEach Tryz.prog (Tryz.f3.params.toList ++ Rows.fnGroupsSpec.plain.varTypes Tryz.prog) (ds ++ gs)).all (· ≤ reachBytes) = true := hsz0
  have hval : ∀ (j : Nat) t v, Tryz.f3.params[j]? = some t → args[j]? = some v → Value.okWide Tryz.prog W .any base t v := hval0
  have hW' := hW
  have hbel := DataW.Whole.lt hW
  obtain ⟨p, q, hA0, hV, rfl, hfz, hnd⟩ := hW
  have hA : DataW.TrodAll enc Tryz.prog W 0 (fun _ => true) true Tryz.f3.params.toList args.toList ds p := hA0
  rw [Tryz.params3] at hA hval hsz
  obtain ⟨v0, vs0, d0, ds0, p0, q0, hargs, rfl, rfl, h0, r0⟩ := trodAll_cons hA
  obtain ⟨rfl, rfl, rfl⟩ := trodAll_nil r0
  obtain rfl : args = #[v0] := by cases args; simp_all
  obtain ⟨rfl, rfl⟩ := trodVars_none hV
  obtain ⟨n0, x0, R0, S0⟩ := entry1 tys (t := 22) (by decide) (hval 0 22 v0 rfl rfl) h0 (weigh hsz (j := 0) rfl rfl)
  cases n0 with
  | zero => exact S0.elim
  | succ n0 =>
  obtain ⟨l0, rfl, k0, m0⟩ := Shp_sl tys (by decide) Tryz.underlying22 S0
  obtain ⟨t0, rfl, s0⟩ := all_enc (f := HV.int .u8) (p := fun i => (Lit.int .u8 i).wf = true) (fun y hy => Shp_int Tryz.underlying5 (m0 y hy))
  rw [List.length_map] at k0
  clear hA0 hval0 hsz0 hsz
  refine (law_true (_root_.W.Q.law_FnGroups t0 k0 s0) (.vcons R0 .vnil) (TabW.no (by kernel_rfl))).mono fun e W' ⟨he, bel⟩ => ?_
  subst he
  exact ⟨_, rfl, _, _, _, [], _, [], hW', trodAll_mk1 (shut_bool Tryz.underlying4 _), (trodAll_cons_mk (Below.trod laid (by kernel_rfl) (of_decide_eq_true (by kernel_rfl)) h0 bel (fun x hx => hbel x (by simp [hx]))) trodAll_mk0), rfl, bel.frame _, fun h => by cases h⟩
theorem over : Rows.fnGroupsRow.holds Tryz.pinned (OpenSpec.ofChange Rows.fnGroupsSpec) :=
  OpenClaim.holds_of_wide 3 Tryz.f3 rfl rfl rfl rfl rfl rfl rfl ⟨rfl, rfl, rfl, rfl, rfl⟩ rfl rfl rfl rfl rfl (by kernel_rfl) Tryz.func3 (by kernel_rfl)
    (of_decide_eq_true (by kernel_rfl)) (by unfold Func.isWrapper; first | (rw [if_pos (by decide +kernel)]; kernel_rfl) | (rw [if_neg (by decide +kernel)]; exact ⟨rfl, rfl⟩))
    (fun os started H enc _ => lifted os started H enc)
theorem proved : Rows.FnGroupsSaid := over
end Go.Proofs.YtamneeogomklgaaGreat.fnGroups
namespace Go.Proofs.YtamneeogomklgaaGreat
theorem fnGroups_holds : Rows.FnGroupsSaid := fnGroups.proved
end Go.Proofs.YtamneeogomklgaaGreat
