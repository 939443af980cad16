/- FnExactVarsOf: the law answers true, whatever it is handed; what it was handed reads as it did. -/
import Derived.Test.YtmpenomcfdihgaaVLawa
import Derived.Test.YtmpenomcfdihgaaHLShp
import Derived.Test.YtmpenomcfdihgaaRows
set_option linter.unusedSimpArgs false
set_option linter.unusedVariables false
set_option linter.unusedSectionVars false
namespace Go.Proofs.Ytmpenomcfdihgaa.fnExactVarsOf
open Go.ChangeShapes Go.WideShapes Go.ChangeAt Go.RowKit
open HL
set_option linter.unusedVariables false
set_option maxRecDepth 100000
set_option maxHeartbeats 4000000
theorem own : ownKnob Try.prog.godebug = none := by kernel_rfl
theorem laid : laidOutB Try.prog = true := by kernel_rfl
theorem tys : okTys Try.prog [24, 3, 9, 22] = true := by kernel_rfl
theorem isTy_all : ∀ n : Nat, (∀ h : HV, Shp Try.prog n 24 h → ∃ t : W.Ty, h = W.Ty.enc t ∧ t.small) := by
  intro n
  induction n using Nat.strongRecOn with
  | ind n ih =>
  cases n with
  | zero => exact fun h hs => hs.elim
  | succ n =>
  intro h hs
  simp only [Shp, Try.underlying24] at hs
  obtain ⟨hs', rfl, hl, hf⟩ := hs
  match hs', hl with
  | [y0, y1, y2, y3], _ =>
  have h0 := hf 0 _ y0 rfl rfl
  have h1 := hf 1 _ y1 rfl rfl
  have h2 := hf 2 _ y2 rfl rfl
  have h3 := hf 3 _ y3 rfl rfl
  cases n with
  | zero => exact h0.elim
  | succ n =>
  obtain ⟨i0, rfl, _⟩ := Shp_int Try.underlying3 h0
  obtain ⟨i1, rfl, s1⟩ := Shp_str Try.underlying9 h1
  obtain ⟨i2, rfl, _⟩ := Shp_int Try.underlying3 h2
  obtain ⟨l3, rfl, k3, m3⟩ := Shp_sl tys (by decide) Try.underlying22 h3
  obtain ⟨i3, rfl, s3⟩ := all_enc (f := W.Ty.enc) (p := W.Ty.small) (fun y hy => (ih n (by omega)) y (m3 y hy))
  rw [List.length_map] at k3
  exact ⟨⟨i0, i1, i2, i3⟩, by simp [flatL, HV.cells, W.Ty.enc_eq], (W.Ty.small_eq _).2 ⟨s1, k3, s3⟩⟩
theorem isTy (n : Nat) : ∀ h : HV, Shp Try.prog n 24 h → ∃ t : W.Ty, h = W.Ty.enc t ∧ t.small := (isTy_all n)
theorem lifted (os : Os) (started : os.Started) (H : Type) (enc : TypeId × Value → H) :
    ReturnsInHanded {} Try.checked os 3 .any (Rows.fnExactVarsOfSpec.pre6 enc Try.prog Try.f3 Rows.fnExactVarsOfRow.domain false) (Rows.fnExactVarsOfSpec.post enc Try.prog Try.f3 false true false false) := by
  refine returnsInHanded_of_change_sized (C := Try.checked) own started (by kernel_rfl) Try.func3
    (ChangeSpec.witness6 (enc := enc) (C := Try.checked) false ⟨#[], #[.agg #[.int .i64 0, .string ByteArray.empty, .int .i64 0, .slice none 0 0]], []⟩ 8 (by kernel_rfl) (by kernel_rfl) (by kernel_rfl) (by kernel_rfl)) ?_
  intro W base args ds gs before hval0 hW hcnd hsz0 _
  have hsz : (DataW.weightsEach Try.prog (Try.f3.params.toList ++ Rows.fnExactVarsOfSpec.plain.varTypes Try.prog) (ds ++ gs)).all (· ≤ reachBytes) = true := hsz0
  have hval : ∀ (j : Nat) t v, Try.f3.params[j]? = some t → args[j]? = some v → Value.okWide Try.prog W .any base t v := hval0
  have hW' := hW
  have hbel := DataW.Whole.lt hW
  obtain ⟨p, q, hA0, hV, rfl, hfz, hnd⟩ := hW
  have hA : DataW.TrodAll enc Try.prog W 0 (fun _ => true) true Try.f3.params.toList args.toList ds p := hA0
  rw [Try.params3] at hA hval hsz
  obtain ⟨v0, vs0, d0, ds0, p0, q0, hargs, rfl, rfl, h0, r0⟩ := trodAll_cons hA
  obtain ⟨rfl, rfl, rfl⟩ := trodAll_nil r0
  obtain rfl : args = #[v0] := by cases args; simp_all
  obtain ⟨rfl, rfl⟩ := trodVars_none hV
  obtain ⟨n0, x0, R0, S0⟩ := entry1 tys (t := 24) (by decide) (hval 0 24 v0 rfl rfl) h0 (weigh hsz (j := 0) rfl rfl)
  obtain ⟨t0, rfl, z0⟩ := isTy n0 x0 S0
  clear hA0 hval0 hsz0 hsz
  refine (_root_.W.Q.law_raw z0 R0).mono fun e W' ⟨he, bel⟩ => ?_
  subst he
  exact ⟨_, rfl, _, _, _, [], _, [], hW', trodAll_mk1 (shut_bool Try.underlying4 _), (trodAll_cons_mk (Below.trod laid (by kernel_rfl) (of_decide_eq_true (by kernel_rfl)) h0 bel (fun x hx => hbel x (by simp [hx]))) trodAll_mk0), rfl, bel.frame _, fun h => by cases h⟩
theorem over : Rows.fnExactVarsOfRow.holds Try.pinned (OpenSpec.ofChange Rows.fnExactVarsOfSpec) :=
  OpenClaim.holds_of_wide 3 Try.f3 rfl rfl rfl rfl rfl rfl rfl ⟨rfl, rfl, rfl, rfl, rfl⟩ rfl rfl rfl rfl rfl (by kernel_rfl) Try.func3 (by kernel_rfl)
    (of_decide_eq_true (by kernel_rfl)) (by unfold Func.isWrapper; first | (rw [if_pos (by decide +kernel)]; kernel_rfl) | (rw [if_neg (by decide +kernel)]; exact ⟨rfl, rfl⟩))
    (fun os started H enc _ => lifted os started H enc)
theorem proved : Rows.FnExactVarsOfSaid := over
end Go.Proofs.Ytmpenomcfdihgaa.fnExactVarsOf
namespace Go.Proofs.Ytmpenomcfdihgaa
/-- The row, under a short name, for the claim. -/
theorem fnExactVarsOf_holds : Rows.FnExactVarsOfSaid := fnExactVarsOf.proved
end Go.Proofs.Ytmpenomcfdihgaa
