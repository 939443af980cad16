/- FnExactBlocks: the law answers true, whatever it is handed; what it was handed reads as it did. -/
import Derived.Test.YtnhdobhfebiggaaGLaw
import Derived.Test.YtnhdobhfebiggaaGPrf2
import Derived.Test.YtnhdobhfebiggaaHLShp
import Derived.Test.YtnhdobhfebiggaaRows
namespace Go.Proofs.Ytnhdobhfebiggaa.fnExactBlocks
open Go.ChangeShapes Go.WideShapes Go.ChangeAt Go.RowKit
open HL
set_option linter.unusedVariables false
set_option maxRecDepth 100000
set_option maxHeartbeats 4000000
theorem own : ownKnob Try.prog.godebug = none := by kernel_rfl
theorem laid : laidOutB Try.prog = true := by kernel_rfl
theorem tys : okTys Try.prog [32, 89, 3, 9] = true := by kernel_rfl
theorem isTok_all : ∀ n : Nat, (∀ h : HV, Shp Try.prog n 89 h → ∃ t : W.Tok, h = W.Tok.enc t ∧ t.small) := by
  intro n
  induction n using Nat.strongRecOn with
  | ind n ih =>
  cases n with
  | zero => exact fun h hs => hs.elim
  | succ n =>
  intro h hs
  simp only [Shp, Try.underlying89] at hs
  obtain ⟨hs', rfl, hl, hf⟩ := hs
  match hs', hl with
  | [y0, y1, y2, y3], _ =>
  have h0 := hf 0 _ y0 rfl rfl
  have h1 := hf 1 _ y1 rfl rfl
  have h2 := hf 2 _ y2 rfl rfl
  have h3 := hf 3 _ y3 rfl rfl
  obtain ⟨i0, rfl, _⟩ := Shp_int Try.underlying3 h0
  obtain ⟨i1, rfl, s1⟩ := Shp_str Try.underlying9 h1
  obtain ⟨i2, rfl, _⟩ := Shp_int Try.underlying3 h2
  obtain ⟨i3, rfl, _⟩ := Shp_int Try.underlying3 h3
  exact ⟨⟨i0, i1, i2, i3⟩, by simp [flatL, HV.cells, W.Tok.enc_eq], (W.Tok.small_eq _).2 s1⟩
theorem isTok (n : Nat) : ∀ h : HV, Shp Try.prog n 89 h → ∃ t : W.Tok, h = W.Tok.enc t ∧ t.small := (isTok_all n)
theorem lifted (os : Os) (started : os.Started) (H : Type) (enc : TypeId × Value → H) :
    ReturnsInHanded {} Try.checked os 4 .any (Rows.fnExactBlocksSpec.pre6 enc Try.prog Try.f4 Rows.fnExactBlocksRow.domain false) (Rows.fnExactBlocksSpec.post enc Try.prog Try.f4 false true false false) := by
  refine returnsInHanded_of_change_sized (C := Try.checked) own started (by kernel_rfl) Try.func4
    (ChangeSpec.witness6 (enc := enc) (C := Try.checked) false ⟨#[], #[.slice none 0 0], []⟩ 8 (by kernel_rfl) (by kernel_rfl) (by kernel_rfl) (by kernel_rfl)) ?_
  intro W base args ds gs before hval0 hW hcnd hsz0 _
  have hsz : (DataW.weightsEach Try.prog (Try.f4.params.toList ++ Rows.fnExactBlocksSpec.plain.varTypes Try.prog) (ds ++ gs)).all (· ≤ reachBytes) = true := hsz0
  have hval : ∀ (j : Nat) t v, Try.f4.params[j]? = some t → args[j]? = some v → Value.okWide Try.prog W .any base t v := hval0
  have hW' := hW
  have hbel := DataW.Whole.lt hW
  obtain ⟨p, q, hA0, hV, rfl, hfz, hnd⟩ := hW
  have hA : DataW.TrodAll enc Try.prog W 0 (fun _ => true) true Try.f4.params.toList args.toList ds p := hA0
  rw [Try.params4] at hA hval hsz
  obtain ⟨v0, vs0, d0, ds0, p0, q0, hargs, rfl, rfl, h0, r0⟩ := trodAll_cons hA
  obtain ⟨rfl, rfl, rfl⟩ := trodAll_nil r0
  obtain rfl : args = #[v0] := by cases args; simp_all
  obtain ⟨rfl, rfl⟩ := trodVars_none hV
  obtain ⟨n0, x0, R0, S0⟩ := entry1 tys (t := 32) (by decide) (hval 0 32 v0 rfl rfl) h0 (weigh hsz (j := 0) rfl rfl)
  cases n0 with
  | zero => exact S0.elim
  | succ n0 =>
  obtain ⟨l0, rfl, k0, m0⟩ := Shp_sl tys (by decide) Try.underlying32 S0
  obtain ⟨t0, rfl, s0⟩ := all_enc (f := _root_.W.Tok.enc) (p := _root_.W.Tok.small) (fun y hy => isTok n0 y (m0 y hy))
  rw [List.length_map] at k0
  clear hA0 hval0 hsz0 hsz
  refine (law_true (_root_.W.K.laws_FnExactBlocks t0 true (_root_.W.Q.lawBlocks t0 k0 s0)) (.vcons R0 .vnil) (TabW.no (by kernel_rfl))).mono fun e W' ⟨he, bel⟩ => ?_
  subst he
  exact ⟨_, rfl, _, _, _, [], _, [], hW', trodAll_mk1 (shut_bool Try.underlying4 _), (trodAll_cons_mk (Below.trod laid (by kernel_rfl) (of_decide_eq_true (by kernel_rfl)) h0 bel (fun x hx => hbel x (by simp [hx]))) trodAll_mk0), rfl, bel.frame _, fun h => by cases h⟩
theorem over : Rows.fnExactBlocksRow.holds Try.pinned (OpenSpec.ofChange Rows.fnExactBlocksSpec) :=
  OpenClaim.holds_of_wide 4 Try.f4 rfl rfl rfl rfl rfl rfl rfl ⟨rfl, rfl, rfl, rfl, rfl⟩ rfl rfl rfl rfl rfl (by kernel_rfl) Try.func4 (by kernel_rfl)
    (of_decide_eq_true (by kernel_rfl)) (by unfold Func.isWrapper; first | (rw [if_pos (by decide +kernel)]; kernel_rfl) | (rw [if_neg (by decide +kernel)]; exact ⟨rfl, rfl⟩))
    (fun os started H enc _ => lifted os started H enc)
theorem proved : Rows.FnExactBlocksSaid := over
end Go.Proofs.Ytnhdobhfebiggaa.fnExactBlocks
namespace Go.Proofs.Ytnhdobhfebiggaa
/-- The row, under a short name, for the claim. -/
theorem fnExactBlocks_holds : Rows.FnExactBlocksSaid := fnExactBlocks.proved
end Go.Proofs.Ytnhdobhfebiggaa
