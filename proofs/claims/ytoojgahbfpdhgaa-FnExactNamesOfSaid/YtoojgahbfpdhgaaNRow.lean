/- FnExactNamesOf: the law answers true, whatever it is handed; what it was handed reads as it did. -/
import Derived.Test.YtoojgahbfpdhgaaNLawb
import Derived.Test.YtoojgahbfpdhgaaHLShp
import Derived.Test.YtoojgahbfpdhgaaRows
set_option linter.unusedSimpArgs false
set_option linter.unusedVariables false
set_option linter.unusedSectionVars false
namespace Go.Proofs.Ytoojgahbfpdhgaa.fnExactNamesOf
open Go.ChangeShapes Go.WideShapes Go.ChangeAt Go.RowKit
open HL
set_option linter.unusedVariables false
set_option maxRecDepth 100000
set_option maxHeartbeats 4000000
theorem own : ownKnob Try.prog.godebug = none := by kernel_rfl
theorem laid : laidOutB Try.prog = true := by kernel_rfl
theorem tys : okTys Try.prog [25, 22, 60, 9, 58, 104, 102, 130, 3, 23, 67, 27, 65, 62, 63, 120] = true := by kernel_rfl
theorem isAlt_all : ∀ n : Nat, (∀ h : HV, Shp Try.prog n 120 h → ∃ t : W.Alt, h = W.Alt.enc t ∧ t.small) ∧ (∀ h : HV, Shp Try.prog n 67 h → ∃ t : W.Dec, h = W.Dec.enc t ∧ t.small) ∧ (∀ h : HV, Shp Try.prog n 65 h → ∃ t : W.Exp, h = W.Exp.enc t ∧ t.small) := by
  intro n
  induction n using Nat.strongRecOn with
  | ind n ih =>
  cases n with
  | zero => exact ⟨fun h hs => hs.elim, fun h hs => hs.elim, fun h hs => hs.elim⟩
  | succ n =>
  refine ⟨?_, ?_, ?_⟩
  · intro h hs
    simp only [Shp, Try.underlying120] at hs
    obtain ⟨hs', rfl, hl, hf⟩ := hs
    match hs', hl with
    | [y0, y1, y2], _ =>
    have h0 := hf 0 _ y0 rfl rfl
    have h1 := hf 1 _ y1 rfl rfl
    have h2 := hf 2 _ y2 rfl rfl
    cases n with
    | zero => exact h0.elim
    | succ n =>
    obtain ⟨i0, rfl, s0⟩ := Shp_str Try.underlying9 h0
    obtain ⟨l1, rfl, k1, m1⟩ := Shp_sl tys (by decide) Try.underlying27 h1
    obtain ⟨i1, rfl, s1⟩ := all_enc (f := HV.str) (p := fun s => s.size ≤ lim) (fun y hy => Shp_str Try.underlying9 (m1 y hy))
    rw [List.length_map] at k1
    obtain ⟨i2, rfl, s2⟩ := (ih (n + 1) (by omega)).2.2 _ h2
    exact ⟨⟨i0, i1, i2⟩, by simp [flatL, HV.cells, W.Alt.enc_eq, W.Exp.enc_eq], (W.Alt.small_eq _).2 ⟨s0, ⟨k1, s1⟩, s2⟩⟩
  · intro h hs
    simp only [Shp, Try.underlying67] at hs
    obtain ⟨hs', rfl, hl, hf⟩ := hs
    match hs', hl with
    | [y0, y1, y2, y3], _ =>
    have h0 := hf 0 _ y0 rfl rfl
    have h1 := hf 1 _ y1 rfl rfl
    have h2 := hf 2 _ y2 rfl rfl
    have h3 := hf 3 _ y3 rfl rfl
    cases n with
    | zero => exact h0.elim
    | succ n =>
    obtain ⟨i0, rfl, s0⟩ := Shp_str Try.underlying9 h0
    obtain ⟨l1, rfl, k1, m1⟩ := Shp_sl tys (by decide) Try.underlying27 h1
    obtain ⟨i1, rfl, s1⟩ := all_enc (f := HV.str) (p := fun s => s.size ≤ lim) (fun y hy => Shp_str Try.underlying9 (m1 y hy))
    rw [List.length_map] at k1
    obtain ⟨i2, rfl, s2⟩ := (ih (n + 1) (by omega)).2.2 _ h2
    obtain ⟨l3, rfl, k3, m3⟩ := Shp_sl tys (by decide) Try.underlying23 h3
    obtain ⟨i3, rfl, s3⟩ := all_enc (f := W.Dec.enc) (p := W.Dec.small) (fun y hy => (ih n (by omega)).2.1 y (m3 y hy))
    rw [List.length_map] at k3
    exact ⟨⟨i0, i1, i2, i3⟩, by simp [flatL, HV.cells, W.Dec.enc_eq, W.Exp.enc_eq], (W.Dec.small_eq _).2 ⟨s0, ⟨k1, s1⟩, s2, k3, s3⟩⟩
  · intro h hs
    simp only [Shp, Try.underlying65] at hs
    obtain ⟨hs', rfl, hl, hf⟩ := hs
    match hs', hl with
    | [y0, y1, y2, y3, y4, y5], _ =>
    have h0 := hf 0 _ y0 rfl rfl
    have h1 := hf 1 _ y1 rfl rfl
    have h2 := hf 2 _ y2 rfl rfl
    have h3 := hf 3 _ y3 rfl rfl
    have h4 := hf 4 _ y4 rfl rfl
    have h5 := hf 5 _ y5 rfl rfl
    cases n with
    | zero => exact h0.elim
    | succ n =>
    obtain ⟨i0, rfl, _⟩ := Shp_int Try.underlying3 h0
    obtain ⟨i1, rfl, s1⟩ := Shp_str Try.underlying9 h1
    obtain ⟨i2, rfl, _⟩ := Shp_int Try.underlying3 h2
    obtain ⟨l3, rfl, k3, m3⟩ := Shp_sl tys (by decide) Try.underlying62 h3
    obtain ⟨i3, rfl, s3⟩ := all_enc (f := W.Exp.enc) (p := W.Exp.small) (fun y hy => (ih n (by omega)).2.2 y (m3 y hy))
    rw [List.length_map] at k3
    obtain ⟨l4, rfl, k4, m4⟩ := Shp_sl tys (by decide) Try.underlying23 h4
    obtain ⟨i4, rfl, s4⟩ := all_enc (f := W.Dec.enc) (p := W.Dec.small) (fun y hy => (ih n (by omega)).2.1 y (m4 y hy))
    rw [List.length_map] at k4
    obtain ⟨l5, rfl, k5, m5⟩ := Shp_sl tys (by decide) Try.underlying63 h5
    obtain ⟨i5, rfl, s5⟩ := all_enc (f := W.Alt.enc) (p := W.Alt.small) (fun y hy => (ih n (by omega)).1 y (m5 y hy))
    rw [List.length_map] at k5
    exact ⟨⟨i0, i1, i2, i3, i4, i5⟩, by simp [flatL, HV.cells, W.Exp.enc_eq], (W.Exp.small_eq _).2 ⟨s1, k3, s3, k4, s4, k5, s5⟩⟩
theorem isAlt (n : Nat) : ∀ h : HV, Shp Try.prog n 120 h → ∃ t : W.Alt, h = W.Alt.enc t ∧ t.small := (isAlt_all n).1
theorem isDec (n : Nat) : ∀ h : HV, Shp Try.prog n 67 h → ∃ t : W.Dec, h = W.Dec.enc t ∧ t.small := (isAlt_all n).2.1
theorem isExp (n : Nat) : ∀ h : HV, Shp Try.prog n 65 h → ∃ t : W.Exp, h = W.Exp.enc t ∧ t.small := (isAlt_all n).2.2
theorem isTy_all : ∀ n : Nat, (∀ h : HV, Shp Try.prog n 130 h → ∃ t : W.Ty, h = W.Ty.enc t ∧ t.small) := by
  intro n
  induction n using Nat.strongRecOn with
  | ind n ih =>
  cases n with
  | zero => exact fun h hs => hs.elim
  | succ n =>
  intro h hs
  simp only [Shp, Try.underlying130] at hs
  obtain ⟨hs', rfl, hl, hf⟩ := hs
  match hs', hl with
  | [y0, y1, y2, y3], _ =>
  have h0 := hf 0 _ y0 rfl rfl
  have h1 := hf 1 _ y1 rfl rfl
  have h2 := hf 2 _ y2 rfl rfl
  have h3 := hf 3 _ y3 rfl rfl
  cases n with
  | zero => exact h0.elim
  | succ n =>
  obtain ⟨i0, rfl, _⟩ := Shp_int Try.underlying3 h0
  obtain ⟨i1, rfl, s1⟩ := Shp_str Try.underlying9 h1
  obtain ⟨i2, rfl, _⟩ := Shp_int Try.underlying3 h2
  obtain ⟨l3, rfl, k3, m3⟩ := Shp_sl tys (by decide) Try.underlying102 h3
  obtain ⟨i3, rfl, s3⟩ := all_enc (f := W.Ty.enc) (p := W.Ty.small) (fun y hy => (ih n (by omega)) y (m3 y hy))
  rw [List.length_map] at k3
  exact ⟨⟨i0, i1, i2, i3⟩, by simp [flatL, HV.cells, W.Ty.enc_eq], (W.Ty.small_eq _).2 ⟨s1, k3, s3⟩⟩
theorem isTy (n : Nat) : ∀ h : HV, Shp Try.prog n 130 h → ∃ t : W.Ty, h = W.Ty.enc t ∧ t.small := (isTy_all n)
theorem isCon_all : ∀ n : Nat, (∀ h : HV, Shp Try.prog n 104 h → ∃ t : W.Con, h = W.Con.enc t ∧ t.small) := by
  intro n
  induction n using Nat.strongRecOn with
  | ind n ih =>
  cases n with
  | zero => exact fun h hs => hs.elim
  | succ n =>
  intro h hs
  simp only [Shp, Try.underlying104] at hs
  obtain ⟨hs', rfl, hl, hf⟩ := hs
  match hs', hl with
  | [y0, y1], _ =>
  have h0 := hf 0 _ y0 rfl rfl
  have h1 := hf 1 _ y1 rfl rfl
  cases n with
  | zero => exact h0.elim
  | succ n =>
  obtain ⟨i0, rfl, s0⟩ := Shp_str Try.underlying9 h0
  obtain ⟨l1, rfl, k1, m1⟩ := Shp_sl tys (by decide) Try.underlying102 h1
  obtain ⟨i1, rfl, s1⟩ := all_enc (f := W.Ty.enc) (p := W.Ty.small) (fun y hy => isTy n y (m1 y hy))
  rw [List.length_map] at k1
  exact ⟨⟨i0, i1⟩, by simp [flatL, HV.cells, W.Con.enc_eq], (W.Con.small_eq _).2 ⟨s0, k1, s1⟩⟩
theorem isCon (n : Nat) : ∀ h : HV, Shp Try.prog n 104 h → ∃ t : W.Con, h = W.Con.enc t ∧ t.small := (isCon_all n)
theorem isData_all : ∀ n : Nat, (∀ h : HV, Shp Try.prog n 60 h → ∃ t : W.Data, h = W.Data.enc t ∧ t.small) := by
  intro n
  induction n using Nat.strongRecOn with
  | ind n ih =>
  cases n with
  | zero => exact fun h hs => hs.elim
  | succ n =>
  intro h hs
  simp only [Shp, Try.underlying60] at hs
  obtain ⟨hs', rfl, hl, hf⟩ := hs
  match hs', hl with
  | [y0, y1], _ =>
  have h0 := hf 0 _ y0 rfl rfl
  have h1 := hf 1 _ y1 rfl rfl
  cases n with
  | zero => exact h0.elim
  | succ n =>
  obtain ⟨i0, rfl, s0⟩ := Shp_str Try.underlying9 h0
  obtain ⟨l1, rfl, k1, m1⟩ := Shp_sl tys (by decide) Try.underlying58 h1
  obtain ⟨i1, rfl, s1⟩ := all_enc (f := W.Con.enc) (p := W.Con.small) (fun y hy => isCon n y (m1 y hy))
  rw [List.length_map] at k1
  exact ⟨⟨i0, i1⟩, by simp [flatL, HV.cells, W.Data.enc_eq], (W.Data.small_eq _).2 ⟨s0, k1, s1⟩⟩
theorem isData (n : Nat) : ∀ h : HV, Shp Try.prog n 60 h → ∃ t : W.Data, h = W.Data.enc t ∧ t.small := (isData_all n)
theorem isProg_all : ∀ n : Nat, (∀ h : HV, Shp Try.prog n 25 h → ∃ t : W.Prog, h = W.Prog.enc t ∧ t.small) := by
  intro n
  induction n using Nat.strongRecOn with
  | ind n ih =>
  cases n with
  | zero => exact fun h hs => hs.elim
  | succ n =>
  intro h hs
  simp only [Shp, Try.underlying25] at hs
  obtain ⟨hs', rfl, hl, hf⟩ := hs
  match hs', hl with
  | [y0, y1], _ =>
  have h0 := hf 0 _ y0 rfl rfl
  have h1 := hf 1 _ y1 rfl rfl
  cases n with
  | zero => exact h0.elim
  | succ n =>
  obtain ⟨l0, rfl, k0, m0⟩ := Shp_sl tys (by decide) Try.underlying22 h0
  obtain ⟨i0, rfl, s0⟩ := all_enc (f := W.Data.enc) (p := W.Data.small) (fun y hy => isData n y (m0 y hy))
  rw [List.length_map] at k0
  obtain ⟨l1, rfl, k1, m1⟩ := Shp_sl tys (by decide) Try.underlying23 h1
  obtain ⟨i1, rfl, s1⟩ := all_enc (f := W.Dec.enc) (p := W.Dec.small) (fun y hy => isDec n y (m1 y hy))
  rw [List.length_map] at k1
  exact ⟨⟨i0, i1⟩, by simp [flatL, HV.cells, W.Prog.enc_eq], (W.Prog.small_eq _).2 ⟨k0, s0, k1, s1⟩⟩
theorem isProg (n : Nat) : ∀ h : HV, Shp Try.prog n 25 h → ∃ t : W.Prog, h = W.Prog.enc t ∧ t.small := (isProg_all n)
theorem lifted (os : Os) (started : os.Started) (H : Type) (enc : TypeId × Value → H) :
    ReturnsInHanded {} Try.checked os 3 .any (Rows.fnExactNamesOfSpec.pre6 enc Try.prog Try.f3 Rows.fnExactNamesOfRow.domain false) (Rows.fnExactNamesOfSpec.post enc Try.prog Try.f3 false true false false) := by
  refine returnsInHanded_of_change_sized (C := Try.checked) own started (by kernel_rfl) Try.func3
    (ChangeSpec.witness6 (enc := enc) (C := Try.checked) false ⟨#[], #[.agg #[.slice none 0 0, .slice none 0 0]], []⟩ 8 (by kernel_rfl) (by kernel_rfl) (by kernel_rfl) (by kernel_rfl)) ?_
  intro W base args ds gs before hval0 hW hcnd hsz0 _
  have hsz : (DataW.weightsEach Try.prog (Try.f3.params.toList ++ Rows.fnExactNamesOfSpec.plain.varTypes Try.prog) (ds ++ gs)).all (· ≤ reachBytes) = true := hsz0
  have hval : ∀ (j : Nat) t v, Try.f3.params[j]? = some t → args[j]? = some v → Value.okWide Try.prog W .any base t v := hval0
  have hW' := hW
  have hbel := DataW.Whole.lt hW
  obtain ⟨p, q, hA0, hV, rfl, hfz, hnd⟩ := hW
  have hA : DataW.TrodAll enc Try.prog W 0 (fun _ => true) true Try.f3.params.toList args.toList ds p := hA0
  rw [Try.params3] at hA hval hsz
  obtain ⟨v0, vs0, d0, ds0, p0, q0, hargs, rfl, rfl, h0, r0⟩ := trodAll_cons hA
  obtain ⟨rfl, rfl, rfl⟩ := trodAll_nil r0
  obtain rfl : args = #[v0] := by cases args; simp_all
  obtain ⟨rfl, rfl⟩ := trodVars_none hV
  obtain ⟨n0, x0, R0, S0⟩ := entry1 tys (t := 25) (by decide) (hval 0 25 v0 rfl rfl) h0 (weigh hsz (j := 0) rfl rfl)
  obtain ⟨t0, rfl, z0⟩ := isProg n0 x0 S0
  clear hA0 hval0 hsz0 hsz
  refine (_root_.W.Q.law_raw z0 R0).mono fun e W' ⟨he, bel⟩ => ?_
  subst he
  exact ⟨_, rfl, _, _, _, [], _, [], hW', trodAll_mk1 (shut_bool Try.underlying4 _), (trodAll_cons_mk (Below.trod laid (by kernel_rfl) (of_decide_eq_true (by kernel_rfl)) h0 bel (fun x hx => hbel x (by simp [hx]))) trodAll_mk0), rfl, bel.frame _, fun h => by cases h⟩
theorem over : Rows.fnExactNamesOfRow.holds Try.pinned (OpenSpec.ofChange Rows.fnExactNamesOfSpec) :=
  OpenClaim.holds_of_wide 3 Try.f3 rfl rfl rfl rfl rfl rfl rfl ⟨rfl, rfl, rfl, rfl, rfl⟩ rfl rfl rfl rfl rfl (by kernel_rfl) Try.func3 (by kernel_rfl)
    (of_decide_eq_true (by kernel_rfl)) (by unfold Func.isWrapper; first | (rw [if_pos (by decide +kernel)]; kernel_rfl) | (rw [if_neg (by decide +kernel)]; exact ⟨rfl, rfl⟩))
    (fun os started H enc _ => lifted os started H enc)
theorem proved : Rows.FnExactNamesOfSaid := over
end Go.Proofs.Ytoojgahbfpdhgaa.fnExactNamesOf
namespace Go.Proofs.Ytoojgahbfpdhgaa
/-- The row, under a short name, for the claim. -/
theorem fnExactNamesOf_holds : Rows.FnExactNamesOfSaid := fnExactNamesOf.proved
end Go.Proofs.Ytoojgahbfpdhgaa
