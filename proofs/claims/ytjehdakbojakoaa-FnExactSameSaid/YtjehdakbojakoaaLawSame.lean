import Derived.Test.YtjehdakbojakoaaResSame4
import Derived.Test.YtjehdakbojakoaaRows
namespace Go.Proofs.Ytjehdakbojakoaa.fnExactSame
open Go.ChangeShapes Go.WideShapes Go.ChangeAt Go.RowKit
open HL
set_option linter.unusedVariables false
set_option maxRecDepth 100000
theorem own : ownKnob Try.prog.godebug = none := by kernel_rfl
theorem laid : laidOutB Try.prog = true := by kernel_rfl
theorem tys : okTys Try.prog [26, 3, 9, 24] = true := by kernel_rfl
/-- What reads as a Res is one. -/
theorem isRes : ∀ (n : Nat) (h : HV), Shp Try.prog n 26 h → ∃ t, h = T.enc t := by
  intro n
  induction n using Nat.strongRecOn with
  | ind n ih =>
  intro h hs
  cases n with
  | zero => exact hs.elim
  | succ n =>
  simp only [Shp, Try.underlying26] at hs
  obtain ⟨hs', rfl, hl, hf⟩ := hs
  match hs', hl with
  | [a, b, c, d], _ =>
  have h0 := hf 0 _ a rfl rfl
  have h1 := hf 1 _ b rfl rfl
  have h2 := hf 2 _ c rfl rfl
  have h3 := hf 3 _ d rfl rfl
  cases n with
  | zero => exact h0.elim
  | succ n =>
  simp only [Shp, Try.underlying3] at h0 h2
  simp only [Shp, Try.underlying9] at h1
  simp only [Shp, Try.underlying24] at h3
  obtain ⟨i0, rfl, _⟩ := h0
  obtain ⟨i1, rfl, _⟩ := h1
  obtain ⟨i2, rfl, _⟩ := h2
  obtain ⟨l, rfl, _, hl⟩ := h3
  have hall : ∀ l : List HV, (∀ x ∈ l, Shp Try.prog n 26 x) → ∃ ts, l = T.encL ts := by
    intro l
    induction l with
    | nil => intro _; exact ⟨[], rfl⟩
    | cons x l ihl =>
      intro hx
      obtain ⟨t, rfl⟩ := ih n (by omega) x (hx x (by simp))
      obtain ⟨ts, rfl⟩ := ihl fun y hy => hx y (by simp [hy])
      exact ⟨t :: ts, by simp [T.encL]⟩
  obtain ⟨ts, rfl⟩ := hall l hl
  exact ⟨⟨i0, i1, i2, ts⟩, by simp [T.enc, flatL, HV.cells]⟩

theorem lifted (os : Os) (started : os.Started) (H : Type) (enc : TypeId × Value → H) :
    ReturnsInHanded {} Try.checked os 8 .any (Rows.fnExactSameSpec.pre6 enc Try.prog Try.f8 Rows.fnExactSameRow.domain false) (Rows.fnExactSameSpec.post enc Try.prog Try.f8 false true false false) := by
  refine returnsInHanded_of_change_sized (C := Try.checked) own started (by kernel_rfl) Try.func8
    (ChangeSpec.witness6 (enc := enc) (C := Try.checked) false ⟨#[], #[.agg #[.int .i64 0, .string ByteArray.empty, .int .i64 0, .slice none 0 0], .agg #[.int .i64 0, .string ByteArray.empty, .int .i64 0, .slice none 0 0]], []⟩ 8 (by kernel_rfl) (by kernel_rfl) (by kernel_rfl) (by kernel_rfl)) ?_
  intro W base args ds gs before hval0 hW hcnd hsz0 _
  have hsz : (DataW.weightsEach Try.prog (Try.f8.params.toList ++ Rows.fnExactSameSpec.plain.varTypes Try.prog) (ds ++ gs)).all (· ≤ reachBytes) = true := hsz0
  have hval : ∀ (j : Nat) t v, Try.f8.params[j]? = some t → args[j]? = some v → Value.okWide Try.prog W .any base t v := hval0
  have hW' := hW
  have hlt := DataW.Whole.lt hW
  obtain ⟨p, q, hA0, hV, rfl, hfz, hnd⟩ := hW
  have hA : DataW.TrodAll enc Try.prog W 0 (fun _ => true) true Try.f8.params.toList args.toList ds p := hA0
  rw [Try.params8] at hA hval hsz
  obtain ⟨v0, vs0, d0, ds0, p0, q0, hargs, rfl, rfl, h0, r0⟩ := trodAll_cons hA
  obtain ⟨v1, vs1, d1, ds1, p1, q1, rfl, rfl, rfl, h1, r1⟩ := trodAll_cons r0
  obtain ⟨rfl, rfl, rfl⟩ := trodAll_nil r1
  obtain rfl : args = #[v0, v1] := by cases args; simp_all
  obtain ⟨rfl, rfl⟩ := trodVars_none hV
  obtain ⟨n0, x0, R0, S0⟩ := entry1 tys (t := 26) (by decide) (hval 0 26 v0 rfl rfl) h0 (weigh hsz (j := 0) rfl rfl)
  obtain ⟨t0, rfl⟩ := isRes n0 x0 S0
  obtain ⟨n1, x1, R1, S1⟩ := entry1 tys (t := 26) (by decide) (hval 1 26 v1 rfl rfl) h1 (weigh hsz (j := 1) rfl rfl)
  obtain ⟨t1, rfl⟩ := isRes n1 x1 S1
  clear hA0 hval0 hsz0 hsz
  refine (law_true (T.LawSame_ok t0 t1) (.vcons R0 (.vcons R1 .vnil))).mono fun e W' ⟨he, bel⟩ => ?_
  subst he
  exact ⟨_, rfl, _, _, _, [], _, [], hW', trodAll_mk1 (shut_bool Try.underlying4 _), (trodAll_cons_mk (Below.trod laid (by kernel_rfl) (of_decide_eq_true (by kernel_rfl)) h0 bel (fun x hx => hlt x (by simp [hx]))) (trodAll_cons_mk (Below.trod laid (by kernel_rfl) (of_decide_eq_true (by kernel_rfl)) h1 bel (fun x hx => hlt x (by simp [hx]))) trodAll_mk0)), rfl, bel.frame _, fun h => by cases h⟩
theorem over : Rows.fnExactSameRow.holds Try.pinned (OpenSpec.ofChange Rows.fnExactSameSpec) :=
  OpenClaim.holds_of_wide 8 Try.f8 rfl rfl rfl rfl rfl rfl rfl ⟨rfl, rfl, rfl, rfl, rfl⟩ rfl rfl rfl rfl rfl (by kernel_rfl) Try.func8 (by kernel_rfl)
    (of_decide_eq_true (by kernel_rfl)) (by unfold Func.isWrapper; first | (rw [if_pos (by decide +kernel)]; kernel_rfl) | (rw [if_neg (by decide +kernel)]; exact ⟨rfl, rfl⟩))
    (fun os started H enc _ => lifted os started H enc)
theorem proved : Rows.FnExactSameSaid := over
#print axioms proved
end Go.Proofs.Ytjehdakbojakoaa.fnExactSame
namespace Go.Proofs.Ytjehdakbojakoaa
/-- The row, under a short name, for the claim. -/
theorem fnExactSame_holds : Rows.FnExactSameSaid := fnExactSame.proved
end Go.Proofs.Ytjehdakbojakoaa
