/- FnExactResText: the law answers true, whatever it is handed; what it was handed reads as it did. -/
import Derived.Test.YtnhdobhfebiggaaDoorULaw
import Derived.Test.YtnhdobhfebiggaaDoorUPrf5
import Derived.Test.YtnhdobhfebiggaaDoorHLShp
import Derived.Test.YtnhdobhfebiggaaDoorRows
import Derived.Test.YtnhdobhfebiggaaDoorCards
import Derived.Test.YtnhdobhfebiggaaDoorTie
import Derived.SevenTiedAt
import Derived.MakeChecks
import Derived.Lay
import Derived.Stop.Joined
import Derived.Stop.LaidErr
import Derived.Lib.LaidTab
import Derived.Lib.ItoaNum
namespace Go.Proofs.YtnhdobhfebiggaaDoor.fnExactResText
open Go.ChangeShapes Go.WideShapes Go.ChangeAt Go.RowKit
open HL
set_option linter.unusedVariables false
set_option maxRecDepth 100000
set_option maxHeartbeats 4000000
theorem own : ownKnob Tryd.prog.godebug = none := by kernel_rfl
theorem laid : laidOutB Tryd.prog = true := by kernel_rfl
theorem tys : okTys Tryd.prog [35, 3, 9, 33] = true := by kernel_rfl
theorem i64_wf {n : Int} (h : (Lit.int .i64 n).wf = true) : _root_.W.Q.i64 n := by
  simp only [Lit.wf, Bool.and_eq_true, decide_eq_true_eq] at h
  have h1 : IntKind.i64.min = -9223372036854775808 := by decide
  have h2 : IntKind.i64.max = 9223372036854775807 := by decide
  unfold _root_.W.Q.i64
  omega
theorem isRes_all : ∀ n : Nat, (∀ h : HV, Shp Tryd.prog n 35 h → ∃ t : W.Res, h = W.Res.enc t ∧ t.small) := by
  intro n
  induction n using Nat.strongRecOn with
  | ind n ih =>
  cases n with
  | zero => exact fun h hs => hs.elim
  | succ n =>
  intro h hs
  simp only [Shp, Tryd.underlying35] at hs
  obtain ⟨hs', rfl, hl, hf⟩ := hs
  match hs', hl with
  | [y0, y1, y2, y3], _ =>
  have h0 := hf 0 _ y0 rfl rfl
  have h1 := hf 1 _ y1 rfl rfl
  have h2 := hf 2 _ y2 rfl rfl
  have h3 := hf 3 _ y3 rfl rfl
  cases n with
  | zero => exact h0.elim
  | succ n =>
  obtain ⟨i0, rfl, s0⟩ := Shp_int Tryd.underlying3 h0
  obtain ⟨i1, rfl, s1⟩ := Shp_str Tryd.underlying9 h1
  obtain ⟨i2, rfl, s2⟩ := Shp_int Tryd.underlying3 h2
  obtain ⟨l3, rfl, k3, m3⟩ := Shp_sl tys (by decide) Tryd.underlying33 h3
  obtain ⟨i3, rfl, s3⟩ := all_enc (f := W.Res.enc) (p := W.Res.small) (fun y hy => (ih n (by omega)) y (m3 y hy))
  rw [List.length_map] at k3
  exact ⟨⟨i0, i1, i2, i3⟩, by simp [flatL, HV.cells, W.Res.enc_eq], (W.Res.small_eq _).2 ⟨(i64_wf s0), s1, (i64_wf s2), k3, s3⟩⟩
theorem isRes (n : Nat) : ∀ h : HV, Shp Tryd.prog n 35 h → ∃ t : W.Res, h = W.Res.enc t ∧ t.small := (isRes_all n)
theorem table {W : World} (h : laidMetH Tryd.prog Rows.fnExactResTextRow.laid W) : Lib.TabIs Tryd.prog W "internal/strconv.uint64pow10" .u64 Lib.pow10Tab := by
  rw [MakeChecks.laidMetH_plain _ _ _ (by kernel_rfl)] at h
  have h3 : laidMet Tryd.prog [("internal/strconv.uint64pow10", Lib.tabData .u64 Lib.pow10Tab)] W := by
    have e : (Rows.laid_internal_strconv_uint64pow10 : DataW Unit) = Lib.tabData .u64 Lib.pow10Tab := by rfl
    rw [← e]
    exact h.tail.tail
  exact Lib.tabIs_of_head (g := 0) (t := 66) (by kernel_rfl) (by kernel_rfl) Tryd.underlying66 (by kernel_rfl) (by kernel_rfl) (by kernel_rfl) h3
theorem lifted (os : Os) (started : os.Started) (H : Type) (enc : TypeId × Value → H) :
    ReturnsInHanded {} Tryd.checked os 4 .any (fun w args => (Rows.fnExactResTextSpec.pre enc Tryd.prog Tryd.f4 [] false w args ∧ laidMetH Tryd.prog Rows.fnExactResTextRow.laid w) ∧ sizedMet enc Tryd.prog Tryd.f4 (OpenSpec.ofChange Rows.fnExactResTextSpec) false w args)
      (Rows.fnExactResTextSpec.post enc Tryd.prog Tryd.f4 false true false false) := by
  refine returnsInHanded_of_change_and (C := Tryd.checked) (X := fun w _ => laidMetH Tryd.prog Rows.fnExactResTextRow.laid w) (fun _ _ _ hh h => h.of_heap hh) own started (by kernel_rfl) Tryd.func4
    (ChangeSpec.witness_at (enc := enc) (C := Tryd.checked) (os := os) (X := fun w _ => laidMetH Tryd.prog Rows.fnExactResTextRow.laid w) false (World.laidAll Tryd.prog os Rows.fnExactResTextRow.laid) #[.agg #[.int .i64 0, .string ByteArray.empty, .int .i64 0, .slice none 0 0]] 8 (World.laidAll_os _ _ _) (by kernel_rfl) (by kernel_rfl) (by kernel_rfl) (by kernel_rfl) (by kernel_rfl)
      (by rw [MakeChecks.laidMetH_plain _ _ _ (by kernel_rfl)]; exact laidMet_laidAll _ (by kernel_rfl) (by kernel_rfl))) ?_
  intro W base args ds gs before hval0 hW hcnd hsz0 hL _
  have hsz : (DataW.weightsEach Tryd.prog (Tryd.f4.params.toList ++ Rows.fnExactResTextSpec.plain.varTypes Tryd.prog) (ds ++ gs)).all (· ≤ reachBytes) = true := hsz0
  have hval : ∀ (j : Nat) t v, Tryd.f4.params[j]? = some t → args[j]? = some v → Value.okWide Tryd.prog W .any base t v := hval0
  have hW' := hW
  have hbel := DataW.Whole.lt hW
  obtain ⟨p, q, hA0, hV, rfl, hfz, hnd⟩ := hW
  have hA : DataW.TrodAll enc Tryd.prog W 0 (fun _ => true) true Tryd.f4.params.toList args.toList ds p := hA0
  rw [Tryd.params4] at hA hval hsz
  obtain ⟨v0, vs0, d0, ds0, p0, q0, hargs, rfl, rfl, h0, r0⟩ := trodAll_cons hA
  obtain ⟨rfl, rfl, rfl⟩ := trodAll_nil r0
  obtain rfl : args = #[v0] := by cases args; simp_all
  obtain ⟨rfl, rfl⟩ := trodVars_none hV
  obtain ⟨n0, x0, R0, S0⟩ := entry1 tys (t := 35) (by decide) (hval 0 35 v0 rfl rfl) h0 (weigh hsz (j := 0) rfl rfl)
  obtain ⟨t0, rfl, z0⟩ := isRes n0 x0 S0
  clear hA0 hval0 hsz0 hsz
  refine (law_true (_root_.W.K.laws_FnExactResText t0 true (_root_.W.Q.lawResText t0 z0)) (.vcons R0 .vnil) (TabW.is (table hL))).mono fun e W' ⟨he, bel⟩ => ?_
  subst he
  exact ⟨_, rfl, _, _, _, [], _, [], hW', trodAll_mk1 (shut_bool Tryd.underlying4 _), (trodAll_cons_mk (Below.trod laid (by kernel_rfl) (of_decide_eq_true (by kernel_rfl)) h0 bel (fun x hx => hbel x (by simp [hx]))) trodAll_mk0), rfl, bel.frame _, fun h => by cases h⟩
theorem over : Rows.fnExactResTextRow.holds Tryd.pinned (OpenSpec.ofChange Rows.fnExactResTextSpec) :=
  OpenClaim.holds_of_wide 4 Tryd.f4 rfl rfl rfl rfl rfl rfl rfl ⟨rfl, rfl, rfl, rfl, rfl⟩ rfl rfl rfl rfl rfl (by kernel_rfl) Tryd.func4 (by kernel_rfl)
    (of_decide_eq_true (by kernel_rfl)) (by unfold Func.isWrapper; first | (rw [if_pos (by decide +kernel)]; kernel_rfl) | (rw [if_neg (by decide +kernel)]; exact ⟨rfl, rfl⟩))
    (fun os started H enc _ => lifted os started H enc)
theorem proved : Rows.FnExactResTextCardSaid :=
  Claim7.holds_tied_plain_at .later [] [.data, .data, .data] true (true, "83566c195b3b06c700aab7368be951ecd895d416f89a54959df0d6e3d8ce5612") false
    over (fun _ h => by cases h) (by kernel_rfl) (fun _ h => by cases h) fnExactResText_row_tie rfl ⟨rfl, rfl⟩ (by kernel_rfl) rfl
    (fun f fn hf hfn => by
      obtain rfl : f = 4 := Option.some.inj ((show Tryd.prog.funcNamed "loop.example/g00471/laws.FnExactResText" = some 4 by kernel_rfl).symm.trans hf) |>.symm
      obtain rfl : fn = Tryd.f4 := (Option.some.inj (Tryd.func4.symm.trans hfn)).symm
      exact ⟨by kernel_rfl, fun j t ht => by
        rw [Tryd.params4] at ht
        have h3 : t = 35 := by
          rcases j with _ | j
          · simpa using ht.symm
          · simp at ht
        subst h3
        exact (show Tryd.prog.wantsStandIn 35 = false by kernel_rfl)⟩)
    (by kernel_rfl)
end Go.Proofs.YtnhdobhfebiggaaDoor.fnExactResText
namespace Go.Proofs.YtnhdobhfebiggaaDoor
/-- The card, under a short name, for the claim. -/
theorem fnExactResText_holds : Rows.FnExactResTextCardSaid := fnExactResText.proved
end Go.Proofs.YtnhdobhfebiggaaDoor
